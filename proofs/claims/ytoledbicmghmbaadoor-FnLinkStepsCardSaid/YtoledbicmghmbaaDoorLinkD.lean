/- Links: which steps are possible; how many items are open; new links, in the words of the laws' generator. -/
import Derived.Test.YtoledbicmghmbaaDoorLinkM
import Derived.Test.YtoledbicmghmbaaDoorLinkN
import Derived.Test.YtoledbicmghmbaaDoorKern
namespace Go.Proofs.YtoledbicmghmbaaDoor
open Go.RowKit

def openR (l : LinkC) : Int := if linkOk l = true then (l.items.length : Int) - l.base else 0
def openC (l : LinkC) : Int := if linkOk l = true then 0 else 1
def kindOk (k : Int) : Bool := inR k 0 5
def canR (l : LinkC) (k : Int) : Bool := if linkOk l = true ∧ kindOk k = true then canL l k else false
def canC (l : LinkC) (k : Int) : Int := if linkOk l = true then (if kindOk k = true then 0 else 2) else 1
theorem LinkS_even {w : World} {h : LinkH} {l : LinkC} (hr : RdAll w (LinkS h l)) : l.packets.length = h.packets.n * 2 := hr.tail.head.len
theorem LinkS_items {w : World} {h : LinkH} {l : LinkC} (hr : RdAll w (LinkS h l)) : l.items.length = h.items.n := hr.head.len
theorem LinkS_acks {w : World} {h : LinkH} {l : LinkC} (hr : RdAll w (LinkS h l)) : l.acks.length = h.acks.n := hr.tail.tail.head.len
theorem LinkS_got {w : World} {h : LinkH} {l : LinkC} (hr : RdAll w (LinkS h l)) : l.got.length = h.got.n := hr.tail.tail.tail.head.len

set_option maxHeartbeats 1000000 in
theorem specOpenItems'_any (h : LinkH) (l : LinkC) (w : World) (ok : LinkOk h) (hr : RdAll w (LinkS h l)) :
    Calls Tryd.prog 33 #[LinkV h l] w fun e w' => e = .returned (.tuple #[.int .i64 (openR l), .int .i64 (openC l)]) ∧ Below w.heap.size w w' := by
  have HL := Lib.hid (LinkS_items hr)
  have HE := Lib.hid (LinkS_even hr)
  unfold LinkV
  go_enter Tryd.func33, Tryd.ntmps33
  go_wp2_with fail
  refine (specIsLink'_any h l _ ok (hr.below (by (repeat (first | (with_reducible assumption) | (with_reducible exact Below.refl _ _) | (with_reducible refine Below.drew ?_) | (with_reducible refine Below.drewN ?_ _) | (with_reducible refine Below.setCell ?_ ?_ _) | (with_reducible refine Below.alloc ?_ ?_ _) | assumption)); all_goals (first | omega | (simp; done) | (simp; omega))))).mono ?_
  rintro e w1 ⟨rfl, b1⟩
  have hb1 : Below w.heap.size w w1 := (show Below w.heap.size w _ from (by (repeat (first | (with_reducible assumption) | (with_reducible exact Below.refl _ _) | (with_reducible refine Below.drew ?_) | (with_reducible refine Below.drewN ?_ _) | (with_reducible refine Below.setCell ?_ ?_ _) | (with_reducible refine Below.alloc ?_ ?_ _) | assumption)); all_goals (first | omega | (simp; done) | (simp; omega)))).trans (b1.mono (by first | omega | (simp; done) | (simp; omega)))
  have c1 := fun o => ((Blk.newN w 48 _ rfl).below b1 (by first | omega | (simp; done) | (simp; omega))).cell o
  rcases Bool.eq_false_or_eq_true (linkOk l) with h0 | h0
  · have K := LOk.of h0 (by rw [HE.out]; omega)
    have k0 := K.base0; have k1 := K.base1; have k2 := K.n
    rw [HL.out] at k1 k2
    clear K
    have HO : Hid (openR l = (h.items.n : Int) - l.base ∧ openC l = 0) := by unfold Hid openR openC; rw [HL.out]; simp [h0]
    go_wp2
    go_ret2
    exact ⟨by rw [HO.out.1, HO.out.2]; rfl, hb1⟩
  · have HO : Hid (openR l = 0 ∧ openC l = 1) := by unfold Hid openR openC; simp [h0]
    go_wp2
    go_ret2
    exact ⟨by rw [HO.out.1, HO.out.2]; rfl, hb1⟩

set_option maxHeartbeats 1000000 in
theorem implOpenItems'_any (h : LinkH) (l : LinkC) (w : World) (ok : LinkOk h) (hr : RdAll w (LinkS h l)) :
    Calls Tryd.prog 32 #[LinkV h l] w fun e w' => e = .returned (.tuple #[.int .i64 (openR l), .int .i64 (openC l)]) ∧ Below w.heap.size w w' := by
  have HL := Lib.hid (LinkS_items hr)
  have HE := Lib.hid (LinkS_even hr)
  unfold LinkV
  go_enter Tryd.func32, Tryd.ntmps32
  go_wp2_with fail
  refine (implIsLink'_any h l _ ok (hr.below (by (repeat (first | (with_reducible assumption) | (with_reducible exact Below.refl _ _) | (with_reducible refine Below.drew ?_) | (with_reducible refine Below.drewN ?_ _) | (with_reducible refine Below.setCell ?_ ?_ _) | (with_reducible refine Below.alloc ?_ ?_ _) | assumption)); all_goals (first | omega | (simp; done) | (simp; omega))))).mono ?_
  rintro e w1 ⟨rfl, b1⟩
  have hb1 : Below w.heap.size w w1 := (show Below w.heap.size w _ from (by (repeat (first | (with_reducible assumption) | (with_reducible exact Below.refl _ _) | (with_reducible refine Below.drew ?_) | (with_reducible refine Below.drewN ?_ _) | (with_reducible refine Below.setCell ?_ ?_ _) | (with_reducible refine Below.alloc ?_ ?_ _) | assumption)); all_goals (first | omega | (simp; done) | (simp; omega)))).trans (b1.mono (by first | omega | (simp; done) | (simp; omega)))
  have c1 := fun o => ((Blk.newN w 48 _ rfl).below b1 (by first | omega | (simp; done) | (simp; omega))).cell o
  rcases Bool.eq_false_or_eq_true (linkOk l) with h0 | h0
  · have K := LOk.of h0 (by rw [HE.out]; omega)
    have k0 := K.base0; have k1 := K.base1; have k2 := K.n
    rw [HL.out] at k1 k2
    clear K
    have HO : Hid (openR l = (h.items.n : Int) - l.base ∧ openC l = 0) := by unfold Hid openR openC; rw [HL.out]; simp [h0]
    go_wp2_with fail
    go_quiet ((go_at_call 75; exact q_left (length_any _ _ _ _ (by omega))))
    go_wp2
    go_ret2
    exact ⟨by rw [HO.out.1, HO.out.2]; rfl, Below.drewN hb1 _⟩
  · have HO : Hid (openR l = 0 ∧ openC l = 1) := by unfold Hid openR openC; simp [h0]
    go_wp2
    go_ret2
    exact ⟨by rw [HO.out.1, HO.out.2]; rfl, hb1⟩

theorem six {k : Int} (hk : inR k 0 5 = true) : k = 0 ∨ k = 1 ∨ k = 2 ∨ k = 3 ∨ k = 4 ∨ k = 5 := by have := inR_true hk; omega

set_option maxHeartbeats 4000000 in
theorem l29Can_any (h : LinkH) (l : LinkC) (k : Int) (w : World) (ok : LinkOk h) (K : LOk l) (hk : inR k 0 5 = true) (hr : RdAll w (LinkS h l)) :
    Calls Tryd.prog 86 #[LinkV h l, .int .i64 k] w fun e w' => e = .returned (.bool (canL l k)) ∧ Below w.heap.size w w' := by
  have HL := Lib.hid (LinkS_items hr)
  have HE := Lib.hid (LinkS_even hr)
  have HA := Lib.hid (LinkS_acks hr)
  have k0 := K.base0; have k1 := K.base1; have k2 := K.n
  rw [HL.out] at k1 k2
  obtain ⟨o0, o3, o4, o5⟩ := ok
  clear K
  obtain ⟨⟨A0, n0, c0⟩, ⟨A3, n3, c3⟩, ⟨A4, n4, c4⟩, ⟨A5, n5, c5⟩⟩ := h
  obtain ⟨l0, x1, x2, l3, l4, l5⟩ := l
  clear hr
  unfold LinkV
  simp only at *
  have hb0 : Below w.heap.size w (w.alloc (.cells #[.slice A0 n0 c0, .int .i64 x1, .int .i64 x2, .slice A3 n3 c3, .slice A4 n4 c4, .slice A5 n5 c5] 48)) := (Below.refl _ _).alloc (Nat.le_refl _) _
  rcases six hk with rfl | rfl | rfl | rfl | rfl | rfl
  · have HO : Hid (canL ⟨l0, x1, x2, l3, l4, l5⟩ 0 = (decide (x2 < x1 + 3) && decide (x2 < (n0 : Int)) && decide ((n3 : Int) < 12))) := by
      unfold Hid canL
      simp only [HL.out, HE.out, if_true]
      congr 1
      rw [decide_eq_decide]; omega
    by_cases c1 : x2 < x1 + 3
    · by_cases c2 : x2 < (n0 : Int)
      · by_cases c3 : (n3 : Int) < 12
        all_goals
          go_enter Tryd.func86, Tryd.ntmps86
          go_wp2
          go_ret
          exact ⟨ret_bool (by rw [HO.out]; try simp; try omega), hb0⟩
      · go_enter Tryd.func86, Tryd.ntmps86
        go_wp2
        go_ret
        exact ⟨ret_bool (by rw [HO.out]; try simp; try omega), hb0⟩
    · go_enter Tryd.func86, Tryd.ntmps86
      go_wp2
      go_ret
      exact ⟨ret_bool (by rw [HO.out]; try simp; try omega), hb0⟩
  · have HO : Hid (canL ⟨l0, x1, x2, l3, l4, l5⟩ 1 = decide (0 < (n3 : Int))) := by
      unfold Hid canL
      simp only [HE.out]
      simp
      omega
    go_enter Tryd.func86, Tryd.ntmps86
    go_wp2
    go_ret
    exact ⟨ret_bool (by rw [HO.out]; try exact decide_eq_decide.2 (by omega)), hb0⟩
  · have HO : Hid (canL ⟨l0, x1, x2, l3, l4, l5⟩ 2 = decide (0 < (n3 : Int))) := by
      unfold Hid canL
      simp only [HE.out]
      simp
      omega
    go_enter Tryd.func86, Tryd.ntmps86
    go_wp2
    go_ret
    exact ⟨ret_bool (by rw [HO.out]; try exact decide_eq_decide.2 (by omega)), hb0⟩
  · have HO : Hid (canL ⟨l0, x1, x2, l3, l4, l5⟩ 3 = decide (0 < (n4 : Int))) := by
      unfold Hid canL
      simp only [HA.out]
      simp
    go_enter Tryd.func86, Tryd.ntmps86
    go_wp2
    go_ret
    exact ⟨ret_bool (by rw [HO.out]; try exact decide_eq_decide.2 (by omega)), hb0⟩
  · have HO : Hid (canL ⟨l0, x1, x2, l3, l4, l5⟩ 4 = decide (0 < (n4 : Int))) := by
      unfold Hid canL
      simp only [HA.out]
      simp
    go_enter Tryd.func86, Tryd.ntmps86
    go_wp2
    go_ret
    exact ⟨ret_bool (by rw [HO.out]; try exact decide_eq_decide.2 (by omega)), hb0⟩
  · go_enter Tryd.func86, Tryd.ntmps86
    go_wp2
    go_ret
    exact ⟨rfl, hb0⟩
set_option maxHeartbeats 4000000 in
theorem can_any (h : LinkH) (l : LinkC) (k : Int) (w : World) (ok : LinkOk h) (K : LOk l) (hk : inR k 0 5 = true) (hr : RdAll w (LinkS h l)) :
    Calls Tryd.prog 81 #[LinkV h l, .int .i64 k] w fun e w' => e = .returned (.bool (canL l k)) ∧ Below w.heap.size w w' := by
  have HL := Lib.hid (LinkS_items hr)
  have HE := Lib.hid (LinkS_even hr)
  have HA := Lib.hid (LinkS_acks hr)
  have k0 := K.base0; have k1 := K.base1; have k2 := K.n
  rw [HL.out] at k1 k2
  obtain ⟨o0, o3, o4, o5⟩ := ok
  clear K
  obtain ⟨⟨A0, n0, c0⟩, ⟨A3, n3, c3⟩, ⟨A4, n4, c4⟩, ⟨A5, n5, c5⟩⟩ := h
  obtain ⟨l0, x1, x2, l3, l4, l5⟩ := l
  clear hr
  unfold LinkV
  simp only at *
  have hb0 : Below w.heap.size w (w.alloc (.cells #[.slice A0 n0 c0, .int .i64 x1, .int .i64 x2, .slice A3 n3 c3, .slice A4 n4 c4, .slice A5 n5 c5] 48)) := (Below.refl _ _).alloc (Nat.le_refl _) _
  rcases six hk with rfl | rfl | rfl | rfl | rfl | rfl
  · have HO : Hid (canL ⟨l0, x1, x2, l3, l4, l5⟩ 0 = (decide (x2 < x1 + 3) && decide (x2 < (n0 : Int)) && decide ((n3 : Int) < 12))) := by
      unfold Hid canL
      simp only [HL.out, HE.out, if_true]
      congr 1
      rw [decide_eq_decide]; omega
    by_cases c1 : x2 < x1 + 3
    · by_cases c2 : x2 < (n0 : Int)
      · by_cases c3 : (n3 : Int) < 12
        all_goals
          go_enter Tryd.func81, Tryd.ntmps81
          go_wp2_with fail
          go_quiet ((go_at_call 75; exact q_left (length_any _ _ _ _ (by omega))))
          go_wp2
          go_ret
          exact ⟨ret_bool (by rw [HO.out]; try simp; try omega), Below.drewN hb0 _⟩
      · have d2 : decide (x2 < (n0 : Int)) = false := decide_eq_false c2
        go_enter Tryd.func81, Tryd.ntmps81
        go_wp2_with fail
        go_quiet ((go_at_call 75; exact q_left (length_any _ _ _ _ (by omega))))
        go_wp2
        go_ret
        exact ⟨ret_bool (by rw [HO.out]; try simp; try omega), Below.drewN hb0 _⟩
    · have d1 : decide (x2 < x1 + 3) = false := decide_eq_false c1
      go_enter Tryd.func81, Tryd.ntmps81
      go_wp2_with fail
      go_quiet ((go_at_call 75; exact q_left (length_any _ _ _ _ (by omega))))
      go_wp2
      go_ret
      exact ⟨ret_bool (by rw [HO.out]; try simp; try omega), Below.drewN hb0 _⟩
  · have HO : Hid (canL ⟨l0, x1, x2, l3, l4, l5⟩ 1 = decide (0 < (n3 : Int))) := by
      unfold Hid canL
      simp only [HE.out]
      simp
      omega
    go_enter Tryd.func81, Tryd.ntmps81
    go_wp2
    go_ret
    exact ⟨ret_bool (by rw [HO.out]; try exact decide_eq_decide.2 (by omega)), hb0⟩
  · have HO : Hid (canL ⟨l0, x1, x2, l3, l4, l5⟩ 2 = decide (0 < (n3 : Int))) := by
      unfold Hid canL
      simp only [HE.out]
      simp
      omega
    go_enter Tryd.func81, Tryd.ntmps81
    go_wp2
    go_ret
    exact ⟨ret_bool (by rw [HO.out]; try exact decide_eq_decide.2 (by omega)), hb0⟩
  · have HO : Hid (canL ⟨l0, x1, x2, l3, l4, l5⟩ 3 = decide (0 < (n4 : Int))) := by
      unfold Hid canL
      simp only [HA.out]
      simp
    go_enter Tryd.func81, Tryd.ntmps81
    go_wp2
    go_ret
    exact ⟨ret_bool (by rw [HO.out]; try exact decide_eq_decide.2 (by omega)), hb0⟩
  · have HO : Hid (canL ⟨l0, x1, x2, l3, l4, l5⟩ 4 = decide (0 < (n4 : Int))) := by
      unfold Hid canL
      simp only [HA.out]
      simp
    go_enter Tryd.func81, Tryd.ntmps81
    go_wp2
    go_ret
    exact ⟨ret_bool (by rw [HO.out]; try exact decide_eq_decide.2 (by omega)), hb0⟩
  · go_enter Tryd.func81, Tryd.ntmps81
    go_wp2
    go_ret
    exact ⟨rfl, hb0⟩

set_option maxHeartbeats 400000 in
theorem l29Kind_any (k : Int) (w : World) :
    Calls Tryd.prog 85 #[.int .i64 k] w fun e w' => e = .returned (.bool (kindOk k)) ∧ w = w' := by
  go_enter Tryd.func85, Tryd.ntmps85
  go_wp2_with (go_at_call 95; refine (l01In_any _ _ _ _).mono ?_; rintro e w' ⟨rfl, rfl⟩)
  go_ret
  exact ⟨rfl, rfl⟩
set_option maxHeartbeats 400000 in
theorem isStepKind_any (k : Int) (w : World) :
    Calls Tryd.prog 129 #[.int .i64 k] w fun e w' => e = .returned (.bool (kindOk k)) ∧ w = w' := by
  go_enter Tryd.func129, Tryd.ntmps129
  go_wp2_with (go_at_call 91; refine (within_any _ _ _ _).mono ?_; rintro e w' ⟨rfl, rfl⟩)
  go_ret
  exact ⟨rfl, rfl⟩

set_option maxHeartbeats 1000000 in
theorem stepCode_any (h : LinkH) (l : LinkC) (k : Int) (w : World) (ok : LinkOk h) (hr : RdAll w (LinkS h l)) :
    Calls Tryd.prog 80 #[LinkV h l, .int .i64 k] w fun e w' => e = .returned (.int .i64 (canC l k)) ∧ Below w.heap.size w w' := by
  unfold LinkV
  go_enter Tryd.func80, Tryd.ntmps80
  go_wp2_with fail
  refine (implIsLink'_any h l _ ok (hr.below (by (repeat (first | (with_reducible assumption) | (with_reducible exact Below.refl _ _) | (with_reducible refine Below.drew ?_) | (with_reducible refine Below.drewN ?_ _) | (with_reducible refine Below.setCell ?_ ?_ _) | (with_reducible refine Below.alloc ?_ ?_ _) | assumption)); all_goals (first | omega | (simp; done) | (simp; omega))))).mono ?_
  rintro e w1 ⟨rfl, b1⟩
  have hb1 : Below w.heap.size w w1 := (show Below w.heap.size w _ from (by (repeat (first | (with_reducible assumption) | (with_reducible exact Below.refl _ _) | (with_reducible refine Below.drew ?_) | (with_reducible refine Below.drewN ?_ _) | (with_reducible refine Below.setCell ?_ ?_ _) | (with_reducible refine Below.alloc ?_ ?_ _) | assumption)); all_goals (first | omega | (simp; done) | (simp; omega)))).trans (b1.mono (by first | omega | (simp; done) | (simp; omega)))
  rcases Bool.eq_false_or_eq_true (linkOk l) with h0 | h0
  · go_wp2_with fail
    refine (isStepKind_any _ _).mono ?_
    rintro e w' ⟨rfl, rfl⟩
    rcases Bool.eq_false_or_eq_true (kindOk k) with h1 | h1
    · have HO : Hid (canC l k = 0) := by unfold Hid canC; simp [h0, h1]
      go_wp2
      go_ret
      exact ⟨by rw [HO.out]; rfl, hb1⟩
    · have HO : Hid (canC l k = 2) := by unfold Hid canC; simp [h0, h1]
      go_wp2
      go_ret
      exact ⟨by rw [HO.out]; rfl, hb1⟩
  · have HO : Hid (canC l k = 1) := by unfold Hid canC; simp [h0]
    go_wp2
    go_ret
    exact ⟨by rw [HO.out]; rfl, hb1⟩

set_option maxHeartbeats 1000000 in
theorem implCanStep'_any (h : LinkH) (l : LinkC) (k : Int) (w : World) (ok : LinkOk h) (hr : RdAll w (LinkS h l)) :
    Calls Tryd.prog 28 #[LinkV h l, .int .i64 k] w fun e w' => e = .returned (.tuple #[.bool (canR l k), .int .i64 (canC l k)]) ∧ Below w.heap.size w w' := by
  have HE := Lib.hid (LinkS_even hr)
  unfold LinkV
  go_enter Tryd.func28, Tryd.ntmps28
  go_wp2_with fail
  refine (stepCode_any h l k _ ok (hr.below (by (repeat (first | (with_reducible assumption) | (with_reducible exact Below.refl _ _) | (with_reducible refine Below.drew ?_) | (with_reducible refine Below.drewN ?_ _) | (with_reducible refine Below.setCell ?_ ?_ _) | (with_reducible refine Below.alloc ?_ ?_ _) | assumption)); all_goals (first | omega | (simp; done) | (simp; omega))))).mono ?_
  rintro e w1 ⟨rfl, b1⟩
  have hb1 : Below w.heap.size w w1 := (show Below w.heap.size w _ from (by (repeat (first | (with_reducible assumption) | (with_reducible exact Below.refl _ _) | (with_reducible refine Below.drew ?_) | (with_reducible refine Below.drewN ?_ _) | (with_reducible refine Below.setCell ?_ ?_ _) | (with_reducible refine Below.alloc ?_ ?_ _) | assumption)); all_goals (first | omega | (simp; done) | (simp; omega)))).trans (b1.mono (by first | omega | (simp; done) | (simp; omega)))
  have c1 := fun o => ((Blk.newN w 48 _ rfl).below b1 (by first | omega | (simp; done) | (simp; omega))).cell o
  rcases Bool.eq_false_or_eq_true (linkOk l) with h0 | h0
  · rcases Bool.eq_false_or_eq_true (kindOk k) with h1 | h1
    · have HO : Hid (canR l k = canL l k) := by unfold Hid canR; simp [h0, h1]
      have HC : Hid (canC l k = 0) := by unfold Hid canC; simp [h0, h1]
      have HK := LOk.of h0 (by rw [HE.out]; omega)
      rw [HC.out]
      go_wp2_with fail
      refine (can_any h l k _ ok HK h1 (hr.below hb1)).mono ?_
      rintro e w2 ⟨rfl, b2⟩
      have hb2 := hb1.trans (b2.mono hb1.size)
      clear HK
      go_wp2
      go_ret2
      exact ⟨by rw [HO.out, HC.out]; rfl, hb2⟩
    · have HO : Hid (canR l k = false) := by unfold Hid canR; simp [h1]
      have HC : Hid (canC l k = 2) := by unfold Hid canC; simp [h0, h1]
      rw [HC.out]
      go_wp2
      go_ret2
      exact ⟨by rw [HO.out, HC.out]; rfl, hb1⟩
  · have HO : Hid (canR l k = false) := by unfold Hid canR; simp [h0]
    have HC : Hid (canC l k = 1) := by unfold Hid canC; simp [h0]
    rw [HC.out]
    go_wp2
    go_ret2
    exact ⟨by rw [HO.out, HC.out]; rfl, hb1⟩

set_option maxHeartbeats 1000000 in
theorem specCanStep'_any (h : LinkH) (l : LinkC) (k : Int) (w : World) (ok : LinkOk h) (hr : RdAll w (LinkS h l)) :
    Calls Tryd.prog 29 #[LinkV h l, .int .i64 k] w fun e w' => e = .returned (.tuple #[.bool (canR l k), .int .i64 (canC l k)]) ∧ Below w.heap.size w w' := by
  have HE := Lib.hid (LinkS_even hr)
  unfold LinkV
  go_enter Tryd.func29, Tryd.ntmps29
  go_wp2_with fail
  refine (specIsLink'_any h l _ ok (hr.below (by (repeat (first | (with_reducible assumption) | (with_reducible exact Below.refl _ _) | (with_reducible refine Below.drew ?_) | (with_reducible refine Below.drewN ?_ _) | (with_reducible refine Below.setCell ?_ ?_ _) | (with_reducible refine Below.alloc ?_ ?_ _) | assumption)); all_goals (first | omega | (simp; done) | (simp; omega))))).mono ?_
  rintro e w1 ⟨rfl, b1⟩
  have hb1 : Below w.heap.size w w1 := (show Below w.heap.size w _ from (by (repeat (first | (with_reducible assumption) | (with_reducible exact Below.refl _ _) | (with_reducible refine Below.drew ?_) | (with_reducible refine Below.drewN ?_ _) | (with_reducible refine Below.setCell ?_ ?_ _) | (with_reducible refine Below.alloc ?_ ?_ _) | assumption)); all_goals (first | omega | (simp; done) | (simp; omega)))).trans (b1.mono (by first | omega | (simp; done) | (simp; omega)))
  have c1 := fun o => ((Blk.newN w 48 _ rfl).below b1 (by first | omega | (simp; done) | (simp; omega))).cell o
  rcases Bool.eq_false_or_eq_true (linkOk l) with h0 | h0
  · go_wp2_with fail
    refine (l29Kind_any _ _).mono ?_
    rintro e w' ⟨rfl, rfl⟩
    rcases Bool.eq_false_or_eq_true (kindOk k) with h1 | h1
    · have HO : Hid (canR l k = canL l k ∧ canC l k = 0) := by unfold Hid canR canC; simp [h0, h1]
      have HK := LOk.of h0 (by rw [HE.out]; omega)
      go_wp2_with fail
      refine (l29Can_any h l k _ ok HK h1 (hr.below hb1)).mono ?_
      rintro e w2 ⟨rfl, b2⟩
      have hb2 := hb1.trans (b2.mono hb1.size)
      clear HK
      go_wp2
      go_ret2
      exact ⟨by rw [HO.out.1, HO.out.2]; rfl, hb2⟩
    · have HO : Hid (canR l k = false ∧ canC l k = 2) := by unfold Hid canR canC; simp [h0, h1]
      go_wp2
      go_ret2
      exact ⟨by rw [HO.out.1, HO.out.2]; rfl, hb1⟩
  · have HO : Hid (canR l k = false ∧ canC l k = 1) := by unfold Hid canR canC; simp [h0]
    go_wp2
    go_ret2
    exact ⟨by rw [HO.out.1, HO.out.2]; rfl, hb1⟩
end Go.Proofs.YtoledbicmghmbaaDoor
