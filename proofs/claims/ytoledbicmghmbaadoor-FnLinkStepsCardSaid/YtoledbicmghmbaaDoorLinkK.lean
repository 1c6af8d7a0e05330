/- Links: a step: spec.StepLink and impl.StepLink compute the same. Condition: lists of at most 1048576 numbers. -/
import Derived.Test.YtoledbicmghmbaaDoorLinkI
import Derived.Test.YtoledbicmghmbaaDoorLinkJ
import Derived.Test.YtoledbicmghmbaaDoorLinkH
namespace Go.Proofs.YtoledbicmghmbaaDoor
open Go.RowKit

set_option maxRecDepth 100000 in
set_option maxHeartbeats 2000000 in
theorem l29Step1_any (h : LinkH) (l : LinkC) (w : World) (ok : LinkOk h) (K : LOk l) (hc : canL l 1 = true) (hr : RdAll w (LinkS h l)) :
    Calls Tryd.prog 84 #[LinkV h l, .int .i64 1] w fun e w' => ∃ k, e = .returned (LinkV k (stepL l 1)) ∧ LinkOwn w' w.heap.size k (stepL l 1) ∧ Below w.heap.size w w' := by
  have hp : 0 < l.packets.length := by unfold canL at hc; simp at hc; exact hc
  unfold LinkV
  go_enter Tryd.func84, Tryd.ntmps84
  go_wp2_with fail
  refine (l29Own_any h l _ ok (hr.below (by (repeat (first | (with_reducible assumption) | (with_reducible exact Below.refl _ _) | (with_reducible refine Below.drew ?_) | (with_reducible refine Below.drewN ?_ _) | (with_reducible refine Below.setCell ?_ ?_ _) | (with_reducible refine Below.alloc ?_ ?_ _) | assumption)); all_goals (first | omega | (simp; done) | (simp; omega))))).mono ?_
  rintro e w1 ⟨k, he, -, b1⟩
  unfold LinkV at he
  subst he
  have hw1 : Below w.heap.size w w1 := (show Below w.heap.size w _ from (by (repeat (first | (with_reducible assumption) | (with_reducible exact Below.refl _ _) | (with_reducible refine Below.drew ?_) | (with_reducible refine Below.drewN ?_ _) | (with_reducible refine Below.setCell ?_ ?_ _) | (with_reducible refine Below.alloc ?_ ?_ _) | assumption)); all_goals (first | omega | (simp; done) | (simp; omega)))).trans (b1.mono (by first | omega | (simp; done) | (simp; omega)))
  have KB : Blk w1 w.heap.size 48 #[.slice h.items.A h.items.n h.items.c, .int .i64 l.base, .int .i64 l.next, .slice h.packets.A h.packets.n h.packets.c, .slice h.acks.A h.acks.n h.acks.c, .slice h.got.A h.got.n h.got.c] := Blk.below ((Blk.newN _ _ _ rfl).alloc _) b1 (by first | omega | (simp; done) | (simp; omega))
  have KR : Blk w1 (w.heap.size + 1) 48 #[.slice none 0 0, .int .i64 0, .int .i64 0, .slice none 0 0, .slice none 0 0, .slice none 0 0] := Blk.below (Blk.newN _ _ _ (by simp)) b1 (by first | omega | (simp; done) | (simp; omega))
  have z1 : w.heap.size + 2 ≤ w1.heap.size := Nat.le_trans (by first | omega | (simp; done) | (simp; omega)) b1.size
  clear b1
  have cB := fun o => KB.cell o
  have qB : w.heap.size < w1.heap.size := by omega
  have qR : w.heap.size + 1 < w1.heap.size := by omega
  go_wp2_with fail
  have BB : Below w1.heap.size w1 (w1.alloc (.cells #[.slice k.items.A k.items.n k.items.c, .int .i64 l.base, .int .i64 l.next, .slice k.packets.A k.packets.n k.packets.c, .slice k.acks.A k.acks.n k.acks.c, .slice k.got.A k.got.n k.got.c] 48)) := (Below.refl _ _).alloc (Nat.le_refl _) _
  refine (l29Arrive_any h l _ ok K hp (hr.below (hw1.trans (BB.mono hw1.size)))).mono ?_
  rintro e w2 ⟨k2, he, ow, b2⟩
  unfold LinkV at he
  subst he
  have b3 : Below w1.heap.size w1 w2 := BB.trans (b2.mono BB.size)
  have KR2 := KR.below b3 qR
  have hw2 := hw1.trans (b3.mono hw1.size)
  have z2 : w.heap.size + 2 ≤ w2.heap.size := Nat.le_trans z1 b3.size
  have OW := ow.mono (show w.heap.size + 2 ≤ _ from (by have := BB.size; omega))
  clear ow b2 b3 BB cB KB KR hw1
  have cR := fun o => KR2.cell o
  have fR := fun o => KR2.frozen o
  have qR2 := KR2.lt
  go_wp2
  refine bodyPost_ret (v := .agg #[.slice k2.items.A k2.items.n k2.items.c, .int .i64 (stepL l 1).base, .int .i64 (stepL l 1).next, .slice k2.packets.A k2.packets.n k2.packets.c, .slice k2.acks.A k2.acks.n k2.acks.c, .slice k2.got.A k2.got.n k2.got.c]) (by simp [results, Tryd.results84, go_sem, cR]) rfl ⟨k2, rfl, ?_, (by (repeat (first | (with_reducible assumption) | (with_reducible exact Below.refl _ _) | (with_reducible refine Below.drew ?_) | (with_reducible refine Below.drewN ?_ _) | (with_reducible refine Below.setCell ?_ ?_ _) | (with_reducible refine Below.alloc ?_ ?_ _) | assumption)); all_goals (first | omega | (simp; done) | (simp; omega)))⟩
  exact (OW.above (D := w.heap.size + 2) (by repeat (first | (refine Above.setCell ?_ (by first | omega | (simp; done) | (simp; omega)) _) | exact Above.refl _ _)) (Nat.le_refl _)).mono (by first | omega | (simp; done) | (simp; omega))
theorem l29Step_any (h : LinkH) (l : LinkC) (k : Int) (w : World) (ok : LinkOk h) (K : LOk l) (hk : inR k 0 5 = true) (hc : canL l k = true) (hr : RdAll w (LinkS h l)) :
    Calls Tryd.prog 84 #[LinkV h l, .int .i64 k] w fun e w' => ∃ k', e = .returned (LinkV k' (stepL l k)) ∧ LinkOwn w' w.heap.size k' (stepL l k) ∧ Below w.heap.size w w' := by
  rcases six hk with rfl | rfl | rfl | rfl | rfl | rfl
  · exact l29Step0_any h l w ok K hc hr
  · exact l29Step1_any h l w ok K hc hr
  · exact l29Step2_any h l w ok K hc hr
  · exact l29Step3_any h l w ok K hc hr
  · exact l29Step4_any h l w ok K hc hr
  · exact l29Step5_any h l w ok K hc hr

def stepLR (l : LinkC) (k : Int) : LinkC := if linkOk l = true ∧ kindOk k = true ∧ canL l k = true then stepL l k else zeroLink
def stepLC (l : LinkC) (k : Int) : Int := if linkOk l = true then (if kindOk k = true then (if canL l k = true then 0 else 5) else 2) else 1
theorem step_bad {l : LinkC} {k : Int} (h : linkOk l = false) : Hid (stepLR l k = zeroLink ∧ stepLC l k = 1 ∧ canR l k = false ∧ canC l k = 1) := by unfold Hid stepLR stepLC canR canC; simp [h]
theorem step_kind {l : LinkC} {k : Int} (h : linkOk l = true) (h2 : kindOk k = false) : Hid (stepLR l k = zeroLink ∧ stepLC l k = 2 ∧ canR l k = false ∧ canC l k = 2) := by unfold Hid stepLR stepLC canR canC; simp [h, h2]
theorem step_not {l : LinkC} {k : Int} (h : linkOk l = true) (h2 : kindOk k = true) (h3 : canL l k = false) : Hid (stepLR l k = zeroLink ∧ stepLC l k = 5 ∧ canR l k = false ∧ canC l k = 0) := by unfold Hid stepLR stepLC canR canC; simp [h, h2, h3]
theorem step_yes {l : LinkC} {k : Int} (h : linkOk l = true) (h2 : kindOk k = true) (h3 : canL l k = true) : Hid (stepLR l k = stepL l k ∧ stepLC l k = 0 ∧ canR l k = true ∧ canC l k = 0) := by unfold Hid stepLR stepLC canR canC; simp [h, h2, h3]
theorem retLink_own {w w' : World} {k : LinkH} {l : LinkC} {code : Int} (o : LinkOwn w' w.heap.size k l) (K : LOk l) (b : Below w.heap.size w w') : RetLink l code w (.returned (.tuple #[LinkV k l, .int .i64 code])) w' := by
  refine ⟨k, rfl, ?_, o.rd, o.wr, o.sp, b⟩
  have h0 := o.items.rd1.len; have h1 := o.packets.rd.len; have h2 := o.acks.rd1.len; have h3 := o.got.rd1.len
  have k0 := K.n; have k1 := K.np; have k2 := K.na; have k3 := K.ng
  exact ⟨by omega, by omega, by omega, by omega⟩
theorem retLink_zero {w w' : World} {code : Int} (b : Below w.heap.size w w') : RetLink zeroLink code w (.returned (.tuple #[.agg #[.slice none 0 0, .int .i64 0, .int .i64 0, .slice none 0 0, .slice none 0 0, .slice none 0 0], .int .i64 code])) w' :=
  newLink_ret code (by omega) (Rd.nil _ _) (Wr.nil _ _ _) b

set_option maxRecDepth 100000 in
set_option maxHeartbeats 2000000 in
theorem specStepLink'_any (h : LinkH) (l : LinkC) (k : Int) (w : World) (ok : LinkOk h) (hr : RdAll w (LinkS h l)) :
    Calls Tryd.prog 27 #[LinkV h l, .int .i64 k] w (RetLink (stepLR l k) (stepLC l k) w) := by
  have HE := Lib.hid (LinkS_even hr)
  unfold LinkV
  go_enter Tryd.func27, Tryd.ntmps27
  go_wp2_with fail
  refine (specCanStep'_any h l k _ ok (hr.below (by (repeat (first | (with_reducible assumption) | (with_reducible exact Below.refl _ _) | (with_reducible refine Below.drew ?_) | (with_reducible refine Below.drewN ?_ _) | (with_reducible refine Below.setCell ?_ ?_ _) | (with_reducible refine Below.alloc ?_ ?_ _) | assumption)); all_goals (first | omega | (simp; done) | (simp; omega))))).mono ?_
  rintro e w1 ⟨rfl, b1⟩
  have hw1 : Below w.heap.size w w1 := (show Below w.heap.size w _ from (by (repeat (first | (with_reducible assumption) | (with_reducible exact Below.refl _ _) | (with_reducible refine Below.drew ?_) | (with_reducible refine Below.drewN ?_ _) | (with_reducible refine Below.setCell ?_ ?_ _) | (with_reducible refine Below.alloc ?_ ?_ _) | assumption)); all_goals (first | omega | (simp; done) | (simp; omega)))).trans (b1.mono (by first | omega | (simp; done) | (simp; omega)))
  have KB : Blk w1 w.heap.size 48 #[.slice h.items.A h.items.n h.items.c, .int .i64 l.base, .int .i64 l.next, .slice h.packets.A h.packets.n h.packets.c, .slice h.acks.A h.acks.n h.acks.c, .slice h.got.A h.got.n h.got.c] := Blk.below ((Blk.newN _ _ _ rfl).alloc _) b1 (by first | omega | (simp; done) | (simp; omega))
  have KR : Blk w1 (w.heap.size + 1) 48 #[.slice none 0 0, .int .i64 0, .int .i64 0, .slice none 0 0, .slice none 0 0, .slice none 0 0] := Blk.below (Blk.newN _ _ _ (by simp)) b1 (by first | omega | (simp; done) | (simp; omega))
  have z1 : w.heap.size + 2 ≤ w1.heap.size := Nat.le_trans (by first | omega | (simp; done) | (simp; omega)) b1.size
  clear b1
  have cB := fun o => KB.cell o
  have cR := fun o => KR.cell o
  have fR := fun o => KR.frozen o
  have qB : w.heap.size < w1.heap.size := by omega
  have qR : w.heap.size + 1 < w1.heap.size := by omega
  by_cases hno : linkOk l = true ∧ kindOk k = true ∧ canL l k = true
  case neg =>
    have HZ : ∃ c, stepLR l k = zeroLink ∧ stepLC l k = c ∧ canR l k = false ∧ ((canC l k = 0 ∧ c = 5) ∨ (canC l k = c ∧ (c = 1 ∨ c = 2))) := by
      rcases Bool.eq_false_or_eq_true (linkOk l) with h0 | h0
      · rcases Bool.eq_false_or_eq_true (kindOk k) with h1 | h1
        · rcases Bool.eq_false_or_eq_true (canL l k) with h2 | h2
          · exact absurd ⟨h0, h1, h2⟩ hno
          · exact ⟨5, (step_not h0 h1 h2).out.1, (step_not h0 h1 h2).out.2.1, (step_not h0 h1 h2).out.2.2.1, .inl ⟨(step_not h0 h1 h2).out.2.2.2, rfl⟩⟩
        · exact ⟨2, (step_kind h0 h1).out.1, (step_kind h0 h1).out.2.1, (step_kind h0 h1).out.2.2.1, .inr ⟨(step_kind h0 h1).out.2.2.2, .inr rfl⟩⟩
      · exact ⟨1, (step_bad h0).out.1, (step_bad h0).out.2.1, (step_bad h0).out.2.2.1, .inr ⟨(step_bad h0).out.2.2.2, .inl rfl⟩⟩
    clear hno
    obtain ⟨c, h1, h2, h3, h4⟩ := HZ
    have HZ1 := Lib.hid h1
    have HZ2 := Lib.hid h2
    clear h1 h2
    rcases h4 with ⟨h4, rfl⟩ | ⟨h4, rfl | rfl⟩
    all_goals
      go_wp2
      first
        | (refine bodyPost_ret (v := .tuple #[.agg #[.slice none 0 0, .int .i64 0, .int .i64 0, .slice none 0 0, .slice none 0 0, .slice none 0 0], .int .i64 5]) (by simp [results, Tryd.results27, go_sem, cR]) rfl ?_; rw [HZ1.out, HZ2.out]; exact retLink_zero (by (repeat (first | (with_reducible assumption) | (with_reducible exact Below.refl _ _) | (with_reducible refine Below.drew ?_) | (with_reducible refine Below.drewN ?_ _) | (with_reducible refine Below.setCell ?_ ?_ _) | (with_reducible refine Below.alloc ?_ ?_ _) | assumption)); all_goals (first | omega | (simp; done) | (simp; omega))))
        | (refine bodyPost_ret (v := .tuple #[.agg #[.slice none 0 0, .int .i64 0, .int .i64 0, .slice none 0 0, .slice none 0 0, .slice none 0 0], .int .i64 1]) (by simp [results, Tryd.results27, go_sem, cR]) rfl ?_; rw [HZ1.out, HZ2.out]; exact retLink_zero (by (repeat (first | (with_reducible assumption) | (with_reducible exact Below.refl _ _) | (with_reducible refine Below.drew ?_) | (with_reducible refine Below.drewN ?_ _) | (with_reducible refine Below.setCell ?_ ?_ _) | (with_reducible refine Below.alloc ?_ ?_ _) | assumption)); all_goals (first | omega | (simp; done) | (simp; omega))))
        | (refine bodyPost_ret (v := .tuple #[.agg #[.slice none 0 0, .int .i64 0, .int .i64 0, .slice none 0 0, .slice none 0 0, .slice none 0 0], .int .i64 2]) (by simp [results, Tryd.results27, go_sem, cR]) rfl ?_; rw [HZ1.out, HZ2.out]; exact retLink_zero (by (repeat (first | (with_reducible assumption) | (with_reducible exact Below.refl _ _) | (with_reducible refine Below.drew ?_) | (with_reducible refine Below.drewN ?_ _) | (with_reducible refine Below.setCell ?_ ?_ _) | (with_reducible refine Below.alloc ?_ ?_ _) | assumption)); all_goals (first | omega | (simp; done) | (simp; omega))))
  obtain ⟨g0, g1, g2⟩ := hno
  have HS := step_yes g0 g1 g2
  have e1 := HS.out.2.2.1
  have e2 := HS.out.2.2.2
  have K := LOk.of g0 (by rw [HE.out]; omega)
  have HK := Lib.hid K
  have HST := Lib.hid (l29Step_any h l k w1 ok K g1 g2 (hr.below hw1))
  have HOK := Lib.hid (stepL_ok K g1 g2)
  clear g0 g1 g2 K
  go_wp2_with fail
  refine HST.out.mono ?_
  rintro e w2 ⟨k2, he, ow, b2⟩
  unfold LinkV at he
  subst he
  have KR2 := KR.below b2 qR
  have hw2 := hw1.trans (b2.mono hw1.size)
  have OW := ow.mono (show w.heap.size + 2 ≤ _ from z1)
  clear ow cB cR fR KB KR hw1 e1 e2 b2
  have cR := fun o => KR2.cell o
  have fR := fun o => KR2.frozen o
  have qR2 := KR2.lt
  have HS1 := Lib.hid HS.out.1
  have HS2 := Lib.hid HS.out.2.1
  clear HS HST
  go_wp2
  refine bodyPost_ret (v := .tuple #[.agg #[.slice k2.items.A k2.items.n k2.items.c, .int .i64 (stepL l k).base, .int .i64 (stepL l k).next, .slice k2.packets.A k2.packets.n k2.packets.c, .slice k2.acks.A k2.acks.n k2.acks.c, .slice k2.got.A k2.got.n k2.got.c], .int .i64 0]) (by simp [results, Tryd.results27, go_sem, cR]) rfl ?_
  rw [HS1.out, HS2.out]
  exact retLink_own ((OW.above (D := w.heap.size + 2) (by repeat (first | (refine Above.setCell ?_ (by first | omega | (simp; done) | (simp; omega)) _) | exact Above.refl _ _)) (Nat.le_refl _)).mono (by first | omega | (simp; done) | (simp; omega))) HOK.out (by (repeat (first | (with_reducible assumption) | (with_reducible exact Below.refl _ _) | (with_reducible refine Below.drew ?_) | (with_reducible refine Below.drewN ?_ _) | (with_reducible refine Below.setCell ?_ ?_ _) | (with_reducible refine Below.alloc ?_ ?_ _) | assumption)); all_goals (first | omega | (simp; done) | (simp; omega)))

set_option maxRecDepth 100000 in
set_option maxHeartbeats 2000000 in
theorem implStepLink'_any (h : LinkH) (l : LinkC) (k : Int) (w : World) (ok : LinkOk h) (hr : RdAll w (LinkS h l)) :
    Calls Tryd.prog 26 #[LinkV h l, .int .i64 k] w (RetLink (stepLR l k) (stepLC l k) w) := by
  have HE := Lib.hid (LinkS_even hr)
  unfold LinkV
  go_enter Tryd.func26, Tryd.ntmps26
  go_wp2_with fail
  refine (stepCode_any h l k _ ok (hr.below (by (repeat (first | (with_reducible assumption) | (with_reducible exact Below.refl _ _) | (with_reducible refine Below.drew ?_) | (with_reducible refine Below.drewN ?_ _) | (with_reducible refine Below.setCell ?_ ?_ _) | (with_reducible refine Below.alloc ?_ ?_ _) | assumption)); all_goals (first | omega | (simp; done) | (simp; omega))))).mono ?_
  rintro e w1 ⟨rfl, b1⟩
  have hw1 : Below w.heap.size w w1 := (show Below w.heap.size w _ from (by (repeat (first | (with_reducible assumption) | (with_reducible exact Below.refl _ _) | (with_reducible refine Below.drew ?_) | (with_reducible refine Below.drewN ?_ _) | (with_reducible refine Below.setCell ?_ ?_ _) | (with_reducible refine Below.alloc ?_ ?_ _) | assumption)); all_goals (first | omega | (simp; done) | (simp; omega)))).trans (b1.mono (by first | omega | (simp; done) | (simp; omega)))
  have KB : Blk w1 w.heap.size 48 #[.slice h.items.A h.items.n h.items.c, .int .i64 l.base, .int .i64 l.next, .slice h.packets.A h.packets.n h.packets.c, .slice h.acks.A h.acks.n h.acks.c, .slice h.got.A h.got.n h.got.c] := Blk.below ((Blk.newN _ _ _ rfl).alloc _) b1 (by first | omega | (simp; done) | (simp; omega))
  have KR : Blk w1 (w.heap.size + 1) 48 #[.slice none 0 0, .int .i64 0, .int .i64 0, .slice none 0 0, .slice none 0 0, .slice none 0 0] := Blk.below (Blk.newN _ _ _ (by simp)) b1 (by first | omega | (simp; done) | (simp; omega))
  have z1 : w.heap.size + 2 ≤ w1.heap.size := Nat.le_trans (by first | omega | (simp; done) | (simp; omega)) b1.size
  clear b1
  have cB := fun o => KB.cell o
  have cR := fun o => KR.cell o
  have fR := fun o => KR.frozen o
  have qB : w.heap.size < w1.heap.size := by omega
  have qR : w.heap.size + 1 < w1.heap.size := by omega
  by_cases hno : linkOk l = true ∧ kindOk k = true
  case neg =>
    have HZ : ∃ c, stepLR l k = zeroLink ∧ stepLC l k = c ∧ canC l k = c ∧ (c = 1 ∨ c = 2) := by
      rcases Bool.eq_false_or_eq_true (linkOk l) with h0 | h0
      · rcases Bool.eq_false_or_eq_true (kindOk k) with h1 | h1
        · exact absurd ⟨h0, h1⟩ hno
        · exact ⟨2, (step_kind h0 h1).out.1, (step_kind h0 h1).out.2.1, (step_kind h0 h1).out.2.2.2, .inr rfl⟩
      · exact ⟨1, (step_bad h0).out.1, (step_bad h0).out.2.1, (step_bad h0).out.2.2.2, .inl rfl⟩
    clear hno
    obtain ⟨c, h1, h2, h4, h5⟩ := HZ
    have HZ1 := Lib.hid h1
    have HZ2 := Lib.hid h2
    clear h1 h2
    rcases h5 with rfl | rfl
    all_goals
      go_wp2
      first
        | (refine bodyPost_ret (v := .tuple #[.agg #[.slice none 0 0, .int .i64 0, .int .i64 0, .slice none 0 0, .slice none 0 0, .slice none 0 0], .int .i64 1]) (by simp [results, Tryd.results26, go_sem, cR]) rfl ?_; rw [HZ1.out, HZ2.out]; exact retLink_zero (by (repeat (first | (with_reducible assumption) | (with_reducible exact Below.refl _ _) | (with_reducible refine Below.drew ?_) | (with_reducible refine Below.drewN ?_ _) | (with_reducible refine Below.setCell ?_ ?_ _) | (with_reducible refine Below.alloc ?_ ?_ _) | assumption)); all_goals (first | omega | (simp; done) | (simp; omega))))
        | (refine bodyPost_ret (v := .tuple #[.agg #[.slice none 0 0, .int .i64 0, .int .i64 0, .slice none 0 0, .slice none 0 0, .slice none 0 0], .int .i64 2]) (by simp [results, Tryd.results26, go_sem, cR]) rfl ?_; rw [HZ1.out, HZ2.out]; exact retLink_zero (by (repeat (first | (with_reducible assumption) | (with_reducible exact Below.refl _ _) | (with_reducible refine Below.drew ?_) | (with_reducible refine Below.drewN ?_ _) | (with_reducible refine Below.setCell ?_ ?_ _) | (with_reducible refine Below.alloc ?_ ?_ _) | assumption)); all_goals (first | omega | (simp; done) | (simp; omega))))
  obtain ⟨g0, g1⟩ := hno
  have e2 : canC l k = 0 := by unfold canC; simp [g0, g1]
  have K := LOk.of g0 (by rw [HE.out]; omega)
  have HK := Lib.hid K
  have HG0 := Lib.hid g0
  have HG1 := Lib.hid g1
  clear g0 g1 K
  go_wp2_with fail
  refine (can_any h l k _ ok HK.out HG1.out (hr.below hw1)).mono ?_
  rintro e w2 ⟨rfl, b2⟩
  clear e2
  have hw2 := hw1.trans (b2.mono hw1.size)
  have KB2 := KB.below b2 qB
  have KR2 := KR.below b2 qR
  clear cB cR fR KB KR hw1
  have cB := fun o => KB2.cell o
  have cR := fun o => KR2.cell o
  have fR := fun o => KR2.frozen o
  have qB2 := KB2.lt
  have qR2 := KR2.lt
  have z2 : w.heap.size + 2 ≤ w2.heap.size := Nat.le_trans z1 b2.size
  clear b2
  rcases Bool.eq_false_or_eq_true (canL l k) with g2 | g2
  case inr =>
    have HS := step_not HG0.out HG1.out g2
    go_wp2
    refine bodyPost_ret (v := .tuple #[.agg #[.slice none 0 0, .int .i64 0, .int .i64 0, .slice none 0 0, .slice none 0 0, .slice none 0 0], .int .i64 5]) (by simp [results, Tryd.results26, go_sem, cR]) rfl ?_
    rw [HS.out.1, HS.out.2.1]
    exact retLink_zero (by (repeat (first | (with_reducible assumption) | (with_reducible exact Below.refl _ _) | (with_reducible refine Below.drew ?_) | (with_reducible refine Below.drewN ?_ _) | (with_reducible refine Below.setCell ?_ ?_ _) | (with_reducible refine Below.alloc ?_ ?_ _) | assumption)); all_goals (first | omega | (simp; done) | (simp; omega)))
  have HS := step_yes HG0.out HG1.out g2
  have HOK := Lib.hid (stepL_ok HK.out HG1.out g2)
  go_wp2_with fail
  refine (linkClone_any h l _ ok (hr.below hw2)).mono ?_
  rintro e w3 ⟨k2, he, ow, b3⟩
  unfold LinkV at he
  subst he
  have HG2 := Lib.hid g2
  have hw3 := hw2.trans (b3.mono hw2.size)
  have KR3 := KR2.below b3 qR2
  have z3 := b3.size
  clear cB cR fR KB2 KR2 hw2 b3 g2
  have BB : Below w3.heap.size w3 (w3.alloc (.cells #[.slice k2.items.A k2.items.n k2.items.c, .int .i64 l.base, .int .i64 l.next, .slice k2.packets.A k2.packets.n k2.packets.c, .slice k2.acks.A k2.acks.n k2.acks.c, .slice k2.got.A k2.got.n k2.got.c] 48)) := (Below.refl _ _).alloc (Nat.le_refl _) _
  have X : LinkBox (w3.alloc (.cells #[.slice k2.items.A k2.items.n k2.items.c, .int .i64 l.base, .int .i64 l.next, .slice k2.packets.A k2.packets.n k2.packets.c, .slice k2.acks.A k2.acks.n k2.acks.c, .slice k2.got.A k2.got.n k2.got.c] 48)) w2.heap.size w3.heap.size k2 l :=
    ⟨Blk.newN _ _ _ rfl, ow.below BB, z3, fun s hs c => by have := (ow.blt s hs _ c).2; omega⟩
  have KR4 := KR3.below BB (by omega)
  have hw4 := hw3.trans (BB.mono hw3.size)
  have z4 := BB.size
  clear ow KR3 hw3 BB
  go_wp2_with fail
  generalize w3.alloc (.cells #[.slice k2.items.A k2.items.n k2.items.c, .int .i64 l.base, .int .i64 l.next, .slice k2.packets.A k2.packets.n k2.packets.c, .slice k2.acks.A k2.acks.n k2.acks.c, .slice k2.got.A k2.got.n k2.got.c] 48) = w4 at X KR4 hw4 z4 ⊢
  refine (make_any w2.heap.size w3.heap.size k2 l k _ X HK.out HG1.out HG2.out (by omega)).mono ?_
  rintro e w5 ⟨rfl, ⟨k3, X5⟩, b5⟩
  have KR5 := KR4.below b5 (by omega)
  have hw5 := hw4.trans (b5.mono (by omega))
  have OW := X5.own
  clear X KR4 hw4
  have cR := fun o => KR5.cell o
  have fR := fun o => KR5.frozen o
  have cX := fun o => X5.box.cell o
  unfold LinkCells at cX
  have q1 := KR5.lt
  have q2 := X5.box.lt
  clear b5
  go_wp2
  refine bodyPost_ret (v := .tuple #[.agg #[.slice k3.items.A k3.items.n k3.items.c, .int .i64 (stepL l k).base, .int .i64 (stepL l k).next, .slice k3.packets.A k3.packets.n k3.packets.c, .slice k3.acks.A k3.acks.n k3.acks.c, .slice k3.got.A k3.got.n k3.got.c], .int .i64 0]) (by simp [results, Tryd.results26, go_sem, cR]) rfl ?_
  rw [HS.out.1, HS.out.2.1]
  exact retLink_own ((OW.above (D := w2.heap.size) (by repeat (first | (refine Above.setCell ?_ (by first | omega | (simp; done) | (simp; omega)) _) | exact Above.refl _ _)) (Nat.le_refl _)).mono (by first | omega | (simp; done) | (simp; omega))) HOK.out (by (repeat (first | (with_reducible assumption) | (with_reducible exact Below.refl _ _) | (with_reducible refine Below.drew ?_) | (with_reducible refine Below.drewN ?_ _) | (with_reducible refine Below.setCell ?_ ?_ _) | (with_reducible refine Below.alloc ?_ ?_ _) | assumption)); all_goals (first | omega | (simp; done) | (simp; omega)))
end Go.Proofs.YtoledbicmghmbaaDoor
