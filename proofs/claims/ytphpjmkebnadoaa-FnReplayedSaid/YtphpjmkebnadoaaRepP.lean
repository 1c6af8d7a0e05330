/- What FnReplayed asks: lists of soundings and gauges that are alike, a number in a list, valid soundings; counts. Condition: equal contents, valid soundings. -/
import Derived.Test.YtphpjmkebnadoaaRepM
import Derived.Test.YtphpjmkebnadoaaLike
import Derived.Test.YtphpjmkebnadoaaLevJ
namespace Go.Proofs.Ytphpjmkebnadoaa
open Go.RowKit

theorem Rd.four4 {w : World} {A : Option Addr} {n k : Nat} {xs : List Int} (h : Rd w A (n * 4) (ints xs)) (hk : k < n) : ∃ ad, A = some ad ∧ w.cell? (ad.add (k * 4)) = some (.int .i64 (xs.getD (k * 4) 0)) ∧ w.cell? ⟨(ad.add (k * 4)).block, (ad.add (k * 4)).off + 1, none⟩ = some (.int .i64 (xs.getD (k * 4 + 1) 0)) ∧ w.cell? ⟨(ad.add (k * 4)).block, (ad.add (k * 4)).off + 2, none⟩ = some (.int .i64 (xs.getD (k * 4 + 2) 0)) ∧ w.cell? ⟨(ad.add (k * 4)).block, (ad.add (k * 4)).off + 3, none⟩ = some (.int .i64 (xs.getD (k * 4 + 3) 0)) := by
  obtain ⟨ad, rfl, h0⟩ := h.int (show k * 4 + 0 < n * 4 by omega)
  obtain ⟨_, ⟨⟩, h1⟩ := h.int (show k * 4 + 1 < n * 4 by omega)
  obtain ⟨_, ⟨⟩, h2⟩ := h.int (show k * 4 + 2 < n * 4 by omega)
  obtain ⟨_, ⟨⟩, h3⟩ := h.int (show k * 4 + 3 < n * 4 by omega)
  rw [Nat.add_zero] at h0
  rw [← fld_add _ _ 1 (by decide)] at h1
  rw [← fld_add _ _ 2 (by decide)] at h2
  rw [← fld_add _ _ 3 (by decide)] at h3
  exact ⟨_, rfl, h0, h1, h2, h3⟩
set_option maxHeartbeats 1000000 in
theorem likeSnds_same (A B : Option Addr) (n c d : Nat) (xs : List Int) (w : World) (hn : n ≤ 9223372036854775807) (ha : Rd w A (n * 4) (ints xs)) (hb : Rd w B (n * 4) (ints xs)) :
    Calls Try.prog 24 #[.slice A n c, .slice B n d] w fun e w' => e = .returned (.bool true) ∧ Below w.heap.size w w' := by
  go_enter Try.func24, Try.ntmps24
  go_wp2
  go_loopw [5] (fun i wr => ∃ k m : Nat, k ≤ n ∧ i = .int .i64 k ∧ wr = w.drewN m)
    (fun i _ => n - (intOf i).toNat)
  case atStart => exact ⟨0, 0, Nat.zero_le _, rfl, rfl⟩
  case round =>
    obtain ⟨k, m, hk, rfl, rfl⟩ := hrel
    by_cases hlt : k < n
    · obtain ⟨ad, rfl, hx0, hx1, hx2, hx3⟩ := ha.four4 hlt
      obtain ⟨bd, rfl, hy0, hy1, hy2, hy3⟩ := hb.four4 hlt
      generalize xs.getD (k * 4) 0 = x0 at *
      generalize xs.getD (k * 4 + 1) 0 = x1 at *
      generalize xs.getD (k * 4 + 2) 0 = x2 at *
      generalize xs.getD (k * 4 + 3) 0 = x3 at *
      go_wp2
      go_quiet (fail)
      go_wp2
      go_roundw
      case rel => exact ⟨k + 1, _, by omega, by go_num, rfl⟩
      case measure => simp [intOf]; omega
    · go_wp2
      go_ret
      exact ⟨rfl, below_drewN w m⟩
set_option maxHeartbeats 1000000 in
theorem likeGauges_same (A0 A1 B0 B1 : Option Addr) (n m c0 c1 d0 d1 : Nat) (ts ls : List Int) (w : World) (hn : n ≤ 9223372036854775807) (hm : m ≤ 9223372036854775807) (ha0 : Rd w A0 n (ints ts)) (ha1 : Rd w A1 m (ints ls)) (hb0 : Rd w B0 n (ints ts)) (hb1 : Rd w B1 m (ints ls)) :
    Calls Try.prog 25 #[.agg #[.slice A0 n c0, .slice A1 m c1], .agg #[.slice B0 n d0, .slice B1 m d1]] w fun e w' => e = .returned (.bool true) ∧ Below w.heap.size w w' := by
  have K0 := (Blk.new w 26 #[.slice A0 n c0, .slice A1 m c1]).alloc (.cells #[.slice B0 n d0, .slice B1 m d1] 26)
  have K1 := Blk.newN (g := w.heap.size + 1) (w.alloc (.cells #[.slice A0 n c0, .slice A1 m c1] 26)) 26 #[.slice B0 n d0, .slice B1 m d1] (by simp)
  have b0 : Below w.heap.size w ((w.alloc (.cells #[.slice A0 n c0, .slice A1 m c1] 26)).alloc (.cells #[.slice B0 n d0, .slice B1 m d1] 26)) := (by (repeat (first | (with_reducible assumption) | (with_reducible exact Below.refl _ _) | (with_reducible refine Below.drew ?_) | (with_reducible refine Below.drewN ?_ _) | (with_reducible refine Below.setCell ?_ ?_ _) | (with_reducible refine Below.alloc ?_ ?_ _) | assumption)); all_goals (first | omega | (simp; done) | (simp; omega)))
  go_enter Try.func25, Try.ntmps25
  go_upto_region 1 with fail
  generalize (w.alloc (.cells #[.slice A0 n c0, .slice A1 m c1] 26)).alloc (.cells #[.slice B0 n d0, .slice B1 m d1] 26) = w1 at K0 K1 b0 ⊢
  have e0 := fun o => K0.cell o
  have e1 := fun o => K1.cell o
  have g0 := K0.lt
  have g1 := K1.lt
  go_wp2_with fail
  refine (likeInts_below A0 B0 n c0 d0 ts _ hn (ha0.below b0) (hb0.below b0)).mono ?_
  rintro e w2 ⟨rfl, b2⟩
  replace K0 := K0.below b2 g0
  replace K1 := K1.below b2 g1
  replace e0 := fun o => K0.cell o
  replace e1 := fun o => K1.cell o
  replace b0 := b0.trans (b2.mono b0.size)
  go_wp2_with fail
  refine (likeInts_below A1 B1 m c1 d1 ls _ hm (ha1.below b0) (hb1.below b0)).mono ?_
  rintro e w3 ⟨rfl, b3⟩
  have b4 := b0.trans (b3.mono b0.size)
  go_wp2
  go_ret
  exact ⟨rfl, b4⟩
set_option maxHeartbeats 1000000 in
theorem hasInt_yes (A : Option Addr) (n c : Nat) (xs : List Int) (x : Int) (w : World) (hn : n ≤ 9223372036854775807) (ha : Rd w A n (ints xs)) (hx : x ∈ xs) :
    Calls Try.prog 26 #[.slice A n c, .int .i64 x] w fun e w' => e = .returned (.bool true) ∧ w = w' := by
  have hl := ha.len
  obtain ⟨j, hj, hje⟩ := List.getElem_of_mem hx
  have HJ : Hid (j < n ∧ xs.getD j 0 = x) := ⟨by omega, by rw [getD_at hj]; exact hje⟩
  clear hx hje hj hl
  go_enter Try.func26, Try.ntmps26
  go_wp2
  go_loopw [5] (fun i wr => ∃ k : Nat, k ≤ j ∧ i = .int .i64 k ∧ wr = w)
    (fun i _ => n - (intOf i).toNat)
  case atStart => exact ⟨0, Nat.zero_le _, rfl, rfl⟩
  case round =>
    obtain ⟨k, hk, rfl, rfl⟩ := hrel
    have hjn := HJ.out.1
    have hlt : k < n := by omega
    obtain ⟨ad, rfl, hx0⟩ := ha.int hlt
    have hkI : (k : Int) < (n : Int) := by omega
    by_cases he : xs.getD k 0 = x
    · rw [he] at hx0
      go_wp2
      go_ret
      exact ⟨rfl, rfl⟩
    · have hkj : k < j := by
        rcases Nat.lt_or_ge k j with h | h
        · exact h
        · have : k = j := by omega
          subst this
          exact absurd HJ.out.2 he
      have hd := decide_eq_false he
      have hb : (xs.getD k 0 == x) = false := by rw [beq_eq_false_iff_ne]; exact he
      clear he
      generalize xs.getD k 0 = y at *
      go_wp2
      go_roundw
      case rel => exact ⟨k + 1, by omega, by go_num, by first | rfl | trivial⟩
      case measure => simp [intOf]; omega
set_option maxHeartbeats 1000000 in
theorem badSnd_no (x y d r : Int) (w : World) (h : souB x y d r = true) :
    Calls Try.prog 58 #[.agg #[.int .i64 x, .int .i64 y, .int .i64 d, .int .i64 r]] w fun e w' => e = .returned (.bool false) ∧ Below w.heap.size w w' := by
  have b0 : Below w.heap.size w (w.alloc (.cells #[.int .i64 x, .int .i64 y, .int .i64 d, .int .i64 r] 45)) := (Below.refl _ _).alloc (Nat.le_refl _) _
  have HH := Lib.hid h
  clear h
  go_enter Try.func58, Try.ntmps58
  go_wp2_with fail
  refine (isSounding_any x y d r _).mono ?_
  rw [HH.out]
  rintro e w1 ⟨rfl, b1⟩
  have b2 := b0.trans (b1.mono b0.size)
  go_wp2
  go_ret
  exact ⟨rfl, b2⟩
def souAll (ys : List Int) (n : Nat) : Prop := ∀ j, j < n → souB (ys.getD (j * 4) 0) (ys.getD (j * 4 + 1) 0) (ys.getD (j * 4 + 2) 0) (ys.getD (j * 4 + 3) 0) = true
set_option maxRecDepth 100000 in
set_option maxHeartbeats 2000000 in
theorem indexBadSnd_no (A : Option Addr) (n c : Nat) (xs : List Int) (w : World) (hn : n ≤ 1048576) (hr : Rd w A (n * 4) (ints xs)) (hs : souAll xs n) :
    Calls Try.prog 92 #[.slice A n c, .func (.func 58) #[] #[]] w fun e w' => e = .returned (.int .i64 (-1)) ∧ Below w.heap.size w w' := by
  have HS := Lib.hid hs
  clear hs
  go_enter Try.func92, Try.ntmps92
  go_wp2
  go_loopw [8] (fun i wr => ∃ k : Nat, k ≤ n ∧ i = .int .i64 k ∧ Below w.heap.size w wr)
    (fun i _ => n - (intOf i).toNat)
  case atStart => exact ⟨0, Nat.zero_le _, rfl, Below.refl _ _⟩
  case round =>
    obtain ⟨k, hk, rfl, hbel⟩ := hrel
    by_cases hlt : k < n
    · obtain ⟨ad, rfl, hx0, hx1, hx2, hx3⟩ := (hr.below hbel).four4 hlt
      have hv := HS.out k hlt
      have hi0 : (0 : Int) ≤ (k : Int) := by omega
      have hi1 : (k : Int) < (n : Int) := by omega
      generalize xs.getD (k * 4) 0 = x0 at *
      generalize xs.getD (k * 4 + 1) 0 = x1 at *
      generalize xs.getD (k * 4 + 2) 0 = x2 at *
      generalize xs.getD (k * 4 + 3) 0 = x3 at *
      have HV := Lib.hid hv
      clear hv
      go_wp2_with fail
      refine (badSnd_no x0 x1 x2 x3 _ HV.out).mono ?_
      rintro e w1 ⟨rfl, b1⟩
      have b2 := hbel.trans (b1.mono hbel.size)
      go_wp2
      go_roundw
      case rel => exact ⟨k + 1, by omega, by go_num, b2⟩
      case measure => simp [intOf]; omega
    · obtain rfl : k = n := by omega
      go_wp2
      go_ret
      exact ⟨rfl, hbel⟩
set_option maxHeartbeats 1000000 in
theorem areSoundings_yes (A : Option Addr) (n c : Nat) (xs : List Int) (w : World) (hn : n ≤ 200) (hr : Rd w A (n * 4) (ints xs)) (hs : souAll xs n) :
    Calls Try.prog 28 #[.slice A n c] w fun e w' => e = .returned (.bool true) ∧ Below w.heap.size w w' := by
  have hnI : (n : Int) ≤ 200 := by omega
  have HS := Lib.hid hs
  have hcont : ∀ W, Rd W A (n * 4) (ints xs) → Calls Try.prog 57 #[.slice A n c, .func (.func 58) #[] #[]] W fun e w' => e = .returned (.bool false) ∧ Below W.heap.size W w' := by
    intro W hR
    go_enter Try.func57, Try.ntmps57
    go_wp2_with (go_at_call 92; refine (indexBadSnd_no _ _ _ xs _ (by omega) hR HS.out).mono ?_; rintro e w' ⟨rfl, hb⟩)
    go_ret
    exact ⟨rfl, hb⟩
  clear hs
  go_enter Try.func28, Try.ntmps28
  go_wp2_with fail
  refine (hcont _ hr).mono ?_
  rintro e w1 ⟨rfl, b1⟩
  go_wp2
  go_ret
  exact ⟨rfl, b1⟩

/-- every level's time is a time of the gauge -/
theorem gTo_has (xs : List Int) : ∀ (n i : Nat), i < n → recK xs i = 1 → recT xs i ∈ fstL (gTo xs n)
  | 0, i, h, _ => absurd h (Nat.not_lt_zero _)
  | n + 1, i, h, hk => by
    have hm : ∀ (t l : Int) (p : List (Int × Int)) (x : Int), x ∈ fstL p → x ∈ fstL (insP t l p) := by
      intro t l p
      induction p with
      | nil => intro x hx; simp [fstL] at hx
      | cons a r ih =>
        obtain ⟨a, b⟩ := a
        intro x hx
        unfold insP
        have hx' : x = a ∨ x ∈ fstL r := by simpa [fstL] using hx
        split
        · rcases hx' with rfl | hx'
          · simp [fstL]
          · have := ih x hx'; simp only [fstL, List.map_cons, List.mem_cons] at *; exact .inr this
        · split
          · simpa [fstL] using hx
          · simp only [fstL, List.map_cons, List.mem_cons] at *; exact .inr (by simpa using hx)
    have hi : ∀ (t l : Int) (p : List (Int × Int)), t ∈ fstL (insP t l p) := by
      intro t l p
      induction p with
      | nil => simp [insP, fstL]
      | cons a r ih =>
        obtain ⟨a, b⟩ := a
        unfold insP
        split
        · simp only [fstL, List.map_cons, List.mem_cons] at *; exact .inr ih
        · split
          · rename_i h1 h2; simp [fstL, h2]
          · simp [fstL]
    by_cases e : i = n
    · subst e
      show _ ∈ fstL (if recK xs i = 1 then _ else _)
      rw [if_pos hk]
      exact hi _ _ _
    · have ih := gTo_has xs n i (by omega) hk
      show _ ∈ fstL (if recK xs n = 1 then _ else _)
      split
      · exact hm _ _ _ _ ih
      · exact ih
def cnt2 (xs : List Int) : Nat → Nat
  | 0 => 0
  | k + 1 => if recK xs k = 2 then cnt2 xs k + 1 else cnt2 xs k
theorem cnt2_le (xs : List Int) : ∀ k, cnt2 xs k ≤ k
  | 0 => Nat.le_refl _
  | k + 1 => by
    have := cnt2_le xs k
    unfold cnt2
    split <;> omega
theorem rep_count (ts ls xs : List Int) : ∀ k, (repL ts ls xs k).length + 4 * repN ts ls xs k = 4 * cnt2 xs k
  | 0 => rfl
  | k + 1 => by
    have ih := rep_count ts ls xs k
    unfold repL repN cnt2
    by_cases h1 : recK xs k = 2
    · by_cases h2 : recRed ts ls xs k = 0
      · rw [if_pos ⟨h1, h2⟩, if_neg (fun c => c.2 h2), if_pos h1, List.length_append]
        show _ + 4 + _ = _
        omega
      · rw [if_neg (fun c => h2 c.2), if_pos ⟨h1, h2⟩, if_pos h1]; omega
    · rw [if_neg (fun c => h1 c.1), if_neg (fun c => h1 c.1), if_neg h1]; omega
theorem rep_sou (ts ls xs : List Int) : ∀ k, ∃ m, (repL ts ls xs k).length = m * 4 ∧ souAll (repL ts ls xs k) m
  | 0 => ⟨0, rfl, fun j h => absurd h (Nat.not_lt_zero _)⟩
  | k + 1 => by
    obtain ⟨m, hm, hs⟩ := rep_sou ts ls xs k
    unfold repL
    split
    · rename_i h
      refine ⟨m + 1, by rw [List.length_append, hm]; show m * 4 + 4 = _; omega, fun j hj => ?_⟩
      by_cases e : j < m
      · have e1 : ∀ i, i < m * 4 → (repL ts ls xs k ++ recOut ts ls xs k).getD i 0 = (repL ts ls xs k).getD i 0 := fun i hi => by
          rw [List.getD_eq_getElem?_getD, List.getElem?_append_left (by omega), ← List.getD_eq_getElem?_getD]
        rw [e1 _ (by omega), e1 _ (by omega), e1 _ (by omega), e1 _ (by omega)]
        exact hs j e
      · have ej : j = m := by omega
        subst ej
        have e2 : ∀ i, (repL ts ls xs k ++ recOut ts ls xs k).getD (j * 4 + i) 0 = (recOut ts ls xs k).getD i 0 := fun i => by
          rw [List.getD_eq_getElem?_getD, List.getElem?_append_right (by omega), hm, Nat.add_sub_cancel_left, ← List.getD_eq_getElem?_getD]
        have e20 := e2 0
        rw [Nat.add_zero] at e20
        rw [e20, e2 1, e2 2, e2 3]
        have h2 := h.2
        unfold recRed redC at h2
        split at h2
        · split at h2
          · rename_i hb
            unfold redB at hb
            exact hb
          · cases h2
        · cases h2
    · exact ⟨m, hm, hs⟩
end Go.Proofs.Ytphpjmkebnadoaa
