/- Lists of soundings: are all valid? Both sides. Condition: a list of at most 1048576 soundings. -/
import Derived.Test.YthmcnoloeeabbaaRec
namespace Go.Proofs.Ythmcnoloeeabbaa
open Go.RowKit

theorem fldS_add (a : Addr) (i j : Nat) (h : j ≠ 0) : (⟨(a.add i).block, (a.add i).off + j, none⟩ : Addr) = a.add (i + j) := by
  rw [← add_of_add]
  generalize a.add i = b
  unfold Addr.add
  rw [if_neg h]
theorem Rd.fourS {w : World} {A : Option Addr} {n k : Nat} {xs : List Int} (h : Rd w A (n * 4) (ints xs)) (hk : k < n) : ∃ ad, A = some ad ∧ w.cell? (ad.add (k * 4)) = some (.int .i64 (xs.getD (k * 4) 0)) ∧ w.cell? ⟨(ad.add (k * 4)).block, (ad.add (k * 4)).off + 1, none⟩ = some (.int .i64 (xs.getD (k * 4 + 1) 0)) ∧ w.cell? ⟨(ad.add (k * 4)).block, (ad.add (k * 4)).off + 2, none⟩ = some (.int .i64 (xs.getD (k * 4 + 2) 0)) ∧ w.cell? ⟨(ad.add (k * 4)).block, (ad.add (k * 4)).off + 3, none⟩ = some (.int .i64 (xs.getD (k * 4 + 3) 0)) := by
  obtain ⟨ad, rfl, h0⟩ := h.int (show k * 4 + 0 < n * 4 by omega)
  obtain ⟨_, ⟨⟩, h1⟩ := h.int (show k * 4 + 1 < n * 4 by omega)
  obtain ⟨_, ⟨⟩, h2⟩ := h.int (show k * 4 + 2 < n * 4 by omega)
  obtain ⟨_, ⟨⟩, h3⟩ := h.int (show k * 4 + 3 < n * 4 by omega)
  rw [Nat.add_zero] at h0
  rw [← fldS_add _ _ 1 (by decide)] at h1
  rw [← fldS_add _ _ 2 (by decide)] at h2
  rw [← fldS_add _ _ 3 (by decide)] at h3
  exact ⟨_, rfl, h0, h1, h2, h3⟩
def souAt (xs : List Int) (k : Nat) : Bool := souB (xs.getD (k * 4) 0) (xs.getD (k * 4 + 1) 0) (xs.getD (k * 4 + 2) 0) (xs.getD (k * 4 + 3) 0)
def sousB (xs : List Int) (n : Nat) : Bool := (List.range n).all (souAt xs)
theorem sousB_succ (xs : List Int) (n : Nat) : sousB xs (n + 1) = (sousB xs n && souAt xs n) := by unfold sousB; rw [List.range_succ, List.all_append]; simp
theorem sousB_false {xs : List Int} {k n : Nat} (h : souAt xs k = false) (hk : k < n) : sousB xs n = false := by
  rw [Bool.eq_false_iff]; intro c
  rw [List.all_eq_true.1 c k (List.mem_range.2 hk)] at h
  cases h
theorem sousB_at {xs : List Int} {k n : Nat} (h : sousB xs n = true) (hk : k < n) : souAt xs k = true := List.all_eq_true.1 h k (List.mem_range.2 hk)
def sndsB (xs : List Int) (n : Nat) : Bool := sousB xs n && decide ((n : Int) ≤ 200)
set_option maxHeartbeats 1000000 in
theorem badSnd_any (x y d r : Int) (w : World) :
    Calls Try.prog 135 #[.agg #[.int .i64 x, .int .i64 y, .int .i64 d, .int .i64 r]] w fun e w' => e = .returned (.bool (!(souB x y d r))) ∧ Below w.heap.size w w' := by
  have b0 : Below w.heap.size w (w.alloc (.cells #[.int .i64 x, .int .i64 y, .int .i64 d, .int .i64 r] 129)) := (Below.refl _ _).alloc (Nat.le_refl _) _
  rcases Bool.eq_false_or_eq_true (souB x y d r) with h | h
  all_goals
    go_enter Try.func135, Try.ntmps135
    go_wp2_with fail
    refine (isSounding_any x y d r _).mono ?_
    rw [h]
    rintro e w1 ⟨rfl, b1⟩
    have b2 := b0.trans (b1.mono b0.size)
    go_wp2
    go_ret
    exact ⟨ret_bool (by rw [h]; rfl), b2⟩
set_option maxRecDepth 100000 in
set_option maxHeartbeats 2000000 in
theorem indexBadSnd_any (A : Option Addr) (n c : Nat) (xs : List Int) (w : World) (hn : n ≤ 1048576) (hr : Rd w A (n * 4) (ints xs)) :
    Calls Try.prog 140 #[.slice A n c, .func (.func 135) #[] #[]] w fun e w' => ∃ v : Int, e = .returned (.int .i64 v) ∧ (decide (v ≥ 0)) = !(sousB xs n) ∧ Below w.heap.size w w' := by
  go_enter Try.func140, Try.ntmps140
  go_wp2
  go_loopw [8] (fun i wr => ∃ k : Nat, k ≤ n ∧ i = .int .i64 k ∧ sousB xs k = true ∧ Below w.heap.size w wr)
    (fun i _ => n - (intOf i).toNat)
  case atStart => exact ⟨0, Nat.zero_le _, rfl, rfl, Below.refl _ _⟩
  case round =>
    obtain ⟨k, hk, rfl, hall, hbel⟩ := hrel
    have HA := Lib.hid hall
    clear hall
    by_cases hlt : k < n
    · obtain ⟨ad, rfl, hx0, hx1, hx2, hx3⟩ := (hr.below hbel).fourS hlt
      have HS : Hid (sousB xs (k + 1) = (sousB xs k && souAt xs k)) := sousB_succ xs k
      have HF : Hid (souAt xs k = false → sousB xs n = false) := fun h => sousB_false h hlt
      have HP : Hid (souAt xs k = souB (xs.getD (k * 4) 0) (xs.getD (k * 4 + 1) 0) (xs.getD (k * 4 + 2) 0) (xs.getD (k * 4 + 3) 0)) := rfl
      have hi0 : (0 : Int) ≤ (k : Int) := by omega
      have hi1 : (k : Int) < (n : Int) := by omega
      generalize xs.getD (k * 4) 0 = x0 at *
      generalize xs.getD (k * 4 + 1) 0 = x1 at *
      generalize xs.getD (k * 4 + 2) 0 = x2 at *
      generalize xs.getD (k * 4 + 3) 0 = x3 at *
      rcases Bool.eq_false_or_eq_true (souB x0 x1 x2 x3) with h | h
      · have HH := Lib.hid h
        go_wp2_with fail
        refine (badSnd_any x0 x1 x2 x3 _).mono ?_
        rw [HH.out]
        rintro e w1 ⟨rfl, b1⟩
        have b2 := hbel.trans (b1.mono hbel.size)
        go_wp2
        go_roundw
        case rel => exact ⟨k + 1, by omega, by go_num, by rw [HS.out, HA.out, HP.out, HH.out]; rfl, b2⟩
        case measure => simp [intOf]; omega
      · have HH := Lib.hid h
        go_wp2_with fail
        refine (badSnd_any x0 x1 x2 x3 _).mono ?_
        rw [HH.out]
        rintro e w1 ⟨rfl, b1⟩
        have b2 := hbel.trans (b1.mono hbel.size)
        go_wp2
        go_ret
        exact ⟨k, rfl, by rw [HF.out (by rw [HP.out, HH.out])]; simp, b2⟩
    · obtain rfl : k = n := by omega
      go_wp2
      go_ret
      exact ⟨-1, rfl, by rw [HA.out]; rfl, hbel⟩
set_option maxHeartbeats 1000000 in
theorem implAreSoundings_any (A : Option Addr) (n c : Nat) (xs : List Int) (w : World) (hn : n ≤ 1048576) (hr : Rd w A (n * 4) (ints xs)) :
    Calls Try.prog 107 #[.slice A n c] w fun e w' => e = .returned (.bool (sndsB xs n)) ∧ Below w.heap.size w w' := by
  have hcont : ∀ W, Rd W A (n * 4) (ints xs) → Calls Try.prog 134 #[.slice A n c, .func (.func 135) #[] #[]] W fun e w' => e = .returned (.bool (!(sousB xs n))) ∧ Below W.heap.size W w' := by
    intro W hR
    go_enter Try.func134, Try.ntmps134
    go_wp2_with (go_at_call 140; refine (indexBadSnd_any _ _ _ xs _ hn hR).mono ?_; rintro e w' ⟨v, rfl, hv, hb⟩)
    go_ret
    exact ⟨ret_bool (by rw [← hv]), hb⟩
  have HL : Hid (sndsB xs n = (sousB xs n && decide ((n : Int) ≤ 200))) := rfl
  by_cases h : (n : Int) ≤ 200
  · go_enter Try.func107, Try.ntmps107
    go_wp2_with fail
    refine (hcont _ hr).mono ?_
    rintro e w1 ⟨rfl, hb⟩
    go_wp2
    go_ret
    exact ⟨ret_bool (by rw [HL.out, decide_eq_true h]; simp), hb⟩
  · go_enter Try.func107, Try.ntmps107
    go_wp2_with fail
    go_ret
    exact ⟨ret_bool (by rw [HL.out, decide_eq_false (by omega)]; simp), Below.refl _ _⟩
set_option maxRecDepth 100000 in
set_option maxHeartbeats 2000000 in
theorem specAreSoundings_any (A : Option Addr) (n c : Nat) (xs : List Int) (w : World) (hn : n ≤ 1048576) (hr : Rd w A (n * 4) (ints xs)) :
    Calls Try.prog 105 #[.slice A n c] w fun e w' => e = .returned (.bool (sndsB xs n)) ∧ Below w.heap.size w w' := by
  have HL : Hid (sndsB xs n = (sousB xs n && decide ((n : Int) ≤ 200))) := rfl
  go_enter Try.func105, Try.ntmps105
  go_wp2_with fail
  go_loopw [3] (fun i wr => ∃ k : Nat, k ≤ n ∧ i = .int .i64 k ∧ sousB xs k = true ∧ Below w.heap.size w wr)
    (fun i _ => n - (intOf i).toNat)
  case atStart => exact ⟨0, Nat.zero_le _, rfl, rfl, Below.refl _ _⟩
  case round =>
    obtain ⟨k, hk, rfl, hall, hbel⟩ := hrel
    have HA := Lib.hid hall
    clear hall
    by_cases hlt : k < n
    · obtain ⟨ad, rfl, hx0, hx1, hx2, hx3⟩ := (hr.below hbel).fourS hlt
      have HS : Hid (sousB xs (k + 1) = (sousB xs k && souAt xs k)) := sousB_succ xs k
      have HF : Hid (souAt xs k = false → sousB xs n = false) := fun h => sousB_false h hlt
      have HP : Hid (souAt xs k = souB (xs.getD (k * 4) 0) (xs.getD (k * 4 + 1) 0) (xs.getD (k * 4 + 2) 0) (xs.getD (k * 4 + 3) 0)) := rfl
      have hi0 : (0 : Int) ≤ (k : Int) := by omega
      have hi1 : (k : Int) < (n : Int) := by omega
      generalize xs.getD (k * 4) 0 = x0 at *
      generalize xs.getD (k * 4 + 1) 0 = x1 at *
      generalize xs.getD (k * 4 + 2) 0 = x2 at *
      generalize xs.getD (k * 4 + 3) 0 = x3 at *
      rcases Bool.eq_false_or_eq_true (souB x0 x1 x2 x3) with h | h
      · have HH := Lib.hid h
        clear h
        go_wp2_with fail
        refine (l21Is_any x0 x1 x2 x3 _).mono ?_
        rw [HH.out]
        rintro e w1 ⟨rfl, hw1⟩
        have b2 : Below w.heap.size w w1 := by rw [hw1]; exact hbel.alloc hbel.size _
        clear hw1
        go_wp2_with fail
        go_roundw
        case rel => exact ⟨k + 1, by omega, by go_num, by rw [HS.out, HA.out, HP.out, HH.out]; rfl, b2⟩
        case measure => simp [intOf]; omega
      · have HH := Lib.hid h
        clear h
        go_wp2_with fail
        refine (l21Is_any x0 x1 x2 x3 _).mono ?_
        rw [HH.out]
        rintro e w1 ⟨rfl, hw1⟩
        have b2 : Below w.heap.size w w1 := by rw [hw1]; exact hbel.alloc hbel.size _
        clear hw1
        go_wp2
        go_ret
        exact ⟨ret_bool (by rw [HL.out, HF.out (by rw [HP.out, HH.out])]; rfl), b2⟩
    · obtain rfl : k = n := by omega
      by_cases h : (k : Int) ≤ 200
      · go_wp2
        go_ret
        exact ⟨ret_bool (by rw [HL.out, HA.out, Bool.true_and]; first | rfl | (simp; omega)), hbel⟩
      · go_wp2
        go_ret
        exact ⟨ret_bool (by rw [HL.out, HA.out, Bool.true_and]; first | rfl | (simp; omega)), hbel⟩
end Go.Proofs.Ythmcnoloeeabbaa
