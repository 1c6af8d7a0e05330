/- Logs: a list of valid records, both sides. No condition beyond a length. -/
import Derived.Test.YtoledbicmghmbaaGreatDoorRecT
namespace Go.Proofs.YtoledbicmghmbaaGreatDoor
open Go.RowKit

theorem Rd.seven {w : World} {A : Option Addr} {n k : Nat} {xs : List Int} (h : Rd w A (n * 7) (ints xs)) (hk : k < n) : ∃ ad, A = some ad ∧ w.cell? (ad.add (k * 7)) = some (.int .i64 (xs.getD (k * 7) 0)) ∧ w.cell? ⟨(ad.add (k * 7)).block, (ad.add (k * 7)).off + 1, none⟩ = some (.int .i64 (xs.getD (k * 7 + 1) 0)) ∧ w.cell? ⟨(ad.add (k * 7)).block, (ad.add (k * 7)).off + 2, none⟩ = some (.int .i64 (xs.getD (k * 7 + 2) 0)) ∧ w.cell? ⟨(ad.add (k * 7)).block, (ad.add (k * 7)).off + 3, none⟩ = some (.int .i64 (xs.getD (k * 7 + 3) 0)) ∧ w.cell? ⟨(ad.add (k * 7)).block, (ad.add (k * 7)).off + 4, none⟩ = some (.int .i64 (xs.getD (k * 7 + 4) 0)) ∧ w.cell? ⟨(ad.add (k * 7)).block, (ad.add (k * 7)).off + 5, none⟩ = some (.int .i64 (xs.getD (k * 7 + 5) 0)) ∧ w.cell? ⟨(ad.add (k * 7)).block, (ad.add (k * 7)).off + 6, none⟩ = some (.int .i64 (xs.getD (k * 7 + 6) 0)) := by
  obtain ⟨ad, rfl, h0⟩ := h.int (show k * 7 + 0 < n * 7 by omega)
  obtain ⟨_, ⟨⟩, h1⟩ := h.int (show k * 7 + 1 < n * 7 by omega)
  obtain ⟨_, ⟨⟩, h2⟩ := h.int (show k * 7 + 2 < n * 7 by omega)
  obtain ⟨_, ⟨⟩, h3⟩ := h.int (show k * 7 + 3 < n * 7 by omega)
  obtain ⟨_, ⟨⟩, h4⟩ := h.int (show k * 7 + 4 < n * 7 by omega)
  obtain ⟨_, ⟨⟩, h5⟩ := h.int (show k * 7 + 5 < n * 7 by omega)
  obtain ⟨_, ⟨⟩, h6⟩ := h.int (show k * 7 + 6 < n * 7 by omega)
  rw [Nat.add_zero] at h0
  rw [← fld_add _ _ 1 (by decide)] at h1
  rw [← fld_add _ _ 2 (by decide)] at h2
  rw [← fld_add _ _ 3 (by decide)] at h3
  rw [← fld_add _ _ 4 (by decide)] at h4
  rw [← fld_add _ _ 5 (by decide)] at h5
  rw [← fld_add _ _ 6 (by decide)] at h6
  exact ⟨_, rfl, h0, h1, h2, h3, h4, h5, h6⟩
def recAt (xs : List Int) (k : Nat) : Bool := recB (xs.getD (k * 7) 0) (xs.getD (k * 7 + 1) 0) (xs.getD (k * 7 + 2) 0) (xs.getD (k * 7 + 3) 0) (xs.getD (k * 7 + 4) 0) (xs.getD (k * 7 + 5) 0) (xs.getD (k * 7 + 6) 0)
def recsB (xs : List Int) (n : Nat) : Bool := (List.range n).all (recAt xs)
theorem recsB_succ (xs : List Int) (n : Nat) : recsB xs (n + 1) = (recsB xs n && recAt xs n) := by unfold recsB; rw [List.range_succ, List.all_append]; simp
theorem recsB_false {xs : List Int} {k n : Nat} (h : recAt xs k = false) (hk : k < n) : recsB xs n = false := by
  unfold recsB
  rw [Bool.eq_false_iff]
  intro c
  have := List.all_eq_true.1 c k (List.mem_range.2 hk)
  rw [h] at this
  cases this
theorem recsB_at {xs : List Int} {k n : Nat} (h : recsB xs n = true) (hk : k < n) : recAt xs k = true := List.all_eq_true.1 h k (List.mem_range.2 hk)
/-- a list of n records is a log -/
def logB (xs : List Int) (n : Nat) : Bool := recsB xs n && decide ((n : Int) ≤ 200)
set_option maxHeartbeats 1000000 in
theorem badRecord_any (t k l x y d r : Int) (w : World) :
    Calls Tryz.prog 30 #[.agg #[.int .i64 t, .int .i64 k, .int .i64 l, .int .i64 x, .int .i64 y, .int .i64 d, .int .i64 r]] w fun e w' => e = .returned (.bool (!(recB t k l x y d r))) ∧ Below w.heap.size w w' := by
  have b0 : Below w.heap.size w (w.alloc (.cells (recV t k l x y d r) 45)) := (Below.refl _ _).alloc (Nat.le_refl _) _
  unfold recV at b0
  rcases Bool.eq_false_or_eq_true (recB t k l x y d r) with h | h
  all_goals
    go_enter Tryz.func30, Tryz.ntmps30
    go_wp2_with fail
    refine (implIsRecord_any t k l x y d r _).mono ?_
    rintro e w1 ⟨rfl, b1⟩
    have b2 := b0.trans (b1.mono b0.size)
    go_wp2
    go_ret
    exact ⟨ret_bool (by rw [h]; rfl), b2⟩

set_option maxRecDepth 100000 in
set_option maxHeartbeats 2000000 in
theorem indexBadRec_any (A : Option Addr) (n c : Nat) (xs : List Int) (w : World) (hn : n ≤ 9223372036854775807) (hr : Rd w A (n * 7) (ints xs)) :
    Calls Tryz.prog 47 #[.slice A n c, .func (.func 30) #[] #[]] w fun e w' => ∃ v : Int, e = .returned (.int .i64 v) ∧ (decide (v ≥ 0)) = !(recsB xs n) ∧ Below w.heap.size w w' := by
  go_enter Tryz.func47, Tryz.ntmps47
  go_wp2
  go_loopw [8] (fun i wr => ∃ k : Nat, k ≤ n ∧ i = .int .i64 k ∧ recsB xs k = true ∧ Below w.heap.size w wr)
    (fun i _ => n - (intOf i).toNat)
  case atStart => exact ⟨0, Nat.zero_le _, rfl, rfl, Below.refl _ _⟩
  case round =>
    obtain ⟨k, hk, rfl, hall, hbel⟩ := hrel
    have HA := Lib.hid hall
    clear hall
    by_cases hlt : k < n
    · skip
      obtain ⟨ad, rfl, hx0, hx1, hx2, hx3, hx4, hx5, hx6⟩ := (hr.below hbel).seven hlt
      have HS : Hid (recsB xs (k + 1) = (recsB xs k && recAt xs k)) := recsB_succ xs k
      have HF : Hid (recAt xs k = false → recsB xs n = false) := fun h => recsB_false h hlt
      have HP : Hid (recAt xs k = recB (xs.getD (k * 7) 0) (xs.getD (k * 7 + 1) 0) (xs.getD (k * 7 + 2) 0) (xs.getD (k * 7 + 3) 0) (xs.getD (k * 7 + 4) 0) (xs.getD (k * 7 + 5) 0) (xs.getD (k * 7 + 6) 0)) := rfl
      have hi0 : (0 : Int) ≤ (k : Int) := by omega
      have hi1 : (k : Int) < (n : Int) := by omega
      generalize xs.getD (k * 7) 0 = x0 at *
      generalize xs.getD (k * 7 + 1) 0 = x1 at *
      generalize xs.getD (k * 7 + 2) 0 = x2 at *
      generalize xs.getD (k * 7 + 3) 0 = x3 at *
      generalize xs.getD (k * 7 + 4) 0 = x4 at *
      generalize xs.getD (k * 7 + 5) 0 = x5 at *
      generalize xs.getD (k * 7 + 6) 0 = x6 at *
      rcases Bool.eq_false_or_eq_true (recB x0 x1 x2 x3 x4 x5 x6) with h | h
      · have HH := Lib.hid h
        go_wp2_with fail
        refine (badRecord_any x0 x1 x2 x3 x4 x5 x6 _).mono ?_
        rw [HH.out]
        rintro e w1 ⟨rfl, b1⟩
        have b2 := hbel.trans (b1.mono hbel.size)
        go_wp2
        go_roundw
        case rel => exact ⟨k + 1, by omega, by go_num, by rw [HS.out, HA.out, HP.out, HH.out]; rfl, b2⟩
        case measure => simp [intOf]; omega
      · have HH := Lib.hid h
        go_wp2_with fail
        refine (badRecord_any x0 x1 x2 x3 x4 x5 x6 _).mono ?_
        rw [HH.out]
        rintro e w1 ⟨rfl, b1⟩
        have b2 := hbel.trans (b1.mono hbel.size)
        go_wp2
        go_ret
        exact ⟨k, rfl, by rw [HF.out (by rw [HP.out, HH.out])]; simp, b2⟩
    · obtain rfl : k = n := by omega
      go_wp2
      go_ret
      exact ⟨-1, rfl, by rw [HA.out]; rfl, hbel⟩
set_option maxHeartbeats 1000000 in
theorem containsBadRec_any (A : Option Addr) (n c : Nat) (xs : List Int) (w : World) (hn : n ≤ 9223372036854775807) (hr : Rd w A (n * 7) (ints xs)) :
    Calls Tryz.prog 29 #[.slice A n c, .func (.func 30) #[] #[]] w fun e w' => e = .returned (.bool (!(recsB xs n))) ∧ Below w.heap.size w w' := by
  go_enter Tryz.func29, Tryz.ntmps29
  go_wp2_with (go_at_call 47; refine (indexBadRec_any _ _ _ xs _ hn hr).mono ?_; rintro e w' ⟨v, rfl, hv, hb⟩)
  go_ret
  exact ⟨ret_bool (by rw [← hv]), hb⟩
set_option maxHeartbeats 1000000 in
theorem isLog_any (A : Option Addr) (n c : Nat) (xs : List Int) (w : World) (hn : n ≤ 9223372036854775807) (hr : Rd w A (n * 7) (ints xs)) :
    Calls Tryz.prog 16 #[.slice A n c] w fun e w' => e = .returned (.bool (logB xs n)) ∧ Below w.heap.size w w' := by
  have HL : Hid (logB xs n = (recsB xs n && decide ((n : Int) ≤ 200))) := rfl
  by_cases h : (n : Int) ≤ 200
  · go_enter Tryz.func16, Tryz.ntmps16
    go_wp2_with (go_at_call 29; refine (containsBadRec_any _ _ _ xs _ hn hr).mono ?_; rintro e w' ⟨rfl, hb⟩)
    go_ret
    exact ⟨ret_bool (by rw [HL.out, decide_eq_true h]; simp), hb⟩
  · go_enter Tryz.func16, Tryz.ntmps16
    go_wp2_with fail
    go_ret
    exact ⟨ret_bool (by rw [HL.out, decide_eq_false (by omega)]; simp), Below.refl _ _⟩
set_option maxRecDepth 100000 in
set_option maxHeartbeats 2000000 in
theorem l31Log_any (A : Option Addr) (n c : Nat) (xs : List Int) (w : World) (hn : n ≤ 9223372036854775807) (hr : Rd w A (n * 7) (ints xs)) :
    Calls Tryz.prog 18 #[.slice A n c] w fun e w' => e = .returned (.bool (logB xs n)) ∧ Below w.heap.size w w' := by
  have HL : Hid (logB xs n = (recsB xs n && decide ((n : Int) ≤ 200))) := rfl
  go_enter Tryz.func18, Tryz.ntmps18
  go_wp2
  go_loopw [3] (fun i wr => ∃ k : Nat, k ≤ n ∧ i = .int .i64 k ∧ recsB xs k = true ∧ Below w.heap.size w wr)
    (fun i _ => n - (intOf i).toNat)
  case atStart => exact ⟨0, Nat.zero_le _, rfl, rfl, Below.refl _ _⟩
  case round =>
    obtain ⟨k, hk, rfl, hall, hbel⟩ := hrel
    have HA := Lib.hid hall
    clear hall
    by_cases hlt : k < n
    · skip
      obtain ⟨ad, rfl, hx0, hx1, hx2, hx3, hx4, hx5, hx6⟩ := (hr.below hbel).seven hlt
      have HS : Hid (recsB xs (k + 1) = (recsB xs k && recAt xs k)) := recsB_succ xs k
      have HF : Hid (recAt xs k = false → recsB xs n = false) := fun h => recsB_false h hlt
      have HP : Hid (recAt xs k = recB (xs.getD (k * 7) 0) (xs.getD (k * 7 + 1) 0) (xs.getD (k * 7 + 2) 0) (xs.getD (k * 7 + 3) 0) (xs.getD (k * 7 + 4) 0) (xs.getD (k * 7 + 5) 0) (xs.getD (k * 7 + 6) 0)) := rfl
      have hi0 : (0 : Int) ≤ (k : Int) := by omega
      have hi1 : (k : Int) < (n : Int) := by omega
      generalize xs.getD (k * 7) 0 = x0 at *
      generalize xs.getD (k * 7 + 1) 0 = x1 at *
      generalize xs.getD (k * 7 + 2) 0 = x2 at *
      generalize xs.getD (k * 7 + 3) 0 = x3 at *
      generalize xs.getD (k * 7 + 4) 0 = x4 at *
      generalize xs.getD (k * 7 + 5) 0 = x5 at *
      generalize xs.getD (k * 7 + 6) 0 = x6 at *
      rcases Bool.eq_false_or_eq_true (recB x0 x1 x2 x3 x4 x5 x6) with h | h
      · have HH := Lib.hid h
        go_wp2_with fail
        refine (specIsRecord_any x0 x1 x2 x3 x4 x5 x6 _).mono ?_
        rw [HH.out]
        rintro e w1 ⟨rfl, b1⟩
        have b2 := hbel.trans (b1.mono hbel.size)
        go_wp2
        go_roundw
        case rel => exact ⟨k + 1, by omega, by go_num, by rw [HS.out, HA.out, HP.out, HH.out]; rfl, b2⟩
        case measure => simp [intOf]; omega
      · have HH := Lib.hid h
        go_wp2_with fail
        refine (specIsRecord_any x0 x1 x2 x3 x4 x5 x6 _).mono ?_
        rw [HH.out]
        rintro e w1 ⟨rfl, b1⟩
        have b2 := hbel.trans (b1.mono hbel.size)
        go_wp2
        go_ret
        exact ⟨ret_bool (by rw [HL.out, HF.out (by rw [HP.out, HH.out])]; rfl), b2⟩
    · obtain rfl : k = n := by omega
      go_wp2
      go_ret
      exact ⟨ret_bool (by rw [HL.out, HA.out]; rfl), hbel⟩
end Go.Proofs.YtoledbicmghmbaaGreatDoor
