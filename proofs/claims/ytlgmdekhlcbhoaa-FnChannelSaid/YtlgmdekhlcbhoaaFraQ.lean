/- Two lists of numbers compared, both sides. No condition beyond Go's own. -/
import Derived.Test.YtlgmdekhlcbhoaaFraB
namespace Go.Proofs.Ytlgmdekhlcbhoaa
open Go.RowKit

set_option maxHeartbeats 1000000 in
theorem equalL_any (A : Option Addr) (n c : Nat) (xs : List Int) (B : Option Addr) (m d : Nat) (ys : List Int) (w : World) (hn : n ≤ 9223372036854775807) (hm : m ≤ 9223372036854775807) (hr : Rd w A n (ints xs)) (hq : Rd w B m (ints ys)) :
    Calls Try.prog 159 #[.slice A n c, .slice B m d] w fun e w' => e = .returned (.bool (decide (xs = ys))) ∧ Below w.heap.size w w' := by
  have HL := Lib.hid hr.len
  have HM := Lib.hid hq.len
  by_cases hnm : n = m
  · subst hnm
    clear hm
    go_enter Try.func159, Try.ntmps159
    go_wp2
    go_loopw [13] (fun i wr => ∃ k u : Nat, k ≤ n ∧ i = .int .i64 k ∧ (∀ j, j < k → xs.getD j 0 = ys.getD j 0) ∧ wr = w.drewN u) (fun i _ => n - (intOf i).toNat)
    case atStart => exact ⟨0, 0, Nat.zero_le _, rfl, fun j h => by omega, rfl⟩
    case round =>
      obtain ⟨k, u, hk, rfl, hall, rfl⟩ := hrel
      have HA := Lib.hid hall
      clear hall
      by_cases hlt : k < n
      · obtain ⟨ad, rfl, hx⟩ := hr.int hlt
        obtain ⟨bd, rfl, hy⟩ := hq.int hlt
        have hltI : (k : Int) < (n : Int) := by omega
        have HXY : Hid (xs.getD k 0 = ys.getD k 0 → ∀ j, j < k + 1 → xs.getD j 0 = ys.getD j 0) := fun h j hj => by
          rcases Nat.lt_or_ge j k with h1 | h1
          · exact HA.out j h1
          · obtain rfl : k = j := by omega
            exact h
        have HNE : Hid (xs.getD k 0 ≠ ys.getD k 0 → decide (xs = ys) = false) := fun h => decide_eq_false (fun e => h (by rw [e]))
        generalize xs.getD k 0 = x at *
        generalize ys.getD k 0 = y at *
        rcases Bool.eq_false_or_eq_true (x != y) with e2 | e2
        · have HE := Lib.hid (HNE.out (by simpa using e2))
          clear HNE HXY
          go_wp2_with fail
          go_quiet (fail)
          go_wp2
          go_ret
          exact ⟨by rw [HE.out]; rfl, Below.drewN (Below.drewN (Below.refl _ _) _) _⟩
        · have HE := Lib.hid (HXY.out (by simpa using e2))
          clear HNE HXY
          go_wp2_with fail
          go_quiet (fail)
          go_wp2
          go_roundw
          case rel => exact ⟨k + 1, _, by omega, by go_num, HE.out, rfl⟩
          case measure => simp [intOf]; omega
      · obtain rfl : k = n := by omega
        have HE : Hid (decide (xs = ys) = true) := by
          refine decide_eq_true (List.ext_getElem (by rw [HL.out, HM.out]) fun i h1 h2 => ?_)
          have := HA.out i (by rw [← HL.out]; exact h1)
          rw [getD_at h1, getD_at h2] at this
          exact this
        go_wp2
        go_ret
        exact ⟨by rw [HE.out]; rfl, Below.drewN (Below.refl _ _) _⟩
  · have HE : Hid (decide (xs = ys) = false) := decide_eq_false (fun e => hnm (by rw [← HL.out, ← HM.out, e]))
    have hnI : ¬ ((n : Int) = (m : Int)) := by omega
    go_enter Try.func159, Try.ntmps159
    go_wp2
    go_ret
    exact ⟨by rw [HE.out]; rfl, Below.refl _ _⟩

set_option maxHeartbeats 1000000 in
theorem l01Same_any (A : Option Addr) (n c : Nat) (xs : List Int) (B : Option Addr) (m d : Nat) (ys : List Int) (w : World) (hn : n ≤ 9223372036854775807) (hm : m ≤ 9223372036854775807) (hr : Rd w A n (ints xs)) (hq : Rd w B m (ints ys)) :
    Calls Try.prog 105 #[.slice A n c, .slice B m d] w fun e w' => e = .returned (.bool (decide (xs = ys))) ∧ Below w.heap.size w w' := by
  have HL := Lib.hid hr.len
  have HM := Lib.hid hq.len
  by_cases hnm : n = m
  · subst hnm
    clear hm
    go_enter Try.func105, Try.ntmps105
    go_wp2
    go_loopw [5] (fun i wr => ∃ k u : Nat, k ≤ n ∧ i = .int .i64 k ∧ (∀ j, j < k → xs.getD j 0 = ys.getD j 0) ∧ wr = w.drewN u) (fun i _ => n - (intOf i).toNat)
    case atStart => exact ⟨0, 0, Nat.zero_le _, rfl, fun j h => by omega, rfl⟩
    case round =>
      obtain ⟨k, u, hk, rfl, hall, rfl⟩ := hrel
      have HA := Lib.hid hall
      clear hall
      by_cases hlt : k < n
      · obtain ⟨ad, rfl, hx⟩ := hr.int hlt
        obtain ⟨bd, rfl, hy⟩ := hq.int hlt
        have hltI : (k : Int) < (n : Int) := by omega
        have HXY : Hid (xs.getD k 0 = ys.getD k 0 → ∀ j, j < k + 1 → xs.getD j 0 = ys.getD j 0) := fun h j hj => by
          rcases Nat.lt_or_ge j k with h1 | h1
          · exact HA.out j h1
          · obtain rfl : k = j := by omega
            exact h
        have HNE : Hid (xs.getD k 0 ≠ ys.getD k 0 → decide (xs = ys) = false) := fun h => decide_eq_false (fun e => h (by rw [e]))
        generalize xs.getD k 0 = x at *
        generalize ys.getD k 0 = y at *
        rcases Bool.eq_false_or_eq_true (x != y) with e2 | e2
        · have HE := Lib.hid (HNE.out (by simpa using e2))
          clear HNE HXY
          go_wp2_with fail
          go_quiet (fail)
          go_wp2
          go_ret
          exact ⟨by rw [HE.out]; rfl, Below.drewN (Below.drewN (Below.refl _ _) _) _⟩
        · have HE := Lib.hid (HXY.out (by simpa using e2))
          clear HNE HXY
          go_wp2_with fail
          go_quiet (fail)
          go_wp2
          go_roundw
          case rel => exact ⟨k + 1, _, by omega, by go_num, HE.out, rfl⟩
          case measure => simp [intOf]; omega
      · obtain rfl : k = n := by omega
        have HE : Hid (decide (xs = ys) = true) := by
          refine decide_eq_true (List.ext_getElem (by rw [HL.out, HM.out]) fun i h1 h2 => ?_)
          have := HA.out i (by rw [← HL.out]; exact h1)
          rw [getD_at h1, getD_at h2] at this
          exact this
        go_wp2
        go_ret
        exact ⟨by rw [HE.out]; rfl, Below.drewN (Below.refl _ _) _⟩
  · have HE : Hid (decide (xs = ys) = false) := decide_eq_false (fun e => hnm (by rw [← HL.out, ← HM.out, e]))
    have hnI : ¬ ((n : Int) = (m : Int)) := by omega
    go_enter Try.func105, Try.ntmps105
    go_wp2
    go_ret
    exact ⟨by rw [HE.out]; rfl, Below.refl _ _⟩
end Go.Proofs.Ytlgmdekhlcbhoaa
