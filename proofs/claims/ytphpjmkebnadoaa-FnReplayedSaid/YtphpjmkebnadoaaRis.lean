/- Rising lists, both sides (from XFraX, for seats without frames). Condition: lists of at most 2097152 numbers. -/
import Derived.Test.YtphpjmkebnadoaaTI
import Derived.IntWalk
namespace Go.Proofs.Ytphpjmkebnadoaa
open Go.RowKit

def risAt (xs : List Int) (n : Int) (j : Nat) : Bool := decide (0 ≤ xs.getD j 0) && (decide (xs.getD j 0 < n) && (decide (j = 0) || decide (xs.getD (j - 1) 0 < xs.getD j 0)))
def risTo (xs : List Int) (n : Int) (k : Nat) : Bool := (List.range k).all (risAt xs n)
def risB (xs : List Int) (n : Int) : Bool := risTo xs n xs.length
theorem risTo_succ (xs : List Int) (n : Int) (k : Nat) : risTo xs n (k + 1) = (risTo xs n k && risAt xs n k) := by unfold risTo; rw [List.range_succ, List.all_append]; simp
theorem risB_false {xs : List Int} {n : Int} {k : Nat} (hk : k < xs.length) (h : risAt xs n k = false) : risB xs n = false := by
  rw [Bool.eq_false_iff]; intro c
  unfold risB risTo at c
  rw [List.all_eq_true] at c
  rw [c k (List.mem_range.2 hk)] at h; cases h
theorem risB_in {xs : List Int} {n : Int} (h : risB xs n = true) : ∀ p ∈ xs, 0 ≤ p ∧ p < n := fun p hp => by
  obtain ⟨k, hk, rfl⟩ := List.getElem_of_mem hp
  unfold risB risTo at h
  rw [List.all_eq_true] at h
  have h2 := h k (List.mem_range.2 hk)
  unfold risAt at h2
  rw [Bool.and_eq_true, Bool.and_eq_true, getD_at hk] at h2
  exact ⟨by simpa using h2.1, by simpa using h2.2.1⟩

set_option maxHeartbeats 2000000 in
theorem isRising_any (A : Option Addr) (q c : Nat) (xs : List Int) (n : Int) (w : World) (hq : q ≤ 2097152) (hr : Rd w A q (ints xs)) :
    Calls Try.prog 55 #[.slice A q c, .int .i64 n] w fun e w' => e = .returned (.bool (risB xs n)) ∧ Below w.heap.size w w' := by
  have HL := Lib.hid hr.len
  go_enter Try.func55, Try.ntmps55
  go_wp2
  go_loopw [5, 6, 9] (fun _ _ i wr => ∃ k u : Nat, k ≤ q ∧ i = .int .i64 k ∧ risTo xs n k = true ∧ wr = w.drewN u) (fun _ _ i _ => q - (intOf i).toNat)
  case atStart => exact ⟨0, 0, Nat.zero_le _, rfl, rfl, rfl⟩
  case round =>
    obtain ⟨k, u, hk, rfl, hall, rfl⟩ := hrel
    have HA := Lib.hid hall
    clear hall
    by_cases hlt : k < q
    · have hltI : (k : Int) < (q : Int) := by omega
      obtain ⟨ad, rfl, hx⟩ := hr.int hlt
      have HS := Lib.hid (risTo_succ xs n k)
      have HF : Hid (risAt xs n k = false → risB xs n = false) := fun h => risB_false (by rw [HL.out]; exact hlt) h
      by_cases hk0 : k = 0
      · subst hk0
        rw [Addr.add_zero'] at hx
        have hq0 : 0 < q := hlt
        have HR : Hid (risAt xs n 0 = (decide (0 ≤ xs.getD 0 0) && decide (xs.getD 0 0 < n))) := by unfold Hid risAt; simp
        generalize xs.getD 0 0 = x at *
        by_cases h1 : x < 0
        · have HV := Lib.hid (HF.out (by rw [HR.out, decide_eq_false (by omega)]; rfl))
          have g1 : decide (x < 0) = true := by simpa using h1
          clear HF HR HS
          go_wp2
          go_ret
          exact ⟨by rw [HV.out]; rfl, (by first | exact Below.drewN (Below.refl _ _) _ | exact Below.drewN (Below.drewN (Below.refl _ _) _) _)⟩
        · have g1 : decide (x < 0) = false := by simpa using h1
          by_cases h2 : n ≤ x
          · have HV := Lib.hid (HF.out (by rw [HR.out, decide_eq_false (show ¬ x < n by omega)]; simp))
            have g2 : decide (n ≤ x) = true := by simpa using h2
            clear HF HR HS
            go_wp2
            go_ret
            exact ⟨by rw [HV.out]; rfl, (by first | exact Below.drewN (Below.refl _ _) _ | exact Below.drewN (Below.drewN (Below.refl _ _) _) _)⟩
          · have g2 : decide (n ≤ x) = false := by simpa using h2
            have g3 : decide ((0 : Int) < ((0 : Nat) : Int)) = false := by decide
            have HV : Hid (risTo xs n (0 + 1) = true) := by unfold Hid; rw [HS.out, HA.out, HR.out, decide_eq_true (show 0 ≤ x by omega), decide_eq_true (show x < n by omega)]; rfl
            clear HF HR HS
            go_wp2
            go_roundw
            case rel => exact ⟨0 + 1, _, by omega, by go_num, HV.out, rfl⟩
            case measure => simp [intOf]; omega
      · obtain ⟨_, ⟨⟩, hz⟩ := hr.int (show k - 1 < q by omega)
        have HR : Hid (risAt xs n k = (decide (0 ≤ xs.getD k 0) && (decide (xs.getD k 0 < n) && decide (xs.getD (k - 1) 0 < xs.getD k 0)))) := by unfold Hid risAt; simp [hk0]
        generalize xs.getD k 0 = x at *
        generalize xs.getD (k - 1) 0 = z at *
        have i0 : (0 : Int) < (k : Int) := by omega
        have g3 : decide ((0 : Int) < (k : Int)) = true := decide_eq_true i0
        have g5 : decide (0 < k) = true := decide_eq_true (by omega)
        have i1 : (0 : Int) ≤ (k : Int) - 1 := by omega
        have i2 : (k : Int) - 1 < (q : Int) := by omega
        have i3 : ((k : Int) - 1).toNat = k - 1 := by omega
        have i4 : IntKind.i64.wrap ((k : Int) - 1) = (k : Int) - 1 := IntWalk.i64_in _ (by omega)
        by_cases h1 : x < 0
        · have HV := Lib.hid (HF.out (by rw [HR.out, decide_eq_false (by omega)]; rfl))
          have g1 : decide (x < 0) = true := by simpa using h1
          clear HF HR HS
          go_wp2
          go_ret
          exact ⟨by rw [HV.out]; rfl, (by first | exact Below.drewN (Below.refl _ _) _ | exact Below.drewN (Below.drewN (Below.refl _ _) _) _)⟩
        · have g1 : decide (x < 0) = false := by simpa using h1
          by_cases h2 : n ≤ x
          · have HV := Lib.hid (HF.out (by rw [HR.out, decide_eq_false (show ¬ x < n by omega)]; simp))
            have g2 : decide (n ≤ x) = true := by simpa using h2
            clear HF HR HS
            go_wp2
            go_ret
            exact ⟨by rw [HV.out]; rfl, (by first | exact Below.drewN (Below.refl _ _) _ | exact Below.drewN (Below.drewN (Below.refl _ _) _) _)⟩
          · have g2 : decide (n ≤ x) = false := by simpa using h2
            by_cases h3 : x ≤ z
            · have HV := Lib.hid (HF.out (by rw [HR.out, decide_eq_false (show ¬ z < x by omega)]; simp))
              have g4 : decide (x ≤ z) = true := by simpa using h3
              clear HF HR HS
              go_wp2
              go_ret
              exact ⟨by rw [HV.out]; rfl, (by first | exact Below.drewN (Below.refl _ _) _ | exact Below.drewN (Below.drewN (Below.refl _ _) _) _)⟩
            · have g4 : decide (x ≤ z) = false := by simpa using h3
              have HV : Hid (risTo xs n (k + 1) = true) := by unfold Hid; rw [HS.out, HA.out, HR.out, decide_eq_true (show 0 ≤ x by omega), decide_eq_true (show x < n by omega), decide_eq_true (show z < x by omega)]; rfl
              clear HF HR HS
              go_wp2
              go_roundw
              case rel => exact ⟨k + 1, _, by omega, by go_num, HV.out, rfl⟩
              case measure => simp [intOf]; omega
    · obtain rfl : k = q := by omega
      have HE : Hid (risB xs n = true) := by unfold Hid risB; rw [HL.out]; exact HA.out
      go_wp2
      go_ret
      exact ⟨by rw [HE.out]; rfl, (by first | exact Below.drewN (Below.refl _ _) _ | exact Below.drewN (Below.drewN (Below.refl _ _) _) _)⟩

set_option maxHeartbeats 2000000 in
theorem l01Rises_any (A : Option Addr) (q c : Nat) (xs : List Int) (n : Int) (w : World) (hq : q ≤ 2097152) (hr : Rd w A q (ints xs)) :
    Calls Try.prog 110 #[.slice A q c, .int .i64 n] w fun e w' => e = .returned (.bool (risB xs n)) ∧ Below w.heap.size w w' := by
  have HL := Lib.hid hr.len
  go_enter Try.func110, Try.ntmps110
  go_wp2
  go_loopw [5] (fun i wr => ∃ k u : Nat, k ≤ q ∧ i = .int .i64 k ∧ risTo xs n k = true ∧ wr = w.drewN u) (fun i _ => q - (intOf i).toNat)
  case atStart => exact ⟨0, 0, Nat.zero_le _, rfl, rfl, rfl⟩
  case round =>
    obtain ⟨k, u, hk, rfl, hall, rfl⟩ := hrel
    have HA := Lib.hid hall
    clear hall
    by_cases hlt : k < q
    · have hltI : (k : Int) < (q : Int) := by omega
      obtain ⟨ad, rfl, hx⟩ := hr.int hlt
      have HS := Lib.hid (risTo_succ xs n k)
      have HF : Hid (risAt xs n k = false → risB xs n = false) := fun h => risB_false (by rw [HL.out]; exact hlt) h
      by_cases hk0 : k = 0
      · subst hk0
        rw [Addr.add_zero'] at hx
        have hq0 : 0 < q := hlt
        have HR : Hid (risAt xs n 0 = (decide (0 ≤ xs.getD 0 0) && decide (xs.getD 0 0 < n))) := by unfold Hid risAt; simp
        generalize xs.getD 0 0 = x at *
        by_cases h1 : x < 0
        · have HV := Lib.hid (HF.out (by rw [HR.out, decide_eq_false (by omega)]; rfl))
          have g1 : decide (x < 0) = true := by simpa using h1
          clear HF HR HS
          go_wp2_with fail
          go_quiet (fail)
          go_wp2
          go_ret
          exact ⟨by rw [HV.out]; rfl, (by first | exact Below.drewN (Below.refl _ _) _ | exact Below.drewN (Below.drewN (Below.refl _ _) _) _)⟩
        · have g1 : decide (x < 0) = false := by simpa using h1
          by_cases h2 : n ≤ x
          · have HV := Lib.hid (HF.out (by rw [HR.out, decide_eq_false (show ¬ x < n by omega)]; simp))
            have g2 : decide (n ≤ x) = true := by simpa using h2
            clear HF HR HS
            go_wp2_with fail
            go_quiet (fail)
            go_wp2
            go_ret
            exact ⟨by rw [HV.out]; rfl, (by first | exact Below.drewN (Below.refl _ _) _ | exact Below.drewN (Below.drewN (Below.refl _ _) _) _)⟩
          · have g2 : decide (n ≤ x) = false := by simpa using h2
            have g3 : decide ((0 : Int) < ((0 : Nat) : Int)) = false := by decide
            have HV : Hid (risTo xs n (0 + 1) = true) := by unfold Hid; rw [HS.out, HA.out, HR.out, decide_eq_true (show 0 ≤ x by omega), decide_eq_true (show x < n by omega)]; rfl
            clear HF HR HS
            go_wp2_with fail
            go_quiet (fail)
            go_wp2
            go_roundw
            case rel => exact ⟨0 + 1, _, by omega, by go_num, HV.out, rfl⟩
            case measure => simp [intOf]; omega
      · obtain ⟨_, ⟨⟩, hz⟩ := hr.int (show k - 1 < q by omega)
        have HR : Hid (risAt xs n k = (decide (0 ≤ xs.getD k 0) && (decide (xs.getD k 0 < n) && decide (xs.getD (k - 1) 0 < xs.getD k 0)))) := by unfold Hid risAt; simp [hk0]
        generalize xs.getD k 0 = x at *
        generalize xs.getD (k - 1) 0 = z at *
        have i0 : (0 : Int) < (k : Int) := by omega
        have g3 : decide ((0 : Int) < (k : Int)) = true := decide_eq_true i0
        have g5 : decide (0 < k) = true := decide_eq_true (by omega)
        have i1 : (0 : Int) ≤ (k : Int) - 1 := by omega
        have i2 : (k : Int) - 1 < (q : Int) := by omega
        have i3 : ((k : Int) - 1).toNat = k - 1 := by omega
        have i4 : IntKind.i64.wrap ((k : Int) - 1) = (k : Int) - 1 := IntWalk.i64_in _ (by omega)
        by_cases h1 : x < 0
        · have HV := Lib.hid (HF.out (by rw [HR.out, decide_eq_false (by omega)]; rfl))
          have g1 : decide (x < 0) = true := by simpa using h1
          clear HF HR HS
          go_wp2_with fail
          go_quiet (fail)
          go_wp2
          go_ret
          exact ⟨by rw [HV.out]; rfl, (by first | exact Below.drewN (Below.refl _ _) _ | exact Below.drewN (Below.drewN (Below.refl _ _) _) _)⟩
        · have g1 : decide (x < 0) = false := by simpa using h1
          by_cases h2 : n ≤ x
          · have HV := Lib.hid (HF.out (by rw [HR.out, decide_eq_false (show ¬ x < n by omega)]; simp))
            have g2 : decide (n ≤ x) = true := by simpa using h2
            clear HF HR HS
            go_wp2_with fail
            go_quiet (fail)
            go_wp2
            go_ret
            exact ⟨by rw [HV.out]; rfl, (by first | exact Below.drewN (Below.refl _ _) _ | exact Below.drewN (Below.drewN (Below.refl _ _) _) _)⟩
          · have g2 : decide (n ≤ x) = false := by simpa using h2
            by_cases h3 : x ≤ z
            · have HV := Lib.hid (HF.out (by rw [HR.out, decide_eq_false (show ¬ z < x by omega)]; simp))
              have g4 : decide (x ≤ z) = true := by simpa using h3
              clear HF HR HS
              go_wp2_with fail
              go_quiet (fail)
              go_wp2
              go_ret
              exact ⟨by rw [HV.out]; rfl, (by first | exact Below.drewN (Below.refl _ _) _ | exact Below.drewN (Below.drewN (Below.refl _ _) _) _)⟩
            · have g4 : decide (x ≤ z) = false := by simpa using h3
              have HV : Hid (risTo xs n (k + 1) = true) := by unfold Hid; rw [HS.out, HA.out, HR.out, decide_eq_true (show 0 ≤ x by omega), decide_eq_true (show x < n by omega), decide_eq_true (show z < x by omega)]; rfl
              clear HF HR HS
              go_wp2_with fail
              go_quiet (fail)
              go_wp2
              go_roundw
              case rel => exact ⟨k + 1, _, by omega, by go_num, HV.out, rfl⟩
              case measure => simp [intOf]; omega
    · obtain rfl : k = q := by omega
      have HE : Hid (risB xs n = true) := by unfold Hid risB; rw [HL.out]; exact HA.out
      go_wp2
      go_ret
      exact ⟨by rw [HE.out]; rfl, (by first | exact Below.drewN (Below.refl _ _) _ | exact Below.drewN (Below.drewN (Below.refl _ _) _) _)⟩

end Go.Proofs.Ytphpjmkebnadoaa
