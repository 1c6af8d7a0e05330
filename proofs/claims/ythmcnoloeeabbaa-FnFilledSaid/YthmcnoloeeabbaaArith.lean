/- Division rounded down and up by a number greater than 0. Condition: both numbers are at most 2^62 in absolute value. -/
import Derived.Test.YthmcnoloeeabbaaKern
namespace Go.Proofs.Ythmcnoloeeabbaa
open Go.RowKit

theorem tdiv_neg_exact {a b : Int} (h : a.tmod b = 0) : a.tdiv b = a / b := by
  have hd : b ∣ a := Int.dvd_of_tmod_eq_zero h
  rw [Int.tdiv_eq_ediv]; simp [hd]
theorem tdiv_neg_other {a b : Int} (ha : a < 0) (hb : 0 < b) (h : a.tmod b ≠ 0) : a.tdiv b - 1 = a / b := by
  have hd : ¬ b ∣ a := fun c => h (Int.tmod_eq_zero_of_dvd c)
  rw [Int.tdiv_eq_ediv, if_neg (by rintro (c | c); omega; exact hd c), Int.sign_eq_one_of_pos hb]
  omega
theorem ediv_bd {a b : Int} (hb : 0 < b) (h1 : -4611686018427387904 ≤ a) (h2 : a ≤ 4611686018427387904) : -4611686018427387904 ≤ a / b ∧ a / b ≤ 4611686018427387904 := by
  have := Int.ediv_mul_le a (show b ≠ 0 by omega)
  have h4 := Int.lt_ediv_add_one_mul_self a hb
  constructor
  · rcases Int.le_total 0 a with h | h
    · have := Int.ediv_nonneg h (by omega : (0:Int) ≤ b); omega
    · have : a ≤ a / b := by
        have := Int.le_ediv_of_mul_le (a := a) (b := a) hb (by
          have : a * b ≤ a * 1 := Int.mul_le_mul_of_nonpos_left h (by omega)
          omega)
        exact this
      omega
  · rcases Int.le_total 0 a with h | h
    · have := Int.ediv_le_self b h; omega
    · have : a / b ≤ 0 := by
        have h5 : a / b * b ≤ 0 := by omega
        rcases Int.lt_or_le 0 (a / b) with h6 | h6
        · have := Int.mul_pos h6 hb; omega
        · exact h6
      omega

set_option maxHeartbeats 400000 in
theorem floorDiv_any (a b : Int) (w : World) (h1 : -4611686018427387904 ≤ a) (h2 : a ≤ 4611686018427387904) (hb : 0 < b) (hb2 : b ≤ 4611686018427387904) :
    Calls Try.prog 116 #[.int .i64 a, .int .i64 b] w fun e w' => e = .returned (.int .i64 (a / b)) ∧ w = w' := by
  obtain ⟨b1, b2⟩ := ediv_bd hb h1 h2
  by_cases ha : 0 ≤ a
  · have e1 : decide (a < 0) = false := by simp; omega
    have e2 : decide (b < 0) = false := by simp; omega
    rcases Bool.eq_false_or_eq_true (a % b != 0) with h | h
    · go_enter Try.func116, Try.ntmps116
      go_wp2
      go_ret
      exact ⟨rfl, rfl⟩
    · go_enter Try.func116, Try.ntmps116
      go_wp2
      go_ret
      exact ⟨rfl, rfl⟩
  · have hq := Int.tdiv_eq_ediv (a := a) (b := b)
    have hlo : -4611686018427387904 ≤ a.tdiv b ∧ a.tdiv b ≤ 4611686018427387904 := by
      by_cases hm : a.tmod b = 0
      · rw [tdiv_neg_exact hm]; omega
      · have := tdiv_neg_other (by omega) hb hm
        have := ediv_bd hb h1 h2
        have : a.tdiv b ≤ 0 := by
          rcases Int.lt_or_le 0 (a / b) with h6 | h6
          · have h7 := Int.mul_pos h6 hb
            have := Int.ediv_mul_le a (show b ≠ 0 by omega)
            omega
          · rcases Int.lt_or_le (a / b) 0 with h8 | h8
            · omega
            · have h9 : a / b = 0 := by omega
              have := Int.lt_ediv_add_one_mul_self a hb
              have h10 := Int.ediv_mul_le a (show b ≠ 0 by omega)
              rw [h9] at h10
              omega
        omega
    clear hq
    have HD : Hid (a.tmod b = 0 → a.tdiv b = a / b) := fun h => tdiv_neg_exact h
    have HD' : Hid (a.tmod b ≠ 0 → a.tdiv b - 1 = a / b) := fun h => tdiv_neg_other (by omega) hb h
    obtain ⟨c1, c2⟩ := hlo
    generalize hq : a.tdiv b = q at *
    generalize hm : a.tmod b = m at *
    have e1 : decide (a < 0) = true := by simp; omega
    have e2 : decide (b < 0) = false := by simp; omega
    rcases Bool.eq_false_or_eq_true (m != 0) with h | h
    · have HE : Hid (q - 1 = a / b) := HD'.out (by simpa using h)
      go_enter Try.func116, Try.ntmps116
      go_wp2
      go_ret
      exact ⟨ret_int HE.out, rfl⟩
    · have HE : Hid (q = a / b) := HD.out (by simpa using h)
      go_enter Try.func116, Try.ntmps116
      go_wp2
      go_ret
      exact ⟨ret_int HE.out, rfl⟩

set_option maxHeartbeats 400000 in
theorem ceilDiv_any (a b : Int) (w : World) (h1 : -4611686018427387904 ≤ a) (h2 : a ≤ 4611686018427387904) (hb : 0 < b) (hb2 : b ≤ 4611686018427387904) :
    Calls Try.prog 117 #[.int .i64 a, .int .i64 b] w fun e w' => e = .returned (.int .i64 (-(-a / b))) ∧ w = w' := by
  obtain ⟨b1, b2⟩ := ediv_bd (a := -a) hb (by omega) (by omega)
  go_enter Try.func117, Try.ntmps117
  go_wp2_with (go_at_call 116; refine (floorDiv_any _ _ _ (by omega) (by omega) (by omega) (by omega)).mono ?_; rintro e w' ⟨rfl, rfl⟩)
  go_ret
  exact ⟨rfl, rfl⟩
end Go.Proofs.Ythmcnoloeeabbaa
