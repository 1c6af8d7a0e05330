/- Division rounded down and up by a number greater than 0. Condition: both numbers are at most 2^62 in absolute value. -/
import Derived.Test.YtilieonalmihaaaDoorKern
namespace Go.Proofs.YtilieonalmihaaaDoor
open Go.RowKit

theorem tdiv_neg_exact {a b : Int} (h : a.tmod b = 0) : a.tdiv b = a / b := by
  have hd : b ∣ a := Int.dvd_of_tmod_eq_zero h
  rw [Int.tdiv_eq_ediv]; simp [hd]
theorem tdiv_neg_other {a b : Int} (ha : a < 0) (hb : 0 < b) (h : a.tmod b ≠ 0) : a.tdiv b - 1 = a / b := by
  have hd : ¬ b ∣ a := fun c => h (Int.tmod_eq_zero_of_dvd c)
  rw [Int.tdiv_eq_ediv, if_neg (by rintro (c | c); omega; exact hd c), Int.sign_eq_one_of_pos hb]
  omega
theorem ediv_bd {a b : Int} (hb : 0 < b) (h1 : -4611686018427387904 ≤ a) (h2 : a ≤ 4611686018427387904) : -4611686018427387904 ≤ a / b ∧ a / b ≤ 4611686018427387904 := by
  have := Int.ediv_mul_le a (show b ≠ 0 by omega)
  have h4 := Int.lt_ediv_add_one_mul_self a hb
  constructor
  · rcases Int.le_total 0 a with h | h
    · have := Int.ediv_nonneg h (by omega : (0:Int) ≤ b); omega
    · have : a ≤ a / b := by
        have := Int.le_ediv_of_mul_le (a := a) (b := a) hb (by
          have : a * b ≤ a * 1 := Int.mul_le_mul_of_nonpos_left h (by omega)
          omega)
        exact this
      omega
  · rcases Int.le_total 0 a with h | h
    · have := Int.ediv_le_self b h; omega
    · have : a / b ≤ 0 := by
        have h5 : a / b * b ≤ 0 := by omega
        rcases Int.lt_or_le 0 (a / b) with h6 | h6
        · have := Int.mul_pos h6 hb; omega
        · exact h6
      omega

end Go.Proofs.YtilieonalmihaaaDoor
