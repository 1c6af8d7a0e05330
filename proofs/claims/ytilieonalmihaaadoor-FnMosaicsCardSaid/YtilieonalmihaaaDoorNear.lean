/- Nearest integers of quotients; places on a way. Condition: numbers of at most 1000000, divisors from 1 to 1000. -/
import Derived.Test.YtilieonalmihaaaDoorArith
import Derived.Laws.Bits64
import Derived.Laws.Bits64b
namespace Go.Proofs.YtilieonalmihaaaDoor
open Go.RowKit

theorem and1z (x : Int) : bits .and .i64 x 1 = x % 2 := by
  show IntKind.i64.wrap ((BitVec.ofInt 64 x &&& BitVec.ofInt 64 1).toNat : Int) = _
  have h2 : (BitVec.ofInt 64 (1 : Int)).toNat = 1 := by decide
  have h1 : (BitVec.ofInt 64 x).toNat = (x % 18446744073709551616).toNat := by rw [BitVec.toNat_ofInt]; rfl
  rw [BitVec.toNat_and, h1, h2, Nat.and_one_is_mod, IntKind.wrap_i64]
  omega
def nearQ (a b : Int) : Int := if b < 2 * (a - a / b * b) ∨ (2 * (a - a / b * b) = b ∧ a / b % 2 = 1) then a / b + 1 else a / b
theorem near_bd {a b : Int} (h1 : -1000000 ≤ a) (h2 : a ≤ 1000000) (hb : 0 < b) : -1000000 ≤ a / b ∧ a / b ≤ 1000000 ∧ a / b * b ≤ a ∧ a < a / b * b + b := by
  have h3 := Int.ediv_mul_le a (show b ≠ 0 by omega)
  have h4 := Int.lt_ediv_add_one_mul_self a hb
  rw [Int.add_mul, Int.one_mul] at h4
  refine ⟨?_, ?_, h3, h4⟩
  · exact (Int.le_ediv_iff_mul_le hb).2 (by
      have : -1000000 * b ≤ -1000000 * 1 := by omega
      omega)
  · rcases Int.lt_or_le (a / b) 0 with h | h
    · omega
    · have : a / b * 1 ≤ a / b * b := Int.mul_le_mul_of_nonneg_left (by omega) h
      omega
theorem nearQ_mul (a : Int) {b : Int} (hb : 0 < b) : nearQ (a * b) b = a := by
  unfold nearQ
  rw [Int.mul_ediv_cancel _ (by omega), if_neg]
  omega
def wayI (a b : Int) (j n : Nat) : Int := if j = 0 then a else nearQ (a * ((n : Int) - 1) + (b - a) * (j : Int)) ((n : Int) - 1)
theorem mulk_bd {a m k : Int} (h1 : -k ≤ a) (h2 : a ≤ k) (hm : 0 ≤ m) (hm2 : m ≤ 199) (hk : 0 ≤ k) : -(k * 199) ≤ a * m ∧ a * m ≤ k * 199 := by
  have e1 : a * m ≤ k * m := Int.mul_le_mul_of_nonneg_right h2 hm
  have e2 : -k * m ≤ a * m := Int.mul_le_mul_of_nonneg_right h1 hm
  have e3 : k * m ≤ k * 199 := Int.mul_le_mul_of_nonneg_left hm2 hk
  rw [Int.neg_mul] at e2
  omega
theorem way_bd {a b : Int} {j n : Nat} (ha : -1000 ≤ a) (ha2 : a ≤ 1000) (hb : -1000 ≤ b) (hb2 : b ≤ 1000) (hj : j < n) (hn : n ≤ 200) :
    (-199000 ≤ a * ((n : Int) - 1) ∧ a * ((n : Int) - 1) ≤ 199000) ∧ (-398000 ≤ (b - a) * (j : Int) ∧ (b - a) * (j : Int) ≤ 398000) := by
  have h1 := mulk_bd (a := a) (m := (n : Int) - 1) (k := 1000) ha ha2 (by omega) (by omega) (by omega)
  have h2 := mulk_bd (a := b - a) (m := (j : Int)) (k := 2000) (by omega) (by omega) (by omega) (by omega) (by omega)
  omega

end Go.Proofs.YtilieonalmihaaaDoor
