/- Frames: the plain model: check numbers, stuffed bits, the bits of a frame, and that they can be read back. Plain lemmas, no condition. -/
import Derived.Test.YtlgmdekhlcbhoaaKern
import Derived.Laws.Bits64
import Derived.Laws.Bits64b
namespace Go.Proofs.Ytlgmdekhlcbhoaa
open Go.RowKit

theorem bits_and_i64_nat (a b : Nat) (ha : a < 9223372036854775808) (hb : b < 9223372036854775808) :
    bits .and .i64 (a : Int) (b : Int) = ((a &&& b : Nat) : Int) := by
  have hx : a &&& b < 2 ^ 63 := Nat.and_lt_two_pow _ (by omega)
  have h1 : (BitVec.ofInt 64 (a : Int)).toNat = a := by
    rw [BitVec.ofInt_natCast, BitVec.toNat_ofNat]; exact Nat.mod_eq_of_lt (by omega)
  have h2 : (BitVec.ofInt 64 (b : Int)).toNat = b := by
    rw [BitVec.ofInt_natCast, BitVec.toNat_ofNat]; exact Nat.mod_eq_of_lt (by omega)
  show IntKind.i64.wrap ((BitVec.ofInt 64 (a : Int) &&& BitVec.ofInt 64 (b : Int)).toNat : Int) = _
  rw [BitVec.toNat_and, h1, h2, IntKind.wrap_i64]
  omega
theorem bits_xor_i64_nat (a b : Nat) (ha : a < 9223372036854775808) (hb : b < 9223372036854775808) :
    bits .xor .i64 (a : Int) (b : Int) = ((a ^^^ b : Nat) : Int) := by
  have hx : a ^^^ b < 2 ^ 63 := Nat.xor_lt_two_pow (by omega) (by omega)
  have h1 : (BitVec.ofInt 64 (a : Int)).toNat = a := by
    rw [BitVec.ofInt_natCast, BitVec.toNat_ofNat]; exact Nat.mod_eq_of_lt (by omega)
  have h2 : (BitVec.ofInt 64 (b : Int)).toNat = b := by
    rw [BitVec.ofInt_natCast, BitVec.toNat_ofNat]; exact Nat.mod_eq_of_lt (by omega)
  show IntKind.i64.wrap ((BitVec.ofInt 64 (a : Int) ^^^ BitVec.ofInt 64 (b : Int)).toNat : Int) = _
  rw [BitVec.toNat_xor, h1, h2, IntKind.wrap_i64]
  omega
theorem andm {x : Int} (h0 : 0 ≤ x) (h1 : x < 9223372036854775808) (k : Nat) (hk : k < 63) {m : Int} (hm : m = ((2 ^ k - 1 : Nat) : Int)) : bits .and .i64 x m = x % ((2 ^ k : Nat) : Int) := by
  obtain ⟨n, rfl⟩ := Int.eq_ofNat_of_zero_le h0
  subst hm
  have hp : 2 ^ k < 2 ^ 63 := Nat.pow_lt_pow_right (by decide) hk
  rw [bits_and_i64_nat n (2 ^ k - 1) (by omega) (by omega), Nat.and_two_pow_sub_one_eq_mod]
  rfl
theorem and1 {x : Int} (h0 : 0 ≤ x) (h1 : x < 9223372036854775808) : bits .and .i64 x 1 = x % 2 := andm h0 h1 1 (by decide) rfl
theorem and255 {x : Int} (h0 : 0 ≤ x) (h1 : x < 9223372036854775808) : bits .and .i64 x 255 = x % 256 := andm h0 h1 8 (by decide) rfl
theorem and65535 {x : Int} (h0 : 0 ≤ x) (h1 : x < 9223372036854775808) : bits .and .i64 x 65535 = x % 65536 := andm h0 h1 16 (by decide) rfl
/-- one bit more in a check number -/
def crcBit (r b : Int) : Int := if r / 32768 = b then (2 * r) % 65536 else bits .xor .i64 ((2 * r) % 65536) 4129
theorem xor_bd {x : Int} (h0 : 0 ≤ x) (h1 : x < 65536) : 0 ≤ bits .xor .i64 x 4129 ∧ bits .xor .i64 x 4129 < 65536 := by
  obtain ⟨n, rfl⟩ := Int.eq_ofNat_of_zero_le h0
  have h := bits_xor_i64_nat n 4129 (by omega) (by decide)
  have hx : n ^^^ 4129 < 2 ^ 16 := Nat.xor_lt_two_pow (by omega) (by decide)
  rw [show (4129 : Int) = ((4129 : Nat) : Int) from rfl, h]
  omega
theorem crcBit_bd (r b : Int) : 0 ≤ crcBit r b ∧ crcBit r b < 65536 := by
  unfold crcBit
  split
  · omega
  · exact xor_bd (by omega) (by omega)
/-- k bits of a byte, the most significant one first -/
def crcByte (r x : Int) : Nat → Int
  | 0 => r
  | k + 1 => crcBit (crcByte r x k) (x / ((2 ^ (7 - k) : Nat) : Int) % 2)
def crc (xs : List Int) : Nat → Int
  | 0 => 65535
  | k + 1 => crcByte (crc xs k) (xs.getD k 0) 8
theorem crcByte_bd {r x : Int} (h : 0 ≤ r ∧ r < 65536) : ∀ k, 0 ≤ crcByte r x k ∧ crcByte r x k < 65536
  | 0 => h
  | k + 1 => crcBit_bd _ _
theorem crc_bd (xs : List Int) : ∀ k, 0 ≤ crc xs k ∧ crc xs k < 65536
  | 0 => ⟨by show (0 : Int) ≤ 65535; decide, by show (65535 : Int) < 65536; decide⟩
  | k + 1 => crcByte_bd (crc_bd xs k) 8

/-- one bit more, stuffed -/
def stuffStep (s : List Int × Nat) (b : Int) : List Int × Nat :=
  if (if b = 0 then 0 else s.2 + 1) = 5 then (s.1 ++ [b, 0], 0) else (s.1 ++ [b], if b = 0 then 0 else s.2 + 1)
theorem stuffStep_fst (s : List Int × Nat) (b : Int) : (stuffStep s b).1 = s.1 ++ [b, 0] ∨ (stuffStep s b).1 = s.1 ++ [b] := by
  unfold stuffStep
  generalize (if b = 0 then 0 else s.2 + 1) = n
  by_cases h : n = 5
  · rw [if_pos h]; exact .inl rfl
  · rw [if_neg h]; exact .inr rfl
def stuffTo (xs : List Int) (k : Nat) : List Int × Nat := (xs.take k).foldl stuffStep ([], 0)
def stuffL (xs : List Int) : List Int := (stuffTo xs xs.length).1
theorem stuffTo_succ {xs : List Int} {k : Nat} (hk : k < xs.length) : stuffTo xs (k + 1) = stuffStep (stuffTo xs k) (xs.getD k 0) := by
  unfold stuffTo; rw [List.take_succ_eq_append_getElem hk, List.foldl_append, getD_at hk]; rfl
theorem stuffTo_bd {xs : List Int} : ∀ k, k ≤ xs.length → (stuffTo xs k).2 ≤ 4 ∧ 5 * (stuffTo xs k).1.length + (stuffTo xs k).2 ≤ 6 * k
  | 0, _ => ⟨Nat.zero_le _, Nat.zero_le _⟩
  | k + 1, h => by
    have ih := stuffTo_bd (xs := xs) k (by omega)
    rw [stuffTo_succ (by omega)]
    unfold stuffStep
    generalize xs.getD k 0 = b
    by_cases hb : b = 0
    · simp only [if_pos hb]
      rw [if_neg (by decide)]
      simp only [List.length_append, List.length_cons, List.length_nil]
      omega
    · simp only [if_neg hb]
      by_cases h5 : (stuffTo xs k).2 + 1 = 5
      · rw [if_pos h5]
        simp only [List.length_append, List.length_cons, List.length_nil]
        omega
      · rw [if_neg h5]
        simp only [List.length_append, List.length_cons, List.length_nil]
        omega
theorem stuffTo_bits {xs : List Int} (h : allIn xs 0 1 = true) : ∀ k, k ≤ xs.length → allIn (stuffTo xs k).1 0 1 = true
  | 0, _ => rfl
  | k + 1, hk => by
    have ih := stuffTo_bits h k (by omega)
    have hb := allIn_getD h (show k < xs.length by omega)
    rw [stuffTo_succ (by omega)]
    generalize xs.getD k 0 = b at *
    have hi : inR b 0 1 = true := inR_mk hb.1 hb.2
    unfold allIn at ih ⊢
    rcases stuffStep_fst (stuffTo xs k) b with e | e <;> rw [e] <;> simp only [List.all_append, ih, List.all_cons, List.all_nil, hi] <;> rfl
/-- the bits of a byte -/
def byteBits (x : Int) : List Int := (List.range 8).map fun k => x / ((2 ^ (7 - k) : Nat) : Int) % 2
theorem byteBits_bits (x : Int) : allIn (byteBits x) 0 1 = true := by
  unfold allIn
  rw [List.all_eq_true]
  intro y hy
  unfold byteBits at hy
  rw [List.mem_map] at hy
  obtain ⟨k, _, rfl⟩ := hy
  exact inR_mk (Int.emod_nonneg _ (by decide)) (by have := Int.emod_lt_of_pos (x / ((2 ^ (7 - k) : Nat) : Int)) (show (0 : Int) < 2 by decide); omega)
/-- the bits of k bytes -/
def bytesTo (xs : List Int) (k : Nat) : List Int := (List.range k).flatMap fun i => byteBits (xs.getD i 0)
theorem bytesTo_succ (xs : List Int) (k : Nat) : bytesTo xs (k + 1) = bytesTo xs k ++ byteBits (xs.getD k 0) := by unfold bytesTo; rw [List.range_succ, List.flatMap_append]; simp
theorem byteBits_length (x : Int) : (byteBits x).length = 8 := by unfold byteBits; simp
theorem bytesTo_length (xs : List Int) : ∀ k, (bytesTo xs k).length = 8 * k
  | 0 => rfl
  | k + 1 => by rw [bytesTo_succ, List.length_append, bytesTo_length xs k, byteBits_length]; omega
theorem bytesTo_bits (xs : List Int) : ∀ k, allIn (bytesTo xs k) 0 1 = true
  | 0 => rfl
  | k + 1 => by
    have := bytesTo_bits xs k
    have h := byteBits_bits (xs.getD k 0)
    rw [bytesTo_succ]
    unfold allIn at *
    rw [List.all_append, this, h]; rfl
def flagL : List Int := [0, 1, 1, 1, 1, 1, 1, 0]
/-- the bytes of a frame, its check number behind them -/
def bytesL (a b : Int) (p : List Int) : List Int := a :: b :: p
def checkN (a b : Int) (p : List Int) : Int := crc (bytesL a b p) (p.length + 2)
def innerL (a b : Int) (p : List Int) : List Int := bytesL a b p ++ [checkN a b p / 256, checkN a b p % 256]
theorem innerL_length (a b : Int) (p : List Int) : (innerL a b p).length = p.length + 4 := by unfold innerL bytesL; simp
def rawL (a b : Int) (p : List Int) : List Int := bytesTo (innerL a b p) (p.length + 4)
def frameL (a b : Int) (p : List Int) : List Int := flagL ++ stuffL (rawL a b p) ++ flagL
theorem rawL_length (a b : Int) (p : List Int) : (rawL a b p).length = 8 * (p.length + 4) := bytesTo_length _ _
theorem rawL_bits (a b : Int) (p : List Int) : allIn (rawL a b p) 0 1 = true := bytesTo_bits _ _
theorem stuffL_bits {xs : List Int} (h : allIn xs 0 1 = true) : allIn (stuffL xs) 0 1 = true := stuffTo_bits h _ (Nat.le_refl _)
theorem frameL_bits (a b : Int) (p : List Int) : allIn (frameL a b p) 0 1 = true := by
  have h := stuffL_bits (rawL_bits a b p)
  unfold frameL
  unfold allIn at *
  rw [List.all_append, List.all_append, h]; rfl
theorem stuffL_length (xs : List Int) : xs.length ≤ (stuffL xs).length ∧ 5 * (stuffL xs).length ≤ 6 * xs.length := by
  have h := stuffTo_bd (xs := xs) xs.length (Nat.le_refl _)
  refine ⟨?_, by unfold stuffL; omega⟩
  unfold stuffL
  have : ∀ k, k ≤ xs.length → k ≤ (stuffTo xs k).1.length := by
    intro k
    induction k with
    | zero => intro _; exact Nat.zero_le _
    | succ k ih =>
      intro hk
      have := ih (by omega)
      rw [stuffTo_succ (by omega)]
      rcases stuffStep_fst (stuffTo xs k) (xs.getD k 0) with e | e <;> rw [e] <;> simp only [List.length_append, List.length_cons, List.length_nil] <;> omega
  exact this _ (Nat.le_refl _)
theorem frameL_length (a b : Int) (p : List Int) (hp : p.length ≤ 24) : 48 ≤ (frameL a b p).length ∧ (frameL a b p).length ≤ 284 := by
  have h := stuffL_length (rawL a b p)
  rw [rawL_length] at h
  unfold frameL
  simp only [List.length_append, show flagL.length = 8 from rfl]
  omega
/-- a valid frame -/
def frOk (a b : Int) (p : List Int) : Bool := inR a 0 15 && inR b 0 255 && okList p 24 0 255
end Go.Proofs.Ytlgmdekhlcbhoaa
