/- Numerals as texts, plainly: what is written is read back. No program. -/
import Derived.Test.YtilieonalmihaaaDoorRows
import Derived.Lib.ItoaNum
import Derived.Lib.ParseIntBTie
import Derived.Lib.ItoaLen
namespace Go.Proofs.YtilieonalmihaaaDoor
open Go.RowKit

abbrev Bs := List UInt8
theorem intLtOrGe (a b : Int) : a < b ∨ b ≤ a := by omega
def str (l : Bs) : Value := .string ⟨l.toArray⟩
def isDig (c : UInt8) : Bool := decide (48 ≤ c.toNat) && decide (c.toNat ≤ 57)
theorem isDig_true {c : UInt8} (h : isDig c = true) : 48 ≤ c.toNat ∧ c.toNat ≤ 57 := by unfold isDig at h; simpa using h
theorem isDig_mk {c : UInt8} (h : 48 ≤ c.toNat) (h2 : c.toNat ≤ 57) : isDig c = true := by unfold isDig; simp [h, h2]
theorem isDig_false {c : UInt8} (h : isDig c = false) : c.toNat < 48 ∨ 57 < c.toNat := by unfold isDig at h; simp at h; omega
def valF (n : Nat) (c : UInt8) : Nat := n * 10 + (c.toNat - 48)
def valN (l : Bs) : Nat := l.foldl valF 0
theorem valN_snoc (l : Bs) (c : UInt8) : valN (l ++ [c]) = valN l * 10 + (c.toNat - 48) := by unfold valN; rw [List.foldl_append]; rfl
theorem valF_ge : ∀ (l : Bs) (n : Nat), n ≤ l.foldl valF n
  | [], _ => Nat.le_refl _
  | c :: r, n => Nat.le_trans (show n ≤ valF n c by unfold valF; omega) (valF_ge r _)
theorem dig_nat {d : Nat} (h : d < 10) : (UInt8.ofNat (48 + d)).toNat = 48 + d := by
  rw [UInt8.toNat_ofNat']; omega
theorem dec_lt {u : Nat} (h : u < 10) : Lib.decDigits u = [UInt8.ofNat (48 + u)] := Lib.decDigits_one h
theorem dec_ge {u : Nat} (h : ¬ u < 10) : Lib.decDigits u = Lib.decDigits (u / 10) ++ [UInt8.ofNat (48 + u % 10)] := by rw [Lib.decDigits, dif_neg h]
theorem valN_dec (u : Nat) : valN (Lib.decDigits u) = u := by
  induction u using Nat.strongRecOn with
  | _ u ih =>
    by_cases h : u < 10
    · rw [dec_lt h]
      show valF 0 _ = u
      unfold valF
      rw [dig_nat h]; omega
    · rw [dec_ge h, valN_snoc, ih (u / 10) (by omega), dig_nat (by omega)]; omega
theorem dec_dig (u : Nat) : ∀ c ∈ Lib.decDigits u, isDig c = true := by
  induction u using Nat.strongRecOn with
  | _ u ih =>
    intro c hc
    by_cases h : u < 10
    · rw [dec_lt h, List.mem_singleton] at hc
      subst hc
      exact isDig_mk (by rw [dig_nat h]; omega) (by rw [dig_nat h]; omega)
    · rw [dec_ge h, List.mem_append, List.mem_singleton] at hc
      rcases hc with hc | hc
      · exact ih (u / 10) (by omega) c hc
      · subst hc
        exact isDig_mk (by rw [dig_nat (by omega)]; omega) (by rw [dig_nat (by omega)]; omega)
theorem dec_ne (u : Nat) : Lib.decDigits u ≠ [] := by
  intro c
  have := Lib.decDigits_length u
  have h2 := Lib.nDigits_pos u
  rw [c] at this; simp at this; omega
theorem nDigits_le : ∀ (k u : Nat), u < 10 ^ k → 1 ≤ k → Lib.nDigits u ≤ k
  | 0, u, _, h => by omega
  | k + 1, u, h, _ => by
    by_cases h2 : u < 10
    · rw [Lib.nDigits_small h2]; omega
    · rw [Lib.nDigits_big h2]
      have hk : 1 ≤ k := by
        rcases Nat.eq_zero_or_pos k with e | e
        · subst e; simp at h; omega
        · exact e
      have := nDigits_le k (u / 10) (by rw [Nat.pow_succ] at h; omega) hk
      omega
theorem dec_len12 {u : Nat} : (Lib.decDigits u).length ≤ 12 ↔ u < 1000000000000 := by
  rw [Lib.decDigits_length]
  constructor
  · intro h
    refine Nat.lt_of_lt_of_le (Lib.lt_pow_nDigits u) ?_
    exact Nat.le_trans (Nat.pow_le_pow_right (by decide) h) (by decide)
  · intro h
    exact nDigits_le 12 u (Nat.lt_of_lt_of_le h (by decide)) (by decide)
/-- at most twelve digits, as they are written -/
def valB (l : Bs) : Bool := (decide (1 ≤ l.length) && decide (l.length ≤ 12)) && (l.all isDig && decide (Lib.decDigits (valN l) = l))
theorem valB_dec {u : Nat} (h : u < 1000000000000) : valB (Lib.decDigits u) = true := by
  unfold valB
  simp only [Bool.and_eq_true, decide_eq_true_eq, List.all_eq_true]
  refine ⟨⟨?_, dec_len12.2 h⟩, dec_dig u, by rw [valN_dec]⟩
  rw [Lib.decDigits_length]; exact Lib.nDigits_pos u
theorem valB_of {l : Bs} (h : valB l = true) : l = Lib.decDigits (valN l) ∧ valN l < 1000000000000 := by
  unfold valB at h
  simp only [Bool.and_eq_true, decide_eq_true_eq] at h
  refine ⟨h.2.2.symm, ?_⟩
  have := h.1.2
  rw [← h.2.2] at this
  have := dec_len12.1 this
  exact this
def sgB : Bs → Bool
  | [] => false
  | c :: r => if c.toNat = 45 then valB r && decide (0 < valN r) else valB (c :: r)
def sgN : Bs → Int
  | [] => 0
  | c :: r => if c.toNat = 45 then -(valN r : Int) else (valN (c :: r) : Int)
theorem sgB_neg {c : UInt8} {r : Bs} (h : c.toNat = 45) : sgB (c :: r) = (valB r && decide (0 < valN r)) := if_pos h
theorem sgB_pos {c : UInt8} {r : Bs} (h : ¬ c.toNat = 45) : sgB (c :: r) = valB (c :: r) := if_neg h
theorem sgN_neg {c : UInt8} {r : Bs} (h : c.toNat = 45) : sgN (c :: r) = -(valN r : Int) := if_pos h
theorem sgN_pos {c : UInt8} {r : Bs} (h : ¬ c.toNat = 45) : sgN (c :: r) = (valN (c :: r) : Int) := if_neg h
theorem dec_head {u : Nat} {c : UInt8} {r : Bs} (h : Lib.decDigits u = c :: r) : isDig c = true := dec_dig u c (by rw [h]; exact List.mem_cons_self ..)
theorem itoa_pos {z : Int} (h : 0 ≤ z) : Lib.itoa z = Lib.decDigits z.toNat := by unfold Lib.itoa; rw [if_neg (by omega)]
theorem itoa_neg' {z : Int} (h : z < 0) : Lib.itoa z = 45 :: Lib.decDigits z.natAbs := by unfold Lib.itoa; rw [if_pos h]
theorem itoa_ne (z : Int) : Lib.itoa z ≠ [] := by
  rcases intLtOrGe z 0 with h | h
  · rw [itoa_neg' h]; simp
  · rw [itoa_pos h]; exact dec_ne _
theorem sg_itoa {z : Int} (h1 : -1000000000000 < z) (h2 : z < 1000000000000) : sgB (Lib.itoa z) = true ∧ sgN (Lib.itoa z) = z := by
  rcases intLtOrGe z 0 with h | h
  · rw [itoa_neg' h]
    rw [sgB_neg (by decide), sgN_neg (by decide), valN_dec, valB_dec (by omega)]
    refine ⟨by simp; omega, by omega⟩
  · rw [itoa_pos h]
    have hv := valB_dec (u := z.toNat) (by omega)
    have hn := valN_dec z.toNat
    cases hd : Lib.decDigits z.toNat with
    | nil => exact absurd hd (dec_ne _)
    | cons c r =>
      have := isDig_true (dec_head hd)
      rw [hd] at hv hn
      rw [sgB_pos (by omega), sgN_pos (by omega), hv, hn]
      exact ⟨rfl, by omega⟩
theorem sg_of {l : Bs} (h : sgB l = true) : l = Lib.itoa (sgN l) ∧ -1000000000000 < sgN l ∧ sgN l < 1000000000000 := by
  cases l with
  | nil => cases h
  | cons c r =>
    by_cases hc : c.toNat = 45
    · rw [sgB_neg hc] at h
      simp only [Bool.and_eq_true, decide_eq_true_eq] at h
      obtain ⟨e, hl⟩ := valB_of h.1
      rw [sgN_neg hc, itoa_neg' (by omega)]
      have hc' : c = 45 := UInt8.toNat_inj.1 (by rw [hc]; rfl)
      refine ⟨by rw [Int.natAbs_neg, Int.natAbs_natCast, ← e, hc'], by omega, by omega⟩
    · rw [sgB_pos hc] at h
      obtain ⟨e, hl⟩ := valB_of h
      rw [sgN_pos hc, itoa_pos (by omega), Int.toNat_natCast, ← e]
      exact ⟨rfl, by omega, by omega⟩
theorem parse_fold : ∀ (l : Bs) (acc : Nat), (∀ c ∈ l, isDig c = true) → l.foldl valF acc < 18446744073709551616 → Lib.parseUint10 acc l = .ok (l.foldl valF acc)
  | [], acc, _, _ => rfl
  | c :: r, acc, hd, hl => by
    have h1 := isDig_true (hd c (List.mem_cons_self ..))
    have h2 : valF acc c ≤ (c :: r).foldl valF acc := valF_ge r _
    have e : valF acc c = acc * 10 + (c.toNat - 48) := rfl
    rw [Lib.parseUint10, if_pos h1, if_neg (by omega), if_neg (by omega), ← e]
    exact parse_fold r _ (fun x hx => hd x (List.mem_cons_of_mem _ hx)) hl
theorem parse_dec {u : Nat} (h : u < 18446744073709551616) : Lib.parseMag (Lib.decDigits u) = .ok u := by
  unfold Lib.parseMag
  rw [if_neg (dec_ne u), parse_fold _ _ (dec_dig u) (by have := valN_dec u; unfold valN at this; omega)]
  have := valN_dec u
  unfold valN at this
  rw [this]
theorem parse_itoa {z : Int} (h1 : -9223372036854775808 ≤ z) (h2 : z ≤ 9223372036854775807) : Lib.parseIntB 64 (Lib.itoa z) = .ok z := by
  rw [Lib.parseIntB_64]
  rcases intLtOrGe z 0 with h | h
  · rw [itoa_neg' h]
    unfold Lib.atoiAll
    simp only [show (45 : UInt8).toNat = 45 from rfl, or_true, if_true, parse_dec (show z.natAbs < 18446744073709551616 by omega), not_true, false_and, if_false, true_and]
    rw [if_neg (by omega)]
    have : -(z.natAbs : Int) = z := by omega
    rw [this]
  · rw [itoa_pos h]
    have hp := parse_dec (u := z.toNat) (by omega)
    cases hd : Lib.decDigits z.toNat with
    | nil => exact absurd hd (dec_ne _)
    | cons c r =>
      have := isDig_true (dec_head hd)
      rw [hd] at hp
      unfold Lib.atoiAll
      have c1 : ¬ (c.toNat = 43 ∨ False) := by rintro (h | h) <;> omega
      have c2 : ¬ c.toNat = 45 := by omega
      simp only [c2, not_false_eq_true, true_and, false_and, if_false]
      rw [if_neg c1]
      have e : ((z.toNat : Nat) : Int) = z := by omega
      rw [hp]
      show (if 9223372036854775808 ≤ z.toNat then Lib.NumEnd.range else Lib.NumEnd.ok ((z.toNat : Nat) : Int)) = _
      rw [if_neg (by omega), e]
/-- a number of 64 bits, as it is written -/
def rdB (l : Bs) : Bool := match Lib.parseIntB 64 l with | .ok v => decide (Lib.itoa v = l) | _ => false
def rdN (l : Bs) : Int := match Lib.parseIntB 64 l with | .ok v => v | .range => Lib.intSat 64 l | _ => 0
theorem rd_itoa {z : Int} (h1 : -9223372036854775808 ≤ z) (h2 : z ≤ 9223372036854775807) : rdB (Lib.itoa z) = true ∧ rdN (Lib.itoa z) = z := by
  unfold rdB rdN
  rw [parse_itoa h1 h2]
  exact ⟨decide_eq_true rfl, rfl⟩
theorem rd_of {l : Bs} (h : rdB l = true) : l = Lib.itoa (rdN l) ∧ -9223372036854775808 ≤ rdN l ∧ rdN l ≤ 9223372036854775807 := by
  unfold rdB at h
  unfold rdN
  rcases hp : Lib.parseIntB 64 l with v | _ | _
  · rw [hp] at h
    simp only [decide_eq_true_eq] at h
    have hb := Lib.parseIntB_bounds hp
    have e : (2 ^ (64 - 1) : Nat) = 9223372036854775808 := by decide
    rw [e] at hb
    show _ ∧ -9223372036854775808 ≤ v ∧ v ≤ 9223372036854775807
    exact ⟨h.symm, by omega, by omega⟩
  · rw [hp] at h; cases h
  · rw [hp] at h; cases h
theorem rdN_bd (l : Bs) : -9223372036854775808 ≤ rdN l ∧ rdN l ≤ 9223372036854775807 := by
  unfold rdN
  have e : (2 ^ (64 - 1) : Nat) = 9223372036854775808 := by decide
  rcases hp : Lib.parseIntB 64 l with v | _ | _
  · have hb := Lib.parseIntB_bounds hp
    rw [e] at hb
    simp only
    omega
  · simp only; omega
  · simp only
    unfold Lib.intSat
    rw [e]
    split <;> omega
/-- no numeral holds a byte that is neither a digit nor the sign -/
theorem itoa_mem {z : Int} {c : UInt8} (h : c ∈ Lib.itoa z) : (48 ≤ c.toNat ∧ c.toNat ≤ 57) ∨ c.toNat = 45 := by
  rcases intLtOrGe z 0 with h0 | h0
  · rw [itoa_neg' h0, List.mem_cons] at h
    rcases h with rfl | h
    · exact .inr rfl
    · exact .inl (isDig_true (dec_dig _ c h))
  · rw [itoa_pos h0] at h
    exact .inl (isDig_true (dec_dig _ c h))
theorem itoa_inj {a b : Int} (ha1 : -9223372036854775808 ≤ a) (ha2 : a ≤ 9223372036854775807) (hb1 : -9223372036854775808 ≤ b) (hb2 : b ≤ 9223372036854775807) (h : Lib.itoa a = Lib.itoa b) : a = b := by
  rw [← (rd_itoa ha1 ha2).2, h, (rd_itoa hb1 hb2).2]
end Go.Proofs.YtilieonalmihaaaDoor
