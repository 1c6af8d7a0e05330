/- Nearest integers of quotients; places on a way. Condition: numbers of at most 1000000, divisors from 1 to 1000. -/
import Derived.Test.YthmcnoloeeabbaaArith
import Derived.Laws.Bits64
import Derived.Laws.Bits64b
namespace Go.Proofs.Ythmcnoloeeabbaa
open Go.RowKit

set_option maxHeartbeats 400000 in
theorem l01Floor_any (a b : Int) (w : World) (h1 : -4611686018427387904 ≤ a) (h2 : a ≤ 4611686018427387904) (hb : 0 < b) (hb2 : b ≤ 4611686018427387904) :
    Calls Try.prog 118 #[.int .i64 a, .int .i64 b] w fun e w' => e = .returned (.int .i64 (a / b)) ∧ w = w' := by
  obtain ⟨b1, b2⟩ := ediv_bd hb h1 h2
  by_cases ha : 0 ≤ a
  · have e1 : decide (a < 0) = false := by simp; omega
    have e2 : decide (b < 0) = false := by simp; omega
    rcases Bool.eq_false_or_eq_true (a % b != 0) with h | h
    · go_enter Try.func118, Try.ntmps118
      go_wp2
      go_ret
      exact ⟨rfl, rfl⟩
    · go_enter Try.func118, Try.ntmps118
      go_wp2
      go_ret
      exact ⟨rfl, rfl⟩
  · have hq := Int.tdiv_eq_ediv (a := a) (b := b)
    have hlo : -4611686018427387904 ≤ a.tdiv b ∧ a.tdiv b ≤ 4611686018427387904 := by
      by_cases hm : a.tmod b = 0
      · rw [tdiv_neg_exact hm]; omega
      · have := tdiv_neg_other (by omega) hb hm
        have := ediv_bd hb h1 h2
        have : a.tdiv b ≤ 0 := by
          rcases Int.lt_or_le 0 (a / b) with h6 | h6
          · have h7 := Int.mul_pos h6 hb
            have := Int.ediv_mul_le a (show b ≠ 0 by omega)
            omega
          · rcases Int.lt_or_le (a / b) 0 with h8 | h8
            · omega
            · have h9 : a / b = 0 := by omega
              have := Int.lt_ediv_add_one_mul_self a hb
              have h10 := Int.ediv_mul_le a (show b ≠ 0 by omega)
              rw [h9] at h10
              omega
        omega
    clear hq
    have HD : Hid (a.tmod b = 0 → a.tdiv b = a / b) := fun h => tdiv_neg_exact h
    have HD' : Hid (a.tmod b ≠ 0 → a.tdiv b - 1 = a / b) := fun h => tdiv_neg_other (by omega) hb h
    obtain ⟨c1, c2⟩ := hlo
    generalize hq : a.tdiv b = q at *
    generalize hm : a.tmod b = m at *
    have e1 : decide (a < 0) = true := by simp; omega
    have e2 : decide (b < 0) = false := by simp; omega
    rcases Bool.eq_false_or_eq_true (m != 0) with h | h
    · have HE : Hid (q - 1 = a / b) := HD'.out (by simpa using h)
      go_enter Try.func118, Try.ntmps118
      go_wp2
      go_ret
      exact ⟨ret_int HE.out, rfl⟩
    · have HE : Hid (q = a / b) := HD.out (by simpa using h)
      go_enter Try.func118, Try.ntmps118
      go_wp2
      go_ret
      exact ⟨ret_int HE.out, rfl⟩


theorem and1z (x : Int) : bits .and .i64 x 1 = x % 2 := by
  show IntKind.i64.wrap ((BitVec.ofInt 64 x &&& BitVec.ofInt 64 1).toNat : Int) = _
  have h2 : (BitVec.ofInt 64 (1 : Int)).toNat = 1 := by decide
  have h1 : (BitVec.ofInt 64 x).toNat = (x % 18446744073709551616).toNat := by rw [BitVec.toNat_ofInt]; rfl
  rw [BitVec.toNat_and, h1, h2, Nat.and_one_is_mod, IntKind.wrap_i64]
  omega
def nearQ (a b : Int) : Int := if b < 2 * (a - a / b * b) ∨ (2 * (a - a / b * b) = b ∧ a / b % 2 = 1) then a / b + 1 else a / b
theorem near_bd {a b : Int} (h1 : -1000000 ≤ a) (h2 : a ≤ 1000000) (hb : 0 < b) : -1000000 ≤ a / b ∧ a / b ≤ 1000000 ∧ a / b * b ≤ a ∧ a < a / b * b + b := by
  have h3 := Int.ediv_mul_le a (show b ≠ 0 by omega)
  have h4 := Int.lt_ediv_add_one_mul_self a hb
  rw [Int.add_mul, Int.one_mul] at h4
  refine ⟨?_, ?_, h3, h4⟩
  · exact (Int.le_ediv_iff_mul_le hb).2 (by
      have : -1000000 * b ≤ -1000000 * 1 := by omega
      omega)
  · rcases Int.lt_or_le (a / b) 0 with h | h
    · omega
    · have : a / b * 1 ≤ a / b * b := Int.mul_le_mul_of_nonneg_left (by omega) h
      omega
theorem nearQ_mul (a : Int) {b : Int} (hb : 0 < b) : nearQ (a * b) b = a := by
  unfold nearQ
  rw [Int.mul_ediv_cancel _ (by omega), if_neg]
  omega
def wayI (a b : Int) (j n : Nat) : Int := if j = 0 then a else nearQ (a * ((n : Int) - 1) + (b - a) * (j : Int)) ((n : Int) - 1)
theorem mulk_bd {a m k : Int} (h1 : -k ≤ a) (h2 : a ≤ k) (hm : 0 ≤ m) (hm2 : m ≤ 199) (hk : 0 ≤ k) : -(k * 199) ≤ a * m ∧ a * m ≤ k * 199 := by
  have e1 : a * m ≤ k * m := Int.mul_le_mul_of_nonneg_right h2 hm
  have e2 : -k * m ≤ a * m := Int.mul_le_mul_of_nonneg_right h1 hm
  have e3 : k * m ≤ k * 199 := Int.mul_le_mul_of_nonneg_left hm2 hk
  rw [Int.neg_mul] at e2
  omega
theorem way_bd {a b : Int} {j n : Nat} (ha : -1000 ≤ a) (ha2 : a ≤ 1000) (hb : -1000 ≤ b) (hb2 : b ≤ 1000) (hj : j < n) (hn : n ≤ 200) :
    (-199000 ≤ a * ((n : Int) - 1) ∧ a * ((n : Int) - 1) ≤ 199000) ∧ (-398000 ≤ (b - a) * (j : Int) ∧ (b - a) * (j : Int) ≤ 398000) := by
  have h1 := mulk_bd (a := a) (m := (n : Int) - 1) (k := 1000) ha ha2 (by omega) (by omega) (by omega)
  have h2 := mulk_bd (a := b - a) (m := (j : Int)) (k := 2000) (by omega) (by omega) (by omega) (by omega) (by omega)
  omega

set_option maxHeartbeats 1000000 in
theorem nearest_any (a b : Int) (w : World) (h1 : -1000000 ≤ a) (h2 : a ≤ 1000000) (hb : 0 < b) (hb2 : b ≤ 1000) :
    Calls Try.prog 124 #[.int .i64 a, .int .i64 b] w fun e w' => e = .returned (.int .i64 (nearQ a b)) ∧ w = w' := by
  obtain ⟨q1, q2, p1, p2⟩ := near_bd h1 h2 hb
  have HN : Hid (nearQ a b = if b < 2 * (a - a / b * b) ∨ (2 * (a - a / b * b) = b ∧ a / b % 2 = 1) then a / b + 1 else a / b) := rfl
  obtain ⟨q, hq⟩ : ∃ q, a / b = q := ⟨_, rfl⟩
  have HQ := Lib.hid hq
  rw [hq] at HN q1 q2 p1 p2
  clear hq
  have hwr : IntKind.i64.wrap (q * b) = q * b := IntWalk.i64_in _ (by omega)
  have hnb : decide (b < 0) = false := by simp; omega
  obtain ⟨p, hp⟩ : ∃ p, q * b = p := ⟨_, rfl⟩
  rw [hp] at p1 p2 HN hwr
  by_cases c1 : b < 2 * (a - p)
  · have HE : Hid (nearQ a b = q + 1) := by unfold Hid; rw [HN.out, if_pos (.inl c1)]
    have g1 : decide (b - (a - p) < a - p) = true := by simp; omega
    clear HN c1
    go_enter Try.func124, Try.ntmps124
    go_wp2_with (go_at_call 116; refine (floorDiv_any _ _ _ (by omega) (by omega) (by omega) (by omega)).mono ?_; rintro e w' ⟨rfl, rfl⟩; rw [HQ.out])
    go_ret
    exact ⟨ret_int (by rw [HE.out]), rfl⟩
  · have g1 : decide (b - (a - p) < a - p) = false := by simp; omega
    by_cases c2 : 2 * (a - p) = b
    · have g2 : (a - p == b - (a - p)) = true := by simp; omega
      by_cases c3 : q % 2 = 1
      · have HE : Hid (nearQ a b = q + 1) := by unfold Hid; rw [HN.out, if_pos (.inr ⟨c2, c3⟩)]
        have g3 : (bits .and .i64 q 1 == 1) = true := by rw [and1z]; simp; omega
        clear HN
        go_enter Try.func124, Try.ntmps124
        go_wp2_with (go_at_call 116; refine (floorDiv_any _ _ _ (by omega) (by omega) (by omega) (by omega)).mono ?_; rintro e w' ⟨rfl, rfl⟩; rw [HQ.out])
        go_ret
        exact ⟨ret_int (by rw [HE.out]), rfl⟩
      · have HE : Hid (nearQ a b = q) := by unfold Hid; rw [HN.out, if_neg (by omega)]
        have g3 : (bits .and .i64 q 1 == 1) = false := by rw [and1z]; simp; omega
        clear HN
        go_enter Try.func124, Try.ntmps124
        go_wp2_with (go_at_call 116; refine (floorDiv_any _ _ _ (by omega) (by omega) (by omega) (by omega)).mono ?_; rintro e w' ⟨rfl, rfl⟩; rw [HQ.out])
        go_ret
        exact ⟨ret_int (by rw [HE.out]), rfl⟩
    · have HE : Hid (nearQ a b = q) := by unfold Hid; rw [HN.out, if_neg (by omega)]
      have g2 : (a - p == b - (a - p)) = false := by simp; omega
      clear HN
      go_enter Try.func124, Try.ntmps124
      go_wp2_with (go_at_call 116; refine (floorDiv_any _ _ _ (by omega) (by omega) (by omega) (by omega)).mono ?_; rintro e w' ⟨rfl, rfl⟩; rw [HQ.out])
      go_ret
      exact ⟨ret_int (by rw [HE.out]), rfl⟩

set_option maxHeartbeats 1000000 in
theorem l01Nearest_any (a b : Int) (w : World) (h1 : -1000000 ≤ a) (h2 : a ≤ 1000000) (hb : 0 < b) (hb2 : b ≤ 1000) :
    Calls Try.prog 75 #[.int .i64 a, .int .i64 b] w fun e w' => e = .returned (.int .i64 (nearQ a b)) ∧ w = w' := by
  obtain ⟨q1, q2, p1, p2⟩ := near_bd h1 h2 hb
  have HN : Hid (nearQ a b = if b < 2 * (a - a / b * b) ∨ (2 * (a - a / b * b) = b ∧ a / b % 2 = 1) then a / b + 1 else a / b) := rfl
  obtain ⟨q, hq⟩ : ∃ q, a / b = q := ⟨_, rfl⟩
  have HQ := Lib.hid hq
  rw [hq] at HN q1 q2 p1 p2
  clear hq
  have hwr : IntKind.i64.wrap (q * b) = q * b := IntWalk.i64_in _ (by omega)
  have hq2 : IntKind.i64.wrap (q / 2 * 2) = q / 2 * 2 := IntWalk.i64_in _ (by omega)
  have hnb : decide (b < 0) = false := by simp; omega
  obtain ⟨p, hp⟩ : ∃ p, q * b = p := ⟨_, rfl⟩
  rw [hp] at p1 p2 HN hwr
  by_cases c1 : b < 2 * (a - p)
  · have HE : Hid (nearQ a b = q + 1) := by unfold Hid; rw [HN.out, if_pos (.inl c1)]
    have g1 : decide ((0 : Int) < 2 * (a - p) - b) = true := by simp; omega
    have g1' : decide (b < 2 * (a - p)) = true := by simp; omega
    clear HN
    go_enter Try.func75, Try.ntmps75
    go_wp2_with fail
    refine (l01Floor_any a b _ (by omega) (by omega) (by omega) (by omega)).mono ?_
    rintro e w' ⟨rfl, rfl⟩
    rw [HQ.out]
    go_wp2
    go_ret
    exact ⟨ret_int (by rw [HE.out]), rfl⟩
  · have g1 : decide ((0 : Int) < 2 * (a - p) - b) = false := by simp; omega
    have g1' : decide (b < 2 * (a - p)) = false := by simp; omega
    by_cases c2 : 2 * (a - p) = b
    · have g2 : (2 * (a - p) - b == 0) = true := by simp; omega
      have g2' : (2 * (a - p) == b) = true := by simp; omega
      by_cases c3 : q % 2 = 1
      · have HE : Hid (nearQ a b = q + 1) := by unfold Hid; rw [HN.out, if_pos (.inr ⟨c2, c3⟩)]
        have g3 : (q / 2 * 2 != q) = true := by simp; omega
        clear HN
        go_enter Try.func75, Try.ntmps75
        go_wp2_with fail
        refine (l01Floor_any a b _ (by omega) (by omega) (by omega) (by omega)).mono ?_
        rintro e w' ⟨rfl, rfl⟩
        rw [HQ.out]
        go_wp2_with fail
        refine (l01Floor_any q 2 _ (by omega) (by omega) (by omega) (by omega)).mono ?_
        rintro e w' ⟨rfl, rfl⟩
        go_wp2
        go_ret
        exact ⟨ret_int (by rw [HE.out]), rfl⟩
      · have HE : Hid (nearQ a b = q) := by unfold Hid; rw [HN.out, if_neg (by omega)]
        have g3 : (q / 2 * 2 != q) = false := by simp; omega
        clear HN
        go_enter Try.func75, Try.ntmps75
        go_wp2_with fail
        refine (l01Floor_any a b _ (by omega) (by omega) (by omega) (by omega)).mono ?_
        rintro e w' ⟨rfl, rfl⟩
        rw [HQ.out]
        go_wp2_with fail
        refine (l01Floor_any q 2 _ (by omega) (by omega) (by omega) (by omega)).mono ?_
        rintro e w' ⟨rfl, rfl⟩
        go_wp2
        go_ret
        exact ⟨ret_int (by rw [HE.out]), rfl⟩
    · have HE : Hid (nearQ a b = q) := by unfold Hid; rw [HN.out, if_neg (by omega)]
      have g2 : (2 * (a - p) - b == 0) = false := by simp; omega
      have g2' : (2 * (a - p) == b) = false := by simp; omega
      clear HN
      go_enter Try.func75, Try.ntmps75
      go_wp2_with fail
      refine (l01Floor_any a b _ (by omega) (by omega) (by omega) (by omega)).mono ?_
      rintro e w' ⟨rfl, rfl⟩
      rw [HQ.out]
      go_wp2
      go_ret
      exact ⟨ret_int (by rw [HE.out]), rfl⟩

set_option maxHeartbeats 1000000 in
theorem onWay_any (a b : Int) (j n : Nat) (w : World) (ha : -1000 ≤ a) (ha2 : a ≤ 1000) (hb : -1000 ≤ b) (hb2 : b ≤ 1000) (hj : j < n) (hn : n ≤ 200) :
    Calls Try.prog 79 #[.int .i64 a, .int .i64 b, .int .i64 j, .int .i64 n] w fun e w' => e = .returned (.int .i64 (wayI a b j n)) ∧ w = w' := by
  obtain ⟨m1, m2⟩ := way_bd ha ha2 hb hb2 hj hn
  by_cases h1 : n = 1
  · subst h1
    obtain rfl : j = 0 := by omega
    have HE : Hid (wayI a b 0 1 = a) := by unfold Hid wayI; rw [if_pos rfl]
    clear m1 m2
    go_enter Try.func79, Try.ntmps79
    go_wp2
    go_ret
    exact ⟨ret_int (by rw [HE.out]), rfl⟩
  · have HE : Hid (nearQ (a * ((n : Int) - 1) + (b - a) * (j : Int)) ((n : Int) - 1) = wayI a b j n) := by
      unfold Hid wayI
      by_cases h0 : j = 0
      · subst h0
        rw [if_pos rfl, Int.natCast_zero, Int.mul_zero, Int.add_zero, nearQ_mul _ (by omega)]
      · rw [if_neg h0]
    have hne : ((n : Int) == 1) = false := by simp; omega
    have w1 : IntKind.i64.wrap (a * ((n : Int) - 1)) = a * ((n : Int) - 1) := IntWalk.i64_in _ (by omega)
    have w2 : IntKind.i64.wrap ((b - a) * (j : Int)) = (b - a) * (j : Int) := IntWalk.i64_in _ (by omega)
    obtain ⟨p, hp⟩ : ∃ p, a * ((n : Int) - 1) = p := ⟨_, rfl⟩
    obtain ⟨r, hr⟩ : ∃ r, (b - a) * (j : Int) = r := ⟨_, rfl⟩
    rw [hp] at m1 w1 HE
    rw [hr] at m2 w2 HE
    go_enter Try.func79, Try.ntmps79
    go_wp2_with (go_at_call 124; refine (nearest_any _ _ _ (by omega) (by omega) (by omega) (by omega)).mono ?_; rintro e w' ⟨rfl, rfl⟩)
    go_ret
    exact ⟨ret_int (by rw [HE.out]), rfl⟩
set_option maxHeartbeats 1000000 in
theorem l01Ceil_any (a b : Int) (w : World) (h1 : -4611686018427387904 ≤ a) (h2 : a ≤ 4611686018427387904) (hb : 0 < b) (hb2 : b ≤ 4611686018427387904) :
    Calls Try.prog 119 #[.int .i64 a, .int .i64 b] w fun e w' => e = .returned (.int .i64 (-(-a / b))) ∧ w = w' := by
  have u1 : IntKind.i64.wrap (-a) = -a := IntWalk.i64_in _ (by omega)
  have qb := ediv_bd (a := -a) (b := b) hb (by omega) (by omega)
  have u2 : IntKind.i64.wrap (-(-a / b)) = -(-a / b) := IntWalk.i64_in _ (by omega)
  go_enter Try.func119, Try.ntmps119
  go_wp2_with fail
  refine (l01Floor_any (-a) b _ (by omega) (by omega) hb hb2).mono ?_
  rintro e w' ⟨rfl, rfl⟩
  go_wp2
  go_ret
  exact ⟨rfl, rfl⟩
end Go.Proofs.Ythmcnoloeeabbaa
