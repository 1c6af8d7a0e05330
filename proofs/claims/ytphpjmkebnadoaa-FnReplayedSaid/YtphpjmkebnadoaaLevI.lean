/- impl: a time among rising times; the level of a valid gauge at a time. Condition: a valid gauge, a time from 0 to 1000000. -/
import Derived.Test.YtphpjmkebnadoaaLevM
import Derived.Test.YtphpjmkebnadoaaArith
import Derived.Test.YtphpjmkebnadoaaGauC
namespace Go.Proofs.Ytphpjmkebnadoaa
open Go.RowKit

set_option maxHeartbeats 1000000 in
theorem lessI_any (x y : Int) (w : World) :
    Calls Try.prog 124 #[.int .i64 x, .int .i64 y] w fun e w' => e = .returned (.bool (decide (x < y))) ∧ w' = w := by
  go_enter Try.func124, Try.ntmps124
  go_wp2_with (go_at_call 104; refine (isNaN_any _ _).mono ?_; rintro e w' ⟨rfl, rfl⟩)
  go_ret
  exact ⟨rfl, rfl⟩
set_option maxHeartbeats 1000000 in
theorem sisNaN_any (x : Int) (w : World) :
    Calls Try.prog 125 #[.int .i64 x] w fun e w' => e = .returned (.bool false) ∧ w' = w := by
  go_enter Try.func125, Try.ntmps125
  go_wp2
  go_ret
  exact ⟨ret_bool (by simp), rfl⟩
set_option maxRecDepth 100000 in
set_option maxHeartbeats 2000000 in
theorem binSearch_any (A : Option Addr) (n c : Nat) (ts : List Int) (t : Int) (w : World) (hn : n ≤ 1000) (hr : Rd w A n (ints ts)) (hs : Ris ts) :
    Calls Try.prog 107 #[.slice A n c, .int .i64 t] w fun e w' => e = .returned (.tuple #[.int .i64 (cutN ts t : Nat), .bool (decide (cutN ts t < n) && decide (ts.getD (cutN ts t) 0 = t))]) ∧ Below w.heap.size w w' := by
  have hl : ts.length = n := hr.len
  have HS := Lib.hid hs
  clear hs
  go_enter Try.func107, Try.ntmps107
  go_wp2_with fail
  go_loopw [7, 8] (fun v7 v8 wr => ∃ i j : Nat, i ≤ j ∧ j ≤ n ∧ v7 = .int .i64 i ∧ v8 = .int .i64 j ∧ (∀ a, a < i → ts.getD a 0 < t) ∧ (∀ a, j ≤ a → a < n → t ≤ ts.getD a 0) ∧ Below w.heap.size w wr)
    (fun v7 v8 _ => (intOf v8 - intOf v7).toNat)
  case atStart => exact ⟨0, n, Nat.zero_le _, Nat.le_refl _, rfl, rfl, fun a h => absurd h (Nat.not_lt_zero _), fun a h1 h2 => by omega, Below.refl _ _⟩
  case round =>
    obtain ⟨i, j, hij, hjn, rfl, rfl, hlo, hhi, hb⟩ := hrel
    have HLO := Lib.hid hlo
    have HHI := Lib.hid hhi
    clear hlo hhi
    by_cases hlt : i < j
    · have hltI : (i : Int) < (j : Int) := by omega
      go_upto_region 5 with fail
      have hm : ((i : Int) + (j : Int)) / 2 = (((i + j) / 2 : Nat) : Int) := by omega
      rw [hm]
      have h1 : i ≤ (i + j) / 2 := by omega
      have h2 : (i + j) / 2 < j := by omega
      generalize (i + j) / 2 = m at *
      clear hm
      have hmn : m < n := by omega
      obtain ⟨ad, rfl, hx⟩ := (hr.below hb).int hmn
      have HX := Lib.hid (rfl : ts.getD m 0 = ts.getD m 0)
      have HR := HS
      by_cases hlx : ts.getD m 0 < t
      · have hlo2 : ∀ a, a < m + 1 → ts.getD a 0 < t := fun a ha => by
          by_cases e : a = m
          · subst e; exact hlx
          · have := HS.out a m (by omega) (by omega); omega
        have HL2 := Lib.hid hlo2
        clear hlo2
        have hd := decide_eq_true hlx
        generalize ts.getD m 0 = x at hx hd
        go_wp2_with (go_at_call 124; refine (lessI_any _ _ _).mono ?_; rintro e w' ⟨rfl, rfl⟩; rw [hd])
        go_roundw
        case rel => exact ⟨m + 1, j, by omega, hjn, by go_num, rfl, HL2.out, HHI.out, hb⟩
        case measure => simp [intOf]; omega
      · have hhi2 : ∀ a, m ≤ a → a < n → t ≤ ts.getD a 0 := fun a ha han => by
          by_cases e : m = a
          · subst e; omega
          · have := HS.out m a (by omega) (by omega); omega
        have HH2 := Lib.hid hhi2
        clear hhi2
        have hd := decide_eq_false hlx
        generalize ts.getD m 0 = x at hx hd
        go_wp2_with (go_at_call 124; refine (lessI_any _ _ _).mono ?_; rintro e w' ⟨rfl, rfl⟩; rw [hd])
        go_roundw
        case rel => exact ⟨i, m, by omega, by omega, rfl, rfl, HLO.out, HH2.out, hb⟩
        case measure => simp [intOf]; omega
    · obtain rfl : i = j := by omega
      have HC : Hid (cutN ts t = i) := cutN_uniq (by omega) HLO.out (fun h => Int.not_lt.2 (HHI.out i (Nat.le_refl _) (by omega)))
      by_cases hin : i < n
      · obtain ⟨ad, rfl, hx⟩ := (hr.below hb).int hin
        have hinI : (i : Int) < (n : Int) := by omega
        by_cases he : ts.getD i 0 = t
        · rw [he] at hx
          go_wp2
          refine bodyPost_ret (v := .tuple #[.int .i64 (i : Int), .bool true]) (by simp [results, Try.results107, go_sem]) rfl ⟨?_, hb⟩
          rw [HC.out, he, decide_eq_true hin, decide_eq_true rfl]; rfl
        · have HE := Lib.hid he
          obtain ⟨x, hxe⟩ : ∃ x, ts.getD i 0 = x := ⟨_, rfl⟩
          rw [hxe] at hx
          have hne : ¬ x = t := hxe ▸ he
          have hd : decide (x = t) = false := decide_eq_false hne
          clear he hxe
          go_wp2_with (go_at_call 125; refine (sisNaN_any _ _).mono ?_; rintro e w' ⟨rfl, rfl⟩)
          refine bodyPost_ret (v := .tuple #[.int .i64 (i : Int), .bool false]) (by simp [results, Try.results107, go_sem, hne]) rfl ⟨?_, hb⟩
          rw [HC.out, decide_eq_false HE.out, Bool.and_false]
      · have hinI : ¬ (i : Int) < (n : Int) := by omega
        go_wp2
        refine bodyPost_ret (v := .tuple #[.int .i64 (i : Int), .bool false]) (by simp [results, Try.results107, go_sem]) rfl ⟨?_, hb⟩
        rw [HC.out, decide_eq_false hin, Bool.false_and]
end Go.Proofs.Ytphpjmkebnadoaa
