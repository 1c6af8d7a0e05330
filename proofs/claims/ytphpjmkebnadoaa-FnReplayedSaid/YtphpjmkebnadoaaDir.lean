/- Directions: the greatest divisor and whether three numbers are a direction, both sides. No condition but the divisor's bounds. -/
import Derived.Test.YtphpjmkebnadoaaTI
import Derived.IntWalk
namespace Go.Proofs.Ytphpjmkebnadoaa
open Go.RowKit

theorem drew2 (w : World) (n m : Nat) : (w.drewN n).drewN m = w.drewN (n + m) := by simp [World.drewN, Nat.add_assoc]
theorem q_drew {P : Program} {f : FuncId} {args : Array Value} {w : World} {n : Nat} {v : Value} (h : Calls P f args (w.drewN n) fun e w' => e = .returned v ∧ ∃ m, w' = (w.drewN n).drewN m) : Calls P f args (w.drewN n) fun e w' => e = .returned v ∧ ∃ m, w' = w.drewN m :=
  h.mono fun _ _ ⟨he, m, hm⟩ => ⟨he, n + m, by rw [hm, drew2]⟩
theorem q_none {P : Program} {f : FuncId} {args : Array Value} {w : World} {n : Nat} {v : Value} (h : Calls P f args (w.drewN n) fun e w' => e = .returned v ∧ w.drewN n = w') : Calls P f args (w.drewN n) fun e w' => e = .returned v ∧ ∃ m, w' = w.drewN m :=
  h.mono fun _ _ ⟨he, hm⟩ => ⟨he, n, hm.symm⟩
theorem gcd_step (a b : Int) : Int.gcd b (a.tmod b) = Int.gcd a b := by
  unfold Int.gcd
  rw [Int.natAbs_tmod, Nat.gcd_comm a.natAbs b.natAbs, Nat.gcd_rec b.natAbs a.natAbs, Nat.gcd_comm]
theorem tmod_lt (a : Int) {b : Int} (h : b ≠ 0) : (a.tmod b).natAbs < b.natAbs := by
  rw [Int.natAbs_tmod]
  exact Nat.mod_lt _ (by omega)
theorem gcd_zero (a : Int) : (Int.gcd a 0 : Int) = (a.natAbs : Int) := by unfold Int.gcd; simp
theorem gcd_le {a b : Int} (ha : a.natAbs ≤ 1000000) (hb : b.natAbs ≤ 1000000) : Int.gcd a b ≤ 1000000 := by
  unfold Int.gcd
  by_cases h : b.natAbs = 0
  · rw [h, Nat.gcd_zero_right]; exact ha
  · exact Nat.le_trans (Nat.le_of_dvd (by omega) (Nat.gcd_dvd_right _ _)) hb
set_option maxHeartbeats 400000 in
theorem absI_any (x : Int) (w : World) (h : x.natAbs ≤ 1000000) :
    Calls Try.prog 113 #[.int .i64 x] w fun e w' => e = .returned (.int .i64 (x.natAbs : Int)) ∧ w = w' := by
  have h1 : -1000000 ≤ x := by omega
  have h2 : x ≤ 1000000 := by omega
  have HA : Hid ((x.natAbs : Int) = if x < -x then -x else x) := by unfold Hid; split <;> omega
  clear h
  go_enter Try.func113, Try.ntmps113
  go_wp2
  all_goals
    go_ret
    exact ⟨ret_int (by rw [HA.out]; first | (rw [if_pos (by omega)]; done) | (rw [if_neg (by omega)]; done)), rfl⟩
set_option maxHeartbeats 400000 in
theorem absS_any (x : Int) (w : World) (h : x.natAbs ≤ 1000000) :
    Calls Try.prog 126 #[.int .i64 x] w fun e w' => e = .returned (.int .i64 (x.natAbs : Int)) ∧ w = w' := by
  have h1 : -1000000 ≤ x := by omega
  have h2 : x ≤ 1000000 := by omega
  have HA : Hid ((x.natAbs : Int) = if x < -x then -x else x) := by unfold Hid; split <;> omega
  clear h
  go_enter Try.func126, Try.ntmps126
  go_wp2
  all_goals
    go_ret
    exact ⟨ret_int (by rw [HA.out]; first | (rw [if_pos (by omega)]; done) | (rw [if_neg (by omega)]; done)), rfl⟩
set_option maxHeartbeats 1000000 in
theorem gcd_any (a b : Int) (w : World) (ha : a.natAbs ≤ 1000000) (hb : b.natAbs ≤ 1000000) :
    Calls Try.prog 100 #[.int .i64 a, .int .i64 b] w fun e w' => e = .returned (.int .i64 (Int.gcd a b : Int)) ∧ ∃ m, w' = w.drewN m := by
  go_enter Try.func100, Try.ntmps100
  go_wp2
  go_loopw [0, 1] (fun x y wr => ∃ (c d : Int) (u : Nat), x = .int .i64 c ∧ y = .int .i64 d ∧ c.natAbs ≤ 1000000 ∧ d.natAbs ≤ 1000000 ∧ Int.gcd c d = Int.gcd a b ∧ wr = w.drewN u) (fun _ y _ => (intOf y).natAbs)
  case atStart => exact ⟨a, b, 0, rfl, rfl, ha, hb, rfl, rfl⟩
  case round =>
    obtain ⟨c, d, u, rfl, rfl, hc, hd, hg, rfl⟩ := hrel
    have HG := Lib.hid hg
    clear hg
    by_cases h0 : d = 0
    · subst h0
      have HV : Hid ((c.natAbs : Int) = (Int.gcd a b : Int)) := by unfold Hid; rw [← HG.out, gcd_zero]
      have HC := Lib.hid hc
      clear hc hd ha hb
      go_wp2_with (go_at_call 113; refine (absI_any _ _ HC.out).mono ?_; rintro e w' ⟨rfl, rfl⟩)
      go_ret
      exact ⟨ret_int (by first | exact HV.out | rfl), u, rfl⟩
    · have g1 : decide (d = 0) = false := by simpa using h0
      have i1 : -1000000 ≤ c := by omega
      have i2 : c ≤ 1000000 := by omega
      have i3 : -1000000 ≤ d := by omega
      have i4 : d ≤ 1000000 := by omega
      have HL := Lib.hid (tmod_lt c h0)
      have HS := Lib.hid (gcd_step c d)
      have hw : IntKind.i64.wrap (c.tmod d) = c.tmod d := IntWalk.i64_in _ (by have := HL.out; omega)
      have HD := Lib.hid hd
      clear hc hd ha hb
      go_wp2_with fail
      go_quiet (fail)
      go_wp2
      go_roundw
      case rel => exact ⟨d, c.tmod d, _, rfl, by first | rfl | rw [hw], HD.out, Nat.le_trans (Nat.le_of_lt HL.out) HD.out, HS.out.trans HG.out, drew2 _ _ _⟩
      case measure => first | exact HL.out | (simp only [intOf, hw]; exact HL.out)
set_option maxHeartbeats 1000000 in
theorem divisor_any (a b : Int) (w : World) (ha : a.natAbs ≤ 1000000) (hb : b.natAbs ≤ 1000000) :
    Calls Try.prog 112 #[.int .i64 a, .int .i64 b] w fun e w' => e = .returned (.int .i64 (Int.gcd a b : Int)) ∧ ∃ m, w' = w.drewN m := by
  have HA := Lib.hid ha
  have HB := Lib.hid hb
  have HG0 : Hid (Int.gcd (a.natAbs : Int) (b.natAbs : Int) = Int.gcd a b) := by unfold Hid Int.gcd; simp
  clear ha hb
  go_enter Try.func112, Try.ntmps112
  go_wp2_with fail
  refine (absS_any _ _ HA.out).mono ?_
  rintro e w' ⟨rfl, rfl⟩
  go_wp2_with fail
  refine (absS_any _ _ HB.out).mono ?_
  rintro e w' ⟨rfl, rfl⟩
  go_wp2
  go_loopw [0, 1] (fun x y wr => ∃ (c d : Int) (u : Nat), x = .int .i64 c ∧ y = .int .i64 d ∧ 0 ≤ c ∧ c ≤ 1000000 ∧ 0 ≤ d ∧ d ≤ 1000000 ∧ Int.gcd c d = Int.gcd a b ∧ wr = w.drewN u) (fun _ y _ => (intOf y).natAbs)
  case atStart => exact ⟨_, _, 0, rfl, rfl, by omega, by have := HA.out; omega, by omega, by have := HB.out; omega, HG0.out, rfl⟩
  case round =>
    obtain ⟨c, d, u, rfl, rfl, c0, c1, d0, d1, hg, rfl⟩ := hrel
    have HG := Lib.hid hg
    clear hg
    by_cases h0 : d = 0
    · subst h0
      have HV : Hid (c = (Int.gcd a b : Int)) := by unfold Hid; rw [← HG.out, gcd_zero]; omega
      go_wp2
      go_ret
      exact ⟨ret_int HV.out, u, rfl⟩
    · have g1 : decide (d = 0) = false := by simpa using h0
      have dp : 0 < d := by omega
      have g2 : decide (0 < d) = true := by simpa using dp
      have HL := Lib.hid (tmod_lt c h0)
      have HS := Lib.hid (gcd_step c d)
      have t0 : 0 ≤ c.tmod d := Int.tmod_nonneg _ c0
      have t1 : c.tmod d ≤ 1000000 := by have := HL.out; omega
      have hw : IntKind.i64.wrap (c.tmod d) = c.tmod d := IntWalk.i64_in _ (by omega)
      have he : c.tmod d = c % d := Int.tmod_eq_emod_of_nonneg c0
      have HE := Lib.hid he
      clear he
      go_wp2_with fail
      go_quiet (fail)
      go_wp2
      go_roundw
      case rel => exact ⟨d, c.tmod d, _, rfl, by first | rfl | rw [hw] | rw [HE.out], d0, d1, t0, t1, HS.out.trans HG.out, drew2 _ _ _⟩
      case measure => first | exact HL.out | (simp only [intOf, hw]; exact HL.out) | (simp only [intOf, ← HE.out]; exact HL.out)

def dirB (c s h : Int) : Bool := inR h 1 1000 && (inR c 1 1000 && (inR s (-1000) 1000 && (!decide (s = 0) && (decide (c * c + s * s = h * h) && decide (((Int.gcd (Int.gcd c s : Int) h : Nat) : Int) = 1)))))
end Go.Proofs.Ytphpjmkebnadoaa
