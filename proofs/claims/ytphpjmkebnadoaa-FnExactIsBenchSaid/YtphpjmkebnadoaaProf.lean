/- Whether a profile and a bench are valid, both sides. Condition: lengths within a machine's bound. -/
import Derived.Test.YtphpjmkebnadoaaDirB
import Derived.Test.YtphpjmkebnadoaaRis
import Derived.Test.YtphpjmkebnadoaaLog
import Derived.Test.YtphpjmkebnadoaaTBench
namespace Go.Proofs.Ytphpjmkebnadoaa
open Go.RowKit

def profB (n m : Nat) (ds ss : List Int) : Bool := inR (n : Int) 2 12 && (decide ((m : Int) = (n : Int)) && (risB ds 1000001 && (decide (ds.getD 0 0 = 0) && allIn ss 1300000 1700000)))
set_option maxHeartbeats 400000 in
theorem lenI_any (A : Option Addr) (n c : Nat) (w : World) (_ : n ≤ 9223372036854775807) :
    Calls Try.prog 54 #[.slice A n c] w fun e w' => e = .returned (.int .i64 (n : Int)) ∧ w = w' := by
  go_enter Try.func54, Try.ntmps54
  go_wp2
  go_ret
  exact ⟨rfl, rfl⟩

set_option maxRecDepth 100000 in
set_option maxHeartbeats 2000000 in
theorem implIsProfile_any (A0 A1 : Option Addr) (n m c d : Nat) (ds ss : List Int) (w : World) (hn : n ≤ 9223372036854775807) (hm : m ≤ 9223372036854775807) (r0 : Rd w A0 n (ints ds)) (r1 : Rd w A1 m (ints ss)) :
    Calls Try.prog 69 #[.agg #[.slice A0 n c, .slice A1 m d]] w fun e w' => e = .returned (.bool (profB n m ds ss)) ∧ Below w.heap.size w w' := by
  have K0 := Blk.new w 52 #[.slice A0 n c, .slice A1 m d]
  have b0 : Below w.heap.size w (w.alloc (.cells #[.slice A0 n c, .slice A1 m d] 52)) := (Below.refl _ _).alloc (Nat.le_refl _) _
  have HL1 := Lib.hid r1.len
  go_enter Try.func69, Try.ntmps69
  go_upto_region 1 with fail
  generalize w.alloc (.cells #[.slice A0 n c, .slice A1 m d] 52) = w1 at K0 b0 ⊢
  have e0 := fun o => K0.cell o
  have g0 := K0.lt
  rcases Bool.eq_false_or_eq_true (inR (n : Int) 2 12) with q0 | q0
  rotate_left
  · skip
    have HV : Hid (profB n m ds ss = false) := by unfold Hid profB; simp [q0]
    go_wp2_with fail
    refine (lenI_any _ _ _ _ hn).mono ?_
    rintro e w' ⟨rfl, rfl⟩
    go_wp2_with fail
    refine (within_any _ _ _ _).mono ?_
    rintro e w' ⟨rfl, rfl⟩
    go_wp2
    go_ret
    exact ⟨ret_bool (by first | exact HV.out.symm | (rw [HV.out]; done) | (rw [HV.out]; simp; done)), b0⟩
  by_cases q1 : (m : Int) = (n : Int)
  rotate_left
  · have q1' : decide ((m : Int) = (n : Int)) = false := by simpa using q1
    have HV : Hid (profB n m ds ss = false) := by unfold Hid profB; simp [q0, q1]
    go_wp2_with fail
    refine (lenI_any _ _ _ _ hn).mono ?_
    rintro e w' ⟨rfl, rfl⟩
    go_wp2_with fail
    refine (within_any _ _ _ _).mono ?_
    rintro e w' ⟨rfl, rfl⟩
    go_wp2
    go_ret
    exact ⟨ret_bool (by first | exact HV.out.symm | (rw [HV.out]; done) | (rw [HV.out]; simp; done)), b0⟩
  obtain rfl : n = m := by omega
  rcases Bool.eq_false_or_eq_true (risB ds 1000001) with q2 | q2
  rotate_left
  · skip
    have HV : Hid (profB n n ds ss = false) := by unfold Hid profB; simp [q2]
    go_wp2_with fail
    refine (lenI_any _ _ _ _ hn).mono ?_
    rintro e w' ⟨rfl, rfl⟩
    go_wp2_with fail
    refine (within_any _ _ _ _).mono ?_
    rintro e w' ⟨rfl, rfl⟩
    go_wp2_with fail
    refine (isRising_any _ _ _ ds _ _ (by have := inR_true q0; omega) (r0.below b0)).mono ?_
    rintro e w2 ⟨rfl, b2⟩
    have b3 := b0.trans (b2.mono b0.size)
    replace K0 := K0.below b2 g0
    replace e0 := fun o => K0.cell o
    replace g0 := K0.lt
    clear b2
    have hpos : 0 < n := by have := inR_true q0; omega
    obtain ⟨ad, rfl, hx⟩ := (r0.below b3).int (show 0 < n by have := inR_true q0; omega)
    rw [Addr.add_zero'] at hx
    go_wp2
    go_ret
    exact ⟨ret_bool (by first | exact HV.out.symm | (rw [HV.out]; done) | (rw [HV.out]; simp; done)), b3⟩
  by_cases q3 : ds.getD 0 0 = 0
  rotate_left
  · skip
    have HV : Hid (profB n n ds ss = false) := by unfold Hid profB; simp [q3, -List.getD_eq_getElem?_getD]
    go_wp2_with fail
    refine (lenI_any _ _ _ _ hn).mono ?_
    rintro e w' ⟨rfl, rfl⟩
    go_wp2_with fail
    refine (within_any _ _ _ _).mono ?_
    rintro e w' ⟨rfl, rfl⟩
    go_wp2_with fail
    refine (isRising_any _ _ _ ds _ _ (by have := inR_true q0; omega) (r0.below b0)).mono ?_
    rintro e w2 ⟨rfl, b2⟩
    have b3 := b0.trans (b2.mono b0.size)
    replace K0 := K0.below b2 g0
    replace e0 := fun o => K0.cell o
    replace g0 := K0.lt
    clear b2
    have hpos : 0 < n := by have := inR_true q0; omega
    obtain ⟨ad, rfl, hx⟩ := (r0.below b3).int (show 0 < n by have := inR_true q0; omega)
    rw [Addr.add_zero'] at hx
    generalize ds.getD 0 0 = x at *
    have q3' : decide (x = 0) = false := by simpa using q3
    go_wp2
    go_ret
    exact ⟨ret_bool (by first | exact HV.out.symm | (rw [HV.out]; done) | (rw [HV.out]; simp; done)), b3⟩
  have HV : Hid (profB n n ds ss = allIn ss 1300000 1700000) := by unfold Hid profB; simp [q0, q2, q3, -List.getD_eq_getElem?_getD]
  go_wp2_with fail
  refine (lenI_any _ _ _ _ hn).mono ?_
  rintro e w' ⟨rfl, rfl⟩
  go_wp2_with fail
  refine (within_any _ _ _ _).mono ?_
  rintro e w' ⟨rfl, rfl⟩
  go_wp2_with fail
  refine (isRising_any _ _ _ ds _ _ (by have := inR_true q0; omega) (r0.below b0)).mono ?_
  rintro e w2 ⟨rfl, b2⟩
  have b3 := b0.trans (b2.mono b0.size)
  replace K0 := K0.below b2 g0
  replace e0 := fun o => K0.cell o
  replace g0 := K0.lt
  clear b2
  have hpos : 0 < n := by have := inR_true q0; omega
  obtain ⟨ad, rfl, hx⟩ := (r0.below b3).int (show 0 < n by have := inR_true q0; omega)
  rw [Addr.add_zero'] at hx
  rw [q3] at hx
  go_wp2_with fail
  refine (areWithin_any _ _ _ ss _ _ _ hm (r1.below b3)).mono ?_
  rintro e w' ⟨rfl, rfl⟩
  go_wp2
  go_ret
  exact ⟨ret_bool (by first | exact HV.out.symm | (rw [HV.out]; done) | (rw [HV.out]; simp; done)), b3⟩

set_option maxRecDepth 100000 in
set_option maxHeartbeats 2000000 in
theorem specIsProfile_any (A0 A1 : Option Addr) (n m c d : Nat) (ds ss : List Int) (w : World) (hn : n ≤ 9223372036854775807) (hm : m ≤ 9223372036854775807) (r0 : Rd w A0 n (ints ds)) (r1 : Rd w A1 m (ints ss)) :
    Calls Try.prog 95 #[.agg #[.slice A0 n c, .slice A1 m d]] w fun e w' => e = .returned (.bool (profB n m ds ss)) ∧ Below w.heap.size w w' := by
  have K0 := Blk.new w 52 #[.slice A0 n c, .slice A1 m d]
  have b0 : Below w.heap.size w (w.alloc (.cells #[.slice A0 n c, .slice A1 m d] 52)) := (Below.refl _ _).alloc (Nat.le_refl _) _
  have HL1 := Lib.hid r1.len
  go_enter Try.func95, Try.ntmps95
  go_upto_region 1 with fail
  generalize w.alloc (.cells #[.slice A0 n c, .slice A1 m d] 52) = w1 at K0 b0 ⊢
  have e0 := fun o => K0.cell o
  have g0 := K0.lt
  rcases Bool.eq_false_or_eq_true (inR (n : Int) 2 12) with q0 | q0
  rotate_left
  · skip
    have HV : Hid (profB n m ds ss = false) := by unfold Hid profB; simp [q0]
    by_cases k : (n : Int) < 2
    · skip
      go_wp2
      go_ret
      exact ⟨ret_bool (by first | exact HV.out.symm | (rw [HV.out]; done) | (rw [HV.out]; simp; done)), b0⟩
    · have k2 : (12 : Int) < (n : Int) := by have := inR_false q0; omega
      go_wp2
      go_ret
      exact ⟨ret_bool (by first | exact HV.out.symm | (rw [HV.out]; done) | (rw [HV.out]; simp; done)), b0⟩
  have k1 : ¬ (n : Int) < 2 := by have := inR_true q0; omega
  have k2 : ¬ (12 : Int) < (n : Int) := by have := inR_true q0; omega
  by_cases q1 : (m : Int) = (n : Int)
  rotate_left
  · have q1' : decide ((m : Int) = (n : Int)) = false := by simpa using q1
    have HV : Hid (profB n m ds ss = false) := by unfold Hid profB; simp [q0, q1]
    go_wp2
    go_ret
    exact ⟨ret_bool (by first | exact HV.out.symm | (rw [HV.out]; done) | (rw [HV.out]; simp; done)), b0⟩
  obtain rfl : n = m := by omega
  rcases Bool.eq_false_or_eq_true (risB ds 1000001) with q2 | q2
  rotate_left
  · skip
    have HV : Hid (profB n n ds ss = false) := by unfold Hid profB; simp [q2]
    go_wp2_with fail
    refine (l01Rises_any _ _ _ ds _ _ (by have := inR_true q0; omega) (r0.below b0)).mono ?_
    rintro e w2 ⟨rfl, b2⟩
    have b3 := b0.trans (b2.mono b0.size)
    replace K0 := K0.below b2 g0
    replace e0 := fun o => K0.cell o
    replace g0 := K0.lt
    clear b2
    have hpos : 0 < n := by have := inR_true q0; omega
    obtain ⟨ad, rfl, hx⟩ := (r0.below b3).int (show 0 < n by have := inR_true q0; omega)
    rw [Addr.add_zero'] at hx
    go_wp2
    go_ret
    exact ⟨ret_bool (by first | exact HV.out.symm | (rw [HV.out]; done) | (rw [HV.out]; simp; done)), b3⟩
  by_cases q3 : ds.getD 0 0 = 0
  rotate_left
  · skip
    have HV : Hid (profB n n ds ss = false) := by unfold Hid profB; simp [q3, -List.getD_eq_getElem?_getD]
    go_wp2_with fail
    refine (l01Rises_any _ _ _ ds _ _ (by have := inR_true q0; omega) (r0.below b0)).mono ?_
    rintro e w2 ⟨rfl, b2⟩
    have b3 := b0.trans (b2.mono b0.size)
    replace K0 := K0.below b2 g0
    replace e0 := fun o => K0.cell o
    replace g0 := K0.lt
    clear b2
    have hpos : 0 < n := by have := inR_true q0; omega
    obtain ⟨ad, rfl, hx⟩ := (r0.below b3).int (show 0 < n by have := inR_true q0; omega)
    rw [Addr.add_zero'] at hx
    generalize ds.getD 0 0 = x at *
    have q3' : decide (x = 0) = false := by simpa using q3
    go_wp2
    go_ret
    exact ⟨ret_bool (by first | exact HV.out.symm | (rw [HV.out]; done) | (rw [HV.out]; simp; done)), b3⟩
  have HV : Hid (profB n n ds ss = allIn ss 1300000 1700000) := by unfold Hid profB; simp [q0, q2, q3, -List.getD_eq_getElem?_getD]
  go_wp2_with fail
  refine (l01Rises_any _ _ _ ds _ _ (by have := inR_true q0; omega) (r0.below b0)).mono ?_
  rintro e w2 ⟨rfl, b2⟩
  have b3 := b0.trans (b2.mono b0.size)
  replace K0 := K0.below b2 g0
  replace e0 := fun o => K0.cell o
  replace g0 := K0.lt
  clear b2
  have hpos : 0 < n := by have := inR_true q0; omega
  obtain ⟨ad, rfl, hx⟩ := (r0.below b3).int (show 0 < n by have := inR_true q0; omega)
  rw [Addr.add_zero'] at hx
  rw [q3] at hx
  go_wp2_with fail
  have HO : Hid (okList ss 12 1300000 1700000 = allIn ss 1300000 1700000) := by
    unfold Hid okList
    rw [HL1.out, decide_eq_true (by have := inR_true q0; omega), Bool.true_and]
  refine (l01Within_any _ _ _ ss _ _ _ _ hm (r1.below b3)).mono ?_
  rintro e w' ⟨rfl, rfl⟩
  rw [HO.out]
  go_wp2
  go_ret
  exact ⟨ret_bool (by first | exact HV.out.symm | (rw [HV.out]; done) | (rw [HV.out]; simp; done)), b3⟩

set_option maxHeartbeats 1000000 in
theorem last_any (A0 A1 : Option Addr) (n m c d : Nat) (w : World) (hn : n ≤ 9223372036854775807) :
    Calls Try.prog 99 #[.agg #[.slice A0 n c, .slice A1 m d]] w fun e w' => e = .returned (.int .i64 ((n : Int) - 1)) ∧ Below w.heap.size w w' := by
  have b0 : Below w.heap.size w (w.alloc (.cells #[.slice A0 n c, .slice A1 m d] 52)) := (Below.refl _ _).alloc (Nat.le_refl _) _
  go_enter Try.func99, Try.ntmps99
  go_wp2_with (go_at_call 54; refine (lenI_any _ _ _ _ hn).mono ?_; rintro e w' ⟨rfl, rfl⟩)
  go_ret
  exact ⟨rfl, b0⟩
set_option maxHeartbeats 1000000 in
theorem isKnot_any (A0 A1 : Option Addr) (n m c d : Nat) (x : Int) (w : World) (hn : n ≤ 9223372036854775807) :
    Calls Try.prog 70 #[.agg #[.slice A0 n c, .slice A1 m d], .int .i64 x] w fun e w' => e = .returned (.bool (inR x 0 ((n : Int) - 1))) ∧ Below w.heap.size w w' := by
  have b0 : Below w.heap.size w (w.alloc (.cells #[.slice A0 n c, .slice A1 m d] 52)) := (Below.refl _ _).alloc (Nat.le_refl _) _
  go_enter Try.func70, Try.ntmps70
  go_wp2_with fail
  refine (last_any _ _ _ _ _ _ _ hn).mono ?_
  rintro e w1 ⟨rfl, b1⟩
  have b2 := b0.trans (b1.mono b0.size)
  go_wp2_with fail
  refine (within_any _ _ _ _).mono ?_
  rintro e w' ⟨rfl, rfl⟩
  go_wp2
  go_ret
  exact ⟨rfl, b2⟩
def benchB (h : BenchH) (l : BenchC) : Bool := profB h.depths.n h.speeds.n l.depths l.speeds && (inR l.source 0 ((h.depths.n : Int) - 1) && (dirB l.cos l.sin l.hyp && logB l.log h.log.n))

end Go.Proofs.Ytphpjmkebnadoaa
