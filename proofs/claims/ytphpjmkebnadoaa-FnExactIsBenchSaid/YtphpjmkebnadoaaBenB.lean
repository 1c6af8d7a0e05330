/- Whether a bench is valid, both sides. Condition: lengths within a machine's bound. -/
import Derived.Test.YtphpjmkebnadoaaProf
namespace Go.Proofs.Ytphpjmkebnadoaa
open Go.RowKit

set_option maxRecDepth 100000 in
set_option maxHeartbeats 2000000 in
theorem implIsBench_any (h : BenchH) (l : BenchC) (w : World) (hm : h.depths.n ≤ 9223372036854775807 ∧ h.speeds.n ≤ 9223372036854775807 ∧ h.log.n ≤ 9223372036854775807) (hr : RdAll w (BenchS h l)) :
    Calls Try.prog 37 #[BenchV h l] w fun e w' => e = .returned (.bool (benchB h l)) ∧ Below w.heap.size w w' := by
  obtain ⟨m0, m1, m6⟩ := hm
  have r0 := hr.head
  have r1 := hr.tail.head
  have r6 := hr.tail.tail.head
  obtain ⟨⟨A0, n0, c0⟩, ⟨A1, n1, c1⟩, ⟨A6, n6, c6⟩⟩ := h
  obtain ⟨l0, l1, x2, x3, x4, x5, l6⟩ := l
  clear hr
  unfold BenchV
  simp only at *
  have HB : Hid (benchB ⟨⟨A0, n0, c0⟩, ⟨A1, n1, c1⟩, ⟨A6, n6, c6⟩⟩ ⟨l0, l1, x2, x3, x4, x5, l6⟩ = (profB n0 n1 l0 l1 && (inR x2 0 ((n0 : Int) - 1) && (dirB x3 x4 x5 && logB l6 n6)))) := rfl
  generalize benchB ⟨⟨A0, n0, c0⟩, ⟨A1, n1, c1⟩, ⟨A6, n6, c6⟩⟩ ⟨l0, l1, x2, x3, x4, x5, l6⟩ = res at HB ⊢
  have K0 := Blk.new w 56 #[.slice A0 n0 c0, .slice A1 n1 c1, .int .i64 x2, .int .i64 x3, .int .i64 x4, .int .i64 x5, .slice A6 n6 c6]
  have b0 : Below w.heap.size w (w.alloc (.cells #[.slice A0 n0 c0, .slice A1 n1 c1, .int .i64 x2, .int .i64 x3, .int .i64 x4, .int .i64 x5, .slice A6 n6 c6] 56)) := (Below.refl _ _).alloc (Nat.le_refl _) _
  go_enter Try.func37, Try.ntmps37
  go_upto_region 1 with fail
  generalize w.alloc (.cells #[.slice A0 n0 c0, .slice A1 n1 c1, .int .i64 x2, .int .i64 x3, .int .i64 x4, .int .i64 x5, .slice A6 n6 c6] 56) = w1 at K0 b0 ⊢
  have e0 := fun o => K0.cell o
  have g0 := K0.lt
  rcases Bool.eq_false_or_eq_true (profB n0 n1 l0 l1) with q0 | q0
  rotate_left
  · skip
    go_wp2_with fail
    refine (implIsProfile_any A0 A1 n0 n1 c0 c1 l0 l1 _ m0 m1 (r0.below b0) (r1.below b0)).mono ?_
    rintro e w2 ⟨rfl, b2⟩
    replace K0 := K0.below b2 g0
    replace e0 := fun o => K0.cell o
    replace g0 := K0.lt
    replace b0 := b0.trans (b2.mono b0.size)
    clear b2
    have HV : Hid (res = false) := by rw [HB.out]; unfold Hid; simp [q0]
    go_wp2
    go_ret
    exact ⟨ret_bool (by rw [HV.out]; done), b0⟩
  rcases Bool.eq_false_or_eq_true (inR x2 0 ((n0 : Int) - 1)) with q1 | q1
  rotate_left
  · skip
    go_wp2_with fail
    refine (implIsProfile_any A0 A1 n0 n1 c0 c1 l0 l1 _ m0 m1 (r0.below b0) (r1.below b0)).mono ?_
    rintro e w2 ⟨rfl, b2⟩
    replace K0 := K0.below b2 g0
    replace e0 := fun o => K0.cell o
    replace g0 := K0.lt
    replace b0 := b0.trans (b2.mono b0.size)
    clear b2
    go_wp2_with fail
    refine (isKnot_any A0 A1 n0 n1 c0 c1 x2 _ m0).mono ?_
    rintro e w3 ⟨rfl, b3⟩
    replace K0 := K0.below b3 g0
    replace e0 := fun o => K0.cell o
    replace g0 := K0.lt
    replace b0 := b0.trans (b3.mono b0.size)
    clear b3
    have HV : Hid (res = false) := by rw [HB.out]; unfold Hid; simp [q1]
    go_wp2
    go_ret
    exact ⟨ret_bool (by rw [HV.out]; done), b0⟩
  rcases Bool.eq_false_or_eq_true (dirB x3 x4 x5) with q2 | q2
  rotate_left
  · skip
    go_wp2_with fail
    refine (implIsProfile_any A0 A1 n0 n1 c0 c1 l0 l1 _ m0 m1 (r0.below b0) (r1.below b0)).mono ?_
    rintro e w2 ⟨rfl, b2⟩
    replace K0 := K0.below b2 g0
    replace e0 := fun o => K0.cell o
    replace g0 := K0.lt
    replace b0 := b0.trans (b2.mono b0.size)
    clear b2
    go_wp2_with fail
    refine (isKnot_any A0 A1 n0 n1 c0 c1 x2 _ m0).mono ?_
    rintro e w3 ⟨rfl, b3⟩
    replace K0 := K0.below b3 g0
    replace e0 := fun o => K0.cell o
    replace g0 := K0.lt
    replace b0 := b0.trans (b3.mono b0.size)
    clear b3
    go_wp2_with fail
    refine (implIsDirection_any x3 x4 x5 _).mono ?_
    rintro e w4 ⟨rfl, b4⟩
    replace K0 := K0.below b4 g0
    replace e0 := fun o => K0.cell o
    replace g0 := K0.lt
    replace b0 := b0.trans (b4.mono b0.size)
    clear b4
    have HV : Hid (res = false) := by rw [HB.out]; unfold Hid; simp [q2]
    go_wp2
    go_ret
    exact ⟨ret_bool (by rw [HV.out]; done), b0⟩
  go_wp2_with fail
  refine (implIsProfile_any A0 A1 n0 n1 c0 c1 l0 l1 _ m0 m1 (r0.below b0) (r1.below b0)).mono ?_
  rintro e w2 ⟨rfl, b2⟩
  replace K0 := K0.below b2 g0
  replace e0 := fun o => K0.cell o
  replace g0 := K0.lt
  replace b0 := b0.trans (b2.mono b0.size)
  clear b2
  go_wp2_with fail
  refine (isKnot_any A0 A1 n0 n1 c0 c1 x2 _ m0).mono ?_
  rintro e w3 ⟨rfl, b3⟩
  replace K0 := K0.below b3 g0
  replace e0 := fun o => K0.cell o
  replace g0 := K0.lt
  replace b0 := b0.trans (b3.mono b0.size)
  clear b3
  go_wp2_with fail
  refine (implIsDirection_any x3 x4 x5 _).mono ?_
  rintro e w4 ⟨rfl, b4⟩
  replace K0 := K0.below b4 g0
  replace e0 := fun o => K0.cell o
  replace g0 := K0.lt
  replace b0 := b0.trans (b4.mono b0.size)
  clear b4
  go_wp2_with fail
  refine (isLog_any A6 n6 c6 l6 _ m6 (r6.below b0)).mono ?_
  rintro e w5 ⟨rfl, b5⟩
  replace b0 := b0.trans (b5.mono b0.size)
  have HV : Hid (res = logB l6 n6) := by rw [HB.out]; unfold Hid; simp [q0, q1, q2]
  go_wp2
  go_ret
  exact ⟨ret_bool (by rw [HV.out]; done), b0⟩

def codeB (n m : Nat) (ds ss : List Int) (x x3 x4 x5 : Int) : Int := if (profB n m ds ss && dirB x3 x4 x5) = true then (if inR x 0 ((n : Int) - 1) = true then 0 else 2) else 1
set_option maxRecDepth 100000 in
set_option maxHeartbeats 2000000 in
theorem l05Code_any (A0 A1 : Option Addr) (n m c d : Nat) (ds ss : List Int) (x x3 x4 x5 : Int) (w : World) (hn : n ≤ 9223372036854775807) (hm : m ≤ 9223372036854775807) (r0 : Rd w A0 n (ints ds)) (r1 : Rd w A1 m (ints ss)) :
    Calls Try.prog 66 #[.agg #[.slice A0 n c, .slice A1 m d], .int .i64 x, .agg #[.int .i64 x3, .int .i64 x4, .int .i64 x5], .int .i64 0] w fun e w' => e = .returned (.int .i64 (codeB n m ds ss x x3 x4 x5)) ∧ Below w.heap.size w w' := by
  have HB : Hid (codeB n m ds ss x x3 x4 x5 = if (profB n m ds ss && dirB x3 x4 x5) = true then (if inR x 0 ((n : Int) - 1) = true then 0 else 2) else 1) := rfl
  generalize codeB n m ds ss x x3 x4 x5 = res at HB ⊢
  have K0 := (Blk.new w 52 #[.slice A0 n c, .slice A1 m d]).alloc (.cells #[.int .i64 x3, .int .i64 x4, .int .i64 x5] 54)
  have K1 := Blk.newN (g := w.heap.size + 1) (w.alloc (.cells #[.slice A0 n c, .slice A1 m d] 52)) 54 #[.int .i64 x3, .int .i64 x4, .int .i64 x5] (by simp)
  have b0 : Below w.heap.size w ((w.alloc (.cells #[.slice A0 n c, .slice A1 m d] 52)).alloc (.cells #[.int .i64 x3, .int .i64 x4, .int .i64 x5] 54)) := (by (repeat (first | (with_reducible assumption) | (with_reducible exact Below.refl _ _) | (with_reducible refine Below.drew ?_) | (with_reducible refine Below.drewN ?_ _) | (with_reducible refine Below.setCell ?_ ?_ _) | (with_reducible refine Below.alloc ?_ ?_ _) | assumption)); all_goals (first | omega | (simp; done) | (simp; omega)))
  go_enter Try.func66, Try.ntmps66
  go_upto_region 1 with fail
  generalize (w.alloc (.cells #[.slice A0 n c, .slice A1 m d] 52)).alloc (.cells #[.int .i64 x3, .int .i64 x4, .int .i64 x5] 54) = w1 at K0 K1 b0 ⊢
  have e0 := fun o => K0.cell o
  have e1 := fun o => K1.cell o
  have g0 := K0.lt
  have g1 := K1.lt
  rcases Bool.eq_false_or_eq_true (profB n m ds ss) with q0 | q0
  rotate_left
  · skip
    go_wp2_with fail
    refine (specIsProfile_any A0 A1 n m c d ds ss _ hn hm (r0.below b0) (r1.below b0)).mono ?_
    rintro e w2 ⟨rfl, b2⟩
    replace K0 := K0.below b2 g0
    replace e0 := fun o => K0.cell o
    replace g0 := K0.lt
    replace K1 := K1.below b2 g1
    replace e1 := fun o => K1.cell o
    replace g1 := K1.lt
    replace b0 := b0.trans (b2.mono b0.size)
    clear b2
    have HV : Hid (res = 1) := by rw [HB.out]; unfold Hid; simp [q0]
    go_wp2
    go_ret
    exact ⟨ret_int (by rw [HV.out]; done), b0⟩
  have hlen : (2 : Int) ≤ (n : Int) ∧ (n : Int) ≤ 12 := by
    unfold profB at q0
    rw [Bool.and_eq_true] at q0
    exact inR_true q0.1
  obtain ⟨len1, len2⟩ := hlen
  rcases Bool.eq_false_or_eq_true (dirB x3 x4 x5) with q1 | q1
  rotate_left
  · skip
    go_wp2_with fail
    refine (specIsProfile_any A0 A1 n m c d ds ss _ hn hm (r0.below b0) (r1.below b0)).mono ?_
    rintro e w2 ⟨rfl, b2⟩
    replace K0 := K0.below b2 g0
    replace e0 := fun o => K0.cell o
    replace g0 := K0.lt
    replace K1 := K1.below b2 g1
    replace e1 := fun o => K1.cell o
    replace g1 := K1.lt
    replace b0 := b0.trans (b2.mono b0.size)
    clear b2
    go_wp2_with fail
    refine (specIsDirection_any x3 x4 x5 _).mono ?_
    rintro e w3 ⟨rfl, b3⟩
    replace K0 := K0.below b3 g0
    replace e0 := fun o => K0.cell o
    replace g0 := K0.lt
    replace K1 := K1.below b3 g1
    replace e1 := fun o => K1.cell o
    replace g1 := K1.lt
    replace b0 := b0.trans (b3.mono b0.size)
    clear b3
    have HV : Hid (res = 1) := by rw [HB.out]; unfold Hid; simp [q1]
    go_wp2
    go_ret
    exact ⟨ret_int (by rw [HV.out]; done), b0⟩
  have q3 : inR 0 0 ((n : Int) - 1) = true := inR_mk (by omega) (by omega)
  rcases Bool.eq_false_or_eq_true (inR x 0 ((n : Int) - 1)) with q2 | q2
  rotate_left
  · skip
    go_wp2_with fail
    refine (specIsProfile_any A0 A1 n m c d ds ss _ hn hm (r0.below b0) (r1.below b0)).mono ?_
    rintro e w2 ⟨rfl, b2⟩
    replace K0 := K0.below b2 g0
    replace e0 := fun o => K0.cell o
    replace g0 := K0.lt
    replace K1 := K1.below b2 g1
    replace e1 := fun o => K1.cell o
    replace g1 := K1.lt
    replace b0 := b0.trans (b2.mono b0.size)
    clear b2
    go_wp2_with fail
    refine (specIsDirection_any x3 x4 x5 _).mono ?_
    rintro e w3 ⟨rfl, b3⟩
    replace K0 := K0.below b3 g0
    replace e0 := fun o => K0.cell o
    replace g0 := K0.lt
    replace K1 := K1.below b3 g1
    replace e1 := fun o => K1.cell o
    replace g1 := K1.lt
    replace b0 := b0.trans (b3.mono b0.size)
    clear b3
    go_wp2_with fail
    refine (l01In_any _ _ _ _).mono ?_
    rintro e w' ⟨rfl, rfl⟩
    have HV : Hid (res = 2) := by rw [HB.out]; unfold Hid; simp [q0, q1, q2]
    go_wp2
    go_ret
    exact ⟨ret_int (by rw [HV.out]; done), b0⟩
  go_wp2_with fail
  refine (specIsProfile_any A0 A1 n m c d ds ss _ hn hm (r0.below b0) (r1.below b0)).mono ?_
  rintro e w2 ⟨rfl, b2⟩
  replace K0 := K0.below b2 g0
  replace e0 := fun o => K0.cell o
  replace g0 := K0.lt
  replace K1 := K1.below b2 g1
  replace e1 := fun o => K1.cell o
  replace g1 := K1.lt
  replace b0 := b0.trans (b2.mono b0.size)
  clear b2
  go_wp2_with fail
  refine (specIsDirection_any x3 x4 x5 _).mono ?_
  rintro e w3 ⟨rfl, b3⟩
  replace K0 := K0.below b3 g0
  replace e0 := fun o => K0.cell o
  replace g0 := K0.lt
  replace K1 := K1.below b3 g1
  replace e1 := fun o => K1.cell o
  replace g1 := K1.lt
  replace b0 := b0.trans (b3.mono b0.size)
  clear b3
  go_wp2_with fail
  refine (l01In_any _ _ _ _).mono ?_
  rintro e w' ⟨rfl, rfl⟩
  go_wp2_with fail
  refine (l01In_any _ _ _ _).mono ?_
  rintro e w' ⟨rfl, rfl⟩
  have HV : Hid (res = 0) := by rw [HB.out]; unfold Hid; simp [q0, q1, q2]
  go_wp2
  go_ret
  exact ⟨ret_int (by rw [HV.out]; done), b0⟩

set_option maxRecDepth 100000 in
set_option maxHeartbeats 2000000 in
theorem specIsBench_any (h : BenchH) (l : BenchC) (w : World) (hm : h.depths.n ≤ 9223372036854775807 ∧ h.speeds.n ≤ 9223372036854775807 ∧ h.log.n ≤ 9223372036854775807) (hr : RdAll w (BenchS h l)) :
    Calls Try.prog 35 #[BenchV h l] w fun e w' => e = .returned (.bool (benchB h l)) ∧ Below w.heap.size w w' := by
  obtain ⟨m0, m1, m6⟩ := hm
  have r0 := hr.head
  have r1 := hr.tail.head
  have r6 := hr.tail.tail.head
  obtain ⟨⟨A0, n0, c0⟩, ⟨A1, n1, c1⟩, ⟨A6, n6, c6⟩⟩ := h
  obtain ⟨l0, l1, x2, x3, x4, x5, l6⟩ := l
  clear hr
  unfold BenchV
  simp only at *
  have HB : Hid (benchB ⟨⟨A0, n0, c0⟩, ⟨A1, n1, c1⟩, ⟨A6, n6, c6⟩⟩ ⟨l0, l1, x2, x3, x4, x5, l6⟩ = (profB n0 n1 l0 l1 && (inR x2 0 ((n0 : Int) - 1) && (dirB x3 x4 x5 && logB l6 n6)))) := rfl
  generalize benchB ⟨⟨A0, n0, c0⟩, ⟨A1, n1, c1⟩, ⟨A6, n6, c6⟩⟩ ⟨l0, l1, x2, x3, x4, x5, l6⟩ = res at HB ⊢
  have K0 := Blk.new w 56 #[.slice A0 n0 c0, .slice A1 n1 c1, .int .i64 x2, .int .i64 x3, .int .i64 x4, .int .i64 x5, .slice A6 n6 c6]
  have b0 : Below w.heap.size w (w.alloc (.cells #[.slice A0 n0 c0, .slice A1 n1 c1, .int .i64 x2, .int .i64 x3, .int .i64 x4, .int .i64 x5, .slice A6 n6 c6] 56)) := (Below.refl _ _).alloc (Nat.le_refl _) _
  go_enter Try.func35, Try.ntmps35
  go_upto_region 1 with fail
  generalize w.alloc (.cells #[.slice A0 n0 c0, .slice A1 n1 c1, .int .i64 x2, .int .i64 x3, .int .i64 x4, .int .i64 x5, .slice A6 n6 c6] 56) = w1 at K0 b0 ⊢
  have e0 := fun o => K0.cell o
  have g0 := K0.lt
  have HC : Hid (codeB n0 n1 l0 l1 x2 x3 x4 x5 = if (profB n0 n1 l0 l1 && dirB x3 x4 x5) = true then (if inR x2 0 ((n0 : Int) - 1) = true then 0 else 2) else 1) := rfl
  by_cases q0 : codeB n0 n1 l0 l1 x2 x3 x4 x5 = 0
  rotate_left
  · have q0' : decide (codeB n0 n1 l0 l1 x2 x3 x4 x5 = 0) = false := by simpa using q0
    go_wp2_with fail
    refine (l05Code_any A0 A1 n0 n1 c0 c1 l0 l1 x2 x3 x4 x5 _ m0 m1 (r0.below b0) (r1.below b0)).mono ?_
    rintro e w2 ⟨rfl, b2⟩
    replace K0 := K0.below b2 g0
    replace e0 := fun o => K0.cell o
    replace g0 := K0.lt
    replace b0 := b0.trans (b2.mono b0.size)
    clear b2
    have HV : Hid (res = false) := by
      rw [HB.out]; unfold Hid
      rw [HC.out] at q0
      cases a : profB n0 n1 l0 l1 <;> cases b : dirB x3 x4 x5 <;> cases cc : inR x2 0 ((n0 : Int) - 1) <;> simp [a, b, cc] at q0 ⊢
    go_wp2
    go_ret
    exact ⟨ret_bool (by rw [HV.out]; done), b0⟩
  have HV : Hid (res = logB l6 n6) := by
    rw [HB.out]; unfold Hid
    rw [HC.out] at q0
    cases a : profB n0 n1 l0 l1 <;> cases b : dirB x3 x4 x5 <;> cases cc : inR x2 0 ((n0 : Int) - 1) <;> simp [a, b, cc] at q0 ⊢
  go_wp2_with fail
  refine (l05Code_any A0 A1 n0 n1 c0 c1 l0 l1 x2 x3 x4 x5 _ m0 m1 (r0.below b0) (r1.below b0)).mono ?_
  rintro e w2 ⟨rfl, b2⟩
  replace K0 := K0.below b2 g0
  replace e0 := fun o => K0.cell o
  replace g0 := K0.lt
  replace b0 := b0.trans (b2.mono b0.size)
  clear b2
  go_wp2_with fail
  refine (l31Log_any A6 n6 c6 l6 _ m6 (r6.below b0)).mono ?_
  rintro e w5 ⟨rfl, b5⟩
  replace b0 := b0.trans (b5.mono b0.size)
  go_wp2
  go_ret
  exact ⟨ret_bool (by rw [HV.out]; done), b0⟩

end Go.Proofs.Ytphpjmkebnadoaa
