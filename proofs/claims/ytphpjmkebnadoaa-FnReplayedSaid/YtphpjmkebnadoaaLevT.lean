/- spec.ReduceSounding. Condition: a valid sounding, a valid gauge, a time from 0 to 1000000. -/
import Derived.Test.YtphpjmkebnadoaaLevR
import Derived.Deep.RegionHeld3
namespace Go.Proofs.Ytphpjmkebnadoaa
open Go.RowKit

set_option maxHeartbeats 1000000 in
theorem specBounds_any (x y d r : Int) (w : World) (h1 : -2000 ≤ d) (h2 : d ≤ 1000000) (h3 : 0 ≤ r) (h4 : r ≤ 5000) :
    Calls Try.prog 83 #[.agg #[.int .i64 x, .int .i64 y, .int .i64 d, .int .i64 r]] w fun e w' => e = .returned (.agg #[.int .i64 (d - r), .int .i64 (d + r)]) ∧ Below w.heap.size w w' := by
  have K1 := (Blk.new w 45 #[.int .i64 x, .int .i64 y, .int .i64 d, .int .i64 r]).alloc (.cells #[.int .i64 0, .int .i64 0] 106)
  have K2 := Blk.newN (g := w.heap.size + 1) (w.alloc (.cells #[.int .i64 x, .int .i64 y, .int .i64 d, .int .i64 r] 45)) 106 #[.int .i64 0, .int .i64 0] (by simp)
  have b0 : Below w.heap.size w ((w.alloc (.cells #[.int .i64 x, .int .i64 y, .int .i64 d, .int .i64 r] 45)).alloc (.cells #[.int .i64 0, .int .i64 0] 106)) := (by (repeat (first | (with_reducible assumption) | (with_reducible exact Below.refl _ _) | (with_reducible refine Below.drew ?_) | (with_reducible refine Below.drewN ?_ _) | (with_reducible refine Below.setCell ?_ ?_ _) | (with_reducible refine Below.alloc ?_ ?_ _) | assumption)); all_goals (first | omega | (simp; done) | (simp; omega)))
  go_enter Try.func83, Try.ntmps83
  go_upto_region 1 with fail
  generalize (w.alloc (.cells #[.int .i64 x, .int .i64 y, .int .i64 d, .int .i64 r] 45)).alloc (.cells #[.int .i64 0, .int .i64 0] 106) = w1 at K1 K2 b0 ⊢
  have e1 := fun o => K1.cell o
  have e2 := fun o => K2.cell o
  have f2 := fun o => K2.frozen o
  have g2 := K2.lt
  go_wp2
  refine bodyPost_ret (v := .agg #[.int .i64 (d - r), .int .i64 (d + r)]) (by simp [results, Try.results83, go_sem, e2, g2]) rfl ⟨rfl, ?_⟩
  repeat (first | with_reducible exact b0 | refine Below.setCell ?_ (by simp <;> omega) _)

set_option maxRecDepth 100000 in
set_option maxHeartbeats 4000000 in
theorem specReduce_any (A0 A1 : Option Addr) (n c q : Nat) (ts ls : List Int) (t x y d r : Int) (w : World) (G : GaOk ts ls) (r0 : Rd w A0 n (ints ts)) (r1 : Rd w A1 n (ints ls)) (ht0 : 0 ≤ t) (ht1 : t ≤ 1000000) (hs : souB x y d r = true) :
    Calls Try.prog 47 #[.agg #[.int .i64 x, .int .i64 y, .int .i64 d, .int .i64 r], .agg #[.slice A0 n c, .slice A1 n q], .int .i64 t] w fun e w' => e = .returned (.tuple #[redV ts ls t x y d r, .int .i64 (redC ts ls t x y d r)]) ∧ Below w.heap.size w w' := by
  have K3 := ((Blk.new w 45 #[.int .i64 x, .int .i64 y, .int .i64 d, .int .i64 r]).alloc (.cells #[.slice A0 n c, .slice A1 n q] 26)).alloc (.cells #[.int .i64 0, .int .i64 0, .int .i64 0, .int .i64 0] 45)
  have K4 := (Blk.newN (g := w.heap.size + 1) (w.alloc (.cells #[.int .i64 x, .int .i64 y, .int .i64 d, .int .i64 r] 45)) 26 #[.slice A0 n c, .slice A1 n q] (by simp)).alloc (.cells #[.int .i64 0, .int .i64 0, .int .i64 0, .int .i64 0] 45)
  have K6 := Blk.newN (g := w.heap.size + 1 + 1) ((w.alloc (.cells #[.int .i64 x, .int .i64 y, .int .i64 d, .int .i64 r] 45)).alloc (.cells #[.slice A0 n c, .slice A1 n q] 26)) 45 #[.int .i64 0, .int .i64 0, .int .i64 0, .int .i64 0] (by simp)
  have b0 : Below w.heap.size w (((w.alloc (.cells #[.int .i64 x, .int .i64 y, .int .i64 d, .int .i64 r] 45)).alloc (.cells #[.slice A0 n c, .slice A1 n q] 26)).alloc (.cells #[.int .i64 0, .int .i64 0, .int .i64 0, .int .i64 0] 45)) := (by (repeat (first | (with_reducible assumption) | (with_reducible exact Below.refl _ _) | (with_reducible refine Below.drew ?_) | (with_reducible refine Below.drewN ?_ _) | (with_reducible refine Below.setCell ?_ ?_ _) | (with_reducible refine Below.alloc ?_ ?_ _) | assumption)); all_goals (first | omega | (simp; done) | (simp; omega)))
  have HG := Lib.hid G
  have hbd := lv_bd G ht0 ht1
  have HS := Lib.hid hs
  have hd : (-2000 ≤ d ∧ d ≤ 1000000) ∧ 0 ≤ r ∧ r ≤ 5000 := by
    unfold souB at hs
    simp only [Bool.and_eq_true] at hs
    exact ⟨inR_true hs.1.2, inR_true hs.2⟩
  have HRC : Hid (redC ts ls t x y d r = if levC ts t = 0 then (if redB ts ls t x y d r = true then 0 else 3) else 4) := rfl
  have HRV : Hid (redV ts ls t x y d r = if redC ts ls t x y d r = 0 then .agg #[.int .i64 x, .int .i64 y, .int .i64 (redD d r (lvLo ts ls t) (lvHi ts ls t)), .int .i64 (redE d r (lvLo ts ls t) (lvHi ts ls t))] else .agg #[.int .i64 0, .int .i64 0, .int .i64 0, .int .i64 0]) := rfl
  have HRB : Hid (redB ts ls t x y d r = souB x y (redD d r (lvLo ts ls t) (lvHi ts ls t)) (redE d r (lvLo ts ls t) (lvHi ts ls t))) := rfl
  have hlc := lev_code ts t
  clear hs G
  go_enter Try.func47, Try.ntmps47
  go_upto_region 1 with fail
  generalize ((w.alloc (.cells #[.int .i64 x, .int .i64 y, .int .i64 d, .int .i64 r] 45)).alloc (.cells #[.slice A0 n c, .slice A1 n q] 26)).alloc (.cells #[.int .i64 0, .int .i64 0, .int .i64 0, .int .i64 0] 45) = w1 at K3 K4 K6 b0 ⊢
  have g3 := K3.lt
  have g4 := K4.lt
  have g6 := K6.lt
  have e3 := fun o => K3.cell o
  have e4 := fun o => K4.cell o
  have e6 := fun o => K6.cell o
  have f6 := fun o => K6.frozen o
  go_wp2_with fail

  refine (l21Is_any x y d r _).mono ?_
  rw [HS.out]
  rintro e w2 ⟨rfl, hw2⟩
  have b2 : Below w1.heap.size w1 w2 := by rw [hw2]; exact (Below.refl _ _).alloc (Nat.le_refl _) _
  clear hw2
  replace K3 := K3.below b2 g3
  replace K4 := K4.below b2 g4
  replace K6 := K6.below b2 g6
  replace b0 := b0.trans (b2.mono b0.size)
  replace g3 := K3.lt
  replace g4 := K4.lt
  replace g6 := K6.lt
  replace e3 := fun o => K3.cell o
  replace e4 := fun o => K4.cell o
  replace e6 := fun o => K6.cell o
  replace f6 := fun o => K6.frozen o
  clear b2
  go_wp2_with fail
  refine (specLevelAt_any A0 A1 n c q ts ls t _ HG.out (r0.below b0) (r1.below b0) ht0 ht1).mono ?_
  rintro e w4 ⟨rfl, b4⟩
  replace K3 := K3.below b4 g3
  replace K4 := K4.below b4 g4
  replace K6 := K6.below b4 g6
  replace b0 := b0.trans (b4.mono b0.size)
  replace g3 := K3.lt
  replace g4 := K4.lt
  replace g6 := K6.lt
  replace e3 := fun o => K3.cell o
  replace e4 := fun o => K4.cell o
  replace e6 := fun o => K6.cell o
  replace f6 := fun o => K6.frozen o
  clear b4

  clear HG r0 r1
  generalize lvLo ts ls t = lo at *
  generalize lvHi ts ls t = hi at *
  generalize redB ts ls t x y d r = rb at *
  generalize levC ts t = lc at *
  rcases hlc with rfl | rfl
  rotate_left
  · have HV : Hid (redV ts ls t x y d r = .agg #[.int .i64 0, .int .i64 0, .int .i64 0, .int .i64 0] ∧ redC ts ls t x y d r = 4) := by
      have a := HRC.out
      rw [if_neg (by decide)] at a
      have b := HRV.out
      rw [a, if_neg (by decide)] at b
      exact ⟨b, a⟩

    go_wp2
    refine bodyPost_ret (v := .tuple #[.agg #[.int .i64 0, .int .i64 0, .int .i64 0, .int .i64 0], .int .i64 4]) (by simp [results, Try.results47, go_sem, e6, g6]) rfl ⟨by rw [HV.out.1, HV.out.2], ?_⟩
    have hsz := b0.size
    repeat (first | with_reducible exact b0 | refine Below.setCell ?_ (by simp <;> omega) _ | refine Below.alloc ?_ (by simp <;> omega) _)

  go_upto_region 4 with fail
  have hp8 := g6
  have K8 := Blk.new w4 106 #[.int .i64 lo, .int .i64 hi]
  have b5 : Below w4.heap.size w4 (w4.alloc (.cells #[.int .i64 lo, .int .i64 hi] 106)) := (Below.refl _ _).alloc (Nat.le_refl _) _
  replace K3 := K3.below b5 g3
  replace K4 := K4.below b5 g4
  replace K6 := K6.below b5 g6
  replace b0 := b0.trans (b5.mono b0.size)
  replace g3 := K3.lt
  replace g4 := K4.lt
  replace g6 := K6.lt
  replace e3 := fun o => K3.cell o
  replace e4 := fun o => K4.cell o
  replace e6 := fun o => K6.cell o
  replace f6 := fun o => K6.frozen o
  clear b5
  generalize w4.alloc (.cells #[.int .i64 lo, .int .i64 hi] 106) = w5 at *
  have g8 := K8.lt
  generalize w4.heap.size = p8 at *
  have e8 := fun o => K8.cell o
  go_wp2_with fail
  refine (specBounds_any x y d r _ hd.1.1 hd.1.2 hd.2.1 hd.2.2).mono ?_
  rintro e w6 ⟨rfl, b6⟩
  replace K8 := K8.below b6 g8
  replace g8 := K8.lt
  replace e8 := fun o => K8.cell o
  replace K3 := K3.below b6 g3
  replace K4 := K4.below b6 g4
  replace K6 := K6.below b6 g6
  replace b0 := b0.trans (b6.mono b0.size)
  replace g3 := K3.lt
  replace g4 := K4.lt
  replace g6 := K6.lt
  replace e3 := fun o => K3.cell o
  replace e4 := fun o => K4.cell o
  replace e6 := fun o => K6.cell o
  replace f6 := fun o => K6.frozen o
  clear b6
  go_upto_region 7 with fail
  have hp10 := g6
  have hp10' := g8
  have K10 := Blk.new w6 106 #[.int .i64 (d - r), .int .i64 (d + r)]
  have b7 : Below w6.heap.size w6 (w6.alloc (.cells #[.int .i64 (d - r), .int .i64 (d + r)] 106)) := (Below.refl _ _).alloc (Nat.le_refl _) _
  replace K8 := K8.below b7 g8
  replace g8 := K8.lt
  replace e8 := fun o => K8.cell o
  replace K3 := K3.below b7 g3
  replace K4 := K4.below b7 g4
  replace K6 := K6.below b7 g6
  replace b0 := b0.trans (b7.mono b0.size)
  replace g3 := K3.lt
  replace g4 := K4.lt
  replace g6 := K6.lt
  replace e3 := fun o => K3.cell o
  replace e4 := fun o => K4.cell o
  replace e6 := fun o => K6.cell o
  replace f6 := fun o => K6.frozen o
  clear b7
  generalize w6.alloc (.cells #[.int .i64 (d - r), .int .i64 (d + r)] 106) = w7 at *
  generalize w6.heap.size = p10 at *
  have e10 := fun o => K10.cell o
  have u1 : IntKind.i64.wrap (d - r - hi) = d - r - hi := IntWalk.i64_in _ (by omega)
  have u2 : IntKind.i64.wrap (d + r - lo) = d + r - lo := IntWalk.i64_in _ (by omega)
  go_quiet (fail)
  revert nq; intro nq1
  go_wp2_with fail
  have Hlow : Hid (redLow d r lo hi = d - r - hi ∧ redHigh d r lo hi = d + r - lo) := ⟨rfl, rfl⟩
  have HD : Hid (redD d r lo hi = (d - r - hi + (d + r - lo)) / 2 ∧ redE d r lo hi = -(-(d + r - lo - (d - r - hi)) / 2)) := ⟨rfl, rfl⟩
  have u3 : IntKind.i64.wrap (d - r - hi + (d + r - lo)) = d - r - hi + (d + r - lo) := IntWalk.i64_in _ (by omega)
  have u4 : IntKind.i64.wrap (d + r - lo - (d - r - hi)) = d + r - lo - (d - r - hi) := IntWalk.i64_in _ (by omega)
  have m1 : -4611686018427387904 ≤ d - r - hi + (d + r - lo) ∧ d - r - hi + (d + r - lo) ≤ 4611686018427387904 := by omega
  have m2 : -4611686018427387904 ≤ d + r - lo - (d - r - hi) ∧ d + r - lo - (d - r - hi) ≤ 4611686018427387904 := by omega
  have b8 : Below w7.heap.size w7 (w7.drewN nq1) := below_drewN _ _
  replace K3 := K3.below b8 g3
  replace K4 := K4.below b8 g4
  replace K6 := K6.below b8 g6
  replace b0 := b0.trans (b8.mono b0.size)
  replace g3 := K3.lt
  replace g4 := K4.lt
  replace g6 := K6.lt
  replace e3 := fun o => K3.cell o
  replace e4 := fun o => K4.cell o
  replace e6 := fun o => K6.cell o
  replace f6 := fun o => K6.frozen o
  clear b8
  clear K8 K10 e8 e10 g8 u1 u2 Hlow hp8 hp10 hp10'
  generalize w7.drewN nq1 = w8 at *
  generalize d - r - hi = low at *
  generalize d + r - lo = high at *
  have hS : ∀ o, w8.cell? ⟨w.heap.size, o, none⟩ = #[.int .i64 x, .int .i64 y, .int .i64 d, .int .i64 r][o]? := e3
  go_region_held3 (fun w' => ∀ o, w'.cell? ⟨w.heap.size, o, none⟩ = #[.int .i64 x, .int .i64 y, .int .i64 d, .int .i64 r][o]?)
    (first | (with_reducible assumption) | ((with_reducible refine cells_alloc ?_ ?_ _) <;> first | (with_reducible assumption) | omega | (simp; done) | (simp; omega)) | ((with_reducible refine cells_drew ?_); (with_reducible refine cells_alloc ?_ ?_ _) <;> first | (with_reducible assumption) | omega | (simp; done) | (simp; omega)) | (intro o; go_keep))
    (first
      | (go_at_call 84; refine (l01Floor_any (low + high) 2 _ m1.1 m1.2 (by decide) (by decide)).mono ?_; rintro e w' ⟨rfl, rfl⟩)
      | (go_at_call 85; refine (l01Ceil_any (high - low) 2 _ m2.1 m2.2 (by decide) (by decide)).mono ?_; rintro e w' ⟨rfl, rfl⟩))
  all_goals
    have K13 := Blk.new w8 45 #[.int .i64 x, .int .i64 y, .int .i64 ((low + high) / 2), .int .i64 (-(-(high - low) / 2))]
    have b9 : Below w8.heap.size w8 (w8.alloc (.cells #[.int .i64 x, .int .i64 y, .int .i64 ((low + high) / 2), .int .i64 (-(-(high - low) / 2))] 45)) := (Below.refl _ _).alloc (Nat.le_refl _) _
    replace K6 := K6.below b9 g6
    replace b0 := b0.trans (b9.mono b0.size)
    clear b9 K3 K4 g3 g4 e3 e4 e6 f6 hS u3 u4 m1 m2
    have hp13 := g6
    replace g6 := K6.lt
    generalize w8.alloc (.cells #[.int .i64 x, .int .i64 y, .int .i64 ((low + high) / 2), .int .i64 (-(-(high - low) / 2))] 45) = w9 at *
    generalize w8.heap.size = p13 at *
    have HB := HRB.out
    rw [HD.out.1, HD.out.2] at HB
    have HBH := Lib.hid HB
    clear HB
    have HVV : Hid (redV ts ls t x y d r = if redC ts ls t x y d r = 0 then .agg #[.int .i64 x, .int .i64 y, .int .i64 ((low + high) / 2), .int .i64 (-(-(high - low) / 2))] else .agg #[.int .i64 0, .int .i64 0, .int .i64 0, .int .i64 0]) := by have a := HRV.out; rw [HD.out.1, HD.out.2] at a; exact a
    clear HRV HRB HD
    generalize (low + high) / 2 = D at *
    generalize -(-(high - low) / 2) = E at *
    have e13 := fun o => K13.cell o
    have g13 := K13.lt
    go_wp2_with fail
    refine (l21Is_any x y D E _).mono ?_
    rw [← HBH.out]
    rintro e w10 ⟨rfl, hw10⟩
    have b10 : Below w9.heap.size w9 w10 := Below.left (m := 1) (show Below w9.drew.heap.size w9.drew w10 by rw [hw10]; exact (Below.refl _ _).alloc (Nat.le_refl _) _)
    clear hw10
    replace K6 := K6.below b10 g6
    replace K13 := K13.below b10 g13
    replace b0 := b0.trans (b10.mono b0.size)
    replace g6 := K6.lt
    have e6 := fun o => K6.cell o
    have f6 := fun o => K6.frozen o
    replace e13 := fun o => K13.cell o
    replace g13 := K13.lt
    clear b10
    cases rb
    · have HV : Hid (redV ts ls t x y d r = .agg #[.int .i64 0, .int .i64 0, .int .i64 0, .int .i64 0] ∧ redC ts ls t x y d r = 3) := by
        have a : redC ts ls t x y d r = 3 := by simpa using HRC.out
        have b := HVV.out
        rw [a] at b
        exact ⟨by simpa using b, a⟩
      go_wp2
      refine bodyPost_ret (v := .tuple #[.agg #[.int .i64 0, .int .i64 0, .int .i64 0, .int .i64 0], .int .i64 3]) (by simp [results, Try.results47, go_sem, e6, g6]) rfl ⟨by rw [HV.out.1, HV.out.2], ?_⟩
      have hsz := b0.size
      repeat (first | with_reducible exact b0 | refine Below.setCell ?_ (by simp <;> omega) _ | refine Below.alloc ?_ (by simp <;> omega) _)
    · have HV : Hid (redV ts ls t x y d r = .agg #[.int .i64 x, .int .i64 y, .int .i64 D, .int .i64 E] ∧ redC ts ls t x y d r = 0) := by
        have a : redC ts ls t x y d r = 0 := by simpa using HRC.out
        have b := HVV.out
        rw [a] at b
        exact ⟨by simpa using b, a⟩
      go_wp2
      refine bodyPost_ret (v := .tuple #[.agg #[.int .i64 x, .int .i64 y, .int .i64 D, .int .i64 E], .int .i64 0]) (by simp [results, Try.results47, go_sem, e6, g6]) rfl ⟨by rw [HV.out.1, HV.out.2], ?_⟩
      have hsz := b0.size
      repeat (first | with_reducible exact b0 | refine Below.setCell ?_ (by simp <;> omega) _ | refine Below.alloc ?_ (by simp <;> omega) _)

end Go.Proofs.Ytphpjmkebnadoaa
