/- Mosaics: values put into the cells on a way. spec.PutLine and impl.PutLine compute the same. Condition: lists of at most 1048576 numbers. -/
import Derived.Test.YthmcnoloeeabbaaPutN
namespace Go.Proofs.Ythmcnoloeeabbaa
open Go.RowKit

set_option maxRecDepth 100000 in
set_option maxHeartbeats 4000000 in
theorem specPutLine'_any (h : MosaicH) (l : MosaicC) (x0 y0 x1 y1 : Int) (hv : Hd) (vs : List Int) (g : Int) (w : World) (ok : MosaicOk h) (hr : RdAll w (MosaicS h l)) (okv : IntsOk hv) (rv' : RdAll w (IntsS hv vs)) :
    Calls Try.prog 20 #[MosaicV h l, .agg #[.int .i64 x0, .int .i64 y0], .agg #[.int .i64 x1, .int .i64 y1], IntsV hv, .int .i64 g] w (RetMosaic (plR l x0 y0 x1 y1 vs g) (plC l x0 y0 x1 y1 vs g) w) := by
  unfold MosaicV IntsV
  have rv := rv'.head
  obtain ⟨A, n, c⟩ := hv
  simp only [IntsOk] at rv okv ⊢
  clear rv'
  obtain rfl : n = vs.length := rv.len.symm
  go_enter Try.func20, Try.ntmps20
  go_wp2_with fail
  refine (specIsMosaic_any h l _ ok (hr.below (by (repeat (first | (with_reducible assumption) | (with_reducible exact Below.refl _ _) | (with_reducible refine Below.drew ?_) | (with_reducible refine Below.drewN ?_ _) | (with_reducible refine Below.setCell ?_ ?_ _) | (with_reducible refine Below.alloc ?_ ?_ _) | assumption)); all_goals (first | omega | (simp; done) | (simp; omega))))).mono ?_
  rintro e w1 ⟨rfl, b1⟩
  have hb1 : Below w.heap.size w w1 := (show Below w.heap.size w _ from (by (repeat (first | (with_reducible assumption) | (with_reducible exact Below.refl _ _) | (with_reducible refine Below.drew ?_) | (with_reducible refine Below.drewN ?_ _) | (with_reducible refine Below.setCell ?_ ?_ _) | (with_reducible refine Below.alloc ?_ ?_ _) | assumption)); all_goals (first | omega | (simp; done) | (simp; omega)))).trans (b1.mono (by first | omega | (simp; done) | (simp; omega)))
  have z1 : w.heap.size + 3 < w1.heap.size := Nat.lt_of_lt_of_le (by first | omega | (simp; done) | (simp; omega)) b1.size
  have K0 : Blk w1 w.heap.size 26 #[.int .i64 l.wide, .int .i64 l.high, .slice h.values.A h.values.n h.values.c, .slice h.grades.A h.grades.n h.grades.c] := Blk.below (by repeat (first | exact Blk.newN _ _ _ (by simp; done) | refine Blk.alloc ?_ _)) b1 (by first | omega | (simp; done) | (simp; omega))
  have K1 : Blk w1 (w.heap.size + 1) 38 #[.int .i64 x0, .int .i64 y0] := Blk.below (by repeat (first | exact Blk.newN _ _ _ (by simp; done) | refine Blk.alloc ?_ _)) b1 (by first | omega | (simp; done) | (simp; omega))
  have K2 : Blk w1 (w.heap.size + 1 + 1) 38 #[.int .i64 x1, .int .i64 y1] := Blk.below (by repeat (first | exact Blk.newN _ _ _ (by simp; done) | refine Blk.alloc ?_ _)) b1 (by first | omega | (simp; done) | (simp; omega))
  have K3 : Blk w1 (w.heap.size + 1 + 1 + 1) 26 #[.int .i64 0, .int .i64 0, .slice none 0 0, .slice none 0 0] := Blk.below (by repeat (first | exact Blk.newN _ _ _ (by simp; done) | refine Blk.alloc ?_ _)) b1 (by first | omega | (simp; done) | (simp; omega))
  clear b1
  have c0 := fun o => K0.cell o
  have c1 := fun o => K1.cell o
  have c2 := fun o => K2.cell o
  have c3 := fun o => K3.cell o
  have f3 := fun o => K3.frozen o
  have y0' : w.heap.size < w1.heap.size := by omega
  have y1' : w.heap.size + 1 < w1.heap.size := by omega
  have y2' : w.heap.size + 1 + 1 < w1.heap.size := by omega
  have y3' : w.heap.size + 1 + 1 + 1 < w1.heap.size := by omega
  rcases Bool.eq_false_or_eq_true (mosOk l) with o0 | o0
  case inr =>
    have HM := Lib.hid (pl_a (x0 := x0) (y0 := y0) (x1 := x1) (y1 := y1) (vs := vs) (g := g) o0)
    go_wp2
    refine bodyPost_ret (v := .tuple #[.agg #[.int .i64 0, .int .i64 0, .slice none 0 0, .slice none 0 0], .int .i64 1]) (by simp [results, Try.results20, go_sem, c3, y3']) rfl ?_
    rw [HM.out.1, HM.out.2]
    exact retMosaic_zero (by (repeat (first | (with_reducible assumption) | (with_reducible exact Below.refl _ _) | (with_reducible refine Below.drew ?_) | (with_reducible refine Below.drewN ?_ _) | (with_reducible refine Below.setCell ?_ ?_ _) | (with_reducible refine Below.alloc ?_ ?_ _) | assumption)); all_goals (first | omega | (simp; done) | (simp; omega)))
  have M0 := Lib.hid (MOk.of o0)
  have HLB := Lib.hid (lineB_and x0 y0 x1 y1 vs g)
  have HB2 : Hid (lineB x0 y0 x1 y1 vs g = false → plR l x0 y0 x1 y1 vs g = zeroMosaic ∧ plC l x0 y0 x1 y1 vs g = 2) := fun h => pl_b o0 h
  have HB0 : Hid (lineB x0 y0 x1 y1 vs g = true → plR l x0 y0 x1 y1 vs g = lineTo l x0 y0 x1 y1 vs g vs.length ∧ plC l x0 y0 x1 y1 vs g = 0) := fun h => pl_c o0 h
  have hbw1 := hb1
  clear hb1
  go_wp2_with fail
  refine (l12Point_any x0 y0 _).mono ?_
  rintro e v1 ⟨rfl, bv1⟩
  have hbv1 : Below w.heap.size w v1 := hbw1.trans (bv1.mono hbw1.size)
  have J0 := K0.below bv1 K0.lt
  have J1 := K1.below bv1 K1.lt
  have J2 := K2.below bv1 K2.lt
  have J3 := K3.below bv1 K3.lt
  clear c0 c1 c2 c3 f3 K0 K1 K2 K3 y0' y1' y2' y3' bv1
  have c0 := fun o => J0.cell o
  have c1 := fun o => J1.cell o
  have c2 := fun o => J2.cell o
  have c3 := fun o => J3.cell o
  have f3 := fun o => J3.frozen o
  have y0' := J0.lt
  have y1' := J1.lt
  have y2' := J2.lt
  have y3' := J3.lt
  rcases Bool.eq_false_or_eq_true (inPix x0 y0) with p1 | p1
  case inr =>
    have HM := Lib.hid (HB2.out (by rw [HLB.out, p1]; rfl))
    clear HLB HB2 HB0
    go_wp2
    refine bodyPost_ret (v := .tuple #[.agg #[.int .i64 0, .int .i64 0, .slice none 0 0, .slice none 0 0], .int .i64 2]) (by simp [results, Try.results20, go_sem, c3, y3']) rfl ?_
    rw [HM.out.1, HM.out.2]
    exact retMosaic_zero (by (repeat (first | (with_reducible assumption) | (with_reducible exact Below.refl _ _) | (with_reducible refine Below.drew ?_) | (with_reducible refine Below.drewN ?_ _) | (with_reducible refine Below.setCell ?_ ?_ _) | (with_reducible refine Below.alloc ?_ ?_ _) | assumption)); all_goals (first | omega | (simp; done) | (simp; omega)))
  go_wp2_with fail
  refine (l12Point_any x1 y1 _).mono ?_
  rintro e w2 ⟨rfl, bw2⟩
  have hbw2 : Below w.heap.size w w2 := hbv1.trans (bw2.mono hbv1.size)
  have I0 := J0.below bw2 J0.lt
  have I1 := J1.below bw2 J1.lt
  have I2 := J2.below bw2 J2.lt
  have I3 := J3.below bw2 J3.lt
  clear c0 c1 c2 c3 f3 J0 J1 J2 J3 y0' y1' y2' y3' bw2
  have c0 := fun o => I0.cell o
  have c1 := fun o => I1.cell o
  have c2 := fun o => I2.cell o
  have c3 := fun o => I3.cell o
  have f3 := fun o => I3.frozen o
  have y0' := I0.lt
  have y1' := I1.lt
  have y2' := I2.lt
  have y3' := I3.lt
  rcases Bool.eq_false_or_eq_true (inPix x1 y1) with p2 | p2
  case inr =>
    have HM := Lib.hid (HB2.out (by rw [HLB.out, p1, p2]; rfl))
    clear HLB HB2 HB0
    go_wp2
    refine bodyPost_ret (v := .tuple #[.agg #[.int .i64 0, .int .i64 0, .slice none 0 0, .slice none 0 0], .int .i64 2]) (by simp [results, Try.results20, go_sem, c3, y3']) rfl ?_
    rw [HM.out.1, HM.out.2]
    exact retMosaic_zero (by (repeat (first | (with_reducible assumption) | (with_reducible exact Below.refl _ _) | (with_reducible refine Below.drew ?_) | (with_reducible refine Below.drewN ?_ _) | (with_reducible refine Below.setCell ?_ ?_ _) | (with_reducible refine Below.alloc ?_ ?_ _) | assumption)); all_goals (first | omega | (simp; done) | (simp; omega)))
  rcases Bool.eq_false_or_eq_true (okList vs 200 0 1000) with p3 | p3
  case inr =>
    have HM := Lib.hid (HB2.out (by rw [show lineB x0 y0 x1 y1 vs g = (inPix x0 y0 && (inPix x1 y1 && (okList vs 200 0 1000 && inR g 1 9))) from rfl, p1, p2, p3]; rfl))
    clear HLB HB2 HB0
    go_wp2_with (first
      | (go_at_call 73; refine (l18Line_any _ _ _ vs _ (by omega) (rv.below (by (repeat (first | (with_reducible assumption) | (with_reducible exact Below.refl _ _) | (with_reducible refine Below.drew ?_) | (with_reducible refine Below.drewN ?_ _) | (with_reducible refine Below.setCell ?_ ?_ _) | (with_reducible refine Below.alloc ?_ ?_ _) | assumption)); all_goals (first | omega | (simp; done) | (simp; omega))))).mono ?_; rintro e w' ⟨rfl, rfl⟩)
      | (go_at_call 74; refine (l01In_any _ _ _ _).mono ?_; rintro e w' ⟨rfl, rfl⟩))
    go_wp2
    refine bodyPost_ret (v := .tuple #[.agg #[.int .i64 0, .int .i64 0, .slice none 0 0, .slice none 0 0], .int .i64 2]) (by simp [results, Try.results20, go_sem, c3, y3']) rfl ?_
    rw [HM.out.1, HM.out.2]
    exact retMosaic_zero (by (repeat (first | (with_reducible assumption) | (with_reducible exact Below.refl _ _) | (with_reducible refine Below.drew ?_) | (with_reducible refine Below.drewN ?_ _) | (with_reducible refine Below.setCell ?_ ?_ _) | (with_reducible refine Below.alloc ?_ ?_ _) | assumption)); all_goals (first | omega | (simp; done) | (simp; omega)))
  rcases Bool.eq_false_or_eq_true (inR g 1 9) with p4 | p4
  case inr =>
    have HM := Lib.hid (HB2.out (by rw [show lineB x0 y0 x1 y1 vs g = (inPix x0 y0 && (inPix x1 y1 && (okList vs 200 0 1000 && inR g 1 9))) from rfl, p1, p2, p3, p4]; rfl))
    clear HLB HB2 HB0
    go_wp2_with (first
      | (go_at_call 73; refine (l18Line_any _ _ _ vs _ (by omega) (rv.below (by (repeat (first | (with_reducible assumption) | (with_reducible exact Below.refl _ _) | (with_reducible refine Below.drew ?_) | (with_reducible refine Below.drewN ?_ _) | (with_reducible refine Below.setCell ?_ ?_ _) | (with_reducible refine Below.alloc ?_ ?_ _) | assumption)); all_goals (first | omega | (simp; done) | (simp; omega))))).mono ?_; rintro e w' ⟨rfl, rfl⟩)
      | (go_at_call 74; refine (l01In_any _ _ _ _).mono ?_; rintro e w' ⟨rfl, rfl⟩))
    go_wp2
    refine bodyPost_ret (v := .tuple #[.agg #[.int .i64 0, .int .i64 0, .slice none 0 0, .slice none 0 0], .int .i64 2]) (by simp [results, Try.results20, go_sem, c3, y3']) rfl ?_
    rw [HM.out.1, HM.out.2]
    exact retMosaic_zero (by (repeat (first | (with_reducible assumption) | (with_reducible exact Below.refl _ _) | (with_reducible refine Below.drew ?_) | (with_reducible refine Below.drewN ?_ _) | (with_reducible refine Below.setCell ?_ ?_ _) | (with_reducible refine Below.alloc ?_ ?_ _) | assumption)); all_goals (first | omega | (simp; done) | (simp; omega)))
  have HM := Lib.hid (HB0.out (by rw [show lineB x0 y0 x1 y1 vs g = (inPix x0 y0 && (inPix x1 y1 && (okList vs 200 0 1000 && inR g 1 9))) from rfl, p1, p2, p3, p4]; rfl))
  have HPX := Lib.hid (show (inPix x0 y0 && inPix x1 y1) = true from by rw [p1, p2]; rfl)
  have p2' := (okList_true p3).1
  clear HLB HB2 HB0
  go_wp2_with (first
    | (go_at_call 73; refine (l18Line_any _ _ _ vs _ (by omega) (rv.below (by (repeat (first | (with_reducible assumption) | (with_reducible exact Below.refl _ _) | (with_reducible refine Below.drew ?_) | (with_reducible refine Below.drewN ?_ _) | (with_reducible refine Below.setCell ?_ ?_ _) | (with_reducible refine Below.alloc ?_ ?_ _) | assumption)); all_goals (first | omega | (simp; done) | (simp; omega))))).mono ?_; rintro e w' ⟨rfl, rfl⟩)
    | (go_at_call 74; refine (l01In_any _ _ _ _).mono ?_; rintro e w' ⟨rfl, rfl⟩))
  have hb2 := hbw2
  have z2 : w.heap.size + 3 < w2.heap.size := by omega
  clear c0 c1 c2 c3 f3 y0' y1' y2' y3'
  have hpx : (-1000 ≤ x0 ∧ x0 ≤ 1000) ∧ (-1000 ≤ y0 ∧ y0 ≤ 1000) ∧ (-1000 ≤ x1 ∧ x1 ≤ 1000) ∧ (-1000 ≤ y1 ∧ y1 ≤ 1000) := by
    have hp := HPX.out
    unfold inPix at hp
    simp only [Bool.and_eq_true] at hp
    exact ⟨inR_true hp.1.1, inR_true hp.1.2, inR_true hp.2.1, inR_true hp.2.2⟩
  have HPB := Lib.hid hpx
  have hn200 : vs.length ≤ 200 := by omega
  clear o0 hpx p1 p2 p2' p3 p4 HPX
  have c0 := fun o => I0.cell o
  have q0 : w.heap.size < w2.heap.size := by omega
  go_wp2_with fail
  refine (l19Own_any h l _ ok (hr.below (by (repeat (first | (with_reducible assumption) | (with_reducible exact Below.refl _ _) | (with_reducible refine Below.drew ?_) | (with_reducible refine Below.drewN ?_ _) | (with_reducible refine Below.setCell ?_ ?_ _) | (with_reducible refine Below.alloc ?_ ?_ _) | assumption)); all_goals (first | omega | (simp; done) | (simp; omega))))).mono ?_
  rintro e w3 ⟨k, he, ow, b3⟩
  unfold MosaicV at he
  subst he
  have hb3 : Below w.heap.size w w3 := hb2.trans (b3.mono hb2.size)
  have z3 : w.heap.size + 3 < w3.heap.size := Nat.lt_of_lt_of_le z2 b3.size
  have J0 := I0.below b3 I0.lt
  have J1 := I1.below b3 I1.lt
  have J2 := I2.below b3 I2.lt
  have J3 := I3.below b3 I3.lt
  clear c0 q0 I0 I1 I2 I3 b3
  have rk := ow.rd
  have wk := ow.wr
  have sk := ow.sp
  clear ow
  have hlen : Hid (k.grades.n = k.values.n ∧ k.values.n = l.values.length ∧ k.values.n ≤ 1600) := by
    have a := MosaicS_v rk; have b := MosaicS_g rk; have c := M0.out.eq; have d := M0.out.bd.1
    exact ⟨by omega, by omega, by omega⟩
  have hlo : Lo (MosaicR k) w3.heap.size := rk.lo
  have hhi : Hi (MosaicR k) w2.heap.size := wk.hi
  have c0 := fun o => J0.cell o
  have q0 : w.heap.size < w3.heap.size := by omega
  go_wp2_with fail
  have rk4 := rk.below ((Below.refl w3.heap.size w3).alloc (Nat.le_refl _) (.cells #[.int .i64 l.wide, .int .i64 l.high, .slice k.values.A k.values.n k.values.c, .slice k.grades.A k.grades.n k.grades.c] 26))
  have wk4 := wk.below rk ((Below.refl w3.heap.size w3).alloc (Nat.le_refl _) (.cells #[.int .i64 l.wide, .int .i64 l.high, .slice k.values.A k.values.n k.values.c, .slice k.grades.A k.grades.n k.grades.c] 26))
  have P0 := J0.alloc (.cells #[.int .i64 l.wide, .int .i64 l.high, .slice k.values.A k.values.n k.values.c, .slice k.grades.A k.grades.n k.grades.c] 26)
  have P1 := J1.alloc (.cells #[.int .i64 l.wide, .int .i64 l.high, .slice k.values.A k.values.n k.values.c, .slice k.grades.A k.grades.n k.grades.c] 26)
  have P2 := J2.alloc (.cells #[.int .i64 l.wide, .int .i64 l.high, .slice k.values.A k.values.n k.values.c, .slice k.grades.A k.grades.n k.grades.c] 26)
  have P3 := J3.alloc (.cells #[.int .i64 l.wide, .int .i64 l.high, .slice k.values.A k.values.n k.values.c, .slice k.grades.A k.grades.n k.grades.c] 26)
  have P4 := Blk.new w3 26 #[.int .i64 l.wide, .int .i64 l.high, .slice k.values.A k.values.n k.values.c, .slice k.grades.A k.grades.n k.grades.c]
  have hb4 : Below w.heap.size w (w3.alloc (.cells #[.int .i64 l.wide, .int .i64 l.high, .slice k.values.A k.values.n k.values.c, .slice k.grades.A k.grades.n k.grades.c] 26)) := (by (repeat (first | (with_reducible assumption) | (with_reducible exact Below.refl _ _) | (with_reducible refine Below.drew ?_) | (with_reducible refine Below.drewN ?_ _) | (with_reducible refine Below.setCell ?_ ?_ _) | (with_reducible refine Below.alloc ?_ ?_ _) | assumption)); all_goals (first | omega | (simp; done) | (simp; omega)))
  generalize w3.alloc (.cells #[.int .i64 l.wide, .int .i64 l.high, .slice k.values.A k.values.n k.values.c, .slice k.grades.A k.grades.n k.grades.c] 26) = w4 at rk4 wk4 P0 P1 P2 P3 P4 hb4 ⊢
  clear c0 q0 J0 J1 J2 J3 rk wk hb3
  go_loopw [13] (fun i wr => ∃ q : Nat, q ≤ vs.length ∧ i = .int .i64 q ∧ RdAll wr (MosaicS k (lineTo l x0 y0 x1 y1 vs g q)) ∧ WrAll wr w2.heap.size (MosaicS k (lineTo l x0 y0 x1 y1 vs g q)) ∧ Below w.heap.size w wr ∧ Blk wr w.heap.size 26 #[.int .i64 l.wide, .int .i64 l.high, .slice h.values.A h.values.n h.values.c, .slice h.grades.A h.grades.n h.grades.c] ∧ Blk wr (w.heap.size + 1) 38 #[.int .i64 x0, .int .i64 y0] ∧ Blk wr (w.heap.size + 1 + 1) 38 #[.int .i64 x1, .int .i64 y1] ∧ Blk wr (w.heap.size + 1 + 1 + 1) 26 #[.int .i64 0, .int .i64 0, .slice none 0 0, .slice none 0 0] ∧ Blk wr w3.heap.size 26 #[.int .i64 l.wide, .int .i64 l.high, .slice k.values.A k.values.n k.values.c, .slice k.grades.A k.grades.n k.grades.c]) (fun i _ => vs.length - (intOf i).toNat)
  case atStart => exact ⟨0, Nat.zero_le _, rfl, rk4, wk4, hb4, P0, P1, P2, P3, P4⟩
  case round =>
    clear rk4 wk4 hb4 P0 P1 P2 P3 P4
    obtain ⟨q, hqn, rfl, rk, wk, hbel, P0, P1, P2, P3, P4⟩ := hrel
    have c0 := fun o => P0.cell o
    have c1 := fun o => P1.cell o
    have c2 := fun o => P2.cell o
    have c3 := fun o => P3.cell o
    have f3 := fun o => P3.frozen o
    have c4 := fun o => P4.cell o
    have z4 := P4.lt
    have z30 : w.heap.size < wr.heap.size := by omega
    have z31 : w.heap.size + 1 < wr.heap.size := by omega
    have z32 : w.heap.size + 1 + 1 < wr.heap.size := by omega
    have z33 : w.heap.size + 1 + 1 + 1 < wr.heap.size := by omega
    by_cases hlt : q < vs.length
    · have HSP : Hid (hasB l (wayI x0 x1 q vs.length) (wayI y0 y1 q vs.length) = true → lineTo l x0 y0 x1 y1 vs g (q + 1) = putM (lineTo l x0 y0 x1 y1 vs g q) (wayI y0 y1 q vs.length * l.wide + wayI x0 x1 q vs.length).toNat (vs.getD q 0) g) := fun hh => lineTo_put hh
      have HSN : Hid (hasB l (wayI x0 x1 q vs.length) (wayI y0 y1 q vs.length) = false → lineTo l x0 y0 x1 y1 vs g (q + 1) = (lineTo l x0 y0 x1 y1 vs g q)) := fun hh => lineTo_not hh
      obtain ⟨av, rfl, hx⟩ := (rv.below hbel).int hlt
      generalize hgv : vs.getD q 0 = v at *
      have HVQ : Hid (vs.getD q 0 = v) := hgv
      clear hgv
      have hi0 : (0 : Int) ≤ (q : Int) := by omega
      have hi1 : (q : Int) < (vs.length : Int) := by omega
      go_wp2_with fail
      go_quiet (fail)
      by_cases hq0 : q = 0
      · have hq1 : ¬ (0 : Int) < (q : Int) := by omega
        have e1 : wayI x0 x1 q vs.length = x0 := if_pos hq0
        have e2 : wayI y0 y1 q vs.length = y0 := if_pos hq0
        rw [e1, e2] at HSP HSN
        clear e1 e2 hq0
        go_wp2_with fail
        refine (l19Index_any h l x0 y0 _ M0.out).mono ?_
        rintro e w5 ⟨rfl, b5⟩
        have b5' : Below wr.heap.size wr w5 := (by first | exact Below.left b5 | exact b5)
        clear b5
        have rk5 := rk.below b5'
        have wk5 := wk.below rk b5'
        have hb5 := hbel.trans (b5'.mono hbel.size)
        have Q0 := P0.below b5' P0.lt
        have Q1 := P1.below b5' P1.lt
        have Q2 := P2.below b5' P2.lt
        have Q3 := P3.below b5' P3.lt
        have Q4 := P4.below b5' P4.lt
        have s5 := b5'.size
        clear c0 c1 c2 c3 f3 c4 z4 z30 z31 z32 z33 P0 P1 P2 P3 P4 rk wk hx
        have c0 := fun o => Q0.cell o
        have c1 := fun o => Q1.cell o
        have c2 := fun o => Q2.cell o
        have c3 := fun o => Q3.cell o
        have f3 := fun o => Q3.frozen o
        have c4 := fun o => Q4.cell o
        have z4 := Q4.lt
        have z30 : w.heap.size < w5.heap.size := by omega
        have z31 : w.heap.size + 1 < w5.heap.size := by omega
        have z32 : w.heap.size + 1 + 1 < w5.heap.size := by omega
        have z33 : w.heap.size + 1 + 1 + 1 < w5.heap.size := by omega
        rcases Bool.eq_false_or_eq_true (hasB l x0 y0) with hh | hh
        case inr =>
          have HS := Lib.hid (HSN.out hh)
          clear HSN HSP
          have hix : idxB l x0 y0 = -1 := by unfold idxB; rw [hh]; rfl
          go_wp2
          go_roundw
          case rel => exact ⟨q + 1, by omega, by go_num, by rw [HS.out]; exact rk5, by rw [HS.out]; exact wk5, hb5, Q0, Q1, Q2, Q3, Q4⟩
          case measure => simp [intOf]; omega
        have HS := Lib.hid (HSP.out hh)
        have hbd := cell_bd M0.out hh
        have HZN := Lib.hid (show ((y0 * l.wide + x0).toNat : Int) = y0 * l.wide + x0 from Int.toNat_of_nonneg hbd.2.2.2.2.2.2.1)
        have hwr : IntKind.i64.wrap (y0 * l.wide) = y0 * l.wide := IntWalk.i64_in _ (by omega)
        have d0 := hbd.1; have d1 := hbd.2.1; have d2 := hbd.2.2.1; have d3 := hbd.2.2.2.1
        have HBD := Lib.hid hbd
        clear hbd HSN HSP
        have hix : idxB l x0 y0 = y0 * l.wide + x0 := by unfold idxB; rw [hh]; rfl
        have hnn : (0 : Int) ≤ y0 * l.wide + x0 := by have := HBD.out; omega
        have hnn' : ¬ (y0 * l.wide + x0 < 0) := by omega
        obtain ⟨av', hav, hx⟩ := (rv.below hb5).int hlt
        obtain rfl : av = av' := by cases hav; rfl
        have hxv : w5.cell? (av.add q) = some (.int .i64 v) := HVQ.out ▸ hx
        clear hx hav
        rw [hix]
        clear hix
        go_wp2_with fail
        go_still_tail 7, (by kernel_rfl)
        change wpList _ _ _ _ _ w5.drew
        have bd5 := Below.drew hb5
        have D0 : Blk w5.drew _ _ _ := Q0
        have D1 : Blk w5.drew _ _ _ := Q1
        have D2 : Blk w5.drew _ _ _ := Q2
        have D3 : Blk w5.drew _ _ _ := Q3
        have D4 : Blk w5.drew _ _ _ := Q4
        have rkd : RdAll w5.drew _ := rk5
        have wkd : WrAll w5.drew _ _ := wk5
        generalize w5.drew = w55 at bd5 D0 D1 D2 D3 D4 rkd wkd ⊢
        clear c0 c1 c2 c3 f3 c4 Q0 Q1 Q2 Q3 Q4 rk5 wk5 hb5 hxv
        have HP := specPut_z w2.heap.size k ⟨l.wide, l.high, (lineTo l x0 y0 x1 y1 vs g q).values, (lineTo l x0 y0 x1 y1 vs g q).grades⟩ (y0 * l.wide + x0) (y0 * l.wide + x0).toNat v g w55 HZN.out (by have := hlen.out; exact ⟨by omega, by omega⟩) hlen.out.1 (by have a := HBD.out; have b := HZN.out; have c := hlen.out; omega) rkd wkd sk
        simp only [MosaicV] at HP
        go_wp2_with fail
        with_reducible refine HP.mono ?_
        rintro e w6 ⟨rfl, rk6, wk6, t6⟩
        clear HP
        go_wp2
        go_roundw
        case rel => exact ⟨q + 1, by omega, by go_num, by rw [HS.out]; exact rk6, by rw [HS.out]; exact wk6, bstepT bd5 t6 (Nat.le_refl _) (hhi.mono hb2.size), D0.touch t6 (hhi.ne (by omega)), D1.touch t6 (hhi.ne (by omega)), D2.touch t6 (hhi.ne (by omega)), D3.touch t6 (hhi.ne (by omega)), D4.touch t6 (hlo.ne (by omega))⟩
        case measure => simp [intOf]; omega
      · have hq1 : (0 : Int) < (q : Int) := by omega
        have hw := HPB.out
        have m1 := way_bd hw.1.1 hw.1.2 hw.2.2.1.1 hw.2.2.1.2 hlt hn200
        have m2 := way_bd hw.2.1.1 hw.2.1.2 hw.2.2.2.1 hw.2.2.2.2 hlt hn200
        have n0 : 0 < (vs.length : Int) - 1 := by omega
        have n1 : (vs.length : Int) - 1 ≤ 1000 := by omega
        have HX : Hid (∀ w, Calls Try.prog 75 #[.int .i64 (x0 * ((vs.length : Int) - 1) + (x1 - x0) * (q : Int)), .int .i64 ((vs.length : Int) - 1)] w fun e w' => e = .returned (.int .i64 (wayI x0 x1 q vs.length)) ∧ w = w') := fun w => by unfold wayI; rw [if_neg hq0]; exact l01Nearest_any _ _ w (by omega) (by omega) n0 n1
        have HY : Hid (∀ w, Calls Try.prog 75 #[.int .i64 (y0 * ((vs.length : Int) - 1) + (y1 - y0) * (q : Int)), .int .i64 ((vs.length : Int) - 1)] w fun e w' => e = .returned (.int .i64 (wayI y0 y1 q vs.length)) ∧ w = w') := fun w => by unfold wayI; rw [if_neg hq0]; exact l01Nearest_any _ _ w (by omega) (by omega) n0 n1
        have a1 : IntKind.i64.wrap (x0 * ((vs.length : Int) - 1)) = x0 * ((vs.length : Int) - 1) := IntWalk.i64_in _ (by omega)
        have a2 : IntKind.i64.wrap ((x1 - x0) * (q : Int)) = (x1 - x0) * (q : Int) := IntWalk.i64_in _ (by omega)
        have a3 : IntKind.i64.wrap (y0 * ((vs.length : Int) - 1)) = y0 * ((vs.length : Int) - 1) := IntWalk.i64_in _ (by omega)
        have a4 : IntKind.i64.wrap ((y1 - y0) * (q : Int)) = (y1 - y0) * (q : Int) := IntWalk.i64_in _ (by omega)
        obtain ⟨⟨g1, g2⟩, g3, g4⟩ := m1
        obtain ⟨⟨g5, g6⟩, g7, g8⟩ := m2
        obtain ⟨⟨u1, u2⟩, ⟨u3, u4⟩, ⟨u5, u6⟩, u7, u8⟩ := hw
        go_wp2_with fail
        refine (HX.out _).mono ?_
        rintro e w' ⟨rfl, rfl⟩
        go_wp2_with fail
        refine (HY.out _).mono ?_
        rintro e w' ⟨rfl, rfl⟩
        clear HX HY a1 a2 a3 a4 g1 g2 g3 g4 g5 g6 g7 g8
        generalize wayI x0 x1 q vs.length = X at *
        generalize wayI y0 y1 q vs.length = Y at *
        go_wp2_with fail
        refine (l19Index_any h l X Y _ M0.out).mono ?_
        rintro e w5 ⟨rfl, b5⟩
        have b5' : Below wr.heap.size wr w5 := (by first | exact Below.left b5 | exact b5)
        clear b5
        have rk5 := rk.below b5'
        have wk5 := wk.below rk b5'
        have hb5 := hbel.trans (b5'.mono hbel.size)
        have Q0 := P0.below b5' P0.lt
        have Q1 := P1.below b5' P1.lt
        have Q2 := P2.below b5' P2.lt
        have Q3 := P3.below b5' P3.lt
        have Q4 := P4.below b5' P4.lt
        have s5 := b5'.size
        clear c0 c1 c2 c3 f3 c4 z4 z30 z31 z32 z33 P0 P1 P2 P3 P4 rk wk hx
        have c0 := fun o => Q0.cell o
        have c1 := fun o => Q1.cell o
        have c2 := fun o => Q2.cell o
        have c3 := fun o => Q3.cell o
        have f3 := fun o => Q3.frozen o
        have c4 := fun o => Q4.cell o
        have z4 := Q4.lt
        have z30 : w.heap.size < w5.heap.size := by omega
        have z31 : w.heap.size + 1 < w5.heap.size := by omega
        have z32 : w.heap.size + 1 + 1 < w5.heap.size := by omega
        have z33 : w.heap.size + 1 + 1 + 1 < w5.heap.size := by omega
        rcases Bool.eq_false_or_eq_true (hasB l X Y) with hh | hh
        case inr =>
          have HS := Lib.hid (HSN.out hh)
          clear HSN HSP
          have hix : idxB l X Y = -1 := by unfold idxB; rw [hh]; rfl
          go_wp2
          go_roundw
          case rel => exact ⟨q + 1, by omega, by go_num, by rw [HS.out]; exact rk5, by rw [HS.out]; exact wk5, hb5, Q0, Q1, Q2, Q3, Q4⟩
          case measure => simp [intOf]; omega
        have HS := Lib.hid (HSP.out hh)
        have hbd := cell_bd M0.out hh
        have HZN := Lib.hid (show ((Y * l.wide + X).toNat : Int) = Y * l.wide + X from Int.toNat_of_nonneg hbd.2.2.2.2.2.2.1)
        have hwr : IntKind.i64.wrap (Y * l.wide) = Y * l.wide := IntWalk.i64_in _ (by omega)
        have d0 := hbd.1; have d1 := hbd.2.1; have d2 := hbd.2.2.1; have d3 := hbd.2.2.2.1
        have HBD := Lib.hid hbd
        clear hbd HSN HSP
        have hix : idxB l X Y = Y * l.wide + X := by unfold idxB; rw [hh]; rfl
        have hnn : (0 : Int) ≤ Y * l.wide + X := by have := HBD.out; omega
        have hnn' : ¬ (Y * l.wide + X < 0) := by omega
        obtain ⟨av', hav, hx⟩ := (rv.below hb5).int hlt
        obtain rfl : av = av' := by cases hav; rfl
        have hxv : w5.cell? (av.add q) = some (.int .i64 v) := HVQ.out ▸ hx
        clear hx hav
        rw [hix]
        clear hix
        go_wp2_with fail
        go_still_tail 7, (by kernel_rfl)
        change wpList _ _ _ _ _ w5.drew
        have bd5 := Below.drew hb5
        have D0 : Blk w5.drew _ _ _ := Q0
        have D1 : Blk w5.drew _ _ _ := Q1
        have D2 : Blk w5.drew _ _ _ := Q2
        have D3 : Blk w5.drew _ _ _ := Q3
        have D4 : Blk w5.drew _ _ _ := Q4
        have rkd : RdAll w5.drew _ := rk5
        have wkd : WrAll w5.drew _ _ := wk5
        generalize w5.drew = w55 at bd5 D0 D1 D2 D3 D4 rkd wkd ⊢
        clear c0 c1 c2 c3 f3 c4 Q0 Q1 Q2 Q3 Q4 rk5 wk5 hb5 hxv
        have HP := specPut_z w2.heap.size k ⟨l.wide, l.high, (lineTo l x0 y0 x1 y1 vs g q).values, (lineTo l x0 y0 x1 y1 vs g q).grades⟩ (Y * l.wide + X) (Y * l.wide + X).toNat v g w55 HZN.out (by have := hlen.out; exact ⟨by omega, by omega⟩) hlen.out.1 (by have a := HBD.out; have b := HZN.out; have c := hlen.out; omega) rkd wkd sk
        simp only [MosaicV] at HP
        go_wp2_with fail
        with_reducible refine HP.mono ?_
        rintro e w6 ⟨rfl, rk6, wk6, t6⟩
        clear HP
        go_wp2
        go_roundw
        case rel => exact ⟨q + 1, by omega, by go_num, by rw [HS.out]; exact rk6, by rw [HS.out]; exact wk6, bstepT bd5 t6 (Nat.le_refl _) (hhi.mono hb2.size), D0.touch t6 (hhi.ne (by omega)), D1.touch t6 (hhi.ne (by omega)), D2.touch t6 (hhi.ne (by omega)), D3.touch t6 (hhi.ne (by omega)), D4.touch t6 (hlo.ne (by omega))⟩
        case measure => simp [intOf]; omega
    · obtain rfl : q = vs.length := by omega
      go_wp2
      refine bodyPost_ret (v := .tuple #[.agg #[.int .i64 l.wide, .int .i64 l.high, .slice k.values.A k.values.n k.values.c, .slice k.grades.A k.grades.n k.grades.c], .int .i64 0]) (by simp [results, Try.results20, go_sem, c3, z33]) rfl ?_
      rw [HM.out.1, HM.out.2]
      have hh := lineTo_wh l x0 y0 x1 y1 vs g vs.length
      refine ⟨k, by unfold MosaicV; rw [hh.1, hh.2], by have := hlen.out; exact ⟨by omega, by omega⟩, ?_, ?_, sk, (by (repeat (first | (with_reducible assumption) | (with_reducible exact Below.refl _ _) | (with_reducible refine Below.drew ?_) | (with_reducible refine Below.drewN ?_ _) | (with_reducible refine Below.setCell ?_ ?_ _) | (with_reducible refine Below.alloc ?_ ?_ _) | assumption)); all_goals (first | omega | (simp; done) | (simp; omega)))⟩
      · repeat (refine RdAll.cell_ ?_ (hhi.ne (by omega)))
        exact rk
      · repeat (refine WrAll.cell_ ?_)
        exact wk.lower hb2.size
end Go.Proofs.Ythmcnoloeeabbaa
