/- Mosaics: values put into the cells on a way. spec.PutLine and impl.PutLine compute the same. Condition: lists of at most 1048576 numbers. -/
import Derived.Test.YthmcnoloeeabbaaPutM
namespace Go.Proofs.Ythmcnoloeeabbaa
open Go.RowKit

theorem rd_four (w : World) (x y z v : Int) (e : TypeId) (g : Nat) (hg : w.heap.size = g) : Rd (w.alloc (.cells #[.int .i64 x, .int .i64 y, .int .i64 z, .int .i64 v] e)) (some ⟨g, 0, none⟩) 4 (ints [x, y, z, v]) := by
  subst hg
  exact (Blk.new w e #[.int .i64 x, .int .i64 y, .int .i64 z, .int .i64 v]).rd rfl (fun i hi => by
    match i, hi with
    | 0, _ => rfl
    | 1, _ => rfl
    | 2, _ => rfl
    | 3, _ => rfl)
theorem allIn_four (x y z v : Int) : allIn [x, y, z, v] (-1000) 1000 = (inPix x y && inPix z v) := by unfold allIn inPix; simp [Bool.and_assoc]
set_option maxHeartbeats 400000 in
theorem l18Line_any (A : Option Addr) (n c : Nat) (xs : List Int) (w : World) (hn : n ≤ 9223372036854775807) (hr : Rd w A n (ints xs)) :
    Calls Try.prog 73 #[.slice A n c] w fun e w' => e = .returned (.bool (okList xs 200 0 1000)) ∧ w = w' := by
  go_enter Try.func73, Try.ntmps73
  go_wp2_with (go_at_call 123; refine (l01Within_any _ _ _ xs _ _ _ _ hn hr).mono ?_; rintro e w' ⟨rfl, rfl⟩)
  go_ret
  exact ⟨rfl, rfl⟩
set_option maxHeartbeats 400000 in
theorem toPoint_exact (x y : Int) (w : World) :
    Calls Try.prog 21 #[.agg #[.int .i64 x, .int .i64 y]] w fun e w' => e = .returned (.agg #[.int .i64 x, .int .i64 y]) ∧ (((w.alloc (.cells #[.int .i64 x, .int .i64 y] 36)).alloc (.cells #[.int .i64 x, .int .i64 y] 38)).alloc (.cells #[.int .i64 x, .int .i64 y] 38)) = w' := by
  have hc1 : ∀ (o : Obj) (cs : Array Value) (i : Nat), (((w.alloc o).alloc (.cells cs 38))).cell? ⟨w.heap.size + 1, i, none⟩ = cs[i]? := fun o cs i => (Blk.new1 w o _ cs).cell i
  go_enter Try.func21, Try.ntmps21
  go_wp2
  exact bodyPost_ret (by simp [results, Try.results21, go_sem]) rfl ⟨rfl, rfl⟩
theorem toPoint_bel (x y : Int) (w : World) :
    Calls Try.prog 21 #[.agg #[.int .i64 x, .int .i64 y]] w fun e w' => e = .returned (.agg #[.int .i64 x, .int .i64 y]) ∧ Below w.heap.size w w' :=
  (toPoint_exact x y w).mono fun _ _ h => ⟨h.1, h.2 ▸ (((Below.refl _ _).alloc (Nat.le_refl _) _).alloc (by simp) _).alloc (by simp; omega) _⟩
theorem lineB_and (x0 y0 x1 y1 : Int) (vs : List Int) (g : Int) : lineB x0 y0 x1 y1 vs g = ((inPix x0 y0 && inPix x1 y1) && (decide ((vs.length : Int) ≤ 200) && (allIn vs 0 1000 && inR g 1 9))) := by
  unfold lineB okList
  cases inPix x0 y0 <;> cases inPix x1 y1 <;> cases decide ((vs.length : Int) ≤ 200) <;> cases allIn vs 0 1000 <;> cases inR g 1 9 <;> rfl

set_option maxRecDepth 100000 in
set_option maxHeartbeats 4000000 in
theorem implPutLine'_any (h : MosaicH) (l : MosaicC) (x0 y0 x1 y1 : Int) (hv : Hd) (vs : List Int) (g : Int) (w : World) (ok : MosaicOk h) (hr : RdAll w (MosaicS h l)) (okv : IntsOk hv) (rv' : RdAll w (IntsS hv vs)) :
    Calls Try.prog 23 #[MosaicV h l, .agg #[.int .i64 x0, .int .i64 y0], .agg #[.int .i64 x1, .int .i64 y1], IntsV hv, .int .i64 g] w (RetMosaic (plR l x0 y0 x1 y1 vs g) (plC l x0 y0 x1 y1 vs g) w) := by
  unfold MosaicV IntsV
  have rv := rv'.head
  obtain ⟨A, n, c⟩ := hv
  simp only [IntsOk] at rv okv ⊢
  clear rv'
  obtain rfl : n = vs.length := rv.len.symm
  go_enter Try.func23, Try.ntmps23
  go_wp2_with fail
  refine (implIsMosaic_any h l _ ok (hr.below (by (repeat (first | (with_reducible assumption) | (with_reducible exact Below.refl _ _) | (with_reducible refine Below.drew ?_) | (with_reducible refine Below.drewN ?_ _) | (with_reducible refine Below.setCell ?_ ?_ _) | (with_reducible refine Below.alloc ?_ ?_ _) | assumption)); all_goals (first | omega | (simp; done) | (simp; omega))))).mono ?_
  rintro e w1 ⟨rfl, b1⟩
  have hb1 : Below w.heap.size w w1 := (show Below w.heap.size w _ from (by (repeat (first | (with_reducible assumption) | (with_reducible exact Below.refl _ _) | (with_reducible refine Below.drew ?_) | (with_reducible refine Below.drewN ?_ _) | (with_reducible refine Below.setCell ?_ ?_ _) | (with_reducible refine Below.alloc ?_ ?_ _) | assumption)); all_goals (first | omega | (simp; done) | (simp; omega)))).trans (b1.mono (by first | omega | (simp; done) | (simp; omega)))
  have z1 : w.heap.size + 3 < w1.heap.size := Nat.lt_of_lt_of_le (by first | omega | (simp; done) | (simp; omega)) b1.size
  have K0 : Blk w1 w.heap.size 26 #[.int .i64 l.wide, .int .i64 l.high, .slice h.values.A h.values.n h.values.c, .slice h.grades.A h.grades.n h.grades.c] := Blk.below (by repeat (first | exact Blk.newN _ _ _ (by simp; done) | refine Blk.alloc ?_ _)) b1 (by first | omega | (simp; done) | (simp; omega))
  have K1 : Blk w1 (w.heap.size + 1) 38 #[.int .i64 x0, .int .i64 y0] := Blk.below (by repeat (first | exact Blk.newN _ _ _ (by simp; done) | refine Blk.alloc ?_ _)) b1 (by first | omega | (simp; done) | (simp; omega))
  have K2 : Blk w1 (w.heap.size + 1 + 1) 38 #[.int .i64 x1, .int .i64 y1] := Blk.below (by repeat (first | exact Blk.newN _ _ _ (by simp; done) | refine Blk.alloc ?_ _)) b1 (by first | omega | (simp; done) | (simp; omega))
  have K3 : Blk w1 (w.heap.size + 1 + 1 + 1) 26 #[.int .i64 0, .int .i64 0, .slice none 0 0, .slice none 0 0] := Blk.below (by repeat (first | exact Blk.newN _ _ _ (by simp; done) | refine Blk.alloc ?_ _)) b1 (by first | omega | (simp; done) | (simp; omega))
  clear b1
  have c0 := fun o => K0.cell o
  have c1 := fun o => K1.cell o
  have c2 := fun o => K2.cell o
  have c3 := fun o => K3.cell o
  have f3 := fun o => K3.frozen o
  have y0' : w.heap.size < w1.heap.size := by omega
  have y1' : w.heap.size + 1 < w1.heap.size := by omega
  have y2' : w.heap.size + 1 + 1 < w1.heap.size := by omega
  have y3' : w.heap.size + 1 + 1 + 1 < w1.heap.size := by omega
  rcases Bool.eq_false_or_eq_true (mosOk l) with o0 | o0
  case inr =>
    have HM := Lib.hid (pl_a (x0 := x0) (y0 := y0) (x1 := x1) (y1 := y1) (vs := vs) (g := g) o0)
    go_wp2
    refine bodyPost_ret (v := .tuple #[.agg #[.int .i64 0, .int .i64 0, .slice none 0 0, .slice none 0 0], .int .i64 1]) (by simp [results, Try.results23, go_sem, c3, y3']) rfl ?_
    rw [HM.out.1, HM.out.2]
    exact retMosaic_zero (by (repeat (first | (with_reducible assumption) | (with_reducible exact Below.refl _ _) | (with_reducible refine Below.drew ?_) | (with_reducible refine Below.drewN ?_ _) | (with_reducible refine Below.setCell ?_ ?_ _) | (with_reducible refine Below.alloc ?_ ?_ _) | assumption)); all_goals (first | omega | (simp; done) | (simp; omega)))
  have M0 := Lib.hid (MOk.of o0)
  have HLB := Lib.hid (lineB_and x0 y0 x1 y1 vs g)
  have HB2 : Hid (lineB x0 y0 x1 y1 vs g = false → plR l x0 y0 x1 y1 vs g = zeroMosaic ∧ plC l x0 y0 x1 y1 vs g = 2) := fun h => pl_b o0 h
  have HB0 : Hid (lineB x0 y0 x1 y1 vs g = true → plR l x0 y0 x1 y1 vs g = lineTo l x0 y0 x1 y1 vs g vs.length ∧ plC l x0 y0 x1 y1 vs g = 0) := fun h => pl_c o0 h
  generalize hpix : (inPix x0 y0 && inPix x1 y1) = px at *
  rcases Bool.eq_false_or_eq_true (px) with p1 | p1
  case inr =>
    subst p1
    have HM := Lib.hid (HB2.out (by rw [HLB.out]; rfl))
    clear HLB HB2 HB0
    go_wp2_with (first
      | (go_at_call 70; refine (isPixel_any _ _ _ [x0, y0, x1, y1] _ (by omega) (rd_four _ x0 y0 x1 y1 _ _ (by simp))).mono ?_; rw [allIn_four, hpix]; rintro e w' ⟨rfl, rfl⟩)
      | (go_at_call 76; refine (areWithin_any _ _ _ vs _ _ _ (by omega) (rv.below (by (repeat (first | (with_reducible assumption) | (with_reducible exact Below.refl _ _) | (with_reducible refine Below.drew ?_) | (with_reducible refine Below.drewN ?_ _) | (with_reducible refine Below.setCell ?_ ?_ _) | (with_reducible refine Below.alloc ?_ ?_ _) | assumption)); all_goals (first | omega | (simp; done) | (simp; omega))))).mono ?_; rintro e w' ⟨rfl, rfl⟩)
      | (go_at_call 77; refine (within_any _ _ _ _).mono ?_; rintro e w' ⟨rfl, rfl⟩))
    go_wp2
    refine bodyPost_ret (v := .tuple #[.agg #[.int .i64 0, .int .i64 0, .slice none 0 0, .slice none 0 0], .int .i64 2]) (by simp [results, Try.results23, go_sem, c3, y3']) rfl ?_
    rw [HM.out.1, HM.out.2]
    exact retMosaic_zero (by (repeat (first | (with_reducible assumption) | (with_reducible exact Below.refl _ _) | (with_reducible refine Below.drew ?_) | (with_reducible refine Below.drewN ?_ _) | (with_reducible refine Below.setCell ?_ ?_ _) | (with_reducible refine Below.alloc ?_ ?_ _) | assumption)); all_goals (first | omega | (simp; done) | (simp; omega)))
  by_cases p2 : (vs.length : Int) ≤ 200
  case neg =>
    have p2' : decide ((vs.length : Int) ≤ 200) = false := decide_eq_false p2
    have p2'' : (200 : Int) < (vs.length : Int) := by omega
    have HM := Lib.hid (HB2.out (by rw [HLB.out, p1, p2']; rfl))
    clear HLB HB2 HB0
    go_wp2_with (first
      | (go_at_call 70; refine (isPixel_any _ _ _ [x0, y0, x1, y1] _ (by omega) (rd_four _ x0 y0 x1 y1 _ _ (by simp))).mono ?_; rw [allIn_four, hpix]; rintro e w' ⟨rfl, rfl⟩)
      | (go_at_call 76; refine (areWithin_any _ _ _ vs _ _ _ (by omega) (rv.below (by (repeat (first | (with_reducible assumption) | (with_reducible exact Below.refl _ _) | (with_reducible refine Below.drew ?_) | (with_reducible refine Below.drewN ?_ _) | (with_reducible refine Below.setCell ?_ ?_ _) | (with_reducible refine Below.alloc ?_ ?_ _) | assumption)); all_goals (first | omega | (simp; done) | (simp; omega))))).mono ?_; rintro e w' ⟨rfl, rfl⟩)
      | (go_at_call 77; refine (within_any _ _ _ _).mono ?_; rintro e w' ⟨rfl, rfl⟩))
    go_wp2
    refine bodyPost_ret (v := .tuple #[.agg #[.int .i64 0, .int .i64 0, .slice none 0 0, .slice none 0 0], .int .i64 2]) (by simp [results, Try.results23, go_sem, c3, y3']) rfl ?_
    rw [HM.out.1, HM.out.2]
    exact retMosaic_zero (by (repeat (first | (with_reducible assumption) | (with_reducible exact Below.refl _ _) | (with_reducible refine Below.drew ?_) | (with_reducible refine Below.drewN ?_ _) | (with_reducible refine Below.setCell ?_ ?_ _) | (with_reducible refine Below.alloc ?_ ?_ _) | assumption)); all_goals (first | omega | (simp; done) | (simp; omega)))
  have p2' : decide ((vs.length : Int) ≤ 200) = true := decide_eq_true p2
  have p2'' : ¬ (200 : Int) < (vs.length : Int) := by omega
  rcases Bool.eq_false_or_eq_true (allIn vs 0 1000) with p3 | p3
  case inr =>
    have HM := Lib.hid (HB2.out (by rw [HLB.out, p1, p2', p3]; rfl))
    clear HLB HB2 HB0
    go_wp2_with (first
      | (go_at_call 70; refine (isPixel_any _ _ _ [x0, y0, x1, y1] _ (by omega) (rd_four _ x0 y0 x1 y1 _ _ (by simp))).mono ?_; rw [allIn_four, hpix]; rintro e w' ⟨rfl, rfl⟩)
      | (go_at_call 76; refine (areWithin_any _ _ _ vs _ _ _ (by omega) (rv.below (by (repeat (first | (with_reducible assumption) | (with_reducible exact Below.refl _ _) | (with_reducible refine Below.drew ?_) | (with_reducible refine Below.drewN ?_ _) | (with_reducible refine Below.setCell ?_ ?_ _) | (with_reducible refine Below.alloc ?_ ?_ _) | assumption)); all_goals (first | omega | (simp; done) | (simp; omega))))).mono ?_; rintro e w' ⟨rfl, rfl⟩)
      | (go_at_call 77; refine (within_any _ _ _ _).mono ?_; rintro e w' ⟨rfl, rfl⟩))
    go_wp2
    refine bodyPost_ret (v := .tuple #[.agg #[.int .i64 0, .int .i64 0, .slice none 0 0, .slice none 0 0], .int .i64 2]) (by simp [results, Try.results23, go_sem, c3, y3']) rfl ?_
    rw [HM.out.1, HM.out.2]
    exact retMosaic_zero (by (repeat (first | (with_reducible assumption) | (with_reducible exact Below.refl _ _) | (with_reducible refine Below.drew ?_) | (with_reducible refine Below.drewN ?_ _) | (with_reducible refine Below.setCell ?_ ?_ _) | (with_reducible refine Below.alloc ?_ ?_ _) | assumption)); all_goals (first | omega | (simp; done) | (simp; omega)))
  rcases Bool.eq_false_or_eq_true (inR g 1 9) with p4 | p4
  case inr =>
    have HM := Lib.hid (HB2.out (by rw [HLB.out, p1, p2', p3, p4]; rfl))
    clear HLB HB2 HB0
    go_wp2_with (first
      | (go_at_call 70; refine (isPixel_any _ _ _ [x0, y0, x1, y1] _ (by omega) (rd_four _ x0 y0 x1 y1 _ _ (by simp))).mono ?_; rw [allIn_four, hpix]; rintro e w' ⟨rfl, rfl⟩)
      | (go_at_call 76; refine (areWithin_any _ _ _ vs _ _ _ (by omega) (rv.below (by (repeat (first | (with_reducible assumption) | (with_reducible exact Below.refl _ _) | (with_reducible refine Below.drew ?_) | (with_reducible refine Below.drewN ?_ _) | (with_reducible refine Below.setCell ?_ ?_ _) | (with_reducible refine Below.alloc ?_ ?_ _) | assumption)); all_goals (first | omega | (simp; done) | (simp; omega))))).mono ?_; rintro e w' ⟨rfl, rfl⟩)
      | (go_at_call 77; refine (within_any _ _ _ _).mono ?_; rintro e w' ⟨rfl, rfl⟩))
    go_wp2
    refine bodyPost_ret (v := .tuple #[.agg #[.int .i64 0, .int .i64 0, .slice none 0 0, .slice none 0 0], .int .i64 2]) (by simp [results, Try.results23, go_sem, c3, y3']) rfl ?_
    rw [HM.out.1, HM.out.2]
    exact retMosaic_zero (by (repeat (first | (with_reducible assumption) | (with_reducible exact Below.refl _ _) | (with_reducible refine Below.drew ?_) | (with_reducible refine Below.drewN ?_ _) | (with_reducible refine Below.setCell ?_ ?_ _) | (with_reducible refine Below.alloc ?_ ?_ _) | assumption)); all_goals (first | omega | (simp; done) | (simp; omega)))
  have HM := Lib.hid (HB0.out (by rw [HLB.out, p1, p2', p3, p4]; rfl))
  have hpp := hpix.trans p1
  have HPX := Lib.hid (show (inPix x0 y0 && inPix x1 y1) = true from hpp)
  clear hpp HLB HB2 HB0
  go_wp2_with (first
    | (go_at_call 70; refine (isPixel_any _ _ _ [x0, y0, x1, y1] _ (by omega) (rd_four _ x0 y0 x1 y1 _ _ (by simp))).mono ?_; rw [allIn_four, hpix]; rintro e w' ⟨rfl, rfl⟩)
    | (go_at_call 76; refine (areWithin_any _ _ _ vs _ _ _ (by omega) (rv.below (by (repeat (first | (with_reducible assumption) | (with_reducible exact Below.refl _ _) | (with_reducible refine Below.drew ?_) | (with_reducible refine Below.drewN ?_ _) | (with_reducible refine Below.setCell ?_ ?_ _) | (with_reducible refine Below.alloc ?_ ?_ _) | assumption)); all_goals (first | omega | (simp; done) | (simp; omega))))).mono ?_; rintro e w' ⟨rfl, rfl⟩)
    | (go_at_call 77; refine (within_any _ _ _ _).mono ?_; rintro e w' ⟨rfl, rfl⟩))
  have hb2 : Below w.heap.size w (w1.alloc (.cells #[.int .i64 x0, .int .i64 y0, .int .i64 x1, .int .i64 y1] 2)) := (by (repeat (first | (with_reducible assumption) | (with_reducible exact Below.refl _ _) | (with_reducible refine Below.drew ?_) | (with_reducible refine Below.drewN ?_ _) | (with_reducible refine Below.setCell ?_ ?_ _) | (with_reducible refine Below.alloc ?_ ?_ _) | assumption)); all_goals (first | omega | (simp; done) | (simp; omega)))
  have I0 := K0.alloc (.cells #[.int .i64 x0, .int .i64 y0, .int .i64 x1, .int .i64 y1] 2)
  have I1 := K1.alloc (.cells #[.int .i64 x0, .int .i64 y0, .int .i64 x1, .int .i64 y1] 2)
  have I2 := K2.alloc (.cells #[.int .i64 x0, .int .i64 y0, .int .i64 x1, .int .i64 y1] 2)
  have I3 := K3.alloc (.cells #[.int .i64 x0, .int .i64 y0, .int .i64 x1, .int .i64 y1] 2)
  have z2 : w.heap.size + 3 < (w1.alloc (.cells #[.int .i64 x0, .int .i64 y0, .int .i64 x1, .int .i64 y1] 2)).heap.size := (by first | omega | (simp; done) | (simp; omega))
  clear c0 c1 c2 c3 f3 K0 K1 K2 K3 y0' y1' y2' y3'
  generalize w1.alloc (.cells #[.int .i64 x0, .int .i64 y0, .int .i64 x1, .int .i64 y1] 2) = w2 at hb2 I0 I1 I2 I3 z2 ⊢
  have hpx : (-1000 ≤ x0 ∧ x0 ≤ 1000) ∧ (-1000 ≤ y0 ∧ y0 ≤ 1000) ∧ (-1000 ≤ x1 ∧ x1 ≤ 1000) ∧ (-1000 ≤ y1 ∧ y1 ≤ 1000) := by
    have hp := HPX.out
    unfold inPix at hp
    simp only [Bool.and_eq_true] at hp
    exact ⟨inR_true hp.1.1, inR_true hp.1.2, inR_true hp.2.1, inR_true hp.2.2⟩
  have HPB := Lib.hid hpx
  have hn200 : vs.length ≤ 200 := by omega
  clear o0 hpx p1 p2 p2' p2'' p3 p4 hpix HPX
  have c0 := fun o => I0.cell o
  have q0 : w.heap.size < w2.heap.size := by omega
  go_wp2_with fail
  refine (mosClone_any h l _ ok (hr.below (by (repeat (first | (with_reducible assumption) | (with_reducible exact Below.refl _ _) | (with_reducible refine Below.drew ?_) | (with_reducible refine Below.drewN ?_ _) | (with_reducible refine Below.setCell ?_ ?_ _) | (with_reducible refine Below.alloc ?_ ?_ _) | assumption)); all_goals (first | omega | (simp; done) | (simp; omega))))).mono ?_
  rintro e w3 ⟨k, he, ow, b3⟩
  unfold MosaicV at he
  subst he
  have hb3 : Below w.heap.size w w3 := hb2.trans (b3.mono hb2.size)
  have z3 : w.heap.size + 3 < w3.heap.size := Nat.lt_of_lt_of_le z2 b3.size
  have J0 := I0.below b3 I0.lt
  have J1 := I1.below b3 I1.lt
  have J2 := I2.below b3 I2.lt
  have J3 := I3.below b3 I3.lt
  clear c0 q0 I0 I1 I2 I3 b3
  have rk := ow.rd
  have wk := ow.wr
  have sk := ow.sp
  clear ow
  have hlen : Hid (k.grades.n = k.values.n ∧ k.values.n = l.values.length ∧ k.values.n ≤ 1600) := by
    have a := MosaicS_v rk; have b := MosaicS_g rk; have c := M0.out.eq; have d := M0.out.bd.1
    exact ⟨by omega, by omega, by omega⟩
  have hlo : Lo (MosaicR k) w3.heap.size := rk.lo
  have hhi : Hi (MosaicR k) w2.heap.size := wk.hi
  have c0 := fun o => J0.cell o
  have q0 : w.heap.size < w3.heap.size := by omega
  go_wp2_with fail
  refine (len64_any _ _ _ _ (by omega)).mono ?_
  rintro e w' ⟨rfl, rfl⟩
  go_wp2_with fail
  have rk4 := rk.below ((Below.refl w3.heap.size w3).alloc (Nat.le_refl _) (.cells #[.int .i64 l.wide, .int .i64 l.high, .slice k.values.A k.values.n k.values.c, .slice k.grades.A k.grades.n k.grades.c] 26))
  have wk4 := wk.below rk ((Below.refl w3.heap.size w3).alloc (Nat.le_refl _) (.cells #[.int .i64 l.wide, .int .i64 l.high, .slice k.values.A k.values.n k.values.c, .slice k.grades.A k.grades.n k.grades.c] 26))
  have P0 := J0.alloc (.cells #[.int .i64 l.wide, .int .i64 l.high, .slice k.values.A k.values.n k.values.c, .slice k.grades.A k.grades.n k.grades.c] 26)
  have P1 := J1.alloc (.cells #[.int .i64 l.wide, .int .i64 l.high, .slice k.values.A k.values.n k.values.c, .slice k.grades.A k.grades.n k.grades.c] 26)
  have P2 := J2.alloc (.cells #[.int .i64 l.wide, .int .i64 l.high, .slice k.values.A k.values.n k.values.c, .slice k.grades.A k.grades.n k.grades.c] 26)
  have P3 := J3.alloc (.cells #[.int .i64 l.wide, .int .i64 l.high, .slice k.values.A k.values.n k.values.c, .slice k.grades.A k.grades.n k.grades.c] 26)
  have P4 := Blk.new w3 26 #[.int .i64 l.wide, .int .i64 l.high, .slice k.values.A k.values.n k.values.c, .slice k.grades.A k.grades.n k.grades.c]
  have hb4 : Below w.heap.size w (w3.alloc (.cells #[.int .i64 l.wide, .int .i64 l.high, .slice k.values.A k.values.n k.values.c, .slice k.grades.A k.grades.n k.grades.c] 26)) := (by (repeat (first | (with_reducible assumption) | (with_reducible exact Below.refl _ _) | (with_reducible refine Below.drew ?_) | (with_reducible refine Below.drewN ?_ _) | (with_reducible refine Below.setCell ?_ ?_ _) | (with_reducible refine Below.alloc ?_ ?_ _) | assumption)); all_goals (first | omega | (simp; done) | (simp; omega)))
  generalize w3.alloc (.cells #[.int .i64 l.wide, .int .i64 l.high, .slice k.values.A k.values.n k.values.c, .slice k.grades.A k.grades.n k.grades.c] 26) = w4 at rk4 wk4 P0 P1 P2 P3 P4 hb4 ⊢
  clear c0 q0 J0 J1 J2 J3 rk wk hb3
  go_loopw [57] (fun i wr => ∃ q : Nat, q ≤ vs.length ∧ i = .int .i64 q ∧ RdAll wr (MosaicS k (lineTo l x0 y0 x1 y1 vs g q)) ∧ WrAll wr w2.heap.size (MosaicS k (lineTo l x0 y0 x1 y1 vs g q)) ∧ Below w.heap.size w wr ∧ Blk wr w.heap.size 26 #[.int .i64 l.wide, .int .i64 l.high, .slice h.values.A h.values.n h.values.c, .slice h.grades.A h.grades.n h.grades.c] ∧ Blk wr (w.heap.size + 1) 38 #[.int .i64 x0, .int .i64 y0] ∧ Blk wr (w.heap.size + 1 + 1) 38 #[.int .i64 x1, .int .i64 y1] ∧ Blk wr (w.heap.size + 1 + 1 + 1) 26 #[.int .i64 0, .int .i64 0, .slice none 0 0, .slice none 0 0] ∧ Blk wr w3.heap.size 26 #[.int .i64 l.wide, .int .i64 l.high, .slice k.values.A k.values.n k.values.c, .slice k.grades.A k.grades.n k.grades.c]) (fun i _ => vs.length - (intOf i).toNat)
  case atStart => exact ⟨0, Nat.zero_le _, rfl, rk4, wk4, hb4, P0, P1, P2, P3, P4⟩
  case round =>
    clear rk4 wk4 hb4 P0 P1 P2 P3 P4
    obtain ⟨q, hqn, rfl, rk, wk, hbel, P0, P1, P2, P3, P4⟩ := hrel
    have c0 := fun o => P0.cell o
    have c1 := fun o => P1.cell o
    have c2 := fun o => P2.cell o
    have c3 := fun o => P3.cell o
    have f3 := fun o => P3.frozen o
    have c4 := fun o => P4.cell o
    have z4 := P4.lt
    have z30 : w.heap.size < wr.heap.size := by omega
    have z31 : w.heap.size + 1 < wr.heap.size := by omega
    have z32 : w.heap.size + 1 + 1 < wr.heap.size := by omega
    have z33 : w.heap.size + 1 + 1 + 1 < wr.heap.size := by omega
    by_cases hlt : q < vs.length
    · have HSP : Hid (hasB l (wayI x0 x1 q vs.length) (wayI y0 y1 q vs.length) = true → lineTo l x0 y0 x1 y1 vs g (q + 1) = putM (lineTo l x0 y0 x1 y1 vs g q) (wayI y0 y1 q vs.length * l.wide + wayI x0 x1 q vs.length).toNat (vs.getD q 0) g) := fun hh => lineTo_put hh
      have HSN : Hid (hasB l (wayI x0 x1 q vs.length) (wayI y0 y1 q vs.length) = false → lineTo l x0 y0 x1 y1 vs g (q + 1) = (lineTo l x0 y0 x1 y1 vs g q)) := fun hh => lineTo_not hh
      obtain ⟨av, rfl, hx⟩ := (rv.below hbel).int hlt
      generalize hgv : vs.getD q 0 = v at *
      have HVQ : Hid (vs.getD q 0 = v) := hgv
      clear hgv
      have hi0 : (0 : Int) ≤ (q : Int) := by omega
      have hi1 : (q : Int) < (vs.length : Int) := by omega
      have hw := HPB.out
      have HX := fun w => onWay_any x0 x1 q vs.length w hw.1.1 hw.1.2 hw.2.2.1.1 hw.2.2.1.2 hlt hn200
      have HY := fun w => onWay_any y0 y1 q vs.length w hw.2.1.1 hw.2.1.2 hw.2.2.2.1 hw.2.2.2.2 hlt hn200
      have HX' := Lib.hid HX
      have HY' := Lib.hid HY
      clear hw HX HY
      go_wp2_with fail
      go_quiet (first | (go_at_call_of 79 (Value.int .i64 x0); first | (with_reducible exact q_left (HX'.out _)) | (with_reducible exact q_add_left (HX'.out _))) | (go_at_call_of 79 (Value.int .i64 y0); first | (with_reducible exact q_left (HY'.out _)) | (with_reducible exact q_add_left (HY'.out _))))
      clear HX' HY'
      generalize wayI x0 x1 q vs.length = X at *
      generalize wayI y0 y1 q vs.length = Y at *
      go_wp2_with fail
      refine (has_any k l X Y _ M0.out).mono ?_
      rintro e w5 ⟨rfl, b5⟩
      have b5' : Below wr.heap.size wr w5 := (by first | exact Below.left b5 | exact b5)
      clear b5
      have rk5 := rk.below b5'
      have wk5 := wk.below rk b5'
      have hb5 := hbel.trans (b5'.mono hbel.size)
      have Q0 := P0.below b5' P0.lt
      have Q1 := P1.below b5' P1.lt
      have Q2 := P2.below b5' P2.lt
      have Q3 := P3.below b5' P3.lt
      have Q4 := P4.below b5' P4.lt
      have s5 := b5'.size
      clear c0 c1 c2 c3 f3 c4 z4 z30 z31 z32 z33 P0 P1 P2 P3 P4 rk wk hx
      have c0 := fun o => Q0.cell o
      have c1 := fun o => Q1.cell o
      have c2 := fun o => Q2.cell o
      have c3 := fun o => Q3.cell o
      have f3 := fun o => Q3.frozen o
      have c4 := fun o => Q4.cell o
      have z4 := Q4.lt
      have z30 : w.heap.size < w5.heap.size := by omega
      have z31 : w.heap.size + 1 < w5.heap.size := by omega
      have z32 : w.heap.size + 1 + 1 < w5.heap.size := by omega
      have z33 : w.heap.size + 1 + 1 + 1 < w5.heap.size := by omega
      rcases Bool.eq_false_or_eq_true (hasB l X Y) with hh | hh
      case inr =>
        have HS := Lib.hid (HSN.out hh)
        clear HSN HSP
        go_wp2
        go_roundw
        case rel => exact ⟨q + 1, by omega, by go_num, by rw [HS.out]; exact rk5, by rw [HS.out]; exact wk5, hb5, Q0, Q1, Q2, Q3, Q4⟩
        case measure => simp [intOf]; omega
      have HS := Lib.hid (HSP.out hh)
      have hbd := cell_bd M0.out hh
      have HZN := Lib.hid (show ((Y * l.wide + X).toNat : Int) = Y * l.wide + X from Int.toNat_of_nonneg hbd.2.2.2.2.2.2.1)
      have hwr : IntKind.i64.wrap (Y * l.wide) = Y * l.wide := IntWalk.i64_in _ (by omega)
      have d0 := hbd.1; have d1 := hbd.2.1; have d2 := hbd.2.2.1; have d3 := hbd.2.2.2.1
      have HBD := Lib.hid hbd
      clear hbd HSN HSP
      have HP := implPut_z w2.heap.size k ⟨l.wide, l.high, (lineTo l x0 y0 x1 y1 vs g q).values, (lineTo l x0 y0 x1 y1 vs g q).grades⟩ (Y * l.wide + X) (Y * l.wide + X).toNat v g w5 HZN.out (by have := hlen.out; exact ⟨by omega, by omega⟩) hlen.out.1 (by have a := HBD.out; have b := HZN.out; have c := hlen.out; omega) rk5 wk5 sk
      simp only [MosaicV] at HP
      go_wp2_with fail
      with_reducible refine HP.mono ?_
      rintro e w6 ⟨rfl, rk6, wk6, t6⟩
      clear HP
      go_wp2
      go_roundw
      case rel => exact ⟨q + 1, by omega, by go_num, by rw [HS.out]; exact rk6, by rw [HS.out]; exact wk6, bstepT hb5 t6 (Nat.le_refl _) (hhi.mono hb2.size), Q0.touch t6 (hhi.ne (by omega)), Q1.touch t6 (hhi.ne (by omega)), Q2.touch t6 (hhi.ne (by omega)), Q3.touch t6 (hhi.ne (by omega)), Q4.touch t6 (hlo.ne (by omega))⟩
      case measure => simp [intOf]; omega
    · obtain rfl : q = vs.length := by omega
      go_wp2
      refine bodyPost_ret (v := .tuple #[.agg #[.int .i64 l.wide, .int .i64 l.high, .slice k.values.A k.values.n k.values.c, .slice k.grades.A k.grades.n k.grades.c], .int .i64 0]) (by simp [results, Try.results23, go_sem, c3, z33]) rfl ?_
      rw [HM.out.1, HM.out.2]
      have hh := lineTo_wh l x0 y0 x1 y1 vs g vs.length
      refine ⟨k, by unfold MosaicV; rw [hh.1, hh.2], by have := hlen.out; exact ⟨by omega, by omega⟩, ?_, ?_, sk, (by (repeat (first | (with_reducible assumption) | (with_reducible exact Below.refl _ _) | (with_reducible refine Below.drew ?_) | (with_reducible refine Below.drewN ?_ _) | (with_reducible refine Below.setCell ?_ ?_ _) | (with_reducible refine Below.alloc ?_ ?_ _) | assumption)); all_goals (first | omega | (simp; done) | (simp; omega)))⟩
      · repeat (refine RdAll.cell_ ?_ (hhi.ne (by omega)))
        exact rk
      · repeat (refine WrAll.cell_ ?_)
        exact wk.lower hb2.size
end Go.Proofs.Ythmcnoloeeabbaa
