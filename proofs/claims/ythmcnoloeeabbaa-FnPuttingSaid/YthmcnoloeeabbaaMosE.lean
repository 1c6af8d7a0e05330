/- Mosaics: a value put into a cell of a copy. spec.PutSample and impl.PutSample compute the same. Condition: lists of at most 1048576 numbers. -/
import Derived.Test.YthmcnoloeeabbaaMosD
namespace Go.Proofs.Ythmcnoloeeabbaa
open Go.RowKit

theorem rd_two (w : World) (x y : Int) (e : TypeId) (g : Nat) (hg : w.heap.size = g) : Rd (w.alloc (.cells #[.int .i64 x, .int .i64 y] e)) (some ⟨g, 0, none⟩) 2 (ints [x, y]) := by
  subst hg
  exact (Blk.new w e #[.int .i64 x, .int .i64 y]).rd rfl (fun i hi => by
    match i, hi with
    | 0, _ => rfl
    | 1, _ => rfl)
def inPix (x y : Int) : Bool := inR x (-1000) 1000 && inR y (-1000) 1000
set_option maxHeartbeats 400000 in
theorem isPixel_any (A : Option Addr) (n c : Nat) (xs : List Int) (w : World) (hn : n ≤ 9223372036854775807) (hr : Rd w A n (ints xs)) :
    Calls Try.prog 70 #[.slice A n c] w fun e w' => e = .returned (.bool (allIn xs (-1000) 1000)) ∧ w = w' := by
  go_enter Try.func70, Try.ntmps70
  go_wp2_with (go_at_call 76; refine (areWithin_any _ _ _ xs _ _ _ hn hr).mono ?_; rintro e w' ⟨rfl, rfl⟩)
  go_ret
  exact ⟨rfl, rfl⟩
theorem allIn_two (x y : Int) : allIn [x, y] (-1000) 1000 = inPix x y := by unfold allIn inPix; simp
set_option maxHeartbeats 400000 in
theorem l12Point_any (x y : Int) (w : World) :
    Calls Try.prog 67 #[.agg #[.int .i64 x, .int .i64 y], .int .i64 1000] w fun e w' => e = .returned (.bool (inPix x y)) ∧ Below w.heap.size w w' := by
  rcases Bool.eq_false_or_eq_true (inR x (-1000) 1000) with h | h
  all_goals
    go_enter Try.func67, Try.ntmps67
    go_wp2_with (go_at_call 74; refine (l01In_any _ _ _ _).mono ?_; rintro e w' ⟨rfl, rfl⟩)
    go_ret
    exact ⟨ret_bool (by unfold inPix; rw [h]; rfl), by (repeat (first | (with_reducible assumption) | (with_reducible exact Below.refl _ _) | (with_reducible refine Below.drew ?_) | (with_reducible refine Below.drewN ?_ _) | (with_reducible refine Below.setCell ?_ ?_ _) | (with_reducible refine Below.alloc ?_ ?_ _) | assumption)); all_goals (first | omega | (simp; done) | (simp; omega))⟩

def idxB (l : MosaicC) (x y : Int) : Int := if hasB l x y = true then y * l.wide + x else -1
set_option maxHeartbeats 400000 in
theorem has_any (h : MosaicH) (l : MosaicC) (x y : Int) (w : World) (K : MOk l) :
    Calls Try.prog 72 #[MosaicV h l, .int .i64 x, .int .i64 y] w fun e w' => e = .returned (.bool (hasB l x y)) ∧ Below w.heap.size w w' := by
  have k0 := K.w0; have k1 := K.w1; have k2 := K.h0; have k3 := K.h1
  clear K
  unfold MosaicV
  rcases Bool.eq_false_or_eq_true (inR x 0 (l.wide - 1)) with h0 | h0
  all_goals
    go_enter Try.func72, Try.ntmps72
    go_wp2_with (go_at_call 77; refine (within_any _ _ _ _).mono ?_; rintro e w' ⟨rfl, rfl⟩)
    go_ret
    exact ⟨ret_bool (by unfold hasB; rw [h0]; rfl), by (repeat (first | (with_reducible assumption) | (with_reducible exact Below.refl _ _) | (with_reducible refine Below.drew ?_) | (with_reducible refine Below.drewN ?_ _) | (with_reducible refine Below.setCell ?_ ?_ _) | (with_reducible refine Below.alloc ?_ ?_ _) | assumption)); all_goals (first | omega | (simp; done) | (simp; omega))⟩
set_option maxHeartbeats 400000 in
theorem l19Index_any (h : MosaicH) (l : MosaicC) (x y : Int) (w : World) (K : MOk l) :
    Calls Try.prog 69 #[MosaicV h l, .int .i64 x, .int .i64 y] w fun e w' => e = .returned (.int .i64 (idxB l x y)) ∧ Below w.heap.size w w' := by
  have k0 := K.w0; have k1 := K.w1; have k2 := K.h0; have k3 := K.h1
  have HB : Hid (hasB l x y = true → 0 ≤ y * l.wide ∧ y * l.wide ≤ 1560 ∧ 0 ≤ x ∧ x ≤ 39) := fun hb => by have := cell_bd K hb; omega
  clear K
  have HH : Hid (hasB l x y = (inR x 0 (l.wide - 1) && inR y 0 (l.high - 1))) := rfl
  have HI : Hid (idxB l x y = if hasB l x y = true then y * l.wide + x else -1) := rfl
  unfold MosaicV
  rcases Bool.eq_false_or_eq_true (inR x 0 (l.wide - 1)) with h0 | h0
  · rcases Bool.eq_false_or_eq_true (inR y 0 (l.high - 1)) with h1 | h1
    · have hb := HB.out (by rw [HH.out, h0, h1]; rfl)
      have hwr : IntKind.i64.wrap (y * l.wide) = y * l.wide := IntWalk.i64_in _ (by omega)
      go_enter Try.func69, Try.ntmps69
      go_wp2_with (go_at_call 74; refine (l01In_any _ _ _ _).mono ?_; rintro e w' ⟨rfl, rfl⟩)
      go_ret
      exact ⟨ret_int (by rw [HI.out, HH.out, h0, h1]; rfl), by (repeat (first | (with_reducible assumption) | (with_reducible exact Below.refl _ _) | (with_reducible refine Below.drew ?_) | (with_reducible refine Below.drewN ?_ _) | (with_reducible refine Below.setCell ?_ ?_ _) | (with_reducible refine Below.alloc ?_ ?_ _) | assumption)); all_goals (first | omega | (simp; done) | (simp; omega))⟩
    · go_enter Try.func69, Try.ntmps69
      go_wp2_with (go_at_call 74; refine (l01In_any _ _ _ _).mono ?_; rintro e w' ⟨rfl, rfl⟩)
      go_ret
      exact ⟨ret_int (by rw [HI.out, HH.out, h0, h1]; rfl), by (repeat (first | (with_reducible assumption) | (with_reducible exact Below.refl _ _) | (with_reducible refine Below.drew ?_) | (with_reducible refine Below.drewN ?_ _) | (with_reducible refine Below.setCell ?_ ?_ _) | (with_reducible refine Below.alloc ?_ ?_ _) | assumption)); all_goals (first | omega | (simp; done) | (simp; omega))⟩
  · go_enter Try.func69, Try.ntmps69
    go_wp2_with (go_at_call 74; refine (l01In_any _ _ _ _).mono ?_; rintro e w' ⟨rfl, rfl⟩)
    go_ret
    exact ⟨ret_int (by rw [HI.out, HH.out, h0]; rfl), by (repeat (first | (with_reducible assumption) | (with_reducible exact Below.refl _ _) | (with_reducible refine Below.drew ?_) | (with_reducible refine Below.drewN ?_ _) | (with_reducible refine Below.setCell ?_ ?_ _) | (with_reducible refine Below.alloc ?_ ?_ _) | assumption)); all_goals (first | omega | (simp; done) | (simp; omega))⟩
theorem implPut_z (B : Nat) (h : MosaicH) (l : MosaicC) (z : Int) (i : Nat) (v g : Int) (w : World) (hz : (i : Int) = z) (ok : MosaicOk h) (hq : h.grades.n = h.values.n) (hi : i < h.values.n) (hr : RdAll w (MosaicS h l)) (hw : WrAll w B (MosaicS h l)) (hs : Sep (MosaicR h)) :
    Calls Try.prog 65 #[MosaicV h l, .int .i64 z, .int .i64 v, .int .i64 g] w (PutPost B h (putM l i v g) w) := by subst hz; exact implPut_any B h l i v g w ok hq hi hr hw hs
theorem specPut_z (B : Nat) (h : MosaicH) (l : MosaicC) (z : Int) (i : Nat) (v g : Int) (w : World) (hz : (i : Int) = z) (ok : MosaicOk h) (hq : h.grades.n = h.values.n) (hi : i < h.values.n) (hr : RdAll w (MosaicS h l)) (hw : WrAll w B (MosaicS h l)) (hs : Sep (MosaicR h)) :
    Calls Try.prog 63 #[MosaicV h l, .int .i64 z, .int .i64 v, .int .i64 g] w (PutPost B h (putM l i v g) w) := by subst hz; exact specPut_any B h l i v g w ok hq hi hr hw hs
theorem putSC_at (l : MosaicC) (x y v g : Int) : putSC l x y v g = if mosOk l = true then (if inPix x y = true ∧ pixB v g = true then (if hasB l x y = true then 0 else 4) else 2) else 1 := by
  unfold putSC inPix; simp only [Bool.and_eq_true, and_assoc]
theorem putS_bad {l : MosaicC} {x y v g : Int} (h : mosOk l = false) : Hid (putSC l x y v g = 1 ∧ putSR l x y v g = zeroMosaic) := by
  have e : putSC l x y v g = 1 := by rw [putSC_at, h]; rfl
  exact ⟨e, by unfold putSR; rw [e]; rfl⟩
theorem putS_range {l : MosaicC} {x y v g : Int} (h : mosOk l = true) (h2 : ¬ (inPix x y = true ∧ pixB v g = true)) : Hid (putSC l x y v g = 2 ∧ putSR l x y v g = zeroMosaic) := by
  have e : putSC l x y v g = 2 := by rw [putSC_at, h, if_pos rfl, if_neg h2]
  exact ⟨e, by unfold putSR; rw [e]; rfl⟩
theorem putS_none {l : MosaicC} {x y v g : Int} (h : mosOk l = true) (h2 : inPix x y = true ∧ pixB v g = true) (h3 : hasB l x y = false) : Hid (putSC l x y v g = 4 ∧ putSR l x y v g = zeroMosaic) := by
  have e : putSC l x y v g = 4 := by rw [putSC_at, h, if_pos rfl, if_pos h2, h3]; rfl
  exact ⟨e, by unfold putSR; rw [e]; rfl⟩
theorem putS_ok {l : MosaicC} {x y v g : Int} (h : mosOk l = true) (h2 : inPix x y = true ∧ pixB v g = true) (h3 : hasB l x y = true) : Hid (putSC l x y v g = 0 ∧ putSR l x y v g = putM l (y * l.wide + x).toNat v g) := by
  have e : putSC l x y v g = 0 := by rw [putSC_at, h, if_pos rfl, if_pos h2, h3]; rfl
  exact ⟨e, by unfold putSR; rw [e]; rfl⟩

set_option maxRecDepth 100000 in
set_option maxHeartbeats 4000000 in
theorem implPutSample'_any (h : MosaicH) (l : MosaicC) (x y v g : Int) (w : World) (ok : MosaicOk h) (hr : RdAll w (MosaicS h l)) :
    Calls Try.prog 19 #[MosaicV h l, .int .i64 x, .int .i64 y, .int .i64 v, .int .i64 g] w (RetMosaic (putSR l x y v g) (putSC l x y v g) w) := by
  unfold MosaicV
  go_enter Try.func19, Try.ntmps19
  go_wp2_with fail
  refine (implIsMosaic_any h l _ ok (hr.below (by (repeat (first | (with_reducible assumption) | (with_reducible exact Below.refl _ _) | (with_reducible refine Below.drew ?_) | (with_reducible refine Below.drewN ?_ _) | (with_reducible refine Below.setCell ?_ ?_ _) | (with_reducible refine Below.alloc ?_ ?_ _) | assumption)); all_goals (first | omega | (simp; done) | (simp; omega))))).mono ?_
  rintro e w1 ⟨rfl, b1⟩
  have hb1 : Below w.heap.size w w1 := (show Below w.heap.size w _ from (by (repeat (first | (with_reducible assumption) | (with_reducible exact Below.refl _ _) | (with_reducible refine Below.drew ?_) | (with_reducible refine Below.drewN ?_ _) | (with_reducible refine Below.setCell ?_ ?_ _) | (with_reducible refine Below.alloc ?_ ?_ _) | assumption)); all_goals (first | omega | (simp; done) | (simp; omega)))).trans (b1.mono (by first | omega | (simp; done) | (simp; omega)))
  have y0 : w.heap.size < w1.heap.size := Nat.lt_of_lt_of_le (by first | omega | (simp; done) | (simp; omega)) b1.size
  have y1 : w.heap.size + 1 < w1.heap.size := Nat.lt_of_lt_of_le (by first | omega | (simp; done) | (simp; omega)) b1.size
  have K0 : Blk w1 w.heap.size 26 #[.int .i64 l.wide, .int .i64 l.high, .slice h.values.A h.values.n h.values.c, .slice h.grades.A h.grades.n h.grades.c] := Blk.below (by repeat (first | exact Blk.newN _ _ _ (by simp; done) | refine Blk.alloc ?_ _)) b1 (by first | omega | (simp; done) | (simp; omega))
  have K1 : Blk w1 (w.heap.size + 1) 26 #[.int .i64 0, .int .i64 0, .slice none 0 0, .slice none 0 0] := Blk.below (by repeat (first | exact Blk.newN _ _ _ (by simp; done) | refine Blk.alloc ?_ _)) b1 (by first | omega | (simp; done) | (simp; omega))
  clear b1
  have c0 := fun o => K0.cell o
  have c1 := fun o => K1.cell o
  have f1 := fun o => K1.frozen o
  rcases Bool.eq_false_or_eq_true (mosOk l) with o0 | o0
  case inr =>
    have HM := putS_bad (x := x) (y := y) (v := v) (g := g) o0
    go_wp2
    refine bodyPost_ret (v := .tuple #[.agg #[.int .i64 0, .int .i64 0, .slice none 0 0, .slice none 0 0], .int .i64 1]) (by simp [results, Try.results19, go_sem, c1, y1]) rfl ?_
    rw [HM.out.1, HM.out.2]
    exact retMosaic_zero (by (repeat (first | (with_reducible assumption) | (with_reducible exact Below.refl _ _) | (with_reducible refine Below.drew ?_) | (with_reducible refine Below.drewN ?_ _) | (with_reducible refine Below.setCell ?_ ?_ _) | (with_reducible refine Below.alloc ?_ ?_ _) | assumption)); all_goals (first | omega | (simp; done) | (simp; omega)))
  have HO0 := Lib.hid o0
  have M0 := Lib.hid (MOk.of o0)
  by_cases hpix : inPix x y = true ∧ pixB v g = true
  case neg =>
    have HM := putS_range o0 hpix
    have HPX := Lib.hid hpix
    clear hpix
    rcases Bool.eq_false_or_eq_true (inPix x y) with hp | hp
    · rcases Bool.eq_false_or_eq_true (pixB v g) with hq | hq
      · exact absurd ⟨hp, hq⟩ HPX.out
      · go_wp2_with (first | (go_at_call 70; refine (isPixel_any _ _ _ [x, y] _ (by omega) (rd_two _ x y _ _ (by simp))).mono ?_; rw [allIn_two]; rintro e w' ⟨rfl, rfl⟩) | (go_at_call 71; refine (isGraded_any _ _ _).mono ?_; rintro e w' ⟨rfl, rfl⟩))
        go_wp2
        refine bodyPost_ret (v := .tuple #[.agg #[.int .i64 0, .int .i64 0, .slice none 0 0, .slice none 0 0], .int .i64 2]) (by simp [results, Try.results19, go_sem, c1, y1]) rfl ?_
        rw [HM.out.1, HM.out.2]
        exact retMosaic_zero (by (repeat (first | (with_reducible assumption) | (with_reducible exact Below.refl _ _) | (with_reducible refine Below.drew ?_) | (with_reducible refine Below.drewN ?_ _) | (with_reducible refine Below.setCell ?_ ?_ _) | (with_reducible refine Below.alloc ?_ ?_ _) | assumption)); all_goals (first | omega | (simp; done) | (simp; omega)))
    · go_wp2_with (first | (go_at_call 70; refine (isPixel_any _ _ _ [x, y] _ (by omega) (rd_two _ x y _ _ (by simp))).mono ?_; rw [allIn_two]; rintro e w' ⟨rfl, rfl⟩) | (go_at_call 71; refine (isGraded_any _ _ _).mono ?_; rintro e w' ⟨rfl, rfl⟩))
      go_wp2
      refine bodyPost_ret (v := .tuple #[.agg #[.int .i64 0, .int .i64 0, .slice none 0 0, .slice none 0 0], .int .i64 2]) (by simp [results, Try.results19, go_sem, c1, y1]) rfl ?_
      rw [HM.out.1, HM.out.2]
      exact retMosaic_zero (by (repeat (first | (with_reducible assumption) | (with_reducible exact Below.refl _ _) | (with_reducible refine Below.drew ?_) | (with_reducible refine Below.drewN ?_ _) | (with_reducible refine Below.setCell ?_ ?_ _) | (with_reducible refine Below.alloc ?_ ?_ _) | assumption)); all_goals (first | omega | (simp; done) | (simp; omega)))
  have HPX := Lib.hid hpix
  obtain ⟨hp, hq⟩ := hpix
  go_wp2_with (first | (go_at_call 70; refine (isPixel_any _ _ _ [x, y] _ (by omega) (rd_two _ x y _ _ (by simp))).mono ?_; rw [allIn_two]; rintro e w' ⟨rfl, rfl⟩) | (go_at_call 71; refine (isGraded_any _ _ _).mono ?_; rintro e w' ⟨rfl, rfl⟩))
  have hb3 : Below w.heap.size w (w1.alloc (.cells #[.int .i64 x, .int .i64 y] 2)) := (by (repeat (first | (with_reducible assumption) | (with_reducible exact Below.refl _ _) | (with_reducible refine Below.drew ?_) | (with_reducible refine Below.drewN ?_ _) | (with_reducible refine Below.setCell ?_ ?_ _) | (with_reducible refine Below.alloc ?_ ?_ _) | assumption)); all_goals (first | omega | (simp; done) | (simp; omega)))
  have I0 := K0.alloc (.cells #[.int .i64 x, .int .i64 y] 2)
  have I1 := K1.alloc (.cells #[.int .i64 x, .int .i64 y] 2)
  have x0' : w.heap.size < (w1.alloc (.cells #[.int .i64 x, .int .i64 y] 2)).heap.size := (by first | omega | (simp; done) | (simp; omega))
  have x1' : w.heap.size + 1 < (w1.alloc (.cells #[.int .i64 x, .int .i64 y] 2)).heap.size := (by first | omega | (simp; done) | (simp; omega))
  clear K0 K1 y0 y1
  generalize w1.alloc (.cells #[.int .i64 x, .int .i64 y] 2) = w3 at hb3 I0 I1 x0' x1' ⊢
  clear c0 c1 f1
  have c0 := fun o => I0.cell o
  have c1 := fun o => I1.cell o
  have f1 := fun o => I1.frozen o
  refine (has_any h l x y _ M0.out).mono ?_
  rintro e w4 ⟨rfl, b4⟩
  have hb4 : Below w.heap.size w w4 := hb3.trans (b4.mono hb3.size)
  have x0 : w.heap.size < w4.heap.size := Nat.lt_of_lt_of_le x0' b4.size
  have x1 : w.heap.size + 1 < w4.heap.size := Nat.lt_of_lt_of_le x1' b4.size
  have J0 := I0.below b4 I0.lt
  have J1 := I1.below b4 I1.lt
  clear c0 c1 f1 I0 I1 b4 hb3 x0' x1'
  have c0 := fun o => J0.cell o
  have c1 := fun o => J1.cell o
  have f1 := fun o => J1.frozen o
  rcases Bool.eq_false_or_eq_true (hasB l x y) with hh | hh
  case inr =>
    have HM := putS_none HO0.out HPX.out hh
    skip
    go_wp2
    refine bodyPost_ret (v := .tuple #[.agg #[.int .i64 0, .int .i64 0, .slice none 0 0, .slice none 0 0], .int .i64 4]) (by simp [results, Try.results19, go_sem, c1, x1]) rfl ?_
    rw [HM.out.1, HM.out.2]
    exact retMosaic_zero (by (repeat (first | (with_reducible assumption) | (with_reducible exact Below.refl _ _) | (with_reducible refine Below.drew ?_) | (with_reducible refine Below.drewN ?_ _) | (with_reducible refine Below.setCell ?_ ?_ _) | (with_reducible refine Below.alloc ?_ ?_ _) | assumption)); all_goals (first | omega | (simp; done) | (simp; omega)))
  have HM := putS_ok HO0.out HPX.out hh
  have hbd := cell_bd M0.out hh
  have hz : ((y * l.wide + x).toNat : Int) = y * l.wide + x := Int.toNat_of_nonneg hbd.2.2.2.2.2.2.1
  have HZN := Lib.hid hz
  clear hz
  have hwr : IntKind.i64.wrap (y * l.wide) = y * l.wide := IntWalk.i64_in _ (by omega)
  have d0 := hbd.1; have d1 := hbd.2.1; have d2 := hbd.2.2.1; have d3 := hbd.2.2.2.1
  have HBD := Lib.hid hbd
  clear hbd
  skip
  go_wp2_with fail
  refine (mosClone_any h l _ ok (hr.below (by (repeat (first | (with_reducible assumption) | (with_reducible exact Below.refl _ _) | (with_reducible refine Below.drew ?_) | (with_reducible refine Below.drewN ?_ _) | (with_reducible refine Below.setCell ?_ ?_ _) | (with_reducible refine Below.alloc ?_ ?_ _) | assumption)); all_goals (first | omega | (simp; done) | (simp; omega))))).mono ?_
  rintro e w5 ⟨k, he, ow, b5⟩
  unfold MosaicV at he
  subst he
  have hb5 : Below w.heap.size w w5 := hb4.trans (b5.mono hb4.size)
  have y0 : w.heap.size < w5.heap.size := Nat.lt_of_lt_of_le x0 b5.size
  have y1 : w.heap.size + 1 < w5.heap.size := Nat.lt_of_lt_of_le x1 b5.size
  have L0 := J0.below b5 J0.lt
  have L1 := J1.below b5 J1.lt
  clear c0 c1 f1 J0 J1 b5 hp hq hh o0
  have c0 := fun o => L0.cell o
  have rk := ow.rd
  have wk := ow.wr
  have sk := ow.sp
  clear ow
  have hlen : Hid (k.grades.n = k.values.n ∧ k.values.n = l.values.length ∧ k.values.n ≤ 1600) := by
    have a := MosaicS_v rk; have b := MosaicS_g rk; have c := M0.out.eq; have d := M0.out.bd.1
    exact ⟨by omega, by omega, by omega⟩
  have hlo : Lo (MosaicR k) w5.heap.size := rk.lo
  have hhi : Hi (MosaicR k) w4.heap.size := wk.hi
  go_wp2_with fail
  have HP := implPut_z w4.heap.size k l (y * l.wide + x) (y * l.wide + x).toNat v g (w5.alloc (.cells #[.int .i64 l.wide, .int .i64 l.high, .slice k.values.A k.values.n k.values.c, .slice k.grades.A k.grades.n k.grades.c] 26)) HZN.out (by have := hlen.out; exact ⟨by omega, by omega⟩) hlen.out.1 (by have a := HBD.out; have b := HZN.out; have c := hlen.out; omega) (rk.below (by (repeat (first | (with_reducible assumption) | (with_reducible exact Below.refl _ _) | (with_reducible refine Below.drew ?_) | (with_reducible refine Below.drewN ?_ _) | (with_reducible refine Below.setCell ?_ ?_ _) | (with_reducible refine Below.alloc ?_ ?_ _) | assumption)); all_goals (first | omega | (simp; done) | (simp; omega)))) (wk.below rk (by (repeat (first | (with_reducible assumption) | (with_reducible exact Below.refl _ _) | (with_reducible refine Below.drew ?_) | (with_reducible refine Below.drewN ?_ _) | (with_reducible refine Below.setCell ?_ ?_ _) | (with_reducible refine Below.alloc ?_ ?_ _) | assumption)); all_goals (first | omega | (simp; done) | (simp; omega)))) sk
  have P0 := L0.alloc (.cells #[.int .i64 l.wide, .int .i64 l.high, .slice k.values.A k.values.n k.values.c, .slice k.grades.A k.grades.n k.grades.c] 26)
  have P1 := L1.alloc (.cells #[.int .i64 l.wide, .int .i64 l.high, .slice k.values.A k.values.n k.values.c, .slice k.grades.A k.grades.n k.grades.c] 26)
  have P2 := Blk.new w5 26 #[.int .i64 l.wide, .int .i64 l.high, .slice k.values.A k.values.n k.values.c, .slice k.grades.A k.grades.n k.grades.c]
  have hb6 : Below w.heap.size w (w5.alloc (.cells #[.int .i64 l.wide, .int .i64 l.high, .slice k.values.A k.values.n k.values.c, .slice k.grades.A k.grades.n k.grades.c] 26)) := (by (repeat (first | (with_reducible assumption) | (with_reducible exact Below.refl _ _) | (with_reducible refine Below.drew ?_) | (with_reducible refine Below.drewN ?_ _) | (with_reducible refine Below.setCell ?_ ?_ _) | (with_reducible refine Below.alloc ?_ ?_ _) | assumption)); all_goals (first | omega | (simp; done) | (simp; omega)))
  simp only [MosaicV] at HP
  with_reducible refine HP.mono ?_
  rintro e w6 ⟨rfl, rk6, wk6, t6⟩
  have hb7 : Below w.heap.size w w6 := bstepT hb6 t6 (Nat.le_refl _) (hhi.mono hb4.size)
  have Q1 := P1.touch t6 (hhi.ne x1)
  have Q2 := P2.touch t6 (hlo.ne (Nat.le_refl _))
  clear HP P0 P1 P2 L0 L1 c0
  have c1 := fun o => Q1.cell o
  have f1 := fun o => Q1.frozen o
  have c2 := fun o => Q2.cell o
  have z1 := Q1.lt
  have z2 := Q2.lt
  go_wp2
  refine bodyPost_ret (v := .tuple #[.agg #[.int .i64 l.wide, .int .i64 l.high, .slice k.values.A k.values.n k.values.c, .slice k.grades.A k.grades.n k.grades.c], .int .i64 0]) (by simp [results, Try.results19, go_sem, c1, z1]) rfl ?_
  rw [HM.out.1, HM.out.2]
  refine ⟨k, rfl, by have := hlen.out; exact ⟨by omega, by omega⟩, ?_, ?_, sk, (by (repeat (first | (with_reducible assumption) | (with_reducible exact Below.refl _ _) | (with_reducible refine Below.drew ?_) | (with_reducible refine Below.drewN ?_ _) | (with_reducible refine Below.setCell ?_ ?_ _) | (with_reducible refine Below.alloc ?_ ?_ _) | assumption)); all_goals (first | omega | (simp; done) | (simp; omega)))⟩
  · repeat (refine RdAll.cell_ ?_ (hhi.ne x1))
    exact rk6
  · repeat (refine WrAll.cell_ ?_)
    exact wk6.lower hb4.size


set_option maxRecDepth 100000 in
set_option maxHeartbeats 4000000 in
theorem specPutSample'_any (h : MosaicH) (l : MosaicC) (x y v g : Int) (w : World) (ok : MosaicOk h) (hr : RdAll w (MosaicS h l)) :
    Calls Try.prog 18 #[MosaicV h l, .int .i64 x, .int .i64 y, .int .i64 v, .int .i64 g] w (RetMosaic (putSR l x y v g) (putSC l x y v g) w) := by
  unfold MosaicV
  go_enter Try.func18, Try.ntmps18
  go_wp2_with fail
  refine (specIsMosaic_any h l _ ok (hr.below (by (repeat (first | (with_reducible assumption) | (with_reducible exact Below.refl _ _) | (with_reducible refine Below.drew ?_) | (with_reducible refine Below.drewN ?_ _) | (with_reducible refine Below.setCell ?_ ?_ _) | (with_reducible refine Below.alloc ?_ ?_ _) | assumption)); all_goals (first | omega | (simp; done) | (simp; omega))))).mono ?_
  rintro e w1 ⟨rfl, b1⟩
  have hb1 : Below w.heap.size w w1 := (show Below w.heap.size w _ from (by (repeat (first | (with_reducible assumption) | (with_reducible exact Below.refl _ _) | (with_reducible refine Below.drew ?_) | (with_reducible refine Below.drewN ?_ _) | (with_reducible refine Below.setCell ?_ ?_ _) | (with_reducible refine Below.alloc ?_ ?_ _) | assumption)); all_goals (first | omega | (simp; done) | (simp; omega)))).trans (b1.mono (by first | omega | (simp; done) | (simp; omega)))
  have y0 : w.heap.size < w1.heap.size := Nat.lt_of_lt_of_le (by first | omega | (simp; done) | (simp; omega)) b1.size
  have y1 : w.heap.size + 1 < w1.heap.size := Nat.lt_of_lt_of_le (by first | omega | (simp; done) | (simp; omega)) b1.size
  have K0 : Blk w1 w.heap.size 26 #[.int .i64 l.wide, .int .i64 l.high, .slice h.values.A h.values.n h.values.c, .slice h.grades.A h.grades.n h.grades.c] := Blk.below (by repeat (first | exact Blk.newN _ _ _ (by simp; done) | refine Blk.alloc ?_ _)) b1 (by first | omega | (simp; done) | (simp; omega))
  have K1 : Blk w1 (w.heap.size + 1) 26 #[.int .i64 0, .int .i64 0, .slice none 0 0, .slice none 0 0] := Blk.below (by repeat (first | exact Blk.newN _ _ _ (by simp; done) | refine Blk.alloc ?_ _)) b1 (by first | omega | (simp; done) | (simp; omega))
  clear b1
  have c0 := fun o => K0.cell o
  have c1 := fun o => K1.cell o
  have f1 := fun o => K1.frozen o
  rcases Bool.eq_false_or_eq_true (mosOk l) with o0 | o0
  case inr =>
    have HM := putS_bad (x := x) (y := y) (v := v) (g := g) o0
    go_wp2
    refine bodyPost_ret (v := .tuple #[.agg #[.int .i64 0, .int .i64 0, .slice none 0 0, .slice none 0 0], .int .i64 1]) (by simp [results, Try.results18, go_sem, c1, y1]) rfl ?_
    rw [HM.out.1, HM.out.2]
    exact retMosaic_zero (by (repeat (first | (with_reducible assumption) | (with_reducible exact Below.refl _ _) | (with_reducible refine Below.drew ?_) | (with_reducible refine Below.drewN ?_ _) | (with_reducible refine Below.setCell ?_ ?_ _) | (with_reducible refine Below.alloc ?_ ?_ _) | assumption)); all_goals (first | omega | (simp; done) | (simp; omega)))
  have HO0 := Lib.hid o0
  have M0 := Lib.hid (MOk.of o0)
  by_cases hpix : inPix x y = true ∧ pixB v g = true
  case neg =>
    have HM := putS_range o0 hpix
    have HPX := Lib.hid hpix
    clear hpix
    rcases Bool.eq_false_or_eq_true (inPix x y) with hp | hp
    · rcases Bool.eq_false_or_eq_true (pixB v g) with hq | hq
      · exact absurd ⟨hp, hq⟩ HPX.out
      · go_wp2_with fail
        refine (l12Point_any x y _).mono ?_
        rintro e w3 ⟨rfl, b3⟩
        have hb3 : Below w.heap.size w w3 := hb1.trans (b3.mono hb1.size)
        have x0' : w.heap.size < w3.heap.size := Nat.lt_of_lt_of_le y0 b3.size
        have x1' : w.heap.size + 1 < w3.heap.size := Nat.lt_of_lt_of_le y1 b3.size
        have I0 := K0.below b3 K0.lt
        have I1 := K1.below b3 K1.lt
        clear c0 c1 f1 K0 K1 y0 y1 b3
        have c0 := fun o => I0.cell o
        have c1 := fun o => I1.cell o
        have f1 := fun o => I1.frozen o
        go_wp2_with (go_at_call 68; refine (l19Pixel_any _ _ _).mono ?_; rintro e w' ⟨rfl, rfl⟩)
        go_wp2
        refine bodyPost_ret (v := .tuple #[.agg #[.int .i64 0, .int .i64 0, .slice none 0 0, .slice none 0 0], .int .i64 2]) (by simp [results, Try.results18, go_sem, c1, x1']) rfl ?_
        rw [HM.out.1, HM.out.2]
        exact retMosaic_zero (by (repeat (first | (with_reducible assumption) | (with_reducible exact Below.refl _ _) | (with_reducible refine Below.drew ?_) | (with_reducible refine Below.drewN ?_ _) | (with_reducible refine Below.setCell ?_ ?_ _) | (with_reducible refine Below.alloc ?_ ?_ _) | assumption)); all_goals (first | omega | (simp; done) | (simp; omega)))
    · go_wp2_with fail
      refine (l12Point_any x y _).mono ?_
      rintro e w3 ⟨rfl, b3⟩
      have hb3 : Below w.heap.size w w3 := hb1.trans (b3.mono hb1.size)
      have x0' : w.heap.size < w3.heap.size := Nat.lt_of_lt_of_le y0 b3.size
      have x1' : w.heap.size + 1 < w3.heap.size := Nat.lt_of_lt_of_le y1 b3.size
      have I0 := K0.below b3 K0.lt
      have I1 := K1.below b3 K1.lt
      clear c0 c1 f1 K0 K1 y0 y1 b3
      have c0 := fun o => I0.cell o
      have c1 := fun o => I1.cell o
      have f1 := fun o => I1.frozen o
      go_wp2_with (go_at_call 68; refine (l19Pixel_any _ _ _).mono ?_; rintro e w' ⟨rfl, rfl⟩)
      go_wp2
      refine bodyPost_ret (v := .tuple #[.agg #[.int .i64 0, .int .i64 0, .slice none 0 0, .slice none 0 0], .int .i64 2]) (by simp [results, Try.results18, go_sem, c1, x1']) rfl ?_
      rw [HM.out.1, HM.out.2]
      exact retMosaic_zero (by (repeat (first | (with_reducible assumption) | (with_reducible exact Below.refl _ _) | (with_reducible refine Below.drew ?_) | (with_reducible refine Below.drewN ?_ _) | (with_reducible refine Below.setCell ?_ ?_ _) | (with_reducible refine Below.alloc ?_ ?_ _) | assumption)); all_goals (first | omega | (simp; done) | (simp; omega)))
  have HPX := Lib.hid hpix
  obtain ⟨hp, hq⟩ := hpix
  go_wp2_with fail
  refine (l12Point_any x y _).mono ?_
  rintro e w3 ⟨rfl, b3⟩
  have hb3 : Below w.heap.size w w3 := hb1.trans (b3.mono hb1.size)
  have x0' : w.heap.size < w3.heap.size := Nat.lt_of_lt_of_le y0 b3.size
  have x1' : w.heap.size + 1 < w3.heap.size := Nat.lt_of_lt_of_le y1 b3.size
  have I0 := K0.below b3 K0.lt
  have I1 := K1.below b3 K1.lt
  clear c0 c1 f1 K0 K1 y0 y1 b3
  have c0 := fun o => I0.cell o
  have c1 := fun o => I1.cell o
  have f1 := fun o => I1.frozen o
  go_wp2_with (go_at_call 68; refine (l19Pixel_any _ _ _).mono ?_; rintro e w' ⟨rfl, rfl⟩)
  refine (l19Index_any h l x y _ M0.out).mono ?_
  rintro e w4 ⟨rfl, b4⟩
  have hb4 : Below w.heap.size w w4 := hb3.trans (b4.mono hb3.size)
  have x0 : w.heap.size < w4.heap.size := Nat.lt_of_lt_of_le x0' b4.size
  have x1 : w.heap.size + 1 < w4.heap.size := Nat.lt_of_lt_of_le x1' b4.size
  have J0 := I0.below b4 I0.lt
  have J1 := I1.below b4 I1.lt
  clear c0 c1 f1 I0 I1 b4 hb3 x0' x1'
  have c0 := fun o => J0.cell o
  have c1 := fun o => J1.cell o
  have f1 := fun o => J1.frozen o
  rcases Bool.eq_false_or_eq_true (hasB l x y) with hh | hh
  case inr =>
    have HM := putS_none HO0.out HPX.out hh
    have hix : idxB l x y = -1 := by unfold idxB; rw [hh]; rfl
    go_wp2
    refine bodyPost_ret (v := .tuple #[.agg #[.int .i64 0, .int .i64 0, .slice none 0 0, .slice none 0 0], .int .i64 4]) (by simp [results, Try.results18, go_sem, c1, x1]) rfl ?_
    rw [HM.out.1, HM.out.2]
    exact retMosaic_zero (by (repeat (first | (with_reducible assumption) | (with_reducible exact Below.refl _ _) | (with_reducible refine Below.drew ?_) | (with_reducible refine Below.drewN ?_ _) | (with_reducible refine Below.setCell ?_ ?_ _) | (with_reducible refine Below.alloc ?_ ?_ _) | assumption)); all_goals (first | omega | (simp; done) | (simp; omega)))
  have HM := putS_ok HO0.out HPX.out hh
  have hbd := cell_bd M0.out hh
  have hz : ((y * l.wide + x).toNat : Int) = y * l.wide + x := Int.toNat_of_nonneg hbd.2.2.2.2.2.2.1
  have HZN := Lib.hid hz
  clear hz
  have hwr : IntKind.i64.wrap (y * l.wide) = y * l.wide := IntWalk.i64_in _ (by omega)
  have d0 := hbd.1; have d1 := hbd.2.1; have d2 := hbd.2.2.1; have d3 := hbd.2.2.2.1
  have HBD := Lib.hid hbd
  clear hbd
  have hix : idxB l x y = y * l.wide + x := by unfold idxB; rw [hh]; rfl
  have hnn : ¬ (y * l.wide + x < 0) := by have := HBD.out; omega
  go_wp2_with fail
  refine (l19Own_any h l _ ok (hr.below (by (repeat (first | (with_reducible assumption) | (with_reducible exact Below.refl _ _) | (with_reducible refine Below.drew ?_) | (with_reducible refine Below.drewN ?_ _) | (with_reducible refine Below.setCell ?_ ?_ _) | (with_reducible refine Below.alloc ?_ ?_ _) | assumption)); all_goals (first | omega | (simp; done) | (simp; omega))))).mono ?_
  rintro e w5 ⟨k, he, ow, b5⟩
  unfold MosaicV at he
  subst he
  have hb5 : Below w.heap.size w w5 := hb4.trans (b5.mono hb4.size)
  have y0 : w.heap.size < w5.heap.size := Nat.lt_of_lt_of_le x0 b5.size
  have y1 : w.heap.size + 1 < w5.heap.size := Nat.lt_of_lt_of_le x1 b5.size
  have L0 := J0.below b5 J0.lt
  have L1 := J1.below b5 J1.lt
  clear c0 c1 f1 J0 J1 b5 hp hq hh o0
  have c0 := fun o => L0.cell o
  have rk := ow.rd
  have wk := ow.wr
  have sk := ow.sp
  clear ow
  have hlen : Hid (k.grades.n = k.values.n ∧ k.values.n = l.values.length ∧ k.values.n ≤ 1600) := by
    have a := MosaicS_v rk; have b := MosaicS_g rk; have c := M0.out.eq; have d := M0.out.bd.1
    exact ⟨by omega, by omega, by omega⟩
  have hlo : Lo (MosaicR k) w5.heap.size := rk.lo
  have hhi : Hi (MosaicR k) w4.heap.size := wk.hi
  go_wp2_with fail
  have HP := specPut_z w4.heap.size k l (y * l.wide + x) (y * l.wide + x).toNat v g (w5.alloc (.cells #[.int .i64 l.wide, .int .i64 l.high, .slice k.values.A k.values.n k.values.c, .slice k.grades.A k.grades.n k.grades.c] 26)) HZN.out (by have := hlen.out; exact ⟨by omega, by omega⟩) hlen.out.1 (by have a := HBD.out; have b := HZN.out; have c := hlen.out; omega) (rk.below (by (repeat (first | (with_reducible assumption) | (with_reducible exact Below.refl _ _) | (with_reducible refine Below.drew ?_) | (with_reducible refine Below.drewN ?_ _) | (with_reducible refine Below.setCell ?_ ?_ _) | (with_reducible refine Below.alloc ?_ ?_ _) | assumption)); all_goals (first | omega | (simp; done) | (simp; omega)))) (wk.below rk (by (repeat (first | (with_reducible assumption) | (with_reducible exact Below.refl _ _) | (with_reducible refine Below.drew ?_) | (with_reducible refine Below.drewN ?_ _) | (with_reducible refine Below.setCell ?_ ?_ _) | (with_reducible refine Below.alloc ?_ ?_ _) | assumption)); all_goals (first | omega | (simp; done) | (simp; omega)))) sk
  have P0 := L0.alloc (.cells #[.int .i64 l.wide, .int .i64 l.high, .slice k.values.A k.values.n k.values.c, .slice k.grades.A k.grades.n k.grades.c] 26)
  have P1 := L1.alloc (.cells #[.int .i64 l.wide, .int .i64 l.high, .slice k.values.A k.values.n k.values.c, .slice k.grades.A k.grades.n k.grades.c] 26)
  have P2 := Blk.new w5 26 #[.int .i64 l.wide, .int .i64 l.high, .slice k.values.A k.values.n k.values.c, .slice k.grades.A k.grades.n k.grades.c]
  have hb6 : Below w.heap.size w (w5.alloc (.cells #[.int .i64 l.wide, .int .i64 l.high, .slice k.values.A k.values.n k.values.c, .slice k.grades.A k.grades.n k.grades.c] 26)) := (by (repeat (first | (with_reducible assumption) | (with_reducible exact Below.refl _ _) | (with_reducible refine Below.drew ?_) | (with_reducible refine Below.drewN ?_ _) | (with_reducible refine Below.setCell ?_ ?_ _) | (with_reducible refine Below.alloc ?_ ?_ _) | assumption)); all_goals (first | omega | (simp; done) | (simp; omega)))
  simp only [MosaicV] at HP
  with_reducible refine HP.mono ?_
  rintro e w6 ⟨rfl, rk6, wk6, t6⟩
  have hb7 : Below w.heap.size w w6 := bstepT hb6 t6 (Nat.le_refl _) (hhi.mono hb4.size)
  have Q1 := P1.touch t6 (hhi.ne x1)
  have Q2 := P2.touch t6 (hlo.ne (Nat.le_refl _))
  clear HP P0 P1 P2 L0 L1 c0
  have c1 := fun o => Q1.cell o
  have f1 := fun o => Q1.frozen o
  have c2 := fun o => Q2.cell o
  have z1 := Q1.lt
  have z2 := Q2.lt
  go_wp2
  refine bodyPost_ret (v := .tuple #[.agg #[.int .i64 l.wide, .int .i64 l.high, .slice k.values.A k.values.n k.values.c, .slice k.grades.A k.grades.n k.grades.c], .int .i64 0]) (by simp [results, Try.results18, go_sem, c1, z1]) rfl ?_
  rw [HM.out.1, HM.out.2]
  refine ⟨k, rfl, by have := hlen.out; exact ⟨by omega, by omega⟩, ?_, ?_, sk, (by (repeat (first | (with_reducible assumption) | (with_reducible exact Below.refl _ _) | (with_reducible refine Below.drew ?_) | (with_reducible refine Below.drewN ?_ _) | (with_reducible refine Below.setCell ?_ ?_ _) | (with_reducible refine Below.alloc ?_ ?_ _) | assumption)); all_goals (first | omega | (simp; done) | (simp; omega)))⟩
  · repeat (refine RdAll.cell_ ?_ (hhi.ne x1))
    exact rk6
  · repeat (refine WrAll.cell_ ?_)
    exact wk6.lower hb4.size

end Go.Proofs.Ythmcnoloeeabbaa
