/- The law FnExactTransferFrame, walked. No condition beyond what an argument of its type bears. -/
import Derived.Test.YtlgmdekhlcbhoaaOpenFrame
import Derived.Test.YtlgmdekhlcbhoaaFraY
import Derived.Deep.RegionWith
import Derived.Deep.DeepCutAuto
namespace Go.Proofs.Ytlgmdekhlcbhoaa
open Go.RowKit

set_option maxRecDepth 100000 in
set_option maxHeartbeats 8000000 in
theorem lawTransferFrame_any (h0 : FrameH) (l0 : FrameC) (h1 : Hd) (l1 : List Int) (w : World) (mx0 : h0.payload.n ≤ 9223372036854775807) (Ra00 : RdAll w (FrameS h0 l0)) (mx1 : h1.n ≤ 9223372036854775807) (Ra10 : RdAll w (IntsS h1 l1)) :
    Calls Try.prog 7 #[FrameV h0 l0, IntsV h1] w fun e w' => e = .returned (.bool true) ∧ Below w.heap.size w w' := by
  have hw0 := Below.refl w.heap.size w
  have loa0 : Lo (FrameR h0) w.heap.size := RdAll.lo Ra00
  have loa1 : Lo (IntsR h1) w.heap.size := RdAll.lo Ra10
  obtain ⟨A1, n1, c1⟩ := h1
  show Calls Try.prog 7 #[.agg #[.int .i64 l0.kind, .int .i64 l0.number, .slice h0.payload.A h0.payload.n h0.payload.c], .slice A1 n1 c1] w _
  go_enter Try.func7, Try.ntmps7
  by_cases hn1 : (1048576 : Int) < (n1 : Int)
  · go_wp2_with fail
    go_ret
    exact ⟨rfl, (by (repeat (first | (with_reducible assumption) | (with_reducible exact Below.refl _ _) | (with_reducible refine Below.drew ?_) | (with_reducible refine Below.drewN ?_ _) | (with_reducible refine Below.setCell ?_ ?_ _) | (with_reducible refine Below.alloc ?_ ?_ _) | assumption)); all_goals (first | omega | (simp; done) | (simp; omega)))⟩
  have oka1 : IntsOk ⟨A1, n1, c1⟩ := by unfold IntsOk; simp only; omega
  go_wp2_with fail
  refine (szFrame_any h0 l0 1048576 _ mx0 (by omega) (by omega) ).mono ?_
  rintro e w1 ⟨v0, rfl, hv0, b1⟩
  have hb1 : Below w.heap.size w w1 := (show Below w.heap.size w _ from (by (repeat (first | (with_reducible assumption) | (with_reducible exact Below.refl _ _) | (with_reducible refine Below.drew ?_) | (with_reducible refine Below.drewN ?_ _) | (with_reducible refine Below.setCell ?_ ?_ _) | (with_reducible refine Below.alloc ?_ ?_ _) | assumption)); all_goals (first | omega | (simp; done) | (simp; omega)))).trans (b1.mono (by first | omega | (simp; done) | (simp; omega)))
  have z1 : w.heap.size + 1 ≤ w1.heap.size := Nat.le_trans (by first | omega | (simp; done) | (simp; omega)) b1.size
  have Ka01 : Blk w1 (w.heap.size) 24 #[.int .i64 l0.kind, .int .i64 l0.number, .slice h0.payload.A h0.payload.n h0.payload.c] := Blk.below (by repeat (first | exact Blk.newN _ _ _ (by simp; done) | refine Blk.alloc ?_ _)) b1 (by first | omega | (simp; done) | (simp; omega))
  have Ra01 := Ra00.below hb1
  have Ra11 := Ra10.below hb1
  have hw1 : Below w.heap.size w w1 := hb1
  clear Ra00 Ra10 b1 hb1
  have ca01 := fun o => Ka01.cell o
  have qa01 := Ka01.lt
  rcases hv0 with hv0 | ⟨hv0, hu0, oka0⟩
  · go_wp2_with fail
    go_ret
    exact ⟨rfl, (by (repeat (first | (with_reducible assumption) | (with_reducible exact Below.refl _ _) | (with_reducible refine Below.drew ?_) | (with_reducible refine Below.drewN ?_ _) | (with_reducible refine Below.setCell ?_ ?_ _) | (with_reducible refine Below.alloc ?_ ?_ _) | assumption)); all_goals (first | omega | (simp; done) | (simp; omega)))⟩
  have nv0 : ¬ v0 < 0 := by omega
  go_wp2_with fail
  refine (toFrame_any h0 l0 _ oka0 (Ra01.below (by (repeat (first | (with_reducible assumption) | (with_reducible exact Below.refl _ _) | (with_reducible refine Below.drew ?_) | (with_reducible refine Below.drewN ?_ _) | (with_reducible refine Below.setCell ?_ ?_ _) | (with_reducible refine Below.alloc ?_ ?_ _) | assumption)); all_goals (first | omega | (simp; done) | (simp; omega))))).mono ?_
  rintro e w2 ⟨ks0, he2, oks0, Rs02, Ws02', ss0, b2⟩
  unfold FrameV at he2
  subst he2
  have Ws02 := Ws02'.lower (show w1.heap.size ≤ _ from (by first | omega | (simp; done) | (simp; omega)))
  clear Ws02'
  have hb2 : Below w1.heap.size w1 w2 := (show Below w1.heap.size w1 _ from (by (repeat (first | (with_reducible assumption) | (with_reducible exact Below.refl _ _) | (with_reducible refine Below.drew ?_) | (with_reducible refine Below.drewN ?_ _) | (with_reducible refine Below.setCell ?_ ?_ _) | (with_reducible refine Below.alloc ?_ ?_ _) | assumption)); all_goals (first | omega | (simp; done) | (simp; omega)))).trans (b2.mono (by first | omega | (simp; done) | (simp; omega)))
  have z2 : w1.heap.size ≤ w2.heap.size := Nat.le_trans (by first | omega | (simp; done) | (simp; omega)) b2.size
  have Ka02 := Ka01.below hb2 Ka01.lt
  have Ra02 := Ra01.below hb2
  have Ra12 := Ra11.below hb2
  have hw2 : Below w.heap.size w w2 := hw1.trans (hb2.mono hw1.size)
  clear ca01 qa01 Ka01 Ra01 Ra11 b2 hb2 hw1
  have ca02 := fun o => Ka02.cell o
  have qa02 := Ka02.lt
  have los0 : Lo (FrameR ks0) w2.heap.size := RdAll.lo Rs02
  have his0 : Hi (FrameR ks0) _ := WrAll.hi Ws02
  go_wp2_with fail
  refine (toInts_any ⟨A1, n1, c1⟩ l1 _ oka1 (Ra12.below (by (repeat (first | (with_reducible assumption) | (with_reducible exact Below.refl _ _) | (with_reducible refine Below.drew ?_) | (with_reducible refine Below.drewN ?_ _) | (with_reducible refine Below.setCell ?_ ?_ _) | (with_reducible refine Below.alloc ?_ ?_ _) | assumption)); all_goals (first | omega | (simp; done) | (simp; omega))))).mono ?_
  rintro e w3 ⟨ks1, he3, oks1, Rs13, Ws13', ss1, b3⟩
  unfold IntsV at he3
  subst he3
  have Ws13 := Ws13'.lower (show w2.heap.size ≤ _ from (by first | omega | (simp; done) | (simp; omega)))
  clear Ws13'
  have hb3 : Below w2.heap.size w2 w3 := (show Below w2.heap.size w2 _ from (by (repeat (first | (with_reducible assumption) | (with_reducible exact Below.refl _ _) | (with_reducible refine Below.drew ?_) | (with_reducible refine Below.drewN ?_ _) | (with_reducible refine Below.setCell ?_ ?_ _) | (with_reducible refine Below.alloc ?_ ?_ _) | assumption)); all_goals (first | omega | (simp; done) | (simp; omega)))).trans (b3.mono (by first | omega | (simp; done) | (simp; omega)))
  have z3 : w2.heap.size ≤ w3.heap.size := Nat.le_trans (by first | omega | (simp; done) | (simp; omega)) b3.size
  have Ka03 := Ka02.below hb3 Ka02.lt
  have Ra03 := Ra02.below hb3
  have Ra13 := Ra12.below hb3
  have Rs03 := Rs02.below hb3
  have Ws03 := Ws02.below Rs02 hb3
  have hw3 : Below w.heap.size w w3 := hw2.trans (hb3.mono hw2.size)
  clear Ws02 ca02 qa02 Ka02 Ra02 Ra12 Rs02 b3 hb3 hw2
  have ca03 := fun o => Ka03.cell o
  have qa03 := Ka03.lt
  have los1 : Lo (IntsR ks1) w3.heap.size := RdAll.lo Rs13
  have his1 : Hi (IntsR ks1) _ := WrAll.hi Ws13
  go_wp2_with fail
  refine (specTransferFrame'_any ks0 l0 ks1 l1 _ oks0 (Rs03.below (by (repeat (first | (with_reducible assumption) | (with_reducible exact Below.refl _ _) | (with_reducible refine Below.drew ?_) | (with_reducible refine Below.drewN ?_ _) | (with_reducible refine Below.setCell ?_ ?_ _) | (with_reducible refine Below.alloc ?_ ?_ _) | assumption)); all_goals (first | omega | (simp; done) | (simp; omega)))) oks1 (Rs13.below (by (repeat (first | (with_reducible assumption) | (with_reducible exact Below.refl _ _) | (with_reducible refine Below.drew ?_) | (with_reducible refine Below.drewN ?_ _) | (with_reducible refine Below.setCell ?_ ?_ _) | (with_reducible refine Below.alloc ?_ ?_ _) | assumption)); all_goals (first | omega | (simp; done) | (simp; omega))))).mono ?_
  rintro e w4 ⟨kw0, he4, okw0, Rw04, Ww04', sw0, b4⟩
  unfold FrameV at he4
  subst he4
  have Ww04 := Ww04'.lower (show w3.heap.size ≤ _ from (by first | omega | (simp; done) | (simp; omega)))
  clear Ww04'
  have hb4 : Below w3.heap.size w3 w4 := (show Below w3.heap.size w3 _ from (by (repeat (first | (with_reducible assumption) | (with_reducible exact Below.refl _ _) | (with_reducible refine Below.drew ?_) | (with_reducible refine Below.drewN ?_ _) | (with_reducible refine Below.setCell ?_ ?_ _) | (with_reducible refine Below.alloc ?_ ?_ _) | assumption)); all_goals (first | omega | (simp; done) | (simp; omega)))).trans (b4.mono (by first | omega | (simp; done) | (simp; omega)))
  have z4 : w3.heap.size ≤ w4.heap.size := Nat.le_trans (by first | omega | (simp; done) | (simp; omega)) b4.size
  have Ka04 := Ka03.below hb4 Ka03.lt
  have Ra04 := Ra03.below hb4
  have Ra14 := Ra13.below hb4
  have Rs04 := Rs03.below hb4
  have Ws04 := Ws03.below Rs03 hb4
  have Rs14 := Rs13.below hb4
  have Ws14 := Ws13.below Rs13 hb4
  have hw4 : Below w.heap.size w w4 := hw3.trans (hb4.mono hw3.size)
  clear Ws13 Ws03 ca03 qa03 Ka03 Ra03 Ra13 Rs03 Rs13 b4 hb4 hw3
  have ca04 := fun o => Ka04.cell o
  have qa04 := Ka04.lt
  have low0 : Lo (FrameR kw0) w4.heap.size := RdAll.lo Rw04
  have hiw0 : Hi (FrameR kw0) _ := WrAll.hi Ww04
  go_wp2_with fail
  refine (toFrame_any h0 l0 _ oka0 (Ra04.below (by (repeat (first | (with_reducible assumption) | (with_reducible exact Below.refl _ _) | (with_reducible refine Below.drew ?_) | (with_reducible refine Below.drewN ?_ _) | (with_reducible refine Below.setCell ?_ ?_ _) | (with_reducible refine Below.alloc ?_ ?_ _) | assumption)); all_goals (first | omega | (simp; done) | (simp; omega))))).mono ?_
  rintro e w5 ⟨kx0, he5, okx0, Rx05, Wx05', sx0, b5⟩
  unfold FrameV at he5
  subst he5
  have Wx05 := Wx05'.lower (show w4.heap.size + 1 ≤ _ from (by first | omega | (simp; done) | (simp; omega)))
  clear Wx05'
  have hb5 : Below w4.heap.size w4 w5 := (show Below w4.heap.size w4 _ from (by (repeat (first | (with_reducible assumption) | (with_reducible exact Below.refl _ _) | (with_reducible refine Below.drew ?_) | (with_reducible refine Below.drewN ?_ _) | (with_reducible refine Below.setCell ?_ ?_ _) | (with_reducible refine Below.alloc ?_ ?_ _) | assumption)); all_goals (first | omega | (simp; done) | (simp; omega)))).trans (b5.mono (by first | omega | (simp; done) | (simp; omega)))
  have z5 : w4.heap.size + 1 ≤ w5.heap.size := Nat.le_trans (by first | omega | (simp; done) | (simp; omega)) b5.size
  have Ka05 := Ka04.below hb5 Ka04.lt
  have Kw05 : Blk w5 (w4.heap.size) 28 #[.int .i64 (tfR l0 l1).kind, .int .i64 (tfR l0 l1).number, .slice kw0.payload.A kw0.payload.n kw0.payload.c] := Blk.below (by repeat (first | exact Blk.newN _ _ _ (by simp; done) | refine Blk.alloc ?_ _)) b5 (by first | omega | (simp; done) | (simp; omega))
  have Ra05 := Ra04.below hb5
  have Ra15 := Ra14.below hb5
  have Rw05 := Rw04.below hb5
  have Ww05 := Ww04.below Rw04 hb5
  have hw5 : Below w.heap.size w w5 := hw4.trans (hb5.mono hw4.size)
  clear Ww04 ca04 qa04 Ka04 Ra04 Ra14 Rw04 b5 hb5 hw4
  have ca05 := fun o => Ka05.cell o
  have qa05 := Ka05.lt
  have cw05 := fun o => Kw05.cell o
  have qw05 := Kw05.lt
  have lox0 : Lo (FrameR kx0) w5.heap.size := RdAll.lo Rx05
  have hix0 : Hi (FrameR kx0) _ := WrAll.hi Wx05
  go_wp2_with fail
  refine (toInts_any ⟨A1, n1, c1⟩ l1 _ oka1 (Ra15.below (by (repeat (first | (with_reducible assumption) | (with_reducible exact Below.refl _ _) | (with_reducible refine Below.drew ?_) | (with_reducible refine Below.drewN ?_ _) | (with_reducible refine Below.setCell ?_ ?_ _) | (with_reducible refine Below.alloc ?_ ?_ _) | assumption)); all_goals (first | omega | (simp; done) | (simp; omega))))).mono ?_
  rintro e w6 ⟨kx1, he6, okx1, Rx16, Wx16', sx1, b6⟩
  unfold IntsV at he6
  subst he6
  have Wx16 := Wx16'.lower (show w5.heap.size + 1 ≤ _ from (by first | omega | (simp; done) | (simp; omega)))
  clear Wx16'
  have hb6 : Below w5.heap.size w5 w6 := (show Below w5.heap.size w5 _ from (by (repeat (first | (with_reducible assumption) | (with_reducible exact Below.refl _ _) | (with_reducible refine Below.drew ?_) | (with_reducible refine Below.drewN ?_ _) | (with_reducible refine Below.setCell ?_ ?_ _) | (with_reducible refine Below.alloc ?_ ?_ _) | assumption)); all_goals (first | omega | (simp; done) | (simp; omega)))).trans (b6.mono (by first | omega | (simp; done) | (simp; omega)))
  have z6 : w5.heap.size + 1 ≤ w6.heap.size := Nat.le_trans (by first | omega | (simp; done) | (simp; omega)) b6.size
  have Ka06 := Ka05.below hb6 Ka05.lt
  have Kw06 := Kw05.below hb6 Kw05.lt
  have Kx06 : Blk w6 (w5.heap.size) 28 #[.int .i64 l0.kind, .int .i64 l0.number, .slice kx0.payload.A kx0.payload.n kx0.payload.c] := Blk.below (by repeat (first | exact Blk.newN _ _ _ (by simp; done) | refine Blk.alloc ?_ _)) b6 (by first | omega | (simp; done) | (simp; omega))
  have Ra06 := Ra05.below hb6
  have Ra16 := Ra15.below hb6
  have Rw06 := Rw05.below hb6
  have Ww06 := Ww05.below Rw05 hb6
  have Rx06 := Rx05.below hb6
  have Wx06 := Wx05.below Rx05 hb6
  have hw6 : Below w.heap.size w w6 := hw5.trans (hb6.mono hw5.size)
  clear Wx05 Ww05 ca05 qa05 Ka05 cw05 qw05 Kw05 Ra05 Ra15 Rw05 Rx05 b6 hb6 hw5
  have ca06 := fun o => Ka06.cell o
  have qa06 := Ka06.lt
  have cw06 := fun o => Kw06.cell o
  have qw06 := Kw06.lt
  have cx06 := fun o => Kx06.cell o
  have qx06 := Kx06.lt
  have lox1 : Lo (IntsR kx1) w6.heap.size := RdAll.lo Rx16
  have hix1 : Hi (IntsR kx1) _ := WrAll.hi Wx16
  go_wp2_with fail
  refine (implTransferFrame'_any kx0 l0 kx1 l1 _ okx0 (Rx06.below (by (repeat (first | (with_reducible assumption) | (with_reducible exact Below.refl _ _) | (with_reducible refine Below.drew ?_) | (with_reducible refine Below.drewN ?_ _) | (with_reducible refine Below.setCell ?_ ?_ _) | (with_reducible refine Below.alloc ?_ ?_ _) | assumption)); all_goals (first | omega | (simp; done) | (simp; omega)))) okx1 (Rx16.below (by (repeat (first | (with_reducible assumption) | (with_reducible exact Below.refl _ _) | (with_reducible refine Below.drew ?_) | (with_reducible refine Below.drewN ?_ _) | (with_reducible refine Below.setCell ?_ ?_ _) | (with_reducible refine Below.alloc ?_ ?_ _) | assumption)); all_goals (first | omega | (simp; done) | (simp; omega))))).mono ?_
  rintro e w7 ⟨kg0, he7, okg0, Rg07, Wg07', sg0, b7⟩
  unfold FrameV at he7
  subst he7
  have Wg07 := Wg07'.lower (show w6.heap.size ≤ _ from (by first | omega | (simp; done) | (simp; omega)))
  clear Wg07'
  have hb7 : Below w6.heap.size w6 w7 := (show Below w6.heap.size w6 _ from (by (repeat (first | (with_reducible assumption) | (with_reducible exact Below.refl _ _) | (with_reducible refine Below.drew ?_) | (with_reducible refine Below.drewN ?_ _) | (with_reducible refine Below.setCell ?_ ?_ _) | (with_reducible refine Below.alloc ?_ ?_ _) | assumption)); all_goals (first | omega | (simp; done) | (simp; omega)))).trans (b7.mono (by first | omega | (simp; done) | (simp; omega)))
  have z7 : w6.heap.size ≤ w7.heap.size := Nat.le_trans (by first | omega | (simp; done) | (simp; omega)) b7.size
  have Ka07 := Ka06.below hb7 Ka06.lt
  have Kw07 := Kw06.below hb7 Kw06.lt
  have Kx07 := Kx06.below hb7 Kx06.lt
  have Ra07 := Ra06.below hb7
  have Ra17 := Ra16.below hb7
  have Rw07 := Rw06.below hb7
  have Ww07 := Ww06.below Rw06 hb7
  have Rx07 := Rx06.below hb7
  have Wx07 := Wx06.below Rx06 hb7
  have Rx17 := Rx16.below hb7
  have Wx17 := Wx16.below Rx16 hb7
  have hw7 : Below w.heap.size w w7 := hw6.trans (hb7.mono hw6.size)
  clear Wx16 Wx06 Ww06 ca06 qa06 Ka06 cw06 qw06 Kw06 cx06 qx06 Kx06 Ra06 Ra16 Rw06 Rx06 Rx16 b7 hb7 hw6
  have ca07 := fun o => Ka07.cell o
  have qa07 := Ka07.lt
  have cw07 := fun o => Kw07.cell o
  have qw07 := Kw07.lt
  have cx07 := fun o => Kx07.cell o
  have qx07 := Kx07.lt
  have log0 : Lo (FrameR kg0) w7.heap.size := RdAll.lo Rg07
  have hig0 : Hi (FrameR kg0) _ := WrAll.hi Wg07
  go_wp2_with fail
  refine (eqFrame_any kg0 kw0 (tfR l0 l1) _ okg0 (Rg07.below (by (repeat (first | (with_reducible assumption) | (with_reducible exact Below.refl _ _) | (with_reducible refine Below.drew ?_) | (with_reducible refine Below.drewN ?_ _) | (with_reducible refine Below.setCell ?_ ?_ _) | (with_reducible refine Below.alloc ?_ ?_ _) | assumption)); all_goals (first | omega | (simp; done) | (simp; omega)))) (Rw07.below (by (repeat (first | (with_reducible assumption) | (with_reducible exact Below.refl _ _) | (with_reducible refine Below.drew ?_) | (with_reducible refine Below.drewN ?_ _) | (with_reducible refine Below.setCell ?_ ?_ _) | (with_reducible refine Below.alloc ?_ ?_ _) | assumption)); all_goals (first | omega | (simp; done) | (simp; omega))))).mono ?_
  rintro e w8 ⟨rfl, b8⟩
  have hb8 : Below w7.heap.size w7 w8 := (show Below w7.heap.size w7 _ from (by (repeat (first | (with_reducible assumption) | (with_reducible exact Below.refl _ _) | (with_reducible refine Below.drew ?_) | (with_reducible refine Below.drewN ?_ _) | (with_reducible refine Below.setCell ?_ ?_ _) | (with_reducible refine Below.alloc ?_ ?_ _) | assumption)); all_goals (first | omega | (simp; done) | (simp; omega)))).trans (b8.mono (by first | omega | (simp; done) | (simp; omega)))
  have z8 : w7.heap.size + 1 ≤ w8.heap.size := Nat.le_trans (by first | omega | (simp; done) | (simp; omega)) b8.size
  have Ka08 := Ka07.below hb8 Ka07.lt
  have Kw08 := Kw07.below hb8 Kw07.lt
  have Kx08 := Kx07.below hb8 Kx07.lt
  have Kg08 : Blk w8 (w7.heap.size) 28 #[.int .i64 (tfR l0 l1).kind, .int .i64 (tfR l0 l1).number, .slice kg0.payload.A kg0.payload.n kg0.payload.c] := Blk.below (by repeat (first | exact Blk.newN _ _ _ (by simp; done) | refine Blk.alloc ?_ _)) b8 (by first | omega | (simp; done) | (simp; omega))
  have Ra08 := Ra07.below hb8
  have Ra18 := Ra17.below hb8
  have Rw08 := Rw07.below hb8
  have Ww08 := Ww07.below Rw07 hb8
  have Rx08 := Rx07.below hb8
  have Wx08 := Wx07.below Rx07 hb8
  have Rx18 := Rx17.below hb8
  have Wx18 := Wx17.below Rx17 hb8
  have Rg08 := Rg07.below hb8
  have Wg08 := Wg07.below Rg07 hb8
  have hw8 : Below w.heap.size w w8 := hw7.trans (hb8.mono hw7.size)
  clear Wg07 Wx17 Wx07 Ww07 ca07 qa07 Ka07 cw07 qw07 Kw07 cx07 qx07 Kx07 Ra07 Ra17 Rw07 Rx07 Rx17 Rg07 b8 hb8 hw7
  have ca08 := fun o => Ka08.cell o
  have qa08 := Ka08.lt
  have cw08 := fun o => Kw08.cell o
  have qw08 := Kw08.lt
  have cx08 := fun o => Kx08.cell o
  have qx08 := Kx08.lt
  have cg08 := fun o => Kg08.cell o
  have qg08 := Kg08.lt
  go_upto_region 13 with fail
  go_cut [56] (fun c wx => c = .bool false ∧ Below w8.heap.size w8 wx)
  case first =>
    go_region_with (first | (go_at_call 17; refine (toFrame_any h0 l0 _ oka0 (Ra08.below (by (repeat (first | (with_reducible assumption) | (with_reducible exact Below.refl _ _) | (with_reducible refine Below.drew ?_) | (with_reducible refine Below.drewN ?_ _) | (with_reducible refine Below.setCell ?_ ?_ _) | (with_reducible refine Below.alloc ?_ ?_ _) | assumption)); all_goals (first | omega | (simp; done) | (simp; omega))))).mono ?_; rintro e wa ⟨ka, hea, oka, Ra, Wa, sa, ba⟩; unfold FrameV at hea; subst hea; have hba : Below w8.heap.size w8 wa := (show Below w8.heap.size w8 _ from (by (repeat (first | (with_reducible assumption) | (with_reducible exact Below.refl _ _) | (with_reducible refine Below.drew ?_) | (with_reducible refine Below.drewN ?_ _) | (with_reducible refine Below.setCell ?_ ?_ _) | (with_reducible refine Below.alloc ?_ ?_ _) | assumption)); all_goals (first | omega | (simp; done) | (simp; omega)))).trans (ba.mono (by first | omega | (simp; done) | (simp; omega))); clear ba; have hza := hba.size; have hcx := fun o => (Kx08.below hba Kx08.lt).cell o) | (go_at_call 20; refine (eqFrame_any kx0 _ l0 _ okx0 (Rx08.below (by (repeat (first | (with_reducible assumption) | (with_reducible exact Below.refl _ _) | (with_reducible refine Below.drew ?_) | (with_reducible refine Below.drewN ?_ _) | (with_reducible refine Below.setCell ?_ ?_ _) | (with_reducible refine Below.alloc ?_ ?_ _) | assumption)); all_goals (first | omega | (simp; done) | (simp; omega)))) (by first | exact Ra | exact Ra.below (by (repeat (first | (with_reducible assumption) | (with_reducible exact Below.refl _ _) | (with_reducible refine Below.drew ?_) | (with_reducible refine Below.drewN ?_ _) | (with_reducible refine Below.setCell ?_ ?_ _) | (with_reducible refine Below.alloc ?_ ?_ _) | assumption)); all_goals (first | omega | (simp; done) | (simp; omega))))).mono ?_; rintro e wb ⟨rfl, bb⟩))
    all_goals (go_wp2_with fail; go_meet; exact ⟨rfl, (show Below w8.heap.size w8 _ from (by (repeat (first | (with_reducible assumption) | (with_reducible exact Below.refl _ _) | (with_reducible refine Below.drew ?_) | (with_reducible refine Below.drewN ?_ _) | (with_reducible refine Below.setCell ?_ ?_ _) | (with_reducible refine Below.alloc ?_ ?_ _) | assumption)); all_goals (first | omega | (simp; done) | (simp; omega)))).trans (bb.mono (by first | omega | (simp; done) | (simp; omega)))⟩)
  case rest =>
    obtain ⟨rfl, b9⟩ := hcut
    obtain ⟨w9, rfl⟩ : ∃ x : World, x = wc := ⟨_, rfl⟩
    have hb9 : Below w8.heap.size w8 w9 := (show Below w8.heap.size w8 _ from (by (repeat (first | (with_reducible assumption) | (with_reducible exact Below.refl _ _) | (with_reducible refine Below.drew ?_) | (with_reducible refine Below.drewN ?_ _) | (with_reducible refine Below.setCell ?_ ?_ _) | (with_reducible refine Below.alloc ?_ ?_ _) | assumption)); all_goals (first | omega | (simp; done) | (simp; omega)))).trans (b9.mono (by first | omega | (simp; done) | (simp; omega)))
    have z9 : w8.heap.size ≤ w9.heap.size := Nat.le_trans (by first | omega | (simp; done) | (simp; omega)) b9.size
    have Ka09 := Ka08.below hb9 Ka08.lt
    have Kw09 := Kw08.below hb9 Kw08.lt
    have Kx09 := Kx08.below hb9 Kx08.lt
    have Kg09 := Kg08.below hb9 Kg08.lt
    have Ra09 := Ra08.below hb9
    have Ra19 := Ra18.below hb9
    have Rw09 := Rw08.below hb9
    have Ww09 := Ww08.below Rw08 hb9
    have Rx09 := Rx08.below hb9
    have Wx09 := Wx08.below Rx08 hb9
    have Rx19 := Rx18.below hb9
    have Wx19 := Wx18.below Rx18 hb9
    have Rg09 := Rg08.below hb9
    have Wg09 := Wg08.below Rg08 hb9
    have hw9 : Below w.heap.size w w9 := hw8.trans (hb9.mono hw8.size)
    clear Wg08 Wx18 Wx08 Ww08 ca08 qa08 Ka08 cw08 qw08 Kw08 cx08 qx08 Kx08 cg08 qg08 Kg08 Ra08 Ra18 Rw08 Rx08 Rx18 Rg08 b9 hb9 hw8
    have ca09 := fun o => Ka09.cell o
    have qa09 := Ka09.lt
    have cw09 := fun o => Kw09.cell o
    have qw09 := Kw09.lt
    have cx09 := fun o => Kx09.cell o
    have qx09 := Kx09.lt
    have cg09 := fun o => Kg09.cell o
    have qg09 := Kg09.lt
    go_wp2_with fail
    refine (toInts_any ⟨A1, n1, c1⟩ l1 _ oka1 (Ra19.below (by (repeat (first | (with_reducible assumption) | (with_reducible exact Below.refl _ _) | (with_reducible refine Below.drew ?_) | (with_reducible refine Below.drewN ?_ _) | (with_reducible refine Below.setCell ?_ ?_ _) | (with_reducible refine Below.alloc ?_ ?_ _) | assumption)); all_goals (first | omega | (simp; done) | (simp; omega))))).mono ?_
    rintro e w10 ⟨ky1, he10, oky1, Ry110, Wy110', sy1, b10⟩
    unfold IntsV at he10
    subst he10
    have Wy110 := Wy110'.lower (show w9.heap.size ≤ _ from (by first | omega | (simp; done) | (simp; omega)))
    clear Wy110'
    have hb10 : Below w9.heap.size w9 w10 := (show Below w9.heap.size w9 _ from (by (repeat (first | (with_reducible assumption) | (with_reducible exact Below.refl _ _) | (with_reducible refine Below.drew ?_) | (with_reducible refine Below.drewN ?_ _) | (with_reducible refine Below.setCell ?_ ?_ _) | (with_reducible refine Below.alloc ?_ ?_ _) | assumption)); all_goals (first | omega | (simp; done) | (simp; omega)))).trans (b10.mono (by first | omega | (simp; done) | (simp; omega)))
    have z10 : w9.heap.size ≤ w10.heap.size := Nat.le_trans (by first | omega | (simp; done) | (simp; omega)) b10.size
    have Ka010 := Ka09.below hb10 Ka09.lt
    have Kw010 := Kw09.below hb10 Kw09.lt
    have Kx010 := Kx09.below hb10 Kx09.lt
    have Kg010 := Kg09.below hb10 Kg09.lt
    have Ra010 := Ra09.below hb10
    have Ra110 := Ra19.below hb10
    have Rw010 := Rw09.below hb10
    have Ww010 := Ww09.below Rw09 hb10
    have Rx010 := Rx09.below hb10
    have Wx010 := Wx09.below Rx09 hb10
    have Rx110 := Rx19.below hb10
    have Wx110 := Wx19.below Rx19 hb10
    have Rg010 := Rg09.below hb10
    have Wg010 := Wg09.below Rg09 hb10
    have hw10 : Below w.heap.size w w10 := hw9.trans (hb10.mono hw9.size)
    clear Wg09 Wx19 Wx09 Ww09 ca09 qa09 Ka09 cw09 qw09 Kw09 cx09 qx09 Kx09 cg09 qg09 Kg09 Ra09 Ra19 Rw09 Rx09 Rx19 Rg09 b10 hb10 hw9
    have ca010 := fun o => Ka010.cell o
    have qa010 := Ka010.lt
    have cw010 := fun o => Kw010.cell o
    have qw010 := Kw010.lt
    have cx010 := fun o => Kx010.cell o
    have qx010 := Kx010.lt
    have cg010 := fun o => Kg010.cell o
    have qg010 := Kg010.lt
    have loy1 : Lo (IntsR ky1) w10.heap.size := RdAll.lo Ry110
    have hiy1 : Hi (IntsR ky1) _ := WrAll.hi Wy110
    go_wp2_with fail
    refine (eqInts_any kx1 ky1 l1 _ okx1 (Rx110.below (by (repeat (first | (with_reducible assumption) | (with_reducible exact Below.refl _ _) | (with_reducible refine Below.drew ?_) | (with_reducible refine Below.drewN ?_ _) | (with_reducible refine Below.setCell ?_ ?_ _) | (with_reducible refine Below.alloc ?_ ?_ _) | assumption)); all_goals (first | omega | (simp; done) | (simp; omega)))) (Ry110.below (by (repeat (first | (with_reducible assumption) | (with_reducible exact Below.refl _ _) | (with_reducible refine Below.drew ?_) | (with_reducible refine Below.drewN ?_ _) | (with_reducible refine Below.setCell ?_ ?_ _) | (with_reducible refine Below.alloc ?_ ?_ _) | assumption)); all_goals (first | omega | (simp; done) | (simp; omega))))).mono ?_
    rintro e w11 ⟨rfl, b11⟩
    have hb11 : Below w10.heap.size w10 w11 := (show Below w10.heap.size w10 _ from (by (repeat (first | (with_reducible assumption) | (with_reducible exact Below.refl _ _) | (with_reducible refine Below.drew ?_) | (with_reducible refine Below.drewN ?_ _) | (with_reducible refine Below.setCell ?_ ?_ _) | (with_reducible refine Below.alloc ?_ ?_ _) | assumption)); all_goals (first | omega | (simp; done) | (simp; omega)))).trans (b11.mono (by first | omega | (simp; done) | (simp; omega)))
    have z11 : w10.heap.size ≤ w11.heap.size := Nat.le_trans (by first | omega | (simp; done) | (simp; omega)) b11.size
    have Ka011 := Ka010.below hb11 Ka010.lt
    have Kw011 := Kw010.below hb11 Kw010.lt
    have Kx011 := Kx010.below hb11 Kx010.lt
    have Kg011 := Kg010.below hb11 Kg010.lt
    have Ra011 := Ra010.below hb11
    have Ra111 := Ra110.below hb11
    have Rw011 := Rw010.below hb11
    have Ww011 := Ww010.below Rw010 hb11
    have Rx011 := Rx010.below hb11
    have Wx011 := Wx010.below Rx010 hb11
    have Rx111 := Rx110.below hb11
    have Wx111 := Wx110.below Rx110 hb11
    have Rg011 := Rg010.below hb11
    have Wg011 := Wg010.below Rg010 hb11
    have Ry111 := Ry110.below hb11
    have Wy111 := Wy110.below Ry110 hb11
    have hw11 : Below w.heap.size w w11 := hw10.trans (hb11.mono hw10.size)
    clear Wy110 Wg010 Wx110 Wx010 Ww010 ca010 qa010 Ka010 cw010 qw010 Kw010 cx010 qx010 Kx010 cg010 qg010 Kg010 Ra010 Ra110 Rw010 Rx010 Rx110 Rg010 Ry110 b11 hb11 hw10
    have ca011 := fun o => Ka011.cell o
    have qa011 := Ka011.lt
    have cw011 := fun o => Kw011.cell o
    have qw011 := Kw011.lt
    have cx011 := fun o => Kx011.cell o
    have qx011 := Kx011.lt
    have cg011 := fun o => Kg011.cell o
    have qg011 := Kg011.lt
    go_wp2_with fail
    refine (markFrame_any kx0 l0 1 _ _ okx0 (by omega) (by omega) Rx011 Wx011 sx0).mono ?_
    rintro e w12 ⟨rfl, T12, Mx012, Xx012⟩
    have z12 := T12.size
    have Ka012 := Ka011.touch T12 (hix0.ne (by omega))
    have Kw012 := Kw011.touch T12 (hix0.ne (by omega))
    have Kx012 := Kx011.touch T12 (lox0.ne (by omega))
    have Kg012 := Kg011.touch T12 (lox0.ne (by omega))
    have oa012 : Off (FrameR kx0) (FrameR h0) := (Off.up (loa0.mono (by omega)) hix0)
    have Ra012 := Ra011.touch T12 oa012
    have oa112 : Off (FrameR kx0) (IntsR ⟨A1, n1, c1⟩) := (Off.up (loa1.mono (by omega)) hix0)
    have Ra112 := Ra111.touch T12 oa112
    have ow012 : Off (FrameR kx0) (FrameR kw0) := (Off.up (low0.mono (by omega)) hix0)
    have Rw012 := Rw011.touch T12 ow012
    have Ww012 := Ww011.touch Rw011 T12 ow012
    have ox112 : Off (FrameR kx0) (IntsR kx1) := (Off.dn hix1 (lox0.mono (by omega)))
    have Rx112 := Rx111.touch T12 ox112
    have Wx112 := Wx111.touch Rx111 T12 ox112
    have og012 : Off (FrameR kx0) (FrameR kg0) := (Off.dn hig0 (lox0.mono (by omega)))
    have Rg012 := Rg011.touch T12 og012
    have Wg012 := Wg011.touch Rg011 T12 og012
    have hw12 : Below w.heap.size w w12 := bstepT hw11 T12 (Nat.le_refl _) (hix0.mono (by omega))
    clear Wg011 Wx111 Ww011 Wx011 Rx011 ca011 qa011 Ka011 cw011 qw011 Kw011 cx011 qx011 Kx011 cg011 qg011 Kg011 Ra011 Ra111 Rw011 Rx111 Rg011 T12 hw11
    have ca012 := fun o => Ka012.cell o
    have qa012 := Ka012.lt
    have cw012 := fun o => Kw012.cell o
    have qw012 := Kw012.lt
    have cx012 := fun o => Kx012.cell o
    have qx012 := Kx012.lt
    have cg012 := fun o => Kg012.cell o
    have qg012 := Kg012.lt
    have hq12 := FrameQ_bd okx0 1
    have nq12 : ¬ FrameQ kx0 1 < 0 := by omega
    go_wp2_with fail
    refine (markInts_any kx1 l1 (FrameQ kx0 1) _ _ okx1 (by omega) (by omega) Rx112 Wx112 sx1).mono ?_
    rintro e w13 ⟨rfl, T13, Mx113, Xx113⟩
    have z13 := T13.size
    have Ka013 := Ka012.touch T13 (hix1.ne (by omega))
    have Kw013 := Kw012.touch T13 (hix1.ne (by omega))
    have Kx013 := Kx012.touch T13 (hix1.ne (by omega))
    have Kg013 := Kg012.touch T13 (lox1.ne (by omega))
    have oa013 : Off (IntsR kx1) (FrameR h0) := (Off.up (loa0.mono (by omega)) hix1)
    have Ra013 := Ra012.touch T13 oa013
    have oa113 : Off (IntsR kx1) (IntsR ⟨A1, n1, c1⟩) := (Off.up (loa1.mono (by omega)) hix1)
    have Ra113 := Ra112.touch T13 oa113
    have ow013 : Off (IntsR kx1) (FrameR kw0) := (Off.up (low0.mono (by omega)) hix1)
    have Rw013 := Rw012.touch T13 ow013
    have Ww013 := Ww012.touch Rw012 T13 ow013
    have og013 : Off (IntsR kx1) (FrameR kg0) := (Off.dn hig0 (lox1.mono (by omega)))
    have Rg013 := Rg012.touch T13 og013
    have Wg013 := Wg012.touch Rg012 T13 og013
    have hw13 : Below w.heap.size w w13 := bstepT hw12 T13 (Nat.le_refl _) (hix1.mono (by omega))
    clear Wg012 Ww012 Wx112 Rx112 ca012 qa012 Ka012 cw012 qw012 Kw012 cx012 qx012 Kx012 cg012 qg012 Kg012 Ra012 Ra112 Rw012 Rg012 T13 hw12
    have ca013 := fun o => Ka013.cell o
    have qa013 := Ka013.lt
    have cw013 := fun o => Kw013.cell o
    have qw013 := Kw013.lt
    have cx013 := fun o => Kx013.cell o
    have qx013 := Kx013.lt
    have cg013 := fun o => Kg013.cell o
    have qg013 := Kg013.lt
    have hq13 := IntsQ_bd okx1 (FrameQ kx0 1)
    have nq13 : ¬ IntsQ kx1 (FrameQ kx0 1) < 0 := by omega
    go_wp2_with fail
    refine (eqFrame_any kg0 kw0 (tfR l0 l1) _ okg0 (Rg013.below (by (repeat (first | (with_reducible assumption) | (with_reducible exact Below.refl _ _) | (with_reducible refine Below.drew ?_) | (with_reducible refine Below.drewN ?_ _) | (with_reducible refine Below.setCell ?_ ?_ _) | (with_reducible refine Below.alloc ?_ ?_ _) | assumption)); all_goals (first | omega | (simp; done) | (simp; omega)))) (Rw013.below (by (repeat (first | (with_reducible assumption) | (with_reducible exact Below.refl _ _) | (with_reducible refine Below.drew ?_) | (with_reducible refine Below.drewN ?_ _) | (with_reducible refine Below.setCell ?_ ?_ _) | (with_reducible refine Below.alloc ?_ ?_ _) | assumption)); all_goals (first | omega | (simp; done) | (simp; omega))))).mono ?_
    rintro e w14 ⟨rfl, b14⟩
    have hb14 : Below w13.heap.size w13 w14 := (show Below w13.heap.size w13 _ from (by (repeat (first | (with_reducible assumption) | (with_reducible exact Below.refl _ _) | (with_reducible refine Below.drew ?_) | (with_reducible refine Below.drewN ?_ _) | (with_reducible refine Below.setCell ?_ ?_ _) | (with_reducible refine Below.alloc ?_ ?_ _) | assumption)); all_goals (first | omega | (simp; done) | (simp; omega)))).trans (b14.mono (by first | omega | (simp; done) | (simp; omega)))
    have z14 : w13.heap.size ≤ w14.heap.size := Nat.le_trans (by first | omega | (simp; done) | (simp; omega)) b14.size
    have Ka014 := Ka013.below hb14 Ka013.lt
    have Kw014 := Kw013.below hb14 Kw013.lt
    have Kx014 := Kx013.below hb14 Kx013.lt
    have Kg014 := Kg013.below hb14 Kg013.lt
    have Ra014 := Ra013.below hb14
    have Ra114 := Ra113.below hb14
    have Rw014 := Rw013.below hb14
    have Ww014 := Ww013.below Rw013 hb14
    have Rg014 := Rg013.below hb14
    have Wg014 := Wg013.below Rg013 hb14
    have hw14 : Below w.heap.size w w14 := hw13.trans (hb14.mono hw13.size)
    clear Wg013 Ww013 ca013 qa013 Ka013 cw013 qw013 Kw013 cx013 qx013 Kx013 cg013 qg013 Kg013 Ra013 Ra113 Rw013 Rg013 b14 hb14 hw13
    have ca014 := fun o => Ka014.cell o
    have qa014 := Ka014.lt
    have cw014 := fun o => Kw014.cell o
    have qw014 := Kw014.lt
    have cx014 := fun o => Kx014.cell o
    have qx014 := Kx014.lt
    have cg014 := fun o => Kg014.cell o
    have qg014 := Kg014.lt
    go_wp2_with fail
    refine (markFrame_any kg0 (tfR l0 l1) 1 _ _ okg0 (by omega) (by omega) Rg014 Wg014 sg0).mono ?_
    rintro e w15 ⟨rfl, T15, Mg015, Xg015⟩
    have z15 := T15.size
    have Ka015 := Ka014.touch T15 (hig0.ne (by omega))
    have Kw015 := Kw014.touch T15 (hig0.ne (by omega))
    have Kx015 := Kx014.touch T15 (hig0.ne (by omega))
    have Kg015 := Kg014.touch T15 (log0.ne (by omega))
    have oa015 : Off (FrameR kg0) (FrameR h0) := (Off.up (loa0.mono (by omega)) hig0)
    have Ra015 := Ra014.touch T15 oa015
    have oa115 : Off (FrameR kg0) (IntsR ⟨A1, n1, c1⟩) := (Off.up (loa1.mono (by omega)) hig0)
    have Ra115 := Ra114.touch T15 oa115
    have ow015 : Off (FrameR kg0) (FrameR kw0) := (Off.up (low0.mono (by omega)) hig0)
    have Rw015 := Rw014.touch T15 ow015
    have Ww015 := Ww014.touch Rw014 T15 ow015
    have hw15 : Below w.heap.size w w15 := bstepT hw14 T15 (Nat.le_refl _) (hig0.mono (by omega))
    clear Ww014 Wg014 Rg014 ca014 qa014 Ka014 cw014 qw014 Kw014 cx014 qx014 Kx014 cg014 qg014 Kg014 Ra014 Ra114 Rw014 T15 hw14
    have ca015 := fun o => Ka015.cell o
    have qa015 := Ka015.lt
    have cw015 := fun o => Kw015.cell o
    have qw015 := Kw015.lt
    have cx015 := fun o => Kx015.cell o
    have qx015 := Kx015.lt
    have cg015 := fun o => Kg015.cell o
    have qg015 := Kg015.lt
    have hq15 := FrameQ_bd okg0 1
    have nq15 : ¬ FrameQ kg0 1 < 0 := by omega
    have RG15 := Mg015
    have loG := log0
    go_wp2_with fail
    refine (heldFrame_any kg0 (tfR l0 l1) 1 _ okg0 (by omega) (by omega) (RG15.below (by (repeat (first | (with_reducible assumption) | (with_reducible exact Below.refl _ _) | (with_reducible refine Below.drew ?_) | (with_reducible refine Below.drewN ?_ _) | (with_reducible refine Below.setCell ?_ ?_ _) | (with_reducible refine Below.alloc ?_ ?_ _) | assumption)); all_goals (first | omega | (simp; done) | (simp; omega))))).mono ?_
    rintro e w16 ⟨rfl, b16⟩
    have hb16 : Below w15.heap.size w15 w16 := (show Below w15.heap.size w15 _ from (by (repeat (first | (with_reducible assumption) | (with_reducible exact Below.refl _ _) | (with_reducible refine Below.drew ?_) | (with_reducible refine Below.drewN ?_ _) | (with_reducible refine Below.setCell ?_ ?_ _) | (with_reducible refine Below.alloc ?_ ?_ _) | assumption)); all_goals (first | omega | (simp; done) | (simp; omega)))).trans (b16.mono (by first | omega | (simp; done) | (simp; omega)))
    have z16 : w15.heap.size ≤ w16.heap.size := Nat.le_trans (by first | omega | (simp; done) | (simp; omega)) b16.size
    have Ka016 := Ka015.below hb16 Ka015.lt
    have Kw016 := Kw015.below hb16 Kw015.lt
    have Kx016 := Kx015.below hb16 Kx015.lt
    have Kg016 := Kg015.below hb16 Kg015.lt
    have Ra016 := Ra015.below hb16
    have Ra116 := Ra115.below hb16
    have Rw016 := Rw015.below hb16
    have Ww016 := Ww015.below Rw015 hb16
    have RG16 := RG15.below hb16
    have hw16 : Below w.heap.size w w16 := hw15.trans (hb16.mono hw15.size)
    clear Ww015 ca015 qa015 Ka015 cw015 qw015 Kw015 cx015 qx015 Kx015 cg015 qg015 Kg015 Ra015 Ra115 Rw015 RG15 b16 hb16 hw15
    have ca016 := fun o => Ka016.cell o
    have qa016 := Ka016.lt
    have cw016 := fun o => Kw016.cell o
    have qw016 := Kw016.lt
    have cx016 := fun o => Kx016.cell o
    have qx016 := Kx016.lt
    have cg016 := fun o => Kg016.cell o
    have qg016 := Kg016.lt
    go_wp2_with fail
    refine (toFrame_any h0 l0 _ oka0 (Ra016.below (by (repeat (first | (with_reducible assumption) | (with_reducible exact Below.refl _ _) | (with_reducible refine Below.drew ?_) | (with_reducible refine Below.drewN ?_ _) | (with_reducible refine Below.setCell ?_ ?_ _) | (with_reducible refine Below.alloc ?_ ?_ _) | assumption)); all_goals (first | omega | (simp; done) | (simp; omega))))).mono ?_
    rintro e w17 ⟨kt0, he17, okt0, Rt017, Wt017', st0, b17⟩
    unfold FrameV at he17
    subst he17
    have Wt017 := Wt017'.lower (show w16.heap.size ≤ _ from (by first | omega | (simp; done) | (simp; omega)))
    clear Wt017'
    have hb17 : Below w16.heap.size w16 w17 := (show Below w16.heap.size w16 _ from (by (repeat (first | (with_reducible assumption) | (with_reducible exact Below.refl _ _) | (with_reducible refine Below.drew ?_) | (with_reducible refine Below.drewN ?_ _) | (with_reducible refine Below.setCell ?_ ?_ _) | (with_reducible refine Below.alloc ?_ ?_ _) | assumption)); all_goals (first | omega | (simp; done) | (simp; omega)))).trans (b17.mono (by first | omega | (simp; done) | (simp; omega)))
    have z17 : w16.heap.size ≤ w17.heap.size := Nat.le_trans (by first | omega | (simp; done) | (simp; omega)) b17.size
    have Ka017 := Ka016.below hb17 Ka016.lt
    have Kw017 := Kw016.below hb17 Kw016.lt
    have Kx017 := Kx016.below hb17 Kx016.lt
    have Kg017 := Kg016.below hb17 Kg016.lt
    have Ra017 := Ra016.below hb17
    have Ra117 := Ra116.below hb17
    have Rw017 := Rw016.below hb17
    have Ww017 := Ww016.below Rw016 hb17
    have RG17 := RG16.below hb17
    have hw17 : Below w.heap.size w w17 := hw16.trans (hb17.mono hw16.size)
    clear Ww016 ca016 qa016 Ka016 cw016 qw016 Kw016 cx016 qx016 Kx016 cg016 qg016 Kg016 Ra016 Ra116 Rw016 RG16 b17 hb17 hw16
    have ca017 := fun o => Ka017.cell o
    have qa017 := Ka017.lt
    have cw017 := fun o => Kw017.cell o
    have qw017 := Kw017.lt
    have cx017 := fun o => Kx017.cell o
    have qx017 := Kx017.lt
    have cg017 := fun o => Kg017.cell o
    have qg017 := Kg017.lt
    have lot0 : Lo (FrameR kt0) w17.heap.size := RdAll.lo Rt017
    have hit0 : Hi (FrameR kt0) _ := WrAll.hi Wt017
    go_wp2_with fail
    refine (toInts_any ⟨A1, n1, c1⟩ l1 _ oka1 (Ra117.below (by (repeat (first | (with_reducible assumption) | (with_reducible exact Below.refl _ _) | (with_reducible refine Below.drew ?_) | (with_reducible refine Below.drewN ?_ _) | (with_reducible refine Below.setCell ?_ ?_ _) | (with_reducible refine Below.alloc ?_ ?_ _) | assumption)); all_goals (first | omega | (simp; done) | (simp; omega))))).mono ?_
    rintro e w18 ⟨kt1, he18, okt1, Rt118, Wt118', st1, b18⟩
    unfold IntsV at he18
    subst he18
    have Wt118 := Wt118'.lower (show w17.heap.size ≤ _ from (by first | omega | (simp; done) | (simp; omega)))
    clear Wt118'
    have hb18 : Below w17.heap.size w17 w18 := (show Below w17.heap.size w17 _ from (by (repeat (first | (with_reducible assumption) | (with_reducible exact Below.refl _ _) | (with_reducible refine Below.drew ?_) | (with_reducible refine Below.drewN ?_ _) | (with_reducible refine Below.setCell ?_ ?_ _) | (with_reducible refine Below.alloc ?_ ?_ _) | assumption)); all_goals (first | omega | (simp; done) | (simp; omega)))).trans (b18.mono (by first | omega | (simp; done) | (simp; omega)))
    have z18 : w17.heap.size ≤ w18.heap.size := Nat.le_trans (by first | omega | (simp; done) | (simp; omega)) b18.size
    have Ka018 := Ka017.below hb18 Ka017.lt
    have Kw018 := Kw017.below hb18 Kw017.lt
    have Kx018 := Kx017.below hb18 Kx017.lt
    have Kg018 := Kg017.below hb18 Kg017.lt
    have Ra018 := Ra017.below hb18
    have Ra118 := Ra117.below hb18
    have Rw018 := Rw017.below hb18
    have Ww018 := Ww017.below Rw017 hb18
    have RG18 := RG17.below hb18
    have Rt018 := Rt017.below hb18
    have Wt018 := Wt017.below Rt017 hb18
    have hw18 : Below w.heap.size w w18 := hw17.trans (hb18.mono hw17.size)
    clear Wt017 Ww017 ca017 qa017 Ka017 cw017 qw017 Kw017 cx017 qx017 Kx017 cg017 qg017 Kg017 Ra017 Ra117 Rw017 RG17 Rt017 b18 hb18 hw17
    have ca018 := fun o => Ka018.cell o
    have qa018 := Ka018.lt
    have cw018 := fun o => Kw018.cell o
    have qw018 := Kw018.lt
    have cx018 := fun o => Kx018.cell o
    have qx018 := Kx018.lt
    have cg018 := fun o => Kg018.cell o
    have qg018 := Kg018.lt
    have lot1 : Lo (IntsR kt1) w18.heap.size := RdAll.lo Rt118
    have hit1 : Hi (IntsR kt1) _ := WrAll.hi Wt118
    go_wp2_with fail
    refine (implTransferFrame'_any kt0 l0 kt1 l1 _ okt0 (Rt018.below (by (repeat (first | (with_reducible assumption) | (with_reducible exact Below.refl _ _) | (with_reducible refine Below.drew ?_) | (with_reducible refine Below.drewN ?_ _) | (with_reducible refine Below.setCell ?_ ?_ _) | (with_reducible refine Below.alloc ?_ ?_ _) | assumption)); all_goals (first | omega | (simp; done) | (simp; omega)))) okt1 (Rt118.below (by (repeat (first | (with_reducible assumption) | (with_reducible exact Below.refl _ _) | (with_reducible refine Below.drew ?_) | (with_reducible refine Below.drewN ?_ _) | (with_reducible refine Below.setCell ?_ ?_ _) | (with_reducible refine Below.alloc ?_ ?_ _) | assumption)); all_goals (first | omega | (simp; done) | (simp; omega))))).mono ?_
    rintro e w19 ⟨kh0, he19, okh0, Rh019, Wh019', sh0, b19⟩
    unfold FrameV at he19
    subst he19
    have Wh019 := Wh019'.lower (show w18.heap.size ≤ _ from (by first | omega | (simp; done) | (simp; omega)))
    clear Wh019'
    have hb19 : Below w18.heap.size w18 w19 := (show Below w18.heap.size w18 _ from (by (repeat (first | (with_reducible assumption) | (with_reducible exact Below.refl _ _) | (with_reducible refine Below.drew ?_) | (with_reducible refine Below.drewN ?_ _) | (with_reducible refine Below.setCell ?_ ?_ _) | (with_reducible refine Below.alloc ?_ ?_ _) | assumption)); all_goals (first | omega | (simp; done) | (simp; omega)))).trans (b19.mono (by first | omega | (simp; done) | (simp; omega)))
    have z19 : w18.heap.size ≤ w19.heap.size := Nat.le_trans (by first | omega | (simp; done) | (simp; omega)) b19.size
    have Ka019 := Ka018.below hb19 Ka018.lt
    have Kw019 := Kw018.below hb19 Kw018.lt
    have Kx019 := Kx018.below hb19 Kx018.lt
    have Kg019 := Kg018.below hb19 Kg018.lt
    have Ra019 := Ra018.below hb19
    have Ra119 := Ra118.below hb19
    have Rw019 := Rw018.below hb19
    have Ww019 := Ww018.below Rw018 hb19
    have RG19 := RG18.below hb19
    have Rt019 := Rt018.below hb19
    have Wt019 := Wt018.below Rt018 hb19
    have Rt119 := Rt118.below hb19
    have Wt119 := Wt118.below Rt118 hb19
    have hw19 : Below w.heap.size w w19 := hw18.trans (hb19.mono hw18.size)
    clear Wt118 Wt018 Ww018 ca018 qa018 Ka018 cw018 qw018 Kw018 cx018 qx018 Kx018 cg018 qg018 Kg018 Ra018 Ra118 Rw018 RG18 Rt018 Rt118 b19 hb19 hw18
    have ca019 := fun o => Ka019.cell o
    have qa019 := Ka019.lt
    have cw019 := fun o => Kw019.cell o
    have qw019 := Kw019.lt
    have cx019 := fun o => Kx019.cell o
    have qx019 := Kx019.lt
    have cg019 := fun o => Kg019.cell o
    have qg019 := Kg019.lt
    have loh0 : Lo (FrameR kh0) w19.heap.size := RdAll.lo Rh019
    have hih0 : Hi (FrameR kh0) _ := WrAll.hi Wh019
    go_wp2_with fail
    refine (eqFrame_any kh0 kw0 (tfR l0 l1) _ okh0 (Rh019.below (by (repeat (first | (with_reducible assumption) | (with_reducible exact Below.refl _ _) | (with_reducible refine Below.drew ?_) | (with_reducible refine Below.drewN ?_ _) | (with_reducible refine Below.setCell ?_ ?_ _) | (with_reducible refine Below.alloc ?_ ?_ _) | assumption)); all_goals (first | omega | (simp; done) | (simp; omega)))) (Rw019.below (by (repeat (first | (with_reducible assumption) | (with_reducible exact Below.refl _ _) | (with_reducible refine Below.drew ?_) | (with_reducible refine Below.drewN ?_ _) | (with_reducible refine Below.setCell ?_ ?_ _) | (with_reducible refine Below.alloc ?_ ?_ _) | assumption)); all_goals (first | omega | (simp; done) | (simp; omega))))).mono ?_
    rintro e w20 ⟨rfl, b20⟩
    have hb20 : Below w19.heap.size w19 w20 := (show Below w19.heap.size w19 _ from (by (repeat (first | (with_reducible assumption) | (with_reducible exact Below.refl _ _) | (with_reducible refine Below.drew ?_) | (with_reducible refine Below.drewN ?_ _) | (with_reducible refine Below.setCell ?_ ?_ _) | (with_reducible refine Below.alloc ?_ ?_ _) | assumption)); all_goals (first | omega | (simp; done) | (simp; omega)))).trans (b20.mono (by first | omega | (simp; done) | (simp; omega)))
    have z20 : w19.heap.size + 1 ≤ w20.heap.size := Nat.le_trans (by first | omega | (simp; done) | (simp; omega)) b20.size
    have Ka020 := Ka019.below hb20 Ka019.lt
    have Kw020 := Kw019.below hb20 Kw019.lt
    have Kx020 := Kx019.below hb20 Kx019.lt
    have Kg020 := Kg019.below hb20 Kg019.lt
    have Kh020 : Blk w20 (w19.heap.size) 28 #[.int .i64 (tfR l0 l1).kind, .int .i64 (tfR l0 l1).number, .slice kh0.payload.A kh0.payload.n kh0.payload.c] := Blk.below (by repeat (first | exact Blk.newN _ _ _ (by simp; done) | refine Blk.alloc ?_ _)) b20 (by first | omega | (simp; done) | (simp; omega))
    have Ra020 := Ra019.below hb20
    have Ra120 := Ra119.below hb20
    have Rw020 := Rw019.below hb20
    have Ww020 := Ww019.below Rw019 hb20
    have RG20 := RG19.below hb20
    have Rt020 := Rt019.below hb20
    have Wt020 := Wt019.below Rt019 hb20
    have Rt120 := Rt119.below hb20
    have Wt120 := Wt119.below Rt119 hb20
    have Rh020 := Rh019.below hb20
    have Wh020 := Wh019.below Rh019 hb20
    have hw20 : Below w.heap.size w w20 := hw19.trans (hb20.mono hw19.size)
    clear Wh019 Wt119 Wt019 Ww019 ca019 qa019 Ka019 cw019 qw019 Kw019 cx019 qx019 Kx019 cg019 qg019 Kg019 Ra019 Ra119 Rw019 RG19 Rt019 Rt119 Rh019 b20 hb20 hw19
    have ca020 := fun o => Ka020.cell o
    have qa020 := Ka020.lt
    have cw020 := fun o => Kw020.cell o
    have qw020 := Kw020.lt
    have cx020 := fun o => Kx020.cell o
    have qx020 := Kx020.lt
    have cg020 := fun o => Kg020.cell o
    have qg020 := Kg020.lt
    have ch020 := fun o => Kh020.cell o
    have qh020 := Kh020.lt
    go_wp2_with fail
    refine (heldFrame_any kg0 (tfR l0 l1) 1 _ okg0 (by omega) (by omega) (RG20.below (by (repeat (first | (with_reducible assumption) | (with_reducible exact Below.refl _ _) | (with_reducible refine Below.drew ?_) | (with_reducible refine Below.drewN ?_ _) | (with_reducible refine Below.setCell ?_ ?_ _) | (with_reducible refine Below.alloc ?_ ?_ _) | assumption)); all_goals (first | omega | (simp; done) | (simp; omega))))).mono ?_
    rintro e w21 ⟨rfl, b21⟩
    have hb21 : Below w20.heap.size w20 w21 := (show Below w20.heap.size w20 _ from (by (repeat (first | (with_reducible assumption) | (with_reducible exact Below.refl _ _) | (with_reducible refine Below.drew ?_) | (with_reducible refine Below.drewN ?_ _) | (with_reducible refine Below.setCell ?_ ?_ _) | (with_reducible refine Below.alloc ?_ ?_ _) | assumption)); all_goals (first | omega | (simp; done) | (simp; omega)))).trans (b21.mono (by first | omega | (simp; done) | (simp; omega)))
    have z21 : w20.heap.size ≤ w21.heap.size := Nat.le_trans (by first | omega | (simp; done) | (simp; omega)) b21.size
    have Ka021 := Ka020.below hb21 Ka020.lt
    have Kw021 := Kw020.below hb21 Kw020.lt
    have Kx021 := Kx020.below hb21 Kx020.lt
    have Kg021 := Kg020.below hb21 Kg020.lt
    have Kh021 := Kh020.below hb21 Kh020.lt
    have Ra021 := Ra020.below hb21
    have Ra121 := Ra120.below hb21
    have Rw021 := Rw020.below hb21
    have Ww021 := Ww020.below Rw020 hb21
    have RG21 := RG20.below hb21
    have Rt021 := Rt020.below hb21
    have Wt021 := Wt020.below Rt020 hb21
    have Rt121 := Rt120.below hb21
    have Wt121 := Wt120.below Rt120 hb21
    have Rh021 := Rh020.below hb21
    have Wh021 := Wh020.below Rh020 hb21
    have hw21 : Below w.heap.size w w21 := hw20.trans (hb21.mono hw20.size)
    clear Wh020 Wt120 Wt020 Ww020 ca020 qa020 Ka020 cw020 qw020 Kw020 cx020 qx020 Kx020 cg020 qg020 Kg020 ch020 qh020 Kh020 Ra020 Ra120 Rw020 RG20 Rt020 Rt120 Rh020 b21 hb21 hw20
    have ca021 := fun o => Ka021.cell o
    have qa021 := Ka021.lt
    have cw021 := fun o => Kw021.cell o
    have qw021 := Kw021.lt
    have cx021 := fun o => Kx021.cell o
    have qx021 := Kx021.lt
    have cg021 := fun o => Kg021.cell o
    have qg021 := Kg021.lt
    have ch021 := fun o => Kh021.cell o
    have qh021 := Kh021.lt
    go_wp2_with fail
    go_ret
    exact ⟨rfl, hw21⟩

theorem FnExactTransferFrame_walk (w : World) (v0 : Value) (g0 : FrameArg w v0) (A1 : Option Addr) (n1 c1 : Nat) (l1 : List Int) (g1 : ArgI w A1 n1 c1 l1) :
    Calls Try.prog 7 #[v0, .slice A1 n1 c1] w fun e w' => e = .returned (.bool true) ∧ Below w.heap.size w w' := by
  obtain ⟨h0, l0, rfl, mx0, r0⟩ := g0
  exact lawTransferFrame_any h0 l0 ⟨A1, n1, c1⟩ l1 w mx0 r0 g1.max (RdAll.cons (s := ⟨A1, n1, ints l1⟩) g1.rd (RdAll.nil _))
end Go.Proofs.Ytlgmdekhlcbhoaa
