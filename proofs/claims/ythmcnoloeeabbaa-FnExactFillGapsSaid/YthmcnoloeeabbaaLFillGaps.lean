/- The law FnExactFillGaps, walked. No condition beyond what an argument of its type bears. -/
import Derived.Test.YthmcnoloeeabbaaOpenDepthGrid
import Derived.Test.YthmcnoloeeabbaaFilD
import Derived.Deep.RegionWith
import Derived.Deep.DeepCutAuto
namespace Go.Proofs.Ythmcnoloeeabbaa
open Go.RowKit

set_option maxRecDepth 100000 in
set_option maxHeartbeats 8000000 in
theorem lawFillGaps_any (h0 : DepthGridH) (l0 : DepthGridC) (w : World) (mx0 : h0.counts.n ≤ 9223372036854775807 ∧ h0.depths.n ≤ 9223372036854775807) (Ra00 : RdAll w (DepthGridS h0 l0)) :
    Calls Try.prog 7 #[DepthGridV h0 l0] w fun e w' => e = .returned (.bool true) ∧ Below w.heap.size w w' := by
  have hw0 := Below.refl w.heap.size w
  have loa0 : Lo (DepthGridR h0) w.heap.size := RdAll.lo Ra00
  show Calls Try.prog 7 #[.agg #[.int .i64 l0.size, .int .i64 l0.wide, .int .i64 l0.high, .slice h0.counts.A h0.counts.n h0.counts.c, .slice h0.depths.A h0.depths.n h0.depths.c]] w _
  go_enter Try.func7, Try.ntmps7
  go_wp2_with fail
  refine (szDepthGrid_any h0 l0 1048576 _ mx0 (by omega) (by omega) ).mono ?_
  rintro e w1 ⟨v0, rfl, hv0, b1⟩
  have hb1 : Below w.heap.size w w1 := (show Below w.heap.size w _ from (by (repeat (first | (with_reducible assumption) | (with_reducible exact Below.refl _ _) | (with_reducible refine Below.drew ?_) | (with_reducible refine Below.drewN ?_ _) | (with_reducible refine Below.setCell ?_ ?_ _) | (with_reducible refine Below.alloc ?_ ?_ _) | assumption)); all_goals (first | omega | (simp; done) | (simp; omega)))).trans (b1.mono (by first | omega | (simp; done) | (simp; omega)))
  have z1 : w.heap.size + 1 ≤ w1.heap.size := Nat.le_trans (by first | omega | (simp; done) | (simp; omega)) b1.size
  have Ka01 : Blk w1 (w.heap.size) 46 #[.int .i64 l0.size, .int .i64 l0.wide, .int .i64 l0.high, .slice h0.counts.A h0.counts.n h0.counts.c, .slice h0.depths.A h0.depths.n h0.depths.c] := Blk.below (by repeat (first | exact Blk.newN _ _ _ (by simp; done) | refine Blk.alloc ?_ _)) b1 (by first | omega | (simp; done) | (simp; omega))
  have Ra01 := Ra00.below hb1
  have hw1 : Below w.heap.size w w1 := hb1
  clear Ra00 b1 hb1
  have ca01 := fun o => Ka01.cell o
  have qa01 := Ka01.lt
  rcases hv0 with hv0 | ⟨hv0, hu0, oka0⟩
  · go_wp2_with fail
    go_ret
    exact ⟨rfl, (by (repeat (first | (with_reducible assumption) | (with_reducible exact Below.refl _ _) | (with_reducible refine Below.drew ?_) | (with_reducible refine Below.drewN ?_ _) | (with_reducible refine Below.setCell ?_ ?_ _) | (with_reducible refine Below.alloc ?_ ?_ _) | assumption)); all_goals (first | omega | (simp; done) | (simp; omega)))⟩
  have nv0 : ¬ v0 < 0 := by omega
  go_wp2_with fail
  refine (toDepthGrid_any h0 l0 _ oka0 (Ra01.below (by (repeat (first | (with_reducible assumption) | (with_reducible exact Below.refl _ _) | (with_reducible refine Below.drew ?_) | (with_reducible refine Below.drewN ?_ _) | (with_reducible refine Below.setCell ?_ ?_ _) | (with_reducible refine Below.alloc ?_ ?_ _) | assumption)); all_goals (first | omega | (simp; done) | (simp; omega))))).mono ?_
  rintro e w2 ⟨ks0, he2, oks0, Rs02, Ws02', ss0, b2⟩
  unfold DepthGridV at he2
  subst he2
  have Ws02 := Ws02'.lower (show w1.heap.size ≤ _ from (by first | omega | (simp; done) | (simp; omega)))
  clear Ws02'
  have hb2 : Below w1.heap.size w1 w2 := (show Below w1.heap.size w1 _ from (by (repeat (first | (with_reducible assumption) | (with_reducible exact Below.refl _ _) | (with_reducible refine Below.drew ?_) | (with_reducible refine Below.drewN ?_ _) | (with_reducible refine Below.setCell ?_ ?_ _) | (with_reducible refine Below.alloc ?_ ?_ _) | assumption)); all_goals (first | omega | (simp; done) | (simp; omega)))).trans (b2.mono (by first | omega | (simp; done) | (simp; omega)))
  have z2 : w1.heap.size ≤ w2.heap.size := Nat.le_trans (by first | omega | (simp; done) | (simp; omega)) b2.size
  have Ka02 := Ka01.below hb2 Ka01.lt
  have Ra02 := Ra01.below hb2
  have hw2 : Below w.heap.size w w2 := hw1.trans (hb2.mono hw1.size)
  clear ca01 qa01 Ka01 Ra01 b2 hb2 hw1
  have ca02 := fun o => Ka02.cell o
  have qa02 := Ka02.lt
  have los0 : Lo (DepthGridR ks0) w2.heap.size := RdAll.lo Rs02
  have his0 : Hi (DepthGridR ks0) _ := WrAll.hi Ws02
  go_wp2_with fail
  refine (specFillGaps'_any ks0 l0 _ oks0 (Rs02.below (by (repeat (first | (with_reducible assumption) | (with_reducible exact Below.refl _ _) | (with_reducible refine Below.drew ?_) | (with_reducible refine Below.drewN ?_ _) | (with_reducible refine Below.setCell ?_ ?_ _) | (with_reducible refine Below.alloc ?_ ?_ _) | assumption)); all_goals (first | omega | (simp; done) | (simp; omega))))).mono ?_
  rintro e w3 ⟨kw0, he3, okw0, Rw03, Ww03', sw0, b3⟩
  unfold DepthGridV at he3
  subst he3
  have Ww03 := Ww03'.lower (show w2.heap.size ≤ _ from (by first | omega | (simp; done) | (simp; omega)))
  clear Ww03'
  have hb3 : Below w2.heap.size w2 w3 := (show Below w2.heap.size w2 _ from (by (repeat (first | (with_reducible assumption) | (with_reducible exact Below.refl _ _) | (with_reducible refine Below.drew ?_) | (with_reducible refine Below.drewN ?_ _) | (with_reducible refine Below.setCell ?_ ?_ _) | (with_reducible refine Below.alloc ?_ ?_ _) | assumption)); all_goals (first | omega | (simp; done) | (simp; omega)))).trans (b3.mono (by first | omega | (simp; done) | (simp; omega)))
  have z3 : w2.heap.size ≤ w3.heap.size := Nat.le_trans (by first | omega | (simp; done) | (simp; omega)) b3.size
  have Ka03 := Ka02.below hb3 Ka02.lt
  have Ra03 := Ra02.below hb3
  have Rs03 := Rs02.below hb3
  have Ws03 := Ws02.below Rs02 hb3
  have hw3 : Below w.heap.size w w3 := hw2.trans (hb3.mono hw2.size)
  clear Ws02 ca02 qa02 Ka02 Ra02 Rs02 b3 hb3 hw2
  have ca03 := fun o => Ka03.cell o
  have qa03 := Ka03.lt
  have low0 : Lo (DepthGridR kw0) w3.heap.size := RdAll.lo Rw03
  have hiw0 : Hi (DepthGridR kw0) _ := WrAll.hi Ww03
  go_wp2_with fail
  refine (toDepthGrid_any h0 l0 _ oka0 (Ra03.below (by (repeat (first | (with_reducible assumption) | (with_reducible exact Below.refl _ _) | (with_reducible refine Below.drew ?_) | (with_reducible refine Below.drewN ?_ _) | (with_reducible refine Below.setCell ?_ ?_ _) | (with_reducible refine Below.alloc ?_ ?_ _) | assumption)); all_goals (first | omega | (simp; done) | (simp; omega))))).mono ?_
  rintro e w4 ⟨kx0, he4, okx0, Rx04, Wx04', sx0, b4⟩
  unfold DepthGridV at he4
  subst he4
  have Wx04 := Wx04'.lower (show w3.heap.size + 1 ≤ _ from (by first | omega | (simp; done) | (simp; omega)))
  clear Wx04'
  have hb4 : Below w3.heap.size w3 w4 := (show Below w3.heap.size w3 _ from (by (repeat (first | (with_reducible assumption) | (with_reducible exact Below.refl _ _) | (with_reducible refine Below.drew ?_) | (with_reducible refine Below.drewN ?_ _) | (with_reducible refine Below.setCell ?_ ?_ _) | (with_reducible refine Below.alloc ?_ ?_ _) | assumption)); all_goals (first | omega | (simp; done) | (simp; omega)))).trans (b4.mono (by first | omega | (simp; done) | (simp; omega)))
  have z4 : w3.heap.size + 1 ≤ w4.heap.size := Nat.le_trans (by first | omega | (simp; done) | (simp; omega)) b4.size
  have Ka04 := Ka03.below hb4 Ka03.lt
  have Kw04 : Blk w4 (w3.heap.size) 50 #[.int .i64 (fgR l0).size, .int .i64 (fgR l0).wide, .int .i64 (fgR l0).high, .slice kw0.counts.A kw0.counts.n kw0.counts.c, .slice kw0.depths.A kw0.depths.n kw0.depths.c] := Blk.below (by repeat (first | exact Blk.newN _ _ _ (by simp; done) | refine Blk.alloc ?_ _)) b4 (by first | omega | (simp; done) | (simp; omega))
  have Ra04 := Ra03.below hb4
  have Rw04 := Rw03.below hb4
  have Ww04 := Ww03.below Rw03 hb4
  have hw4 : Below w.heap.size w w4 := hw3.trans (hb4.mono hw3.size)
  clear Ww03 ca03 qa03 Ka03 Ra03 Rw03 b4 hb4 hw3
  have ca04 := fun o => Ka04.cell o
  have qa04 := Ka04.lt
  have cw04 := fun o => Kw04.cell o
  have qw04 := Kw04.lt
  have lox0 : Lo (DepthGridR kx0) w4.heap.size := RdAll.lo Rx04
  have hix0 : Hi (DepthGridR kx0) _ := WrAll.hi Wx04
  go_wp2_with fail
  refine (implFillGaps'_any kx0 l0 _ okx0 (Rx04.below (by (repeat (first | (with_reducible assumption) | (with_reducible exact Below.refl _ _) | (with_reducible refine Below.drew ?_) | (with_reducible refine Below.drewN ?_ _) | (with_reducible refine Below.setCell ?_ ?_ _) | (with_reducible refine Below.alloc ?_ ?_ _) | assumption)); all_goals (first | omega | (simp; done) | (simp; omega))))).mono ?_
  rintro e w5 ⟨kg0, he5, okg0, Rg05, Wg05', sg0, b5⟩
  unfold DepthGridV at he5
  subst he5
  have Wg05 := Wg05'.lower (show w4.heap.size + 1 ≤ _ from (by first | omega | (simp; done) | (simp; omega)))
  clear Wg05'
  have hb5 : Below w4.heap.size w4 w5 := (show Below w4.heap.size w4 _ from (by (repeat (first | (with_reducible assumption) | (with_reducible exact Below.refl _ _) | (with_reducible refine Below.drew ?_) | (with_reducible refine Below.drewN ?_ _) | (with_reducible refine Below.setCell ?_ ?_ _) | (with_reducible refine Below.alloc ?_ ?_ _) | assumption)); all_goals (first | omega | (simp; done) | (simp; omega)))).trans (b5.mono (by first | omega | (simp; done) | (simp; omega)))
  have z5 : w4.heap.size + 1 ≤ w5.heap.size := Nat.le_trans (by first | omega | (simp; done) | (simp; omega)) b5.size
  have Ka05 := Ka04.below hb5 Ka04.lt
  have Kw05 := Kw04.below hb5 Kw04.lt
  have Kx05 : Blk w5 (w4.heap.size) 50 #[.int .i64 l0.size, .int .i64 l0.wide, .int .i64 l0.high, .slice kx0.counts.A kx0.counts.n kx0.counts.c, .slice kx0.depths.A kx0.depths.n kx0.depths.c] := Blk.below (by repeat (first | exact Blk.newN _ _ _ (by simp; done) | refine Blk.alloc ?_ _)) b5 (by first | omega | (simp; done) | (simp; omega))
  have Ra05 := Ra04.below hb5
  have Rw05 := Rw04.below hb5
  have Ww05 := Ww04.below Rw04 hb5
  have Rx05 := Rx04.below hb5
  have Wx05 := Wx04.below Rx04 hb5
  have hw5 : Below w.heap.size w w5 := hw4.trans (hb5.mono hw4.size)
  clear Wx04 Ww04 ca04 qa04 Ka04 cw04 qw04 Kw04 Ra04 Rw04 Rx04 b5 hb5 hw4
  have ca05 := fun o => Ka05.cell o
  have qa05 := Ka05.lt
  have cw05 := fun o => Kw05.cell o
  have qw05 := Kw05.lt
  have cx05 := fun o => Kx05.cell o
  have qx05 := Kx05.lt
  have log0 : Lo (DepthGridR kg0) w5.heap.size := RdAll.lo Rg05
  have hig0 : Hi (DepthGridR kg0) _ := WrAll.hi Wg05
  go_wp2_with fail
  refine (eqDepthGrid_any kg0 kw0 (fgR l0) _ okg0 (Rg05.below (by (repeat (first | (with_reducible assumption) | (with_reducible exact Below.refl _ _) | (with_reducible refine Below.drew ?_) | (with_reducible refine Below.drewN ?_ _) | (with_reducible refine Below.setCell ?_ ?_ _) | (with_reducible refine Below.alloc ?_ ?_ _) | assumption)); all_goals (first | omega | (simp; done) | (simp; omega)))) (Rw05.below (by (repeat (first | (with_reducible assumption) | (with_reducible exact Below.refl _ _) | (with_reducible refine Below.drew ?_) | (with_reducible refine Below.drewN ?_ _) | (with_reducible refine Below.setCell ?_ ?_ _) | (with_reducible refine Below.alloc ?_ ?_ _) | assumption)); all_goals (first | omega | (simp; done) | (simp; omega))))).mono ?_
  rintro e w6 ⟨rfl, b6⟩
  have hb6 : Below w5.heap.size w5 w6 := (show Below w5.heap.size w5 _ from (by (repeat (first | (with_reducible assumption) | (with_reducible exact Below.refl _ _) | (with_reducible refine Below.drew ?_) | (with_reducible refine Below.drewN ?_ _) | (with_reducible refine Below.setCell ?_ ?_ _) | (with_reducible refine Below.alloc ?_ ?_ _) | assumption)); all_goals (first | omega | (simp; done) | (simp; omega)))).trans (b6.mono (by first | omega | (simp; done) | (simp; omega)))
  have z6 : w5.heap.size + 1 ≤ w6.heap.size := Nat.le_trans (by first | omega | (simp; done) | (simp; omega)) b6.size
  have Ka06 := Ka05.below hb6 Ka05.lt
  have Kw06 := Kw05.below hb6 Kw05.lt
  have Kx06 := Kx05.below hb6 Kx05.lt
  have Kg06 : Blk w6 (w5.heap.size) 50 #[.int .i64 (fgR l0).size, .int .i64 (fgR l0).wide, .int .i64 (fgR l0).high, .slice kg0.counts.A kg0.counts.n kg0.counts.c, .slice kg0.depths.A kg0.depths.n kg0.depths.c] := Blk.below (by repeat (first | exact Blk.newN _ _ _ (by simp; done) | refine Blk.alloc ?_ _)) b6 (by first | omega | (simp; done) | (simp; omega))
  have Ra06 := Ra05.below hb6
  have Rw06 := Rw05.below hb6
  have Ww06 := Ww05.below Rw05 hb6
  have Rx06 := Rx05.below hb6
  have Wx06 := Wx05.below Rx05 hb6
  have Rg06 := Rg05.below hb6
  have Wg06 := Wg05.below Rg05 hb6
  have hw6 : Below w.heap.size w w6 := hw5.trans (hb6.mono hw5.size)
  clear Wg05 Wx05 Ww05 ca05 qa05 Ka05 cw05 qw05 Kw05 cx05 qx05 Kx05 Ra05 Rw05 Rx05 Rg05 b6 hb6 hw5
  have ca06 := fun o => Ka06.cell o
  have qa06 := Ka06.lt
  have cw06 := fun o => Kw06.cell o
  have qw06 := Kw06.lt
  have cx06 := fun o => Kx06.cell o
  have qx06 := Kx06.lt
  have cg06 := fun o => Kg06.cell o
  have qg06 := Kg06.lt
  go_upto_region 10 with fail
  go_cut [45] (fun c wx => c = .bool false ∧ Below w6.heap.size w6 wx)
  case first =>
    go_region_with (first | (go_at_call 28; refine (toDepthGrid_any h0 l0 _ oka0 (Ra06.below (by (repeat (first | (with_reducible assumption) | (with_reducible exact Below.refl _ _) | (with_reducible refine Below.drew ?_) | (with_reducible refine Below.drewN ?_ _) | (with_reducible refine Below.setCell ?_ ?_ _) | (with_reducible refine Below.alloc ?_ ?_ _) | assumption)); all_goals (first | omega | (simp; done) | (simp; omega))))).mono ?_; rintro e wa ⟨ka, hea, oka, Ra, Wa, sa, ba⟩; unfold DepthGridV at hea; subst hea; have hba : Below w6.heap.size w6 wa := (show Below w6.heap.size w6 _ from (by (repeat (first | (with_reducible assumption) | (with_reducible exact Below.refl _ _) | (with_reducible refine Below.drew ?_) | (with_reducible refine Below.drewN ?_ _) | (with_reducible refine Below.setCell ?_ ?_ _) | (with_reducible refine Below.alloc ?_ ?_ _) | assumption)); all_goals (first | omega | (simp; done) | (simp; omega)))).trans (ba.mono (by first | omega | (simp; done) | (simp; omega))); clear ba; have hza := hba.size; have hcx := fun o => (Kx06.below hba Kx06.lt).cell o) | (go_at_call 30; refine (eqDepthGrid_any kx0 _ l0 _ okx0 (Rx06.below (by (repeat (first | (with_reducible assumption) | (with_reducible exact Below.refl _ _) | (with_reducible refine Below.drew ?_) | (with_reducible refine Below.drewN ?_ _) | (with_reducible refine Below.setCell ?_ ?_ _) | (with_reducible refine Below.alloc ?_ ?_ _) | assumption)); all_goals (first | omega | (simp; done) | (simp; omega)))) (by first | exact Ra | exact Ra.below (by (repeat (first | (with_reducible assumption) | (with_reducible exact Below.refl _ _) | (with_reducible refine Below.drew ?_) | (with_reducible refine Below.drewN ?_ _) | (with_reducible refine Below.setCell ?_ ?_ _) | (with_reducible refine Below.alloc ?_ ?_ _) | assumption)); all_goals (first | omega | (simp; done) | (simp; omega))))).mono ?_; rintro e wb ⟨rfl, bb⟩))
    all_goals (go_wp2_with fail; go_meet; exact ⟨rfl, (show Below w6.heap.size w6 _ from (by (repeat (first | (with_reducible assumption) | (with_reducible exact Below.refl _ _) | (with_reducible refine Below.drew ?_) | (with_reducible refine Below.drewN ?_ _) | (with_reducible refine Below.setCell ?_ ?_ _) | (with_reducible refine Below.alloc ?_ ?_ _) | assumption)); all_goals (first | omega | (simp; done) | (simp; omega)))).trans (bb.mono (by first | omega | (simp; done) | (simp; omega)))⟩)
  case rest =>
    obtain ⟨rfl, b7⟩ := hcut
    obtain ⟨w7, rfl⟩ : ∃ x : World, x = wc := ⟨_, rfl⟩
    have hb7 : Below w6.heap.size w6 w7 := (show Below w6.heap.size w6 _ from (by (repeat (first | (with_reducible assumption) | (with_reducible exact Below.refl _ _) | (with_reducible refine Below.drew ?_) | (with_reducible refine Below.drewN ?_ _) | (with_reducible refine Below.setCell ?_ ?_ _) | (with_reducible refine Below.alloc ?_ ?_ _) | assumption)); all_goals (first | omega | (simp; done) | (simp; omega)))).trans (b7.mono (by first | omega | (simp; done) | (simp; omega)))
    have z7 : w6.heap.size ≤ w7.heap.size := Nat.le_trans (by first | omega | (simp; done) | (simp; omega)) b7.size
    have Ka07 := Ka06.below hb7 Ka06.lt
    have Kw07 := Kw06.below hb7 Kw06.lt
    have Kx07 := Kx06.below hb7 Kx06.lt
    have Kg07 := Kg06.below hb7 Kg06.lt
    have Ra07 := Ra06.below hb7
    have Rw07 := Rw06.below hb7
    have Ww07 := Ww06.below Rw06 hb7
    have Rx07 := Rx06.below hb7
    have Wx07 := Wx06.below Rx06 hb7
    have Rg07 := Rg06.below hb7
    have Wg07 := Wg06.below Rg06 hb7
    have hw7 : Below w.heap.size w w7 := hw6.trans (hb7.mono hw6.size)
    clear Wg06 Wx06 Ww06 ca06 qa06 Ka06 cw06 qw06 Kw06 cx06 qx06 Kx06 cg06 qg06 Kg06 Ra06 Rw06 Rx06 Rg06 b7 hb7 hw6
    have ca07 := fun o => Ka07.cell o
    have qa07 := Ka07.lt
    have cw07 := fun o => Kw07.cell o
    have qw07 := Kw07.lt
    have cx07 := fun o => Kx07.cell o
    have qx07 := Kx07.lt
    have cg07 := fun o => Kg07.cell o
    have qg07 := Kg07.lt
    go_wp2_with fail
    refine (markDepthGrid_any kx0 l0 1 _ _ okx0 (by omega) (by omega) Rx07 Wx07 sx0).mono ?_
    rintro e w8 ⟨rfl, T8, Mx08, Xx08⟩
    have z8 := T8.size
    have Ka08 := Ka07.touch T8 (hix0.ne (by omega))
    have Kw08 := Kw07.touch T8 (hix0.ne (by omega))
    have Kx08 := Kx07.touch T8 (lox0.ne (by omega))
    have Kg08 := Kg07.touch T8 (lox0.ne (by omega))
    have oa08 : Off (DepthGridR kx0) (DepthGridR h0) := (Off.up (loa0.mono (by omega)) hix0)
    have Ra08 := Ra07.touch T8 oa08
    have ow08 : Off (DepthGridR kx0) (DepthGridR kw0) := (Off.up (low0.mono (by omega)) hix0)
    have Rw08 := Rw07.touch T8 ow08
    have Ww08 := Ww07.touch Rw07 T8 ow08
    have og08 : Off (DepthGridR kx0) (DepthGridR kg0) := (Off.dn hig0 (lox0.mono (by omega)))
    have Rg08 := Rg07.touch T8 og08
    have Wg08 := Wg07.touch Rg07 T8 og08
    have hw8 : Below w.heap.size w w8 := bstepT hw7 T8 (Nat.le_refl _) (hix0.mono (by omega))
    clear Wg07 Ww07 Wx07 Rx07 ca07 qa07 Ka07 cw07 qw07 Kw07 cx07 qx07 Kx07 cg07 qg07 Kg07 Ra07 Rw07 Rg07 T8 hw7
    have ca08 := fun o => Ka08.cell o
    have qa08 := Ka08.lt
    have cw08 := fun o => Kw08.cell o
    have qw08 := Kw08.lt
    have cx08 := fun o => Kx08.cell o
    have qx08 := Kx08.lt
    have cg08 := fun o => Kg08.cell o
    have qg08 := Kg08.lt
    have hq8 := DepthGridQ_bd okx0 1
    have nq8 : ¬ DepthGridQ kx0 1 < 0 := by omega
    go_wp2_with fail
    refine (eqDepthGrid_any kg0 kw0 (fgR l0) _ okg0 (Rg08.below (by (repeat (first | (with_reducible assumption) | (with_reducible exact Below.refl _ _) | (with_reducible refine Below.drew ?_) | (with_reducible refine Below.drewN ?_ _) | (with_reducible refine Below.setCell ?_ ?_ _) | (with_reducible refine Below.alloc ?_ ?_ _) | assumption)); all_goals (first | omega | (simp; done) | (simp; omega)))) (Rw08.below (by (repeat (first | (with_reducible assumption) | (with_reducible exact Below.refl _ _) | (with_reducible refine Below.drew ?_) | (with_reducible refine Below.drewN ?_ _) | (with_reducible refine Below.setCell ?_ ?_ _) | (with_reducible refine Below.alloc ?_ ?_ _) | assumption)); all_goals (first | omega | (simp; done) | (simp; omega))))).mono ?_
    rintro e w9 ⟨rfl, b9⟩
    have hb9 : Below w8.heap.size w8 w9 := (show Below w8.heap.size w8 _ from (by (repeat (first | (with_reducible assumption) | (with_reducible exact Below.refl _ _) | (with_reducible refine Below.drew ?_) | (with_reducible refine Below.drewN ?_ _) | (with_reducible refine Below.setCell ?_ ?_ _) | (with_reducible refine Below.alloc ?_ ?_ _) | assumption)); all_goals (first | omega | (simp; done) | (simp; omega)))).trans (b9.mono (by first | omega | (simp; done) | (simp; omega)))
    have z9 : w8.heap.size ≤ w9.heap.size := Nat.le_trans (by first | omega | (simp; done) | (simp; omega)) b9.size
    have Ka09 := Ka08.below hb9 Ka08.lt
    have Kw09 := Kw08.below hb9 Kw08.lt
    have Kx09 := Kx08.below hb9 Kx08.lt
    have Kg09 := Kg08.below hb9 Kg08.lt
    have Ra09 := Ra08.below hb9
    have Rw09 := Rw08.below hb9
    have Ww09 := Ww08.below Rw08 hb9
    have Rg09 := Rg08.below hb9
    have Wg09 := Wg08.below Rg08 hb9
    have hw9 : Below w.heap.size w w9 := hw8.trans (hb9.mono hw8.size)
    clear Wg08 Ww08 ca08 qa08 Ka08 cw08 qw08 Kw08 cx08 qx08 Kx08 cg08 qg08 Kg08 Ra08 Rw08 Rg08 b9 hb9 hw8
    have ca09 := fun o => Ka09.cell o
    have qa09 := Ka09.lt
    have cw09 := fun o => Kw09.cell o
    have qw09 := Kw09.lt
    have cx09 := fun o => Kx09.cell o
    have qx09 := Kx09.lt
    have cg09 := fun o => Kg09.cell o
    have qg09 := Kg09.lt
    go_wp2_with fail
    refine (markDepthGrid_any kg0 (fgR l0) 1 _ _ okg0 (by omega) (by omega) Rg09 Wg09 sg0).mono ?_
    rintro e w10 ⟨rfl, T10, Mg010, Xg010⟩
    have z10 := T10.size
    have Ka010 := Ka09.touch T10 (hig0.ne (by omega))
    have Kw010 := Kw09.touch T10 (hig0.ne (by omega))
    have Kx010 := Kx09.touch T10 (hig0.ne (by omega))
    have Kg010 := Kg09.touch T10 (log0.ne (by omega))
    have oa010 : Off (DepthGridR kg0) (DepthGridR h0) := (Off.up (loa0.mono (by omega)) hig0)
    have Ra010 := Ra09.touch T10 oa010
    have ow010 : Off (DepthGridR kg0) (DepthGridR kw0) := (Off.up (low0.mono (by omega)) hig0)
    have Rw010 := Rw09.touch T10 ow010
    have Ww010 := Ww09.touch Rw09 T10 ow010
    have hw10 : Below w.heap.size w w10 := bstepT hw9 T10 (Nat.le_refl _) (hig0.mono (by omega))
    clear Ww09 Wg09 Rg09 ca09 qa09 Ka09 cw09 qw09 Kw09 cx09 qx09 Kx09 cg09 qg09 Kg09 Ra09 Rw09 T10 hw9
    have ca010 := fun o => Ka010.cell o
    have qa010 := Ka010.lt
    have cw010 := fun o => Kw010.cell o
    have qw010 := Kw010.lt
    have cx010 := fun o => Kx010.cell o
    have qx010 := Kx010.lt
    have cg010 := fun o => Kg010.cell o
    have qg010 := Kg010.lt
    have hq10 := DepthGridQ_bd okg0 1
    have nq10 : ¬ DepthGridQ kg0 1 < 0 := by omega
    have RG10 := Mg010
    have loG := log0
    go_wp2_with fail
    refine (heldDepthGrid_any kg0 (fgR l0) 1 _ okg0 (by omega) (by omega) (RG10.below (by (repeat (first | (with_reducible assumption) | (with_reducible exact Below.refl _ _) | (with_reducible refine Below.drew ?_) | (with_reducible refine Below.drewN ?_ _) | (with_reducible refine Below.setCell ?_ ?_ _) | (with_reducible refine Below.alloc ?_ ?_ _) | assumption)); all_goals (first | omega | (simp; done) | (simp; omega))))).mono ?_
    rintro e w11 ⟨rfl, b11⟩
    have hb11 : Below w10.heap.size w10 w11 := (show Below w10.heap.size w10 _ from (by (repeat (first | (with_reducible assumption) | (with_reducible exact Below.refl _ _) | (with_reducible refine Below.drew ?_) | (with_reducible refine Below.drewN ?_ _) | (with_reducible refine Below.setCell ?_ ?_ _) | (with_reducible refine Below.alloc ?_ ?_ _) | assumption)); all_goals (first | omega | (simp; done) | (simp; omega)))).trans (b11.mono (by first | omega | (simp; done) | (simp; omega)))
    have z11 : w10.heap.size ≤ w11.heap.size := Nat.le_trans (by first | omega | (simp; done) | (simp; omega)) b11.size
    have Ka011 := Ka010.below hb11 Ka010.lt
    have Kw011 := Kw010.below hb11 Kw010.lt
    have Kx011 := Kx010.below hb11 Kx010.lt
    have Kg011 := Kg010.below hb11 Kg010.lt
    have Ra011 := Ra010.below hb11
    have Rw011 := Rw010.below hb11
    have Ww011 := Ww010.below Rw010 hb11
    have RG11 := RG10.below hb11
    have hw11 : Below w.heap.size w w11 := hw10.trans (hb11.mono hw10.size)
    clear Ww010 ca010 qa010 Ka010 cw010 qw010 Kw010 cx010 qx010 Kx010 cg010 qg010 Kg010 Ra010 Rw010 RG10 b11 hb11 hw10
    have ca011 := fun o => Ka011.cell o
    have qa011 := Ka011.lt
    have cw011 := fun o => Kw011.cell o
    have qw011 := Kw011.lt
    have cx011 := fun o => Kx011.cell o
    have qx011 := Kx011.lt
    have cg011 := fun o => Kg011.cell o
    have qg011 := Kg011.lt
    go_wp2_with fail
    refine (toDepthGrid_any h0 l0 _ oka0 (Ra011.below (by (repeat (first | (with_reducible assumption) | (with_reducible exact Below.refl _ _) | (with_reducible refine Below.drew ?_) | (with_reducible refine Below.drewN ?_ _) | (with_reducible refine Below.setCell ?_ ?_ _) | (with_reducible refine Below.alloc ?_ ?_ _) | assumption)); all_goals (first | omega | (simp; done) | (simp; omega))))).mono ?_
    rintro e w12 ⟨kt0, he12, okt0, Rt012, Wt012', st0, b12⟩
    unfold DepthGridV at he12
    subst he12
    have Wt012 := Wt012'.lower (show w11.heap.size ≤ _ from (by first | omega | (simp; done) | (simp; omega)))
    clear Wt012'
    have hb12 : Below w11.heap.size w11 w12 := (show Below w11.heap.size w11 _ from (by (repeat (first | (with_reducible assumption) | (with_reducible exact Below.refl _ _) | (with_reducible refine Below.drew ?_) | (with_reducible refine Below.drewN ?_ _) | (with_reducible refine Below.setCell ?_ ?_ _) | (with_reducible refine Below.alloc ?_ ?_ _) | assumption)); all_goals (first | omega | (simp; done) | (simp; omega)))).trans (b12.mono (by first | omega | (simp; done) | (simp; omega)))
    have z12 : w11.heap.size ≤ w12.heap.size := Nat.le_trans (by first | omega | (simp; done) | (simp; omega)) b12.size
    have Ka012 := Ka011.below hb12 Ka011.lt
    have Kw012 := Kw011.below hb12 Kw011.lt
    have Kx012 := Kx011.below hb12 Kx011.lt
    have Kg012 := Kg011.below hb12 Kg011.lt
    have Ra012 := Ra011.below hb12
    have Rw012 := Rw011.below hb12
    have Ww012 := Ww011.below Rw011 hb12
    have RG12 := RG11.below hb12
    have hw12 : Below w.heap.size w w12 := hw11.trans (hb12.mono hw11.size)
    clear Ww011 ca011 qa011 Ka011 cw011 qw011 Kw011 cx011 qx011 Kx011 cg011 qg011 Kg011 Ra011 Rw011 RG11 b12 hb12 hw11
    have ca012 := fun o => Ka012.cell o
    have qa012 := Ka012.lt
    have cw012 := fun o => Kw012.cell o
    have qw012 := Kw012.lt
    have cx012 := fun o => Kx012.cell o
    have qx012 := Kx012.lt
    have cg012 := fun o => Kg012.cell o
    have qg012 := Kg012.lt
    have lot0 : Lo (DepthGridR kt0) w12.heap.size := RdAll.lo Rt012
    have hit0 : Hi (DepthGridR kt0) _ := WrAll.hi Wt012
    go_wp2_with fail
    refine (implFillGaps'_any kt0 l0 _ okt0 (Rt012.below (by (repeat (first | (with_reducible assumption) | (with_reducible exact Below.refl _ _) | (with_reducible refine Below.drew ?_) | (with_reducible refine Below.drewN ?_ _) | (with_reducible refine Below.setCell ?_ ?_ _) | (with_reducible refine Below.alloc ?_ ?_ _) | assumption)); all_goals (first | omega | (simp; done) | (simp; omega))))).mono ?_
    rintro e w13 ⟨kh0, he13, okh0, Rh013, Wh013', sh0, b13⟩
    unfold DepthGridV at he13
    subst he13
    have Wh013 := Wh013'.lower (show w12.heap.size ≤ _ from (by first | omega | (simp; done) | (simp; omega)))
    clear Wh013'
    have hb13 : Below w12.heap.size w12 w13 := (show Below w12.heap.size w12 _ from (by (repeat (first | (with_reducible assumption) | (with_reducible exact Below.refl _ _) | (with_reducible refine Below.drew ?_) | (with_reducible refine Below.drewN ?_ _) | (with_reducible refine Below.setCell ?_ ?_ _) | (with_reducible refine Below.alloc ?_ ?_ _) | assumption)); all_goals (first | omega | (simp; done) | (simp; omega)))).trans (b13.mono (by first | omega | (simp; done) | (simp; omega)))
    have z13 : w12.heap.size ≤ w13.heap.size := Nat.le_trans (by first | omega | (simp; done) | (simp; omega)) b13.size
    have Ka013 := Ka012.below hb13 Ka012.lt
    have Kw013 := Kw012.below hb13 Kw012.lt
    have Kx013 := Kx012.below hb13 Kx012.lt
    have Kg013 := Kg012.below hb13 Kg012.lt
    have Ra013 := Ra012.below hb13
    have Rw013 := Rw012.below hb13
    have Ww013 := Ww012.below Rw012 hb13
    have RG13 := RG12.below hb13
    have Rt013 := Rt012.below hb13
    have Wt013 := Wt012.below Rt012 hb13
    have hw13 : Below w.heap.size w w13 := hw12.trans (hb13.mono hw12.size)
    clear Wt012 Ww012 ca012 qa012 Ka012 cw012 qw012 Kw012 cx012 qx012 Kx012 cg012 qg012 Kg012 Ra012 Rw012 RG12 Rt012 b13 hb13 hw12
    have ca013 := fun o => Ka013.cell o
    have qa013 := Ka013.lt
    have cw013 := fun o => Kw013.cell o
    have qw013 := Kw013.lt
    have cx013 := fun o => Kx013.cell o
    have qx013 := Kx013.lt
    have cg013 := fun o => Kg013.cell o
    have qg013 := Kg013.lt
    have loh0 : Lo (DepthGridR kh0) w13.heap.size := RdAll.lo Rh013
    have hih0 : Hi (DepthGridR kh0) _ := WrAll.hi Wh013
    go_wp2_with fail
    refine (eqDepthGrid_any kh0 kw0 (fgR l0) _ okh0 (Rh013.below (by (repeat (first | (with_reducible assumption) | (with_reducible exact Below.refl _ _) | (with_reducible refine Below.drew ?_) | (with_reducible refine Below.drewN ?_ _) | (with_reducible refine Below.setCell ?_ ?_ _) | (with_reducible refine Below.alloc ?_ ?_ _) | assumption)); all_goals (first | omega | (simp; done) | (simp; omega)))) (Rw013.below (by (repeat (first | (with_reducible assumption) | (with_reducible exact Below.refl _ _) | (with_reducible refine Below.drew ?_) | (with_reducible refine Below.drewN ?_ _) | (with_reducible refine Below.setCell ?_ ?_ _) | (with_reducible refine Below.alloc ?_ ?_ _) | assumption)); all_goals (first | omega | (simp; done) | (simp; omega))))).mono ?_
    rintro e w14 ⟨rfl, b14⟩
    have hb14 : Below w13.heap.size w13 w14 := (show Below w13.heap.size w13 _ from (by (repeat (first | (with_reducible assumption) | (with_reducible exact Below.refl _ _) | (with_reducible refine Below.drew ?_) | (with_reducible refine Below.drewN ?_ _) | (with_reducible refine Below.setCell ?_ ?_ _) | (with_reducible refine Below.alloc ?_ ?_ _) | assumption)); all_goals (first | omega | (simp; done) | (simp; omega)))).trans (b14.mono (by first | omega | (simp; done) | (simp; omega)))
    have z14 : w13.heap.size + 1 ≤ w14.heap.size := Nat.le_trans (by first | omega | (simp; done) | (simp; omega)) b14.size
    have Ka014 := Ka013.below hb14 Ka013.lt
    have Kw014 := Kw013.below hb14 Kw013.lt
    have Kx014 := Kx013.below hb14 Kx013.lt
    have Kg014 := Kg013.below hb14 Kg013.lt
    have Kh014 : Blk w14 (w13.heap.size) 50 #[.int .i64 (fgR l0).size, .int .i64 (fgR l0).wide, .int .i64 (fgR l0).high, .slice kh0.counts.A kh0.counts.n kh0.counts.c, .slice kh0.depths.A kh0.depths.n kh0.depths.c] := Blk.below (by repeat (first | exact Blk.newN _ _ _ (by simp; done) | refine Blk.alloc ?_ _)) b14 (by first | omega | (simp; done) | (simp; omega))
    have Ra014 := Ra013.below hb14
    have Rw014 := Rw013.below hb14
    have Ww014 := Ww013.below Rw013 hb14
    have RG14 := RG13.below hb14
    have Rt014 := Rt013.below hb14
    have Wt014 := Wt013.below Rt013 hb14
    have Rh014 := Rh013.below hb14
    have Wh014 := Wh013.below Rh013 hb14
    have hw14 : Below w.heap.size w w14 := hw13.trans (hb14.mono hw13.size)
    clear Wh013 Wt013 Ww013 ca013 qa013 Ka013 cw013 qw013 Kw013 cx013 qx013 Kx013 cg013 qg013 Kg013 Ra013 Rw013 RG13 Rt013 Rh013 b14 hb14 hw13
    have ca014 := fun o => Ka014.cell o
    have qa014 := Ka014.lt
    have cw014 := fun o => Kw014.cell o
    have qw014 := Kw014.lt
    have cx014 := fun o => Kx014.cell o
    have qx014 := Kx014.lt
    have cg014 := fun o => Kg014.cell o
    have qg014 := Kg014.lt
    have ch014 := fun o => Kh014.cell o
    have qh014 := Kh014.lt
    go_wp2_with fail
    refine (heldDepthGrid_any kg0 (fgR l0) 1 _ okg0 (by omega) (by omega) (RG14.below (by (repeat (first | (with_reducible assumption) | (with_reducible exact Below.refl _ _) | (with_reducible refine Below.drew ?_) | (with_reducible refine Below.drewN ?_ _) | (with_reducible refine Below.setCell ?_ ?_ _) | (with_reducible refine Below.alloc ?_ ?_ _) | assumption)); all_goals (first | omega | (simp; done) | (simp; omega))))).mono ?_
    rintro e w15 ⟨rfl, b15⟩
    have hb15 : Below w14.heap.size w14 w15 := (show Below w14.heap.size w14 _ from (by (repeat (first | (with_reducible assumption) | (with_reducible exact Below.refl _ _) | (with_reducible refine Below.drew ?_) | (with_reducible refine Below.drewN ?_ _) | (with_reducible refine Below.setCell ?_ ?_ _) | (with_reducible refine Below.alloc ?_ ?_ _) | assumption)); all_goals (first | omega | (simp; done) | (simp; omega)))).trans (b15.mono (by first | omega | (simp; done) | (simp; omega)))
    have z15 : w14.heap.size ≤ w15.heap.size := Nat.le_trans (by first | omega | (simp; done) | (simp; omega)) b15.size
    have Ka015 := Ka014.below hb15 Ka014.lt
    have Kw015 := Kw014.below hb15 Kw014.lt
    have Kx015 := Kx014.below hb15 Kx014.lt
    have Kg015 := Kg014.below hb15 Kg014.lt
    have Kh015 := Kh014.below hb15 Kh014.lt
    have Ra015 := Ra014.below hb15
    have Rw015 := Rw014.below hb15
    have Ww015 := Ww014.below Rw014 hb15
    have RG15 := RG14.below hb15
    have Rt015 := Rt014.below hb15
    have Wt015 := Wt014.below Rt014 hb15
    have Rh015 := Rh014.below hb15
    have Wh015 := Wh014.below Rh014 hb15
    have hw15 : Below w.heap.size w w15 := hw14.trans (hb15.mono hw14.size)
    clear Wh014 Wt014 Ww014 ca014 qa014 Ka014 cw014 qw014 Kw014 cx014 qx014 Kx014 cg014 qg014 Kg014 ch014 qh014 Kh014 Ra014 Rw014 RG14 Rt014 Rh014 b15 hb15 hw14
    have ca015 := fun o => Ka015.cell o
    have qa015 := Ka015.lt
    have cw015 := fun o => Kw015.cell o
    have qw015 := Kw015.lt
    have cx015 := fun o => Kx015.cell o
    have qx015 := Kx015.lt
    have cg015 := fun o => Kg015.cell o
    have qg015 := Kg015.lt
    have ch015 := fun o => Kh015.cell o
    have qh015 := Kh015.lt
    go_wp2_with fail
    go_ret
    exact ⟨rfl, hw15⟩

theorem FnExactFillGaps_walk (w : World) (v0 : Value) (g0 : DepthGridArg w v0) :
    Calls Try.prog 7 #[v0] w fun e w' => e = .returned (.bool true) ∧ Below w.heap.size w w' := by
  obtain ⟨h0, l0, rfl, mx0, r0⟩ := g0
  exact lawFillGaps_any h0 l0 w mx0 r0
end Go.Proofs.Ythmcnoloeeabbaa
