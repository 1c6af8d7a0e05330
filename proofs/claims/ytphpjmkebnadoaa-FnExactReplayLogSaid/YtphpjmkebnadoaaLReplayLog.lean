/- The law FnExactReplayLog, walked. No condition beyond what an argument of its type bears. -/
import Derived.Test.YtphpjmkebnadoaaOpenRecs
import Derived.Test.YtphpjmkebnadoaaRepL
import Derived.Deep.RegionWith
import Derived.Deep.DeepCutAuto
namespace Go.Proofs.Ytphpjmkebnadoaa
open Go.RowKit

set_option maxRecDepth 100000 in
set_option maxHeartbeats 8000000 in
theorem lawReplayLog_any (h0 : Hd) (l0 : List Int) (w : World) (mx0 : RecsMx h0) (Ra00 : RdAll w (RecsS h0 l0)) :
    Calls Try.prog 4 #[RecsV h0] w fun e w' => e = .returned (.bool true) ∧ Below w.heap.size w w' := by
  have hw0 := Below.refl w.heap.size w
  have loa0 : Lo (RecsR h0) w.heap.size := RdAll.lo Ra00
  obtain ⟨A0, n0, c0⟩ := h0
  show Calls Try.prog 4 #[.slice A0 n0 c0] w _
  go_enter Try.func4, Try.ntmps4
  go_wp2_with fail
  refine (szRecs_any ⟨A0, n0, c0⟩ l0 1048576 _ mx0 (by omega) (by omega) ).mono ?_
  rintro e w1 ⟨v0, rfl, hv0, b1⟩
  have hb1 : Below w.heap.size w w1 := (show Below w.heap.size w _ from (by (repeat (first | (with_reducible assumption) | (with_reducible exact Below.refl _ _) | (with_reducible refine Below.drew ?_) | (with_reducible refine Below.drewN ?_ _) | (with_reducible refine Below.setCell ?_ ?_ _) | (with_reducible refine Below.alloc ?_ ?_ _) | assumption)); all_goals (first | omega | (simp; done) | (simp; omega)))).trans (b1.mono (by first | omega | (simp; done) | (simp; omega)))
  have z1 : w.heap.size ≤ w1.heap.size := Nat.le_trans (by first | omega | (simp; done) | (simp; omega)) b1.size
  have Ra01 := Ra00.below hb1
  have hw1 : Below w.heap.size w w1 := hb1
  clear Ra00 b1 hb1
  rcases hv0 with hv0 | ⟨hv0, hu0, oka0⟩
  · go_wp2_with fail
    go_ret
    exact ⟨rfl, (by (repeat (first | (with_reducible assumption) | (with_reducible exact Below.refl _ _) | (with_reducible refine Below.drew ?_) | (with_reducible refine Below.drewN ?_ _) | (with_reducible refine Below.setCell ?_ ?_ _) | (with_reducible refine Below.alloc ?_ ?_ _) | assumption)); all_goals (first | omega | (simp; done) | (simp; omega)))⟩
  have nv0 : ¬ v0 < 0 := by omega
  go_wp2_with fail
  refine (toRecs_any ⟨A0, n0, c0⟩ l0 _ oka0 (Ra01.below (by (repeat (first | (with_reducible assumption) | (with_reducible exact Below.refl _ _) | (with_reducible refine Below.drew ?_) | (with_reducible refine Below.drewN ?_ _) | (with_reducible refine Below.setCell ?_ ?_ _) | (with_reducible refine Below.alloc ?_ ?_ _) | assumption)); all_goals (first | omega | (simp; done) | (simp; omega))))).mono ?_
  rintro e w2 ⟨ks0, he2, oks0, Rs02, Ws02', ss0, b2⟩
  unfold RecsV at he2
  subst he2
  have Ws02 := Ws02'.lower (show w1.heap.size ≤ _ from (by first | omega | (simp; done) | (simp; omega)))
  clear Ws02'
  have hb2 : Below w1.heap.size w1 w2 := (show Below w1.heap.size w1 _ from (by (repeat (first | (with_reducible assumption) | (with_reducible exact Below.refl _ _) | (with_reducible refine Below.drew ?_) | (with_reducible refine Below.drewN ?_ _) | (with_reducible refine Below.setCell ?_ ?_ _) | (with_reducible refine Below.alloc ?_ ?_ _) | assumption)); all_goals (first | omega | (simp; done) | (simp; omega)))).trans (b2.mono (by first | omega | (simp; done) | (simp; omega)))
  have z2 : w1.heap.size ≤ w2.heap.size := Nat.le_trans (by first | omega | (simp; done) | (simp; omega)) b2.size
  have Ra02 := Ra01.below hb2
  have hw2 : Below w.heap.size w w2 := hw1.trans (hb2.mono hw1.size)
  clear Ra01 b2 hb2 hw1
  have los0 : Lo (RecsR ks0) w2.heap.size := RdAll.lo Rs02
  have his0 : Hi (RecsR ks0) _ := WrAll.hi Ws02
  go_wp2_with fail
  refine (specReplayLog'_any ks0 l0 _ oks0 (Rs02.below (by (repeat (first | (with_reducible assumption) | (with_reducible exact Below.refl _ _) | (with_reducible refine Below.drew ?_) | (with_reducible refine Below.drewN ?_ _) | (with_reducible refine Below.setCell ?_ ?_ _) | (with_reducible refine Below.alloc ?_ ?_ _) | assumption)); all_goals (first | omega | (simp; done) | (simp; omega))))).mono ?_
  rintro e w3 ⟨kw0, he3, okw0, Rw03, Ww03', sw0, b3⟩
  unfold SndsV at he3
  subst he3
  have Ww03 := Ww03'.lower (show w2.heap.size ≤ _ from (by first | omega | (simp; done) | (simp; omega)))
  clear Ww03'
  have hb3 : Below w2.heap.size w2 w3 := (show Below w2.heap.size w2 _ from (by (repeat (first | (with_reducible assumption) | (with_reducible exact Below.refl _ _) | (with_reducible refine Below.drew ?_) | (with_reducible refine Below.drewN ?_ _) | (with_reducible refine Below.setCell ?_ ?_ _) | (with_reducible refine Below.alloc ?_ ?_ _) | assumption)); all_goals (first | omega | (simp; done) | (simp; omega)))).trans (b3.mono (by first | omega | (simp; done) | (simp; omega)))
  have z3 : w2.heap.size ≤ w3.heap.size := Nat.le_trans (by first | omega | (simp; done) | (simp; omega)) b3.size
  have Ra03 := Ra02.below hb3
  have Rs03 := Rs02.below hb3
  have Ws03 := Ws02.below Rs02 hb3
  have hw3 : Below w.heap.size w w3 := hw2.trans (hb3.mono hw2.size)
  clear Ws02 Ra02 Rs02 b3 hb3 hw2
  have low0 : Lo (SndsR kw0) w3.heap.size := RdAll.lo Rw03
  have hiw0 : Hi (SndsR kw0) _ := WrAll.hi Ww03
  go_wp2_with fail
  refine (toRecs_any ⟨A0, n0, c0⟩ l0 _ oka0 (Ra03.below (by (repeat (first | (with_reducible assumption) | (with_reducible exact Below.refl _ _) | (with_reducible refine Below.drew ?_) | (with_reducible refine Below.drewN ?_ _) | (with_reducible refine Below.setCell ?_ ?_ _) | (with_reducible refine Below.alloc ?_ ?_ _) | assumption)); all_goals (first | omega | (simp; done) | (simp; omega))))).mono ?_
  rintro e w4 ⟨kx0, he4, okx0, Rx04, Wx04', sx0, b4⟩
  unfold RecsV at he4
  subst he4
  have Wx04 := Wx04'.lower (show w3.heap.size ≤ _ from (by first | omega | (simp; done) | (simp; omega)))
  clear Wx04'
  have hb4 : Below w3.heap.size w3 w4 := (show Below w3.heap.size w3 _ from (by (repeat (first | (with_reducible assumption) | (with_reducible exact Below.refl _ _) | (with_reducible refine Below.drew ?_) | (with_reducible refine Below.drewN ?_ _) | (with_reducible refine Below.setCell ?_ ?_ _) | (with_reducible refine Below.alloc ?_ ?_ _) | assumption)); all_goals (first | omega | (simp; done) | (simp; omega)))).trans (b4.mono (by first | omega | (simp; done) | (simp; omega)))
  have z4 : w3.heap.size ≤ w4.heap.size := Nat.le_trans (by first | omega | (simp; done) | (simp; omega)) b4.size
  have Ra04 := Ra03.below hb4
  have Rw04 := Rw03.below hb4
  have Ww04 := Ww03.below Rw03 hb4
  have hw4 : Below w.heap.size w w4 := hw3.trans (hb4.mono hw3.size)
  clear Ww03 Ra03 Rw03 b4 hb4 hw3
  have lox0 : Lo (RecsR kx0) w4.heap.size := RdAll.lo Rx04
  have hix0 : Hi (RecsR kx0) _ := WrAll.hi Wx04
  go_wp2_with fail
  refine (implReplayLog'_any kx0 l0 _ okx0 (Rx04.below (by (repeat (first | (with_reducible assumption) | (with_reducible exact Below.refl _ _) | (with_reducible refine Below.drew ?_) | (with_reducible refine Below.drewN ?_ _) | (with_reducible refine Below.setCell ?_ ?_ _) | (with_reducible refine Below.alloc ?_ ?_ _) | assumption)); all_goals (first | omega | (simp; done) | (simp; omega))))).mono ?_
  rintro e w5 ⟨kg0, he5, okg0, Rg05, Wg05', sg0, b5⟩
  unfold SndsV at he5
  subst he5
  have Wg05 := Wg05'.lower (show w4.heap.size ≤ _ from (by first | omega | (simp; done) | (simp; omega)))
  clear Wg05'
  have hb5 : Below w4.heap.size w4 w5 := (show Below w4.heap.size w4 _ from (by (repeat (first | (with_reducible assumption) | (with_reducible exact Below.refl _ _) | (with_reducible refine Below.drew ?_) | (with_reducible refine Below.drewN ?_ _) | (with_reducible refine Below.setCell ?_ ?_ _) | (with_reducible refine Below.alloc ?_ ?_ _) | assumption)); all_goals (first | omega | (simp; done) | (simp; omega)))).trans (b5.mono (by first | omega | (simp; done) | (simp; omega)))
  have z5 : w4.heap.size ≤ w5.heap.size := Nat.le_trans (by first | omega | (simp; done) | (simp; omega)) b5.size
  have Ra05 := Ra04.below hb5
  have Rw05 := Rw04.below hb5
  have Ww05 := Ww04.below Rw04 hb5
  have Rx05 := Rx04.below hb5
  have Wx05 := Wx04.below Rx04 hb5
  have hw5 : Below w.heap.size w w5 := hw4.trans (hb5.mono hw4.size)
  clear Wx04 Ww04 Ra04 Rw04 Rx04 b5 hb5 hw4
  have log0 : Lo (SndsR kg0) w5.heap.size := RdAll.lo Rg05
  have hig0 : Hi (SndsR kg0) _ := WrAll.hi Wg05
  go_wp2_with fail
  refine (eqSnds_any kg0 kw0 (rpL' l0) _ okg0 (Rg05.below (by (repeat (first | (with_reducible assumption) | (with_reducible exact Below.refl _ _) | (with_reducible refine Below.drew ?_) | (with_reducible refine Below.drewN ?_ _) | (with_reducible refine Below.setCell ?_ ?_ _) | (with_reducible refine Below.alloc ?_ ?_ _) | assumption)); all_goals (first | omega | (simp; done) | (simp; omega)))) (Rw05.below (by (repeat (first | (with_reducible assumption) | (with_reducible exact Below.refl _ _) | (with_reducible refine Below.drew ?_) | (with_reducible refine Below.drewN ?_ _) | (with_reducible refine Below.setCell ?_ ?_ _) | (with_reducible refine Below.alloc ?_ ?_ _) | assumption)); all_goals (first | omega | (simp; done) | (simp; omega))))).mono ?_
  rintro e w6 ⟨rfl, b6⟩
  have hb6 : Below w5.heap.size w5 w6 := (show Below w5.heap.size w5 _ from (by (repeat (first | (with_reducible assumption) | (with_reducible exact Below.refl _ _) | (with_reducible refine Below.drew ?_) | (with_reducible refine Below.drewN ?_ _) | (with_reducible refine Below.setCell ?_ ?_ _) | (with_reducible refine Below.alloc ?_ ?_ _) | assumption)); all_goals (first | omega | (simp; done) | (simp; omega)))).trans (b6.mono (by first | omega | (simp; done) | (simp; omega)))
  have z6 : w5.heap.size ≤ w6.heap.size := Nat.le_trans (by first | omega | (simp; done) | (simp; omega)) b6.size
  have Ra06 := Ra05.below hb6
  have Rw06 := Rw05.below hb6
  have Ww06 := Ww05.below Rw05 hb6
  have Rx06 := Rx05.below hb6
  have Wx06 := Wx05.below Rx05 hb6
  have Rg06 := Rg05.below hb6
  have Wg06 := Wg05.below Rg05 hb6
  have hw6 : Below w.heap.size w w6 := hw5.trans (hb6.mono hw5.size)
  clear Wg05 Wx05 Ww05 Ra05 Rw05 Rx05 Rg05 b6 hb6 hw5
  go_wp2_with fail
  refine (toRecs_any ⟨A0, n0, c0⟩ l0 _ oka0 (Ra06.below (by (repeat (first | (with_reducible assumption) | (with_reducible exact Below.refl _ _) | (with_reducible refine Below.drew ?_) | (with_reducible refine Below.drewN ?_ _) | (with_reducible refine Below.setCell ?_ ?_ _) | (with_reducible refine Below.alloc ?_ ?_ _) | assumption)); all_goals (first | omega | (simp; done) | (simp; omega))))).mono ?_
  rintro e w7 ⟨ky0, he7, oky0, Ry07, Wy07', sy0, b7⟩
  unfold RecsV at he7
  subst he7
  have Wy07 := Wy07'.lower (show w6.heap.size ≤ _ from (by first | omega | (simp; done) | (simp; omega)))
  clear Wy07'
  have hb7 : Below w6.heap.size w6 w7 := (show Below w6.heap.size w6 _ from (by (repeat (first | (with_reducible assumption) | (with_reducible exact Below.refl _ _) | (with_reducible refine Below.drew ?_) | (with_reducible refine Below.drewN ?_ _) | (with_reducible refine Below.setCell ?_ ?_ _) | (with_reducible refine Below.alloc ?_ ?_ _) | assumption)); all_goals (first | omega | (simp; done) | (simp; omega)))).trans (b7.mono (by first | omega | (simp; done) | (simp; omega)))
  have z7 : w6.heap.size ≤ w7.heap.size := Nat.le_trans (by first | omega | (simp; done) | (simp; omega)) b7.size
  have Ra07 := Ra06.below hb7
  have Rw07 := Rw06.below hb7
  have Ww07 := Ww06.below Rw06 hb7
  have Rx07 := Rx06.below hb7
  have Wx07 := Wx06.below Rx06 hb7
  have Rg07 := Rg06.below hb7
  have Wg07 := Wg06.below Rg06 hb7
  have hw7 : Below w.heap.size w w7 := hw6.trans (hb7.mono hw6.size)
  clear Wg06 Wx06 Ww06 Ra06 Rw06 Rx06 Rg06 b7 hb7 hw6
  have loy0 : Lo (RecsR ky0) w7.heap.size := RdAll.lo Ry07
  have hiy0 : Hi (RecsR ky0) _ := WrAll.hi Wy07
  go_wp2_with fail
  refine (eqRecs_any kx0 ky0 l0 _ okx0 (Rx07.below (by (repeat (first | (with_reducible assumption) | (with_reducible exact Below.refl _ _) | (with_reducible refine Below.drew ?_) | (with_reducible refine Below.drewN ?_ _) | (with_reducible refine Below.setCell ?_ ?_ _) | (with_reducible refine Below.alloc ?_ ?_ _) | assumption)); all_goals (first | omega | (simp; done) | (simp; omega)))) (Ry07.below (by (repeat (first | (with_reducible assumption) | (with_reducible exact Below.refl _ _) | (with_reducible refine Below.drew ?_) | (with_reducible refine Below.drewN ?_ _) | (with_reducible refine Below.setCell ?_ ?_ _) | (with_reducible refine Below.alloc ?_ ?_ _) | assumption)); all_goals (first | omega | (simp; done) | (simp; omega))))).mono ?_
  rintro e w8 ⟨rfl, b8⟩
  have hb8 : Below w7.heap.size w7 w8 := (show Below w7.heap.size w7 _ from (by (repeat (first | (with_reducible assumption) | (with_reducible exact Below.refl _ _) | (with_reducible refine Below.drew ?_) | (with_reducible refine Below.drewN ?_ _) | (with_reducible refine Below.setCell ?_ ?_ _) | (with_reducible refine Below.alloc ?_ ?_ _) | assumption)); all_goals (first | omega | (simp; done) | (simp; omega)))).trans (b8.mono (by first | omega | (simp; done) | (simp; omega)))
  have z8 : w7.heap.size ≤ w8.heap.size := Nat.le_trans (by first | omega | (simp; done) | (simp; omega)) b8.size
  have Ra08 := Ra07.below hb8
  have Rw08 := Rw07.below hb8
  have Ww08 := Ww07.below Rw07 hb8
  have Rx08 := Rx07.below hb8
  have Wx08 := Wx07.below Rx07 hb8
  have Rg08 := Rg07.below hb8
  have Wg08 := Wg07.below Rg07 hb8
  have Ry08 := Ry07.below hb8
  have Wy08 := Wy07.below Ry07 hb8
  have hw8 : Below w.heap.size w w8 := hw7.trans (hb8.mono hw7.size)
  clear Wy07 Wg07 Wx07 Ww07 Ra07 Rw07 Rx07 Rg07 Ry07 b8 hb8 hw7
  go_wp2_with fail
  refine (markRecs_any kx0 l0 1 _ _ okx0 (by omega) (by omega) Rx08 Wx08 sx0).mono ?_
  rintro e w9 ⟨rfl, T9, Mx09, Xx09⟩
  have z9 := T9.size
  have oa09 : Off (RecsR kx0) (RecsR ⟨A0, n0, c0⟩) := (Off.up (loa0.mono (by omega)) hix0)
  have Ra09 := Ra08.touch T9 oa09
  have ow09 : Off (RecsR kx0) (SndsR kw0) := (Off.up (low0.mono (by omega)) hix0)
  have Rw09 := Rw08.touch T9 ow09
  have Ww09 := Ww08.touch Rw08 T9 ow09
  have og09 : Off (RecsR kx0) (SndsR kg0) := (Off.dn hig0 (lox0.mono (by omega)))
  have Rg09 := Rg08.touch T9 og09
  have Wg09 := Wg08.touch Rg08 T9 og09
  have hw9 : Below w.heap.size w w9 := bstepT hw8 T9 (Nat.le_refl _) (hix0.mono (by omega))
  clear Wg08 Ww08 Wx08 Rx08 Ra08 Rw08 Rg08 T9 hw8
  have hq9 := RecsQ_bd okx0 1
  have nq9 : ¬ RecsQ kx0 1 < 0 := by omega
  go_wp2_with fail
  refine (eqSnds_any kg0 kw0 (rpL' l0) _ okg0 (Rg09.below (by (repeat (first | (with_reducible assumption) | (with_reducible exact Below.refl _ _) | (with_reducible refine Below.drew ?_) | (with_reducible refine Below.drewN ?_ _) | (with_reducible refine Below.setCell ?_ ?_ _) | (with_reducible refine Below.alloc ?_ ?_ _) | assumption)); all_goals (first | omega | (simp; done) | (simp; omega)))) (Rw09.below (by (repeat (first | (with_reducible assumption) | (with_reducible exact Below.refl _ _) | (with_reducible refine Below.drew ?_) | (with_reducible refine Below.drewN ?_ _) | (with_reducible refine Below.setCell ?_ ?_ _) | (with_reducible refine Below.alloc ?_ ?_ _) | assumption)); all_goals (first | omega | (simp; done) | (simp; omega))))).mono ?_
  rintro e w10 ⟨rfl, b10⟩
  have hb10 : Below w9.heap.size w9 w10 := (show Below w9.heap.size w9 _ from (by (repeat (first | (with_reducible assumption) | (with_reducible exact Below.refl _ _) | (with_reducible refine Below.drew ?_) | (with_reducible refine Below.drewN ?_ _) | (with_reducible refine Below.setCell ?_ ?_ _) | (with_reducible refine Below.alloc ?_ ?_ _) | assumption)); all_goals (first | omega | (simp; done) | (simp; omega)))).trans (b10.mono (by first | omega | (simp; done) | (simp; omega)))
  have z10 : w9.heap.size ≤ w10.heap.size := Nat.le_trans (by first | omega | (simp; done) | (simp; omega)) b10.size
  have Ra010 := Ra09.below hb10
  have Rw010 := Rw09.below hb10
  have Ww010 := Ww09.below Rw09 hb10
  have Rg010 := Rg09.below hb10
  have Wg010 := Wg09.below Rg09 hb10
  have hw10 : Below w.heap.size w w10 := hw9.trans (hb10.mono hw9.size)
  clear Wg09 Ww09 Ra09 Rw09 Rg09 b10 hb10 hw9
  go_wp2_with fail
  refine (markSnds_any kg0 (rpL' l0) 1 _ _ okg0 (by omega) (by omega) Rg010 Wg010 sg0).mono ?_
  rintro e w11 ⟨rfl, T11, Mg011, Xg011⟩
  have z11 := T11.size
  have oa011 : Off (SndsR kg0) (RecsR ⟨A0, n0, c0⟩) := (Off.up (loa0.mono (by omega)) hig0)
  have Ra011 := Ra010.touch T11 oa011
  have ow011 : Off (SndsR kg0) (SndsR kw0) := (Off.up (low0.mono (by omega)) hig0)
  have Rw011 := Rw010.touch T11 ow011
  have Ww011 := Ww010.touch Rw010 T11 ow011
  have hw11 : Below w.heap.size w w11 := bstepT hw10 T11 (Nat.le_refl _) (hig0.mono (by omega))
  clear Ww010 Wg010 Rg010 Ra010 Rw010 T11 hw10
  have hq11 := SndsQ_bd okg0 1
  have nq11 : ¬ SndsQ kg0 1 < 0 := by omega
  have RG11 := Mg011
  have loG := log0
  go_wp2_with fail
  refine (heldSnds_any kg0 (rpL' l0) 1 _ okg0 (by omega) (by omega) (RG11.below (by (repeat (first | (with_reducible assumption) | (with_reducible exact Below.refl _ _) | (with_reducible refine Below.drew ?_) | (with_reducible refine Below.drewN ?_ _) | (with_reducible refine Below.setCell ?_ ?_ _) | (with_reducible refine Below.alloc ?_ ?_ _) | assumption)); all_goals (first | omega | (simp; done) | (simp; omega))))).mono ?_
  rintro e w12 ⟨rfl, b12⟩
  have hb12 : Below w11.heap.size w11 w12 := (show Below w11.heap.size w11 _ from (by (repeat (first | (with_reducible assumption) | (with_reducible exact Below.refl _ _) | (with_reducible refine Below.drew ?_) | (with_reducible refine Below.drewN ?_ _) | (with_reducible refine Below.setCell ?_ ?_ _) | (with_reducible refine Below.alloc ?_ ?_ _) | assumption)); all_goals (first | omega | (simp; done) | (simp; omega)))).trans (b12.mono (by first | omega | (simp; done) | (simp; omega)))
  have z12 : w11.heap.size ≤ w12.heap.size := Nat.le_trans (by first | omega | (simp; done) | (simp; omega)) b12.size
  have Ra012 := Ra011.below hb12
  have Rw012 := Rw011.below hb12
  have Ww012 := Ww011.below Rw011 hb12
  have RG12 := RG11.below hb12
  have hw12 : Below w.heap.size w w12 := hw11.trans (hb12.mono hw11.size)
  clear Ww011 Ra011 Rw011 RG11 b12 hb12 hw11
  go_wp2_with fail
  refine (toRecs_any ⟨A0, n0, c0⟩ l0 _ oka0 (Ra012.below (by (repeat (first | (with_reducible assumption) | (with_reducible exact Below.refl _ _) | (with_reducible refine Below.drew ?_) | (with_reducible refine Below.drewN ?_ _) | (with_reducible refine Below.setCell ?_ ?_ _) | (with_reducible refine Below.alloc ?_ ?_ _) | assumption)); all_goals (first | omega | (simp; done) | (simp; omega))))).mono ?_
  rintro e w13 ⟨kt0, he13, okt0, Rt013, Wt013', st0, b13⟩
  unfold RecsV at he13
  subst he13
  have Wt013 := Wt013'.lower (show w12.heap.size ≤ _ from (by first | omega | (simp; done) | (simp; omega)))
  clear Wt013'
  have hb13 : Below w12.heap.size w12 w13 := (show Below w12.heap.size w12 _ from (by (repeat (first | (with_reducible assumption) | (with_reducible exact Below.refl _ _) | (with_reducible refine Below.drew ?_) | (with_reducible refine Below.drewN ?_ _) | (with_reducible refine Below.setCell ?_ ?_ _) | (with_reducible refine Below.alloc ?_ ?_ _) | assumption)); all_goals (first | omega | (simp; done) | (simp; omega)))).trans (b13.mono (by first | omega | (simp; done) | (simp; omega)))
  have z13 : w12.heap.size ≤ w13.heap.size := Nat.le_trans (by first | omega | (simp; done) | (simp; omega)) b13.size
  have Ra013 := Ra012.below hb13
  have Rw013 := Rw012.below hb13
  have Ww013 := Ww012.below Rw012 hb13
  have RG13 := RG12.below hb13
  have hw13 : Below w.heap.size w w13 := hw12.trans (hb13.mono hw12.size)
  clear Ww012 Ra012 Rw012 RG12 b13 hb13 hw12
  have lot0 : Lo (RecsR kt0) w13.heap.size := RdAll.lo Rt013
  have hit0 : Hi (RecsR kt0) _ := WrAll.hi Wt013
  go_wp2_with fail
  refine (implReplayLog'_any kt0 l0 _ okt0 (Rt013.below (by (repeat (first | (with_reducible assumption) | (with_reducible exact Below.refl _ _) | (with_reducible refine Below.drew ?_) | (with_reducible refine Below.drewN ?_ _) | (with_reducible refine Below.setCell ?_ ?_ _) | (with_reducible refine Below.alloc ?_ ?_ _) | assumption)); all_goals (first | omega | (simp; done) | (simp; omega))))).mono ?_
  rintro e w14 ⟨kh0, he14, okh0, Rh014, Wh014', sh0, b14⟩
  unfold SndsV at he14
  subst he14
  have Wh014 := Wh014'.lower (show w13.heap.size ≤ _ from (by first | omega | (simp; done) | (simp; omega)))
  clear Wh014'
  have hb14 : Below w13.heap.size w13 w14 := (show Below w13.heap.size w13 _ from (by (repeat (first | (with_reducible assumption) | (with_reducible exact Below.refl _ _) | (with_reducible refine Below.drew ?_) | (with_reducible refine Below.drewN ?_ _) | (with_reducible refine Below.setCell ?_ ?_ _) | (with_reducible refine Below.alloc ?_ ?_ _) | assumption)); all_goals (first | omega | (simp; done) | (simp; omega)))).trans (b14.mono (by first | omega | (simp; done) | (simp; omega)))
  have z14 : w13.heap.size ≤ w14.heap.size := Nat.le_trans (by first | omega | (simp; done) | (simp; omega)) b14.size
  have Ra014 := Ra013.below hb14
  have Rw014 := Rw013.below hb14
  have Ww014 := Ww013.below Rw013 hb14
  have RG14 := RG13.below hb14
  have Rt014 := Rt013.below hb14
  have Wt014 := Wt013.below Rt013 hb14
  have hw14 : Below w.heap.size w w14 := hw13.trans (hb14.mono hw13.size)
  clear Wt013 Ww013 Ra013 Rw013 RG13 Rt013 b14 hb14 hw13
  have loh0 : Lo (SndsR kh0) w14.heap.size := RdAll.lo Rh014
  have hih0 : Hi (SndsR kh0) _ := WrAll.hi Wh014
  go_wp2_with fail
  refine (eqSnds_any kh0 kw0 (rpL' l0) _ okh0 (Rh014.below (by (repeat (first | (with_reducible assumption) | (with_reducible exact Below.refl _ _) | (with_reducible refine Below.drew ?_) | (with_reducible refine Below.drewN ?_ _) | (with_reducible refine Below.setCell ?_ ?_ _) | (with_reducible refine Below.alloc ?_ ?_ _) | assumption)); all_goals (first | omega | (simp; done) | (simp; omega)))) (Rw014.below (by (repeat (first | (with_reducible assumption) | (with_reducible exact Below.refl _ _) | (with_reducible refine Below.drew ?_) | (with_reducible refine Below.drewN ?_ _) | (with_reducible refine Below.setCell ?_ ?_ _) | (with_reducible refine Below.alloc ?_ ?_ _) | assumption)); all_goals (first | omega | (simp; done) | (simp; omega))))).mono ?_
  rintro e w15 ⟨rfl, b15⟩
  have hb15 : Below w14.heap.size w14 w15 := (show Below w14.heap.size w14 _ from (by (repeat (first | (with_reducible assumption) | (with_reducible exact Below.refl _ _) | (with_reducible refine Below.drew ?_) | (with_reducible refine Below.drewN ?_ _) | (with_reducible refine Below.setCell ?_ ?_ _) | (with_reducible refine Below.alloc ?_ ?_ _) | assumption)); all_goals (first | omega | (simp; done) | (simp; omega)))).trans (b15.mono (by first | omega | (simp; done) | (simp; omega)))
  have z15 : w14.heap.size ≤ w15.heap.size := Nat.le_trans (by first | omega | (simp; done) | (simp; omega)) b15.size
  have Ra015 := Ra014.below hb15
  have Rw015 := Rw014.below hb15
  have Ww015 := Ww014.below Rw014 hb15
  have RG15 := RG14.below hb15
  have Rt015 := Rt014.below hb15
  have Wt015 := Wt014.below Rt014 hb15
  have Rh015 := Rh014.below hb15
  have Wh015 := Wh014.below Rh014 hb15
  have hw15 : Below w.heap.size w w15 := hw14.trans (hb15.mono hw14.size)
  clear Wh014 Wt014 Ww014 Ra014 Rw014 RG14 Rt014 Rh014 b15 hb15 hw14
  go_wp2_with fail
  refine (heldSnds_any kg0 (rpL' l0) 1 _ okg0 (by omega) (by omega) (RG15.below (by (repeat (first | (with_reducible assumption) | (with_reducible exact Below.refl _ _) | (with_reducible refine Below.drew ?_) | (with_reducible refine Below.drewN ?_ _) | (with_reducible refine Below.setCell ?_ ?_ _) | (with_reducible refine Below.alloc ?_ ?_ _) | assumption)); all_goals (first | omega | (simp; done) | (simp; omega))))).mono ?_
  rintro e w16 ⟨rfl, b16⟩
  have hb16 : Below w15.heap.size w15 w16 := (show Below w15.heap.size w15 _ from (by (repeat (first | (with_reducible assumption) | (with_reducible exact Below.refl _ _) | (with_reducible refine Below.drew ?_) | (with_reducible refine Below.drewN ?_ _) | (with_reducible refine Below.setCell ?_ ?_ _) | (with_reducible refine Below.alloc ?_ ?_ _) | assumption)); all_goals (first | omega | (simp; done) | (simp; omega)))).trans (b16.mono (by first | omega | (simp; done) | (simp; omega)))
  have z16 : w15.heap.size ≤ w16.heap.size := Nat.le_trans (by first | omega | (simp; done) | (simp; omega)) b16.size
  have Ra016 := Ra015.below hb16
  have Rw016 := Rw015.below hb16
  have Ww016 := Ww015.below Rw015 hb16
  have RG16 := RG15.below hb16
  have Rt016 := Rt015.below hb16
  have Wt016 := Wt015.below Rt015 hb16
  have Rh016 := Rh015.below hb16
  have Wh016 := Wh015.below Rh015 hb16
  have hw16 : Below w.heap.size w w16 := hw15.trans (hb16.mono hw15.size)
  clear Wh015 Wt015 Ww015 Ra015 Rw015 RG15 Rt015 Rh015 b16 hb16 hw15
  go_wp2_with fail
  go_ret
  exact ⟨rfl, hw16⟩

theorem FnExactReplayLog_walk (w : World) (v0 : Value) (g0 : RecsArg w v0) :
    Calls Try.prog 4 #[v0] w fun e w' => e = .returned (.bool true) ∧ Below w.heap.size w w' := by
  obtain ⟨h0, l0, rfl, mx0, r0⟩ := g0
  exact lawReplayLog_any h0 l0 w mx0 r0
end Go.Proofs.Ytphpjmkebnadoaa
