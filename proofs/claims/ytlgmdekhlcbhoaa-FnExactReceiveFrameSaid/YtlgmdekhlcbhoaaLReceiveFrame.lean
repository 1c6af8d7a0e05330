/- The law FnExactReceiveFrame, walked. No condition beyond what an argument of its type bears. -/

import Derived.Test.YtlgmdekhlcbhoaaFraV
import Derived.Deep.RegionWith
import Derived.Deep.DeepCutAuto
namespace Go.Proofs.Ytlgmdekhlcbhoaa
open Go.RowKit

set_option maxRecDepth 100000 in
set_option maxHeartbeats 8000000 in
theorem lawReceiveFrame_any (h0 : Hd) (l0 : List Int) (a1 : Int) (w : World) (mx0 : h0.n ≤ 9223372036854775807) (Ra00 : RdAll w (IntsS h0 l0)) :
    Calls Try.prog 5 #[IntsV h0, .int .i64 a1] w fun e w' => e = .returned (.bool true) ∧ Below w.heap.size w w' := by
  have hw0 := Below.refl w.heap.size w
  have loa0 : Lo (IntsR h0) w.heap.size := RdAll.lo Ra00
  obtain ⟨A0, n0, c0⟩ := h0
  show Calls Try.prog 5 #[.slice A0 n0 c0, .int .i64 a1] w _
  go_enter Try.func5, Try.ntmps5
  by_cases hn0 : (1048576 : Int) < (n0 : Int)
  · go_wp2_with fail
    go_ret
    exact ⟨rfl, (by (repeat (first | (with_reducible assumption) | (with_reducible exact Below.refl _ _) | (with_reducible refine Below.drew ?_) | (with_reducible refine Below.drewN ?_ _) | (with_reducible refine Below.setCell ?_ ?_ _) | (with_reducible refine Below.alloc ?_ ?_ _) | assumption)); all_goals (first | omega | (simp; done) | (simp; omega)))⟩
  have oka0 : IntsOk ⟨A0, n0, c0⟩ := by unfold IntsOk; simp only; omega
  go_wp2_with fail
  refine (toInts_any ⟨A0, n0, c0⟩ l0 _ oka0 (Ra00.below (by (repeat (first | (with_reducible assumption) | (with_reducible exact Below.refl _ _) | (with_reducible refine Below.drew ?_) | (with_reducible refine Below.drewN ?_ _) | (with_reducible refine Below.setCell ?_ ?_ _) | (with_reducible refine Below.alloc ?_ ?_ _) | assumption)); all_goals (first | omega | (simp; done) | (simp; omega))))).mono ?_
  rintro e w1 ⟨ks0, he1, oks0, Rs01, Ws01', ss0, b1⟩
  unfold IntsV at he1
  subst he1
  have Ws01 := Ws01'.lower (show w.heap.size ≤ _ from (by first | omega | (simp; done) | (simp; omega)))
  clear Ws01'
  have hb1 : Below w.heap.size w w1 := (show Below w.heap.size w _ from (by (repeat (first | (with_reducible assumption) | (with_reducible exact Below.refl _ _) | (with_reducible refine Below.drew ?_) | (with_reducible refine Below.drewN ?_ _) | (with_reducible refine Below.setCell ?_ ?_ _) | (with_reducible refine Below.alloc ?_ ?_ _) | assumption)); all_goals (first | omega | (simp; done) | (simp; omega)))).trans (b1.mono (by first | omega | (simp; done) | (simp; omega)))
  have z1 : w.heap.size ≤ w1.heap.size := Nat.le_trans (by first | omega | (simp; done) | (simp; omega)) b1.size
  have Ra01 := Ra00.below hb1
  have hw1 : Below w.heap.size w w1 := hb1
  clear Ra00 b1 hb1
  have los0 : Lo (IntsR ks0) w1.heap.size := RdAll.lo Rs01
  have his0 : Hi (IntsR ks0) _ := WrAll.hi Ws01
  go_wp2_with fail
  refine (specReceiveFrame'_any ks0 l0 a1 _ oks0 (Rs01.below (by (repeat (first | (with_reducible assumption) | (with_reducible exact Below.refl _ _) | (with_reducible refine Below.drew ?_) | (with_reducible refine Below.drewN ?_ _) | (with_reducible refine Below.setCell ?_ ?_ _) | (with_reducible refine Below.alloc ?_ ?_ _) | assumption)); all_goals (first | omega | (simp; done) | (simp; omega))))).mono ?_
  rintro e w2 ⟨kw0, he2, okw0, Rw02, Ww02', sw0, b2⟩
  unfold FrameV at he2
  subst he2
  have Ww02 := Ww02'.lower (show w1.heap.size ≤ _ from (by first | omega | (simp; done) | (simp; omega)))
  clear Ww02'
  have hb2 : Below w1.heap.size w1 w2 := (show Below w1.heap.size w1 _ from (by (repeat (first | (with_reducible assumption) | (with_reducible exact Below.refl _ _) | (with_reducible refine Below.drew ?_) | (with_reducible refine Below.drewN ?_ _) | (with_reducible refine Below.setCell ?_ ?_ _) | (with_reducible refine Below.alloc ?_ ?_ _) | assumption)); all_goals (first | omega | (simp; done) | (simp; omega)))).trans (b2.mono (by first | omega | (simp; done) | (simp; omega)))
  have z2 : w1.heap.size ≤ w2.heap.size := Nat.le_trans (by first | omega | (simp; done) | (simp; omega)) b2.size
  have Ra02 := Ra01.below hb2
  have Rs02 := Rs01.below hb2
  have Ws02 := Ws01.below Rs01 hb2
  have hw2 : Below w.heap.size w w2 := hw1.trans (hb2.mono hw1.size)
  clear Ws01 Ra01 Rs01 b2 hb2 hw1
  have low0 : Lo (FrameR kw0) w2.heap.size := RdAll.lo Rw02
  have hiw0 : Hi (FrameR kw0) _ := WrAll.hi Ww02
  go_wp2_with fail
  refine (toInts_any ⟨A0, n0, c0⟩ l0 _ oka0 (Ra02.below (by (repeat (first | (with_reducible assumption) | (with_reducible exact Below.refl _ _) | (with_reducible refine Below.drew ?_) | (with_reducible refine Below.drewN ?_ _) | (with_reducible refine Below.setCell ?_ ?_ _) | (with_reducible refine Below.alloc ?_ ?_ _) | assumption)); all_goals (first | omega | (simp; done) | (simp; omega))))).mono ?_
  rintro e w3 ⟨kx0, he3, okx0, Rx03, Wx03', sx0, b3⟩
  unfold IntsV at he3
  subst he3
  have Wx03 := Wx03'.lower (show w2.heap.size + 1 ≤ _ from (by first | omega | (simp; done) | (simp; omega)))
  clear Wx03'
  have hb3 : Below w2.heap.size w2 w3 := (show Below w2.heap.size w2 _ from (by (repeat (first | (with_reducible assumption) | (with_reducible exact Below.refl _ _) | (with_reducible refine Below.drew ?_) | (with_reducible refine Below.drewN ?_ _) | (with_reducible refine Below.setCell ?_ ?_ _) | (with_reducible refine Below.alloc ?_ ?_ _) | assumption)); all_goals (first | omega | (simp; done) | (simp; omega)))).trans (b3.mono (by first | omega | (simp; done) | (simp; omega)))
  have z3 : w2.heap.size + 1 ≤ w3.heap.size := Nat.le_trans (by first | omega | (simp; done) | (simp; omega)) b3.size
  have Kw03 : Blk w3 (w2.heap.size) 28 #[.int .i64 (rfR l0 a1).kind, .int .i64 (rfR l0 a1).number, .slice kw0.payload.A kw0.payload.n kw0.payload.c] := Blk.below (by repeat (first | exact Blk.newN _ _ _ (by simp; done) | refine Blk.alloc ?_ _)) b3 (by first | omega | (simp; done) | (simp; omega))
  have Ra03 := Ra02.below hb3
  have Rw03 := Rw02.below hb3
  have Ww03 := Ww02.below Rw02 hb3
  have hw3 : Below w.heap.size w w3 := hw2.trans (hb3.mono hw2.size)
  clear Ww02 Ra02 Rw02 b3 hb3 hw2
  have cw03 := fun o => Kw03.cell o
  have qw03 := Kw03.lt
  have lox0 : Lo (IntsR kx0) w3.heap.size := RdAll.lo Rx03
  have hix0 : Hi (IntsR kx0) _ := WrAll.hi Wx03
  go_wp2_with fail
  refine (implReceiveFrame'_any kx0 l0 a1 _ okx0 (Rx03.below (by (repeat (first | (with_reducible assumption) | (with_reducible exact Below.refl _ _) | (with_reducible refine Below.drew ?_) | (with_reducible refine Below.drewN ?_ _) | (with_reducible refine Below.setCell ?_ ?_ _) | (with_reducible refine Below.alloc ?_ ?_ _) | assumption)); all_goals (first | omega | (simp; done) | (simp; omega))))).mono ?_
  rintro e w4 ⟨kg0, he4, okg0, Rg04, Wg04', sg0, b4⟩
  unfold FrameV at he4
  subst he4
  have Wg04 := Wg04'.lower (show w3.heap.size ≤ _ from (by first | omega | (simp; done) | (simp; omega)))
  clear Wg04'
  have hb4 : Below w3.heap.size w3 w4 := (show Below w3.heap.size w3 _ from (by (repeat (first | (with_reducible assumption) | (with_reducible exact Below.refl _ _) | (with_reducible refine Below.drew ?_) | (with_reducible refine Below.drewN ?_ _) | (with_reducible refine Below.setCell ?_ ?_ _) | (with_reducible refine Below.alloc ?_ ?_ _) | assumption)); all_goals (first | omega | (simp; done) | (simp; omega)))).trans (b4.mono (by first | omega | (simp; done) | (simp; omega)))
  have z4 : w3.heap.size ≤ w4.heap.size := Nat.le_trans (by first | omega | (simp; done) | (simp; omega)) b4.size
  have Kw04 := Kw03.below hb4 Kw03.lt
  have Ra04 := Ra03.below hb4
  have Rw04 := Rw03.below hb4
  have Ww04 := Ww03.below Rw03 hb4
  have Rx04 := Rx03.below hb4
  have Wx04 := Wx03.below Rx03 hb4
  have hw4 : Below w.heap.size w w4 := hw3.trans (hb4.mono hw3.size)
  clear Wx03 Ww03 cw03 qw03 Kw03 Ra03 Rw03 Rx03 b4 hb4 hw3
  have cw04 := fun o => Kw04.cell o
  have qw04 := Kw04.lt
  have log0 : Lo (FrameR kg0) w4.heap.size := RdAll.lo Rg04
  have hig0 : Hi (FrameR kg0) _ := WrAll.hi Wg04
  go_wp2_with fail
  refine (eqFrame_any kg0 kw0 (rfR l0 a1) _ okg0 (Rg04.below (by (repeat (first | (with_reducible assumption) | (with_reducible exact Below.refl _ _) | (with_reducible refine Below.drew ?_) | (with_reducible refine Below.drewN ?_ _) | (with_reducible refine Below.setCell ?_ ?_ _) | (with_reducible refine Below.alloc ?_ ?_ _) | assumption)); all_goals (first | omega | (simp; done) | (simp; omega)))) (Rw04.below (by (repeat (first | (with_reducible assumption) | (with_reducible exact Below.refl _ _) | (with_reducible refine Below.drew ?_) | (with_reducible refine Below.drewN ?_ _) | (with_reducible refine Below.setCell ?_ ?_ _) | (with_reducible refine Below.alloc ?_ ?_ _) | assumption)); all_goals (first | omega | (simp; done) | (simp; omega))))).mono ?_
  rintro e w5 ⟨rfl, b5⟩
  have hb5 : Below w4.heap.size w4 w5 := (show Below w4.heap.size w4 _ from (by (repeat (first | (with_reducible assumption) | (with_reducible exact Below.refl _ _) | (with_reducible refine Below.drew ?_) | (with_reducible refine Below.drewN ?_ _) | (with_reducible refine Below.setCell ?_ ?_ _) | (with_reducible refine Below.alloc ?_ ?_ _) | assumption)); all_goals (first | omega | (simp; done) | (simp; omega)))).trans (b5.mono (by first | omega | (simp; done) | (simp; omega)))
  have z5 : w4.heap.size + 1 ≤ w5.heap.size := Nat.le_trans (by first | omega | (simp; done) | (simp; omega)) b5.size
  have Kw05 := Kw04.below hb5 Kw04.lt
  have Kg05 : Blk w5 (w4.heap.size) 28 #[.int .i64 (rfR l0 a1).kind, .int .i64 (rfR l0 a1).number, .slice kg0.payload.A kg0.payload.n kg0.payload.c] := Blk.below (by repeat (first | exact Blk.newN _ _ _ (by simp; done) | refine Blk.alloc ?_ _)) b5 (by first | omega | (simp; done) | (simp; omega))
  have Ra05 := Ra04.below hb5
  have Rw05 := Rw04.below hb5
  have Ww05 := Ww04.below Rw04 hb5
  have Rx05 := Rx04.below hb5
  have Wx05 := Wx04.below Rx04 hb5
  have Rg05 := Rg04.below hb5
  have Wg05 := Wg04.below Rg04 hb5
  have hw5 : Below w.heap.size w w5 := hw4.trans (hb5.mono hw4.size)
  clear Wg04 Wx04 Ww04 cw04 qw04 Kw04 Ra04 Rw04 Rx04 Rg04 b5 hb5 hw4
  have cw05 := fun o => Kw05.cell o
  have qw05 := Kw05.lt
  have cg05 := fun o => Kg05.cell o
  have qg05 := Kg05.lt
  go_wp2_with fail
  refine (toInts_any ⟨A0, n0, c0⟩ l0 _ oka0 (Ra05.below (by (repeat (first | (with_reducible assumption) | (with_reducible exact Below.refl _ _) | (with_reducible refine Below.drew ?_) | (with_reducible refine Below.drewN ?_ _) | (with_reducible refine Below.setCell ?_ ?_ _) | (with_reducible refine Below.alloc ?_ ?_ _) | assumption)); all_goals (first | omega | (simp; done) | (simp; omega))))).mono ?_
  rintro e w6 ⟨ky0, he6, oky0, Ry06, Wy06', sy0, b6⟩
  unfold IntsV at he6
  subst he6
  have Wy06 := Wy06'.lower (show w5.heap.size ≤ _ from (by first | omega | (simp; done) | (simp; omega)))
  clear Wy06'
  have hb6 : Below w5.heap.size w5 w6 := (show Below w5.heap.size w5 _ from (by (repeat (first | (with_reducible assumption) | (with_reducible exact Below.refl _ _) | (with_reducible refine Below.drew ?_) | (with_reducible refine Below.drewN ?_ _) | (with_reducible refine Below.setCell ?_ ?_ _) | (with_reducible refine Below.alloc ?_ ?_ _) | assumption)); all_goals (first | omega | (simp; done) | (simp; omega)))).trans (b6.mono (by first | omega | (simp; done) | (simp; omega)))
  have z6 : w5.heap.size ≤ w6.heap.size := Nat.le_trans (by first | omega | (simp; done) | (simp; omega)) b6.size
  have Kw06 := Kw05.below hb6 Kw05.lt
  have Kg06 := Kg05.below hb6 Kg05.lt
  have Ra06 := Ra05.below hb6
  have Rw06 := Rw05.below hb6
  have Ww06 := Ww05.below Rw05 hb6
  have Rx06 := Rx05.below hb6
  have Wx06 := Wx05.below Rx05 hb6
  have Rg06 := Rg05.below hb6
  have Wg06 := Wg05.below Rg05 hb6
  have hw6 : Below w.heap.size w w6 := hw5.trans (hb6.mono hw5.size)
  clear Wg05 Wx05 Ww05 cw05 qw05 Kw05 cg05 qg05 Kg05 Ra05 Rw05 Rx05 Rg05 b6 hb6 hw5
  have cw06 := fun o => Kw06.cell o
  have qw06 := Kw06.lt
  have cg06 := fun o => Kg06.cell o
  have qg06 := Kg06.lt
  have loy0 : Lo (IntsR ky0) w6.heap.size := RdAll.lo Ry06
  have hiy0 : Hi (IntsR ky0) _ := WrAll.hi Wy06
  go_wp2_with fail
  refine (eqInts_any kx0 ky0 l0 _ okx0 (Rx06.below (by (repeat (first | (with_reducible assumption) | (with_reducible exact Below.refl _ _) | (with_reducible refine Below.drew ?_) | (with_reducible refine Below.drewN ?_ _) | (with_reducible refine Below.setCell ?_ ?_ _) | (with_reducible refine Below.alloc ?_ ?_ _) | assumption)); all_goals (first | omega | (simp; done) | (simp; omega)))) (Ry06.below (by (repeat (first | (with_reducible assumption) | (with_reducible exact Below.refl _ _) | (with_reducible refine Below.drew ?_) | (with_reducible refine Below.drewN ?_ _) | (with_reducible refine Below.setCell ?_ ?_ _) | (with_reducible refine Below.alloc ?_ ?_ _) | assumption)); all_goals (first | omega | (simp; done) | (simp; omega))))).mono ?_
  rintro e w7 ⟨rfl, b7⟩
  have hb7 : Below w6.heap.size w6 w7 := (show Below w6.heap.size w6 _ from (by (repeat (first | (with_reducible assumption) | (with_reducible exact Below.refl _ _) | (with_reducible refine Below.drew ?_) | (with_reducible refine Below.drewN ?_ _) | (with_reducible refine Below.setCell ?_ ?_ _) | (with_reducible refine Below.alloc ?_ ?_ _) | assumption)); all_goals (first | omega | (simp; done) | (simp; omega)))).trans (b7.mono (by first | omega | (simp; done) | (simp; omega)))
  have z7 : w6.heap.size ≤ w7.heap.size := Nat.le_trans (by first | omega | (simp; done) | (simp; omega)) b7.size
  have Kw07 := Kw06.below hb7 Kw06.lt
  have Kg07 := Kg06.below hb7 Kg06.lt
  have Ra07 := Ra06.below hb7
  have Rw07 := Rw06.below hb7
  have Ww07 := Ww06.below Rw06 hb7
  have Rx07 := Rx06.below hb7
  have Wx07 := Wx06.below Rx06 hb7
  have Rg07 := Rg06.below hb7
  have Wg07 := Wg06.below Rg06 hb7
  have Ry07 := Ry06.below hb7
  have Wy07 := Wy06.below Ry06 hb7
  have hw7 : Below w.heap.size w w7 := hw6.trans (hb7.mono hw6.size)
  clear Wy06 Wg06 Wx06 Ww06 cw06 qw06 Kw06 cg06 qg06 Kg06 Ra06 Rw06 Rx06 Rg06 Ry06 b7 hb7 hw6
  have cw07 := fun o => Kw07.cell o
  have qw07 := Kw07.lt
  have cg07 := fun o => Kg07.cell o
  have qg07 := Kg07.lt
  go_wp2_with fail
  refine (markInts_any kx0 l0 1 _ _ okx0 (by omega) (by omega) Rx07 Wx07 sx0).mono ?_
  rintro e w8 ⟨rfl, T8, Mx08, Xx08⟩
  have z8 := T8.size
  have Kw08 := Kw07.touch T8 (hix0.ne (by omega))
  have Kg08 := Kg07.touch T8 (lox0.ne (by omega))
  have oa08 : Off (IntsR kx0) (IntsR ⟨A0, n0, c0⟩) := (Off.up (loa0.mono (by omega)) hix0)
  have Ra08 := Ra07.touch T8 oa08
  have ow08 : Off (IntsR kx0) (FrameR kw0) := (Off.up (low0.mono (by omega)) hix0)
  have Rw08 := Rw07.touch T8 ow08
  have Ww08 := Ww07.touch Rw07 T8 ow08
  have og08 : Off (IntsR kx0) (FrameR kg0) := (Off.dn hig0 (lox0.mono (by omega)))
  have Rg08 := Rg07.touch T8 og08
  have Wg08 := Wg07.touch Rg07 T8 og08
  have hw8 : Below w.heap.size w w8 := bstepT hw7 T8 (Nat.le_refl _) (hix0.mono (by omega))
  clear Wg07 Ww07 Wx07 Rx07 cw07 qw07 Kw07 cg07 qg07 Kg07 Ra07 Rw07 Rg07 T8 hw7
  have cw08 := fun o => Kw08.cell o
  have qw08 := Kw08.lt
  have cg08 := fun o => Kg08.cell o
  have qg08 := Kg08.lt
  have hq8 := IntsQ_bd okx0 1
  have nq8 : ¬ IntsQ kx0 1 < 0 := by omega
  go_wp2_with fail
  refine (eqFrame_any kg0 kw0 (rfR l0 a1) _ okg0 (Rg08.below (by (repeat (first | (with_reducible assumption) | (with_reducible exact Below.refl _ _) | (with_reducible refine Below.drew ?_) | (with_reducible refine Below.drewN ?_ _) | (with_reducible refine Below.setCell ?_ ?_ _) | (with_reducible refine Below.alloc ?_ ?_ _) | assumption)); all_goals (first | omega | (simp; done) | (simp; omega)))) (Rw08.below (by (repeat (first | (with_reducible assumption) | (with_reducible exact Below.refl _ _) | (with_reducible refine Below.drew ?_) | (with_reducible refine Below.drewN ?_ _) | (with_reducible refine Below.setCell ?_ ?_ _) | (with_reducible refine Below.alloc ?_ ?_ _) | assumption)); all_goals (first | omega | (simp; done) | (simp; omega))))).mono ?_
  rintro e w9 ⟨rfl, b9⟩
  have hb9 : Below w8.heap.size w8 w9 := (show Below w8.heap.size w8 _ from (by (repeat (first | (with_reducible assumption) | (with_reducible exact Below.refl _ _) | (with_reducible refine Below.drew ?_) | (with_reducible refine Below.drewN ?_ _) | (with_reducible refine Below.setCell ?_ ?_ _) | (with_reducible refine Below.alloc ?_ ?_ _) | assumption)); all_goals (first | omega | (simp; done) | (simp; omega)))).trans (b9.mono (by first | omega | (simp; done) | (simp; omega)))
  have z9 : w8.heap.size ≤ w9.heap.size := Nat.le_trans (by first | omega | (simp; done) | (simp; omega)) b9.size
  have Kw09 := Kw08.below hb9 Kw08.lt
  have Kg09 := Kg08.below hb9 Kg08.lt
  have Ra09 := Ra08.below hb9
  have Rw09 := Rw08.below hb9
  have Ww09 := Ww08.below Rw08 hb9
  have Rg09 := Rg08.below hb9
  have Wg09 := Wg08.below Rg08 hb9
  have hw9 : Below w.heap.size w w9 := hw8.trans (hb9.mono hw8.size)
  clear Wg08 Ww08 cw08 qw08 Kw08 cg08 qg08 Kg08 Ra08 Rw08 Rg08 b9 hb9 hw8
  have cw09 := fun o => Kw09.cell o
  have qw09 := Kw09.lt
  have cg09 := fun o => Kg09.cell o
  have qg09 := Kg09.lt
  go_wp2_with fail
  refine (markFrame_any kg0 (rfR l0 a1) 1 _ _ okg0 (by omega) (by omega) Rg09 Wg09 sg0).mono ?_
  rintro e w10 ⟨rfl, T10, Mg010, Xg010⟩
  have z10 := T10.size
  have Kw010 := Kw09.touch T10 (hig0.ne (by omega))
  have Kg010 := Kg09.touch T10 (log0.ne (by omega))
  have oa010 : Off (FrameR kg0) (IntsR ⟨A0, n0, c0⟩) := (Off.up (loa0.mono (by omega)) hig0)
  have Ra010 := Ra09.touch T10 oa010
  have ow010 : Off (FrameR kg0) (FrameR kw0) := (Off.up (low0.mono (by omega)) hig0)
  have Rw010 := Rw09.touch T10 ow010
  have Ww010 := Ww09.touch Rw09 T10 ow010
  have hw10 : Below w.heap.size w w10 := bstepT hw9 T10 (Nat.le_refl _) (hig0.mono (by omega))
  clear Ww09 Wg09 Rg09 cw09 qw09 Kw09 cg09 qg09 Kg09 Ra09 Rw09 T10 hw9
  have cw010 := fun o => Kw010.cell o
  have qw010 := Kw010.lt
  have cg010 := fun o => Kg010.cell o
  have qg010 := Kg010.lt
  have hq10 := FrameQ_bd okg0 1
  have nq10 : ¬ FrameQ kg0 1 < 0 := by omega
  have RG10 := Mg010
  have loG := log0
  go_wp2_with fail
  refine (heldFrame_any kg0 (rfR l0 a1) 1 _ okg0 (by omega) (by omega) (RG10.below (by (repeat (first | (with_reducible assumption) | (with_reducible exact Below.refl _ _) | (with_reducible refine Below.drew ?_) | (with_reducible refine Below.drewN ?_ _) | (with_reducible refine Below.setCell ?_ ?_ _) | (with_reducible refine Below.alloc ?_ ?_ _) | assumption)); all_goals (first | omega | (simp; done) | (simp; omega))))).mono ?_
  rintro e w11 ⟨rfl, b11⟩
  have hb11 : Below w10.heap.size w10 w11 := (show Below w10.heap.size w10 _ from (by (repeat (first | (with_reducible assumption) | (with_reducible exact Below.refl _ _) | (with_reducible refine Below.drew ?_) | (with_reducible refine Below.drewN ?_ _) | (with_reducible refine Below.setCell ?_ ?_ _) | (with_reducible refine Below.alloc ?_ ?_ _) | assumption)); all_goals (first | omega | (simp; done) | (simp; omega)))).trans (b11.mono (by first | omega | (simp; done) | (simp; omega)))
  have z11 : w10.heap.size ≤ w11.heap.size := Nat.le_trans (by first | omega | (simp; done) | (simp; omega)) b11.size
  have Kw011 := Kw010.below hb11 Kw010.lt
  have Kg011 := Kg010.below hb11 Kg010.lt
  have Ra011 := Ra010.below hb11
  have Rw011 := Rw010.below hb11
  have Ww011 := Ww010.below Rw010 hb11
  have RG11 := RG10.below hb11
  have hw11 : Below w.heap.size w w11 := hw10.trans (hb11.mono hw10.size)
  clear Ww010 cw010 qw010 Kw010 cg010 qg010 Kg010 Ra010 Rw010 RG10 b11 hb11 hw10
  have cw011 := fun o => Kw011.cell o
  have qw011 := Kw011.lt
  have cg011 := fun o => Kg011.cell o
  have qg011 := Kg011.lt
  go_wp2_with fail
  refine (toInts_any ⟨A0, n0, c0⟩ l0 _ oka0 (Ra011.below (by (repeat (first | (with_reducible assumption) | (with_reducible exact Below.refl _ _) | (with_reducible refine Below.drew ?_) | (with_reducible refine Below.drewN ?_ _) | (with_reducible refine Below.setCell ?_ ?_ _) | (with_reducible refine Below.alloc ?_ ?_ _) | assumption)); all_goals (first | omega | (simp; done) | (simp; omega))))).mono ?_
  rintro e w12 ⟨kt0, he12, okt0, Rt012, Wt012', st0, b12⟩
  unfold IntsV at he12
  subst he12
  have Wt012 := Wt012'.lower (show w11.heap.size ≤ _ from (by first | omega | (simp; done) | (simp; omega)))
  clear Wt012'
  have hb12 : Below w11.heap.size w11 w12 := (show Below w11.heap.size w11 _ from (by (repeat (first | (with_reducible assumption) | (with_reducible exact Below.refl _ _) | (with_reducible refine Below.drew ?_) | (with_reducible refine Below.drewN ?_ _) | (with_reducible refine Below.setCell ?_ ?_ _) | (with_reducible refine Below.alloc ?_ ?_ _) | assumption)); all_goals (first | omega | (simp; done) | (simp; omega)))).trans (b12.mono (by first | omega | (simp; done) | (simp; omega)))
  have z12 : w11.heap.size ≤ w12.heap.size := Nat.le_trans (by first | omega | (simp; done) | (simp; omega)) b12.size
  have Kw012 := Kw011.below hb12 Kw011.lt
  have Kg012 := Kg011.below hb12 Kg011.lt
  have Ra012 := Ra011.below hb12
  have Rw012 := Rw011.below hb12
  have Ww012 := Ww011.below Rw011 hb12
  have RG12 := RG11.below hb12
  have hw12 : Below w.heap.size w w12 := hw11.trans (hb12.mono hw11.size)
  clear Ww011 cw011 qw011 Kw011 cg011 qg011 Kg011 Ra011 Rw011 RG11 b12 hb12 hw11
  have cw012 := fun o => Kw012.cell o
  have qw012 := Kw012.lt
  have cg012 := fun o => Kg012.cell o
  have qg012 := Kg012.lt
  have lot0 : Lo (IntsR kt0) w12.heap.size := RdAll.lo Rt012
  have hit0 : Hi (IntsR kt0) _ := WrAll.hi Wt012
  go_wp2_with fail
  refine (implReceiveFrame'_any kt0 l0 a1 _ okt0 (Rt012.below (by (repeat (first | (with_reducible assumption) | (with_reducible exact Below.refl _ _) | (with_reducible refine Below.drew ?_) | (with_reducible refine Below.drewN ?_ _) | (with_reducible refine Below.setCell ?_ ?_ _) | (with_reducible refine Below.alloc ?_ ?_ _) | assumption)); all_goals (first | omega | (simp; done) | (simp; omega))))).mono ?_
  rintro e w13 ⟨kh0, he13, okh0, Rh013, Wh013', sh0, b13⟩
  unfold FrameV at he13
  subst he13
  have Wh013 := Wh013'.lower (show w12.heap.size ≤ _ from (by first | omega | (simp; done) | (simp; omega)))
  clear Wh013'
  have hb13 : Below w12.heap.size w12 w13 := (show Below w12.heap.size w12 _ from (by (repeat (first | (with_reducible assumption) | (with_reducible exact Below.refl _ _) | (with_reducible refine Below.drew ?_) | (with_reducible refine Below.drewN ?_ _) | (with_reducible refine Below.setCell ?_ ?_ _) | (with_reducible refine Below.alloc ?_ ?_ _) | assumption)); all_goals (first | omega | (simp; done) | (simp; omega)))).trans (b13.mono (by first | omega | (simp; done) | (simp; omega)))
  have z13 : w12.heap.size ≤ w13.heap.size := Nat.le_trans (by first | omega | (simp; done) | (simp; omega)) b13.size
  have Kw013 := Kw012.below hb13 Kw012.lt
  have Kg013 := Kg012.below hb13 Kg012.lt
  have Ra013 := Ra012.below hb13
  have Rw013 := Rw012.below hb13
  have Ww013 := Ww012.below Rw012 hb13
  have RG13 := RG12.below hb13
  have Rt013 := Rt012.below hb13
  have Wt013 := Wt012.below Rt012 hb13
  have hw13 : Below w.heap.size w w13 := hw12.trans (hb13.mono hw12.size)
  clear Wt012 Ww012 cw012 qw012 Kw012 cg012 qg012 Kg012 Ra012 Rw012 RG12 Rt012 b13 hb13 hw12
  have cw013 := fun o => Kw013.cell o
  have qw013 := Kw013.lt
  have cg013 := fun o => Kg013.cell o
  have qg013 := Kg013.lt
  have loh0 : Lo (FrameR kh0) w13.heap.size := RdAll.lo Rh013
  have hih0 : Hi (FrameR kh0) _ := WrAll.hi Wh013
  go_wp2_with fail
  refine (eqFrame_any kh0 kw0 (rfR l0 a1) _ okh0 (Rh013.below (by (repeat (first | (with_reducible assumption) | (with_reducible exact Below.refl _ _) | (with_reducible refine Below.drew ?_) | (with_reducible refine Below.drewN ?_ _) | (with_reducible refine Below.setCell ?_ ?_ _) | (with_reducible refine Below.alloc ?_ ?_ _) | assumption)); all_goals (first | omega | (simp; done) | (simp; omega)))) (Rw013.below (by (repeat (first | (with_reducible assumption) | (with_reducible exact Below.refl _ _) | (with_reducible refine Below.drew ?_) | (with_reducible refine Below.drewN ?_ _) | (with_reducible refine Below.setCell ?_ ?_ _) | (with_reducible refine Below.alloc ?_ ?_ _) | assumption)); all_goals (first | omega | (simp; done) | (simp; omega))))).mono ?_
  rintro e w14 ⟨rfl, b14⟩
  have hb14 : Below w13.heap.size w13 w14 := (show Below w13.heap.size w13 _ from (by (repeat (first | (with_reducible assumption) | (with_reducible exact Below.refl _ _) | (with_reducible refine Below.drew ?_) | (with_reducible refine Below.drewN ?_ _) | (with_reducible refine Below.setCell ?_ ?_ _) | (with_reducible refine Below.alloc ?_ ?_ _) | assumption)); all_goals (first | omega | (simp; done) | (simp; omega)))).trans (b14.mono (by first | omega | (simp; done) | (simp; omega)))
  have z14 : w13.heap.size + 1 ≤ w14.heap.size := Nat.le_trans (by first | omega | (simp; done) | (simp; omega)) b14.size
  have Kw014 := Kw013.below hb14 Kw013.lt
  have Kg014 := Kg013.below hb14 Kg013.lt
  have Kh014 : Blk w14 (w13.heap.size) 28 #[.int .i64 (rfR l0 a1).kind, .int .i64 (rfR l0 a1).number, .slice kh0.payload.A kh0.payload.n kh0.payload.c] := Blk.below (by repeat (first | exact Blk.newN _ _ _ (by simp; done) | refine Blk.alloc ?_ _)) b14 (by first | omega | (simp; done) | (simp; omega))
  have Ra014 := Ra013.below hb14
  have Rw014 := Rw013.below hb14
  have Ww014 := Ww013.below Rw013 hb14
  have RG14 := RG13.below hb14
  have Rt014 := Rt013.below hb14
  have Wt014 := Wt013.below Rt013 hb14
  have Rh014 := Rh013.below hb14
  have Wh014 := Wh013.below Rh013 hb14
  have hw14 : Below w.heap.size w w14 := hw13.trans (hb14.mono hw13.size)
  clear Wh013 Wt013 Ww013 cw013 qw013 Kw013 cg013 qg013 Kg013 Ra013 Rw013 RG13 Rt013 Rh013 b14 hb14 hw13
  have cw014 := fun o => Kw014.cell o
  have qw014 := Kw014.lt
  have cg014 := fun o => Kg014.cell o
  have qg014 := Kg014.lt
  have ch014 := fun o => Kh014.cell o
  have qh014 := Kh014.lt
  go_wp2_with fail
  refine (heldFrame_any kg0 (rfR l0 a1) 1 _ okg0 (by omega) (by omega) (RG14.below (by (repeat (first | (with_reducible assumption) | (with_reducible exact Below.refl _ _) | (with_reducible refine Below.drew ?_) | (with_reducible refine Below.drewN ?_ _) | (with_reducible refine Below.setCell ?_ ?_ _) | (with_reducible refine Below.alloc ?_ ?_ _) | assumption)); all_goals (first | omega | (simp; done) | (simp; omega))))).mono ?_
  rintro e w15 ⟨rfl, b15⟩
  have hb15 : Below w14.heap.size w14 w15 := (show Below w14.heap.size w14 _ from (by (repeat (first | (with_reducible assumption) | (with_reducible exact Below.refl _ _) | (with_reducible refine Below.drew ?_) | (with_reducible refine Below.drewN ?_ _) | (with_reducible refine Below.setCell ?_ ?_ _) | (with_reducible refine Below.alloc ?_ ?_ _) | assumption)); all_goals (first | omega | (simp; done) | (simp; omega)))).trans (b15.mono (by first | omega | (simp; done) | (simp; omega)))
  have z15 : w14.heap.size ≤ w15.heap.size := Nat.le_trans (by first | omega | (simp; done) | (simp; omega)) b15.size
  have Kw015 := Kw014.below hb15 Kw014.lt
  have Kg015 := Kg014.below hb15 Kg014.lt
  have Kh015 := Kh014.below hb15 Kh014.lt
  have Ra015 := Ra014.below hb15
  have Rw015 := Rw014.below hb15
  have Ww015 := Ww014.below Rw014 hb15
  have RG15 := RG14.below hb15
  have Rt015 := Rt014.below hb15
  have Wt015 := Wt014.below Rt014 hb15
  have Rh015 := Rh014.below hb15
  have Wh015 := Wh014.below Rh014 hb15
  have hw15 : Below w.heap.size w w15 := hw14.trans (hb15.mono hw14.size)
  clear Wh014 Wt014 Ww014 cw014 qw014 Kw014 cg014 qg014 Kg014 ch014 qh014 Kh014 Ra014 Rw014 RG14 Rt014 Rh014 b15 hb15 hw14
  have cw015 := fun o => Kw015.cell o
  have qw015 := Kw015.lt
  have cg015 := fun o => Kg015.cell o
  have qg015 := Kg015.lt
  have ch015 := fun o => Kh015.cell o
  have qh015 := Kh015.lt
  go_wp2_with fail
  go_ret
  exact ⟨rfl, hw15⟩

theorem FnExactReceiveFrame_walk (w : World) (A0 : Option Addr) (n0 c0 : Nat) (l0 : List Int) (g0 : ArgI w A0 n0 c0 l0) (a1 : Int) (_ : (Lit.int .i64 a1).wf = true) :
    Calls Try.prog 5 #[.slice A0 n0 c0, .int .i64 a1] w fun e w' => e = .returned (.bool true) ∧ Below w.heap.size w w' := by
  exact lawReceiveFrame_any ⟨A0, n0, c0⟩ l0 a1 w g0.max (RdAll.cons (s := ⟨A0, n0, ints l0⟩) g0.rd (RdAll.nil _)) 
end Go.Proofs.Ytlgmdekhlcbhoaa
