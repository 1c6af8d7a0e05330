/- The law FnExactSendFrame, walked. No condition beyond what an argument of its type bears. -/
import Derived.Test.YtlgmdekhlcbhoaaOpenFrame
import Derived.Test.YtlgmdekhlcbhoaaFraS
import Derived.Deep.RegionWith
import Derived.Deep.DeepCutAuto
namespace Go.Proofs.Ytlgmdekhlcbhoaa
open Go.RowKit

set_option maxRecDepth 100000 in
set_option maxHeartbeats 8000000 in
theorem lawSendFrame_any (h0 : FrameH) (l0 : FrameC) (w : World) (mx0 : h0.payload.n ≤ 9223372036854775807) (Ra00 : RdAll w (FrameS h0 l0)) :
    Calls Try.prog 3 #[FrameV h0 l0] w fun e w' => e = .returned (.bool true) ∧ Below w.heap.size w w' := by
  have hw0 := Below.refl w.heap.size w
  have loa0 : Lo (FrameR h0) w.heap.size := RdAll.lo Ra00
  show Calls Try.prog 3 #[.agg #[.int .i64 l0.kind, .int .i64 l0.number, .slice h0.payload.A h0.payload.n h0.payload.c]] w _
  go_enter Try.func3, Try.ntmps3
  go_wp2_with fail
  refine (szFrame_any h0 l0 1048576 _ mx0 (by omega) (by omega) ).mono ?_
  rintro e w1 ⟨v0, rfl, hv0, b1⟩
  have hb1 : Below w.heap.size w w1 := (show Below w.heap.size w _ from (by (repeat (first | (with_reducible assumption) | (with_reducible exact Below.refl _ _) | (with_reducible refine Below.drew ?_) | (with_reducible refine Below.drewN ?_ _) | (with_reducible refine Below.setCell ?_ ?_ _) | (with_reducible refine Below.alloc ?_ ?_ _) | assumption)); all_goals (first | omega | (simp; done) | (simp; omega)))).trans (b1.mono (by first | omega | (simp; done) | (simp; omega)))
  have z1 : w.heap.size + 1 ≤ w1.heap.size := Nat.le_trans (by first | omega | (simp; done) | (simp; omega)) b1.size
  have Ka01 : Blk w1 (w.heap.size) 24 #[.int .i64 l0.kind, .int .i64 l0.number, .slice h0.payload.A h0.payload.n h0.payload.c] := Blk.below (by repeat (first | exact Blk.newN _ _ _ (by simp; done) | refine Blk.alloc ?_ _)) b1 (by first | omega | (simp; done) | (simp; omega))
  have Ra01 := Ra00.below hb1
  have hw1 : Below w.heap.size w w1 := hb1
  clear Ra00 b1 hb1
  have ca01 := fun o => Ka01.cell o
  have qa01 := Ka01.lt
  rcases hv0 with hv0 | ⟨hv0, hu0, oka0⟩
  · go_wp2_with fail
    go_ret
    exact ⟨rfl, (by (repeat (first | (with_reducible assumption) | (with_reducible exact Below.refl _ _) | (with_reducible refine Below.drew ?_) | (with_reducible refine Below.drewN ?_ _) | (with_reducible refine Below.setCell ?_ ?_ _) | (with_reducible refine Below.alloc ?_ ?_ _) | assumption)); all_goals (first | omega | (simp; done) | (simp; omega)))⟩
  have nv0 : ¬ v0 < 0 := by omega
  go_wp2_with fail
  refine (toFrame_any h0 l0 _ oka0 (Ra01.below (by (repeat (first | (with_reducible assumption) | (with_reducible exact Below.refl _ _) | (with_reducible refine Below.drew ?_) | (with_reducible refine Below.drewN ?_ _) | (with_reducible refine Below.setCell ?_ ?_ _) | (with_reducible refine Below.alloc ?_ ?_ _) | assumption)); all_goals (first | omega | (simp; done) | (simp; omega))))).mono ?_
  rintro e w2 ⟨ks0, he2, oks0, Rs02, Ws02', ss0, b2⟩
  unfold FrameV at he2
  subst he2
  have Ws02 := Ws02'.lower (show w1.heap.size ≤ _ from (by first | omega | (simp; done) | (simp; omega)))
  clear Ws02'
  have hb2 : Below w1.heap.size w1 w2 := (show Below w1.heap.size w1 _ from (by (repeat (first | (with_reducible assumption) | (with_reducible exact Below.refl _ _) | (with_reducible refine Below.drew ?_) | (with_reducible refine Below.drewN ?_ _) | (with_reducible refine Below.setCell ?_ ?_ _) | (with_reducible refine Below.alloc ?_ ?_ _) | assumption)); all_goals (first | omega | (simp; done) | (simp; omega)))).trans (b2.mono (by first | omega | (simp; done) | (simp; omega)))
  have z2 : w1.heap.size ≤ w2.heap.size := Nat.le_trans (by first | omega | (simp; done) | (simp; omega)) b2.size
  have Ka02 := Ka01.below hb2 Ka01.lt
  have Ra02 := Ra01.below hb2
  have hw2 : Below w.heap.size w w2 := hw1.trans (hb2.mono hw1.size)
  clear ca01 qa01 Ka01 Ra01 b2 hb2 hw1
  have ca02 := fun o => Ka02.cell o
  have qa02 := Ka02.lt
  have los0 : Lo (FrameR ks0) w2.heap.size := RdAll.lo Rs02
  have his0 : Hi (FrameR ks0) _ := WrAll.hi Ws02
  go_wp2_with fail
  refine (specSendFrame'_any ks0 l0 _ oks0 (Rs02.below (by (repeat (first | (with_reducible assumption) | (with_reducible exact Below.refl _ _) | (with_reducible refine Below.drew ?_) | (with_reducible refine Below.drewN ?_ _) | (with_reducible refine Below.setCell ?_ ?_ _) | (with_reducible refine Below.alloc ?_ ?_ _) | assumption)); all_goals (first | omega | (simp; done) | (simp; omega))))).mono ?_
  rintro e w3 ⟨kw0, he3, okw0, Rw03, Ww03', sw0, b3⟩
  unfold IntsV at he3
  subst he3
  have Ww03 := Ww03'.lower (show w2.heap.size ≤ _ from (by first | omega | (simp; done) | (simp; omega)))
  clear Ww03'
  have hb3 : Below w2.heap.size w2 w3 := (show Below w2.heap.size w2 _ from (by (repeat (first | (with_reducible assumption) | (with_reducible exact Below.refl _ _) | (with_reducible refine Below.drew ?_) | (with_reducible refine Below.drewN ?_ _) | (with_reducible refine Below.setCell ?_ ?_ _) | (with_reducible refine Below.alloc ?_ ?_ _) | assumption)); all_goals (first | omega | (simp; done) | (simp; omega)))).trans (b3.mono (by first | omega | (simp; done) | (simp; omega)))
  have z3 : w2.heap.size ≤ w3.heap.size := Nat.le_trans (by first | omega | (simp; done) | (simp; omega)) b3.size
  have Ka03 := Ka02.below hb3 Ka02.lt
  have Ra03 := Ra02.below hb3
  have Rs03 := Rs02.below hb3
  have Ws03 := Ws02.below Rs02 hb3
  have hw3 : Below w.heap.size w w3 := hw2.trans (hb3.mono hw2.size)
  clear Ws02 ca02 qa02 Ka02 Ra02 Rs02 b3 hb3 hw2
  have ca03 := fun o => Ka03.cell o
  have qa03 := Ka03.lt
  have low0 : Lo (IntsR kw0) w3.heap.size := RdAll.lo Rw03
  have hiw0 : Hi (IntsR kw0) _ := WrAll.hi Ww03
  go_wp2_with fail
  refine (toFrame_any h0 l0 _ oka0 (Ra03.below (by (repeat (first | (with_reducible assumption) | (with_reducible exact Below.refl _ _) | (with_reducible refine Below.drew ?_) | (with_reducible refine Below.drewN ?_ _) | (with_reducible refine Below.setCell ?_ ?_ _) | (with_reducible refine Below.alloc ?_ ?_ _) | assumption)); all_goals (first | omega | (simp; done) | (simp; omega))))).mono ?_
  rintro e w4 ⟨kx0, he4, okx0, Rx04, Wx04', sx0, b4⟩
  unfold FrameV at he4
  subst he4
  have Wx04 := Wx04'.lower (show w3.heap.size ≤ _ from (by first | omega | (simp; done) | (simp; omega)))
  clear Wx04'
  have hb4 : Below w3.heap.size w3 w4 := (show Below w3.heap.size w3 _ from (by (repeat (first | (with_reducible assumption) | (with_reducible exact Below.refl _ _) | (with_reducible refine Below.drew ?_) | (with_reducible refine Below.drewN ?_ _) | (with_reducible refine Below.setCell ?_ ?_ _) | (with_reducible refine Below.alloc ?_ ?_ _) | assumption)); all_goals (first | omega | (simp; done) | (simp; omega)))).trans (b4.mono (by first | omega | (simp; done) | (simp; omega)))
  have z4 : w3.heap.size ≤ w4.heap.size := Nat.le_trans (by first | omega | (simp; done) | (simp; omega)) b4.size
  have Ka04 := Ka03.below hb4 Ka03.lt
  have Ra04 := Ra03.below hb4
  have Rw04 := Rw03.below hb4
  have Ww04 := Ww03.below Rw03 hb4
  have hw4 : Below w.heap.size w w4 := hw3.trans (hb4.mono hw3.size)
  clear Ww03 ca03 qa03 Ka03 Ra03 Rw03 b4 hb4 hw3
  have ca04 := fun o => Ka04.cell o
  have qa04 := Ka04.lt
  have lox0 : Lo (FrameR kx0) w4.heap.size := RdAll.lo Rx04
  have hix0 : Hi (FrameR kx0) _ := WrAll.hi Wx04
  go_wp2_with fail
  refine (implSendFrame'_any kx0 l0 _ okx0 (Rx04.below (by (repeat (first | (with_reducible assumption) | (with_reducible exact Below.refl _ _) | (with_reducible refine Below.drew ?_) | (with_reducible refine Below.drewN ?_ _) | (with_reducible refine Below.setCell ?_ ?_ _) | (with_reducible refine Below.alloc ?_ ?_ _) | assumption)); all_goals (first | omega | (simp; done) | (simp; omega))))).mono ?_
  rintro e w5 ⟨kg0, he5, okg0, Rg05, Wg05', sg0, b5⟩
  unfold IntsV at he5
  subst he5
  have Wg05 := Wg05'.lower (show w4.heap.size + 1 ≤ _ from (by first | omega | (simp; done) | (simp; omega)))
  clear Wg05'
  have hb5 : Below w4.heap.size w4 w5 := (show Below w4.heap.size w4 _ from (by (repeat (first | (with_reducible assumption) | (with_reducible exact Below.refl _ _) | (with_reducible refine Below.drew ?_) | (with_reducible refine Below.drewN ?_ _) | (with_reducible refine Below.setCell ?_ ?_ _) | (with_reducible refine Below.alloc ?_ ?_ _) | assumption)); all_goals (first | omega | (simp; done) | (simp; omega)))).trans (b5.mono (by first | omega | (simp; done) | (simp; omega)))
  have z5 : w4.heap.size + 1 ≤ w5.heap.size := Nat.le_trans (by first | omega | (simp; done) | (simp; omega)) b5.size
  have Ka05 := Ka04.below hb5 Ka04.lt
  have Kx05 : Blk w5 (w4.heap.size) 28 #[.int .i64 l0.kind, .int .i64 l0.number, .slice kx0.payload.A kx0.payload.n kx0.payload.c] := Blk.below (by repeat (first | exact Blk.newN _ _ _ (by simp; done) | refine Blk.alloc ?_ _)) b5 (by first | omega | (simp; done) | (simp; omega))
  have Ra05 := Ra04.below hb5
  have Rw05 := Rw04.below hb5
  have Ww05 := Ww04.below Rw04 hb5
  have Rx05 := Rx04.below hb5
  have Wx05 := Wx04.below Rx04 hb5
  have hw5 : Below w.heap.size w w5 := hw4.trans (hb5.mono hw4.size)
  clear Wx04 Ww04 ca04 qa04 Ka04 Ra04 Rw04 Rx04 b5 hb5 hw4
  have ca05 := fun o => Ka05.cell o
  have qa05 := Ka05.lt
  have cx05 := fun o => Kx05.cell o
  have qx05 := Kx05.lt
  have log0 : Lo (IntsR kg0) w5.heap.size := RdAll.lo Rg05
  have hig0 : Hi (IntsR kg0) _ := WrAll.hi Wg05
  go_wp2_with fail
  refine (eqInts_any kg0 kw0 (sendR l0) _ okg0 (Rg05.below (by (repeat (first | (with_reducible assumption) | (with_reducible exact Below.refl _ _) | (with_reducible refine Below.drew ?_) | (with_reducible refine Below.drewN ?_ _) | (with_reducible refine Below.setCell ?_ ?_ _) | (with_reducible refine Below.alloc ?_ ?_ _) | assumption)); all_goals (first | omega | (simp; done) | (simp; omega)))) (Rw05.below (by (repeat (first | (with_reducible assumption) | (with_reducible exact Below.refl _ _) | (with_reducible refine Below.drew ?_) | (with_reducible refine Below.drewN ?_ _) | (with_reducible refine Below.setCell ?_ ?_ _) | (with_reducible refine Below.alloc ?_ ?_ _) | assumption)); all_goals (first | omega | (simp; done) | (simp; omega))))).mono ?_
  rintro e w6 ⟨rfl, b6⟩
  have hb6 : Below w5.heap.size w5 w6 := (show Below w5.heap.size w5 _ from (by (repeat (first | (with_reducible assumption) | (with_reducible exact Below.refl _ _) | (with_reducible refine Below.drew ?_) | (with_reducible refine Below.drewN ?_ _) | (with_reducible refine Below.setCell ?_ ?_ _) | (with_reducible refine Below.alloc ?_ ?_ _) | assumption)); all_goals (first | omega | (simp; done) | (simp; omega)))).trans (b6.mono (by first | omega | (simp; done) | (simp; omega)))
  have z6 : w5.heap.size ≤ w6.heap.size := Nat.le_trans (by first | omega | (simp; done) | (simp; omega)) b6.size
  have Ka06 := Ka05.below hb6 Ka05.lt
  have Kx06 := Kx05.below hb6 Kx05.lt
  have Ra06 := Ra05.below hb6
  have Rw06 := Rw05.below hb6
  have Ww06 := Ww05.below Rw05 hb6
  have Rx06 := Rx05.below hb6
  have Wx06 := Wx05.below Rx05 hb6
  have Rg06 := Rg05.below hb6
  have Wg06 := Wg05.below Rg05 hb6
  have hw6 : Below w.heap.size w w6 := hw5.trans (hb6.mono hw5.size)
  clear Wg05 Wx05 Ww05 ca05 qa05 Ka05 cx05 qx05 Kx05 Ra05 Rw05 Rx05 Rg05 b6 hb6 hw5
  have ca06 := fun o => Ka06.cell o
  have qa06 := Ka06.lt
  have cx06 := fun o => Kx06.cell o
  have qx06 := Kx06.lt
  go_upto_region 10 with fail
  go_cut [45] (fun c wx => c = .bool false ∧ Below w6.heap.size w6 wx)
  case first =>
    go_region_with (first | (go_at_call 17; refine (toFrame_any h0 l0 _ oka0 (Ra06.below (by (repeat (first | (with_reducible assumption) | (with_reducible exact Below.refl _ _) | (with_reducible refine Below.drew ?_) | (with_reducible refine Below.drewN ?_ _) | (with_reducible refine Below.setCell ?_ ?_ _) | (with_reducible refine Below.alloc ?_ ?_ _) | assumption)); all_goals (first | omega | (simp; done) | (simp; omega))))).mono ?_; rintro e wa ⟨ka, hea, oka, Ra, Wa, sa, ba⟩; unfold FrameV at hea; subst hea; have hba : Below w6.heap.size w6 wa := (show Below w6.heap.size w6 _ from (by (repeat (first | (with_reducible assumption) | (with_reducible exact Below.refl _ _) | (with_reducible refine Below.drew ?_) | (with_reducible refine Below.drewN ?_ _) | (with_reducible refine Below.setCell ?_ ?_ _) | (with_reducible refine Below.alloc ?_ ?_ _) | assumption)); all_goals (first | omega | (simp; done) | (simp; omega)))).trans (ba.mono (by first | omega | (simp; done) | (simp; omega))); clear ba; have hza := hba.size; have hcx := fun o => (Kx06.below hba Kx06.lt).cell o) | (go_at_call 20; refine (eqFrame_any kx0 _ l0 _ okx0 (Rx06.below (by (repeat (first | (with_reducible assumption) | (with_reducible exact Below.refl _ _) | (with_reducible refine Below.drew ?_) | (with_reducible refine Below.drewN ?_ _) | (with_reducible refine Below.setCell ?_ ?_ _) | (with_reducible refine Below.alloc ?_ ?_ _) | assumption)); all_goals (first | omega | (simp; done) | (simp; omega)))) (by first | exact Ra | exact Ra.below (by (repeat (first | (with_reducible assumption) | (with_reducible exact Below.refl _ _) | (with_reducible refine Below.drew ?_) | (with_reducible refine Below.drewN ?_ _) | (with_reducible refine Below.setCell ?_ ?_ _) | (with_reducible refine Below.alloc ?_ ?_ _) | assumption)); all_goals (first | omega | (simp; done) | (simp; omega))))).mono ?_; rintro e wb ⟨rfl, bb⟩))
    all_goals (go_wp2_with fail; go_meet; exact ⟨rfl, (show Below w6.heap.size w6 _ from (by (repeat (first | (with_reducible assumption) | (with_reducible exact Below.refl _ _) | (with_reducible refine Below.drew ?_) | (with_reducible refine Below.drewN ?_ _) | (with_reducible refine Below.setCell ?_ ?_ _) | (with_reducible refine Below.alloc ?_ ?_ _) | assumption)); all_goals (first | omega | (simp; done) | (simp; omega)))).trans (bb.mono (by first | omega | (simp; done) | (simp; omega)))⟩)
  case rest =>
    obtain ⟨rfl, b7⟩ := hcut
    obtain ⟨w7, rfl⟩ : ∃ x : World, x = wc := ⟨_, rfl⟩
    have hb7 : Below w6.heap.size w6 w7 := (show Below w6.heap.size w6 _ from (by (repeat (first | (with_reducible assumption) | (with_reducible exact Below.refl _ _) | (with_reducible refine Below.drew ?_) | (with_reducible refine Below.drewN ?_ _) | (with_reducible refine Below.setCell ?_ ?_ _) | (with_reducible refine Below.alloc ?_ ?_ _) | assumption)); all_goals (first | omega | (simp; done) | (simp; omega)))).trans (b7.mono (by first | omega | (simp; done) | (simp; omega)))
    have z7 : w6.heap.size ≤ w7.heap.size := Nat.le_trans (by first | omega | (simp; done) | (simp; omega)) b7.size
    have Ka07 := Ka06.below hb7 Ka06.lt
    have Kx07 := Kx06.below hb7 Kx06.lt
    have Ra07 := Ra06.below hb7
    have Rw07 := Rw06.below hb7
    have Ww07 := Ww06.below Rw06 hb7
    have Rx07 := Rx06.below hb7
    have Wx07 := Wx06.below Rx06 hb7
    have Rg07 := Rg06.below hb7
    have Wg07 := Wg06.below Rg06 hb7
    have hw7 : Below w.heap.size w w7 := hw6.trans (hb7.mono hw6.size)
    clear Wg06 Wx06 Ww06 ca06 qa06 Ka06 cx06 qx06 Kx06 Ra06 Rw06 Rx06 Rg06 b7 hb7 hw6
    have ca07 := fun o => Ka07.cell o
    have qa07 := Ka07.lt
    have cx07 := fun o => Kx07.cell o
    have qx07 := Kx07.lt
    go_wp2_with fail
    refine (markFrame_any kx0 l0 1 _ _ okx0 (by omega) (by omega) Rx07 Wx07 sx0).mono ?_
    rintro e w8 ⟨rfl, T8, Mx08, Xx08⟩
    have z8 := T8.size
    have Ka08 := Ka07.touch T8 (hix0.ne (by omega))
    have Kx08 := Kx07.touch T8 (lox0.ne (by omega))
    have oa08 : Off (FrameR kx0) (FrameR h0) := (Off.up (loa0.mono (by omega)) hix0)
    have Ra08 := Ra07.touch T8 oa08
    have ow08 : Off (FrameR kx0) (IntsR kw0) := (Off.up (low0.mono (by omega)) hix0)
    have Rw08 := Rw07.touch T8 ow08
    have Ww08 := Ww07.touch Rw07 T8 ow08
    have og08 : Off (FrameR kx0) (IntsR kg0) := (Off.dn hig0 (lox0.mono (by omega)))
    have Rg08 := Rg07.touch T8 og08
    have Wg08 := Wg07.touch Rg07 T8 og08
    have hw8 : Below w.heap.size w w8 := bstepT hw7 T8 (Nat.le_refl _) (hix0.mono (by omega))
    clear Wg07 Ww07 Wx07 Rx07 ca07 qa07 Ka07 cx07 qx07 Kx07 Ra07 Rw07 Rg07 T8 hw7
    have ca08 := fun o => Ka08.cell o
    have qa08 := Ka08.lt
    have cx08 := fun o => Kx08.cell o
    have qx08 := Kx08.lt
    have hq8 := FrameQ_bd okx0 1
    have nq8 : ¬ FrameQ kx0 1 < 0 := by omega
    go_wp2_with fail
    refine (eqInts_any kg0 kw0 (sendR l0) _ okg0 (Rg08.below (by (repeat (first | (with_reducible assumption) | (with_reducible exact Below.refl _ _) | (with_reducible refine Below.drew ?_) | (with_reducible refine Below.drewN ?_ _) | (with_reducible refine Below.setCell ?_ ?_ _) | (with_reducible refine Below.alloc ?_ ?_ _) | assumption)); all_goals (first | omega | (simp; done) | (simp; omega)))) (Rw08.below (by (repeat (first | (with_reducible assumption) | (with_reducible exact Below.refl _ _) | (with_reducible refine Below.drew ?_) | (with_reducible refine Below.drewN ?_ _) | (with_reducible refine Below.setCell ?_ ?_ _) | (with_reducible refine Below.alloc ?_ ?_ _) | assumption)); all_goals (first | omega | (simp; done) | (simp; omega))))).mono ?_
    rintro e w9 ⟨rfl, b9⟩
    have hb9 : Below w8.heap.size w8 w9 := (show Below w8.heap.size w8 _ from (by (repeat (first | (with_reducible assumption) | (with_reducible exact Below.refl _ _) | (with_reducible refine Below.drew ?_) | (with_reducible refine Below.drewN ?_ _) | (with_reducible refine Below.setCell ?_ ?_ _) | (with_reducible refine Below.alloc ?_ ?_ _) | assumption)); all_goals (first | omega | (simp; done) | (simp; omega)))).trans (b9.mono (by first | omega | (simp; done) | (simp; omega)))
    have z9 : w8.heap.size ≤ w9.heap.size := Nat.le_trans (by first | omega | (simp; done) | (simp; omega)) b9.size
    have Ka09 := Ka08.below hb9 Ka08.lt
    have Kx09 := Kx08.below hb9 Kx08.lt
    have Ra09 := Ra08.below hb9
    have Rw09 := Rw08.below hb9
    have Ww09 := Ww08.below Rw08 hb9
    have Rg09 := Rg08.below hb9
    have Wg09 := Wg08.below Rg08 hb9
    have hw9 : Below w.heap.size w w9 := hw8.trans (hb9.mono hw8.size)
    clear Wg08 Ww08 ca08 qa08 Ka08 cx08 qx08 Kx08 Ra08 Rw08 Rg08 b9 hb9 hw8
    have ca09 := fun o => Ka09.cell o
    have qa09 := Ka09.lt
    have cx09 := fun o => Kx09.cell o
    have qx09 := Kx09.lt
    go_wp2_with fail
    refine (markInts_any kg0 (sendR l0) 1 _ _ okg0 (by omega) (by omega) Rg09 Wg09 sg0).mono ?_
    rintro e w10 ⟨rfl, T10, Mg010, Xg010⟩
    have z10 := T10.size
    have Ka010 := Ka09.touch T10 (hig0.ne (by omega))
    have Kx010 := Kx09.touch T10 (hig0.ne (by omega))
    have oa010 : Off (IntsR kg0) (FrameR h0) := (Off.up (loa0.mono (by omega)) hig0)
    have Ra010 := Ra09.touch T10 oa010
    have ow010 : Off (IntsR kg0) (IntsR kw0) := (Off.up (low0.mono (by omega)) hig0)
    have Rw010 := Rw09.touch T10 ow010
    have Ww010 := Ww09.touch Rw09 T10 ow010
    have hw10 : Below w.heap.size w w10 := bstepT hw9 T10 (Nat.le_refl _) (hig0.mono (by omega))
    clear Ww09 Wg09 Rg09 ca09 qa09 Ka09 cx09 qx09 Kx09 Ra09 Rw09 T10 hw9
    have ca010 := fun o => Ka010.cell o
    have qa010 := Ka010.lt
    have cx010 := fun o => Kx010.cell o
    have qx010 := Kx010.lt
    have hq10 := IntsQ_bd okg0 1
    have nq10 : ¬ IntsQ kg0 1 < 0 := by omega
    have RG10 := Mg010
    have loG := log0
    go_wp2_with fail
    refine (heldInts_any kg0 (sendR l0) 1 _ okg0 (by omega) (by omega) (RG10.below (by (repeat (first | (with_reducible assumption) | (with_reducible exact Below.refl _ _) | (with_reducible refine Below.drew ?_) | (with_reducible refine Below.drewN ?_ _) | (with_reducible refine Below.setCell ?_ ?_ _) | (with_reducible refine Below.alloc ?_ ?_ _) | assumption)); all_goals (first | omega | (simp; done) | (simp; omega))))).mono ?_
    rintro e w11 ⟨rfl, b11⟩
    have hb11 : Below w10.heap.size w10 w11 := (show Below w10.heap.size w10 _ from (by (repeat (first | (with_reducible assumption) | (with_reducible exact Below.refl _ _) | (with_reducible refine Below.drew ?_) | (with_reducible refine Below.drewN ?_ _) | (with_reducible refine Below.setCell ?_ ?_ _) | (with_reducible refine Below.alloc ?_ ?_ _) | assumption)); all_goals (first | omega | (simp; done) | (simp; omega)))).trans (b11.mono (by first | omega | (simp; done) | (simp; omega)))
    have z11 : w10.heap.size ≤ w11.heap.size := Nat.le_trans (by first | omega | (simp; done) | (simp; omega)) b11.size
    have Ka011 := Ka010.below hb11 Ka010.lt
    have Kx011 := Kx010.below hb11 Kx010.lt
    have Ra011 := Ra010.below hb11
    have Rw011 := Rw010.below hb11
    have Ww011 := Ww010.below Rw010 hb11
    have RG11 := RG10.below hb11
    have hw11 : Below w.heap.size w w11 := hw10.trans (hb11.mono hw10.size)
    clear Ww010 ca010 qa010 Ka010 cx010 qx010 Kx010 Ra010 Rw010 RG10 b11 hb11 hw10
    have ca011 := fun o => Ka011.cell o
    have qa011 := Ka011.lt
    have cx011 := fun o => Kx011.cell o
    have qx011 := Kx011.lt
    go_wp2_with fail
    refine (toFrame_any h0 l0 _ oka0 (Ra011.below (by (repeat (first | (with_reducible assumption) | (with_reducible exact Below.refl _ _) | (with_reducible refine Below.drew ?_) | (with_reducible refine Below.drewN ?_ _) | (with_reducible refine Below.setCell ?_ ?_ _) | (with_reducible refine Below.alloc ?_ ?_ _) | assumption)); all_goals (first | omega | (simp; done) | (simp; omega))))).mono ?_
    rintro e w12 ⟨kt0, he12, okt0, Rt012, Wt012', st0, b12⟩
    unfold FrameV at he12
    subst he12
    have Wt012 := Wt012'.lower (show w11.heap.size ≤ _ from (by first | omega | (simp; done) | (simp; omega)))
    clear Wt012'
    have hb12 : Below w11.heap.size w11 w12 := (show Below w11.heap.size w11 _ from (by (repeat (first | (with_reducible assumption) | (with_reducible exact Below.refl _ _) | (with_reducible refine Below.drew ?_) | (with_reducible refine Below.drewN ?_ _) | (with_reducible refine Below.setCell ?_ ?_ _) | (with_reducible refine Below.alloc ?_ ?_ _) | assumption)); all_goals (first | omega | (simp; done) | (simp; omega)))).trans (b12.mono (by first | omega | (simp; done) | (simp; omega)))
    have z12 : w11.heap.size ≤ w12.heap.size := Nat.le_trans (by first | omega | (simp; done) | (simp; omega)) b12.size
    have Ka012 := Ka011.below hb12 Ka011.lt
    have Kx012 := Kx011.below hb12 Kx011.lt
    have Ra012 := Ra011.below hb12
    have Rw012 := Rw011.below hb12
    have Ww012 := Ww011.below Rw011 hb12
    have RG12 := RG11.below hb12
    have hw12 : Below w.heap.size w w12 := hw11.trans (hb12.mono hw11.size)
    clear Ww011 ca011 qa011 Ka011 cx011 qx011 Kx011 Ra011 Rw011 RG11 b12 hb12 hw11
    have ca012 := fun o => Ka012.cell o
    have qa012 := Ka012.lt
    have cx012 := fun o => Kx012.cell o
    have qx012 := Kx012.lt
    have lot0 : Lo (FrameR kt0) w12.heap.size := RdAll.lo Rt012
    have hit0 : Hi (FrameR kt0) _ := WrAll.hi Wt012
    go_wp2_with fail
    refine (implSendFrame'_any kt0 l0 _ okt0 (Rt012.below (by (repeat (first | (with_reducible assumption) | (with_reducible exact Below.refl _ _) | (with_reducible refine Below.drew ?_) | (with_reducible refine Below.drewN ?_ _) | (with_reducible refine Below.setCell ?_ ?_ _) | (with_reducible refine Below.alloc ?_ ?_ _) | assumption)); all_goals (first | omega | (simp; done) | (simp; omega))))).mono ?_
    rintro e w13 ⟨kh0, he13, okh0, Rh013, Wh013', sh0, b13⟩
    unfold IntsV at he13
    subst he13
    have Wh013 := Wh013'.lower (show w12.heap.size ≤ _ from (by first | omega | (simp; done) | (simp; omega)))
    clear Wh013'
    have hb13 : Below w12.heap.size w12 w13 := (show Below w12.heap.size w12 _ from (by (repeat (first | (with_reducible assumption) | (with_reducible exact Below.refl _ _) | (with_reducible refine Below.drew ?_) | (with_reducible refine Below.drewN ?_ _) | (with_reducible refine Below.setCell ?_ ?_ _) | (with_reducible refine Below.alloc ?_ ?_ _) | assumption)); all_goals (first | omega | (simp; done) | (simp; omega)))).trans (b13.mono (by first | omega | (simp; done) | (simp; omega)))
    have z13 : w12.heap.size ≤ w13.heap.size := Nat.le_trans (by first | omega | (simp; done) | (simp; omega)) b13.size
    have Ka013 := Ka012.below hb13 Ka012.lt
    have Kx013 := Kx012.below hb13 Kx012.lt
    have Ra013 := Ra012.below hb13
    have Rw013 := Rw012.below hb13
    have Ww013 := Ww012.below Rw012 hb13
    have RG13 := RG12.below hb13
    have Rt013 := Rt012.below hb13
    have Wt013 := Wt012.below Rt012 hb13
    have hw13 : Below w.heap.size w w13 := hw12.trans (hb13.mono hw12.size)
    clear Wt012 Ww012 ca012 qa012 Ka012 cx012 qx012 Kx012 Ra012 Rw012 RG12 Rt012 b13 hb13 hw12
    have ca013 := fun o => Ka013.cell o
    have qa013 := Ka013.lt
    have cx013 := fun o => Kx013.cell o
    have qx013 := Kx013.lt
    have loh0 : Lo (IntsR kh0) w13.heap.size := RdAll.lo Rh013
    have hih0 : Hi (IntsR kh0) _ := WrAll.hi Wh013
    go_wp2_with fail
    refine (eqInts_any kh0 kw0 (sendR l0) _ okh0 (Rh013.below (by (repeat (first | (with_reducible assumption) | (with_reducible exact Below.refl _ _) | (with_reducible refine Below.drew ?_) | (with_reducible refine Below.drewN ?_ _) | (with_reducible refine Below.setCell ?_ ?_ _) | (with_reducible refine Below.alloc ?_ ?_ _) | assumption)); all_goals (first | omega | (simp; done) | (simp; omega)))) (Rw013.below (by (repeat (first | (with_reducible assumption) | (with_reducible exact Below.refl _ _) | (with_reducible refine Below.drew ?_) | (with_reducible refine Below.drewN ?_ _) | (with_reducible refine Below.setCell ?_ ?_ _) | (with_reducible refine Below.alloc ?_ ?_ _) | assumption)); all_goals (first | omega | (simp; done) | (simp; omega))))).mono ?_
    rintro e w14 ⟨rfl, b14⟩
    have hb14 : Below w13.heap.size w13 w14 := (show Below w13.heap.size w13 _ from (by (repeat (first | (with_reducible assumption) | (with_reducible exact Below.refl _ _) | (with_reducible refine Below.drew ?_) | (with_reducible refine Below.drewN ?_ _) | (with_reducible refine Below.setCell ?_ ?_ _) | (with_reducible refine Below.alloc ?_ ?_ _) | assumption)); all_goals (first | omega | (simp; done) | (simp; omega)))).trans (b14.mono (by first | omega | (simp; done) | (simp; omega)))
    have z14 : w13.heap.size ≤ w14.heap.size := Nat.le_trans (by first | omega | (simp; done) | (simp; omega)) b14.size
    have Ka014 := Ka013.below hb14 Ka013.lt
    have Kx014 := Kx013.below hb14 Kx013.lt
    have Ra014 := Ra013.below hb14
    have Rw014 := Rw013.below hb14
    have Ww014 := Ww013.below Rw013 hb14
    have RG14 := RG13.below hb14
    have Rt014 := Rt013.below hb14
    have Wt014 := Wt013.below Rt013 hb14
    have Rh014 := Rh013.below hb14
    have Wh014 := Wh013.below Rh013 hb14
    have hw14 : Below w.heap.size w w14 := hw13.trans (hb14.mono hw13.size)
    clear Wh013 Wt013 Ww013 ca013 qa013 Ka013 cx013 qx013 Kx013 Ra013 Rw013 RG13 Rt013 Rh013 b14 hb14 hw13
    have ca014 := fun o => Ka014.cell o
    have qa014 := Ka014.lt
    have cx014 := fun o => Kx014.cell o
    have qx014 := Kx014.lt
    go_wp2_with fail
    refine (heldInts_any kg0 (sendR l0) 1 _ okg0 (by omega) (by omega) (RG14.below (by (repeat (first | (with_reducible assumption) | (with_reducible exact Below.refl _ _) | (with_reducible refine Below.drew ?_) | (with_reducible refine Below.drewN ?_ _) | (with_reducible refine Below.setCell ?_ ?_ _) | (with_reducible refine Below.alloc ?_ ?_ _) | assumption)); all_goals (first | omega | (simp; done) | (simp; omega))))).mono ?_
    rintro e w15 ⟨rfl, b15⟩
    have hb15 : Below w14.heap.size w14 w15 := (show Below w14.heap.size w14 _ from (by (repeat (first | (with_reducible assumption) | (with_reducible exact Below.refl _ _) | (with_reducible refine Below.drew ?_) | (with_reducible refine Below.drewN ?_ _) | (with_reducible refine Below.setCell ?_ ?_ _) | (with_reducible refine Below.alloc ?_ ?_ _) | assumption)); all_goals (first | omega | (simp; done) | (simp; omega)))).trans (b15.mono (by first | omega | (simp; done) | (simp; omega)))
    have z15 : w14.heap.size ≤ w15.heap.size := Nat.le_trans (by first | omega | (simp; done) | (simp; omega)) b15.size
    have Ka015 := Ka014.below hb15 Ka014.lt
    have Kx015 := Kx014.below hb15 Kx014.lt
    have Ra015 := Ra014.below hb15
    have Rw015 := Rw014.below hb15
    have Ww015 := Ww014.below Rw014 hb15
    have RG15 := RG14.below hb15
    have Rt015 := Rt014.below hb15
    have Wt015 := Wt014.below Rt014 hb15
    have Rh015 := Rh014.below hb15
    have Wh015 := Wh014.below Rh014 hb15
    have hw15 : Below w.heap.size w w15 := hw14.trans (hb15.mono hw14.size)
    clear Wh014 Wt014 Ww014 ca014 qa014 Ka014 cx014 qx014 Kx014 Ra014 Rw014 RG14 Rt014 Rh014 b15 hb15 hw14
    have ca015 := fun o => Ka015.cell o
    have qa015 := Ka015.lt
    have cx015 := fun o => Kx015.cell o
    have qx015 := Kx015.lt
    go_wp2_with fail
    go_ret
    exact ⟨rfl, hw15⟩

theorem FnExactSendFrame_walk (w : World) (v0 : Value) (g0 : FrameArg w v0) :
    Calls Try.prog 3 #[v0] w fun e w' => e = .returned (.bool true) ∧ Below w.heap.size w w' := by
  obtain ⟨h0, l0, rfl, mx0, r0⟩ := g0
  exact lawSendFrame_any h0 l0 w mx0 r0
end Go.Proofs.Ytlgmdekhlcbhoaa
