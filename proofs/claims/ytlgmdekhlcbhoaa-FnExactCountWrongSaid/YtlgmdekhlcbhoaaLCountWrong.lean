/- The law FnExactCountWrong, walked. No condition beyond what an argument of its type bears. -/
import Derived.Test.YtlgmdekhlcbhoaaOpenFrame
import Derived.Test.YtlgmdekhlcbhoaaFraW
import Derived.Deep.RegionWith
import Derived.Deep.DeepCutAuto
namespace Go.Proofs.Ytlgmdekhlcbhoaa
open Go.RowKit

set_option maxRecDepth 100000 in
set_option maxHeartbeats 8000000 in
theorem lawCountWrong_any (h0 : FrameH) (l0 : FrameC) (h1 : Hd) (l1 : List Int) (w : World) (mx0 : h0.payload.n ≤ 9223372036854775807) (Ra00 : RdAll w (FrameS h0 l0)) (mx1 : h1.n ≤ 9223372036854775807) (Ra10 : RdAll w (IntsS h1 l1)) :
    Calls Try.prog 4 #[FrameV h0 l0, IntsV h1] w fun e w' => e = .returned (.bool true) ∧ Below w.heap.size w w' := by
  have hw0 := Below.refl w.heap.size w
  have loa0 : Lo (FrameR h0) w.heap.size := RdAll.lo Ra00
  have loa1 : Lo (IntsR h1) w.heap.size := RdAll.lo Ra10
  obtain ⟨A1, n1, c1⟩ := h1
  show Calls Try.prog 4 #[.agg #[.int .i64 l0.kind, .int .i64 l0.number, .slice h0.payload.A h0.payload.n h0.payload.c], .slice A1 n1 c1] w _
  go_enter Try.func4, Try.ntmps4
  by_cases hn1 : (1048576 : Int) < (n1 : Int)
  · go_wp2_with fail
    go_ret
    exact ⟨rfl, (by (repeat (first | (with_reducible assumption) | (with_reducible exact Below.refl _ _) | (with_reducible refine Below.drew ?_) | (with_reducible refine Below.drewN ?_ _) | (with_reducible refine Below.setCell ?_ ?_ _) | (with_reducible refine Below.alloc ?_ ?_ _) | assumption)); all_goals (first | omega | (simp; done) | (simp; omega)))⟩
  have oka1 : IntsOk ⟨A1, n1, c1⟩ := by unfold IntsOk; simp only; omega
  go_wp2_with fail
  refine (szFrame_any h0 l0 1048576 _ mx0 (by omega) (by omega) ).mono ?_
  rintro e w1 ⟨v0, rfl, hv0, b1⟩
  have hb1 : Below w.heap.size w w1 := (show Below w.heap.size w _ from (by (repeat (first | (with_reducible assumption) | (with_reducible exact Below.refl _ _) | (with_reducible refine Below.drew ?_) | (with_reducible refine Below.drewN ?_ _) | (with_reducible refine Below.setCell ?_ ?_ _) | (with_reducible refine Below.alloc ?_ ?_ _) | assumption)); all_goals (first | omega | (simp; done) | (simp; omega)))).trans (b1.mono (by first | omega | (simp; done) | (simp; omega)))
  have z1 : w.heap.size + 1 ≤ w1.heap.size := Nat.le_trans (by first | omega | (simp; done) | (simp; omega)) b1.size
  have Ka01 : Blk w1 (w.heap.size) 24 #[.int .i64 l0.kind, .int .i64 l0.number, .slice h0.payload.A h0.payload.n h0.payload.c] := Blk.below (by repeat (first | exact Blk.newN _ _ _ (by simp; done) | refine Blk.alloc ?_ _)) b1 (by first | omega | (simp; done) | (simp; omega))
  have Ra01 := Ra00.below hb1
  have Ra11 := Ra10.below hb1
  have hw1 : Below w.heap.size w w1 := hb1
  clear Ra00 Ra10 b1 hb1
  have ca01 := fun o => Ka01.cell o
  have qa01 := Ka01.lt
  rcases hv0 with hv0 | ⟨hv0, hu0, oka0⟩
  · go_wp2_with fail
    go_ret
    exact ⟨rfl, (by (repeat (first | (with_reducible assumption) | (with_reducible exact Below.refl _ _) | (with_reducible refine Below.drew ?_) | (with_reducible refine Below.drewN ?_ _) | (with_reducible refine Below.setCell ?_ ?_ _) | (with_reducible refine Below.alloc ?_ ?_ _) | assumption)); all_goals (first | omega | (simp; done) | (simp; omega)))⟩
  have nv0 : ¬ v0 < 0 := by omega
  go_wp2_with fail
  refine (toFrame_any h0 l0 _ oka0 (Ra01.below (by (repeat (first | (with_reducible assumption) | (with_reducible exact Below.refl _ _) | (with_reducible refine Below.drew ?_) | (with_reducible refine Below.drewN ?_ _) | (with_reducible refine Below.setCell ?_ ?_ _) | (with_reducible refine Below.alloc ?_ ?_ _) | assumption)); all_goals (first | omega | (simp; done) | (simp; omega))))).mono ?_
  rintro e w2 ⟨ks0, he2, oks0, Rs02, Ws02', ss0, b2⟩
  unfold FrameV at he2
  subst he2
  have Ws02 := Ws02'.lower (show w1.heap.size ≤ _ from (by first | omega | (simp; done) | (simp; omega)))
  clear Ws02'
  have hb2 : Below w1.heap.size w1 w2 := (show Below w1.heap.size w1 _ from (by (repeat (first | (with_reducible assumption) | (with_reducible exact Below.refl _ _) | (with_reducible refine Below.drew ?_) | (with_reducible refine Below.drewN ?_ _) | (with_reducible refine Below.setCell ?_ ?_ _) | (with_reducible refine Below.alloc ?_ ?_ _) | assumption)); all_goals (first | omega | (simp; done) | (simp; omega)))).trans (b2.mono (by first | omega | (simp; done) | (simp; omega)))
  have z2 : w1.heap.size ≤ w2.heap.size := Nat.le_trans (by first | omega | (simp; done) | (simp; omega)) b2.size
  have Ka02 := Ka01.below hb2 Ka01.lt
  have Ra02 := Ra01.below hb2
  have Ra12 := Ra11.below hb2
  have hw2 : Below w.heap.size w w2 := hw1.trans (hb2.mono hw1.size)
  clear ca01 qa01 Ka01 Ra01 Ra11 b2 hb2 hw1
  have ca02 := fun o => Ka02.cell o
  have qa02 := Ka02.lt
  have los0 : Lo (FrameR ks0) w2.heap.size := RdAll.lo Rs02
  have his0 : Hi (FrameR ks0) _ := WrAll.hi Ws02
  go_wp2_with fail
  refine (toInts_any ⟨A1, n1, c1⟩ l1 _ oka1 (Ra12.below (by (repeat (first | (with_reducible assumption) | (with_reducible exact Below.refl _ _) | (with_reducible refine Below.drew ?_) | (with_reducible refine Below.drewN ?_ _) | (with_reducible refine Below.setCell ?_ ?_ _) | (with_reducible refine Below.alloc ?_ ?_ _) | assumption)); all_goals (first | omega | (simp; done) | (simp; omega))))).mono ?_
  rintro e w3 ⟨ks1, he3, oks1, Rs13, Ws13', ss1, b3⟩
  unfold IntsV at he3
  subst he3
  have Ws13 := Ws13'.lower (show w2.heap.size ≤ _ from (by first | omega | (simp; done) | (simp; omega)))
  clear Ws13'
  have hb3 : Below w2.heap.size w2 w3 := (show Below w2.heap.size w2 _ from (by (repeat (first | (with_reducible assumption) | (with_reducible exact Below.refl _ _) | (with_reducible refine Below.drew ?_) | (with_reducible refine Below.drewN ?_ _) | (with_reducible refine Below.setCell ?_ ?_ _) | (with_reducible refine Below.alloc ?_ ?_ _) | assumption)); all_goals (first | omega | (simp; done) | (simp; omega)))).trans (b3.mono (by first | omega | (simp; done) | (simp; omega)))
  have z3 : w2.heap.size ≤ w3.heap.size := Nat.le_trans (by first | omega | (simp; done) | (simp; omega)) b3.size
  have Ka03 := Ka02.below hb3 Ka02.lt
  have Ra03 := Ra02.below hb3
  have Ra13 := Ra12.below hb3
  have Rs03 := Rs02.below hb3
  have Ws03 := Ws02.below Rs02 hb3
  have hw3 : Below w.heap.size w w3 := hw2.trans (hb3.mono hw2.size)
  clear Ws02 ca02 qa02 Ka02 Ra02 Ra12 Rs02 b3 hb3 hw2
  have ca03 := fun o => Ka03.cell o
  have qa03 := Ka03.lt
  have los1 : Lo (IntsR ks1) w3.heap.size := RdAll.lo Rs13
  have his1 : Hi (IntsR ks1) _ := WrAll.hi Ws13
  go_wp2_with fail
  refine (specCountWrong'_any ks0 l0 ks1 l1 _ oks0 (Rs03.below (by (repeat (first | (with_reducible assumption) | (with_reducible exact Below.refl _ _) | (with_reducible refine Below.drew ?_) | (with_reducible refine Below.drewN ?_ _) | (with_reducible refine Below.setCell ?_ ?_ _) | (with_reducible refine Below.alloc ?_ ?_ _) | assumption)); all_goals (first | omega | (simp; done) | (simp; omega)))) oks1 (Rs13.below (by (repeat (first | (with_reducible assumption) | (with_reducible exact Below.refl _ _) | (with_reducible refine Below.drew ?_) | (with_reducible refine Below.drewN ?_ _) | (with_reducible refine Below.setCell ?_ ?_ _) | (with_reducible refine Below.alloc ?_ ?_ _) | assumption)); all_goals (first | omega | (simp; done) | (simp; omega))))).mono ?_
  rintro e w4 ⟨rfl, b4⟩
  have hb4 : Below w3.heap.size w3 w4 := (show Below w3.heap.size w3 _ from (by (repeat (first | (with_reducible assumption) | (with_reducible exact Below.refl _ _) | (with_reducible refine Below.drew ?_) | (with_reducible refine Below.drewN ?_ _) | (with_reducible refine Below.setCell ?_ ?_ _) | (with_reducible refine Below.alloc ?_ ?_ _) | assumption)); all_goals (first | omega | (simp; done) | (simp; omega)))).trans (b4.mono (by first | omega | (simp; done) | (simp; omega)))
  have z4 : w3.heap.size ≤ w4.heap.size := Nat.le_trans (by first | omega | (simp; done) | (simp; omega)) b4.size
  have Ka04 := Ka03.below hb4 Ka03.lt
  have Ra04 := Ra03.below hb4
  have Ra14 := Ra13.below hb4
  have Rs04 := Rs03.below hb4
  have Ws04 := Ws03.below Rs03 hb4
  have Rs14 := Rs13.below hb4
  have Ws14 := Ws13.below Rs13 hb4
  have hw4 : Below w.heap.size w w4 := hw3.trans (hb4.mono hw3.size)
  clear Ws13 Ws03 ca03 qa03 Ka03 Ra03 Ra13 Rs03 Rs13 b4 hb4 hw3
  have ca04 := fun o => Ka04.cell o
  have qa04 := Ka04.lt
  go_wp2_with fail
  refine (toFrame_any h0 l0 _ oka0 (Ra04.below (by (repeat (first | (with_reducible assumption) | (with_reducible exact Below.refl _ _) | (with_reducible refine Below.drew ?_) | (with_reducible refine Below.drewN ?_ _) | (with_reducible refine Below.setCell ?_ ?_ _) | (with_reducible refine Below.alloc ?_ ?_ _) | assumption)); all_goals (first | omega | (simp; done) | (simp; omega))))).mono ?_
  rintro e w5 ⟨kx0, he5, okx0, Rx05, Wx05', sx0, b5⟩
  unfold FrameV at he5
  subst he5
  have Wx05 := Wx05'.lower (show w4.heap.size ≤ _ from (by first | omega | (simp; done) | (simp; omega)))
  clear Wx05'
  have hb5 : Below w4.heap.size w4 w5 := (show Below w4.heap.size w4 _ from (by (repeat (first | (with_reducible assumption) | (with_reducible exact Below.refl _ _) | (with_reducible refine Below.drew ?_) | (with_reducible refine Below.drewN ?_ _) | (with_reducible refine Below.setCell ?_ ?_ _) | (with_reducible refine Below.alloc ?_ ?_ _) | assumption)); all_goals (first | omega | (simp; done) | (simp; omega)))).trans (b5.mono (by first | omega | (simp; done) | (simp; omega)))
  have z5 : w4.heap.size ≤ w5.heap.size := Nat.le_trans (by first | omega | (simp; done) | (simp; omega)) b5.size
  have Ka05 := Ka04.below hb5 Ka04.lt
  have Ra05 := Ra04.below hb5
  have Ra15 := Ra14.below hb5
  have hw5 : Below w.heap.size w w5 := hw4.trans (hb5.mono hw4.size)
  clear ca04 qa04 Ka04 Ra04 Ra14 b5 hb5 hw4
  have ca05 := fun o => Ka05.cell o
  have qa05 := Ka05.lt
  have lox0 : Lo (FrameR kx0) w5.heap.size := RdAll.lo Rx05
  have hix0 : Hi (FrameR kx0) _ := WrAll.hi Wx05
  go_wp2_with fail
  refine (toInts_any ⟨A1, n1, c1⟩ l1 _ oka1 (Ra15.below (by (repeat (first | (with_reducible assumption) | (with_reducible exact Below.refl _ _) | (with_reducible refine Below.drew ?_) | (with_reducible refine Below.drewN ?_ _) | (with_reducible refine Below.setCell ?_ ?_ _) | (with_reducible refine Below.alloc ?_ ?_ _) | assumption)); all_goals (first | omega | (simp; done) | (simp; omega))))).mono ?_
  rintro e w6 ⟨kx1, he6, okx1, Rx16, Wx16', sx1, b6⟩
  unfold IntsV at he6
  subst he6
  have Wx16 := Wx16'.lower (show w5.heap.size + 1 ≤ _ from (by first | omega | (simp; done) | (simp; omega)))
  clear Wx16'
  have hb6 : Below w5.heap.size w5 w6 := (show Below w5.heap.size w5 _ from (by (repeat (first | (with_reducible assumption) | (with_reducible exact Below.refl _ _) | (with_reducible refine Below.drew ?_) | (with_reducible refine Below.drewN ?_ _) | (with_reducible refine Below.setCell ?_ ?_ _) | (with_reducible refine Below.alloc ?_ ?_ _) | assumption)); all_goals (first | omega | (simp; done) | (simp; omega)))).trans (b6.mono (by first | omega | (simp; done) | (simp; omega)))
  have z6 : w5.heap.size + 1 ≤ w6.heap.size := Nat.le_trans (by first | omega | (simp; done) | (simp; omega)) b6.size
  have Ka06 := Ka05.below hb6 Ka05.lt
  have Kx06 : Blk w6 (w5.heap.size) 28 #[.int .i64 l0.kind, .int .i64 l0.number, .slice kx0.payload.A kx0.payload.n kx0.payload.c] := Blk.below (by repeat (first | exact Blk.newN _ _ _ (by simp; done) | refine Blk.alloc ?_ _)) b6 (by first | omega | (simp; done) | (simp; omega))
  have Ra06 := Ra05.below hb6
  have Ra16 := Ra15.below hb6
  have Rx06 := Rx05.below hb6
  have Wx06 := Wx05.below Rx05 hb6
  have hw6 : Below w.heap.size w w6 := hw5.trans (hb6.mono hw5.size)
  clear Wx05 ca05 qa05 Ka05 Ra05 Ra15 Rx05 b6 hb6 hw5
  have ca06 := fun o => Ka06.cell o
  have qa06 := Ka06.lt
  have cx06 := fun o => Kx06.cell o
  have qx06 := Kx06.lt
  have lox1 : Lo (IntsR kx1) w6.heap.size := RdAll.lo Rx16
  have hix1 : Hi (IntsR kx1) _ := WrAll.hi Wx16
  go_wp2_with fail
  refine (implCountWrong'_any kx0 l0 kx1 l1 _ okx0 (Rx06.below (by (repeat (first | (with_reducible assumption) | (with_reducible exact Below.refl _ _) | (with_reducible refine Below.drew ?_) | (with_reducible refine Below.drewN ?_ _) | (with_reducible refine Below.setCell ?_ ?_ _) | (with_reducible refine Below.alloc ?_ ?_ _) | assumption)); all_goals (first | omega | (simp; done) | (simp; omega)))) okx1 (Rx16.below (by (repeat (first | (with_reducible assumption) | (with_reducible exact Below.refl _ _) | (with_reducible refine Below.drew ?_) | (with_reducible refine Below.drewN ?_ _) | (with_reducible refine Below.setCell ?_ ?_ _) | (with_reducible refine Below.alloc ?_ ?_ _) | assumption)); all_goals (first | omega | (simp; done) | (simp; omega))))).mono ?_
  rintro e w7 ⟨rfl, b7⟩
  have hb7 : Below w6.heap.size w6 w7 := (show Below w6.heap.size w6 _ from (by (repeat (first | (with_reducible assumption) | (with_reducible exact Below.refl _ _) | (with_reducible refine Below.drew ?_) | (with_reducible refine Below.drewN ?_ _) | (with_reducible refine Below.setCell ?_ ?_ _) | (with_reducible refine Below.alloc ?_ ?_ _) | assumption)); all_goals (first | omega | (simp; done) | (simp; omega)))).trans (b7.mono (by first | omega | (simp; done) | (simp; omega)))
  have z7 : w6.heap.size ≤ w7.heap.size := Nat.le_trans (by first | omega | (simp; done) | (simp; omega)) b7.size
  have Ka07 := Ka06.below hb7 Ka06.lt
  have Kx07 := Kx06.below hb7 Kx06.lt
  have Ra07 := Ra06.below hb7
  have Ra17 := Ra16.below hb7
  have Rx07 := Rx06.below hb7
  have Wx07 := Wx06.below Rx06 hb7
  have Rx17 := Rx16.below hb7
  have Wx17 := Wx16.below Rx16 hb7
  have hw7 : Below w.heap.size w w7 := hw6.trans (hb7.mono hw6.size)
  clear Wx16 Wx06 ca06 qa06 Ka06 cx06 qx06 Kx06 Ra06 Ra16 Rx06 Rx16 b7 hb7 hw6
  have ca07 := fun o => Ka07.cell o
  have qa07 := Ka07.lt
  have cx07 := fun o => Kx07.cell o
  have qx07 := Kx07.lt
  go_upto_region 13 with fail
  go_cut [50] (fun c wx => c = .bool false ∧ Below w7.heap.size w7 wx)
  case first =>
    go_region_with (first | (go_at_call 17; refine (toFrame_any h0 l0 _ oka0 (Ra07.below (by (repeat (first | (with_reducible assumption) | (with_reducible exact Below.refl _ _) | (with_reducible refine Below.drew ?_) | (with_reducible refine Below.drewN ?_ _) | (with_reducible refine Below.setCell ?_ ?_ _) | (with_reducible refine Below.alloc ?_ ?_ _) | assumption)); all_goals (first | omega | (simp; done) | (simp; omega))))).mono ?_; rintro e wa ⟨ka, hea, oka, Ra, Wa, sa, ba⟩; unfold FrameV at hea; subst hea; have hba : Below w7.heap.size w7 wa := (show Below w7.heap.size w7 _ from (by (repeat (first | (with_reducible assumption) | (with_reducible exact Below.refl _ _) | (with_reducible refine Below.drew ?_) | (with_reducible refine Below.drewN ?_ _) | (with_reducible refine Below.setCell ?_ ?_ _) | (with_reducible refine Below.alloc ?_ ?_ _) | assumption)); all_goals (first | omega | (simp; done) | (simp; omega)))).trans (ba.mono (by first | omega | (simp; done) | (simp; omega))); clear ba; have hza := hba.size; have hcx := fun o => (Kx07.below hba Kx07.lt).cell o) | (go_at_call 20; refine (eqFrame_any kx0 _ l0 _ okx0 (Rx07.below (by (repeat (first | (with_reducible assumption) | (with_reducible exact Below.refl _ _) | (with_reducible refine Below.drew ?_) | (with_reducible refine Below.drewN ?_ _) | (with_reducible refine Below.setCell ?_ ?_ _) | (with_reducible refine Below.alloc ?_ ?_ _) | assumption)); all_goals (first | omega | (simp; done) | (simp; omega)))) (by first | exact Ra | exact Ra.below (by (repeat (first | (with_reducible assumption) | (with_reducible exact Below.refl _ _) | (with_reducible refine Below.drew ?_) | (with_reducible refine Below.drewN ?_ _) | (with_reducible refine Below.setCell ?_ ?_ _) | (with_reducible refine Below.alloc ?_ ?_ _) | assumption)); all_goals (first | omega | (simp; done) | (simp; omega))))).mono ?_; rintro e wb ⟨rfl, bb⟩))
    all_goals (go_wp2_with fail; go_meet; exact ⟨rfl, (show Below w7.heap.size w7 _ from (by (repeat (first | (with_reducible assumption) | (with_reducible exact Below.refl _ _) | (with_reducible refine Below.drew ?_) | (with_reducible refine Below.drewN ?_ _) | (with_reducible refine Below.setCell ?_ ?_ _) | (with_reducible refine Below.alloc ?_ ?_ _) | assumption)); all_goals (first | omega | (simp; done) | (simp; omega)))).trans (bb.mono (by first | omega | (simp; done) | (simp; omega)))⟩)
  case rest =>
    obtain ⟨rfl, b8⟩ := hcut
    obtain ⟨w8, rfl⟩ : ∃ x : World, x = wc := ⟨_, rfl⟩
    have hb8 : Below w7.heap.size w7 w8 := (show Below w7.heap.size w7 _ from (by (repeat (first | (with_reducible assumption) | (with_reducible exact Below.refl _ _) | (with_reducible refine Below.drew ?_) | (with_reducible refine Below.drewN ?_ _) | (with_reducible refine Below.setCell ?_ ?_ _) | (with_reducible refine Below.alloc ?_ ?_ _) | assumption)); all_goals (first | omega | (simp; done) | (simp; omega)))).trans (b8.mono (by first | omega | (simp; done) | (simp; omega)))
    have z8 : w7.heap.size ≤ w8.heap.size := Nat.le_trans (by first | omega | (simp; done) | (simp; omega)) b8.size
    have Ka08 := Ka07.below hb8 Ka07.lt
    have Kx08 := Kx07.below hb8 Kx07.lt
    have Ra08 := Ra07.below hb8
    have Ra18 := Ra17.below hb8
    have Rx08 := Rx07.below hb8
    have Wx08 := Wx07.below Rx07 hb8
    have Rx18 := Rx17.below hb8
    have Wx18 := Wx17.below Rx17 hb8
    have hw8 : Below w.heap.size w w8 := hw7.trans (hb8.mono hw7.size)
    clear Wx17 Wx07 ca07 qa07 Ka07 cx07 qx07 Kx07 Ra07 Ra17 Rx07 Rx17 b8 hb8 hw7
    have ca08 := fun o => Ka08.cell o
    have qa08 := Ka08.lt
    have cx08 := fun o => Kx08.cell o
    have qx08 := Kx08.lt
    go_wp2_with fail
    refine (toInts_any ⟨A1, n1, c1⟩ l1 _ oka1 (Ra18.below (by (repeat (first | (with_reducible assumption) | (with_reducible exact Below.refl _ _) | (with_reducible refine Below.drew ?_) | (with_reducible refine Below.drewN ?_ _) | (with_reducible refine Below.setCell ?_ ?_ _) | (with_reducible refine Below.alloc ?_ ?_ _) | assumption)); all_goals (first | omega | (simp; done) | (simp; omega))))).mono ?_
    rintro e w9 ⟨ky1, he9, oky1, Ry19, Wy19', sy1, b9⟩
    unfold IntsV at he9
    subst he9
    have Wy19 := Wy19'.lower (show w8.heap.size ≤ _ from (by first | omega | (simp; done) | (simp; omega)))
    clear Wy19'
    have hb9 : Below w8.heap.size w8 w9 := (show Below w8.heap.size w8 _ from (by (repeat (first | (with_reducible assumption) | (with_reducible exact Below.refl _ _) | (with_reducible refine Below.drew ?_) | (with_reducible refine Below.drewN ?_ _) | (with_reducible refine Below.setCell ?_ ?_ _) | (with_reducible refine Below.alloc ?_ ?_ _) | assumption)); all_goals (first | omega | (simp; done) | (simp; omega)))).trans (b9.mono (by first | omega | (simp; done) | (simp; omega)))
    have z9 : w8.heap.size ≤ w9.heap.size := Nat.le_trans (by first | omega | (simp; done) | (simp; omega)) b9.size
    have Ka09 := Ka08.below hb9 Ka08.lt
    have Kx09 := Kx08.below hb9 Kx08.lt
    have Ra09 := Ra08.below hb9
    have Ra19 := Ra18.below hb9
    have Rx09 := Rx08.below hb9
    have Wx09 := Wx08.below Rx08 hb9
    have Rx19 := Rx18.below hb9
    have Wx19 := Wx18.below Rx18 hb9
    have hw9 : Below w.heap.size w w9 := hw8.trans (hb9.mono hw8.size)
    clear Wx18 Wx08 ca08 qa08 Ka08 cx08 qx08 Kx08 Ra08 Ra18 Rx08 Rx18 b9 hb9 hw8
    have ca09 := fun o => Ka09.cell o
    have qa09 := Ka09.lt
    have cx09 := fun o => Kx09.cell o
    have qx09 := Kx09.lt
    have loy1 : Lo (IntsR ky1) w9.heap.size := RdAll.lo Ry19
    have hiy1 : Hi (IntsR ky1) _ := WrAll.hi Wy19
    go_wp2_with fail
    refine (eqInts_any kx1 ky1 l1 _ okx1 (Rx19.below (by (repeat (first | (with_reducible assumption) | (with_reducible exact Below.refl _ _) | (with_reducible refine Below.drew ?_) | (with_reducible refine Below.drewN ?_ _) | (with_reducible refine Below.setCell ?_ ?_ _) | (with_reducible refine Below.alloc ?_ ?_ _) | assumption)); all_goals (first | omega | (simp; done) | (simp; omega)))) (Ry19.below (by (repeat (first | (with_reducible assumption) | (with_reducible exact Below.refl _ _) | (with_reducible refine Below.drew ?_) | (with_reducible refine Below.drewN ?_ _) | (with_reducible refine Below.setCell ?_ ?_ _) | (with_reducible refine Below.alloc ?_ ?_ _) | assumption)); all_goals (first | omega | (simp; done) | (simp; omega))))).mono ?_
    rintro e w10 ⟨rfl, b10⟩
    have hb10 : Below w9.heap.size w9 w10 := (show Below w9.heap.size w9 _ from (by (repeat (first | (with_reducible assumption) | (with_reducible exact Below.refl _ _) | (with_reducible refine Below.drew ?_) | (with_reducible refine Below.drewN ?_ _) | (with_reducible refine Below.setCell ?_ ?_ _) | (with_reducible refine Below.alloc ?_ ?_ _) | assumption)); all_goals (first | omega | (simp; done) | (simp; omega)))).trans (b10.mono (by first | omega | (simp; done) | (simp; omega)))
    have z10 : w9.heap.size ≤ w10.heap.size := Nat.le_trans (by first | omega | (simp; done) | (simp; omega)) b10.size
    have Ka010 := Ka09.below hb10 Ka09.lt
    have Kx010 := Kx09.below hb10 Kx09.lt
    have Ra010 := Ra09.below hb10
    have Ra110 := Ra19.below hb10
    have Rx010 := Rx09.below hb10
    have Wx010 := Wx09.below Rx09 hb10
    have Rx110 := Rx19.below hb10
    have Wx110 := Wx19.below Rx19 hb10
    have Ry110 := Ry19.below hb10
    have Wy110 := Wy19.below Ry19 hb10
    have hw10 : Below w.heap.size w w10 := hw9.trans (hb10.mono hw9.size)
    clear Wy19 Wx19 Wx09 ca09 qa09 Ka09 cx09 qx09 Kx09 Ra09 Ra19 Rx09 Rx19 Ry19 b10 hb10 hw9
    have ca010 := fun o => Ka010.cell o
    have qa010 := Ka010.lt
    have cx010 := fun o => Kx010.cell o
    have qx010 := Kx010.lt
    go_wp2_with fail
    go_ret
    exact ⟨rfl, hw10⟩

theorem FnExactCountWrong_walk (w : World) (v0 : Value) (g0 : FrameArg w v0) (A1 : Option Addr) (n1 c1 : Nat) (l1 : List Int) (g1 : ArgI w A1 n1 c1 l1) :
    Calls Try.prog 4 #[v0, .slice A1 n1 c1] w fun e w' => e = .returned (.bool true) ∧ Below w.heap.size w w' := by
  obtain ⟨h0, l0, rfl, mx0, r0⟩ := g0
  exact lawCountWrong_any h0 l0 ⟨A1, n1, c1⟩ l1 w mx0 r0 g1.max (RdAll.cons (s := ⟨A1, n1, ints l1⟩) g1.rd (RdAll.nil _))
end Go.Proofs.Ytlgmdekhlcbhoaa
