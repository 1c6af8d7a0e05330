/- The law FnExactLogText, walked. Condition: the library's variables are as they are laid. -/
import Derived.Test.YtoledbicmghmbaaDoorOpenRecs
import Derived.Test.YtoledbicmghmbaaDoorLgL
import Derived.Deep.RegionWith
import Derived.Deep.DeepCutAuto
namespace Go.Proofs.YtoledbicmghmbaaDoor
open Go.RowKit

set_option maxRecDepth 100000 in
set_option maxHeartbeats 8000000 in
theorem lawLogText_any (h0 : Hd) (l0 : List Int) (w : World) (mx0 : RecsMx h0) (Ra00 : RdAll w (RecsS h0 l0)) (T : TabW w) :
    Calls Tryd.prog 4 #[RecsV h0] w fun e w' => e = .returned (.bool true) ∧ Below w.heap.size w w' := by
  have hw0 := Below.refl w.heap.size w
  have loa0 : Lo (RecsR h0) w.heap.size := RdAll.lo Ra00
  obtain ⟨A0, n0, c0⟩ := h0
  show Calls Tryd.prog 4 #[.slice A0 n0 c0] w _
  go_enter Tryd.func4, Tryd.ntmps4
  go_wp2_with fail
  refine (szRecs_any ⟨A0, n0, c0⟩ l0 1048576 _ mx0 (by omega) (by omega) ).mono ?_
  rintro e w1 ⟨v0, rfl, hv0, b1⟩
  have hb1 : Below w.heap.size w w1 := (show Below w.heap.size w _ from (by (repeat (first | (with_reducible assumption) | (with_reducible exact Below.refl _ _) | (with_reducible refine Below.drew ?_) | (with_reducible refine Below.drewN ?_ _) | (with_reducible refine Below.setCell ?_ ?_ _) | (with_reducible refine Below.alloc ?_ ?_ _) | assumption)); all_goals (first | omega | (simp; done) | (simp; omega)))).trans (b1.mono (by first | omega | (simp; done) | (simp; omega)))
  have z1 : w.heap.size ≤ w1.heap.size := Nat.le_trans (by first | omega | (simp; done) | (simp; omega)) b1.size
  have Ra01 := Ra00.below hb1
  have hw1 : Below w.heap.size w w1 := hb1
  clear Ra00 b1 hb1
  rcases hv0 with hv0 | ⟨hv0, hu0, oka0⟩
  · go_wp2_with fail
    go_ret
    exact ⟨rfl, (by (repeat (first | (with_reducible assumption) | (with_reducible exact Below.refl _ _) | (with_reducible refine Below.drew ?_) | (with_reducible refine Below.drewN ?_ _) | (with_reducible refine Below.setCell ?_ ?_ _) | (with_reducible refine Below.alloc ?_ ?_ _) | assumption)); all_goals (first | omega | (simp; done) | (simp; omega)))⟩
  have nv0 : ¬ v0 < 0 := by omega
  go_wp2_with fail
  refine (toRecs_any ⟨A0, n0, c0⟩ l0 _ oka0 (Ra01.below (by (repeat (first | (with_reducible assumption) | (with_reducible exact Below.refl _ _) | (with_reducible refine Below.drew ?_) | (with_reducible refine Below.drewN ?_ _) | (with_reducible refine Below.setCell ?_ ?_ _) | (with_reducible refine Below.alloc ?_ ?_ _) | assumption)); all_goals (first | omega | (simp; done) | (simp; omega))))).mono ?_
  rintro e w2 ⟨ks0, he2, oks0, Rs02, Ws02', ss0, b2⟩
  unfold RecsV at he2
  subst he2
  have Ws02 := Ws02'.lower (show w1.heap.size ≤ _ from (by first | omega | (simp; done) | (simp; omega)))
  clear Ws02'
  have hb2 : Below w1.heap.size w1 w2 := (show Below w1.heap.size w1 _ from (by (repeat (first | (with_reducible assumption) | (with_reducible exact Below.refl _ _) | (with_reducible refine Below.drew ?_) | (with_reducible refine Below.drewN ?_ _) | (with_reducible refine Below.setCell ?_ ?_ _) | (with_reducible refine Below.alloc ?_ ?_ _) | assumption)); all_goals (first | omega | (simp; done) | (simp; omega)))).trans (b2.mono (by first | omega | (simp; done) | (simp; omega)))
  have z2 : w1.heap.size ≤ w2.heap.size := Nat.le_trans (by first | omega | (simp; done) | (simp; omega)) b2.size
  have Ra02 := Ra01.below hb2
  have hw2 : Below w.heap.size w w2 := hw1.trans (hb2.mono hw1.size)
  clear Ra01 b2 hb2 hw1
  have los0 : Lo (RecsR ks0) w2.heap.size := RdAll.lo Rs02
  have his0 : Hi (RecsR ks0) _ := WrAll.hi Ws02
  go_wp2_with fail
  refine (specLogText'_any ks0 l0 _ oks0 (Rs02.below (by (repeat (first | (with_reducible assumption) | (with_reducible exact Below.refl _ _) | (with_reducible refine Below.drew ?_) | (with_reducible refine Below.drewN ?_ _) | (with_reducible refine Below.setCell ?_ ?_ _) | (with_reducible refine Below.alloc ?_ ?_ _) | assumption)); all_goals (first | omega | (simp; done) | (simp; omega))))).mono ?_
  rintro e w3 ⟨rfl, b3⟩
  have hb3 : Below w2.heap.size w2 w3 := (show Below w2.heap.size w2 _ from (by (repeat (first | (with_reducible assumption) | (with_reducible exact Below.refl _ _) | (with_reducible refine Below.drew ?_) | (with_reducible refine Below.drewN ?_ _) | (with_reducible refine Below.setCell ?_ ?_ _) | (with_reducible refine Below.alloc ?_ ?_ _) | assumption)); all_goals (first | omega | (simp; done) | (simp; omega)))).trans (b3.mono (by first | omega | (simp; done) | (simp; omega)))
  have z3 : w2.heap.size ≤ w3.heap.size := Nat.le_trans (by first | omega | (simp; done) | (simp; omega)) b3.size
  have Ra03 := Ra02.below hb3
  have Rs03 := Rs02.below hb3
  have Ws03 := Ws02.below Rs02 hb3
  have hw3 : Below w.heap.size w w3 := hw2.trans (hb3.mono hw2.size)
  clear Ws02 Ra02 Rs02 b3 hb3 hw2
  go_wp2_with fail
  refine (toRecs_any ⟨A0, n0, c0⟩ l0 _ oka0 (Ra03.below (by (repeat (first | (with_reducible assumption) | (with_reducible exact Below.refl _ _) | (with_reducible refine Below.drew ?_) | (with_reducible refine Below.drewN ?_ _) | (with_reducible refine Below.setCell ?_ ?_ _) | (with_reducible refine Below.alloc ?_ ?_ _) | assumption)); all_goals (first | omega | (simp; done) | (simp; omega))))).mono ?_
  rintro e w4 ⟨kx0, he4, okx0, Rx04, Wx04', sx0, b4⟩
  unfold RecsV at he4
  subst he4
  have Wx04 := Wx04'.lower (show w3.heap.size ≤ _ from (by first | omega | (simp; done) | (simp; omega)))
  clear Wx04'
  have hb4 : Below w3.heap.size w3 w4 := (show Below w3.heap.size w3 _ from (by (repeat (first | (with_reducible assumption) | (with_reducible exact Below.refl _ _) | (with_reducible refine Below.drew ?_) | (with_reducible refine Below.drewN ?_ _) | (with_reducible refine Below.setCell ?_ ?_ _) | (with_reducible refine Below.alloc ?_ ?_ _) | assumption)); all_goals (first | omega | (simp; done) | (simp; omega)))).trans (b4.mono (by first | omega | (simp; done) | (simp; omega)))
  have z4 : w3.heap.size ≤ w4.heap.size := Nat.le_trans (by first | omega | (simp; done) | (simp; omega)) b4.size
  have Ra04 := Ra03.below hb4
  have hw4 : Below w.heap.size w w4 := hw3.trans (hb4.mono hw3.size)
  clear Ra03 b4 hb4 hw3
  have lox0 : Lo (RecsR kx0) w4.heap.size := RdAll.lo Rx04
  have hix0 : Hi (RecsR kx0) _ := WrAll.hi Wx04
  go_wp2_with fail
  refine (implLogText'_any kx0 l0 _ okx0 (Rx04.below (by (repeat (first | (with_reducible assumption) | (with_reducible exact Below.refl _ _) | (with_reducible refine Below.drew ?_) | (with_reducible refine Below.drewN ?_ _) | (with_reducible refine Below.setCell ?_ ?_ _) | (with_reducible refine Below.alloc ?_ ?_ _) | assumption)); all_goals (first | omega | (simp; done) | (simp; omega)))) (T.below hw4)).mono ?_
  rintro e w5 ⟨rfl, b5⟩
  have hb5 : Below w4.heap.size w4 w5 := (show Below w4.heap.size w4 _ from (by (repeat (first | (with_reducible assumption) | (with_reducible exact Below.refl _ _) | (with_reducible refine Below.drew ?_) | (with_reducible refine Below.drewN ?_ _) | (with_reducible refine Below.setCell ?_ ?_ _) | (with_reducible refine Below.alloc ?_ ?_ _) | assumption)); all_goals (first | omega | (simp; done) | (simp; omega)))).trans (b5.mono (by first | omega | (simp; done) | (simp; omega)))
  have z5 : w4.heap.size ≤ w5.heap.size := Nat.le_trans (by first | omega | (simp; done) | (simp; omega)) b5.size
  have Ra05 := Ra04.below hb5
  have Rx05 := Rx04.below hb5
  have Wx05 := Wx04.below Rx04 hb5
  have hw5 : Below w.heap.size w w5 := hw4.trans (hb5.mono hw4.size)
  clear Wx04 Ra04 Rx04 b5 hb5 hw4
  go_wp2_with fail
  refine (toRecs_any ⟨A0, n0, c0⟩ l0 _ oka0 (Ra05.below (by (repeat (first | (with_reducible assumption) | (with_reducible exact Below.refl _ _) | (with_reducible refine Below.drew ?_) | (with_reducible refine Below.drewN ?_ _) | (with_reducible refine Below.setCell ?_ ?_ _) | (with_reducible refine Below.alloc ?_ ?_ _) | assumption)); all_goals (first | omega | (simp; done) | (simp; omega))))).mono ?_
  rintro e w6 ⟨ky0, he6, oky0, Ry06, Wy06', sy0, b6⟩
  unfold RecsV at he6
  subst he6
  have Wy06 := Wy06'.lower (show w5.heap.size ≤ _ from (by first | omega | (simp; done) | (simp; omega)))
  clear Wy06'
  have hb6 : Below w5.heap.size w5 w6 := (show Below w5.heap.size w5 _ from (by (repeat (first | (with_reducible assumption) | (with_reducible exact Below.refl _ _) | (with_reducible refine Below.drew ?_) | (with_reducible refine Below.drewN ?_ _) | (with_reducible refine Below.setCell ?_ ?_ _) | (with_reducible refine Below.alloc ?_ ?_ _) | assumption)); all_goals (first | omega | (simp; done) | (simp; omega)))).trans (b6.mono (by first | omega | (simp; done) | (simp; omega)))
  have z6 : w5.heap.size ≤ w6.heap.size := Nat.le_trans (by first | omega | (simp; done) | (simp; omega)) b6.size
  have Ra06 := Ra05.below hb6
  have Rx06 := Rx05.below hb6
  have Wx06 := Wx05.below Rx05 hb6
  have hw6 : Below w.heap.size w w6 := hw5.trans (hb6.mono hw5.size)
  clear Wx05 Ra05 Rx05 b6 hb6 hw5
  have loy0 : Lo (RecsR ky0) w6.heap.size := RdAll.lo Ry06
  have hiy0 : Hi (RecsR ky0) _ := WrAll.hi Wy06
  go_wp2_with fail
  refine (eqRecs_any kx0 ky0 l0 _ okx0 (Rx06.below (by (repeat (first | (with_reducible assumption) | (with_reducible exact Below.refl _ _) | (with_reducible refine Below.drew ?_) | (with_reducible refine Below.drewN ?_ _) | (with_reducible refine Below.setCell ?_ ?_ _) | (with_reducible refine Below.alloc ?_ ?_ _) | assumption)); all_goals (first | omega | (simp; done) | (simp; omega)))) (Ry06.below (by (repeat (first | (with_reducible assumption) | (with_reducible exact Below.refl _ _) | (with_reducible refine Below.drew ?_) | (with_reducible refine Below.drewN ?_ _) | (with_reducible refine Below.setCell ?_ ?_ _) | (with_reducible refine Below.alloc ?_ ?_ _) | assumption)); all_goals (first | omega | (simp; done) | (simp; omega))))).mono ?_
  rintro e w7 ⟨rfl, b7⟩
  have hb7 : Below w6.heap.size w6 w7 := (show Below w6.heap.size w6 _ from (by (repeat (first | (with_reducible assumption) | (with_reducible exact Below.refl _ _) | (with_reducible refine Below.drew ?_) | (with_reducible refine Below.drewN ?_ _) | (with_reducible refine Below.setCell ?_ ?_ _) | (with_reducible refine Below.alloc ?_ ?_ _) | assumption)); all_goals (first | omega | (simp; done) | (simp; omega)))).trans (b7.mono (by first | omega | (simp; done) | (simp; omega)))
  have z7 : w6.heap.size ≤ w7.heap.size := Nat.le_trans (by first | omega | (simp; done) | (simp; omega)) b7.size
  have Ra07 := Ra06.below hb7
  have Rx07 := Rx06.below hb7
  have Wx07 := Wx06.below Rx06 hb7
  have Ry07 := Ry06.below hb7
  have Wy07 := Wy06.below Ry06 hb7
  have hw7 : Below w.heap.size w w7 := hw6.trans (hb7.mono hw6.size)
  clear Wy06 Wx06 Ra06 Rx06 Ry06 b7 hb7 hw6
  go_wp2_with fail
  go_ret
  exact ⟨rfl, hw7⟩

theorem FnExactLogText_walk (w : World) (v0 : Value) (g0 : RecsArg w v0) (T : TabW w) :
    Calls Tryd.prog 4 #[v0] w fun e w' => e = .returned (.bool true) ∧ Below w.heap.size w w' := by
  obtain ⟨h0, l0, rfl, mx0, r0⟩ := g0
  exact lawLogText_any h0 l0 w mx0 r0 T
end Go.Proofs.YtoledbicmghmbaaDoor
