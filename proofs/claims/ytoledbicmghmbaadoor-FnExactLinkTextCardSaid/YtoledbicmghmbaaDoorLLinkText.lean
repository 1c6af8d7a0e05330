/- The law FnExactLinkText, walked. Condition: the library's variables are as they are laid. -/
import Derived.Test.YtoledbicmghmbaaDoorOpenLink
import Derived.Test.YtoledbicmghmbaaDoorLkV
import Derived.Deep.RegionWith
import Derived.Deep.DeepCutAuto
namespace Go.Proofs.YtoledbicmghmbaaDoor
open Go.RowKit

set_option maxRecDepth 100000 in
set_option maxHeartbeats 8000000 in
theorem lawLinkText_any (h0 : LinkH) (l0 : LinkC) (w : World) (mx0 : h0.items.n ≤ 9223372036854775807 ∧ h0.packets.n ≤ 9223372036854775807 ∧ h0.acks.n ≤ 9223372036854775807 ∧ h0.got.n ≤ 9223372036854775807) (Ra00 : RdAll w (LinkS h0 l0)) (T : TabW w) :
    Calls Tryd.prog 5 #[LinkV h0 l0] w fun e w' => e = .returned (.bool true) ∧ Below w.heap.size w w' := by
  have hw0 := Below.refl w.heap.size w
  have loa0 : Lo (LinkR h0) w.heap.size := RdAll.lo Ra00
  show Calls Tryd.prog 5 #[.agg #[.slice h0.items.A h0.items.n h0.items.c, .int .i64 l0.base, .int .i64 l0.next, .slice h0.packets.A h0.packets.n h0.packets.c, .slice h0.acks.A h0.acks.n h0.acks.c, .slice h0.got.A h0.got.n h0.got.c]] w _
  go_enter Tryd.func5, Tryd.ntmps5
  go_wp2_with fail
  refine (szLink_any h0 l0 1048576 _ mx0 (by omega) (by omega) ).mono ?_
  rintro e w1 ⟨v0, rfl, hv0, b1⟩
  have hb1 : Below w.heap.size w w1 := (show Below w.heap.size w _ from (by (repeat (first | (with_reducible assumption) | (with_reducible exact Below.refl _ _) | (with_reducible refine Below.drew ?_) | (with_reducible refine Below.drewN ?_ _) | (with_reducible refine Below.setCell ?_ ?_ _) | (with_reducible refine Below.alloc ?_ ?_ _) | assumption)); all_goals (first | omega | (simp; done) | (simp; omega)))).trans (b1.mono (by first | omega | (simp; done) | (simp; omega)))
  have z1 : w.heap.size + 1 ≤ w1.heap.size := Nat.le_trans (by first | omega | (simp; done) | (simp; omega)) b1.size
  have Ka01 : Blk w1 (w.heap.size) 43 #[.slice h0.items.A h0.items.n h0.items.c, .int .i64 l0.base, .int .i64 l0.next, .slice h0.packets.A h0.packets.n h0.packets.c, .slice h0.acks.A h0.acks.n h0.acks.c, .slice h0.got.A h0.got.n h0.got.c] := Blk.below (by repeat (first | exact Blk.newN _ _ _ (by simp; done) | refine Blk.alloc ?_ _)) b1 (by first | omega | (simp; done) | (simp; omega))
  have Ra01 := Ra00.below hb1
  have hw1 : Below w.heap.size w w1 := hb1
  clear Ra00 b1 hb1
  have ca01 := fun o => Ka01.cell o
  have qa01 := Ka01.lt
  rcases hv0 with hv0 | ⟨hv0, hu0, oka0⟩
  · go_wp2_with fail
    go_ret
    exact ⟨rfl, (by (repeat (first | (with_reducible assumption) | (with_reducible exact Below.refl _ _) | (with_reducible refine Below.drew ?_) | (with_reducible refine Below.drewN ?_ _) | (with_reducible refine Below.setCell ?_ ?_ _) | (with_reducible refine Below.alloc ?_ ?_ _) | assumption)); all_goals (first | omega | (simp; done) | (simp; omega)))⟩
  have nv0 : ¬ v0 < 0 := by omega
  go_wp2_with fail
  refine (toLink_any h0 l0 _ oka0 (Ra01.below (by (repeat (first | (with_reducible assumption) | (with_reducible exact Below.refl _ _) | (with_reducible refine Below.drew ?_) | (with_reducible refine Below.drewN ?_ _) | (with_reducible refine Below.setCell ?_ ?_ _) | (with_reducible refine Below.alloc ?_ ?_ _) | assumption)); all_goals (first | omega | (simp; done) | (simp; omega))))).mono ?_
  rintro e w2 ⟨ks0, he2, oks0, Rs02, Ws02', ss0, b2⟩
  unfold LinkV at he2
  subst he2
  have Ws02 := Ws02'.lower (show w1.heap.size ≤ _ from (by first | omega | (simp; done) | (simp; omega)))
  clear Ws02'
  have hb2 : Below w1.heap.size w1 w2 := (show Below w1.heap.size w1 _ from (by (repeat (first | (with_reducible assumption) | (with_reducible exact Below.refl _ _) | (with_reducible refine Below.drew ?_) | (with_reducible refine Below.drewN ?_ _) | (with_reducible refine Below.setCell ?_ ?_ _) | (with_reducible refine Below.alloc ?_ ?_ _) | assumption)); all_goals (first | omega | (simp; done) | (simp; omega)))).trans (b2.mono (by first | omega | (simp; done) | (simp; omega)))
  have z2 : w1.heap.size ≤ w2.heap.size := Nat.le_trans (by first | omega | (simp; done) | (simp; omega)) b2.size
  have Ka02 := Ka01.below hb2 Ka01.lt
  have Ra02 := Ra01.below hb2
  have hw2 : Below w.heap.size w w2 := hw1.trans (hb2.mono hw1.size)
  clear ca01 qa01 Ka01 Ra01 b2 hb2 hw1
  have ca02 := fun o => Ka02.cell o
  have qa02 := Ka02.lt
  have los0 : Lo (LinkR ks0) w2.heap.size := RdAll.lo Rs02
  have his0 : Hi (LinkR ks0) _ := WrAll.hi Ws02
  go_wp2_with fail
  refine (specLinkText'_any ks0 l0 _ oks0 (Rs02.below (by (repeat (first | (with_reducible assumption) | (with_reducible exact Below.refl _ _) | (with_reducible refine Below.drew ?_) | (with_reducible refine Below.drewN ?_ _) | (with_reducible refine Below.setCell ?_ ?_ _) | (with_reducible refine Below.alloc ?_ ?_ _) | assumption)); all_goals (first | omega | (simp; done) | (simp; omega))))).mono ?_
  rintro e w3 ⟨rfl, b3⟩
  have hb3 : Below w2.heap.size w2 w3 := (show Below w2.heap.size w2 _ from (by (repeat (first | (with_reducible assumption) | (with_reducible exact Below.refl _ _) | (with_reducible refine Below.drew ?_) | (with_reducible refine Below.drewN ?_ _) | (with_reducible refine Below.setCell ?_ ?_ _) | (with_reducible refine Below.alloc ?_ ?_ _) | assumption)); all_goals (first | omega | (simp; done) | (simp; omega)))).trans (b3.mono (by first | omega | (simp; done) | (simp; omega)))
  have z3 : w2.heap.size ≤ w3.heap.size := Nat.le_trans (by first | omega | (simp; done) | (simp; omega)) b3.size
  have Ka03 := Ka02.below hb3 Ka02.lt
  have Ra03 := Ra02.below hb3
  have Rs03 := Rs02.below hb3
  have Ws03 := Ws02.below Rs02 hb3
  have hw3 : Below w.heap.size w w3 := hw2.trans (hb3.mono hw2.size)
  clear Ws02 ca02 qa02 Ka02 Ra02 Rs02 b3 hb3 hw2
  have ca03 := fun o => Ka03.cell o
  have qa03 := Ka03.lt
  go_wp2_with fail
  refine (toLink_any h0 l0 _ oka0 (Ra03.below (by (repeat (first | (with_reducible assumption) | (with_reducible exact Below.refl _ _) | (with_reducible refine Below.drew ?_) | (with_reducible refine Below.drewN ?_ _) | (with_reducible refine Below.setCell ?_ ?_ _) | (with_reducible refine Below.alloc ?_ ?_ _) | assumption)); all_goals (first | omega | (simp; done) | (simp; omega))))).mono ?_
  rintro e w4 ⟨kx0, he4, okx0, Rx04, Wx04', sx0, b4⟩
  unfold LinkV at he4
  subst he4
  have Wx04 := Wx04'.lower (show w3.heap.size ≤ _ from (by first | omega | (simp; done) | (simp; omega)))
  clear Wx04'
  have hb4 : Below w3.heap.size w3 w4 := (show Below w3.heap.size w3 _ from (by (repeat (first | (with_reducible assumption) | (with_reducible exact Below.refl _ _) | (with_reducible refine Below.drew ?_) | (with_reducible refine Below.drewN ?_ _) | (with_reducible refine Below.setCell ?_ ?_ _) | (with_reducible refine Below.alloc ?_ ?_ _) | assumption)); all_goals (first | omega | (simp; done) | (simp; omega)))).trans (b4.mono (by first | omega | (simp; done) | (simp; omega)))
  have z4 : w3.heap.size ≤ w4.heap.size := Nat.le_trans (by first | omega | (simp; done) | (simp; omega)) b4.size
  have Ka04 := Ka03.below hb4 Ka03.lt
  have Ra04 := Ra03.below hb4
  have hw4 : Below w.heap.size w w4 := hw3.trans (hb4.mono hw3.size)
  clear ca03 qa03 Ka03 Ra03 b4 hb4 hw3
  have ca04 := fun o => Ka04.cell o
  have qa04 := Ka04.lt
  have lox0 : Lo (LinkR kx0) w4.heap.size := RdAll.lo Rx04
  have hix0 : Hi (LinkR kx0) _ := WrAll.hi Wx04
  go_wp2_with fail
  refine (implLinkText'_any kx0 l0 _ okx0 (Rx04.below (by (repeat (first | (with_reducible assumption) | (with_reducible exact Below.refl _ _) | (with_reducible refine Below.drew ?_) | (with_reducible refine Below.drewN ?_ _) | (with_reducible refine Below.setCell ?_ ?_ _) | (with_reducible refine Below.alloc ?_ ?_ _) | assumption)); all_goals (first | omega | (simp; done) | (simp; omega)))) (T.below (by (repeat (first | (with_reducible assumption) | (with_reducible exact Below.refl _ _) | (with_reducible refine Below.drew ?_) | (with_reducible refine Below.drewN ?_ _) | (with_reducible refine Below.setCell ?_ ?_ _) | (with_reducible refine Below.alloc ?_ ?_ _) | assumption)); all_goals (first | omega | (simp; done) | (simp; omega))))).mono ?_
  rintro e w5 ⟨rfl, b5⟩
  have hb5 : Below w4.heap.size w4 w5 := (show Below w4.heap.size w4 _ from (by (repeat (first | (with_reducible assumption) | (with_reducible exact Below.refl _ _) | (with_reducible refine Below.drew ?_) | (with_reducible refine Below.drewN ?_ _) | (with_reducible refine Below.setCell ?_ ?_ _) | (with_reducible refine Below.alloc ?_ ?_ _) | assumption)); all_goals (first | omega | (simp; done) | (simp; omega)))).trans (b5.mono (by first | omega | (simp; done) | (simp; omega)))
  have z5 : w4.heap.size + 1 ≤ w5.heap.size := Nat.le_trans (by first | omega | (simp; done) | (simp; omega)) b5.size
  have Ka05 := Ka04.below hb5 Ka04.lt
  have Kx05 : Blk w5 (w4.heap.size) 48 #[.slice kx0.items.A kx0.items.n kx0.items.c, .int .i64 l0.base, .int .i64 l0.next, .slice kx0.packets.A kx0.packets.n kx0.packets.c, .slice kx0.acks.A kx0.acks.n kx0.acks.c, .slice kx0.got.A kx0.got.n kx0.got.c] := Blk.below (by repeat (first | exact Blk.newN _ _ _ (by simp; done) | refine Blk.alloc ?_ _)) b5 (by first | omega | (simp; done) | (simp; omega))
  have Ra05 := Ra04.below hb5
  have Rx05 := Rx04.below hb5
  have Wx05 := Wx04.below Rx04 hb5
  have hw5 : Below w.heap.size w w5 := hw4.trans (hb5.mono hw4.size)
  clear Wx04 ca04 qa04 Ka04 Ra04 Rx04 b5 hb5 hw4
  have ca05 := fun o => Ka05.cell o
  have qa05 := Ka05.lt
  have cx05 := fun o => Kx05.cell o
  have qx05 := Kx05.lt
  go_upto_region 10 with fail
  go_cut [39] (fun c wx => c = .bool false ∧ Below w5.heap.size w5 wx)
  case first =>
    go_region_with (first | (go_at_call 21; refine (toLink_any h0 l0 _ oka0 (Ra05.below (by (repeat (first | (with_reducible assumption) | (with_reducible exact Below.refl _ _) | (with_reducible refine Below.drew ?_) | (with_reducible refine Below.drewN ?_ _) | (with_reducible refine Below.setCell ?_ ?_ _) | (with_reducible refine Below.alloc ?_ ?_ _) | assumption)); all_goals (first | omega | (simp; done) | (simp; omega))))).mono ?_; rintro e wa ⟨ka, hea, oka, Ra, Wa, sa, ba⟩; unfold LinkV at hea; subst hea; have hba : Below w5.heap.size w5 wa := (show Below w5.heap.size w5 _ from (by (repeat (first | (with_reducible assumption) | (with_reducible exact Below.refl _ _) | (with_reducible refine Below.drew ?_) | (with_reducible refine Below.drewN ?_ _) | (with_reducible refine Below.setCell ?_ ?_ _) | (with_reducible refine Below.alloc ?_ ?_ _) | assumption)); all_goals (first | omega | (simp; done) | (simp; omega)))).trans (ba.mono (by first | omega | (simp; done) | (simp; omega))); clear ba; have hza := hba.size; have hcx := fun o => (Kx05.below hba Kx05.lt).cell o) | (go_at_call 23; refine (eqLink_any kx0 _ l0 _ okx0 (Rx05.below (by (repeat (first | (with_reducible assumption) | (with_reducible exact Below.refl _ _) | (with_reducible refine Below.drew ?_) | (with_reducible refine Below.drewN ?_ _) | (with_reducible refine Below.setCell ?_ ?_ _) | (with_reducible refine Below.alloc ?_ ?_ _) | assumption)); all_goals (first | omega | (simp; done) | (simp; omega)))) (by first | exact Ra | exact Ra.below (by (repeat (first | (with_reducible assumption) | (with_reducible exact Below.refl _ _) | (with_reducible refine Below.drew ?_) | (with_reducible refine Below.drewN ?_ _) | (with_reducible refine Below.setCell ?_ ?_ _) | (with_reducible refine Below.alloc ?_ ?_ _) | assumption)); all_goals (first | omega | (simp; done) | (simp; omega))))).mono ?_; rintro e wb ⟨rfl, bb⟩))
    all_goals (go_wp2_with fail; go_meet; exact ⟨rfl, (show Below w5.heap.size w5 _ from (by (repeat (first | (with_reducible assumption) | (with_reducible exact Below.refl _ _) | (with_reducible refine Below.drew ?_) | (with_reducible refine Below.drewN ?_ _) | (with_reducible refine Below.setCell ?_ ?_ _) | (with_reducible refine Below.alloc ?_ ?_ _) | assumption)); all_goals (first | omega | (simp; done) | (simp; omega)))).trans (bb.mono (by first | omega | (simp; done) | (simp; omega)))⟩)
  case rest =>
    obtain ⟨rfl, b6⟩ := hcut
    obtain ⟨w6, rfl⟩ : ∃ x : World, x = wc := ⟨_, rfl⟩
    have hb6 : Below w5.heap.size w5 w6 := (show Below w5.heap.size w5 _ from (by (repeat (first | (with_reducible assumption) | (with_reducible exact Below.refl _ _) | (with_reducible refine Below.drew ?_) | (with_reducible refine Below.drewN ?_ _) | (with_reducible refine Below.setCell ?_ ?_ _) | (with_reducible refine Below.alloc ?_ ?_ _) | assumption)); all_goals (first | omega | (simp; done) | (simp; omega)))).trans (b6.mono (by first | omega | (simp; done) | (simp; omega)))
    have z6 : w5.heap.size ≤ w6.heap.size := Nat.le_trans (by first | omega | (simp; done) | (simp; omega)) b6.size
    have Ka06 := Ka05.below hb6 Ka05.lt
    have Kx06 := Kx05.below hb6 Kx05.lt
    have Ra06 := Ra05.below hb6
    have Rx06 := Rx05.below hb6
    have Wx06 := Wx05.below Rx05 hb6
    have hw6 : Below w.heap.size w w6 := hw5.trans (hb6.mono hw5.size)
    clear Wx05 ca05 qa05 Ka05 cx05 qx05 Kx05 Ra05 Rx05 b6 hb6 hw5
    have ca06 := fun o => Ka06.cell o
    have qa06 := Ka06.lt
    have cx06 := fun o => Kx06.cell o
    have qx06 := Kx06.lt
    go_wp2_with fail
    go_ret
    exact ⟨rfl, hw6⟩

theorem FnExactLinkText_walk (w : World) (v0 : Value) (g0 : LinkArg w v0) (T : TabW w) :
    Calls Tryd.prog 5 #[v0] w fun e w' => e = .returned (.bool true) ∧ Below w.heap.size w w' := by
  obtain ⟨h0, l0, rfl, mx0, r0⟩ := g0
  exact lawLinkText_any h0 l0 w mx0 r0 T
end Go.Proofs.YtoledbicmghmbaaDoor
