/- Links: steps made in place, ended. impl.ack, make. -/
import Derived.Test.YtoledbicmghmbaaDoorLinkF
namespace Go.Proofs.YtoledbicmghmbaaDoor
open Go.RowKit

set_option maxRecDepth 100000 in
set_option maxHeartbeats 4000000 in
theorem ack_any (B g : Nat) (hh : LinkH) (l : LinkC) (w : World) (X : LinkBox w B g hh l) (K : LOk l) (hp : 0 < l.acks.length) (hB : B ≤ w.heap.size) :
    Calls Tryd.prog 133 #[.pointer (some ⟨g, 0, none⟩)] w fun e w' => e = .returned (.tuple #[]) ∧ (∃ k, LinkBox w' B g k (stepL l 3)) ∧ Below B w w' := by
  have ow := X.own
  have hgl := X.box.lt
  have cx := fun o => X.box.cell o
  have HL0 := Lib.hid ow.items.rd1.len
  have HL4 := ow.acks.rd1.len
  have hn4 : 1 ≤ hh.acks.n := by omega
  obtain ⟨b4, f4, hA4, hx0, hb4⟩ := num_cell ow.acks (by omega)
  have hsl := fun W => run_tail (P := Tryd.prog) W 40 2 1 8 Tryd.underlying40 Int64_info hh.acks hn4
  have HT := ow.acks.tl (by omega)
  have HR := Own.tl_row hh.acks 1
  generalize hh.acks.tl 1 = Q at *
  have ha := getD_in K.acks (by decide) (by decide) 0
  have HB : Hid (ackBase l = min (l.base + (l.acks.getD 0 0 - l.base % 4 + 4) % 4) (l.items.length : Int)) := rfl
  have HS : Hid (stepL l 3 = ⟨l.items, ackBase l, max l.next (ackBase l), l.packets, l.acks.drop 1, l.got⟩) := by unfold Hid stepL; simp
  have hbk := ackBase_bd K
  unfold LinkCells at cx
  rw [hA4] at cx
  have hn0 : (0 : Int) < (hh.acks.n : Int) := by omega
  have hn1 : (hh.acks.n : Int) ≤ 12 := by have := K.na; omega
  have k0 := K.base0
  have k1 := K.base1
  have k2 := K.n
  have k3 := K.next0
  have k4 := K.next1
  rw [HL0.out] at k1 k2 hbk HB
  clear hA4 HL4
  generalize l.acks.getD 0 0 = a0 at *
  have e1 : IntKind.i64.wrap (a0 - l.base % 4) = a0 - l.base % 4 := IntWalk.i64_in _ (by omega)
  have e2 : IntKind.i64.wrap (a0 - l.base % 4 + 4) = a0 - l.base % 4 + 4 := IntWalk.i64_in _ (by omega)
  have e3 : l.base.tmod 4 = l.base % 4 := Int.tmod_eq_emod_of_nonneg k0
  have e4 : (a0 - l.base % 4 + 4).tmod 4 = (a0 - l.base % 4 + 4) % 4 := Int.tmod_eq_emod_of_nonneg (by omega)
  have i0 : (0 : Int) < (hh.acks.n : Int) := hn0
  go_enter Tryd.func133, Tryd.ntmps133
  go_wp2_with fail
  go_quiet (fail)
  have X1 := X.drewN nq
  have B1 := Below.drewN (Below.refl B w) nq
  have HT1 : Own (w.drewN nq) B 1 Q (ints (l.acks.drop 1)) := by rw [← ints_drop]; exact HT.below (below_drewN w nq)
  generalize w.drewN nq = w1 at X1 B1 HT1 ⊢
  clear HT cx hx0 hb4 hgl ow
  have hg1 := X1.box.lt
  have c1 := fun o => X1.box.cell o
  have f1 := fun o => X1.box.frozen o
  unfold LinkCells at c1
  go_upto_region 2 with fail
  have X2 := X1.set_acks (World.grownBy.refl _ _) HT1 (fun b e => .inl (HR b e))
  have B2 : Below B w (w1.setCell ⟨g, 4, none⟩ (.slice Q.A Q.n Q.c)) := B1.setCell X.ge _
  generalize w1.setCell ⟨g, 4, none⟩ (.slice Q.A Q.n Q.c) = w2 at X2 B2 ⊢
  clear X1 B1 HT1 c1 f1 hg1 hsl HR e1 e2 e3 e4
  have hg2 := X2.box.lt
  have c2 := fun o => X2.box.cell o
  have f2 := fun o => X2.box.frozen o
  unfold LinkCells at c2
  simp only at c2
  have HB2 : Hid (ackBase l = min (l.base + (a0 - l.base) % 4) (hh.items.n : Int)) := by unfold Hid; rw [HB.out]; congr 2; omega
  clear HB
  have m0 : 0 ≤ (a0 - l.base) % 4 := by omega
  have m1 : (a0 - l.base) % 4 ≤ 3 := by omega
  generalize (a0 - l.base) % 4 = by_ at *
  have e1 : IntKind.i64.wrap (l.base + by_) = l.base + by_ := IntWalk.i64_in _ (by omega)
  go_cut [] (fun wx => LinkBox wx B g ⟨hh.items, hh.packets, Q, hh.got⟩ ⟨l.items, ackBase l, l.next, l.packets, l.acks.drop 1, l.got⟩ ∧ Below B w wx)
  case first =>
    go_region_law ((go_simp); (go_at_call 75); refine (length_any _ _ _ _ (by omega)).mono ?_; rintro e w' ⟨rfl, rfl⟩)
    all_goals go_wp2_with fail
    all_goals
      go_meet
      first
        | (rw [show ackBase l = l.base + by_ from by rw [HB2.out]; omega]; exact ⟨by first | exact X2.set_base _ | exact (X2.set_base _).drew | exact X2.drew.set_base _, by first | exact B2.setCell X2.ge _ | exact (B2.setCell X2.ge _).drew⟩)
        | (rw [show ackBase l = (hh.items.n : Int) from by rw [HB2.out]; omega]; exact ⟨by first | exact X2.set_base _ | exact (X2.set_base _).drew | exact X2.drew.set_base _, by first | exact B2.setCell X2.ge _ | exact (B2.setCell X2.ge _).drew⟩)
  case rest =>
    obtain ⟨X3, B3⟩ := hcut
    obtain ⟨w3, rfl⟩ : ∃ x : World, x = wc := ⟨_, rfl⟩
    clear X2 B2 c2 f2 hg2 HB2 e1
    have hg3 := X3.box.lt
    have c3 := fun o => X3.box.cell o
    have f3 := fun o => X3.box.frozen o
    unfold LinkCells at c3
    simp only at c3
    generalize hA : ackBase l = nb at *
    have HA := Lib.hid hA
    clear hA
    go_wp2_with fail
    go_region
    all_goals go_wp2_with fail
    all_goals
      go_end0
      first
        | exact ⟨rfl, ⟨⟨hh.items, hh.packets, Q, hh.got⟩, by (rw [HS.out]; (try rw [HA.out])); rw [show max l.next nb = l.next from by omega]; first | exact X3.set_next _ | exact (X3.set_next _).drew | exact X3.drew.set_next _⟩, by first | exact B3.setCell X3.ge _ | exact (B3.setCell X3.ge _).drew⟩
        | exact ⟨rfl, ⟨⟨hh.items, hh.packets, Q, hh.got⟩, by (rw [HS.out]; (try rw [HA.out])); rw [show max l.next nb = nb from by omega]; first | exact X3.set_next _ | exact (X3.set_next _).drew | exact X3.drew.set_next _⟩, by first | exact B3.setCell X3.ge _ | exact (B3.setCell X3.ge _).drew⟩
end Go.Proofs.YtoledbicmghmbaaDoor
