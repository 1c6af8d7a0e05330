/- Links: steps made in place. impl.arrive, ack, make. -/
import Derived.Test.YtoledbicmghmbaaDoorLinkE
import Derived.Deep.DeepCutAuto
import Derived.Deep.RegionLaw
namespace Go.Proofs.YtoledbicmghmbaaDoor
open Go.RowKit

/-- What the head of a packet list says. -/
theorem pkt_cells {w : World} {B : Nat} {h : Hd} {xs : List Int} (o : Own w B 2 h (ints xs)) (hn : 0 < h.n) :
    ∃ b f, h.A = some ⟨b, f, none⟩ ∧ w.cell? ⟨b, f, none⟩ = some (.int .i64 (xs.getD 0 0)) ∧ w.cell? ⟨b, f + 1, none⟩ = some (.int .i64 (xs.getD 1 0)) ∧ b < w.heap.size := by
  have hr := o.rd
  obtain ⟨ad, e, h0⟩ := hr.int (show 0 < h.n * 2 by omega)
  obtain ⟨ad', e', h1⟩ := hr.int (show 1 < h.n * 2 by omega)
  rw [e] at e'
  cases e'
  have hnc := o.nc
  obtain ⟨_, hlt, hsp, _⟩ := o.at_ ad e (by omega)
  obtain ⟨b, f, sp⟩ := ad
  simp only at hsp hlt
  subst hsp
  exact ⟨b, f, e, by simpa [Addr.add] using h0, by simpa [Addr.add] using h1, hlt⟩
theorem num_cell {w : World} {B : Nat} {h : Hd} {xs : List Int} (o : Own w B 1 h (ints xs)) (hn : 0 < h.n) :
    ∃ b f, h.A = some ⟨b, f, none⟩ ∧ w.cell? ⟨b, f, none⟩ = some (.int .i64 (xs.getD 0 0)) ∧ b < w.heap.size := by
  have hr := o.rd1
  obtain ⟨ad, e, h0⟩ := hr.int hn
  have hnc := o.nc
  obtain ⟨_, hlt, hsp, _⟩ := o.at_ ad e (by omega)
  obtain ⟨b, f, sp⟩ := ad
  simp only at hsp hlt
  subst hsp
  exact ⟨b, f, e, by simpa [Addr.add] using h0, hlt⟩

def accB (p : Int) (n : Nat) : Bool := decide (p = (n : Int) % 4) && decide ((n : Int) < 20)

set_option maxRecDepth 100000 in
set_option maxHeartbeats 4000000 in
theorem arrive_any (B g : Nat) (h : LinkH) (l : LinkC) (w : World) (X : LinkBox w B g h l) (K : LOk l) (hp : 0 < l.packets.length) (hB : B ≤ w.heap.size) :
    Calls Tryd.prog 132 #[.pointer (some ⟨g, 0, none⟩)] w fun e w' => e = .returned (.tuple #[]) ∧ (∃ h', LinkBox w' B g h' (stepL l 1)) ∧ Below B w w' := by
  have bx := X.box
  have ow := X.own
  have hgl := bx.lt
  have cx := fun o => bx.cell o
  have fx := fun o => bx.frozen o
  have HL3 := ow.packets.rd.len
  have HL4 := Lib.hid ow.acks.rd1.len
  have HL5 := Lib.hid ow.got.rd1.len
  have hn3 : 1 ≤ h.packets.n := by omega
  obtain ⟨b3, f3, hA3, hx0, hx1, hb3⟩ := pkt_cells ow.packets (by omega)
  have hsl := fun W => run_tail (P := Tryd.prog) W 46 64 2 16 Tryd.underlying46 Packet_info h.packets hn3
  have HT := ow.packets.tl (by omega)
  have HR := Own.tl_row h.packets 2
  generalize h.packets.tl 2 = Q at *
  have hpk := pkt_at K hp
  unfold LinkCells at cx
  rw [hA3] at cx hsl
  have H3 := Lib.hid hA3
  have HL3' := Lib.hid HL3
  clear hA3 HL3
  have hn0 : (0 : Int) < (h.packets.n : Int) := by omega
  have hn1 : (h.packets.n : Int) ≤ 12 := by have := K.np; have := HL3'.out; omega
  have HA : Hid (arrGot l = if l.packets.getD 0 0 = (l.got.length : Int) % 4 ∧ (l.got.length : Int) < 20 then l.got ++ [l.packets.getD 1 0] else l.got) := rfl
  have HS : Hid (stepL l 1 = ⟨l.items, l.base, l.next, l.packets.drop 2, arrAcks l, arrGot l⟩) := by unfold Hid stepL; simp
  have HC : Hid (arrAcks l = if (l.acks.length : Int) < 12 then l.acks ++ [((arrGot l).length : Int) % 4] else l.acks) := rfl
  generalize l.packets.getD 0 0 = p0 at *
  generalize l.packets.getD 1 0 = p1 at *
  go_enter Tryd.func132, Tryd.ntmps132
  go_upto_region 2 with fail
  have X1 := (X.set_packets (World.grownBy.refl _ _) (ints_drop _ _ ▸ HT) (fun b e => .inl (HR b e))).alloc (.cells #[.int .i64 p0, .int .i64 p1] 64)
  have P1 : Blk ((w.setCell ⟨g, 3, none⟩ (.slice Q.A Q.n Q.c)).alloc (.cells #[.int .i64 p0, .int .i64 p1] 64)) w.heap.size 64 #[.int .i64 p0, .int .i64 p1] := Blk.newN _ _ _ (by simp)
  have B1 : Below B w ((w.setCell ⟨g, 3, none⟩ (.slice Q.A Q.n Q.c)).alloc (.cells #[.int .i64 p0, .int .i64 p1] 64)) := ((Below.refl _ _).setCell X.ge _).alloc (by simp; omega) _
  generalize (w.setCell ⟨g, 3, none⟩ (.slice Q.A Q.n Q.c)).alloc (.cells #[.int .i64 p0, .int .i64 p1] 64) = w1 at X1 P1 B1 ⊢
  clear hsl cx fx hx0 hx1 HT HR bx ow H3 hb3 hgl
  have hz1 := B1.size
  have hg1 := X1.box.lt
  have hp1 := P1.lt
  have c1 := fun o => X1.box.cell o
  have f1 := fun o => X1.box.frozen o
  have cp := fun o => P1.cell o
  unfold LinkCells at c1
  simp only at c1
  have hn5 : (h.got.n : Int) ≤ 20 := by have := K.ng; rw [HL5.out] at this; omega
  go_cut [33] (fun c wx => c = .bool (accB p0 h.got.n) ∧ ∃ nq, wx = w1.drewN nq)
  case first =>
    by_cases ca : p0 = (h.got.n : Int) % 4
    all_goals have CA := Lib.hid ca
    all_goals first
      | have cb : (p0 == (h.got.n : Int) % 4) = true := by simpa using ca
      | have cb : (p0 == (h.got.n : Int) % 4) = false := by simpa using ca
    all_goals
      clear ca
      go_quiet ((go_at_call 75; exact q_left (length_any _ _ _ _ (by omega))))
      go_wp2_with fail
      go_meet
      exact ⟨congrArg Value.bool (by unfold accB; first | rw [decide_eq_true CA.out, Bool.true_and] | rw [decide_eq_false CA.out, Bool.false_and]), _, rfl⟩
  case rest =>
    obtain ⟨rfl, nq, rfl⟩ := hcut
    have X2 := X1.drewN nq
    have P2 : Blk (w1.drewN nq) w.heap.size 64 #[.int .i64 p0, .int .i64 p1] := P1
    have B2 := Below.drewN B1 nq
    generalize w1.drewN nq = w2 at X2 P2 B2 ⊢
    clear X1 P1 B1 c1 f1 cp hz1 hg1 hp1
    have hg2 := X2.box.lt
    have hp2 := P2.lt
    have hz2 := B2.size
    have hz2' : B ≤ w2.heap.size := Nat.le_trans hB hz2
    have c2 := fun o => X2.box.cell o
    have f2 := fun o => X2.box.frozen o
    have cp2 := fun o => P2.cell o
    unfold LinkCells at c2
    simp only at c2
    go_upto_if 33 with fail
    go_cut [] (fun wx => ∃ G : Hd, LinkBox wx B g ⟨h.items, Q, h.acks, G⟩ ⟨l.items, l.base, l.next, l.packets.drop 2, l.acks, arrGot l⟩ ∧ Below B w wx)
    case first =>
      have HB : Hid (accB p0 h.got.n = (decide (p0 = (h.got.n : Int) % 4) && decide ((h.got.n : Int) < 20))) := rfl
      generalize accB p0 h.got.n = b at *
      cases b
      · go_wp2_with fail
        go_meet
        exact ⟨h.got, by rw [HA.out, if_neg (fun c => by rw [HL5.out] at c; have := HB.out; rw [decide_eq_true c.1, decide_eq_true c.2] at this; cases this)]; exact X2, B2⟩
      · have C5 : (h.got.n : Int) < 20 := by have := HB.out.symm; rw [Bool.and_eq_true] at this; exact of_decide_eq_true this.2
        go_wp2_with fail
        go_region_law ((refine step_append_Own (by rfl) _ _ 40 (by rfl) 2 1 8 Tryd.underlying40 Int64_info (by decide) B h.got (ints l.got) (by rfl) (X2.own.got.below (by (repeat (first | (with_reducible assumption) | (with_reducible exact Below.refl _ _) | (with_reducible refine Below.drew ?_) | (with_reducible refine Below.drewN ?_ _) | (with_reducible refine Below.setCell ?_ ?_ _) | (with_reducible refine Below.alloc ?_ ?_ _) | assumption)); all_goals (first | omega | (simp; done) | (simp; omega)))) _ 1 1 (ints [p1]) (by rfl) (by rw [Nat.mul_one]; exact rd_one _ _ _) (oneCell_ints _) (by omega) (by decide) (by first | omega | (simp; done) | (simp; omega)) ?_; intro G w3 hGn HG gg hat; have k3 := ((X2.box.below (show Below w2.heap.size w2 _ from (by (repeat (first | (with_reducible assumption) | (with_reducible exact Below.refl _ _) | (with_reducible refine Below.drew ?_) | (with_reducible refine Below.drewN ?_ _) | (with_reducible refine Below.setCell ?_ ?_ _) | (with_reducible refine Below.alloc ?_ ?_ _) | assumption)); all_goals (first | omega | (simp; done) | (simp; omega)))) hg2).grown gg (X2.ne _ (by simp [LinkB]))); unfold LinkCells at k3; have c3 := fun o => k3.cell o; have f3 := fun o => k3.frozen o))
        all_goals
          have B3 : Below B w w3 := (B2.trans ((show Below w2.heap.size w2 _ from (by (repeat (first | (with_reducible assumption) | (with_reducible exact Below.refl _ _) | (with_reducible refine Below.drew ?_) | (with_reducible refine Below.drewN ?_ _) | (with_reducible refine Below.setCell ?_ ?_ _) | (with_reducible refine Below.alloc ?_ ?_ _) | assumption)); all_goals (first | omega | (simp; done) | (simp; omega)))).mono hz2')).grown gg (by first | omega | (simp; done) | (simp; omega)) (fun b e => (X2.own.got.rowlt b e).1)
          have X3 := X2.set_got (grown_trans (grown_of_below (show Below w2.heap.size w2 _ from (by (repeat (first | (with_reducible assumption) | (with_reducible exact Below.refl _ _) | (with_reducible refine Below.drew ?_) | (with_reducible refine Below.drewN ?_ _) | (with_reducible refine Below.setCell ?_ ?_ _) | (with_reducible refine Below.alloc ?_ ?_ _) | assumption)); all_goals (first | omega | (simp; done) | (simp; omega))))) gg) (ints_append _ _ ▸ HG) (app_q hat (by first | omega | (simp; done) | (simp; omega)))
          rw [hGn] at X3
          clear k3 c3 f3 hat gg HG
          go_wp2_with fail
          go_meet
          exact ⟨G, by rw [HA.out, if_pos (by rw [HL5.out]; have := HB.out.symm; rw [Bool.and_eq_true] at this; exact ⟨of_decide_eq_true this.1, of_decide_eq_true this.2⟩)]; exact X3, B3.setCell X2.ge _⟩
    case rest =>
      obtain ⟨G, X3, B3⟩ := hcut
      obtain ⟨w3, rfl⟩ : ∃ x : World, x = wc := ⟨_, rfl⟩
      clear X2 P2 B2 c2 f2 cp2 hg2 hp2 hz2 hz2' HA
      have hg3 := X3.box.lt
      have hz3 := B3.size
      have c3 := fun o => X3.box.cell o
      have f3 := fun o => X3.box.frozen o
      unfold LinkCells at c3
      simp only at c3
      have HG := Lib.hid X3.own.got.rd1.len
      have hGn : (G.n : Int) ≤ 20 := by have := (arrGot_ok K hp).1; have := HG.out; simp only at this; omega
      have hA4 : (h.acks.n : Int) ≤ 12 := by have := K.na; have := HL4.out; omega
      by_cases c4 : (h.acks.n : Int) < 12
      case neg =>
        have C4 := Lib.hid c4
        go_wp2_with fail
        go_end0
        exact ⟨rfl, ⟨⟨h.items, Q, h.acks, G⟩, by rw [HS.out, HC.out, if_neg (fun c => by rw [HL4.out] at c; have := C4.out; omega)]; exact X3⟩, B3⟩
      case pos =>
        have C4 := Lib.hid c4
        go_wp2_with fail
        go_region_law (first | ((go_simp); (go_at_call 75); refine (length_any _ _ _ _ (by omega)).mono ?_; rintro e w' ⟨rfl, rfl⟩) | ((refine step_append_Own (by rfl) _ _ 40 (by rfl) 2 1 8 Tryd.underlying40 Int64_info (by decide) B h.acks (ints l.acks) (by rfl) (X3.own.acks.below (by (repeat (first | (with_reducible assumption) | (with_reducible exact Below.refl _ _) | (with_reducible refine Below.drew ?_) | (with_reducible refine Below.drewN ?_ _) | (with_reducible refine Below.setCell ?_ ?_ _) | (with_reducible refine Below.alloc ?_ ?_ _) | assumption)); all_goals (first | omega | (simp; done) | (simp; omega)))) _ 1 1 (ints [(G.n : Int) % 4]) (by rfl) (by rw [Nat.mul_one]; exact rd_one _ _ _) (oneCell_ints _) (by omega) (by decide) (by first | omega | (simp; done) | (simp; omega)) ?_; intro G4 w4 hGn4 HG4 gg hat; have k4 := ((X3.box.below (show Below w3.heap.size w3 _ from (by (repeat (first | (with_reducible assumption) | (with_reducible exact Below.refl _ _) | (with_reducible refine Below.drew ?_) | (with_reducible refine Below.drewN ?_ _) | (with_reducible refine Below.setCell ?_ ?_ _) | (with_reducible refine Below.alloc ?_ ?_ _) | assumption)); all_goals (first | omega | (simp; done) | (simp; omega)))) hg3).grown gg (X3.ne _ (by simp [LinkB]))); unfold LinkCells at k4; have c4 := fun o => k4.cell o; have f4 := fun o => k4.frozen o)))
        all_goals
          have B4 : Below B w w4 := (B3.trans ((show Below w3.heap.size w3 _ from (by (repeat (first | (with_reducible assumption) | (with_reducible exact Below.refl _ _) | (with_reducible refine Below.drew ?_) | (with_reducible refine Below.drewN ?_ _) | (with_reducible refine Below.setCell ?_ ?_ _) | (with_reducible refine Below.alloc ?_ ?_ _) | assumption)); all_goals (first | omega | (simp; done) | (simp; omega)))).mono (Nat.le_trans hB hz3))).grown gg (by first | omega | (simp; done) | (simp; omega)) (fun b e => (X3.own.acks.rowlt b e).1)
          have X4 := X3.set_acks (grown_trans (grown_of_below (show Below w3.heap.size w3 _ from (by (repeat (first | (with_reducible assumption) | (with_reducible exact Below.refl _ _) | (with_reducible refine Below.drew ?_) | (with_reducible refine Below.drewN ?_ _) | (with_reducible refine Below.setCell ?_ ?_ _) | (with_reducible refine Below.alloc ?_ ?_ _) | assumption)); all_goals (first | omega | (simp; done) | (simp; omega))))) gg) (ints_append _ _ ▸ HG4) (app_q hat (by first | omega | (simp; done) | (simp; omega)))
          rw [hGn4] at X4
          clear k4 c4 f4 hat gg HG4
          go_wp2_with fail
          go_end0
          exact ⟨rfl, ⟨⟨h.items, Q, G4, G⟩, by rw [HS.out, HC.out, if_pos (by rw [HL4.out]; exact C4.out), show ((arrGot l).length : Int) = (G.n : Int) from by have := HG.out; omega]; exact X4⟩, B4.setCell X3.ge _⟩
end Go.Proofs.YtoledbicmghmbaaDoor
