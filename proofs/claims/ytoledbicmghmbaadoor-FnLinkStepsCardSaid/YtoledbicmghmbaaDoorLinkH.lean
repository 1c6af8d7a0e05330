/- Links: a step made in place: impl's make. Condition: a valid link of one's own, and a step that is possible. -/
import Derived.Test.YtoledbicmghmbaaDoorLinkG
import Derived.Deep.RegionHeld3
namespace Go.Proofs.YtoledbicmghmbaaDoor
open Go.RowKit

theorem num_at {w : World} {B k : Nat} {h : Hd} {xs : List Int} (o : Own w B 1 h (ints xs)) (hn : k < h.n) :
    ∃ b f, h.A = some ⟨b, f, none⟩ ∧ w.cell? ⟨b, f + k, none⟩ = some (.int .i64 (xs.getD k 0)) ∧ b < w.heap.size := by
  have hr := o.rd1
  obtain ⟨ad, e, h0⟩ := hr.int hn
  have hnc := o.nc
  obtain ⟨_, hlt, hsp, _⟩ := o.at_ ad e (by omega)
  obtain ⟨b, f, sp⟩ := ad
  simp only at hsp hlt
  subst hsp
  exact ⟨b, f, e, by rw [Addr.add_lit] at h0; exact h0, hlt⟩

/-- what a step made in place leaves behind -/
def MadePost (B g : Nat) (l : LinkC) (k : Int) (w : World) (e : Ending) (w' : World) : Prop := e = .returned (.tuple #[]) ∧ (∃ h', LinkBox w' B g h' (stepL l k)) ∧ Below B w w'

set_option linter.unusedSimpArgs false in
set_option maxRecDepth 100000 in
set_option maxHeartbeats 4000000 in
theorem make0_any (B g : Nat) (hh : LinkH) (l : LinkC) (w : World) (X : LinkBox w B g hh l) (K : LOk l) (hc : canL l 0 = true) (hB : B ≤ w.heap.size) :
    Calls Tryd.prog 83 #[.pointer (some ⟨g, 0, none⟩), .int .i64 0] w (MadePost B g l 0 w) := by
  have HS : Hid (stepL l 0 = ⟨l.items, l.base, l.next + 1, l.packets ++ [l.next % 4, l.items.getD l.next.toNat 0], l.acks, l.got⟩) := by unfold Hid stepL; simp
  have hlt : l.next < (l.items.length : Int) ∧ (l.packets.length : Int) < 24 := by unfold canL at hc; simp at hc; omega
  have ow := X.own
  have hg1 := X.box.lt
  have HL0 := ow.items.rd1.len
  have HL3 := ow.packets.rd.len
  have k0 := K.base0
  have k2 := K.n
  have k3 := K.next0
  obtain ⟨b0, f0, hA0, hx0, hb0⟩ := num_at (k := l.next.toNat) ow.items (by omega)
  have i0 : (0 : Int) ≤ l.next := by omega
  have i1 : l.next < (hh.items.n : Int) := by omega
  have n3 : (hh.packets.n : Int) < 12 := by omega
  have n3' : hh.packets.n < 12 := by omega
  have i2 : l.next ≤ 20 := by omega
  have hbg : b0 ≠ g := fun c => by
    have hr : hh.items.row = some b0 := Hd.row_mk hA0 (by have := ow.items.nc; omega)
    exact X.ne hh.items.row (by simp [LinkB]) (by rw [hr, c])
  have hbrow : hh.packets.row ≠ some b0 := fun c => by
    have hr : hh.items.row = some b0 := Hd.row_mk hA0 (by have := ow.items.nc; omega)
    exact ow.sep.nth (i := 1) (j := 0) rfl rfl (by decide) b0 hr c
  have hgrow : hh.packets.row ≠ some g := X.ne _ (by simp [LinkB])
  have cx := fun o => X.box.cell o
  have fx := fun o => X.box.frozen o
  unfold LinkCells at cx
  rw [hA0] at cx
  have h0 : w.cell? ⟨g, 0, none⟩ = some (.slice (some ⟨b0, f0, none⟩) hh.items.n hh.items.c) := cx 0
  have h2 : w.cell? ⟨g, 2, none⟩ = some (.int .i64 l.next) := cx 2
  have h3 : w.cell? ⟨g, 3, none⟩ = some (.slice hh.packets.A hh.packets.n hh.packets.c) := cx 3
  have emod : l.next.tmod 4 = l.next % 4 := Int.tmod_eq_emod_of_nonneg i0
  have s0 : ∀ (W : World) (u : Value), (W.setCell ⟨g, 3, none⟩ u).cell? ⟨g, 0, none⟩ = W.cell? ⟨g, 0, none⟩ := fun W u => World.cell?_setCell_other _ _ _ _ (by simp)
  have s2 : ∀ (W : World) (u : Value), (W.setCell ⟨g, 3, none⟩ u).cell? ⟨g, 2, none⟩ = W.cell? ⟨g, 2, none⟩ := fun W u => World.cell?_setCell_other _ _ _ _ (by simp)
  have sy : ∀ (W : World) (u : Value), (W.setCell ⟨g, 3, none⟩ u).cell? ⟨b0, f0 + l.next.toNat, none⟩ = W.cell? ⟨b0, f0 + l.next.toNat, none⟩ := fun W u => World.cell?_setCell_other _ _ _ _ (by simp; try (intro c; exact absurd c.symm hbg))
  clear hA0 HL0 HL3 cx
  generalize l.items.getD l.next.toNat 0 = y0 at *
  go_enter Tryd.func83, Tryd.ntmps83
  go_wp2_with fail
  refine wp_region_noPanic ?_
  refine wp_region_held_drew (S := (fun w' => w'.cell? ⟨g, 0, none⟩ = some (.slice (some ⟨b0, f0, none⟩) hh.items.n hh.items.c) ∧ w'.cell? ⟨g, 2, none⟩ = some (.int .i64 l.next) ∧ w'.cell? ⟨b0, f0 + l.next.toNat, none⟩ = some (.int .i64 y0))) (by kernel_rfl) ?_ (fun hHeld => ?_)
  · exact ⟨h0, h2, hx0⟩
  refine wpAnyH_take (i := 0) (v := ?v0) rfl (by kernel_rfl) (by kernel_rfl) (by kernel_rfl) (fun _ _ _ h => h) (Or.inl ⟨by rfl, ?hy0⟩) (by assumption) ?re0
  case hy0 => (intro w0 hSw; (try dsimp only at hSw); go_simp; (try (with_reducible rfl)))
  try simp only [Act.put, List.setIfInBounds_toArray, List.set_cons_zero, List.set_cons_succ]
  refine wpAnyH_take (i := 1) (v := ?v1) rfl (by kernel_rfl) (by kernel_rfl) (by kernel_rfl) (fun _ _ _ h => h) (Or.inl ⟨by rfl, ?hy1⟩) (by assumption) ?re1
  case hy1 => (intro w0 hSw; (try dsimp only at hSw); go_simp; (try (with_reducible rfl)))
  try simp only [Act.put, List.setIfInBounds_toArray, List.set_cons_zero, List.set_cons_succ]
  refine wpAnyH_take (i := 2) (v := ?v2) rfl (by kernel_rfl) (by kernel_rfl) (by kernel_rfl) (fun _ _ _ h => h) (Or.inl ⟨by rfl, ?hy2⟩) (by assumption) ?re2
  case hy2 => (intro w0 hSw; (try dsimp only at hSw); go_simp; (try (with_reducible rfl)))
  try simp only [Act.put, List.setIfInBounds_toArray, List.set_cons_zero, List.set_cons_succ]
  refine wpAnyH_take (i := 3) (v := ?v3) rfl (by kernel_rfl) (by kernel_rfl) (by kernel_rfl) (fun _ _ _ h => h) (Or.inl ⟨by rfl, ?hy3⟩) (by assumption) ?re3
  case hy3 => (intro w0 hSw; (try dsimp only at hSw); go_simp; (try (with_reducible rfl)))
  try simp only [Act.put, List.setIfInBounds_toArray, List.set_cons_zero, List.set_cons_succ]
  refine wpAnyH_take (i := 5) (v := ?v4) rfl (by kernel_rfl) (by kernel_rfl) (by kernel_rfl) (fun _ _ _ h => h) (Or.inl ⟨by rfl, ?hy4⟩) (by assumption) ?re4
  case hy4 => (intro w0 hSw; (try dsimp only at hSw); go_simp; (try (with_reducible rfl)))
  try simp only [Act.put, List.setIfInBounds_toArray, List.set_cons_zero, List.set_cons_succ]
  refine wpAnyH_take (i := 6) (v := ?v5) rfl (by kernel_rfl) (by kernel_rfl) (by kernel_rfl) (fun _ _ _ h => h) (Or.inl ⟨by rfl, ?hy5⟩) (by assumption) ?re5
  case hy5 => (intro w0 hSw; (try dsimp only at hSw); go_simp; (try (with_reducible rfl)))
  try simp only [Act.put, List.setIfInBounds_toArray, List.set_cons_zero, List.set_cons_succ]
  refine wpAnyH_take (i := 7) (v := ?v6) rfl (by kernel_rfl) (by kernel_rfl) (by kernel_rfl) (fun _ _ _ h => h) (Or.inl ⟨by rfl, ?hy6⟩) (by assumption) ?re6
  case hy6 => (intro w0 hSw; (try dsimp only at hSw); go_simp; (try (with_reducible rfl)))
  try simp only [Act.put, List.setIfInBounds_toArray, List.set_cons_zero, List.set_cons_succ]
  refine wpAnyH_take (i := 8) (v := ?v7) rfl (by kernel_rfl) (by kernel_rfl) (by kernel_rfl) (fun _ _ _ h => h) (Or.inl ⟨by rfl, ?hy7⟩) (by assumption) ?re7
  case hy7 => (intro w0 hSw; (try dsimp only at hSw); go_simp; (try (with_reducible rfl)))
  try simp only [Act.put, List.setIfInBounds_toArray, List.set_cons_zero, List.set_cons_succ]
  refine wpAnyH_take (i := 9) (v := ?v8) rfl (by kernel_rfl) (by kernel_rfl) (by kernel_rfl) (fun _ _ _ h => h) (Or.inl ⟨by rfl, ?hy8⟩) (by assumption) ?re8
  case hy8 => (intro w0 hSw; (try dsimp only at hSw); go_simp; (try (with_reducible rfl)))
  try simp only [Act.put, List.setIfInBounds_toArray, List.set_cons_zero, List.set_cons_succ]
  refine wpAnyH_take (i := 10) (v := ?v9) rfl (by kernel_rfl) (by kernel_rfl) (by kernel_rfl) (fun _ _ _ h => h) (Or.inl ⟨by rfl, ?hy9⟩) (by assumption) ?re9
  case hy9 => (intro w0 hSw; (try dsimp only at hSw); go_simp; (try (with_reducible rfl)))
  try simp only [Act.put, List.setIfInBounds_toArray, List.set_cons_zero, List.set_cons_succ]
  refine wpAnyH_take (i := 11) (v := ?v10) rfl (by kernel_rfl) (by kernel_rfl) (by kernel_rfl) (fun _ _ _ h => h) (Or.inl ⟨by rfl, ?hy10⟩) (by assumption) ?re10
  case hy10 => (intro w0 hSw; (try dsimp only at hSw); go_simp; (try (with_reducible rfl)))
  try simp only [Act.put, List.setIfInBounds_toArray, List.set_cons_zero, List.set_cons_succ]
  refine wpAnyH_take (i := 12) (v := ?v11) rfl (by kernel_rfl) (by kernel_rfl) (by kernel_rfl) (fun _ _ _ h => h) (Or.inl ⟨by rfl, ?hy11⟩) (by assumption) ?re11
  case hy11 => (intro w0 hSw; (try dsimp only at hSw); go_simp; (try (with_reducible rfl)))
  try simp only [Act.put, List.setIfInBounds_toArray, List.set_cons_zero, List.set_cons_succ]
  refine wpAnyH_take (i := 13) (v := ?v12) rfl (by kernel_rfl) (by kernel_rfl) (by kernel_rfl) (fun _ _ _ h => h) (Or.inl ⟨by rfl, ?hy12⟩) (by assumption) ?re12
  case hy12 => (intro w0 hSw; (try dsimp only at hSw); go_simp; (try (with_reducible rfl)))
  try simp only [Act.put, List.setIfInBounds_toArray, List.set_cons_zero, List.set_cons_succ]
  refine wpAnyH_take (i := 14) (v := ?v13) rfl (by kernel_rfl) (by kernel_rfl) (by kernel_rfl) (fun _ _ _ h => h) (Or.inl ⟨by rfl, ?hy13⟩) (by assumption) ?re13
  case hy13 => (intro w0 hSw; (try dsimp only at hSw); go_simp; (try (with_reducible rfl)))
  try simp only [Act.put, List.setIfInBounds_toArray, List.set_cons_zero, List.set_cons_succ]
  refine wpAnyH_take (i := 15) (v := ?v14) rfl (by kernel_rfl) (by kernel_rfl) (by kernel_rfl) (fun _ _ _ h => h) (Or.inl ⟨by rfl, ?hy14⟩) (by assumption) ?re14
  case hy14 => (intro w0 hSw; (try dsimp only at hSw); go_simp; (try (with_reducible rfl)))
  try simp only [Act.put, List.setIfInBounds_toArray, List.set_cons_zero, List.set_cons_succ]
  refine wpAnyH_take (i := 16) (v := ?v15) rfl (by kernel_rfl) (by kernel_rfl) (by kernel_rfl) (fun _ _ _ h => h) (Or.inl ⟨by rfl, ?hy15⟩) (by assumption) ?re15
  case hy15 => (intro w0 hSw; (try dsimp only at hSw); go_simp; (try (with_reducible rfl)))
  try simp only [Act.put, List.setIfInBounds_toArray, List.set_cons_zero, List.set_cons_succ]
  refine wpAnyH_take (i := 17) (v := ?v16) rfl (by kernel_rfl) (by kernel_rfl) (by kernel_rfl) (fun _ _ _ h => h) (Or.inl ⟨by rfl, ?hy16⟩) (by assumption) ?re16
  case hy16 => (intro w0 hSw; (try dsimp only at hSw); go_simp; (try (with_reducible rfl)))
  try simp only [Act.put, List.setIfInBounds_toArray, List.set_cons_zero, List.set_cons_succ]
  refine wpAnyH_take (i := 18) (v := ?v17) rfl (by kernel_rfl) (by kernel_rfl) (by kernel_rfl) (fun _ _ _ h => h) (Or.inl ⟨by rfl, ?hy17⟩) (by assumption) ?re17
  case hy17 => (intro w0 hSw; (try dsimp only at hSw); go_simp; (try (with_reducible rfl)))
  try simp only [Act.put, List.setIfInBounds_toArray, List.set_cons_zero, List.set_cons_succ]
  refine wpAnyH_take (i := 19) (v := ?v18) rfl (by kernel_rfl) (by kernel_rfl) (by kernel_rfl) (fun _ _ _ h => h) (Or.inl ⟨by rfl, ?hy18⟩) (by assumption) ?re18
  case hy18 => (intro w0 hSw; (try dsimp only at hSw); go_simp; (try (with_reducible rfl)))
  try simp only [Act.put, List.setIfInBounds_toArray, List.set_cons_zero, List.set_cons_succ]
  refine wpAnyH_take (i := 20) (v := ?v19) rfl (by kernel_rfl) (by kernel_rfl) (by kernel_rfl) (fun _ _ _ h => h) (Or.inl ⟨by rfl, ?hy19⟩) (by assumption) ?re19
  case hy19 => (intro w0 hSw; (try dsimp only at hSw); go_simp; (try (with_reducible rfl)))
  try simp only [Act.put, List.setIfInBounds_toArray, List.set_cons_zero, List.set_cons_succ]
  refine wpAnyH_ready (rs := [4, 21]) (by kernel_rfl) (by simp) ?_
  refine AllReadyH.cons rfl (fun K hK => ?_) ?_
  · go_simp
    refine hK.out _ _ ?_ (fun hHeld => ?_)
    · first | exact hHeld | (refine ⟨?_, ?_, ?_⟩ <;> go_keep)
    clear hK K
    try simp only [Act.put, List.setIfInBounds_toArray, List.set_cons_zero, List.set_cons_succ]
    refine wpAnyH_ready (rs := [21]) (by kernel_rfl) (by simp) ?_
    refine AllReadyH.cons rfl (fun K hK => ?_) ?_
    · go_simp
      refine hK.out _ _ ?_ (fun hHeld => ?_)
      · (refine ⟨?_, ?_, ?_⟩ <;> go_keep)
      clear hK K
      try simp only [Act.put, List.setIfInBounds_toArray, List.set_cons_zero, List.set_cons_succ]
      refine wpAnyH_ready (rs := [22]) (by kernel_rfl) (by simp) ?_
      refine AllReadyH.cons rfl (fun K hK => ?_) ?_
      · refine step_append_Own (by rfl) _ _ 46 (by rfl) 64 2 16 Tryd.underlying46 Packet_info (by decide) B hh.packets (ints l.packets) (by rfl) (ow.packets.below (by (repeat (first | (with_reducible assumption) | (with_reducible exact Below.refl _ _) | (with_reducible refine Below.drew ?_) | (with_reducible refine Below.drewN ?_ _) | (with_reducible refine Below.setCell ?_ ?_ _) | (with_reducible refine Below.alloc ?_ ?_ _) | assumption)); all_goals (first | omega | (simp; done) | (simp; omega)))) _ 1 1 (ints [l.next % 4, y0]) (by rfl) (rd_pair _ _ _ _) (oneCell_ints _) (by omega) (by decide) (by first | omega | (simp; done) | (simp; omega)) ?_; intro G w3 hGn HG gg hat; have ga : w.grownBy w3 hh.packets.row := grown_trans (grown_of_below (show Below w.heap.size w _ from (by (repeat (first | (with_reducible assumption) | (with_reducible exact Below.refl _ _) | (with_reducible refine Below.drew ?_) | (with_reducible refine Below.drewN ?_ _) | (with_reducible refine Below.setCell ?_ ?_ _) | (with_reducible refine Below.alloc ?_ ?_ _) | assumption)); all_goals (first | omega | (simp; done) | (simp; omega))))) gg; have t0 : w3.cell? ⟨g, 0, none⟩ = some (.slice (some ⟨b0, f0, none⟩) hh.items.n hh.items.c) := ga.cell h0 (Ne.symm hgrow); have t2 : w3.cell? ⟨g, 2, none⟩ = some (.int .i64 l.next) := ga.cell h2 (Ne.symm hgrow); have ty : w3.cell? ⟨b0, f0 + l.next.toNat, none⟩ = some (.int .i64 y0) := ga.cell hx0 (Ne.symm hbrow); have k3 := X.box.grown ga hgrow; have t3 := k3.cell 3; have f3 := fun o => k3.frozen o; have hlt3 := k3.lt
        refine hK.out _ _ ?_ (fun hHeld => ?_)
        · first | exact ⟨t0, t2, ty⟩ | (refine ⟨?_, ?_, ?_⟩ <;> go_keep)
        clear hK K
        try simp only [Act.put, List.setIfInBounds_toArray, List.set_cons_zero, List.set_cons_succ]
        refine wpAnyH_take (i := 23) (v := ?v20) rfl (by kernel_rfl) (by kernel_rfl) (by kernel_rfl) (fun _ _ _ h => h) (Or.inl ⟨by rfl, ?hy20⟩) (by assumption) ?re20
        case hy20 => (intro w0 hSw; (try dsimp only at hSw); go_simp; (try (with_reducible rfl)))
        try simp only [Act.put, List.setIfInBounds_toArray, List.set_cons_zero, List.set_cons_succ]
        refine wpAnyH_take (i := 24) (v := ?v21) rfl (by kernel_rfl) (by kernel_rfl) (by kernel_rfl) (fun _ _ _ h => h) (Or.inl ⟨by rfl, ?hy21⟩) (by assumption) ?re21
        case hy21 => (intro w0 hSw; (try dsimp only at hSw); go_simp; (try (with_reducible rfl)))
        try simp only [Act.put, List.setIfInBounds_toArray, List.set_cons_zero, List.set_cons_succ]
        refine wpAnyH_ready (rs := [25]) (by kernel_rfl) (by simp) ?_
        refine AllReadyH.cons rfl (fun K hK => ?_) ?_
        · go_simp
          refine hK.out _ _ ?_ (fun hHeld => ?_)
          · (refine ⟨?_, ?_, ?_⟩ <;> go_keep)
          clear hK K
          try simp only [Act.put, List.setIfInBounds_toArray, List.set_cons_zero, List.set_cons_succ]
          refine wpAnyH_done (by kernel_rfl) ?_ _
          refine NoPanic.normal ?_
          have X1 := X.set_packets (ps := l.packets ++ [l.next % 4, y0]) ga (by rw [ints_append]; exact HG) (app_q hat (by first | exact Nat.le_refl _ | (simp; done) | (simp; omega)))
          have B1 : Below B w w3 := (Below.refl _ _).grown ga hB (fun b e => (ow.packets.rowlt b e).1)
          rw [hGn] at X1
          have B2 := B1.setCell (p := ⟨g, 3, none⟩) X.ge (.slice G.A (hh.packets.n + 1) G.c)
          generalize w3.setCell ⟨g, 3, none⟩ (.slice G.A (hh.packets.n + 1) G.c) = w4 at X1 B2 ⊢
          clear t0 t2 ty k3 t3 f3 hlt3 ga gg hat HG hGn B1 s0 s2 sy h0 h2 h3 fx hx0 hb0
          have c4 := fun o => X1.box.cell o
          have f4 := fun o => X1.box.frozen o
          have g4 := X1.box.lt
          unfold LinkCells at c4
          simp only at c4
          go_wp2
          go_end0
          exact ⟨rfl, ⟨⟨hh.items, G, hh.acks, hh.got⟩, by rw [HS.out]; exact X1.set_next _⟩, B2.setCell X1.ge _⟩
        · exact AllReadyH.nil
      · exact AllReadyH.nil
    · exact AllReadyH.nil
  refine AllReadyH.cons rfl (fun K hK => ?_) ?_
  · go_simp
    refine hK.out _ _ ?_ (fun hHeld => ?_)
    · (refine ⟨?_, ?_, ?_⟩ <;> go_keep)
    clear hK K
    try simp only [Act.put, List.setIfInBounds_toArray, List.set_cons_zero, List.set_cons_succ]
    refine wpAnyH_ready (rs := [4]) (by kernel_rfl) (by simp) ?_
    refine AllReadyH.cons rfl (fun K hK => ?_) ?_
    · go_simp
      refine hK.out _ _ ?_ (fun hHeld => ?_)
      · first | exact hHeld | (refine ⟨?_, ?_, ?_⟩ <;> go_keep)
      clear hK K
      try simp only [Act.put, List.setIfInBounds_toArray, List.set_cons_zero, List.set_cons_succ]
      refine wpAnyH_ready (rs := [22]) (by kernel_rfl) (by simp) ?_
      refine AllReadyH.cons rfl (fun K hK => ?_) ?_
      · refine step_append_Own (by rfl) _ _ 46 (by rfl) 64 2 16 Tryd.underlying46 Packet_info (by decide) B hh.packets (ints l.packets) (by rfl) (ow.packets.below (by (repeat (first | (with_reducible assumption) | (with_reducible exact Below.refl _ _) | (with_reducible refine Below.drew ?_) | (with_reducible refine Below.drewN ?_ _) | (with_reducible refine Below.setCell ?_ ?_ _) | (with_reducible refine Below.alloc ?_ ?_ _) | assumption)); all_goals (first | omega | (simp; done) | (simp; omega)))) _ 1 1 (ints [l.next % 4, y0]) (by rfl) (rd_pair _ _ _ _) (oneCell_ints _) (by omega) (by decide) (by first | omega | (simp; done) | (simp; omega)) ?_; intro G w3 hGn HG gg hat; have ga : w.grownBy w3 hh.packets.row := grown_trans (grown_of_below (show Below w.heap.size w _ from (by (repeat (first | (with_reducible assumption) | (with_reducible exact Below.refl _ _) | (with_reducible refine Below.drew ?_) | (with_reducible refine Below.drewN ?_ _) | (with_reducible refine Below.setCell ?_ ?_ _) | (with_reducible refine Below.alloc ?_ ?_ _) | assumption)); all_goals (first | omega | (simp; done) | (simp; omega))))) gg; have t0 : w3.cell? ⟨g, 0, none⟩ = some (.slice (some ⟨b0, f0, none⟩) hh.items.n hh.items.c) := ga.cell h0 (Ne.symm hgrow); have t2 : w3.cell? ⟨g, 2, none⟩ = some (.int .i64 l.next) := ga.cell h2 (Ne.symm hgrow); have ty : w3.cell? ⟨b0, f0 + l.next.toNat, none⟩ = some (.int .i64 y0) := ga.cell hx0 (Ne.symm hbrow); have k3 := X.box.grown ga hgrow; have t3 := k3.cell 3; have f3 := fun o => k3.frozen o; have hlt3 := k3.lt
        refine hK.out _ _ ?_ (fun hHeld => ?_)
        · first | exact ⟨t0, t2, ty⟩ | (refine ⟨?_, ?_, ?_⟩ <;> go_keep)
        clear hK K
        try simp only [Act.put, List.setIfInBounds_toArray, List.set_cons_zero, List.set_cons_succ]
        refine wpAnyH_take (i := 23) (v := ?v22) rfl (by kernel_rfl) (by kernel_rfl) (by kernel_rfl) (fun _ _ _ h => h) (Or.inl ⟨by rfl, ?hy22⟩) (by assumption) ?re22
        case hy22 => (intro w0 hSw; (try dsimp only at hSw); go_simp; (try (with_reducible rfl)))
        try simp only [Act.put, List.setIfInBounds_toArray, List.set_cons_zero, List.set_cons_succ]
        refine wpAnyH_take (i := 24) (v := ?v23) rfl (by kernel_rfl) (by kernel_rfl) (by kernel_rfl) (fun _ _ _ h => h) (Or.inl ⟨by rfl, ?hy23⟩) (by assumption) ?re23
        case hy23 => (intro w0 hSw; (try dsimp only at hSw); go_simp; (try (with_reducible rfl)))
        try simp only [Act.put, List.setIfInBounds_toArray, List.set_cons_zero, List.set_cons_succ]
        refine wpAnyH_ready (rs := [25]) (by kernel_rfl) (by simp) ?_
        refine AllReadyH.cons rfl (fun K hK => ?_) ?_
        · go_simp
          refine hK.out _ _ ?_ (fun hHeld => ?_)
          · (refine ⟨?_, ?_, ?_⟩ <;> go_keep)
          clear hK K
          try simp only [Act.put, List.setIfInBounds_toArray, List.set_cons_zero, List.set_cons_succ]
          refine wpAnyH_done (by kernel_rfl) ?_ _
          refine NoPanic.normal ?_
          have X1 := X.set_packets (ps := l.packets ++ [l.next % 4, y0]) ga (by rw [ints_append]; exact HG) (app_q hat (by first | exact Nat.le_refl _ | (simp; done) | (simp; omega)))
          have B1 : Below B w w3 := (Below.refl _ _).grown ga hB (fun b e => (ow.packets.rowlt b e).1)
          rw [hGn] at X1
          have B2 := B1.setCell (p := ⟨g, 3, none⟩) X.ge (.slice G.A (hh.packets.n + 1) G.c)
          generalize w3.setCell ⟨g, 3, none⟩ (.slice G.A (hh.packets.n + 1) G.c) = w4 at X1 B2 ⊢
          clear t0 t2 ty k3 t3 f3 hlt3 ga gg hat HG hGn B1 s0 s2 sy h0 h2 h3 fx hx0 hb0
          have c4 := fun o => X1.box.cell o
          have f4 := fun o => X1.box.frozen o
          have g4 := X1.box.lt
          unfold LinkCells at c4
          simp only at c4
          go_wp2
          go_end0
          exact ⟨rfl, ⟨⟨hh.items, G, hh.acks, hh.got⟩, by rw [HS.out]; exact X1.set_next _⟩, B2.setCell X1.ge _⟩
        · exact AllReadyH.nil
      · exact AllReadyH.nil
    · exact AllReadyH.nil
  exact AllReadyH.nil

set_option maxRecDepth 100000 in
set_option maxHeartbeats 2000000 in
theorem make2_any (B g : Nat) (hh : LinkH) (l : LinkC) (w : World) (X : LinkBox w B g hh l) (K : LOk l) (hc : canL l 2 = true) (hB : B ≤ w.heap.size) :
    Calls Tryd.prog 83 #[.pointer (some ⟨g, 0, none⟩), .int .i64 2] w (MadePost B g l 2 w) := by
  have HS : Hid (stepL l 2 = ⟨l.items, l.base, l.next, l.packets.drop 2, l.acks, l.got⟩) := by unfold Hid stepL; simp
  have hlt : 0 < l.packets.length := by unfold canL at hc; simp at hc; exact hc
  have HL := X.own.packets.rd.len
  have hn : 1 ≤ hh.packets.n := by omega
  have hn0 : (1 : Int) ≤ (hh.packets.n : Int) := by omega
  have hsl := fun W => run_tail (P := Tryd.prog) W 46 64 2 16 Tryd.underlying46 Packet_info hh.packets hn
  have HT := X.own.packets.tl hn
  have HR := Own.tl_row hh.packets 2
  generalize hh.packets.tl 2 = Q at *
  have X1 := X.set_packets (World.grownBy.refl _ _) (ints_drop _ _ ▸ HT) (fun b e => .inl (HR b e))
  have B1 : Below B w (w.setCell ⟨g, 3, none⟩ (.slice Q.A Q.n Q.c)) := (Below.refl _ _).setCell X.ge _
  have cx := fun o => X.box.cell o
  have fx := fun o => X.box.frozen o
  have gx := X.box.lt
  unfold LinkCells at cx
  clear HL HT HR
  go_enter Tryd.func83, Tryd.ntmps83
  go_wp2
  go_end0
  exact ⟨rfl, ⟨⟨hh.items, Q, hh.acks, hh.got⟩, by rw [HS.out]; exact X1⟩, B1⟩

set_option maxRecDepth 100000 in
set_option maxHeartbeats 2000000 in
theorem make4_any (B g : Nat) (hh : LinkH) (l : LinkC) (w : World) (X : LinkBox w B g hh l) (K : LOk l) (hc : canL l 4 = true) (hB : B ≤ w.heap.size) :
    Calls Tryd.prog 83 #[.pointer (some ⟨g, 0, none⟩), .int .i64 4] w (MadePost B g l 4 w) := by
  have HS : Hid (stepL l 4 = ⟨l.items, l.base, l.next, l.packets, l.acks.drop 1, l.got⟩) := by unfold Hid stepL; simp
  have hlt : 0 < l.acks.length := by unfold canL at hc; simp at hc; exact hc
  have HL := X.own.acks.rd.len
  have hn : 1 ≤ hh.acks.n := by omega
  have hn0 : (1 : Int) ≤ (hh.acks.n : Int) := by omega
  have hsl := fun W => run_tail (P := Tryd.prog) W 40 2 1 8 Tryd.underlying40 Int64_info hh.acks hn
  have HT := X.own.acks.tl hn
  have HR := Own.tl_row hh.acks 1
  generalize hh.acks.tl 1 = Q at *
  have X1 := X.set_acks (World.grownBy.refl _ _) (ints_drop _ _ ▸ HT) (fun b e => .inl (HR b e))
  have B1 : Below B w (w.setCell ⟨g, 4, none⟩ (.slice Q.A Q.n Q.c)) := (Below.refl _ _).setCell X.ge _
  have cx := fun o => X.box.cell o
  have fx := fun o => X.box.frozen o
  have gx := X.box.lt
  unfold LinkCells at cx
  clear HL HT HR
  go_enter Tryd.func83, Tryd.ntmps83
  go_wp2
  go_end0
  exact ⟨rfl, ⟨⟨hh.items, hh.packets, Q, hh.got⟩, by rw [HS.out]; exact X1⟩, B1⟩

set_option maxHeartbeats 1000000 in
theorem make1_any (B g : Nat) (hh : LinkH) (l : LinkC) (w : World) (X : LinkBox w B g hh l) (K : LOk l) (hc : canL l 1 = true) (hB : B ≤ w.heap.size) :
    Calls Tryd.prog 83 #[.pointer (some ⟨g, 0, none⟩), .int .i64 1] w (MadePost B g l 1 w) := by
  have hp : 0 < l.packets.length := (by unfold canL at hc; simp at hc; exact hc)
  go_enter Tryd.func83, Tryd.ntmps83
  go_wp2_with (go_at_call 132; refine (arrive_any B g hh l _ X K hp hB).mono ?_; rintro e w1 ⟨rfl, X1, B1⟩)
  go_end0
  exact ⟨rfl, X1, B1⟩

set_option maxHeartbeats 1000000 in
theorem make3_any (B g : Nat) (hh : LinkH) (l : LinkC) (w : World) (X : LinkBox w B g hh l) (K : LOk l) (hc : canL l 3 = true) (hB : B ≤ w.heap.size) :
    Calls Tryd.prog 83 #[.pointer (some ⟨g, 0, none⟩), .int .i64 3] w (MadePost B g l 3 w) := by
  have hp : 0 < l.acks.length := (by unfold canL at hc; simp at hc; exact hc)
  go_enter Tryd.func83, Tryd.ntmps83
  go_wp2_with (go_at_call 133; refine (ack_any B g hh l _ X K hp hB).mono ?_; rintro e w1 ⟨rfl, X1, B1⟩)
  go_end0
  exact ⟨rfl, X1, B1⟩

set_option maxRecDepth 100000 in
set_option maxHeartbeats 2000000 in
theorem make5_any (B g : Nat) (hh : LinkH) (l : LinkC) (w : World) (X : LinkBox w B g hh l) :
    Calls Tryd.prog 83 #[.pointer (some ⟨g, 0, none⟩), .int .i64 5] w (MadePost B g l 5 w) := by
  have HS : Hid (stepL l 5 = ⟨l.items, l.base, l.base, l.packets, l.acks, l.got⟩) := by unfold Hid stepL; simp
  have X1 := X.set_next l.base
  have B1 : Below B w (w.setCell ⟨g, 2, none⟩ (.int .i64 l.base)) := (Below.refl _ _).setCell X.ge _
  have cx := fun o => X.box.cell o
  have fx := fun o => X.box.frozen o
  have gx := X.box.lt
  unfold LinkCells at cx
  go_enter Tryd.func83, Tryd.ntmps83
  go_wp2
  go_end0
  exact ⟨rfl, ⟨hh, by rw [HS.out]; exact X1⟩, B1⟩
theorem make_any (B g : Nat) (hh : LinkH) (l : LinkC) (k : Int) (w : World) (X : LinkBox w B g hh l) (K : LOk l) (hk : inR k 0 5 = true) (hc : canL l k = true) (hB : B ≤ w.heap.size) :
    Calls Tryd.prog 83 #[.pointer (some ⟨g, 0, none⟩), .int .i64 k] w (MadePost B g l k w) := by
  rcases six hk with rfl | rfl | rfl | rfl | rfl | rfl
  · exact make0_any B g hh l w X K hc hB
  · exact make1_any B g hh l w X K hc hB
  · exact make2_any B g hh l w X K hc hB
  · exact make3_any B g hh l w X K hc hB
  · exact make4_any B g hh l w X K hc hB
  · exact make5_any B g hh l w X
end Go.Proofs.YtoledbicmghmbaaDoor
