/- The draws of links: some link. Existential. Condition: a source. -/
import Derived.Test.YtoledbicmghmbaaDoorDrawM
import Derived.Test.YtoledbicmghmbaaDoorDr
import Derived.Test.YtoledbicmghmbaaDoorLinkR
import Derived.Deep.RegionHeld3
import Derived.Deep.RegionWith
namespace Go.Proofs.YtoledbicmghmbaaDoor
open Go.RowKit

theorem LinkOwn.nx {w w' : World} {B g : Nat} {h : LinkH} {l : LinkC} (o : LinkOwn w B h l) (k : w.grownBy w' (some g)) (hg : g < B) : LinkOwn w' B h l := ⟨o.items.nx k hg, o.packets.nx k hg, o.acks.nx k hg, o.got.nx k hg, o.sep⟩
theorem LinkOwn.far {w : World} {B : Nat} {h : LinkH} {l : LinkC} (o : LinkOwn w B h l) {q i : Nat} (u : Value) (hq : ∀ s ∈ LinkB h, s ≠ some q) : LinkOwn (w.setCell ⟨q, i, none⟩ u) B h l :=
  have f : ∀ (r : Option Nat), r ∈ LinkB h → ∀ b, r = some b → (some q : Option Nat) ≠ some b := fun r hr b e c => hq r hr (e.trans c.symm)
  ⟨o.items.grown (grown_cell _ _ _ _) (fun b e => f _ (by simp [LinkB]) b e), o.packets.grown (grown_cell _ _ _ _) (fun b e => f _ (by simp [LinkB]) b e), o.acks.grown (grown_cell _ _ _ _) (fun b e => f _ (by simp [LinkB]) b e), o.got.grown (grown_cell _ _ _ _) (fun b e => f _ (by simp [LinkB]) b e), o.sep⟩
/-- A link was drawn. -/
def DrawnLink (L g : Nat) (w : World) (e : Ending) (w' : World) : Prop := ∃ (k : LinkH) (l : LinkC), e = .returned (LinkV k l) ∧ LinkOk k ∧ RdAll w' (LinkS k l) ∧ Hi (LinkR k) w.heap.size ∧ Dr w w' L g
theorem rdlink {w : World} {A0 A3 A4 A5 : Option Addr} {n0 c0 n3 c3 n4 c4 n5 c5 : Nat} {l0 l3 l4 l5 : List Int} {x1 x2 : Int} (h0 : Rd w A0 n0 (ints l0)) (h3 : Rd w A3 (n3 * 2) (ints l3)) (h4 : Rd w A4 n4 (ints l4)) (h5 : Rd w A5 n5 (ints l5)) :
    RdAll w (LinkS ⟨⟨A0, n0, c0⟩, ⟨A3, n3, c3⟩, ⟨A4, n4, c4⟩, ⟨A5, n5, c5⟩⟩ ⟨l0, x1, x2, l3, l4, l5⟩) :=
  RdAll.cons (s := ⟨A0, n0, ints l0⟩) h0 (RdAll.cons (s := ⟨A3, n3 * 2, ints l3⟩) h3 (RdAll.cons (s := ⟨A4, n4, ints l4⟩) h4 (RdAll.cons (s := ⟨A5, n5, ints l5⟩) h5 (RdAll.nil _))))
theorem drawn_six {L g q B : Nat} {w W : World} {A0 A3 A4 A5 : Option Addr} {n0 c0 n3 c3 n4 c4 n5 c5 : Nat} {l0 l3 l4 l5 : List Int} {x1 x2 : Int} (m0 : n0 ≤ 1048576) (m3 : n3 ≤ 1048576) (m4 : n4 ≤ 1048576) (m5 : n5 ≤ 1048576)
    (h : RdAll W (LinkS ⟨⟨A0, n0, c0⟩, ⟨A3, n3, c3⟩, ⟨A4, n4, c4⟩, ⟨A5, n5, c5⟩⟩ ⟨l0, x1, x2, l3, l4, l5⟩)) (hi : Hi (LinkR ⟨⟨A0, n0, c0⟩, ⟨A3, n3, c3⟩, ⟨A4, n4, c4⟩, ⟨A5, n5, c5⟩⟩) B) (hB : q < B) (D : Dr w W L g) (hw : w.heap.size ≤ q) :
    DrawnLink L g w (.returned (.agg #[.slice A0 n0 c0, .int .i64 x1, .int .i64 x2, .slice A3 n3 c3, .slice A4 n4 c4, .slice A5 n5 c5])) ((((((W.setCell ⟨q, 0, none⟩ (.slice A0 n0 c0)).setCell ⟨q, 1, none⟩ (.int .i64 x1)).setCell ⟨q, 2, none⟩ (.int .i64 x2)).setCell ⟨q, 3, none⟩ (.slice A3 n3 c3)).setCell ⟨q, 4, none⟩ (.slice A4 n4 c4)).setCell ⟨q, 5, none⟩ (.slice A5 n5 c5)) := by
  have hq : ∀ s ∈ LinkR ⟨⟨A0, n0, c0⟩, ⟨A3, n3, c3⟩, ⟨A4, n4, c4⟩, ⟨A5, n5, c5⟩⟩, s ≠ some q := fun s hs e => by have := hi s hs q e; omega
  have hn : ∀ x ∈ LinkS ⟨⟨A0, n0, c0⟩, ⟨A3, n3, c3⟩, ⟨A4, n4, c4⟩, ⟨A5, n5, c5⟩⟩ ⟨l0, x1, x2, l3, l4, l5⟩, ∀ ad, x.A = some ad → 0 < x.n → ad.block ≠ q := fun x hx ad e hn c => hq x.row (List.mem_map.2 ⟨x, hx, rfl⟩) (by rw [← c]; exact (by unfold Sl.row blkp; rw [if_neg (by omega), e]; rfl))
  refine ⟨⟨⟨A0, n0, c0⟩, ⟨A3, n3, c3⟩, ⟨A4, n4, c4⟩, ⟨A5, n5, c5⟩⟩, ⟨l0, x1, x2, l3, l4, l5⟩, rfl, ⟨m0, m3, m4, m5⟩, fun x hx => (h x hx).keep fun ad e h0 => ?_, hi.mono (by omega), ?_⟩
  · have hne := hn x hx ad e h0
    exact (Below.heap_setCell _ _ _ _ hne).trans ((Below.heap_setCell _ _ _ _ hne).trans ((Below.heap_setCell _ _ _ _ hne).trans ((Below.heap_setCell _ _ _ _ hne).trans ((Below.heap_setCell _ _ _ _ hne).trans (Below.heap_setCell _ _ _ _ hne)))))
  · exact (((((D.set_ (p := ⟨q, 0, none⟩) hw _).set_ (p := ⟨q, 1, none⟩) hw _).set_ (p := ⟨q, 2, none⟩) hw _).set_ (p := ⟨q, 3, none⟩) hw _).set_ (p := ⟨q, 4, none⟩) hw _).set_ (p := ⟨q, 5, none⟩) hw _

theorem drawn_own {L g q B : Nat} {w W : World} {A0 A3 A4 A5 : Option Addr} {n0 c0 n3 c3 n4 c4 n5 c5 : Nat} {l0 l3 l4 l5 : List Int} {x1 x2 : Int} (m0 : n0 ≤ 1048576) (m3 : n3 ≤ 1048576) (m4 : n4 ≤ 1048576) (m5 : n5 ≤ 1048576)
    (o0 : Own W B 1 ⟨A0, n0, c0⟩ (ints l0)) (o3 : Own W B 2 ⟨A3, n3, c3⟩ (ints l3)) (o4 : Own W B 1 ⟨A4, n4, c4⟩ (ints l4)) (o5 : Own W B 1 ⟨A5, n5, c5⟩ (ints l5)) (hB : q < B) (D : Dr w W L g) (hw : w.heap.size ≤ q) :
    DrawnLink L g w (.returned (.agg #[.slice A0 n0 c0, .int .i64 x1, .int .i64 x2, .slice A3 n3 c3, .slice A4 n4 c4, .slice A5 n5 c5])) ((((((W.setCell ⟨q, 0, none⟩ (.slice A0 n0 c0)).setCell ⟨q, 1, none⟩ (.int .i64 x1)).setCell ⟨q, 2, none⟩ (.int .i64 x2)).setCell ⟨q, 3, none⟩ (.slice A3 n3 c3)).setCell ⟨q, 4, none⟩ (.slice A4 n4 c4)).setCell ⟨q, 5, none⟩ (.slice A5 n5 c5)) :=
  drawn_six m0 m3 m4 m5 (rdlink o0.rd1 o3.rd o4.rd1 o5.rd1) (fun s hs b e => by
    unfold LinkR at hs
    simp only [List.mem_cons, List.not_mem_nil, or_false] at hs
    rcases hs with rfl | rfl | rfl | rfl
    · exact o0.wr1.blockp e
    · exact o3.wr.blockp e
    · exact o4.wr1.blockp e
    · exact o5.wr1.blockp e) hB D hw
theorem Own.madeP {W : World} {B n : Nat} (hB : B ≤ W.heap.size) (hn : n ≤ 1048576) (e : TypeId) : Own (W.alloc (.cells (madeCells #[.int .i64 0, .int .i64 0] (n * 2)) e)) B 2 ⟨some ⟨W.heap.size, 0, none⟩, n, n⟩ (ints (List.replicate (n * 2) 0)) := by
  have hb := Blk.new W e (madeCells #[.int .i64 0, .int .i64 0] (n * 2))
  refine ⟨by unfold ints; simp, Nat.le_refl _, by unfold maxLen; simp only; omega, (fun h => by cases h), fun ad ea _ => ?_⟩
  injection ea with ea
  subst ea
  refine ⟨hB, hb.lt, rfl, fun i hi => ⟨?_, by rw [add_lit]; exact hb.frozen i⟩⟩
  have hi2 : i < n * 2 := hi
  have hi' : i < (madeCells #[Value.int .i64 0, Value.int .i64 0] (n * 2)).size := by rw [madeCells_size]; exact hi2
  refine ⟨(madeCells #[Value.int .i64 0, Value.int .i64 0] (n * 2))[i], by rw [add_lit, hb.cell]; exact Array.getElem?_eq_getElem hi', fun u hu => ?_⟩
  rw [ints_getElem?] at hu
  simp [hi2] at hu
  subst hu
  simp only [madeCells, Array.getElem_map, Array.getElem_range]
  rcases Nat.mod_two_eq_zero_or_one i with e0 | e0
  · simp [e0]
  · simp [e0]
theorem Packet_zero : (Tryd.prog.info? 64).map (fun i => (i.zero.map (·.cells), i.size, i.bytes)) = some (some #[.int .i64 0, .int .i64 0], 2, 16) := by kernel_rfl
theorem Int64_zero : (Tryd.prog.info? 2).map (fun i => (i.zero.map (·.cells), i.size, i.bytes)) = some (some #[.int .i64 0], 1, 8) := by kernel_rfl
theorem run_make_N2 (n : Nat) (hn : n ≤ 1048576) (W : World) (x : Int) (hx : x = (n : Int)) :
    (Instr.makeSlice 46 (.int .i64 x) (.int .i64 x)).run Tryd.prog W = .ok (.slice (some ⟨W.heap.size, 0, none⟩) n n) (W.alloc (.cells (madeCells #[.int .i64 0, .int .i64 0] (n * 2)) 64)) := by
  subst hx
  have h := Packet_zero
  cases hi : Tryd.prog.info? 64 with
  | none => rw [hi] at h; simp at h
  | some i =>
    rw [hi] at h
    simp only [Option.map_some, Option.some.injEq, Prod.mk.injEq] at h
    obtain ⟨hz, hs, hb⟩ := h
    cases hz0 : i.zero with
    | none => rw [hz0] at hz; simp at hz
    | some z =>
      have hr := run_make_rowN (P := Tryd.prog) 46 64 i z Tryd.underlying46 hi hz0 .i64 .i64 n n (Nat.le_refl _) (by rw [hb]; omega) (by omega) W
      rw [hz0] at hz
      simp only [Option.map_some, Option.some.injEq] at hz
      rw [hs, hz] at hr
      exact hr
theorem run_make_N1 (n : Nat) (hn : n ≤ 1048576) (W : World) (x : Int) (hx : x = (n : Int)) :
    (Instr.makeSlice 40 (.int .i64 x) (.int .i64 x)).run Tryd.prog W = .ok (.slice (some ⟨W.heap.size, 0, none⟩) n n) (W.alloc (.cells (madeCells #[.int .i64 0] n) 2)) := by
  subst hx
  have h := Int64_zero
  cases hi : Tryd.prog.info? 2 with
  | none => rw [hi] at h; simp at h
  | some i =>
    rw [hi] at h
    simp only [Option.map_some, Option.some.injEq, Prod.mk.injEq] at h
    obtain ⟨hz, hs, hb⟩ := h
    cases hz0 : i.zero with
    | none => rw [hz0] at hz; simp at hz
    | some z =>
      have hr := run_make_rowN (P := Tryd.prog) 40 2 i z Tryd.underlying40 hi hz0 .i64 .i64 n n (Nat.le_refl _) (by rw [hb]; omega) (by omega) W
      rw [hz0] at hz
      simp only [Option.map_some, Option.some.injEq] at hz
      rw [hs, hz, Nat.mul_one] at hr
      exact hr
/-- What stays while a link is drawn: the source, the link in its box, the box of the result. -/
structure LkD (w : World) (L g q B : Nat) (h : LinkH) (l : LinkC) (W : World) : Prop where
  dr : Dr w W L g
  box : Blk W q 48 (LinkCells h l)
  res : Blk W w.heap.size 48 #[.slice none 0 0, .int .i64 0, .int .i64 0, .slice none 0 0, .slice none 0 0, .slice none 0 0]
  own : LinkOwn W B h l
  gq : g ≠ q
  gw : g ≠ w.heap.size
  gB : g < B
  sz : B ≤ W.heap.size
section
variable {w W W' : World} {L g q B : Nat} {h : LinkH} {l : LinkC}
theorem LkD.nx (X : LkD w L g q B h l W) (k : W.grownBy W' (some g)) (S : Src W' L g) : LkD w L g q B h l W' := ⟨X.dr.next k S, X.box.nx k X.gq, X.res.nx k X.gw, X.own.nx k X.gB, X.gq, X.gw, X.gB, Nat.le_trans X.sz k.size⟩
theorem LkD.bel (X : LkD w L g q B h l W) (b : Below W.heap.size W W') : LkD w L g q B h l W' := ⟨X.dr.bel b, X.box.below b X.box.lt, X.res.below b X.res.lt, X.own.below b, X.gq, X.gw, X.gB, Nat.le_trans X.sz b.size⟩
theorem LkD.alloc (X : LkD w L g q B h l W) (o : Obj) : LkD w L g q B h l (W.alloc o) := X.bel ((Below.refl _ _).alloc (Nat.le_refl _) o)
theorem LkD.drew (X : LkD w L g q B h l W) : LkD w L g q B h l W.drew := X.bel (Below.drew (Below.refl _ _))
end
theorem cells_far {w : World} {q r i : Nat} {u : Value} {cs : Array Value} (h : ∀ o, w.cell? ⟨q, o, none⟩ = cs[o]?) (hne : q ≠ r) : ∀ o, (w.setCell ⟨r, i, none⟩ u).cell? ⟨q, o, none⟩ = cs[o]? := fun o => (World.cell?_of_block (Below.heap_setCell _ _ _ _ hne)).trans (h o)
theorem link_hi {w : World} {B q : Nat} {h : LinkH} {l : LinkC} (o : LinkOwn w B h l) (hq : q < B) : ∀ s ∈ LinkR h, s ≠ some q := fun s hs e => by
  have := WrAll.hi o.wr s hs q e
  omega

set_option maxRecDepth 100000 in
set_option maxHeartbeats 8000000 in
theorem l29Draw_any (L g : Nat) (w : World) (S : Src w L g) :
    Calls Tryd.prog 87 #[.pointer (some ⟨g, 0, none⟩)] w (DrawnLink L g w) := by
  have D0 := (Dr.start S).alloc (.cells #[.slice none 0 0, .int .i64 0, .int .i64 0, .slice none 0 0, .slice none 0 0, .slice none 0 0] 48)
  have K0 := Blk.new w 48 #[.slice none 0 0, .int .i64 0, .int .i64 0, .slice none 0 0, .slice none 0 0, .slice none 0 0]
  have gS := S.lt
  go_enter Tryd.func87, Tryd.ntmps87
  go_wp2_with fail
  generalize w.alloc (.cells #[.slice none 0 0, .int .i64 0, .int .i64 0, .slice none 0 0, .slice none 0 0, .slice none 0 0] 48) = w0 at D0 K0 ⊢
  refine (l29DrawItems_any _ g _ D0.src).mono ?_
  rintro e w1 ⟨⟨I0, ni, ci⟩, xs, rfl, hn0, L1⟩
  have D1 := D0.next L1.gr L1.src
  have K1 := K0.nx L1.gr (by omega)
  have hz0 := K0.lt
  have O1 := L1.own
  simp only at hn0 O1
  go_wp2_with fail
  refine (l29DrawKinds_any _ g _ D1.src).mono ?_
  rintro e w2 ⟨⟨A1, n1, c1⟩, ks, rfl, hn1, L2⟩
  have D2 := D1.next L2.gr L2.src
  have K2 := K1.nx L2.gr (by omega)
  have O2 := O1.nx L2.gr (by omega)
  have O2k := L2.own
  simp only at hn1 O2k
  have hw1 : g < w1.heap.size := D1.src.lt.1
  have hz1 : w.heap.size < w1.heap.size := K1.lt
  clear D0 K0 L1 D1 K1 O1 L2
  have ok0 : IntsOk ⟨I0, ni, ci⟩ := by unfold IntsOk; simp only; omega
  have ok1 : IntsOk ⟨A1, n1, c1⟩ := by unfold IntsOk; simp only; omega
  have rx : RdAll w2 (IntsS ⟨I0, ni, ci⟩ xs) := RdAll.cons (s := ⟨I0, ni, ints xs⟩) O2.rd1 (RdAll.nil _)
  have rk : RdAll w2 (IntsS ⟨A1, n1, c1⟩ ks) := RdAll.cons (s := ⟨A1, n1, ints ks⟩) O2k.rd1 (RdAll.nil _)
  have HRC := Lib.hid (@runC_yes xs ks)
  have HCODE := l29Code_any ⟨I0, ni, ci⟩ ⟨A1, n1, c1⟩ xs ks w2 ok0 ok1 rx rk
  obtain ⟨rc, hrc⟩ : ∃ rc, runC xs ks = rc := ⟨_, rfl⟩
  rw [hrc] at HCODE
  have HRCE := Lib.hid hrc
  clear hrc
  go_wp2_with fail
  refine HCODE.mono ?_
  rintro e w' ⟨rfl, rfl⟩
  clear HCODE
  by_cases hc : rc = 0
  rotate_left
  · have e0 : (rc == 0) = false := by rw [beq_eq_false_iff_ne]; exact hc
    have e1 : (rc != 0) = true := by rw [bne_iff_ne]; exact hc
    have cK := fun o => K2.cell o
    have fK := fun o => K2.frozen o
    have gK := K2.lt
    go_wp2
    refine bodyPost_ret (v := .agg #[.slice I0 ni ci, .int .i64 0, .int .i64 0, .slice none 0 0, .slice none 0 0, .slice none 0 0]) (by simp [results, Tryd.results87, go_sem, cK]) rfl ?_
    exact drawn_six (by omega) (by omega) (by omega) (by omega) (rdlink (l3 := []) (l4 := []) (l5 := []) O2.rd1 (Rd.nil _ _) (Rd.nil _ _) (Rd.nil _ _)) (fun s hs b e => by
      unfold LinkR at hs
      simp only [List.mem_cons, List.not_mem_nil, or_false] at hs
      rcases hs with rfl | rfl | rfl | rfl
      · exact O2.wr1.blockp e
      · cases e
      · cases e
      · cases e) hz0 D2 (Nat.le_refl _)
  subst hc
  obtain ⟨hok, hal⟩ : okList xs 20 0 255 = true ∧ allIn ks 0 5 = true := ⟨(HRC.out HRCE.out).1, (HRC.out HRCE.out).2⟩
  have HLO := Lib.hid (runTo_ok hok hal ks.length (Nat.le_refl _)).1
  have hbs : 0 ≤ (runTo xs ks ks.length).base ∧ (runTo xs ks ks.length).base ≤ 20 := by have h := HLO.out; have h1 := h.base0; have h2 := h.base1; have h3 := h.n; omega
  have HRUN := l29Run_any ⟨I0, ni, ci⟩ ⟨A1, n1, c1⟩ xs ks w2 ok0 ok1 rx rk hok hal
  have hxl : xs.length = ni := O2.rd1.len
  have hx21 : ni ≤ 21 := hn0
  clear HRC HRCE hok hal rx rk hxl
  generalize runTo xs ks ks.length = l at *
  go_wp2_with fail
  refine HRUN.mono ?_
  rintro e w3 ⟨k, rfl, OL, b3⟩
  have okk := OL.ok HLO.out
  have hsm : k.packets.n ≤ 12 ∧ k.acks.n ≤ 12 := by have h1 := OL.packets.rd.len; have h2 := OL.acks.rd1.len; have h3 := HLO.out.np; have h4 := HLO.out.na; omega
  have hq23 := b3.size
  have D3 := D2.bel b3
  have K3 := K2.below b3 K2.lt
  have hz2 : g < w2.heap.size := D2.src.lt.1
  have hz2w : w.heap.size < w2.heap.size := K2.lt
  clear HRUN D2 K2 O2 O2k b3 ok0 ok1 HLO
  obtain ⟨⟨A0, n0, c0⟩, ⟨A3, n3, c3⟩, ⟨A4, n4, c4⟩, ⟨A5, n5, c5⟩⟩ := k
  obtain ⟨l0, x1, x2, l3, l4, l5⟩ := l
  unfold LinkV
  simp only
  simp only at hbs
  obtain ⟨m0, m3, m4, m5⟩ := okk
  simp only at m0 m3 m4 m5 hsm
  go_wp2_with fail
  have Q4 := Blk.new w3 48 #[.slice A0 n0 c0, .int .i64 x1, .int .i64 x2, .slice A3 n3 c3, .slice A4 n4 c4, .slice A5 n5 c5]
  have D4 := D3.alloc (.cells #[.slice A0 n0 c0, .int .i64 x1, .int .i64 x2, .slice A3 n3 c3, .slice A4 n4 c4, .slice A5 n5 c5] 48)
  have K4 := K3.alloc (.cells #[.slice A0 n0 c0, .int .i64 x1, .int .i64 x2, .slice A3 n3 c3, .slice A4 n4 c4, .slice A5 n5 c5] 48)
  have O4 := OL.below (show Below w3.heap.size w3 (w3.alloc (.cells #[.slice A0 n0 c0, .int .i64 x1, .int .i64 x2, .slice A3 n3 c3, .slice A4 n4 c4, .slice A5 n5 c5] 48)) from (Below.refl _ _).alloc (Nat.le_refl _) _)
  have b34 : Below w3.heap.size w3 (w3.alloc (.cells #[.slice A0 n0 c0, .int .i64 x1, .int .i64 x2, .slice A3 n3 c3, .slice A4 n4 c4, .slice A5 n5 c5] 48)) := (Below.refl _ _).alloc (Nat.le_refl _) _
  have hgQ : g < w3.heap.size := D3.src.lt.1
  have hwQ : w.heap.size < w3.heap.size := K3.lt
  have hOQ : ∀ s ∈ LinkB ⟨⟨A0, n0, c0⟩, ⟨A3, n3, c3⟩, ⟨A4, n4, c4⟩, ⟨A5, n5, c5⟩⟩, s ≠ some w3.heap.size := fun s hs e => by have := (OL.blt s hs _ e).2; omega
  have hsz4 := Nat.le_trans hq23 b34.size
  clear D3 K3 OL b34
  generalize w3.alloc (.cells #[.slice A0 n0 c0, .int .i64 x1, .int .i64 x2, .slice A3 n3 c3, .slice A4 n4 c4, .slice A5 n5 c5] 48) = w4 at Q4 D4 K4 O4 hsz4 ⊢
  generalize w3.heap.size = Q at Q4 hgQ hwQ hOQ ⊢
  have X4 : LkD w L g Q w2.heap.size ⟨⟨A0, n0, c0⟩, ⟨A3, n3, c3⟩, ⟨A4, n4, c4⟩, ⟨A5, n5, c5⟩⟩ ⟨l0, x1, x2, l3, l4, l5⟩ w4 := ⟨D4, Q4, K4, O4, by omega, by omega, hz2, hsz4⟩
  clear D4 Q4 K4 O4
  refine (l01Next_any _ g 30 _ X4.dr.src (by decide)).mono ?_
  rintro e w5 ⟨r, rfl, r0, r1, g5, S5⟩
  have X5 := X4.nx g5 S5
  clear X4 g5 S5
  by_cases h0 : r = 0
  · subst h0
    have u1 : IntKind.i64.wrap ((ni : Int) + 3) = (ni : Int) + 3 := IntWalk.i64_in _ (by omega)
    go_wp2_with fail
    refine (l01Next_any _ g ((ni : Int) + 3) _ X5.dr.src (by omega)).mono ?_
    rintro e w6 ⟨v, rfl, v0, v1, g6, S6⟩
    have X6 := X5.nx g6 S6
    clear X5 g6 S6
    have u2 : IntKind.i64.wrap (v - 1) = v - 1 := IntWalk.i64_in _ (by omega)
    have cK := fun o => X6.res.cell o
    have fK := fun o => X6.res.frozen o
    have gK := X6.res.lt
    have cQ : ∀ o, w6.cell? ⟨Q, o, none⟩ = (#[.slice A0 n0 c0, .int .i64 x1, .int .i64 x2, .slice A3 n3 c3, .slice A4 n4 c4, .slice A5 n5 c5] : Array Value)[o]? := fun o => X6.box.cell o
    have fQ := fun o => X6.box.frozen o
    have gQ := X6.box.lt
    have rr : RdAll (w6.setCell ⟨Q, 1, none⟩ (.int .i64 (v - 1))) (LinkS ⟨⟨A0, n0, c0⟩, ⟨A3, n3, c3⟩, ⟨A4, n4, c4⟩, ⟨A5, n5, c5⟩⟩ ⟨l0, v - 1, x2, l3, l4, l5⟩) := (X6.own.far (.int .i64 (v - 1)) hOQ).rd
    have DD := X6.dr.set_ (p := ⟨Q, 1, none⟩) (by simp only; omega) (.int .i64 (v - 1))
    go_wp2
    refine bodyPost_ret (v := .agg #[.slice A0 n0 c0, .int .i64 (v - 1), .int .i64 (x2), .slice A3 n3 c3, .slice A4 n4 c4, .slice A5 n5 c5]) (by simp [results, Tryd.results87, go_sem, cK]) rfl ?_
    exact drawn_six m0 m3 m4 m5 rr (WrAll.hi X6.own.wr) (by omega) DD (Nat.le_refl _)
  have e0 : (r == 0) = false := by rw [beq_eq_false_iff_ne]; exact h0
  by_cases h1 : r = 1
  · subst h1
    have N1 := l01Next_any L g 6 _ X5.drew.dr.src (by decide)
    have hS5 : w5.drew.cell? ⟨Q, 1, none⟩ = some (.int .i64 x1) := X5.drew.box.cell 1
    go_wp2_with fail
    go_region_held3 (fun w' => w'.cell? ⟨Q, 1, none⟩ = some (.int .i64 x1))
      (first | (with_reducible assumption) | go_keep)
      ((go_at_call 104; (with_reducible refine N1.mono ?_); rintro e w6 ⟨v, rfl, v0, v1, g6, S6⟩; have X6 := X5.drew.nx g6 S6; have hS6 : w6.cell? ⟨Q, 1, none⟩ = some (.int .i64 x1) := X6.box.cell 1; have u2 : IntKind.i64.wrap (x1 + v) = x1 + v := (IntWalk.i64_in _ (by omega)); have u3 : IntKind.i64.wrap (x1 + v - 1) = x1 + v - 1 := (IntWalk.i64_in _ (by omega)); have hS62 : w6.cell? ⟨Q, 2, none⟩ = some (.int .i64 x2) := X6.box.cell 2; have fQ6 : w6.frozen? ⟨Q, 2, none⟩ = false := X6.box.frozen 2; have hS7 : (w6.setCell ⟨Q, 2, none⟩ (.int .i64 (x1 + v - 1))).cell? ⟨Q, 1, none⟩ = some (.int .i64 x1) := (X6.box.set_ 2 (.int .i64 (x1 + v - 1))).cell 1; have gQ6 := X6.box.lt))
    all_goals
      clear X5 N1 hS5
      have cK := fun o => X6.res.cell o
      have fK := fun o => X6.res.frozen o
      have gK := X6.res.lt
      have cQ : ∀ o, w6.cell? ⟨Q, o, none⟩ = (#[.slice A0 n0 c0, .int .i64 x1, .int .i64 x2, .slice A3 n3 c3, .slice A4 n4 c4, .slice A5 n5 c5] : Array Value)[o]? := fun o => X6.box.cell o
      have fQ := fun o => X6.box.frozen o
      have gQ := X6.box.lt
      have rr : RdAll (w6.setCell ⟨Q, 2, none⟩ (.int .i64 (x1 + v - 1))) (LinkS ⟨⟨A0, n0, c0⟩, ⟨A3, n3, c3⟩, ⟨A4, n4, c4⟩, ⟨A5, n5, c5⟩⟩ ⟨l0, x1, x1 + v - 1, l3, l4, l5⟩) := (X6.own.far (.int .i64 (x1 + v - 1)) hOQ).rd
      have DD := X6.dr.set_ (p := ⟨Q, 2, none⟩) (by simp only; omega) (.int .i64 (x1 + v - 1))
      go_wp2
      refine bodyPost_ret (v := .agg #[.slice A0 n0 c0, .int .i64 (x1), .int .i64 (x1 + v - 1), .slice A3 n3 c3, .slice A4 n4 c4, .slice A5 n5 c5]) (by simp [results, Tryd.results87, go_sem, cK]) rfl ?_
      exact drawn_six m0 m3 m4 m5 rr (WrAll.hi X6.own.wr) (by omega) DD (Nat.le_refl _)
  have e1 : (r == 1) = false := by rw [beq_eq_false_iff_ne]; exact h1
  by_cases h2 : r = 2
  · subst h2
    have hrw : ∀ b, (⟨A3, n3, c3⟩ : Hd).row = some b → b ≠ Q := fun b e c => hOQ (⟨A3, n3, c3⟩ : Hd).row (by simp [LinkB]) (by rw [e, c])
    have hQR : Q ≠ w.heap.size := by omega
    have h4s : n3 + 1 ≤ 1099511627776 := by omega
    have hg5 : g < w5.heap.size := X5.dr.src.lt.1
    have Ya := (X5.alloc (.cells #[.int .i64 (-1), .int .i64 1, .int .i64 4] 2)).drew
    have Yab := ((X5.alloc (.cells #[.int .i64 (-1), .int .i64 1, .int .i64 4] 2)).alloc (.cells #[.int .i64 1, .int .i64 255, .int .i64 256] 2)).drew
    have Yba := ((X5.alloc (.cells #[.int .i64 1, .int .i64 255, .int .i64 256] 2)).alloc (.cells #[.int .i64 (-1), .int .i64 1, .int .i64 4] 2)).drew
    have hP : Calls Tryd.prog 140 #[.pointer (some ⟨g, 0, none⟩), .slice (some ⟨w5.heap.size, 0, none⟩) 3 3] (w5.alloc (.cells #[.int .i64 (-1), .int .i64 1, .int .i64 4] 2)).drew (PickPost _ g [-1, 1, 4] (w5.alloc (.cells #[.int .i64 (-1), .int .i64 1, .int .i64 4] 2)).drew) := pick_drew _ g [-1, 1, 4] 3 w5 X5.dr.src rfl (by decide) (by decide)
    have rAb : Rd ((w5.alloc (.cells #[.int .i64 (-1), .int .i64 1, .int .i64 4] 2)).alloc (.cells #[.int .i64 1, .int .i64 255, .int .i64 256] 2)).drew (some ⟨w5.heap.size, 0, none⟩) 3 (ints [-1, 1, 4]) := ((rd_lit w5 [-1, 1, 4] 2 3 rfl).below ((Below.refl _ _).alloc (Nat.le_refl _) _)).below (Below.drew (Below.refl _ _))
    have rBb : Rd ((w5.alloc (.cells #[.int .i64 (-1), .int .i64 1, .int .i64 4] 2)).alloc (.cells #[.int .i64 1, .int .i64 255, .int .i64 256] 2)).drew (some ⟨w5.heap.size + 1, 0, none⟩) 3 (ints [1, 255, 256]) := by
      have h := rd_lit (w5.alloc (.cells #[.int .i64 (-1), .int .i64 1, .int .i64 4] 2)) [1, 255, 256] 2 3 rfl
      rw [World.size_alloc] at h
      exact h.below (Below.drew (Below.refl _ _))
    have rBc : Rd ((w5.alloc (.cells #[.int .i64 1, .int .i64 255, .int .i64 256] 2)).alloc (.cells #[.int .i64 (-1), .int .i64 1, .int .i64 4] 2)).drew (some ⟨w5.heap.size, 0, none⟩) 3 (ints [1, 255, 256]) := ((rd_lit w5 [1, 255, 256] 2 3 rfl).below ((Below.refl _ _).alloc (Nat.le_refl _) _)).below (Below.drew (Below.refl _ _))
    have rAc : Rd ((w5.alloc (.cells #[.int .i64 1, .int .i64 255, .int .i64 256] 2)).alloc (.cells #[.int .i64 (-1), .int .i64 1, .int .i64 4] 2)).drew (some ⟨w5.heap.size + 1, 0, none⟩) 3 (ints [-1, 1, 4]) := by
      have h := rd_lit (w5.alloc (.cells #[.int .i64 1, .int .i64 255, .int .i64 256] 2)) [-1, 1, 4] 2 3 rfl
      rw [World.size_alloc] at h
      exact h.below (Below.drew (Below.refl _ _))
    have hPb : Calls Tryd.prog 140 #[.pointer (some ⟨g, 0, none⟩), .slice (some ⟨w5.heap.size, 0, none⟩) 3 3] ((w5.alloc (.cells #[.int .i64 (-1), .int .i64 1, .int .i64 4] 2)).alloc (.cells #[.int .i64 1, .int .i64 255, .int .i64 256] 2)).drew (PickPost _ g [-1, 1, 4] ((w5.alloc (.cells #[.int .i64 (-1), .int .i64 1, .int .i64 4] 2)).alloc (.cells #[.int .i64 1, .int .i64 255, .int .i64 256] 2)).drew) := l01Pick_any _ g _ 3 3 _ _ Yab.dr.src rAb (by decide) (by decide) (fun ad e => by cases e; simp only; omega)
    have hPc : Calls Tryd.prog 140 #[.pointer (some ⟨g, 0, none⟩), .slice (some ⟨w5.heap.size + 1, 0, none⟩) 3 3] ((w5.alloc (.cells #[.int .i64 1, .int .i64 255, .int .i64 256] 2)).alloc (.cells #[.int .i64 (-1), .int .i64 1, .int .i64 4] 2)).drew (PickPost _ g [-1, 1, 4] ((w5.alloc (.cells #[.int .i64 1, .int .i64 255, .int .i64 256] 2)).alloc (.cells #[.int .i64 (-1), .int .i64 1, .int .i64 4] 2)).drew) := l01Pick_any _ g _ 3 3 _ _ Yba.dr.src rAc (by decide) (by decide) (fun ad e => by cases e; simp only; omega)
    have hS5 : ∀ o, w5.drew.cell? ⟨Q, o, none⟩ = (#[.slice A0 n0 c0, .int .i64 x1, .int .i64 x2, .slice A3 n3 c3, .slice A4 n4 c4, .slice A5 n5 c5] : Array Value)[o]? := fun o => X5.drew.box.cell o
    have hSb5 : ∀ o, (w5.alloc (.cells #[.int .i64 1, .int .i64 255, .int .i64 256] 2)).drew.cell? ⟨Q, o, none⟩ = (#[.slice A0 n0 c0, .int .i64 x1, .int .i64 x2, .slice A3 n3 c3, .slice A4 n4 c4, .slice A5 n5 c5] : Array Value)[o]? := fun o => (X5.alloc (.cells #[.int .i64 1, .int .i64 255, .int .i64 256] 2)).drew.box.cell o
    have hSa : ∀ o, (w5.alloc (.cells #[.int .i64 (-1), .int .i64 1, .int .i64 4] 2)).drew.cell? ⟨Q, o, none⟩ = (#[.slice A0 n0 c0, .int .i64 x1, .int .i64 x2, .slice A3 n3 c3, .slice A4 n4 c4, .slice A5 n5 c5] : Array Value)[o]? := fun o => Ya.box.cell o
    have hSab : ∀ o, ((w5.alloc (.cells #[.int .i64 (-1), .int .i64 1, .int .i64 4] 2)).alloc (.cells #[.int .i64 1, .int .i64 255, .int .i64 256] 2)).drew.cell? ⟨Q, o, none⟩ = (#[.slice A0 n0 c0, .int .i64 x1, .int .i64 x2, .slice A3 n3 c3, .slice A4 n4 c4, .slice A5 n5 c5] : Array Value)[o]? := fun o => Yab.box.cell o
    have hSba : ∀ o, ((w5.alloc (.cells #[.int .i64 1, .int .i64 255, .int .i64 256] 2)).alloc (.cells #[.int .i64 (-1), .int .i64 1, .int .i64 4] 2)).drew.cell? ⟨Q, o, none⟩ = (#[.slice A0 n0 c0, .int .i64 x1, .int .i64 x2, .slice A3 n3 c3, .slice A4 n4 c4, .slice A5 n5 c5] : Array Value)[o]? := fun o => Yba.box.cell o
    clear X5
    go_wp2_with fail
    go_region_held3 (fun w' => ∀ o, w'.cell? ⟨Q, o, none⟩ = (#[.slice A0 n0 c0, .int .i64 x1, .int .i64 x2, .slice A3 n3 c3, .slice A4 n4 c4, .slice A5 n5 c5] : Array Value)[o]?)
      (first | (with_reducible assumption) | ((repeat (with_reducible refine cells_far ?_ hQR)); (with_reducible assumption)) | (intro o; go_keep))
      (first
        | (go_at_call 140; (with_reducible refine hP.mono ?_); rintro e w7 ⟨u, -, rfl, g7, S7⟩; have Y6 := Ya.nx g7 S7; have hS6 : ∀ o, w7.cell? ⟨Q, o, none⟩ = (#[.slice A0 n0 c0, .int .i64 x1, .int .i64 x2, .slice A3 n3 c3, .slice A4 n4 c4, .slice A5 n5 c5] : Array Value)[o]? := (fun o => Y6.box.cell o); have Y7 := Y6.alloc (.cells #[.int .i64 1, .int .i64 255, .int .i64 256] 2); have hS7 : ∀ o, (w7.alloc (.cells #[.int .i64 1, .int .i64 255, .int .i64 256] 2)).cell? ⟨Q, o, none⟩ = (#[.slice A0 n0 c0, .int .i64 x1, .int .i64 x2, .slice A3 n3 c3, .slice A4 n4 c4, .slice A5 n5 c5] : Array Value)[o]? := (fun o => Y7.box.cell o); have hP7 : Calls Tryd.prog 140 #[.pointer (some ⟨g, 0, none⟩), .slice (some ⟨w7.heap.size, 0, none⟩) 3 3] (w7.alloc (.cells #[.int .i64 1, .int .i64 255, .int .i64 256] 2)) (PickPost _ g [1, 255, 256] (w7.alloc (.cells #[.int .i64 1, .int .i64 255, .int .i64 256] 2))) := pick_any _ g [1, 255, 256] 3 w7 Y6.dr.src rfl (by decide) (by decide))
        | (go_at_call 140; (with_reducible refine hPb.mono ?_); rintro e w7 ⟨u, -, rfl, g7, S7⟩; have Y7 := Yab.nx g7 S7; have hS7 : ∀ o, w7.cell? ⟨Q, o, none⟩ = (#[.slice A0 n0 c0, .int .i64 x1, .int .i64 x2, .slice A3 n3 c3, .slice A4 n4 c4, .slice A5 n5 c5] : Array Value)[o]? := (fun o => Y7.box.cell o); have hP7 : Calls Tryd.prog 140 #[.pointer (some ⟨g, 0, none⟩), .slice (some ⟨w5.heap.size + 1, 0, none⟩) 3 3] w7 (PickPost _ g [1, 255, 256] w7) := l01Pick_any _ g _ 3 3 _ _ Y7.dr.src (rBb.grown g7 (fun ad e _ c => by cases e; injection c with c; simp only at c; omega)) (by decide) (by decide) (fun ad e => by cases e; simp only; omega))
        | (go_at_call 140; (with_reducible refine hPc.mono ?_); rintro e w7 ⟨u, -, rfl, g7, S7⟩; have Y7 := Yba.nx g7 S7; have hS7 : ∀ o, w7.cell? ⟨Q, o, none⟩ = (#[.slice A0 n0 c0, .int .i64 x1, .int .i64 x2, .slice A3 n3 c3, .slice A4 n4 c4, .slice A5 n5 c5] : Array Value)[o]? := (fun o => Y7.box.cell o); have hP7 : Calls Tryd.prog 140 #[.pointer (some ⟨g, 0, none⟩), .slice (some ⟨w5.heap.size, 0, none⟩) 3 3] w7 (PickPost _ g [1, 255, 256] w7) := l01Pick_any _ g _ 3 3 _ _ Y7.dr.src (rBc.grown g7 (fun ad e _ c => by cases e; injection c with c; simp only at c; omega)) (by decide) (by decide) (fun ad e => by cases e; simp only; omega))
        | (go_at_call 140; (with_reducible refine hP7.mono ?_); rintro e w8 ⟨v, -, rfl, g8, S8⟩; have Z7 := Y7.nx g8 S8; have hT7 : ∀ o, w8.cell? ⟨Q, o, none⟩ = (#[.slice A0 n0 c0, .int .i64 x1, .int .i64 x2, .slice A3 n3 c3, .slice A4 n4 c4, .slice A5 n5 c5] : Array Value)[o]? := (fun o => Z7.box.cell o); have Y8 := Z7.alloc (.cells #[.int .i64 u, .int .i64 v] 64); have hS8 : ∀ o, (w8.alloc (.cells #[.int .i64 u, .int .i64 v] 64)).cell? ⟨Q, o, none⟩ = (#[.slice A0 n0 c0, .int .i64 x1, .int .i64 x2, .slice A3 n3 c3, .slice A4 n4 c4, .slice A5 n5 c5] : Array Value)[o]? := (fun o => Y8.box.cell o))
        | (refine step_append_Own (by rfl) _ _ 46 (by rfl) 64 2 16 Tryd.underlying46 Packet_info (by decide) w2.heap.size ⟨A3, n3, c3⟩ (ints l3) (by rfl) Y8.own.packets _ 1 1 (ints [u, v]) (by rfl) (by exact rd_pair _ _ _ _) (oneCell_ints _) h4s (by decide) Y8.sz ?_; rintro ⟨GA, gn, gc⟩ w9 hGn HG gg hat; have q9 := Y8.box.grown gg (fun e => hrw _ e rfl); have k9 := Y8.res.grown gg (fun e => by have := (Y8.own.packets.rowlt _ e).1; omega); have hS9 : ∀ o, w9.cell? ⟨Q, o, none⟩ = (#[.slice A0 n0 c0, .int .i64 x1, .int .i64 x2, .slice A3 n3 c3, .slice A4 n4 c4, .slice A5 n5 c5] : Array Value)[o]? := (fun o => q9.cell o); have c9 := (fun o => k9.cell o); have f9 := (fun o => k9.frozen o); have gk9 := k9.lt))
    all_goals
      have D9 := Y8.dr.grown gg (fun b e => by have := (Y8.own.packets.rowlt b e).1; omega)
      have o0 := Y8.own.items.grown gg (fun b e => Y8.own.sep.nth (i := 1) (j := 0) rfl rfl (by decide) b e)
      have o4 := Y8.own.acks.grown gg (fun b e => Y8.own.sep.nth (i := 1) (j := 2) rfl rfl (by decide) b e)
      have o5 := Y8.own.got.grown gg (fun b e => Y8.own.sep.nth (i := 1) (j := 3) rfl rfl (by decide) b e)
      have o3 : Own w9 w2.heap.size 2 ⟨GA, gn, gc⟩ (ints (l3 ++ [u, v])) := by rw [ints_append]; exact HG
      have hgn : gn ≤ 1048576 := by have h : gn = n3 + 1 := hGn; omega
      clear hGn HG hat
      go_wp2
      refine bodyPost_ret (v := .agg #[.slice A0 n0 c0, .int .i64 x1, .int .i64 x2, .slice GA gn gc, .slice A4 n4 c4, .slice A5 n5 c5]) (by simp [results, Tryd.results87, go_sem, c9]) rfl ?_
      exact drawn_own m0 hgn m4 m5 o0 o3 o4 o5 (by omega) D9 (Nat.le_refl _)
  have e2 : (r == 2) = false := by rw [beq_eq_false_iff_ne]; exact h2
  by_cases h3 : r = 3
  · subst h3
    have X6 := X5.alloc (.cells #[.int .i64 (-1), .int .i64 0, .int .i64 1, .int .i64 2, .int .i64 3, .int .i64 4] 2)
    have hP : Calls Tryd.prog 140 #[.pointer (some ⟨g, 0, none⟩), .slice (some ⟨w5.heap.size, 0, none⟩) 6 6] (w5.alloc (.cells #[.int .i64 (-1), .int .i64 0, .int .i64 1, .int .i64 2, .int .i64 3, .int .i64 4] 2)).drew (PickPost _ g [-1, 0, 1, 2, 3, 4] (w5.alloc (.cells #[.int .i64 (-1), .int .i64 0, .int .i64 1, .int .i64 2, .int .i64 3, .int .i64 4] 2)).drew) := pick_drew _ g [-1, 0, 1, 2, 3, 4] 6 w5 X5.dr.src rfl (by decide) (by decide)
    have Y6 := X6.drew
    have hS5 : ∀ o, w5.drew.cell? ⟨Q, o, none⟩ = (#[.slice A0 n0 c0, .int .i64 x1, .int .i64 x2, .slice A3 n3 c3, .slice A4 n4 c4, .slice A5 n5 c5] : Array Value)[o]? := fun o => X5.drew.box.cell o
    have hS6 : ∀ o, (w5.alloc (.cells #[.int .i64 (-1), .int .i64 0, .int .i64 1, .int .i64 2, .int .i64 3, .int .i64 4] 2)).drew.cell? ⟨Q, o, none⟩ = (#[.slice A0 n0 c0, .int .i64 x1, .int .i64 x2, .slice A3 n3 c3, .slice A4 n4 c4, .slice A5 n5 c5] : Array Value)[o]? := fun o => Y6.box.cell o
    have hrw : ∀ b, (⟨A4, n4, c4⟩ : Hd).row = some b → b ≠ Q := fun b e c => hOQ (⟨A4, n4, c4⟩ : Hd).row (by simp [LinkB]) (by rw [e, c])
    have hQR : Q ≠ w.heap.size := by omega
    have h4s : n4 + 1 ≤ 1099511627776 := by omega
    clear X5 X6
    go_wp2_with fail
    go_region_held3 (fun w' => ∀ o, w'.cell? ⟨Q, o, none⟩ = (#[.slice A0 n0 c0, .int .i64 x1, .int .i64 x2, .slice A3 n3 c3, .slice A4 n4 c4, .slice A5 n5 c5] : Array Value)[o]?)
      (first | (with_reducible assumption) | ((repeat (with_reducible refine cells_far ?_ hQR)); (with_reducible assumption)) | (intro o; go_keep))
      (first
        | (go_at_call 140; (with_reducible refine hP.mono ?_); rintro e w7 ⟨v, -, rfl, g7, S7⟩; have Y7 := Y6.nx g7 S7; have hS7 : ∀ o, w7.cell? ⟨Q, o, none⟩ = (#[.slice A0 n0 c0, .int .i64 x1, .int .i64 x2, .slice A3 n3 c3, .slice A4 n4 c4, .slice A5 n5 c5] : Array Value)[o]? := (fun o => Y7.box.cell o); have Y8 := Y7.alloc (.cells #[.int .i64 v] 2); have hS8 : ∀ o, (w7.alloc (.cells #[.int .i64 v] 2)).cell? ⟨Q, o, none⟩ = (#[.slice A0 n0 c0, .int .i64 x1, .int .i64 x2, .slice A3 n3 c3, .slice A4 n4 c4, .slice A5 n5 c5] : Array Value)[o]? := (fun o => Y8.box.cell o); have hz8 := (Y8.dr.size))
        | (refine step_append_Own (by rfl) _ _ 40 (by rfl) 2 1 8 Tryd.underlying40 Int64_info (by decide) w2.heap.size ⟨A4, n4, c4⟩ (ints l4) (by rfl) Y8.own.acks _ 1 1 (ints [v]) (by rfl) (by rw [Nat.mul_one]; exact rd_one _ _ _) (oneCell_ints _) h4s (by decide) Y8.sz ?_; rintro ⟨GA, gn, gc⟩ w9 hGn HG gg hat; have q9 := Y8.box.grown gg (fun e => hrw _ e rfl); have k9 := Y8.res.grown gg (fun e => by have := (Y8.own.acks.rowlt _ e).1; omega); have hS9 : ∀ o, w9.cell? ⟨Q, o, none⟩ = (#[.slice A0 n0 c0, .int .i64 x1, .int .i64 x2, .slice A3 n3 c3, .slice A4 n4 c4, .slice A5 n5 c5] : Array Value)[o]? := (fun o => q9.cell o); have c9 := (fun o => k9.cell o); have f9 := (fun o => k9.frozen o); have gk9 := k9.lt))
    have D9 := Y8.dr.grown gg (fun b e => by have := (Y8.own.acks.rowlt b e).1; omega)
    have o0 := Y8.own.items.grown gg (fun b e => Y8.own.sep.nth (i := 2) (j := 0) rfl rfl (by decide) b e)
    have o3 := Y8.own.packets.grown gg (fun b e => Y8.own.sep.nth (i := 2) (j := 1) rfl rfl (by decide) b e)
    have o5 := Y8.own.got.grown gg (fun b e => Y8.own.sep.nth (i := 2) (j := 3) rfl rfl (by decide) b e)
    have o4 : Own w9 w2.heap.size 1 ⟨GA, gn, gc⟩ (ints (l4 ++ [v])) := by rw [ints_append]; exact HG
    have hgn : gn ≤ 1048576 := by have h : gn = n4 + 1 := hGn; omega
    clear hGn HG hat
    go_wp2
    refine bodyPost_ret (v := .agg #[.slice A0 n0 c0, .int .i64 x1, .int .i64 x2, .slice A3 n3 c3, .slice GA gn gc, .slice A5 n5 c5]) (by simp [results, Tryd.results87, go_sem, c9]) rfl ?_
    exact drawn_own m0 m3 hgn m5 o0 o3 o4 o5 (by omega) D9 (Nat.le_refl _)
  have e3 : (r == 3) = false := by rw [beq_eq_false_iff_ne]; exact h3
  by_cases h4 : r = 4
  · subst h4
    have hQR : Q ≠ w.heap.size := by omega
    have N1 := l01Next_any _ g 2 _ X5.drew.dr.src (by decide)
    have hS5 : ∀ o, w5.drew.cell? ⟨Q, o, none⟩ = (#[.slice A0 n0 c0, .int .i64 x1, .int .i64 x2, .slice A3 n3 c3, .slice A4 n4 c4, .slice A5 n5 c5] : Array Value)[o]? := fun o => X5.drew.box.cell o
    go_wp2_with fail
    go_region_held3 (fun w' => ∀ o, w'.cell? ⟨Q, o, none⟩ = (#[.slice A0 n0 c0, .int .i64 x1, .int .i64 x2, .slice A3 n3 c3, .slice A4 n4 c4, .slice A5 n5 c5] : Array Value)[o]?)
      (first | (with_reducible assumption) | ((repeat (with_reducible refine cells_far ?_ hQR)); (with_reducible assumption)) | (intro o; go_keep))
      (first
        | (go_at_call 104; (with_reducible refine N1.mono ?_); rintro e w6 ⟨p, rfl, p0, p1, g6, S6⟩; have X6 := X5.drew.nx g6 S6; obtain ⟨p, rfl⟩ := Int.eq_ofNat_of_zero_le p0; have hp2 : p ≤ 1 := (by omega); clear p0 p1; have u1 : IntKind.i64.wrap (12 + (p : Int)) = 12 + (p : Int) := (IntWalk.i64_in _ (by omega)); have hmk1 : (∀ V : World, (Instr.makeSlice 46 (.int .i64 (12 + (p : Int))) (.int .i64 (12 + (p : Int)))).run Tryd.prog V = .ok (.slice (some ⟨V.heap.size, 0, none⟩) (12 + p) (12 + p)) (V.alloc (.cells (madeCells #[.int .i64 0, .int .i64 0] ((12 + p) * 2)) 64))) := (fun V => run_make_N2 (12 + p) (by omega) V _ (by omega)); have hS6 : ∀ o, w6.cell? ⟨Q, o, none⟩ = (#[.slice A0 n0 c0, .int .i64 x1, .int .i64 x2, .slice A3 n3 c3, .slice A4 n4 c4, .slice A5 n5 c5] : Array Value)[o]? := (fun o => X6.box.cell o); have N2 := l01Next_any _ g 2 _ X6.dr.src (by decide); have X7 := X6.alloc (.cells (madeCells #[.int .i64 0, .int .i64 0] ((12 + p) * 2)) 64); have hS7 : ∀ o, (w6.alloc (.cells (madeCells #[.int .i64 0, .int .i64 0] ((12 + p) * 2)) 64)).cell? ⟨Q, o, none⟩ = (#[.slice A0 n0 c0, .int .i64 x1, .int .i64 x2, .slice A3 n3 c3, .slice A4 n4 c4, .slice A5 n5 c5] : Array Value)[o]? := (fun o => X7.box.cell o); have N3 := l01Next_any _ g 2 _ X7.dr.src (by decide))
        | (go_at_call 104; (with_reducible refine N3.mono ?_); rintro e w8 ⟨q, rfl, q0, q1, g8, S8⟩; have X8 := X7.nx g8 S8; obtain ⟨q, rfl⟩ := Int.eq_ofNat_of_zero_le q0; have hq2 : q ≤ 1 := (by omega); clear q0 q1; have u2 : IntKind.i64.wrap (20 + (q : Int)) = 20 + (q : Int) := (IntWalk.i64_in _ (by omega)); have hmk2 : (∀ V : World, (Instr.makeSlice 40 (.int .i64 (20 + (q : Int))) (.int .i64 (20 + (q : Int)))).run Tryd.prog V = .ok (.slice (some ⟨V.heap.size, 0, none⟩) (20 + q) (20 + q)) (V.alloc (.cells (madeCells #[.int .i64 0] (20 + q)) 2))) := (fun V => run_make_N1 (20 + q) (by omega) V _ (by omega)); have hS8 : ∀ o, w8.cell? ⟨Q, o, none⟩ = (#[.slice A0 n0 c0, .int .i64 x1, .int .i64 x2, .slice A3 n3 c3, .slice A4 n4 c4, .slice A5 n5 c5] : Array Value)[o]? := (fun o => X8.box.cell o); have Y9 := X8.alloc (.cells (madeCells #[.int .i64 0] (20 + q)) 2); have hS9 : ∀ o, (w8.alloc (.cells (madeCells #[.int .i64 0] (20 + q)) 2)).cell? ⟨Q, o, none⟩ = (#[.slice A0 n0 c0, .int .i64 x1, .int .i64 x2, .slice A3 n3 c3, .slice A4 n4 c4, .slice A5 n5 c5] : Array Value)[o]? := (fun o => Y9.box.cell o); have o3a := (((Own.madeP (n := 12 + p) X6.sz (by omega) 64).nx g8 X6.gB).below ((Below.refl _ _).alloc (Nat.le_refl _) (.cells (madeCells #[.int .i64 0] (20 + q)) 2))); have o5a := (Own.made (W := w8) (n := 20 + q) X8.sz (by omega) 2); have c9 := (fun o => Y9.res.cell o); have f9 := (fun o => Y9.res.frozen o); have gk9 := Y9.res.lt)
        | (go_at_call 104; (with_reducible refine N2.mono ?_); rintro e w8 ⟨q, rfl, q0, q1, g8, S8⟩; have X8 := X6.nx g8 S8; obtain ⟨q, rfl⟩ := Int.eq_ofNat_of_zero_le q0; have hq2 : q ≤ 1 := (by omega); clear q0 q1; have u2 : IntKind.i64.wrap (20 + (q : Int)) = 20 + (q : Int) := (IntWalk.i64_in _ (by omega)); have hmk2 : (∀ V : World, (Instr.makeSlice 40 (.int .i64 (20 + (q : Int))) (.int .i64 (20 + (q : Int)))).run Tryd.prog V = .ok (.slice (some ⟨V.heap.size, 0, none⟩) (20 + q) (20 + q)) (V.alloc (.cells (madeCells #[.int .i64 0] (20 + q)) 2))) := (fun V => run_make_N1 (20 + q) (by omega) V _ (by omega)); have hS8 : ∀ o, w8.cell? ⟨Q, o, none⟩ = (#[.slice A0 n0 c0, .int .i64 x1, .int .i64 x2, .slice A3 n3 c3, .slice A4 n4 c4, .slice A5 n5 c5] : Array Value)[o]? := (fun o => X8.box.cell o); have Ya := X8.alloc (.cells (madeCells #[.int .i64 0, .int .i64 0] ((12 + p) * 2)) 64); have hSa : ∀ o, (w8.alloc (.cells (madeCells #[.int .i64 0, .int .i64 0] ((12 + p) * 2)) 64)).cell? ⟨Q, o, none⟩ = (#[.slice A0 n0 c0, .int .i64 x1, .int .i64 x2, .slice A3 n3 c3, .slice A4 n4 c4, .slice A5 n5 c5] : Array Value)[o]? := (fun o => Ya.box.cell o); have Yb := X8.alloc (.cells (madeCells #[.int .i64 0] (20 + q)) 2); have hSb : ∀ o, (w8.alloc (.cells (madeCells #[.int .i64 0] (20 + q)) 2)).cell? ⟨Q, o, none⟩ = (#[.slice A0 n0 c0, .int .i64 x1, .int .i64 x2, .slice A3 n3 c3, .slice A4 n4 c4, .slice A5 n5 c5] : Array Value)[o]? := (fun o => Yb.box.cell o); have Yab := Ya.alloc (.cells (madeCells #[.int .i64 0] (20 + q)) 2); have hSab : ∀ o, ((w8.alloc (.cells (madeCells #[.int .i64 0, .int .i64 0] ((12 + p) * 2)) 64)).alloc (.cells (madeCells #[.int .i64 0] (20 + q)) 2)).cell? ⟨Q, o, none⟩ = (#[.slice A0 n0 c0, .int .i64 x1, .int .i64 x2, .slice A3 n3 c3, .slice A4 n4 c4, .slice A5 n5 c5] : Array Value)[o]? := (fun o => Yab.box.cell o); have Yba := Yb.alloc (.cells (madeCells #[.int .i64 0, .int .i64 0] ((12 + p) * 2)) 64); have hSba : ∀ o, ((w8.alloc (.cells (madeCells #[.int .i64 0] (20 + q)) 2)).alloc (.cells (madeCells #[.int .i64 0, .int .i64 0] ((12 + p) * 2)) 64)).cell? ⟨Q, o, none⟩ = (#[.slice A0 n0 c0, .int .i64 x1, .int .i64 x2, .slice A3 n3 c3, .slice A4 n4 c4, .slice A5 n5 c5] : Array Value)[o]? := (fun o => Yba.box.cell o); have o3b := (Own.madeP (n := 12 + p) X8.sz (by omega) 64).below ((Below.refl _ _).alloc (Nat.le_refl _) (.cells (madeCells #[.int .i64 0] (20 + q)) 2)); have o5b := (Own.made (W := (w8.alloc (.cells (madeCells #[.int .i64 0, .int .i64 0] ((12 + p) * 2)) 64))) (n := 20 + q) Ya.sz (by omega) 2); have o3c := (Own.madeP (W := (w8.alloc (.cells (madeCells #[.int .i64 0] (20 + q)) 2))) (n := 12 + p) Yb.sz (by omega) 64); have o5c := (Own.made (W := w8) (n := 20 + q) X8.sz (by omega) 2).below ((Below.refl _ _).alloc (Nat.le_refl _) (.cells (madeCells #[.int .i64 0, .int .i64 0] ((12 + p) * 2)) 64)); rw [World.size_alloc] at o5b o3c; have c9 := (fun o => Yab.res.cell o); have f9 := (fun o => Yab.res.frozen o); have gk9 := Yab.res.lt; have d9 := (fun o => Yba.res.cell o); have e9 := (fun o => Yba.res.frozen o); have hk9 := Yba.res.lt))
    · have i0 := Y9.own.items
      have i4 := Y9.own.acks
      have DD := Y9.dr
      have hn1 : 12 + p ≤ 1048576 := by omega
      have hn2 : 20 + q ≤ 1048576 := by omega
      have hwB : w.heap.size < w2.heap.size := by omega
      clear X5 X6 X7 X8 Y9 N1 N2 N3 hS5 hS6 hS7 hS8 hS9 hmk1 hmk2 u1 u2 g6 g8 S6 S8
      generalize w8.alloc (.cells (madeCells #[.int .i64 0] (20 + q)) 2) = w9 at i0 i4 DD o3a o5a c9 f9 gk9 ⊢
      generalize madeCells #[.int .i64 0, .int .i64 0] ((12 + p) * 2) = cs1 at *
      generalize 12 + p = np at *
      generalize 20 + q = nq at *
      go_wp2
      refine bodyPost_ret (v := .agg #[.slice A0 n0 c0, .int .i64 x1, .int .i64 x2, .slice (some ⟨w6.heap.size, 0, none⟩) np np, .slice A4 n4 c4, .slice (some ⟨w8.heap.size, 0, none⟩) nq nq]) (by simp [results, Tryd.results87, go_sem, c9]) rfl ?_
      exact drawn_own m0 hn1 m4 hn2 i0 o3a i4 o5a hwB DD (Nat.le_refl _)
    · have i0 := Yab.own.items
      have i4 := Yab.own.acks
      have DD := Yab.dr
      have hn1 : 12 + p ≤ 1048576 := by omega
      have hn2 : 20 + q ≤ 1048576 := by omega
      have hwB : w.heap.size < w2.heap.size := by omega
      clear X5 X6 X7 X8 Ya Yb Yab Yba N1 N2 N3 hS5 hS6 hS7 hS8 hSa hSb hSab hSba hmk1 hmk2 u1 u2 g6 g8 S6 S8 o3c o5c d9 e9 hk9
      generalize (w8.alloc (.cells (madeCells #[.int .i64 0, .int .i64 0] ((12 + p) * 2)) 64)).alloc (.cells (madeCells #[.int .i64 0] (20 + q)) 2) = w9 at i0 i4 DD o3b o5b c9 f9 gk9 ⊢
      generalize madeCells #[.int .i64 0, .int .i64 0] ((12 + p) * 2) = cs1 at *
      generalize 12 + p = np at *
      generalize 20 + q = nq at *
      go_wp2
      refine bodyPost_ret (v := .agg #[.slice A0 n0 c0, .int .i64 x1, .int .i64 x2, .slice (some ⟨w8.heap.size, 0, none⟩) np np, .slice A4 n4 c4, .slice (some ⟨w8.heap.size + 1, 0, none⟩) nq nq]) (by simp [results, Tryd.results87, go_sem, c9]) rfl ?_
      exact drawn_own m0 hn1 m4 hn2 i0 o3b i4 o5b hwB DD (Nat.le_refl _)
    · have i0 := Yba.own.items
      have i4 := Yba.own.acks
      have DD := Yba.dr
      have hn1 : 12 + p ≤ 1048576 := by omega
      have hn2 : 20 + q ≤ 1048576 := by omega
      have hwB : w.heap.size < w2.heap.size := by omega
      clear X5 X6 X7 X8 Ya Yb Yab Yba N1 N2 N3 hS5 hS6 hS7 hS8 hSa hSb hSab hSba hmk1 hmk2 u1 u2 g6 g8 S6 S8 o3b o5b c9 f9 gk9
      generalize (w8.alloc (.cells (madeCells #[.int .i64 0] (20 + q)) 2)).alloc (.cells (madeCells #[.int .i64 0, .int .i64 0] ((12 + p) * 2)) 64) = w9 at i0 i4 DD o3c o5c d9 e9 hk9 ⊢
      generalize madeCells #[.int .i64 0, .int .i64 0] ((12 + p) * 2) = cs1 at *
      generalize 12 + p = np at *
      generalize 20 + q = nq at *
      go_wp2
      refine bodyPost_ret (v := .agg #[.slice A0 n0 c0, .int .i64 x1, .int .i64 x2, .slice (some ⟨w8.heap.size + 1, 0, none⟩) np np, .slice A4 n4 c4, .slice (some ⟨w8.heap.size, 0, none⟩) nq nq]) (by simp [results, Tryd.results87, go_sem, d9]) rfl ?_
      exact drawn_own m0 hn1 m4 hn2 i0 o3c i4 o5c hwB DD (Nat.le_refl _)
  have e4 : (r == 4) = false := by rw [beq_eq_false_iff_ne]; exact h4
  have cK := fun o => X5.res.cell o
  have fK := fun o => X5.res.frozen o
  have gK := X5.res.lt
  have cQ : ∀ o, w5.cell? ⟨Q, o, none⟩ = (#[.slice A0 n0 c0, .int .i64 x1, .int .i64 x2, .slice A3 n3 c3, .slice A4 n4 c4, .slice A5 n5 c5] : Array Value)[o]? := fun o => X5.box.cell o
  have gQ := X5.box.lt
  go_wp2
  refine bodyPost_ret (v := .agg #[.slice A0 n0 c0, .int .i64 x1, .int .i64 x2, .slice A3 n3 c3, .slice A4 n4 c4, .slice A5 n5 c5]) (by simp [results, Tryd.results87, go_sem, cK]) rfl ?_
  exact drawn_six m0 m3 m4 m5 X5.own.rd (WrAll.hi X5.own.wr) (by omega) X5.dr (Nat.le_refl _)
/-- A link was drawn, in memory of the call's own. -/
def DrawnL (w : World) (e : Ending) (w' : World) : Prop := ∃ (k : LinkH) (l : LinkC), e = .returned (LinkV k l) ∧ LinkOk k ∧ RdAll w' (LinkS k l) ∧ Below w.heap.size w w'
def DrawnLK (w : World) (e : Ending) (w' : World) : Prop := ∃ (k : LinkH) (l : LinkC) (z : Int), e = .returned (.tuple #[LinkV k l, .int .i64 z]) ∧ LinkOk k ∧ RdAll w' (LinkS k l) ∧ Hi (LinkR k) w.heap.size ∧ Below w.heap.size w w'
theorem keep_six {W : World} {q B : Nat} {A0 A3 A4 A5 : Option Addr} {n0 c0 n3 c3 n4 c4 n5 c5 : Nat} {l0 l3 l4 l5 : List Int} {x1 x2 : Int} {u0 u1 u2 u3 u4 u5 : Value} (h : RdAll W (LinkS ⟨⟨A0, n0, c0⟩, ⟨A3, n3, c3⟩, ⟨A4, n4, c4⟩, ⟨A5, n5, c5⟩⟩ ⟨l0, x1, x2, l3, l4, l5⟩)) (hi : Hi (LinkR ⟨⟨A0, n0, c0⟩, ⟨A3, n3, c3⟩, ⟨A4, n4, c4⟩, ⟨A5, n5, c5⟩⟩) B) (hB : q < B) :
    RdAll ((((((W.setCell ⟨q, 0, none⟩ u0).setCell ⟨q, 1, none⟩ u1).setCell ⟨q, 2, none⟩ u2).setCell ⟨q, 3, none⟩ u3).setCell ⟨q, 4, none⟩ u4).setCell ⟨q, 5, none⟩ u5) (LinkS ⟨⟨A0, n0, c0⟩, ⟨A3, n3, c3⟩, ⟨A4, n4, c4⟩, ⟨A5, n5, c5⟩⟩ ⟨l0, x1, x2, l3, l4, l5⟩) := by
  have hn : ∀ x ∈ LinkS ⟨⟨A0, n0, c0⟩, ⟨A3, n3, c3⟩, ⟨A4, n4, c4⟩, ⟨A5, n5, c5⟩⟩ ⟨l0, x1, x2, l3, l4, l5⟩, ∀ ad, x.A = some ad → 0 < x.n → ad.block ≠ q := fun x hx ad e hn c => by
    have h1 : x.row = some q := by rw [← c]; unfold Sl.row blkp; rw [if_neg (by omega), e]; rfl
    have := hi x.row (List.mem_map.2 ⟨x, hx, rfl⟩) q h1
    omega
  intro x hx
  refine (h x hx).keep fun ad e h0 => ?_
  have hne := hn x hx ad e h0
  exact (Below.heap_setCell _ _ _ _ hne).trans ((Below.heap_setCell _ _ _ _ hne).trans ((Below.heap_setCell _ _ _ _ hne).trans ((Below.heap_setCell _ _ _ _ hne).trans ((Below.heap_setCell _ _ _ _ hne).trans (Below.heap_setCell _ _ _ _ hne)))))
theorem below_six {w W : World} {u0 u1 u2 u3 u4 u5 : Value} (b : Below w.heap.size w W) : Below w.heap.size w ((((((W.setCell ⟨w.heap.size, 0, none⟩ u0).setCell ⟨w.heap.size, 1, none⟩ u1).setCell ⟨w.heap.size, 2, none⟩ u2).setCell ⟨w.heap.size, 3, none⟩ u3).setCell ⟨w.heap.size, 4, none⟩ u4).setCell ⟨w.heap.size, 5, none⟩ u5) :=
  (((((b.setCell (p := ⟨w.heap.size, 0, none⟩) (Nat.le_refl _) _).setCell (p := ⟨w.heap.size, 1, none⟩) (Nat.le_refl _) _).setCell (p := ⟨w.heap.size, 2, none⟩) (Nat.le_refl _) _).setCell (p := ⟨w.heap.size, 3, none⟩) (Nat.le_refl _) _).setCell (p := ⟨w.heap.size, 4, none⟩) (Nat.le_refl _) _).setCell (p := ⟨w.heap.size, 5, none⟩) (Nat.le_refl _) _
set_option maxRecDepth 100000 in
set_option maxHeartbeats 2000000 in
theorem drawLinkText_any (A : Option Addr) (n c : Nat) (bs : List Int) (w : World) (r : Rd w A n (byteV bs)) (hx : ∀ x ∈ bs, 0 ≤ x ∧ x ≤ 255) (hn : n ≤ 4096) :
    Calls Tryd.prog 30 #[.slice A n c] w (DrawnL w) := by
  have K0 := Blk.new w 48 #[.slice none 0 0, .int .i64 0, .int .i64 0, .slice none 0 0, .slice none 0 0, .slice none 0 0]
  have b0 : Below w.heap.size w (w.alloc (.cells #[.slice none 0 0, .int .i64 0, .int .i64 0, .slice none 0 0, .slice none 0 0, .slice none 0 0] 48)) := (Below.refl _ _).alloc (Nat.le_refl _) _
  have r0 := r.below b0
  go_enter Tryd.func30, Tryd.ntmps30
  go_wp2_with fail
  generalize w.alloc (.cells #[.slice none 0 0, .int .i64 0, .int .i64 0, .slice none 0 0, .slice none 0 0, .slice none 0 0] 48) = w0 at K0 b0 r0 ⊢
  refine (l01From_any A n c bs _ r0 hx hn).mono ?_
  rintro e w1 ⟨g, rfl, S1, b1⟩
  have K1 := K0.below b1 K0.lt
  have hg0 := K0.lt
  have hgS := S1.lt
  clear K0 r0 r
  go_wp2_with fail
  refine (l29Draw_any _ g _ S1).mono ?_
  rintro e w2 ⟨⟨⟨A0, n0, c0⟩, ⟨A3, n3, c3⟩, ⟨A4, n4, c4⟩, ⟨A5, n5, c5⟩⟩, ⟨l0, x1, x2, l3, l4, l5⟩, rfl, okk, RR, hi, D2⟩
  have K2 := K1.nx D2.gr (by omega)
  have b2 := bnext b0 (D2.fin b1)
  have hq : w.heap.size < w1.heap.size := K1.lt
  clear K1 D2 b1 b0
  unfold LinkV
  simp only
  have cK := fun o => K2.cell o
  have fK := fun o => K2.frozen o
  have gK := K2.lt
  go_wp2
  refine bodyPost_ret (v := .agg #[.slice A0 n0 c0, .int .i64 x1, .int .i64 x2, .slice A3 n3 c3, .slice A4 n4 c4, .slice A5 n5 c5]) (by simp [results, Tryd.results30, go_sem, cK]) rfl ?_
  exact ⟨_, _, rfl, okk, keep_six RR hi hq, below_six b2⟩
set_option maxRecDepth 100000 in
set_option maxHeartbeats 2000000 in
theorem drawOpenItems_any (A : Option Addr) (n c : Nat) (bs : List Int) (w : World) (r : Rd w A n (byteV bs)) (hx : ∀ x ∈ bs, 0 ≤ x ∧ x ≤ 255) (hn : n ≤ 4096) :
    Calls Tryd.prog 31 #[.slice A n c] w (DrawnL w) := by
  have K0 := Blk.new w 48 #[.slice none 0 0, .int .i64 0, .int .i64 0, .slice none 0 0, .slice none 0 0, .slice none 0 0]
  have b0 : Below w.heap.size w (w.alloc (.cells #[.slice none 0 0, .int .i64 0, .int .i64 0, .slice none 0 0, .slice none 0 0, .slice none 0 0] 48)) := (Below.refl _ _).alloc (Nat.le_refl _) _
  have r0 := r.below b0
  go_enter Tryd.func31, Tryd.ntmps31
  go_wp2_with fail
  generalize w.alloc (.cells #[.slice none 0 0, .int .i64 0, .int .i64 0, .slice none 0 0, .slice none 0 0, .slice none 0 0] 48) = w0 at K0 b0 r0 ⊢
  refine (l01From_any A n c bs _ r0 hx hn).mono ?_
  rintro e w1 ⟨g, rfl, S1, b1⟩
  have K1 := K0.below b1 K0.lt
  have hg0 := K0.lt
  have hgS := S1.lt
  clear K0 r0 r
  go_wp2_with fail
  refine (l29Draw_any _ g _ S1).mono ?_
  rintro e w2 ⟨⟨⟨A0, n0, c0⟩, ⟨A3, n3, c3⟩, ⟨A4, n4, c4⟩, ⟨A5, n5, c5⟩⟩, ⟨l0, x1, x2, l3, l4, l5⟩, rfl, okk, RR, hi, D2⟩
  have K2 := K1.nx D2.gr (by omega)
  have b2 := bnext b0 (D2.fin b1)
  have hq : w.heap.size < w1.heap.size := K1.lt
  clear K1 D2 b1 b0
  unfold LinkV
  simp only
  have cK := fun o => K2.cell o
  have fK := fun o => K2.frozen o
  have gK := K2.lt
  go_wp2
  refine bodyPost_ret (v := .agg #[.slice A0 n0 c0, .int .i64 x1, .int .i64 x2, .slice A3 n3 c3, .slice A4 n4 c4, .slice A5 n5 c5]) (by simp [results, Tryd.results31, go_sem, cK]) rfl ?_
  exact ⟨_, _, rfl, okk, keep_six RR hi hq, below_six b2⟩
set_option maxRecDepth 100000 in
set_option maxHeartbeats 4000000 in
theorem drawCanStep_any (A : Option Addr) (n c : Nat) (bs : List Int) (w : World) (r : Rd w A n (byteV bs)) (hx : ∀ x ∈ bs, 0 ≤ x ∧ x ≤ 255) (hn : n ≤ 4096) :
    Calls Tryd.prog 79 #[.slice A n c] w (DrawnLK w) := by
  have K0 := Blk.new w 48 #[.slice none 0 0, .int .i64 0, .int .i64 0, .slice none 0 0, .slice none 0 0, .slice none 0 0]
  have b0 : Below w.heap.size w (w.alloc (.cells #[.slice none 0 0, .int .i64 0, .int .i64 0, .slice none 0 0, .slice none 0 0, .slice none 0 0] 48)) := (Below.refl _ _).alloc (Nat.le_refl _) _
  have r0 := r.below b0
  go_enter Tryd.func79, Tryd.ntmps79
  go_wp2_with fail
  generalize w.alloc (.cells #[.slice none 0 0, .int .i64 0, .int .i64 0, .slice none 0 0, .slice none 0 0, .slice none 0 0] 48) = w0 at K0 b0 r0 ⊢
  refine (l01From_any A n c bs _ r0 hx hn).mono ?_
  rintro e w1 ⟨g, rfl, S1, b1⟩
  have K1 := K0.below b1 K0.lt
  have hg0 := K0.lt
  have hgS := S1.lt
  clear K0 r0 r
  go_wp2_with fail
  refine (l29Draw_any _ g _ S1).mono ?_
  rintro e w2 ⟨⟨⟨A0, n0, c0⟩, ⟨A3, n3, c3⟩, ⟨A4, n4, c4⟩, ⟨A5, n5, c5⟩⟩, ⟨l0, x1, x2, l3, l4, l5⟩, rfl, okk, RR, hi, D2⟩
  have K2 := K1.nx D2.gr (by omega)
  have hq : w.heap.size < w1.heap.size := K1.lt
  have h12 := D2.gr.size
  unfold LinkV
  simp only
  have Q3 := Blk.new w2 48 #[.slice A0 n0 c0, .int .i64 x1, .int .i64 x2, .slice A3 n3 c3, .slice A4 n4 c4, .slice A5 n5 c5]
  have D3 := D2.alloc (.cells #[.slice A0 n0 c0, .int .i64 x1, .int .i64 x2, .slice A3 n3 c3, .slice A4 n4 c4, .slice A5 n5 c5] 48)
  have K3 := K2.alloc (.cells #[.slice A0 n0 c0, .int .i64 x1, .int .i64 x2, .slice A3 n3 c3, .slice A4 n4 c4, .slice A5 n5 c5] 48)
  have R3 := RR.below (show Below w2.heap.size w2 (w2.alloc (.cells #[.slice A0 n0 c0, .int .i64 x1, .int .i64 x2, .slice A3 n3 c3, .slice A4 n4 c4, .slice A5 n5 c5] 48)) from (Below.refl _ _).alloc (Nat.le_refl _) _)
  have lo3 : Lo (LinkR ⟨⟨A0, n0, c0⟩, ⟨A3, n3, c3⟩, ⟨A4, n4, c4⟩, ⟨A5, n5, c5⟩⟩) w2.heap.size := RdAll.lo RR
  clear K1 K2 RR D2
  go_wp2_with fail
  generalize w2.alloc (.cells #[.slice A0 n0 c0, .int .i64 x1, .int .i64 x2, .slice A3 n3 c3, .slice A4 n4 c4, .slice A5 n5 c5] 48) = w3 at Q3 D3 K3 R3 ⊢
  generalize w2.heap.size = Q at Q3 lo3 h12 ⊢
  have hgQ : g ≠ Q := by omega
  have hQR : Q ≠ w.heap.size := by omega
  have gw : g ≠ w.heap.size := by omega
  have hgr : ∀ s ∈ LinkR ⟨⟨A0, n0, c0⟩, ⟨A3, n3, c3⟩, ⟨A4, n4, c4⟩, ⟨A5, n5, c5⟩⟩, s ≠ some g := fun s hs e => by have := hi s hs g e; have := S1.lt; omega
  have bd3 : Below w3.heap.size w3 w3.drew := Below.drew (Below.refl _ _)
  have Qd := Q3.below bd3 Q3.lt
  have Kd := K3.below bd3 K3.lt
  have Rd3 := R3.below bd3
  have N1 := l01Next_any _ g 6 _ D3.drew.src (by decide)
  have hS3 : ∀ o, w3.drew.cell? ⟨Q, o, none⟩ = (#[.slice A0 n0 c0, .int .i64 x1, .int .i64 x2, .slice A3 n3 c3, .slice A4 n4 c4, .slice A5 n5 c5] : Array Value)[o]? := fun o => Q3.cell o
  go_region_held3 (fun w' => ∀ o, w'.cell? ⟨Q, o, none⟩ = (#[.slice A0 n0 c0, .int .i64 x1, .int .i64 x2, .slice A3 n3 c3, .slice A4 n4 c4, .slice A5 n5 c5] : Array Value)[o]?)
    (first | (with_reducible assumption) | ((repeat (with_reducible refine cells_far ?_ hQR)); (with_reducible assumption)) | (intro o; go_keep))
    (first
      | (go_at_call 104; (with_reducible refine N1.mono ?_); rintro e w4 ⟨z1, rfl, -, -, g4, S4⟩; have D4 := D3.drew.next g4 S4; have Q4 := Qd.nx g4 hgQ; have K4 := Kd.nx g4 gw; have hS4 : ∀ o, w4.cell? ⟨Q, o, none⟩ = (#[.slice A0 n0 c0, .int .i64 x1, .int .i64 x2, .slice A3 n3 c3, .slice A4 n4 c4, .slice A5 n5 c5] : Array Value)[o]? := (fun o => Q4.cell o); have R4 := RdAll.nx Rd3 g4 hgr; have N2 := l01Next_any _ g 16 _ D4.src (by decide))
      | (go_at_call 104; (with_reducible refine N2.mono ?_); rintro e w5 ⟨z2, rfl, y0, y1, g5, S5⟩; have D5 := D4.next g5 S5; have Q5 := Q4.nx g5 hgQ; have K5 := K4.nx g5 gw; have hS5 : ∀ o, w5.cell? ⟨Q, o, none⟩ = (#[.slice A0 n0 c0, .int .i64 x1, .int .i64 x2, .slice A3 n3 c3, .slice A4 n4 c4, .slice A5 n5 c5] : Array Value)[o]? := (fun o => Q5.cell o); have R5 := RdAll.nx R4 g5 hgr; have N3 := l01Next_any _ g 16 _ D5.src (by decide))
      | (go_at_call 104; (with_reducible refine N3.mono ?_); rintro e w6 ⟨z3, rfl, v0, v1, g6, S6⟩; have D6 := D5.next g6 S6; have Q6 := Q5.nx g6 hgQ; have K6 := K5.nx g6 gw; have hS6 : ∀ o, w6.cell? ⟨Q, o, none⟩ = (#[.slice A0 n0 c0, .int .i64 x1, .int .i64 x2, .slice A3 n3 c3, .slice A4 n4 c4, .slice A5 n5 c5] : Array Value)[o]? := (fun o => Q6.cell o); have R6 := RdAll.nx R5 g6 hgr; have c6 := (fun o => K6.cell o); have f6 := (fun o => K6.frozen o); have gk6 := K6.lt))
  have b6 := bnext b0 (D6.fin b1)
  clear bd3 Qd Kd Rd3 N1 hS3 D3 Q3 K3 R3 D4 Q4 K4 hS4 R4 N2 D5 Q5 K5 hS5 R5 N3 D6 Q6 hS6 S1 S4 S5 S6 g4 g5 g6 b1 b0
  generalize IntKind.i64.wrap (IntKind.i64.wrap (z1 + IntKind.i64.wrap (IntKind.i64.wrap (z2.tdiv 15) * 6)) - IntKind.i64.wrap (z3.tdiv 15)) = z
  generalize IntKind.i64.wrap (z1 + IntKind.i64.wrap (IntKind.i64.wrap (z2.tdiv 15) * 6)) = za
  generalize IntKind.i64.wrap (IntKind.i64.wrap (z2.tdiv 15) * 6) = zb
  generalize IntKind.i64.wrap (z2.tdiv 15) = zc
  generalize IntKind.i64.wrap (z3.tdiv 15) = zd
  go_wp2
  refine bodyPost_ret (v := .tuple #[.agg #[.slice A0 n0 c0, .int .i64 x1, .int .i64 x2, .slice A3 n3 c3, .slice A4 n4 c4, .slice A5 n5 c5], .int .i64 z]) (by simp [results, Tryd.results79, go_sem, c6]) rfl ?_
  exact ⟨_, _, _, rfl, okk, keep_six R6 hi hq, hi.mono (by omega), below_six b6⟩
set_option maxRecDepth 100000 in
set_option maxHeartbeats 2000000 in
theorem drawStepLink_any (A : Option Addr) (n c : Nat) (bs : List Int) (w : World) (r : Rd w A n (byteV bs)) (hx : ∀ x ∈ bs, 0 ≤ x ∧ x ≤ 255) (hn : n ≤ 4096) :
    Calls Tryd.prog 25 #[.slice A n c] w (DrawnLK w) := by
  have K0 := Blk.new w 48 #[.slice none 0 0, .int .i64 0, .int .i64 0, .slice none 0 0, .slice none 0 0, .slice none 0 0]
  have b0 : Below w.heap.size w (w.alloc (.cells #[.slice none 0 0, .int .i64 0, .int .i64 0, .slice none 0 0, .slice none 0 0, .slice none 0 0] 48)) := (Below.refl _ _).alloc (Nat.le_refl _) _
  have r0 := r.below b0
  go_enter Tryd.func25, Tryd.ntmps25
  go_wp2_with fail
  generalize w.alloc (.cells #[.slice none 0 0, .int .i64 0, .int .i64 0, .slice none 0 0, .slice none 0 0, .slice none 0 0] 48) = w0 at K0 b0 r0 ⊢
  refine (drawCanStep_any A n c bs _ r0 hx hn).mono ?_
  rintro e w1 ⟨⟨⟨A0, n0, c0⟩, ⟨A3, n3, c3⟩, ⟨A4, n4, c4⟩, ⟨A5, n5, c5⟩⟩, ⟨l0, x1, x2, l3, l4, l5⟩, z, rfl, okk, RR, hi, b1⟩
  have hq := K0.lt
  have K1 := K0.below b1 K0.lt
  have b2 := bnext b0 b1
  clear K0 r0 r b0 b1
  unfold LinkV
  simp only
  have cK := fun o => K1.cell o
  have fK := fun o => K1.frozen o
  have gK := K1.lt
  go_wp2
  refine bodyPost_ret (v := .tuple #[.agg #[.slice A0 n0 c0, .int .i64 x1, .int .i64 x2, .slice A3 n3 c3, .slice A4 n4 c4, .slice A5 n5 c5], .int .i64 z]) (by simp [results, Tryd.results25, go_sem, cK]) rfl ?_
  exact ⟨_, _, _, rfl, okk, keep_six RR hi hq, hi.mono (by omega), below_six b2⟩

end Go.Proofs.YtoledbicmghmbaaDoor
