/- An argument of the type Link that comes in. No condition. -/
import Derived.Test.YtoledbicmghmbaaDoorTLink
import Derived.Test.YtoledbicmghmbaaDoorOpenE
namespace Go.Proofs.YtoledbicmghmbaaDoor
open Go.RowKit Go.ChangeShapes Go.WideShapes Go.Joins Go.Deep
set_option maxRecDepth 100000

def LinkArg (w : World) (v : Value) : Prop := ∃ (h : LinkH) (l : LinkC), v = LinkV h l ∧ (h.items.n ≤ 9223372036854775807 ∧ h.packets.n ≤ 9223372036854775807 ∧ h.acks.n ≤ 9223372036854775807 ∧ h.got.n ≤ 9223372036854775807) ∧ RdAll w (LinkS h l)
section
variable {H : Type} {enc : TypeId × Value → H} {w : World} {base : Nat} {spare : Nat → Bool} {held : Bool}
theorem cells_Packet : Tryd.prog.cellsOf 148 = 2 := by kernel_rfl
theorem cells_PacketS : Tryd.prog.cellsOf 41 = 1 := by kernel_rfl
theorem trod_Packet (n : Nat) (cs : List Value) (y : DataW H × List MemPlace) (h : DataW.trod enc Tryd.prog w base spare held n 148 cs = some y) :
    ∃ ys : List Int, cs = ints ys ∧ ∀ z ∈ ys, (Lit.int .i64 z).wf = true := by
  obtain ⟨xs, m, _, _, hl, hlen, hg⟩ := DataW.trod_struct Tryd.underlying148 h
  rw [cells_Packet] at hl
  match cs, hl with
  | [c0, c1], _ =>
    match xs, hlen with
    | [y0, y1], _ =>
      have g0 := hg 0 _ rfl
      have g1 := hg 1 _ rfl
      simp [cells_int64] at g0 g1
      obtain ⟨a0, e0, _, u0⟩ := DataW.trod_int Tryd.underlying2 g0
      obtain ⟨a1, e1, _, u1⟩ := DataW.trod_int Tryd.underlying2 g1
      simp at e0 e1
      refine ⟨[a0, a1], by rw [e0, e1]; rfl, fun z hz => ?_⟩
      simp at hz
      rcases hz with rfl | rfl <;> assumption
theorem cells_Link : Tryd.prog.cellsOf 43 = 6 := by kernel_rfl
theorem cells_ints64 : Tryd.prog.cellsOf 40 = 1 := by kernel_rfl
theorem open_laws_Link {r : Reach} {b0 : Nat} {v : Value} {d : DataW H} {p : List MemPlace} (hv : Value.okWide Tryd.prog w r b0 43 v) (h : DataW.Trod enc Tryd.prog w base spare held 43 v d p) : LinkArg w v := by
  obtain ⟨cs, rfl, hsz⟩ := okWide_struct Tryd.underlying43 hv
  obtain ⟨l⟩ := cs
  obtain ⟨fuel, hf⟩ := h
  obtain ⟨xs, m, _, _, hl, hlen, hg⟩ := DataW.trod_struct Tryd.underlying43 hf
  rw [cells_Link] at hsz
  match l, hsz with
  | [c0, c1, c2, c3, c4, c5], _ =>
    match xs, hlen with
    | [y0, y1, y2, y3, y4, y5], _ =>
      have g0 := hg 0 _ rfl
      have g1 := hg 1 _ rfl
      have g2 := hg 2 _ rfl
      have g3 := hg 3 _ rfl
      have g4 := hg 4 _ rfl
      have g5 := hg 5 _ rfl
      simp [cells_int64, cells_ints64, cells_PacketS, Value.cells] at g0 g1 g2 g3 g4 g5
      obtain ⟨A0, n0, k0, z0, e0, r0, _, m0, _⟩ := open_ints' Tryd.underlying40 Tryd.underlying2 cells_int64 g0
      obtain ⟨a1, e1, _, u1⟩ := DataW.trod_int Tryd.underlying2 g1
      obtain ⟨a2, e2, _, u2⟩ := DataW.trod_int Tryd.underlying2 g2
      obtain ⟨A3, n3, k3, z3, e3, r3, _, m3, _⟩ := open_recs (by decide) Tryd.underlying41 cells_Packet trod_Packet g3
      obtain ⟨A4, n4, k4, z4, e4, r4, _, m4, _⟩ := open_ints' Tryd.underlying40 Tryd.underlying2 cells_int64 g4
      obtain ⟨A5, n5, k5, z5, e5, r5, _, m5, _⟩ := open_ints' Tryd.underlying40 Tryd.underlying2 cells_int64 g5
      simp at e0 e1 e2 e3 e4 e5
      exact ⟨⟨⟨A0, n0, k0⟩, ⟨A3, n3, k3⟩, ⟨A4, n4, k4⟩, ⟨A5, n5, k5⟩⟩, ⟨z0, a1, a2, z3, z4, z5⟩, by rw [e0, e1, e2, e3, e4, e5]; rfl, ⟨m0, m3, m4, m5⟩, RdAll.cons (s := ⟨A0, n0, ints z0⟩) r0 (RdAll.cons (s := ⟨A3, n3 * 2, ints z3⟩) r3 (RdAll.cons (s := ⟨A4, n4, ints z4⟩) r4 (RdAll.cons (s := ⟨A5, n5, ints z5⟩) r5 (RdAll.nil _))))⟩
end
end Go.Proofs.YtoledbicmghmbaaDoor
