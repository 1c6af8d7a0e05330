/- An argument of the type DepthGrid that comes in. No condition. -/
import Derived.Test.YthmcnoloeeabbaaTDepthGrid
import Derived.Test.YthmcnoloeeabbaaOpenE
namespace Go.Proofs.Ythmcnoloeeabbaa
open Go.RowKit Go.ChangeShapes Go.WideShapes Go.Joins Go.Deep
set_option maxRecDepth 100000

def DepthGridArg (w : World) (v : Value) : Prop := ∃ (h : DepthGridH) (l : DepthGridC), v = DepthGridV h l ∧ (h.counts.n ≤ 9223372036854775807 ∧ h.depths.n ≤ 9223372036854775807) ∧ RdAll w (DepthGridS h l)
section
variable {H : Type} {enc : TypeId × Value → H} {w : World} {base : Nat} {spare : Nat → Bool} {held : Bool}
theorem cells_Interval : Try.prog.cellsOf 139 = 2 := by kernel_rfl
theorem cells_IntervalS : Try.prog.cellsOf 44 = 1 := by kernel_rfl
theorem trod_Interval (n : Nat) (cs : List Value) (y : DataW H × List MemPlace) (h : DataW.trod enc Try.prog w base spare held n 139 cs = some y) :
    ∃ ys : List Int, cs = ints ys ∧ ∀ z ∈ ys, (Lit.int .i64 z).wf = true := by
  obtain ⟨xs, m, _, _, hl, hlen, hg⟩ := DataW.trod_struct Try.underlying139 h
  rw [cells_Interval] at hl
  match cs, hl with
  | [c0, c1], _ =>
    match xs, hlen with
    | [y0, y1], _ =>
      have g0 := hg 0 _ rfl
      have g1 := hg 1 _ rfl
      simp [cells_int64] at g0 g1
      obtain ⟨a0, e0, _, u0⟩ := DataW.trod_int Try.underlying2 g0
      obtain ⟨a1, e1, _, u1⟩ := DataW.trod_int Try.underlying2 g1
      simp at e0 e1
      refine ⟨[a0, a1], by rw [e0, e1]; rfl, fun z hz => ?_⟩
      simp at hz
      rcases hz with rfl | rfl <;> assumption
theorem cells_DepthGrid : Try.prog.cellsOf 46 = 5 := by kernel_rfl
theorem cells_ints64 : Try.prog.cellsOf 22 = 1 := by kernel_rfl
set_option maxRecDepth 100000 in
theorem open_laws_DepthGrid {r : Reach} {b0 : Nat} {v : Value} {d : DataW H} {p : List MemPlace} (hv : Value.okWide Try.prog w r b0 46 v) (h : DataW.Trod enc Try.prog w base spare held 46 v d p) : DepthGridArg w v := by
  obtain ⟨cs, rfl, hsz⟩ := okWide_struct Try.underlying46 hv
  obtain ⟨l⟩ := cs
  obtain ⟨fuel, hf⟩ := h
  obtain ⟨xs, m, _, _, hl, hlen, hg⟩ := DataW.trod_struct Try.underlying46 hf
  rw [cells_DepthGrid] at hsz
  match l, hsz with
  | [c0, c1, c2, c3, c4], _ =>
    match xs, hlen with
    | [y0, y1, y2, y3, y4], _ =>
      have g0 := hg 0 _ rfl
      have g1 := hg 1 _ rfl
      have g2 := hg 2 _ rfl
      have g3 := hg 3 _ rfl
      have g4 := hg 4 _ rfl
      simp [cells_int64, cells_ints64, cells_IntervalS, Value.cells] at g0 g1 g2 g3 g4
      obtain ⟨a0, e0, _, u0⟩ := DataW.trod_int Try.underlying2 g0
      obtain ⟨a1, e1, _, u1⟩ := DataW.trod_int Try.underlying2 g1
      obtain ⟨a2, e2, _, u2⟩ := DataW.trod_int Try.underlying2 g2
      obtain ⟨A3, n3, k3, z3, e3, r3, _, m3, _⟩ := open_ints' Try.underlying22 Try.underlying2 cells_int64 g3
      obtain ⟨A4, n4, k4, z4, e4, r4, _, m4, _⟩ := open_recs (by decide) Try.underlying44 cells_Interval trod_Interval g4
      simp at e0 e1 e2 e3 e4
      exact ⟨⟨⟨A3, n3, k3⟩, ⟨A4, n4, k4⟩⟩, ⟨a0, a1, a2, z3, z4⟩, by rw [e0, e1, e2, e3, e4]; rfl, ⟨m3, m4⟩, RdAll.cons (s := ⟨A3, n3, ints z3⟩) r3 (RdAll.cons (s := ⟨A4, n4 * 2, ints z4⟩) r4 (RdAll.nil _))⟩
end
end Go.Proofs.Ythmcnoloeeabbaa
