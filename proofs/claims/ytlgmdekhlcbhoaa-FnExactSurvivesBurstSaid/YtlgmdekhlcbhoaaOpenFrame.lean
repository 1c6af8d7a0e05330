/- An argument of the type Frame that comes in. No condition. -/
import Derived.Test.YtlgmdekhlcbhoaaTFrame
import Derived.Test.YtlgmdekhlcbhoaaOpenE
namespace Go.Proofs.Ytlgmdekhlcbhoaa
open Go.RowKit Go.ChangeShapes Go.WideShapes Go.Joins Go.Deep
set_option maxRecDepth 100000

def FrameArg (w : World) (v : Value) : Prop := ∃ (h : FrameH) (l : FrameC), v = FrameV h l ∧ (h.payload.n ≤ 9223372036854775807) ∧ RdAll w (FrameS h l)
section
variable {H : Type} {enc : TypeId × Value → H} {w : World} {base : Nat} {spare : Nat → Bool} {held : Bool}
theorem cells_Frame : Try.prog.cellsOf 24 = 3 := by kernel_rfl
theorem cells_ints64 : Try.prog.cellsOf 22 = 1 := by kernel_rfl
set_option maxRecDepth 100000 in
theorem open_laws_Frame {r : Reach} {b0 : Nat} {v : Value} {d : DataW H} {p : List MemPlace} (hv : Value.okWide Try.prog w r b0 24 v) (h : DataW.Trod enc Try.prog w base spare held 24 v d p) : FrameArg w v := by
  obtain ⟨cs, rfl, hsz⟩ := okWide_struct Try.underlying24 hv
  obtain ⟨l⟩ := cs
  obtain ⟨fuel, hf⟩ := h
  obtain ⟨xs, m, _, _, hl, hlen, hg⟩ := DataW.trod_struct Try.underlying24 hf
  rw [cells_Frame] at hsz
  match l, hsz with
  | [c0, c1, c2], _ =>
    match xs, hlen with
    | [y0, y1, y2], _ =>
      have g0 := hg 0 _ rfl
      have g1 := hg 1 _ rfl
      have g2 := hg 2 _ rfl
      simp [cells_int64, cells_ints64, Value.cells] at g0 g1 g2
      obtain ⟨a0, e0, _, u0⟩ := DataW.trod_int Try.underlying2 g0
      obtain ⟨a1, e1, _, u1⟩ := DataW.trod_int Try.underlying2 g1
      obtain ⟨A2, n2, k2, z2, e2, r2, _, m2, _⟩ := open_ints' Try.underlying22 Try.underlying2 cells_int64 g2
      simp at e0 e1 e2
      exact ⟨⟨⟨A2, n2, k2⟩⟩, ⟨a0, a1, z2⟩, by rw [e0, e1, e2]; rfl, m2, RdAll.cons (s := ⟨A2, n2, ints z2⟩) r2 (RdAll.nil _)⟩
end
end Go.Proofs.Ytlgmdekhlcbhoaa
