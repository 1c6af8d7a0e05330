/- An argument of the type Mosaic that comes in. No condition. -/
import Derived.Test.YthmcnoloeeabbaaTMosaic
import Derived.Test.YthmcnoloeeabbaaOpenE
namespace Go.Proofs.Ythmcnoloeeabbaa
open Go.RowKit Go.ChangeShapes Go.WideShapes Go.Joins Go.Deep

def MosaicArg (w : World) (v : Value) : Prop := ∃ (h : MosaicH) (l : MosaicC), v = MosaicV h l ∧ (h.values.n ≤ 9223372036854775807 ∧ h.grades.n ≤ 9223372036854775807) ∧ RdAll w (MosaicS h l)
section
variable {H : Type} {enc : TypeId × Value → H} {w : World} {base : Nat} {spare : Nat → Bool} {held : Bool}
theorem cells_Mosaic : Try.prog.cellsOf 24 = 4 := by kernel_rfl
theorem cells_ints64 : Try.prog.cellsOf 22 = 1 := by kernel_rfl
set_option maxRecDepth 100000 in
theorem open_laws_Mosaic {r : Reach} {b0 : Nat} {v : Value} {d : DataW H} {p : List MemPlace} (hv : Value.okWide Try.prog w r b0 24 v) (h : DataW.Trod enc Try.prog w base spare held 24 v d p) : MosaicArg w v := by
  obtain ⟨cs, rfl, hsz⟩ := okWide_struct Try.underlying24 hv
  obtain ⟨l⟩ := cs
  obtain ⟨fuel, hf⟩ := h
  obtain ⟨xs, m, _, _, hl, hlen, hg⟩ := DataW.trod_struct Try.underlying24 hf
  rw [cells_Mosaic] at hsz
  match l, hsz with
  | [c0, c1, c2, c3], _ =>
    match xs, hlen with
    | [y0, y1, y2, y3], _ =>
      have g0 := hg 0 _ rfl
      have g1 := hg 1 _ rfl
      have g2 := hg 2 _ rfl
      have g3 := hg 3 _ rfl
      simp [cells_int64, cells_ints64, Value.cells] at g0 g1 g2 g3
      obtain ⟨a0, e0, _, u0⟩ := DataW.trod_int Try.underlying2 g0
      obtain ⟨a1, e1, _, u1⟩ := DataW.trod_int Try.underlying2 g1
      obtain ⟨A2, n2, k2, z2, e2, r2, _, m2, _⟩ := open_ints' Try.underlying22 Try.underlying2 cells_int64 g2
      obtain ⟨A3, n3, k3, z3, e3, r3, _, m3, _⟩ := open_ints' Try.underlying22 Try.underlying2 cells_int64 g3
      simp at e0 e1 e2 e3
      exact ⟨⟨⟨A2, n2, k2⟩, ⟨A3, n3, k3⟩⟩, ⟨a0, a1, z2, z3⟩, by rw [e0, e1, e2, e3]; rfl, ⟨m2, m3⟩, RdAll.cons (s := ⟨A2, n2, ints z2⟩) r2 (RdAll.cons (s := ⟨A3, n3, ints z3⟩) r3 (RdAll.nil _))⟩
end
end Go.Proofs.Ythmcnoloeeabbaa
