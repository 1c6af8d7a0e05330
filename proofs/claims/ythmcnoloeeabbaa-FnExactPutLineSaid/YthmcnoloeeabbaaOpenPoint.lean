/- A point that comes in as an argument: two numbers. No condition. -/
import Derived.Test.YthmcnoloeeabbaaTI
import Derived.Test.YthmcnoloeeabbaaOpenE
namespace Go.Proofs.Ythmcnoloeeabbaa
open Go.RowKit Go.ChangeShapes Go.WideShapes Go.Joins Go.Deep

section
variable {H : Type} {enc : TypeId × Value → H} {w : World} {base : Nat} {spare : Nat → Bool} {held : Bool}
theorem cells_Point : Try.prog.cellsOf 36 = 2 := by kernel_rfl
set_option maxRecDepth 100000 in
theorem open_laws_Point {r : Reach} {b0 : Nat} {v : Value} {d : DataW H} {p : List MemPlace} (hv : Value.okWide Try.prog w r b0 36 v) (h : DataW.Trod enc Try.prog w base spare held 36 v d p) :
    ∃ x y : Int, v = .agg #[.int .i64 x, .int .i64 y] := by
  obtain ⟨cs, rfl, hsz⟩ := okWide_struct Try.underlying36 hv
  obtain ⟨l⟩ := cs
  obtain ⟨fuel, hf⟩ := h
  obtain ⟨xs, m, _, _, hl, hlen, hg⟩ := DataW.trod_struct Try.underlying36 hf
  rw [cells_Point] at hsz
  match l, hsz with
  | [c0, c1], _ =>
    match xs, hlen with
    | [y0, y1], _ =>
      have g0 := hg 0 _ rfl
      have g1 := hg 1 _ rfl
      simp [cells_int64, Value.cells] at g0 g1
      obtain ⟨a0, e0, _, _⟩ := DataW.trod_int Try.underlying2 g0
      obtain ⟨a1, e1, _, _⟩ := DataW.trod_int Try.underlying2 g1
      simp at e0 e1
      exact ⟨a0, a1, by rw [e0, e1]⟩
end
end Go.Proofs.Ythmcnoloeeabbaa
