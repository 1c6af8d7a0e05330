/- A record that comes in as an argument: seven numbers. No condition. -/
import Derived.Test.YtoledbicmghmbaaDoorRec
import Derived.ProofKit
import Derived.Lib.SmallJoins
namespace Go.Proofs.YtoledbicmghmbaaDoor
open Go.RowKit Go.ChangeShapes Go.WideShapes Go.Joins Go.Deep

section
variable {H : Type} {enc : TypeId × Value → H} {w : World} {base : Nat} {spare : Nat → Bool} {held : Bool}
theorem cells_int : Tryd.prog.cellsOf 2 = 1 := by kernel_rfl
theorem cells_Sou : Tryd.prog.cellsOf 23 = 4 := by kernel_rfl
theorem cells_Rec : Tryd.prog.cellsOf 25 = 7 := by kernel_rfl
set_option maxRecDepth 100000 in
theorem trod_Sou {n : Nat} {cs : List Value} {y : DataW H × List MemPlace} (h : DataW.trod enc Tryd.prog w base spare held n 23 cs = some y) :
    ∃ x y d r : Int, cs = [.int .i64 x, .int .i64 y, .int .i64 d, .int .i64 r] := by
  obtain ⟨xs, m, _, _, hl, hlen, hg⟩ := DataW.trod_struct Tryd.underlying23 h
  rw [cells_Sou] at hl
  match cs, hl with
  | [c0, c1, c2, c3], _ =>
    match xs, hlen with
    | [y0, y1, y2, y3], _ =>
      have g0 := hg 0 _ rfl
      have g1 := hg 1 _ rfl
      have g2 := hg 2 _ rfl
      have g3 := hg 3 _ rfl
      simp [cells_int] at g0 g1 g2 g3
      obtain ⟨a0, e0, _, _⟩ := DataW.trod_int Tryd.underlying2 g0
      obtain ⟨a1, e1, _, _⟩ := DataW.trod_int Tryd.underlying2 g1
      obtain ⟨a2, e2, _, _⟩ := DataW.trod_int Tryd.underlying2 g2
      obtain ⟨a3, e3, _, _⟩ := DataW.trod_int Tryd.underlying2 g3
      simp at e0 e1 e2 e3
      exact ⟨a0, a1, a2, a3, by rw [e0, e1, e2, e3]⟩
set_option maxRecDepth 100000 in
theorem open_laws_Record {r : Reach} {b0 : Nat} {v : Value} {d : DataW H} {p : List MemPlace} (hv : Value.okWide Tryd.prog w r b0 25 v) (h : DataW.Trod enc Tryd.prog w base spare held 25 v d p) :
    ∃ t k l x y d r : Int, v = .agg #[.int .i64 t, .int .i64 k, .int .i64 l, .int .i64 x, .int .i64 y, .int .i64 d, .int .i64 r] := by
  obtain ⟨cs, rfl, hsz⟩ := okWide_struct Tryd.underlying25 hv
  obtain ⟨l⟩ := cs
  obtain ⟨fuel, hf⟩ := h
  obtain ⟨xs, m, _, _, hl, hlen, hg⟩ := DataW.trod_struct Tryd.underlying25 hf
  rw [cells_Rec] at hsz
  match l, hsz with
  | [c0, c1, c2, c3, c4, c5, c6], _ =>
    match xs, hlen with
    | [y0, y1, y2, y3], _ =>
      have g0 := hg 0 _ rfl
      have g1 := hg 1 _ rfl
      have g2 := hg 2 _ rfl
      have g3 := hg 3 _ rfl
      simp [cells_int, cells_Sou, Value.cells] at g0 g1 g2 g3
      obtain ⟨a0, e0, _, _⟩ := DataW.trod_int Tryd.underlying2 g0
      obtain ⟨a1, e1, _, _⟩ := DataW.trod_int Tryd.underlying2 g1
      obtain ⟨a2, e2, _, _⟩ := DataW.trod_int Tryd.underlying2 g2
      obtain ⟨a3, a4, a5, a6, e3⟩ := trod_Sou g3
      simp at e0 e1 e2 e3
      exact ⟨a0, a1, a2, a3, a4, a5, a6, by rw [e0, e1, e2, e3.1, e3.2.1, e3.2.2.1, e3.2.2.2]⟩
end
end Go.Proofs.YtoledbicmghmbaaDoor
