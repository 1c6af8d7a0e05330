/- A list of records that comes in (structs of structs). No condition. -/
import Derived.Test.YtoledbicmghmbaaDoorRecs
import Derived.Test.YtoledbicmghmbaaDoorOpenE
namespace Go.Proofs.YtoledbicmghmbaaDoor
open Go.RowKit Go.ChangeShapes Go.WideShapes Go.Joins Go.Deep
set_option maxRecDepth 100000
def RecsArg (w : World) (v : Value) : Prop := ∃ (h : Hd) (l : List Int), v = RecsV h ∧ RecsMx h ∧ RdAll w (RecsS h l)

section
variable {H : Type} {enc : TypeId × Value → H} {w : World} {base : Nat} {spare : Nat → Bool} {held : Bool}
theorem cells_Sounding : Tryd.prog.cellsOf 23 = 4 := by kernel_rfl
theorem cells_Record : Tryd.prog.cellsOf 25 = 7 := by kernel_rfl
theorem cells_RecordS : Tryd.prog.cellsOf 32 = 1 := by kernel_rfl

theorem trod_Sounding (n : Nat) (cs : List Value) (y : DataW H × List MemPlace) (h : DataW.trod enc Tryd.prog w base spare held n 23 cs = some y) :
    ∃ ys : List Int, ys.length = 4 ∧ cs = ints ys ∧ ∀ z ∈ ys, (Lit.int .i64 z).wf = true := by
  obtain ⟨xs, m, _, _, hl, hlen, hg⟩ := DataW.trod_struct Tryd.underlying23 h
  rw [cells_Sounding] at hl
  match cs, hl with
  | [c0, c1, c2, c3], _ =>
    match xs, hlen with
    | [y0, y1, y2, y3], _ =>
      have g0 := hg 0 _ rfl
      have g1 := hg 1 _ rfl
      have g2 := hg 2 _ rfl
      have g3 := hg 3 _ rfl
      simp [cells_int64] at g0 g1 g2 g3
      obtain ⟨a0, e0, _, u0⟩ := DataW.trod_int Tryd.underlying2 g0
      obtain ⟨a1, e1, _, u1⟩ := DataW.trod_int Tryd.underlying2 g1
      obtain ⟨a2, e2, _, u2⟩ := DataW.trod_int Tryd.underlying2 g2
      obtain ⟨a3, e3, _, u3⟩ := DataW.trod_int Tryd.underlying2 g3
      simp at e0 e1 e2 e3
      refine ⟨[a0, a1, a2, a3], rfl, by rw [e0, e1, e2, e3]; rfl, fun z hz => ?_⟩
      simp at hz
      rcases hz with rfl | rfl | rfl | rfl <;> assumption
theorem trod_Record (n : Nat) (cs : List Value) (y : DataW H × List MemPlace) (h : DataW.trod enc Tryd.prog w base spare held n 25 cs = some y) :
    ∃ ys : List Int, cs = ints ys ∧ ∀ z ∈ ys, (Lit.int .i64 z).wf = true := by
  obtain ⟨xs, m, _, _, hl, hlen, hg⟩ := DataW.trod_struct Tryd.underlying25 h
  rw [cells_Record] at hl
  match cs, hl with
  | [c0, c1, c2, c3, c4, c5, c6], _ =>
    match xs, hlen with
    | [y0, y1, y2, y3], _ =>
      have g0 := hg 0 _ rfl
      have g1 := hg 1 _ rfl
      have g2 := hg 2 _ rfl
      have g3 := hg 3 _ rfl
      simp [cells_int64, cells_Sounding] at g0 g1 g2 g3
      obtain ⟨a0, e0, _, u0⟩ := DataW.trod_int Tryd.underlying2 g0
      obtain ⟨a1, e1, _, u1⟩ := DataW.trod_int Tryd.underlying2 g1
      obtain ⟨a2, e2, _, u2⟩ := DataW.trod_int Tryd.underlying2 g2
      obtain ⟨zs, _, e3, u3⟩ := trod_Sounding _ _ _ g3
      simp at e0 e1 e2
      refine ⟨a0 :: a1 :: a2 :: zs, ?_, fun z hz => ?_⟩
      · rw [e0, e1, e2, e3]
        rfl
      · simp at hz
        rcases hz with rfl | rfl | rfl | hz
        · assumption
        · assumption
        · assumption
        · exact u3 z hz
theorem open___laws_Record {r : Reach} {b0 : Nat} {v : Value} {d : DataW H} {p : List MemPlace} (hv : Value.okWide Tryd.prog w r b0 32 v) (h : DataW.Trod enc Tryd.prog w base spare held 32 v d p) : RecsArg w v := by
  obtain ⟨A, n, c, rfl⟩ := okWide_slice Tryd.underlying32 hv
  obtain ⟨fuel, hf⟩ := h
  obtain ⟨A', n', c', zs, e, r, hnc, m, _⟩ := open_recs (by decide) Tryd.underlying32 cells_Record trod_Record hf
  simp [Value.cells] at e
  obtain ⟨rfl, rfl, rfl⟩ := e
  exact ⟨⟨A, n, c⟩, zs, rfl, ⟨m, hnc⟩, RdAll.cons (s := ⟨A, n * 7, ints zs⟩) r (RdAll.nil _)⟩
end
end Go.Proofs.YtoledbicmghmbaaDoor
