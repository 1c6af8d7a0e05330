/- An argument of the type Bench that comes in (a struct of structs). No condition. -/
import Derived.Test.YtphpjmkebnadoaaTBench
import Derived.Test.YtphpjmkebnadoaaOpenE
namespace Go.Proofs.Ytphpjmkebnadoaa
open Go.RowKit Go.ChangeShapes Go.WideShapes Go.Joins Go.Deep
set_option maxRecDepth 100000

def BenchArg (w : World) (v : Value) : Prop := ∃ (h : BenchH) (l : BenchC), v = BenchV h l ∧ (h.depths.n ≤ 9223372036854775807 ∧ h.speeds.n ≤ 9223372036854775807 ∧ h.log.n ≤ 9223372036854775807) ∧ RdAll w (BenchS h l)
section
variable {H : Type} {enc : TypeId × Value → H} {w : World} {base : Nat} {spare : Nat → Bool} {held : Bool}
theorem cells_Sounding : Try.prog.cellsOf 72 = 4 := by kernel_rfl
theorem cells_Record : Try.prog.cellsOf 74 = 7 := by kernel_rfl
theorem cells_RecordS : Try.prog.cellsOf 22 = 1 := by kernel_rfl
theorem cells_Profile : Try.prog.cellsOf 61 = 2 := by kernel_rfl
theorem cells_Direction : Try.prog.cellsOf 62 = 3 := by kernel_rfl
theorem trod_Sounding (n : Nat) (cs : List Value) (y : DataW H × List MemPlace) (h : DataW.trod enc Try.prog w base spare held n 72 cs = some y) :
    ∃ ys : List Int, ys.length = 4 ∧ cs = ints ys ∧ ∀ z ∈ ys, (Lit.int .i64 z).wf = true := by
  obtain ⟨xs, m, _, _, hl, hlen, hg⟩ := DataW.trod_struct Try.underlying72 h
  rw [cells_Sounding] at hl
  match cs, hl with
  | [c0, c1, c2, c3], _ =>
    match xs, hlen with
    | [y0, y1, y2, y3], _ =>
      have g0 := hg 0 _ rfl
      have g1 := hg 1 _ rfl
      have g2 := hg 2 _ rfl
      have g3 := hg 3 _ rfl
      simp [cells_int64] at g0 g1 g2 g3
      obtain ⟨a0, e0, _, u0⟩ := DataW.trod_int Try.underlying2 g0
      obtain ⟨a1, e1, _, u1⟩ := DataW.trod_int Try.underlying2 g1
      obtain ⟨a2, e2, _, u2⟩ := DataW.trod_int Try.underlying2 g2
      obtain ⟨a3, e3, _, u3⟩ := DataW.trod_int Try.underlying2 g3
      simp at e0 e1 e2 e3
      refine ⟨[a0, a1, a2, a3], rfl, by rw [e0, e1, e2, e3]; rfl, fun z hz => ?_⟩
      simp at hz
      rcases hz with rfl | rfl | rfl | rfl <;> assumption
theorem trod_Direction (n : Nat) (cs : List Value) (y : DataW H × List MemPlace) (h : DataW.trod enc Try.prog w base spare held n 62 cs = some y) :
    ∃ ys : List Int, ys.length = 3 ∧ cs = ints ys ∧ ∀ z ∈ ys, (Lit.int .i64 z).wf = true := by
  obtain ⟨xs, m, _, _, hl, hlen, hg⟩ := DataW.trod_struct Try.underlying62 h
  rw [cells_Direction] at hl
  match cs, hl with
  | [c0, c1, c2], _ =>
    match xs, hlen with
    | [y0, y1, y2], _ =>
      have g0 := hg 0 _ rfl
      have g1 := hg 1 _ rfl
      have g2 := hg 2 _ rfl
      simp [cells_int64] at g0 g1 g2
      obtain ⟨a0, e0, _, u0⟩ := DataW.trod_int Try.underlying2 g0
      obtain ⟨a1, e1, _, u1⟩ := DataW.trod_int Try.underlying2 g1
      obtain ⟨a2, e2, _, u2⟩ := DataW.trod_int Try.underlying2 g2
      simp at e0 e1 e2
      refine ⟨[a0, a1, a2], rfl, by rw [e0, e1, e2]; rfl, fun z hz => ?_⟩
      simp at hz
      rcases hz with rfl | rfl | rfl <;> assumption
theorem trod_Record (n : Nat) (cs : List Value) (y : DataW H × List MemPlace) (h : DataW.trod enc Try.prog w base spare held n 74 cs = some y) :
    ∃ ys : List Int, cs = ints ys ∧ ∀ z ∈ ys, (Lit.int .i64 z).wf = true := by
  obtain ⟨xs, m, _, _, hl, hlen, hg⟩ := DataW.trod_struct Try.underlying74 h
  rw [cells_Record] at hl
  match cs, hl with
  | [c0, c1, c2, c3, c4, c5, c6], _ =>
    match xs, hlen with
    | [y0, y1, y2, y3], _ =>
      have g0 := hg 0 _ rfl
      have g1 := hg 1 _ rfl
      have g2 := hg 2 _ rfl
      have g3 := hg 3 _ rfl
      simp [cells_int64, cells_Sounding] at g0 g1 g2 g3
      obtain ⟨a0, e0, _, u0⟩ := DataW.trod_int Try.underlying2 g0
      obtain ⟨a1, e1, _, u1⟩ := DataW.trod_int Try.underlying2 g1
      obtain ⟨a2, e2, _, u2⟩ := DataW.trod_int Try.underlying2 g2
      obtain ⟨zs, _, e3, u3⟩ := trod_Sounding _ _ _ g3
      simp at e0 e1 e2
      refine ⟨a0 :: a1 :: a2 :: zs, ?_, fun z hz => ?_⟩
      · rw [e0, e1, e2, e3]
        rfl
      · simp at hz
        rcases hz with rfl | rfl | rfl | hz
        · assumption
        · assumption
        · assumption
        · exact u3 z hz
theorem cells_ints64 : Try.prog.cellsOf 24 = 1 := by kernel_rfl
theorem trod_Profile (n : Nat) (cs : List Value) (y : DataW H × List MemPlace) (h : DataW.trod enc Try.prog w base spare held n 61 cs = some y) :
    ∃ (k : ProfileH) (l : ProfileC), cs = [.slice k.depths.A k.depths.n k.depths.c, .slice k.speeds.A k.speeds.n k.speeds.c] ∧ (k.depths.n ≤ 9223372036854775807 ∧ k.speeds.n ≤ 9223372036854775807) ∧ Rd w k.depths.A k.depths.n (ints l.depths) ∧ Rd w k.speeds.A k.speeds.n (ints l.speeds) := by
  obtain ⟨xs, m, _, _, hl, hlen, hg⟩ := DataW.trod_struct Try.underlying61 h
  rw [cells_Profile] at hl
  match cs, hl with
  | [c0, c1], _ =>
    match xs, hlen with
    | [y0, y1], _ =>
      have g0 := hg 0 _ rfl
      have g1 := hg 1 _ rfl
      simp [cells_ints64, Value.cells] at g0 g1
      obtain ⟨A0, n0, k0, z0, e0, r0, _, m0, _⟩ := open_ints' Try.underlying24 Try.underlying2 cells_int64 g0
      obtain ⟨A1, n1, k1, z1, e1, r1, _, m1, _⟩ := open_ints' Try.underlying24 Try.underlying2 cells_int64 g1
      simp at e0 e1
      exact ⟨⟨⟨A0, n0, k0⟩, ⟨A1, n1, k1⟩⟩, ⟨z0, z1⟩, by rw [e0, e1], ⟨m0, m1⟩, r0, r1⟩
theorem cells_Bench : Try.prog.cellsOf 64 = 7 := by kernel_rfl
set_option maxRecDepth 100000 in
theorem open_laws_Bench {r : Reach} {b0 : Nat} {v : Value} {d : DataW H} {p : List MemPlace} (hv : Value.okWide Try.prog w r b0 64 v) (h : DataW.Trod enc Try.prog w base spare held 64 v d p) : BenchArg w v := by
  obtain ⟨cs, rfl, hsz⟩ := okWide_struct Try.underlying64 hv
  obtain ⟨l⟩ := cs
  obtain ⟨fuel, hf⟩ := h
  obtain ⟨xs, m, _, _, hl, hlen, hg⟩ := DataW.trod_struct Try.underlying64 hf
  rw [cells_Bench] at hsz
  match l, hsz with
  | [c0, c1, c2, c3, c4, c5, c6], _ =>
    match xs, hlen with
    | [y0, y1, y2, y3], _ =>
      have g0 := hg 0 _ rfl
      have g1 := hg 1 _ rfl
      have g2 := hg 2 _ rfl
      have g3 := hg 3 _ rfl
      simp [cells_int64, cells_Profile, cells_Direction, cells_RecordS, Value.cells] at g0 g1 g2 g3
      obtain ⟨kp, lp, e0, ⟨m0, m1⟩, r0, r1⟩ := trod_Profile _ _ _ g0
      obtain ⟨a1, e1, _, u1⟩ := DataW.trod_int Try.underlying2 g1
      obtain ⟨zs, hz, e2, _⟩ := trod_Direction _ _ _ g2
      match zs, hz with
      | [z0, z1, z2], _ =>
        obtain ⟨A3, n3, k3, z3, e3, r3, _, m3, _⟩ := open_recs (by decide) Try.underlying22 cells_Record trod_Record g3
        unfold ints at e2
        simp at e0 e1 e2 e3
        obtain ⟨rfl, rfl⟩ := e0
        obtain ⟨rfl, rfl, rfl⟩ := e2
        exact ⟨⟨kp.depths, kp.speeds, ⟨A3, n3, k3⟩⟩, ⟨lp.depths, lp.speeds, a1, z0, z1, z2, z3⟩, by rw [e1, e3]; rfl, ⟨m0, m1, m3⟩, RdAll.cons (s := ⟨kp.depths.A, kp.depths.n, ints lp.depths⟩) r0 (RdAll.cons (s := ⟨kp.speeds.A, kp.speeds.n, ints lp.speeds⟩) r1 (RdAll.cons (s := ⟨A3, n3 * 7, ints z3⟩) r3 (RdAll.nil _)))⟩
end
end Go.Proofs.Ytphpjmkebnadoaa
