/- The draws of soundings, of records and of logs. Existential: some numbers; a list of at most 60 records. -/
import Derived.Test.YtilieonalmihaaaDoorDr
import Derived.Test.YtilieonalmihaaaDoorRec
import Derived.Test.YtilieonalmihaaaDoorLog
namespace Go.Proofs.YtilieonalmihaaaDoor
open Go.RowKit

theorem Own.farL {w : World} {B K : Nat} {h : Hd} {us : List Value} (o : Own w B K h us) {p : Addr} (hr : h.row ≠ some p.block) (u : Value) : Own (w.setCell p u) B K h us :=
  o.grown (grown_setCell (World.grownBy.refl _ _) (.inl rfl) _) (fun b e c => hr (e.trans (by rw [← c])))
theorem rd_sevenA (w : World) (a b c d e f g : Int) (t : TypeId) : Rd (w.alloc (.cells #[.int .i64 a, .int .i64 b, .int .i64 c, .int .i64 d, .int .i64 e, .int .i64 f, .int .i64 g] t)) (some ⟨w.heap.size, 0, none⟩) (1 * 7) (ints [a, b, c, d, e, f, g]) := by
  refine ⟨rfl, fun _ => ⟨_, rfl, fun i hi => ?_⟩⟩
  rw [add_lit, (Blk.new w t #[.int .i64 a, .int .i64 b, .int .i64 c, .int .i64 d, .int .i64 e, .int .i64 f, .int .i64 g]).cell]
  simp [ints]
def DrawnLog (w : World) (L g : Nat) (e : Ending) (w' : World) : Prop :=
  ∃ (h : Hd) (xs : List Int), e = .returned (.slice h.A h.n h.c) ∧ h.n ≤ 60 ∧ h.n ≤ h.c ∧ Rd w' h.A (h.n * 7) (ints xs) ∧ Dr w w' L g
end Go.Proofs.YtilieonalmihaaaDoor
