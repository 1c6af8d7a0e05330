/- A Frame of one's own. Plain lemmas, no condition. -/
import Derived.Test.YtlgmdekhlcbhoaaTFrame
import Derived.Test.YtlgmdekhlcbhoaaKern
namespace Go.Proofs.Ytlgmdekhlcbhoaa
open Go.RowKit

def FrameB (h : FrameH) : List (Option Nat) := [h.payload.row]
def FrameCells (h : FrameH) (l : FrameC) : Array Value := #[.int .i64 l.kind, .int .i64 l.number, .slice h.payload.A h.payload.n h.payload.c]
structure FrameOwn (w : World) (B : Nat) (h : FrameH) (l : FrameC) : Prop where
  payload : Own w B 1 h.payload (ints l.payload)
  sep : Sep (FrameB h)
section
variable {w w' : World} {B C : Nat} {h : FrameH} {l : FrameC}
theorem FrameOwn.below (o : FrameOwn w B h l) (b : Below w.heap.size w w') : FrameOwn w' B h l := ⟨o.payload.below b, o.sep⟩
theorem FrameOwn.above {D : Nat} (o : FrameOwn w B h l) (b : Above D w w') (hD : D ≤ B) : FrameOwn w' B h l := ⟨o.payload.above b hD, o.sep⟩
theorem FrameOwn.mono (o : FrameOwn w B h l) (hC : C ≤ B) : FrameOwn w C h l := ⟨o.payload.mono hC, o.sep⟩
theorem FrameOwn.rd (o : FrameOwn w B h l) : RdAll w (FrameS h l) := RdAll.cons (s := ⟨h.payload.A, h.payload.n, ints l.payload⟩) o.payload.rd1 (RdAll.nil _)
theorem FrameOwn.wr (o : FrameOwn w B h l) : WrAll w B (FrameS h l) := WrAll.cons (s := ⟨h.payload.A, h.payload.n, ints l.payload⟩) o.payload.wr1 (WrAll.nil _ _)
theorem FrameOwn.sp (o : FrameOwn w B h l) : Sep (FrameR h) := Sep.ofRow [(h.payload, h.payload.n)] (fun p hp => by
  simp only [List.mem_cons, List.not_mem_nil, or_false] at hp
  rcases hp with rfl
  · exact o.payload.npos (by simp)
  ) o.sep
theorem FrameOwn.blt (o : FrameOwn w B h l) : ∀ s ∈ FrameB h, ∀ b, s = some b → B ≤ b ∧ b < w.heap.size := fun s hs b e => by
  unfold FrameB at hs
  simp only [List.mem_cons, List.not_mem_nil, or_false] at hs
  rcases hs with rfl
  · exact o.payload.rowlt b e
/-- .. and its box. -/
structure FrameBox (w : World) (B g : Nat) (h : FrameH) (l : FrameC) : Prop where
  box : Blk w g 28 (FrameCells h l)
  own : FrameOwn w B h l
  ge : B ≤ g
  ne : ∀ s ∈ FrameB h, s ≠ some g
theorem FrameBox.below {g : Nat} (o : FrameBox w B g h l) (b : Below w.heap.size w w') : FrameBox w' B g h l := ⟨o.box.below b o.box.lt, o.own.below b, o.ge, o.ne⟩
theorem FrameBox.alloc {g : Nat} (X : FrameBox w B g h l) (ob : Obj) : FrameBox (w.alloc ob) B g h l := X.below ((Below.refl _ _).alloc (Nat.le_refl _) ob)
theorem FrameBox.drewN {g : Nat} (X : FrameBox w B g h l) (n : Nat) : FrameBox (w.drewN n) B g h l := X.below (below_drewN w n)
theorem FrameBox.drew {g : Nat} (X : FrameBox w B g h l) : FrameBox w.drew B g h l := X.below ⟨rfl, rfl, rfl, Nat.le_refl _, fun _ _ => rfl⟩
theorem FrameBox.set_payload {g : Nat} {Q : Hd} {ps : List Int} (X : FrameBox w B g h l) (gg : w.grownBy w' h.payload.row) (o : Own w' B 1 Q (ints ps)) (hq : ∀ b, Q.row = some b → h.payload.row = some b ∨ w.heap.size ≤ b) :
    FrameBox (w'.setCell ⟨g, 2, none⟩ (.slice Q.A Q.n Q.c)) B g ⟨Q⟩ ⟨l.kind, l.number, ps⟩ := by
  have hm : h.payload.row ∈ FrameB h := by simp [FrameB]
  have hQ : Q.row ≠ some g := fun e => by rcases hq g e with e | e; exact X.ne _ hm e; have := X.box.lt; omega
  refine ⟨?_, ⟨?_, ?_⟩, X.ge, Ne.replace (L := FrameB h) 0 X.ne hQ⟩
  · exact (X.box.grown gg (X.ne _ hm)).set_ 2 _
  · exact o.grown (grown_cell _ _ _ _) (fun b e c => hQ (e.trans c.symm))
  · exact Sep.replace (L := FrameB h) 0 X.own.sep (fun b e => (hq b e).imp (fun e => by rw [← e]; rfl) (fun e s hs c => by have := (X.own.blt s hs b c).2; omega))
theorem FrameBox.set_kind {g : Nat} (X : FrameBox w B g h l) (x : Int) : FrameBox (w.setCell ⟨g, 0, none⟩ (.int .i64 x)) B g h ⟨x, l.number, l.payload⟩ := by
  refine ⟨X.box.set_ 0 _, ⟨?_, X.own.sep⟩, X.ge, X.ne⟩
  · exact X.own.payload.grown (grown_cell _ _ _ _) (fun b e c => X.ne h.payload.row (by simp [FrameB]) (e.trans c.symm))
theorem FrameBox.set_number {g : Nat} (X : FrameBox w B g h l) (x : Int) : FrameBox (w.setCell ⟨g, 1, none⟩ (.int .i64 x)) B g h ⟨l.kind, x, l.payload⟩ := by
  refine ⟨X.box.set_ 1 _, ⟨?_, X.own.sep⟩, X.ge, X.ne⟩
  · exact X.own.payload.grown (grown_cell _ _ _ _) (fun b e c => X.ne h.payload.row (by simp [FrameB]) (e.trans c.symm))
end
end Go.Proofs.Ytlgmdekhlcbhoaa
