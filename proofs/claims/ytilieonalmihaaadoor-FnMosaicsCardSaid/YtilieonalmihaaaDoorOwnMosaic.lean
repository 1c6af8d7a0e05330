/- A Mosaic of one's own. Plain lemmas, no condition. -/
import Derived.Test.YtilieonalmihaaaDoorTMosaic
import Derived.Test.YtilieonalmihaaaDoorKern
namespace Go.Proofs.YtilieonalmihaaaDoor
open Go.RowKit

def MosaicB (h : MosaicH) : List (Option Nat) := [h.values.row, h.grades.row]
def MosaicCells (h : MosaicH) (l : MosaicC) : Array Value := #[.int .i64 l.wide, .int .i64 l.high, .slice h.values.A h.values.n h.values.c, .slice h.grades.A h.grades.n h.grades.c]
structure MosaicOwn (w : World) (B : Nat) (h : MosaicH) (l : MosaicC) : Prop where
  values : Own w B 1 h.values (ints l.values)
  grades : Own w B 1 h.grades (ints l.grades)
  sep : Sep (MosaicB h)
section
variable {w w' : World} {B C : Nat} {h : MosaicH} {l : MosaicC}
theorem MosaicOwn.below (o : MosaicOwn w B h l) (b : Below w.heap.size w w') : MosaicOwn w' B h l := ⟨o.values.below b, o.grades.below b, o.sep⟩
theorem MosaicOwn.above {D : Nat} (o : MosaicOwn w B h l) (b : Above D w w') (hD : D ≤ B) : MosaicOwn w' B h l := ⟨o.values.above b hD, o.grades.above b hD, o.sep⟩
theorem MosaicOwn.mono (o : MosaicOwn w B h l) (hC : C ≤ B) : MosaicOwn w C h l := ⟨o.values.mono hC, o.grades.mono hC, o.sep⟩
theorem MosaicOwn.rd (o : MosaicOwn w B h l) : RdAll w (MosaicS h l) := RdAll.cons (s := ⟨h.values.A, h.values.n, ints l.values⟩) o.values.rd1 (RdAll.cons (s := ⟨h.grades.A, h.grades.n, ints l.grades⟩) o.grades.rd1 (RdAll.nil _))
theorem MosaicOwn.wr (o : MosaicOwn w B h l) : WrAll w B (MosaicS h l) := WrAll.cons (s := ⟨h.values.A, h.values.n, ints l.values⟩) o.values.wr1 (WrAll.cons (s := ⟨h.grades.A, h.grades.n, ints l.grades⟩) o.grades.wr1 (WrAll.nil _ _))
theorem MosaicOwn.sp (o : MosaicOwn w B h l) : Sep (MosaicR h) := Sep.ofRow [(h.values, h.values.n), (h.grades, h.grades.n)] (fun p hp => by
  simp only [List.mem_cons, List.not_mem_nil, or_false] at hp
  rcases hp with rfl | rfl
  · exact o.values.npos (by simp)
  · exact o.grades.npos (by simp)
  ) o.sep
theorem MosaicOwn.blt (o : MosaicOwn w B h l) : ∀ s ∈ MosaicB h, ∀ b, s = some b → B ≤ b ∧ b < w.heap.size := fun s hs b e => by
  unfold MosaicB at hs
  simp only [List.mem_cons, List.not_mem_nil, or_false] at hs
  rcases hs with rfl | rfl
  · exact o.values.rowlt b e
  · exact o.grades.rowlt b e
/-- .. and its box. -/
structure MosaicBox (w : World) (B g : Nat) (h : MosaicH) (l : MosaicC) : Prop where
  box : Blk w g 26 (MosaicCells h l)
  own : MosaicOwn w B h l
  ge : B ≤ g
  ne : ∀ s ∈ MosaicB h, s ≠ some g
theorem MosaicBox.below {g : Nat} (o : MosaicBox w B g h l) (b : Below w.heap.size w w') : MosaicBox w' B g h l := ⟨o.box.below b o.box.lt, o.own.below b, o.ge, o.ne⟩
theorem MosaicBox.alloc {g : Nat} (X : MosaicBox w B g h l) (ob : Obj) : MosaicBox (w.alloc ob) B g h l := X.below ((Below.refl _ _).alloc (Nat.le_refl _) ob)
theorem MosaicBox.drewN {g : Nat} (X : MosaicBox w B g h l) (n : Nat) : MosaicBox (w.drewN n) B g h l := X.below (below_drewN w n)
theorem MosaicBox.drew {g : Nat} (X : MosaicBox w B g h l) : MosaicBox w.drew B g h l := X.below ⟨rfl, rfl, rfl, Nat.le_refl _, fun _ _ => rfl⟩
theorem MosaicBox.set_values {g : Nat} {Q : Hd} {ps : List Int} (X : MosaicBox w B g h l) (gg : w.grownBy w' h.values.row) (o : Own w' B 1 Q (ints ps)) (hq : ∀ b, Q.row = some b → h.values.row = some b ∨ w.heap.size ≤ b) :
    MosaicBox (w'.setCell ⟨g, 2, none⟩ (.slice Q.A Q.n Q.c)) B g ⟨Q, h.grades⟩ ⟨l.wide, l.high, ps, l.grades⟩ := by
  have hm : h.values.row ∈ MosaicB h := by simp [MosaicB]
  have hQ : Q.row ≠ some g := fun e => by rcases hq g e with e | e; exact X.ne _ hm e; have := X.box.lt; omega
  refine ⟨?_, ⟨?_, ?_, ?_⟩, X.ge, Ne.replace (L := MosaicB h) 0 X.ne hQ⟩
  · exact (X.box.grown gg (X.ne _ hm)).set_ 2 _
  · exact o.grown (grown_cell _ _ _ _) (fun b e c => hQ (e.trans c.symm))
  · exact (X.own.grades.grown gg (fun b e => X.own.sep.nth (i := 0) (j := 1) rfl rfl (by decide) b e)).grown (grown_cell _ _ _ _) (fun b e c => X.ne h.grades.row (by simp [MosaicB]) (e.trans c.symm))
  · exact Sep.replace (L := MosaicB h) 0 X.own.sep (fun b e => (hq b e).imp (fun e => by rw [← e]; rfl) (fun e s hs c => by have := (X.own.blt s hs b c).2; omega))
theorem MosaicBox.set_grades {g : Nat} {Q : Hd} {ps : List Int} (X : MosaicBox w B g h l) (gg : w.grownBy w' h.grades.row) (o : Own w' B 1 Q (ints ps)) (hq : ∀ b, Q.row = some b → h.grades.row = some b ∨ w.heap.size ≤ b) :
    MosaicBox (w'.setCell ⟨g, 3, none⟩ (.slice Q.A Q.n Q.c)) B g ⟨h.values, Q⟩ ⟨l.wide, l.high, l.values, ps⟩ := by
  have hm : h.grades.row ∈ MosaicB h := by simp [MosaicB]
  have hQ : Q.row ≠ some g := fun e => by rcases hq g e with e | e; exact X.ne _ hm e; have := X.box.lt; omega
  refine ⟨?_, ⟨?_, ?_, ?_⟩, X.ge, Ne.replace (L := MosaicB h) 1 X.ne hQ⟩
  · exact (X.box.grown gg (X.ne _ hm)).set_ 3 _
  · exact (X.own.values.grown gg (fun b e => X.own.sep.nth (i := 1) (j := 0) rfl rfl (by decide) b e)).grown (grown_cell _ _ _ _) (fun b e c => X.ne h.values.row (by simp [MosaicB]) (e.trans c.symm))
  · exact o.grown (grown_cell _ _ _ _) (fun b e c => hQ (e.trans c.symm))
  · exact Sep.replace (L := MosaicB h) 1 X.own.sep (fun b e => (hq b e).imp (fun e => by rw [← e]; rfl) (fun e s hs c => by have := (X.own.blt s hs b c).2; omega))
theorem MosaicBox.set_wide {g : Nat} (X : MosaicBox w B g h l) (x : Int) : MosaicBox (w.setCell ⟨g, 0, none⟩ (.int .i64 x)) B g h ⟨x, l.high, l.values, l.grades⟩ := by
  refine ⟨X.box.set_ 0 _, ⟨?_, ?_, X.own.sep⟩, X.ge, X.ne⟩
  · exact X.own.values.grown (grown_cell _ _ _ _) (fun b e c => X.ne h.values.row (by simp [MosaicB]) (e.trans c.symm))
  · exact X.own.grades.grown (grown_cell _ _ _ _) (fun b e c => X.ne h.grades.row (by simp [MosaicB]) (e.trans c.symm))
theorem MosaicBox.set_high {g : Nat} (X : MosaicBox w B g h l) (x : Int) : MosaicBox (w.setCell ⟨g, 1, none⟩ (.int .i64 x)) B g h ⟨l.wide, x, l.values, l.grades⟩ := by
  refine ⟨X.box.set_ 1 _, ⟨?_, ?_, X.own.sep⟩, X.ge, X.ne⟩
  · exact X.own.values.grown (grown_cell _ _ _ _) (fun b e c => X.ne h.values.row (by simp [MosaicB]) (e.trans c.symm))
  · exact X.own.grades.grown (grown_cell _ _ _ _) (fun b e c => X.ne h.grades.row (by simp [MosaicB]) (e.trans c.symm))
end
end Go.Proofs.YtilieonalmihaaaDoor
