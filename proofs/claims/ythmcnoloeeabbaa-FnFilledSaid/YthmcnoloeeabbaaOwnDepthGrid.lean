/- A DepthGrid of one's own. Plain lemmas, no condition. -/
import Derived.Test.YthmcnoloeeabbaaTDepthGrid
import Derived.Test.YthmcnoloeeabbaaKern
namespace Go.Proofs.Ythmcnoloeeabbaa
open Go.RowKit

def DepthGridB (h : DepthGridH) : List (Option Nat) := [h.counts.row, h.depths.row]
def DepthGridCells (h : DepthGridH) (l : DepthGridC) : Array Value := #[.int .i64 l.size, .int .i64 l.wide, .int .i64 l.high, .slice h.counts.A h.counts.n h.counts.c, .slice h.depths.A h.depths.n h.depths.c]
structure DepthGridOwn (w : World) (B : Nat) (h : DepthGridH) (l : DepthGridC) : Prop where
  counts : Own w B 1 h.counts (ints l.counts)
  depths : Own w B 2 h.depths (ints l.depths)
  sep : Sep (DepthGridB h)
section
variable {w w' : World} {B C : Nat} {h : DepthGridH} {l : DepthGridC}
theorem DepthGridOwn.below (o : DepthGridOwn w B h l) (b : Below w.heap.size w w') : DepthGridOwn w' B h l := ⟨o.counts.below b, o.depths.below b, o.sep⟩
theorem DepthGridOwn.above {D : Nat} (o : DepthGridOwn w B h l) (b : Above D w w') (hD : D ≤ B) : DepthGridOwn w' B h l := ⟨o.counts.above b hD, o.depths.above b hD, o.sep⟩
theorem DepthGridOwn.mono (o : DepthGridOwn w B h l) (hC : C ≤ B) : DepthGridOwn w C h l := ⟨o.counts.mono hC, o.depths.mono hC, o.sep⟩
theorem DepthGridOwn.rd (o : DepthGridOwn w B h l) : RdAll w (DepthGridS h l) := RdAll.cons (s := ⟨h.counts.A, h.counts.n, ints l.counts⟩) o.counts.rd1 (RdAll.cons (s := ⟨h.depths.A, h.depths.n * 2, ints l.depths⟩) o.depths.rd (RdAll.nil _))
theorem DepthGridOwn.wr (o : DepthGridOwn w B h l) : WrAll w B (DepthGridS h l) := WrAll.cons (s := ⟨h.counts.A, h.counts.n, ints l.counts⟩) o.counts.wr1 (WrAll.cons (s := ⟨h.depths.A, h.depths.n * 2, ints l.depths⟩) o.depths.wr (WrAll.nil _ _))
theorem DepthGridOwn.sp (o : DepthGridOwn w B h l) : Sep (DepthGridR h) := Sep.ofRow [(h.counts, h.counts.n), (h.depths, h.depths.n * 2)] (fun p hp => by
  simp only [List.mem_cons, List.not_mem_nil, or_false] at hp
  rcases hp with rfl | rfl
  · exact o.counts.npos (by simp)
  · exact o.depths.npos (by simp)
  ) o.sep
theorem DepthGridOwn.blt (o : DepthGridOwn w B h l) : ∀ s ∈ DepthGridB h, ∀ b, s = some b → B ≤ b ∧ b < w.heap.size := fun s hs b e => by
  unfold DepthGridB at hs
  simp only [List.mem_cons, List.not_mem_nil, or_false] at hs
  rcases hs with rfl | rfl
  · exact o.counts.rowlt b e
  · exact o.depths.rowlt b e
/-- .. and its box. -/
structure DepthGridBox (w : World) (B g : Nat) (h : DepthGridH) (l : DepthGridC) : Prop where
  box : Blk w g 50 (DepthGridCells h l)
  own : DepthGridOwn w B h l
  ge : B ≤ g
  ne : ∀ s ∈ DepthGridB h, s ≠ some g
theorem DepthGridBox.below {g : Nat} (o : DepthGridBox w B g h l) (b : Below w.heap.size w w') : DepthGridBox w' B g h l := ⟨o.box.below b o.box.lt, o.own.below b, o.ge, o.ne⟩
theorem DepthGridBox.alloc {g : Nat} (X : DepthGridBox w B g h l) (ob : Obj) : DepthGridBox (w.alloc ob) B g h l := X.below ((Below.refl _ _).alloc (Nat.le_refl _) ob)
theorem DepthGridBox.drewN {g : Nat} (X : DepthGridBox w B g h l) (n : Nat) : DepthGridBox (w.drewN n) B g h l := X.below (below_drewN w n)
theorem DepthGridBox.drew {g : Nat} (X : DepthGridBox w B g h l) : DepthGridBox w.drew B g h l := X.below ⟨rfl, rfl, rfl, Nat.le_refl _, fun _ _ => rfl⟩
theorem DepthGridBox.set_counts {g : Nat} {Q : Hd} {ps : List Int} (X : DepthGridBox w B g h l) (gg : w.grownBy w' h.counts.row) (o : Own w' B 1 Q (ints ps)) (hq : ∀ b, Q.row = some b → h.counts.row = some b ∨ w.heap.size ≤ b) :
    DepthGridBox (w'.setCell ⟨g, 3, none⟩ (.slice Q.A Q.n Q.c)) B g ⟨Q, h.depths⟩ ⟨l.size, l.wide, l.high, ps, l.depths⟩ := by
  have hm : h.counts.row ∈ DepthGridB h := by simp [DepthGridB]
  have hQ : Q.row ≠ some g := fun e => by rcases hq g e with e | e; exact X.ne _ hm e; have := X.box.lt; omega
  refine ⟨?_, ⟨?_, ?_, ?_⟩, X.ge, Ne.replace (L := DepthGridB h) 0 X.ne hQ⟩
  · exact (X.box.grown gg (X.ne _ hm)).set_ 3 _
  · exact o.grown (grown_cell _ _ _ _) (fun b e c => hQ (e.trans c.symm))
  · exact (X.own.depths.grown gg (fun b e => X.own.sep.nth (i := 0) (j := 1) rfl rfl (by decide) b e)).grown (grown_cell _ _ _ _) (fun b e c => X.ne h.depths.row (by simp [DepthGridB]) (e.trans c.symm))
  · exact Sep.replace (L := DepthGridB h) 0 X.own.sep (fun b e => (hq b e).imp (fun e => by rw [← e]; rfl) (fun e s hs c => by have := (X.own.blt s hs b c).2; omega))
theorem DepthGridBox.set_depths {g : Nat} {Q : Hd} {ps : List Int} (X : DepthGridBox w B g h l) (gg : w.grownBy w' h.depths.row) (o : Own w' B 2 Q (ints ps)) (hq : ∀ b, Q.row = some b → h.depths.row = some b ∨ w.heap.size ≤ b) :
    DepthGridBox (w'.setCell ⟨g, 4, none⟩ (.slice Q.A Q.n Q.c)) B g ⟨h.counts, Q⟩ ⟨l.size, l.wide, l.high, l.counts, ps⟩ := by
  have hm : h.depths.row ∈ DepthGridB h := by simp [DepthGridB]
  have hQ : Q.row ≠ some g := fun e => by rcases hq g e with e | e; exact X.ne _ hm e; have := X.box.lt; omega
  refine ⟨?_, ⟨?_, ?_, ?_⟩, X.ge, Ne.replace (L := DepthGridB h) 1 X.ne hQ⟩
  · exact (X.box.grown gg (X.ne _ hm)).set_ 4 _
  · exact (X.own.counts.grown gg (fun b e => X.own.sep.nth (i := 1) (j := 0) rfl rfl (by decide) b e)).grown (grown_cell _ _ _ _) (fun b e c => X.ne h.counts.row (by simp [DepthGridB]) (e.trans c.symm))
  · exact o.grown (grown_cell _ _ _ _) (fun b e c => hQ (e.trans c.symm))
  · exact Sep.replace (L := DepthGridB h) 1 X.own.sep (fun b e => (hq b e).imp (fun e => by rw [← e]; rfl) (fun e s hs c => by have := (X.own.blt s hs b c).2; omega))
theorem DepthGridBox.set_size {g : Nat} (X : DepthGridBox w B g h l) (x : Int) : DepthGridBox (w.setCell ⟨g, 0, none⟩ (.int .i64 x)) B g h ⟨x, l.wide, l.high, l.counts, l.depths⟩ := by
  refine ⟨X.box.set_ 0 _, ⟨?_, ?_, X.own.sep⟩, X.ge, X.ne⟩
  · exact X.own.counts.grown (grown_cell _ _ _ _) (fun b e c => X.ne h.counts.row (by simp [DepthGridB]) (e.trans c.symm))
  · exact X.own.depths.grown (grown_cell _ _ _ _) (fun b e c => X.ne h.depths.row (by simp [DepthGridB]) (e.trans c.symm))
theorem DepthGridBox.set_wide {g : Nat} (X : DepthGridBox w B g h l) (x : Int) : DepthGridBox (w.setCell ⟨g, 1, none⟩ (.int .i64 x)) B g h ⟨l.size, x, l.high, l.counts, l.depths⟩ := by
  refine ⟨X.box.set_ 1 _, ⟨?_, ?_, X.own.sep⟩, X.ge, X.ne⟩
  · exact X.own.counts.grown (grown_cell _ _ _ _) (fun b e c => X.ne h.counts.row (by simp [DepthGridB]) (e.trans c.symm))
  · exact X.own.depths.grown (grown_cell _ _ _ _) (fun b e c => X.ne h.depths.row (by simp [DepthGridB]) (e.trans c.symm))
theorem DepthGridBox.set_high {g : Nat} (X : DepthGridBox w B g h l) (x : Int) : DepthGridBox (w.setCell ⟨g, 2, none⟩ (.int .i64 x)) B g h ⟨l.size, l.wide, x, l.counts, l.depths⟩ := by
  refine ⟨X.box.set_ 2 _, ⟨?_, ?_, X.own.sep⟩, X.ge, X.ne⟩
  · exact X.own.counts.grown (grown_cell _ _ _ _) (fun b e c => X.ne h.counts.row (by simp [DepthGridB]) (e.trans c.symm))
  · exact X.own.depths.grown (grown_cell _ _ _ _) (fun b e c => X.ne h.depths.row (by simp [DepthGridB]) (e.trans c.symm))
end
end Go.Proofs.Ythmcnoloeeabbaa
