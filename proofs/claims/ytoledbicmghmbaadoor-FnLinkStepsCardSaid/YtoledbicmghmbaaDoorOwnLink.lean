/- A Link of one's own. Plain lemmas, no condition. -/
import Derived.Test.YtoledbicmghmbaaDoorTLink
import Derived.Test.YtoledbicmghmbaaDoorKern
namespace Go.Proofs.YtoledbicmghmbaaDoor
open Go.RowKit

def LinkB (h : LinkH) : List (Option Nat) := [h.items.row, h.packets.row, h.acks.row, h.got.row]
def LinkCells (h : LinkH) (l : LinkC) : Array Value := #[.slice h.items.A h.items.n h.items.c, .int .i64 l.base, .int .i64 l.next, .slice h.packets.A h.packets.n h.packets.c, .slice h.acks.A h.acks.n h.acks.c, .slice h.got.A h.got.n h.got.c]
structure LinkOwn (w : World) (B : Nat) (h : LinkH) (l : LinkC) : Prop where
  items : Own w B 1 h.items (ints l.items)
  packets : Own w B 2 h.packets (ints l.packets)
  acks : Own w B 1 h.acks (ints l.acks)
  got : Own w B 1 h.got (ints l.got)
  sep : Sep (LinkB h)
section
variable {w w' : World} {B C : Nat} {h : LinkH} {l : LinkC}
theorem LinkOwn.below (o : LinkOwn w B h l) (b : Below w.heap.size w w') : LinkOwn w' B h l := ⟨o.items.below b, o.packets.below b, o.acks.below b, o.got.below b, o.sep⟩
theorem LinkOwn.above {D : Nat} (o : LinkOwn w B h l) (b : Above D w w') (hD : D ≤ B) : LinkOwn w' B h l := ⟨o.items.above b hD, o.packets.above b hD, o.acks.above b hD, o.got.above b hD, o.sep⟩
theorem LinkOwn.mono (o : LinkOwn w B h l) (hC : C ≤ B) : LinkOwn w C h l := ⟨o.items.mono hC, o.packets.mono hC, o.acks.mono hC, o.got.mono hC, o.sep⟩
theorem LinkOwn.rd (o : LinkOwn w B h l) : RdAll w (LinkS h l) := RdAll.cons (s := ⟨h.items.A, h.items.n, ints l.items⟩) o.items.rd1 (RdAll.cons (s := ⟨h.packets.A, h.packets.n * 2, ints l.packets⟩) o.packets.rd (RdAll.cons (s := ⟨h.acks.A, h.acks.n, ints l.acks⟩) o.acks.rd1 (RdAll.cons (s := ⟨h.got.A, h.got.n, ints l.got⟩) o.got.rd1 (RdAll.nil _))))
theorem LinkOwn.wr (o : LinkOwn w B h l) : WrAll w B (LinkS h l) := WrAll.cons (s := ⟨h.items.A, h.items.n, ints l.items⟩) o.items.wr1 (WrAll.cons (s := ⟨h.packets.A, h.packets.n * 2, ints l.packets⟩) o.packets.wr (WrAll.cons (s := ⟨h.acks.A, h.acks.n, ints l.acks⟩) o.acks.wr1 (WrAll.cons (s := ⟨h.got.A, h.got.n, ints l.got⟩) o.got.wr1 (WrAll.nil _ _))))
theorem LinkOwn.sp (o : LinkOwn w B h l) : Sep (LinkR h) := Sep.ofRow [(h.items, h.items.n), (h.packets, h.packets.n * 2), (h.acks, h.acks.n), (h.got, h.got.n)] (fun p hp => by
  simp only [List.mem_cons, List.not_mem_nil, or_false] at hp
  rcases hp with rfl | rfl | rfl | rfl
  · exact o.items.npos (by simp)
  · exact o.packets.npos (by simp)
  · exact o.acks.npos (by simp)
  · exact o.got.npos (by simp)
  ) o.sep
theorem LinkOwn.blt (o : LinkOwn w B h l) : ∀ s ∈ LinkB h, ∀ b, s = some b → B ≤ b ∧ b < w.heap.size := fun s hs b e => by
  unfold LinkB at hs
  simp only [List.mem_cons, List.not_mem_nil, or_false] at hs
  rcases hs with rfl | rfl | rfl | rfl
  · exact o.items.rowlt b e
  · exact o.packets.rowlt b e
  · exact o.acks.rowlt b e
  · exact o.got.rowlt b e
/-- .. and its box. -/
structure LinkBox (w : World) (B g : Nat) (h : LinkH) (l : LinkC) : Prop where
  box : Blk w g 48 (LinkCells h l)
  own : LinkOwn w B h l
  ge : B ≤ g
  ne : ∀ s ∈ LinkB h, s ≠ some g
theorem LinkBox.below {g : Nat} (o : LinkBox w B g h l) (b : Below w.heap.size w w') : LinkBox w' B g h l := ⟨o.box.below b o.box.lt, o.own.below b, o.ge, o.ne⟩
theorem LinkBox.alloc {g : Nat} (X : LinkBox w B g h l) (ob : Obj) : LinkBox (w.alloc ob) B g h l := X.below ((Below.refl _ _).alloc (Nat.le_refl _) ob)
theorem LinkBox.drewN {g : Nat} (X : LinkBox w B g h l) (n : Nat) : LinkBox (w.drewN n) B g h l := X.below (below_drewN w n)
theorem LinkBox.drew {g : Nat} (X : LinkBox w B g h l) : LinkBox w.drew B g h l := X.below ⟨rfl, rfl, rfl, Nat.le_refl _, fun _ _ => rfl⟩
theorem LinkBox.set_items {g : Nat} {Q : Hd} {ps : List Int} (X : LinkBox w B g h l) (gg : w.grownBy w' h.items.row) (o : Own w' B 1 Q (ints ps)) (hq : ∀ b, Q.row = some b → h.items.row = some b ∨ w.heap.size ≤ b) :
    LinkBox (w'.setCell ⟨g, 0, none⟩ (.slice Q.A Q.n Q.c)) B g ⟨Q, h.packets, h.acks, h.got⟩ ⟨ps, l.base, l.next, l.packets, l.acks, l.got⟩ := by
  have hm : h.items.row ∈ LinkB h := by simp [LinkB]
  have hQ : Q.row ≠ some g := fun e => by rcases hq g e with e | e; exact X.ne _ hm e; have := X.box.lt; omega
  refine ⟨?_, ⟨?_, ?_, ?_, ?_, ?_⟩, X.ge, Ne.replace (L := LinkB h) 0 X.ne hQ⟩
  · exact (X.box.grown gg (X.ne _ hm)).set_ 0 _
  · exact o.grown (grown_cell _ _ _ _) (fun b e c => hQ (e.trans c.symm))
  · exact (X.own.packets.grown gg (fun b e => X.own.sep.nth (i := 0) (j := 1) rfl rfl (by decide) b e)).grown (grown_cell _ _ _ _) (fun b e c => X.ne h.packets.row (by simp [LinkB]) (e.trans c.symm))
  · exact (X.own.acks.grown gg (fun b e => X.own.sep.nth (i := 0) (j := 2) rfl rfl (by decide) b e)).grown (grown_cell _ _ _ _) (fun b e c => X.ne h.acks.row (by simp [LinkB]) (e.trans c.symm))
  · exact (X.own.got.grown gg (fun b e => X.own.sep.nth (i := 0) (j := 3) rfl rfl (by decide) b e)).grown (grown_cell _ _ _ _) (fun b e c => X.ne h.got.row (by simp [LinkB]) (e.trans c.symm))
  · exact Sep.replace (L := LinkB h) 0 X.own.sep (fun b e => (hq b e).imp (fun e => by rw [← e]; rfl) (fun e s hs c => by have := (X.own.blt s hs b c).2; omega))
theorem LinkBox.set_packets {g : Nat} {Q : Hd} {ps : List Int} (X : LinkBox w B g h l) (gg : w.grownBy w' h.packets.row) (o : Own w' B 2 Q (ints ps)) (hq : ∀ b, Q.row = some b → h.packets.row = some b ∨ w.heap.size ≤ b) :
    LinkBox (w'.setCell ⟨g, 3, none⟩ (.slice Q.A Q.n Q.c)) B g ⟨h.items, Q, h.acks, h.got⟩ ⟨l.items, l.base, l.next, ps, l.acks, l.got⟩ := by
  have hm : h.packets.row ∈ LinkB h := by simp [LinkB]
  have hQ : Q.row ≠ some g := fun e => by rcases hq g e with e | e; exact X.ne _ hm e; have := X.box.lt; omega
  refine ⟨?_, ⟨?_, ?_, ?_, ?_, ?_⟩, X.ge, Ne.replace (L := LinkB h) 1 X.ne hQ⟩
  · exact (X.box.grown gg (X.ne _ hm)).set_ 3 _
  · exact (X.own.items.grown gg (fun b e => X.own.sep.nth (i := 1) (j := 0) rfl rfl (by decide) b e)).grown (grown_cell _ _ _ _) (fun b e c => X.ne h.items.row (by simp [LinkB]) (e.trans c.symm))
  · exact o.grown (grown_cell _ _ _ _) (fun b e c => hQ (e.trans c.symm))
  · exact (X.own.acks.grown gg (fun b e => X.own.sep.nth (i := 1) (j := 2) rfl rfl (by decide) b e)).grown (grown_cell _ _ _ _) (fun b e c => X.ne h.acks.row (by simp [LinkB]) (e.trans c.symm))
  · exact (X.own.got.grown gg (fun b e => X.own.sep.nth (i := 1) (j := 3) rfl rfl (by decide) b e)).grown (grown_cell _ _ _ _) (fun b e c => X.ne h.got.row (by simp [LinkB]) (e.trans c.symm))
  · exact Sep.replace (L := LinkB h) 1 X.own.sep (fun b e => (hq b e).imp (fun e => by rw [← e]; rfl) (fun e s hs c => by have := (X.own.blt s hs b c).2; omega))
theorem LinkBox.set_acks {g : Nat} {Q : Hd} {ps : List Int} (X : LinkBox w B g h l) (gg : w.grownBy w' h.acks.row) (o : Own w' B 1 Q (ints ps)) (hq : ∀ b, Q.row = some b → h.acks.row = some b ∨ w.heap.size ≤ b) :
    LinkBox (w'.setCell ⟨g, 4, none⟩ (.slice Q.A Q.n Q.c)) B g ⟨h.items, h.packets, Q, h.got⟩ ⟨l.items, l.base, l.next, l.packets, ps, l.got⟩ := by
  have hm : h.acks.row ∈ LinkB h := by simp [LinkB]
  have hQ : Q.row ≠ some g := fun e => by rcases hq g e with e | e; exact X.ne _ hm e; have := X.box.lt; omega
  refine ⟨?_, ⟨?_, ?_, ?_, ?_, ?_⟩, X.ge, Ne.replace (L := LinkB h) 2 X.ne hQ⟩
  · exact (X.box.grown gg (X.ne _ hm)).set_ 4 _
  · exact (X.own.items.grown gg (fun b e => X.own.sep.nth (i := 2) (j := 0) rfl rfl (by decide) b e)).grown (grown_cell _ _ _ _) (fun b e c => X.ne h.items.row (by simp [LinkB]) (e.trans c.symm))
  · exact (X.own.packets.grown gg (fun b e => X.own.sep.nth (i := 2) (j := 1) rfl rfl (by decide) b e)).grown (grown_cell _ _ _ _) (fun b e c => X.ne h.packets.row (by simp [LinkB]) (e.trans c.symm))
  · exact o.grown (grown_cell _ _ _ _) (fun b e c => hQ (e.trans c.symm))
  · exact (X.own.got.grown gg (fun b e => X.own.sep.nth (i := 2) (j := 3) rfl rfl (by decide) b e)).grown (grown_cell _ _ _ _) (fun b e c => X.ne h.got.row (by simp [LinkB]) (e.trans c.symm))
  · exact Sep.replace (L := LinkB h) 2 X.own.sep (fun b e => (hq b e).imp (fun e => by rw [← e]; rfl) (fun e s hs c => by have := (X.own.blt s hs b c).2; omega))
theorem LinkBox.set_got {g : Nat} {Q : Hd} {ps : List Int} (X : LinkBox w B g h l) (gg : w.grownBy w' h.got.row) (o : Own w' B 1 Q (ints ps)) (hq : ∀ b, Q.row = some b → h.got.row = some b ∨ w.heap.size ≤ b) :
    LinkBox (w'.setCell ⟨g, 5, none⟩ (.slice Q.A Q.n Q.c)) B g ⟨h.items, h.packets, h.acks, Q⟩ ⟨l.items, l.base, l.next, l.packets, l.acks, ps⟩ := by
  have hm : h.got.row ∈ LinkB h := by simp [LinkB]
  have hQ : Q.row ≠ some g := fun e => by rcases hq g e with e | e; exact X.ne _ hm e; have := X.box.lt; omega
  refine ⟨?_, ⟨?_, ?_, ?_, ?_, ?_⟩, X.ge, Ne.replace (L := LinkB h) 3 X.ne hQ⟩
  · exact (X.box.grown gg (X.ne _ hm)).set_ 5 _
  · exact (X.own.items.grown gg (fun b e => X.own.sep.nth (i := 3) (j := 0) rfl rfl (by decide) b e)).grown (grown_cell _ _ _ _) (fun b e c => X.ne h.items.row (by simp [LinkB]) (e.trans c.symm))
  · exact (X.own.packets.grown gg (fun b e => X.own.sep.nth (i := 3) (j := 1) rfl rfl (by decide) b e)).grown (grown_cell _ _ _ _) (fun b e c => X.ne h.packets.row (by simp [LinkB]) (e.trans c.symm))
  · exact (X.own.acks.grown gg (fun b e => X.own.sep.nth (i := 3) (j := 2) rfl rfl (by decide) b e)).grown (grown_cell _ _ _ _) (fun b e c => X.ne h.acks.row (by simp [LinkB]) (e.trans c.symm))
  · exact o.grown (grown_cell _ _ _ _) (fun b e c => hQ (e.trans c.symm))
  · exact Sep.replace (L := LinkB h) 3 X.own.sep (fun b e => (hq b e).imp (fun e => by rw [← e]; rfl) (fun e s hs c => by have := (X.own.blt s hs b c).2; omega))
theorem LinkBox.set_base {g : Nat} (X : LinkBox w B g h l) (x : Int) : LinkBox (w.setCell ⟨g, 1, none⟩ (.int .i64 x)) B g h ⟨l.items, x, l.next, l.packets, l.acks, l.got⟩ := by
  refine ⟨X.box.set_ 1 _, ⟨?_, ?_, ?_, ?_, X.own.sep⟩, X.ge, X.ne⟩
  · exact X.own.items.grown (grown_cell _ _ _ _) (fun b e c => X.ne h.items.row (by simp [LinkB]) (e.trans c.symm))
  · exact X.own.packets.grown (grown_cell _ _ _ _) (fun b e c => X.ne h.packets.row (by simp [LinkB]) (e.trans c.symm))
  · exact X.own.acks.grown (grown_cell _ _ _ _) (fun b e c => X.ne h.acks.row (by simp [LinkB]) (e.trans c.symm))
  · exact X.own.got.grown (grown_cell _ _ _ _) (fun b e c => X.ne h.got.row (by simp [LinkB]) (e.trans c.symm))
theorem LinkBox.set_next {g : Nat} (X : LinkBox w B g h l) (x : Int) : LinkBox (w.setCell ⟨g, 2, none⟩ (.int .i64 x)) B g h ⟨l.items, l.base, x, l.packets, l.acks, l.got⟩ := by
  refine ⟨X.box.set_ 2 _, ⟨?_, ?_, ?_, ?_, X.own.sep⟩, X.ge, X.ne⟩
  · exact X.own.items.grown (grown_cell _ _ _ _) (fun b e c => X.ne h.items.row (by simp [LinkB]) (e.trans c.symm))
  · exact X.own.packets.grown (grown_cell _ _ _ _) (fun b e c => X.ne h.packets.row (by simp [LinkB]) (e.trans c.symm))
  · exact X.own.acks.grown (grown_cell _ _ _ _) (fun b e c => X.ne h.acks.row (by simp [LinkB]) (e.trans c.symm))
  · exact X.own.got.grown (grown_cell _ _ _ _) (fun b e c => X.ne h.got.row (by simp [LinkB]) (e.trans c.symm))
end
end Go.Proofs.YtoledbicmghmbaaDoor
