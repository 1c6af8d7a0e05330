/- Regions of the laws in which arguments are converted: plain lemmas on boxes behind a draw and behind stores. No condition. -/
import Derived.Test.YtilieonalmihaaaDoorTI
import Derived.Test.YtilieonalmihaaaDoorKern
import Derived.Deep.RegionHeld3
namespace Go.Proofs.YtilieonalmihaaaDoor
open Go.RowKit

theorem RdAll.cell_ {w : World} {l : List Sl} {g i : Nat} {u : Value} (h : RdAll w l) (hne : ∀ s ∈ l.map Sl.row, s ≠ some g) : RdAll (w.setCell ⟨g, i, none⟩ u) l := fun s hs =>
  (h s hs).keep fun ad e hn => Below.heap_setCell _ _ _ _ (fun c => hne _ (List.mem_map_of_mem hs) (by unfold Sl.row blkp; rw [if_neg (by omega), e]; simp only [blk, Option.map_some]; exact congrArg some c))
theorem WrAll.cell_ {w : World} {B : Nat} {l : List Sl} {p : Addr} {u : Value} (h : WrAll w B l) : WrAll (w.setCell p u) B l := fun s hs => (h s hs).set_ p
theorem cells_set {w : World} {g g' i : Nat} {cs : Array Value} {u : Value} (h : ∀ o, w.cell? ⟨g, o, none⟩ = cs[o]?) (hne : g ≠ g') : ∀ o, (w.setCell ⟨g', i, none⟩ u).cell? ⟨g, o, none⟩ = cs[o]? := fun o => (World.cell?_setCell_other _ _ _ _ (fun c => hne (by cases c; rfl))).trans (h o)
theorem RdAll.drew_ {w : World} {l : List Sl} (h : RdAll w l) : RdAll w.drew l := h
theorem WrAll.drew_ {w : World} {B : Nat} {l : List Sl} (h : WrAll w B l) : WrAll w.drew B l := h
theorem RdAll.alloc_ {w : World} {l : List Sl} (h : RdAll w l) (ob : Obj) : RdAll (w.alloc ob) l := h.below ((Below.refl _ _).alloc (Nat.le_refl _) ob)
theorem WrAll.alloc_ {w : World} {B : Nat} {l : List Sl} (h : WrAll w B l) (hr : RdAll w l) (ob : Obj) : WrAll (w.alloc ob) B l := h.below hr ((Below.refl _ _).alloc (Nat.le_refl _) ob)
theorem Blk.drew {w : World} {g : Nat} {t : TypeId} {cs : Array Value} (h : Blk w g t cs) : Blk w.drew g t cs := h
theorem Blk.set_all3 {w : World} {g : Nat} {t : TypeId} {a b c x0 x1 x2 : Value} (h : Blk w g t #[a, b, c]) : Blk (((w.setCell ⟨g, 0, none⟩ x0).setCell ⟨g, 1, none⟩ x1).setCell ⟨g, 2, none⟩ x2) g t #[x0, x1, x2] := ((h.set_ 0 x0).set_ 1 x1).set_ 2 x2
theorem Blk.set_all4 {w : World} {g : Nat} {t : TypeId} {a b c d x0 x1 x2 x3 : Value} (h : Blk w g t #[a, b, c, d]) : Blk ((((w.setCell ⟨g, 0, none⟩ x0).setCell ⟨g, 1, none⟩ x1).setCell ⟨g, 2, none⟩ x2).setCell ⟨g, 3, none⟩ x3) g t #[x0, x1, x2, x3] := (((h.set_ 0 x0).set_ 1 x1).set_ 2 x2).set_ 3 x3
theorem Blk.set_all5 {w : World} {g : Nat} {t : TypeId} {a b c d e x0 x1 x2 x3 x4 : Value} (h : Blk w g t #[a, b, c, d, e]) : Blk (((((w.setCell ⟨g, 0, none⟩ x0).setCell ⟨g, 1, none⟩ x1).setCell ⟨g, 2, none⟩ x2).setCell ⟨g, 3, none⟩ x3).setCell ⟨g, 4, none⟩ x4) g t #[x0, x1, x2, x3, x4] := ((((h.set_ 0 x0).set_ 1 x1).set_ 2 x2).set_ 3 x3).set_ 4 x4
theorem Blk.set_all6 {w : World} {g : Nat} {t : TypeId} {a b c d e f x0 x1 x2 x3 x4 x5 : Value} (h : Blk w g t #[a, b, c, d, e, f]) : Blk ((((((w.setCell ⟨g, 0, none⟩ x0).setCell ⟨g, 1, none⟩ x1).setCell ⟨g, 2, none⟩ x2).setCell ⟨g, 3, none⟩ x3).setCell ⟨g, 4, none⟩ x4).setCell ⟨g, 5, none⟩ x5) g t #[x0, x1, x2, x3, x4, x5] := (((((h.set_ 0 x0).set_ 1 x1).set_ 2 x2).set_ 3 x3).set_ 4 x4).set_ 5 x5
end Go.Proofs.YtilieonalmihaaaDoor
