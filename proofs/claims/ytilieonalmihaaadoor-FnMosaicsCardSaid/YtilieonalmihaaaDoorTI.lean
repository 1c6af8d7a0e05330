/- Lists of numbers in the words of the laws' generator; boxes that a touch leaves alone. Plain lemmas. -/
import Derived.Test.YtilieonalmihaaaDoorKern
namespace Go.Proofs.YtilieonalmihaaaDoor
open Go.RowKit

def IntsQ (h : Hd) (q : Int) : Int := q + (h.n : Int)
theorem IntsQ_bd {h : Hd} (ok : IntsOk h) (q : Int) : q ≤ IntsQ h q ∧ IntsQ h q ≤ q + 1048576 := by unfold IntsQ; unfold IntsOk at ok; omega
theorem Hi.ne {r : List (Option Nat)} {B g : Nat} (h : Hi r B) (hg : g < B) : ∀ s ∈ r, s ≠ some g := fun s hs e => by have := h s hs g e; omega
theorem Lo.ne {r : List (Option Nat)} {B g : Nat} (h : Lo r B) (hg : B ≤ g) : ∀ s ∈ r, s ≠ some g := fun s hs e => by have := h s hs g e; omega
theorem Blk.touch {w w' : World} {g : Nat} {t : TypeId} {cs : Array Value} {r : List (Option Nat)} (h : Blk w g t cs) (T : Touch w w' r) (hne : ∀ s ∈ r, s ≠ some g) : Blk w' g t cs :=
  (T.block g h.lt hne).trans h
theorem Blk.newN (W : World) (t : TypeId) (cs : Array Value) {g : Nat} (hg : W.heap.size = g) : Blk (W.alloc (.cells cs t)) g t cs := by subst hg; exact Blk.new W t cs
end Go.Proofs.YtilieonalmihaaaDoor
