/- Lists of numbers in the words of the laws' generator; boxes that a touch leaves alone. Plain lemmas. -/
import Derived.Test.YtoledbicmghmbaaDoorKern
namespace Go.Proofs.YtoledbicmghmbaaDoor
open Go.RowKit

def IntsQ (h : Hd) (q : Int) : Int := q + (h.n : Int)
theorem IntsQ_bd {h : Hd} (ok : IntsOk h) (q : Int) : q ≤ IntsQ h q ∧ IntsQ h q ≤ q + 1048576 := by unfold IntsQ; unfold IntsOk at ok; omega
theorem toInts_any (h : Hd) (l : List Int) (w : World) (ok : IntsOk h) (hr : RdAll w (IntsS h l)) :
    Calls Tryd.prog 72 #[IntsV h] w fun e w' => ∃ k, e = .returned (IntsV k) ∧ IntsOk k ∧ RdAll w' (IntsS k l) ∧ WrAll w' w.heap.size (IntsS k l) ∧ Sep (IntsR k) ∧ Below w.heap.size w w' := to_Ints h l w ok hr
theorem eqInts_any (h k : Hd) (l : List Int) (w : World) (ok : IntsOk h) (hr : RdAll w (IntsS h l)) (kr : RdAll w (IntsS k l)) :
    Calls Tryd.prog 77 #[IntsV h, IntsV k] w fun e w' => e = .returned (.bool true) ∧ Below w.heap.size w w' := eq_Ints h k l w ok hr kr
theorem Hi.ne {r : List (Option Nat)} {B g : Nat} (h : Hi r B) (hg : g < B) : ∀ s ∈ r, s ≠ some g := fun s hs e => by have := h s hs g e; omega
theorem Lo.ne {r : List (Option Nat)} {B g : Nat} (h : Lo r B) (hg : B ≤ g) : ∀ s ∈ r, s ≠ some g := fun s hs e => by have := h s hs g e; omega
theorem Blk.touch {w w' : World} {g : Nat} {t : TypeId} {cs : Array Value} {r : List (Option Nat)} (h : Blk w g t cs) (T : Touch w w' r) (hne : ∀ s ∈ r, s ≠ some g) : Blk w' g t cs :=
  (T.block g h.lt hne).trans h
theorem Blk.newN (W : World) (t : TypeId) (cs : Array Value) {g : Nat} (hg : W.heap.size = g) : Blk (W.alloc (.cells cs t)) g t cs := by subst hg; exact Blk.new W t cs
end Go.Proofs.YtoledbicmghmbaaDoor
