/- Lists of numbers in the words of the laws' generator; boxes that a touch leaves alone. Plain lemmas. -/
import Derived.Test.YthmcnoloeeabbaaKern
namespace Go.Proofs.Ythmcnoloeeabbaa
open Go.RowKit

def IntsQ (h : Hd) (q : Int) : Int := q + (h.n : Int)
theorem IntsQ_bd {h : Hd} (ok : IntsOk h) (q : Int) : q ≤ IntsQ h q ∧ IntsQ h q ≤ q + 1048576 := by unfold IntsQ; unfold IntsOk at ok; omega
theorem toInts_any (h : Hd) (l : List Int) (w : World) (ok : IntsOk h) (hr : RdAll w (IntsS h l)) :
    Calls Try.prog 22 #[IntsV h] w fun e w' => ∃ k, e = .returned (IntsV k) ∧ IntsOk k ∧ RdAll w' (IntsS k l) ∧ WrAll w' w.heap.size (IntsS k l) ∧ Sep (IntsR k) ∧ Below w.heap.size w w' := to_Ints h l w ok hr
theorem eqInts_any (h k : Hd) (l : List Int) (w : World) (ok : IntsOk h) (hr : RdAll w (IntsS h l)) (kr : RdAll w (IntsS k l)) :
    Calls Try.prog 24 #[IntsV h, IntsV k] w fun e w' => e = .returned (.bool true) ∧ Below w.heap.size w w' := eq_Ints h k l w ok hr kr
theorem markInts_any (h : Hd) (l : List Int) (q : Int) (B : Nat) (w : World) (ok : IntsOk h) (h0 : 0 ≤ q) (hq : q ≤ 536870912) (hr : RdAll w (IntsS h l)) (hw : WrAll w B (IntsS h l)) (_ : Sep (IntsR h)) :
    Calls Try.prog 25 #[IntsV h, .int .i64 q] w fun e w' => e = .returned (.int .i64 (IntsQ h q)) ∧ Touch w w' (IntsR h) ∧ RdAll w' (IntsM h q) ∧ WrAll w' B (IntsM h q) :=
  (mark_Ints h _ (ints l) q B w ok h0 hq rfl hr hw).mono fun _ _ ⟨e, t, _, r, x⟩ => ⟨e, t, r, x⟩
theorem heldInts_any (h : Hd) (_ : List Int) (q : Int) (w : World) (ok : IntsOk h) (h0 : 0 ≤ q) (hq : q ≤ 536870912) (hr : RdAll w (IntsM h q)) :
    Calls Try.prog 66 #[IntsV h, .int .i64 q] w fun e w' => e = .returned (.int .i64 (IntsQ h q)) ∧ Below w.heap.size w w' :=
  (held_Ints h q w ok h0 hq hr).mono fun _ _ ⟨e, x⟩ => ⟨e, by subst x; exact Below.refl _ _⟩

theorem Hi.ne {r : List (Option Nat)} {B g : Nat} (h : Hi r B) (hg : g < B) : ∀ s ∈ r, s ≠ some g := fun s hs e => by have := h s hs g e; omega
theorem Lo.ne {r : List (Option Nat)} {B g : Nat} (h : Lo r B) (hg : B ≤ g) : ∀ s ∈ r, s ≠ some g := fun s hs e => by have := h s hs g e; omega
theorem Blk.touch {w w' : World} {g : Nat} {t : TypeId} {cs : Array Value} {r : List (Option Nat)} (h : Blk w g t cs) (T : Touch w w' r) (hne : ∀ s ∈ r, s ≠ some g) : Blk w' g t cs :=
  (T.block g h.lt hne).trans h
theorem Blk.newN (W : World) (t : TypeId) (cs : Array Value) {g : Nat} (hg : W.heap.size = g) : Blk (W.alloc (.cells cs t)) g t cs := by subst hg; exact Blk.new W t cs
end Go.Proofs.Ythmcnoloeeabbaa
