/- Lists of soundings in the words of the laws' generator. Plain lemmas. -/
import Derived.Test.YtphpjmkebnadoaaSoundingS
import Derived.Test.YtphpjmkebnadoaaTI
namespace Go.Proofs.Ytphpjmkebnadoaa
open Go.RowKit

def SndsV (h : Hd) : Value := .slice h.A h.n h.c
def SndsS (h : Hd) (l : List Int) : List Sl := [⟨h.A, h.n * 4, ints l⟩]
def SndsR (h : Hd) : List (Option Nat) := [blkp h.A (h.n * 4)]
def SndsM (h : Hd) (q : Int) : List Sl := [⟨h.A, h.n * 4, ints (marks q (h.n * 4))⟩]
def SndsOk (h : Hd) : Prop := h.n ≤ 1048576
def SndsQ (h : Hd) (q : Int) : Int := q + ((h.n * 4 : Nat) : Int)
theorem SndsQ_bd {h : Hd} (ok : SndsOk h) (q : Int) : q ≤ SndsQ h q ∧ SndsQ h q ≤ q + 4194304 := by unfold SndsQ; unfold SndsOk at ok; omega
theorem eqSnds_any (h k : Hd) (l : List Int) (w : World) (ok : SndsOk h) (hr : RdAll w (SndsS h l)) (kr : RdAll w (SndsS k l)) :
    Calls Try.prog 19 #[SndsV h, SndsV k] w fun e w' => e = .returned (.bool true) ∧ Below w.heap.size w w' := by
  obtain ⟨A, n, c⟩ := h
  obtain ⟨B, m, d⟩ := k
  have r0 := hr.head
  have k0 := kr.head
  obtain rfl : n = m := by
    have a1 : l.length = n * 4 := Rd.len r0
    have a2 : l.length = m * 4 := Rd.len k0
    omega
  exact eqSoundingS_below A B n c d l w ok r0 k0
theorem markSnds_any (h : Hd) (l : List Int) (q : Int) (B : Nat) (w : World) (ok : SndsOk h) (h0 : 0 ≤ q) (hq : q ≤ 536870912) (hr : RdAll w (SndsS h l)) (hw : WrAll w B (SndsS h l)) (_ : Sep (SndsR h)) :
    Calls Try.prog 20 #[SndsV h, .int .i64 q] w fun e w' => e = .returned (.int .i64 (SndsQ h q)) ∧ Touch w w' (SndsR h) ∧ RdAll w' (SndsM h q) ∧ WrAll w' B (SndsM h q) := by
  obtain ⟨A, n, c⟩ := h
  exact (markSoundingS_any A n c (ints l) q B w ok h0 (by omega) hr.head hw.head).mono fun e w' ⟨he, g, _, r, y⟩ =>
    ⟨he, Touch.of_grown g, RdAll.cons (s := ⟨A, n * 4, ints (marks q (n * 4))⟩) r (RdAll.nil _), WrAll.cons (s := ⟨A, n * 4, ints (marks q (n * 4))⟩) y (WrAll.nil _ _)⟩
theorem heldSnds_any (h : Hd) (_ : List Int) (q : Int) (w : World) (ok : SndsOk h) (h0 : 0 ≤ q) (hq : q ≤ 536870912) (hr : RdAll w (SndsM h q)) :
    Calls Try.prog 21 #[SndsV h, .int .i64 q] w fun e w' => e = .returned (.int .i64 (SndsQ h q)) ∧ Below w.heap.size w w' := by
  obtain ⟨A, n, c⟩ := h
  exact (heldSoundingS_same A n c q w ok h0 (by omega) hr.head).mono fun e w' ⟨he, hw⟩ => ⟨he, hw ▸ Below.refl _ _⟩
end Go.Proofs.Ytphpjmkebnadoaa
