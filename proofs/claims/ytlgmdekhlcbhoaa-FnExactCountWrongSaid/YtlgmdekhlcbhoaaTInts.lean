/- Lists of numbers, in the words of several slices: the statements' helpers. No condition beyond a length of at most 1048576 where memory is made. -/
import Derived.Test.YtlgmdekhlcbhoaaSl
namespace Go.Proofs.Ytlgmdekhlcbhoaa
open Go.RowKit

/-- A slice's head. -/
structure Hd where
  A : Option Addr
  n : Nat
  c : Nat
def IntsV (h : Hd) : Value := .slice h.A h.n h.c
def IntsS (h : Hd) (l : List Int) : List Sl := [⟨h.A, h.n, ints l⟩]
def IntsR (h : Hd) : List (Option Nat) := [blkp h.A h.n]
def IntsM (h : Hd) (q : Int) : List Sl := [⟨h.A, h.n, ints (marks q h.n)⟩]
def IntsOk (h : Hd) : Prop := h.n ≤ 1048576

theorem to_Ints (h : Hd) (l : List Int) (w : World) (ok : IntsOk h) (hr : RdAll w (IntsS h l)) :
    Calls Try.prog 25 #[IntsV h] w fun e w' => ∃ k, e = .returned (IntsV k) ∧ IntsOk k ∧ RdAll w' (IntsS k l) ∧ WrAll w' w.heap.size (IntsS k l) ∧ Sep (IntsR k) ∧ Below w.heap.size w w' :=
  (toInt64S_any h.A h.n h.c l w ok hr.head).mono fun _ _ ⟨e, r, wr, b, _⟩ => ⟨⟨some ⟨w.heap.size, 0, none⟩, h.n, h.n⟩, e, ok, (RdAll.nil _).cons r, (WrAll.nil _ _).cons wr, Sep.one _, b⟩
theorem eq_Ints (h k : Hd) (l : List Int) (w : World) (ok : IntsOk h) (hr : RdAll w (IntsS h l)) (kr : RdAll w (IntsS k l)) :
    Calls Try.prog 19 #[IntsV h, IntsV k] w fun e w' => e = .returned (.bool true) ∧ Below w.heap.size w w' := by
  have e : k.n = h.n := kr.head.1.symm.trans hr.head.1
  unfold IntsV
  rw [e]
  exact eqInt64S_below h.A k.A h.n h.c k.c l w (Nat.le_trans ok (by decide)) hr.head (by have := kr.head; simp only [e] at this; exact this)
theorem mark_Ints (h : Hd) (l : List Sl) (us : List Value) (q : Int) (B : Nat) (w : World) (ok : IntsOk h) (h0 : 0 ≤ q) (hq : q ≤ 536870912) (e : l = [⟨h.A, h.n, us⟩]) (hr : RdAll w l) (hw : WrAll w B l) :
    Calls Try.prog 22 #[IntsV h, .int .i64 q] w fun e w' => e = .returned (.int .i64 (q + (h.n : Int))) ∧ Touch w w' (IntsR h) ∧ w'.heap.size = w.heap.size ∧ RdAll w' (IntsM h q) ∧ WrAll w' B (IntsM h q) := by
  subst e
  exact (markInt64S_any h.A h.n h.c us q B w ok h0 (by omega) hr.head hw.head).mono fun _ _ ⟨e, g, z, r, x⟩ => ⟨e, Touch.of_grown g, z, (RdAll.nil _).cons r, (WrAll.nil _ _).cons x⟩
theorem held_Ints (h : Hd) (q : Int) (w : World) (ok : IntsOk h) (h0 : 0 ≤ q) (hq : q ≤ 536870912) (hr : RdAll w (IntsM h q)) :
    Calls Try.prog 23 #[IntsV h, .int .i64 q] w fun e w' => e = .returned (.int .i64 (q + (h.n : Int))) ∧ w = w' :=
  heldInt64S_same h.A h.n h.c q w ok h0 (by omega) hr.head

theorem szInt64S_any (A : Option Addr) (n c : Nat) (q : Int) (w : World) (hn : n ≤ 9223372036854775807) (h0 : 0 ≤ q) (hq : q ≤ 1048576) :
    Calls Try.prog 88 #[.slice A n c, .int .i64 q] w fun e w' => e = .returned (.int .i64 (if q < (n : Int) then -1 else q - n)) ∧ w = w' := by
  go_enter Try.func88, Try.ntmps88
  by_cases h : q < (n : Int)
  · have hb : q - (n : Int) < 0 := by omega
    rw [if_pos h]
    go_wp2
    go_ret
    exact ⟨rfl, rfl⟩
  · have hb : ¬ q - (n : Int) < 0 := by omega
    rw [if_neg h]
    go_wp2
    go_ret
    exact ⟨rfl, rfl⟩
end Go.Proofs.Ytlgmdekhlcbhoaa
