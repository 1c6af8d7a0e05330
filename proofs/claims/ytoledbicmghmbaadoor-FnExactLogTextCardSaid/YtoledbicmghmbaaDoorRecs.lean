/- Lists of records in the words of the laws' generator. Plain lemmas. -/
import Derived.Test.YtoledbicmghmbaaDoorRecT
namespace Go.Proofs.YtoledbicmghmbaaDoor
open Go.RowKit

def RecsV (h : Hd) : Value := .slice h.A h.n h.c
def RecsS (h : Hd) (l : List Int) : List Sl := [⟨h.A, h.n * 7, ints l⟩]
def RecsR (h : Hd) : List (Option Nat) := [blkp h.A (h.n * 7)]
def RecsM (h : Hd) (q : Int) : List Sl := [⟨h.A, h.n * 7, ints (marks q (h.n * 7))⟩]
def RecsOk (h : Hd) : Prop := h.n ≤ 1048576 ∧ h.n ≤ h.c
def RecsMx (h : Hd) : Prop := h.n ≤ 9223372036854775807 ∧ h.n ≤ h.c
def RecsQ (h : Hd) (q : Int) : Int := q + ((h.n * 7 : Nat) : Int)
theorem RecsQ_bd {h : Hd} (ok : RecsOk h) (q : Int) : q ≤ RecsQ h q ∧ RecsQ h q ≤ q + 7340032 := by unfold RecsQ; unfold RecsOk at ok; omega
theorem toRecs_any (h : Hd) (l : List Int) (w : World) (ok : RecsOk h) (hr : RdAll w (RecsS h l)) :
    Calls Tryd.prog 16 #[RecsV h] w fun e w' => ∃ k, e = .returned (RecsV k) ∧ RecsOk k ∧ RdAll w' (RecsS k l) ∧ WrAll w' w.heap.size (RecsS k l) ∧ Sep (RecsR k) ∧ Below w.heap.size w w' := by
  obtain ⟨A, n, c⟩ := h
  exact (toRecordS_any A n c l w ok.1 hr.head).mono fun e w' ⟨he, r, y, b, _⟩ =>
    ⟨⟨some ⟨w.heap.size, 0, none⟩, n, n⟩, he, ⟨ok.1, Nat.le_refl _⟩, RdAll.cons (s := ⟨_, n * 7, ints l⟩) r (RdAll.nil _), WrAll.cons (s := ⟨_, n * 7, ints l⟩) y (WrAll.nil _ _), Sep.one _, b⟩
theorem eqRecs_any (h k : Hd) (l : List Int) (w : World) (ok : RecsOk h) (hr : RdAll w (RecsS h l)) (kr : RdAll w (RecsS k l)) :
    Calls Tryd.prog 18 #[RecsV h, RecsV k] w fun e w' => e = .returned (.bool true) ∧ Below w.heap.size w w' := by
  obtain ⟨A, n, c⟩ := h
  obtain ⟨B, m, d⟩ := k
  have r0 := hr.head
  have k0 := kr.head
  obtain rfl : n = m := by
    have a1 : l.length = n * 7 := Rd.len r0
    have a2 : l.length = m * 7 := Rd.len k0
    omega
  exact eqRecordS_below A B n c d l w ok.1 r0 k0
theorem markRecs_any (h : Hd) (l : List Int) (q : Int) (B : Nat) (w : World) (ok : RecsOk h) (h0 : 0 ≤ q) (hq : q ≤ 536870912) (hr : RdAll w (RecsS h l)) (hw : WrAll w B (RecsS h l)) (_ : Sep (RecsR h)) :
    Calls Tryd.prog 59 #[RecsV h, .int .i64 q] w fun e w' => e = .returned (.int .i64 (RecsQ h q)) ∧ Touch w w' (RecsR h) ∧ RdAll w' (RecsM h q) ∧ WrAll w' B (RecsM h q) := by
  obtain ⟨A, n, c⟩ := h
  exact (markRecordS_any A n c (ints l) q B w ok.1 h0 (by omega) hr.head hw.head).mono fun e w' ⟨he, g, _, r, y⟩ =>
    ⟨he, Touch.of_grown g, RdAll.cons (s := ⟨A, n * 7, ints (marks q (n * 7))⟩) r (RdAll.nil _), WrAll.cons (s := ⟨A, n * 7, ints (marks q (n * 7))⟩) y (WrAll.nil _ _)⟩
theorem szRecs_any (h : Hd) (_ : List Int) (q : Int) (w : World) (hm : RecsMx h) (h0 : 0 ≤ q) (hq : q ≤ 1048576) :
    Calls Tryd.prog 14 #[RecsV h, .int .i64 q] w fun e w' => ∃ v : Int, e = .returned (.int .i64 v) ∧ (v < 0 ∨ 0 ≤ v ∧ v ≤ q ∧ RecsOk h) ∧ Below w.heap.size w w' := by
  obtain ⟨A, n, c⟩ := h
  refine (szRecordS_any A n c q w hm.1 h0 hq).mono fun e w' ⟨he, hw⟩ => ⟨_, he, ?_, hw ▸ Below.refl _ _⟩
  have hn : (0 : Int) ≤ (n : Int) := Int.natCast_nonneg n
  split
  · exact .inl (by decide)
  · exact .inr ⟨by omega, by omega, by show n ≤ 1048576; omega, hm.2⟩
end Go.Proofs.YtoledbicmghmbaaDoor
