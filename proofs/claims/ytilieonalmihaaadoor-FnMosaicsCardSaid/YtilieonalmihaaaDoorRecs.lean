/- Lists of records in the words of the laws' generator. Plain lemmas. -/
import Derived.Test.YtilieonalmihaaaDoorRecT
namespace Go.Proofs.YtilieonalmihaaaDoor
open Go.RowKit

def RecsV (h : Hd) : Value := .slice h.A h.n h.c
def RecsS (h : Hd) (l : List Int) : List Sl := [⟨h.A, h.n * 7, ints l⟩]
def RecsR (h : Hd) : List (Option Nat) := [blkp h.A (h.n * 7)]
def RecsM (h : Hd) (q : Int) : List Sl := [⟨h.A, h.n * 7, ints (marks q (h.n * 7))⟩]
def RecsOk (h : Hd) : Prop := h.n ≤ 1048576 ∧ h.n ≤ h.c
def RecsMx (h : Hd) : Prop := h.n ≤ 9223372036854775807 ∧ h.n ≤ h.c
def RecsQ (h : Hd) (q : Int) : Int := q + ((h.n * 7 : Nat) : Int)
theorem RecsQ_bd {h : Hd} (ok : RecsOk h) (q : Int) : q ≤ RecsQ h q ∧ RecsQ h q ≤ q + 7340032 := by unfold RecsQ; unfold RecsOk at ok; omega
end Go.Proofs.YtilieonalmihaaaDoor
