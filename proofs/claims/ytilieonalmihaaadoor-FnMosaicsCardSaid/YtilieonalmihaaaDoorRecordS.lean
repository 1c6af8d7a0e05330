/- The statements' own helpers on slices of Record: a copy, a comparison, marks laid and found. No condition beyond a length of at most 1048576 where memory is made. -/
import Derived.Test.YtilieonalmihaaaDoorRecN
import Derived.RegionTactic
import Derived.Deep.RegionWith
namespace Go.Proofs.YtilieonalmihaaaDoor
open Go.RowKit

theorem field_add (a : Addr) (j : Nat) (h : j ≠ 0) : a.add j = ⟨a.block, a.off + j, none⟩ := by unfold Addr.add; rw [if_neg h]
/- The same in the words of several slices. -/
def RecordsV (h : Hd) : Value := .slice h.A h.n h.c
def RecordsS (h : Hd) (l : List Int) : List Sl := [⟨h.A, h.n * 7, ints l⟩]
def RecordsR (h : Hd) : List (Option Nat) := [blkp h.A (h.n * 7)]
def RecordsM (h : Hd) (q : Int) : List Sl := [⟨h.A, h.n * 7, ints (marks q (h.n * 7))⟩]
def RecordsQ (h : Hd) : Nat := h.n * 7

end Go.Proofs.YtilieonalmihaaaDoor
