/- The statements' own helpers on slices of Packet: a copy, a comparison, marks laid and found. No condition beyond a length of at most 1048576 where memory is made. -/
import Derived.Test.YtlgmdekhlcbhoaaTInts
import Derived.RegionTactic
import Derived.Deep.RegionWith
namespace Go.Proofs.Ytlgmdekhlcbhoaa
open Go.RowKit

theorem field_add (a : Addr) (j : Nat) (h : j ≠ 0) : a.add j = ⟨a.block, a.off + j, none⟩ := by unfold Addr.add; rw [if_neg h]
/- The same in the words of several slices. -/
def PacketsV (h : Hd) : Value := .slice h.A h.n h.c
def PacketsS (h : Hd) (l : List Int) : List Sl := [⟨h.A, h.n * 2, ints l⟩]
def PacketsR (h : Hd) : List (Option Nat) := [blkp h.A (h.n * 2)]
def PacketsM (h : Hd) (q : Int) : List Sl := [⟨h.A, h.n * 2, ints (marks q (h.n * 2))⟩]
def PacketsQ (h : Hd) : Nat := h.n * 2

end Go.Proofs.Ytlgmdekhlcbhoaa
