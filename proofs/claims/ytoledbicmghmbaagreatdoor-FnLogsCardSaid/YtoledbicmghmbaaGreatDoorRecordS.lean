/- The statements' own helpers on slices of Record: a copy, a comparison, marks laid and found. No condition beyond a length of at most 1048576 where memory is made. -/
import Derived.Test.YtoledbicmghmbaaGreatDoorRecN
import Derived.RegionTactic
import Derived.Deep.RegionWith
namespace Go.Proofs.YtoledbicmghmbaaGreatDoor
open Go.RowKit

theorem field_add (a : Addr) (j : Nat) (h : j ≠ 0) : a.add j = ⟨a.block, a.off + j, none⟩ := by unfold Addr.add; rw [if_neg h]
theorem Record_info : (Tryz.prog.info? 45).map (fun i => (i.zero.map (·.cells.size), i.size, i.bytes)) = some (some 7, 7, 56) := by kernel_rfl
theorem run_make_Record (n : Nat) (hn : n ≤ 1048576) (W : World) :
    ∃ cs : Array Value, cs.size = n * 7 ∧ (Instr.makeSlice 24 (.int .i64 (n : Int)) (.int .i64 (n : Int))).run Tryz.prog W = .ok (.slice (some ⟨W.heap.size, 0, none⟩) n n) (W.alloc (.cells cs 45)) := by
  have h := Record_info
  cases hi : Tryz.prog.info? 45 with
  | none => rw [hi] at h; simp at h
  | some i =>
    rw [hi] at h
    simp only [Option.map_some, Option.some.injEq, Prod.mk.injEq] at h
    obtain ⟨hz, hs, hb⟩ := h
    cases hz0 : i.zero with
    | none => rw [hz0] at hz; simp at hz
    | some z =>
      have hr := run_make_rowN (P := Tryz.prog) 24 45 i z Tryz.underlying24 hi hz0 .i64 .i64 n n (Nat.le_refl _) (by rw [hb]; omega) (by omega) W
      rw [hs] at hr
      exact ⟨_, madeCells_size _ _, hr⟩

/- The same in the words of several slices. -/
def RecordsV (h : Hd) : Value := .slice h.A h.n h.c
def RecordsS (h : Hd) (l : List Int) : List Sl := [⟨h.A, h.n * 7, ints l⟩]
def RecordsR (h : Hd) : List (Option Nat) := [blkp h.A (h.n * 7)]
def RecordsM (h : Hd) (q : Int) : List Sl := [⟨h.A, h.n * 7, ints (marks q (h.n * 7))⟩]
def RecordsQ (h : Hd) : Nat := h.n * 7

end Go.Proofs.YtoledbicmghmbaaGreatDoor
