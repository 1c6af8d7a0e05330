/- The statements' own helpers on slices of Sounding: a copy, a comparison, marks laid and found. No condition beyond a length of at most 1048576 where memory is made. -/
import Derived.Test.YthmcnoloeeabbaaRecordS
import Derived.RegionTactic
import Derived.Deep.RegionWith
namespace Go.Proofs.Ythmcnoloeeabbaa
open Go.RowKit

theorem Sounding_info : (Try.prog.info? 129).map (fun i => (i.zero.map (·.cells.size), i.size, i.bytes)) = some (some 4, 4, 32) := by kernel_rfl
theorem run_make_Sounding (n : Nat) (hn : n ≤ 1048576) (W : World) :
    ∃ cs : Array Value, cs.size = n * 4 ∧ (Instr.makeSlice 75 (.int .i64 (n : Int)) (.int .i64 (n : Int))).run Try.prog W = .ok (.slice (some ⟨W.heap.size, 0, none⟩) n n) (W.alloc (.cells cs 129)) := by
  have h := Sounding_info
  cases hi : Try.prog.info? 129 with
  | none => rw [hi] at h; simp at h
  | some i =>
    rw [hi] at h
    simp only [Option.map_some, Option.some.injEq, Prod.mk.injEq] at h
    obtain ⟨hz, hs, hb⟩ := h
    cases hz0 : i.zero with
    | none => rw [hz0] at hz; simp at hz
    | some z =>
      have hr := run_make_rowN (P := Try.prog) 75 129 i z Try.underlying75 hi hz0 .i64 .i64 n n (Nat.le_refl _) (by rw [hb]; omega) (by omega) W
      rw [hs] at hr
      exact ⟨_, madeCells_size _ _, hr⟩

/- The same in the words of several slices. -/
def SoundingsV (h : Hd) : Value := .slice h.A h.n h.c
def SoundingsS (h : Hd) (l : List Int) : List Sl := [⟨h.A, h.n * 4, ints l⟩]
def SoundingsR (h : Hd) : List (Option Nat) := [blkp h.A (h.n * 4)]
def SoundingsM (h : Hd) (q : Int) : List Sl := [⟨h.A, h.n * 4, ints (marks q (h.n * 4))⟩]
def SoundingsQ (h : Hd) : Nat := h.n * 4

end Go.Proofs.Ythmcnoloeeabbaa
