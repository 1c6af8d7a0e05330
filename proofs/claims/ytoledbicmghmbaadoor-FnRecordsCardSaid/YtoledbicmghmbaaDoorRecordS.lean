/- The statements' own helpers on slices of Record: a copy, a comparison, marks laid and found. No condition beyond a length of at most 1048576 where memory is made. -/
import Derived.Test.YtoledbicmghmbaaDoorRecN
import Derived.RegionTactic
import Derived.Deep.RegionWith
namespace Go.Proofs.YtoledbicmghmbaaDoor
open Go.RowKit

theorem field_add (a : Addr) (j : Nat) (h : j ≠ 0) : a.add j = ⟨a.block, a.off + j, none⟩ := by unfold Addr.add; rw [if_neg h]
theorem Record_info : (Tryd.prog.info? 29).map (fun i => (i.zero.map (·.cells.size), i.size, i.bytes)) = some (some 7, 7, 56) := by kernel_rfl
theorem run_make_Record (n : Nat) (hn : n ≤ 1048576) (W : World) :
    ∃ cs : Array Value, cs.size = n * 7 ∧ (Instr.makeSlice 36 (.int .i64 (n : Int)) (.int .i64 (n : Int))).run Tryd.prog W = .ok (.slice (some ⟨W.heap.size, 0, none⟩) n n) (W.alloc (.cells cs 29)) := by
  have h := Record_info
  cases hi : Tryd.prog.info? 29 with
  | none => rw [hi] at h; simp at h
  | some i =>
    rw [hi] at h
    simp only [Option.map_some, Option.some.injEq, Prod.mk.injEq] at h
    obtain ⟨hz, hs, hb⟩ := h
    cases hz0 : i.zero with
    | none => rw [hz0] at hz; simp at hz
    | some z =>
      have hr := run_make_rowN (P := Tryd.prog) 36 29 i z Tryd.underlying36 hi hz0 .i64 .i64 n n (Nat.le_refl _) (by rw [hb]; omega) (by omega) W
      rw [hs] at hr
      exact ⟨_, madeCells_size _ _, hr⟩

set_option maxHeartbeats 2000000 in
theorem eqRecordS_below (A B : Option Addr) (n c d : Nat) (xs : List Int) (w : World) (hn : n ≤ 1048576) (ha0 : Rd w A (n * 7) (ints xs)) (hb0 : Rd w B (n * 7) (ints xs)) :
    Calls Tryd.prog 18 #[.slice A n c, .slice B n d] w fun e w' => e = .returned (.bool true) ∧ Below w.heap.size w w' := by
  go_enter Tryd.func18, Tryd.ntmps18
  go_wp2
  go_loopw [5] (fun i wr => ∃ k : Nat, k ≤ n ∧ i = .int .i64 k ∧ Below w.heap.size w wr)
    (fun i _ => n - (intOf i).toNat)
  case atStart => exact ⟨0, Nat.zero_le _, rfl, Below.refl _ _⟩
  case round =>
    obtain ⟨k, hk, rfl, hbel⟩ := hrel
    by_cases hlt : k < n
    · have ha := ha0.below hbel
      have hb := hb0.below hbel
      obtain ⟨_, e0, hx0⟩ := ha.int (show k * 7 + 0 < n * 7 by omega)
      obtain ⟨_, d0, hy0⟩ := hb.int (show k * 7 + 0 < n * 7 by omega)
      obtain ⟨_, e1, hx1⟩ := ha.int (show k * 7 + 1 < n * 7 by omega)
      obtain ⟨_, d1, hy1⟩ := hb.int (show k * 7 + 1 < n * 7 by omega)
      obtain ⟨_, e2, hx2⟩ := ha.int (show k * 7 + 2 < n * 7 by omega)
      obtain ⟨_, d2, hy2⟩ := hb.int (show k * 7 + 2 < n * 7 by omega)
      obtain ⟨_, e3, hx3⟩ := ha.int (show k * 7 + 3 < n * 7 by omega)
      obtain ⟨_, d3, hy3⟩ := hb.int (show k * 7 + 3 < n * 7 by omega)
      obtain ⟨_, e4, hx4⟩ := ha.int (show k * 7 + 4 < n * 7 by omega)
      obtain ⟨_, d4, hy4⟩ := hb.int (show k * 7 + 4 < n * 7 by omega)
      obtain ⟨_, e5, hx5⟩ := ha.int (show k * 7 + 5 < n * 7 by omega)
      obtain ⟨_, d5, hy5⟩ := hb.int (show k * 7 + 5 < n * 7 by omega)
      obtain ⟨_, e6, hx6⟩ := ha.int (show k * 7 + 6 < n * 7 by omega)
      obtain ⟨_, d6, hy6⟩ := hb.int (show k * 7 + 6 < n * 7 by omega)
      obtain ⟨ad, rfl⟩ : ∃ ad, A = some ad := ⟨_, e0⟩
      obtain ⟨bd, rfl⟩ : ∃ ad, B = some ad := ⟨_, d0⟩
      cases e0
      cases d0
      cases e1
      cases d1
      cases e2
      cases d2
      cases e3
      cases d3
      cases e4
      cases d4
      cases e5
      cases d5
      cases e6
      cases d6
      rw [Nat.add_zero] at hx0 hy0
      rw [← add_of_add, field_add _ 1 (by decide)] at hx1 hy1
      rw [← add_of_add, field_add _ 2 (by decide)] at hx2 hy2
      rw [← add_of_add, field_add _ 3 (by decide)] at hx3 hy3
      rw [← add_of_add, field_add _ 4 (by decide)] at hx4 hy4
      rw [← add_of_add, field_add _ 5 (by decide)] at hx5 hy5
      rw [← add_of_add, field_add _ 6 (by decide)] at hx6 hy6
      generalize xs.getD (k * 7) 0 = x0 at *
      generalize xs.getD (k * 7 + 1) 0 = x1 at *
      generalize xs.getD (k * 7 + 2) 0 = x2 at *
      generalize xs.getD (k * 7 + 3) 0 = x3 at *
      generalize xs.getD (k * 7 + 4) 0 = x4 at *
      generalize xs.getD (k * 7 + 5) 0 = x5 at *
      generalize xs.getD (k * 7 + 6) 0 = x6 at *
      have hz := hbel.size
      go_wp2_with fail
      go_region_with ((go_at_call 39; refine (eqRecord_same _ _ _ _ _ _ _ _).mono ?_; rintro e w' ⟨rfl, rfl⟩))
      all_goals
        go_wp2
        go_roundw
        case rel => exact ⟨k + 1, by omega, by go_num, by repeat (first | assumption | refine Below.drew ?_ | refine Below.alloc ?_ (by first | omega | assumption | (simp; done) | (simp; omega)) _)⟩
        case measure => simp [intOf]; omega
    · go_wp2
      go_ret
      exact ⟨rfl, hbel⟩

set_option maxHeartbeats 1000000 in
theorem heldRecordS_same (A : Option Addr) (n c : Nat) (q : Int) (w : World) (hn : n ≤ 1048576) (hq0 : 0 ≤ q) (hq : q ≤ 1073741824) (ha : Rd w A (n * 7) (ints (marks q (n * 7)))) :
    Calls Tryd.prog 60 #[.slice A n c, .int .i64 q] w fun e w' => e = .returned (.int .i64 (q + (n * 7 : Nat))) ∧ w = w' := by
  go_enter Tryd.func60, Tryd.ntmps60
  go_wp2
  go_loop [1, 5] (fun j i => ∃ k : Nat, k ≤ n ∧ i = .int .i64 k ∧ j = .int .i64 (q + (k : Int) * 7))
    (fun _ i => n - (intOf i).toNat)
  case atStart => exact ⟨0, Nat.zero_le _, rfl, by go_num⟩
  case round =>
    obtain ⟨k, hk, rfl, rfl⟩ := hrel
    by_cases hlt : k < n
    · skip
      obtain ⟨_, e0, hx0⟩ := ha.int (show k * 7 + 0 < n * 7 by omega)
      rw [marks_getD _ _ _ (show k * 7 + 0 < n * 7 by omega), show q + ((k * 7 + 0 : Nat) : Int) = q + (k : Int) * 7 from by omega] at hx0
      obtain ⟨_, e1, hx1⟩ := ha.int (show k * 7 + 1 < n * 7 by omega)
      rw [marks_getD _ _ _ (show k * 7 + 1 < n * 7 by omega), show q + ((k * 7 + 1 : Nat) : Int) = q + (k : Int) * 7 + 1 from by omega] at hx1
      obtain ⟨_, e2, hx2⟩ := ha.int (show k * 7 + 2 < n * 7 by omega)
      rw [marks_getD _ _ _ (show k * 7 + 2 < n * 7 by omega), show q + ((k * 7 + 2 : Nat) : Int) = q + (k : Int) * 7 + 2 from by omega] at hx2
      obtain ⟨_, e3, hx3⟩ := ha.int (show k * 7 + 3 < n * 7 by omega)
      rw [marks_getD _ _ _ (show k * 7 + 3 < n * 7 by omega), show q + ((k * 7 + 3 : Nat) : Int) = q + (k : Int) * 7 + 3 from by omega] at hx3
      obtain ⟨_, e4, hx4⟩ := ha.int (show k * 7 + 4 < n * 7 by omega)
      rw [marks_getD _ _ _ (show k * 7 + 4 < n * 7 by omega), show q + ((k * 7 + 4 : Nat) : Int) = q + (k : Int) * 7 + 4 from by omega] at hx4
      obtain ⟨_, e5, hx5⟩ := ha.int (show k * 7 + 5 < n * 7 by omega)
      rw [marks_getD _ _ _ (show k * 7 + 5 < n * 7 by omega), show q + ((k * 7 + 5 : Nat) : Int) = q + (k : Int) * 7 + 5 from by omega] at hx5
      obtain ⟨_, e6, hx6⟩ := ha.int (show k * 7 + 6 < n * 7 by omega)
      rw [marks_getD _ _ _ (show k * 7 + 6 < n * 7 by omega), show q + ((k * 7 + 6 : Nat) : Int) = q + (k : Int) * 7 + 6 from by omega] at hx6
      obtain ⟨ad, rfl⟩ : ∃ ad, A = some ad := ⟨_, e0⟩
      cases e0
      cases e1
      cases e2
      cases e3
      cases e4
      cases e5
      cases e6
      rw [Nat.add_zero] at hx0
      rw [← add_of_add, field_add _ 1 (by decide)] at hx1
      rw [← add_of_add, field_add _ 2 (by decide)] at hx2
      rw [← add_of_add, field_add _ 3 (by decide)] at hx3
      rw [← add_of_add, field_add _ 4 (by decide)] at hx4
      rw [← add_of_add, field_add _ 5 (by decide)] at hx5
      rw [← add_of_add, field_add _ 6 (by decide)] at hx6
      go_wp2
      go_round
      case rel => exact ⟨k + 1, by omega, by go_num, by go_num⟩
      case measure => simp [intOf]; omega
    · go_wp2
      go_ret
      obtain rfl : k = n := by omega
      exact ⟨ret_int (by omega), rfl⟩

theorem szRecordS_any (A : Option Addr) (n c : Nat) (q : Int) (w : World) (hn : n ≤ 9223372036854775807) (h0 : 0 ≤ q) (hq : q ≤ 1048576) :
    Calls Tryd.prog 14 #[.slice A n c, .int .i64 q] w fun e w' => e = .returned (.int .i64 (if q < (n : Int) then -1 else q - n)) ∧ w = w' := by
  go_enter Tryd.func14, Tryd.ntmps14
  by_cases h : q < (n : Int)
  · have hb : q - (n : Int) < 0 := by omega
    rw [if_pos h]
    go_wp2
    go_ret
    exact ⟨rfl, rfl⟩
  · have hb : ¬ q - (n : Int) < 0 := by omega
    rw [if_neg h]
    go_wp2
    go_ret
    exact ⟨rfl, rfl⟩

/- The same in the words of several slices. -/
def RecordsV (h : Hd) : Value := .slice h.A h.n h.c
def RecordsS (h : Hd) (l : List Int) : List Sl := [⟨h.A, h.n * 7, ints l⟩]
def RecordsR (h : Hd) : List (Option Nat) := [blkp h.A (h.n * 7)]
def RecordsM (h : Hd) (q : Int) : List Sl := [⟨h.A, h.n * 7, ints (marks q (h.n * 7))⟩]
def RecordsQ (h : Hd) : Nat := h.n * 7

end Go.Proofs.YtoledbicmghmbaaDoor
