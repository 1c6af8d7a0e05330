/- The statements' own helpers on slices of Packet: a copy, a comparison, marks laid and found. No condition beyond a length of at most 1048576 where memory is made. -/
import Derived.Test.YtoledbicmghmbaaDoorKern
import Derived.RegionTactic
import Derived.Deep.RegionWith
namespace Go.Proofs.YtoledbicmghmbaaDoor
open Go.RowKit

set_option maxHeartbeats 400000 in
theorem toPacket_exact (x0 x1 : Int) (w : World) :
    Calls Tryd.prog 127 #[.agg #[.int .i64 x0, .int .i64 x1]] w fun e w' =>
      e = .returned (.agg #[.int .i64 x0, .int .i64 x1]) ∧ ((w.alloc (.cells #[.int .i64 x0, .int .i64 x1] 148)).alloc (.cells #[.int .i64 x0, .int .i64 x1] 64)).alloc (.cells #[.int .i64 x0, .int .i64 x1] 64) = w' := by
  go_enter Tryd.func127, Tryd.ntmps127
  go_wp2
  exact bodyPost_ret (v := .agg #[.int .i64 x0, .int .i64 x1]) (by simp [results, Tryd.results127, go_sem]) rfl ⟨rfl, rfl⟩

set_option maxHeartbeats 400000 in
theorem eqPacket_same (x0 x1 : Int) (w : World) :
    Calls Tryd.prog 128 #[.agg #[.int .i64 x0, .int .i64 x1], .agg #[.int .i64 x0, .int .i64 x1]] w fun e w' =>
      e = .returned (.bool true) ∧ (w.alloc (.cells #[.int .i64 x0, .int .i64 x1] 64)).alloc (.cells #[.int .i64 x0, .int .i64 x1] 64) = w' := by
  go_enter Tryd.func128, Tryd.ntmps128
  go_wp2
  go_ret
  exact ⟨rfl, rfl⟩

theorem field_add (a : Addr) (j : Nat) (h : j ≠ 0) : a.add j = ⟨a.block, a.off + j, none⟩ := by unfold Addr.add; rw [if_neg h]
theorem Packet_info : (Tryd.prog.info? 64).map (fun i => (i.zero.map (·.cells.size), i.size, i.bytes)) = some (some 2, 2, 16) := by kernel_rfl
theorem run_make_Packet (n : Nat) (hn : n ≤ 1048576) (W : World) :
    ∃ cs : Array Value, cs.size = n * 2 ∧ (Instr.makeSlice 46 (.int .i64 (n : Int)) (.int .i64 (n : Int))).run Tryd.prog W = .ok (.slice (some ⟨W.heap.size, 0, none⟩) n n) (W.alloc (.cells cs 64)) := by
  have h := Packet_info
  cases hi : Tryd.prog.info? 64 with
  | none => rw [hi] at h; simp at h
  | some i =>
    rw [hi] at h
    simp only [Option.map_some, Option.some.injEq, Prod.mk.injEq] at h
    obtain ⟨hz, hs, hb⟩ := h
    cases hz0 : i.zero with
    | none => rw [hz0] at hz; simp at hz
    | some z =>
      have hr := run_make_rowN (P := Tryd.prog) 46 64 i z Tryd.underlying46 hi hz0 .i64 .i64 n n (Nat.le_refl _) (by rw [hb]; omega) (by omega) W
      rw [hs] at hr
      exact ⟨_, madeCells_size _ _, hr⟩

set_option maxHeartbeats 2000000 in
theorem toPacketS_any (A : Option Addr) (n c : Nat) (xs : List Int) (w : World) (hn : n ≤ 1048576) (hr : Rd w A (n * 2) (ints xs)) :
    Calls Tryd.prog 73 #[.slice A n c] w fun e w' => e = .returned (.slice (some ⟨w.heap.size, 0, none⟩) n n) ∧
      Rd w' (some ⟨w.heap.size, 0, none⟩) (n * 2) (ints xs) ∧ Wr w' w.heap.size (some ⟨w.heap.size, 0, none⟩) (n * 2) ∧ Below w.heap.size w w' ∧ w.heap.size < w'.heap.size := by
  obtain ⟨cs0, hcs0, hmk⟩ := run_make_Packet n hn w
  have HC0 := Lib.hid hcs0
  have HL := Lib.hid hr.len
  clear hcs0
  go_enter Tryd.func73, Tryd.ntmps73
  go_wp2
  clear hmk
  go_loopw [4] (fun i wr => ∃ k : Nat, ∃ cs : Array Value, k ≤ n ∧ i = .int .i64 k ∧ Blk wr w.heap.size 64 cs ∧ cs.size = n * 2 ∧ (∀ j, j < k * 2 → cs[j]? = (ints xs)[j]?) ∧ Below w.heap.size w wr)
    (fun i _ => n - (intOf i).toNat)
  case atStart => exact ⟨0, _, Nat.zero_le _, rfl, Blk.new _ _ _, HC0.out, fun j hj => absurd hj (by omega), (Below.refl _ _).alloc (Nat.le_refl _) _⟩
  case round =>
    obtain ⟨k, cs, hk, rfl, hB, hcs, hpre, hbel⟩ := hrel
    have hG := hB.lt
    by_cases hlt : k < n
    · have HC := Lib.hid hcs
      have HP := Lib.hid hpre
      have hkn : k * 2 + 2 ≤ n * 2 := by omega
      have hb3 : ∀ a b c : Obj, Below wr.heap.size wr (((wr.alloc a).alloc b).alloc c) := fun a b c => (((Below.refl _ wr).alloc (Nat.le_refl _) a).alloc (by simp) b).alloc (by simp; omega) c
      obtain ⟨o0, hz0⟩ : ∃ v, wr.cell? ⟨w.heap.size, k * 2, none⟩ = some v := ⟨_, by rw [hB.cell]; exact Array.getElem?_eq_getElem (by omega)⟩
      have hd0 : ∀ a b c : Obj, (((wr.alloc a).alloc b).alloc c).cell? ⟨w.heap.size, k * 2, none⟩ = some o0 := fun a b c => by rw [(hb3 a b c).cell hG]; exact hz0
      have hf0 : ∀ a b c : Obj, (((wr.alloc a).alloc b).alloc c).frozen? ⟨w.heap.size, k * 2, none⟩ = false := fun a b c => by rw [(hb3 a b c).frozen hG]; exact hB.frozen _
      obtain ⟨o1, hz1⟩ : ∃ v, wr.cell? ⟨w.heap.size, k * 2 + 1, none⟩ = some v := ⟨_, by rw [hB.cell]; exact Array.getElem?_eq_getElem (by omega)⟩
      have hd1 : ∀ a b c : Obj, ∀ y0 : Value, ((((wr.alloc a).alloc b).alloc c).setCell ⟨w.heap.size, k * 2, none⟩ y0).cell? ⟨w.heap.size, k * 2 + 1, none⟩ = some o1 := fun a b c => fun y0 => by rw [World.cell?_setCell_other _ _ _ _ (fun e => by have e2 := congrArg Addr.off e; first | omega | (simp only at e2; omega))]; rw [(hb3 a b c).cell hG]; exact hz1
      have hf1 : ∀ a b c : Obj, (((wr.alloc a).alloc b).alloc c).frozen? ⟨w.heap.size, k * 2 + 1, none⟩ = false := fun a b c => by rw [(hb3 a b c).frozen hG]; exact hB.frozen _
      clear hz0 hz1 hb3
      clear hcs hpre
      obtain ⟨_, e0, hx0⟩ := (hr.below hbel).int (show k * 2 + 0 < n * 2 by omega)
      obtain ⟨_, e1, hx1⟩ := (hr.below hbel).int (show k * 2 + 1 < n * 2 by omega)
      obtain ⟨ad, rfl⟩ : ∃ ad, A = some ad := ⟨_, e0⟩
      cases e0
      cases e1
      rw [Nat.add_zero] at hx0
      rw [← add_of_add, field_add _ 1 (by decide)] at hx1
      have hvals : ∀ j, j < 2 → (ints xs)[k * 2 + j]? = some (.int .i64 (xs.getD (k * 2 + j) 0)) := fun j hj => by
        have := HL.out
        rw [ints_getElem?]
        simp [List.getElem?_eq_getElem (show k * 2 + j < xs.length by omega)]
      have hv0 := hvals 0 (by omega)
      have hv1 := hvals 1 (by omega)
      clear hvals
      rw [Nat.add_zero] at hv0
      generalize hg0 : xs.getD (k * 2) 0 = x0 at *
      have HG0 := Lib.hid hg0
      clear hg0
      generalize hg1 : xs.getD (k * 2 + 1) 0 = x1 at *
      have HG1 := Lib.hid hg1
      clear hg1
      have HV0 := Lib.hid hv0
      have HV1 := Lib.hid hv1
      clear hv0 hv1
      have HB := Lib.hid hB
      clear hB
      go_wp2_with (go_at_call 127; refine (toPacket_exact _ _ _).mono ?_; rintro e w' ⟨rfl, rfl⟩)
      go_roundw
      case rel =>
        refine ⟨k + 1, ((cs.setIfInBounds (k * 2) (.int .i64 x0)).setIfInBounds (k * 2 + 1) (.int .i64 x1)), by omega, by go_num, by repeat (first | exact HB.out | refine Blk.alloc ?_ _ | refine Blk.set_ ?_ _ _), by have := HC.out; simpa using this, ?_, by (repeat (first | (with_reducible assumption) | (with_reducible exact Below.refl _ _) | (with_reducible refine Below.drew ?_) | (with_reducible refine Below.drewN ?_ _) | (with_reducible refine Below.setCell ?_ ?_ _) | (with_reducible refine Below.alloc ?_ ?_ _) | assumption)); all_goals (first | omega | (simp; done) | (simp; omega))⟩
        intro j hj
        have := HC.out
        by_cases hjk : j < k * 2
        · rw [Array.getElem?_setIfInBounds_ne (by omega), Array.getElem?_setIfInBounds_ne (by omega)]
          exact HP.out j hjk
        · obtain ⟨i, rfl⟩ : ∃ i, j = k * 2 + i := ⟨j - k * 2, by omega⟩
          have hi : i < 2 := by omega
          match i, hi with
          | 0, _ => simp only [Nat.add_zero]; rw [Array.getElem?_setIfInBounds_ne (by omega), Array.getElem?_setIfInBounds_self_of_lt (by first | omega | (simp; omega))]; exact HV0.out.symm
          | 1, _ => rw [Array.getElem?_setIfInBounds_self_of_lt (by first | omega | (simp; omega))]; exact HV1.out.symm
      case measure => simp [intOf]; omega
    · have HP := Lib.hid hpre
      have HC := Lib.hid hcs
      clear hpre hcs
      obtain rfl : k = n := by omega
      go_wp2
      go_ret
      exact ⟨rfl, hB.rd (by have := HL.out; unfold ints; simpa using this) (fun i hi => HP.out i (by omega)), hB.wr (Nat.le_refl _) _, hbel, hB.lt⟩

set_option maxHeartbeats 2000000 in
theorem eqPacketS_below (A B : Option Addr) (n c d : Nat) (xs : List Int) (w : World) (hn : n ≤ 1048576) (ha0 : Rd w A (n * 2) (ints xs)) (hb0 : Rd w B (n * 2) (ints xs)) :
    Calls Tryd.prog 78 #[.slice A n c, .slice B n d] w fun e w' => e = .returned (.bool true) ∧ Below w.heap.size w w' := by
  go_enter Tryd.func78, Tryd.ntmps78
  go_wp2
  go_loopw [5] (fun i wr => ∃ k : Nat, k ≤ n ∧ i = .int .i64 k ∧ Below w.heap.size w wr)
    (fun i _ => n - (intOf i).toNat)
  case atStart => exact ⟨0, Nat.zero_le _, rfl, Below.refl _ _⟩
  case round =>
    obtain ⟨k, hk, rfl, hbel⟩ := hrel
    by_cases hlt : k < n
    · have ha := ha0.below hbel
      have hb := hb0.below hbel
      obtain ⟨_, e0, hx0⟩ := ha.int (show k * 2 + 0 < n * 2 by omega)
      obtain ⟨_, d0, hy0⟩ := hb.int (show k * 2 + 0 < n * 2 by omega)
      obtain ⟨_, e1, hx1⟩ := ha.int (show k * 2 + 1 < n * 2 by omega)
      obtain ⟨_, d1, hy1⟩ := hb.int (show k * 2 + 1 < n * 2 by omega)
      obtain ⟨ad, rfl⟩ : ∃ ad, A = some ad := ⟨_, e0⟩
      obtain ⟨bd, rfl⟩ : ∃ ad, B = some ad := ⟨_, d0⟩
      cases e0
      cases d0
      cases e1
      cases d1
      rw [Nat.add_zero] at hx0 hy0
      rw [← add_of_add, field_add _ 1 (by decide)] at hx1 hy1
      generalize xs.getD (k * 2) 0 = x0 at *
      generalize xs.getD (k * 2 + 1) 0 = x1 at *
      have hz := hbel.size
      go_wp2_with fail
      go_region_with ((go_at_call 128; refine (eqPacket_same _ _ _).mono ?_; rintro e w' ⟨rfl, rfl⟩))
      all_goals
        go_wp2
        go_roundw
        case rel => exact ⟨k + 1, by omega, by go_num, by repeat (first | assumption | refine Below.drew ?_ | refine Below.alloc ?_ (by first | omega | assumption | (simp; done) | (simp; omega)) _)⟩
        case measure => simp [intOf]; omega
    · go_wp2
      go_ret
      exact ⟨rfl, hbel⟩

theorem szPacketS_any (A : Option Addr) (n c : Nat) (q : Int) (w : World) (hn : n ≤ 9223372036854775807) (h0 : 0 ≤ q) (hq : q ≤ 1048576) :
    Calls Tryd.prog 70 #[.slice A n c, .int .i64 q] w fun e w' => e = .returned (.int .i64 (if q < (n : Int) then -1 else q - n)) ∧ w = w' := by
  go_enter Tryd.func70, Tryd.ntmps70
  by_cases h : q < (n : Int)
  · have hb : q - (n : Int) < 0 := by omega
    rw [if_pos h]
    go_wp2
    go_ret
    exact ⟨rfl, rfl⟩
  · have hb : ¬ q - (n : Int) < 0 := by omega
    rw [if_neg h]
    go_wp2
    go_ret
    exact ⟨rfl, rfl⟩

/- The same in the words of several slices. -/
def PacketsV (h : Hd) : Value := .slice h.A h.n h.c
def PacketsS (h : Hd) (l : List Int) : List Sl := [⟨h.A, h.n * 2, ints l⟩]
def PacketsR (h : Hd) : List (Option Nat) := [blkp h.A (h.n * 2)]
def PacketsM (h : Hd) (q : Int) : List Sl := [⟨h.A, h.n * 2, ints (marks q (h.n * 2))⟩]
def PacketsQ (h : Hd) : Nat := h.n * 2

end Go.Proofs.YtoledbicmghmbaaDoor
