/- The statements' own helpers on slices of Sounding: a copy, a comparison, marks laid and found. No condition beyond a length of at most 1048576 where memory is made. -/
import Derived.Test.YtphpjmkebnadoaaRecordS
import Derived.RegionTactic
import Derived.Deep.RegionWith
namespace Go.Proofs.Ytphpjmkebnadoaa
open Go.RowKit

set_option maxHeartbeats 400000 in
theorem toSounding_exactS (x0 x1 x2 x3 : Int) (w : World) :
    Calls Try.prog 73 #[.agg #[.int .i64 x0, .int .i64 x1, .int .i64 x2, .int .i64 x3]] w fun e w' =>
      e = .returned (.agg #[.int .i64 x0, .int .i64 x1, .int .i64 x2, .int .i64 x3]) ∧ ((w.alloc (.cells #[.int .i64 x0, .int .i64 x1, .int .i64 x2, .int .i64 x3] 72)).alloc (.cells #[.int .i64 x0, .int .i64 x1, .int .i64 x2, .int .i64 x3] 45)).alloc (.cells #[.int .i64 x0, .int .i64 x1, .int .i64 x2, .int .i64 x3] 45) = w' := by
  go_enter Try.func73, Try.ntmps73
  go_wp2
  exact bodyPost_ret (v := .agg #[.int .i64 x0, .int .i64 x1, .int .i64 x2, .int .i64 x3]) (by simp [results, Try.results73, go_sem]) rfl ⟨rfl, rfl⟩

set_option maxHeartbeats 400000 in
theorem eqSounding_sameS (x0 x1 x2 x3 : Int) (w : World) :
    Calls Try.prog 49 #[.agg #[.int .i64 x0, .int .i64 x1, .int .i64 x2, .int .i64 x3], .agg #[.int .i64 x0, .int .i64 x1, .int .i64 x2, .int .i64 x3]] w fun e w' =>
      e = .returned (.bool true) ∧ (w.alloc (.cells #[.int .i64 x0, .int .i64 x1, .int .i64 x2, .int .i64 x3] 45)).alloc (.cells #[.int .i64 x0, .int .i64 x1, .int .i64 x2, .int .i64 x3] 45) = w' := by
  go_enter Try.func49, Try.ntmps49
  go_wp2
  go_ret
  exact ⟨rfl, rfl⟩

theorem Sounding_info : (Try.prog.info? 45).map (fun i => (i.zero.map (·.cells.size), i.size, i.bytes)) = some (some 4, 4, 32) := by kernel_rfl
theorem run_make_Sounding (n : Nat) (hn : n ≤ 1048576) (W : World) :
    ∃ cs : Array Value, cs.size = n * 4 ∧ (Instr.makeSlice 36 (.int .i64 (n : Int)) (.int .i64 (n : Int))).run Try.prog W = .ok (.slice (some ⟨W.heap.size, 0, none⟩) n n) (W.alloc (.cells cs 45)) := by
  have h := Sounding_info
  cases hi : Try.prog.info? 45 with
  | none => rw [hi] at h; simp at h
  | some i =>
    rw [hi] at h
    simp only [Option.map_some, Option.some.injEq, Prod.mk.injEq] at h
    obtain ⟨hz, hs, hb⟩ := h
    cases hz0 : i.zero with
    | none => rw [hz0] at hz; simp at hz
    | some z =>
      have hr := run_make_rowN (P := Try.prog) 36 45 i z Try.underlying36 hi hz0 .i64 .i64 n n (Nat.le_refl _) (by rw [hb]; omega) (by omega) W
      rw [hs] at hr
      exact ⟨_, madeCells_size _ _, hr⟩

set_option maxHeartbeats 2000000 in
theorem eqSoundingS_below (A B : Option Addr) (n c d : Nat) (xs : List Int) (w : World) (hn : n ≤ 1048576) (ha0 : Rd w A (n * 4) (ints xs)) (hb0 : Rd w B (n * 4) (ints xs)) :
    Calls Try.prog 19 #[.slice A n c, .slice B n d] w fun e w' => e = .returned (.bool true) ∧ Below w.heap.size w w' := by
  go_enter Try.func19, Try.ntmps19
  go_wp2
  go_loopw [5] (fun i wr => ∃ k : Nat, k ≤ n ∧ i = .int .i64 k ∧ Below w.heap.size w wr)
    (fun i _ => n - (intOf i).toNat)
  case atStart => exact ⟨0, Nat.zero_le _, rfl, Below.refl _ _⟩
  case round =>
    obtain ⟨k, hk, rfl, hbel⟩ := hrel
    by_cases hlt : k < n
    · have ha := ha0.below hbel
      have hb := hb0.below hbel
      obtain ⟨_, e0, hx0⟩ := ha.int (show k * 4 + 0 < n * 4 by omega)
      obtain ⟨_, d0, hy0⟩ := hb.int (show k * 4 + 0 < n * 4 by omega)
      obtain ⟨_, e1, hx1⟩ := ha.int (show k * 4 + 1 < n * 4 by omega)
      obtain ⟨_, d1, hy1⟩ := hb.int (show k * 4 + 1 < n * 4 by omega)
      obtain ⟨_, e2, hx2⟩ := ha.int (show k * 4 + 2 < n * 4 by omega)
      obtain ⟨_, d2, hy2⟩ := hb.int (show k * 4 + 2 < n * 4 by omega)
      obtain ⟨_, e3, hx3⟩ := ha.int (show k * 4 + 3 < n * 4 by omega)
      obtain ⟨_, d3, hy3⟩ := hb.int (show k * 4 + 3 < n * 4 by omega)
      obtain ⟨ad, rfl⟩ : ∃ ad, A = some ad := ⟨_, e0⟩
      obtain ⟨bd, rfl⟩ : ∃ ad, B = some ad := ⟨_, d0⟩
      cases e0
      cases d0
      cases e1
      cases d1
      cases e2
      cases d2
      cases e3
      cases d3
      rw [Nat.add_zero] at hx0 hy0
      rw [← add_of_add, field_add _ 1 (by decide)] at hx1 hy1
      rw [← add_of_add, field_add _ 2 (by decide)] at hx2 hy2
      rw [← add_of_add, field_add _ 3 (by decide)] at hx3 hy3
      generalize xs.getD (k * 4) 0 = x0 at *
      generalize xs.getD (k * 4 + 1) 0 = x1 at *
      generalize xs.getD (k * 4 + 2) 0 = x2 at *
      generalize xs.getD (k * 4 + 3) 0 = x3 at *
      have hz := hbel.size
      go_wp2_with fail
      go_region_with ((go_at_call 49; refine (eqSounding_sameS _ _ _ _ _).mono ?_; rintro e w' ⟨rfl, rfl⟩))
      all_goals
        go_wp2
        go_roundw
        case rel => exact ⟨k + 1, by omega, by go_num, by repeat (first | assumption | refine Below.drew ?_ | refine Below.alloc ?_ (by first | omega | assumption | (simp; done) | (simp; omega)) _)⟩
        case measure => simp [intOf]; omega
    · go_wp2
      go_ret
      exact ⟨rfl, hbel⟩

set_option maxHeartbeats 2000000 in
theorem markSoundingS_any (A : Option Addr) (n c : Nat) (us : List Value) (q : Int) (B : Nat) (w : World) (hn : n ≤ 1048576) (hq0 : 0 ≤ q) (hq : q ≤ 1073741824) (ha : Rd w A (n * 4) us) (hw : Wr w B A (n * 4)) :
    Calls Try.prog 20 #[.slice A n c, .int .i64 q] w fun e w' => e = .returned (.int .i64 (q + (n * 4 : Nat))) ∧ w.grownBy w' (blkp A (n * 4)) ∧ w'.heap.size = w.heap.size ∧
      Rd w' A (n * 4) (ints (marks q (n * 4))) ∧ Wr w' B A (n * 4) := by
  go_enter Try.func20, Try.ntmps20
  go_wp2
  go_loopw [1, 5] (fun j i wr => ∃ k : Nat, k ≤ n ∧ i = .int .i64 k ∧ j = .int .i64 (q + (k : Int) * 4) ∧ w.grownBy wr (blkp A (n * 4)) ∧ wr.heap.size = w.heap.size ∧ Wr wr B A (n * 4) ∧
      ∀ ad, A = some ad → ∀ x, x < n * 4 → ∃ v, wr.cell? (ad.add x) = some v ∧ (x < k * 4 → v = .int .i64 (q + (x : Int))))
    (fun _ i _ => n - (intOf i).toNat)
  case atStart =>
    refine ⟨0, Nat.zero_le _, rfl, by go_num, World.grownBy.refl w _, rfl, hw, fun ad e x hx => ?_⟩
    obtain ⟨ad', u, e', _, hc⟩ := ha.at_ hx
    rw [e] at e'
    cases e'
    exact ⟨u, hc, fun h => absurd h (by omega)⟩
  case round =>
    obtain ⟨k, hk, rfl, rfl, hg, hz, hwr, hcell⟩ := hrel
    by_cases hlt : k < n
    · obtain ⟨ad, hA, hBad, hfr⟩ := hwr (by omega)
      obtain ⟨o0, hc0', _⟩ := hcell ad hA (k * 4 + 0) (by omega)
      have hf0 := hfr (k * 4 + 0) (by omega)
      rw [Nat.add_zero] at hc0' hf0
      obtain ⟨o1, hc1', _⟩ := hcell ad hA (k * 4 + 1) (by omega)
      have hf1 := hfr (k * 4 + 1) (by omega)
      rw [← add_of_add, field_add _ 1 (by decide)] at hc1' hf1
      obtain ⟨o2, hc2', _⟩ := hcell ad hA (k * 4 + 2) (by omega)
      have hf2 := hfr (k * 4 + 2) (by omega)
      rw [← add_of_add, field_add _ 2 (by decide)] at hc2' hf2
      obtain ⟨o3, hc3', _⟩ := hcell ad hA (k * 4 + 3) (by omega)
      have hf3 := hfr (k * 4 + 3) (by omega)
      rw [← add_of_add, field_add _ 3 (by decide)] at hc3' hf3
      have hc1 : ∀ y0 : Value, ((wr.setCell (ad.add (k * 4)) y0)).cell? ⟨(ad.add (k * 4)).block, (ad.add (k * 4)).off + 1, none⟩ = some o1 := fun y0 => by rw [World.cell?_setCell_other _ _ _ _ (fun e => by have e2 := congrArg Addr.off e; first | omega | (simp only at e2; omega))]; exact hc1'
      have hc2 : ∀ y0 y1 : Value, (((wr.setCell (ad.add (k * 4)) y0).setCell ⟨(ad.add (k * 4)).block, (ad.add (k * 4)).off + 1, none⟩ y1)).cell? ⟨(ad.add (k * 4)).block, (ad.add (k * 4)).off + 2, none⟩ = some o2 := fun y0 y1 => by rw [World.cell?_setCell_other _ _ _ _ (fun e => by have e2 := congrArg Addr.off e; first | omega | (simp only at e2; omega)), World.cell?_setCell_other _ _ _ _ (fun e => by have e2 := congrArg Addr.off e; first | omega | (simp only at e2; omega))]; exact hc2'
      have hc3 : ∀ y0 y1 y2 : Value, ((((wr.setCell (ad.add (k * 4)) y0).setCell ⟨(ad.add (k * 4)).block, (ad.add (k * 4)).off + 1, none⟩ y1).setCell ⟨(ad.add (k * 4)).block, (ad.add (k * 4)).off + 2, none⟩ y2)).cell? ⟨(ad.add (k * 4)).block, (ad.add (k * 4)).off + 3, none⟩ = some o3 := fun y0 y1 y2 => by rw [World.cell?_setCell_other _ _ _ _ (fun e => by have e2 := congrArg Addr.off e; first | omega | (simp only at e2; omega)), World.cell?_setCell_other _ _ _ _ (fun e => by have e2 := congrArg Addr.off e; first | omega | (simp only at e2; omega)), World.cell?_setCell_other _ _ _ _ (fun e => by have e2 := congrArg Addr.off e; first | omega | (simp only at e2; omega))]; exact hc3'
      clear hc1' hc2' hc3'
      have HW := Lib.hid hwr
      have HC := Lib.hid hcell
      have HF := Lib.hid hfr
      have HZ := Lib.hid hz
      clear hwr hcell hfr hz
      subst hA
      go_wp2
      go_roundw
      case rel =>
        refine ⟨k + 1, by omega, by go_num, by go_num, ?_, by simpa using HZ.out, fun _ => ⟨ad, rfl, hBad, fun i hi => by simp only [World.frozen?_setCell]; exact HF.out i hi⟩, ?_⟩
        · have hblk : ∀ j, blkp (some ad) (n * 4) = some (⟨(ad.add (k * 4)).block, j, none⟩ : Addr).block := fun j => by unfold blkp; rw [if_neg (by omega), block_of_add]; rfl
          have hblk0 : blkp (some ad) (n * 4) = some (ad.add (k * 4)).block := hblk 0
          repeat (first | exact hg | refine grown_setCell ?_ (.inl (hblk _)) _ | refine grown_setCell ?_ (.inl hblk0) _)
        rintro ad' ⟨⟩ x hx
        obtain ⟨v, hv, hvk⟩ := HC.out ad rfl x hx
        rw [show (⟨(ad.add (k * 4)).block, (ad.add (k * 4)).off + 1, none⟩ : Addr) = ad.add (k * 4 + 1) from by rw [← field_add _ 1 (by decide), add_of_add], show (⟨(ad.add (k * 4)).block, (ad.add (k * 4)).off + 2, none⟩ : Addr) = ad.add (k * 4 + 2) from by rw [← field_add _ 2 (by decide), add_of_add], show (⟨(ad.add (k * 4)).block, (ad.add (k * 4)).off + 3, none⟩ : Addr) = ad.add (k * 4 + 3) from by rw [← field_add _ 3 (by decide), add_of_add]]
        by_cases hin : x < k * 4 ∨ k * 4 + 4 ≤ x
        · refine ⟨v, ?_, fun h => hvk (by omega)⟩
          rw [World.cell?_setCell_other _ _ _ _ (fun c => by have := add_inj c; omega), World.cell?_setCell_other _ _ _ _ (fun c => by have := add_inj c; omega), World.cell?_setCell_other _ _ _ _ (fun c => by have := add_inj c; omega), World.cell?_setCell_other _ _ _ _ (fun c => by have := add_inj c; omega)]
          exact hv
        · obtain ⟨i, rfl⟩ : ∃ i, x = k * 4 + i := ⟨x - k * 4, by omega⟩
          have hi : i < 4 := by omega
          match i, hi with
          | 0, _ => exact ⟨_, (by rw [World.cell?_setCell_other _ _ _ _ (fun c => by have := add_inj c; omega), World.cell?_setCell_other _ _ _ _ (fun c => by have := add_inj c; omega), World.cell?_setCell_other _ _ _ _ (fun c => by have := add_inj c; omega)]; exact World.cell?_setCell_same _ _ _ (show _ = some v from by exact hv)), fun _ => by go_num⟩
          | 1, _ => exact ⟨_, (by rw [World.cell?_setCell_other _ _ _ _ (fun c => by have := add_inj c; omega), World.cell?_setCell_other _ _ _ _ (fun c => by have := add_inj c; omega)]; exact World.cell?_setCell_same _ _ _ (show _ = some v from by rw [World.cell?_setCell_other _ _ _ _ (fun c => by have := add_inj c; omega)]; exact hv)), fun _ => by go_num⟩
          | 2, _ => exact ⟨_, (by rw [World.cell?_setCell_other _ _ _ _ (fun c => by have := add_inj c; omega)]; exact World.cell?_setCell_same _ _ _ (show _ = some v from by rw [World.cell?_setCell_other _ _ _ _ (fun c => by have := add_inj c; omega), World.cell?_setCell_other _ _ _ _ (fun c => by have := add_inj c; omega)]; exact hv)), fun _ => by go_num⟩
          | 3, _ => exact ⟨_, (by exact World.cell?_setCell_same _ _ _ (show _ = some v from by rw [World.cell?_setCell_other _ _ _ _ (fun c => by have := add_inj c; omega), World.cell?_setCell_other _ _ _ _ (fun c => by have := add_inj c; omega), World.cell?_setCell_other _ _ _ _ (fun c => by have := add_inj c; omega)]; exact hv)), fun _ => by go_num⟩
      case measure => simp [intOf]; omega
    · go_wp2
      go_ret
      obtain rfl : k = n := by omega
      refine ⟨ret_int (by omega), hg, hz, ⟨by unfold ints; simp [marks_length], fun hp => ?_⟩, hwr⟩
      obtain ⟨ad, hA, _, _⟩ := hwr hp
      refine ⟨ad, hA, fun i hi => ?_⟩
      obtain ⟨v, hv, hvk⟩ := hcell ad hA i hi
      rw [hv, hvk hi, ints_getElem?]
      unfold marks
      simp [hi]

set_option maxHeartbeats 1000000 in
theorem heldSoundingS_same (A : Option Addr) (n c : Nat) (q : Int) (w : World) (hn : n ≤ 1048576) (hq0 : 0 ≤ q) (hq : q ≤ 1073741824) (ha : Rd w A (n * 4) (ints (marks q (n * 4)))) :
    Calls Try.prog 21 #[.slice A n c, .int .i64 q] w fun e w' => e = .returned (.int .i64 (q + (n * 4 : Nat))) ∧ w = w' := by
  go_enter Try.func21, Try.ntmps21
  go_wp2
  go_loop [1, 5] (fun j i => ∃ k : Nat, k ≤ n ∧ i = .int .i64 k ∧ j = .int .i64 (q + (k : Int) * 4))
    (fun _ i => n - (intOf i).toNat)
  case atStart => exact ⟨0, Nat.zero_le _, rfl, by go_num⟩
  case round =>
    obtain ⟨k, hk, rfl, rfl⟩ := hrel
    by_cases hlt : k < n
    · skip
      obtain ⟨_, e0, hx0⟩ := ha.int (show k * 4 + 0 < n * 4 by omega)
      rw [marks_getD _ _ _ (show k * 4 + 0 < n * 4 by omega), show q + ((k * 4 + 0 : Nat) : Int) = q + (k : Int) * 4 from by omega] at hx0
      obtain ⟨_, e1, hx1⟩ := ha.int (show k * 4 + 1 < n * 4 by omega)
      rw [marks_getD _ _ _ (show k * 4 + 1 < n * 4 by omega), show q + ((k * 4 + 1 : Nat) : Int) = q + (k : Int) * 4 + 1 from by omega] at hx1
      obtain ⟨_, e2, hx2⟩ := ha.int (show k * 4 + 2 < n * 4 by omega)
      rw [marks_getD _ _ _ (show k * 4 + 2 < n * 4 by omega), show q + ((k * 4 + 2 : Nat) : Int) = q + (k : Int) * 4 + 2 from by omega] at hx2
      obtain ⟨_, e3, hx3⟩ := ha.int (show k * 4 + 3 < n * 4 by omega)
      rw [marks_getD _ _ _ (show k * 4 + 3 < n * 4 by omega), show q + ((k * 4 + 3 : Nat) : Int) = q + (k : Int) * 4 + 3 from by omega] at hx3
      obtain ⟨ad, rfl⟩ : ∃ ad, A = some ad := ⟨_, e0⟩
      cases e0
      cases e1
      cases e2
      cases e3
      rw [Nat.add_zero] at hx0
      rw [← add_of_add, field_add _ 1 (by decide)] at hx1
      rw [← add_of_add, field_add _ 2 (by decide)] at hx2
      rw [← add_of_add, field_add _ 3 (by decide)] at hx3
      go_wp2
      go_round
      case rel => exact ⟨k + 1, by omega, by go_num, by go_num⟩
      case measure => simp [intOf]; omega
    · go_wp2
      go_ret
      obtain rfl : k = n := by omega
      exact ⟨ret_int (by omega), rfl⟩

/- The same in the words of several slices. -/
def SoundingsV (h : Hd) : Value := .slice h.A h.n h.c
def SoundingsS (h : Hd) (l : List Int) : List Sl := [⟨h.A, h.n * 4, ints l⟩]
def SoundingsR (h : Hd) : List (Option Nat) := [blkp h.A (h.n * 4)]
def SoundingsM (h : Hd) (q : Int) : List Sl := [⟨h.A, h.n * 4, ints (marks q (h.n * 4))⟩]
def SoundingsQ (h : Hd) : Nat := h.n * 4

end Go.Proofs.Ytphpjmkebnadoaa
