/- The program's table: rests. Condition: received bits (an even number of them, 4 to 604). -/
import Derived.Test.YtlgmdekhlcbhoaaVit
import Derived.RegionTactic
import Derived.Deep.RegionWith
namespace Go.Proofs.Ytlgmdekhlcbhoaa
open Go.RowKit

theorem row_info : (Try.prog.info? 96).map (fun i => (i.zero.map (·.cells.size), i.size, i.bytes)) = some (some 8, 8, 64) := by kernel_rfl
theorem row_zero : (Try.prog.info? 96).map (fun i => i.zero.isSome) = some true := by kernel_rfl
theorem run_make_rows (m : Nat) (hm : m ≤ 1048576) (W : World) :
    ∃ cs : Array Value, cs.size = (m + 1) * 8 ∧ (Instr.makeSlice 97 (.int .i64 ((m : Int) + 1)) (.int .i64 ((m : Int) + 1))).run Try.prog W = .ok (.slice (some ⟨W.heap.size, 0, none⟩) (m + 1) (m + 1)) (W.alloc (.cells cs 96)) := by
  have h := row_info
  cases hi : Try.prog.info? 96 with
  | none => rw [hi] at h; simp at h
  | some i =>
    rw [hi] at h
    simp only [Option.map_some, Option.some.injEq, Prod.mk.injEq] at h
    obtain ⟨hz, hs, hb⟩ := h
    cases hz0 : i.zero with
    | none => rw [hz0] at hz; simp at hz
    | some z =>
      have hr := run_make_rowN (P := Try.prog) 97 96 i z Try.underlying97 hi hz0 .i64 .i64 (m + 1) (m + 1) (Nat.le_refl _) (by rw [hb]; omega) (by omega) W
      rw [hs] at hr
      exact ⟨_, madeCells_size _ _, by rw [← hr]; rfl⟩

/-- The table's cells: what is written from step t on (at step t: the first k states). -/
def TabC (cs : Array Value) (m t k : Nat) (f : Nat → Int → Int × Int) : Prop :=
  cs.size = (m + 1) * 8 ∧ ∀ t' s, t' ≤ m → s < 4 → (t < t' ∨ (t' = t ∧ s < k)) → cs[t' * 8 + s * 2]? = some (.int .i64 (f t' s).1) ∧ cs[t' * 8 + s * 2 + 1]? = some (.int .i64 (f t' s).2)
def Tab (w : World) (G m t k : Nat) (f : Nat → Int → Int × Int) : Prop := ∃ cs, Blk w G 96 cs ∧ TabC cs m t k f
theorem TabC.set_ {cs : Array Value} {m t k : Nat} {f : Nat → Int → Int × Int} (h : TabC cs m t k f) (ht : t ≤ m) (hk : k < 4) :
    TabC ((cs.setIfInBounds (t * 8 + k * 2) (.int .i64 (f t k).1)).setIfInBounds (t * 8 + k * 2 + 1) (.int .i64 (f t k).2)) m t (k + 1) f := by
  refine ⟨by simpa using h.1, fun t' s h1 h2 h3 => ?_⟩
  have hz := h.1
  by_cases e : t' = t ∧ s = k
  · obtain ⟨rfl, rfl⟩ := e
    constructor
    · rw [Array.getElem?_setIfInBounds_ne (by omega), Array.getElem?_setIfInBounds_self_of_lt (by omega)]
    · rw [Array.getElem?_setIfInBounds_self_of_lt (by simp; omega)]
  · have := h.2 t' s h1 h2 (by omega)
    have hne : t' * 8 + s * 2 ≠ t * 8 + k * 2 := by omega
    constructor
    · rw [Array.getElem?_setIfInBounds_ne (by omega), Array.getElem?_setIfInBounds_ne (by omega)]; exact this.1
    · rw [Array.getElem?_setIfInBounds_ne (by omega), Array.getElem?_setIfInBounds_ne (by omega)]; exact this.2
theorem Tab.set_ {w : World} {G m t k : Nat} {f : Nat → Int → Int × Int} (h : Tab w G m t k f) (ht : t ≤ m) (hk : k < 4) :
    Tab ((w.setCell ⟨G, t * 8 + k * 2, none⟩ (.int .i64 (f t k).1)).setCell ⟨G, t * 8 + k * 2 + 1, none⟩ (.int .i64 (f t k).2)) G m t (k + 1) f := by
  obtain ⟨cs, hb, hc⟩ := h
  exact ⟨_, (hb.set_ _ _).set_ _ _, hc.set_ ht hk⟩
theorem Tab.start {w : World} {G m : Nat} {cs : Array Value} {f : Nat → Int → Int × Int} (h : Blk w G 96 cs) (hs : cs.size = (m + 1) * 8) : Tab w G m m 0 f :=
  ⟨cs, h, hs, fun t' s h1 _ h3 => by omega⟩
theorem Tab.next {w : World} {G m t : Nat} {f : Nat → Int → Int × Int} (h : Tab w G m (t + 1) 4 f) : Tab w G m t 0 f := by
  obtain ⟨cs, hb, hz, hc⟩ := h
  exact ⟨cs, hb, hz, fun t' s h1 h2 h3 => hc t' s h1 h2 (by omega)⟩
theorem Tab.below {w w' : World} {G m t k : Nat} {f : Nat → Int → Int × Int} (h : Tab w G m t k f) (hb : Below w.heap.size w w') : Tab w' G m t k f := by
  obtain ⟨cs, h1, h2⟩ := h
  exact ⟨cs, h1.below hb h1.lt, h2⟩
theorem Tab.cell {w : World} {G m t k t' s : Nat} {f : Nat → Int → Int × Int} (h : Tab w G m t k f) (h1 : t' ≤ m) (h2 : s < 4) (h3 : t < t' ∨ (t' = t ∧ s < k)) :
    w.cell? ⟨G, t' * 8 + s * 2, none⟩ = some (.int .i64 (f t' s).1) ∧ w.cell? ⟨G, t' * 8 + s * 2 + 1, none⟩ = some (.int .i64 (f t' s).2) := by
  obtain ⟨cs, hb, hc⟩ := h
  rw [hb.cell, hb.cell]
  exact hc.2 t' s h1 h2 h3
theorem Tab.old {w : World} {G m t k i : Nat} {f : Nat → Int → Int × Int} (h : Tab w G m t k f) (hi : i < (m + 1) * 8) : (∃ v, w.cell? ⟨G, i, none⟩ = some v) ∧ w.frozen? ⟨G, i, none⟩ = false := by
  obtain ⟨cs, hb, hc⟩ := h
  exact ⟨⟨_, by rw [hb.cell]; exact Array.getElem?_eq_getElem (by rw [hc.1]; exact hi)⟩, hb.frozen i⟩

/-- What the table holds. -/
def vitT (xs : List Int) (m : Nat) (t : Nat) : Int → Int × Int := vit xs m (m - t)

set_option maxHeartbeats 1000000 in
theorem rests_any (A : Option Addr) (m c : Nat) (xs : List Int) (w : World) (hm : 2 ≤ m) (hm2 : m ≤ 302) (hc : 2 * m ≤ c) (hr : Rd w A (2 * m) (ints xs)) :
    Calls Try.prog 127 #[.slice A (2 * m) c] w fun e w' => e = .returned (.slice (some ⟨w.heap.size, 0, none⟩) (m + 1) (m + 1)) ∧ Tab w' w.heap.size m 0 4 (vitT xs m) ∧ Below w.heap.size w w' := by
  obtain ⟨cs, hcs, hmk⟩ := run_make_rows m (by omega) w
  have HC := Lib.hid hcs
  clear hcs
  have h2 : (2 * (m : Int)) / 2 = (m : Int) := by omega
  go_enter Try.func127, Try.ntmps127
  go_wp2_with (go_at_call 100; refine (lengthInt_any _ _ _ _ (by omega)).mono ?_; rintro e w' ⟨rfl, rfl⟩)
  clear hmk
  go_loopw [14] (fun i wr => ∃ k : Nat, k ≤ 4 ∧ i = .int .i64 k ∧ Tab wr w.heap.size m m k (vitT xs m) ∧ Below w.heap.size w wr) (fun i _ => 4 - (intOf i).toNat)
  case atStart => exact ⟨0, by omega, rfl, Tab.start (Blk.new _ _ _) HC.out, (Below.refl _ _).alloc (Nat.le_refl _) _⟩
  case round =>
    obtain ⟨k, hk, rfl, hT, hbel⟩ := hrel
    by_cases hlt : k < 4
    · obtain ⟨⟨v0, hd0⟩, hf0⟩ := hT.old (i := m * 8 + k * 2) (by omega)
      obtain ⟨⟨v1, hd1⟩, hf1⟩ := hT.old (i := m * 8 + k * 2 + 1) (by omega)
      have HT := Lib.hid hT
      clear hT
      go_wp2
      go_roundw
      case rel =>
        have e : vitT xs m m (k : Int) = (0, 1) := by unfold vitT; rw [Nat.sub_self]; rfl
        have h := HT.out.set_ (Nat.le_refl _) hlt
        rw [e] at h
        exact ⟨k + 1, by omega, by go_num, h, (hbel.setCell (by simp) _).setCell (by simp) _⟩
      case measure => simp [intOf]; omega
    · obtain rfl : k = 4 := by omega
      go_wp2_with fail
      go_loopw [6] (fun i wr => ∃ k : Nat, ∃ z : Int, k ≤ m ∧ z = (k : Int) - 1 ∧ i = .int .i64 z ∧ Tab wr w.heap.size m k 4 (vitT xs m) ∧ Below w.heap.size w wr) (fun i _ => (intOf i + 1).toNat)
      case atStart => exact ⟨m, _, Nat.le_refl _, rfl, rfl, hT, hbel⟩
      case round =>
        clear hT hbel
        obtain ⟨k, z, hk, hz, rfl, hT, hbel⟩ := hrel
        by_cases h0 : k = 0
        · subst h0
          obtain rfl : z = -1 := by omega
          clear hz
          go_wp2
          go_ret
          exact ⟨rfl, hT, hbel⟩
        · obtain ⟨j, rfl⟩ : ∃ j, k = j + 1 := ⟨k - 1, by omega⟩
          obtain rfl : z = (j : Int) := by omega
          clear hz h0
          have hT0 := hT.next
          clear hT
          go_wp2_with fail
          obtain ⟨wo, rfl⟩ : ∃ wo : World, wo = wr := ⟨_, rfl⟩
          go_loopw [30] (fun i wr => ∃ s : Nat, s ≤ 4 ∧ i = .int .i64 s ∧ Tab wr w.heap.size m j s (vitT xs m) ∧ Below w.heap.size w wr) (fun i _ => 4 - (intOf i).toNat)
          case atStart => exact ⟨0, by omega, rfl, hT0, hbel⟩
          case round =>
            clear hT0 hbel
            obtain ⟨s, hs, rfl, hT, hbel⟩ := hrel
            by_cases hlt : s < 4
            · have k0 := hT.cell (t' := j + 1) (s := 0) (by omega) (by omega) (by omega)
              have k1 := hT.cell (t' := j + 1) (s := 1) (by omega) (by omega) (by omega)
              have k2 := hT.cell (t' := j + 1) (s := 2) (by omega) (by omega) (by omega)
              have k3 := hT.cell (t' := j + 1) (s := 3) (by omega) (by omega) (by omega)
              simp only [Nat.zero_mul, Nat.add_zero, Nat.one_mul, Nat.reduceMul, Nat.add_assoc, Nat.reduceAdd, Int.cast_ofNat_Int] at k0 k1 k2 k3
              obtain ⟨c0, c1⟩ := k0
              obtain ⟨c2, c3⟩ := k1
              obtain ⟨c4, c5⟩ := k2
              obtain ⟨c6, c7⟩ := k3
              obtain ⟨⟨v0, hd0⟩, hf0⟩ := hT.old (i := j * 8 + s * 2) (by omega)
              obtain ⟨⟨v1, hd1⟩, hf1⟩ := hT.old (i := j * 8 + s * 2 + 1) (by omega)
              have hG : w.heap.size < wr.heap.size := by obtain ⟨cs, h, _⟩ := hT; exact h.lt
              have hrr := hr.below hbel
              have HT := Lib.hid hT
              clear hT
              have hbd : ∀ s, 0 ≤ (vitT xs m (j + 1) s).1 ∧ (vitT xs m (j + 1) s).1 ≤ 1208 ∧ 0 ≤ (vitT xs m (j + 1) s).2 ∧ (vitT xs m (j + 1) s).2 ≤ 1000000 := fun s => by
                have := vit_bd xs m (m - (j + 1)) s
                unfold vitT
                omega
              have HBD := Lib.hid hbd
              clear hbd
              go_wp2_with fail
              have q1 : 0 ≤ (j : Int) + 1 := by omega
              have q2 : (j : Int) + 1 < ((m + 1 : Nat) : Int) := by omega
              have q3 : (j : Int) + 1 < (m : Int) + 1 := by omega
              have q4 : (j : Int) < (m : Int) + 1 := by omega
              have q5 : (s : Int) < 4 := by omega
              have m1 : IntKind.i64.wrap ((j : Int) + 1) = (j : Int) + 1 := IntWalk.i64_in _ (by omega)
              have m2 : ((j : Int) + 1).toNat = j + 1 := by omega
              go_region_with ((go_at_call 164; refine (restAt_any A (2 * m) c xs j s (vitT xs m (j + 1)) _ (by omega) hc ?_ (by omega) (by omega) (by omega) HBD.out).mono ?_; exact hrr; rintro e w' ⟨rfl, hb⟩; have hd0' := (hb.cell (p := ⟨w.heap.size, j * 8 + s * 2, none⟩) hG).trans hd0; have hd1' := (hb.cell (p := ⟨w.heap.size, j * 8 + s * 2 + 1, none⟩) hG).trans hd1; have hf0' := (hb.frozen (p := ⟨w.heap.size, j * 8 + s * 2, none⟩) hG).trans hf0; have hf1' := (hb.frozen (p := ⟨w.heap.size, j * 8 + s * 2 + 1, none⟩) hG).trans hf1))
              have hbw := (bstep hbel (show Below wr.heap.size wr w' from ⟨hb.os, hb.tape, hb.output, hb.size, hb.block⟩) (Nat.le_refl _))
              have hT' := HT.out.below (show Below wr.heap.size wr w' from ⟨hb.os, hb.tape, hb.output, hb.size, hb.block⟩)
              have HT' := Lib.hid hT'
              clear hT' hb hd0 hd1 hf0 hf1 m1 m2 c0 c1 c2 c3 c4 c5 c6 c7
              have HE : Hid (oneRest (vitT xs m (j + 1)) xs j s (decide ((j : Int) < (m : Int) - 2)) = vitT xs m j s) := by
                unfold Hid oneRest vitT
                have e : m - j = (m - (j + 1)) + 1 := by omega
                have e2 : m - ((m - (j + 1)) + 1) = j := by omega
                have e3 : decide ((j : Int) < (m : Int) - 2) = decide (2 ≤ m - (j + 1)) := by rw [decide_eq_decide]; omega
                rw [e, e3, vit_succ, e2]
                simp only [decide_eq_true_eq]
              go_wp2
              go_roundw
              case rel =>
                repeat apply Exists.intro
                exact ⟨⟨s + 1, by omega, by go_num, by rw [HE.out]; exact HT'.out.set_ (by omega) hlt, (hbw.setCell (by simp) _).setCell (by simp) _⟩, rfl⟩
              case measure => simp [intOf]; omega
            · obtain rfl : s = 4 := by omega
              go_wp2
              go_roundw
              case rel => exact ⟨j, _, by omega, rfl, by go_num, hT, hbel⟩
              case measure => simp [intOf]
end Go.Proofs.Ytlgmdekhlcbhoaa
