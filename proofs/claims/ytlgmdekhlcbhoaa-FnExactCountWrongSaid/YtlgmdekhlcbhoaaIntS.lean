/- The statements' own helpers on lists of numbers: a copy, a comparison, marks laid and found. No condition beyond a length of at most 1048576 where memory is made. -/
import Derived.Test.YtlgmdekhlcbhoaaMem
namespace Go.Proofs.Ytlgmdekhlcbhoaa
open Go.RowKit

set_option maxHeartbeats 400000 in
theorem toInt64S_any (A : Option Addr) (n c : Nat) (xs : List Int) (w : World) (hn : n ≤ 1048576) (hr : Rd w A n (ints xs)) :
    Calls Try.prog 25 #[.slice A n c] w fun e w' => e = .returned (.slice (some ⟨w.heap.size, 0, none⟩) n n) ∧
      Rd w' (some ⟨w.heap.size, 0, none⟩) n (ints xs) ∧ Wr w' w.heap.size (some ⟨w.heap.size, 0, none⟩) n ∧ Below w.heap.size w w' ∧ w.heap.size < w'.heap.size := by
  have hmk := run_make_int64 n (by omega)
  have hlen : xs.length = n := by have := hr.1; unfold ints at this; simpa using this
  have HL := Lib.hid hlen
  clear hlen
  go_enter Try.func25, Try.ntmps25
  go_wp2
  clear hmk
  go_loopw [4] (fun i wr => ∃ k : Nat, ∃ cs : Array Value, k ≤ n ∧ i = .int .i64 k ∧ Blk wr w.heap.size 2 cs ∧ cs.size = n ∧ (∀ j, j < k → cs[j]? = (ints xs)[j]?) ∧ Below w.heap.size w wr)
    (fun i _ => n - (intOf i).toNat)
  case atStart => exact ⟨0, _, Nat.zero_le _, rfl, Blk.new _ _ _, madeCells_size _ _, fun j hj => absurd hj (by omega), (Below.refl _ _).alloc (Nat.le_refl _) _⟩
  case round =>
    obtain ⟨k, cs, hk, rfl, hB, hcs, hpre, hbel⟩ := hrel
    by_cases hlt : k < n
    · obtain ⟨ad, u, rfl, hu, hc⟩ := hr.at_ hlt
      have hx : wr.cell? (ad.add k) = some (.int .i64 (xs.getD k 0)) := by
        rw [hbel.cell (by rw [block_of_add]; exact hr.lt rfl (by omega)), hc, ← hu, ints_getElem?]
        have := HL.out
        simp [List.getElem?_eq_getElem (show k < xs.length by omega)]
      obtain ⟨old, hd⟩ : ∃ v, wr.cell? ⟨w.heap.size, k, none⟩ = some v := ⟨_, by rw [hB.cell]; exact Array.getElem?_eq_getElem (by omega)⟩
      have hf : wr.frozen? ⟨w.heap.size, k, none⟩ = false := hB.frozen k
      have HB := Lib.hid hB
      have HC := Lib.hid hcs
      have HP := Lib.hid hpre
      clear hB hcs hpre hu hc
      go_wp2
      go_roundw
      case rel =>
        refine ⟨k + 1, _, by omega, by go_num, HB.out.set_ k _, by have := HC.out; simpa using this, ?_, hbel.setCell (by simp) _⟩
        intro j hj
        have := HC.out
        by_cases e : j = k
        · subst e
          have := HL.out
          rw [Array.getElem?_setIfInBounds_self_of_lt (by omega), ints_getElem?]
          simp [List.getElem?_eq_getElem (show j < xs.length by omega)]
        · rw [Array.getElem?_setIfInBounds_ne (by omega)]
          exact HP.out j (by omega)
      case measure => simp [intOf]; omega
    · have HP := Lib.hid hpre
      have HC := Lib.hid hcs
      clear hpre hcs
      go_wp2
      go_ret
      have := HC.out
      exact ⟨rfl, hB.rd (by have := HL.out; unfold ints; simpa using this) (fun i hi => HP.out i (by omega)), hB.wr (Nat.le_refl _) n, hbel, hB.lt⟩

theorem Rd.int {w : World} {A : Option Addr} {n k : Nat} {xs : List Int} (h : Rd w A n (ints xs)) (hk : k < n) : ∃ ad, A = some ad ∧ w.cell? (ad.add k) = some (.int .i64 (xs.getD k 0)) := by
  obtain ⟨ad, u, rfl, hu, hc⟩ := h.at_ hk
  have hl : xs.length = n := by have := h.1; unfold ints at this; simpa using this
  refine ⟨ad, rfl, ?_⟩
  rw [hc, ← hu, ints_getElem?]
  simp [List.getElem?_eq_getElem (show k < xs.length by omega)]

set_option maxHeartbeats 400000 in
theorem eqInt64S_same (A B : Option Addr) (n c d : Nat) (xs : List Int) (w : World) (hn : n ≤ 9223372036854775807) (ha : Rd w A n (ints xs)) (hb : Rd w B n (ints xs)) :
    Calls Try.prog 19 #[.slice A n c, .slice B n d] w fun e w' => e = .returned (.bool true) ∧ ∃ m, w' = w.drewN m := by
  go_enter Try.func19, Try.ntmps19
  go_wp2
  go_loopw [5] (fun i wr => ∃ k m : Nat, k ≤ n ∧ i = .int .i64 k ∧ wr = w.drewN m)
    (fun i _ => n - (intOf i).toNat)
  case atStart => exact ⟨0, 0, Nat.zero_le _, rfl, rfl⟩
  case round =>
    obtain ⟨k, m, hk, rfl, rfl⟩ := hrel
    by_cases hlt : k < n
    · obtain ⟨ad, rfl, hx⟩ := ha.int hlt
      obtain ⟨bd, rfl, hy⟩ := hb.int hlt
      generalize xs.getD k 0 = x at *
      go_wp2
      go_quiet (fail)
      go_wp2
      go_roundw
      case rel => exact ⟨k + 1, _, by omega, by go_num, rfl⟩
      case measure => simp [intOf]; omega
    · go_wp2
      go_ret
      exact ⟨rfl, m, rfl⟩

/-- The numbers k, k + 1, .. -/
def marks (k : Int) (n : Nat) : List Int := (List.range n).map fun i : Nat => k + (i : Int)
theorem marks_length (k : Int) (n : Nat) : (marks k n).length = n := by unfold marks; simp
theorem marks_getD (k : Int) (n i : Nat) (h : i < n) : (marks k n).getD i 0 = k + (i : Int) := by
  unfold marks
  simp [h]

set_option maxHeartbeats 400000 in
theorem markInt64S_any (A : Option Addr) (n c : Nat) (us : List Value) (q : Int) (B : Nat) (w : World) (hn : n ≤ 1048576) (hq0 : 0 ≤ q) (hq : q ≤ 1073741824) (ha : Rd w A n us) (hw : Wr w B A n) :
    Calls Try.prog 22 #[.slice A n c, .int .i64 q] w fun e w' => e = .returned (.int .i64 (q + (n : Int))) ∧ w.grownBy w' (blkp A n) ∧ w'.heap.size = w.heap.size ∧
      Rd w' A n (ints (marks q n)) ∧ Wr w' B A n := by
  go_enter Try.func22, Try.ntmps22
  go_wp2
  go_loopw [1, 5] (fun j i wr => ∃ k : Nat, k ≤ n ∧ i = .int .i64 k ∧ j = .int .i64 (q + (k : Int)) ∧ w.grownBy wr (blkp A n) ∧ wr.heap.size = w.heap.size ∧ Wr wr B A n ∧
      ∀ ad, A = some ad → ∀ x, x < n → ∃ v, wr.cell? (ad.add x) = some v ∧ (x < k → v = .int .i64 (q + (x : Int))))
    (fun _ i _ => n - (intOf i).toNat)
  case atStart =>
    refine ⟨0, Nat.zero_le _, rfl, by go_num, World.grownBy.refl w _, rfl, hw, fun ad e x hx => ?_⟩
    obtain ⟨ad', u, e', _, hc⟩ := ha.at_ hx
    rw [e] at e'
    cases e'
    exact ⟨u, hc, fun h => absurd h (by omega)⟩
  case round =>
    obtain ⟨k, hk, rfl, rfl, hg, hz, hwr, hcell⟩ := hrel
    by_cases hlt : k < n
    · obtain ⟨ad, hA, hBad, hfr⟩ := hwr (by omega)
      obtain ⟨old, hc, _⟩ := hcell ad hA k hlt
      have hf := hfr k hlt
      have HW := Lib.hid hwr
      have HC := Lib.hid hcell
      have HF := Lib.hid hfr
      have HA := Lib.hid hA
      have HZ := Lib.hid hz
      clear hwr hcell hfr hz
      subst hA
      go_wp2
      go_roundw
      case rel =>
        refine ⟨k + 1, by omega, by go_num, by go_num, grown_setCell hg (.inl (by rw [block_of_add]; unfold blkp; rw [if_neg (by omega)]; rfl)) _, by simpa using HZ.out, fun _ => ⟨ad, rfl, hBad, fun i hi => by rw [World.frozen?_setCell]; exact HF.out i hi⟩, ?_⟩
        rintro ad' ⟨⟩ x hx
        obtain ⟨v, hv, hvk⟩ := HC.out ad rfl x hx
        by_cases e : x = k
        · subst e
          exact ⟨_, World.cell?_setCell_same _ _ _ hv, fun _ => rfl⟩
        · exact ⟨v, (World.cell?_setCell_other _ _ _ _ (fun c => e (add_inj c).symm)).trans hv, fun h => hvk (by omega)⟩
      case measure => simp [intOf]; omega
    · go_wp2
      go_ret
      obtain rfl : k = n := by omega
      refine ⟨rfl, hg, hz, ⟨by unfold ints; simp [marks_length], fun hp => ?_⟩, hwr⟩
      obtain ⟨ad, hA, _, _⟩ := hwr hp
      refine ⟨ad, hA, fun i hi => ?_⟩
      obtain ⟨v, hv, hvk⟩ := hcell ad hA i hi
      rw [hv, hvk hi, ints_getElem?]
      unfold marks
      simp [hi]

set_option maxHeartbeats 400000 in
theorem heldInt64S_same (A : Option Addr) (n c : Nat) (q : Int) (w : World) (hn : n ≤ 1048576) (hq0 : 0 ≤ q) (hq : q ≤ 1073741824) (ha : Rd w A n (ints (marks q n))) :
    Calls Try.prog 23 #[.slice A n c, .int .i64 q] w fun e w' => e = .returned (.int .i64 (q + (n : Int))) ∧ w = w' := by
  go_enter Try.func23, Try.ntmps23
  go_wp2
  go_loop [1, 5] (fun j i => ∃ k : Nat, k ≤ n ∧ i = .int .i64 k ∧ j = .int .i64 (q + (k : Int)))
    (fun _ i => n - (intOf i).toNat)
  case atStart => exact ⟨0, Nat.zero_le _, rfl, by go_num⟩
  case round =>
    obtain ⟨k, hk, rfl, rfl⟩ := hrel
    by_cases hlt : k < n
    · obtain ⟨ad, rfl, hx⟩ := ha.int hlt
      rw [marks_getD _ _ _ hlt] at hx
      go_wp2
      go_round
      case rel => exact ⟨k + 1, by omega, by go_num, by go_num⟩
      case measure => simp [intOf]; omega
    · go_wp2
      go_ret
      obtain rfl : k = n := by omega
      exact ⟨rfl, rfl⟩
end Go.Proofs.Ytlgmdekhlcbhoaa
