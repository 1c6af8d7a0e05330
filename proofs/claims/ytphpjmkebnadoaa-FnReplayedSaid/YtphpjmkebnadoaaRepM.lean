/- The soundings of a log, reduced one by one, plainly; the gauge of a valid log is valid. No program. -/
import Derived.Test.YtphpjmkebnadoaaLevT
import Derived.Test.YtphpjmkebnadoaaLog
namespace Go.Proofs.Ytphpjmkebnadoaa
open Go.RowKit

theorem logB_parts {xs : List Int} {n : Nat} (h : logB xs n = true) : recsB xs n = true ∧ n ≤ 200 := by
  have : logB xs n = (recsB xs n && decide ((n : Int) ≤ 200)) := rfl
  rw [this, Bool.and_eq_true, decide_eq_true_eq] at h
  exact ⟨h.1, by omega⟩
theorem recB_time {t k l x y d r : Int} (h : recB t k l x y d r = true) : 0 ≤ t ∧ t ≤ 1000000 := by
  unfold recB at h
  rw [Bool.and_eq_true] at h
  exact inR_true h.1
theorem recB_level {t l x y d r : Int} (h : recB t 1 l x y d r = true) : -2000 ≤ l ∧ l ≤ 2000 := by
  unfold recB at h
  rw [Bool.and_eq_true, if_pos rfl, Bool.and_eq_true] at h
  exact inR_true h.2.1
theorem recB_sou {t l x y d r : Int} (h : recB t 2 l x y d r = true) : souB x y d r = true := by
  unfold recB at h
  rw [Bool.and_eq_true, if_neg (by decide), if_pos rfl, Bool.and_eq_true] at h
  exact h.2.2
theorem gTo_mem {xs : List Int} {n : Nat} (h : recsB xs n = true) {p : Int × Int} (hp : p ∈ gTo xs n) : 0 ≤ p.1 ∧ p.1 ≤ 1000000 ∧ -2000 ≤ p.2 ∧ p.2 ≤ 2000 := by
  obtain ⟨i, hi, hl, rfl⟩ := (mem_gTo xs n p).1 hp
  have h1 : recB (recT xs i) (recK xs i) (recL xs i) (xs.getD (i * 7 + 3) 0) (xs.getD (i * 7 + 4) 0) (xs.getD (i * 7 + 5) 0) (xs.getD (i * 7 + 6) 0) = true := recsB_at h hi
  have h2 := recB_time h1
  rw [hl.1] at h1
  have h3 := recB_level h1
  exact ⟨h2.1, h2.2, h3.1, h3.2⟩
theorem ris_fst {p : List (Int × Int)} {m : Int} (hs : SS p) (hb : ∀ q ∈ p, 0 ≤ q.1 ∧ q.1 < m) : risB (fstL p) m = true := by
  unfold risB risTo
  rw [List.all_eq_true]
  intro j hj
  have hj := List.mem_range.1 hj
  rw [fstL_len] at hj
  have h1 := hb _ (List.getElem_mem hj)
  unfold risAt
  rw [fstL_at hj, decide_eq_true h1.1, decide_eq_true h1.2, Bool.true_and, Bool.true_and]
  by_cases h0 : j = 0
  · rw [decide_eq_true h0]; rfl
  · rw [fstL_at (show j - 1 < p.length by omega)]
    have := (List.pairwise_iff_getElem.1 hs) (j - 1) j (by omega) hj (by omega)
    rw [decide_eq_true this, Bool.or_true]
theorem gauge_ok {xs : List Int} {n : Nat} (h : gaugeC xs n = 0) : logB xs n = true ∧ gaugeR xs n = ⟨fstL (gTo xs n), sndL (gTo xs n)⟩ ∧ GaOk (fstL (gTo xs n)) (sndL (gTo xs n)) := by
  unfold gaugeC at h
  split at h
  · rename_i hl
    split at h
    · cases h
    · rename_i h0
      split at h
      · rename_i h1
        have hr := (logB_parts hl).1
        refine ⟨hl, by unfold gaugeR gaugeP; rw [if_pos hl, if_pos h1], ⟨by rw [fstL_len]; omega, by rw [fstL_len]; omega, ris_fst (SS_gTo xs n) fun q hq => ?_, by rw [fstL_len, sndL_len], ?_⟩⟩
        · have := gTo_mem hr hq; omega
        · unfold allIn
          rw [List.all_eq_true]
          intro x hx
          unfold sndL at hx
          obtain ⟨q, hq, rfl⟩ := List.mem_map.1 hx
          have := gTo_mem hr hq
          exact inR_mk this.2.2.1 this.2.2.2
      · cases h
  · cases h

def recRed (ts ls xs : List Int) (i : Nat) : Int := redC ts ls (xs.getD (i * 7) 0) (xs.getD (i * 7 + 3) 0) (xs.getD (i * 7 + 4) 0) (xs.getD (i * 7 + 5) 0) (xs.getD (i * 7 + 6) 0)
def recOut (ts ls xs : List Int) (i : Nat) : List Int := [xs.getD (i * 7 + 3) 0, xs.getD (i * 7 + 4) 0, redD (xs.getD (i * 7 + 5) 0) (xs.getD (i * 7 + 6) 0) (lvLo ts ls (xs.getD (i * 7) 0)) (lvHi ts ls (xs.getD (i * 7) 0)), redE (xs.getD (i * 7 + 5) 0) (xs.getD (i * 7 + 6) 0) (lvLo ts ls (xs.getD (i * 7) 0)) (lvHi ts ls (xs.getD (i * 7) 0))]
/-- the reduced soundings of the first k records -/
def repL (ts ls xs : List Int) : Nat → List Int
  | 0 => []
  | k + 1 => if recK xs k = 2 ∧ recRed ts ls xs k = 0 then repL ts ls xs k ++ recOut ts ls xs k else repL ts ls xs k
/-- how many were left out -/
def repN (ts ls xs : List Int) : Nat → Nat
  | 0 => 0
  | k + 1 => if recK xs k = 2 ∧ ¬ recRed ts ls xs k = 0 then repN ts ls xs k + 1 else repN ts ls xs k
theorem repN_le (ts ls xs : List Int) : ∀ k, repN ts ls xs k ≤ k
  | 0 => Nat.le_refl _
  | k + 1 => by
    have := repN_le ts ls xs k
    unfold repN
    split <;> omega
def rpT (xs : List Int) (n : Nat) : List Int := fstL (gTo xs n)
def rpS (xs : List Int) (n : Nat) : List Int := sndL (gTo xs n)
def rpL (xs : List Int) (n : Nat) : List Int := if gaugeC xs n = 0 then repL (rpT xs n) (rpS xs n) xs n else []
def rpN (xs : List Int) (n : Nat) : Int := if gaugeC xs n = 0 then (repN (rpT xs n) (rpS xs n) xs n : Int) else 0
theorem redV_zero {ts ls : List Int} {t x y d r : Int} (h : redC ts ls t x y d r = 0) : redV ts ls t x y d r = .agg #[.int .i64 x, .int .i64 y, .int .i64 (redD d r (lvLo ts ls t) (lvHi ts ls t)), .int .i64 (redE d r (lvLo ts ls t) (lvHi ts ls t))] := by unfold redV; rw [if_pos h]
theorem redV_code {ts ls : List Int} {t x y d r : Int} (h : ¬ redC ts ls t x y d r = 0) : redV ts ls t x y d r = .agg #[.int .i64 0, .int .i64 0, .int .i64 0, .int .i64 0] := by unfold redV; rw [if_neg h]
theorem rd_four4 (w : World) (a b c d : Int) (e : TypeId) : Rd (w.alloc (.cells #[.int .i64 a, .int .i64 b, .int .i64 c, .int .i64 d] e)) (some ⟨w.heap.size, 0, none⟩) (1 * 4) (ints [a, b, c, d]) := by
  refine ⟨rfl, fun _ => ⟨_, rfl, fun i hi => ?_⟩⟩
  rw [add_lit, (Blk.new w e #[.int .i64 a, .int .i64 b, .int .i64 c, .int .i64 d]).cell]
  simp [ints]
theorem Sounding_info4 : (Try.prog.info? 45).map (fun i => (i.zero.map (·.cells.size), i.size, i.bytes)) = some (some 4, 4, 32) := by kernel_rfl
theorem cell_alloc1 {w : World} {p : Addr} {v : Value} (h : w.cell? p = some v) (hp : p.block < w.heap.size) (ob : Obj) : (w.alloc ob).cell? p = some v := (Below.cell ((Below.refl _ w).alloc (Nat.le_refl _) ob) hp).trans h
theorem cell_drew1 {w : World} {p : Addr} {v : Value} (h : w.cell? p = some v) : w.drew.cell? p = some v := h
theorem cell_set1 {w : World} {p : Addr} {v u : Value} {g i : Nat} (h : w.cell? p = some v) (hp : p.block ≠ g) : (w.setCell ⟨g, i, none⟩ u).cell? p = some v := (World.cell?_setCell_other _ _ _ _ (fun c => hp (by rw [← c]))).trans h
end Go.Proofs.Ytphpjmkebnadoaa
