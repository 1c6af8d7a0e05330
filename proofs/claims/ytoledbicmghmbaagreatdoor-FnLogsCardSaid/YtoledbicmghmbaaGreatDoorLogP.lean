/- A log is recovered from its text, and so are the lines before a cut: plainly. No program. -/
import Derived.Test.YtoledbicmghmbaaGreatDoorLgT
import Derived.Test.YtoledbicmghmbaaGreatDoorRvM
namespace Go.Proofs.YtoledbicmghmbaaGreatDoor
open Go.RowKit

def lnsT (ls : List Bs) : Bs := ls.flatMap fun x => x ++ [10]
theorem lnsT_cons (x : Bs) (ls : List Bs) : lnsT (x :: ls) = x ++ 10 :: lnsT ls := by unfold lnsT; simp
theorem lnsT_count : ∀ ls : List Bs, (∀ x ∈ ls, (10 : UInt8) ∉ x) → (lnsT ls).count 10 = ls.length
  | [], _ => rfl
  | y :: t, hy => by
    rw [lnsT_cons, List.count_append, List.count_cons_self, lnsT_count t (fun z hz => hy z (List.mem_cons_of_mem _ hz)), List.count_eq_zero.2 (hy y (List.mem_cons_self ..)), List.length_cons]
    omega
theorem lgT_lns (xs : List Int) (n : Nat) : lgT xs n = lnsT ((List.range n).map fun k => (rc7 xs k).ln) := by unfold lgT lnsT; rw [List.flatMap_map]
/-- the words before a cut -/
theorem cut_lns : ∀ (ls : List Bs) (j : Nat), (∀ x ∈ ls, (10 : UInt8) ∉ x) → (splitC 10 ((lnsT ls).take j)).dropLast = ls.take (((lnsT ls).take j).count 10)
  | [], j, _ => by
    have e : (lnsT []).take j = [] := by show List.take j [] = []; exact List.take_nil
    rw [e]
    rfl
  | x :: ls, j, h => by
    have hx := h x (List.mem_cons_self ..)
    have hl := fun y hy => h y (List.mem_cons_of_mem _ hy)
    rw [lnsT_cons]
    rcases Nat.lt_or_ge x.length j with hj | hj
    · obtain ⟨k, rfl⟩ : ∃ k, j = x.length + (k + 1) := ⟨j - x.length - 1, by omega⟩
      have e : (x ++ 10 :: lnsT ls).take (x.length + (k + 1)) = x ++ 10 :: (lnsT ls).take k := by
        rw [List.take_append, List.take_of_length_le (by omega)]
        congr 1
        rw [show x.length + (k + 1) - x.length = k + 1 by omega, List.take_succ_cons]
      rw [e, splitC_hit _ hx, List.count_append, List.count_cons_self]
      have h0 : x.count 10 = 0 := List.count_eq_zero.2 hx
      rw [h0, Nat.zero_add]
      have hne := splitC_ne 10 ((lnsT ls).take k)
      cases hs : splitC 10 ((lnsT ls).take k) with
      | nil => exact absurd hs hne
      | cons y t =>
        have ih := cut_lns ls k hl
        rw [hs] at ih
        rw [List.dropLast_cons_cons, ih, List.take_succ_cons]
    · have e : (x ++ 10 :: lnsT ls).take j = x.take j := List.take_append_of_le_length hj
      have hn : (10 : UInt8) ∉ x.take j := fun c => hx (List.mem_of_mem_take c)
      rw [e, splitC_none hn, List.count_eq_zero.2 hn]
      rfl
theorem rc7_L {xs : List Int} {n k : Nat} (hl : xs.length = n * 7) (hk : k < n) : (rc7 xs k).L = (xs.drop (k * 7)).take 7 := by
  refine List.ext_getElem (by unfold R7.L rc7; simp; omega) fun i h1 h2 => ?_
  have hi : i < 7 := by unfold R7.L at h1; simpa using h1
  have hb : ∀ j, j < 7 → k * 7 + j < xs.length := fun j hj => by omega
  have e : ∀ j (hj : j < 7), xs.getD (k * 7 + j) 0 = xs[k * 7 + j]'(hb j hj) := fun j hj => by rw [List.getD_eq_getElem?_getD, List.getElem?_eq_getElem (hb j hj)]; rfl
  rw [List.getElem_take, List.getElem_drop]
  match i, hi with
  | 0, _ => exact e 0 (by omega)
  | 1, _ => exact e 1 (by omega)
  | 2, _ => exact e 2 (by omega)
  | 3, _ => exact e 3 (by omega)
  | 4, _ => exact e 4 (by omega)
  | 5, _ => exact e 5 (by omega)
  | 6, _ => exact e 6 (by omega)
theorem rcL_lines {xs : List Int} {n : Nat} (h : recsB xs n = true) (hl : xs.length = n * 7) : ∀ m, m ≤ n → rcL ((List.range m).map fun k => (rc7 xs k).ln) = xs.take (m * 7)
  | 0, _ => by rw [Nat.zero_mul]; rfl
  | m + 1, hm => by
    have hok : (rc7 xs m).ok = true := (rc7_ok xs m).trans (recsB_at h (by omega))
    rw [List.range_succ, List.map_append, List.map_cons, List.map_nil, rcL_snoc, rcL_lines h hl m (by omega), (rr_ln hok).2, rc7_L hl (by omega), ← List.take_add]
    congr 1
    omega
/-- the records that are recovered from a cut text of a log -/
theorem rv_cut {xs : List Int} {n : Nat} (h : logB xs n = true) (hl : xs.length = n * 7) (hn : n ≤ 60) (j : Nat) :
    rvC ((lgT xs n).take j) = 0 ∧ ((lgT xs n).take j).count 10 ≤ n ∧ rvL ((lgT xs n).take j) = xs.take (((lgT xs n).take j).count 10 * 7) := by
  obtain ⟨h1, h2⟩ := logB_true h
  have hlen := lgT_len h1 n (Nat.le_refl _)
  have h3 : ¬ 20000 < ((lgT xs n).take j).length := by rw [List.length_take]; omega
  have hln : ∀ x ∈ (List.range n).map fun k => (rc7 xs k).ln, (10 : UInt8) ∉ x := fun x hx => by
    rw [List.mem_map] at hx
    obtain ⟨k, _, rfl⟩ := hx
    exact R7.ln_nl _
  have hc := cut_lns _ j hln
  rw [← lgT_lns] at hc
  generalize hm : ((lgT xs n).take j).count 10 = m at *
  have hll : ((List.range n).map fun k => (rc7 xs k).ln).length = n := by simp
  have hd := splitC_len 10 ((lgT xs n).take j)
  have hmn : m ≤ n := by
    rcases Nat.lt_or_ge n m with c | c
    · exfalso
      have key : ∀ (ls : List Bs) (j : Nat), (∀ x ∈ ls, (10 : UInt8) ∉ x) → ((lnsT ls).take j).count 10 ≤ ls.length := by
        intro ls j hls
        have h1 : ((lnsT ls).take j).count 10 ≤ (lnsT ls).count 10 := (List.take_sublist j _).count_le _
        rw [lnsT_count ls hls] at h1
        exact h1
      have := key _ j hln
      rw [← lgT_lns, hm, hll] at this
      omega
    · exact c
  refine ⟨(rv_yes h3).1, hmn, ?_⟩
  rw [(rv_yes h3).2]
  have ht : ((List.range n).map fun k => (rc7 xs k).ln).take m = (List.range m).map fun k => (rc7 xs k).ln := by
    rw [← List.map_take, List.take_range, Nat.min_eq_left hmn]
  rw [ht] at hc
  have hall : (((List.range m).map fun k => (rc7 xs k).ln).take m).all rrB = true := by
    rw [List.all_eq_true]
    intro x hx
    have hx := List.mem_of_mem_take hx
    rw [List.mem_map] at hx
    obtain ⟨k, hk, rfl⟩ := hx
    exact (rr_ln ((rc7_ok xs k).trans (recsB_at h1 (by have := List.mem_range.1 hk; omega)))).1
  have hml : ((List.range m).map fun k => (rc7 xs k).ln).length = m := by simp
  have hw := rvW_at hc hall (by omega) (by omega) (.inl (by omega))
  rw [hw, List.take_of_length_le (by omega)]
  exact rcL_lines h1 hl m hmn
theorem lgT_count (xs : List Int) (n : Nat) : (lgT xs n).count 10 = n := by
  rw [lgT_lns, lnsT_count _ (fun x hx => by
    rw [List.mem_map] at hx
    obtain ⟨k, _, rfl⟩ := hx
    exact R7.ln_nl _)]
  simp
theorem count_snoc {l : Bs} {k : Nat} (h : k < l.length) : (l.take (k + 1)).count 10 = (l.take k).count 10 + if l[k] = 10 then 1 else 0 := by
  rw [List.take_succ_eq_append_getElem h, List.count_append]
  congr 1
  rw [List.count_singleton]
  simp
end Go.Proofs.YtoledbicmghmbaaGreatDoor
