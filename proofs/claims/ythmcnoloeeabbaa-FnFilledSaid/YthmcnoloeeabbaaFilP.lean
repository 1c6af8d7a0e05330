/- Filling, plainly: what is known stays, what is filled lies between the known ones; the shoalest cell, the means, the cells that are dangerous. No program. -/
import Derived.Test.YthmcnoloeeabbaaFilM
namespace Go.Proofs.Ythmcnoloeeabbaa
open Go.RowKit

theorem intLtOrGe (a b : Int) : a < b ∨ b ≤ a := by omega
theorem nbTo_mem {g : DepthGridC} {i n k : Nat} (h : k ∈ nbTo g i n) : k < n ∧ g.counts.getD k 0 ≠ 0 := by
  unfold nbTo at h
  rw [List.mem_filter, List.mem_range] at h
  refine ⟨h.1, ?_⟩
  have h2 := h.2
  unfold nbB at h2
  simp only [Bool.and_eq_true, decide_eq_true_eq] at h2
  exact h2.2.2
theorem hullL_bd {ds : List Int} {m M : Int} : ∀ (n : Nat) (ks : List Nat), ks.length = n → ks ≠ [] → (∀ k ∈ ks, m ≤ ds.getD (k * 2) 0 ∧ ds.getD (k * 2) 0 ≤ ds.getD (k * 2 + 1) 0 ∧ ds.getD (k * 2 + 1) 0 ≤ M) →
    m ≤ (hullL ds ks).1 ∧ (hullL ds ks).1 ≤ (hullL ds ks).2 ∧ (hullL ds ks).2 ≤ M
  | 0, ks, hn, hk, _ => absurd (List.length_eq_zero_iff.1 hn) hk
  | n + 1, ks, hn, hk, hb => by
    obtain ⟨l, k, rfl⟩ : ∃ l k, ks = l ++ [k] := ⟨ks.dropLast, ks.getLast hk, (List.dropLast_concat_getLast hk).symm⟩
    have h0 := hb k (by simp)
    by_cases h : l = []
    · subst h
      exact h0
    · have h1 := hullL_bd n l (by simpa using hn) h (fun j hj => hb j (by simp [hj]))
      rw [hullL_snoc _ _ _ h]
      simp only
      omega
/-- A cell is as it was, or it was empty and is filled. -/
theorem fgTo_cell (g : DepthGridC) (hd : g.depths.length = g.counts.length * 2) {i : Nat} (hi : i < g.counts.length) : ∀ n,
    ((fgTo g n).counts.getD i 0 = g.counts.getD i 0 ∧ (fgTo g n).depths.getD (i * 2) 0 = g.depths.getD (i * 2) 0 ∧ (fgTo g n).depths.getD (i * 2 + 1) 0 = g.depths.getD (i * 2 + 1) 0) ∨
    (g.counts.getD i 0 = 0 ∧ 3 ≤ (nbTo g i g.counts.length).length ∧ (fgTo g n).counts.getD i 0 = -1 ∧ (fgTo g n).depths.getD (i * 2) 0 = (hullL g.depths (nbTo g i g.counts.length)).1 ∧ (fgTo g n).depths.getD (i * 2 + 1) 0 = (hullL g.depths (nbTo g i g.counts.length)).2)
  | 0 => .inl ⟨rfl, rfl, rfl⟩
  | n + 1 => by
    have h1 := fgTo_cell g hd hi n
    have hs := fgTo_side g n
    by_cases hc : g.counts.getD n 0 = 0 ∧ 3 ≤ (nbTo g n g.counts.length).length
    · rw [fgTo_yes hc.1 hc.2]
      by_cases hin : n = i
      · subst hin
        right
        have e1 := (set2_get (ds := (fgTo g n).depths) (i := n) (a := (hullL g.depths (nbTo g n g.counts.length)).1) (b := (hullL g.depths (nbTo g n g.counts.length)).2) (by omega))
        exact ⟨hc.1, hc.2, getD_set_self (by omega), e1.1, e1.2⟩
      · have e : ((fillHull (fgTo g n) n (hullL g.depths (nbTo g n g.counts.length))).counts.getD i 0 = (fgTo g n).counts.getD i 0 ∧ (fillHull (fgTo g n) n (hullL g.depths (nbTo g n g.counts.length))).depths.getD (i * 2) 0 = (fgTo g n).depths.getD (i * 2) 0 ∧ (fillHull (fgTo g n) n (hullL g.depths (nbTo g n g.counts.length))).depths.getD (i * 2 + 1) 0 = (fgTo g n).depths.getD (i * 2 + 1) 0) := by
          unfold fillHull set2
          simp only [List.getD_eq_getElem?_getD]
          rw [List.getElem?_set_ne (show n ≠ i by omega), List.getElem?_set_ne (show n * 2 + 1 ≠ i * 2 by omega), List.getElem?_set_ne (show n * 2 ≠ i * 2 by omega), List.getElem?_set_ne (show n * 2 + 1 ≠ i * 2 + 1 by omega), List.getElem?_set_ne (show n * 2 ≠ i * 2 + 1 by omega)]
          exact ⟨rfl, rfl, rfl⟩
        rw [e.1, e.2.1, e.2.2]
        exact h1
    · rw [fgTo_no hc]
      exact h1
theorem fgTo_GOk {g : DepthGridC} (K : GOk g) (n : Nat) : GOk (fgTo g n) := by
  have hs := fgTo_side g n
  refine ⟨by rw [hs.1]; exact K.s0, by rw [hs.1]; exact K.s1, by rw [hs.2.1]; exact K.w0, by rw [hs.2.1]; exact K.w1, by rw [hs.2.2.1]; exact K.h0, by rw [hs.2.2.1]; exact K.h1, by rw [hs.2.1, hs.2.2.1, hs.2.2.2.1]; exact K.len, by rw [hs.2.2.2.1, hs.2.2.2.2]; exact K.eq, ?_⟩
  rw [hs.2.2.2.1]
  refine gcellsB_of fun i hi => ?_
  rcases fgTo_cell g K.eq hi n with h | h
  · rw [h.1, h.2.1, h.2.2]; exact K.at_ hi
  · have hb := hullL_bd (ds := g.depths) (m := -1000000000000) (M := 1000000000000) _ (nbTo g i g.counts.length) rfl (by intro c; rw [c] at h; simp at h) (fun k hk => by
      have h1 := nbTo_mem hk
      have h2 := gcellB_bd (K.at_ h1.1)
      omega)
    rw [h.2.2.1, h.2.2.2.1, h.2.2.2.2]
    exact gcellB_mk (by omega) (by omega) hb.1 hb.2.1 hb.2.2 (by omega)
/-- the shoalest of the cells below n, or -1 -/
def shTo (g : DepthGridC) : Nat → Int
  | 0 => -1
  | n + 1 => if g.counts.getD n 0 ≠ 0 ∧ (shTo g n < 0 ∨ g.depths.getD (n * 2) 0 < g.depths.getD ((shTo g n).toNat * 2) 0) then (n : Int) else shTo g n
theorem shTo_yes {g : DepthGridC} {n : Nat} (h : g.counts.getD n 0 ≠ 0) (h2 : shTo g n < 0 ∨ g.depths.getD (n * 2) 0 < g.depths.getD ((shTo g n).toNat * 2) 0) : shTo g (n + 1) = (n : Int) := if_pos ⟨h, h2⟩
theorem shTo_no {g : DepthGridC} {n : Nat} (h : ¬ (g.counts.getD n 0 ≠ 0 ∧ (shTo g n < 0 ∨ g.depths.getD (n * 2) 0 < g.depths.getD ((shTo g n).toNat * 2) 0))) : shTo g (n + 1) = shTo g n := if_neg h
theorem shTo_bd (g : DepthGridC) : ∀ n, -1 ≤ shTo g n ∧ shTo g n < (n : Int) ∧ (0 ≤ shTo g n → g.counts.getD (shTo g n).toNat 0 ≠ 0)
  | 0 => ⟨by unfold shTo; omega, by unfold shTo; omega, fun h => by unfold shTo at h; omega⟩
  | n + 1 => by
    have h1 := shTo_bd g n
    by_cases h : g.counts.getD n 0 ≠ 0 ∧ (shTo g n < 0 ∨ g.depths.getD (n * 2) 0 < g.depths.getD ((shTo g n).toNat * 2) 0)
    · rw [shTo_yes h.1 h.2]
      refine ⟨by omega, by omega, fun _ => ?_⟩
      rw [Int.toNat_natCast]; exact h.1
    · rw [shTo_no h]
      exact ⟨h1.1, by omega, h1.2.2⟩
theorem shTo_least (g : DepthGridC) : ∀ n i, i < n → g.counts.getD i 0 ≠ 0 → 0 ≤ shTo g n ∧ g.depths.getD ((shTo g n).toNat * 2) 0 ≤ g.depths.getD (i * 2) 0
  | 0, i, hi, _ => absurd hi (by omega)
  | n + 1, i, hi, hc => by
    by_cases h : g.counts.getD n 0 ≠ 0 ∧ (shTo g n < 0 ∨ g.depths.getD (n * 2) 0 < g.depths.getD ((shTo g n).toNat * 2) 0)
    · rw [shTo_yes h.1 h.2, Int.toNat_natCast]
      refine ⟨by omega, ?_⟩
      by_cases hin : i = n
      · subst hin; omega
      · have h1 := shTo_least g n i (by omega) hc
        have h2 := h.2
        omega
    · rw [shTo_no h]
      by_cases hin : i = n
      · subst hin
        by_cases h2 : shTo g i < 0
        · exact absurd ⟨hc, .inl h2⟩ h
        · refine ⟨by omega, ?_⟩
          rcases intLtOrGe (g.depths.getD (i * 2) 0) (g.depths.getD ((shTo g i).toNat * 2) 0) with h3 | h3
          · exact absurd ⟨hc, .inr h3⟩ h
          · exact h3
      · exact shTo_least g n i (by omega) hc
def shC (g : DepthGridC) : Int := if gridOk g = true then (if shTo g g.counts.length < 0 then 4 else 0) else 1
def shV (g : DepthGridC) : Int := if shC g = 0 then shTo g g.counts.length else 0
theorem sh_bad {g : DepthGridC} (h : gridOk g = false) : shC g = 1 ∧ shV g = 0 := by unfold shV shC; simp [h]
theorem sh_none {g : DepthGridC} (h : gridOk g = true) (h2 : shTo g g.counts.length < 0) : shC g = 4 ∧ shV g = 0 := by unfold shV shC; simp [h, h2]
theorem sh_some {g : DepthGridC} (h : gridOk g = true) (h2 : 0 ≤ shTo g g.counts.length) : shC g = 0 ∧ shV g = shTo g g.counts.length := by
  have : ¬ shTo g g.counts.length < 0 := by omega
  unfold shV shC; simp [h, this]
theorem sh_ok {g : DepthGridC} (h : gridOk g = true) (h2 : shC g = 0) : 0 ≤ shTo g g.counts.length ∧ shV g = shTo g g.counts.length := by
  rcases intLtOrGe (shTo g g.counts.length) 0 with h3 | h3
  · rw [(sh_none h h3).1] at h2; omega
  · exact ⟨h3, (sh_some h h3).2⟩
/-- how many of the cells below n are known, and the sums of their bounds -/
def knTo (g : DepthGridC) : Nat → Int
  | 0 => 0
  | n + 1 => if g.counts.getD n 0 = 0 then knTo g n else knTo g n + 1
def loTo (g : DepthGridC) : Nat → Int
  | 0 => 0
  | n + 1 => if g.counts.getD n 0 = 0 then loTo g n else loTo g n + g.depths.getD (n * 2) 0
def hiTo (g : DepthGridC) : Nat → Int
  | 0 => 0
  | n + 1 => if g.counts.getD n 0 = 0 then hiTo g n else hiTo g n + g.depths.getD (n * 2 + 1) 0
theorem sums_no {g : DepthGridC} {n : Nat} (h : g.counts.getD n 0 = 0) : knTo g (n + 1) = knTo g n ∧ loTo g (n + 1) = loTo g n ∧ hiTo g (n + 1) = hiTo g n := ⟨if_pos h, if_pos h, if_pos h⟩
theorem sums_yes {g : DepthGridC} {n : Nat} (h : g.counts.getD n 0 ≠ 0) : knTo g (n + 1) = knTo g n + 1 ∧ loTo g (n + 1) = loTo g n + g.depths.getD (n * 2) 0 ∧ hiTo g (n + 1) = hiTo g n + g.depths.getD (n * 2 + 1) 0 := ⟨if_neg h, if_neg h, if_neg h⟩
theorem sums_bd {g : DepthGridC} (K : GOk g) : ∀ n, n ≤ g.counts.length → (0 ≤ knTo g n ∧ knTo g n ≤ (n : Int)) ∧ -(1000000000000 * (n : Int)) ≤ loTo g n ∧ loTo g n ≤ hiTo g n ∧ hiTo g n ≤ 1000000000000 * (n : Int)
  | 0, _ => by unfold knTo loTo hiTo; omega
  | n + 1, hn => by
    have h1 := sums_bd K n (by omega)
    have h2 := gcellB_bd (K.at_ (show n < g.counts.length by omega))
    by_cases h : g.counts.getD n 0 = 0
    · have e := sums_no h
      rw [e.1, e.2.1, e.2.2]; omega
    · have e := sums_yes h
      rw [e.1, e.2.1, e.2.2]; omega
theorem kn_pos {g : DepthGridC} {n i : Nat} (hi : i < n) (hc : g.counts.getD i 0 ≠ 0) : 0 < knTo g n := by
  have h0 : ∀ m, 0 ≤ knTo g m := fun m => by
    induction m with
    | zero => unfold knTo; omega
    | succ m ih => unfold knTo; split <;> omega
  induction n with
  | zero => omega
  | succ n ih =>
    by_cases h : g.counts.getD n 0 = 0
    · rw [(sums_no h).1]
      have : i ≠ n := fun c => hc (c ▸ h)
      exact ih (by omega)
    · rw [(sums_yes h).1]; have := h0 n; omega
theorem kn_zero {g : DepthGridC} {n : Nat} (h : ∀ i, i < n → g.counts.getD i 0 = 0) : knTo g n = 0 := by
  induction n with
  | zero => rfl
  | succ n ih => rw [(sums_no (h n (by omega))).1]; exact ih fun i hi => h i (by omega)
theorem lo_least {g : DepthGridC} {m : Int} {n : Nat} (h : ∀ i, i < n → g.counts.getD i 0 ≠ 0 → m ≤ g.depths.getD (i * 2) 0) : m * knTo g n ≤ loTo g n := by
  induction n with
  | zero => unfold knTo loTo; omega
  | succ n ih =>
    have h1 := ih fun i hi => h i (by omega)
    by_cases h2 : g.counts.getD n 0 = 0
    · have e := sums_no h2
      rw [e.1, e.2.1]; exact h1
    · have e := sums_yes h2
      have h3 := h n (by omega) h2
      rw [e.1, e.2.1, Int.mul_add, Int.mul_one]; omega
def mdC (g : DepthGridC) : Int := if gridOk g = true then (if knTo g g.counts.length = 0 then 4 else 0) else 1
def mdL (g : DepthGridC) : Int := if mdC g = 0 then loTo g g.counts.length / knTo g g.counts.length else 0
def mdH (g : DepthGridC) : Int := if mdC g = 0 then -(-hiTo g g.counts.length / knTo g g.counts.length) else 0
theorem md_bad {g : DepthGridC} (h : gridOk g = false) : mdC g = 1 ∧ mdL g = 0 ∧ mdH g = 0 := by unfold mdL mdH mdC; simp [h]
theorem md_none {g : DepthGridC} (h : gridOk g = true) (h2 : knTo g g.counts.length = 0) : mdC g = 4 ∧ mdL g = 0 ∧ mdH g = 0 := by unfold mdL mdH mdC; simp [h, h2]
theorem md_some {g : DepthGridC} (h : gridOk g = true) (h2 : knTo g g.counts.length ≠ 0) : mdC g = 0 ∧ mdL g = loTo g g.counts.length / knTo g g.counts.length ∧ mdH g = -(-hiTo g g.counts.length / knTo g g.counts.length) := by unfold mdL mdH mdC; simp [h, h2]
/-- the cells below n that are empty or too shoal -/
def dgB (g : DepthGridC) (d : Int) (i : Nat) : Bool := decide (g.counts.getD i 0 = 0) || decide (g.depths.getD (i * 2) 0 < d)
def dgTo (g : DepthGridC) (d : Int) (n : Nat) : List Int := ((List.range n).filter (dgB g d)).map fun i : Nat => (i : Int)
theorem dgTo_yes {g : DepthGridC} {d : Int} {n : Nat} (h : dgB g d n = true) : dgTo g d (n + 1) = dgTo g d n ++ [(n : Int)] := by unfold dgTo; rw [List.range_succ, List.filter_append, List.map_append]; simp [h]
theorem dgTo_no {g : DepthGridC} {d : Int} {n : Nat} (h : dgB g d n = false) : dgTo g d (n + 1) = dgTo g d n := by unfold dgTo; rw [List.range_succ, List.filter_append, List.map_append]; simp [h]
theorem dgTo_len (g : DepthGridC) (d : Int) (n : Nat) : (dgTo g d n).length ≤ n := by
  unfold dgTo
  rw [List.length_map]
  exact Nat.le_trans (List.length_filter_le _ _) (by simp)
def dgC (g : DepthGridC) (d : Int) : Int := if gridOk g = true then (if inR d 0 1000000 = true then 0 else 2) else 1
def dgR (g : DepthGridC) (d : Int) : List Int := if dgC g d = 0 then dgTo g d g.counts.length else []
theorem dg_bad {g : DepthGridC} (d : Int) (h : gridOk g = false) : dgC g d = 1 ∧ dgR g d = [] := by unfold dgR dgC; simp [h]
theorem dg_out {g : DepthGridC} {d : Int} (h : gridOk g = true) (h2 : inR d 0 1000000 = false) : dgC g d = 2 ∧ dgR g d = [] := by unfold dgR dgC; simp [h, h2]
theorem dg_ok {g : DepthGridC} {d : Int} (h : gridOk g = true) (h2 : inR d 0 1000000 = true) : dgC g d = 0 ∧ dgR g d = dgTo g d g.counts.length := by unfold dgR dgC; simp [h, h2]
/-- The law's facts. -/
theorem fill_known {g : DepthGridC} (h : gridOk g = true) {i : Nat} (hi : i < g.counts.length) (hc : g.counts.getD i 0 ≠ 0) :
    (fgR g).counts.getD i 0 = g.counts.getD i 0 ∧ (fgR g).depths.getD (i * 2) 0 = g.depths.getD (i * 2) 0 ∧ (fgR g).depths.getD (i * 2 + 1) 0 = g.depths.getD (i * 2 + 1) 0 := by
  rw [(fg_ok h).2]
  rcases fgTo_cell g (GOk.of h).eq hi g.counts.length with h1 | h1
  · exact h1
  · exact absurd h1.1 hc
theorem fill_deep {g : DepthGridC} (h : gridOk g = true) {i : Nat} (hi : i < g.counts.length) (hc : (fgR g).counts.getD i 0 ≠ 0) :
    shC g = 0 ∧ 0 ≤ shV g ∧ shV g < (g.counts.length : Int) ∧ g.depths.getD ((shV g).toNat * 2) 0 ≤ (fgR g).depths.getD (i * 2) 0 := by
  rw [(fg_ok h).2] at hc ⊢
  have hb := shTo_bd g g.counts.length
  rcases fgTo_cell g (GOk.of h).eq hi g.counts.length with h1 | h1
  · rw [h1.1] at hc
    have h2 := shTo_least g g.counts.length i hi hc
    have h3 := sh_some h h2.1
    rw [h3.1, h3.2, h1.2.1]
    exact ⟨rfl, h2.1, hb.2.1, h2.2⟩
  · have hne : nbTo g i g.counts.length ≠ [] := by intro c; rw [c] at h1; simp at h1
    obtain ⟨k, hk⟩ := List.exists_mem_of_ne_nil _ hne
    have h2 := nbTo_mem hk
    have h3 := shTo_least g g.counts.length k h2.1 h2.2
    have h4 := sh_some h h3.1
    have h5 := hullL_bd (ds := g.depths) (m := g.depths.getD ((shTo g g.counts.length).toNat * 2) 0) (M := 1000000000000) _ (nbTo g i g.counts.length) rfl hne (fun j hj => by
      have h6 := nbTo_mem hj
      have h7 := gcellB_bd ((GOk.of h).at_ h6.1)
      exact ⟨(shTo_least g g.counts.length j h6.1 h6.2).2, by omega, by omega⟩)
    rw [h4.1, h4.2, h1.2.2.2.1]
    exact ⟨rfl, h3.1, hb.2.1, h5.1⟩
theorem fill_mean {g : DepthGridC} (h : gridOk g = true) (hc : shC g = 0) :
    mdC g = 0 ∧ 0 ≤ shV g ∧ shV g < (g.counts.length : Int) ∧ g.depths.getD ((shV g).toNat * 2) 0 ≤ mdL g ∧ mdL g ≤ mdH g ∧ gridOk (fgR g) = true := by
  obtain ⟨h1, h2⟩ := sh_ok h hc
  have hb := shTo_bd g g.counts.length
  have hp := kn_pos (g := g) (n := g.counts.length) (i := (shTo g g.counts.length).toNat) (by omega) (hb.2.2 h1)
  have hm := md_some h (show knTo g g.counts.length ≠ 0 by omega)
  have hs := sums_bd (GOk.of h) g.counts.length (Nat.le_refl _)
  have hl := lo_least (g := g) (m := g.depths.getD ((shTo g g.counts.length).toNat * 2) 0) (n := g.counts.length) fun i hi hc => (shTo_least g g.counts.length i hi hc).2
  rw [hm.1, hm.2.1, hm.2.2, h2, (fg_ok h).2]
  refine ⟨rfl, h1, hb.2.1, (Int.le_ediv_iff_mul_le hp).2 hl, ?_, GOk.to (fgTo_GOk (GOk.of h) _)⟩
  have a1 := Int.ediv_mul_le (loTo g g.counts.length) (show knTo g g.counts.length ≠ 0 by omega)
  have a2 := Int.ediv_mul_le (-hiTo g g.counts.length) (show knTo g g.counts.length ≠ 0 by omega)
  refine Int.le_of_mul_le_mul_right (a := knTo g g.counts.length) ?_ hp
  rw [Int.neg_mul]
  omega
end Go.Proofs.Ythmcnoloeeabbaa
