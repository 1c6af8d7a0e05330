/- Grids: empty cells are filled from their neighbours: the plain model. Plain lemmas, no condition. -/
import Derived.Test.YthmcnoloeeabbaaGriM
namespace Go.Proofs.Ythmcnoloeeabbaa
open Go.RowKit

/-- two cells of rows of W lie side by side, or are one -/
def nearB (W i k : Nat) : Bool := decide (i % W ≤ k % W + 1) && (decide (k % W ≤ i % W + 1) && (decide (i / W ≤ k / W + 1) && decide (k / W ≤ i / W + 1)))
/-- k is a known neighbour of i -/
def nbB (g : DepthGridC) (i k : Nat) : Bool := nearB g.wide.toNat i k && (decide (k ≠ i) && decide (g.counts.getD k 0 ≠ 0))
def nbTo (g : DepthGridC) (i n : Nat) : List Nat := (List.range n).filter (nbB g i)
theorem nbTo_zero (g : DepthGridC) (i : Nat) : nbTo g i 0 = [] := rfl
theorem nbTo_yes {g : DepthGridC} {i n : Nat} (h : nbB g i n = true) : nbTo g i (n + 1) = nbTo g i n ++ [n] := by
  unfold nbTo; rw [List.range_succ, List.filter_append]; simp [h]
theorem nbTo_no {g : DepthGridC} {i n : Nat} (h : nbB g i n = false) : nbTo g i (n + 1) = nbTo g i n := by
  unfold nbTo; rw [List.range_succ, List.filter_append]; simp [h]
theorem nbTo_skip {g : DepthGridC} {i a : Nat} : ∀ (d : Nat), (∀ k, a ≤ k → k < a + d → nbB g i k = false) → nbTo g i (a + d) = nbTo g i a
  | 0, _ => rfl
  | d + 1, h => by
    rw [show a + (d + 1) = (a + d) + 1 by omega, nbTo_no (h (a + d) (by omega) (by omega))]
    exact nbTo_skip d fun k h1 h2 => h k h1 (by omega)
theorem nbTo_skip' {g : DepthGridC} {i a b : Nat} (hab : a ≤ b) (h : ∀ k, a ≤ k → k < b → nbB g i k = false) : nbTo g i b = nbTo g i a := by
  have := nbTo_skip (g := g) (i := i) (a := a) (b - a) fun k h1 h2 => h k h1 (by omega)
  rwa [show a + (b - a) = b by omega] at this
theorem near_false {g : DepthGridC} {i k : Nat} (h : nearB g.wide.toNat i k = false) : nbB g i k = false := by unfold nbB; rw [h]; rfl
theorem nearB_false {W i k : Nat} (h : k % W + 1 < i % W ∨ i % W + 1 < k % W ∨ k / W + 1 < i / W ∨ i / W + 1 < k / W) : nearB W i k = false := by
  unfold nearB
  rcases h with h | h | h | h <;> simp [Nat.not_le.2 h]
theorem nearB_true {W i k : Nat} (h1 : i % W ≤ k % W + 1) (h2 : k % W ≤ i % W + 1) (h3 : i / W ≤ k / W + 1) (h4 : k / W ≤ i / W + 1) : nearB W i k = true := by
  unfold nearB; simp [h1, h2, h3, h4]
theorem nearB_row {W i k : Nat} (h : nearB W i k = true) : i / W ≤ k / W + 1 ∧ k / W ≤ i / W + 1 := by
  unfold nearB at h
  simp only [Bool.and_eq_true, decide_eq_true_eq] at h
  exact h.2.2
theorem div_at {W : Nat} (h0 : 0 < W) (y : Nat) {x : Nat} (hx : x < W) : (y * W + x) / W = y ∧ (y * W + x) % W = x := by
  rw [Nat.add_comm, Nat.add_mul_div_right _ _ h0, Nat.add_mul_mod_self_right, Nat.div_eq_of_lt hx, Nat.mod_eq_of_lt hx]
  exact ⟨by omega, rfl⟩
section
variable {g : DepthGridC} {W i : Nat} (hW : g.wide.toNat = W) (h0 : 0 < W)
include hW h0
theorem nb_low {y : Nat} (_hy : y + 1 ≤ i / W ∨ y = 0) (hy2 : y = i / W - 1) : nbTo g i (y * W) = [] := by
  have h := nbTo_skip' (g := g) (i := i) (a := 0) (b := y * W) (Nat.zero_le _) fun k _ hk => near_false (by
    rw [hW]
    refine nearB_false (.inr (.inr (.inl ?_)))
    have hd : k / W < y := (Nat.div_lt_iff_lt_mul h0).2 hk
    generalize k / W = u at *
    generalize i / W = v at *
    omega)
  rw [h]; rfl
theorem nb_left (y : Nat) : nbTo g i (y * W + (i % W - 1)) = nbTo g i (y * W) := by
  refine nbTo_skip' (by omega) fun k h1 h2 => near_false ?_
  rw [hW]
  have hm := Nat.mod_lt i h0
  obtain ⟨x, rfl⟩ : ∃ x, k = y * W + x := ⟨k - y * W, by omega⟩
  have e := div_at h0 y (x := x) (by omega)
  refine nearB_false (.inl ?_)
  rw [e.2]; omega
theorem nb_right (y : Nat) {x1 : Nat} (hx : x1 = min (i % W + 2) W) : nbTo g i ((y + 1) * W) = nbTo g i (y * W + x1) := by
  rw [Nat.add_mul, Nat.one_mul]
  refine nbTo_skip' (by omega) fun k h1 h2 => near_false ?_
  rw [hW]
  obtain ⟨x, rfl⟩ : ∃ x, k = y * W + x := ⟨k - y * W, by omega⟩
  have e := div_at h0 y (x := x) (by omega)
  refine nearB_false (.inr (.inl ?_))
  rw [e.2]; omega
theorem nb_high {y1 H : Nat} (hy : y1 = min (i / W + 2) H) : nbTo g i (H * W) = nbTo g i (y1 * W) := by
  refine nbTo_skip' (Nat.mul_le_mul_right _ (by omega)) fun k h1 h2 => near_false ?_
  rw [hW]
  have hd : k / W < H := (Nat.div_lt_iff_lt_mul h0).2 h2
  have hd2 : y1 ≤ k / W := (Nat.le_div_iff_mul_le h0).2 h1
  refine nearB_false (.inr (.inr (.inr ?_)))
  omega
theorem nb_at {y x : Nat} (hx : x < W) (h1 : i % W - 1 ≤ x) (h2 : x ≤ i % W + 1) (h3 : i / W - 1 ≤ y) (h4 : y ≤ i / W + 1) :
    nbB g i (y * W + x) = (decide (y * W + x ≠ i) && decide (g.counts.getD (y * W + x) 0 ≠ 0)) := by
  have e := div_at h0 y hx
  unfold nbB
  rw [hW, nearB_true (by rw [e.2]; omega) (by rw [e.2]; omega) (by rw [e.1]; omega) (by rw [e.1]; omega)]
  rfl
theorem nb_len_aux : ∀ n, (nbTo g i n).length ≤ min n ((i / W + 2) * W) - (i / W - 1) * W
  | 0 => Nat.zero_le _
  | n + 1 => by
    have ih := nb_len_aux n
    rcases Bool.eq_false_or_eq_true (nbB g i n) with h | h
    · rw [nbTo_yes h, List.length_append, List.length_singleton]
      unfold nbB at h
      rw [Bool.and_eq_true, hW] at h
      have hr := nearB_row h.1
      have a1 : (i / W - 1) * W ≤ n := (Nat.le_div_iff_mul_le h0).1 (by have := hr.1; generalize i / W = u at *; generalize n / W = v at *; omega)
      have a2 : n < (i / W + 2) * W := (Nat.div_lt_iff_lt_mul h0).1 (by have := hr.2; generalize i / W = u at *; generalize n / W = v at *; omega)
      generalize (i / W - 1) * W = a at *
      generalize (i / W + 2) * W = b at *
      omega
    · rw [nbTo_no h]
      generalize (i / W - 1) * W = a at *
      generalize (i / W + 2) * W = b at *
      omega
theorem nb_len (n : Nat) : (nbTo g i n).length ≤ 3 * W := by
  have h := nb_len_aux (i := i) hW h0 n
  have e : (i / W + 2) * W ≤ (i / W - 1) * W + 3 * W := by rw [← Nat.add_mul]; exact Nat.mul_le_mul_right _ (by omega)
  omega
end
/-- a cell is filled from one more neighbour -/
def fillPut (r : DepthGridC) (i : Nat) (a b : Int) : DepthGridC := ⟨r.size, r.wide, r.high, r.counts.set i (-1), addD r.counts r.depths i a b⟩
def fillFrom (g r : DepthGridC) (i : Nat) (ks : List Nat) : DepthGridC := ks.foldl (fun r k => fillPut r i (g.depths.getD (k * 2) 0) (g.depths.getD (k * 2 + 1) 0)) r
theorem fillFrom_snoc (g r : DepthGridC) (i : Nat) (ks : List Nat) (k : Nat) : fillFrom g r i (ks ++ [k]) = fillPut (fillFrom g r i ks) i (g.depths.getD (k * 2) 0) (g.depths.getD (k * 2 + 1) 0) := by unfold fillFrom; rw [List.foldl_append]; rfl
/-- the bounds of what cells hold -/
def hullL (ds : List Int) : List Nat → Int × Int
  | [] => (0, 0)
  | k :: ks => ks.foldl (fun p j => (min p.1 (ds.getD (j * 2) 0), max p.2 (ds.getD (j * 2 + 1) 0))) (ds.getD (k * 2) 0, ds.getD (k * 2 + 1) 0)
theorem hullL_snoc (ds : List Int) (ks : List Nat) (k : Nat) (h : ks ≠ []) : hullL ds (ks ++ [k]) = (min (hullL ds ks).1 (ds.getD (k * 2) 0), max (hullL ds ks).2 (ds.getD (k * 2 + 1) 0)) := by
  cases ks with
  | nil => exact absurd rfl h
  | cons a t => show List.foldl _ _ (t ++ [k]) = _; rw [List.foldl_append]; rfl
def fillHull (r : DepthGridC) (i : Nat) (p : Int × Int) : DepthGridC := ⟨r.size, r.wide, r.high, r.counts.set i (-1), set2 r.depths i p.1 p.2⟩
theorem set2_get {ds : List Int} {i : Nat} {a b : Int} (h : i * 2 + 1 < ds.length) : (set2 ds i a b).getD (i * 2) 0 = a ∧ (set2 ds i a b).getD (i * 2 + 1) 0 = b := by
  unfold set2
  simp only [List.getD_eq_getElem?_getD]
  rw [List.getElem?_set_ne (show i * 2 + 1 ≠ i * 2 by omega), List.getElem?_set_self (by omega), List.getElem?_set_self (by simpa using h)]
  exact ⟨rfl, rfl⟩
theorem set2_set2 (ds : List Int) (i : Nat) (a b p q : Int) : set2 (set2 ds i a b) i p q = set2 ds i p q := by
  unfold set2
  rw [List.set_comm _ _ (show i * 2 + 1 ≠ i * 2 by omega), List.set_set, List.set_set, List.set_comm _ _ (show i * 2 ≠ i * 2 + 1 by omega)]
theorem getD_set_self {l : List Int} {i : Nat} {v : Int} (h : i < l.length) : (l.set i v).getD i 0 = v := by
  rw [List.getD_eq_getElem?_getD, List.getElem?_set_self h]; rfl
/-- filling from one neighbour after the other leaves the bounds of all of them -/
theorem fillFrom_hull {g r : DepthGridC} {i : Nat} (hi : i < r.counts.length) (hd : r.depths.length = r.counts.length * 2) (hc : r.counts.getD i 0 = 0) :
    ∀ (n : Nat) (ks : List Nat), ks.length = n → ks ≠ [] → fillFrom g r i ks = fillHull r i (hullL g.depths ks)
  | 0, ks, hn, hk => absurd (List.length_eq_zero_iff.1 hn) hk
  | n + 1, ks, hn, hk => by
    obtain ⟨l, k, rfl⟩ : ∃ l k, ks = l ++ [k] := ⟨ks.dropLast, ks.getLast hk, (List.dropLast_concat_getLast hk).symm⟩
    rw [fillFrom_snoc]
    by_cases h : l = []
    · subst h
      show fillPut r i _ _ = _
      unfold fillPut addD
      rw [if_pos hc]
      rfl
    · rw [fillFrom_hull hi hd hc n l (by simpa using hn) h, hullL_snoc _ _ _ h]
      unfold fillPut fillHull addD
      simp only
      rw [getD_set_self hi, if_neg (by decide), (set2_get (by omega)).1, (set2_get (by omega)).2, set2_set2, List.set_set]
/-- the cells below n are looked at -/
def fgTo (g : DepthGridC) : Nat → DepthGridC
  | 0 => g
  | n + 1 => if g.counts.getD n 0 = 0 ∧ 3 ≤ (nbTo g n g.counts.length).length then fillHull (fgTo g n) n (hullL g.depths (nbTo g n g.counts.length)) else fgTo g n
theorem fgTo_no {g : DepthGridC} {n : Nat} (h : ¬ (g.counts.getD n 0 = 0 ∧ 3 ≤ (nbTo g n g.counts.length).length)) : fgTo g (n + 1) = fgTo g n := if_neg h
theorem fgTo_yes {g : DepthGridC} {n : Nat} (h : g.counts.getD n 0 = 0) (h2 : 3 ≤ (nbTo g n g.counts.length).length) : fgTo g (n + 1) = fillHull (fgTo g n) n (hullL g.depths (nbTo g n g.counts.length)) := if_pos ⟨h, h2⟩
theorem fgTo_side (g : DepthGridC) : ∀ n, (fgTo g n).size = g.size ∧ (fgTo g n).wide = g.wide ∧ (fgTo g n).high = g.high ∧ (fgTo g n).counts.length = g.counts.length ∧ (fgTo g n).depths.length = g.depths.length
  | 0 => ⟨rfl, rfl, rfl, rfl, rfl⟩
  | n + 1 => by
    have h1 := fgTo_side g n
    unfold fgTo
    split
    · exact ⟨h1.1, h1.2.1, h1.2.2.1, by unfold fillHull; simp only; rw [List.length_set]; exact h1.2.2.2.1, by unfold fillHull; simp only; rw [set2_len]; exact h1.2.2.2.2⟩
    · exact h1
/-- a cell that was not reached is as it was -/
theorem fgTo_at (g : DepthGridC) {i : Nat} : ∀ n, n ≤ i → (fgTo g n).counts.getD i 0 = g.counts.getD i 0 ∧ (fgTo g n).depths.getD (i * 2) 0 = g.depths.getD (i * 2) 0 ∧ (fgTo g n).depths.getD (i * 2 + 1) 0 = g.depths.getD (i * 2 + 1) 0
  | 0, _ => ⟨rfl, rfl, rfl⟩
  | n + 1, hn => by
    have h1 := fgTo_at g (i := i) n (by omega)
    unfold fgTo
    split
    · unfold fillHull set2
      simp only [List.getD_eq_getElem?_getD] at h1 ⊢
      rw [List.getElem?_set_ne (show n ≠ i by omega), List.getElem?_set_ne (show n * 2 + 1 ≠ i * 2 by omega), List.getElem?_set_ne (show n * 2 ≠ i * 2 by omega), List.getElem?_set_ne (show n * 2 + 1 ≠ i * 2 + 1 by omega), List.getElem?_set_ne (show n * 2 ≠ i * 2 + 1 by omega)]
      exact h1
    · exact h1
def fgC (g : DepthGridC) : Int := if gridOk g = true then 0 else 1
def fgR (g : DepthGridC) : DepthGridC := if gridOk g = true then fgTo g g.counts.length else zeroGrid
theorem fg_bad {g : DepthGridC} (h : gridOk g = false) : fgC g = 1 ∧ fgR g = zeroGrid := by unfold fgC fgR; simp [h]
theorem fg_ok {g : DepthGridC} (h : gridOk g = true) : fgC g = 0 ∧ fgR g = fgTo g g.counts.length := by unfold fgC fgR; simp [h]
end Go.Proofs.Ythmcnoloeeabbaa
