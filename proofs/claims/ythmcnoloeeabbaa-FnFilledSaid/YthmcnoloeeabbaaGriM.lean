/- Grids: the plain model: when a grid is valid, an interval put into a cell, merging, filling. Plain lemmas, no condition. -/
import Derived.Test.YthmcnoloeeabbaaOwnDepthGrid
namespace Go.Proofs.Ythmcnoloeeabbaa
open Go.RowKit

/-- a valid interval -/
def ivB (a b : Int) : Bool := inR a (-1000000000000) 1000000000000 && inR b (-1000000000000) 1000000000000 && decide (a ≤ b)
theorem ivB_true {a b : Int} (h : ivB a b = true) : -1000000000000 ≤ a ∧ a ≤ b ∧ b ≤ 1000000000000 := by
  unfold ivB at h
  simp only [Bool.and_eq_true, decide_eq_true_eq] at h
  have h1 := inR_true h.1.1; have h2 := inR_true h.1.2; have h3 := h.2
  omega
theorem ivB_mk {a b : Int} (h1 : -1000000000000 ≤ a) (h2 : a ≤ b) (h3 : b ≤ 1000000000000) : ivB a b = true := by
  unfold ivB; rw [inR_mk h1 (by omega), inR_mk (by omega) h3, decide_eq_true h2]; rfl
/-- a valid cell -/
def gcellB (c a b : Int) : Bool := inR c (-1) 1000000000000 && ivB a b && !(decide (c = 0) && !(decide (a = 0) && decide (b = 0)))
def gcellsB (cs ds : List Int) (k : Nat) : Bool := (List.range k).all fun i => gcellB (cs.getD i 0) (ds.getD (i * 2) 0) (ds.getD (i * 2 + 1) 0)
theorem gcellsB_succ (cs ds : List Int) (n : Nat) : gcellsB cs ds (n + 1) = (gcellsB cs ds n && gcellB (cs.getD n 0) (ds.getD (n * 2) 0) (ds.getD (n * 2 + 1) 0)) := by unfold gcellsB; rw [List.range_succ, List.all_append]; simp
theorem gcellsB_at {cs ds : List Int} {n k : Nat} (h : gcellsB cs ds n = true) (hk : k < n) : gcellB (cs.getD k 0) (ds.getD (k * 2) 0) (ds.getD (k * 2 + 1) 0) = true := by
  unfold gcellsB at h
  rw [List.all_eq_true] at h
  exact h k (List.mem_range.2 hk)
theorem gcellsB_false {cs ds : List Int} {k n : Nat} (h : gcellB (cs.getD k 0) (ds.getD (k * 2) 0) (ds.getD (k * 2 + 1) 0) = false) (hk : k < n) : gcellsB cs ds n = false := by
  rw [Bool.eq_false_iff]; intro c
  rw [gcellsB_at c hk] at h; cases h
theorem gcellsB_of {cs ds : List Int} {n : Nat} (h : ∀ k, k < n → gcellB (cs.getD k 0) (ds.getD (k * 2) 0) (ds.getD (k * 2 + 1) 0) = true) : gcellsB cs ds n = true := by
  unfold gcellsB; rw [List.all_eq_true]; intro k hk; exact h k (List.mem_range.1 hk)
theorem gcellB_bd {c a b : Int} (h : gcellB c a b = true) : -1 ≤ c ∧ c ≤ 1000000000000 ∧ -1000000000000 ≤ a ∧ a ≤ b ∧ b ≤ 1000000000000 ∧ (c = 0 → a = 0 ∧ b = 0) := by
  unfold gcellB at h
  simp only [Bool.and_eq_true] at h
  have h1 := inR_true h.1.1; have h2 := ivB_true h.1.2
  refine ⟨h1.1, h1.2, h2.1, h2.2.1, h2.2.2, fun e => ?_⟩
  have h3 := h.2
  simp only [e, decide_true, Bool.true_and, Bool.not_not, Bool.and_eq_true, decide_eq_true_eq] at h3
  exact h3
theorem gcellB_mk {c a b : Int} (h1 : -1 ≤ c) (h2 : c ≤ 1000000000000) (h3 : -1000000000000 ≤ a) (h4 : a ≤ b) (h5 : b ≤ 1000000000000) (h6 : c = 0 → a = 0 ∧ b = 0) : gcellB c a b = true := by
  unfold gcellB
  rw [inR_mk h1 h2, ivB_mk h3 h4 h5]
  by_cases e : c = 0
  · have := h6 e; simp [e, this.1, this.2]
  · simp [e]
def gshape (s w h : Int) : Bool := inR s 1 10000 && inR w 1 30 && inR h 1 30
def gridSide (g : DepthGridC) : Bool := gshape g.size g.wide g.high && decide ((g.counts.length : Int) = g.wide * g.high) && decide (g.depths.length = g.counts.length * 2)
def gridOk (g : DepthGridC) : Bool := gridSide g && gcellsB g.counts g.depths g.counts.length
structure GOk (g : DepthGridC) : Prop where
  s0 : 1 ≤ g.size
  s1 : g.size ≤ 10000
  w0 : 1 ≤ g.wide
  w1 : g.wide ≤ 30
  h0 : 1 ≤ g.high
  h1 : g.high ≤ 30
  len : (g.counts.length : Int) = g.wide * g.high
  eq : g.depths.length = g.counts.length * 2
  cel : gcellsB g.counts g.depths g.counts.length = true
theorem gshape_true {s w h : Int} (k : gshape s w h = true) : (1 ≤ s ∧ s ≤ 10000) ∧ (1 ≤ w ∧ w ≤ 30) ∧ 1 ≤ h ∧ h ≤ 30 := by
  unfold gshape at k
  simp only [Bool.and_eq_true] at k
  exact ⟨inR_true k.1.1, inR_true k.1.2, inR_true k.2⟩
theorem GOk.of {g : DepthGridC} (h : gridOk g = true) : GOk g := by
  unfold gridOk gridSide at h
  simp only [Bool.and_eq_true, decide_eq_true_eq] at h
  obtain ⟨⟨⟨h1, h4⟩, h5⟩, h6⟩ := h
  have k := gshape_true h1
  exact ⟨k.1.1, k.1.2, k.2.1.1, k.2.1.2, k.2.2.1, k.2.2.2, h4, h5, h6⟩
theorem GOk.to {g : DepthGridC} (k : GOk g) : gridOk g = true := by
  unfold gridOk gridSide gshape
  rw [inR_mk k.s0 k.s1, inR_mk k.w0 k.w1, inR_mk k.h0 k.h1, decide_eq_true k.len, decide_eq_true k.eq, k.cel]; rfl
theorem gmul_bd {a b : Int} (h0 : 1 ≤ a) (h1 : a ≤ 30) (h2 : 1 ≤ b) (h3 : b ≤ 30) : 1 ≤ a * b ∧ a * b ≤ 900 := by
  have h4 : 1 * 1 ≤ a * b := Int.mul_le_mul h0 h2 (by omega) (by omega)
  have h5 : a * b ≤ 30 * 30 := Int.mul_le_mul h1 h3 (by omega) (by omega)
  omega
theorem GOk.bd {g : DepthGridC} (h : GOk g) : g.counts.length ≤ 900 ∧ 1 ≤ g.counts.length := by
  have := gmul_bd h.w0 h.w1 h.h0 h.h1
  have := h.len
  omega
theorem GOk.at_ {g : DepthGridC} (h : GOk g) {k : Nat} (hk : k < g.counts.length) : gcellB (g.counts.getD k 0) (g.depths.getD (k * 2) 0) (g.depths.getD (k * 2 + 1) 0) = true := gcellsB_at h.cel hk
def zeroGrid : DepthGridC := ⟨0, 0, 0, [], []⟩

/-- an interval is put into a cell -/
def set2 (ds : List Int) (i : Nat) (a b : Int) : List Int := (ds.set (i * 2) a).set (i * 2 + 1) b
theorem set2_len (ds : List Int) (i : Nat) (a b : Int) : (set2 ds i a b).length = ds.length := by unfold set2; simp
def addD (cs ds : List Int) (i : Nat) (a b : Int) : List Int := if cs.getD i 0 = 0 then set2 ds i a b else set2 ds i (min (ds.getD (i * 2) 0) a) (max (ds.getD (i * 2 + 1) 0) b)
theorem addD_len (cs ds : List Int) (i : Nat) (a b : Int) : (addD cs ds i a b).length = ds.length := by unfold addD; split <;> exact set2_len _ _ _ _

/-- the number of a merged cell -/
def mcnt (a b : Int) : Int := if b = 0 then a else if max a 0 + max b 0 = 0 then -1 else max a 0 + max b 0
/-- the cells below n of another grid are merged -/
def gmTo (g h : DepthGridC) (n : Nat) : DepthGridC :=
  (List.range n).foldl (fun r i => if h.counts.getD i 0 = 0 then r else ⟨r.size, r.wide, r.high, r.counts.set i (mcnt (g.counts.getD i 0) (h.counts.getD i 0)), addD g.counts r.depths i (h.depths.getD (i * 2) 0) (h.depths.getD (i * 2 + 1) 0)⟩) g
theorem gmTo_succ (g h : DepthGridC) (n : Nat) : gmTo g h (n + 1) = if h.counts.getD n 0 = 0 then gmTo g h n else
    ⟨(gmTo g h n).size, (gmTo g h n).wide, (gmTo g h n).high, (gmTo g h n).counts.set n (mcnt (g.counts.getD n 0) (h.counts.getD n 0)), addD g.counts (gmTo g h n).depths n (h.depths.getD (n * 2) 0) (h.depths.getD (n * 2 + 1) 0)⟩ := by
  unfold gmTo; rw [List.range_succ, List.foldl_append]; rfl
theorem gmTo_zero (g h : DepthGridC) : gmTo g h 0 = g := rfl
/-- no merged cell below n has too many soundings -/
def gmFit (g h : DepthGridC) (n : Nat) : Bool := (List.range n).all fun i => decide (mcnt (g.counts.getD i 0) (h.counts.getD i 0) ≤ 1000000000000)
theorem gmFit_succ (g h : DepthGridC) (n : Nat) : gmFit g h (n + 1) = (gmFit g h n && decide (mcnt (g.counts.getD n 0) (h.counts.getD n 0) ≤ 1000000000000)) := by unfold gmFit; rw [List.range_succ, List.all_append]; simp
theorem gmFit_false {g h : DepthGridC} {k n : Nat} (hk : k < n) (h1 : ¬ mcnt (g.counts.getD k 0) (h.counts.getD k 0) ≤ 1000000000000) : gmFit g h n = false := by
  rw [Bool.eq_false_iff]; intro c
  unfold gmFit at c
  rw [List.all_eq_true] at c
  have := c k (List.mem_range.2 hk)
  rw [decide_eq_true_eq] at this
  exact h1 this
def gmSame (g h : DepthGridC) : Prop := g.size = h.size ∧ g.wide = h.wide ∧ g.high = h.high
instance (g h : DepthGridC) : Decidable (gmSame g h) := by unfold gmSame; exact inferInstance
def gmC (g h : DepthGridC) : Int := if gridOk g = true ∧ gridOk h = true then (if gmSame g h then (if gmFit g h h.counts.length = true then 0 else 3) else 5) else 1
def gmR (g h : DepthGridC) : DepthGridC := if gmC g h = 0 then gmTo g h h.counts.length else zeroGrid
theorem gmTo_side (g h : DepthGridC) : ∀ n, (gmTo g h n).size = g.size ∧ (gmTo g h n).wide = g.wide ∧ (gmTo g h n).high = g.high ∧ (gmTo g h n).counts.length = g.counts.length ∧ (gmTo g h n).depths.length = g.depths.length
  | 0 => ⟨rfl, rfl, rfl, rfl, rfl⟩
  | n + 1 => by
    have h1 := gmTo_side g h n
    rw [gmTo_succ]
    split
    · exact h1
    · exact ⟨h1.1, h1.2.1, h1.2.2.1, by rw [List.length_set]; exact h1.2.2.2.1, by rw [addD_len]; exact h1.2.2.2.2⟩
/-- a cell that was not reached is as it was -/
theorem gmTo_at (g h : DepthGridC) {i : Nat} : ∀ n, n ≤ i → (gmTo g h n).counts.getD i 0 = g.counts.getD i 0 ∧ (gmTo g h n).depths.getD (i * 2) 0 = g.depths.getD (i * 2) 0 ∧ (gmTo g h n).depths.getD (i * 2 + 1) 0 = g.depths.getD (i * 2 + 1) 0
  | 0, _ => ⟨rfl, rfl, rfl⟩
  | n + 1, hn => by
    have h1 := gmTo_at g h (i := i) n (by omega)
    rw [gmTo_succ]
    split
    · exact h1
    · refine ⟨?_, ?_⟩
      · simp only [List.getD_eq_getElem?_getD] at h1 ⊢
        rw [List.getElem?_set_ne (show n ≠ i by omega)]; exact h1.1
      · unfold addD set2
        split
        all_goals
          simp only [List.getD_eq_getElem?_getD] at h1 ⊢
          rw [List.getElem?_set_ne (show n * 2 + 1 ≠ i * 2 by omega), List.getElem?_set_ne (show n * 2 ≠ i * 2 by omega), List.getElem?_set_ne (show n * 2 + 1 ≠ i * 2 + 1 by omega), List.getElem?_set_ne (show n * 2 ≠ i * 2 + 1 by omega)]
          exact h1.2
end Go.Proofs.Ythmcnoloeeabbaa
