/- Mosaics: the plain model: when a mosaic is valid, a value put into a cell, merging. Plain lemmas, no condition. -/
import Derived.Test.YtilieonalmihaaaDoorOwnMosaic
namespace Go.Proofs.YtilieonalmihaaaDoor
open Go.RowKit

def pixB (v g : Int) : Bool := inR v 0 1000 && inR g 1 9
def celB (v g : Int) : Bool := pixB v g || ((v == -1) && (g == 0))
def celsB (vs gs : List Int) (k : Nat) : Bool := (List.range k).all fun i => celB (vs.getD i 0) (gs.getD i 0)
theorem celsB_succ (vs gs : List Int) (n : Nat) : celsB vs gs (n + 1) = (celsB vs gs n && celB (vs.getD n 0) (gs.getD n 0)) := by unfold celsB; rw [List.range_succ, List.all_append]; simp
theorem celsB_at {vs gs : List Int} {n k : Nat} (h : celsB vs gs n = true) (hk : k < n) : celB (vs.getD k 0) (gs.getD k 0) = true := by
  unfold celsB at h
  rw [List.all_eq_true] at h
  exact h k (List.mem_range.2 hk)
theorem celsB_false {vs gs : List Int} {k n : Nat} (h : celB (vs.getD k 0) (gs.getD k 0) = false) (hk : k < n) : celsB vs gs n = false := by
  rw [Bool.eq_false_iff]; intro c
  rw [celsB_at c hk] at h; cases h
theorem celB_bd {v g : Int} (h : celB v g = true) : -1 ≤ v ∧ v ≤ 1000 ∧ 0 ≤ g ∧ g ≤ 9 := by
  unfold celB pixB at h
  simp only [Bool.or_eq_true, Bool.and_eq_true, beq_iff_eq] at h
  rcases h with ⟨h1, h2⟩ | ⟨h1, h2⟩
  · have := inR_true h1; have := inR_true h2; omega
  · omega
/-- the numbers of rows and columns, and of values and grades -/
def mosSide (m : MosaicC) : Bool := inR m.wide 1 40 && inR m.high 1 40 && decide ((m.values.length : Int) = m.wide * m.high) && decide (m.grades.length = m.values.length)
def mosOk (m : MosaicC) : Bool := mosSide m && celsB m.values m.grades m.values.length
structure MOk (m : MosaicC) : Prop where
  w0 : 1 ≤ m.wide
  w1 : m.wide ≤ 40
  h0 : 1 ≤ m.high
  h1 : m.high ≤ 40
  len : (m.values.length : Int) = m.wide * m.high
  eq : m.grades.length = m.values.length
  cel : celsB m.values m.grades m.values.length = true
theorem MOk.of {m : MosaicC} (h : mosOk m = true) : MOk m := by
  unfold mosOk mosSide at h
  simp only [Bool.and_eq_true, decide_eq_true_eq] at h
  obtain ⟨⟨⟨⟨h1, h2⟩, h3⟩, h4⟩, h5⟩ := h
  exact ⟨(inR_true h1).1, (inR_true h1).2, (inR_true h2).1, (inR_true h2).2, h3, h4, h5⟩
theorem mul_bd {a b : Int} (h0 : 1 ≤ a) (h1 : a ≤ 40) (h2 : 1 ≤ b) (h3 : b ≤ 40) : 1 ≤ a * b ∧ a * b ≤ 1600 := by
  have h4 : 1 * 1 ≤ a * b := Int.mul_le_mul h0 h2 (by omega) (by omega)
  have h5 : a * b ≤ 40 * 40 := Int.mul_le_mul h1 h3 (by omega) (by omega)
  omega
theorem MOk.bd {m : MosaicC} (h : MOk m) : m.values.length ≤ 1600 ∧ 1 ≤ m.values.length := by
  have := mul_bd h.w0 h.w1 h.h0 h.h1
  have := h.len
  omega
theorem MOk.at_ {m : MosaicC} (h : MOk m) {k : Nat} (hk : k < m.values.length) : celB (m.values.getD k 0) (m.grades.getD k 0) = true := celsB_at h.cel hk

/-- a value is put into a cell -/
def putB (vs gs : List Int) (i : Nat) (v g : Int) : Bool := decide (gs.getD i 0 < g) || (decide (gs.getD i 0 = g) && decide (vs.getD i 0 < v))
def putV (vs gs : List Int) (i : Nat) (v g : Int) : List Int := if putB vs gs i v g = true then vs.set i v else vs
def putG (vs gs : List Int) (i : Nat) (v g : Int) : List Int := if putB vs gs i v g = true then gs.set i g else gs
def putM (m : MosaicC) (i : Nat) (v g : Int) : MosaicC := ⟨m.wide, m.high, putV m.values m.grades i v g, putG m.values m.grades i v g⟩
theorem putV_len (vs gs : List Int) (i : Nat) (v g : Int) : (putV vs gs i v g).length = vs.length := by unfold putV; split <;> simp
theorem putG_len (vs gs : List Int) (i : Nat) (v g : Int) : (putG vs gs i v g).length = gs.length := by unfold putG; split <;> simp
/-- the known cells below k are put -/
def mergeTo (m k : MosaicC) (n : Nat) : MosaicC := (List.range n).foldl (fun a i => if 0 < k.grades.getD i 0 then putM a i (k.values.getD i 0) (k.grades.getD i 0) else a) m
theorem mergeTo_succ (m k : MosaicC) (n : Nat) : mergeTo m k (n + 1) = (if 0 < k.grades.getD n 0 then putM (mergeTo m k n) n (k.values.getD n 0) (k.grades.getD n 0) else mergeTo m k n) := by
  unfold mergeTo; rw [List.range_succ, List.foldl_append]; rfl
theorem mergeTo_zero (m k : MosaicC) : mergeTo m k 0 = m := rfl
def zeroMosaic : MosaicC := ⟨0, 0, [], []⟩
def mergeMC (m k : MosaicC) : Int := if mosOk m = true ∧ mosOk k = true then (if m.wide = k.wide ∧ m.high = k.high then 0 else 5) else 1
def mergeMR (m k : MosaicC) : MosaicC := if mosOk m = true ∧ mosOk k = true ∧ m.wide = k.wide ∧ m.high = k.high then mergeTo m k k.values.length else zeroMosaic
/-- the index of a cell -/
def hasB (m : MosaicC) (x y : Int) : Bool := inR x 0 (m.wide - 1) && inR y 0 (m.high - 1)
def putSC (m : MosaicC) (x y v g : Int) : Int := if mosOk m = true then (if inR x (-1000) 1000 = true ∧ inR y (-1000) 1000 = true ∧ pixB v g = true then (if hasB m x y = true then 0 else 4) else 2) else 1
def putSR (m : MosaicC) (x y v g : Int) : MosaicC := if putSC m x y v g = 0 then putM m (y * m.wide + x).toNat v g else zeroMosaic
theorem cell_bd {m : MosaicC} (h : MOk m) {x y : Int} (hb : hasB m x y = true) : 0 ≤ y * m.wide ∧ y * m.wide ≤ 1560 ∧ 0 ≤ x ∧ x ≤ 39 ∧ 0 ≤ y ∧ y ≤ 39 ∧ 0 ≤ y * m.wide + x ∧ y * m.wide + x < m.values.length := by
  unfold hasB at hb
  rw [Bool.and_eq_true] at hb
  have hx := inR_true hb.1
  have hy := inR_true hb.2
  have w0 := h.w0; have w1 := h.w1; have h0 := h.h0; have h1 := h.h1; have hl := h.len
  have p0 : 0 ≤ y * m.wide := Int.mul_nonneg hy.1 (by omega)
  have p1 : y * m.wide ≤ (m.high - 1) * m.wide := Int.mul_le_mul_of_nonneg_right hy.2 (by omega)
  have p2 : (m.high - 1) * m.wide = m.wide * m.high - m.wide := by rw [Int.sub_mul, Int.one_mul, Int.mul_comm]
  have p3 : y * m.wide ≤ 39 * 40 := Int.mul_le_mul (by omega) w1 (by omega) (by omega)
  refine ⟨p0, by omega, hx.1, by omega, hy.1, by omega, by omega, by omega⟩
end Go.Proofs.YtilieonalmihaaaDoor
