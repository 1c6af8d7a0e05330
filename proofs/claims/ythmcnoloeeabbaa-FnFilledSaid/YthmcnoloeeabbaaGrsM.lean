/- Gridding, plainly: soundings put into the cells of a new grid one by one. No program. -/
import Derived.Test.YthmcnoloeeabbaaGrsN
namespace Go.Proofs.Ythmcnoloeeabbaa
open Go.RowKit

def gPut (g : DepthGridC) (x y d r : Int) : DepthGridC := if 0 ≤ cellI g.size g.wide g.high x y then addG g (cellI g.size g.wide g.high x y).toNat (d - r) (d + r) 1 else g
def gsTo (s : Int) (a b : Nat) (ys : List Int) : Nat → DepthGridC
  | 0 => newG s a b
  | k + 1 => gPut (gsTo s a b ys k) (ys.getD (k * 4) 0) (ys.getD (k * 4 + 1) 0) (ys.getD (k * 4 + 2) 0) (ys.getD (k * 4 + 3) 0)
structure GsI (s : Int) (a b k : Nat) (g : DepthGridC) : Prop where
  size : g.size = s
  wide : g.wide = (a : Int)
  high : g.high = (b : Int)
  cl : g.counts.length = a * b
  dl : g.depths.length = a * b * 2
  bd : ∀ i, 0 ≤ g.counts.getD i 0 ∧ g.counts.getD i 0 ≤ k
theorem getD_setG (l : List Int) (i k : Nat) (v : Int) : (l.set i v).getD k 0 = if i = k ∧ k < l.length then v else l.getD k 0 := by
  rw [List.getD_eq_getElem?_getD, List.getD_eq_getElem?_getD, List.getElem?_set]
  by_cases h : i = k
  · subst h
    by_cases h2 : i < l.length
    · simp [h2]
    · simp [h2]
  · simp [h]
theorem gPut_inv {s : Int} {a b k : Nat} {g : DepthGridC} (G : GsI s a b k g) (x y d r : Int) : GsI s a b (k + 1) (gPut g x y d r) := by
  unfold gPut
  split
  · refine ⟨G.size, G.wide, G.high, by unfold addG; simp only [List.length_set]; exact G.cl, by unfold addG; simp only [addD_len]; exact G.dl, fun i => ?_⟩
    show 0 ≤ (g.counts.set _ _).getD i 0 ∧ (g.counts.set _ _).getD i 0 ≤ _
    rw [getD_setG]
    have h1 := G.bd i
    have h2 := G.bd (cellI g.size g.wide g.high x y).toNat
    split <;> omega
  · exact ⟨G.size, G.wide, G.high, G.cl, G.dl, fun i => by have := G.bd i; omega⟩
theorem gsTo_inv (s : Int) (a b : Nat) (ys : List Int) : ∀ k, GsI s a b k (gsTo s a b ys k)
  | 0 => ⟨rfl, rfl, rfl, by simp [gsTo, newG], by simp [gsTo, newG], fun i => by
    have : (gsTo s a b ys 0).counts.getD i 0 = 0 := by
      show (List.replicate (a * b) (0 : Int)).getD i 0 = 0
      rw [List.getD_eq_getElem?_getD, List.getElem?_replicate]
      split <;> rfl
    omega⟩
  | k + 1 => gPut_inv (gsTo_inv s a b ys k) _ _ _ _
def gsC (s w h : Int) (ys : List Int) (n : Nat) : Int := if sndsB ys n = true then (if gshape s w h = true then 0 else 2) else 1
def gsR (s w h : Int) (ys : List Int) (n : Nat) : DepthGridC := if gsC s w h ys n = 0 then gsTo s w.toNat h.toNat ys n else zeroGrid
theorem addK_addG {l : DepthGridC} {i : Nat} {a b : Int} (h0 : 0 ≤ l.counts.getD i 0) : (⟨l.size, l.wide, l.high, (addK (decide (0 < l.counts.getD i 0)) l i a b).counts.set i (l.counts.getD i 0 + 1), (addK (decide (0 < l.counts.getD i 0)) l i a b).depths⟩ : DepthGridC) = addG l i a b 1 := by
  unfold addK addG addD
  by_cases h : l.counts.getD i 0 = 0
  · have hd : decide (0 < l.counts.getD i 0) = false := decide_eq_false (by omega)
    rw [hd]
    simp only [if_pos h]
    rfl
  · have hd : decide (0 < l.counts.getD i 0) = true := decide_eq_true (by omega)
    rw [hd]
    simp only [if_neg h]
    rfl
end Go.Proofs.Ythmcnoloeeabbaa
