/- Gridded grids are valid; merging them commutes; merging the grids of two parts of a list grids the list. No program. -/
import Derived.Test.YthmcnoloeeabbaaGrsP
namespace Go.Proofs.Ythmcnoloeeabbaa
open Go.RowKit

def clI (u : Int × Int × Int) : Prop := 0 ≤ u.1 ∧ (u.1 = 0 → u.2.1 = 0 ∧ u.2.2 = 0) ∧ -7000 ≤ u.2.1 ∧ u.2.1 ≤ u.2.2 ∧ u.2.2 ≤ 1005000
theorem clI_add {u : Int × Int × Int} (h : clI u) {a b : Int} (h1 : -7000 ≤ a) (h2 : a ≤ b) (h3 : b ≤ 1005000) : clI (clAdd u a b) := by
  obtain ⟨c, x, y⟩ := u
  unfold clI at h ⊢
  simp only at h
  by_cases h0 : c = 0
  · rw [clAdd_z h0]; simp only; omega
  · rw [clAdd_n h0]; simp only; omega
theorem souAt_bd {ys : List Int} {k : Nat} (h : souAt ys k = true) : 0 ≤ ys.getD (k * 4) 0 ∧ 0 ≤ ys.getD (k * 4 + 1) 0 ∧ -2000 ≤ ys.getD (k * 4 + 2) 0 ∧ ys.getD (k * 4 + 2) 0 ≤ 1000000 ∧ 0 ≤ ys.getD (k * 4 + 3) 0 ∧ ys.getD (k * 4 + 3) 0 ≤ 5000 := by
  unfold souAt souB at h
  simp only [Bool.and_eq_true] at h
  have h1 := inR_true h.1.1.1; have h2 := inR_true h.1.1.2; have h3 := inR_true h.1.2; have h4 := inR_true h.2
  omega
theorem gs_clI {s : Int} {a b : Nat} {ys : List Int} {n : Nat} (hs : 1 ≤ s) (ha : 1 ≤ a) (hy : sousB ys n = true) (i : Nat) : ∀ k, k ≤ n → clI (gcl (gsTo s a b ys k) i)
  | 0, _ => by
    show clI (gcl (newG s a b) i)
    rw [gcl_new]; exact ⟨Int.le_refl 0, fun _ => ⟨rfl, rfl⟩, by decide, by decide, by decide⟩
  | k + 1, hk => by
    have ih := gs_clI (b := b) hs ha hy i k (by omega)
    have hc := souAt_bd (sousB_at hy (show k < n by omega))
    have e1 : gsTo s a b ys (k + 1) = gPut (gsTo s a b ys k) (ys.getD (k * 4) 0) (ys.getD (k * 4 + 1) 0) (ys.getD (k * 4 + 2) 0) (ys.getD (k * 4 + 3) 0) := rfl
    rw [e1, gcl_put (gsTo_inv s a b ys k) hs ha hc.1 hc.2.1]
    split
    · exact clI_add ih (by omega) (by omega) (by omega)
    · exact ih
theorem gs_ok {s : Int} {a b : Nat} {ys : List Int} {n : Nat} (hs : 1 ≤ s) (hs1 : s ≤ 10000) (ha : 1 ≤ a) (ha1 : a ≤ 30) (hb : 1 ≤ b) (hb1 : b ≤ 30) (hy : sousB ys n = true) (hn : n ≤ 1048576) : gridOk (gsTo s a b ys n) = true := by
  have G := gsTo_inv s a b ys n
  refine GOk.to ⟨by rw [G.size]; exact hs, by rw [G.size]; exact hs1, by rw [G.wide]; omega, by rw [G.wide]; omega, by rw [G.high]; omega, by rw [G.high]; omega, by rw [G.cl, G.wide, G.high, Int.natCast_mul], by rw [G.dl, G.cl], gcellsB_of fun k _ => ?_⟩
  have h := gs_clI (b := b) hs ha hy k n (Nat.le_refl _)
  have hbd := G.bd k
  unfold clI gcl at h
  simp only at h
  exact gcellB_mk (by omega) (by omega) (by omega) (by omega) (by omega) h.2.1
theorem gmSame_symm {g h : DepthGridC} (e : gmSame g h) : gmSame h g := ⟨e.1.symm, e.2.1.symm, e.2.2.symm⟩
theorem gOk_len {g h : DepthGridC} (k1 : GOk g) (k2 : GOk h) (e : gmSame g h) : g.counts.length = h.counts.length := by
  have h1 := k1.len; have h2 := k2.len
  rw [e.2.1, e.2.2] at h1
  omega
theorem gmFit_comm {g h : DepthGridC} (k1 : GOk g) (k2 : GOk h) (e : gmSame g h) : gmFit g h h.counts.length = gmFit h g g.counts.length := by
  have hl := gOk_len k1 k2 e
  rw [hl]
  unfold gmFit
  rw [Bool.eq_iff_iff, List.all_eq_true, List.all_eq_true]
  have q : ∀ i, i ∈ List.range h.counts.length → mcnt (g.counts.getD i 0) (h.counts.getD i 0) = mcnt (h.counts.getD i 0) (g.counts.getD i 0) := fun i hi =>
    mcnt_comm (gcellB_bd (k1.at_ (by rw [hl]; exact List.mem_range.1 hi))).1 (gcellB_bd (k2.at_ (List.mem_range.1 hi))).1
  constructor
  · intro H i hi; rw [← q i hi]; exact H i hi
  · intro H i hi; rw [q i hi]; exact H i hi
theorem gmC_comm (g h : DepthGridC) : gmC g h = gmC h g := by
  unfold gmC
  by_cases h1 : gridOk g = true
  · by_cases h2 : gridOk h = true
    · rw [if_pos (show gridOk g = true ∧ gridOk h = true from ⟨h1, h2⟩), if_pos (show gridOk h = true ∧ gridOk g = true from ⟨h2, h1⟩)]
      by_cases h3 : gmSame g h
      · rw [if_pos h3, if_pos (gmSame_symm h3), gmFit_comm (GOk.of h1) (GOk.of h2) h3]
      · rw [if_neg h3, if_neg (fun c => h3 (gmSame_symm c))]
    · rw [if_neg (show ¬ (gridOk g = true ∧ gridOk h = true) from fun c => h2 c.2), if_neg (show ¬ (gridOk h = true ∧ gridOk g = true) from fun c => h2 c.1)]
  · rw [if_neg (show ¬ (gridOk g = true ∧ gridOk h = true) from fun c => h1 c.1), if_neg (show ¬ (gridOk h = true ∧ gridOk g = true) from fun c => h1 c.2)]
theorem gmTo_all {g h : DepthGridC} (k1 : GOk g) (k2 : GOk h) (e : gmSame g h) (i : Nat) (hi : i < g.counts.length) : gcl (gmTo g h h.counts.length) i = clMrg (gcl g i) (gcl h i) := by
  have hl := gOk_len k1 k2 e
  rw [gcl_gm k1.eq h.counts.length (by omega) i, if_pos (by omega)]
theorem gmTo_comm {g h : DepthGridC} (k1 : GOk g) (k2 : GOk h) (e : gmSame g h) : gmTo g h h.counts.length = gmTo h g g.counts.length := by
  have hl := gOk_len k1 k2 e
  have s1 := gmTo_side g h h.counts.length
  have s2 := gmTo_side h g g.counts.length
  refine gcl_ext ⟨by rw [s1.1, s2.1]; exact e.1, by rw [s1.2.1, s2.2.1]; exact e.2.1, by rw [s1.2.2.1, s2.2.2.1]; exact e.2.2⟩ (by rw [s1.2.2.2.1, s2.2.2.2.1]; exact hl) (by rw [s1.2.2.2.1, s1.2.2.2.2]; exact k1.eq) (by rw [s2.2.2.2.1, s2.2.2.2.2]; exact k2.eq) fun i hi => ?_
  rw [s1.2.2.2.1] at hi
  rw [gmTo_all k1 k2 e i hi, gmTo_all k2 k1 (gmSame_symm e) i (by omega)]
  have b1 := gcellB_bd (k1.at_ hi)
  have b2 := gcellB_bd (k2.at_ (show i < h.counts.length by omega))
  exact clMrg_comm b1.1 b2.1 b1.2.2.2.2.2 b2.2.2.2.2.2
theorem gmR_comm (g h : DepthGridC) : gmR g h = gmR h g := by
  unfold gmR
  rw [gmC_comm h g]
  by_cases h0 : gmC g h = 0
  · rw [if_pos h0, if_pos h0]
    unfold gmC at h0
    by_cases h1 : gridOk g = true ∧ gridOk h = true
    · rw [if_pos h1] at h0
      by_cases h3 : gmSame g h
      · exact gmTo_comm (GOk.of h1.1) (GOk.of h1.2) h3
      · rw [if_neg h3] at h0; omega
    · rw [if_neg h1] at h0; omega
  · rw [if_neg h0, if_neg h0]
theorem gsTo_congr {s : Int} {a b : Nat} {ys zs : List Int} : ∀ k, (∀ j, j < k * 4 → ys.getD j 0 = zs.getD j 0) → gsTo s a b ys k = gsTo s a b zs k
  | 0, _ => rfl
  | k + 1, h => by
    show gPut (gsTo s a b ys k) (ys.getD (k * 4) 0) (ys.getD (k * 4 + 1) 0) (ys.getD (k * 4 + 2) 0) (ys.getD (k * 4 + 3) 0) = gPut (gsTo s a b zs k) (zs.getD (k * 4) 0) (zs.getD (k * 4 + 1) 0) (zs.getD (k * 4 + 2) 0) (zs.getD (k * 4 + 3) 0)
    rw [gsTo_congr k (fun j hj => h j (by omega)), h (k * 4) (by omega), h (k * 4 + 1) (by omega), h (k * 4 + 2) (by omega), h (k * 4 + 3) (by omega)]
theorem take_getD {ys : List Int} {m j : Nat} (h : j < m) : (ys.take m).getD j 0 = ys.getD j 0 := by
  simp only [List.getD_eq_getElem?_getD, List.getElem?_take, if_pos h]
theorem drop_getD (ys : List Int) (m j : Nat) : (ys.drop m).getD j 0 = ys.getD (m + j) 0 := by
  simp only [List.getD_eq_getElem?_getD, List.getElem?_drop]
theorem souAt_take {ys : List Int} {m k : Nat} (h : k < m) : souAt (ys.take (m * 4)) k = souAt ys k := by
  unfold souAt
  rw [take_getD (by omega), take_getD (by omega), take_getD (by omega), take_getD (by omega)]
theorem souAt_drop (ys : List Int) (m k : Nat) : souAt (ys.drop (m * 4)) k = souAt ys (m + k) := by
  unfold souAt
  rw [drop_getD, drop_getD, drop_getD, drop_getD, show m * 4 + k * 4 = (m + k) * 4 by omega, show m * 4 + (k * 4 + 1) = (m + k) * 4 + 1 by omega, show m * 4 + (k * 4 + 2) = (m + k) * 4 + 2 by omega, show m * 4 + (k * 4 + 3) = (m + k) * 4 + 3 by omega]
theorem sousB_of {ys : List Int} {n : Nat} (h : ∀ k, k < n → souAt ys k = true) : sousB ys n = true := by
  unfold sousB; rw [List.all_eq_true]; intro k hk; exact h k (List.mem_range.1 hk)
theorem snds_two {ys : List Int} {n m : Nat} (h : sndsB ys n = true) (hm : m ≤ n) : sndsB (ys.take (m * 4)) m = true ∧ sndsB (ys.drop (m * 4)) (n - m) = true := by
  unfold sndsB at h ⊢
  simp only [Bool.and_eq_true, decide_eq_true_eq] at h ⊢
  refine ⟨⟨sousB_of fun k hk => ?_, by omega⟩, sousB_of fun k hk => ?_, by omega⟩
  · rw [souAt_take hk]; exact sousB_at h.1 (by omega)
  · rw [souAt_drop]; exact sousB_at h.1 (by omega)
theorem gsC_ok {s w h : Int} {ys : List Int} {n : Nat} (e : gsC s w h ys n = 0) : sndsB ys n = true ∧ gshape s w h = true := by
  unfold gsC at e
  split at e
  · split at e
    · exact ⟨by assumption, by assumption⟩
    · omega
  · omega
theorem gsC_mk {s w h : Int} {ys : List Int} {n : Nat} (h1 : sndsB ys n = true) (h2 : gshape s w h = true) : gsC s w h ys n = 0 := by unfold gsC; rw [if_pos h1, if_pos h2]
/-- A list cut in two: both parts can be gridded, their grids can be merged, and the merged grid is the list's. -/
theorem gs_merge {s w h : Int} {ys : List Int} {n m : Nat} (hl : ys.length = n * 4) (hm : m ≤ n) (e : gsC s w h ys n = 0) :
    gsC s w h (ys.take (m * 4)) m = 0 ∧ gsC s w h (ys.drop (m * 4)) (n - m) = 0 ∧ gmC (gsR s w h (ys.take (m * 4)) m) (gsR s w h (ys.drop (m * 4)) (n - m)) = 0 ∧
    gmR (gsR s w h (ys.take (m * 4)) m) (gsR s w h (ys.drop (m * 4)) (n - m)) = gsR s w h ys n := by
  obtain ⟨h1, h2⟩ := gsC_ok e
  have h3 := snds_two h1 hm
  have c1 := gsC_mk h3.1 h2
  have c2 := gsC_mk h3.2 h2
  have sh := gshape_true h2
  have hn : (n : Int) ≤ 200 := by unfold sndsB at h1; simp only [Bool.and_eq_true, decide_eq_true_eq] at h1; exact h1.2
  have sy : ∀ {zs : List Int} {k : Nat}, sndsB zs k = true → sousB zs k = true := fun q => by unfold sndsB at q; simp only [Bool.and_eq_true] at q; exact q.1
  refine ⟨c1, c2, ?_⟩
  have r1 : gsR s w h (ys.take (m * 4)) m = gsTo s w.toNat h.toNat (ys.take (m * 4)) m := by unfold gsR; rw [if_pos c1]
  have r2 : gsR s w h (ys.drop (m * 4)) (n - m) = gsTo s w.toNat h.toNat (ys.drop (m * 4)) (n - m) := by unfold gsR; rw [if_pos c2]
  have r3 : gsR s w h ys n = gsTo s w.toNat h.toNat ys n := by unfold gsR; rw [if_pos e]
  have g1 := gs_ok (s := s) (a := w.toNat) (b := h.toNat) (ys := ys.take (m * 4)) (n := m) (by omega) (by omega) (by omega) (by omega) (by omega) (by omega) (sy h3.1) (by omega)
  have g2 := gs_ok (s := s) (a := w.toNat) (b := h.toNat) (ys := ys.drop (m * 4)) (n := n - m) (by omega) (by omega) (by omega) (by omega) (by omega) (by omega) (sy h3.2) (by omega)
  have g3 := gs_ok (s := s) (a := w.toNat) (b := h.toNat) (ys := ys) (n := n) (by omega) (by omega) (by omega) (by omega) (by omega) (by omega) (sy h1) (by omega)
  have i1 := gsTo_inv s w.toNat h.toNat (ys.take (m * 4)) m
  have i2 := gsTo_inv s w.toNat h.toNat (ys.drop (m * 4)) (n - m)
  have i3 := gsTo_inv s w.toNat h.toNat ys n
  rw [r1, r2, r3]
  have ef : gsTo s w.toNat h.toNat (ys.take (m * 4)) m = gsTo s w.toNat h.toNat ys m := gsTo_congr m fun j hj => take_getD hj
  have hy : ∀ k, 0 ≤ ys.getD (k * 4) 0 ∧ 0 ≤ ys.getD (k * 4 + 1) 0 := fun k => by
    by_cases hk : k < n
    · have := souAt_bd (sousB_at (sy h1) hk); exact ⟨this.1, this.2.1⟩
    · rw [List.getD_eq_getElem?_getD, List.getD_eq_getElem?_getD, List.getElem?_eq_none (by omega), List.getElem?_eq_none (by omega)]; simp
  have sm : gmSame (gsTo s w.toNat h.toNat (ys.take (m * 4)) m) (gsTo s w.toNat h.toNat (ys.drop (m * 4)) (n - m)) := ⟨by rw [i1.size, i2.size], by rw [i1.wide, i2.wide], by rw [i1.high, i2.high]⟩
  have cut := fun i => gs_cut (s := s) (a := w.toNat) (b := h.toNat) (ys := ys) (by omega) (by omega) hy m i (n - m)
  rw [show m + (n - m) = n by omega] at cut
  rw [← ef] at cut
  have fit : gmFit (gsTo s w.toNat h.toNat (ys.take (m * 4)) m) (gsTo s w.toNat h.toNat (ys.drop (m * 4)) (n - m)) (gsTo s w.toNat h.toNat (ys.drop (m * 4)) (n - m)).counts.length = true := by
    unfold gmFit
    rw [List.all_eq_true]
    intro i _
    rw [decide_eq_true_eq, mcnt_add (i1.bd i).1 (i2.bd i).1]
    have b1 := i1.bd i; have b2 := i2.bd i
    omega
  have c : gmC (gsTo s w.toNat h.toNat (ys.take (m * 4)) m) (gsTo s w.toNat h.toNat (ys.drop (m * 4)) (n - m)) = 0 := by
    unfold gmC; rw [if_pos ⟨g1, g2⟩, if_pos sm, if_pos fit]
  refine ⟨c, ?_⟩
  unfold gmR
  rw [if_pos c]
  have sd := gmTo_side (gsTo s w.toNat h.toNat (ys.take (m * 4)) m) (gsTo s w.toNat h.toNat (ys.drop (m * 4)) (n - m)) (gsTo s w.toNat h.toNat (ys.drop (m * 4)) (n - m)).counts.length
  refine gcl_ext ⟨by rw [sd.1, i1.size, i3.size], by rw [sd.2.1, i1.wide, i3.wide], by rw [sd.2.2.1, i1.high, i3.high]⟩ (by rw [sd.2.2.2.1, i1.cl, i3.cl]) (by rw [sd.2.2.2.1, sd.2.2.2.2, i1.cl, i1.dl]) (by rw [i3.cl, i3.dl]) fun i hi => ?_
  rw [sd.2.2.2.1] at hi
  rw [gmTo_all (GOk.of g1) (GOk.of g2) sm i hi]
  exact (cut i).symm
end Go.Proofs.Ythmcnoloeeabbaa
