/- Gridding, plainly, cell by cell: gridding a list cut in two is merging; merging commutes; a gridded grid is valid. No program. -/
import Derived.Test.YthmcnoloeeabbaaGrsM
namespace Go.Proofs.Ythmcnoloeeabbaa
open Go.RowKit

def gcl (g : DepthGridC) (i : Nat) : Int × Int × Int := (g.counts.getD i 0, g.depths.getD (i * 2) 0, g.depths.getD (i * 2 + 1) 0)
def clAdd (u : Int × Int × Int) (a b : Int) : Int × Int × Int := if u.1 = 0 then (u.1 + 1, a, b) else (u.1 + 1, min u.2.1 a, max u.2.2 b)
def clMrg (u v : Int × Int × Int) : Int × Int × Int := if v.1 = 0 then u else (mcnt u.1 v.1, if u.1 = 0 then v.2.1 else min u.2.1 v.2.1, if u.1 = 0 then v.2.2 else max u.2.2 v.2.2)
theorem set2_at (ds : List Int) (i k : Nat) (a b : Int) (hi : i * 2 + 1 < ds.length) : (set2 ds i a b).getD (k * 2) 0 = (if k = i then a else ds.getD (k * 2) 0) ∧ (set2 ds i a b).getD (k * 2 + 1) 0 = (if k = i then b else ds.getD (k * 2 + 1) 0) := by
  unfold set2
  simp only [getD_setG, List.length_set]
  by_cases h : k = i
  · subst h
    constructor
    · rw [if_neg (by omega), if_pos (by omega), if_pos rfl]
    · rw [if_pos (by omega), if_pos rfl]
  · constructor
    · rw [if_neg (by omega), if_neg (by omega), if_neg h]
    · rw [if_neg (by omega), if_neg (by omega), if_neg h]
theorem addD_at (cs ds : List Int) (i k : Nat) (a b : Int) (hi : i * 2 + 1 < ds.length) : (addD cs ds i a b).getD (k * 2) 0 = (if k = i then (if cs.getD i 0 = 0 then a else min (ds.getD (i * 2) 0) a) else ds.getD (k * 2) 0) ∧ (addD cs ds i a b).getD (k * 2 + 1) 0 = (if k = i then (if cs.getD i 0 = 0 then b else max (ds.getD (i * 2 + 1) 0) b) else ds.getD (k * 2 + 1) 0) := by
  unfold addD
  by_cases h0 : cs.getD i 0 = 0
  · simp only [if_pos h0]
    exact set2_at ds i k a b hi
  · simp only [if_neg h0]
    exact set2_at ds i k _ _ hi
theorem gcl_addG {g : DepthGridC} {i : Nat} (k : Nat) {a b : Int} (hi : i < g.counts.length) (hd : g.depths.length = g.counts.length * 2) : gcl (addG g i a b 1) k = if k = i then clAdd (gcl g i) a b else gcl g k := by
  have S := addD_at g.counts g.depths i k a b (by omega)
  unfold gcl addG
  simp only
  rw [S.1, S.2, getD_setG]
  by_cases h : k = i
  · subst h
    rw [if_pos ⟨rfl, hi⟩]
    simp only [if_true]
    unfold clAdd
    simp only
    by_cases h0 : g.counts.getD k 0 = 0
    · simp only [if_pos h0]
    · simp only [if_neg h0]
  · rw [if_neg (fun c => h c.1.symm)]
    simp only [if_neg h]
theorem gcl_gm {g h : DepthGridC} (hd : g.depths.length = g.counts.length * 2) : ∀ n, n ≤ g.counts.length → ∀ k, gcl (gmTo g h n) k = if k < n then clMrg (gcl g k) (gcl h k) else gcl g k
  | 0, _, k => by rw [if_neg (Nat.not_lt_zero _)]; rfl
  | n + 1, hn, k => by
    have ih := gcl_gm (h := h) hd n (by omega)
    have sd := gmTo_side g h n
    rw [gmTo_succ]
    by_cases h0 : h.counts.getD n 0 = 0
    · rw [if_pos h0, ih k]
      by_cases hk : k = n
      · subst hk
        rw [if_neg (Nat.lt_irrefl _), if_pos (Nat.lt_succ_self _)]
        unfold clMrg
        rw [if_pos (show (gcl h k).1 = 0 from h0)]
      · by_cases hlt : k < n
        · rw [if_pos hlt, if_pos (by omega)]
        · rw [if_neg hlt, if_neg (by omega)]
    · rw [if_neg h0]
      have S := addD_at g.counts (gmTo g h n).depths n k (h.depths.getD (n * 2) 0) (h.depths.getD (n * 2 + 1) 0) (by rw [sd.2.2.2.2]; omega)
      have e := ih k
      unfold gcl at e ⊢
      simp only
      rw [S.1, S.2, getD_setG, sd.2.2.2.1]
      by_cases hk : k = n
      · subst hk
        rw [if_neg (Nat.lt_irrefl _)] at e
        simp only [Prod.mk.injEq] at e
        rw [if_pos ⟨rfl, by omega⟩, if_pos (Nat.lt_succ_self _), e.2.1, e.2.2]
        simp only [if_true]
        unfold clMrg
        simp only
        rw [if_neg h0]
      · rw [if_neg (fun c => hk c.1.symm)]
        simp only [if_neg hk]
        rw [e]
        by_cases hlt : k < n
        · rw [if_pos hlt, if_pos (by omega)]
        · rw [if_neg hlt, if_neg (by omega)]
theorem ext_getD {xs ys : List Int} (hl : xs.length = ys.length) (h : ∀ i, i < xs.length → xs.getD i 0 = ys.getD i 0) : xs = ys := by
  apply List.ext_getElem hl
  intro i h1 h2
  have := h i h1
  simp only [List.getD_eq_getElem?_getD, List.getElem?_eq_getElem h1, List.getElem?_eq_getElem h2, Option.getD_some] at this
  exact this
theorem gcl_ext {g h : DepthGridC} (hs : gmSame g h) (hc : g.counts.length = h.counts.length) (hg : g.depths.length = g.counts.length * 2) (hh : h.depths.length = h.counts.length * 2) (e : ∀ i, i < g.counts.length → gcl g i = gcl h i) : g = h := by
  have e1 : g.counts = h.counts := ext_getD hc fun i hi => congrArg (·.1) (e i hi)
  have e2 : g.depths = h.depths := ext_getD (by omega) fun i hi => by
    have E := e (i / 2) (by omega)
    rcases (by omega : i = i / 2 * 2 ∨ i = i / 2 * 2 + 1) with q | q
    · rw [q]; exact congrArg (·.2.1) E
    · rw [q]; exact congrArg (·.2.2) E
  obtain ⟨a, b, c⟩ := hs
  cases g; cases h
  simp only at *
  subst a b c e1 e2
  rfl
theorem mcnt_comm {a b : Int} (ha : -1 ≤ a) (hb : -1 ≤ b) : mcnt a b = mcnt b a := by
  unfold mcnt
  split <;> split <;> (try split) <;> (try split) <;> omega
theorem mcnt_add {c d : Int} (hc : 0 ≤ c) (hd : 0 ≤ d) : mcnt c d = c + d := by
  unfold mcnt
  by_cases h : d = 0
  · rw [if_pos h]; omega
  · rw [if_neg h, if_neg (by omega)]; omega
theorem clMrg_z {c x y d z t : Int} (h : d = 0) : clMrg (c, x, y) (d, z, t) = (c, x, y) := by unfold clMrg; rw [if_pos h]
theorem clMrg_n {c x y d z t : Int} (h : d ≠ 0) : clMrg (c, x, y) (d, z, t) = (mcnt c d, if c = 0 then z else min x z, if c = 0 then t else max y t) := by unfold clMrg; simp only; rw [if_neg h]
theorem clAdd_z {c x y a b : Int} (h : c = 0) : clAdd (c, x, y) a b = (c + 1, a, b) := by unfold clAdd; rw [if_pos h]
theorem clAdd_n {c x y a b : Int} (h : c ≠ 0) : clAdd (c, x, y) a b = (c + 1, min x a, max y b) := by unfold clAdd; rw [if_neg h]
theorem clMrg_comm {u v : Int × Int × Int} (hu : -1 ≤ u.1) (hv : -1 ≤ v.1) (zu : u.1 = 0 → u.2.1 = 0 ∧ u.2.2 = 0) (zv : v.1 = 0 → v.2.1 = 0 ∧ v.2.2 = 0) : clMrg u v = clMrg v u := by
  obtain ⟨c, a, b⟩ := u
  obtain ⟨c', a', b'⟩ := v
  simp only at hu hv zu zv
  have hm := mcnt_comm hu hv
  by_cases h1 : c = 0
  · have e : mcnt c c' = c' ∨ c' = 0 := by
      by_cases h2 : c' = 0
      · exact .inr h2
      · refine .inl ?_; rw [hm]; unfold mcnt; rw [if_pos h1]
    by_cases h2 : c' = 0
    · rw [clMrg_z h1, clMrg_z h2, (zu h1).1, (zu h1).2, (zv h2).1, (zv h2).2, h1, h2]
    · rw [clMrg_z h1, clMrg_n h2, if_pos h1, if_pos h1]
      rcases e with e | e
      · rw [e]
      · exact absurd e h2
  · by_cases h2 : c' = 0
    · have e : mcnt c' c = c := by rw [← hm]; unfold mcnt; rw [if_pos h2]
      rw [clMrg_z h2, clMrg_n h1, if_pos h2, if_pos h2, e]
    · rw [clMrg_n h1, clMrg_n h2, hm, if_neg h1, if_neg h1, if_neg h2, if_neg h2, Int.min_comm a a', Int.max_comm b b']
theorem clAdd_Mrg {u v : Int × Int × Int} (hu : 0 ≤ u.1) (hv : 0 ≤ v.1) (a b : Int) : clAdd (clMrg u v) a b = clMrg u (clAdd v a b) := by
  obtain ⟨c, x, y⟩ := u
  obtain ⟨d, z, t⟩ := v
  simp only at hu hv
  have m1 := mcnt_add hu hv
  have m2 := mcnt_add hu (show 0 ≤ d + 1 by omega)
  by_cases h2 : d = 0
  · rw [clMrg_z h2, clAdd_z h2, clMrg_n (show d + 1 ≠ 0 by omega), m2]
    by_cases h1 : c = 0
    · rw [clAdd_z h1, if_pos h1, if_pos h1, h2, Int.zero_add]
    · rw [clAdd_n h1, if_neg h1, if_neg h1, h2, Int.zero_add]
  · rw [clMrg_n h2, clAdd_n h2, clMrg_n (show d + 1 ≠ 0 by omega), m1, m2, clAdd_n (show c + d ≠ 0 by omega), Int.add_assoc]
    by_cases h1 : c = 0
    · simp only [if_pos h1]
    · simp only [if_neg h1]; rw [Int.min_assoc, Int.max_assoc]
theorem gcl_put {s : Int} {a b k : Nat} {g : DepthGridC} (G : GsI s a b k g) (hs : 1 ≤ s) (ha : 1 ≤ a) {x y : Int} (hx : 0 ≤ x) (hy : 0 ≤ y) (d r : Int) (i : Nat) :
    gcl (gPut g x y d r) i = if 0 ≤ cellI s a b x y ∧ i = (cellI s a b x y).toNat then clAdd (gcl g i) (d - r) (d + r) else gcl g i := by
  unfold gPut
  rw [G.size, G.wide, G.high]
  by_cases h : 0 ≤ cellI s a b x y
  · have hb := cellI_bd hx hy hs (show 1 ≤ (a : Int) by omega) h
    rw [← Int.natCast_mul] at hb
    rw [if_pos h, gcl_addG i (by rw [G.cl]; omega) (by rw [G.cl, G.dl])]
    by_cases hi : i = (cellI s a b x y).toNat
    · rw [if_pos hi, if_pos ⟨h, hi⟩, hi]
    · rw [if_neg hi, if_neg (fun c => hi c.2)]
  · rw [if_neg h, if_neg (fun c => h c.1)]
theorem gcl_new (s : Int) (a b i : Nat) : gcl (newG s a b) i = (0, 0, 0) := by
  have h : ∀ n j : Nat, (List.replicate n (0 : Int)).getD j 0 = 0 := fun n j => by
    rw [List.getD_eq_getElem?_getD, List.getElem?_replicate]; split <;> rfl
  unfold gcl newG
  simp only [h]
theorem gs_cut {s : Int} {a b : Nat} {ys : List Int} (hs : 1 ≤ s) (ha : 1 ≤ a) (hy : ∀ k, 0 ≤ ys.getD (k * 4) 0 ∧ 0 ≤ ys.getD (k * 4 + 1) 0) (m i : Nat) : ∀ k, gcl (gsTo s a b ys (m + k)) i = clMrg (gcl (gsTo s a b ys m) i) (gcl (gsTo s a b (ys.drop (m * 4)) k) i)
  | 0 => by
    show gcl (gsTo s a b ys m) i = clMrg _ (gcl (newG s a b) i)
    rw [gcl_new]; rfl
  | k + 1 => by
    have ih := gs_cut (b := b) hs ha hy m i k
    have dr : ∀ j, (ys.drop (m * 4)).getD (k * 4 + j) 0 = ys.getD ((m + k) * 4 + j) 0 := fun j => by
      simp only [List.getD_eq_getElem?_getD, List.getElem?_drop]
      rw [show m * 4 + (k * 4 + j) = (m + k) * 4 + j by omega]
    have d0 := dr 0
    simp only [Nat.add_zero] at d0
    have c := hy (m + k)
    have e1 : gsTo s a b ys (m + (k + 1)) = gPut (gsTo s a b ys (m + k)) (ys.getD ((m + k) * 4) 0) (ys.getD ((m + k) * 4 + 1) 0) (ys.getD ((m + k) * 4 + 2) 0) (ys.getD ((m + k) * 4 + 3) 0) := rfl
    have e2 : gsTo s a b (ys.drop (m * 4)) (k + 1) = gPut (gsTo s a b (ys.drop (m * 4)) k) ((ys.drop (m * 4)).getD (k * 4) 0) ((ys.drop (m * 4)).getD (k * 4 + 1) 0) ((ys.drop (m * 4)).getD (k * 4 + 2) 0) ((ys.drop (m * 4)).getD (k * 4 + 3) 0) := rfl
    rw [e1, e2, d0, dr 1, dr 2, dr 3, gcl_put (gsTo_inv s a b ys (m + k)) hs ha c.1 c.2, gcl_put (gsTo_inv s a b (ys.drop (m * 4)) k) hs ha c.1 c.2, ih]
    by_cases h : 0 ≤ cellI s a b (ys.getD ((m + k) * 4) 0) (ys.getD ((m + k) * 4 + 1) 0) ∧ i = (cellI s a b (ys.getD ((m + k) * 4) 0) (ys.getD ((m + k) * 4 + 1) 0)).toNat
    · rw [if_pos h, if_pos h]
      exact clAdd_Mrg ((gsTo_inv s a b ys m).bd i).1 ((gsTo_inv s a b (ys.drop (m * 4)) k).bd i).1 _ _
    · rw [if_neg h, if_neg h]
end Go.Proofs.Ythmcnoloeeabbaa
