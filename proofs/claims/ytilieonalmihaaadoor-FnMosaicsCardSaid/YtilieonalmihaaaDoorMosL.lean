/- Merging of mosaics, plainly: cell by cell; the order does not matter; how many cells are known. No program. -/
import Derived.Test.YtilieonalmihaaaDoorMosK
namespace Go.Proofs.YtilieonalmihaaaDoor

def mgB (mv mg kv kg : Int) : Bool := decide (0 < kg) && (decide (mg < kg) || (decide (mg = kg) && decide (mv < kv)))
theorem set_getD (l : List Int) (i j : Nat) (x : Int) (hi : i < l.length) : (l.set i x).getD j 0 = if i = j then x else l.getD j 0 := by
  rw [List.getD_eq_getElem?_getD, List.getElem?_set, List.getD_eq_getElem?_getD]
  by_cases h : i = j
  · subst h; rw [if_pos rfl, if_pos rfl, if_pos hi]; rfl
  · rw [if_neg h, if_neg h]
theorem mergeTo_len (m k : MosaicC) : ∀ n, (mergeTo m k n).values.length = m.values.length ∧ (mergeTo m k n).grades.length = m.grades.length
  | 0 => ⟨rfl, rfl⟩
  | n + 1 => by
    have ih := mergeTo_len m k n
    rw [mergeTo_succ]
    split
    · unfold putM
      exact ⟨(putV_len _ _ _ _ _).trans ih.1, (putG_len _ _ _ _ _).trans ih.2⟩
    · exact ih
theorem mergeTo_cell (m k : MosaicC) (hl : m.grades.length = m.values.length) (j : Nat) : ∀ n, n ≤ m.values.length →
    (mergeTo m k n).values.getD j 0 = (if j < n ∧ mgB (m.values.getD j 0) (m.grades.getD j 0) (k.values.getD j 0) (k.grades.getD j 0) = true then k.values.getD j 0 else m.values.getD j 0) ∧
    (mergeTo m k n).grades.getD j 0 = (if j < n ∧ mgB (m.values.getD j 0) (m.grades.getD j 0) (k.values.getD j 0) (k.grades.getD j 0) = true then k.grades.getD j 0 else m.grades.getD j 0)
  | 0, _ => by simp [mergeTo_zero]
  | n + 1, hn => by
    have ih := mergeTo_cell m k hl j n (by omega)
    have hlen := mergeTo_len m k n
    rw [mergeTo_succ]
    by_cases hj : j = n
    · subst hj
      have h0 : ¬ j < j := by omega
      simp only [h0, false_and, if_false] at ih
      by_cases hk : 0 < k.grades.getD j 0
      · rw [if_pos hk]
        have hB : putB (mergeTo m k j).values (mergeTo m k j).grades j (k.values.getD j 0) (k.grades.getD j 0) = mgB (m.values.getD j 0) (m.grades.getD j 0) (k.values.getD j 0) (k.grades.getD j 0) := by
          unfold putB mgB
          rw [ih.1, ih.2, decide_eq_true hk, Bool.true_and]
        unfold putM putV putG
        simp only [hB]
        by_cases hb : mgB (m.values.getD j 0) (m.grades.getD j 0) (k.values.getD j 0) (k.grades.getD j 0) = true
        · rw [if_pos hb, if_pos hb, set_getD _ _ _ _ (by omega), set_getD _ _ _ _ (by omega), if_pos rfl, if_pos rfl, if_pos ⟨by omega, hb⟩, if_pos ⟨by omega, hb⟩]
          exact ⟨rfl, rfl⟩
        · rw [if_neg hb, if_neg hb, if_neg (fun c => hb c.2), if_neg (fun c => hb c.2)]
          exact ih
      · have hb : ¬ mgB (m.values.getD j 0) (m.grades.getD j 0) (k.values.getD j 0) (k.grades.getD j 0) = true := by unfold mgB; rw [decide_eq_false hk]; simp
        rw [if_neg hk, if_neg (fun c => hb c.2), if_neg (fun c => hb c.2)]
        exact ih
    · have hiff : (j < n + 1) = (j < n) := by apply propext; omega
      simp only [hiff]
      split
      · unfold putM putV putG
        simp only
        split
        · have hne : ¬ n = j := fun c => hj c.symm
          rw [set_getD _ _ _ _ (by omega), set_getD _ _ _ _ (by omega)]
          simp only [if_neg hne]
          exact ih
        · exact ih
      · exact ih
theorem mg_sym {mv mg kv kg : Int} (h1 : celB mv mg = true) (h2 : celB kv kg = true) :
    (if mgB mv mg kv kg = true then kv else mv) = (if mgB kv kg mv mg = true then mv else kv) ∧ (if mgB mv mg kv kg = true then kg else mg) = (if mgB kv kg mv mg = true then mg else kg) := by
  have b1 : (mv = -1 ∧ mg = 0) ∨ ((0 ≤ mv ∧ mv ≤ 1000) ∧ 1 ≤ mg ∧ mg ≤ 9) := by
    unfold celB pixB at h1
    rw [Bool.or_eq_true, Bool.and_eq_true] at h1
    rcases h1 with h | h
    · exact .inr ⟨inR_true h.1, inR_true h.2⟩
    · exact .inl (by simpa using h)
  have b2 : (kv = -1 ∧ kg = 0) ∨ ((0 ≤ kv ∧ kv ≤ 1000) ∧ 1 ≤ kg ∧ kg ≤ 9) := by
    unfold celB pixB at h2
    rw [Bool.or_eq_true, Bool.and_eq_true] at h2
    rcases h2 with h | h
    · exact .inr ⟨inR_true h.1, inR_true h.2⟩
    · exact .inl (by simpa using h)
  unfold mgB
  simp only [Bool.and_eq_true, Bool.or_eq_true, decide_eq_true_eq]
  constructor
  · split <;> split <;> omega
  · split <;> split <;> omega
theorem list_ext0 {a b : List Int} (hl : a.length = b.length) (h : ∀ j, j < a.length → a.getD j 0 = b.getD j 0) : a = b := by
  apply List.ext_getElem hl
  intro j h1 h2
  have := h j h1
  rw [List.getD_eq_getElem?_getD, List.getD_eq_getElem?_getD, List.getElem?_eq_getElem h1, List.getElem?_eq_getElem h2] at this
  exact this
/-- merging does not depend on the order -/
theorem merge_sym (m k : MosaicC) : mergeMC m k = mergeMC k m ∧ mergeMR m k = mergeMR k m := by
  by_cases h : mosOk m = true ∧ mosOk k = true ∧ m.wide = k.wide ∧ m.high = k.high
  · obtain ⟨h1, h2, h3, h4⟩ := h
    have M := MOk.of h1
    have K := MOk.of h2
    have hlen : m.values.length = k.values.length := by
      have a := M.len
      have b := K.len
      rw [h3, h4] at a
      omega
    refine ⟨by unfold mergeMC; rw [if_pos ⟨h1, h2⟩, if_pos ⟨h3, h4⟩, if_pos ⟨h2, h1⟩, if_pos ⟨h3.symm, h4.symm⟩], ?_⟩
    unfold mergeMR
    rw [if_pos ⟨h1, h2, h3, h4⟩, if_pos ⟨h2, h1, h3.symm, h4.symm⟩]
    have A := mergeTo_len m k k.values.length
    have B := mergeTo_len k m m.values.length
    have C := mergeTo_wh m k k.values.length
    have D := mergeTo_wh k m m.values.length
    have hc := fun j (hj : j < m.values.length) => mg_sym (M.at_ hj) (K.at_ (k := j) (by omega))
    have hv : (mergeTo m k k.values.length).values = (mergeTo k m m.values.length).values := by
      refine list_ext0 (by rw [A.1, B.1, hlen]) fun j hj => ?_
      rw [A.1] at hj
      have hjk : j < k.values.length := by omega
      have e1 := (mergeTo_cell m k M.eq j k.values.length (by omega)).1
      have e2 := (mergeTo_cell k m K.eq j m.values.length (by omega)).1
      simp only [hj, hjk, true_and] at e1 e2
      rw [e1, e2]
      exact (hc j hj).1
    have hg : (mergeTo m k k.values.length).grades = (mergeTo k m m.values.length).grades := by
      refine list_ext0 (by rw [A.2, B.2, M.eq, K.eq, hlen]) fun j hj => ?_
      rw [A.2, M.eq] at hj
      have hjk : j < k.values.length := by omega
      have e1 := (mergeTo_cell m k M.eq j k.values.length (by omega)).2
      have e2 := (mergeTo_cell k m K.eq j m.values.length (by omega)).2
      simp only [hj, hjk, true_and] at e1 e2
      rw [e1, e2]
      exact (hc j hj).2
    generalize mergeTo m k k.values.length = x at *
    generalize mergeTo k m m.values.length = y at *
    obtain ⟨x1, x2, x3, x4⟩ := x
    obtain ⟨y1, y2, y3, y4⟩ := y
    simp only at C D hv hg
    rw [C.1, C.2, D.1, D.2, hv, hg, h3, h4]
  · refine ⟨?_, ?_⟩
    · unfold mergeMC
      by_cases a : mosOk m = true ∧ mosOk k = true
      · have b : ¬ (m.wide = k.wide ∧ m.high = k.high) := fun c => h ⟨a.1, a.2, c.1, c.2⟩
        rw [if_pos a, if_neg b, if_pos ⟨a.2, a.1⟩, if_neg (fun c => b ⟨c.1.symm, c.2.symm⟩)]
      · rw [if_neg a, if_neg (fun c => a ⟨c.2, c.1⟩)]
    · unfold mergeMR
      rw [if_neg h, if_neg (fun c => h ⟨c.2.1, c.1, c.2.2.1.symm, c.2.2.2.symm⟩)]
theorem mg_cel {mv mg kv kg : Int} (h1 : celB mv mg = true) (h2 : celB kv kg = true) : celB (if mgB mv mg kv kg = true then kv else mv) (if mgB mv mg kv kg = true then kg else mg) = true := by
  split
  · exact h2
  · exact h1
theorem merge_ok {m k : MosaicC} (h1 : mosOk m = true) (h2 : mosOk k = true) (h3 : m.wide = k.wide) (h4 : m.high = k.high) : mosOk (mergeTo m k k.values.length) = true := by
  have M := MOk.of h1
  have K := MOk.of h2
  have hlen : m.values.length = k.values.length := by
    have a := M.len
    have b := K.len
    rw [h3, h4] at a
    omega
  have A := mergeTo_len m k k.values.length
  have C := mergeTo_wh m k k.values.length
  have hm := h1
  unfold mosOk mosSide at hm ⊢
  rw [C.1, C.2, A.1, A.2]
  rw [Bool.and_eq_true] at hm ⊢
  refine ⟨hm.1, ?_⟩
  unfold celsB
  rw [List.all_eq_true]
  intro j hj
  have hj' := List.mem_range.1 hj
  have hjk : j < k.values.length := by omega
  have e := mergeTo_cell m k M.eq j k.values.length (by omega)
  simp only [hjk, true_and] at e
  rw [e.1, e.2]
  exact mg_cel (M.at_ hj') (K.at_ hjk)
theorem ck_merge {m k : MosaicC} (M : MOk m) (K : MOk k) (hlen : m.values.length = k.values.length) : ∀ n, n ≤ k.values.length →
    ckU m.grades n ≤ ckU (mergeTo m k k.values.length).grades n ∧ ckU k.grades n ≤ ckU (mergeTo m k k.values.length).grades n ∧ ckU (mergeTo m k k.values.length).grades n ≤ ckU m.grades n + ckU k.grades n
  | 0, _ => by simp [ckU]
  | n + 1, hn => by
    obtain ⟨i1, i2, i3⟩ := ck_merge M K hlen n (by omega)
    have e := (mergeTo_cell m k M.eq n k.values.length (by omega)).2
    have hn' : n < k.values.length := by omega
    simp only [hn', true_and] at e
    have b1 := celB_bd (M.at_ (k := n) (by omega))
    have b2 := celB_bd (K.at_ (k := n) hn')
    unfold ckU
    rw [e]
    generalize m.grades.getD n 0 = mg at *
    generalize k.grades.getD n 0 = kg at *
    generalize m.values.getD n 0 = mv at *
    generalize k.values.getD n 0 = kv at *
    have hx : (0 < (if mgB mv mg kv kg = true then kg else mg)) ↔ (0 < mg ∨ 0 < kg) := by
      unfold mgB
      simp only [Bool.and_eq_true, Bool.or_eq_true, decide_eq_true_eq]
      split <;> omega
    by_cases p1 : 0 < mg
    · by_cases p2 : 0 < kg
      · rw [if_pos p1, if_pos p2, if_pos (hx.2 (.inl p1))]; omega
      · rw [if_pos p1, if_neg p2, if_pos (hx.2 (.inl p1))]; omega
    · by_cases p2 : 0 < kg
      · rw [if_neg p1, if_pos p2, if_pos (hx.2 (.inr p2))]; omega
      · rw [if_neg p1, if_neg p2, if_neg (fun c => by rcases hx.1 c with c | c <;> omega)]; omega
/-- what is known of a merged mosaic -/
theorem ck_merged {m k : MosaicC} (h : mergeMC m k = 0) : ckC m = 0 ∧ ckC k = 0 ∧ ckC (mergeMR m k) = 0 ∧ ckN m ≤ ckN (mergeMR m k) ∧ ckN k ≤ ckN (mergeMR m k) ∧ ckN (mergeMR m k) ≤ ckN m + ckN k := by
  have hh : mosOk m = true ∧ mosOk k = true ∧ m.wide = k.wide ∧ m.high = k.high := by
    unfold mergeMC at h
    by_cases a : mosOk m = true ∧ mosOk k = true
    · rw [if_pos a] at h
      by_cases b : m.wide = k.wide ∧ m.high = k.high
      · exact ⟨a.1, a.2, b.1, b.2⟩
      · rw [if_neg b] at h; omega
    · rw [if_neg a] at h; omega
  obtain ⟨h1, h2, h3, h4⟩ := hh
  have M := MOk.of h1
  have K := MOk.of h2
  have hlen : m.values.length = k.values.length := by
    have a := M.len
    have b := K.len
    rw [h3, h4] at a
    omega
  have hR : mergeMR m k = mergeTo m k k.values.length := by unfold mergeMR; rw [if_pos ⟨h1, h2, h3, h4⟩]
  have hO := merge_ok h1 h2 h3 h4
  rw [hR]
  have y1 := ck_yes h1
  have y2 := ck_yes h2
  have y3 := ck_yes hO
  have c := ck_merge M K hlen k.values.length (Nat.le_refl _)
  have A := (mergeTo_len m k k.values.length).2
  rw [A, M.eq] at y3
  rw [M.eq] at y1
  rw [K.eq] at y2
  rw [hlen] at y1 y3
  rw [y1.1, y1.2, y2.1, y2.2, y3.1, y3.2]
  omega
end Go.Proofs.YtilieonalmihaaaDoor
