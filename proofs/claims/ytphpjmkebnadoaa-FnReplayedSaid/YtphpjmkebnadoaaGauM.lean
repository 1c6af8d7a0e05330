/- The gauge of a log, plainly: level records put one by one into a list sorted by time; the same as the last level records of each time, sorted. No program. -/
import Derived.Test.YtphpjmkebnadoaaTI
namespace Go.Proofs.Ytphpjmkebnadoaa

def recT (xs : List Int) (i : Nat) : Int := xs.getD (i * 7) 0
def recK (xs : List Int) (i : Nat) : Int := xs.getD (i * 7 + 1) 0
def recL (xs : List Int) (i : Nat) : Int := xs.getD (i * 7 + 2) 0
def insP (t l : Int) : List (Int × Int) → List (Int × Int)
  | [] => [(t, l)]
  | (a, b) :: r => if a < t then (a, b) :: insP t l r else if a = t then (a, l) :: r else (t, l) :: (a, b) :: r
def gTo (xs : List Int) : Nat → List (Int × Int)
  | 0 => []
  | k + 1 => if recK xs k = 1 then insP (recT xs k) (recL xs k) (gTo xs k) else gTo xs k
def SS (p : List (Int × Int)) : Prop := p.Pairwise fun a b => a.1 < b.1
theorem mem_insP {t l : Int} {x : Int × Int} : ∀ {p : List (Int × Int)}, SS p → (x ∈ insP t l p ↔ x = (t, l) ∨ (x ∈ p ∧ x.1 ≠ t))
  | [], _ => by simp [insP]
  | (a, b) :: r, h => by
    have h1 := (List.pairwise_cons.1 h).1
    have ih := mem_insP (t := t) (l := l) (x := x) (List.pairwise_cons.1 h).2
    unfold insP
    by_cases k1 : a < t
    · rw [if_pos k1, List.mem_cons, ih, List.mem_cons]
      constructor
      · rintro (rfl | rfl | ⟨m, n⟩)
        · exact .inr ⟨.inl rfl, by show a ≠ t; omega⟩
        · exact .inl rfl
        · exact .inr ⟨.inr m, n⟩
      · rintro (rfl | ⟨rfl | m, n⟩)
        · exact .inr (.inl rfl)
        · exact .inl rfl
        · exact .inr (.inr ⟨m, n⟩)
    · rw [if_neg k1]
      by_cases k2 : a = t
      · subst k2
        rw [if_pos rfl, List.mem_cons, List.mem_cons]
        constructor
        · rintro (rfl | m)
          · exact .inl rfl
          · exact .inr ⟨.inr m, by have := h1 x m; show x.1 ≠ a; simp only at this; omega⟩
        · rintro (rfl | ⟨rfl | m, n⟩)
          · exact .inl rfl
          · exact absurd rfl n
          · exact .inr m
      · rw [if_neg k2, List.mem_cons, List.mem_cons]
        constructor
        · rintro (rfl | rfl | m)
          · exact .inl rfl
          · exact .inr ⟨.inl rfl, k2⟩
          · exact .inr ⟨.inr m, by have := h1 x m; simp only at this; omega⟩
        · rintro (rfl | ⟨rfl | m, n⟩)
          · exact .inl rfl
          · exact .inr (.inl rfl)
          · exact .inr (.inr m)
theorem SS_insP {t l : Int} : ∀ {p : List (Int × Int)}, SS p → SS (insP t l p)
  | [], _ => List.pairwise_singleton _ _
  | (a, b) :: r, h => by
    have h1 := (List.pairwise_cons.1 h).1
    have h2 := (List.pairwise_cons.1 h).2
    unfold insP
    by_cases k1 : a < t
    · rw [if_pos k1]
      refine List.pairwise_cons.2 ⟨fun y hy => ?_, SS_insP h2⟩
      rcases (mem_insP h2).1 hy with rfl | ⟨m, _⟩
      · exact k1
      · exact h1 y m
    · rw [if_neg k1]
      by_cases k2 : a = t
      · rw [if_pos k2]
        exact List.pairwise_cons.2 ⟨fun y hy => h1 y hy, h2⟩
      · rw [if_neg k2]
        refine List.pairwise_cons.2 ⟨fun y hy => ?_, h⟩
        rcases List.mem_cons.1 hy with rfl | m
        · show t < a; omega
        · have := h1 y m
          simp only at this
          show t < y.1
          omega
theorem SS_gTo (xs : List Int) : ∀ k, SS (gTo xs k)
  | 0 => List.Pairwise.nil
  | k + 1 => by
    unfold gTo
    split
    · exact SS_insP (SS_gTo xs k)
    · exact SS_gTo xs k
/-- record i, the last level record of its time among the first k -/
def lastAt (xs : List Int) (k i : Nat) : Prop := recK xs i = 1 ∧ ∀ j, i < j → j < k → recK xs j = 1 → recT xs j ≠ recT xs i
theorem mem_gTo (xs : List Int) : ∀ (k : Nat) (x : Int × Int), x ∈ gTo xs k ↔ ∃ i, i < k ∧ lastAt xs k i ∧ x = (recT xs i, recL xs i)
  | 0, x => by simp [gTo]
  | k + 1, x => by
    have ih := mem_gTo xs k x
    unfold gTo
    by_cases h : recK xs k = 1
    · rw [if_pos h, mem_insP (SS_gTo xs k), ih]
      constructor
      · rintro (rfl | ⟨⟨i, hi, hl, rfl⟩, hn⟩)
        · exact ⟨k, by omega, ⟨h, fun j a b => by omega⟩, rfl⟩
        · refine ⟨i, by omega, ⟨hl.1, fun j a b c => ?_⟩, rfl⟩
          by_cases e : j = k
          · subst e; exact fun q => hn q.symm
          · exact hl.2 j a (by omega) c
      · rintro ⟨i, hi, hl, rfl⟩
        by_cases e : i = k
        · subst e; exact .inl rfl
        · refine .inr ⟨⟨i, by omega, ⟨hl.1, fun j a b c => hl.2 j a (by omega) c⟩, rfl⟩, fun q => hl.2 k (by omega) (by omega) h q.symm⟩
    · rw [if_neg h, ih]
      constructor
      · rintro ⟨i, hi, hl, rfl⟩
        refine ⟨i, by omega, ⟨hl.1, fun j a b c => ?_⟩, rfl⟩
        by_cases e : j = k
        · subst e; exact absurd c h
        · exact hl.2 j a (by omega) c
      · rintro ⟨i, hi, hl, rfl⟩
        have : i ≠ k := fun e => h (e ▸ hl.1)
        exact ⟨i, by omega, ⟨hl.1, fun j a b c => hl.2 j a (by omega) c⟩, rfl⟩
theorem SS_ext : ∀ {p q : List (Int × Int)}, SS p → SS q → (∀ x, x ∈ p ↔ x ∈ q) → p = q
  | [], [], _, _, _ => rfl
  | [], b :: q, _, _, h => by have := (h b).2 (List.mem_cons_self ..); cases this
  | a :: p, [], _, _, h => by have := (h a).1 (List.mem_cons_self ..); cases this
  | a :: p, b :: q, hp, hq, h => by
    obtain ⟨p1, p2⟩ := List.pairwise_cons.1 hp
    obtain ⟨q1, q2⟩ := List.pairwise_cons.1 hq
    have e : a = b := by
      rcases List.mem_cons.1 ((h a).1 (List.mem_cons_self ..)) with e | m
      · exact e
      · rcases List.mem_cons.1 ((h b).2 (List.mem_cons_self ..)) with e | m'
        · exact e.symm
        · have := q1 a m
          have := p1 b m'
          omega
    subst e
    rw [SS_ext p2 q2 fun x => ?_]
    constructor
    · intro m
      rcases List.mem_cons.1 ((h x).1 (List.mem_cons_of_mem _ m)) with e | m'
      · subst e; have := p1 x m; omega
      · exact m'
    · intro m
      rcases List.mem_cons.1 ((h x).2 (List.mem_cons_of_mem _ m)) with e | m'
      · subst e; have := q1 x m; omega
      · exact m'

/-- is record i a level record, with no later one of its time among the first n? -/
def selB (xs : List Int) (n i : Nat) : Bool := decide (recK xs i = 1) && !((List.range n).any fun j => decide (i < j) && (decide (recK xs j = 1) && decide (recT xs j = recT xs i)))
theorem selB_true {xs : List Int} {n i : Nat} : selB xs n i = true ↔ lastAt xs n i := by
  unfold selB lastAt
  rw [Bool.and_eq_true, decide_eq_true_eq, Bool.not_eq_true', ← Bool.not_eq_true, List.any_eq_true]
  refine and_congr Iff.rfl ⟨fun h j a b c q => h ⟨j, List.mem_range.2 b, by simp [a, c, q]⟩, ?_⟩
  rintro h ⟨j, hj, hb⟩
  rw [Bool.and_eq_true, Bool.and_eq_true, decide_eq_true_eq, decide_eq_true_eq, decide_eq_true_eq] at hb
  exact h j hb.1 (List.mem_range.1 hj) hb.2.1 hb.2.2
def sel (xs : List Int) (n k : Nat) : List Nat := (List.range k).filter (selB xs n)
theorem sel_succ (xs : List Int) (n k : Nat) : sel xs n (k + 1) = if selB xs n k = true then sel xs n k ++ [k] else sel xs n k := by
  unfold sel
  rw [List.range_succ, List.filter_append]
  cases h : selB xs n k <;> simp [h]
theorem mem_sel {xs : List Int} {n i : Nat} : i ∈ sel xs n n ↔ i < n ∧ lastAt xs n i := by
  unfold sel
  rw [List.mem_filter, List.mem_range, selB_true]
def pairOf (xs : List Int) (i : Nat) : Int × Int := (recT xs i, recL xs i)
theorem sel_ne (xs : List Int) (n : Nat) : (sel xs n n).Pairwise fun i j => recT xs i ≠ recT xs j := by
  have h1 : (sel xs n n).Pairwise (· < ·) := List.Pairwise.filter _ List.pairwise_lt_range
  refine List.Pairwise.imp_of_mem ?_ h1
  intro i j hi hj hij q
  exact (mem_sel.1 hi).2.2 j hij (mem_sel.1 hj).1 (mem_sel.1 hj).2.1 q.symm
theorem gauge_eq {xs : List Int} {n : Nat} {ks : List Nat} (hp : ks.Perm (sel xs n n)) (hs : ks.Pairwise fun i j => recT xs i ≤ recT xs j) : ks.map (pairOf xs) = gTo xs n := by
  have hne : ks.Pairwise fun i j => recT xs i ≠ recT xs j := (hp.pairwise_iff (fun {_ _} h => Ne.symm h)).2 (sel_ne xs n)
  have hlt : SS (ks.map (pairOf xs)) := by
    unfold SS
    rw [List.pairwise_map]
    refine List.Pairwise.imp (fun {i j} h => ?_) (hs.and hne)
    have h1 := h.1
    have h2 := h.2
    show recT xs i < recT xs j
    omega
  refine SS_ext hlt (SS_gTo xs n) fun x => ?_
  rw [mem_gTo, List.mem_map]
  constructor
  · rintro ⟨i, hi, rfl⟩
    have := mem_sel.1 (hp.mem_iff.1 hi)
    exact ⟨i, this.1, this.2, rfl⟩
  · rintro ⟨i, hi, hl, rfl⟩
    exact ⟨i, hp.mem_iff.2 (mem_sel.2 ⟨hi, hl⟩), rfl⟩
theorem sel_len (xs : List Int) (n : Nat) : (sel xs n n).length = (gTo xs n).length := by
  have hp := List.mergeSort_perm (sel xs n n) (fun i j => decide (recT xs i ≤ recT xs j))
  have hs : ((sel xs n n).mergeSort fun i j => decide (recT xs i ≤ recT xs j)).Pairwise fun i j => recT xs i ≤ recT xs j := by
    refine List.Pairwise.imp (fun {i j} h => of_decide_eq_true h) (List.pairwise_mergeSort (fun a b c h1 h2 => ?_) (fun a b => ?_) _)
    · simp only [decide_eq_true_eq] at *; omega
    · simp only [Bool.or_eq_true, decide_eq_true_eq]; omega
  rw [← gauge_eq hp hs, List.length_map, hp.length_eq]

/-- how many come ahead of t, and the list with t put in -/
def aheadP (t : Int) (p : List (Int × Int)) : Nat := (p.takeWhile fun a => decide (a.1 < t)).length
theorem insP_at {t l : Int} : ∀ {p : List (Int × Int)}, (h : aheadP t p < p.length) → (p[aheadP t p]).1 = t → insP t l p = p.take (aheadP t p) ++ (t, l) :: p.drop (aheadP t p + 1)
  | [], h, _ => absurd h (Nat.not_lt_zero _)
  | (a, b) :: r, h, e => by
    unfold insP
    by_cases k1 : a < t
    · have e1 : aheadP t ((a, b) :: r) = aheadP t r + 1 := by unfold aheadP; simp [k1]
      rw [if_pos k1]
      simp only [e1, List.length_cons, List.getElem_cons_succ] at h e
      rw [e1, insP_at (by omega) e, List.take_succ_cons, List.drop_succ_cons]
      rfl
    · have e1 : aheadP t ((a, b) :: r) = 0 := by unfold aheadP; simp [k1]
      simp only [e1, List.getElem_cons_zero] at e
      rw [if_neg k1, if_pos e, e1]
      subst e
      rfl
theorem insP_new {t l : Int} : ∀ {p : List (Int × Int)}, SS p → (∀ h : aheadP t p < p.length, (p[aheadP t p]).1 ≠ t) → insP t l p = p.take (aheadP t p) ++ (t, l) :: p.drop (aheadP t p)
  | [], _, _ => rfl
  | (a, b) :: r, hs, e => by
    unfold insP
    by_cases k1 : a < t
    · have e1 : aheadP t ((a, b) :: r) = aheadP t r + 1 := by unfold aheadP; simp [k1]
      rw [if_pos k1, e1, insP_new (List.pairwise_cons.1 hs).2 (fun h q => ?_), List.take_succ_cons, List.drop_succ_cons]
      · rfl
      · refine e (by rw [e1, List.length_cons]; omega) ?_
        simp only [e1, List.getElem_cons_succ]
        exact q
    · have e1 : aheadP t ((a, b) :: r) = 0 := by unfold aheadP; simp [k1]
      have k2 : a ≠ t := fun q => e (by rw [e1]; simp) (by simp only [e1, List.getElem_cons_zero]; exact q)
      rw [if_neg k1, if_neg k2, e1]
      rfl

def fstL (p : List (Int × Int)) : List Int := p.map (·.1)
def sndL (p : List (Int × Int)) : List Int := p.map (·.2)
theorem fstL_len (p : List (Int × Int)) : (fstL p).length = p.length := List.length_map ..
theorem sndL_len (p : List (Int × Int)) : (sndL p).length = p.length := List.length_map ..
theorem fstL_at {p : List (Int × Int)} {k : Nat} (h : k < p.length) : (fstL p).getD k 0 = (p[k]).1 := by unfold fstL; simp [h]
theorem ahead_le (t : Int) (p : List (Int × Int)) : aheadP t p ≤ p.length := (List.takeWhile_prefix _).length_le
theorem ahead_lt {t : Int} : ∀ {p : List (Int × Int)} {k : Nat}, k < aheadP t p → (fstL p).getD k 0 < t
  | [], _, h => absurd h (Nat.not_lt_zero _)
  | (a, b) :: r, k, h => by
    by_cases k1 : a < t
    · have e1 : aheadP t ((a, b) :: r) = aheadP t r + 1 := by unfold aheadP; simp [k1]
      cases k with
      | zero => exact k1
      | succ k => exact ahead_lt (p := r) (k := k) (by omega)
    · have e1 : aheadP t ((a, b) :: r) = 0 := by unfold aheadP; simp [k1]
      omega
theorem ahead_stop {t : Int} : ∀ {p : List (Int × Int)}, aheadP t p < p.length → ¬ (fstL p).getD (aheadP t p) 0 < t
  | [], h => absurd h (Nat.not_lt_zero _)
  | (a, b) :: r, h => by
    by_cases k1 : a < t
    · have e1 : aheadP t ((a, b) :: r) = aheadP t r + 1 := by unfold aheadP; simp [k1]
      rw [e1] at h ⊢
      exact ahead_stop (p := r) (by simpa using h)
    · have e1 : aheadP t ((a, b) :: r) = 0 := by unfold aheadP; simp [k1]
      rw [e1]
      exact k1
theorem set_split {α : Type} {l : List α} {m : Nat} (h : m < l.length) (x : α) : l.set m x = l.take m ++ x :: l.drop (m + 1) := List.set_eq_take_append_cons_drop.trans (if_pos h)
/-- the time is known: its level is turned -/
theorem gTo_turn {xs : List Int} {k m : Nat} (hk : recK xs k = 1) (hm : aheadP (recT xs k) (gTo xs k) = m) (h : m < (gTo xs k).length) (he : (fstL (gTo xs k)).getD m 0 = recT xs k) :
    fstL (gTo xs (k + 1)) = fstL (gTo xs k) ∧ sndL (gTo xs (k + 1)) = (sndL (gTo xs k)).set m (recL xs k) := by
  subst hm
  rw [fstL_at h] at he
  have e : gTo xs (k + 1) = (gTo xs k).set (aheadP (recT xs k) (gTo xs k)) (recT xs k, recL xs k) := by
    show (if recK xs k = 1 then _ else _) = _
    rw [if_pos hk, insP_at h he, set_split h]
  rw [e]
  constructor
  · unfold fstL
    rw [List.map_set]
    have key : ∀ (p : List Int) (m : Nat) (h : m < p.length) (x : Int), p[m] = x → p.set m x = p := by
      intro p m h x e
      subst e
      exact List.set_getElem_self h
    exact key _ _ (by simpa using h) _ (by simpa using he)
  · unfold sndL
    rw [List.map_set]
/-- the time is new: time and level are put in -/
theorem gTo_new {xs : List Int} {k m : Nat} (hk : recK xs k = 1) (hm : aheadP (recT xs k) (gTo xs k) = m) (he : m < (gTo xs k).length → (fstL (gTo xs k)).getD m 0 ≠ recT xs k) :
    fstL (gTo xs (k + 1)) = (fstL (gTo xs k)).take m ++ recT xs k :: (fstL (gTo xs k)).drop m ∧ sndL (gTo xs (k + 1)) = (sndL (gTo xs k)).take m ++ recL xs k :: (sndL (gTo xs k)).drop m := by
  subst hm
  have e : gTo xs (k + 1) = (gTo xs k).take (aheadP (recT xs k) (gTo xs k)) ++ (recT xs k, recL xs k) :: (gTo xs k).drop (aheadP (recT xs k) (gTo xs k)) := by
    show (if recK xs k = 1 then _ else _) = _
    rw [if_pos hk, insP_new (SS_gTo xs k) fun h => by rw [← fstL_at h]; exact he h]
  rw [e]
  unfold fstL sndL
  rw [List.map_append, List.map_append, List.map_take, List.map_cons, List.map_drop, List.map_take, List.map_cons, List.map_drop]
  exact ⟨rfl, rfl⟩
theorem gTo_skip {xs : List Int} {k : Nat} (hk : recK xs k ≠ 1) : gTo xs (k + 1) = gTo xs k := by
  show (if recK xs k = 1 then _ else _) = _
  rw [if_neg hk]
end Go.Proofs.Ytphpjmkebnadoaa
