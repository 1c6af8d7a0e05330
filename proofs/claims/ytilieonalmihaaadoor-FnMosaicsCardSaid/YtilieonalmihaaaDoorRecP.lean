/- The line of a record, and the record of a line, plainly. No program. -/
import Derived.Test.YtilieonalmihaaaDoorStS
import Derived.Test.YtilieonalmihaaaDoorChkWalk
import Derived.Test.YtilieonalmihaaaDoorRec
namespace Go.Proofs.YtilieonalmihaaaDoor
open Go.RowKit

/-- The seven numbers of a record. -/
structure R7 where
  t : Int
  k : Int
  l : Int
  x : Int
  y : Int
  d : Int
  r : Int
deriving DecidableEq
def R7.z : R7 := ⟨0, 0, 0, 0, 0, 0, 0⟩
def R7.ok (f : R7) : Bool := recB f.t f.k f.l f.x f.y f.d f.r
def R7.ns (f : R7) : List Int := [f.t, f.k] ++ (if f.k = 1 then [f.l] else if f.k = 2 then [f.x, f.y, f.d, f.r] else [])
def R7.tx (f : R7) : Bs := joinI [32] f.ns
def R7.ln (f : R7) : Bs := f.tx ++ [32, 35] ++ Lib.itoa (chkFold f.tx)
def R7.L (f : R7) : List Int := [f.t, f.k, f.l, f.x, f.y, f.d, f.r]
def R7.of (n : List Int) : R7 := ⟨n.getD 0 0, n.getD 1 0, if n.length = 3 then n.getD 2 0 else 0, if n.length = 6 then n.getD 2 0 else 0, if n.length = 6 then n.getD 3 0 else 0, if n.length = 6 then n.getD 4 0 else 0, if n.length = 6 then n.getD 5 0 else 0⟩
theorem zeroB_true {x y d r : Int} (h : zeroB x y d r = true) : x = 0 ∧ y = 0 ∧ d = 0 ∧ r = 0 := by unfold zeroB at h; simpa using h
theorem souB_true {x y d r : Int} (h : souB x y d r = true) : (0 ≤ x ∧ x ≤ 10000) ∧ (0 ≤ y ∧ y ≤ 10000) ∧ (-2000 ≤ d ∧ d ≤ 1000000) ∧ 0 ≤ r ∧ r ≤ 5000 := by
  unfold souB at h
  simp only [Bool.and_eq_true] at h
  exact ⟨inR_true h.1.1.1, inR_true h.1.1.2, inR_true h.1.2, inR_true h.2⟩
theorem R7.cases {f : R7} (h : f.ok = true) : (0 ≤ f.t ∧ f.t ≤ 1000000) ∧ ((f.k = 1 ∧ (-2000 ≤ f.l ∧ f.l ≤ 2000) ∧ f.x = 0 ∧ f.y = 0 ∧ f.d = 0 ∧ f.r = 0) ∨
    (f.k = 2 ∧ f.l = 0 ∧ (0 ≤ f.x ∧ f.x ≤ 10000) ∧ (0 ≤ f.y ∧ f.y ≤ 10000) ∧ (-2000 ≤ f.d ∧ f.d ≤ 1000000) ∧ 0 ≤ f.r ∧ f.r ≤ 5000) ∨
    (f.k = 3 ∧ f.l = 0 ∧ f.x = 0 ∧ f.y = 0 ∧ f.d = 0 ∧ f.r = 0)) := by
  unfold R7.ok recB at h
  rw [Bool.and_eq_true] at h
  refine ⟨inR_true h.1, ?_⟩
  have h2 := h.2
  split at h2
  · rw [Bool.and_eq_true] at h2
    exact .inl ⟨by assumption, inR_true h2.1, zeroB_true h2.2⟩
  · split at h2
    · rw [Bool.and_eq_true, beq_iff_eq] at h2
      exact .inr (.inl ⟨by assumption, h2.1, souB_true h2.2⟩)
    · split at h2
      · rw [Bool.and_eq_true, beq_iff_eq] at h2
        exact .inr (.inr ⟨by assumption, h2.1, zeroB_true h2.2⟩)
      · cases h2
theorem R7.of_ns {f : R7} (h : f.ok = true) : R7.of f.ns = f ∧ (∀ z ∈ f.ns, -2000 ≤ z ∧ z ≤ 1000000) ∧ 2 ≤ f.ns.length ∧ f.ns ≠ [] := by
  obtain ⟨h1, h2⟩ := R7.cases h
  obtain ⟨t, k, l, x, y, d, r⟩ := f
  simp only at h1 h2
  rcases h2 with ⟨rfl, h3, rfl, rfl, rfl, rfl⟩ | ⟨rfl, rfl, h3⟩ | ⟨rfl, rfl, rfl, rfl, rfl, rfl⟩
  · refine ⟨rfl, fun z hz => ?_, by simp [R7.ns], by simp [R7.ns]⟩
    simp [R7.ns] at hz
    rcases hz with rfl | rfl | rfl <;> omega
  · refine ⟨rfl, fun z hz => ?_, by simp [R7.ns], by simp [R7.ns]⟩
    simp [R7.ns] at hz
    rcases hz with rfl | rfl | rfl | rfl | rfl | rfl <;> omega
  · refine ⟨rfl, fun z hz => ?_, by simp [R7.ns], by simp [R7.ns]⟩
    simp [R7.ns] at hz
    rcases hz with rfl | rfl <;> omega
theorem R7.ln_words {f : R7} (h : f.ok = true) : splitC 32 f.ln = f.ns.map Lib.itoa ++ [35 :: Lib.itoa (chkFold f.tx)] := by
  have hn := (R7.of_ns h).2.2.2
  have e : f.ln = Lib.join (f.ns.map Lib.itoa ++ [35 :: Lib.itoa (chkFold f.tx)]) [32] := by
    rw [join_snoc, if_neg (by simpa using hn)]
    unfold R7.ln R7.tx joinI
    simp
  rw [e]
  cases hm : f.ns.map Lib.itoa with
  | nil => simp at hm; exact absurd hm hn
  | cons x r =>
    rw [List.cons_append]
    refine splitC_join fun y hy hc => ?_
    rw [← List.cons_append, ← hm, List.mem_append, List.mem_singleton] at hy
    rcases hy with hy | rfl
    · rw [List.mem_map] at hy
      obtain ⟨z, _, rfl⟩ := hy
      rcases itoa_mem hc with h1 | h1
      · exact absurd h1.1 (by decide)
      · exact absurd h1 (by decide)
    · rcases List.mem_cons.1 hc with hc | hc
      · exact absurd hc (by decide)
      · rcases itoa_mem hc with h1 | h1
        · exact absurd h1.1 (by decide)
        · exact absurd h1 (by decide)
theorem R7.ln_cut {f : R7} : (Lib.cut f.ln [32, 35]).1 = f.tx := by
  have e : f.ln = f.tx ++ 32 :: 35 :: Lib.itoa (chkFold f.tx) := by unfold R7.ln; simp
  rw [e]
  exact cut_first (by decide) _ _ (joinI_nomem (by decide) (by decide) _)
theorem R7.tx_words {f : R7} (h : f.ok = true) : splitC 32 f.tx = f.ns.map Lib.itoa := splitC_joinI (by decide) (R7.of_ns h).2.2.2
/-- all words are numbers -/
def sgAll (ws : List Bs) : Bool := ws.all sgB
def rdAll (ws : List Bs) : Bool := ws.all rdB
theorem sgAll_ns {f : R7} (h : f.ok = true) : sgAll (f.ns.map Lib.itoa) = true ∧ (f.ns.map Lib.itoa).map sgN = f.ns := by
  have hb := (R7.of_ns h).2.1
  refine ⟨?_, ?_⟩
  · unfold sgAll
    rw [List.all_eq_true]
    intro x hx
    rw [List.mem_map] at hx
    obtain ⟨z, hz, rfl⟩ := hx
    have := hb z hz
    exact (sg_itoa (by omega) (by omega)).1
  · rw [List.map_map]
    conv => rhs; rw [← List.map_id f.ns]
    refine List.map_congr_left fun z hz => ?_
    have := hb z hz
    exact (sg_itoa (by omega) (by omega)).2
theorem rdAll_ns {f : R7} (h : f.ok = true) : rdAll (f.ns.map Lib.itoa) = true ∧ (f.ns.map Lib.itoa).map rdN = f.ns := by
  have hb := (R7.of_ns h).2.1
  refine ⟨?_, ?_⟩
  · unfold rdAll
    rw [List.all_eq_true]
    intro x hx
    rw [List.mem_map] at hx
    obtain ⟨z, hz, rfl⟩ := hx
    have := hb z hz
    exact (rd_itoa (by omega) (by omega)).1
  · rw [List.map_map]
    conv => rhs; rw [← List.map_id f.ns]
    refine List.map_congr_left fun z hz => ?_
    have := hb z hz
    exact (rd_itoa (by omega) (by omega)).2
/-- the reference's way -/
def rrS (s : Bs) : R7 := R7.of ((splitC 32 s).dropLast.map sgN)
def rrB (s : Bs) : Bool := sgAll (splitC 32 s).dropLast && (decide (2 ≤ (splitC 32 s).dropLast.length) && ((rrS s).ok && decide ((rrS s).ln = s)))
def rrR (s : Bs) : R7 := if rrB s = true then rrS s else R7.z
theorem rr_of {s : Bs} (h : rrB s = true) : (rrR s).ok = true ∧ (rrR s).ln = s := by
  unfold rrR
  rw [if_pos h]
  unfold rrB at h
  simp only [Bool.and_eq_true, decide_eq_true_eq] at h
  exact h.2.2
theorem rr_ln {f : R7} (h : f.ok = true) : rrB f.ln = true ∧ rrR f.ln = f := by
  have hw := R7.ln_words h
  have hd : (splitC 32 f.ln).dropLast = f.ns.map Lib.itoa := by rw [hw, List.dropLast_concat]
  have hs := sgAll_ns h
  have ho := R7.of_ns h
  have e : rrS f.ln = f := by unfold rrS; rw [hd, hs.2, ho.1]
  have hb : rrB f.ln = true := by
    unfold rrB
    rw [e, hd, hs.1, h, decide_eq_true rfl, List.length_map, decide_eq_true ho.2.2.1]
    rfl
  exact ⟨hb, by unfold rrR; rw [if_pos hb, e]⟩
/-- whatever way finds a valid record with this line finds the same one -/
theorem rr_is {s : Bs} {f : R7} (h : f.ok = true) (e : f.ln = s) : rrB s = true ∧ rrR s = f := by
  subst e; exact rr_ln h
theorem rr_not {s : Bs} (h : ¬ ∃ f : R7, f.ok = true ∧ f.ln = s) : rrB s = false ∧ rrR s = R7.z := by
  have hb : rrB s = false := by
    rw [Bool.eq_false_iff]; intro c
    exact h ⟨_, rr_of c⟩
  exact ⟨hb, by unfold rrR; rw [hb]; rfl⟩
theorem R7.ln_inj {f g : R7} (hf : f.ok = true) (hg : g.ok = true) (h : f.ln = g.ln) : f = g := by
  rw [← (rr_ln hf).2, h, (rr_ln hg).2]
/-- the text of a line with one byte more is none's line -/
theorem rr_more (f : R7) : rrB (f.ln ++ [48]) = false := by
  rw [Bool.eq_false_iff]; intro c
  obtain ⟨h1, h2⟩ := rr_of c
  have h3 : (Lib.cut (rrR (f.ln ++ [48])).ln [32, 35]).1 = (Lib.cut (f.ln ++ [48]) [32, 35]).1 := by rw [h2]
  rw [R7.ln_cut] at h3
  have e : f.ln ++ [48] = f.tx ++ 32 :: 35 :: (Lib.itoa (chkFold f.tx) ++ [48]) := by unfold R7.ln; simp
  have h9 : (Lib.cut (f.ln ++ [48]) [32, 35]).1 = f.tx := by rw [e]; exact cut_first (by decide) _ _ (joinI_nomem (by decide) (by decide) _)
  rw [h9] at h3
  have h4 : (rrR (f.ln ++ [48])).ln = f.tx ++ [32, 35] ++ Lib.itoa (chkFold f.tx) := by
    show (rrR (f.ln ++ [48])).tx ++ [32, 35] ++ Lib.itoa (chkFold (rrR (f.ln ++ [48])).tx) = _
    rw [h3]
  have h5 := h4.symm.trans h2
  have h6 := congrArg List.length h5
  rw [List.length_append (bs := [48])] at h6
  have h7 : f.ln.length = (f.tx ++ [32, 35] ++ Lib.itoa (chkFold f.tx)).length := rfl
  have h8 : ([48] : List UInt8).length = 1 := rfl
  omega
/-- no line holds a newline -/
theorem R7.ln_nl (f : R7) : (10 : UInt8) ∉ f.ln := by
  unfold R7.ln
  intro h
  rcases List.mem_append.1 h with h | h
  · rcases List.mem_append.1 h with h | h
    · exact joinI_nomem (by decide) (by decide) _ h
    · simp at h
  · rcases itoa_mem h with h1 | h1
    · exact absurd h1.1 (by decide)
    · exact absurd h1 (by decide)
theorem R7.ln_ne (f : R7) : f.ln ≠ [] := by unfold R7.ln; simp
end Go.Proofs.YtilieonalmihaaaDoor
