/- Levels between the readings of a gauge, plainly: the place of a time among rising times; what a sounding is reduced to. No program. -/
import Derived.Test.YtphpjmkebnadoaaGauS
import Derived.Test.YtphpjmkebnadoaaRis
namespace Go.Proofs.Ytphpjmkebnadoaa
open Go.RowKit

/-- how many times come ahead of t -/
def cutN (ts : List Int) (t : Int) : Nat := (ts.takeWhile fun a => decide (a < t)).length
theorem cutN_le (ts : List Int) (t : Int) : cutN ts t ≤ ts.length := (List.takeWhile_prefix _).length_le
theorem cutN_uniq {t : Int} : ∀ {ts : List Int} {i : Nat}, i ≤ ts.length → (∀ a, a < i → ts.getD a 0 < t) → (i < ts.length → ¬ ts.getD i 0 < t) → cutN ts t = i
  | [], i, h, _, _ => by simp at h; subst h; rfl
  | x :: r, 0, _, _, h2 => by
    have := h2 (by simp)
    simp at this
    unfold cutN
    rw [List.takeWhile_cons_of_neg (by simpa using this)]; rfl
  | x :: r, i + 1, h, h1, h2 => by
    have hx : x < t := by simpa using h1 0 (by omega)
    have ih := cutN_uniq (t := t) (ts := r) (i := i) (by simpa using h) (fun a ha => by simpa using h1 (a + 1) (by omega)) (fun hi => by have := h2 (by simpa using hi); simpa using this)
    unfold cutN at ih ⊢
    rw [List.takeWhile_cons_of_pos (by simpa using hx), List.length_cons, ih]
/-- rising times -/
def Ris (ts : List Int) : Prop := ∀ a b, a < b → b < ts.length → ts.getD a 0 < ts.getD b 0
theorem ris_of {ts : List Int} {m : Int} (h : risB ts m = true) : Ris ts := by
  have h1 : ∀ j, j < ts.length → risAt ts m j = true := fun j hj => by
    unfold risB risTo at h
    rw [List.all_eq_true] at h
    exact h j (List.mem_range.2 hj)
  intro a b hab hb
  induction b with
  | zero => omega
  | succ b ih =>
    have h2 := h1 (b + 1) hb
    unfold risAt at h2
    simp only [Bool.and_eq_true, Bool.or_eq_true, decide_eq_true_eq] at h2
    have h3 : ts.getD b 0 < ts.getD (b + 1) 0 := by
      rcases h2.2.2 with h3 | h3
      · omega
      · simpa using h3
    by_cases e : a = b
    · subst e; exact h3
    · have := ih (by omega) (by omega); omega
def levIn (ts : List Int) (t : Int) : Bool := decide (ts.getD 0 0 ≤ t) && decide (t ≤ ts.getD (ts.length - 1) 0)
def levBy (ts ls : List Int) (t : Int) : Int := (ls.getD (cutN ts t) 0 - ls.getD (cutN ts t - 1) 0) * (t - ts.getD (cutN ts t - 1) 0)
def levZ (ts : List Int) (t : Int) : Int := ts.getD (cutN ts t) 0 - ts.getD (cutN ts t - 1) 0
def levLo (ts ls : List Int) (t : Int) : Int := if ts.getD (cutN ts t) 0 = t then ls.getD (cutN ts t) 0 else ls.getD (cutN ts t - 1) 0 + levBy ts ls t / levZ ts t
def levHi (ts ls : List Int) (t : Int) : Int := if ts.getD (cutN ts t) 0 = t then ls.getD (cutN ts t) 0 else ls.getD (cutN ts t - 1) 0 + -(-levBy ts ls t / levZ ts t)
def levC (ts : List Int) (t : Int) : Int := if levIn ts t = true then 0 else 4
/-- a valid gauge -/
structure GaOk (ts ls : List Int) : Prop where
  n0 : 1 ≤ ts.length
  n1 : ts.length ≤ 40
  ris : risB ts 1000001 = true
  eq : ls.length = ts.length
  lev : allIn ls (-2000) 2000 = true
theorem GaOk.tm {ts ls : List Int} (G : GaOk ts ls) {k : Nat} (hk : k < ts.length) : 0 ≤ ts.getD k 0 ∧ ts.getD k 0 ≤ 1000000 := by
  have := risB_in G.ris (ts[k]) (List.getElem_mem hk)
  rw [getD_at hk]; omega
theorem GaOk.lv {ts ls : List Int} (G : GaOk ts ls) {k : Nat} (hk : k < ts.length) : -2000 ≤ ls.getD k 0 ∧ ls.getD k 0 ≤ 2000 := allIn_getD G.lev (by have := G.eq; omega)
theorem cut_facts {ts : List Int} {t : Int} : (∀ a, a < cutN ts t → ts.getD a 0 < t) ∧ (cutN ts t < ts.length → ¬ ts.getD (cutN ts t) 0 < t) := by
  induction ts with
  | nil => exact ⟨fun a h => absurd h (by simp [cutN]), fun h => absurd h (by simp)⟩
  | cons x r ih =>
    by_cases hx : x < t
    · have e : cutN (x :: r) t = cutN r t + 1 := by unfold cutN; rw [List.takeWhile_cons_of_pos (by simpa using hx)]; rfl
      rw [e]
      refine ⟨fun a ha => ?_, fun h => ?_⟩
      · cases a with
        | zero => simpa using hx
        | succ a => simpa using ih.1 a (by omega)
      · simpa using ih.2 (by simpa using h)
    · have e : cutN (x :: r) t = 0 := by unfold cutN; rw [List.takeWhile_cons_of_neg (by simpa using hx)]; rfl
      rw [e]
      exact ⟨fun a ha => absurd ha (Nat.not_lt_zero _), fun _ => by simpa using hx⟩
/-- t is found -/
theorem lev_found {ts : List Int} {t : Int} (hr : Ris ts) (hi : cutN ts t < ts.length) (he : ts.getD (cutN ts t) 0 = t) : levC ts t = 0 := by
  have h1 : ts.getD 0 0 ≤ t := by
    by_cases e : cutN ts t = 0
    · rw [e] at he; omega
    · have := hr 0 (cutN ts t) (by omega) hi; omega
  have h2 : t ≤ ts.getD (ts.length - 1) 0 := by
    by_cases e : cutN ts t = ts.length - 1
    · rw [e] at he; omega
    · have := hr (cutN ts t) (ts.length - 1) (by omega) (by omega); omega
  unfold levC levIn
  rw [decide_eq_true h1, decide_eq_true h2]; rfl
theorem lev_out {ts : List Int} {t : Int} (hr : Ris ts) (h0 : 1 ≤ ts.length) (h : (cutN ts t = 0 ∧ ¬ ts.getD 0 0 = t) ∨ cutN ts t = ts.length) : levC ts t = 4 := by
  have hc := cut_facts (ts := ts) (t := t)
  unfold levC levIn
  rcases h with ⟨h, hne⟩ | h
  · have := hc.2 (by omega)
    rw [h] at this
    rw [decide_eq_false (show ¬ ts.getD 0 0 ≤ t by omega)]; rfl
  · have := hc.1 (ts.length - 1) (by omega)
    rw [decide_eq_false (show ¬ t ≤ ts.getD (ts.length - 1) 0 by omega), Bool.and_false]; rfl
theorem lev_mid {ts : List Int} {t : Int} (hr : Ris ts) (h0 : cutN ts t ≠ 0) (h1 : cutN ts t < ts.length) : levC ts t = 0 := by
  have hc := cut_facts (ts := ts) (t := t)
  have h2 := hc.1 0 (by omega)
  have h3 := hc.2 h1
  have h4 : ts.getD (cutN ts t) 0 ≤ ts.getD (ts.length - 1) 0 := by
    by_cases e : cutN ts t = ts.length - 1
    · rw [e]; omega
    · have := hr (cutN ts t) (ts.length - 1) (by omega) (by omega); omega
  unfold levC levIn
  rw [decide_eq_true (show ts.getD 0 0 ≤ t by omega), decide_eq_true (show t ≤ ts.getD (ts.length - 1) 0 by omega)]; rfl
theorem mul_bd {a b A B : Int} (h1 : -A ≤ a) (h2 : a ≤ A) (h3 : -B ≤ b) (h4 : b ≤ B) : -(A * B) ≤ a * b ∧ a * b ≤ A * B := by
  have hA : 0 ≤ A := by omega
  have e : a.natAbs * b.natAbs ≤ A.natAbs * B.natAbs := Nat.mul_le_mul (by omega) (by omega)
  have e1 : ((a.natAbs * b.natAbs : Nat) : Int) = ((a * b).natAbs : Nat) := by rw [Int.natAbs_mul]
  have e2 : ((A.natAbs * B.natAbs : Nat) : Int) = A * B := by rw [Int.natCast_mul, Int.natAbs_of_nonneg hA, Int.natAbs_of_nonneg (by omega)]
  omega
/-- what a sounding is reduced to -/
def redLow (d r _lo hi : Int) : Int := (d - r) - hi
def redHigh (d r lo _hi : Int) : Int := (d + r) - lo
def redD (d r lo hi : Int) : Int := (redLow d r lo hi + redHigh d r lo hi) / 2
def redE (d r lo hi : Int) : Int := -(-(redHigh d r lo hi - redLow d r lo hi) / 2)
end Go.Proofs.Ytphpjmkebnadoaa
