/- The lines of a text as strings.Lines gives them, plainly. No program. -/
import Derived.Test.YtoledbicmghmbaaGreatDoorRvN
namespace Go.Proofs.YtoledbicmghmbaaGreatDoor
open Go.RowKit

/-- each word but the last with its newline; the last one if it is not empty -/
def linesOf : List Bs → List Bs
  | [] => []
  | [x] => if x = [] then [] else [x]
  | x :: y :: t => (x ++ [10]) :: linesOf (y :: t)
def linesL (s : Bs) : List Bs := linesOf (splitC 10 s)
theorem linesL_nil : linesL [] = [] := rfl
theorem linesOf_cons {x : Bs} {t : List Bs} (h : t ≠ []) : linesOf (x :: t) = (x ++ [10]) :: linesOf t := by
  cases t with
  | nil => exact absurd rfl h
  | cons y t => rfl
theorem linesL_last {r : Bs} (h : (10 : UInt8) ∉ r) (hr : r ≠ []) : linesL r = [r] := by
  unfold linesL
  rw [splitC_none h]
  exact if_neg hr
theorem linesL_hit {x : Bs} (r : Bs) (h : (10 : UInt8) ∉ x) : linesL (x ++ 10 :: r) = (x ++ [10]) :: linesL r := by
  unfold linesL
  rw [splitC_hit r h, linesOf_cons (splitC_ne 10 r)]
/-- what the first line of a text is -/
theorem linesL_step (r : Bs) : ((10 : UInt8) ∉ r) ∨ ∃ x r', r = x ++ 10 :: r' ∧ (10 : UInt8) ∉ x ∧ linesL r = (x ++ [10]) :: linesL r' := by
  rcases e : splitC 10 r with _ | ⟨x, t⟩
  · exact absurd e (splitC_ne 10 r)
  · rcases sp_cons e with ⟨_, rfl, hn⟩ | ⟨r', rfl, hn, _⟩
    · exact .inl hn
    · exact .inr ⟨x, r', rfl, hn, linesL_hit r' hn⟩
theorem linesOf_len : ∀ ws : List Bs, (linesOf ws).length ≤ ws.length
  | [] => Nat.le_refl _
  | [x] => by unfold linesOf; split <;> simp
  | x :: y :: t => by
    have h := linesOf_len (y :: t)
    show (linesOf (y :: t)).length + 1 ≤ (y :: t).length + 1
    omega
theorem linesL_len (s : Bs) : (linesL s).length ≤ s.length + 1 := Nat.le_trans (linesOf_len _) (splitC_len 10 s)
/-- the k-th line, where a word follows; and the last one -/
theorem linesOf_at : ∀ (ws : List Bs) (k : Nat) (h : k < (linesOf ws).length), (∃ h2 : k < ws.dropLast.length, (linesOf ws)[k] = ws.dropLast[k] ++ [10]) ∨ (k = ws.dropLast.length ∧ (linesOf ws)[k] ∈ ws)
  | [], k, h => absurd h (Nat.not_lt_zero _)
  | [x], k, h => by
    by_cases hx : x = []
    · have e : linesOf [x] = [] := if_pos hx
      rw [e] at h
      exact absurd h (Nat.not_lt_zero _)
    · have e : linesOf [x] = [x] := if_neg hx
      rw [e] at h
      have hk : k = 0 := by simp at h; exact h
      subst hk
      refine .inr ⟨rfl, ?_⟩
      simp only [e]
      exact List.mem_singleton.2 rfl
  | x :: y :: t, 0, h => .inl ⟨by simp [List.dropLast], rfl⟩
  | x :: y :: t, k + 1, h => by
    have h' : k < (linesOf (y :: t)).length := Nat.lt_of_succ_lt_succ h
    have hd : (x :: y :: t).dropLast = x :: (y :: t).dropLast := rfl
    rcases linesOf_at (y :: t) k h' with ⟨h2, e⟩ | ⟨h2, e⟩
    · refine .inl ⟨by rw [hd, List.length_cons]; omega, ?_⟩
      simp only [hd, List.getElem_cons_succ]
      exact e
    · refine .inr ⟨by rw [hd, List.length_cons, h2], ?_⟩
      exact List.mem_cons_of_mem _ e
theorem linesOf_ge : ∀ ws : List Bs, ws.dropLast.length ≤ (linesOf ws).length
  | [] => Nat.le_refl _
  | [x] => Nat.zero_le _
  | x :: y :: t => by
    have h := linesOf_ge (y :: t)
    show (y :: t).dropLast.length + 1 ≤ (linesOf (y :: t)).length + 1
    omega
theorem linesL_at (s : Bs) (k : Nat) (h : k < (linesL s).length) : (∃ h2 : k < (splitC 10 s).dropLast.length, (linesL s)[k] = (splitC 10 s).dropLast[k] ++ [10]) ∨ (k = (splitC 10 s).dropLast.length ∧ (10 : UInt8) ∉ (linesL s)[k]) := by
  rcases linesOf_at (splitC 10 s) k h with h2 | ⟨h2, h3⟩
  · exact .inl h2
  · exact .inr ⟨h2, splitC_nomem 10 s _ h3⟩
theorem linesL_piece (s : Bs) : ∀ x ∈ linesL s, x.length ≤ s.length := by
  have key : ∀ (n : Nat) (s : Bs), s.length ≤ n → ∀ x ∈ linesL s, x.length ≤ s.length := by
    intro n
    induction n with
    | zero =>
      intro s hs x hx
      have : s = [] := List.length_eq_zero_iff.1 (by omega)
      subst this
      rw [linesL_nil] at hx
      cases hx
    | succ n ih =>
      intro s hs x hx
      rcases linesL_step s with h | ⟨y, r', rfl, hn, e⟩
      · by_cases h0 : s = []
        · subst h0; rw [linesL_nil] at hx; cases hx
        · rw [linesL_last h h0] at hx
          rw [List.mem_singleton.1 hx]
          exact Nat.le_refl _
      · rw [e] at hx
        rcases List.mem_cons.1 hx with rfl | hx
        · simp
        · have h1 : r'.length ≤ n := by simp at hs; omega
          have := ih r' h1 x hx
          simp; omega
  exact key _ s (Nat.le_refl _)
end Go.Proofs.YtoledbicmghmbaaGreatDoor
