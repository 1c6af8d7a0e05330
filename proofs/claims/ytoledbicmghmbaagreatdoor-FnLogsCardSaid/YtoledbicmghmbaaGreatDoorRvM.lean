/- The records of the longest beginning of a text that is a log, plainly. No program. -/
import Derived.Test.YtoledbicmghmbaaGreatDoorRecP
namespace Go.Proofs.YtoledbicmghmbaaGreatDoor
open Go.RowKit

/-- the seven numbers of each record -/
def rcL (ls : List Bs) : List Int := ls.flatMap fun x => (rrR x).L
theorem rcL_snoc (ls : List Bs) (x : Bs) : rcL (ls ++ [x]) = rcL ls ++ (rrR x).L := by unfold rcL; rw [List.flatMap_append]; simp
theorem rcL_len : ∀ ls : List Bs, (rcL ls).length = ls.length * 7
  | [] => rfl
  | x :: r => by
    have := rcL_len r
    have h : rcL (x :: r) = (rrR x).L ++ rcL r := rfl
    rw [h, List.length_append, this]
    have h2 : (rrR x).L.length = 7 := rfl
    rw [h2, List.length_cons]; omega
/-- the lines that are taken -/
def rvW (s : Bs) : List Bs := ((splitC 10 s).dropLast.take 200).takeWhile rrB
def rvC (s : Bs) : Int := if 20000 < s.length then 3 else 0
def rvL (s : Bs) : List Int := if 20000 < s.length then [] else rcL (rvW s)
theorem rv_no {s : Bs} (h : 20000 < s.length) : rvC s = 3 ∧ rvL s = [] := ⟨if_pos h, if_pos h⟩
theorem rv_yes {s : Bs} (h : ¬ 20000 < s.length) : rvC s = 0 ∧ rvL s = rcL (rvW s) := ⟨if_neg h, if_neg h⟩
theorem takeW_all {p : Bs → Bool} : ∀ {l : List Bs}, l.all p = true → l.takeWhile p = l
  | [], _ => rfl
  | x :: r, h => by
    rw [List.all_cons, Bool.and_eq_true] at h
    rw [List.takeWhile_cons, if_pos h.1, takeW_all h.2]
theorem takeW_stop {p : Bs → Bool} : ∀ {l : List Bs} (x : Bs) (r : List Bs), l.all p = true → p x = false → (l ++ x :: r).takeWhile p = l
  | [], x, r, _, hx => by rw [List.nil_append, List.takeWhile_cons, hx]; rfl
  | y :: l, x, r, h, hx => by
    rw [List.all_cons, Bool.and_eq_true] at h
    rw [List.cons_append, List.takeWhile_cons, if_pos h.1, takeW_stop x r h.2 hx]
/-- all lines before k are good, and k is the last line, or the 200th, or a bad one -/
theorem rvW_at {s : Bs} {ws : List Bs} {k : Nat} (hd : (splitC 10 s).dropLast = ws) (ha : (ws.take k).all rrB = true) (hk : k ≤ 200) (hkn : k ≤ ws.length) (hs : k = ws.length ∨ k = 200 ∨ ∃ h : k < ws.length, rrB ws[k] = false) : rvW s = ws.take k := by
  unfold rvW
  rw [hd]
  rcases hs with rfl | rfl | ⟨h, hb⟩
  · have e1 : ws.take 200 = ws := List.take_of_length_le hk
    have e2 : ws.take ws.length = ws := List.take_of_length_le (Nat.le_refl _)
    rw [e2] at ha ⊢
    rw [e1]
    exact takeW_all ha
  · exact takeW_all ha
  · by_cases h2 : k = 200
    · subst h2; exact takeW_all ha
    · have e : ws.take 200 = ws.take k ++ ws[k] :: (ws.take 200).drop (k + 1) := by
        have h3 : k < (ws.take 200).length := by rw [List.length_take]; omega
        conv => lhs; rw [← List.take_append_drop k (ws.take 200)]
        rw [List.take_take, Nat.min_eq_left hk, List.drop_eq_getElem_cons h3, List.getElem_take]
      rw [e]
      exact takeW_stop _ _ ha hb
end Go.Proofs.YtoledbicmghmbaaGreatDoor
