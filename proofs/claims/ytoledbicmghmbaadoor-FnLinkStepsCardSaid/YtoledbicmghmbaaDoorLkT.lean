/- The text of a link: its parts. Conditions: lengths; bounds on the numbers. -/
import Derived.Test.YtoledbicmghmbaaDoorLinkO
import Derived.Test.YtoledbicmghmbaaDoorStB
import Derived.Test.YtoledbicmghmbaaDoorLen
namespace Go.Proofs.YtoledbicmghmbaaDoor
open Go.RowKit

/-- the numbers of the packets -/
def numsL (ps : List Int) (n : Nat) : List Int := (List.range n).map fun k => ps.getD (k * 2) 0
theorem numsL_succ (ps : List Int) (n : Nat) : numsL ps (n + 1) = numsL ps n ++ [ps.getD (n * 2) 0] := by unfold numsL; rw [List.range_succ, List.map_append]; rfl
theorem numsL_len (ps : List Int) (n : Nat) : (numsL ps n).length = n := by unfold numsL; simp
/-- a list with commas, or a dash -/
def dashI (xs : List Int) : Bs := if xs = [] then [45] else joinI [44] xs
theorem dash_or (xs : List Int) : (if joinI [44] xs = [] then ([45] : Bs) else joinI [44] xs) = dashI xs := by
  unfold dashI
  by_cases h : xs = []
  · subst h; rfl
  · rw [if_neg h, if_neg (joinI_ne h)]
theorem orDash_any (x : Bs) (w : World) :
    Calls Tryd.prog 76 #[.string ⟨x.toArray⟩] w fun e w' => e = .returned (.string ⟨(if x = [] then ([45] : Bs) else x).toArray⟩) ∧ w = w' := by
  cases x with
  | nil =>
    rw [if_pos rfl]
    go_enter Tryd.func76, Tryd.ntmps76
    go_wp2
    go_ret
    exact ⟨rfl, rfl⟩
  | cons c r =>
    rw [if_neg (by simp)]
    have hE : ¬ (c :: r : Bs) = [] := by simp
    have hemp : (c :: r : Bs).isEmpty = false := rfl
    generalize (c :: r : Bs) = x at *
    go_enter Tryd.func76, Tryd.ntmps76
    go_wp2
    go_ret
    exact ⟨rfl, rfl⟩
theorem l29List_any (A : Option Addr) (n c : Nat) (xs : List Int) (w : World) (hn : n ≤ 1048576) (hr : Rd w A n (ints xs)) (hb : ∀ x ∈ xs, -9223372036854775808 < x ∧ x ≤ 9223372036854775807) :
    Calls Tryd.prog 71 #[.slice A n c] w fun e w' => e = .returned (.string ⟨(dashI xs).toArray⟩) ∧ Below w.heap.size w w' := by
  have hl := hr.len
  by_cases h : n = 0
  · subst h
    have hx : xs = [] := List.eq_nil_of_length_eq_zero hl
    subst hx
    go_enter Tryd.func71, Tryd.ntmps71
    go_wp2
    go_ret
    exact ⟨rfl, Below.refl _ _⟩
  · have hx : ¬ xs = [] := fun c => by subst c; simp at hl; omega
    have hD : dashI xs = joinI [44] xs := if_neg hx
    have hI : ¬ (n : Int) = 0 := by omega
    have hIb : ((n : Int) == 0) = false := by rw [beq_eq_false_iff_ne]; exact hI
    rw [hD]
    have hj := fun (W : World) (r : Rd W A n (ints xs)) => l01Join_any A n c xs [44] W hn (by decide) r hb
    clear hx hD h
    go_enter Tryd.func71, Tryd.ntmps71
    go_wp2_with fail
    refine (hj _ hr).mono ?_
    rintro e w' ⟨rfl, b⟩
    go_wp2
    go_ret
    exact ⟨rfl, b⟩
end Go.Proofs.YtoledbicmghmbaaDoor
