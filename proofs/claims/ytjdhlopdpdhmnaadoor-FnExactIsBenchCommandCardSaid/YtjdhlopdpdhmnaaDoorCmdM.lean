/- Lines of the console, plainly: which of them are commands. No program. -/
import Derived.Test.YtjdhlopdpdhmnaaDoorRecP
namespace Go.Proofs.YtjdhlopdpdhmnaaDoor
open Go.RowKit

def nmProfile : Bs := [112, 114, 111, 102, 105, 108, 101]
def nmShoalest : Bs := [115, 104, 111, 97, 108, 101, 115, 116]
def nmLog : Bs := [108, 111, 103]
def nmCheck : Bs := [99, 104, 101, 99, 107]
def nmSource : Bs := [115, 111, 117, 114, 99, 101]
def nmMark : Bs := [109, 97, 114, 107]
def nmTrace : Bs := [116, 114, 97, 99, 101]
def nmLevel : Bs := [108, 101, 118, 101, 108]
def nmRay : Bs := [114, 97, 121]
def nmClean : Bs := [99, 108, 101, 97, 110]
def nmGrid : Bs := [103, 114, 105, 100]
def nmChance : Bs := [99, 104, 97, 110, 99, 101]
def nmPlan : Bs := [112, 108, 97, 110]
def nmSound : Bs := [115, 111, 117, 110, 100]
def nmMeet : Bs := [109, 101, 101, 116]
/-- how many numbers stand behind a word -/
def arI (l : Bs) : Int :=
  if l = nmShoalest ∨ l = nmLog ∨ l = nmCheck then 0
  else if l = nmSource ∨ l = nmMark ∨ l = nmTrace then 1
  else if l = nmLevel then 2
  else if l = nmRay ∨ l = nmClean ∨ l = nmGrid ∨ l = nmChance ∨ l = nmPlan then 3
  else if l = nmSound then 5
  else if l = nmMeet then 6 else -1
/-- the words of a line, its first word, the words behind it -/
def cmW (s : Bs) : List Bs := splitC 32 s
def cmH (s : Bs) : Bs := (cmW s).getD 0 []
def cmP (s : Bs) : Bool := decide (cmH s = nmProfile)
/-- the numbers of a command -/
def cmN (s : Bs) : List Int := if cmP s = true then [] else ((cmW s).drop 1).map sgN
def cmB (s : Bs) : Bool := if cmP s = true then decide ((cmW s).length = 2) && !((cmW s).getD 1 []).isEmpty else sgAll ((cmW s).drop 1) && decide (arI (cmH s) = (((cmW s).drop 1).length : Int))
theorem cmB_prof {s : Bs} (h : cmH s = nmProfile) : cmB s = (decide ((cmW s).length = 2) && !((cmW s).getD 1 []).isEmpty) ∧ cmN s = [] := by
  have hp : cmP s = true := decide_eq_true h
  unfold cmB cmN
  rw [if_pos hp, if_pos hp]
  exact ⟨rfl, rfl⟩
theorem cmB_other {s : Bs} (h : ¬ cmH s = nmProfile) : cmB s = (sgAll ((cmW s).drop 1) && decide (arI (cmH s) = (((cmW s).drop 1).length : Int))) ∧ cmN s = ((cmW s).drop 1).map sgN := by
  have hp : ¬ cmP s = true := by unfold cmP; rw [decide_eq_false h]; decide
  unfold cmB cmN
  rw [if_neg hp, if_neg hp]
  exact ⟨rfl, rfl⟩
/-- the program's way of reading a number of a command -/
def bnB (l : Bs) : Bool := rdB l && decide ((Lib.trimPrefix l [45]).length ≤ 12)
theorem trim_neg (l : Bs) : Lib.trimPrefix (45 :: l) [45] = l := by
  unfold Lib.trimPrefix Lib.hasPrefix
  simp
theorem trim_dig {u : Nat} : Lib.trimPrefix (Lib.decDigits u) [45] = Lib.decDigits u := by
  unfold Lib.trimPrefix Lib.hasPrefix
  rw [if_neg]
  intro h
  rw [List.isPrefixOf_iff_prefix] at h
  obtain ⟨t, ht⟩ := h
  have := dec_head (u := u) (c := 45) (r := t) ht.symm
  exact absurd this (by decide)
theorem bn_sg (l : Bs) : bnB l = sgB l ∧ (bnB l = true → rdN l = sgN l) := by
  have key : bnB l = true → sgB l = true ∧ rdN l = sgN l := fun h => by
    unfold bnB at h
    rw [Bool.and_eq_true, decide_eq_true_eq] at h
    obtain ⟨e, h1, h2⟩ := rd_of h.1
    have hl := h.2
    generalize rdN l = z at *
    subst e
    have hz : -1000000000000 < z ∧ z < 1000000000000 := by
      rcases intLtOrGe z 0 with hn | hp
      · rw [itoa_neg' hn, trim_neg, dec_len12] at hl
        omega
      · rw [itoa_pos hp, trim_dig, dec_len12] at hl
        omega
    have := sg_itoa hz.1 hz.2
    exact ⟨this.1, this.2.symm⟩
  have back : sgB l = true → bnB l = true := fun h => by
    obtain ⟨e, h1, h2⟩ := sg_of h
    generalize sgN l = z at *
    subst e
    have hr := (rd_itoa (z := z) (by omega) (by omega)).1
    unfold bnB
    rw [hr, Bool.true_and, decide_eq_true_eq]
    rcases intLtOrGe z 0 with hn | hp
    · rw [itoa_neg' hn, trim_neg, dec_len12]
      omega
    · rw [itoa_pos hp, trim_dig, dec_len12]
      omega
  refine ⟨?_, fun h => (key h).2⟩
  cases hb : bnB l with
  | true => rw [(key hb).1]
  | false =>
    cases hs : sgB l with
    | false => rfl
    | true => rw [back hs] at hb; cases hb
end Go.Proofs.YtjdhlopdpdhmnaaDoor
