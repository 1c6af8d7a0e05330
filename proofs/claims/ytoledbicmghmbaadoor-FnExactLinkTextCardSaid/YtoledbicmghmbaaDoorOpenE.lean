/- Arguments that come in: slices of records of numbers. Plain lemmas, no condition. -/
import Derived.Test.YtoledbicmghmbaaDoorKern
import Derived.ProofKit
import Derived.Lib.SmallJoins
import Derived.Deep.Slices
namespace Go.Proofs.YtoledbicmghmbaaDoor
open Go.RowKit Go.ChangeShapes Go.WideShapes Go.Joins Go.Deep

section
variable {H : Type} {enc : TypeId × Value → H} {P : Program} {w : World} {base : Nat} {spare : Nat → Bool} {held : Bool}
theorem open_ints' {t e : TypeId} {fuel : Nat} {cs : List Value} {x : DataW H × List MemPlace} (ht : P.underlying t = some (.slice e)) (he : P.underlying e = some (.int .i64)) (hc : P.cellsOf e = 1)
    (h : DataW.trod enc P w base spare held fuel t cs = some x) :
    ∃ A n c xs, cs = [.slice A n c] ∧ Rd w A n (ints xs) ∧ n ≤ c ∧ n ≤ 9223372036854775807 ∧ ∀ z ∈ xs, (Lit.int .i64 z).wf = true := by
  rcases open_ints ht he hc h with ⟨hcs, _⟩ | ⟨x, l, c, zs, hcs, _, hl, hm, hz, _, hcell, hwz⟩
  · exact ⟨none, 0, 0, [], hcs, Rd.nil _ _, Nat.le_refl _, by omega, fun _ h => by cases h⟩
  · refine ⟨some x, l, c, zs.take l, hcs, ⟨?_, fun _ => ⟨x, rfl, fun i hi => ?_⟩⟩, hl, by unfold maxLen at hm; omega, fun n hn => hwz n (List.mem_of_mem_take hn)⟩
    · unfold ints; simp; split at hz <;> omega
    · have hlt : i < zs.length := by split at hz <;> omega
      rw [hcell i hlt, ints_getElem?]
      simp [hi, List.getElem?_eq_getElem hlt]
theorem open_recs {t e : TypeId} {fuel K : Nat} {cs : List Value} {x : DataW H × List MemPlace} (hK : 0 < K) (ht : P.underlying t = some (.slice e)) (hc : P.cellsOf e = K)
    (helem : ∀ (n : Nat) (cs : List Value) (y : DataW H × List MemPlace), DataW.trod enc P w base spare held n e cs = some y → ∃ ys : List Int, cs = ints ys ∧ ∀ z ∈ ys, (Lit.int .i64 z).wf = true)
    (h : DataW.trod enc P w base spare held fuel t cs = some x) :
    ∃ A n c xs, cs = [.slice A n c] ∧ Rd w A (n * K) (ints xs) ∧ n ≤ c ∧ n ≤ 9223372036854775807 ∧ ∀ z ∈ xs, (Lit.int .i64 z).wf = true := by
  rcases open_slice ht h with ⟨hcs, _⟩ | ⟨a, len, cap, m, n, D, Pl, hcs, _, hl, hm, hmm, _, hx⟩
  · exact ⟨none, 0, 0, [], hcs, by rw [Nat.zero_mul]; exact Rd.nil _ _, Nat.le_refl _, by omega, fun _ h => by cases h⟩
  · have hlm : len ≤ m := by rw [hmm]; split <;> omega
    obtain ⟨f, hf⟩ := choose_lt (α := Int) (n := len * K) (p := fun j z => w.cell? (a.add j) = some (.int .i64 z) ∧ (Lit.int .i64 z).wf = true) (fun j hj => by
      have hi : j / K < len := (Nat.div_lt_iff_lt_mul hK).2 hj
      obtain ⟨cs', h1, h2⟩ := hx (j / K) (by omega)
      rw [hc] at h1
      obtain ⟨_, hlen, hcell⟩ := World.cells?_some h1
      obtain ⟨ys, rfl, hwf⟩ := helem _ _ _ h2
      have hr : j % K < K := Nat.mod_lt _ hK
      have hyl : ys.length = K := by unfold ints at hlen; simpa using hlen
      have hc2 := hcell (j % K) hr
      rw [add_of_add, show j / K * K + j % K = j from by rw [Nat.mul_comm]; exact Nat.div_add_mod j K, ints_getElem?, List.getElem?_eq_getElem (by omega)] at hc2
      exact ⟨ys[j % K], hc2, hwf _ (List.getElem_mem _)⟩)
    refine ⟨some a, len, cap, (List.range (len * K)).map f, hcs, ⟨by unfold ints; simp, fun _ => ⟨a, rfl, fun i hi => ?_⟩⟩, hl, by unfold maxLen at hm; omega, fun z hz => ?_⟩
    · rw [(hf i hi).1, ints_getElem?]; simp [hi]
    · obtain ⟨j, hj, rfl⟩ := List.mem_map.1 hz
      exact (hf j (List.mem_range.1 hj)).2
end
theorem cells_int64 : Tryd.prog.cellsOf 2 = 1 := by kernel_rfl
end Go.Proofs.YtoledbicmghmbaaDoor
