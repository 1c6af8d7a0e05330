/- Slices of the call's own: a part, one element, newly made ones. Plain lemmas, no condition. -/
import Derived.Test.YtlgmdekhlcbhoaaAppK
namespace Go.Proofs.Ytlgmdekhlcbhoaa
open Go.RowKit

section
variable {w w' : World} {B K : Nat} {h : Hd} {xs : List Int} {us : List Value}
theorem Own.take (o : Own w B K h us) {k : Nat} (hk : k ≤ h.n) : Own w B K ⟨h.A, k, h.c⟩ (us.take (k * K)) := by
  have hl := o.len
  have hm : k * K ≤ h.n * K := Nat.mul_le_mul_right K hk
  refine ⟨by simp only [List.length_take]; omega, Nat.le_trans hk o.nc, o.max, o.nil_, fun ad e hc => ?_⟩
  obtain ⟨h1, h2, h3, h4⟩ := o.at_ ad e hc
  refine ⟨h1, h2, h3, fun i hi => ?_⟩
  obtain ⟨⟨v, hv, hu⟩, hf⟩ := h4 i hi
  refine ⟨⟨v, hv, fun u e => hu u ?_⟩, hf⟩
  rw [List.getElem?_take] at e
  split at e
  · exact e
  · cases e
theorem ints_take (xs : List Int) (k : Nat) : (ints xs).take k = ints (xs.take k) := by unfold ints; rw [List.map_take]
theorem Own.set_ (o : Own w B 1 h (ints xs)) {k : Nat} {ad : Addr} (hk : k < h.n) (e : h.A = some ad) (v : Int) : Own (w.setCell (ad.add k) (.int .i64 v)) B 1 h (ints (xs.set k v)) := by
  have hl := o.len
  have hnc := o.nc
  refine ⟨by rw [ints_set, List.length_set]; exact hl, o.nc, o.max, o.nil_, fun ad' e' hc => ?_⟩
  rw [e] at e'
  injection e' with e'
  subst e'
  obtain ⟨h1, h2, h3, h4⟩ := o.at_ ad e hc
  refine ⟨h1, by simpa [World.setCell] using h2, h3, fun i hi => ?_⟩
  obtain ⟨⟨u, hu, hq⟩, hf⟩ := h4 i hi
  obtain ⟨⟨u', hu', _⟩, hf'⟩ := h4 k (by omega)
  refine ⟨?_, by rw [World.frozen?_setCell]; exact hf⟩
  by_cases c : i = k
  · subst c
    refine ⟨.int .i64 v, World.cell?_setCell_same _ _ _ hu', fun z hz => ?_⟩
    rw [ints_set, List.getElem?_set_self (by rw [hl, Nat.mul_one]; exact hk)] at hz
    exact Option.some.inj hz
  · refine ⟨u, by rw [World.cell?_setCell_other _ _ _ _ (fun x => c (add_inj x).symm)]; exact hu, fun z hz => hq z ?_⟩
    rw [ints_set, List.getElem?_set_ne (fun x => c x.symm)] at hz
    exact hz
theorem Own.cell (o : Own w B 1 h (ints xs)) {k : Nat} (hk : k < h.n) : ∃ ad, h.A = some ad ∧ w.cell? (ad.add k) = some (.int .i64 (xs.getD k 0)) ∧ w.frozen? (ad.add k) = false := by
  obtain ⟨ad, e, hc⟩ := o.rd1.int hk
  have hnc := o.nc
  obtain ⟨_, _, _, h4⟩ := o.at_ ad e (by omega)
  exact ⟨ad, e, hc, (h4 k (by omega)).2⟩
end
theorem Own.capm {w : World} {B K : Nat} {h : Hd} {us : List Value} (o : Own w B K h us) : h.n ≤ h.c ∧ h.c ≤ 9223372036854775807 := ⟨o.nc, by have := o.max; unfold maxLen at this; omega⟩
theorem Own.made {W : World} {B n : Nat} (hB : B ≤ W.heap.size) (hn : n ≤ 1048576) (e : TypeId) : Own (W.alloc (.cells (madeCells #[.int .i64 0] n) e)) B 1 ⟨some ⟨W.heap.size, 0, none⟩, n, n⟩ (ints (List.replicate n 0)) := by
  have hb := Blk.new W e (madeCells #[.int .i64 0] n)
  refine ⟨by unfold ints; simp, Nat.le_refl _, by unfold maxLen; simp only; omega, (fun h => by cases h), fun ad ea _ => ?_⟩
  injection ea with ea
  subst ea
  refine ⟨hB, hb.lt, rfl, fun i hi => ⟨?_, by rw [add_lit]; exact hb.frozen i⟩⟩
  have hi' : i < (madeCells #[Value.int .i64 0] n).size := by rw [madeCells_size]; simpa using hi
  refine ⟨(madeCells #[Value.int .i64 0] n)[i], by rw [add_lit, hb.cell]; exact Array.getElem?_eq_getElem hi', fun u hu => ?_⟩
  have hin : i < n := by simpa using hi
  rw [ints_getElem?] at hu
  simp [hin] at hu
  subst hu
  simp [madeCells, Nat.mod_one]
end Go.Proofs.Ytlgmdekhlcbhoaa
