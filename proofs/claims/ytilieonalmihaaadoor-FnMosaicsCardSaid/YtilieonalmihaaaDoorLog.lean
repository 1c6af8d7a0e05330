/- Logs: a list of valid records, both sides. No condition beyond a length. -/
import Derived.Test.YtilieonalmihaaaDoorRecT
namespace Go.Proofs.YtilieonalmihaaaDoor
open Go.RowKit

theorem Rd.seven {w : World} {A : Option Addr} {n k : Nat} {xs : List Int} (h : Rd w A (n * 7) (ints xs)) (hk : k < n) : ∃ ad, A = some ad ∧ w.cell? (ad.add (k * 7)) = some (.int .i64 (xs.getD (k * 7) 0)) ∧ w.cell? ⟨(ad.add (k * 7)).block, (ad.add (k * 7)).off + 1, none⟩ = some (.int .i64 (xs.getD (k * 7 + 1) 0)) ∧ w.cell? ⟨(ad.add (k * 7)).block, (ad.add (k * 7)).off + 2, none⟩ = some (.int .i64 (xs.getD (k * 7 + 2) 0)) ∧ w.cell? ⟨(ad.add (k * 7)).block, (ad.add (k * 7)).off + 3, none⟩ = some (.int .i64 (xs.getD (k * 7 + 3) 0)) ∧ w.cell? ⟨(ad.add (k * 7)).block, (ad.add (k * 7)).off + 4, none⟩ = some (.int .i64 (xs.getD (k * 7 + 4) 0)) ∧ w.cell? ⟨(ad.add (k * 7)).block, (ad.add (k * 7)).off + 5, none⟩ = some (.int .i64 (xs.getD (k * 7 + 5) 0)) ∧ w.cell? ⟨(ad.add (k * 7)).block, (ad.add (k * 7)).off + 6, none⟩ = some (.int .i64 (xs.getD (k * 7 + 6) 0)) := by
  obtain ⟨ad, rfl, h0⟩ := h.int (show k * 7 + 0 < n * 7 by omega)
  obtain ⟨_, ⟨⟩, h1⟩ := h.int (show k * 7 + 1 < n * 7 by omega)
  obtain ⟨_, ⟨⟩, h2⟩ := h.int (show k * 7 + 2 < n * 7 by omega)
  obtain ⟨_, ⟨⟩, h3⟩ := h.int (show k * 7 + 3 < n * 7 by omega)
  obtain ⟨_, ⟨⟩, h4⟩ := h.int (show k * 7 + 4 < n * 7 by omega)
  obtain ⟨_, ⟨⟩, h5⟩ := h.int (show k * 7 + 5 < n * 7 by omega)
  obtain ⟨_, ⟨⟩, h6⟩ := h.int (show k * 7 + 6 < n * 7 by omega)
  rw [Nat.add_zero] at h0
  rw [← fld_add _ _ 1 (by decide)] at h1
  rw [← fld_add _ _ 2 (by decide)] at h2
  rw [← fld_add _ _ 3 (by decide)] at h3
  rw [← fld_add _ _ 4 (by decide)] at h4
  rw [← fld_add _ _ 5 (by decide)] at h5
  rw [← fld_add _ _ 6 (by decide)] at h6
  exact ⟨_, rfl, h0, h1, h2, h3, h4, h5, h6⟩
def recAt (xs : List Int) (k : Nat) : Bool := recB (xs.getD (k * 7) 0) (xs.getD (k * 7 + 1) 0) (xs.getD (k * 7 + 2) 0) (xs.getD (k * 7 + 3) 0) (xs.getD (k * 7 + 4) 0) (xs.getD (k * 7 + 5) 0) (xs.getD (k * 7 + 6) 0)
def recsB (xs : List Int) (n : Nat) : Bool := (List.range n).all (recAt xs)
theorem recsB_succ (xs : List Int) (n : Nat) : recsB xs (n + 1) = (recsB xs n && recAt xs n) := by unfold recsB; rw [List.range_succ, List.all_append]; simp
theorem recsB_false {xs : List Int} {k n : Nat} (h : recAt xs k = false) (hk : k < n) : recsB xs n = false := by
  unfold recsB
  rw [Bool.eq_false_iff]
  intro c
  have := List.all_eq_true.1 c k (List.mem_range.2 hk)
  rw [h] at this
  cases this
theorem recsB_at {xs : List Int} {k n : Nat} (h : recsB xs n = true) (hk : k < n) : recAt xs k = true := List.all_eq_true.1 h k (List.mem_range.2 hk)
/-- a list of n records is a log -/
def logB (xs : List Int) (n : Nat) : Bool := recsB xs n && decide ((n : Int) ≤ 200)
end Go.Proofs.YtilieonalmihaaaDoor
