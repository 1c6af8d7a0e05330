/- The program's table: bitsAt and restAt. Condition: a list of an even number of bits, at most 604. -/
import Derived.Test.YtlgmdekhlcbhoaaVitB
namespace Go.Proofs.Ytlgmdekhlcbhoaa
open Go.RowKit

set_option maxHeartbeats 400000 in
theorem bitsAt_any (A : Option Addr) (n c : Nat) (t : Nat) (w : World) (hn : n ≤ 9223372036854775807) :
    Calls Try.prog 177 #[.slice A n c, .int .i64 t] w fun e w' => e = .returned (.int .i64 (if (t : Int) < (n : Int) / 2 - 2 then 1 else 0)) ∧ w = w' := by
  by_cases h : (t : Int) < (n : Int) / 2 - 2
  · rw [if_pos h]
    go_enter Try.func177, Try.ntmps177
    go_wp2_with (go_at_call 139; refine (messageSize_any _ _ _ _ hn).mono ?_; rintro e w' ⟨rfl, rfl⟩)
    go_ret
    exact ⟨rfl, rfl⟩
  · rw [if_neg h]
    go_enter Try.func177, Try.ntmps177
    go_wp2_with (go_at_call 139; refine (messageSize_any _ _ _ _ hn).mono ?_; rintro e w' ⟨rfl, rfl⟩)
    go_ret
    exact ⟨rfl, rfl⟩

def rowV (f : Int → Int × Int) : Array Value := #[.int .i64 (f 0).1, .int .i64 (f 0).2, .int .i64 (f 1).1, .int .i64 (f 1).2, .int .i64 (f 2).1, .int .i64 (f 2).2, .int .i64 (f 3).1, .int .i64 (f 3).2]
/-- What restAt gives for a step and a state, with what the next step has. -/
def oneRest (f : Int → Int × Int) (xs : List Int) (t : Nat) (s : Int) (two : Bool) : Int × Int :=
  let z := (stepW xs t s 0 + (f (nxt s 0)).1, (f (nxt s 0)).2)
  if two then pick z (stepW xs t s 1 + (f (nxt s 1)).1, (f (nxt s 1)).2) else z


set_option maxHeartbeats 1000000 in
theorem restAt_one0 (A : Option Addr) (n c : Nat) (xs : List Int) (t : Nat) (s : Int) (e0 c0 e1 c1 e2 c2 e3 c3 : Int) (w : World) (hn : n ≤ 604) (hc : n ≤ c) (hr : Rd w A n (ints xs)) (ht : 2 * t + 1 < n) (h1 : 0 ≤ s) (h3 : s ≤ 3)
    (hx0 : nxt s 0 = 0) (hx1 : nxt s 1 = 2) (h2 : ¬ (t : Int) < (n : Int) / 2 - 2) (b0 : 0 ≤ e0) (b1 : e0 ≤ 1208) :
    Calls Try.prog 164 #[.slice A n c, .int .i64 t, .int .i64 s, .agg #[.int .i64 e0, .int .i64 c0, .int .i64 e1, .int .i64 c1, .int .i64 e2, .int .i64 c2, .int .i64 e3, .int .i64 c3]] w fun e w' =>
      e = .returned (.agg #[.int .i64 (stepW xs t s 0 + e0), .int .i64 c0]) ∧ Below w.heap.size w w' := by
  have hs := stepW_bd xs t s 0
  have hif : (if (t : Int) < (n : Int) / 2 - 2 then (1 : Int) else 0) = 0 := if_neg h2
  go_enter Try.func164, Try.ntmps164
  go_wp2_with fail
  refine wp_loop_rounds 2 ?_
  rw [rounds_succ]
  go_wp2_with (first | (go_at_call 177; refine (bitsAt_any _ _ _ _ _ (by omega)).mono ?_; rintro e w' ⟨rfl, rfl⟩) | (go_at_call 142; refine (branch_any _ _ _ xs _ _ _ _ (by omega) hc ?_ ht h1 h3 (by omega) (by omega)).mono ?_; exact hr.below (by (repeat (first | (with_reducible assumption) | (with_reducible exact Below.refl _ _) | (with_reducible refine Below.drew ?_) | (with_reducible refine Below.drewN ?_ _) | (with_reducible refine Below.setCell ?_ ?_ _) | (with_reducible refine Below.alloc ?_ ?_ _) | assumption)); all_goals (first | omega | (simp; done) | (simp; omega))); rintro e w' ⟨rfl, rfl⟩))
  rw [rounds_succ]
  go_wp2_with (first | (go_at_call 177; refine (bitsAt_any _ _ _ _ _ (by omega)).mono ?_; rintro e w' ⟨rfl, rfl⟩) | (go_at_call 142; refine (branch_any _ _ _ xs _ _ _ _ (by omega) hc ?_ ht h1 h3 (by omega) (by omega)).mono ?_; exact hr.below (by (repeat (first | (with_reducible assumption) | (with_reducible exact Below.refl _ _) | (with_reducible refine Below.drew ?_) | (with_reducible refine Below.drewN ?_ _) | (with_reducible refine Below.setCell ?_ ?_ _) | (with_reducible refine Below.alloc ?_ ?_ _) | assumption)); all_goals (first | omega | (simp; done) | (simp; omega))); rintro e w' ⟨rfl, rfl⟩))
  exact bodyPost_ret (v := .agg #[.int .i64 (stepW xs t s 0 + e0), .int .i64 c0]) (by simp [results, Try.results164, go_sem]) rfl ⟨rfl, by (repeat (first | (with_reducible assumption) | (with_reducible exact Below.refl _ _) | (with_reducible refine Below.drew ?_) | (with_reducible refine Below.drewN ?_ _) | (with_reducible refine Below.setCell ?_ ?_ _) | (with_reducible refine Below.alloc ?_ ?_ _) | assumption)); all_goals (first | omega | (simp; done) | (simp; omega))⟩

set_option maxHeartbeats 1000000 in
theorem restAt_two00 (A : Option Addr) (n c : Nat) (xs : List Int) (t : Nat) (s : Int) (e0 c0 e1 c1 e2 c2 e3 c3 : Int) (w : World) (hn : n ≤ 604) (hc : n ≤ c) (hr : Rd w A n (ints xs)) (ht : 2 * t + 1 < n) (h1 : 0 ≤ s) (h3 : s ≤ 3)
    (hx0 : nxt s 0 = 0) (hx1 : nxt s 1 = 2) (h2 : (t : Int) < (n : Int) / 2 - 2) (b0 : 0 ≤ e0) (b1 : e0 ≤ 1208) (b2 : 0 ≤ e2) (b3 : e2 ≤ 1208) (d0 : 0 ≤ c0) (d1 : c0 ≤ 1000000) (d2 : 0 ≤ c2) (d3 : c2 ≤ 1000000)
    (hk : stepW xs t s 1 + e2 < stepW xs t s 0 + e0) :
    Calls Try.prog 164 #[.slice A n c, .int .i64 t, .int .i64 s, .agg #[.int .i64 e0, .int .i64 c0, .int .i64 e1, .int .i64 c1, .int .i64 e2, .int .i64 c2, .int .i64 e3, .int .i64 c3]] w fun e w' =>
      e = .returned (.agg #[.int .i64 (stepW xs t s 1 + e2), .int .i64 (c2)]) ∧ Below w.heap.size w w' := by
  have hs := stepW_bd xs t s 0
  have hs1 := stepW_bd xs t s 1
  have hif : (if (t : Int) < (n : Int) / 2 - 2 then (1 : Int) else 0) = 1 := if_pos h2
  have q1 : stepW xs t s 0 + e0 ≥ 0 := by omega
  go_enter Try.func164, Try.ntmps164
  go_wp2_with fail
  refine wp_loop_rounds 3 ?_
  rw [rounds_succ]
  go_wp2_with (first | (go_at_call 177; refine (bitsAt_any _ _ _ _ _ (by omega)).mono ?_; rintro e w' ⟨rfl, rfl⟩) | (go_at_call 142; refine (branch_any _ _ _ xs _ _ _ _ (by omega) hc ?_ ht h1 h3 (by omega) (by omega)).mono ?_; exact hr.below (by (repeat (first | (with_reducible assumption) | (with_reducible exact Below.refl _ _) | (with_reducible refine Below.drew ?_) | (with_reducible refine Below.drewN ?_ _) | (with_reducible refine Below.setCell ?_ ?_ _) | (with_reducible refine Below.alloc ?_ ?_ _) | assumption)); all_goals (first | omega | (simp; done) | (simp; omega))); rintro e w' ⟨rfl, rfl⟩))
  rw [rounds_succ]
  go_wp2_with (first | (go_at_call 177; refine (bitsAt_any _ _ _ _ _ (by omega)).mono ?_; rintro e w' ⟨rfl, rfl⟩) | (go_at_call 142; refine (branch_any _ _ _ xs _ _ _ _ (by omega) hc ?_ ht h1 h3 (by omega) (by omega)).mono ?_; exact hr.below (by (repeat (first | (with_reducible assumption) | (with_reducible exact Below.refl _ _) | (with_reducible refine Below.drew ?_) | (with_reducible refine Below.drewN ?_ _) | (with_reducible refine Below.setCell ?_ ?_ _) | (with_reducible refine Below.alloc ?_ ?_ _) | assumption)); all_goals (first | omega | (simp; done) | (simp; omega))); rintro e w' ⟨rfl, rfl⟩))
  rw [rounds_succ]
  go_wp2_with (first | (go_at_call 177; refine (bitsAt_any _ _ _ _ _ (by omega)).mono ?_; rintro e w' ⟨rfl, rfl⟩) | (go_at_call 142; refine (branch_any _ _ _ xs _ _ _ _ (by omega) hc ?_ ht h1 h3 (by omega) (by omega)).mono ?_; exact hr.below (by (repeat (first | (with_reducible assumption) | (with_reducible exact Below.refl _ _) | (with_reducible refine Below.drew ?_) | (with_reducible refine Below.drewN ?_ _) | (with_reducible refine Below.setCell ?_ ?_ _) | (with_reducible refine Below.alloc ?_ ?_ _) | assumption)); all_goals (first | omega | (simp; done) | (simp; omega))); rintro e w' ⟨rfl, rfl⟩))
  exact bodyPost_ret (v := .agg #[.int .i64 (stepW xs t s 1 + e2), .int .i64 (c2)]) (by simp [results, Try.results164, go_sem]) rfl ⟨rfl, by (repeat (first | (with_reducible assumption) | (with_reducible exact Below.refl _ _) | (with_reducible refine Below.drew ?_) | (with_reducible refine Below.drewN ?_ _) | (with_reducible refine Below.setCell ?_ ?_ _) | (with_reducible refine Below.alloc ?_ ?_ _) | assumption)); all_goals (first | omega | (simp; done) | (simp; omega))⟩

set_option maxHeartbeats 1000000 in
theorem restAt_two01 (A : Option Addr) (n c : Nat) (xs : List Int) (t : Nat) (s : Int) (e0 c0 e1 c1 e2 c2 e3 c3 : Int) (w : World) (hn : n ≤ 604) (hc : n ≤ c) (hr : Rd w A n (ints xs)) (ht : 2 * t + 1 < n) (h1 : 0 ≤ s) (h3 : s ≤ 3)
    (hx0 : nxt s 0 = 0) (hx1 : nxt s 1 = 2) (h2 : (t : Int) < (n : Int) / 2 - 2) (b0 : 0 ≤ e0) (b1 : e0 ≤ 1208) (b2 : 0 ≤ e2) (b3 : e2 ≤ 1208) (d0 : 0 ≤ c0) (d1 : c0 ≤ 1000000) (d2 : 0 ≤ c2) (d3 : c2 ≤ 1000000)
    (hk : stepW xs t s 1 + e2 = stepW xs t s 0 + e0) :
    Calls Try.prog 164 #[.slice A n c, .int .i64 t, .int .i64 s, .agg #[.int .i64 e0, .int .i64 c0, .int .i64 e1, .int .i64 c1, .int .i64 e2, .int .i64 c2, .int .i64 e3, .int .i64 c3]] w fun e w' =>
      e = .returned (.agg #[.int .i64 (stepW xs t s 0 + e0), .int .i64 (min (c0 + c2) 1000000)]) ∧ Below w.heap.size w w' := by
  by_cases hmn : 1000000 < c0 + c2
  · have hm : min (c0 + c2) 1000000 = 1000000 := by omega
    rw [hm]
    clear hm
    have hs := stepW_bd xs t s 0
    have hs1 := stepW_bd xs t s 1
    have hif : (if (t : Int) < (n : Int) / 2 - 2 then (1 : Int) else 0) = 1 := if_pos h2
    have q1 : ¬ stepW xs t s 1 + e2 < stepW xs t s 0 + e0 := by omega
    have q2 : (stepW xs t s 1 + e2 == stepW xs t s 0 + e0) = true := by rw [hk]; simp
    have HK := Lib.hid hk
    clear hk
    go_enter Try.func164, Try.ntmps164
    go_wp2_with fail
    refine wp_loop_rounds 3 ?_
    rw [rounds_succ]
    go_wp2_with (first | (go_at_call 177; refine (bitsAt_any _ _ _ _ _ (by omega)).mono ?_; rintro e w' ⟨rfl, rfl⟩) | (go_at_call 142; refine (branch_any _ _ _ xs _ _ _ _ (by omega) hc ?_ ht h1 h3 (by omega) (by omega)).mono ?_; exact hr.below (by (repeat (first | (with_reducible assumption) | (with_reducible exact Below.refl _ _) | (with_reducible refine Below.drew ?_) | (with_reducible refine Below.drewN ?_ _) | (with_reducible refine Below.setCell ?_ ?_ _) | (with_reducible refine Below.alloc ?_ ?_ _) | assumption)); all_goals (first | omega | (simp; done) | (simp; omega))); rintro e w' ⟨rfl, rfl⟩))
    rw [rounds_succ]
    go_wp2_with (first | (go_at_call 177; refine (bitsAt_any _ _ _ _ _ (by omega)).mono ?_; rintro e w' ⟨rfl, rfl⟩) | (go_at_call 142; refine (branch_any _ _ _ xs _ _ _ _ (by omega) hc ?_ ht h1 h3 (by omega) (by omega)).mono ?_; exact hr.below (by (repeat (first | (with_reducible assumption) | (with_reducible exact Below.refl _ _) | (with_reducible refine Below.drew ?_) | (with_reducible refine Below.drewN ?_ _) | (with_reducible refine Below.setCell ?_ ?_ _) | (with_reducible refine Below.alloc ?_ ?_ _) | assumption)); all_goals (first | omega | (simp; done) | (simp; omega))); rintro e w' ⟨rfl, rfl⟩))
    go_region
    all_goals
      go_wp2
      rw [rounds_succ]
      go_wp2_with (first | (go_at_call 177; refine (bitsAt_any _ _ _ _ _ (by omega)).mono ?_; rintro e w' ⟨rfl, rfl⟩) | (go_at_call 142; refine (branch_any _ _ _ xs _ _ _ _ (by omega) hc ?_ ht h1 h3 (by omega) (by omega)).mono ?_; exact hr.below (by (repeat (first | (with_reducible assumption) | (with_reducible exact Below.refl _ _) | (with_reducible refine Below.drew ?_) | (with_reducible refine Below.drewN ?_ _) | (with_reducible refine Below.setCell ?_ ?_ _) | (with_reducible refine Below.alloc ?_ ?_ _) | assumption)); all_goals (first | omega | (simp; done) | (simp; omega))); rintro e w' ⟨rfl, rfl⟩))
      exact bodyPost_ret (v := .agg #[.int .i64 (stepW xs t s 0 + e0), .int .i64 (1000000)]) (by simp [results, Try.results164, go_sem]) rfl ⟨rfl, by (repeat (first | (with_reducible assumption) | (with_reducible exact Below.refl _ _) | (with_reducible refine Below.drew ?_) | (with_reducible refine Below.drewN ?_ _) | (with_reducible refine Below.setCell ?_ ?_ _) | (with_reducible refine Below.alloc ?_ ?_ _) | assumption)); all_goals (first | omega | (simp; done) | (simp; omega))⟩
  · have hm : min (c0 + c2) 1000000 = c0 + c2 := by omega
    rw [hm]
    clear hm
    have hs := stepW_bd xs t s 0
    have hs1 := stepW_bd xs t s 1
    have hif : (if (t : Int) < (n : Int) / 2 - 2 then (1 : Int) else 0) = 1 := if_pos h2
    have q1 : ¬ stepW xs t s 1 + e2 < stepW xs t s 0 + e0 := by omega
    have q2 : (stepW xs t s 1 + e2 == stepW xs t s 0 + e0) = true := by rw [hk]; simp
    have HK := Lib.hid hk
    clear hk
    go_enter Try.func164, Try.ntmps164
    go_wp2_with fail
    refine wp_loop_rounds 3 ?_
    rw [rounds_succ]
    go_wp2_with (first | (go_at_call 177; refine (bitsAt_any _ _ _ _ _ (by omega)).mono ?_; rintro e w' ⟨rfl, rfl⟩) | (go_at_call 142; refine (branch_any _ _ _ xs _ _ _ _ (by omega) hc ?_ ht h1 h3 (by omega) (by omega)).mono ?_; exact hr.below (by (repeat (first | (with_reducible assumption) | (with_reducible exact Below.refl _ _) | (with_reducible refine Below.drew ?_) | (with_reducible refine Below.drewN ?_ _) | (with_reducible refine Below.setCell ?_ ?_ _) | (with_reducible refine Below.alloc ?_ ?_ _) | assumption)); all_goals (first | omega | (simp; done) | (simp; omega))); rintro e w' ⟨rfl, rfl⟩))
    rw [rounds_succ]
    go_wp2_with (first | (go_at_call 177; refine (bitsAt_any _ _ _ _ _ (by omega)).mono ?_; rintro e w' ⟨rfl, rfl⟩) | (go_at_call 142; refine (branch_any _ _ _ xs _ _ _ _ (by omega) hc ?_ ht h1 h3 (by omega) (by omega)).mono ?_; exact hr.below (by (repeat (first | (with_reducible assumption) | (with_reducible exact Below.refl _ _) | (with_reducible refine Below.drew ?_) | (with_reducible refine Below.drewN ?_ _) | (with_reducible refine Below.setCell ?_ ?_ _) | (with_reducible refine Below.alloc ?_ ?_ _) | assumption)); all_goals (first | omega | (simp; done) | (simp; omega))); rintro e w' ⟨rfl, rfl⟩))
    go_region
    all_goals
      go_wp2
      rw [rounds_succ]
      go_wp2_with (first | (go_at_call 177; refine (bitsAt_any _ _ _ _ _ (by omega)).mono ?_; rintro e w' ⟨rfl, rfl⟩) | (go_at_call 142; refine (branch_any _ _ _ xs _ _ _ _ (by omega) hc ?_ ht h1 h3 (by omega) (by omega)).mono ?_; exact hr.below (by (repeat (first | (with_reducible assumption) | (with_reducible exact Below.refl _ _) | (with_reducible refine Below.drew ?_) | (with_reducible refine Below.drewN ?_ _) | (with_reducible refine Below.setCell ?_ ?_ _) | (with_reducible refine Below.alloc ?_ ?_ _) | assumption)); all_goals (first | omega | (simp; done) | (simp; omega))); rintro e w' ⟨rfl, rfl⟩))
      exact bodyPost_ret (v := .agg #[.int .i64 (stepW xs t s 0 + e0), .int .i64 (c0 + c2)]) (by simp [results, Try.results164, go_sem]) rfl ⟨rfl, by (repeat (first | (with_reducible assumption) | (with_reducible exact Below.refl _ _) | (with_reducible refine Below.drew ?_) | (with_reducible refine Below.drewN ?_ _) | (with_reducible refine Below.setCell ?_ ?_ _) | (with_reducible refine Below.alloc ?_ ?_ _) | assumption)); all_goals (first | omega | (simp; done) | (simp; omega))⟩

set_option maxHeartbeats 1000000 in
theorem restAt_two02 (A : Option Addr) (n c : Nat) (xs : List Int) (t : Nat) (s : Int) (e0 c0 e1 c1 e2 c2 e3 c3 : Int) (w : World) (hn : n ≤ 604) (hc : n ≤ c) (hr : Rd w A n (ints xs)) (ht : 2 * t + 1 < n) (h1 : 0 ≤ s) (h3 : s ≤ 3)
    (hx0 : nxt s 0 = 0) (hx1 : nxt s 1 = 2) (h2 : (t : Int) < (n : Int) / 2 - 2) (b0 : 0 ≤ e0) (b1 : e0 ≤ 1208) (b2 : 0 ≤ e2) (b3 : e2 ≤ 1208) (d0 : 0 ≤ c0) (d1 : c0 ≤ 1000000) (d2 : 0 ≤ c2) (d3 : c2 ≤ 1000000)
    (hk : stepW xs t s 0 + e0 < stepW xs t s 1 + e2) :
    Calls Try.prog 164 #[.slice A n c, .int .i64 t, .int .i64 s, .agg #[.int .i64 e0, .int .i64 c0, .int .i64 e1, .int .i64 c1, .int .i64 e2, .int .i64 c2, .int .i64 e3, .int .i64 c3]] w fun e w' =>
      e = .returned (.agg #[.int .i64 (stepW xs t s 0 + e0), .int .i64 (c0)]) ∧ Below w.heap.size w w' := by
  have hs := stepW_bd xs t s 0
  have hs1 := stepW_bd xs t s 1
  have hif : (if (t : Int) < (n : Int) / 2 - 2 then (1 : Int) else 0) = 1 := if_pos h2
  have q1 : ¬ stepW xs t s 1 + e2 < stepW xs t s 0 + e0 := by omega
  have q2 : (stepW xs t s 1 + e2 == stepW xs t s 0 + e0) = false := by simp; omega
  go_enter Try.func164, Try.ntmps164
  go_wp2_with fail
  refine wp_loop_rounds 3 ?_
  rw [rounds_succ]
  go_wp2_with (first | (go_at_call 177; refine (bitsAt_any _ _ _ _ _ (by omega)).mono ?_; rintro e w' ⟨rfl, rfl⟩) | (go_at_call 142; refine (branch_any _ _ _ xs _ _ _ _ (by omega) hc ?_ ht h1 h3 (by omega) (by omega)).mono ?_; exact hr.below (by (repeat (first | (with_reducible assumption) | (with_reducible exact Below.refl _ _) | (with_reducible refine Below.drew ?_) | (with_reducible refine Below.drewN ?_ _) | (with_reducible refine Below.setCell ?_ ?_ _) | (with_reducible refine Below.alloc ?_ ?_ _) | assumption)); all_goals (first | omega | (simp; done) | (simp; omega))); rintro e w' ⟨rfl, rfl⟩))
  rw [rounds_succ]
  go_wp2_with (first | (go_at_call 177; refine (bitsAt_any _ _ _ _ _ (by omega)).mono ?_; rintro e w' ⟨rfl, rfl⟩) | (go_at_call 142; refine (branch_any _ _ _ xs _ _ _ _ (by omega) hc ?_ ht h1 h3 (by omega) (by omega)).mono ?_; exact hr.below (by (repeat (first | (with_reducible assumption) | (with_reducible exact Below.refl _ _) | (with_reducible refine Below.drew ?_) | (with_reducible refine Below.drewN ?_ _) | (with_reducible refine Below.setCell ?_ ?_ _) | (with_reducible refine Below.alloc ?_ ?_ _) | assumption)); all_goals (first | omega | (simp; done) | (simp; omega))); rintro e w' ⟨rfl, rfl⟩))
  rw [rounds_succ]
  go_wp2_with (first | (go_at_call 177; refine (bitsAt_any _ _ _ _ _ (by omega)).mono ?_; rintro e w' ⟨rfl, rfl⟩) | (go_at_call 142; refine (branch_any _ _ _ xs _ _ _ _ (by omega) hc ?_ ht h1 h3 (by omega) (by omega)).mono ?_; exact hr.below (by (repeat (first | (with_reducible assumption) | (with_reducible exact Below.refl _ _) | (with_reducible refine Below.drew ?_) | (with_reducible refine Below.drewN ?_ _) | (with_reducible refine Below.setCell ?_ ?_ _) | (with_reducible refine Below.alloc ?_ ?_ _) | assumption)); all_goals (first | omega | (simp; done) | (simp; omega))); rintro e w' ⟨rfl, rfl⟩))
  exact bodyPost_ret (v := .agg #[.int .i64 (stepW xs t s 0 + e0), .int .i64 (c0)]) (by simp [results, Try.results164, go_sem]) rfl ⟨rfl, by (repeat (first | (with_reducible assumption) | (with_reducible exact Below.refl _ _) | (with_reducible refine Below.drew ?_) | (with_reducible refine Below.drewN ?_ _) | (with_reducible refine Below.setCell ?_ ?_ _) | (with_reducible refine Below.alloc ?_ ?_ _) | assumption)); all_goals (first | omega | (simp; done) | (simp; omega))⟩
set_option maxHeartbeats 1000000 in
theorem restAt_one1 (A : Option Addr) (n c : Nat) (xs : List Int) (t : Nat) (s : Int) (e0 c0 e1 c1 e2 c2 e3 c3 : Int) (w : World) (hn : n ≤ 604) (hc : n ≤ c) (hr : Rd w A n (ints xs)) (ht : 2 * t + 1 < n) (h1 : 0 ≤ s) (h3 : s ≤ 3)
    (hx0 : nxt s 0 = 1) (hx1 : nxt s 1 = 3) (h2 : ¬ (t : Int) < (n : Int) / 2 - 2) (b0 : 0 ≤ e1) (b1 : e1 ≤ 1208) :
    Calls Try.prog 164 #[.slice A n c, .int .i64 t, .int .i64 s, .agg #[.int .i64 e0, .int .i64 c0, .int .i64 e1, .int .i64 c1, .int .i64 e2, .int .i64 c2, .int .i64 e3, .int .i64 c3]] w fun e w' =>
      e = .returned (.agg #[.int .i64 (stepW xs t s 0 + e1), .int .i64 c1]) ∧ Below w.heap.size w w' := by
  have hs := stepW_bd xs t s 0
  have hif : (if (t : Int) < (n : Int) / 2 - 2 then (1 : Int) else 0) = 0 := if_neg h2
  go_enter Try.func164, Try.ntmps164
  go_wp2_with fail
  refine wp_loop_rounds 2 ?_
  rw [rounds_succ]
  go_wp2_with (first | (go_at_call 177; refine (bitsAt_any _ _ _ _ _ (by omega)).mono ?_; rintro e w' ⟨rfl, rfl⟩) | (go_at_call 142; refine (branch_any _ _ _ xs _ _ _ _ (by omega) hc ?_ ht h1 h3 (by omega) (by omega)).mono ?_; exact hr.below (by (repeat (first | (with_reducible assumption) | (with_reducible exact Below.refl _ _) | (with_reducible refine Below.drew ?_) | (with_reducible refine Below.drewN ?_ _) | (with_reducible refine Below.setCell ?_ ?_ _) | (with_reducible refine Below.alloc ?_ ?_ _) | assumption)); all_goals (first | omega | (simp; done) | (simp; omega))); rintro e w' ⟨rfl, rfl⟩))
  rw [rounds_succ]
  go_wp2_with (first | (go_at_call 177; refine (bitsAt_any _ _ _ _ _ (by omega)).mono ?_; rintro e w' ⟨rfl, rfl⟩) | (go_at_call 142; refine (branch_any _ _ _ xs _ _ _ _ (by omega) hc ?_ ht h1 h3 (by omega) (by omega)).mono ?_; exact hr.below (by (repeat (first | (with_reducible assumption) | (with_reducible exact Below.refl _ _) | (with_reducible refine Below.drew ?_) | (with_reducible refine Below.drewN ?_ _) | (with_reducible refine Below.setCell ?_ ?_ _) | (with_reducible refine Below.alloc ?_ ?_ _) | assumption)); all_goals (first | omega | (simp; done) | (simp; omega))); rintro e w' ⟨rfl, rfl⟩))
  exact bodyPost_ret (v := .agg #[.int .i64 (stepW xs t s 0 + e1), .int .i64 c1]) (by simp [results, Try.results164, go_sem]) rfl ⟨rfl, by (repeat (first | (with_reducible assumption) | (with_reducible exact Below.refl _ _) | (with_reducible refine Below.drew ?_) | (with_reducible refine Below.drewN ?_ _) | (with_reducible refine Below.setCell ?_ ?_ _) | (with_reducible refine Below.alloc ?_ ?_ _) | assumption)); all_goals (first | omega | (simp; done) | (simp; omega))⟩

set_option maxHeartbeats 1000000 in
theorem restAt_two10 (A : Option Addr) (n c : Nat) (xs : List Int) (t : Nat) (s : Int) (e0 c0 e1 c1 e2 c2 e3 c3 : Int) (w : World) (hn : n ≤ 604) (hc : n ≤ c) (hr : Rd w A n (ints xs)) (ht : 2 * t + 1 < n) (h1 : 0 ≤ s) (h3 : s ≤ 3)
    (hx0 : nxt s 0 = 1) (hx1 : nxt s 1 = 3) (h2 : (t : Int) < (n : Int) / 2 - 2) (b0 : 0 ≤ e1) (b1 : e1 ≤ 1208) (b2 : 0 ≤ e3) (b3 : e3 ≤ 1208) (d0 : 0 ≤ c1) (d1 : c1 ≤ 1000000) (d2 : 0 ≤ c3) (d3 : c3 ≤ 1000000)
    (hk : stepW xs t s 1 + e3 < stepW xs t s 0 + e1) :
    Calls Try.prog 164 #[.slice A n c, .int .i64 t, .int .i64 s, .agg #[.int .i64 e0, .int .i64 c0, .int .i64 e1, .int .i64 c1, .int .i64 e2, .int .i64 c2, .int .i64 e3, .int .i64 c3]] w fun e w' =>
      e = .returned (.agg #[.int .i64 (stepW xs t s 1 + e3), .int .i64 (c3)]) ∧ Below w.heap.size w w' := by
  have hs := stepW_bd xs t s 0
  have hs1 := stepW_bd xs t s 1
  have hif : (if (t : Int) < (n : Int) / 2 - 2 then (1 : Int) else 0) = 1 := if_pos h2
  have q1 : stepW xs t s 0 + e1 ≥ 0 := by omega
  go_enter Try.func164, Try.ntmps164
  go_wp2_with fail
  refine wp_loop_rounds 3 ?_
  rw [rounds_succ]
  go_wp2_with (first | (go_at_call 177; refine (bitsAt_any _ _ _ _ _ (by omega)).mono ?_; rintro e w' ⟨rfl, rfl⟩) | (go_at_call 142; refine (branch_any _ _ _ xs _ _ _ _ (by omega) hc ?_ ht h1 h3 (by omega) (by omega)).mono ?_; exact hr.below (by (repeat (first | (with_reducible assumption) | (with_reducible exact Below.refl _ _) | (with_reducible refine Below.drew ?_) | (with_reducible refine Below.drewN ?_ _) | (with_reducible refine Below.setCell ?_ ?_ _) | (with_reducible refine Below.alloc ?_ ?_ _) | assumption)); all_goals (first | omega | (simp; done) | (simp; omega))); rintro e w' ⟨rfl, rfl⟩))
  rw [rounds_succ]
  go_wp2_with (first | (go_at_call 177; refine (bitsAt_any _ _ _ _ _ (by omega)).mono ?_; rintro e w' ⟨rfl, rfl⟩) | (go_at_call 142; refine (branch_any _ _ _ xs _ _ _ _ (by omega) hc ?_ ht h1 h3 (by omega) (by omega)).mono ?_; exact hr.below (by (repeat (first | (with_reducible assumption) | (with_reducible exact Below.refl _ _) | (with_reducible refine Below.drew ?_) | (with_reducible refine Below.drewN ?_ _) | (with_reducible refine Below.setCell ?_ ?_ _) | (with_reducible refine Below.alloc ?_ ?_ _) | assumption)); all_goals (first | omega | (simp; done) | (simp; omega))); rintro e w' ⟨rfl, rfl⟩))
  rw [rounds_succ]
  go_wp2_with (first | (go_at_call 177; refine (bitsAt_any _ _ _ _ _ (by omega)).mono ?_; rintro e w' ⟨rfl, rfl⟩) | (go_at_call 142; refine (branch_any _ _ _ xs _ _ _ _ (by omega) hc ?_ ht h1 h3 (by omega) (by omega)).mono ?_; exact hr.below (by (repeat (first | (with_reducible assumption) | (with_reducible exact Below.refl _ _) | (with_reducible refine Below.drew ?_) | (with_reducible refine Below.drewN ?_ _) | (with_reducible refine Below.setCell ?_ ?_ _) | (with_reducible refine Below.alloc ?_ ?_ _) | assumption)); all_goals (first | omega | (simp; done) | (simp; omega))); rintro e w' ⟨rfl, rfl⟩))
  exact bodyPost_ret (v := .agg #[.int .i64 (stepW xs t s 1 + e3), .int .i64 (c3)]) (by simp [results, Try.results164, go_sem]) rfl ⟨rfl, by (repeat (first | (with_reducible assumption) | (with_reducible exact Below.refl _ _) | (with_reducible refine Below.drew ?_) | (with_reducible refine Below.drewN ?_ _) | (with_reducible refine Below.setCell ?_ ?_ _) | (with_reducible refine Below.alloc ?_ ?_ _) | assumption)); all_goals (first | omega | (simp; done) | (simp; omega))⟩

set_option maxHeartbeats 1000000 in
theorem restAt_two11 (A : Option Addr) (n c : Nat) (xs : List Int) (t : Nat) (s : Int) (e0 c0 e1 c1 e2 c2 e3 c3 : Int) (w : World) (hn : n ≤ 604) (hc : n ≤ c) (hr : Rd w A n (ints xs)) (ht : 2 * t + 1 < n) (h1 : 0 ≤ s) (h3 : s ≤ 3)
    (hx0 : nxt s 0 = 1) (hx1 : nxt s 1 = 3) (h2 : (t : Int) < (n : Int) / 2 - 2) (b0 : 0 ≤ e1) (b1 : e1 ≤ 1208) (b2 : 0 ≤ e3) (b3 : e3 ≤ 1208) (d0 : 0 ≤ c1) (d1 : c1 ≤ 1000000) (d2 : 0 ≤ c3) (d3 : c3 ≤ 1000000)
    (hk : stepW xs t s 1 + e3 = stepW xs t s 0 + e1) :
    Calls Try.prog 164 #[.slice A n c, .int .i64 t, .int .i64 s, .agg #[.int .i64 e0, .int .i64 c0, .int .i64 e1, .int .i64 c1, .int .i64 e2, .int .i64 c2, .int .i64 e3, .int .i64 c3]] w fun e w' =>
      e = .returned (.agg #[.int .i64 (stepW xs t s 0 + e1), .int .i64 (min (c1 + c3) 1000000)]) ∧ Below w.heap.size w w' := by
  by_cases hmn : 1000000 < c1 + c3
  · have hm : min (c1 + c3) 1000000 = 1000000 := by omega
    rw [hm]
    clear hm
    have hs := stepW_bd xs t s 0
    have hs1 := stepW_bd xs t s 1
    have hif : (if (t : Int) < (n : Int) / 2 - 2 then (1 : Int) else 0) = 1 := if_pos h2
    have q1 : ¬ stepW xs t s 1 + e3 < stepW xs t s 0 + e1 := by omega
    have q2 : (stepW xs t s 1 + e3 == stepW xs t s 0 + e1) = true := by rw [hk]; simp
    have HK := Lib.hid hk
    clear hk
    go_enter Try.func164, Try.ntmps164
    go_wp2_with fail
    refine wp_loop_rounds 3 ?_
    rw [rounds_succ]
    go_wp2_with (first | (go_at_call 177; refine (bitsAt_any _ _ _ _ _ (by omega)).mono ?_; rintro e w' ⟨rfl, rfl⟩) | (go_at_call 142; refine (branch_any _ _ _ xs _ _ _ _ (by omega) hc ?_ ht h1 h3 (by omega) (by omega)).mono ?_; exact hr.below (by (repeat (first | (with_reducible assumption) | (with_reducible exact Below.refl _ _) | (with_reducible refine Below.drew ?_) | (with_reducible refine Below.drewN ?_ _) | (with_reducible refine Below.setCell ?_ ?_ _) | (with_reducible refine Below.alloc ?_ ?_ _) | assumption)); all_goals (first | omega | (simp; done) | (simp; omega))); rintro e w' ⟨rfl, rfl⟩))
    rw [rounds_succ]
    go_wp2_with (first | (go_at_call 177; refine (bitsAt_any _ _ _ _ _ (by omega)).mono ?_; rintro e w' ⟨rfl, rfl⟩) | (go_at_call 142; refine (branch_any _ _ _ xs _ _ _ _ (by omega) hc ?_ ht h1 h3 (by omega) (by omega)).mono ?_; exact hr.below (by (repeat (first | (with_reducible assumption) | (with_reducible exact Below.refl _ _) | (with_reducible refine Below.drew ?_) | (with_reducible refine Below.drewN ?_ _) | (with_reducible refine Below.setCell ?_ ?_ _) | (with_reducible refine Below.alloc ?_ ?_ _) | assumption)); all_goals (first | omega | (simp; done) | (simp; omega))); rintro e w' ⟨rfl, rfl⟩))
    go_region
    all_goals
      go_wp2
      rw [rounds_succ]
      go_wp2_with (first | (go_at_call 177; refine (bitsAt_any _ _ _ _ _ (by omega)).mono ?_; rintro e w' ⟨rfl, rfl⟩) | (go_at_call 142; refine (branch_any _ _ _ xs _ _ _ _ (by omega) hc ?_ ht h1 h3 (by omega) (by omega)).mono ?_; exact hr.below (by (repeat (first | (with_reducible assumption) | (with_reducible exact Below.refl _ _) | (with_reducible refine Below.drew ?_) | (with_reducible refine Below.drewN ?_ _) | (with_reducible refine Below.setCell ?_ ?_ _) | (with_reducible refine Below.alloc ?_ ?_ _) | assumption)); all_goals (first | omega | (simp; done) | (simp; omega))); rintro e w' ⟨rfl, rfl⟩))
      exact bodyPost_ret (v := .agg #[.int .i64 (stepW xs t s 0 + e1), .int .i64 (1000000)]) (by simp [results, Try.results164, go_sem]) rfl ⟨rfl, by (repeat (first | (with_reducible assumption) | (with_reducible exact Below.refl _ _) | (with_reducible refine Below.drew ?_) | (with_reducible refine Below.drewN ?_ _) | (with_reducible refine Below.setCell ?_ ?_ _) | (with_reducible refine Below.alloc ?_ ?_ _) | assumption)); all_goals (first | omega | (simp; done) | (simp; omega))⟩
  · have hm : min (c1 + c3) 1000000 = c1 + c3 := by omega
    rw [hm]
    clear hm
    have hs := stepW_bd xs t s 0
    have hs1 := stepW_bd xs t s 1
    have hif : (if (t : Int) < (n : Int) / 2 - 2 then (1 : Int) else 0) = 1 := if_pos h2
    have q1 : ¬ stepW xs t s 1 + e3 < stepW xs t s 0 + e1 := by omega
    have q2 : (stepW xs t s 1 + e3 == stepW xs t s 0 + e1) = true := by rw [hk]; simp
    have HK := Lib.hid hk
    clear hk
    go_enter Try.func164, Try.ntmps164
    go_wp2_with fail
    refine wp_loop_rounds 3 ?_
    rw [rounds_succ]
    go_wp2_with (first | (go_at_call 177; refine (bitsAt_any _ _ _ _ _ (by omega)).mono ?_; rintro e w' ⟨rfl, rfl⟩) | (go_at_call 142; refine (branch_any _ _ _ xs _ _ _ _ (by omega) hc ?_ ht h1 h3 (by omega) (by omega)).mono ?_; exact hr.below (by (repeat (first | (with_reducible assumption) | (with_reducible exact Below.refl _ _) | (with_reducible refine Below.drew ?_) | (with_reducible refine Below.drewN ?_ _) | (with_reducible refine Below.setCell ?_ ?_ _) | (with_reducible refine Below.alloc ?_ ?_ _) | assumption)); all_goals (first | omega | (simp; done) | (simp; omega))); rintro e w' ⟨rfl, rfl⟩))
    rw [rounds_succ]
    go_wp2_with (first | (go_at_call 177; refine (bitsAt_any _ _ _ _ _ (by omega)).mono ?_; rintro e w' ⟨rfl, rfl⟩) | (go_at_call 142; refine (branch_any _ _ _ xs _ _ _ _ (by omega) hc ?_ ht h1 h3 (by omega) (by omega)).mono ?_; exact hr.below (by (repeat (first | (with_reducible assumption) | (with_reducible exact Below.refl _ _) | (with_reducible refine Below.drew ?_) | (with_reducible refine Below.drewN ?_ _) | (with_reducible refine Below.setCell ?_ ?_ _) | (with_reducible refine Below.alloc ?_ ?_ _) | assumption)); all_goals (first | omega | (simp; done) | (simp; omega))); rintro e w' ⟨rfl, rfl⟩))
    go_region
    all_goals
      go_wp2
      rw [rounds_succ]
      go_wp2_with (first | (go_at_call 177; refine (bitsAt_any _ _ _ _ _ (by omega)).mono ?_; rintro e w' ⟨rfl, rfl⟩) | (go_at_call 142; refine (branch_any _ _ _ xs _ _ _ _ (by omega) hc ?_ ht h1 h3 (by omega) (by omega)).mono ?_; exact hr.below (by (repeat (first | (with_reducible assumption) | (with_reducible exact Below.refl _ _) | (with_reducible refine Below.drew ?_) | (with_reducible refine Below.drewN ?_ _) | (with_reducible refine Below.setCell ?_ ?_ _) | (with_reducible refine Below.alloc ?_ ?_ _) | assumption)); all_goals (first | omega | (simp; done) | (simp; omega))); rintro e w' ⟨rfl, rfl⟩))
      exact bodyPost_ret (v := .agg #[.int .i64 (stepW xs t s 0 + e1), .int .i64 (c1 + c3)]) (by simp [results, Try.results164, go_sem]) rfl ⟨rfl, by (repeat (first | (with_reducible assumption) | (with_reducible exact Below.refl _ _) | (with_reducible refine Below.drew ?_) | (with_reducible refine Below.drewN ?_ _) | (with_reducible refine Below.setCell ?_ ?_ _) | (with_reducible refine Below.alloc ?_ ?_ _) | assumption)); all_goals (first | omega | (simp; done) | (simp; omega))⟩

set_option maxHeartbeats 1000000 in
theorem restAt_two12 (A : Option Addr) (n c : Nat) (xs : List Int) (t : Nat) (s : Int) (e0 c0 e1 c1 e2 c2 e3 c3 : Int) (w : World) (hn : n ≤ 604) (hc : n ≤ c) (hr : Rd w A n (ints xs)) (ht : 2 * t + 1 < n) (h1 : 0 ≤ s) (h3 : s ≤ 3)
    (hx0 : nxt s 0 = 1) (hx1 : nxt s 1 = 3) (h2 : (t : Int) < (n : Int) / 2 - 2) (b0 : 0 ≤ e1) (b1 : e1 ≤ 1208) (b2 : 0 ≤ e3) (b3 : e3 ≤ 1208) (d0 : 0 ≤ c1) (d1 : c1 ≤ 1000000) (d2 : 0 ≤ c3) (d3 : c3 ≤ 1000000)
    (hk : stepW xs t s 0 + e1 < stepW xs t s 1 + e3) :
    Calls Try.prog 164 #[.slice A n c, .int .i64 t, .int .i64 s, .agg #[.int .i64 e0, .int .i64 c0, .int .i64 e1, .int .i64 c1, .int .i64 e2, .int .i64 c2, .int .i64 e3, .int .i64 c3]] w fun e w' =>
      e = .returned (.agg #[.int .i64 (stepW xs t s 0 + e1), .int .i64 (c1)]) ∧ Below w.heap.size w w' := by
  have hs := stepW_bd xs t s 0
  have hs1 := stepW_bd xs t s 1
  have hif : (if (t : Int) < (n : Int) / 2 - 2 then (1 : Int) else 0) = 1 := if_pos h2
  have q1 : ¬ stepW xs t s 1 + e3 < stepW xs t s 0 + e1 := by omega
  have q2 : (stepW xs t s 1 + e3 == stepW xs t s 0 + e1) = false := by simp; omega
  go_enter Try.func164, Try.ntmps164
  go_wp2_with fail
  refine wp_loop_rounds 3 ?_
  rw [rounds_succ]
  go_wp2_with (first | (go_at_call 177; refine (bitsAt_any _ _ _ _ _ (by omega)).mono ?_; rintro e w' ⟨rfl, rfl⟩) | (go_at_call 142; refine (branch_any _ _ _ xs _ _ _ _ (by omega) hc ?_ ht h1 h3 (by omega) (by omega)).mono ?_; exact hr.below (by (repeat (first | (with_reducible assumption) | (with_reducible exact Below.refl _ _) | (with_reducible refine Below.drew ?_) | (with_reducible refine Below.drewN ?_ _) | (with_reducible refine Below.setCell ?_ ?_ _) | (with_reducible refine Below.alloc ?_ ?_ _) | assumption)); all_goals (first | omega | (simp; done) | (simp; omega))); rintro e w' ⟨rfl, rfl⟩))
  rw [rounds_succ]
  go_wp2_with (first | (go_at_call 177; refine (bitsAt_any _ _ _ _ _ (by omega)).mono ?_; rintro e w' ⟨rfl, rfl⟩) | (go_at_call 142; refine (branch_any _ _ _ xs _ _ _ _ (by omega) hc ?_ ht h1 h3 (by omega) (by omega)).mono ?_; exact hr.below (by (repeat (first | (with_reducible assumption) | (with_reducible exact Below.refl _ _) | (with_reducible refine Below.drew ?_) | (with_reducible refine Below.drewN ?_ _) | (with_reducible refine Below.setCell ?_ ?_ _) | (with_reducible refine Below.alloc ?_ ?_ _) | assumption)); all_goals (first | omega | (simp; done) | (simp; omega))); rintro e w' ⟨rfl, rfl⟩))
  rw [rounds_succ]
  go_wp2_with (first | (go_at_call 177; refine (bitsAt_any _ _ _ _ _ (by omega)).mono ?_; rintro e w' ⟨rfl, rfl⟩) | (go_at_call 142; refine (branch_any _ _ _ xs _ _ _ _ (by omega) hc ?_ ht h1 h3 (by omega) (by omega)).mono ?_; exact hr.below (by (repeat (first | (with_reducible assumption) | (with_reducible exact Below.refl _ _) | (with_reducible refine Below.drew ?_) | (with_reducible refine Below.drewN ?_ _) | (with_reducible refine Below.setCell ?_ ?_ _) | (with_reducible refine Below.alloc ?_ ?_ _) | assumption)); all_goals (first | omega | (simp; done) | (simp; omega))); rintro e w' ⟨rfl, rfl⟩))
  exact bodyPost_ret (v := .agg #[.int .i64 (stepW xs t s 0 + e1), .int .i64 (c1)]) (by simp [results, Try.results164, go_sem]) rfl ⟨rfl, by (repeat (first | (with_reducible assumption) | (with_reducible exact Below.refl _ _) | (with_reducible refine Below.drew ?_) | (with_reducible refine Below.drewN ?_ _) | (with_reducible refine Below.setCell ?_ ?_ _) | (with_reducible refine Below.alloc ?_ ?_ _) | assumption)); all_goals (first | omega | (simp; done) | (simp; omega))⟩

set_option maxHeartbeats 1000000 in
theorem restAt_any (A : Option Addr) (n c : Nat) (xs : List Int) (t : Nat) (s : Int) (f : Int → Int × Int) (w : World) (hn : n ≤ 604) (hc : n ≤ c) (hr : Rd w A n (ints xs)) (ht : 2 * t + 1 < n) (h1 : 0 ≤ s) (h3 : s ≤ 3)
    (hf : ∀ s, 0 ≤ (f s).1 ∧ (f s).1 ≤ 1208 ∧ 0 ≤ (f s).2 ∧ (f s).2 ≤ 1000000) :
    Calls Try.prog 164 #[.slice A n c, .int .i64 t, .int .i64 s, .agg (rowV f)] w fun e w' =>
      e = .returned (.agg #[.int .i64 (oneRest f xs t s (decide ((t : Int) < (n : Int) / 2 - 2))).1, .int .i64 (oneRest f xs t s (decide ((t : Int) < (n : Int) / 2 - 2))).2]) ∧ Below w.heap.size w w' := by
  have f0 := hf 0
  have f1 := hf 1
  have f2 := hf 2
  have f3 := hf 3
  by_cases hs : s ≤ 1
  · have hx0 : nxt s 0 = 0 := by unfold nxt; omega
    have hx1 : nxt s 1 = 2 := by unfold nxt; omega
    by_cases h2 : (t : Int) < (n : Int) / 2 - 2
    · simp only [oneRest, h2, hx0, hx1, decide_true, if_true, rowV]
      unfold pick
      split
      · exact restAt_two00 A n c xs t s _ _ _ _ _ _ _ _ w hn hc hr ht h1 h3 hx0 hx1 h2 f0.1 f0.2.1 f2.1 f2.2.1 f0.2.2.1 f0.2.2.2 f2.2.2.1 f2.2.2.2 (by assumption)
      · split
        · exact restAt_two01 A n c xs t s _ _ _ _ _ _ _ _ w hn hc hr ht h1 h3 hx0 hx1 h2 f0.1 f0.2.1 f2.1 f2.2.1 f0.2.2.1 f0.2.2.2 f2.2.2.1 f2.2.2.2 (by assumption)
        · exact restAt_two02 A n c xs t s _ _ _ _ _ _ _ _ w hn hc hr ht h1 h3 hx0 hx1 h2 f0.1 f0.2.1 f2.1 f2.2.1 f0.2.2.1 f0.2.2.2 f2.2.2.1 f2.2.2.2 (by simp only at *; omega)
    · simp only [oneRest, h2, hx0, decide_false, if_false, rowV, Bool.false_eq_true]
      exact restAt_one0 A n c xs t s _ _ _ _ _ _ _ _ w hn hc hr ht h1 h3 hx0 hx1 h2 f0.1 f0.2.1
  · have hx0 : nxt s 0 = 1 := by unfold nxt; omega
    have hx1 : nxt s 1 = 3 := by unfold nxt; omega
    by_cases h2 : (t : Int) < (n : Int) / 2 - 2
    · simp only [oneRest, h2, hx0, hx1, decide_true, if_true, rowV]
      unfold pick
      split
      · exact restAt_two10 A n c xs t s _ _ _ _ _ _ _ _ w hn hc hr ht h1 h3 hx0 hx1 h2 f1.1 f1.2.1 f3.1 f3.2.1 f1.2.2.1 f1.2.2.2 f3.2.2.1 f3.2.2.2 (by assumption)
      · split
        · exact restAt_two11 A n c xs t s _ _ _ _ _ _ _ _ w hn hc hr ht h1 h3 hx0 hx1 h2 f1.1 f1.2.1 f3.1 f3.2.1 f1.2.2.1 f1.2.2.2 f3.2.2.1 f3.2.2.2 (by assumption)
        · exact restAt_two12 A n c xs t s _ _ _ _ _ _ _ _ w hn hc hr ht h1 h3 hx0 hx1 h2 f1.1 f1.2.1 f3.1 f3.2.1 f1.2.2.1 f1.2.2.2 f3.2.2.1 f3.2.2.2 (by simp only at *; omega)
    · simp only [oneRest, h2, hx0, decide_false, if_false, rowV, Bool.false_eq_true]
      exact restAt_one1 A n c xs t s _ _ _ _ _ _ _ _ w hn hc hr ht h1 h3 hx0 hx1 h2 f1.1 f1.2.1
end Go.Proofs.Ytlgmdekhlcbhoaa
