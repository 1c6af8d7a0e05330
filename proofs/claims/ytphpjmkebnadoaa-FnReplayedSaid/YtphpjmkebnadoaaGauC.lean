/- How records are ordered: by their times. No condition. -/
import Derived.Test.YtphpjmkebnadoaaGauI
import Derived.Shelf.SlSortCmp.InsertionK
namespace Go.Proofs.Ytphpjmkebnadoaa
open Go.RowKit Go.Shelf Go.Lib Go.Sort

def cmpI (a b : Int) : Int := if a < b then -1 else if b < a then 1 else 0
set_option maxHeartbeats 1000000 in
theorem isNaN_any (x : Int) (w : World) :
    Calls Try.prog 104 #[.int .i64 x] w fun e w' => e = .returned (.bool false) ∧ w' = w := by
  go_enter Try.func104, Try.ntmps104
  go_wp2
  go_ret
  exact ⟨ret_bool (by simp), rfl⟩
set_option maxHeartbeats 1000000 in
theorem compare_any (x y : Int) (w : World) :
    Calls Try.prog 80 #[.int .i64 x, .int .i64 y] w fun e w' => e = .returned (.int .i64 (cmpI x y)) ∧ w' = w := by
  rcases Int.lt_trichotomy x y with h | h | h
  · have e : cmpI x y = -1 := by unfold cmpI; rw [if_pos h]
    rw [e]
    go_enter Try.func80, Try.ntmps80
    go_wp2_with (go_at_call 104; refine (isNaN_any _ _).mono ?_; rintro e w' ⟨rfl, rfl⟩)
    go_ret
    exact ⟨rfl, rfl⟩
  · have e : cmpI x y = 0 := by unfold cmpI; rw [if_neg (by omega), if_neg (by omega)]
    rw [e]
    subst h
    go_enter Try.func80, Try.ntmps80
    go_wp2_with (go_at_call 104; refine (isNaN_any _ _).mono ?_; rintro e w' ⟨rfl, rfl⟩)
    go_ret
    exact ⟨rfl, rfl⟩
  · have e : cmpI x y = 1 := by unfold cmpI; rw [if_neg (by omega), if_pos h]
    rw [e]
    have h2 : ¬ x < y := by omega
    go_enter Try.func80, Try.ntmps80
    go_wp2_with (go_at_call 104; refine (isNaN_any _ _).mono ?_; rintro e w' ⟨rfl, rfl⟩)
    go_ret
    exact ⟨rfl, rfl⟩
/-- the cells of record i -/
def encR (xs : List Int) (i : Nat) : List Value := [.int .i64 (xs.getD (i * 7) 0), .int .i64 (xs.getD (i * 7 + 1) 0), .int .i64 (xs.getD (i * 7 + 2) 0), .int .i64 (xs.getD (i * 7 + 3) 0), .int .i64 (xs.getD (i * 7 + 4) 0), .int .i64 (xs.getD (i * 7 + 5) 0), .int .i64 (xs.getD (i * 7 + 6) 0)]
def cmpR (xs : List Int) (i j : Nat) : Int := cmpI (recT xs i) (recT xs j)
set_option maxHeartbeats 1000000 in
theorem cmpRec_any (xs : List Int) (i j : Nat) (w : World) :
    Calls Try.prog 79 #[.agg (encR xs i).toArray, .agg (encR xs j).toArray] w fun e w' => e = .returned (.int .i64 (cmpR xs i j)) ∧ ∃ q os', w' = grow (w.drewN q) os' := by
  have HC : Hid (cmpR xs i j = cmpI (xs.getD (i * 7) 0) (xs.getD (j * 7) 0)) := rfl
  unfold encR
  rw [HC.out]
  go_enter Try.func79, Try.ntmps79
  go_wp2_with (go_at_call 80; refine (compare_any _ _ _).mono ?_; rintro e w' ⟨rfl, rfl⟩)
  go_ret
  exact ⟨rfl, 0, _, by rw [alloc_eq_grow, alloc_eq_grow, grow_grow]; rfl⟩
end Go.Proofs.Ytphpjmkebnadoaa
