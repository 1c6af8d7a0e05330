/- Grids: whether a grid is valid. spec.IsDepthGrid and impl.IsDepthGrid compute the same. Condition: lists of at most 1048576 elements. -/
import Derived.Test.YthmcnoloeeabbaaGriM
import Derived.Test.YthmcnoloeeabbaaLen
import Derived.Test.YthmcnoloeeabbaaKern
import Derived.IntWalk
namespace Go.Proofs.Ythmcnoloeeabbaa
open Go.RowKit

set_option maxHeartbeats 400000 in
theorem isValue_any (x : Int) (w : World) :
    Calls Try.prog 137 #[.int .i64 x] w fun e w' => e = .returned (.bool (inR x (-1000000000000) 1000000000000)) ∧ w = w' := by
  go_enter Try.func137, Try.ntmps137
  go_wp2_with (go_at_call 77; refine (within_any _ _ _ _).mono ?_; rintro e w' ⟨rfl, rfl⟩)
  go_ret
  exact ⟨rfl, rfl⟩
set_option maxHeartbeats 400000 in
theorem l01Is_any (x : Int) (w : World) :
    Calls Try.prog 138 #[.int .i64 x] w fun e w' => e = .returned (.bool (inR x (-1000000000000) 1000000000000)) ∧ w = w' := by
  go_enter Try.func138, Try.ntmps138
  go_wp2_with (go_at_call 74; refine (l01In_any _ _ _ _).mono ?_; rintro e w' ⟨rfl, rfl⟩)
  go_ret
  exact ⟨rfl, rfl⟩
set_option maxHeartbeats 1000000 in
theorem implIsInterval_any (x y : Int) (w : World) :
    Calls Try.prog 120 #[.agg #[.int .i64 x, .int .i64 y]] w fun e w' => e = .returned (.bool (ivB x y)) ∧ Below w.heap.size w w' := by
  have HB : Hid (ivB x y = (inR x (-1000000000000) 1000000000000 && inR y (-1000000000000) 1000000000000 && decide (x ≤ y))) := rfl
  have hb0 : Below w.heap.size w (w.alloc (.cells #[.int .i64 x, .int .i64 y] 82)) := (Below.refl _ _).alloc (Nat.le_refl _) _
  rcases Bool.eq_false_or_eq_true (inR x (-1000000000000) 1000000000000) with h1 | h1
  · rcases Bool.eq_false_or_eq_true (inR y (-1000000000000) 1000000000000) with h2 | h2
    · by_cases h3 : x ≤ y
      all_goals
        go_enter Try.func120, Try.ntmps120
        go_wp2_with (go_at_call 137; refine (isValue_any _ _).mono ?_; rintro e w' ⟨rfl, rfl⟩)
        go_ret
        exact ⟨ret_bool (by rw [HB.out, h1, h2]; simp [h3]), hb0⟩
    · go_enter Try.func120, Try.ntmps120
      go_wp2_with (go_at_call 137; refine (isValue_any _ _).mono ?_; rintro e w' ⟨rfl, rfl⟩)
      go_ret
      exact ⟨ret_bool (by rw [HB.out, h1, h2]; rfl), hb0⟩
  · go_enter Try.func120, Try.ntmps120
    go_wp2_with (go_at_call 137; refine (isValue_any _ _).mono ?_; rintro e w' ⟨rfl, rfl⟩)
    go_ret
    exact ⟨ret_bool (by rw [HB.out, h1]; rfl), hb0⟩
set_option maxHeartbeats 1000000 in
theorem specIsInterval_any (x y : Int) (w : World) :
    Calls Try.prog 125 #[.agg #[.int .i64 x, .int .i64 y]] w fun e w' => e = .returned (.bool (ivB x y)) ∧ Below w.heap.size w w' := by
  have HB : Hid (ivB x y = (inR x (-1000000000000) 1000000000000 && inR y (-1000000000000) 1000000000000 && decide (x ≤ y))) := rfl
  have hb0 : Below w.heap.size w (w.alloc (.cells #[.int .i64 x, .int .i64 y] 82)) := (Below.refl _ _).alloc (Nat.le_refl _) _
  rcases Bool.eq_false_or_eq_true (inR x (-1000000000000) 1000000000000) with h1 | h1
  · rcases Bool.eq_false_or_eq_true (inR y (-1000000000000) 1000000000000) with h2 | h2
    · by_cases h3 : x ≤ y
      all_goals
        go_enter Try.func125, Try.ntmps125
        go_wp2_with (go_at_call 138; refine (l01Is_any _ _).mono ?_; rintro e w' ⟨rfl, rfl⟩)
        go_ret
        exact ⟨ret_bool (by rw [HB.out, h1, h2]; simp [h3]), hb0⟩
    · go_enter Try.func125, Try.ntmps125
      go_wp2_with (go_at_call 138; refine (l01Is_any _ _).mono ?_; rintro e w' ⟨rfl, rfl⟩)
      go_ret
      exact ⟨ret_bool (by rw [HB.out, h1, h2]; rfl), hb0⟩
  · go_enter Try.func125, Try.ntmps125
    go_wp2_with (go_at_call 138; refine (l01Is_any _ _).mono ?_; rintro e w' ⟨rfl, rfl⟩)
    go_ret
    exact ⟨ret_bool (by rw [HB.out, h1]; rfl), hb0⟩
set_option maxHeartbeats 1000000 in
theorem isGridShape_any (x y z : Int) (w : World) :
    Calls Try.prog 108 #[.int .i64 x, .int .i64 y, .int .i64 z] w fun e w' => e = .returned (.bool (gshape x y z)) ∧ w = w' := by
  have HB : Hid (gshape x y z = (inR x 1 10000 && inR y 1 30 && inR z 1 30)) := rfl
  rcases Bool.eq_false_or_eq_true (inR x 1 10000) with h1 | h1
  all_goals rcases Bool.eq_false_or_eq_true (inR y 1 30) with h2 | h2
  all_goals
    go_enter Try.func108, Try.ntmps108
    go_wp2_with (go_at_call 77; refine (within_any _ _ _ _).mono ?_; rintro e w' ⟨rfl, rfl⟩)
    go_ret
    exact ⟨ret_bool (by rw [HB.out, h1, h2]; rfl), rfl⟩
set_option maxHeartbeats 1000000 in
theorem l22Size_any (x y z : Int) (w : World) :
    Calls Try.prog 111 #[.int .i64 x, .int .i64 y, .int .i64 z] w fun e w' => e = .returned (.bool (gshape x y z)) ∧ w = w' := by
  have HB : Hid (gshape x y z = (inR x 1 10000 && inR y 1 30 && inR z 1 30)) := rfl
  rcases Bool.eq_false_or_eq_true (inR x 1 10000) with h1 | h1
  all_goals rcases Bool.eq_false_or_eq_true (inR y 1 30) with h2 | h2
  all_goals
    go_enter Try.func111, Try.ntmps111
    go_wp2_with (go_at_call 74; refine (l01In_any _ _ _ _).mono ?_; rintro e w' ⟨rfl, rfl⟩)
    go_ret
    exact ⟨ret_bool (by rw [HB.out, h1, h2]; rfl), rfl⟩
end Go.Proofs.Ythmcnoloeeabbaa
