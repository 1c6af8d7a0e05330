/- The statements' own helpers on a record: a copy, a comparison. No condition. -/
import Derived.Test.YtoledbicmghmbaaDoorRec
import Derived.RegionTactic
import Derived.Deep.RegionWith
namespace Go.Proofs.YtoledbicmghmbaaDoor
open Go.RowKit

set_option maxHeartbeats 1000000 in
theorem eqSounding_same (x y d r : Int) (w : World) :
    Calls Tryd.prog 102 #[.agg #[.int .i64 x, .int .i64 y, .int .i64 d, .int .i64 r], .agg #[.int .i64 x, .int .i64 y, .int .i64 d, .int .i64 r]] w fun e w' =>
      e = .returned (.bool true) ∧ (w.alloc (.cells #[.int .i64 x, .int .i64 y, .int .i64 d, .int .i64 r] 27)).alloc (.cells #[.int .i64 x, .int .i64 y, .int .i64 d, .int .i64 r] 27) = w' := by
  go_enter Tryd.func102, Tryd.ntmps102
  go_wp2
  go_ret
  exact ⟨rfl, rfl⟩
set_option maxHeartbeats 1000000 in
theorem eqRecord_same (t k l x y d r : Int) (w : World) :
    Calls Tryd.prog 39 #[.agg #[.int .i64 t, .int .i64 k, .int .i64 l, .int .i64 x, .int .i64 y, .int .i64 d, .int .i64 r], .agg #[.int .i64 t, .int .i64 k, .int .i64 l, .int .i64 x, .int .i64 y, .int .i64 d, .int .i64 r]] w fun e w' =>
      e = .returned (.bool true) ∧ (((w.alloc (.cells #[.int .i64 t, .int .i64 k, .int .i64 l, .int .i64 x, .int .i64 y, .int .i64 d, .int .i64 r] 29)).alloc (.cells #[.int .i64 t, .int .i64 k, .int .i64 l, .int .i64 x, .int .i64 y, .int .i64 d, .int .i64 r] 29)).alloc (.cells #[.int .i64 x, .int .i64 y, .int .i64 d, .int .i64 r] 27)).alloc (.cells #[.int .i64 x, .int .i64 y, .int .i64 d, .int .i64 r] 27) = w' := by
  go_enter Tryd.func39, Tryd.ntmps39
  go_wp2_with (go_at_call 102; refine (eqSounding_same _ _ _ _ _).mono ?_; rintro e w' ⟨rfl, rfl⟩)
  go_ret
  exact ⟨rfl, rfl⟩
set_option maxHeartbeats 1000000 in
theorem toRecord_exact (t k l x y d r : Int) (w : World) :
    Calls Tryd.prog 12 #[.agg #[.int .i64 t, .int .i64 k, .int .i64 l, .int .i64 x, .int .i64 y, .int .i64 d, .int .i64 r]] w fun e w' =>
      e = .returned (.agg #[.int .i64 t, .int .i64 k, .int .i64 l, .int .i64 x, .int .i64 y, .int .i64 d, .int .i64 r]) ∧ (((((w.alloc (.cells #[.int .i64 t, .int .i64 k, .int .i64 l, .int .i64 x, .int .i64 y, .int .i64 d, .int .i64 r] 25)).alloc (.cells #[.int .i64 t, .int .i64 k, .int .i64 l, .int .i64 x, .int .i64 y, .int .i64 d, .int .i64 r] 29)).alloc (.cells #[.int .i64 t, .int .i64 k, .int .i64 l, .int .i64 x, .int .i64 y, .int .i64 d, .int .i64 r] 29)).alloc (.cells #[.int .i64 x, .int .i64 y, .int .i64 d, .int .i64 r] 23)).alloc (.cells #[.int .i64 x, .int .i64 y, .int .i64 d, .int .i64 r] 27)).alloc (.cells #[.int .i64 x, .int .i64 y, .int .i64 d, .int .i64 r] 27) = w' := by
  go_enter Tryd.func12, Tryd.ntmps12
  go_wp2_with fail
  refine (toSounding_any _ _ _ _ _).mono ?_
  rintro e w1 ⟨rfl, rfl⟩
  go_wp2
  exact bodyPost_ret (v := .agg #[.int .i64 t, .int .i64 k, .int .i64 l, .int .i64 x, .int .i64 y, .int .i64 d, .int .i64 r]) (by simp [results, Tryd.results12, go_sem]) rfl ⟨rfl, rfl⟩
end Go.Proofs.YtoledbicmghmbaaDoor
