/- The statements' own helpers on a record: a copy, a comparison. No condition. -/
import Derived.Test.YtphpjmkebnadoaaRec
import Derived.RegionTactic
import Derived.Deep.RegionWith
namespace Go.Proofs.Ytphpjmkebnadoaa
open Go.RowKit

set_option maxHeartbeats 1000000 in
theorem eqSounding_same (x y d r : Int) (w : World) :
    Calls Try.prog 49 #[.agg #[.int .i64 x, .int .i64 y, .int .i64 d, .int .i64 r], .agg #[.int .i64 x, .int .i64 y, .int .i64 d, .int .i64 r]] w fun e w' =>
      e = .returned (.bool true) ∧ (w.alloc (.cells #[.int .i64 x, .int .i64 y, .int .i64 d, .int .i64 r] 45)).alloc (.cells #[.int .i64 x, .int .i64 y, .int .i64 d, .int .i64 r] 45) = w' := by
  go_enter Try.func49, Try.ntmps49
  go_wp2
  go_ret
  exact ⟨rfl, rfl⟩
set_option maxHeartbeats 1000000 in
theorem eqRecord_same (t k l x y d r : Int) (w : World) :
    Calls Try.prog 44 #[.agg #[.int .i64 t, .int .i64 k, .int .i64 l, .int .i64 x, .int .i64 y, .int .i64 d, .int .i64 r], .agg #[.int .i64 t, .int .i64 k, .int .i64 l, .int .i64 x, .int .i64 y, .int .i64 d, .int .i64 r]] w fun e w' =>
      e = .returned (.bool true) ∧ (((w.alloc (.cells #[.int .i64 t, .int .i64 k, .int .i64 l, .int .i64 x, .int .i64 y, .int .i64 d, .int .i64 r] 47)).alloc (.cells #[.int .i64 t, .int .i64 k, .int .i64 l, .int .i64 x, .int .i64 y, .int .i64 d, .int .i64 r] 47)).alloc (.cells #[.int .i64 x, .int .i64 y, .int .i64 d, .int .i64 r] 45)).alloc (.cells #[.int .i64 x, .int .i64 y, .int .i64 d, .int .i64 r] 45) = w' := by
  go_enter Try.func44, Try.ntmps44
  go_wp2_with (go_at_call 49; refine (eqSounding_same _ _ _ _ _).mono ?_; rintro e w' ⟨rfl, rfl⟩)
  go_ret
  exact ⟨rfl, rfl⟩
set_option maxHeartbeats 1000000 in
theorem toRecord_exact (t k l x y d r : Int) (w : World) :
    Calls Try.prog 40 #[.agg #[.int .i64 t, .int .i64 k, .int .i64 l, .int .i64 x, .int .i64 y, .int .i64 d, .int .i64 r]] w fun e w' =>
      e = .returned (.agg #[.int .i64 t, .int .i64 k, .int .i64 l, .int .i64 x, .int .i64 y, .int .i64 d, .int .i64 r]) ∧ (((((w.alloc (.cells #[.int .i64 t, .int .i64 k, .int .i64 l, .int .i64 x, .int .i64 y, .int .i64 d, .int .i64 r] 74)).alloc (.cells #[.int .i64 t, .int .i64 k, .int .i64 l, .int .i64 x, .int .i64 y, .int .i64 d, .int .i64 r] 47)).alloc (.cells #[.int .i64 t, .int .i64 k, .int .i64 l, .int .i64 x, .int .i64 y, .int .i64 d, .int .i64 r] 47)).alloc (.cells #[.int .i64 x, .int .i64 y, .int .i64 d, .int .i64 r] 72)).alloc (.cells #[.int .i64 x, .int .i64 y, .int .i64 d, .int .i64 r] 45)).alloc (.cells #[.int .i64 x, .int .i64 y, .int .i64 d, .int .i64 r] 45) = w' := by
  go_enter Try.func40, Try.ntmps40
  go_wp2_with fail
  refine (toSounding_any _ _ _ _ _).mono ?_
  rintro e w1 ⟨rfl, rfl⟩
  go_wp2
  exact bodyPost_ret (v := .agg #[.int .i64 t, .int .i64 k, .int .i64 l, .int .i64 x, .int .i64 y, .int .i64 d, .int .i64 r]) (by simp [results, Try.results40, go_sem]) rfl ⟨rfl, rfl⟩
end Go.Proofs.Ytphpjmkebnadoaa
