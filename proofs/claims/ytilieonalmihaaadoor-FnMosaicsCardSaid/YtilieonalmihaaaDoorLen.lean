/- The length of a list of numbers. No condition. -/
import Derived.Test.YtilieonalmihaaaDoorKern
namespace Go.Proofs.YtilieonalmihaaaDoor
open Go.RowKit
set_option maxHeartbeats 400000 in
theorem len64_any (A : Option Addr) (n c : Nat) (w : World) (_ : n ≤ 9223372036854775807) :
    Calls Tryd.prog 36 #[.slice A n c] w fun e w' => e = .returned (.int .i64 (n : Int)) ∧ w = w' := by
  go_enter Tryd.func36, Tryd.ntmps36
  go_wp2
  go_ret
  exact ⟨rfl, rfl⟩
end Go.Proofs.YtilieonalmihaaaDoor
