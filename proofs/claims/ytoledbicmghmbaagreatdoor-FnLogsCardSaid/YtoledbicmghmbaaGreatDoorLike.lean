/- The laws' own helpers: lists that are alike, and a code that is not too long. No condition. -/
import Derived.Test.YtoledbicmghmbaaGreatDoorKern
namespace Go.Proofs.YtoledbicmghmbaaGreatDoor
open Go.RowKit

theorem Rd.take {w : World} {A : Option Addr} {n k : Nat} {xs : List Int} (h : Rd w A n (ints xs)) (hk : k ≤ n) : Rd w A k (ints (xs.take k)) := by
  have hl := h.len
  refine ⟨by unfold ints; simp; omega, fun h0 => ?_⟩
  obtain ⟨ad, e, hc⟩ := h.2 (by omega)
  refine ⟨ad, e, fun i hi => ?_⟩
  rw [hc i (by omega), ints_getElem?, ints_getElem?, List.getElem?_take, if_pos hi]
set_option maxHeartbeats 1000000 in
theorem big_any (A : Option Addr) (n c : Nat) (w : World) (hn : n ≤ 9223372036854775807) :
    Calls Tryz.prog 4 #[.slice A n c] w fun e w' => e = .returned (.bool (decide ((4096 : Int) < (n : Int)))) ∧ w = w' := by
  by_cases h : (4096 : Int) < (n : Int)
  all_goals
    go_enter Tryz.func4, Tryz.ntmps4
    go_wp2
    go_ret
    exact ⟨ret_bool (by simp; omega), rfl⟩
end Go.Proofs.YtoledbicmghmbaaGreatDoor
