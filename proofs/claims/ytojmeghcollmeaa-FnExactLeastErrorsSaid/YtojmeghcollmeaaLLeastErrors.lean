/- The law FnExactLeastErrors, walked. No condition beyond what an argument of its type bears. -/
import Derived.Test.YtojmeghcollmeaaVitT
import Derived.Test.YtojmeghcollmeaaArgI
namespace Go.Proofs.Ytojmeghcollmeaa
open Go.RowKit

set_option maxHeartbeats 1000000 in
theorem lawLeastErrors_any (A : Option Addr) (n c : Nat) (xs : List Int) (w : World) (hm : n ≤ 9223372036854775807) (hr : Rd w A n (ints xs)) :
    Calls Try.prog 11 #[.slice A n c] w fun e w' => e = .returned (.bool true) ∧ Below w.heap.size w w' := by
  by_cases hn : (1048576 : Int) < (n : Int)
  · go_enter Try.func11, Try.ntmps11
    go_wp2_with fail
    go_ret
    exact ⟨rfl, Below.refl _ _⟩
  · have hn' : n ≤ 1048576 := by omega
    go_enter Try.func11, Try.ntmps11
    go_wp2_with fail
    refine (toInt64S_any A n c xs _ hn' hr).mono ?_
    rintro e w1 ⟨rfl, rw1, wrw1, bw1, zw1⟩
    go_wp2_with fail
    refine (specLeastErrors_any _ n n xs _ hn' (Nat.le_refl _) rw1).mono ?_
    rintro e w2 ⟨rfl, bw2⟩
    have hA2 := (hr.below bw1).below bw2
    go_wp2_with fail
    refine (toInt64S_any A n c xs _ hn' hA2).mono ?_
    rintro e w3 ⟨rfl, rw3, wrw3, bw3, zw3⟩
    go_wp2_with fail
    refine (implLeastErrors_any _ n n xs _ hn' (Nat.le_refl _) rw3).mono ?_
    rintro e w4 ⟨rfl, bw4⟩
    have hX4 := rw3.below bw4
    have hA4 := (hA2.below bw3).below bw4
    have bb4 : Below w.heap.size w w4 := bnext (bnext (bnext bw1 bw2) bw3) bw4
    go_wp2_with fail
    refine (toInt64S_any A n c xs _ hn' hA4).mono ?_
    rintro e w6 ⟨rfl, rw6, wrw6, bw6, zw6⟩
    go_wp2_with fail
    refine (eqInt64S_below _ _ n n n xs _ (by omega) (hX4.below bw6) rw6).mono ?_
    rintro e w7 ⟨rfl, bw7⟩
    go_wp2_with fail
    go_ret
    exact ⟨rfl, bnext (bnext bb4 bw6) bw7⟩
theorem FnExactLeastErrors_walk (w : World) (A : Option Addr) (n c : Nat) (xs : List Int) (h : ArgI w A n c xs) :
    Calls Try.prog 11 #[.slice A n c] w fun e w' => e = .returned (.bool true) ∧ Below w.heap.size w w' := lawLeastErrors_any A n c xs w h.max h.rd
end Go.Proofs.Ytojmeghcollmeaa
