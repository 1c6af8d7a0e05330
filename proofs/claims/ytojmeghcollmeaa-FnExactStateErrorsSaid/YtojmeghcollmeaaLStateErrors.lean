/- The law FnExactStateErrors, walked. No condition beyond what an argument of its type bears. -/
import Derived.Test.YtojmeghcollmeaaStE
import Derived.Test.YtojmeghcollmeaaArgI
namespace Go.Proofs.Ytojmeghcollmeaa
open Go.RowKit

set_option maxHeartbeats 1000000 in
theorem lawStateErrors_any (A : Option Addr) (n c : Nat) (xs : List Int) (a1 : Int) (w : World) (hm : n ≤ 9223372036854775807) (hr : Rd w A n (ints xs)) :
    Calls Try.prog 8 #[.slice A n c, .int .i64 a1] w fun e w' => e = .returned (.bool true) ∧ Below w.heap.size w w' := by
  by_cases hn : (1048576 : Int) < (n : Int)
  · go_enter Try.func8, Try.ntmps8
    go_wp2_with fail
    go_ret
    exact ⟨rfl, Below.refl _ _⟩
  · have hn' : n ≤ 1048576 := by omega
    go_enter Try.func8, Try.ntmps8
    go_wp2_with fail
    refine (toInt64S_any A n c xs _ hn' hr).mono ?_
    rintro e w1 ⟨rfl, rw1, wrw1, bw1, zw1⟩
    go_wp2_with fail
    refine (specStateErrors_any _ n n xs a1 _ hn' (Nat.le_refl _) rw1).mono ?_
    rintro e w2 ⟨B, m, d, rfl, rB, wB, hmB, bw2⟩
    have hA2 := (hr.below bw1).below bw2
    go_wp2_with fail
    refine (toInt64S_any A n c xs _ hn' hA2).mono ?_
    rintro e w3 ⟨rfl, rw3, wrw3, bw3, zw3⟩
    go_wp2_with fail
    refine (implStateErrors_any _ n n xs a1 _ hn' (Nat.le_refl _) rw3).mono ?_
    rintro e w4 ⟨G, m', d', rfl, rG, wG, hmG, bw4⟩
    have hX4 := rw3.below bw4
    have hA4 := (hA2.below bw3).below bw4
    have bb4 : Below w.heap.size w w4 := bnext (bnext (bnext bw1 bw2) bw3) bw4
    have hB4 := (rB.below bw3).below bw4
    obtain rfl : m' = m := by have := rB.len; have := rG.len; omega
    have wX4 := wrw3.below rw3 bw4
    have zz3 := bw3.size
    have zz2 := bw2.size
    have zz1 := bw1.size
    have zz4 := bw4.size
    go_wp2_with fail
    refine (eqInt64S_below _ _ m' _ _ _ _ (by omega) rG hB4).mono ?_
    rintro e w5 ⟨rfl, bw5⟩
    go_wp2_with fail
    refine (toInt64S_any A n c xs _ hn' (hA4.below bw5)).mono ?_
    rintro e w6 ⟨rfl, rw6, wrw6, bw6, zw6⟩
    go_wp2_with fail
    refine (eqInt64S_below _ _ n n n xs _ (by omega) ((hX4.below bw5).below bw6) rw6).mono ?_
    rintro e w7 ⟨rfl, bw7⟩
    have hX7 := ((hX4.below bw5).below bw6).below bw7
    have wX7 := ((wX4.below hX4 bw5).below (hX4.below bw5) bw6).below ((hX4.below bw5).below bw6) bw7
    have rG7 := ((rG.below bw5).below bw6).below bw7
    have wG7 := ((wG.below rG bw5).below (rG.below bw5) bw6).below ((rG.below bw5).below bw6) bw7
    have hB7 := ((hB4.below bw5).below bw6).below bw7
    have bb7 : Below w.heap.size w w7 := bnext (bnext (bnext bb4 bw5) bw6) bw7
    go_wp2_with fail
    refine (markInt64S_any _ n n _ 1 _ _ hn' (by omega) (by omega) hX7 wX7).mono ?_
    rintro e w8 ⟨rfl, g8, -, -, -⟩
    have nG8 : ∀ ad, G = some ad → 0 < m' → blkp (some (⟨w2.heap.size, 0, none⟩ : Addr)) n ≠ some ad.block := fun ad e hp => blkp_ne (fun x ex _ => by have := wG.base e hp; cases ex; simp; omega)
    have nB8 : ∀ ad, B = some ad → 0 < m' → blkp (some (⟨w2.heap.size, 0, none⟩ : Addr)) n ≠ some ad.block := fun ad e hp => blkp_ne (fun x ex _ => by have := rB.lt e hp; cases ex; simp; omega)
    have rG8 := rG7.grown g8 nG8
    have wG8 := wG7.grown rG7 g8 nG8
    have hB8 := hB7.grown g8 nB8
    have bb8 : Below w.heap.size w w8 := bstepg bb7 g8 (Nat.le_refl _) (fun k hk => by have := wrw3.blockp hk; omega)
    go_wp2_with fail
    refine (eqInt64S_below _ _ m' _ _ _ _ (by omega) rG8 hB8).mono ?_
    rintro e w9 ⟨rfl, bw9⟩
    go_wp2_with fail
    refine (markInt64S_any _ m' _ _ 1 _ _ (by omega) (by omega) (by omega) (rG8.below bw9) (wG8.below rG8 bw9)).mono ?_
    rintro e w10 ⟨rfl, g10, -, rM, -⟩
    have nB10 : ∀ ad, B = some ad → 0 < m' → blkp G m' ≠ some ad.block := fun ad e hp => blkp_ne (fun x ex hx => by have := rB.lt e hp; have := wG.base ex hx; omega)
    have hB10 := (hB8.below bw9).grown g10 nB10
    have bb9 : Below w.heap.size w w9 := bnext bb8 bw9
    have bb10 : Below w.heap.size w w10 := bstepg bb9 g10 (Nat.le_refl _) (fun k hk => by have := wG.blockp hk; omega)
    have hA10 := hr.below bb10
    go_wp2_with fail
    refine (heldInt64S_same _ m' _ 1 _ (by omega) (by omega) (by omega) rM).mono ?_
    rintro e w10' ⟨rfl, rfl⟩
    go_wp2_with fail
    refine (toInt64S_any A n c xs _ hn' hA10).mono ?_
    rintro e w11 ⟨rfl, rw11, wrw11, bw11, zw11⟩
    go_wp2_with fail
    refine (implStateErrors_any _ n n xs a1 _ hn' (Nat.le_refl _) rw11).mono ?_
    rintro e w12 ⟨H, m'', d'', rfl, rH, wH, hmH, bw12⟩
    obtain rfl : m'' = m' := by have := rB.len; have := rH.len; omega
    go_wp2_with fail
    refine (eqInt64S_below _ _ m'' _ _ _ _ (by omega) rH ((hB10.below bw11).below bw12)).mono ?_
    rintro e w13 ⟨rfl, bw13⟩
    go_wp2_with fail
    refine (heldInt64S_same _ m'' _ 1 _ (by omega) (by omega) (by omega) (((rM.below bw11).below bw12).below bw13)).mono ?_
    rintro e w13' ⟨rfl, rfl⟩
    go_wp2_with fail
    go_ret
    exact ⟨rfl, bnext (bnext (bnext bb10 bw11) bw12) bw13⟩
theorem FnExactStateErrors_walk (w : World) (A : Option Addr) (n c : Nat) (xs : List Int) (h : ArgI w A n c xs) (a1 : Int) (_ : (Lit.int .i64 a1).wf = true) :
    Calls Try.prog 8 #[.slice A n c, .int .i64 a1] w fun e w' => e = .returned (.bool true) ∧ Below w.heap.size w w' := lawStateErrors_any A n c xs a1 w h.max h.rd
end Go.Proofs.Ytojmeghcollmeaa
