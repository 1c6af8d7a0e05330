/- Frames: FrameBits of a good frame, likeFrames5 of alike frames. Condition: lists of at most 1048576 numbers. -/
import Derived.Test.YtlgmdekhlcbhoaaFraN
import Derived.Test.YtlgmdekhlcbhoaaLike
namespace Go.Proofs.Ytlgmdekhlcbhoaa
open Go.RowKit

set_option maxHeartbeats 1000000 in
theorem likeFrames5_v (A : Option Addr) (n c : Nat) (x0 x1 : Int) (xs : List Int) (B : Option Addr) (d : Nat) (w : World) (hn : n ≤ 1048576) (r1 : Rd w A n (ints xs)) (r2 : Rd w B n (ints xs)) :
    Calls Try.prog 39 #[.agg #[.int .i64 x0, .int .i64 x1, .slice A n c], .agg #[.int .i64 x0, .int .i64 x1, .slice B n d]] w fun e w' => e = .returned (.bool true) ∧ Below w.heap.size w w' := by
  have bb : Below w.heap.size w ((w.alloc (.cells #[.int .i64 x0, .int .i64 x1, .slice A n c] 28)).alloc (.cells #[.int .i64 x0, .int .i64 x1, .slice B n d] 28)) := ((Below.refl _ _).alloc (Nat.le_refl _) _).alloc (by simp) _
  have g1 : (x0 == x0) = true := by simp
  have g2 : (x1 == x1) = true := by simp
  go_enter Try.func39, Try.ntmps39
  go_wp2_with fail
  refine (likeInts_below A B n c d xs _ (by omega) (r1.below bb) (r2.below bb)).mono ?_
  rintro e w1 ⟨rfl, b1⟩
  have b2 := bnext bb b1
  go_wp2
  go_ret
  exact ⟨rfl, b2⟩
set_option maxHeartbeats 1000000 in
theorem frameBits0_v (A : Option Addr) (n c : Nat) (x0 x1 : Int) (xs : List Int) (N : Nat) (w : World) (hn : n ≤ 1048576) (hr : RdAll w (FrameS ⟨⟨A, n, c⟩⟩ ⟨x0, x1, xs⟩)) (hc : frOkC ⟨x0, x1, xs⟩ = true) (hN : (frameC ⟨x0, x1, xs⟩).length = N) :
    Calls Try.prog 38 #[.agg #[.int .i64 x0, .int .i64 x1, .slice A n c]] w fun e w' => ∃ B d, e = .returned (.tuple #[.slice B N d, .int .i64 0]) ∧ Rd w' B N (ints (frameC ⟨x0, x1, xs⟩)) ∧ Below w.heap.size w w' := by
  have T0 := TrK.mk (Blk.new w 28 #[.int .i64 x0, .int .i64 x1, .slice A n c]) ((Below.refl _ _).alloc (Nat.le_refl _) _) hr (show Rd w none 0 (ints []) from Rd.nil w none)
  have H1 := Lib.hid (implIsFrame_any ⟨⟨A, n, c⟩⟩ ⟨x0, x1, xs⟩ _ hn T0.fr)
  have HO := Lib.hid (FrO.of hc)
  have HN := Lib.hid hN
  clear hN hr
  simp only [FrameV] at H1
  rw [hc] at H1
  clear hc
  go_enter Try.func38, Try.ntmps38
  go_wp2_with fail
  generalize hw0 : (w.alloc (.cells #[.int .i64 x0, .int .i64 x1, .slice A n c] 28)) = w0 at T0 H1 ⊢
  clear hw0
  refine H1.out.mono ?_
  rintro e w1 ⟨rfl, c1⟩
  have T1 := T0.next c1
  have hS1 := T1.S
  have l1 := T1.lt
  go_wp2_with fail
  refine (frameBits_sl A n c x0 x1 xs N _ T1.fr HO.out HN.out).mono ?_
  rintro e w2 ⟨B, d, rfl, RB, c2⟩
  have T2 := T1.next c2
  go_wp2
  go_ret2
  exact ⟨B, d, rfl, RB, T2.bel⟩
end Go.Proofs.Ytlgmdekhlcbhoaa
