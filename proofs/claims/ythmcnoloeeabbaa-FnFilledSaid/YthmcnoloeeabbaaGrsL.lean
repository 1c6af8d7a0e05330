/- The laws' own comparison of grids. Condition: equal contents, lengths. -/
import Derived.Test.YthmcnoloeeabbaaGrsM
import Derived.Test.YthmcnoloeeabbaaLike
namespace Go.Proofs.Ythmcnoloeeabbaa
open Go.RowKit

set_option maxHeartbeats 1000000 in
theorem likeRanges_same (A B : Option Addr) (n c d : Nat) (xs : List Int) (w : World) (hn : n ≤ 9223372036854775807) (ha : Rd w A (n * 2) (ints xs)) (hb : Rd w B (n * 2) (ints xs)) :
    Calls Try.prog 106 #[.slice A n c, .slice B n d] w fun e w' => e = .returned (.bool true) ∧ Below w.heap.size w w' := by
  go_enter Try.func106, Try.ntmps106
  go_wp2
  go_loopw [5] (fun i wr => ∃ k m : Nat, k ≤ n ∧ i = .int .i64 k ∧ wr = w.drewN m)
    (fun i _ => n - (intOf i).toNat)
  case atStart => exact ⟨0, 0, Nat.zero_le _, rfl, rfl⟩
  case round =>
    obtain ⟨k, m, hk, rfl, rfl⟩ := hrel
    by_cases hlt : k < n
    · obtain ⟨ad, rfl, hx0, hx1⟩ := ha.two hlt
      obtain ⟨bd, rfl, hy0, hy1⟩ := hb.two hlt
      generalize xs.getD (k * 2) 0 = x0 at *
      generalize xs.getD (k * 2 + 1) 0 = x1 at *
      go_wp2
      go_quiet (fail)
      go_wp2
      go_roundw
      case rel => exact ⟨k + 1, _, by omega, by go_num, rfl⟩
      case measure => simp [intOf]; omega
    · go_wp2
      go_ret
      exact ⟨rfl, below_drewN w m⟩
set_option maxRecDepth 100000 in
set_option maxHeartbeats 4000000 in
theorem likeGrids_v (h k : DepthGridH) (l : DepthGridC) (w : World) (ok : DepthGridOk h) (hr : RdAll w (DepthGridS h l)) (kr : RdAll w (DepthGridS k l)) :
    Calls Try.prog 46 #[DepthGridV h l, DepthGridV k l] w fun e w' => e = .returned (.bool true) ∧ Below w.heap.size w w' := by
  have h0 : Rd w h.counts.A h.counts.n (ints l.counts) := hr.head
  have h1 : Rd w h.depths.A (h.depths.n * 2) (ints l.depths) := hr.tail.head
  have k0 : Rd w k.counts.A k.counts.n (ints l.counts) := kr.head
  have k1 : Rd w k.depths.A (k.depths.n * 2) (ints l.depths) := kr.tail.head
  obtain ⟨m0, m1⟩ := ok
  obtain ⟨⟨A0, n0, c0⟩, ⟨A1, n1, c1⟩⟩ := h
  obtain ⟨⟨B0, q0, d0⟩, ⟨B1, q1, d1⟩⟩ := k
  simp only at *
  obtain rfl : n0 = q0 := by have a := h0.len; have b := k0.len; omega
  obtain rfl : n1 = q1 := by have a := h1.len; have b := k1.len; omega
  clear hr kr
  have K0 := (Blk.new w 50 #[.int .i64 l.size, .int .i64 l.wide, .int .i64 l.high, .slice A0 n0 c0, .slice A1 n1 c1]).alloc (.cells #[.int .i64 l.size, .int .i64 l.wide, .int .i64 l.high, .slice B0 n0 d0, .slice B1 n1 d1] 50)
  have K1 := Blk.newN (g := w.heap.size + 1) (w.alloc (.cells #[.int .i64 l.size, .int .i64 l.wide, .int .i64 l.high, .slice A0 n0 c0, .slice A1 n1 c1] 50)) 50 #[.int .i64 l.size, .int .i64 l.wide, .int .i64 l.high, .slice B0 n0 d0, .slice B1 n1 d1] (by simp)
  have b0 : Below w.heap.size w ((w.alloc (.cells #[.int .i64 l.size, .int .i64 l.wide, .int .i64 l.high, .slice A0 n0 c0, .slice A1 n1 c1] 50)).alloc (.cells #[.int .i64 l.size, .int .i64 l.wide, .int .i64 l.high, .slice B0 n0 d0, .slice B1 n1 d1] 50)) := (by (repeat (first | (with_reducible assumption) | (with_reducible exact Below.refl _ _) | (with_reducible refine Below.drew ?_) | (with_reducible refine Below.drewN ?_ _) | (with_reducible refine Below.setCell ?_ ?_ _) | (with_reducible refine Below.alloc ?_ ?_ _) | assumption)); all_goals (first | omega | (simp; done) | (simp; omega)))
  unfold DepthGridV
  go_enter Try.func46, Try.ntmps46
  go_upto_region 1 with fail
  generalize (w.alloc (.cells #[.int .i64 l.size, .int .i64 l.wide, .int .i64 l.high, .slice A0 n0 c0, .slice A1 n1 c1] 50)).alloc (.cells #[.int .i64 l.size, .int .i64 l.wide, .int .i64 l.high, .slice B0 n0 d0, .slice B1 n1 d1] 50) = w1 at K0 K1 b0 ⊢
  have e0 := fun o => K0.cell o
  have e1 := fun o => K1.cell o
  have g0 := K0.lt
  have g1 := K1.lt
  go_wp2_with fail
  refine (likeInts_below _ _ _ _ _ l.counts _ (by omega) (h0.below b0) (k0.below b0)).mono ?_
  rintro e w2 ⟨rfl, b2⟩
  have K0 := K0.below b2 g0
  have K1 := K1.below b2 g1
  have b3 := b0.trans (b2.mono b0.size)
  clear e0 e1 g0 g1 b2
  have e0 := fun o => K0.cell o
  have e1 := fun o => K1.cell o
  go_wp2_with fail
  refine (likeRanges_same _ _ _ _ _ l.depths _ (by omega) (h1.below b3) (k1.below b3)).mono ?_
  rintro e w3 ⟨rfl, b4⟩
  go_wp2
  go_ret
  exact ⟨rfl, b3.trans (b4.mono b3.size)⟩
end Go.Proofs.Ythmcnoloeeabbaa
