/- The laws' own helpers of links: draws of items and steps, and comparisons that hold. Condition: a code of at most 4096 bytes; equal contents. -/
import Derived.Test.YtoledbicmghmbaaDoorDrawK
import Derived.Test.YtoledbicmghmbaaDoorLinkU
import Derived.Test.YtoledbicmghmbaaDoorLike
namespace Go.Proofs.YtoledbicmghmbaaDoor
open Go.RowKit

set_option maxRecDepth 100000 in
set_option maxHeartbeats 2000000 in
theorem likeLinks5_any (h k : LinkH) (l : LinkC) (w : World) (ok : LinkOk h) (hr : RdAll w (LinkS h l)) (kr : RdAll w (LinkS k l)) :
    Calls Tryd.prog 34 #[LinkV h l, LinkV k l] w fun e w' => e = .returned (.bool true) ∧ Below w.heap.size w w' := by
  obtain ⟨ok0, ok3, ok4, ok5⟩ := ok
  have r0 := hr.head
  have r3 := hr.tail.head
  have r4 := hr.tail.tail.head
  have r5 := hr.tail.tail.tail.head
  have s0 := kr.head
  have s3 := kr.tail.head
  have s4 := kr.tail.tail.head
  have s5 := kr.tail.tail.tail.head
  obtain ⟨⟨A0, n0, c0⟩, ⟨A3, n3, c3⟩, ⟨A4, n4, c4⟩, ⟨A5, n5, c5⟩⟩ := h
  obtain ⟨⟨B0, m0, d0⟩, ⟨B3, m3, d3⟩, ⟨B4, m4, d4⟩, ⟨B5, m5, d5⟩⟩ := k
  obtain ⟨l0, x1, x2, l3, l4, l5⟩ := l
  clear hr kr
  unfold LinkV
  simp only at *
  obtain rfl : m0 = n0 := by have := r0.1; have := s0.1; omega
  obtain rfl : m3 = n3 := by have := r3.1; have := s3.1; omega
  obtain rfl : m4 = n4 := by have := r4.1; have := s4.1; omega
  obtain rfl : m5 = n5 := by have := r5.1; have := s5.1; omega
  have hb0 : Below w.heap.size w ((w.alloc (.cells #[.slice A0 m0 c0, .int .i64 x1, .int .i64 x2, .slice A3 m3 c3, .slice A4 m4 c4, .slice A5 m5 c5] 48)).alloc (.cells #[.slice B0 m0 d0, .int .i64 x1, .int .i64 x2, .slice B3 m3 d3, .slice B4 m4 d4, .slice B5 m5 d5] 48)) := ((Below.refl _ _).alloc (Nat.le_refl _) _).alloc (by simp) _
  have K0 : Blk ((w.alloc (.cells #[.slice A0 m0 c0, .int .i64 x1, .int .i64 x2, .slice A3 m3 c3, .slice A4 m4 c4, .slice A5 m5 c5] 48)).alloc (.cells #[.slice B0 m0 d0, .int .i64 x1, .int .i64 x2, .slice B3 m3 d3, .slice B4 m4 d4, .slice B5 m5 d5] 48)) w.heap.size 48 #[.slice A0 m0 c0, .int .i64 x1, .int .i64 x2, .slice A3 m3 c3, .slice A4 m4 c4, .slice A5 m5 c5] := (Blk.newN _ _ _ rfl).alloc _
  have K1 : Blk ((w.alloc (.cells #[.slice A0 m0 c0, .int .i64 x1, .int .i64 x2, .slice A3 m3 c3, .slice A4 m4 c4, .slice A5 m5 c5] 48)).alloc (.cells #[.slice B0 m0 d0, .int .i64 x1, .int .i64 x2, .slice B3 m3 d3, .slice B4 m4 d4, .slice B5 m5 d5] 48)) (w.heap.size + 1) 48 #[.slice B0 m0 d0, .int .i64 x1, .int .i64 x2, .slice B3 m3 d3, .slice B4 m4 d4, .slice B5 m5 d5] := Blk.newN _ _ _ (by simp)
  go_enter Tryd.func34, Tryd.ntmps34
  go_wp2_with fail
  generalize (w.alloc (.cells #[.slice A0 m0 c0, .int .i64 x1, .int .i64 x2, .slice A3 m3 c3, .slice A4 m4 c4, .slice A5 m5 c5] 48)).alloc (.cells #[.slice B0 m0 d0, .int .i64 x1, .int .i64 x2, .slice B3 m3 d3, .slice B4 m4 d4, .slice B5 m5 d5] 48) = w1 at hb0 K0 K1 ⊢
  have y0 := r0.below hb0
  have y3 := r3.below hb0
  have y4 := r4.below hb0
  have y5 := r5.below hb0
  have z0 := s0.below hb0
  have z3 := s3.below hb0
  have z4 := s4.below hb0
  have z5 := s5.below hb0
  clear r0 r3 r4 r5 s0 s3 s4 s5
  have c0' := fun o => K0.cell o
  have c1' := fun o => K1.cell o
  have e3 : (m3 : Int) ≤ 1048576 := by omega
  go_loopw [5] (fun i wr => ∃ k m : Nat, k ≤ m3 ∧ i = .int .i64 k ∧ wr = w1.drewN m) (fun i _ => m3 - (intOf i).toNat)
  case atStart => exact ⟨0, 0, Nat.zero_le _, rfl, rfl⟩
  case round =>
    obtain ⟨k, m, hk, rfl, rfl⟩ := hrel
    by_cases hlt : k < m3
    · obtain ⟨_, e0, hx0⟩ := y3.int (show k * 2 + 0 < m3 * 2 by omega)
      obtain ⟨_, e1, hx1⟩ := y3.int (show k * 2 + 1 < m3 * 2 by omega)
      obtain ⟨ad, rfl⟩ : ∃ ad, A3 = some ad := ⟨_, e0⟩
      cases e0
      cases e1
      obtain ⟨_, e0, hy0⟩ := z3.int (show k * 2 + 0 < m3 * 2 by omega)
      obtain ⟨_, e1, hy1⟩ := z3.int (show k * 2 + 1 < m3 * 2 by omega)
      obtain ⟨bd, rfl⟩ : ∃ bd, B3 = some bd := ⟨_, e0⟩
      cases e0
      cases e1
      rw [Nat.add_zero] at hx0 hy0
      rw [← add_of_add, field_add _ 1 (by decide)] at hx1 hy1
      generalize l3.getD (k * 2) 0 = y0' at *
      generalize l3.getD (k * 2 + 1) 0 = y1' at *
      have i0 : (0 : Int) ≤ (k : Int) := by omega
      have i1 : (k : Int) < (m3 : Int) := by omega
      go_wp2
      go_quiet (fail)
      go_wp2
      go_roundw
      case rel => exact ⟨k + 1, _, by omega, by go_num, rfl⟩
      case measure => simp [intOf]; omega
    · have hm := below_drewN w1 m
      have hb2 := hb0.trans (hm.mono hb0.size)
      have K0 := K0.below hm K0.lt
      have K1 := K1.below hm K1.lt
      have y0 := y0.below hm
      have y4 := y4.below hm
      have y5 := y5.below hm
      have z0 := z0.below hm
      have z4 := z4.below hm
      have z5 := z5.below hm
      clear c0' c1'
      generalize w1.drewN m = w2 at K0 K1 y0 y4 y5 z0 z4 z5 hb2 ⊢
      have c0' := fun o => K0.cell o
      have c1' := fun o => K1.cell o
      go_wp2_with fail
      refine (likeInts_below _ _ _ _ _ l0 _ (by omega) y0 z0).mono ?_
      rintro e w3 ⟨rfl, b3⟩
      have hb3 := hb2.trans (b3.mono hb2.size)
      have K0 := K0.below b3 K0.lt
      have K1 := K1.below b3 K1.lt
      have y4 := y4.below b3
      have y5 := y5.below b3
      have z4 := z4.below b3
      have z5 := z5.below b3
      clear c0' c1' b3
      have c0' := fun o => K0.cell o
      have c1' := fun o => K1.cell o
      go_wp2_with fail
      refine (likeInts_below _ _ _ _ _ l4 _ (by omega) y4 z4).mono ?_
      rintro e w4 ⟨rfl, b4⟩
      have hb4 := hb3.trans (b4.mono hb3.size)
      have K0 := K0.below b4 K0.lt
      have K1 := K1.below b4 K1.lt
      have y5 := y5.below b4
      have z5 := z5.below b4
      clear c0' c1' b4
      have c0' := fun o => K0.cell o
      have c1' := fun o => K1.cell o
      go_wp2_with fail
      refine (likeInts_below _ _ _ _ _ l5 _ (by omega) y5 z5).mono ?_
      rintro e w5 ⟨rfl, b5⟩
      have hb5 := hb4.trans (b5.mono hb4.size)
      go_wp2
      go_ret
      exact ⟨rfl, hb5⟩

def DrawLinkPost (w : World) (e : Ending) (w' : World) : Prop :=
  ∃ (h : Hd) (xs : List Int) (h' : Hd) (ks : List Int), e = .returned (.tuple #[.slice h.A h.n h.c, .slice h'.A h'.n h'.c]) ∧ h.n ≤ 21 ∧ h'.n ≤ 500 ∧ h.n ≤ h.c ∧ h.c ≤ 9223372036854775807 ∧ RdAll w' (IntsS h xs) ∧ RdAll w' (IntsS h' ks) ∧ Below w.heap.size w w'
end Go.Proofs.YtoledbicmghmbaaDoor
