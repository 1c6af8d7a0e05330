/- The statements' own helpers for DepthGrid: a copy, a comparison, marks laid and found, a size. No condition beyond lengths of at most 1048576 where memory is made. -/
import Derived.Test.YthmcnoloeeabbaaIntervalS
namespace Go.Proofs.Ythmcnoloeeabbaa
open Go.RowKit

/-- The heads of its slices. -/
structure DepthGridH where
  counts : Hd
  depths : Hd
/-- What it holds. -/
structure DepthGridC where
  size : Int
  wide : Int
  high : Int
  counts : List Int
  depths : List Int
def DepthGridV (h : DepthGridH) (l : DepthGridC) : Value := .agg #[.int .i64 l.size, .int .i64 l.wide, .int .i64 l.high, .slice h.counts.A h.counts.n h.counts.c, .slice h.depths.A h.depths.n h.depths.c]
def DepthGridS (h : DepthGridH) (l : DepthGridC) : List Sl := [⟨h.counts.A, h.counts.n, ints l.counts⟩, ⟨h.depths.A, (h.depths.n * 2), ints l.depths⟩]
def DepthGridR (h : DepthGridH) : List (Option Nat) := [blkp h.counts.A h.counts.n, blkp h.depths.A (h.depths.n * 2)]
def DepthGridM (h : DepthGridH) (q : Int) : List Sl := [⟨h.counts.A, h.counts.n, ints (marks (q) h.counts.n)⟩, ⟨h.depths.A, (h.depths.n * 2), ints (marks (q + (h.counts.n : Nat)) (h.depths.n * 2))⟩]
def DepthGridQ (h : DepthGridH) (q : Int) : Int := q + (h.counts.n : Nat) + ((h.depths.n * 2) : Nat)
def DepthGridOk (h : DepthGridH) : Prop := h.counts.n ≤ 1048576 ∧ h.depths.n ≤ 1048576
theorem DepthGridQ_bd {h : DepthGridH} (ok : DepthGridOk h) (q : Int) : q ≤ DepthGridQ h q ∧ DepthGridQ h q ≤ q + 3145728 := by unfold DepthGridQ; unfold DepthGridOk at ok; omega

set_option maxHeartbeats 2000000 in
theorem toDepthGrid_any (h : DepthGridH) (l : DepthGridC) (w : World) (ok : DepthGridOk h) (hr : RdAll w (DepthGridS h l)) :
    Calls Try.prog 28 #[DepthGridV h l] w fun e w' => ∃ k, e = .returned (DepthGridV k l) ∧ DepthGridOk k ∧ RdAll w' (DepthGridS k l) ∧ WrAll w' w.heap.size (DepthGridS k l) ∧ Sep (DepthGridR k) ∧ Below w.heap.size w w' := by
  obtain ⟨ok3, ok4⟩ := ok
  have r3 := hr.head
  have r4 := hr.tail.head
  obtain ⟨⟨A3, n3, c3⟩, ⟨A4, n4, c4⟩⟩ := h
  obtain ⟨x0, x1, x2, l3, l4⟩ := l
  clear hr
  unfold DepthGridV
  simp only at *
  go_enter Try.func28, Try.ntmps28
  go_wp2_with fail
  refine (toInt64S_any A3 n3 c3 l3 _ ok3 (r3.below (by (repeat (first | (with_reducible assumption) | (with_reducible exact Below.refl _ _) | (with_reducible refine Below.drew ?_) | (with_reducible refine Below.drewN ?_ _) | (with_reducible refine Below.setCell ?_ ?_ _) | (with_reducible refine Below.alloc ?_ ?_ _) | assumption)); all_goals (first | omega | (simp; done) | (simp; omega))))).mono ?_
  rintro e w1 ⟨rfl, s3, y3, b1, z1⟩
  have hw1 : Below w.heap.size w w1 := (show Below w.heap.size w _ from (by (repeat (first | (with_reducible assumption) | (with_reducible exact Below.refl _ _) | (with_reducible refine Below.drew ?_) | (with_reducible refine Below.drewN ?_ _) | (with_reducible refine Below.setCell ?_ ?_ _) | (with_reducible refine Below.alloc ?_ ?_ _) | assumption)); all_goals (first | omega | (simp; done) | (simp; omega)))).trans (b1.mono (by first | omega | (simp; done) | (simp; omega)))
  have z1' := b1.size
  simp at z1'
  have BP1 : Blk w1 w.heap.size 46 #[.int .i64 x0, .int .i64 x1, .int .i64 x2, .slice A3 n3 c3, .slice A4 n4 c4] := (((Blk.new w _ _).alloc _).alloc _).below b1 (by first | omega | (simp; done) | (simp; omega))
  have BV1 : Blk w1 (w.heap.size + 1) 50 #[.int .i64 0, .int .i64 0, .int .i64 0, .slice none 0 0, .slice none 0 0] := ((Blk.new1 w _ _ _).alloc _).below b1 (by first | omega | (simp; done) | (simp; omega))
  have BO1 : Blk w1 (w.heap.size + 1 + 1) 50 #[.int .i64 x0, .int .i64 x1, .int .i64 x2, .slice none 0 0, .slice none 0 0] := (Blk.new2 w _ _ _ _).below b1 (by first | omega | (simp; done) | (simp; omega))
  have cV1 := fun o => BV1.cell o
  have fV1 := fun o => BV1.frozen o
  have cP1 := fun o => BP1.cell o
  have cO1 := fun o => BO1.cell o
  have fO1 := fun o => BO1.frozen o
  have y3' := y3.lower (show w.heap.size + 3 ≤ _ from by first | omega | (simp; done) | (simp; omega))
  clear y3
  have y3 := y3'
  clear y3'
  have lo3 := s3.rowlt
  have hi3 : ∀ b, blkp _ n3 = some b → w.heap.size + 3 ≤ b := fun b => y3.blockp
  generalize hB3 : (some (⟨_, 0, none⟩ : Addr)) = B3 at s3 y3 lo3 hi3 ⊢
  clear hB3
  go_wp2_with fail
  refine (toIntervalS_any A4 n4 c4 l4 _ ok4 (r4.below (by (repeat (first | (with_reducible assumption) | (with_reducible exact Below.refl _ _) | (with_reducible refine Below.drew ?_) | (with_reducible refine Below.drewN ?_ _) | (with_reducible refine Below.setCell ?_ ?_ _) | (with_reducible refine Below.alloc ?_ ?_ _) | assumption)); all_goals (first | omega | (simp; done) | (simp; omega))))).mono ?_
  rintro e w2 ⟨rfl, s4, y4, b2, z2⟩
  have hw2 : Below w.heap.size w w2 := (show Below w.heap.size w _ from (by (repeat (first | (with_reducible assumption) | (with_reducible exact Below.refl _ _) | (with_reducible refine Below.drew ?_) | (with_reducible refine Below.drewN ?_ _) | (with_reducible refine Below.setCell ?_ ?_ _) | (with_reducible refine Below.alloc ?_ ?_ _) | assumption)); all_goals (first | omega | (simp; done) | (simp; omega)))).trans (b2.mono (by first | omega | (simp; done) | (simp; omega)))
  have z2' := b2.size
  simp at z2'
  have BP2 : Blk w2 w.heap.size 46 #[.int .i64 x0, .int .i64 x1, .int .i64 x2, .slice A3 n3 c3, .slice A4 n4 c4] := (BP1.far (by first | omega | (simp; done) | (simp; omega)) _).below b2 (by first | omega | (simp; done) | (simp; omega))
  have BV2 : Blk w2 (w.heap.size + 1) 50 #[.int .i64 0, .int .i64 0, .int .i64 0, .slice none 0 0, .slice none 0 0] := (BV1.far (by first | omega | (simp; done) | (simp; omega)) _).below b2 (by first | omega | (simp; done) | (simp; omega))
  have BO2 : Blk w2 (w.heap.size + 1 + 1) 50 #[.int .i64 x0, .int .i64 x1, .int .i64 x2, .slice B3 n3 n3, .slice none 0 0] := (BO1.set_ 3 _).below b2 (by first | omega | (simp; done) | (simp; omega))
  have ab2 : Above (w.heap.size + 3) w1 w2 := ((Above.refl (w.heap.size + 3) w1).setCell (by first | omega | (simp; done) | (simp; omega)) _).below b2
  have t3 := s3.above y3 (by first | omega | (simp; done) | (simp; omega)) ab2
  have u3 := y3.above s3 (by first | omega | (simp; done) | (simp; omega)) ab2
  clear s3 y3
  have s3 := t3
  have y3 := u3
  clear t3 u3
  have cV2 := fun o => BV2.cell o
  have fV2 := fun o => BV2.frozen o
  have cP2 := fun o => BP2.cell o
  have cO2 := fun o => BO2.cell o
  have fO2 := fun o => BO2.frozen o
  clear cP1 cO1 fO1 cV1 fV1 BP1 BO1 BV1 ab2
  have y4' := y4.lower (show w1.heap.size ≤ _ from by first | omega | (simp; done) | (simp; omega))
  clear y4
  have y4 := y4'
  clear y4'
  have lo4 := s4.rowlt
  have hi4 : ∀ b, blkp _ (n4 * 2) = some b → w1.heap.size ≤ b := fun b => y4.blockp
  generalize hB4 : (some (⟨_, 0, none⟩ : Addr)) = B4 at s4 y4 lo4 hi4 ⊢
  clear hB4
  go_wp2
  refine bodyPost_ret (v := .agg #[.int .i64 x0, .int .i64 x1, .int .i64 x2, .slice B3 n3 n3, .slice B4 n4 n4]) (by simp [results, Try.results28, go_sem, cV2]) rfl ⟨⟨⟨B3, n3, n3⟩, ⟨B4, n4, n4⟩⟩, rfl, ⟨ok3, ok4⟩, ?_, ?_, ?_, ?_⟩
  all_goals clear cP2 cO2 fO2 cV2 fV2 BP2 BO2 BV2
  · show RdAll _ [⟨B3, n3, ints l3⟩, ⟨B4, (n4 * 2), ints l4⟩]
    refine (RdAll.cons (s := ⟨B3, n3, ints l3⟩) (s3.above (B := w.heap.size + 3) y3 (by first | omega | (simp; done) | (simp; omega)) ?_) (RdAll.cons (s := ⟨B4, (n4 * 2), ints l4⟩) (s4.above (B := w.heap.size + 3) y4 (by first | omega | (simp; done) | (simp; omega)) ?_) (RdAll.nil _)))
    all_goals repeat (first | refine Above.setCell ?_ (by first | omega | (simp; done) | (simp; omega)) _ | exact Above.refl _ _)
  · show WrAll _ _ [⟨B3, n3, ints l3⟩, ⟨B4, (n4 * 2), ints l4⟩]
    refine (WrAll.cons (s := ⟨B3, n3, ints l3⟩) ((y3.above (B := w.heap.size + 3) s3 (by first | omega | (simp; done) | (simp; omega)) ?_).lower (by first | omega | (simp; done) | (simp; omega))) (WrAll.cons (s := ⟨B4, (n4 * 2), ints l4⟩) ((y4.above (B := w.heap.size + 3) s4 (by first | omega | (simp; done) | (simp; omega)) ?_).lower (by first | omega | (simp; done) | (simp; omega))) (WrAll.nil _ _)))
    all_goals repeat (first | refine Above.setCell ?_ (by first | omega | (simp; done) | (simp; omega)) _ | exact Above.refl _ _)
  · clear s3 y3 s4 y4
    show Sep [blkp B3 n3, blkp B4 (n4 * 2)]
    exact (Sep.step lo3 (Hi.cons (fun b e => by have := hi4 b e; omega) (Hi.nil _)) (Sep.step lo4 (Hi.nil _) Sep.nil))
  · repeat (refine Below.setCell ?_ (by first | omega | (simp; done) | (simp; omega)) _)
    exact hw2

set_option maxHeartbeats 2000000 in
theorem eqDepthGrid_any (h k : DepthGridH) (l : DepthGridC) (w : World) (ok : DepthGridOk h) (hr : RdAll w (DepthGridS h l)) (kr : RdAll w (DepthGridS k l)) :
    Calls Try.prog 30 #[DepthGridV h l, DepthGridV k l] w fun e w' => e = .returned (.bool true) ∧ Below w.heap.size w w' := by
  obtain ⟨ok3, ok4⟩ := ok
  have r3 := hr.head
  have r4 := hr.tail.head
  have s3 := kr.head
  have s4 := kr.tail.head
  obtain ⟨⟨A3, n3, c3⟩, ⟨A4, n4, c4⟩⟩ := h
  obtain ⟨⟨B3, m3, d3⟩, ⟨B4, m4, d4⟩⟩ := k
  obtain ⟨x0, x1, x2, l3, l4⟩ := l
  clear hr kr
  unfold DepthGridV
  simp only at *
  obtain rfl : m3 = n3 := by have := r3.1; have := s3.1; omega
  obtain rfl : m4 = n4 := by have := r4.1; have := s4.1; omega
  go_enter Try.func30, Try.ntmps30
  go_wp2_with fail
  refine (eqInt64S_below A3 B3 m3 c3 d3 l3 _ (by omega) (r3.below (((Below.refl w.heap.size w).alloc (Nat.le_refl _) _).alloc (by first | omega | (simp; done) | (simp; omega)) _)) (s3.below (((Below.refl w.heap.size w).alloc (Nat.le_refl _) _).alloc (by first | omega | (simp; done) | (simp; omega)) _))).mono ?_
  rintro e w1 ⟨rfl, b1⟩
  have hw1 : Below w.heap.size w w1 := (((Below.refl w.heap.size w).alloc (Nat.le_refl _) _).alloc (by first | omega | (simp; done) | (simp; omega)) _).trans (b1.mono (by first | omega | (simp; done) | (simp; omega)))
  have BP1 : Blk w1 w.heap.size 50 #[.int .i64 x0, .int .i64 x1, .int .i64 x2, .slice A3 m3 c3, .slice A4 m4 c4] := ((Blk.new w _ _).alloc _).below b1 (by first | omega | (simp; done) | (simp; omega))
  have BV1 : Blk w1 (w.heap.size + 1) 50 #[.int .i64 x0, .int .i64 x1, .int .i64 x2, .slice B3 m3 d3, .slice B4 m4 d4] := (Blk.new1 w _ _ _).below b1 (by first | omega | (simp; done) | (simp; omega))
  have cP1 := fun o => BP1.cell o
  have cV1 := fun o => BV1.cell o
  go_wp2_with fail
  refine (eqIntervalS_below A4 B4 m4 c4 d4 l4 _ ok4 (r4.below (hw1)) (s4.below (hw1))).mono ?_
  rintro e w2 ⟨rfl, b2⟩
  have hw2 : Below w.heap.size w w2 := (hw1).trans (b2.mono (hw1.size))
  go_wp2
  go_ret
  exact ⟨rfl, hw2⟩

set_option maxHeartbeats 2000000 in
theorem markDepthGrid_any (h : DepthGridH) (l : DepthGridC) (q : Int) (B : Nat) (w : World) (ok : DepthGridOk h) (h0 : 0 ≤ q) (hq : q ≤ 536870912) (hr : RdAll w (DepthGridS h l)) (hw : WrAll w B (DepthGridS h l)) (hs : Sep (DepthGridR h)) :
    Calls Try.prog 31 #[DepthGridV h l, .int .i64 q] w fun e w' => e = .returned (.int .i64 (DepthGridQ h q)) ∧ Touch w w' (DepthGridR h) ∧ RdAll w' (DepthGridM h q) ∧ WrAll w' B (DepthGridM h q) := by
  obtain ⟨ok3, ok4⟩ := ok
  have r3 := hr.head
  have r4 := hr.tail.head
  have y3 := hw.head
  have y4 := hw.tail.head
  have o3_4 := hs.off.head
  have o4_3 := o3_4.swap
  obtain ⟨⟨A3, n3, c3⟩, ⟨A4, n4, c4⟩⟩ := h
  obtain ⟨x0, x1, x2, l3, l4⟩ := l
  clear hr hw hs
  unfold DepthGridV DepthGridQ
  simp only at *
  have lo3 := r3.rowlt
  have lo4 := r4.rowlt
  go_enter Try.func31, Try.ntmps31
  go_wp2_with fail
  have T0 := Touch.alloc w (.cells #[.int .i64 x0, .int .i64 x1, .int .i64 x2, .slice A3 n3 c3, .slice A4 n4 c4] 50)
  have BP0 := Blk.new w 50 #[.int .i64 x0, .int .i64 x1, .int .i64 x2, .slice A3 n3 c3, .slice A4 n4 c4]
  generalize hw0 : w.alloc (.cells #[.int .i64 x0, .int .i64 x1, .int .i64 x2, .slice A3 n3 c3, .slice A4 n4 c4] 50) = w0 at T0 BP0 ⊢
  have hb0 : Below w.heap.size w w0 := by rw [← hw0]; exact (Below.refl _ _).alloc (Nat.le_refl _) _
  have s3 := r3.below hb0
  have u3 := y3.below r3 hb0
  clear r3 y3
  have s4 := r4.below hb0
  have u4 := y4.below r4 hb0
  clear r4 y4
  refine (markInt64S_any A3 n3 c3 _ (q) B _ ok3 (by omega) (by omega) s3 u3).mono ?_
  rintro e w1 ⟨rfl, g1, -, s3', u3'⟩
  clear s3 u3
  have T1 := T0.trans (Touch.of_grown g1)
  have s3 := s3'
  have u3 := u3'
  clear s3' u3'
  have s4' := s4.touch (Touch.of_grown g1) o3_4
  have u4' := u4.touch s4 (Touch.of_grown g1) o3_4
  clear s4 u4
  have s4 := s4'
  have u4 := u4'
  clear s4' u4'
  have BP1 := BP0.grown g1 (fun c => by have := lo3 _ c; omega)
  have cP1 := fun o => BP1.cell o
  clear BP0 T0
  go_wp2_with fail
  have hqq1 : q + (n3 : Int) ≤ 1073741824 := by omega
  refine (markIntervalS_any A4 n4 c4 _ (q + (n3 : Int)) B _ ok4 (by omega) (by omega) s4 u4).mono ?_
  rintro e w2 ⟨rfl, g2, -, s4', u4'⟩
  clear s4 u4
  have T2 := T1.trans (Touch.of_grown g2)
  have s3' := s3.touch (Touch.of_grown g2) o4_3
  have u3' := u3.touch s3 (Touch.of_grown g2) o4_3
  clear s3 u3
  have s3 := s3'
  have u3 := u3'
  clear s3' u3'
  have s4 := s4'
  have u4 := u4'
  clear s4' u4'
  have BP2 := BP1.grown g2 (fun c => by have := lo4 _ c; omega)
  have cP2 := fun o => BP2.cell o
  clear BP1 T1 cP1
  go_wp2
  go_ret
  exact ⟨rfl, T2, (RdAll.cons (s := ⟨A3, n3, ints (marks (q) n3)⟩) s3 (RdAll.cons (s := ⟨A4, (n4 * 2), ints (marks (q + (n3 : Int)) (n4 * 2))⟩) s4 (RdAll.nil _))), (WrAll.cons (s := ⟨A3, n3, ints (marks (q) n3)⟩) u3 (WrAll.cons (s := ⟨A4, (n4 * 2), ints (marks (q + (n3 : Int)) (n4 * 2))⟩) u4 (WrAll.nil _ _)))⟩

set_option maxHeartbeats 2000000 in
theorem heldDepthGrid_any (h : DepthGridH) (l : DepthGridC) (q : Int) (w : World) (ok : DepthGridOk h) (h0 : 0 ≤ q) (hq : q ≤ 536870912) (hr : RdAll w (DepthGridM h q)) :
    Calls Try.prog 32 #[DepthGridV h l, .int .i64 q] w fun e w' => e = .returned (.int .i64 (DepthGridQ h q)) ∧ Below w.heap.size w w' := by
  obtain ⟨ok3, ok4⟩ := ok
  have r3 := hr.head
  have r4 := hr.tail.head
  obtain ⟨⟨A3, n3, c3⟩, ⟨A4, n4, c4⟩⟩ := h
  obtain ⟨x0, x1, x2, l3, l4⟩ := l
  clear hr
  unfold DepthGridV DepthGridQ
  simp only at *
  have hb0 : Below w.heap.size w (w.alloc (.cells #[.int .i64 x0, .int .i64 x1, .int .i64 x2, .slice A3 n3 c3, .slice A4 n4 c4] 50)) := (Below.refl _ _).alloc (Nat.le_refl _) _
  go_enter Try.func32, Try.ntmps32
  go_wp2_with fail
  refine (heldInt64S_same A3 n3 c3 (q) _ ok3 (by omega) (by omega) (r3.below hb0)).mono ?_
  rintro e w' ⟨rfl, rfl⟩
  have q1 : ¬ q + (n3 : Int) < 0 := by omega
  go_wp2_with fail
  refine (heldIntervalS_same A4 n4 c4 (q + (n3 : Int)) _ ok4 (by omega) (by omega) (r4.below hb0)).mono ?_
  rintro e w' ⟨rfl, rfl⟩
  have q2 : ¬ q + (n3 : Int) + (((n4 * 2) : Nat) : Int) < 0 := by omega
  go_wp2
  go_ret
  exact ⟨rfl, hb0⟩

set_option maxHeartbeats 2000000 in
theorem szDepthGrid_any (h : DepthGridH) (l : DepthGridC) (q : Int) (w : World) (hm : h.counts.n ≤ 9223372036854775807 ∧ h.depths.n ≤ 9223372036854775807) (h0 : 0 ≤ q) (hq : q ≤ 1048576) :
    Calls Try.prog 26 #[DepthGridV h l, .int .i64 q] w fun e w' => ∃ v : Int, e = .returned (.int .i64 v) ∧ (v < 0 ∨ 0 ≤ v ∧ v ≤ q ∧ DepthGridOk h) ∧ Below w.heap.size w w' := by
  obtain ⟨hm3, hm4⟩ := hm
  obtain ⟨⟨A3, n3, c3⟩, ⟨A4, n4, c4⟩⟩ := h
  obtain ⟨x0, x1, x2, l3, l4⟩ := l
  unfold DepthGridV
  simp only at *
  have hb0 : Below w.heap.size w (w.alloc (.cells #[.int .i64 x0, .int .i64 x1, .int .i64 x2, .slice A3 n3 c3, .slice A4 n4 c4] 46)) := (Below.refl _ _).alloc (Nat.le_refl _) _
  go_enter Try.func26, Try.ntmps26
  by_cases k3 : q < (n3 : Int)
  · have sz := szInt64S_any A3 n3 c3 (q) (w.alloc (.cells #[.int .i64 x0, .int .i64 x1, .int .i64 x2, .slice A3 n3 c3, .slice A4 n4 c4] 46)) hm3 (by omega) (by omega)
    rw [if_pos k3] at sz
    go_wp2_with fail
    refine sz.mono ?_
    rintro e w' ⟨rfl, rfl⟩
    clear sz
    go_wp2
    go_ret
    exact ⟨-1, rfl, .inl (by decide), hb0⟩
  · have sz := szInt64S_any A3 n3 c3 (q) (w.alloc (.cells #[.int .i64 x0, .int .i64 x1, .int .i64 x2, .slice A3 n3 c3, .slice A4 n4 c4] 46)) hm3 (by omega) (by omega)
    rw [if_neg k3] at sz
    go_wp2_with fail
    refine sz.mono ?_
    rintro e w' ⟨rfl, rfl⟩
    clear sz
    have p3 : ¬ q - (n3 : Int) < 0 := by omega
    by_cases k4 : q - (n3 : Int) < (n4 : Int)
    · have sz := szIntervalS_any A4 n4 c4 (q - (n3 : Int)) (w.alloc (.cells #[.int .i64 x0, .int .i64 x1, .int .i64 x2, .slice A3 n3 c3, .slice A4 n4 c4] 46)) hm4 (by omega) (by omega)
      rw [if_pos k4] at sz
      go_wp2_with fail
      refine sz.mono ?_
      rintro e w' ⟨rfl, rfl⟩
      clear sz
      go_wp2
      go_ret
      exact ⟨-1, rfl, .inl (by decide), hb0⟩
    · have sz := szIntervalS_any A4 n4 c4 (q - (n3 : Int)) (w.alloc (.cells #[.int .i64 x0, .int .i64 x1, .int .i64 x2, .slice A3 n3 c3, .slice A4 n4 c4] 46)) hm4 (by omega) (by omega)
      rw [if_neg k4] at sz
      go_wp2_with fail
      refine sz.mono ?_
      rintro e w' ⟨rfl, rfl⟩
      clear sz
      have p4 : ¬ q - (n3 : Int) - (n4 : Int) < 0 := by omega
      go_wp2
      go_ret
      exact ⟨_, rfl, .inr ⟨by omega, by omega, ⟨(by omega : n3 ≤ 1048576), (by omega : n4 ≤ 1048576)⟩⟩, hb0⟩
end Go.Proofs.Ythmcnoloeeabbaa
