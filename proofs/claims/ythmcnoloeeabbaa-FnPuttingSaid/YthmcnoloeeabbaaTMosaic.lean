/- The statements' own helpers for Mosaic: a copy, a comparison, marks laid and found, a size. No condition beyond lengths of at most 1048576 where memory is made. -/
import Derived.Test.YthmcnoloeeabbaaTI
namespace Go.Proofs.Ythmcnoloeeabbaa
open Go.RowKit

/-- The heads of its slices. -/
structure MosaicH where
  values : Hd
  grades : Hd
/-- What it holds. -/
structure MosaicC where
  wide : Int
  high : Int
  values : List Int
  grades : List Int
def MosaicV (h : MosaicH) (l : MosaicC) : Value := .agg #[.int .i64 l.wide, .int .i64 l.high, .slice h.values.A h.values.n h.values.c, .slice h.grades.A h.grades.n h.grades.c]
def MosaicS (h : MosaicH) (l : MosaicC) : List Sl := [⟨h.values.A, h.values.n, ints l.values⟩, ⟨h.grades.A, h.grades.n, ints l.grades⟩]
def MosaicR (h : MosaicH) : List (Option Nat) := [blkp h.values.A h.values.n, blkp h.grades.A h.grades.n]
def MosaicM (h : MosaicH) (q : Int) : List Sl := [⟨h.values.A, h.values.n, ints (marks (q) h.values.n)⟩, ⟨h.grades.A, h.grades.n, ints (marks (q + (h.values.n : Nat)) h.grades.n)⟩]
def MosaicQ (h : MosaicH) (q : Int) : Int := q + (h.values.n : Nat) + (h.grades.n : Nat)
def MosaicOk (h : MosaicH) : Prop := h.values.n ≤ 1048576 ∧ h.grades.n ≤ 1048576
theorem MosaicQ_bd {h : MosaicH} (ok : MosaicOk h) (q : Int) : q ≤ MosaicQ h q ∧ MosaicQ h q ≤ q + 2097152 := by unfold MosaicQ; unfold MosaicOk at ok; omega

set_option maxHeartbeats 2000000 in
theorem toMosaic_any (h : MosaicH) (l : MosaicC) (w : World) (ok : MosaicOk h) (hr : RdAll w (MosaicS h l)) :
    Calls Try.prog 13 #[MosaicV h l] w fun e w' => ∃ k, e = .returned (MosaicV k l) ∧ MosaicOk k ∧ RdAll w' (MosaicS k l) ∧ WrAll w' w.heap.size (MosaicS k l) ∧ Sep (MosaicR k) ∧ Below w.heap.size w w' := by
  obtain ⟨ok2, ok3⟩ := ok
  have r2 := hr.head
  have r3 := hr.tail.head
  obtain ⟨⟨A2, n2, c2⟩, ⟨A3, n3, c3⟩⟩ := h
  obtain ⟨x0, x1, l2, l3⟩ := l
  clear hr
  unfold MosaicV
  simp only at *
  go_enter Try.func13, Try.ntmps13
  go_wp2_with fail
  refine (toInt64S_any A2 n2 c2 l2 _ ok2 (r2.below (by (repeat (first | (with_reducible assumption) | (with_reducible exact Below.refl _ _) | (with_reducible refine Below.drew ?_) | (with_reducible refine Below.drewN ?_ _) | (with_reducible refine Below.setCell ?_ ?_ _) | (with_reducible refine Below.alloc ?_ ?_ _) | assumption)); all_goals (first | omega | (simp; done) | (simp; omega))))).mono ?_
  rintro e w1 ⟨rfl, s2, y2, b1, z1⟩
  have hw1 : Below w.heap.size w w1 := (show Below w.heap.size w _ from (by (repeat (first | (with_reducible assumption) | (with_reducible exact Below.refl _ _) | (with_reducible refine Below.drew ?_) | (with_reducible refine Below.drewN ?_ _) | (with_reducible refine Below.setCell ?_ ?_ _) | (with_reducible refine Below.alloc ?_ ?_ _) | assumption)); all_goals (first | omega | (simp; done) | (simp; omega)))).trans (b1.mono (by first | omega | (simp; done) | (simp; omega)))
  have z1' := b1.size
  simp at z1'
  have BP1 : Blk w1 w.heap.size 24 #[.int .i64 x0, .int .i64 x1, .slice A2 n2 c2, .slice A3 n3 c3] := (((Blk.new w _ _).alloc _).alloc _).below b1 (by first | omega | (simp; done) | (simp; omega))
  have BV1 : Blk w1 (w.heap.size + 1) 26 #[.int .i64 0, .int .i64 0, .slice none 0 0, .slice none 0 0] := ((Blk.new1 w _ _ _).alloc _).below b1 (by first | omega | (simp; done) | (simp; omega))
  have BO1 : Blk w1 (w.heap.size + 1 + 1) 26 #[.int .i64 x0, .int .i64 x1, .slice none 0 0, .slice none 0 0] := (Blk.new2 w _ _ _ _).below b1 (by first | omega | (simp; done) | (simp; omega))
  have cV1 := fun o => BV1.cell o
  have fV1 := fun o => BV1.frozen o
  have cP1 := fun o => BP1.cell o
  have cO1 := fun o => BO1.cell o
  have fO1 := fun o => BO1.frozen o
  have y2' := y2.lower (show w.heap.size + 3 ≤ _ from by first | omega | (simp; done) | (simp; omega))
  clear y2
  have y2 := y2'
  clear y2'
  have lo2 := s2.rowlt
  have hi2 : ∀ b, blkp _ n2 = some b → w.heap.size + 3 ≤ b := fun b => y2.blockp
  generalize hB2 : (some (⟨_, 0, none⟩ : Addr)) = B2 at s2 y2 lo2 hi2 ⊢
  clear hB2
  go_wp2_with fail
  refine (toInt64S_any A3 n3 c3 l3 _ ok3 (r3.below (by (repeat (first | (with_reducible assumption) | (with_reducible exact Below.refl _ _) | (with_reducible refine Below.drew ?_) | (with_reducible refine Below.drewN ?_ _) | (with_reducible refine Below.setCell ?_ ?_ _) | (with_reducible refine Below.alloc ?_ ?_ _) | assumption)); all_goals (first | omega | (simp; done) | (simp; omega))))).mono ?_
  rintro e w2 ⟨rfl, s3, y3, b2, z2⟩
  have hw2 : Below w.heap.size w w2 := (show Below w.heap.size w _ from (by (repeat (first | (with_reducible assumption) | (with_reducible exact Below.refl _ _) | (with_reducible refine Below.drew ?_) | (with_reducible refine Below.drewN ?_ _) | (with_reducible refine Below.setCell ?_ ?_ _) | (with_reducible refine Below.alloc ?_ ?_ _) | assumption)); all_goals (first | omega | (simp; done) | (simp; omega)))).trans (b2.mono (by first | omega | (simp; done) | (simp; omega)))
  have z2' := b2.size
  simp at z2'
  have BP2 : Blk w2 w.heap.size 24 #[.int .i64 x0, .int .i64 x1, .slice A2 n2 c2, .slice A3 n3 c3] := (BP1.far (by first | omega | (simp; done) | (simp; omega)) _).below b2 (by first | omega | (simp; done) | (simp; omega))
  have BV2 : Blk w2 (w.heap.size + 1) 26 #[.int .i64 0, .int .i64 0, .slice none 0 0, .slice none 0 0] := (BV1.far (by first | omega | (simp; done) | (simp; omega)) _).below b2 (by first | omega | (simp; done) | (simp; omega))
  have BO2 : Blk w2 (w.heap.size + 1 + 1) 26 #[.int .i64 x0, .int .i64 x1, .slice B2 n2 n2, .slice none 0 0] := (BO1.set_ 2 _).below b2 (by first | omega | (simp; done) | (simp; omega))
  have ab2 : Above (w.heap.size + 3) w1 w2 := ((Above.refl (w.heap.size + 3) w1).setCell (by first | omega | (simp; done) | (simp; omega)) _).below b2
  have t2 := s2.above y2 (by first | omega | (simp; done) | (simp; omega)) ab2
  have u2 := y2.above s2 (by first | omega | (simp; done) | (simp; omega)) ab2
  clear s2 y2
  have s2 := t2
  have y2 := u2
  clear t2 u2
  have cV2 := fun o => BV2.cell o
  have fV2 := fun o => BV2.frozen o
  have cP2 := fun o => BP2.cell o
  have cO2 := fun o => BO2.cell o
  have fO2 := fun o => BO2.frozen o
  clear cP1 cO1 fO1 cV1 fV1 BP1 BO1 BV1 ab2
  have y3' := y3.lower (show w1.heap.size ≤ _ from by first | omega | (simp; done) | (simp; omega))
  clear y3
  have y3 := y3'
  clear y3'
  have lo3 := s3.rowlt
  have hi3 : ∀ b, blkp _ n3 = some b → w1.heap.size ≤ b := fun b => y3.blockp
  generalize hB3 : (some (⟨_, 0, none⟩ : Addr)) = B3 at s3 y3 lo3 hi3 ⊢
  clear hB3
  go_wp2
  refine bodyPost_ret (v := .agg #[.int .i64 x0, .int .i64 x1, .slice B2 n2 n2, .slice B3 n3 n3]) (by simp [results, Try.results13, go_sem, cV2]) rfl ⟨⟨⟨B2, n2, n2⟩, ⟨B3, n3, n3⟩⟩, rfl, ⟨ok2, ok3⟩, ?_, ?_, ?_, ?_⟩
  all_goals clear cP2 cO2 fO2 cV2 fV2 BP2 BO2 BV2
  · show RdAll _ [⟨B2, n2, ints l2⟩, ⟨B3, n3, ints l3⟩]
    refine (RdAll.cons (s := ⟨B2, n2, ints l2⟩) (s2.above (B := w.heap.size + 3) y2 (by first | omega | (simp; done) | (simp; omega)) ?_) (RdAll.cons (s := ⟨B3, n3, ints l3⟩) (s3.above (B := w.heap.size + 3) y3 (by first | omega | (simp; done) | (simp; omega)) ?_) (RdAll.nil _)))
    all_goals repeat (first | refine Above.setCell ?_ (by first | omega | (simp; done) | (simp; omega)) _ | exact Above.refl _ _)
  · show WrAll _ _ [⟨B2, n2, ints l2⟩, ⟨B3, n3, ints l3⟩]
    refine (WrAll.cons (s := ⟨B2, n2, ints l2⟩) ((y2.above (B := w.heap.size + 3) s2 (by first | omega | (simp; done) | (simp; omega)) ?_).lower (by first | omega | (simp; done) | (simp; omega))) (WrAll.cons (s := ⟨B3, n3, ints l3⟩) ((y3.above (B := w.heap.size + 3) s3 (by first | omega | (simp; done) | (simp; omega)) ?_).lower (by first | omega | (simp; done) | (simp; omega))) (WrAll.nil _ _)))
    all_goals repeat (first | refine Above.setCell ?_ (by first | omega | (simp; done) | (simp; omega)) _ | exact Above.refl _ _)
  · clear s2 y2 s3 y3
    show Sep [blkp B2 n2, blkp B3 n3]
    exact (Sep.step lo2 (Hi.cons (fun b e => by have := hi3 b e; omega) (Hi.nil _)) (Sep.step lo3 (Hi.nil _) Sep.nil))
  · repeat (refine Below.setCell ?_ (by first | omega | (simp; done) | (simp; omega)) _)
    exact hw2

set_option maxHeartbeats 2000000 in
theorem eqMosaic_any (h k : MosaicH) (l : MosaicC) (w : World) (ok : MosaicOk h) (hr : RdAll w (MosaicS h l)) (kr : RdAll w (MosaicS k l)) :
    Calls Try.prog 15 #[MosaicV h l, MosaicV k l] w fun e w' => e = .returned (.bool true) ∧ Below w.heap.size w w' := by
  obtain ⟨ok2, ok3⟩ := ok
  have r2 := hr.head
  have r3 := hr.tail.head
  have s2 := kr.head
  have s3 := kr.tail.head
  obtain ⟨⟨A2, n2, c2⟩, ⟨A3, n3, c3⟩⟩ := h
  obtain ⟨⟨B2, m2, d2⟩, ⟨B3, m3, d3⟩⟩ := k
  obtain ⟨x0, x1, l2, l3⟩ := l
  clear hr kr
  unfold MosaicV
  simp only at *
  obtain rfl : m2 = n2 := by have := r2.1; have := s2.1; omega
  obtain rfl : m3 = n3 := by have := r3.1; have := s3.1; omega
  go_enter Try.func15, Try.ntmps15
  go_wp2_with fail
  refine (eqInt64S_below A2 B2 m2 c2 d2 l2 _ (by omega) (r2.below (((Below.refl w.heap.size w).alloc (Nat.le_refl _) _).alloc (by first | omega | (simp; done) | (simp; omega)) _)) (s2.below (((Below.refl w.heap.size w).alloc (Nat.le_refl _) _).alloc (by first | omega | (simp; done) | (simp; omega)) _))).mono ?_
  rintro e w1 ⟨rfl, b1⟩
  have hw1 : Below w.heap.size w w1 := (((Below.refl w.heap.size w).alloc (Nat.le_refl _) _).alloc (by first | omega | (simp; done) | (simp; omega)) _).trans (b1.mono (by first | omega | (simp; done) | (simp; omega)))
  have BP1 : Blk w1 w.heap.size 26 #[.int .i64 x0, .int .i64 x1, .slice A2 m2 c2, .slice A3 m3 c3] := ((Blk.new w _ _).alloc _).below b1 (by first | omega | (simp; done) | (simp; omega))
  have BV1 : Blk w1 (w.heap.size + 1) 26 #[.int .i64 x0, .int .i64 x1, .slice B2 m2 d2, .slice B3 m3 d3] := (Blk.new1 w _ _ _).below b1 (by first | omega | (simp; done) | (simp; omega))
  have cP1 := fun o => BP1.cell o
  have cV1 := fun o => BV1.cell o
  go_wp2_with fail
  refine (eqInt64S_below A3 B3 m3 c3 d3 l3 _ (by omega) (r3.below (hw1)) (s3.below (hw1))).mono ?_
  rintro e w2 ⟨rfl, b2⟩
  have hw2 : Below w.heap.size w w2 := (hw1).trans (b2.mono (hw1.size))
  go_wp2
  go_ret
  exact ⟨rfl, hw2⟩

set_option maxHeartbeats 2000000 in
theorem markMosaic_any (h : MosaicH) (l : MosaicC) (q : Int) (B : Nat) (w : World) (ok : MosaicOk h) (h0 : 0 ≤ q) (hq : q ≤ 536870912) (hr : RdAll w (MosaicS h l)) (hw : WrAll w B (MosaicS h l)) (hs : Sep (MosaicR h)) :
    Calls Try.prog 16 #[MosaicV h l, .int .i64 q] w fun e w' => e = .returned (.int .i64 (MosaicQ h q)) ∧ Touch w w' (MosaicR h) ∧ RdAll w' (MosaicM h q) ∧ WrAll w' B (MosaicM h q) := by
  obtain ⟨ok2, ok3⟩ := ok
  have r2 := hr.head
  have r3 := hr.tail.head
  have y2 := hw.head
  have y3 := hw.tail.head
  have o2_3 := hs.off.head
  have o3_2 := o2_3.swap
  obtain ⟨⟨A2, n2, c2⟩, ⟨A3, n3, c3⟩⟩ := h
  obtain ⟨x0, x1, l2, l3⟩ := l
  clear hr hw hs
  unfold MosaicV MosaicQ
  simp only at *
  have lo2 := r2.rowlt
  have lo3 := r3.rowlt
  go_enter Try.func16, Try.ntmps16
  go_wp2_with fail
  have T0 := Touch.alloc w (.cells #[.int .i64 x0, .int .i64 x1, .slice A2 n2 c2, .slice A3 n3 c3] 26)
  have BP0 := Blk.new w 26 #[.int .i64 x0, .int .i64 x1, .slice A2 n2 c2, .slice A3 n3 c3]
  generalize hw0 : w.alloc (.cells #[.int .i64 x0, .int .i64 x1, .slice A2 n2 c2, .slice A3 n3 c3] 26) = w0 at T0 BP0 ⊢
  have hb0 : Below w.heap.size w w0 := by rw [← hw0]; exact (Below.refl _ _).alloc (Nat.le_refl _) _
  have s2 := r2.below hb0
  have u2 := y2.below r2 hb0
  clear r2 y2
  have s3 := r3.below hb0
  have u3 := y3.below r3 hb0
  clear r3 y3
  refine (markInt64S_any A2 n2 c2 _ (q) B _ ok2 (by omega) (by omega) s2 u2).mono ?_
  rintro e w1 ⟨rfl, g1, -, s2', u2'⟩
  clear s2 u2
  have T1 := T0.trans (Touch.of_grown g1)
  have s2 := s2'
  have u2 := u2'
  clear s2' u2'
  have s3' := s3.touch (Touch.of_grown g1) o2_3
  have u3' := u3.touch s3 (Touch.of_grown g1) o2_3
  clear s3 u3
  have s3 := s3'
  have u3 := u3'
  clear s3' u3'
  have BP1 := BP0.grown g1 (fun c => by have := lo2 _ c; omega)
  have cP1 := fun o => BP1.cell o
  clear BP0 T0
  go_wp2_with fail
  have hqq1 : q + (n2 : Int) ≤ 1073741824 := by omega
  refine (markInt64S_any A3 n3 c3 _ (q + (n2 : Int)) B _ ok3 (by omega) (by omega) s3 u3).mono ?_
  rintro e w2 ⟨rfl, g2, -, s3', u3'⟩
  clear s3 u3
  have T2 := T1.trans (Touch.of_grown g2)
  have s2' := s2.touch (Touch.of_grown g2) o3_2
  have u2' := u2.touch s2 (Touch.of_grown g2) o3_2
  clear s2 u2
  have s2 := s2'
  have u2 := u2'
  clear s2' u2'
  have s3 := s3'
  have u3 := u3'
  clear s3' u3'
  have BP2 := BP1.grown g2 (fun c => by have := lo3 _ c; omega)
  have cP2 := fun o => BP2.cell o
  clear BP1 T1 cP1
  go_wp2
  go_ret
  exact ⟨rfl, T2, (RdAll.cons (s := ⟨A2, n2, ints (marks (q) n2)⟩) s2 (RdAll.cons (s := ⟨A3, n3, ints (marks (q + (n2 : Int)) n3)⟩) s3 (RdAll.nil _))), (WrAll.cons (s := ⟨A2, n2, ints (marks (q) n2)⟩) u2 (WrAll.cons (s := ⟨A3, n3, ints (marks (q + (n2 : Int)) n3)⟩) u3 (WrAll.nil _ _)))⟩

set_option maxHeartbeats 2000000 in
theorem heldMosaic_any (h : MosaicH) (l : MosaicC) (q : Int) (w : World) (ok : MosaicOk h) (h0 : 0 ≤ q) (hq : q ≤ 536870912) (hr : RdAll w (MosaicM h q)) :
    Calls Try.prog 17 #[MosaicV h l, .int .i64 q] w fun e w' => e = .returned (.int .i64 (MosaicQ h q)) ∧ Below w.heap.size w w' := by
  obtain ⟨ok2, ok3⟩ := ok
  have r2 := hr.head
  have r3 := hr.tail.head
  obtain ⟨⟨A2, n2, c2⟩, ⟨A3, n3, c3⟩⟩ := h
  obtain ⟨x0, x1, l2, l3⟩ := l
  clear hr
  unfold MosaicV MosaicQ
  simp only at *
  have hb0 : Below w.heap.size w (w.alloc (.cells #[.int .i64 x0, .int .i64 x1, .slice A2 n2 c2, .slice A3 n3 c3] 26)) := (Below.refl _ _).alloc (Nat.le_refl _) _
  go_enter Try.func17, Try.ntmps17
  go_wp2_with fail
  refine (heldInt64S_same A2 n2 c2 (q) _ ok2 (by omega) (by omega) (r2.below hb0)).mono ?_
  rintro e w' ⟨rfl, rfl⟩
  have q1 : ¬ q + (n2 : Int) < 0 := by omega
  go_wp2_with fail
  refine (heldInt64S_same A3 n3 c3 (q + (n2 : Int)) _ ok3 (by omega) (by omega) (r3.below hb0)).mono ?_
  rintro e w' ⟨rfl, rfl⟩
  have q2 : ¬ q + (n2 : Int) + (n3 : Int) < 0 := by omega
  go_wp2
  go_ret
  exact ⟨rfl, hb0⟩

set_option maxHeartbeats 2000000 in
theorem szMosaic_any (h : MosaicH) (l : MosaicC) (q : Int) (w : World) (hm : h.values.n ≤ 9223372036854775807 ∧ h.grades.n ≤ 9223372036854775807) (h0 : 0 ≤ q) (hq : q ≤ 1048576) :
    Calls Try.prog 11 #[MosaicV h l, .int .i64 q] w fun e w' => ∃ v : Int, e = .returned (.int .i64 v) ∧ (v < 0 ∨ 0 ≤ v ∧ v ≤ q ∧ MosaicOk h) ∧ Below w.heap.size w w' := by
  obtain ⟨hm2, hm3⟩ := hm
  obtain ⟨⟨A2, n2, c2⟩, ⟨A3, n3, c3⟩⟩ := h
  obtain ⟨x0, x1, l2, l3⟩ := l
  unfold MosaicV
  simp only at *
  have hb0 : Below w.heap.size w (w.alloc (.cells #[.int .i64 x0, .int .i64 x1, .slice A2 n2 c2, .slice A3 n3 c3] 24)) := (Below.refl _ _).alloc (Nat.le_refl _) _
  go_enter Try.func11, Try.ntmps11
  by_cases k2 : q < (n2 : Int)
  · have sz := szInt64S_any A2 n2 c2 (q) (w.alloc (.cells #[.int .i64 x0, .int .i64 x1, .slice A2 n2 c2, .slice A3 n3 c3] 24)) hm2 (by omega) (by omega)
    rw [if_pos k2] at sz
    go_wp2_with fail
    refine sz.mono ?_
    rintro e w' ⟨rfl, rfl⟩
    clear sz
    go_wp2
    go_ret
    exact ⟨-1, rfl, .inl (by decide), hb0⟩
  · have sz := szInt64S_any A2 n2 c2 (q) (w.alloc (.cells #[.int .i64 x0, .int .i64 x1, .slice A2 n2 c2, .slice A3 n3 c3] 24)) hm2 (by omega) (by omega)
    rw [if_neg k2] at sz
    go_wp2_with fail
    refine sz.mono ?_
    rintro e w' ⟨rfl, rfl⟩
    clear sz
    have p2 : ¬ q - (n2 : Int) < 0 := by omega
    by_cases k3 : q - (n2 : Int) < (n3 : Int)
    · have sz := szInt64S_any A3 n3 c3 (q - (n2 : Int)) (w.alloc (.cells #[.int .i64 x0, .int .i64 x1, .slice A2 n2 c2, .slice A3 n3 c3] 24)) hm3 (by omega) (by omega)
      rw [if_pos k3] at sz
      go_wp2_with fail
      refine sz.mono ?_
      rintro e w' ⟨rfl, rfl⟩
      clear sz
      go_wp2
      go_ret
      exact ⟨-1, rfl, .inl (by decide), hb0⟩
    · have sz := szInt64S_any A3 n3 c3 (q - (n2 : Int)) (w.alloc (.cells #[.int .i64 x0, .int .i64 x1, .slice A2 n2 c2, .slice A3 n3 c3] 24)) hm3 (by omega) (by omega)
      rw [if_neg k3] at sz
      go_wp2_with fail
      refine sz.mono ?_
      rintro e w' ⟨rfl, rfl⟩
      clear sz
      have p3 : ¬ q - (n2 : Int) - (n3 : Int) < 0 := by omega
      go_wp2
      go_ret
      exact ⟨_, rfl, .inr ⟨by omega, by omega, ⟨(by omega : n2 ≤ 1048576), (by omega : n3 ≤ 1048576)⟩⟩, hb0⟩
end Go.Proofs.Ythmcnoloeeabbaa
