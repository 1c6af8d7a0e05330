/- The statements' own helpers for Profile: a copy, a comparison, marks laid and found, a size. No condition beyond lengths of at most 1048576 where memory is made. -/
import Derived.Test.YtphpjmkebnadoaaTI
namespace Go.Proofs.Ytphpjmkebnadoaa
open Go.RowKit

/-- The heads of its slices. -/
structure ProfileH where
  depths : Hd
  speeds : Hd
/-- What it holds. -/
structure ProfileC where
  depths : List Int
  speeds : List Int
def ProfileV (h : ProfileH) (l : ProfileC) : Value := .agg #[.slice h.depths.A h.depths.n h.depths.c, .slice h.speeds.A h.speeds.n h.speeds.c]
def ProfileS (h : ProfileH) (l : ProfileC) : List Sl := [⟨h.depths.A, h.depths.n, ints l.depths⟩, ⟨h.speeds.A, h.speeds.n, ints l.speeds⟩]
def ProfileR (h : ProfileH) : List (Option Nat) := [blkp h.depths.A h.depths.n, blkp h.speeds.A h.speeds.n]
def ProfileM (h : ProfileH) (q : Int) : List Sl := [⟨h.depths.A, h.depths.n, ints (marks (q) h.depths.n)⟩, ⟨h.speeds.A, h.speeds.n, ints (marks (q + (h.depths.n : Nat)) h.speeds.n)⟩]
def ProfileQ (h : ProfileH) (q : Int) : Int := q + (h.depths.n : Nat) + (h.speeds.n : Nat)
def ProfileOk (h : ProfileH) : Prop := h.depths.n ≤ 1048576 ∧ h.speeds.n ≤ 1048576
theorem ProfileQ_bd {h : ProfileH} (ok : ProfileOk h) (q : Int) : q ≤ ProfileQ h q ∧ ProfileQ h q ≤ q + 2097152 := by unfold ProfileQ; unfold ProfileOk at ok; omega

set_option maxHeartbeats 2000000 in
theorem toProfile_any (h : ProfileH) (l : ProfileC) (w : World) (ok : ProfileOk h) (hr : RdAll w (ProfileS h l)) :
    Calls Try.prog 67 #[ProfileV h l] w fun e w' => ∃ k, e = .returned (ProfileV k l) ∧ ProfileOk k ∧ RdAll w' (ProfileS k l) ∧ WrAll w' w.heap.size (ProfileS k l) ∧ Sep (ProfileR k) ∧ Below w.heap.size w w' := by
  obtain ⟨ok0, ok1⟩ := ok
  have r0 := hr.head
  have r1 := hr.tail.head
  obtain ⟨⟨A0, n0, c0⟩, ⟨A1, n1, c1⟩⟩ := h
  obtain ⟨l0, l1⟩ := l
  clear hr
  unfold ProfileV
  simp only at *
  go_enter Try.func67, Try.ntmps67
  go_wp2_with fail
  refine (toInt64S_any A0 n0 c0 l0 _ ok0 (r0.below (by (repeat (first | (with_reducible assumption) | (with_reducible exact Below.refl _ _) | (with_reducible refine Below.drew ?_) | (with_reducible refine Below.drewN ?_ _) | (with_reducible refine Below.setCell ?_ ?_ _) | (with_reducible refine Below.alloc ?_ ?_ _) | assumption)); all_goals (first | omega | (simp; done) | (simp; omega))))).mono ?_
  rintro e w1 ⟨rfl, s0, y0, b1, z1⟩
  have hw1 : Below w.heap.size w w1 := (show Below w.heap.size w _ from (by (repeat (first | (with_reducible assumption) | (with_reducible exact Below.refl _ _) | (with_reducible refine Below.drew ?_) | (with_reducible refine Below.drewN ?_ _) | (with_reducible refine Below.setCell ?_ ?_ _) | (with_reducible refine Below.alloc ?_ ?_ _) | assumption)); all_goals (first | omega | (simp; done) | (simp; omega)))).trans (b1.mono (by first | omega | (simp; done) | (simp; omega)))
  have z1' := b1.size
  simp at z1'
  have BP1 : Blk w1 w.heap.size 61 #[.slice A0 n0 c0, .slice A1 n1 c1] := (((Blk.new w _ _).alloc _).alloc _).below b1 (by first | omega | (simp; done) | (simp; omega))
  have BV1 : Blk w1 (w.heap.size + 1) 52 #[.slice none 0 0, .slice none 0 0] := ((Blk.new1 w _ _ _).alloc _).below b1 (by first | omega | (simp; done) | (simp; omega))
  have BO1 : Blk w1 (w.heap.size + 1 + 1) 52 #[.slice none 0 0, .slice none 0 0] := (Blk.new2 w _ _ _ _).below b1 (by first | omega | (simp; done) | (simp; omega))
  have cV1 := fun o => BV1.cell o
  have fV1 := fun o => BV1.frozen o
  have cP1 := fun o => BP1.cell o
  have cO1 := fun o => BO1.cell o
  have fO1 := fun o => BO1.frozen o
  have y0' := y0.lower (show w.heap.size + 3 ≤ _ from by first | omega | (simp; done) | (simp; omega))
  clear y0
  have y0 := y0'
  clear y0'
  have lo0 := s0.rowlt
  have hi0 : ∀ b, blkp _ n0 = some b → w.heap.size + 3 ≤ b := fun b => y0.blockp
  generalize hB0 : (some (⟨_, 0, none⟩ : Addr)) = B0 at s0 y0 lo0 hi0 ⊢
  clear hB0
  go_wp2_with fail
  refine (toInt64S_any A1 n1 c1 l1 _ ok1 (r1.below (by (repeat (first | (with_reducible assumption) | (with_reducible exact Below.refl _ _) | (with_reducible refine Below.drew ?_) | (with_reducible refine Below.drewN ?_ _) | (with_reducible refine Below.setCell ?_ ?_ _) | (with_reducible refine Below.alloc ?_ ?_ _) | assumption)); all_goals (first | omega | (simp; done) | (simp; omega))))).mono ?_
  rintro e w2 ⟨rfl, s1, y1, b2, z2⟩
  have hw2 : Below w.heap.size w w2 := (show Below w.heap.size w _ from (by (repeat (first | (with_reducible assumption) | (with_reducible exact Below.refl _ _) | (with_reducible refine Below.drew ?_) | (with_reducible refine Below.drewN ?_ _) | (with_reducible refine Below.setCell ?_ ?_ _) | (with_reducible refine Below.alloc ?_ ?_ _) | assumption)); all_goals (first | omega | (simp; done) | (simp; omega)))).trans (b2.mono (by first | omega | (simp; done) | (simp; omega)))
  have z2' := b2.size
  simp at z2'
  have BP2 : Blk w2 w.heap.size 61 #[.slice A0 n0 c0, .slice A1 n1 c1] := (BP1.far (by first | omega | (simp; done) | (simp; omega)) _).below b2 (by first | omega | (simp; done) | (simp; omega))
  have BV2 : Blk w2 (w.heap.size + 1) 52 #[.slice none 0 0, .slice none 0 0] := (BV1.far (by first | omega | (simp; done) | (simp; omega)) _).below b2 (by first | omega | (simp; done) | (simp; omega))
  have BO2 : Blk w2 (w.heap.size + 1 + 1) 52 #[.slice B0 n0 n0, .slice none 0 0] := (BO1.set_ 0 _).below b2 (by first | omega | (simp; done) | (simp; omega))
  have ab2 : Above (w.heap.size + 3) w1 w2 := ((Above.refl (w.heap.size + 3) w1).setCell (by first | omega | (simp; done) | (simp; omega)) _).below b2
  have t0 := s0.above y0 (by first | omega | (simp; done) | (simp; omega)) ab2
  have u0 := y0.above s0 (by first | omega | (simp; done) | (simp; omega)) ab2
  clear s0 y0
  have s0 := t0
  have y0 := u0
  clear t0 u0
  have cV2 := fun o => BV2.cell o
  have fV2 := fun o => BV2.frozen o
  have cP2 := fun o => BP2.cell o
  have cO2 := fun o => BO2.cell o
  have fO2 := fun o => BO2.frozen o
  clear cP1 cO1 fO1 cV1 fV1 BP1 BO1 BV1 ab2
  have y1' := y1.lower (show w1.heap.size ≤ _ from by first | omega | (simp; done) | (simp; omega))
  clear y1
  have y1 := y1'
  clear y1'
  have lo1 := s1.rowlt
  have hi1 : ∀ b, blkp _ n1 = some b → w1.heap.size ≤ b := fun b => y1.blockp
  generalize hB1 : (some (⟨_, 0, none⟩ : Addr)) = B1 at s1 y1 lo1 hi1 ⊢
  clear hB1
  go_wp2
  refine bodyPost_ret (v := .agg #[.slice B0 n0 n0, .slice B1 n1 n1]) (by simp [results, Try.results67, go_sem, cV2]) rfl ⟨⟨⟨B0, n0, n0⟩, ⟨B1, n1, n1⟩⟩, rfl, ⟨ok0, ok1⟩, ?_, ?_, ?_, ?_⟩
  all_goals clear cP2 cO2 fO2 cV2 fV2 BP2 BO2 BV2
  · show RdAll _ [⟨B0, n0, ints l0⟩, ⟨B1, n1, ints l1⟩]
    refine (RdAll.cons (s := ⟨B0, n0, ints l0⟩) (s0.above (B := w.heap.size + 3) y0 (by first | omega | (simp; done) | (simp; omega)) ?_) (RdAll.cons (s := ⟨B1, n1, ints l1⟩) (s1.above (B := w.heap.size + 3) y1 (by first | omega | (simp; done) | (simp; omega)) ?_) (RdAll.nil _)))
    all_goals repeat (first | refine Above.setCell ?_ (by first | omega | (simp; done) | (simp; omega)) _ | exact Above.refl _ _)
  · show WrAll _ _ [⟨B0, n0, ints l0⟩, ⟨B1, n1, ints l1⟩]
    refine (WrAll.cons (s := ⟨B0, n0, ints l0⟩) ((y0.above (B := w.heap.size + 3) s0 (by first | omega | (simp; done) | (simp; omega)) ?_).lower (by first | omega | (simp; done) | (simp; omega))) (WrAll.cons (s := ⟨B1, n1, ints l1⟩) ((y1.above (B := w.heap.size + 3) s1 (by first | omega | (simp; done) | (simp; omega)) ?_).lower (by first | omega | (simp; done) | (simp; omega))) (WrAll.nil _ _)))
    all_goals repeat (first | refine Above.setCell ?_ (by first | omega | (simp; done) | (simp; omega)) _ | exact Above.refl _ _)
  · clear s0 y0 s1 y1
    show Sep [blkp B0 n0, blkp B1 n1]
    exact (Sep.step lo0 (Hi.cons (fun b e => by have := hi1 b e; omega) (Hi.nil _)) (Sep.step lo1 (Hi.nil _) Sep.nil))
  · repeat (refine Below.setCell ?_ (by first | omega | (simp; done) | (simp; omega)) _)
    exact hw2

set_option maxHeartbeats 2000000 in
theorem eqProfile_any (h k : ProfileH) (l : ProfileC) (w : World) (ok : ProfileOk h) (hr : RdAll w (ProfileS h l)) (kr : RdAll w (ProfileS k l)) :
    Calls Try.prog 60 #[ProfileV h l, ProfileV k l] w fun e w' => e = .returned (.bool true) ∧ Below w.heap.size w w' := by
  obtain ⟨ok0, ok1⟩ := ok
  have r0 := hr.head
  have r1 := hr.tail.head
  have s0 := kr.head
  have s1 := kr.tail.head
  obtain ⟨⟨A0, n0, c0⟩, ⟨A1, n1, c1⟩⟩ := h
  obtain ⟨⟨B0, m0, d0⟩, ⟨B1, m1, d1⟩⟩ := k
  obtain ⟨l0, l1⟩ := l
  clear hr kr
  unfold ProfileV
  simp only at *
  obtain rfl : m0 = n0 := by have := r0.1; have := s0.1; omega
  obtain rfl : m1 = n1 := by have := r1.1; have := s1.1; omega
  go_enter Try.func60, Try.ntmps60
  go_wp2_with fail
  refine (eqInt64S_below A0 B0 m0 c0 d0 l0 _ (by omega) (r0.below (((Below.refl w.heap.size w).alloc (Nat.le_refl _) _).alloc (by first | omega | (simp; done) | (simp; omega)) _)) (s0.below (((Below.refl w.heap.size w).alloc (Nat.le_refl _) _).alloc (by first | omega | (simp; done) | (simp; omega)) _))).mono ?_
  rintro e w1 ⟨rfl, b1⟩
  have hw1 : Below w.heap.size w w1 := (((Below.refl w.heap.size w).alloc (Nat.le_refl _) _).alloc (by first | omega | (simp; done) | (simp; omega)) _).trans (b1.mono (by first | omega | (simp; done) | (simp; omega)))
  have BP1 : Blk w1 w.heap.size 52 #[.slice A0 m0 c0, .slice A1 m1 c1] := ((Blk.new w _ _).alloc _).below b1 (by first | omega | (simp; done) | (simp; omega))
  have BV1 : Blk w1 (w.heap.size + 1) 52 #[.slice B0 m0 d0, .slice B1 m1 d1] := (Blk.new1 w _ _ _).below b1 (by first | omega | (simp; done) | (simp; omega))
  have cP1 := fun o => BP1.cell o
  have cV1 := fun o => BV1.cell o
  go_wp2_with fail
  refine (eqInt64S_below A1 B1 m1 c1 d1 l1 _ (by omega) (r1.below (hw1)) (s1.below (hw1))).mono ?_
  rintro e w2 ⟨rfl, b2⟩
  have hw2 : Below w.heap.size w w2 := (hw1).trans (b2.mono (hw1.size))
  go_wp2
  go_ret
  exact ⟨rfl, hw2⟩

set_option maxHeartbeats 2000000 in
theorem markProfile_any (h : ProfileH) (l : ProfileC) (q : Int) (B : Nat) (w : World) (ok : ProfileOk h) (h0 : 0 ≤ q) (hq : q ≤ 536870912) (hr : RdAll w (ProfileS h l)) (hw : WrAll w B (ProfileS h l)) (hs : Sep (ProfileR h)) :
    Calls Try.prog 62 #[ProfileV h l, .int .i64 q] w fun e w' => e = .returned (.int .i64 (ProfileQ h q)) ∧ Touch w w' (ProfileR h) ∧ RdAll w' (ProfileM h q) ∧ WrAll w' B (ProfileM h q) := by
  obtain ⟨ok0, ok1⟩ := ok
  have r0 := hr.head
  have r1 := hr.tail.head
  have y0 := hw.head
  have y1 := hw.tail.head
  have o0_1 := hs.off.head
  have o1_0 := o0_1.swap
  obtain ⟨⟨A0, n0, c0⟩, ⟨A1, n1, c1⟩⟩ := h
  obtain ⟨l0, l1⟩ := l
  clear hr hw hs
  unfold ProfileV ProfileQ
  simp only at *
  have lo0 := r0.rowlt
  have lo1 := r1.rowlt
  go_enter Try.func62, Try.ntmps62
  go_wp2_with fail
  have T0 := Touch.alloc w (.cells #[.slice A0 n0 c0, .slice A1 n1 c1] 52)
  have BP0 := Blk.new w 52 #[.slice A0 n0 c0, .slice A1 n1 c1]
  generalize hw0 : w.alloc (.cells #[.slice A0 n0 c0, .slice A1 n1 c1] 52) = w0 at T0 BP0 ⊢
  have hb0 : Below w.heap.size w w0 := by rw [← hw0]; exact (Below.refl _ _).alloc (Nat.le_refl _) _
  have s0 := r0.below hb0
  have u0 := y0.below r0 hb0
  clear r0 y0
  have s1 := r1.below hb0
  have u1 := y1.below r1 hb0
  clear r1 y1
  refine (markInt64S_any A0 n0 c0 _ (q) B _ ok0 (by omega) (by omega) s0 u0).mono ?_
  rintro e w1 ⟨rfl, g1, -, s0', u0'⟩
  clear s0 u0
  have T1 := T0.trans (Touch.of_grown g1)
  have s0 := s0'
  have u0 := u0'
  clear s0' u0'
  have s1' := s1.touch (Touch.of_grown g1) o0_1
  have u1' := u1.touch s1 (Touch.of_grown g1) o0_1
  clear s1 u1
  have s1 := s1'
  have u1 := u1'
  clear s1' u1'
  have BP1 := BP0.grown g1 (fun c => by have := lo0 _ c; omega)
  have cP1 := fun o => BP1.cell o
  clear BP0 T0
  go_wp2_with fail
  have hqq1 : q + (n0 : Int) ≤ 1073741824 := by omega
  refine (markInt64S_any A1 n1 c1 _ (q + (n0 : Int)) B _ ok1 (by omega) (by omega) s1 u1).mono ?_
  rintro e w2 ⟨rfl, g2, -, s1', u1'⟩
  clear s1 u1
  have T2 := T1.trans (Touch.of_grown g2)
  have s0' := s0.touch (Touch.of_grown g2) o1_0
  have u0' := u0.touch s0 (Touch.of_grown g2) o1_0
  clear s0 u0
  have s0 := s0'
  have u0 := u0'
  clear s0' u0'
  have s1 := s1'
  have u1 := u1'
  clear s1' u1'
  have BP2 := BP1.grown g2 (fun c => by have := lo1 _ c; omega)
  have cP2 := fun o => BP2.cell o
  clear BP1 T1 cP1
  go_wp2
  go_ret
  exact ⟨rfl, T2, (RdAll.cons (s := ⟨A0, n0, ints (marks (q) n0)⟩) s0 (RdAll.cons (s := ⟨A1, n1, ints (marks (q + (n0 : Int)) n1)⟩) s1 (RdAll.nil _))), (WrAll.cons (s := ⟨A0, n0, ints (marks (q) n0)⟩) u0 (WrAll.cons (s := ⟨A1, n1, ints (marks (q + (n0 : Int)) n1)⟩) u1 (WrAll.nil _ _)))⟩

set_option maxHeartbeats 2000000 in
theorem heldProfile_any (h : ProfileH) (l : ProfileC) (q : Int) (w : World) (ok : ProfileOk h) (h0 : 0 ≤ q) (hq : q ≤ 536870912) (hr : RdAll w (ProfileM h q)) :
    Calls Try.prog 63 #[ProfileV h l, .int .i64 q] w fun e w' => e = .returned (.int .i64 (ProfileQ h q)) ∧ Below w.heap.size w w' := by
  obtain ⟨ok0, ok1⟩ := ok
  have r0 := hr.head
  have r1 := hr.tail.head
  obtain ⟨⟨A0, n0, c0⟩, ⟨A1, n1, c1⟩⟩ := h
  obtain ⟨l0, l1⟩ := l
  clear hr
  unfold ProfileV ProfileQ
  simp only at *
  have hb0 : Below w.heap.size w (w.alloc (.cells #[.slice A0 n0 c0, .slice A1 n1 c1] 52)) := (Below.refl _ _).alloc (Nat.le_refl _) _
  go_enter Try.func63, Try.ntmps63
  go_wp2_with fail
  refine (heldInt64S_same A0 n0 c0 (q) _ ok0 (by omega) (by omega) (r0.below hb0)).mono ?_
  rintro e w' ⟨rfl, rfl⟩
  have q1 : ¬ q + (n0 : Int) < 0 := by omega
  go_wp2_with fail
  refine (heldInt64S_same A1 n1 c1 (q + (n0 : Int)) _ ok1 (by omega) (by omega) (r1.below hb0)).mono ?_
  rintro e w' ⟨rfl, rfl⟩
  have q2 : ¬ q + (n0 : Int) + (n1 : Int) < 0 := by omega
  go_wp2
  go_ret
  exact ⟨rfl, hb0⟩

set_option maxHeartbeats 2000000 in
theorem szProfile_any (h : ProfileH) (l : ProfileC) (q : Int) (w : World) (hm : h.depths.n ≤ 9223372036854775807 ∧ h.speeds.n ≤ 9223372036854775807) (h0 : 0 ≤ q) (hq : q ≤ 1048576) :
    Calls Try.prog 65 #[ProfileV h l, .int .i64 q] w fun e w' => ∃ v : Int, e = .returned (.int .i64 v) ∧ (v < 0 ∨ 0 ≤ v ∧ v ≤ q ∧ ProfileOk h) ∧ Below w.heap.size w w' := by
  obtain ⟨hm0, hm1⟩ := hm
  obtain ⟨⟨A0, n0, c0⟩, ⟨A1, n1, c1⟩⟩ := h
  obtain ⟨l0, l1⟩ := l
  unfold ProfileV
  simp only at *
  have hb0 : Below w.heap.size w (w.alloc (.cells #[.slice A0 n0 c0, .slice A1 n1 c1] 61)) := (Below.refl _ _).alloc (Nat.le_refl _) _
  go_enter Try.func65, Try.ntmps65
  by_cases k0 : q < (n0 : Int)
  · have sz := szInt64S_any A0 n0 c0 (q) (w.alloc (.cells #[.slice A0 n0 c0, .slice A1 n1 c1] 61)) hm0 (by omega) (by omega)
    rw [if_pos k0] at sz
    go_wp2_with fail
    refine sz.mono ?_
    rintro e w' ⟨rfl, rfl⟩
    clear sz
    go_wp2
    go_ret
    exact ⟨-1, rfl, .inl (by decide), hb0⟩
  · have sz := szInt64S_any A0 n0 c0 (q) (w.alloc (.cells #[.slice A0 n0 c0, .slice A1 n1 c1] 61)) hm0 (by omega) (by omega)
    rw [if_neg k0] at sz
    go_wp2_with fail
    refine sz.mono ?_
    rintro e w' ⟨rfl, rfl⟩
    clear sz
    have p0 : ¬ q - (n0 : Int) < 0 := by omega
    by_cases k1 : q - (n0 : Int) < (n1 : Int)
    · have sz := szInt64S_any A1 n1 c1 (q - (n0 : Int)) (w.alloc (.cells #[.slice A0 n0 c0, .slice A1 n1 c1] 61)) hm1 (by omega) (by omega)
      rw [if_pos k1] at sz
      go_wp2_with fail
      refine sz.mono ?_
      rintro e w' ⟨rfl, rfl⟩
      clear sz
      go_wp2
      go_ret
      exact ⟨-1, rfl, .inl (by decide), hb0⟩
    · have sz := szInt64S_any A1 n1 c1 (q - (n0 : Int)) (w.alloc (.cells #[.slice A0 n0 c0, .slice A1 n1 c1] 61)) hm1 (by omega) (by omega)
      rw [if_neg k1] at sz
      go_wp2_with fail
      refine sz.mono ?_
      rintro e w' ⟨rfl, rfl⟩
      clear sz
      have p1 : ¬ q - (n0 : Int) - (n1 : Int) < 0 := by omega
      go_wp2
      go_ret
      exact ⟨_, rfl, .inr ⟨by omega, by omega, ⟨(by omega : n0 ≤ 1048576), (by omega : n1 ≤ 1048576)⟩⟩, hb0⟩
end Go.Proofs.Ytphpjmkebnadoaa
