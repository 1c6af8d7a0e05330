/- The statements' own helpers for Gauge: a copy, a comparison, marks laid and found, a size. No condition beyond lengths of at most 1048576 where memory is made. -/
import Derived.Test.YtphpjmkebnadoaaTI
namespace Go.Proofs.Ytphpjmkebnadoaa
open Go.RowKit

/-- The heads of its slices. -/
structure GaugeH where
  times : Hd
  levels : Hd
/-- What it holds. -/
structure GaugeC where
  times : List Int
  levels : List Int
def GaugeV (h : GaugeH) (l : GaugeC) : Value := .agg #[.slice h.times.A h.times.n h.times.c, .slice h.levels.A h.levels.n h.levels.c]
def GaugeS (h : GaugeH) (l : GaugeC) : List Sl := [⟨h.times.A, h.times.n, ints l.times⟩, ⟨h.levels.A, h.levels.n, ints l.levels⟩]
def GaugeR (h : GaugeH) : List (Option Nat) := [blkp h.times.A h.times.n, blkp h.levels.A h.levels.n]
def GaugeM (h : GaugeH) (q : Int) : List Sl := [⟨h.times.A, h.times.n, ints (marks (q) h.times.n)⟩, ⟨h.levels.A, h.levels.n, ints (marks (q + (h.times.n : Nat)) h.levels.n)⟩]
def GaugeQ (h : GaugeH) (q : Int) : Int := q + (h.times.n : Nat) + (h.levels.n : Nat)
def GaugeOk (h : GaugeH) : Prop := h.times.n ≤ 1048576 ∧ h.levels.n ≤ 1048576
theorem GaugeQ_bd {h : GaugeH} (ok : GaugeOk h) (q : Int) : q ≤ GaugeQ h q ∧ GaugeQ h q ≤ q + 2097152 := by unfold GaugeQ; unfold GaugeOk at ok; omega

set_option maxHeartbeats 2000000 in
theorem eqGauge_any (h k : GaugeH) (l : GaugeC) (w : World) (ok : GaugeOk h) (hr : RdAll w (GaugeS h l)) (kr : RdAll w (GaugeS k l)) :
    Calls Try.prog 12 #[GaugeV h l, GaugeV k l] w fun e w' => e = .returned (.bool true) ∧ Below w.heap.size w w' := by
  obtain ⟨ok0, ok1⟩ := ok
  have r0 := hr.head
  have r1 := hr.tail.head
  have s0 := kr.head
  have s1 := kr.tail.head
  obtain ⟨⟨A0, n0, c0⟩, ⟨A1, n1, c1⟩⟩ := h
  obtain ⟨⟨B0, m0, d0⟩, ⟨B1, m1, d1⟩⟩ := k
  obtain ⟨l0, l1⟩ := l
  clear hr kr
  unfold GaugeV
  simp only at *
  obtain rfl : m0 = n0 := by have := r0.1; have := s0.1; omega
  obtain rfl : m1 = n1 := by have := r1.1; have := s1.1; omega
  go_enter Try.func12, Try.ntmps12
  go_wp2_with fail
  refine (eqInt64S_below A0 B0 m0 c0 d0 l0 _ (by omega) (r0.below (((Below.refl w.heap.size w).alloc (Nat.le_refl _) _).alloc (by first | omega | (simp; done) | (simp; omega)) _)) (s0.below (((Below.refl w.heap.size w).alloc (Nat.le_refl _) _).alloc (by first | omega | (simp; done) | (simp; omega)) _))).mono ?_
  rintro e w1 ⟨rfl, b1⟩
  have hw1 : Below w.heap.size w w1 := (((Below.refl w.heap.size w).alloc (Nat.le_refl _) _).alloc (by first | omega | (simp; done) | (simp; omega)) _).trans (b1.mono (by first | omega | (simp; done) | (simp; omega)))
  have BP1 : Blk w1 w.heap.size 26 #[.slice A0 m0 c0, .slice A1 m1 c1] := ((Blk.new w _ _).alloc _).below b1 (by first | omega | (simp; done) | (simp; omega))
  have BV1 : Blk w1 (w.heap.size + 1) 26 #[.slice B0 m0 d0, .slice B1 m1 d1] := (Blk.new1 w _ _ _).below b1 (by first | omega | (simp; done) | (simp; omega))
  have cP1 := fun o => BP1.cell o
  have cV1 := fun o => BV1.cell o
  go_wp2_with fail
  refine (eqInt64S_below A1 B1 m1 c1 d1 l1 _ (by omega) (r1.below (hw1)) (s1.below (hw1))).mono ?_
  rintro e w2 ⟨rfl, b2⟩
  have hw2 : Below w.heap.size w w2 := (hw1).trans (b2.mono (hw1.size))
  go_wp2
  go_ret
  exact ⟨rfl, hw2⟩

set_option maxHeartbeats 2000000 in
theorem markGauge_any (h : GaugeH) (l : GaugeC) (q : Int) (B : Nat) (w : World) (ok : GaugeOk h) (h0 : 0 ≤ q) (hq : q ≤ 536870912) (hr : RdAll w (GaugeS h l)) (hw : WrAll w B (GaugeS h l)) (hs : Sep (GaugeR h)) :
    Calls Try.prog 15 #[GaugeV h l, .int .i64 q] w fun e w' => e = .returned (.int .i64 (GaugeQ h q)) ∧ Touch w w' (GaugeR h) ∧ RdAll w' (GaugeM h q) ∧ WrAll w' B (GaugeM h q) := by
  obtain ⟨ok0, ok1⟩ := ok
  have r0 := hr.head
  have r1 := hr.tail.head
  have y0 := hw.head
  have y1 := hw.tail.head
  have o0_1 := hs.off.head
  have o1_0 := o0_1.swap
  obtain ⟨⟨A0, n0, c0⟩, ⟨A1, n1, c1⟩⟩ := h
  obtain ⟨l0, l1⟩ := l
  clear hr hw hs
  unfold GaugeV GaugeQ
  simp only at *
  have lo0 := r0.rowlt
  have lo1 := r1.rowlt
  go_enter Try.func15, Try.ntmps15
  go_wp2_with fail
  have T0 := Touch.alloc w (.cells #[.slice A0 n0 c0, .slice A1 n1 c1] 26)
  have BP0 := Blk.new w 26 #[.slice A0 n0 c0, .slice A1 n1 c1]
  generalize hw0 : w.alloc (.cells #[.slice A0 n0 c0, .slice A1 n1 c1] 26) = w0 at T0 BP0 ⊢
  have hb0 : Below w.heap.size w w0 := by rw [← hw0]; exact (Below.refl _ _).alloc (Nat.le_refl _) _
  have s0 := r0.below hb0
  have u0 := y0.below r0 hb0
  clear r0 y0
  have s1 := r1.below hb0
  have u1 := y1.below r1 hb0
  clear r1 y1
  refine (markInt64S_any A0 n0 c0 _ (q) B _ ok0 (by omega) (by omega) s0 u0).mono ?_
  rintro e w1 ⟨rfl, g1, -, s0', u0'⟩
  clear s0 u0
  have T1 := T0.trans (Touch.of_grown g1)
  have s0 := s0'
  have u0 := u0'
  clear s0' u0'
  have s1' := s1.touch (Touch.of_grown g1) o0_1
  have u1' := u1.touch s1 (Touch.of_grown g1) o0_1
  clear s1 u1
  have s1 := s1'
  have u1 := u1'
  clear s1' u1'
  have BP1 := BP0.grown g1 (fun c => by have := lo0 _ c; omega)
  have cP1 := fun o => BP1.cell o
  clear BP0 T0
  go_wp2_with fail
  have hqq1 : q + (n0 : Int) ≤ 1073741824 := by omega
  refine (markInt64S_any A1 n1 c1 _ (q + (n0 : Int)) B _ ok1 (by omega) (by omega) s1 u1).mono ?_
  rintro e w2 ⟨rfl, g2, -, s1', u1'⟩
  clear s1 u1
  have T2 := T1.trans (Touch.of_grown g2)
  have s0' := s0.touch (Touch.of_grown g2) o1_0
  have u0' := u0.touch s0 (Touch.of_grown g2) o1_0
  clear s0 u0
  have s0 := s0'
  have u0 := u0'
  clear s0' u0'
  have s1 := s1'
  have u1 := u1'
  clear s1' u1'
  have BP2 := BP1.grown g2 (fun c => by have := lo1 _ c; omega)
  have cP2 := fun o => BP2.cell o
  clear BP1 T1 cP1
  go_wp2
  go_ret
  exact ⟨rfl, T2, (RdAll.cons (s := ⟨A0, n0, ints (marks (q) n0)⟩) s0 (RdAll.cons (s := ⟨A1, n1, ints (marks (q + (n0 : Int)) n1)⟩) s1 (RdAll.nil _))), (WrAll.cons (s := ⟨A0, n0, ints (marks (q) n0)⟩) u0 (WrAll.cons (s := ⟨A1, n1, ints (marks (q + (n0 : Int)) n1)⟩) u1 (WrAll.nil _ _)))⟩

set_option maxHeartbeats 2000000 in
theorem heldGauge_any (h : GaugeH) (l : GaugeC) (q : Int) (w : World) (ok : GaugeOk h) (h0 : 0 ≤ q) (hq : q ≤ 536870912) (hr : RdAll w (GaugeM h q)) :
    Calls Try.prog 16 #[GaugeV h l, .int .i64 q] w fun e w' => e = .returned (.int .i64 (GaugeQ h q)) ∧ Below w.heap.size w w' := by
  obtain ⟨ok0, ok1⟩ := ok
  have r0 := hr.head
  have r1 := hr.tail.head
  obtain ⟨⟨A0, n0, c0⟩, ⟨A1, n1, c1⟩⟩ := h
  obtain ⟨l0, l1⟩ := l
  clear hr
  unfold GaugeV GaugeQ
  simp only at *
  have hb0 : Below w.heap.size w (w.alloc (.cells #[.slice A0 n0 c0, .slice A1 n1 c1] 26)) := (Below.refl _ _).alloc (Nat.le_refl _) _
  go_enter Try.func16, Try.ntmps16
  go_wp2_with fail
  refine (heldInt64S_same A0 n0 c0 (q) _ ok0 (by omega) (by omega) (r0.below hb0)).mono ?_
  rintro e w' ⟨rfl, rfl⟩
  have q1 : ¬ q + (n0 : Int) < 0 := by omega
  go_wp2_with fail
  refine (heldInt64S_same A1 n1 c1 (q + (n0 : Int)) _ ok1 (by omega) (by omega) (r1.below hb0)).mono ?_
  rintro e w' ⟨rfl, rfl⟩
  have q2 : ¬ q + (n0 : Int) + (n1 : Int) < 0 := by omega
  go_wp2
  go_ret
  exact ⟨rfl, hb0⟩

end Go.Proofs.Ytphpjmkebnadoaa
