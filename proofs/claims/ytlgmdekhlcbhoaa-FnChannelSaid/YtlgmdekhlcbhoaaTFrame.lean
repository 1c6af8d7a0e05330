/- The statements' own helpers for Frame: a copy, a comparison, marks laid and found, a size. No condition beyond lengths of at most 1048576 where memory is made. -/
import Derived.Test.YtlgmdekhlcbhoaaKern
namespace Go.Proofs.Ytlgmdekhlcbhoaa
open Go.RowKit

/-- The heads of its slices. -/
structure FrameH where
  payload : Hd
/-- What it holds. -/
structure FrameC where
  kind : Int
  number : Int
  payload : List Int
def FrameV (h : FrameH) (l : FrameC) : Value := .agg #[.int .i64 l.kind, .int .i64 l.number, .slice h.payload.A h.payload.n h.payload.c]
def FrameS (h : FrameH) (l : FrameC) : List Sl := [⟨h.payload.A, h.payload.n, ints l.payload⟩]
def FrameR (h : FrameH) : List (Option Nat) := [blkp h.payload.A h.payload.n]
def FrameM (h : FrameH) (q : Int) : List Sl := [⟨h.payload.A, h.payload.n, ints (marks (q) h.payload.n)⟩]
def FrameQ (h : FrameH) (q : Int) : Int := q + (h.payload.n : Nat)
def FrameOk (h : FrameH) : Prop := h.payload.n ≤ 1048576
theorem FrameQ_bd {h : FrameH} (ok : FrameOk h) (q : Int) : q ≤ FrameQ h q ∧ FrameQ h q ≤ q + 1048576 := by unfold FrameQ; unfold FrameOk at ok; omega

set_option maxHeartbeats 2000000 in
theorem toFrame_any (h : FrameH) (l : FrameC) (w : World) (ok : FrameOk h) (hr : RdAll w (FrameS h l)) :
    Calls Try.prog 17 #[FrameV h l] w fun e w' => ∃ k, e = .returned (FrameV k l) ∧ FrameOk k ∧ RdAll w' (FrameS k l) ∧ WrAll w' w.heap.size (FrameS k l) ∧ Sep (FrameR k) ∧ Below w.heap.size w w' := by
  have ok2 := ok
  unfold FrameOk at ok2
  have r2 := hr.head
  obtain ⟨⟨A2, n2, c2⟩⟩ := h
  obtain ⟨x0, x1, l2⟩ := l
  clear hr
  unfold FrameV
  simp only at *
  go_enter Try.func17, Try.ntmps17
  go_wp2_with fail
  refine (toInt64S_any A2 n2 c2 l2 _ ok2 (r2.below (by (repeat (first | (with_reducible assumption) | (with_reducible exact Below.refl _ _) | (with_reducible refine Below.drew ?_) | (with_reducible refine Below.drewN ?_ _) | (with_reducible refine Below.setCell ?_ ?_ _) | (with_reducible refine Below.alloc ?_ ?_ _) | assumption)); all_goals (first | omega | (simp; done) | (simp; omega))))).mono ?_
  rintro e w1 ⟨rfl, s2, y2, b1, z1⟩
  have hw1 : Below w.heap.size w w1 := (show Below w.heap.size w _ from (by (repeat (first | (with_reducible assumption) | (with_reducible exact Below.refl _ _) | (with_reducible refine Below.drew ?_) | (with_reducible refine Below.drewN ?_ _) | (with_reducible refine Below.setCell ?_ ?_ _) | (with_reducible refine Below.alloc ?_ ?_ _) | assumption)); all_goals (first | omega | (simp; done) | (simp; omega)))).trans (b1.mono (by first | omega | (simp; done) | (simp; omega)))
  have z1' := b1.size
  simp at z1'
  have BP1 : Blk w1 w.heap.size 24 #[.int .i64 x0, .int .i64 x1, .slice A2 n2 c2] := (((Blk.new w _ _).alloc _).alloc _).below b1 (by first | omega | (simp; done) | (simp; omega))
  have BV1 : Blk w1 (w.heap.size + 1) 28 #[.int .i64 0, .int .i64 0, .slice none 0 0] := ((Blk.new1 w _ _ _).alloc _).below b1 (by first | omega | (simp; done) | (simp; omega))
  have BO1 : Blk w1 (w.heap.size + 1 + 1) 28 #[.int .i64 x0, .int .i64 x1, .slice none 0 0] := (Blk.new2 w _ _ _ _).below b1 (by first | omega | (simp; done) | (simp; omega))
  have cV1 := fun o => BV1.cell o
  have fV1 := fun o => BV1.frozen o
  have cP1 := fun o => BP1.cell o
  have cO1 := fun o => BO1.cell o
  have fO1 := fun o => BO1.frozen o
  have y2' := y2.lower (show w.heap.size + 3 ≤ _ from by first | omega | (simp; done) | (simp; omega))
  clear y2
  have y2 := y2'
  clear y2'
  have lo2 := s2.rowlt
  have hi2 : ∀ b, blkp _ n2 = some b → w.heap.size + 3 ≤ b := fun b => y2.blockp
  generalize hB2 : (some (⟨_, 0, none⟩ : Addr)) = B2 at s2 y2 lo2 hi2 ⊢
  clear hB2
  go_wp2
  refine bodyPost_ret (v := .agg #[.int .i64 x0, .int .i64 x1, .slice B2 n2 n2]) (by simp [results, Try.results17, go_sem, cV1]) rfl ⟨⟨⟨B2, n2, n2⟩⟩, rfl, ok2, ?_, ?_, ?_, ?_⟩
  all_goals clear cP1 cO1 fO1 cV1 fV1 BP1 BO1 BV1
  · show RdAll _ [⟨B2, n2, ints l2⟩]
    refine (RdAll.cons (s := ⟨B2, n2, ints l2⟩) (s2.above (B := w.heap.size + 3) y2 (by first | omega | (simp; done) | (simp; omega)) ?_) (RdAll.nil _))
    all_goals repeat (first | refine Above.setCell ?_ (by first | omega | (simp; done) | (simp; omega)) _ | exact Above.refl _ _)
  · show WrAll _ _ [⟨B2, n2, ints l2⟩]
    refine (WrAll.cons (s := ⟨B2, n2, ints l2⟩) ((y2.above (B := w.heap.size + 3) s2 (by first | omega | (simp; done) | (simp; omega)) ?_).lower (by first | omega | (simp; done) | (simp; omega))) (WrAll.nil _ _))
    all_goals repeat (first | refine Above.setCell ?_ (by first | omega | (simp; done) | (simp; omega)) _ | exact Above.refl _ _)
  · clear s2 y2
    show Sep [blkp B2 n2]
    exact (Sep.step lo2 (Hi.nil _) Sep.nil)
  · repeat (refine Below.setCell ?_ (by first | omega | (simp; done) | (simp; omega)) _)
    exact hw1

set_option maxHeartbeats 2000000 in
theorem eqFrame_any (h k : FrameH) (l : FrameC) (w : World) (ok : FrameOk h) (hr : RdAll w (FrameS h l)) (kr : RdAll w (FrameS k l)) :
    Calls Try.prog 20 #[FrameV h l, FrameV k l] w fun e w' => e = .returned (.bool true) ∧ Below w.heap.size w w' := by
  have ok2 := ok
  unfold FrameOk at ok2
  have r2 := hr.head
  have s2 := kr.head
  obtain ⟨⟨A2, n2, c2⟩⟩ := h
  obtain ⟨⟨B2, m2, d2⟩⟩ := k
  obtain ⟨x0, x1, l2⟩ := l
  clear hr kr
  unfold FrameV
  simp only at *
  obtain rfl : m2 = n2 := by have := r2.1; have := s2.1; omega
  go_enter Try.func20, Try.ntmps20
  go_wp2_with fail
  refine (eqInt64S_below A2 B2 m2 c2 d2 l2 _ (by omega) (r2.below (((Below.refl w.heap.size w).alloc (Nat.le_refl _) _).alloc (by first | omega | (simp; done) | (simp; omega)) _)) (s2.below (((Below.refl w.heap.size w).alloc (Nat.le_refl _) _).alloc (by first | omega | (simp; done) | (simp; omega)) _))).mono ?_
  rintro e w1 ⟨rfl, b1⟩
  have hw1 : Below w.heap.size w w1 := (((Below.refl w.heap.size w).alloc (Nat.le_refl _) _).alloc (by first | omega | (simp; done) | (simp; omega)) _).trans (b1.mono (by first | omega | (simp; done) | (simp; omega)))
  go_wp2
  go_ret
  exact ⟨rfl, hw1⟩

set_option maxHeartbeats 2000000 in
theorem markFrame_any (h : FrameH) (l : FrameC) (q : Int) (B : Nat) (w : World) (ok : FrameOk h) (h0 : 0 ≤ q) (hq : q ≤ 536870912) (hr : RdAll w (FrameS h l)) (hw : WrAll w B (FrameS h l)) (hs : Sep (FrameR h)) :
    Calls Try.prog 21 #[FrameV h l, .int .i64 q] w fun e w' => e = .returned (.int .i64 (FrameQ h q)) ∧ Touch w w' (FrameR h) ∧ RdAll w' (FrameM h q) ∧ WrAll w' B (FrameM h q) := by
  have ok2 := ok
  unfold FrameOk at ok2
  have r2 := hr.head
  have y2 := hw.head
  obtain ⟨⟨A2, n2, c2⟩⟩ := h
  obtain ⟨x0, x1, l2⟩ := l
  clear hr hw hs
  unfold FrameV FrameQ
  simp only at *
  have lo2 := r2.rowlt
  go_enter Try.func21, Try.ntmps21
  go_wp2_with fail
  have T0 := Touch.alloc w (.cells #[.int .i64 x0, .int .i64 x1, .slice A2 n2 c2] 28)
  have BP0 := Blk.new w 28 #[.int .i64 x0, .int .i64 x1, .slice A2 n2 c2]
  generalize hw0 : w.alloc (.cells #[.int .i64 x0, .int .i64 x1, .slice A2 n2 c2] 28) = w0 at T0 BP0 ⊢
  have hb0 : Below w.heap.size w w0 := by rw [← hw0]; exact (Below.refl _ _).alloc (Nat.le_refl _) _
  have s2 := r2.below hb0
  have u2 := y2.below r2 hb0
  clear r2 y2
  refine (markInt64S_any A2 n2 c2 _ (q) B _ ok2 (by omega) (by omega) s2 u2).mono ?_
  rintro e w1 ⟨rfl, g1, -, s2', u2'⟩
  clear s2 u2
  have T1 := T0.trans (Touch.of_grown g1)
  have s2 := s2'
  have u2 := u2'
  clear s2' u2'
  have BP1 := BP0.grown g1 (fun c => by have := lo2 _ c; omega)
  have cP1 := fun o => BP1.cell o
  clear BP0 T0
  go_wp2
  go_ret
  exact ⟨rfl, T1, (RdAll.cons (s := ⟨A2, n2, ints (marks (q) n2)⟩) s2 (RdAll.nil _)), (WrAll.cons (s := ⟨A2, n2, ints (marks (q) n2)⟩) u2 (WrAll.nil _ _))⟩

set_option maxHeartbeats 2000000 in
theorem heldFrame_any (h : FrameH) (l : FrameC) (q : Int) (w : World) (ok : FrameOk h) (h0 : 0 ≤ q) (hq : q ≤ 536870912) (hr : RdAll w (FrameM h q)) :
    Calls Try.prog 29 #[FrameV h l, .int .i64 q] w fun e w' => e = .returned (.int .i64 (FrameQ h q)) ∧ Below w.heap.size w w' := by
  have ok2 := ok
  unfold FrameOk at ok2
  have r2 := hr.head
  obtain ⟨⟨A2, n2, c2⟩⟩ := h
  obtain ⟨x0, x1, l2⟩ := l
  clear hr
  unfold FrameV FrameQ
  simp only at *
  have hb0 : Below w.heap.size w (w.alloc (.cells #[.int .i64 x0, .int .i64 x1, .slice A2 n2 c2] 28)) := (Below.refl _ _).alloc (Nat.le_refl _) _
  go_enter Try.func29, Try.ntmps29
  go_wp2_with fail
  refine (heldInt64S_same A2 n2 c2 (q) _ ok2 (by omega) (by omega) (r2.below hb0)).mono ?_
  rintro e w' ⟨rfl, rfl⟩
  have q1 : ¬ q + (n2 : Int) < 0 := by omega
  go_wp2
  go_ret
  exact ⟨rfl, hb0⟩

set_option maxHeartbeats 2000000 in
theorem szFrame_any (h : FrameH) (l : FrameC) (q : Int) (w : World) (hm : h.payload.n ≤ 9223372036854775807) (h0 : 0 ≤ q) (hq : q ≤ 1048576) :
    Calls Try.prog 15 #[FrameV h l, .int .i64 q] w fun e w' => ∃ v : Int, e = .returned (.int .i64 v) ∧ (v < 0 ∨ 0 ≤ v ∧ v ≤ q ∧ FrameOk h) ∧ Below w.heap.size w w' := by
  have hm2 := hm
  obtain ⟨⟨A2, n2, c2⟩⟩ := h
  obtain ⟨x0, x1, l2⟩ := l
  unfold FrameV
  simp only at *
  have hb0 : Below w.heap.size w (w.alloc (.cells #[.int .i64 x0, .int .i64 x1, .slice A2 n2 c2] 24)) := (Below.refl _ _).alloc (Nat.le_refl _) _
  go_enter Try.func15, Try.ntmps15
  by_cases k2 : q < (n2 : Int)
  · have sz := szInt64S_any A2 n2 c2 (q) (w.alloc (.cells #[.int .i64 x0, .int .i64 x1, .slice A2 n2 c2] 24)) hm2 (by omega) (by omega)
    rw [if_pos k2] at sz
    go_wp2_with fail
    refine sz.mono ?_
    rintro e w' ⟨rfl, rfl⟩
    clear sz
    go_wp2
    go_ret
    exact ⟨-1, rfl, .inl (by decide), hb0⟩
  · have sz := szInt64S_any A2 n2 c2 (q) (w.alloc (.cells #[.int .i64 x0, .int .i64 x1, .slice A2 n2 c2] 24)) hm2 (by omega) (by omega)
    rw [if_neg k2] at sz
    go_wp2_with fail
    refine sz.mono ?_
    rintro e w' ⟨rfl, rfl⟩
    clear sz
    have p2 : ¬ q - (n2 : Int) < 0 := by omega
    go_wp2
    go_ret
    exact ⟨_, rfl, .inr ⟨by omega, by omega, (by omega : n2 ≤ 1048576)⟩, hb0⟩
end Go.Proofs.Ytlgmdekhlcbhoaa
