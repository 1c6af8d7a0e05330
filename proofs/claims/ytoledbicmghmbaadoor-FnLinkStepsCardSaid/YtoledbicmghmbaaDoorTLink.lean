/- The statements' own helpers for Link: a copy, a comparison, marks laid and found, a size. No condition beyond lengths of at most 1048576 where memory is made. -/
import Derived.Test.YtoledbicmghmbaaDoorPacketS
namespace Go.Proofs.YtoledbicmghmbaaDoor
open Go.RowKit

/-- The heads of its slices. -/
structure LinkH where
  items : Hd
  packets : Hd
  acks : Hd
  got : Hd
/-- What it holds. -/
structure LinkC where
  items : List Int
  base : Int
  next : Int
  packets : List Int
  acks : List Int
  got : List Int
def LinkV (h : LinkH) (l : LinkC) : Value := .agg #[.slice h.items.A h.items.n h.items.c, .int .i64 l.base, .int .i64 l.next, .slice h.packets.A h.packets.n h.packets.c, .slice h.acks.A h.acks.n h.acks.c, .slice h.got.A h.got.n h.got.c]
def LinkS (h : LinkH) (l : LinkC) : List Sl := [⟨h.items.A, h.items.n, ints l.items⟩, ⟨h.packets.A, (h.packets.n * 2), ints l.packets⟩, ⟨h.acks.A, h.acks.n, ints l.acks⟩, ⟨h.got.A, h.got.n, ints l.got⟩]
def LinkR (h : LinkH) : List (Option Nat) := [blkp h.items.A h.items.n, blkp h.packets.A (h.packets.n * 2), blkp h.acks.A h.acks.n, blkp h.got.A h.got.n]
def LinkM (h : LinkH) (q : Int) : List Sl := [⟨h.items.A, h.items.n, ints (marks (q) h.items.n)⟩, ⟨h.packets.A, (h.packets.n * 2), ints (marks (q + (h.items.n : Nat)) (h.packets.n * 2))⟩, ⟨h.acks.A, h.acks.n, ints (marks (q + (h.items.n : Nat) + ((h.packets.n * 2) : Nat)) h.acks.n)⟩, ⟨h.got.A, h.got.n, ints (marks (q + (h.items.n : Nat) + ((h.packets.n * 2) : Nat) + (h.acks.n : Nat)) h.got.n)⟩]
def LinkQ (h : LinkH) (q : Int) : Int := q + (h.items.n : Nat) + ((h.packets.n * 2) : Nat) + (h.acks.n : Nat) + (h.got.n : Nat)
def LinkOk (h : LinkH) : Prop := h.items.n ≤ 1048576 ∧ h.packets.n ≤ 1048576 ∧ h.acks.n ≤ 1048576 ∧ h.got.n ≤ 1048576
theorem LinkQ_bd {h : LinkH} (ok : LinkOk h) (q : Int) : q ≤ LinkQ h q ∧ LinkQ h q ≤ q + 5242880 := by unfold LinkQ; unfold LinkOk at ok; omega

set_option maxHeartbeats 2000000 in
theorem toLink_any (h : LinkH) (l : LinkC) (w : World) (ok : LinkOk h) (hr : RdAll w (LinkS h l)) :
    Calls Tryd.prog 21 #[LinkV h l] w fun e w' => ∃ k, e = .returned (LinkV k l) ∧ LinkOk k ∧ RdAll w' (LinkS k l) ∧ WrAll w' w.heap.size (LinkS k l) ∧ Sep (LinkR k) ∧ Below w.heap.size w w' := by
  obtain ⟨ok0, ok3, ok4, ok5⟩ := ok
  have r0 := hr.head
  have r3 := hr.tail.head
  have r4 := hr.tail.tail.head
  have r5 := hr.tail.tail.tail.head
  obtain ⟨⟨A0, n0, c0⟩, ⟨A3, n3, c3⟩, ⟨A4, n4, c4⟩, ⟨A5, n5, c5⟩⟩ := h
  obtain ⟨l0, x1, x2, l3, l4, l5⟩ := l
  clear hr
  unfold LinkV
  simp only at *
  go_enter Tryd.func21, Tryd.ntmps21
  go_wp2_with fail
  refine (toInt64S_any A0 n0 c0 l0 _ ok0 (r0.below (by (repeat (first | (with_reducible assumption) | (with_reducible exact Below.refl _ _) | (with_reducible refine Below.drew ?_) | (with_reducible refine Below.drewN ?_ _) | (with_reducible refine Below.setCell ?_ ?_ _) | (with_reducible refine Below.alloc ?_ ?_ _) | assumption)); all_goals (first | omega | (simp; done) | (simp; omega))))).mono ?_
  rintro e w1 ⟨rfl, s0, y0, b1, z1⟩
  have hw1 : Below w.heap.size w w1 := (show Below w.heap.size w _ from (by (repeat (first | (with_reducible assumption) | (with_reducible exact Below.refl _ _) | (with_reducible refine Below.drew ?_) | (with_reducible refine Below.drewN ?_ _) | (with_reducible refine Below.setCell ?_ ?_ _) | (with_reducible refine Below.alloc ?_ ?_ _) | assumption)); all_goals (first | omega | (simp; done) | (simp; omega)))).trans (b1.mono (by first | omega | (simp; done) | (simp; omega)))
  have z1' := b1.size
  simp at z1'
  have BP1 : Blk w1 w.heap.size 43 #[.slice A0 n0 c0, .int .i64 x1, .int .i64 x2, .slice A3 n3 c3, .slice A4 n4 c4, .slice A5 n5 c5] := (((Blk.new w _ _).alloc _).alloc _).below b1 (by first | omega | (simp; done) | (simp; omega))
  have BV1 : Blk w1 (w.heap.size + 1) 48 #[.slice none 0 0, .int .i64 0, .int .i64 0, .slice none 0 0, .slice none 0 0, .slice none 0 0] := ((Blk.new1 w _ _ _).alloc _).below b1 (by first | omega | (simp; done) | (simp; omega))
  have BO1 : Blk w1 (w.heap.size + 1 + 1) 48 #[.slice none 0 0, .int .i64 0, .int .i64 0, .slice none 0 0, .slice none 0 0, .slice none 0 0] := (Blk.new2 w _ _ _ _).below b1 (by first | omega | (simp; done) | (simp; omega))
  have cV1 := fun o => BV1.cell o
  have fV1 := fun o => BV1.frozen o
  have cP1 := fun o => BP1.cell o
  have cO1 := fun o => BO1.cell o
  have fO1 := fun o => BO1.frozen o
  have y0' := y0.lower (show w.heap.size + 3 ≤ _ from by first | omega | (simp; done) | (simp; omega))
  clear y0
  have y0 := y0'
  clear y0'
  have lo0 := s0.rowlt
  have hi0 : ∀ b, blkp _ n0 = some b → w.heap.size + 3 ≤ b := fun b => y0.blockp
  generalize hB0 : (some (⟨_, 0, none⟩ : Addr)) = B0 at s0 y0 lo0 hi0 ⊢
  clear hB0
  go_wp2_with fail
  refine (toPacketS_any A3 n3 c3 l3 _ ok3 (r3.below (by (repeat (first | (with_reducible assumption) | (with_reducible exact Below.refl _ _) | (with_reducible refine Below.drew ?_) | (with_reducible refine Below.drewN ?_ _) | (with_reducible refine Below.setCell ?_ ?_ _) | (with_reducible refine Below.alloc ?_ ?_ _) | assumption)); all_goals (first | omega | (simp; done) | (simp; omega))))).mono ?_
  rintro e w2 ⟨rfl, s3, y3, b2, z2⟩
  have hw2 : Below w.heap.size w w2 := (show Below w.heap.size w _ from (by (repeat (first | (with_reducible assumption) | (with_reducible exact Below.refl _ _) | (with_reducible refine Below.drew ?_) | (with_reducible refine Below.drewN ?_ _) | (with_reducible refine Below.setCell ?_ ?_ _) | (with_reducible refine Below.alloc ?_ ?_ _) | assumption)); all_goals (first | omega | (simp; done) | (simp; omega)))).trans (b2.mono (by first | omega | (simp; done) | (simp; omega)))
  have z2' := b2.size
  simp at z2'
  have BP2 : Blk w2 w.heap.size 43 #[.slice A0 n0 c0, .int .i64 x1, .int .i64 x2, .slice A3 n3 c3, .slice A4 n4 c4, .slice A5 n5 c5] := (((BP1.far (by first | omega | (simp; done) | (simp; omega)) _).far (by first | omega | (simp; done) | (simp; omega)) _).far (by first | omega | (simp; done) | (simp; omega)) _).below b2 (by first | omega | (simp; done) | (simp; omega))
  have BV2 : Blk w2 (w.heap.size + 1) 48 #[.slice none 0 0, .int .i64 0, .int .i64 0, .slice none 0 0, .slice none 0 0, .slice none 0 0] := (((BV1.far (by first | omega | (simp; done) | (simp; omega)) _).far (by first | omega | (simp; done) | (simp; omega)) _).far (by first | omega | (simp; done) | (simp; omega)) _).below b2 (by first | omega | (simp; done) | (simp; omega))
  have BO2 : Blk w2 (w.heap.size + 1 + 1) 48 #[.slice B0 n0 n0, .int .i64 x1, .int .i64 x2, .slice none 0 0, .slice none 0 0, .slice none 0 0] := (((BO1.set_ 0 _).set_ 1 _).set_ 2 _).below b2 (by first | omega | (simp; done) | (simp; omega))
  have ab2 : Above (w.heap.size + 3) w1 w2 := ((((Above.refl (w.heap.size + 3) w1).setCell (by first | omega | (simp; done) | (simp; omega)) _).setCell (by first | omega | (simp; done) | (simp; omega)) _).setCell (by first | omega | (simp; done) | (simp; omega)) _).below b2
  have t0 := s0.above y0 (by first | omega | (simp; done) | (simp; omega)) ab2
  have u0 := y0.above s0 (by first | omega | (simp; done) | (simp; omega)) ab2
  clear s0 y0
  have s0 := t0
  have y0 := u0
  clear t0 u0
  have cV2 := fun o => BV2.cell o
  have fV2 := fun o => BV2.frozen o
  have cP2 := fun o => BP2.cell o
  have cO2 := fun o => BO2.cell o
  have fO2 := fun o => BO2.frozen o
  clear cP1 cO1 fO1 cV1 fV1 BP1 BO1 BV1 ab2
  have y3' := y3.lower (show w1.heap.size ≤ _ from by first | omega | (simp; done) | (simp; omega))
  clear y3
  have y3 := y3'
  clear y3'
  have lo3 := s3.rowlt
  have hi3 : ∀ b, blkp _ (n3 * 2) = some b → w1.heap.size ≤ b := fun b => y3.blockp
  generalize hB3 : (some (⟨_, 0, none⟩ : Addr)) = B3 at s3 y3 lo3 hi3 ⊢
  clear hB3
  go_wp2_with fail
  refine (toInt64S_any A4 n4 c4 l4 _ ok4 (r4.below (by (repeat (first | (with_reducible assumption) | (with_reducible exact Below.refl _ _) | (with_reducible refine Below.drew ?_) | (with_reducible refine Below.drewN ?_ _) | (with_reducible refine Below.setCell ?_ ?_ _) | (with_reducible refine Below.alloc ?_ ?_ _) | assumption)); all_goals (first | omega | (simp; done) | (simp; omega))))).mono ?_
  rintro e w3 ⟨rfl, s4, y4, b3, z3⟩
  have hw3 : Below w.heap.size w w3 := (show Below w.heap.size w _ from (by (repeat (first | (with_reducible assumption) | (with_reducible exact Below.refl _ _) | (with_reducible refine Below.drew ?_) | (with_reducible refine Below.drewN ?_ _) | (with_reducible refine Below.setCell ?_ ?_ _) | (with_reducible refine Below.alloc ?_ ?_ _) | assumption)); all_goals (first | omega | (simp; done) | (simp; omega)))).trans (b3.mono (by first | omega | (simp; done) | (simp; omega)))
  have z3' := b3.size
  simp at z3'
  have BP3 : Blk w3 w.heap.size 43 #[.slice A0 n0 c0, .int .i64 x1, .int .i64 x2, .slice A3 n3 c3, .slice A4 n4 c4, .slice A5 n5 c5] := (BP2.far (by first | omega | (simp; done) | (simp; omega)) _).below b3 (by first | omega | (simp; done) | (simp; omega))
  have BV3 : Blk w3 (w.heap.size + 1) 48 #[.slice none 0 0, .int .i64 0, .int .i64 0, .slice none 0 0, .slice none 0 0, .slice none 0 0] := (BV2.far (by first | omega | (simp; done) | (simp; omega)) _).below b3 (by first | omega | (simp; done) | (simp; omega))
  have BO3 : Blk w3 (w.heap.size + 1 + 1) 48 #[.slice B0 n0 n0, .int .i64 x1, .int .i64 x2, .slice B3 n3 n3, .slice none 0 0, .slice none 0 0] := (BO2.set_ 3 _).below b3 (by first | omega | (simp; done) | (simp; omega))
  have ab3 : Above (w.heap.size + 3) w2 w3 := ((Above.refl (w.heap.size + 3) w2).setCell (by first | omega | (simp; done) | (simp; omega)) _).below b3
  have t0 := s0.above y0 (by first | omega | (simp; done) | (simp; omega)) ab3
  have u0 := y0.above s0 (by first | omega | (simp; done) | (simp; omega)) ab3
  clear s0 y0
  have s0 := t0
  have y0 := u0
  clear t0 u0
  have t3 := s3.above y3 (by first | omega | (simp; done) | (simp; omega)) ab3
  have u3 := y3.above s3 (by first | omega | (simp; done) | (simp; omega)) ab3
  clear s3 y3
  have s3 := t3
  have y3 := u3
  clear t3 u3
  have cV3 := fun o => BV3.cell o
  have fV3 := fun o => BV3.frozen o
  have cP3 := fun o => BP3.cell o
  have cO3 := fun o => BO3.cell o
  have fO3 := fun o => BO3.frozen o
  clear cP2 cO2 fO2 cV2 fV2 BP2 BO2 BV2 ab3
  have y4' := y4.lower (show w2.heap.size ≤ _ from by first | omega | (simp; done) | (simp; omega))
  clear y4
  have y4 := y4'
  clear y4'
  have lo4 := s4.rowlt
  have hi4 : ∀ b, blkp _ n4 = some b → w2.heap.size ≤ b := fun b => y4.blockp
  generalize hB4 : (some (⟨_, 0, none⟩ : Addr)) = B4 at s4 y4 lo4 hi4 ⊢
  clear hB4
  go_wp2_with fail
  refine (toInt64S_any A5 n5 c5 l5 _ ok5 (r5.below (by (repeat (first | (with_reducible assumption) | (with_reducible exact Below.refl _ _) | (with_reducible refine Below.drew ?_) | (with_reducible refine Below.drewN ?_ _) | (with_reducible refine Below.setCell ?_ ?_ _) | (with_reducible refine Below.alloc ?_ ?_ _) | assumption)); all_goals (first | omega | (simp; done) | (simp; omega))))).mono ?_
  rintro e w4 ⟨rfl, s5, y5, b4, z4⟩
  have hw4 : Below w.heap.size w w4 := (show Below w.heap.size w _ from (by (repeat (first | (with_reducible assumption) | (with_reducible exact Below.refl _ _) | (with_reducible refine Below.drew ?_) | (with_reducible refine Below.drewN ?_ _) | (with_reducible refine Below.setCell ?_ ?_ _) | (with_reducible refine Below.alloc ?_ ?_ _) | assumption)); all_goals (first | omega | (simp; done) | (simp; omega)))).trans (b4.mono (by first | omega | (simp; done) | (simp; omega)))
  have z4' := b4.size
  simp at z4'
  have BP4 : Blk w4 w.heap.size 43 #[.slice A0 n0 c0, .int .i64 x1, .int .i64 x2, .slice A3 n3 c3, .slice A4 n4 c4, .slice A5 n5 c5] := (BP3.far (by first | omega | (simp; done) | (simp; omega)) _).below b4 (by first | omega | (simp; done) | (simp; omega))
  have BV4 : Blk w4 (w.heap.size + 1) 48 #[.slice none 0 0, .int .i64 0, .int .i64 0, .slice none 0 0, .slice none 0 0, .slice none 0 0] := (BV3.far (by first | omega | (simp; done) | (simp; omega)) _).below b4 (by first | omega | (simp; done) | (simp; omega))
  have BO4 : Blk w4 (w.heap.size + 1 + 1) 48 #[.slice B0 n0 n0, .int .i64 x1, .int .i64 x2, .slice B3 n3 n3, .slice B4 n4 n4, .slice none 0 0] := (BO3.set_ 4 _).below b4 (by first | omega | (simp; done) | (simp; omega))
  have ab4 : Above (w.heap.size + 3) w3 w4 := ((Above.refl (w.heap.size + 3) w3).setCell (by first | omega | (simp; done) | (simp; omega)) _).below b4
  have t0 := s0.above y0 (by first | omega | (simp; done) | (simp; omega)) ab4
  have u0 := y0.above s0 (by first | omega | (simp; done) | (simp; omega)) ab4
  clear s0 y0
  have s0 := t0
  have y0 := u0
  clear t0 u0
  have t3 := s3.above y3 (by first | omega | (simp; done) | (simp; omega)) ab4
  have u3 := y3.above s3 (by first | omega | (simp; done) | (simp; omega)) ab4
  clear s3 y3
  have s3 := t3
  have y3 := u3
  clear t3 u3
  have t4 := s4.above y4 (by first | omega | (simp; done) | (simp; omega)) ab4
  have u4 := y4.above s4 (by first | omega | (simp; done) | (simp; omega)) ab4
  clear s4 y4
  have s4 := t4
  have y4 := u4
  clear t4 u4
  have cV4 := fun o => BV4.cell o
  have fV4 := fun o => BV4.frozen o
  have cP4 := fun o => BP4.cell o
  have cO4 := fun o => BO4.cell o
  have fO4 := fun o => BO4.frozen o
  clear cP3 cO3 fO3 cV3 fV3 BP3 BO3 BV3 ab4
  have y5' := y5.lower (show w3.heap.size ≤ _ from by first | omega | (simp; done) | (simp; omega))
  clear y5
  have y5 := y5'
  clear y5'
  have lo5 := s5.rowlt
  have hi5 : ∀ b, blkp _ n5 = some b → w3.heap.size ≤ b := fun b => y5.blockp
  generalize hB5 : (some (⟨_, 0, none⟩ : Addr)) = B5 at s5 y5 lo5 hi5 ⊢
  clear hB5
  go_wp2
  refine bodyPost_ret (v := .agg #[.slice B0 n0 n0, .int .i64 x1, .int .i64 x2, .slice B3 n3 n3, .slice B4 n4 n4, .slice B5 n5 n5]) (by simp [results, Tryd.results21, go_sem, cV4]) rfl ⟨⟨⟨B0, n0, n0⟩, ⟨B3, n3, n3⟩, ⟨B4, n4, n4⟩, ⟨B5, n5, n5⟩⟩, rfl, ⟨ok0, ok3, ok4, ok5⟩, ?_, ?_, ?_, ?_⟩
  all_goals clear cP4 cO4 fO4 cV4 fV4 BP4 BO4 BV4
  · show RdAll _ [⟨B0, n0, ints l0⟩, ⟨B3, (n3 * 2), ints l3⟩, ⟨B4, n4, ints l4⟩, ⟨B5, n5, ints l5⟩]
    refine (RdAll.cons (s := ⟨B0, n0, ints l0⟩) (s0.above (B := w.heap.size + 3) y0 (by first | omega | (simp; done) | (simp; omega)) ?_) (RdAll.cons (s := ⟨B3, (n3 * 2), ints l3⟩) (s3.above (B := w.heap.size + 3) y3 (by first | omega | (simp; done) | (simp; omega)) ?_) (RdAll.cons (s := ⟨B4, n4, ints l4⟩) (s4.above (B := w.heap.size + 3) y4 (by first | omega | (simp; done) | (simp; omega)) ?_) (RdAll.cons (s := ⟨B5, n5, ints l5⟩) (s5.above (B := w.heap.size + 3) y5 (by first | omega | (simp; done) | (simp; omega)) ?_) (RdAll.nil _)))))
    all_goals repeat (first | refine Above.setCell ?_ (by first | omega | (simp; done) | (simp; omega)) _ | exact Above.refl _ _)
  · show WrAll _ _ [⟨B0, n0, ints l0⟩, ⟨B3, (n3 * 2), ints l3⟩, ⟨B4, n4, ints l4⟩, ⟨B5, n5, ints l5⟩]
    refine (WrAll.cons (s := ⟨B0, n0, ints l0⟩) ((y0.above (B := w.heap.size + 3) s0 (by first | omega | (simp; done) | (simp; omega)) ?_).lower (by first | omega | (simp; done) | (simp; omega))) (WrAll.cons (s := ⟨B3, (n3 * 2), ints l3⟩) ((y3.above (B := w.heap.size + 3) s3 (by first | omega | (simp; done) | (simp; omega)) ?_).lower (by first | omega | (simp; done) | (simp; omega))) (WrAll.cons (s := ⟨B4, n4, ints l4⟩) ((y4.above (B := w.heap.size + 3) s4 (by first | omega | (simp; done) | (simp; omega)) ?_).lower (by first | omega | (simp; done) | (simp; omega))) (WrAll.cons (s := ⟨B5, n5, ints l5⟩) ((y5.above (B := w.heap.size + 3) s5 (by first | omega | (simp; done) | (simp; omega)) ?_).lower (by first | omega | (simp; done) | (simp; omega))) (WrAll.nil _ _)))))
    all_goals repeat (first | refine Above.setCell ?_ (by first | omega | (simp; done) | (simp; omega)) _ | exact Above.refl _ _)
  · clear s0 y0 s3 y3 s4 y4 s5 y5
    show Sep [blkp B0 n0, blkp B3 (n3 * 2), blkp B4 n4, blkp B5 n5]
    exact (Sep.step lo0 (Hi.cons (fun b e => by have := hi3 b e; omega) (Hi.cons (fun b e => by have := hi4 b e; omega) (Hi.cons (fun b e => by have := hi5 b e; omega) (Hi.nil _)))) (Sep.step lo3 (Hi.cons (fun b e => by have := hi4 b e; omega) (Hi.cons (fun b e => by have := hi5 b e; omega) (Hi.nil _))) (Sep.step lo4 (Hi.cons (fun b e => by have := hi5 b e; omega) (Hi.nil _)) (Sep.step lo5 (Hi.nil _) Sep.nil))))
  · repeat (refine Below.setCell ?_ (by first | omega | (simp; done) | (simp; omega)) _)
    exact hw4

set_option maxHeartbeats 2000000 in
theorem eqLink_any (h k : LinkH) (l : LinkC) (w : World) (ok : LinkOk h) (hr : RdAll w (LinkS h l)) (kr : RdAll w (LinkS k l)) :
    Calls Tryd.prog 23 #[LinkV h l, LinkV k l] w fun e w' => e = .returned (.bool true) ∧ Below w.heap.size w w' := by
  obtain ⟨ok0, ok3, ok4, ok5⟩ := ok
  have r0 := hr.head
  have r3 := hr.tail.head
  have r4 := hr.tail.tail.head
  have r5 := hr.tail.tail.tail.head
  have s0 := kr.head
  have s3 := kr.tail.head
  have s4 := kr.tail.tail.head
  have s5 := kr.tail.tail.tail.head
  obtain ⟨⟨A0, n0, c0⟩, ⟨A3, n3, c3⟩, ⟨A4, n4, c4⟩, ⟨A5, n5, c5⟩⟩ := h
  obtain ⟨⟨B0, m0, d0⟩, ⟨B3, m3, d3⟩, ⟨B4, m4, d4⟩, ⟨B5, m5, d5⟩⟩ := k
  obtain ⟨l0, x1, x2, l3, l4, l5⟩ := l
  clear hr kr
  unfold LinkV
  simp only at *
  obtain rfl : m0 = n0 := by have := r0.1; have := s0.1; omega
  obtain rfl : m3 = n3 := by have := r3.1; have := s3.1; omega
  obtain rfl : m4 = n4 := by have := r4.1; have := s4.1; omega
  obtain rfl : m5 = n5 := by have := r5.1; have := s5.1; omega
  go_enter Tryd.func23, Tryd.ntmps23
  go_wp2_with fail
  refine (eqInt64S_below A0 B0 m0 c0 d0 l0 _ (by omega) (r0.below (((Below.refl w.heap.size w).alloc (Nat.le_refl _) _).alloc (by first | omega | (simp; done) | (simp; omega)) _)) (s0.below (((Below.refl w.heap.size w).alloc (Nat.le_refl _) _).alloc (by first | omega | (simp; done) | (simp; omega)) _))).mono ?_
  rintro e w1 ⟨rfl, b1⟩
  have hw1 : Below w.heap.size w w1 := (((Below.refl w.heap.size w).alloc (Nat.le_refl _) _).alloc (by first | omega | (simp; done) | (simp; omega)) _).trans (b1.mono (by first | omega | (simp; done) | (simp; omega)))
  have BP1 : Blk w1 w.heap.size 48 #[.slice A0 m0 c0, .int .i64 x1, .int .i64 x2, .slice A3 m3 c3, .slice A4 m4 c4, .slice A5 m5 c5] := ((Blk.new w _ _).alloc _).below b1 (by first | omega | (simp; done) | (simp; omega))
  have BV1 : Blk w1 (w.heap.size + 1) 48 #[.slice B0 m0 d0, .int .i64 x1, .int .i64 x2, .slice B3 m3 d3, .slice B4 m4 d4, .slice B5 m5 d5] := (Blk.new1 w _ _ _).below b1 (by first | omega | (simp; done) | (simp; omega))
  have cP1 := fun o => BP1.cell o
  have cV1 := fun o => BV1.cell o
  go_wp2_with fail
  refine (eqPacketS_below A3 B3 m3 c3 d3 l3 _ ok3 (r3.below (hw1)) (s3.below (hw1))).mono ?_
  rintro e w2 ⟨rfl, b2⟩
  have hw2 : Below w.heap.size w w2 := (hw1).trans (b2.mono (hw1.size))
  have BP2 : Blk w2 w.heap.size 48 #[.slice A0 m0 c0, .int .i64 x1, .int .i64 x2, .slice A3 m3 c3, .slice A4 m4 c4, .slice A5 m5 c5] := BP1.below b2 BP1.lt
  have BV2 : Blk w2 (w.heap.size + 1) 48 #[.slice B0 m0 d0, .int .i64 x1, .int .i64 x2, .slice B3 m3 d3, .slice B4 m4 d4, .slice B5 m5 d5] := BV1.below b2 BV1.lt
  clear cP1 cV1 BP1 BV1
  have cP2 := fun o => BP2.cell o
  have cV2 := fun o => BV2.cell o
  go_wp2_with fail
  refine (eqInt64S_below A4 B4 m4 c4 d4 l4 _ (by omega) (r4.below (hw2)) (s4.below (hw2))).mono ?_
  rintro e w3 ⟨rfl, b3⟩
  have hw3 : Below w.heap.size w w3 := (hw2).trans (b3.mono (hw2.size))
  have BP3 : Blk w3 w.heap.size 48 #[.slice A0 m0 c0, .int .i64 x1, .int .i64 x2, .slice A3 m3 c3, .slice A4 m4 c4, .slice A5 m5 c5] := BP2.below b3 BP2.lt
  have BV3 : Blk w3 (w.heap.size + 1) 48 #[.slice B0 m0 d0, .int .i64 x1, .int .i64 x2, .slice B3 m3 d3, .slice B4 m4 d4, .slice B5 m5 d5] := BV2.below b3 BV2.lt
  clear cP2 cV2 BP2 BV2
  have cP3 := fun o => BP3.cell o
  have cV3 := fun o => BV3.cell o
  go_wp2_with fail
  refine (eqInt64S_below A5 B5 m5 c5 d5 l5 _ (by omega) (r5.below (hw3)) (s5.below (hw3))).mono ?_
  rintro e w4 ⟨rfl, b4⟩
  have hw4 : Below w.heap.size w w4 := (hw3).trans (b4.mono (hw3.size))
  go_wp2
  go_ret
  exact ⟨rfl, hw4⟩

set_option maxHeartbeats 2000000 in
theorem szLink_any (h : LinkH) (l : LinkC) (q : Int) (w : World) (hm : h.items.n ≤ 9223372036854775807 ∧ h.packets.n ≤ 9223372036854775807 ∧ h.acks.n ≤ 9223372036854775807 ∧ h.got.n ≤ 9223372036854775807) (h0 : 0 ≤ q) (hq : q ≤ 1048576) :
    Calls Tryd.prog 19 #[LinkV h l, .int .i64 q] w fun e w' => ∃ v : Int, e = .returned (.int .i64 v) ∧ (v < 0 ∨ 0 ≤ v ∧ v ≤ q ∧ LinkOk h) ∧ Below w.heap.size w w' := by
  obtain ⟨hm0, hm3, hm4, hm5⟩ := hm
  obtain ⟨⟨A0, n0, c0⟩, ⟨A3, n3, c3⟩, ⟨A4, n4, c4⟩, ⟨A5, n5, c5⟩⟩ := h
  obtain ⟨l0, x1, x2, l3, l4, l5⟩ := l
  unfold LinkV
  simp only at *
  have hb0 : Below w.heap.size w (w.alloc (.cells #[.slice A0 n0 c0, .int .i64 x1, .int .i64 x2, .slice A3 n3 c3, .slice A4 n4 c4, .slice A5 n5 c5] 43)) := (Below.refl _ _).alloc (Nat.le_refl _) _
  go_enter Tryd.func19, Tryd.ntmps19
  by_cases k0 : q < (n0 : Int)
  · have sz := szInt64S_any A0 n0 c0 (q) (w.alloc (.cells #[.slice A0 n0 c0, .int .i64 x1, .int .i64 x2, .slice A3 n3 c3, .slice A4 n4 c4, .slice A5 n5 c5] 43)) hm0 (by omega) (by omega)
    rw [if_pos k0] at sz
    go_wp2_with fail
    refine sz.mono ?_
    rintro e w' ⟨rfl, rfl⟩
    clear sz
    go_wp2
    go_ret
    exact ⟨-1, rfl, .inl (by decide), hb0⟩
  · have sz := szInt64S_any A0 n0 c0 (q) (w.alloc (.cells #[.slice A0 n0 c0, .int .i64 x1, .int .i64 x2, .slice A3 n3 c3, .slice A4 n4 c4, .slice A5 n5 c5] 43)) hm0 (by omega) (by omega)
    rw [if_neg k0] at sz
    go_wp2_with fail
    refine sz.mono ?_
    rintro e w' ⟨rfl, rfl⟩
    clear sz
    have p0 : ¬ q - (n0 : Int) < 0 := by omega
    by_cases k3 : q - (n0 : Int) < (n3 : Int)
    · have sz := szPacketS_any A3 n3 c3 (q - (n0 : Int)) (w.alloc (.cells #[.slice A0 n0 c0, .int .i64 x1, .int .i64 x2, .slice A3 n3 c3, .slice A4 n4 c4, .slice A5 n5 c5] 43)) hm3 (by omega) (by omega)
      rw [if_pos k3] at sz
      go_wp2_with fail
      refine sz.mono ?_
      rintro e w' ⟨rfl, rfl⟩
      clear sz
      go_wp2
      go_ret
      exact ⟨-1, rfl, .inl (by decide), hb0⟩
    · have sz := szPacketS_any A3 n3 c3 (q - (n0 : Int)) (w.alloc (.cells #[.slice A0 n0 c0, .int .i64 x1, .int .i64 x2, .slice A3 n3 c3, .slice A4 n4 c4, .slice A5 n5 c5] 43)) hm3 (by omega) (by omega)
      rw [if_neg k3] at sz
      go_wp2_with fail
      refine sz.mono ?_
      rintro e w' ⟨rfl, rfl⟩
      clear sz
      have p3 : ¬ q - (n0 : Int) - (n3 : Int) < 0 := by omega
      by_cases k4 : q - (n0 : Int) - (n3 : Int) < (n4 : Int)
      · have sz := szInt64S_any A4 n4 c4 (q - (n0 : Int) - (n3 : Int)) (w.alloc (.cells #[.slice A0 n0 c0, .int .i64 x1, .int .i64 x2, .slice A3 n3 c3, .slice A4 n4 c4, .slice A5 n5 c5] 43)) hm4 (by omega) (by omega)
        rw [if_pos k4] at sz
        go_wp2_with fail
        refine sz.mono ?_
        rintro e w' ⟨rfl, rfl⟩
        clear sz
        go_wp2
        go_ret
        exact ⟨-1, rfl, .inl (by decide), hb0⟩
      · have sz := szInt64S_any A4 n4 c4 (q - (n0 : Int) - (n3 : Int)) (w.alloc (.cells #[.slice A0 n0 c0, .int .i64 x1, .int .i64 x2, .slice A3 n3 c3, .slice A4 n4 c4, .slice A5 n5 c5] 43)) hm4 (by omega) (by omega)
        rw [if_neg k4] at sz
        go_wp2_with fail
        refine sz.mono ?_
        rintro e w' ⟨rfl, rfl⟩
        clear sz
        have p4 : ¬ q - (n0 : Int) - (n3 : Int) - (n4 : Int) < 0 := by omega
        by_cases k5 : q - (n0 : Int) - (n3 : Int) - (n4 : Int) < (n5 : Int)
        · have sz := szInt64S_any A5 n5 c5 (q - (n0 : Int) - (n3 : Int) - (n4 : Int)) (w.alloc (.cells #[.slice A0 n0 c0, .int .i64 x1, .int .i64 x2, .slice A3 n3 c3, .slice A4 n4 c4, .slice A5 n5 c5] 43)) hm5 (by omega) (by omega)
          rw [if_pos k5] at sz
          go_wp2_with fail
          refine sz.mono ?_
          rintro e w' ⟨rfl, rfl⟩
          clear sz
          go_wp2
          go_ret
          exact ⟨-1, rfl, .inl (by decide), hb0⟩
        · have sz := szInt64S_any A5 n5 c5 (q - (n0 : Int) - (n3 : Int) - (n4 : Int)) (w.alloc (.cells #[.slice A0 n0 c0, .int .i64 x1, .int .i64 x2, .slice A3 n3 c3, .slice A4 n4 c4, .slice A5 n5 c5] 43)) hm5 (by omega) (by omega)
          rw [if_neg k5] at sz
          go_wp2_with fail
          refine sz.mono ?_
          rintro e w' ⟨rfl, rfl⟩
          clear sz
          have p5 : ¬ q - (n0 : Int) - (n3 : Int) - (n4 : Int) - (n5 : Int) < 0 := by omega
          go_wp2
          go_ret
          exact ⟨_, rfl, .inr ⟨by omega, by omega, ⟨(by omega : n0 ≤ 1048576), (by omega : n3 ≤ 1048576), (by omega : n4 ≤ 1048576), (by omega : n5 ≤ 1048576)⟩⟩, hb0⟩
end Go.Proofs.YtoledbicmghmbaaDoor
