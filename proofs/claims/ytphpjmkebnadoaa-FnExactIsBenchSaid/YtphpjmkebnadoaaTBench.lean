/- The statements' own helpers for Bench: a copy, a comparison, marks laid and found, a size. No condition beyond lengths of at most 1048576 where memory is made. -/
import Derived.Test.YtphpjmkebnadoaaRecT
import Derived.Test.YtphpjmkebnadoaaTProfile
namespace Go.Proofs.Ytphpjmkebnadoaa
open Go.RowKit

/-- The heads of its slices. -/
structure BenchH where
  depths : Hd
  speeds : Hd
  log : Hd
/-- What it holds. -/
structure BenchC where
  depths : List Int
  speeds : List Int
  source : Int
  cos : Int
  sin : Int
  hyp : Int
  log : List Int
def BenchV (h : BenchH) (l : BenchC) : Value := .agg #[.slice h.depths.A h.depths.n h.depths.c, .slice h.speeds.A h.speeds.n h.speeds.c, .int .i64 l.source, .int .i64 l.cos, .int .i64 l.sin, .int .i64 l.hyp, .slice h.log.A h.log.n h.log.c]
def BenchS (h : BenchH) (l : BenchC) : List Sl := [⟨h.depths.A, h.depths.n, ints l.depths⟩, ⟨h.speeds.A, h.speeds.n, ints l.speeds⟩, ⟨h.log.A, (h.log.n * 7), ints l.log⟩]
def BenchR (h : BenchH) : List (Option Nat) := [blkp h.depths.A h.depths.n, blkp h.speeds.A h.speeds.n, blkp h.log.A (h.log.n * 7)]
def BenchM (h : BenchH) (q : Int) : List Sl := [⟨h.depths.A, h.depths.n, ints (marks (q) h.depths.n)⟩, ⟨h.speeds.A, h.speeds.n, ints (marks (q + (h.depths.n : Nat)) h.speeds.n)⟩, ⟨h.log.A, (h.log.n * 7), ints (marks (q + (h.depths.n : Nat) + (h.speeds.n : Nat)) (h.log.n * 7))⟩]
def BenchQ (h : BenchH) (q : Int) : Int := q + (h.depths.n : Nat) + (h.speeds.n : Nat) + ((h.log.n * 7) : Nat)
def BenchOk (h : BenchH) : Prop := h.depths.n ≤ 1048576 ∧ h.speeds.n ≤ 1048576 ∧ h.log.n ≤ 1048576
theorem BenchQ_bd {h : BenchH} (ok : BenchOk h) (q : Int) : q ≤ BenchQ h q ∧ BenchQ h q ≤ q + 9437184 := by unfold BenchQ; unfold BenchOk at ok; omega

theorem eqDirection_bel (c s h : Int) (w : World) :
    Calls Try.prog 61 #[.agg #[.int .i64 c, .int .i64 s, .int .i64 h], .agg #[.int .i64 c, .int .i64 s, .int .i64 h]] w fun e w' => e = .returned (.bool true) ∧ Below w.heap.size w w' := by
  go_enter Try.func61, Try.ntmps61
  go_wp2
  go_ret
  exact ⟨rfl, by (repeat (first | (with_reducible assumption) | (with_reducible exact Below.refl _ _) | (with_reducible refine Below.drew ?_) | (with_reducible refine Below.drewN ?_ _) | (with_reducible refine Below.setCell ?_ ?_ _) | (with_reducible refine Below.alloc ?_ ?_ _) | assumption)); all_goals (first | omega | (simp; done) | (simp; omega))⟩
theorem toDirection_bel (c s h : Int) (w : World) :
    Calls Try.prog 68 #[.agg #[.int .i64 c, .int .i64 s, .int .i64 h]] w fun e w' => e = .returned (.agg #[.int .i64 c, .int .i64 s, .int .i64 h]) ∧ Below w.heap.size w w' := by
  go_enter Try.func68, Try.ntmps68
  go_wp2
  exact bodyPost_ret (v := .agg #[.int .i64 c, .int .i64 s, .int .i64 h]) (by simp [results, Try.results68, go_sem]) rfl ⟨rfl, by (repeat (first | (with_reducible assumption) | (with_reducible exact Below.refl _ _) | (with_reducible refine Below.drew ?_) | (with_reducible refine Below.drewN ?_ _) | (with_reducible refine Below.setCell ?_ ?_ _) | (with_reducible refine Below.alloc ?_ ?_ _) | assumption)); all_goals (first | omega | (simp; done) | (simp; omega))⟩

set_option maxRecDepth 100000 in
set_option maxHeartbeats 2000000 in
theorem eqBench_any (h k : BenchH) (l : BenchC) (w : World) (ok : BenchOk h) (hr : RdAll w (BenchS h l)) (kr : RdAll w (BenchS k l)) :
    Calls Try.prog 31 #[BenchV h l, BenchV k l] w fun e w' => e = .returned (.bool true) ∧ Below w.heap.size w w' := by
  obtain ⟨ok0, ok1, ok6⟩ := ok
  have r0 := hr.head
  have r1 := hr.tail.head
  have r6 := hr.tail.tail.head
  have k0 := kr.head
  have k1 := kr.tail.head
  have k6 := kr.tail.tail.head
  obtain ⟨⟨A0, n0, c0⟩, ⟨A1, n1, c1⟩, ⟨A6, n6, c6⟩⟩ := h
  obtain ⟨⟨B0, m0, d0⟩, ⟨B1, m1, d1⟩, ⟨B6, m6, d6⟩⟩ := k
  obtain ⟨l0, l1, x2, x3, x4, x5, l6⟩ := l
  clear hr kr
  simp only at *
  obtain rfl : n0 = m0 := r0.1.symm.trans k0.1
  obtain rfl : n1 = m1 := r1.1.symm.trans k1.1
  obtain rfl : n6 = m6 := by have := r6.1.symm.trans k6.1; omega
  unfold BenchV
  simp only
  have K0 := (Blk.new w 56 #[.slice A0 n0 c0, .slice A1 n1 c1, .int .i64 x2, .int .i64 x3, .int .i64 x4, .int .i64 x5, .slice A6 n6 c6]).alloc (.cells #[.slice B0 n0 d0, .slice B1 n1 d1, .int .i64 x2, .int .i64 x3, .int .i64 x4, .int .i64 x5, .slice B6 n6 d6] 56)
  have K1 := Blk.newN (g := w.heap.size + 1) (w.alloc (.cells #[.slice A0 n0 c0, .slice A1 n1 c1, .int .i64 x2, .int .i64 x3, .int .i64 x4, .int .i64 x5, .slice A6 n6 c6] 56)) 56 #[.slice B0 n0 d0, .slice B1 n1 d1, .int .i64 x2, .int .i64 x3, .int .i64 x4, .int .i64 x5, .slice B6 n6 d6] (by simp)
  have b0 : Below w.heap.size w ((w.alloc (.cells #[.slice A0 n0 c0, .slice A1 n1 c1, .int .i64 x2, .int .i64 x3, .int .i64 x4, .int .i64 x5, .slice A6 n6 c6] 56)).alloc (.cells #[.slice B0 n0 d0, .slice B1 n1 d1, .int .i64 x2, .int .i64 x3, .int .i64 x4, .int .i64 x5, .slice B6 n6 d6] 56)) := (by (repeat (first | (with_reducible assumption) | (with_reducible exact Below.refl _ _) | (with_reducible refine Below.drew ?_) | (with_reducible refine Below.drewN ?_ _) | (with_reducible refine Below.setCell ?_ ?_ _) | (with_reducible refine Below.alloc ?_ ?_ _) | assumption)); all_goals (first | omega | (simp; done) | (simp; omega)))
  go_enter Try.func31, Try.ntmps31
  go_upto_region 1 with fail
  generalize (w.alloc (.cells #[.slice A0 n0 c0, .slice A1 n1 c1, .int .i64 x2, .int .i64 x3, .int .i64 x4, .int .i64 x5, .slice A6 n6 c6] 56)).alloc (.cells #[.slice B0 n0 d0, .slice B1 n1 d1, .int .i64 x2, .int .i64 x3, .int .i64 x4, .int .i64 x5, .slice B6 n6 d6] 56) = w1 at K0 K1 b0 ⊢
  have g0 := K0.lt
  have g1 := K1.lt
  have e0 := fun o => K0.cell o
  have e1 := fun o => K1.cell o
  go_wp2_with fail
  refine (eqProfile_any ⟨⟨A0, n0, c0⟩, ⟨A1, n1, c1⟩⟩ ⟨⟨B0, n0, d0⟩, ⟨B1, n1, d1⟩⟩ ⟨l0, l1⟩ _ ⟨ok0, ok1⟩ (RdAll.cons (s := ⟨A0, n0, ints l0⟩) (r0.below b0) (RdAll.cons (s := ⟨A1, n1, ints l1⟩) (r1.below b0) (RdAll.nil _))) (RdAll.cons (s := ⟨B0, n0, ints l0⟩) (k0.below b0) (RdAll.cons (s := ⟨B1, n1, ints l1⟩) (k1.below b0) (RdAll.nil _)))).mono ?_
  rintro e w2 ⟨rfl, b2⟩
  replace K0 := K0.below b2 g0
  replace K1 := K1.below b2 g1
  have b3 := b0.trans (b2.mono b0.size)
  replace g0 := K0.lt
  replace g1 := K1.lt
  replace e0 := fun o => K0.cell o
  replace e1 := fun o => K1.cell o
  clear b2
  go_wp2_with fail
  refine (eqDirection_bel x3 x4 x5 _).mono ?_
  rintro e w3 ⟨rfl, b2⟩
  replace K0 := K0.below b2 g0
  replace K1 := K1.below b2 g1
  have b4 := b3.trans (b2.mono b3.size)
  replace g0 := K0.lt
  replace g1 := K1.lt
  replace e0 := fun o => K0.cell o
  replace e1 := fun o => K1.cell o
  clear b2
  go_wp2_with fail
  refine (eqRecordS_below A6 B6 n6 c6 d6 l6 _ ok6 (r6.below b4) (k6.below b4)).mono ?_
  rintro e w4 ⟨rfl, b5⟩
  go_wp2
  go_ret
  exact ⟨rfl, b4.trans (b5.mono b4.size)⟩

set_option maxRecDepth 100000 in
set_option maxHeartbeats 2000000 in
theorem markBench_any (h : BenchH) (l : BenchC) (q : Int) (B : Nat) (w : World) (ok : BenchOk h) (h0 : 0 ≤ q) (hq : q ≤ 536870912) (hr : RdAll w (BenchS h l)) (hw : WrAll w B (BenchS h l)) (hs : Sep (BenchR h)) :
    Calls Try.prog 32 #[BenchV h l, .int .i64 q] w fun e w' => e = .returned (.int .i64 (BenchQ h q)) ∧ Touch w w' (BenchR h) ∧ RdAll w' (BenchM h q) ∧ WrAll w' B (BenchM h q) := by
  obtain ⟨ok0, ok1, ok6⟩ := ok
  have r0 := hr.head
  have r1 := hr.tail.head
  have r6 := hr.tail.tail.head
  have y0 := hw.head
  have y1 := hw.tail.head
  have y6 := hw.tail.tail.head
  have hsp := hs
  have o0 := hs.off
  have o1 := hs.tail.off
  obtain ⟨⟨A0, n0, c0⟩, ⟨A1, n1, c1⟩, ⟨A6, n6, c6⟩⟩ := h
  obtain ⟨l0, l1, x2, x3, x4, x5, l6⟩ := l
  clear hr hw hs
  unfold BenchV BenchQ
  simp only at *
  have lo0 := r0.rowlt
  have lo1 := r1.rowlt
  have lo6 := r6.rowlt
  have T0 := Touch.alloc w (.cells #[.slice A0 n0 c0, .slice A1 n1 c1, .int .i64 x2, .int .i64 x3, .int .i64 x4, .int .i64 x5, .slice A6 n6 c6] 56)
  have K0 := Blk.new w 56 #[.slice A0 n0 c0, .slice A1 n1 c1, .int .i64 x2, .int .i64 x3, .int .i64 x4, .int .i64 x5, .slice A6 n6 c6]
  have b0 : Below w.heap.size w (w.alloc (.cells #[.slice A0 n0 c0, .slice A1 n1 c1, .int .i64 x2, .int .i64 x3, .int .i64 x4, .int .i64 x5, .slice A6 n6 c6] 56)) := (Below.refl _ _).alloc (Nat.le_refl _) _
  go_enter Try.func32, Try.ntmps32
  go_upto_region 1 with fail
  generalize w.alloc (.cells #[.slice A0 n0 c0, .slice A1 n1 c1, .int .i64 x2, .int .i64 x3, .int .i64 x4, .int .i64 x5, .slice A6 n6 c6] 56) = w1 at T0 K0 b0 ⊢
  have e0 := fun o => K0.cell o
  have g0 := K0.lt
  have hPR : ∀ s ∈ ProfileR ⟨⟨A0, n0, c0⟩, ⟨A1, n1, c1⟩⟩, s = blkp A0 n0 ∨ s = blkp A1 n1 := fun s hs => by
    unfold ProfileR at hs
    simpa using hs
  go_wp2_with fail
  refine (markProfile_any ⟨⟨A0, n0, c0⟩, ⟨A1, n1, c1⟩⟩ ⟨l0, l1⟩ q B _ ⟨ok0, ok1⟩ h0 hq (RdAll.cons (s := ⟨A0, n0, ints l0⟩) (r0.below b0) (RdAll.cons (s := ⟨A1, n1, ints l1⟩) (r1.below b0) (RdAll.nil _))) (WrAll.cons (s := ⟨A0, n0, ints l0⟩) (y0.below r0 b0) (WrAll.cons (s := ⟨A1, n1, ints l1⟩) (y1.below r1 b0) (WrAll.nil _ _))) (Sep.cons (fun s hs t ht b e => by
    rcases List.mem_cons.1 hs with rfl | hs
    · rcases List.mem_cons.1 ht with rfl | ht
      · exact o0 _ (List.mem_cons_self ..) _ (List.mem_cons_self ..) b e
      · cases ht
    · cases hs) (Sep.one _))).mono ?_
  rintro e w2 ⟨rfl, t2, R2, W2⟩
  have o61 : Off (ProfileR ⟨⟨A0, n0, c0⟩, ⟨A1, n1, c1⟩⟩) [blkp A6 (n6 * 7)] := fun s hs t ht b e => by
    rcases List.mem_cons.1 ht with rfl | ht
    · rcases hPR s hs with rfl | rfl
      · exact o0 _ (List.mem_cons_self ..) _ (List.mem_cons_of_mem _ (List.mem_cons_self ..)) b e
      · exact o1 _ (List.mem_cons_self ..) _ (List.mem_cons_self ..) b e
    · cases ht
  have r6' := (r6.below b0).touch t2 o61
  have y6' := (y6.below r6 b0).touch (r6.below b0) t2 o61
  have K2 := K0.touch t2 (fun s hs c => by
    rcases hPR s hs with rfl | rfl
    · have := lo0 _ c; omega
    · have := lo1 _ c; omega)
  have T2 := T0.trans t2
  clear e0 g0 K0 T0
  have e0 := fun o => K2.cell o
  have g0 := K2.lt
  unfold ProfileQ
  simp only
  have hqq : q + (n0 : Int) + (n1 : Int) ≤ 1073741824 := by omega
  go_wp2_with fail
  refine (markRecordS_any A6 n6 c6 _ (q + (n0 : Int) + (n1 : Int)) B _ ok6 (by omega) hqq r6' y6').mono ?_
  rintro e w3 ⟨rfl, g3, -, R6, W6⟩
  have t3 := Touch.of_grown g3
  have s0 : Rd w2 A0 n0 (ints (marks q n0)) := R2.head
  have s1 : Rd w2 A1 n1 (ints (marks (q + (n0 : Int)) n1)) := R2.tail.head
  have u0 : Wr w2 B A0 n0 := W2.head
  have u1 : Wr w2 B A1 n1 := W2.tail.head
  have p0 : Off [blkp A6 (n6 * 7)] [blkp A0 n0] := fun s hs t ht b e c => by
    rcases List.mem_cons.1 hs with rfl | hs
    · rcases List.mem_cons.1 ht with rfl | ht
      · exact o0 _ (List.mem_cons_self ..) _ (List.mem_cons_of_mem _ (List.mem_cons_self ..)) b c e
      · cases ht
    · cases hs
  have p1 : Off [blkp A6 (n6 * 7)] [blkp A1 n1] := fun s hs t ht b e c => by
    rcases List.mem_cons.1 hs with rfl | hs
    · rcases List.mem_cons.1 ht with rfl | ht
      · exact o1 _ (List.mem_cons_self ..) _ (List.mem_cons_self ..) b c e
      · cases ht
    · cases hs
  have v0 := s0.touch t3 p0
  have v1 := s1.touch t3 p1
  have z0 := u0.touch s0 t3 p0
  have z1 := u1.touch s1 t3 p1
  have T3 := T2.trans t3
  clear s0 s1 u0 u1 R2 W2 T2 t2 r6' y6' K2 e0 g0
  go_wp2
  go_ret
  exact ⟨rfl, T3, RdAll.cons (s := ⟨A0, n0, ints (marks q n0)⟩) v0 (RdAll.cons (s := ⟨A1, n1, ints (marks (q + (n0 : Int)) n1)⟩) v1 (RdAll.cons (s := ⟨A6, n6 * 7, ints (marks (q + (n0 : Int) + (n1 : Int)) (n6 * 7))⟩) R6 (RdAll.nil _))),
    WrAll.cons (s := ⟨A0, n0, ints (marks q n0)⟩) z0 (WrAll.cons (s := ⟨A1, n1, ints (marks (q + (n0 : Int)) n1)⟩) z1 (WrAll.cons (s := ⟨A6, n6 * 7, ints (marks (q + (n0 : Int) + (n1 : Int)) (n6 * 7))⟩) W6 (WrAll.nil _ _)))⟩

set_option maxRecDepth 100000 in
set_option maxHeartbeats 2000000 in
theorem heldBench_any (h : BenchH) (l : BenchC) (q : Int) (w : World) (ok : BenchOk h) (h0 : 0 ≤ q) (hq : q ≤ 536870912) (hr : RdAll w (BenchM h q)) :
    Calls Try.prog 33 #[BenchV h l, .int .i64 q] w fun e w' => e = .returned (.int .i64 (BenchQ h q)) ∧ Below w.heap.size w w' := by
  obtain ⟨ok0, ok1, ok6⟩ := ok
  have r0 := hr.head
  have r1 := hr.tail.head
  have r6 := hr.tail.tail.head
  obtain ⟨⟨A0, n0, c0⟩, ⟨A1, n1, c1⟩, ⟨A6, n6, c6⟩⟩ := h
  obtain ⟨l0, l1, x2, x3, x4, x5, l6⟩ := l
  clear hr
  unfold BenchV BenchQ
  simp only at *
  have K0 := Blk.new w 56 #[.slice A0 n0 c0, .slice A1 n1 c1, .int .i64 x2, .int .i64 x3, .int .i64 x4, .int .i64 x5, .slice A6 n6 c6]
  have b0 : Below w.heap.size w (w.alloc (.cells #[.slice A0 n0 c0, .slice A1 n1 c1, .int .i64 x2, .int .i64 x3, .int .i64 x4, .int .i64 x5, .slice A6 n6 c6] 56)) := (Below.refl _ _).alloc (Nat.le_refl _) _
  go_enter Try.func33, Try.ntmps33
  go_upto_region 1 with fail
  generalize w.alloc (.cells #[.slice A0 n0 c0, .slice A1 n1 c1, .int .i64 x2, .int .i64 x3, .int .i64 x4, .int .i64 x5, .slice A6 n6 c6] 56) = w1 at K0 b0 ⊢
  have e0 := fun o => K0.cell o
  have g0 := K0.lt
  go_wp2_with fail
  refine (heldProfile_any ⟨⟨A0, n0, c0⟩, ⟨A1, n1, c1⟩⟩ ⟨l0, l1⟩ q _ ⟨ok0, ok1⟩ h0 hq (RdAll.cons (s := ⟨A0, n0, ints (marks q n0)⟩) (r0.below b0) (RdAll.cons (s := ⟨A1, n1, ints (marks (q + (n0 : Int)) n1)⟩) (r1.below b0) (RdAll.nil _)))).mono ?_
  rintro e w2 ⟨rfl, b2⟩
  replace K0 := K0.below b2 g0
  have b3 := b0.trans (b2.mono b0.size)
  replace g0 := K0.lt
  replace e0 := fun o => K0.cell o
  unfold ProfileQ
  simp only
  clear b2
  have hqq : q + (n0 : Int) + (n1 : Int) ≤ 1073741824 := by omega
  go_wp2_with fail
  refine (heldRecordS_same A6 n6 c6 (q + (n0 : Int) + (n1 : Int)) _ ok6 (by omega) hqq (r6.below b3)).mono ?_
  rintro e w3 ⟨rfl, rfl⟩
  go_wp2
  go_ret
  exact ⟨rfl, b3⟩
end Go.Proofs.Ytphpjmkebnadoaa
