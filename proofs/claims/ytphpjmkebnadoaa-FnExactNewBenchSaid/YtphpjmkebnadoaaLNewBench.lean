/- The first bench: the statement FnExactNewBench, walked. No condition. -/
import Derived.Test.YtphpjmkebnadoaaTBench
namespace Go.Proofs.Ytphpjmkebnadoaa
open Go.RowKit

structure RWAll (w : World) (B : Nat) (l : List Sl) : Prop where
  rd : RdAll w l
  wr : WrAll w B l
theorem RWAll.below {w w' : World} {B : Nat} {l : List Sl} (X : RWAll w B l) (b : Below w.heap.size w w') : RWAll w' B l := ⟨X.rd.below b, X.wr.below X.rd b⟩
def benchL : BenchC := ⟨[0, 1000], [1500000, 1500000], 0, 4, 3, 5, []⟩
def NewB (w : World) (e : Ending) (w' : World) : Prop :=
  ∃ h, e = .returned (BenchV h benchL) ∧ BenchOk h ∧ RdAll w' (BenchS h benchL) ∧ WrAll w' w.heap.size (BenchS h benchL) ∧ Sep (BenchR h) ∧ Below w.heap.size w w'
theorem newB_mk (w : World) : NewB w (.returned (.agg #[.slice (some ⟨w.heap.size + 1, 0, none⟩) 2 2, .slice (some ⟨w.heap.size + 1 + 1, 0, none⟩) 2 2, .int .i64 0, .int .i64 4, .int .i64 3, .int .i64 5, .slice none 0 0])) (((w.alloc (.cells #[.slice (some ⟨w.heap.size + 1, 0, none⟩) 2 2, .slice (some ⟨w.heap.size + 1 + 1, 0, none⟩) 2 2, .int .i64 0, .int .i64 4, .int .i64 3, .int .i64 5, .slice none 0 0] 56)).alloc (.cells #[.int .i64 0, .int .i64 1000] 2)).alloc (.cells #[.int .i64 1500000, .int .i64 1500000] 2)) := by
  have z1 : (w.alloc (.cells #[.slice (some ⟨w.heap.size + 1, 0, none⟩) 2 2, .slice (some ⟨w.heap.size + 1 + 1, 0, none⟩) 2 2, .int .i64 0, .int .i64 4, .int .i64 3, .int .i64 5, .slice none 0 0] 56)).heap.size = w.heap.size + 1 := by simp
  have z2 : ((w.alloc (.cells #[.slice (some ⟨w.heap.size + 1, 0, none⟩) 2 2, .slice (some ⟨w.heap.size + 1 + 1, 0, none⟩) 2 2, .int .i64 0, .int .i64 4, .int .i64 3, .int .i64 5, .slice none 0 0] 56)).alloc (.cells #[.int .i64 0, .int .i64 1000] 2)).heap.size = w.heap.size + 1 + 1 := by simp
  have B1 := (Blk.newN (g := w.heap.size + 1) (w.alloc (.cells #[.slice (some ⟨w.heap.size + 1, 0, none⟩) 2 2, .slice (some ⟨w.heap.size + 1 + 1, 0, none⟩) 2 2, .int .i64 0, .int .i64 4, .int .i64 3, .int .i64 5, .slice none 0 0] 56)) 2 #[.int .i64 0, .int .i64 1000] z1).alloc (.cells #[.int .i64 1500000, .int .i64 1500000] 2)
  have B2 := Blk.newN (g := w.heap.size + 1 + 1) ((w.alloc (.cells #[.slice (some ⟨w.heap.size + 1, 0, none⟩) 2 2, .slice (some ⟨w.heap.size + 1 + 1, 0, none⟩) 2 2, .int .i64 0, .int .i64 4, .int .i64 3, .int .i64 5, .slice none 0 0] 56)).alloc (.cells #[.int .i64 0, .int .i64 1000] 2)) 2 #[.int .i64 1500000, .int .i64 1500000] z2
  have R1 : Rd _ (some ⟨w.heap.size + 1, 0, none⟩) 2 (ints [0, 1000]) := B1.rd rfl (fun i hi => by
    match i, hi with
    | 0, _ => rfl
    | 1, _ => rfl)
  have R2 : Rd _ (some ⟨w.heap.size + 1 + 1, 0, none⟩) 2 (ints [1500000, 1500000]) := B2.rd rfl (fun i hi => by
    match i, hi with
    | 0, _ => rfl
    | 1, _ => rfl)
  have W1 := B1.wr (B := w.heap.size) (by omega) 2
  have W2 := B2.wr (B := w.heap.size) (by omega) 2
  refine ⟨⟨⟨some ⟨w.heap.size + 1, 0, none⟩, 2, 2⟩, ⟨some ⟨w.heap.size + 1 + 1, 0, none⟩, 2, 2⟩, ⟨none, 0, 0⟩⟩, rfl, ⟨by show 2 ≤ 1048576; decide, by show 2 ≤ 1048576; decide, by show 0 ≤ 1048576; decide⟩,
    RdAll.cons (s := ⟨some ⟨w.heap.size + 1, 0, none⟩, 2, ints [0, 1000]⟩) R1 (RdAll.cons (s := ⟨some ⟨w.heap.size + 1 + 1, 0, none⟩, 2, ints [1500000, 1500000]⟩) R2 (RdAll.cons (s := ⟨none, 0, []⟩) (Rd.nil _ _) (RdAll.nil _))),
    WrAll.cons (s := ⟨some ⟨w.heap.size + 1, 0, none⟩, 2, ints [0, 1000]⟩) W1 (WrAll.cons (s := ⟨some ⟨w.heap.size + 1 + 1, 0, none⟩, 2, ints [1500000, 1500000]⟩) W2 (WrAll.cons (s := ⟨none, 0, []⟩) (fun h => absurd h (by decide)) (WrAll.nil _ _))), ?_, (by (repeat (first | (with_reducible assumption) | (with_reducible exact Below.refl _ _) | (with_reducible refine Below.drew ?_) | (with_reducible refine Below.drewN ?_ _) | (with_reducible refine Below.setCell ?_ ?_ _) | (with_reducible refine Below.alloc ?_ ?_ _) | assumption)); all_goals (first | omega | (simp; done) | (simp; omega)))⟩
  refine Sep.step (B := w.heap.size + 1 + 1) (fun b e => by simp [blkp, blk] at e; omega) (Hi.cons (fun b e => by simp [blkp, blk] at e; omega) (Hi.cons (fun b e => by simp [blkp] at e) (Hi.nil _))) (Sep.step (B := w.heap.size + 1 + 1 + 1) (fun b e => by simp [blkp, blk] at e; omega) (Hi.cons (fun b e => by simp [blkp] at e) (Hi.nil _)) (Sep.one _))
set_option maxRecDepth 100000 in
theorem implNewBench_any (w : World) : Calls Try.prog 30 #[] w (NewB w) := by
  go_enter Try.func30, Try.ntmps30
  go_wp2
  exact bodyPost_ret (v := .agg #[.slice (some ⟨w.heap.size + 1, 0, none⟩) 2 2, .slice (some ⟨w.heap.size + 1 + 1, 0, none⟩) 2 2, .int .i64 0, .int .i64 4, .int .i64 3, .int .i64 5, .slice none 0 0]) (by simp [results, Try.results30, go_sem]) rfl (newB_mk w)
set_option maxRecDepth 100000 in
theorem specNewBench_any (w : World) : Calls Try.prog 29 #[] w (NewB w) := by
  go_enter Try.func29, Try.ntmps29
  go_wp2
  exact bodyPost_ret (v := .agg #[.slice (some ⟨w.heap.size + 1, 0, none⟩) 2 2, .slice (some ⟨w.heap.size + 1 + 1, 0, none⟩) 2 2, .int .i64 0, .int .i64 4, .int .i64 3, .int .i64 5, .slice none 0 0]) (by simp [results, Try.results29, go_sem]) rfl (newB_mk w)
set_option maxRecDepth 100000 in
set_option maxHeartbeats 4000000 in
theorem FnExactNewBench_walk (w : World) : Calls Try.prog 6 #[] w fun e w' => e = .returned (.bool true) ∧ Below w.heap.size w w' := by
  go_enter Try.func6, Try.ntmps6
  go_wp2_with fail
  refine (specNewBench_any _).mono ?_
  rintro e w1 ⟨⟨⟨A0, a0, b0⟩, ⟨E0, c0, d0⟩, ⟨F0, f0, g0⟩⟩, rfl, ok0, R0, -, -, b1⟩
  unfold BenchV benchL
  simp only
  go_wp2_with fail
  have K0 := Blk.newN (g := w1.heap.size) w1 56 #[.slice A0 a0 b0, .slice E0 c0 d0, .int .i64 0, .int .i64 4, .int .i64 3, .int .i64 5, .slice F0 f0 g0] (by simp)
  have b2 : Below w1.heap.size w1 (w1.alloc (.cells #[.slice A0 a0 b0, .slice E0 c0 d0, .int .i64 0, .int .i64 4, .int .i64 3, .int .i64 5, .slice F0 f0 g0] 56)) := (by (repeat (first | (with_reducible assumption) | (with_reducible exact Below.refl _ _) | (with_reducible refine Below.drew ?_) | (with_reducible refine Below.drewN ?_ _) | (with_reducible refine Below.setCell ?_ ?_ _) | (with_reducible refine Below.alloc ?_ ?_ _) | assumption)); all_goals (first | omega | (simp; done) | (simp; omega)))
  replace R0 := R0.below b2
  replace b2 := bnext b1 b2
  clear b1
  generalize w1.alloc (.cells #[.slice A0 a0 b0, .slice E0 c0 d0, .int .i64 0, .int .i64 4, .int .i64 3, .int .i64 5, .slice F0 f0 g0] 56) = w2 at K0 R0  b2 ⊢
  generalize w1.heap.size = gK0 at K0  ⊢
  have qK0 := K0.lt
  have cK0 := fun o => K0.cell o
  have lo0 := R0.lo
  have zk0 := qK0
  refine (implNewBench_any _).mono ?_
  rintro e w3 ⟨⟨⟨A1, a1, b1⟩, ⟨E1, c1, d1⟩, ⟨F1, f1, g1⟩⟩, rfl, ok1, R1, W1, S1, b3⟩
  have hi1 := W1.hi
  have hne1 : ∀ s ∈ BenchR ⟨⟨A1, a1, b1⟩, ⟨E1, c1, d1⟩, ⟨F1, f1, g1⟩⟩, s ≠ some w3.heap.size := R1.lo.ne (Nat.le_refl _)
  have X1 : RWAll w3 _ _ := ⟨R1, W1⟩
  have hbz := b2.size
  clear R1 W1
  replace R0 := R0.below b3
  replace K0 := K0.below b3 qK0
  replace qK0 := K0.lt
  replace cK0 := fun o => K0.cell o
  replace b3 := bnext b2 b3
  clear b2
  unfold BenchV benchL
  simp only
  go_wp2_with fail
  have K1 := Blk.newN (g := w3.heap.size) w3 56 #[.slice A1 a1 b1, .slice E1 c1 d1, .int .i64 0, .int .i64 4, .int .i64 3, .int .i64 5, .slice F1 f1 g1] (by simp)
  have b4 : Below w3.heap.size w3 (w3.alloc (.cells #[.slice A1 a1 b1, .slice E1 c1 d1, .int .i64 0, .int .i64 4, .int .i64 3, .int .i64 5, .slice F1 f1 g1] 56)) := (by (repeat (first | (with_reducible assumption) | (with_reducible exact Below.refl _ _) | (with_reducible refine Below.drew ?_) | (with_reducible refine Below.drewN ?_ _) | (with_reducible refine Below.setCell ?_ ?_ _) | (with_reducible refine Below.alloc ?_ ?_ _) | assumption)); all_goals (first | omega | (simp; done) | (simp; omega)))
  replace R0 := R0.below b4
  replace X1 := X1.below b4
  replace K0 := K0.below b4 qK0
  replace qK0 := K0.lt
  replace cK0 := fun o => K0.cell o
  replace b4 := bnext b3 b4
  clear b3
  generalize w3.alloc (.cells #[.slice A1 a1 b1, .slice E1 c1 d1, .int .i64 0, .int .i64 4, .int .i64 3, .int .i64 5, .slice F1 f1 g1] 56) = w4 at K1 R0 X1 K0 qK0 cK0 b4 ⊢
  generalize w3.heap.size = gK1 at K1 hne1 ⊢
  have qK1 := K1.lt
  have cK1 := fun o => K1.cell o
  refine (eqBench_any ⟨⟨A1, a1, b1⟩, ⟨E1, c1, d1⟩, ⟨F1, f1, g1⟩⟩ ⟨⟨A0, a0, b0⟩, ⟨E0, c0, d0⟩, ⟨F0, f0, g0⟩⟩ benchL _ ok1 X1.rd R0).mono ?_
  rintro e w5 ⟨rfl, b5⟩
  replace R0 := R0.below b5
  replace X1 := X1.below b5
  replace K0 := K0.below b5 qK0
  replace qK0 := K0.lt
  replace cK0 := fun o => K0.cell o
  replace K1 := K1.below b5 qK1
  replace qK1 := K1.lt
  replace cK1 := fun o => K1.cell o
  replace b5 := bnext b4 b5
  clear b4
  go_wp2_with fail
  refine (markBench_any ⟨⟨A1, a1, b1⟩, ⟨E1, c1, d1⟩, ⟨F1, f1, g1⟩⟩ benchL 1 _ _ ok1 (by decide) (by decide) X1.rd X1.wr S1).mono ?_
  rintro e w6 ⟨rfl, t, R2, -⟩
  have o0 : Off (BenchR ⟨⟨A1, a1, b1⟩, ⟨E1, c1, d1⟩, ⟨F1, f1, g1⟩⟩) (List.map Sl.row (BenchS ⟨⟨A0, a0, b0⟩, ⟨E0, c0, d0⟩, ⟨F0, f0, g0⟩⟩ benchL)) := Off.up lo0 hi1
  replace R0 := R0.touch t o0
  replace K0 := K0.touch t (hi1.ne zk0)
  replace qK0 := K0.lt
  replace cK0 := fun o => K0.cell o
  replace K1 := K1.touch t hne1
  replace qK1 := K1.lt
  replace cK1 := fun o => K1.cell o
  replace b5 := bstepT b5 t (Nat.le_refl _) (hi1.mono hbz)
  clear X1 t o0 hi1 lo0 hne1 zk0
  unfold BenchQ
  simp only
  have hqb : 0 ≤ a1 ∧ a1 ≤ 1048576 ∧ c1 ≤ 1048576 ∧ f1 ≤ 1048576 := ⟨Nat.zero_le _, ok1.1, ok1.2.1, ok1.2.2⟩
  go_wp2_with fail
  refine (heldBench_any ⟨⟨A1, a1, b1⟩, ⟨E1, c1, d1⟩, ⟨F1, f1, g1⟩⟩ benchL 1 _ ok1 (by decide) (by decide) R2).mono ?_
  rintro e w7 ⟨rfl, b7⟩
  replace R0 := R0.below b7
  replace R2 := R2.below b7
  replace K0 := K0.below b7 qK0
  replace qK0 := K0.lt
  replace cK0 := fun o => K0.cell o
  replace K1 := K1.below b7 qK1
  replace qK1 := K1.lt
  replace cK1 := fun o => K1.cell o
  replace b7 := bnext b5 b7
  clear b5
  unfold BenchQ
  simp only
  go_wp2_with fail
  refine (implNewBench_any _).mono ?_
  rintro e w8 ⟨⟨⟨A5, a5, b5⟩, ⟨E5, c5, d5⟩, ⟨F5, f5, g5⟩⟩, rfl, ok5, R5, -, -, b8⟩
  replace R0 := R0.below b8
  replace R2 := R2.below b8
  replace K0 := K0.below b8 qK0
  replace qK0 := K0.lt
  replace cK0 := fun o => K0.cell o
  replace K1 := K1.below b8 qK1
  replace qK1 := K1.lt
  replace cK1 := fun o => K1.cell o
  replace b8 := bnext b7 b8
  clear b7
  unfold BenchV benchL
  simp only
  go_wp2_with fail
  have K5 := Blk.newN (g := w8.heap.size) w8 56 #[.slice A5 a5 b5, .slice E5 c5 d5, .int .i64 0, .int .i64 4, .int .i64 3, .int .i64 5, .slice F5 f5 g5] (by simp)
  have b9 : Below w8.heap.size w8 (w8.alloc (.cells #[.slice A5 a5 b5, .slice E5 c5 d5, .int .i64 0, .int .i64 4, .int .i64 3, .int .i64 5, .slice F5 f5 g5] 56)) := (by (repeat (first | (with_reducible assumption) | (with_reducible exact Below.refl _ _) | (with_reducible refine Below.drew ?_) | (with_reducible refine Below.drewN ?_ _) | (with_reducible refine Below.setCell ?_ ?_ _) | (with_reducible refine Below.alloc ?_ ?_ _) | assumption)); all_goals (first | omega | (simp; done) | (simp; omega)))
  replace R0 := R0.below b9
  replace R2 := R2.below b9
  replace R5 := R5.below b9
  replace K0 := K0.below b9 qK0
  replace qK0 := K0.lt
  replace cK0 := fun o => K0.cell o
  replace K1 := K1.below b9 qK1
  replace qK1 := K1.lt
  replace cK1 := fun o => K1.cell o
  replace b9 := bnext b8 b9
  clear b8
  generalize w8.alloc (.cells #[.slice A5 a5 b5, .slice E5 c5 d5, .int .i64 0, .int .i64 4, .int .i64 3, .int .i64 5, .slice F5 f5 g5] 56) = w9 at K5 R0 R2 R5 K0 qK0 cK0 K1 qK1 cK1 b9 ⊢
  generalize w8.heap.size = gK5 at K5  ⊢
  have qK5 := K5.lt
  have cK5 := fun o => K5.cell o
  refine (eqBench_any ⟨⟨A5, a5, b5⟩, ⟨E5, c5, d5⟩, ⟨F5, f5, g5⟩⟩ ⟨⟨A0, a0, b0⟩, ⟨E0, c0, d0⟩, ⟨F0, f0, g0⟩⟩ benchL _ ok5 R5 R0).mono ?_
  rintro e w10 ⟨rfl, b10⟩
  clear R0 R5 K0 qK0 cK0 K5 qK5 cK5
  replace R2 := R2.below b10
  replace K1 := K1.below b10 qK1
  replace qK1 := K1.lt
  replace cK1 := fun o => K1.cell o
  replace b10 := bnext b9 b10
  clear b9
  go_wp2_with fail
  refine (heldBench_any ⟨⟨A1, a1, b1⟩, ⟨E1, c1, d1⟩, ⟨F1, f1, g1⟩⟩ benchL 1 _ ok1 (by decide) (by decide) R2).mono ?_
  rintro e w11 ⟨rfl, b11⟩
  replace R2 := R2.below b11
  replace K1 := K1.below b11 qK1
  replace qK1 := K1.lt
  replace cK1 := fun o => K1.cell o
  replace b11 := bnext b10 b11
  clear b10
  unfold BenchQ
  simp only
  go_wp2
  go_ret
  exact ⟨rfl, b11⟩
end Go.Proofs.Ytphpjmkebnadoaa
