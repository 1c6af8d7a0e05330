/- The law FnFilled, walked. No condition beyond what an argument of its type bears. -/
import Derived.Test.YthmcnoloeeabbaaFilU
import Derived.Test.YthmcnoloeeabbaaFilT
import Derived.Test.YthmcnoloeeabbaaFilB
import Derived.Test.YthmcnoloeeabbaaFilD
import Derived.Test.YthmcnoloeeabbaaGrsL
import Derived.Test.YthmcnoloeeabbaaArgB
import Derived.StillTailTactics
namespace Go.Proofs.Ythmcnoloeeabbaa
open Go.RowKit

set_option maxRecDepth 100000 in
set_option maxHeartbeats 4000000 in
theorem FnFilled_walk (w : World) (A : Option Addr) (n c : Nat) (zs : List Int) (G : ArgB w A n c zs) :
    Calls Try.prog 10 #[.slice A n c] w fun e w' => e = .returned (.bool true) ∧ Below w.heap.size w w' := by
  have hmx := G.max
  by_cases hb : (4096 : Int) < (n : Int)
  · go_enter Try.func10, Try.ntmps10
    go_wp2_with (go_at_call 35; refine (big_any _ _ _ _ (by omega)).mono ?_; rintro e w' ⟨rfl, rfl⟩)
    go_ret
    exact ⟨rfl, Below.refl _ _⟩
  have hbd : decide ((4096 : Int) < (n : Int)) = false := by simpa using hb
  have hn4 : n ≤ 4096 := by omega
  go_enter Try.func10, Try.ntmps10
  go_wp2_with fail
  refine (big_any _ _ _ _ (by omega)).mono ?_
  rintro e w' ⟨rfl, rfl⟩
  go_wp2_with fail
  refine (drawFillGaps_any A n c zs _ G.rd G.byte hn4).mono ?_
  rintro e w1 ⟨A0, n0, c0, E0, m0, d0, l0, rfl, ok0, R0, b1⟩
  clear hbd hb
  go_wp2_with fail
  have K0 := Blk.newN (g := w1.heap.size) w1 50 #[.int .i64 l0.size, .int .i64 l0.wide, .int .i64 l0.high, .slice A0 n0 c0, .slice E0 m0 d0] (by simp)
  have b2 : Below w1.heap.size w1 (w1.alloc (.cells #[.int .i64 l0.size, .int .i64 l0.wide, .int .i64 l0.high, .slice A0 n0 c0, .slice E0 m0 d0] 50)) := (by (repeat (first | (with_reducible assumption) | (with_reducible exact Below.refl _ _) | (with_reducible refine Below.drew ?_) | (with_reducible refine Below.drewN ?_ _) | (with_reducible refine Below.setCell ?_ ?_ _) | (with_reducible refine Below.alloc ?_ ?_ _) | assumption)); all_goals (first | omega | (simp; done) | (simp; omega)))
  replace R0 := R0.below b2
  replace b2 := bnext b1 b2
  clear b1
  generalize (w1.alloc (.cells #[.int .i64 l0.size, .int .i64 l0.wide, .int .i64 l0.high, .slice A0 n0 c0, .slice E0 m0 d0] 50)) = w2 at K0 R0 b2 ⊢
  generalize w1.heap.size = gK0 at K0 ⊢
  have qK0 := K0.lt
  have cK0 := fun o => K0.cell o
  go_wp2_with fail
  refine (implFillGaps'_any ⟨⟨A0, n0, c0⟩, ⟨E0, m0, d0⟩⟩ l0 _ ok0 R0).mono ?_
  rintro e w3 ⟨⟨⟨A1, n1, c1⟩, ⟨E1, m1, d1⟩⟩, rfl, ok1, R1, -, -, b3⟩
  replace R0 := R0.below b3
  replace K0 := K0.below b3 qK0
  replace qK0 := K0.lt
  replace cK0 := fun o => K0.cell o
  replace b3 := bnext b2 b3
  clear b2
  unfold DepthGridV
  simp only
  go_wp2_with fail
  have K1 := Blk.newN (g := w3.heap.size) w3 50 #[.int .i64 (fgR l0).size, .int .i64 (fgR l0).wide, .int .i64 (fgR l0).high, .slice A1 n1 c1, .slice E1 m1 d1] (by simp)
  have b4 : Below w3.heap.size w3 (w3.alloc (.cells #[.int .i64 (fgR l0).size, .int .i64 (fgR l0).wide, .int .i64 (fgR l0).high, .slice A1 n1 c1, .slice E1 m1 d1] 50)) := (by (repeat (first | (with_reducible assumption) | (with_reducible exact Below.refl _ _) | (with_reducible refine Below.drew ?_) | (with_reducible refine Below.drewN ?_ _) | (with_reducible refine Below.setCell ?_ ?_ _) | (with_reducible refine Below.alloc ?_ ?_ _) | assumption)); all_goals (first | omega | (simp; done) | (simp; omega)))
  replace R0 := R0.below b4
  replace R1 := R1.below b4
  replace K0 := K0.below b4 qK0
  replace qK0 := K0.lt
  replace cK0 := fun o => K0.cell o
  replace b4 := bnext b3 b4
  clear b3
  generalize (w3.alloc (.cells #[.int .i64 (fgR l0).size, .int .i64 (fgR l0).wide, .int .i64 (fgR l0).high, .slice A1 n1 c1, .slice E1 m1 d1] 50)) = w4 at K1 R0 R1 K0 qK0 cK0 b4 ⊢
  generalize w3.heap.size = gK1 at K1 ⊢
  have qK1 := K1.lt
  have cK1 := fun o => K1.cell o
  go_wp2_with fail
  refine (specFillGaps'_any ⟨⟨A0, n0, c0⟩, ⟨E0, m0, d0⟩⟩ l0 _ ok0 R0).mono ?_
  rintro e w5 ⟨⟨⟨A2, n2, c2⟩, ⟨E2, m2, d2⟩⟩, rfl, ok2, R2, -, -, b5⟩
  replace R0 := R0.below b5
  replace R1 := R1.below b5
  replace K0 := K0.below b5 qK0
  replace qK0 := K0.lt
  replace cK0 := fun o => K0.cell o
  replace K1 := K1.below b5 qK1
  replace qK1 := K1.lt
  replace cK1 := fun o => K1.cell o
  replace b5 := bnext b4 b5
  clear b4
  unfold DepthGridV
  simp only
  go_wp2_with fail
  have K2 := Blk.newN (g := w5.heap.size) w5 50 #[.int .i64 (fgR l0).size, .int .i64 (fgR l0).wide, .int .i64 (fgR l0).high, .slice A2 n2 c2, .slice E2 m2 d2] (by simp)
  have b6 : Below w5.heap.size w5 (w5.alloc (.cells #[.int .i64 (fgR l0).size, .int .i64 (fgR l0).wide, .int .i64 (fgR l0).high, .slice A2 n2 c2, .slice E2 m2 d2] 50)) := (by (repeat (first | (with_reducible assumption) | (with_reducible exact Below.refl _ _) | (with_reducible refine Below.drew ?_) | (with_reducible refine Below.drewN ?_ _) | (with_reducible refine Below.setCell ?_ ?_ _) | (with_reducible refine Below.alloc ?_ ?_ _) | assumption)); all_goals (first | omega | (simp; done) | (simp; omega)))
  replace R0 := R0.below b6
  replace R1 := R1.below b6
  replace R2 := R2.below b6
  replace K0 := K0.below b6 qK0
  replace qK0 := K0.lt
  replace cK0 := fun o => K0.cell o
  replace K1 := K1.below b6 qK1
  replace qK1 := K1.lt
  replace cK1 := fun o => K1.cell o
  replace b6 := bnext b5 b6
  clear b5
  generalize (w5.alloc (.cells #[.int .i64 (fgR l0).size, .int .i64 (fgR l0).wide, .int .i64 (fgR l0).high, .slice A2 n2 c2, .slice E2 m2 d2] 50)) = w6 at K2 R0 R1 R2 K0 qK0 cK0 K1 qK1 cK1 b6 ⊢
  generalize w5.heap.size = gK2 at K2 ⊢
  have qK2 := K2.lt
  have cK2 := fun o => K2.cell o
  go_wp2_with fail
  refine (implShoalestCell_any ⟨⟨A0, n0, c0⟩, ⟨E0, m0, d0⟩⟩ l0 _ ok0 R0).mono ?_
  rintro e w7 ⟨rfl, b7⟩
  replace R0 := R0.below b7
  replace R1 := R1.below b7
  replace R2 := R2.below b7
  replace K0 := K0.below b7 qK0
  replace qK0 := K0.lt
  replace cK0 := fun o => K0.cell o
  replace K1 := K1.below b7 qK1
  replace qK1 := K1.lt
  replace cK1 := fun o => K1.cell o
  replace K2 := K2.below b7 qK2
  replace qK2 := K2.lt
  replace cK2 := fun o => K2.cell o
  replace b7 := bnext b6 b7
  clear b6
  go_wp2_with fail
  refine (specShoalestCell_any ⟨⟨A0, n0, c0⟩, ⟨E0, m0, d0⟩⟩ l0 _ ok0 R0).mono ?_
  rintro e w8 ⟨rfl, b8⟩
  replace R0 := R0.below b8
  replace R1 := R1.below b8
  replace R2 := R2.below b8
  replace K0 := K0.below b8 qK0
  replace qK0 := K0.lt
  replace cK0 := fun o => K0.cell o
  replace K1 := K1.below b8 qK1
  replace qK1 := K1.lt
  replace cK1 := fun o => K1.cell o
  replace K2 := K2.below b8 qK2
  replace qK2 := K2.lt
  replace cK2 := fun o => K2.cell o
  replace b8 := bnext b7 b8
  clear b7
  go_wp2_with fail
  refine (implMeanDepth_any ⟨⟨A0, n0, c0⟩, ⟨E0, m0, d0⟩⟩ l0 _ ok0 R0).mono ?_
  rintro e w9 ⟨rfl, b9⟩
  replace R0 := R0.below b9
  replace R1 := R1.below b9
  replace R2 := R2.below b9
  replace K0 := K0.below b9 qK0
  replace qK0 := K0.lt
  replace cK0 := fun o => K0.cell o
  replace K1 := K1.below b9 qK1
  replace qK1 := K1.lt
  replace cK1 := fun o => K1.cell o
  replace K2 := K2.below b9 qK2
  replace qK2 := K2.lt
  replace cK2 := fun o => K2.cell o
  replace b9 := bnext b8 b9
  clear b8
  go_wp2_with fail
  have K5 := Blk.newN (g := w9.heap.size) w9 82 #[.int .i64 (mdL l0), .int .i64 (mdH l0)] (by simp)
  have b10 : Below w9.heap.size w9 (w9.alloc (.cells #[.int .i64 (mdL l0), .int .i64 (mdH l0)] 82)) := (by (repeat (first | (with_reducible assumption) | (with_reducible exact Below.refl _ _) | (with_reducible refine Below.drew ?_) | (with_reducible refine Below.drewN ?_ _) | (with_reducible refine Below.setCell ?_ ?_ _) | (with_reducible refine Below.alloc ?_ ?_ _) | assumption)); all_goals (first | omega | (simp; done) | (simp; omega)))
  replace R0 := R0.below b10
  replace R1 := R1.below b10
  replace R2 := R2.below b10
  replace K0 := K0.below b10 qK0
  replace qK0 := K0.lt
  replace cK0 := fun o => K0.cell o
  replace K1 := K1.below b10 qK1
  replace qK1 := K1.lt
  replace cK1 := fun o => K1.cell o
  replace K2 := K2.below b10 qK2
  replace qK2 := K2.lt
  replace cK2 := fun o => K2.cell o
  replace b10 := bnext b9 b10
  clear b9
  generalize (w9.alloc (.cells #[.int .i64 (mdL l0), .int .i64 (mdH l0)] 82)) = w10 at K5 R0 R1 R2 K0 qK0 cK0 K1 qK1 cK1 K2 qK2 cK2 b10 ⊢
  generalize w9.heap.size = gK5 at K5 ⊢
  have qK5 := K5.lt
  have cK5 := fun o => K5.cell o
  go_wp2_with fail
  refine (specMeanDepth_any ⟨⟨A0, n0, c0⟩, ⟨E0, m0, d0⟩⟩ l0 _ ok0 R0).mono ?_
  rintro e w11 ⟨rfl, b11⟩
  replace R0 := R0.below b11
  replace R1 := R1.below b11
  replace R2 := R2.below b11
  replace K0 := K0.below b11 qK0
  replace qK0 := K0.lt
  replace cK0 := fun o => K0.cell o
  replace K1 := K1.below b11 qK1
  replace qK1 := K1.lt
  replace cK1 := fun o => K1.cell o
  replace K2 := K2.below b11 qK2
  replace qK2 := K2.lt
  replace cK2 := fun o => K2.cell o
  replace K5 := K5.below b11 qK5
  replace qK5 := K5.lt
  replace cK5 := fun o => K5.cell o
  replace b11 := bnext b10 b11
  clear b10
  go_wp2_with fail
  have K6 := Blk.newN (g := w11.heap.size) w11 82 #[.int .i64 (mdL l0), .int .i64 (mdH l0)] (by simp)
  have b12 : Below w11.heap.size w11 (w11.alloc (.cells #[.int .i64 (mdL l0), .int .i64 (mdH l0)] 82)) := (by (repeat (first | (with_reducible assumption) | (with_reducible exact Below.refl _ _) | (with_reducible refine Below.drew ?_) | (with_reducible refine Below.drewN ?_ _) | (with_reducible refine Below.setCell ?_ ?_ _) | (with_reducible refine Below.alloc ?_ ?_ _) | assumption)); all_goals (first | omega | (simp; done) | (simp; omega)))
  replace R0 := R0.below b12
  replace R1 := R1.below b12
  replace R2 := R2.below b12
  replace K0 := K0.below b12 qK0
  replace qK0 := K0.lt
  replace cK0 := fun o => K0.cell o
  replace K1 := K1.below b12 qK1
  replace qK1 := K1.lt
  replace cK1 := fun o => K1.cell o
  replace K2 := K2.below b12 qK2
  replace qK2 := K2.lt
  replace cK2 := fun o => K2.cell o
  replace K5 := K5.below b12 qK5
  replace qK5 := K5.lt
  replace cK5 := fun o => K5.cell o
  replace b12 := bnext b11 b12
  clear b11
  generalize (w11.alloc (.cells #[.int .i64 (mdL l0), .int .i64 (mdH l0)] 82)) = w12 at K6 R0 R1 R2 K0 qK0 cK0 K1 qK1 cK1 K2 qK2 cK2 K5 qK5 cK5 b12 ⊢
  generalize w11.heap.size = gK6 at K6 ⊢
  have qK6 := K6.lt
  have cK6 := fun o => K6.cell o
  go_wp2_with fail
  refine (drawDangerCells_any A n c zs _ (G.rd.below b12) G.byte hn4).mono ?_
  rintro e w13 ⟨A7, n7, c7, E7, m7, d7, l7, q, rfl, ok7, R7, b13⟩
  replace R0 := R0.below b13
  replace R1 := R1.below b13
  replace R2 := R2.below b13
  replace K0 := K0.below b13 qK0
  replace qK0 := K0.lt
  replace cK0 := fun o => K0.cell o
  replace K1 := K1.below b13 qK1
  replace qK1 := K1.lt
  replace cK1 := fun o => K1.cell o
  replace K2 := K2.below b13 qK2
  replace qK2 := K2.lt
  replace cK2 := fun o => K2.cell o
  replace K5 := K5.below b13 qK5
  replace qK5 := K5.lt
  replace cK5 := fun o => K5.cell o
  replace K6 := K6.below b13 qK6
  replace qK6 := K6.lt
  replace cK6 := fun o => K6.cell o
  replace b13 := bnext b12 b13
  clear b12
  go_wp2_with fail
  have K7 := Blk.newN (g := w13.heap.size) w13 50 #[.int .i64 l7.size, .int .i64 l7.wide, .int .i64 l7.high, .slice A7 n7 c7, .slice E7 m7 d7] (by simp)
  have b14 : Below w13.heap.size w13 (w13.alloc (.cells #[.int .i64 l7.size, .int .i64 l7.wide, .int .i64 l7.high, .slice A7 n7 c7, .slice E7 m7 d7] 50)) := (by (repeat (first | (with_reducible assumption) | (with_reducible exact Below.refl _ _) | (with_reducible refine Below.drew ?_) | (with_reducible refine Below.drewN ?_ _) | (with_reducible refine Below.setCell ?_ ?_ _) | (with_reducible refine Below.alloc ?_ ?_ _) | assumption)); all_goals (first | omega | (simp; done) | (simp; omega)))
  replace R0 := R0.below b14
  replace R1 := R1.below b14
  replace R2 := R2.below b14
  replace R7 := R7.below b14
  replace K0 := K0.below b14 qK0
  replace qK0 := K0.lt
  replace cK0 := fun o => K0.cell o
  replace K1 := K1.below b14 qK1
  replace qK1 := K1.lt
  replace cK1 := fun o => K1.cell o
  replace K2 := K2.below b14 qK2
  replace qK2 := K2.lt
  replace cK2 := fun o => K2.cell o
  replace K5 := K5.below b14 qK5
  replace qK5 := K5.lt
  replace cK5 := fun o => K5.cell o
  replace K6 := K6.below b14 qK6
  replace qK6 := K6.lt
  replace cK6 := fun o => K6.cell o
  replace b14 := bnext b13 b14
  clear b13
  generalize (w13.alloc (.cells #[.int .i64 l7.size, .int .i64 l7.wide, .int .i64 l7.high, .slice A7 n7 c7, .slice E7 m7 d7] 50)) = w14 at K7 R0 R1 R2 R7 K0 qK0 cK0 K1 qK1 cK1 K2 qK2 cK2 K5 qK5 cK5 K6 qK6 cK6 b14 ⊢
  generalize w13.heap.size = gK7 at K7 ⊢
  have qK7 := K7.lt
  have cK7 := fun o => K7.cell o
  go_wp2_with fail
  refine (implDangerCells_any ⟨⟨A7, n7, c7⟩, ⟨E7, m7, d7⟩⟩ l7 q _ ok7 R7).mono ?_
  rintro e w15 ⟨B8, n8, c8, rfl, R8, -, hm8, b15⟩
  replace R0 := R0.below b15
  replace R1 := R1.below b15
  replace R2 := R2.below b15
  replace R7 := R7.below b15
  replace K0 := K0.below b15 qK0
  replace qK0 := K0.lt
  replace cK0 := fun o => K0.cell o
  replace K1 := K1.below b15 qK1
  replace qK1 := K1.lt
  replace cK1 := fun o => K1.cell o
  replace K2 := K2.below b15 qK2
  replace qK2 := K2.lt
  replace cK2 := fun o => K2.cell o
  replace K5 := K5.below b15 qK5
  replace qK5 := K5.lt
  replace cK5 := fun o => K5.cell o
  replace K6 := K6.below b15 qK6
  replace qK6 := K6.lt
  replace cK6 := fun o => K6.cell o
  replace K7 := K7.below b15 qK7
  replace qK7 := K7.lt
  replace cK7 := fun o => K7.cell o
  replace b15 := bnext b14 b15
  clear b14
  go_wp2_with fail
  refine (specDangerCells_any ⟨⟨A7, n7, c7⟩, ⟨E7, m7, d7⟩⟩ l7 q _ ok7 R7).mono ?_
  rintro e w16 ⟨B9, n9, c9, rfl, R9, -, hm9, b16⟩
  replace R0 := R0.below b16
  replace R1 := R1.below b16
  replace R2 := R2.below b16
  replace R7 := R7.below b16
  replace R8 := R8.below b16
  replace K0 := K0.below b16 qK0
  replace qK0 := K0.lt
  replace cK0 := fun o => K0.cell o
  replace K1 := K1.below b16 qK1
  replace qK1 := K1.lt
  replace cK1 := fun o => K1.cell o
  replace K2 := K2.below b16 qK2
  replace qK2 := K2.lt
  replace cK2 := fun o => K2.cell o
  replace K5 := K5.below b16 qK5
  replace qK5 := K5.lt
  replace cK5 := fun o => K5.cell o
  replace K6 := K6.below b16 qK6
  replace qK6 := K6.lt
  replace cK6 := fun o => K6.cell o
  replace K7 := K7.below b16 qK7
  replace qK7 := K7.lt
  replace cK7 := fun o => K7.cell o
  replace b16 := bnext b15 b16
  clear b15
  clear R7 K7 qK7 cK7
  obtain rfl : n8 = n9 := by have a := R8.len; have b := R9.len; omega
  generalize dgR l7 q = dl at *
  generalize dgC l7 q = dc at *
  go_wp2_with fail
  refine (likeGrids_v ⟨⟨A1, n1, c1⟩, ⟨E1, m1, d1⟩⟩ ⟨⟨A2, n2, c2⟩, ⟨E2, m2, d2⟩⟩ (fgR l0) _ ok1 R1 R2).mono ?_
  rintro e w17 ⟨rfl, b17⟩
  replace R0 := R0.below b17
  replace R1 := R1.below b17
  replace R2 := R2.below b17
  replace R8 := R8.below b17
  replace R9 := R9.below b17
  replace K0 := K0.below b17 qK0
  replace qK0 := K0.lt
  replace cK0 := fun o => K0.cell o
  replace K1 := K1.below b17 qK1
  replace qK1 := K1.lt
  replace cK1 := fun o => K1.cell o
  replace K2 := K2.below b17 qK2
  replace qK2 := K2.lt
  replace cK2 := fun o => K2.cell o
  replace K5 := K5.below b17 qK5
  replace qK5 := K5.lt
  replace cK5 := fun o => K5.cell o
  replace K6 := K6.below b17 qK6
  replace qK6 := K6.lt
  replace cK6 := fun o => K6.cell o
  replace b17 := bnext b16 b17
  clear b16
  clear R2 K2 qK2 cK2
  go_wp2_with fail
  refine (likeInts_below B8 B9 n8 c8 c9 dl _ (by omega) R8 R9).mono ?_
  rintro e w18 ⟨rfl, b18⟩
  replace R0 := R0.below b18
  replace R1 := R1.below b18
  replace R8 := R8.below b18
  replace R9 := R9.below b18
  replace K0 := K0.below b18 qK0
  replace qK0 := K0.lt
  replace cK0 := fun o => K0.cell o
  replace K1 := K1.below b18 qK1
  replace qK1 := K1.lt
  replace cK1 := fun o => K1.cell o
  replace K5 := K5.below b18 qK5
  replace qK5 := K5.lt
  replace cK5 := fun o => K5.cell o
  replace K6 := K6.below b18 qK6
  replace qK6 := K6.lt
  replace cK6 := fun o => K6.cell o
  replace b18 := bnext b17 b18
  clear b17
  clear R8 R9 K6 qK6 cK6
  clear hm8 hm9
  by_cases hcx : fgC l0 = 0
  case neg =>
    have g1 : (fgC l0 == 0) = false := by rw [beq_eq_false_iff_ne]; exact hcx
    have g2 : (fgC l0 != 0) = true := by simpa using hcx
    go_wp2
    go_ret
    exact ⟨rfl, b18⟩
  have hg : gridOk l0 = true := by
    rcases Bool.eq_false_or_eq_true (gridOk l0) with o | o
    · exact o
    · rw [(fg_bad o).1] at hcx; omega
  rw [hcx]
  have e0 : l0.counts.length = n0 := R0.head.len
  have e1 : l0.depths.length = m0 * 2 := R0.tail.head.len
  have e2 : (fgR l0).counts.length = n1 := R1.head.len
  have e3 : (fgR l0).depths.length = m1 * 2 := R1.tail.head.len
  have M := GOk.of hg
  have hs := fgTo_side l0 l0.counts.length
  rw [← (fg_ok hg).2] at hs
  have hbd := M.bd
  have heq := M.eq
  obtain rfl : n0 = m0 := by omega
  obtain rfl : n0 = n1 := by omega
  obtain rfl : n0 = m1 := by omega
  have hn9 : n0 ≤ 900 ∧ 1 ≤ n0 := by omega
  have HK : Hid (∀ i : Nat, i < n0 → l0.counts.getD i 0 ≠ 0 → (fgR l0).counts.getD i 0 = l0.counts.getD i 0 ∧ (fgR l0).depths.getD (i * 2) 0 = l0.depths.getD (i * 2) 0 ∧ (fgR l0).depths.getD (i * 2 + 1) 0 = l0.depths.getD (i * 2 + 1) 0) := fun i hi => fill_known hg (by omega)
  have HD : Hid (∀ i : Nat, i < n0 → (fgR l0).counts.getD i 0 ≠ 0 → shC l0 = 0 ∧ 0 ≤ shV l0 ∧ shV l0 < (n0 : Int) ∧ l0.depths.getD ((shV l0).toNat * 2) 0 ≤ (fgR l0).depths.getD (i * 2) 0) := fun i hi h => by
    have := fill_deep hg (by omega) h
    rw [e0] at this
    exact this
  have HM : Hid (shC l0 = 0 → mdC l0 = 0 ∧ 0 ≤ shV l0 ∧ shV l0 < (n0 : Int) ∧ l0.depths.getD ((shV l0).toNat * 2) 0 ≤ mdL l0 ∧ mdL l0 ≤ mdH l0 ∧ gridOk (fgR l0) = true) := fun h => by
    have := fill_mean hg h
    rw [e0] at this
    exact this
  clear hcx hg e0 e1 e2 e3 M hs hbd heq
  have rc0 : Rd w18 A0 n0 (ints l0.counts) := R0.head
  have rd0 : Rd w18 E0 (n0 * 2) (ints l0.depths) := R0.tail.head
  have rc1 : Rd w18 A1 n0 (ints (fgR l0).counts) := R1.head
  have rd1 : Rd w18 E1 (n0 * 2) (ints (fgR l0).depths) := R1.tail.head
  obtain ⟨a0, rfl, -⟩ := rc0.int (show 0 < n0 by omega)
  obtain ⟨a1, rfl, -⟩ := rc1.int (show 0 < n0 by omega)
  obtain ⟨e0, rfl, -, -⟩ := rd0.two (show 0 < n0 by omega)
  obtain ⟨e1, rfl, -, -⟩ := rd1.two (show 0 < n0 by omega)
  clear ok0
  generalize fgR l0 = lx at *
  generalize shC l0 = sc at *
  generalize shV l0 = sv at *
  generalize mdC l0 = mc at *
  generalize mdL l0 = ml at *
  generalize mdH l0 = mh at *
  go_wp2_with fail
  go_loopw [22] (fun i wr => ∃ k : Nat, k ≤ n0 ∧ i = .int .i64 k ∧ Below w18.heap.size w18 wr) (fun i _ => n0 - (intOf i).toNat)
  case atStart => exact ⟨0, Nat.zero_le _, rfl, Below.refl _ _⟩
  case round =>
    obtain ⟨k, hk, rfl, b⟩ := hrel
    replace K0 := K0.below b qK0
    replace qK0 := K0.lt
    replace cK0 := fun o => K0.cell o
    replace K1 := K1.below b qK1
    replace qK1 := K1.lt
    replace cK1 := fun o => K1.cell o
    replace K5 := K5.below b qK5
    replace qK5 := K5.lt
    replace cK5 := fun o => K5.cell o
    replace rc0 := rc0.below b
    replace rd0 := rd0.below b
    replace rc1 := rc1.below b
    replace rd1 := rd1.below b
    replace R1 := R1.below b
    by_cases hlt : k < n0
    · have hltI : (k : Int) < (n0 : Int) := by omega
      have hk0 : (0 : Int) ≤ (k : Int) := by omega
      clear HM ok1 R1
      obtain ⟨_, ⟨⟩, hx⟩ := rc0.int hlt
      obtain ⟨_, ⟨⟩, hy⟩ := rc1.int hlt
      obtain ⟨_, ⟨⟩, hx0, hx1⟩ := rd0.two hlt
      obtain ⟨_, ⟨⟩, hy0, hy1⟩ := rd1.two hlt
      have HV : Hid (0 ≤ sv → sv < (n0 : Int) → wr.cell? (e0.add (sv.toNat * 2)) = some (.int .i64 (l0.depths.getD (sv.toNat * 2) 0))) := fun h1 h2 => by
        obtain ⟨_, ⟨⟩, h, _⟩ := rd0.two (k := sv.toNat) (by omega)
        exact h
      have HK2 := Lib.hid (HK.out k hlt)
      have HD2 := Lib.hid (HD.out k hlt)
      clear HK HD rc0 rc1 rd0 rd1
      generalize l0.counts.getD k 0 = gc at *
      generalize l0.depths.getD (k * 2) 0 = p0 at *
      generalize l0.depths.getD (k * 2 + 1) 0 = p1 at *
      generalize lx.counts.getD k 0 = xc at *
      generalize lx.depths.getD (k * 2) 0 = r0 at *
      generalize lx.depths.getD (k * 2 + 1) 0 = r1 at *
      generalize l0.depths.getD (sv.toNat * 2) 0 = ps at *
      by_cases hgc : gc = 0
      · subst hgc
        clear HK2
        go_upto_region 20 with fail
        go_quiet (fail)
        go_upto_region 22 with fail
        by_cases hxc : xc = 0
        · subst hxc
          clear HD2 HV
          go_quiet (fail)
          go_wp2
          go_roundw
          case rel => exact ⟨k + 1, by omega, by go_num, Below.drewN b _⟩
          case measure => simp [intOf]; omega
        · skip
          obtain ⟨rfl, s0, s1, s2⟩ := HD2.out hxc
          have hv := HV.out s0 s1
          have s3 : decide (r0 < ps) = false := decide_eq_false (by omega)
          have hxb : (xc == 0) = false := by rw [beq_eq_false_iff_ne]; exact hxc
          have hxn : (xc != 0) = true := by simpa using hxc
          clear HV HD2 s2 hxc
          go_quiet (fail)
          go_wp2
          go_roundw
          case rel => exact ⟨k + 1, by omega, by go_num, Below.drewN b _⟩
          case measure => simp [intOf]; omega
      · obtain ⟨rfl, rfl, rfl⟩ := HK2.out hgc
        have hgb : (xc == 0) = false := by rw [beq_eq_false_iff_ne]; exact hgc
        have hgn : (xc != 0) = true := by simpa using hgc
        clear HK2 hgc
        go_upto_region 20 with fail
        go_quiet (fail)
        go_upto_region 22 with fail
        by_cases hxc : xc = 0
        · subst hxc
          clear HD2 HV
          go_quiet (fail)
          go_wp2
          go_roundw
          case rel => exact ⟨k + 1, by omega, by go_num, Below.drewN b _⟩
          case measure => simp [intOf]; omega
        · skip
          obtain ⟨rfl, s0, s1, s2⟩ := HD2.out hxc
          have hv := HV.out s0 s1
          have s3 : decide (r0 < ps) = false := decide_eq_false (by omega)
          have hxb : (xc == 0) = false := by rw [beq_eq_false_iff_ne]; exact hxc
          have hxn : (xc != 0) = true := by simpa using hxc
          clear HV HD2 s2 hxc
          go_quiet (fail)
          go_wp2
          go_roundw
          case rel => exact ⟨k + 1, by omega, by go_num, Below.drewN b _⟩
          case measure => simp [intOf]; omega
    · obtain rfl : k = n0 := by omega
      clear HK HD rc0 rc1 rd1
      go_upto_region 24 with fail
      by_cases hsc : sc = 0
      · obtain ⟨rfl, s0, s1, s2, s3, s4⟩ := HM.out hsc
        subst hsc
        clear HM
        obtain ⟨_, ⟨⟩, hv, _⟩ := rd0.two (k := sv.toNat) (by omega)
        clear rd0
        generalize l0.depths.getD (sv.toNat * 2) 0 = ps at *
        have t0 : decide (ps ≤ ml) = true := decide_eq_true s2
        have t1 : decide (ml ≤ mh) = true := decide_eq_true s3
        have hL := (implIsDepthGrid_any ⟨⟨some a1, k, c1⟩, ⟨some e1, k, d1⟩⟩ lx wr.drew ok1 (R1.below (Below.drew (Below.refl _ _)))).mono (fun e w' h => And.intro (s4 ▸ h.1) h.2)
        unfold DepthGridV at hL
        simp only at hL
        go_still_tail 25, (by kernel_rfl)
        change wpList _ _ _ _ _ wr.drew
        go_wp2_with fail
        refine hL.mono ?_
        rintro e w9 ⟨rfl, b9⟩
        go_wp2
        go_ret
        exact ⟨rfl, b18.trans (((Below.drew b).trans (b9.mono (Below.drew b).size)).mono b18.size)⟩
      · have hsb : (sc == 0) = false := by rw [beq_eq_false_iff_ne]; exact hsc
        have hsn : (sc != 0) = true := by simpa using hsc
        clear HM rd0 hsc
        go_quiet (fail)
        go_wp2
        go_ret
        exact ⟨rfl, b18.trans ((Below.drewN b _).mono b18.size)⟩
end Go.Proofs.Ythmcnoloeeabbaa
