/- The law FnPutting, walked. No condition beyond what an argument of its type bears. -/
import Derived.Test.YthmcnoloeeabbaaDrawT
import Derived.Test.YthmcnoloeeabbaaPutP
import Derived.Test.YthmcnoloeeabbaaPutO
import Derived.Test.YthmcnoloeeabbaaDice
import Derived.Test.YthmcnoloeeabbaaArgB
namespace Go.Proofs.Ythmcnoloeeabbaa
open Go.RowKit

set_option maxRecDepth 100000 in
set_option maxHeartbeats 4000000 in
theorem FnPutting_walk (w : World) (A : Option Addr) (n c : Nat) (zs : List Int) (G : ArgB w A n c zs) :
    Calls Try.prog 8 #[.slice A n c] w fun e w' => e = .returned (.bool true) ∧ Below w.heap.size w w' := by
  have hmx := G.max
  by_cases hb : (4096 : Int) < (n : Int)
  · go_enter Try.func8, Try.ntmps8
    go_wp2_with (go_at_call 35; refine (big_any _ _ _ _ (by omega)).mono ?_; rintro e w' ⟨rfl, rfl⟩)
    go_ret
    exact ⟨rfl, Below.refl _ _⟩
  have hbd : decide ((4096 : Int) < (n : Int)) = false := by simpa using hb
  have hn4 : n ≤ 4096 := by omega
  go_enter Try.func8, Try.ntmps8
  go_wp2_with fail
  refine (big_any _ _ _ _ (by omega)).mono ?_
  rintro e w' ⟨rfl, rfl⟩
  go_wp2_with fail
  refine (drawPutSample_any A n c zs _ G.rd G.byte hn4).mono ?_
  rintro e w1 ⟨⟨⟨A0, n0, c0⟩, ⟨E0, m0, d0⟩⟩, l0, x, y, v, u, rfl, ok0, R0, b1⟩
  clear hbd hb
  unfold MosaicV
  simp only
  go_wp2_with fail
  have K0 := Blk.newN (g := w1.heap.size) w1 26 #[.int .i64 l0.wide, .int .i64 l0.high, .slice A0 n0 c0, .slice E0 m0 d0] (by simp)
  have b2 : Below w1.heap.size w1 (w1.alloc (.cells #[.int .i64 l0.wide, .int .i64 l0.high, .slice A0 n0 c0, .slice E0 m0 d0] 26)) := (by (repeat (first | (with_reducible assumption) | (with_reducible exact Below.refl _ _) | (with_reducible refine Below.drew ?_) | (with_reducible refine Below.drewN ?_ _) | (with_reducible refine Below.setCell ?_ ?_ _) | (with_reducible refine Below.alloc ?_ ?_ _) | assumption)); all_goals (first | omega | (simp; done) | (simp; omega)))
  replace R0 := R0.below b2
  replace b2 := bnext b1 b2
  clear b1
  generalize w1.alloc (.cells #[.int .i64 l0.wide, .int .i64 l0.high, .slice A0 n0 c0, .slice E0 m0 d0] 26) = w2 at K0 R0  b2 ⊢
  generalize w1.heap.size = gK0 at K0 ⊢
  have qK0 := K0.lt
  have cK0 := fun o => K0.cell o
  refine (implPutSample'_any ⟨⟨A0, n0, c0⟩, ⟨E0, m0, d0⟩⟩ l0 x y v u _ ok0 R0).mono ?_
  rintro e w3 ⟨⟨⟨A1, n1, c1⟩, ⟨E1, m1, d1⟩⟩, rfl, ok1, R1, -, -, b3⟩
  replace R0 := R0.below b3
  replace K0 := K0.below b3 qK0
  replace qK0 := K0.lt
  replace cK0 := fun o => K0.cell o
  replace b3 := bnext b2 b3
  clear b2
  unfold MosaicV
  simp only
  go_wp2_with fail
  have K1 := Blk.newN (g := w3.heap.size) w3 26 #[.int .i64 (putSR l0 x y v u).wide, .int .i64 (putSR l0 x y v u).high, .slice A1 n1 c1, .slice E1 m1 d1] (by simp)
  have b4 : Below w3.heap.size w3 (w3.alloc (.cells #[.int .i64 (putSR l0 x y v u).wide, .int .i64 (putSR l0 x y v u).high, .slice A1 n1 c1, .slice E1 m1 d1] 26)) := (by (repeat (first | (with_reducible assumption) | (with_reducible exact Below.refl _ _) | (with_reducible refine Below.drew ?_) | (with_reducible refine Below.drewN ?_ _) | (with_reducible refine Below.setCell ?_ ?_ _) | (with_reducible refine Below.alloc ?_ ?_ _) | assumption)); all_goals (first | omega | (simp; done) | (simp; omega)))
  replace R0 := R0.below b4
  replace R1 := R1.below b4
  replace K0 := K0.below b4 qK0
  replace qK0 := K0.lt
  replace cK0 := fun o => K0.cell o
  replace b4 := bnext b3 b4
  clear b3
  generalize w3.alloc (.cells #[.int .i64 (putSR l0 x y v u).wide, .int .i64 (putSR l0 x y v u).high, .slice A1 n1 c1, .slice E1 m1 d1] 26) = w4 at K1 R0 R1 K0 qK0 cK0 b4 ⊢
  generalize w3.heap.size = gK1 at K1 ⊢
  have qK1 := K1.lt
  have cK1 := fun o => K1.cell o
  refine (specPutSample'_any ⟨⟨A0, n0, c0⟩, ⟨E0, m0, d0⟩⟩ l0 x y v u _ ok0 R0).mono ?_
  rintro e w5 ⟨⟨⟨A2, n2, c2⟩, ⟨E2, m2, d2⟩⟩, rfl, ok2, R2, -, -, b5⟩
  replace R0 := R0.below b5
  replace R1 := R1.below b5
  replace K0 := K0.below b5 qK0
  replace qK0 := K0.lt
  replace cK0 := fun o => K0.cell o
  replace K1 := K1.below b5 qK1
  replace qK1 := K1.lt
  replace cK1 := fun o => K1.cell o
  replace b5 := bnext b4 b5
  clear b4
  unfold MosaicV
  simp only
  go_wp2_with fail
  have K2 := Blk.newN (g := w5.heap.size) w5 26 #[.int .i64 (putSR l0 x y v u).wide, .int .i64 (putSR l0 x y v u).high, .slice A2 n2 c2, .slice E2 m2 d2] (by simp)
  have b6 : Below w5.heap.size w5 (w5.alloc (.cells #[.int .i64 (putSR l0 x y v u).wide, .int .i64 (putSR l0 x y v u).high, .slice A2 n2 c2, .slice E2 m2 d2] 26)) := (by (repeat (first | (with_reducible assumption) | (with_reducible exact Below.refl _ _) | (with_reducible refine Below.drew ?_) | (with_reducible refine Below.drewN ?_ _) | (with_reducible refine Below.setCell ?_ ?_ _) | (with_reducible refine Below.alloc ?_ ?_ _) | assumption)); all_goals (first | omega | (simp; done) | (simp; omega)))
  replace R0 := R0.below b6
  replace R1 := R1.below b6
  replace R2 := R2.below b6
  replace K0 := K0.below b6 qK0
  replace qK0 := K0.lt
  replace cK0 := fun o => K0.cell o
  replace K1 := K1.below b6 qK1
  replace qK1 := K1.lt
  replace cK1 := fun o => K1.cell o
  replace b6 := bnext b5 b6
  clear b5
  generalize w5.alloc (.cells #[.int .i64 (putSR l0 x y v u).wide, .int .i64 (putSR l0 x y v u).high, .slice A2 n2 c2, .slice E2 m2 d2] 26) = w6 at K2 R0 R1 R2 K0 qK0 cK0 K1 qK1 cK1 b6 ⊢
  generalize w5.heap.size = gK2 at K2 ⊢
  have qK2 := K2.lt
  have cK2 := fun o => K2.cell o
  refine (drawPutLine_any A n c zs _ (G.rd.below b6) G.byte hn4).mono ?_
  rintro e w7 ⟨⟨⟨A3, n3, c3⟩, ⟨E3, m3, d3⟩⟩, l3, x0, y0, x1, y1, ⟨A9, n9, c9⟩, vs, s, rfl, ok3, hk9, R3, R9, b7⟩
  replace R0 := R0.below b7
  replace R1 := R1.below b7
  replace R2 := R2.below b7
  replace K0 := K0.below b7 qK0
  replace qK0 := K0.lt
  replace cK0 := fun o => K0.cell o
  replace K1 := K1.below b7 qK1
  replace qK1 := K1.lt
  replace cK1 := fun o => K1.cell o
  replace K2 := K2.below b7 qK2
  replace qK2 := K2.lt
  replace cK2 := fun o => K2.cell o
  replace b7 := bnext b6 b7
  clear b6
  simp only at hk9 R9
  unfold MosaicV
  simp only
  go_wp2_with fail
  have K3 := ((Blk.newN (g := w7.heap.size) w7 26 #[.int .i64 l3.wide, .int .i64 l3.high, .slice A3 n3 c3, .slice E3 m3 d3] (by simp)).alloc (.cells #[.int .i64 x0, .int .i64 y0] 38)).alloc (.cells #[.int .i64 x1, .int .i64 y1] 38)
  have J0 := (Blk.newN (g := w7.heap.size + 1) (w7.alloc (.cells #[.int .i64 l3.wide, .int .i64 l3.high, .slice A3 n3 c3, .slice E3 m3 d3] 26)) 38 #[.int .i64 x0, .int .i64 y0] (by simp)).alloc (.cells #[.int .i64 x1, .int .i64 y1] 38)
  have J1 := Blk.newN (g := w7.heap.size + 1 + 1) ((w7.alloc (.cells #[.int .i64 l3.wide, .int .i64 l3.high, .slice A3 n3 c3, .slice E3 m3 d3] 26)).alloc (.cells #[.int .i64 x0, .int .i64 y0] 38)) 38 #[.int .i64 x1, .int .i64 y1] (by simp)
  have b8 : Below w7.heap.size w7 (((w7.alloc (.cells #[.int .i64 l3.wide, .int .i64 l3.high, .slice A3 n3 c3, .slice E3 m3 d3] 26)).alloc (.cells #[.int .i64 x0, .int .i64 y0] 38)).alloc (.cells #[.int .i64 x1, .int .i64 y1] 38)) := (by (repeat (first | (with_reducible assumption) | (with_reducible exact Below.refl _ _) | (with_reducible refine Below.drew ?_) | (with_reducible refine Below.drewN ?_ _) | (with_reducible refine Below.setCell ?_ ?_ _) | (with_reducible refine Below.alloc ?_ ?_ _) | assumption)); all_goals (first | omega | (simp; done) | (simp; omega)))
  replace R0 := R0.below b8
  replace R1 := R1.below b8
  replace R2 := R2.below b8
  replace R3 := R3.below b8
  replace R9 := R9.below b8
  replace K0 := K0.below b8 qK0
  replace qK0 := K0.lt
  replace cK0 := fun o => K0.cell o
  replace K1 := K1.below b8 qK1
  replace qK1 := K1.lt
  replace cK1 := fun o => K1.cell o
  replace K2 := K2.below b8 qK2
  replace qK2 := K2.lt
  replace cK2 := fun o => K2.cell o
  replace b8 := bnext b7 b8
  clear b7
  generalize ((w7.alloc (.cells #[.int .i64 l3.wide, .int .i64 l3.high, .slice A3 n3 c3, .slice E3 m3 d3] 26)).alloc (.cells #[.int .i64 x0, .int .i64 y0] 38)).alloc (.cells #[.int .i64 x1, .int .i64 y1] 38) = w8 at K3 J0 J1 R0 R1 R2 R3 R9 K0 qK0 cK0 K1 qK1 cK1 K2 qK2 cK2 b8 ⊢
  generalize w7.heap.size + 1 + 1 = gJ1 at J1 ⊢
  generalize w7.heap.size + 1 = gJ0 at J0 ⊢
  generalize w7.heap.size = gK3 at K3 ⊢
  have qK3 := K3.lt
  have cK3 := fun o => K3.cell o
  have qJ0 := J0.lt
  have cJ0 := fun o => J0.cell o
  have qJ1 := J1.lt
  have cJ1 := fun o => J1.cell o
  refine (implPutLine'_any ⟨⟨A3, n3, c3⟩, ⟨E3, m3, d3⟩⟩ l3 x0 y0 x1 y1 ⟨A9, n9, c9⟩ vs s _ ok3 R3 (show n9 ≤ 1048576 by omega) (RdAll.cons (s := ⟨A9, n9, ints vs⟩) R9 (RdAll.nil _))).mono ?_
  rintro e w9 ⟨⟨⟨A4, n4, c4⟩, ⟨E4, m4, d4⟩⟩, rfl, ok4, R4, -, -, b9⟩
  replace R0 := R0.below b9
  replace R1 := R1.below b9
  replace R2 := R2.below b9
  replace R3 := R3.below b9
  replace R9 := R9.below b9
  replace K0 := K0.below b9 qK0
  replace qK0 := K0.lt
  replace cK0 := fun o => K0.cell o
  replace K1 := K1.below b9 qK1
  replace qK1 := K1.lt
  replace cK1 := fun o => K1.cell o
  replace K2 := K2.below b9 qK2
  replace qK2 := K2.lt
  replace cK2 := fun o => K2.cell o
  replace K3 := K3.below b9 qK3
  replace qK3 := K3.lt
  replace cK3 := fun o => K3.cell o
  replace J0 := J0.below b9 qJ0
  replace qJ0 := J0.lt
  replace cJ0 := fun o => J0.cell o
  replace J1 := J1.below b9 qJ1
  replace qJ1 := J1.lt
  replace cJ1 := fun o => J1.cell o
  replace b9 := bnext b8 b9
  clear b8
  unfold MosaicV
  simp only
  go_wp2_with fail
  have K4 := Blk.newN (g := w9.heap.size) w9 26 #[.int .i64 (plR l3 x0 y0 x1 y1 vs s).wide, .int .i64 (plR l3 x0 y0 x1 y1 vs s).high, .slice A4 n4 c4, .slice E4 m4 d4] (by simp)
  have b10 : Below w9.heap.size w9 (w9.alloc (.cells #[.int .i64 (plR l3 x0 y0 x1 y1 vs s).wide, .int .i64 (plR l3 x0 y0 x1 y1 vs s).high, .slice A4 n4 c4, .slice E4 m4 d4] 26)) := (by (repeat (first | (with_reducible assumption) | (with_reducible exact Below.refl _ _) | (with_reducible refine Below.drew ?_) | (with_reducible refine Below.drewN ?_ _) | (with_reducible refine Below.setCell ?_ ?_ _) | (with_reducible refine Below.alloc ?_ ?_ _) | assumption)); all_goals (first | omega | (simp; done) | (simp; omega)))
  replace R0 := R0.below b10
  replace R1 := R1.below b10
  replace R2 := R2.below b10
  replace R3 := R3.below b10
  replace R9 := R9.below b10
  replace R4 := R4.below b10
  replace K0 := K0.below b10 qK0
  replace qK0 := K0.lt
  replace cK0 := fun o => K0.cell o
  replace K1 := K1.below b10 qK1
  replace qK1 := K1.lt
  replace cK1 := fun o => K1.cell o
  replace K2 := K2.below b10 qK2
  replace qK2 := K2.lt
  replace cK2 := fun o => K2.cell o
  replace K3 := K3.below b10 qK3
  replace qK3 := K3.lt
  replace cK3 := fun o => K3.cell o
  replace J0 := J0.below b10 qJ0
  replace qJ0 := J0.lt
  replace cJ0 := fun o => J0.cell o
  replace J1 := J1.below b10 qJ1
  replace qJ1 := J1.lt
  replace cJ1 := fun o => J1.cell o
  replace b10 := bnext b9 b10
  clear b9
  generalize w9.alloc (.cells #[.int .i64 (plR l3 x0 y0 x1 y1 vs s).wide, .int .i64 (plR l3 x0 y0 x1 y1 vs s).high, .slice A4 n4 c4, .slice E4 m4 d4] 26) = w10 at K4 R0 R1 R2 R3 R9 R4 K0 qK0 cK0 K1 qK1 cK1 K2 qK2 cK2 K3 qK3 cK3 J0 qJ0 cJ0 J1 qJ1 cJ1 b10 ⊢
  generalize w9.heap.size = gK4 at K4 ⊢
  have qK4 := K4.lt
  have cK4 := fun o => K4.cell o
  refine (specPutLine'_any ⟨⟨A3, n3, c3⟩, ⟨E3, m3, d3⟩⟩ l3 x0 y0 x1 y1 ⟨A9, n9, c9⟩ vs s _ ok3 R3 (show n9 ≤ 1048576 by omega) (RdAll.cons (s := ⟨A9, n9, ints vs⟩) R9 (RdAll.nil _))).mono ?_
  rintro e w11 ⟨⟨⟨A5, n5, c5⟩, ⟨E5, m5, d5⟩⟩, rfl, ok5, R5, -, -, b11⟩
  replace R0 := R0.below b11
  replace R1 := R1.below b11
  replace R2 := R2.below b11
  replace R3 := R3.below b11
  replace R9 := R9.below b11
  replace R4 := R4.below b11
  replace K0 := K0.below b11 qK0
  replace qK0 := K0.lt
  replace cK0 := fun o => K0.cell o
  replace K1 := K1.below b11 qK1
  replace qK1 := K1.lt
  replace cK1 := fun o => K1.cell o
  replace K2 := K2.below b11 qK2
  replace qK2 := K2.lt
  replace cK2 := fun o => K2.cell o
  replace K3 := K3.below b11 qK3
  replace qK3 := K3.lt
  replace cK3 := fun o => K3.cell o
  replace J0 := J0.below b11 qJ0
  replace qJ0 := J0.lt
  replace cJ0 := fun o => J0.cell o
  replace J1 := J1.below b11 qJ1
  replace qJ1 := J1.lt
  replace cJ1 := fun o => J1.cell o
  replace K4 := K4.below b11 qK4
  replace qK4 := K4.lt
  replace cK4 := fun o => K4.cell o
  replace b11 := bnext b10 b11
  clear b10
  unfold MosaicV
  simp only
  go_wp2_with fail
  have K5 := Blk.newN (g := w11.heap.size) w11 26 #[.int .i64 (plR l3 x0 y0 x1 y1 vs s).wide, .int .i64 (plR l3 x0 y0 x1 y1 vs s).high, .slice A5 n5 c5, .slice E5 m5 d5] (by simp)
  have b12 : Below w11.heap.size w11 (w11.alloc (.cells #[.int .i64 (plR l3 x0 y0 x1 y1 vs s).wide, .int .i64 (plR l3 x0 y0 x1 y1 vs s).high, .slice A5 n5 c5, .slice E5 m5 d5] 26)) := (by (repeat (first | (with_reducible assumption) | (with_reducible exact Below.refl _ _) | (with_reducible refine Below.drew ?_) | (with_reducible refine Below.drewN ?_ _) | (with_reducible refine Below.setCell ?_ ?_ _) | (with_reducible refine Below.alloc ?_ ?_ _) | assumption)); all_goals (first | omega | (simp; done) | (simp; omega)))
  replace R0 := R0.below b12
  replace R1 := R1.below b12
  replace R2 := R2.below b12
  replace R3 := R3.below b12
  replace R9 := R9.below b12
  replace R4 := R4.below b12
  replace R5 := R5.below b12
  replace K0 := K0.below b12 qK0
  replace qK0 := K0.lt
  replace cK0 := fun o => K0.cell o
  replace K1 := K1.below b12 qK1
  replace qK1 := K1.lt
  replace cK1 := fun o => K1.cell o
  replace K2 := K2.below b12 qK2
  replace qK2 := K2.lt
  replace cK2 := fun o => K2.cell o
  replace K3 := K3.below b12 qK3
  replace qK3 := K3.lt
  replace cK3 := fun o => K3.cell o
  replace J0 := J0.below b12 qJ0
  replace qJ0 := J0.lt
  replace cJ0 := fun o => J0.cell o
  replace J1 := J1.below b12 qJ1
  replace qJ1 := J1.lt
  replace cJ1 := fun o => J1.cell o
  replace K4 := K4.below b12 qK4
  replace qK4 := K4.lt
  replace cK4 := fun o => K4.cell o
  replace b12 := bnext b11 b12
  clear b11
  generalize w11.alloc (.cells #[.int .i64 (plR l3 x0 y0 x1 y1 vs s).wide, .int .i64 (plR l3 x0 y0 x1 y1 vs s).high, .slice A5 n5 c5, .slice E5 m5 d5] 26) = w12 at K5 R0 R1 R2 R3 R9 R4 R5 K0 qK0 cK0 K1 qK1 cK1 K2 qK2 cK2 K3 qK3 cK3 J0 qJ0 cJ0 J1 qJ1 cJ1 K4 qK4 cK4 b12 ⊢
  generalize w11.heap.size = gK5 at K5 ⊢
  have qK5 := K5.lt
  have cK5 := fun o => K5.cell o
  refine (drawNewMosaic_any A n c zs _ (G.rd.below b12) G.byte hn4).mono ?_
  rintro e w13 ⟨wd, hg, rfl, -, -, -, -, b13⟩
  clear R3 R9 K3 qK3 cK3 J0 qJ0 cJ0 J1 qJ1 cJ1
  replace R0 := R0.below b13
  replace R1 := R1.below b13
  replace R2 := R2.below b13
  replace R4 := R4.below b13
  replace R5 := R5.below b13
  replace K0 := K0.below b13 qK0
  replace qK0 := K0.lt
  replace cK0 := fun o => K0.cell o
  replace K1 := K1.below b13 qK1
  replace qK1 := K1.lt
  replace cK1 := fun o => K1.cell o
  replace K2 := K2.below b13 qK2
  replace qK2 := K2.lt
  replace cK2 := fun o => K2.cell o
  replace K4 := K4.below b13 qK4
  replace qK4 := K4.lt
  replace cK4 := fun o => K4.cell o
  replace K5 := K5.below b13 qK5
  replace qK5 := K5.lt
  replace cK5 := fun o => K5.cell o
  replace b13 := bnext b12 b13
  clear b12
  go_wp2_with fail
  refine (implNewMosaic_any wd hg _).mono ?_
  rintro e w14 ⟨⟨⟨A6, n6, c6⟩, ⟨E6, m6, d6⟩⟩, rfl, ok6, R6, -, -, b14⟩
  replace R0 := R0.below b14
  replace R1 := R1.below b14
  replace R2 := R2.below b14
  replace R4 := R4.below b14
  replace R5 := R5.below b14
  replace K0 := K0.below b14 qK0
  replace qK0 := K0.lt
  replace cK0 := fun o => K0.cell o
  replace K1 := K1.below b14 qK1
  replace qK1 := K1.lt
  replace cK1 := fun o => K1.cell o
  replace K2 := K2.below b14 qK2
  replace qK2 := K2.lt
  replace cK2 := fun o => K2.cell o
  replace K4 := K4.below b14 qK4
  replace qK4 := K4.lt
  replace cK4 := fun o => K4.cell o
  replace K5 := K5.below b14 qK5
  replace qK5 := K5.lt
  replace cK5 := fun o => K5.cell o
  replace b14 := bnext b13 b14
  clear b13
  unfold MosaicV
  simp only
  go_wp2_with fail
  have K6 := Blk.newN (g := w14.heap.size) w14 26 #[.int .i64 (nmR wd hg).wide, .int .i64 (nmR wd hg).high, .slice A6 n6 c6, .slice E6 m6 d6] (by simp)
  have b15 : Below w14.heap.size w14 (w14.alloc (.cells #[.int .i64 (nmR wd hg).wide, .int .i64 (nmR wd hg).high, .slice A6 n6 c6, .slice E6 m6 d6] 26)) := (by (repeat (first | (with_reducible assumption) | (with_reducible exact Below.refl _ _) | (with_reducible refine Below.drew ?_) | (with_reducible refine Below.drewN ?_ _) | (with_reducible refine Below.setCell ?_ ?_ _) | (with_reducible refine Below.alloc ?_ ?_ _) | assumption)); all_goals (first | omega | (simp; done) | (simp; omega)))
  replace R0 := R0.below b15
  replace R1 := R1.below b15
  replace R2 := R2.below b15
  replace R4 := R4.below b15
  replace R5 := R5.below b15
  replace R6 := R6.below b15
  replace K0 := K0.below b15 qK0
  replace qK0 := K0.lt
  replace cK0 := fun o => K0.cell o
  replace K1 := K1.below b15 qK1
  replace qK1 := K1.lt
  replace cK1 := fun o => K1.cell o
  replace K2 := K2.below b15 qK2
  replace qK2 := K2.lt
  replace cK2 := fun o => K2.cell o
  replace K4 := K4.below b15 qK4
  replace qK4 := K4.lt
  replace cK4 := fun o => K4.cell o
  replace K5 := K5.below b15 qK5
  replace qK5 := K5.lt
  replace cK5 := fun o => K5.cell o
  replace b15 := bnext b14 b15
  clear b14
  generalize w14.alloc (.cells #[.int .i64 (nmR wd hg).wide, .int .i64 (nmR wd hg).high, .slice A6 n6 c6, .slice E6 m6 d6] 26) = w15 at K6 R0 R1 R2 R4 R5 R6 K0 qK0 cK0 K1 qK1 cK1 K2 qK2 cK2 K4 qK4 cK4 K5 qK5 cK5 b15 ⊢
  generalize w14.heap.size = gK6 at K6 ⊢
  have qK6 := K6.lt
  have cK6 := fun o => K6.cell o
  refine (specNewMosaic_any wd hg _).mono ?_
  rintro e w16 ⟨⟨⟨A7, n7, c7⟩, ⟨E7, m7, d7⟩⟩, rfl, ok7, R7, -, -, b16⟩
  replace R0 := R0.below b16
  replace R1 := R1.below b16
  replace R2 := R2.below b16
  replace R4 := R4.below b16
  replace R5 := R5.below b16
  replace R6 := R6.below b16
  replace K0 := K0.below b16 qK0
  replace qK0 := K0.lt
  replace cK0 := fun o => K0.cell o
  replace K1 := K1.below b16 qK1
  replace qK1 := K1.lt
  replace cK1 := fun o => K1.cell o
  replace K2 := K2.below b16 qK2
  replace qK2 := K2.lt
  replace cK2 := fun o => K2.cell o
  replace K4 := K4.below b16 qK4
  replace qK4 := K4.lt
  replace cK4 := fun o => K4.cell o
  replace K5 := K5.below b16 qK5
  replace qK5 := K5.lt
  replace cK5 := fun o => K5.cell o
  replace K6 := K6.below b16 qK6
  replace qK6 := K6.lt
  replace cK6 := fun o => K6.cell o
  replace b16 := bnext b15 b16
  clear b15
  unfold MosaicV
  simp only
  have HLN : Hid (plC l3 x0 y0 x1 y1 vs s = 0 → mosOk (plR l3 x0 y0 x1 y1 vs s) = true) := line_ok
  have HPF : Hid (putSC l0 x y v u = 0 → ∀ p q, pixB p q = true → PutFacts l0 x y v u p q) := fun h p q hp => put_facts h hp
  go_upto_region 12 with fail
  have K7 := Blk.newN (g := w16.heap.size) w16 26 #[.int .i64 (nmR wd hg).wide, .int .i64 (nmR wd hg).high, .slice A7 n7 c7, .slice E7 m7 d7] (by simp)
  have b17 : Below w16.heap.size w16 (w16.alloc (.cells #[.int .i64 (nmR wd hg).wide, .int .i64 (nmR wd hg).high, .slice A7 n7 c7, .slice E7 m7 d7] 26)) := (by (repeat (first | (with_reducible assumption) | (with_reducible exact Below.refl _ _) | (with_reducible refine Below.drew ?_) | (with_reducible refine Below.drewN ?_ _) | (with_reducible refine Below.setCell ?_ ?_ _) | (with_reducible refine Below.alloc ?_ ?_ _) | assumption)); all_goals (first | omega | (simp; done) | (simp; omega)))
  replace R0 := R0.below b17
  replace R1 := R1.below b17
  replace R2 := R2.below b17
  replace R4 := R4.below b17
  replace R5 := R5.below b17
  replace R6 := R6.below b17
  replace R7 := R7.below b17
  replace K0 := K0.below b17 qK0
  replace qK0 := K0.lt
  replace cK0 := fun o => K0.cell o
  replace K1 := K1.below b17 qK1
  replace qK1 := K1.lt
  replace cK1 := fun o => K1.cell o
  replace K2 := K2.below b17 qK2
  replace qK2 := K2.lt
  replace cK2 := fun o => K2.cell o
  replace K4 := K4.below b17 qK4
  replace qK4 := K4.lt
  replace cK4 := fun o => K4.cell o
  replace K5 := K5.below b17 qK5
  replace qK5 := K5.lt
  replace cK5 := fun o => K5.cell o
  replace K6 := K6.below b17 qK6
  replace qK6 := K6.lt
  replace cK6 := fun o => K6.cell o
  replace b17 := bnext b16 b17
  clear b16
  generalize w16.alloc (.cells #[.int .i64 (nmR wd hg).wide, .int .i64 (nmR wd hg).high, .slice A7 n7 c7, .slice E7 m7 d7] 26) = w17 at K7 R0 R1 R2 R4 R5 R6 R7 K0 qK0 cK0 K1 qK1 cK1 K2 qK2 cK2 K4 qK4 cK4 K5 qK5 cK5 K6 qK6 cK6 b17 ⊢
  generalize w16.heap.size = gK7 at K7 ⊢
  have qK7 := K7.lt
  have cK7 := fun o => K7.cell o
  generalize hla : putSR l0 x y v u = la at *
  generalize hlc : putSC l0 x y v u = lc at *
  generalize plR l3 x0 y0 x1 y1 vs s = ll at *
  generalize plC l3 x0 y0 x1 y1 vs s = lk at *
  generalize nmR wd hg = ln at *
  generalize nmC wd hg = lm at *
  have HLA := Lib.hid hla
  have HLC := Lib.hid hlc
  clear hla hlc
  go_cut [146] (fun cv wx => cv = .bool false ∧ Below w17.heap.size w17 wx)
  case first =>
    clear b17 R0 K0 qK0 cK0
    go_wp2_with fail
    refine (likeMosaics9_v ⟨⟨A1, n1, c1⟩, ⟨E1, m1, d1⟩⟩ ⟨⟨A2, n2, c2⟩, ⟨E2, m2, d2⟩⟩ la _ ok1 R1 R2).mono ?_
    rintro e w18 ⟨rfl, b18⟩
    clear R1 R2 K1 qK1 cK1 K2 qK2 cK2
    replace R4 := R4.below b18
    replace R5 := R5.below b18
    replace R6 := R6.below b18
    replace R7 := R7.below b18
    replace K4 := K4.below b18 qK4
    replace qK4 := K4.lt
    replace cK4 := fun o => K4.cell o
    replace K5 := K5.below b18 qK5
    replace qK5 := K5.lt
    replace cK5 := fun o => K5.cell o
    replace K6 := K6.below b18 qK6
    replace qK6 := K6.lt
    replace cK6 := fun o => K6.cell o
    replace K7 := K7.below b18 qK7
    replace qK7 := K7.lt
    replace cK7 := fun o => K7.cell o
    go_wp2_with fail
    refine (likeMosaics9_v ⟨⟨A4, n4, c4⟩, ⟨E4, m4, d4⟩⟩ ⟨⟨A5, n5, c5⟩, ⟨E5, m5, d5⟩⟩ ll _ ok4 R4 R5).mono ?_
    rintro e w19 ⟨rfl, b19⟩
    clear R5 K5 qK5 cK5
    replace R4 := R4.below b19
    replace R6 := R6.below b19
    replace R7 := R7.below b19
    replace K4 := K4.below b19 qK4
    replace qK4 := K4.lt
    replace cK4 := fun o => K4.cell o
    replace K6 := K6.below b19 qK6
    replace qK6 := K6.lt
    replace cK6 := fun o => K6.cell o
    replace K7 := K7.below b19 qK7
    replace qK7 := K7.lt
    replace cK7 := fun o => K7.cell o
    replace b19 := bnext b18 b19
    clear b18
    go_wp2_with fail
    refine (likeMosaics9_v ⟨⟨A6, n6, c6⟩, ⟨E6, m6, d6⟩⟩ ⟨⟨A7, n7, c7⟩, ⟨E7, m7, d7⟩⟩ ln _ ok6 R6 R7).mono ?_
    rintro e w20 ⟨rfl, b20⟩
    clear R6 R7 K6 qK6 cK6 K7 qK7 cK7
    replace R4 := R4.below b20
    replace K4 := K4.below b20 qK4
    replace qK4 := K4.lt
    replace cK4 := fun o => K4.cell o
    replace b20 := bnext b19 b20
    clear b19
    by_cases h1 : lk = 0
    · have h2 := HLN.out h1
      subst h1
      go_wp2_with fail
      refine (implIsMosaic_any ⟨⟨A4, n4, c4⟩, ⟨E4, m4, d4⟩⟩ ll _ ok4 R4).mono ?_
      rw [h2]
      rintro e wz ⟨rfl, bz⟩
      go_wp2_with fail
      go_meet
      exact ⟨rfl, bnext b20 bz⟩
    · have g1 : (lk == 0) = false := by simpa using h1
      go_wp2_with fail
      go_meet
      exact ⟨rfl, b20⟩
  case rest =>
    obtain ⟨rfl, bx⟩ := hcut
    skip
    clear R2 R4 R5 R6 R7 K2 qK2 cK2 K4 qK4 cK4 K5 qK5 cK5 K6 qK6 cK6 K7 qK7 cK7 HLN
    replace R0 := R0.below bx
    replace R1 := R1.below bx
    replace K0 := K0.below bx qK0
    replace qK0 := K0.lt
    replace cK0 := fun o => K0.cell o
    replace K1 := K1.below bx qK1
    replace qK1 := K1.lt
    replace cK1 := fun o => K1.cell o
    replace bx := bnext b17 bx
    clear b17
    obtain ⟨wy, rfl⟩ : ∃ x : World, x = wc := ⟨_, rfl⟩
    by_cases hq : lc = 0
    case neg =>
      have g1 : (lc == 0) = false := by simpa using hq
      have g2 : (lc != 0) = true := by simpa using hq
      go_wp2
      go_ret
      exact ⟨rfl, bx⟩
    have HQ := Lib.hid (HPF.out hq)
    subst hq
    clear HPF HLC
    have lo0 := R0.lo
    have lo1 := R1.lo
    have bzs := bx.size
    have qz0 := qK0
    have qz1 := qK1
    go_wp2_with fail
    refine (roll_any A n c zs 1901 _ (G.rd.below bx) G.byte hn4 (by decide) (by decide)).mono ?_
    rintro e w18 ⟨g, rfl, D, b18⟩
    replace R0 := R0.below b18
    replace R1 := R1.below b18
    replace K0 := K0.below b18 qK0
    replace qK0 := K0.lt
    replace cK0 := fun o => K0.cell o
    replace K1 := K1.below b18 qK1
    replace qK1 := K1.lt
    replace cK1 := fun o => K1.cell o
    replace b18 := bnext bx b18
    clear bx
    have D := D
    have hgl := D.lt.2
    have ne0 := lo0.ne hgl
    have ne1 := lo1.ne hgl
    have hg0 : g ≠ gK0 := by omega
    have hg1 : g ≠ gK1 := by omega
    have hgw : w.heap.size ≤ g := by omega
    clear lo0 lo1 qz0 qz1
    go_wp2_with fail
    refine (below_any _ g 1001 _ D (by decide) (by decide)).mono ?_
    rintro e w19 ⟨p, rfl, p0, p1, gg, D1⟩
    replace D := D1
    replace R0 := R0.nx gg ne0
    replace R1 := R1.nx gg ne1
    replace K0 := K0.nx gg hg0
    replace K1 := K1.nx gg hg1
    replace qK0 := K0.lt
    replace qK1 := K1.lt
    replace cK0 := fun o => K0.cell o
    replace cK1 := fun o => K1.cell o
    replace b18 := bstepg b18 gg (Nat.le_refl _) (fun k e => by injection e with e; omega)
    clear gg D1
    go_wp2_with fail
    refine (below_any _ g 9 _ D (by decide) (by decide)).mono ?_
    rintro e w20 ⟨q, rfl, q0, q1, gg, D1⟩
    replace D := D1
    replace R0 := R0.nx gg ne0
    replace R1 := R1.nx gg ne1
    replace K0 := K0.nx gg hg0
    replace K1 := K1.nx gg hg1
    replace qK0 := K0.lt
    replace qK1 := K1.lt
    replace cK0 := fun o => K0.cell o
    replace cK1 := fun o => K1.cell o
    replace b18 := bstepg b18 gg (Nat.le_refl _) (fun k e => by injection e with e; omega)
    clear gg D1
    have hpq : pixB p (1 + q) = true := by unfold pixB; rw [inR_mk (by omega) (by omega), inR_mk (by omega) (by omega)]; rfl
    have HF := HQ.out p (1 + q) hpq
    have hfb : putSC la x y p (1 + q) = 0 := by rw [← HLA.out]; exact HF.b
    have hfc : putSC l0 x y p (1 + q) = 0 := HF.c
    have hfd : putSC (putSR l0 x y p (1 + q)) x y v u = 0 := HF.back
    have HFS : Hid (putSR la x y p (1 + q) = putSR (putSR l0 x y p (1 + q)) x y v u) := by unfold Hid; rw [← HLA.out]; exact HF.same
    have HFO : Hid (mosOk (putSR la x y p (1 + q)) = true) := by unfold Hid; rw [← HLA.out]; exact HF.ok
    clear HF HQ D hpq ne0 ne1 hg0 hg1 hgl
    go_wp2_with fail
    refine (implPutSample'_any ⟨⟨A1, n1, c1⟩, ⟨E1, m1, d1⟩⟩ la x y p (1 + q) _ ok1 R1).mono ?_
    rintro e w21 ⟨⟨⟨A10, n10, c10⟩, ⟨E10, m10, d10⟩⟩, rfl, ok10, R10, -, -, b21⟩
    replace R0 := R0.below b21
    replace R1 := R1.below b21
    replace K0 := K0.below b21 qK0
    replace qK0 := K0.lt
    replace cK0 := fun o => K0.cell o
    replace K1 := K1.below b21 qK1
    replace qK1 := K1.lt
    replace cK1 := fun o => K1.cell o
    replace b21 := bnext b18 b21
    clear b18
    unfold MosaicV
    simp only
    go_wp2_with fail
    have K10 := Blk.newN (g := w21.heap.size) w21 26 #[.int .i64 (putSR la x y p (1 + q)).wide, .int .i64 (putSR la x y p (1 + q)).high, .slice A10 n10 c10, .slice E10 m10 d10] (by simp)
    have b22 : Below w21.heap.size w21 (w21.alloc (.cells #[.int .i64 (putSR la x y p (1 + q)).wide, .int .i64 (putSR la x y p (1 + q)).high, .slice A10 n10 c10, .slice E10 m10 d10] 26)) := (by (repeat (first | (with_reducible assumption) | (with_reducible exact Below.refl _ _) | (with_reducible refine Below.drew ?_) | (with_reducible refine Below.drewN ?_ _) | (with_reducible refine Below.setCell ?_ ?_ _) | (with_reducible refine Below.alloc ?_ ?_ _) | assumption)); all_goals (first | omega | (simp; done) | (simp; omega)))
    replace R0 := R0.below b22
    replace R1 := R1.below b22
    replace R10 := R10.below b22
    replace K0 := K0.below b22 qK0
    replace qK0 := K0.lt
    replace cK0 := fun o => K0.cell o
    replace K1 := K1.below b22 qK1
    replace qK1 := K1.lt
    replace cK1 := fun o => K1.cell o
    replace b22 := bnext b21 b22
    clear b21
    generalize w21.alloc (.cells #[.int .i64 (putSR la x y p (1 + q)).wide, .int .i64 (putSR la x y p (1 + q)).high, .slice A10 n10 c10, .slice E10 m10 d10] 26) = w22 at K10 R0 R1 R10 K0 qK0 cK0 K1 qK1 cK1 b22 ⊢
    generalize w21.heap.size = gK10 at K10 ⊢
    have qK10 := K10.lt
    have cK10 := fun o => K10.cell o
    refine (implPutSample'_any ⟨⟨A0, n0, c0⟩, ⟨E0, m0, d0⟩⟩ l0 x y p (1 + q) _ ok0 R0).mono ?_
    rintro e w23 ⟨⟨⟨A11, n11, c11⟩, ⟨E11, m11, d11⟩⟩, rfl, ok11, R11, -, -, b23⟩
    replace R0 := R0.below b23
    replace R1 := R1.below b23
    replace R10 := R10.below b23
    replace K0 := K0.below b23 qK0
    replace qK0 := K0.lt
    replace cK0 := fun o => K0.cell o
    replace K1 := K1.below b23 qK1
    replace qK1 := K1.lt
    replace cK1 := fun o => K1.cell o
    replace K10 := K10.below b23 qK10
    replace qK10 := K10.lt
    replace cK10 := fun o => K10.cell o
    replace b23 := bnext b22 b23
    clear b22
    unfold MosaicV
    simp only
    go_wp2_with fail
    have K11 := Blk.newN (g := w23.heap.size) w23 26 #[.int .i64 (putSR l0 x y p (1 + q)).wide, .int .i64 (putSR l0 x y p (1 + q)).high, .slice A11 n11 c11, .slice E11 m11 d11] (by simp)
    have b24 : Below w23.heap.size w23 (w23.alloc (.cells #[.int .i64 (putSR l0 x y p (1 + q)).wide, .int .i64 (putSR l0 x y p (1 + q)).high, .slice A11 n11 c11, .slice E11 m11 d11] 26)) := (by (repeat (first | (with_reducible assumption) | (with_reducible exact Below.refl _ _) | (with_reducible refine Below.drew ?_) | (with_reducible refine Below.drewN ?_ _) | (with_reducible refine Below.setCell ?_ ?_ _) | (with_reducible refine Below.alloc ?_ ?_ _) | assumption)); all_goals (first | omega | (simp; done) | (simp; omega)))
    replace R0 := R0.below b24
    replace R1 := R1.below b24
    replace R10 := R10.below b24
    replace R11 := R11.below b24
    replace K0 := K0.below b24 qK0
    replace qK0 := K0.lt
    replace cK0 := fun o => K0.cell o
    replace K1 := K1.below b24 qK1
    replace qK1 := K1.lt
    replace cK1 := fun o => K1.cell o
    replace K10 := K10.below b24 qK10
    replace qK10 := K10.lt
    replace cK10 := fun o => K10.cell o
    replace b24 := bnext b23 b24
    clear b23
    generalize w23.alloc (.cells #[.int .i64 (putSR l0 x y p (1 + q)).wide, .int .i64 (putSR l0 x y p (1 + q)).high, .slice A11 n11 c11, .slice E11 m11 d11] 26) = w24 at K11 R0 R1 R10 R11 K0 qK0 cK0 K1 qK1 cK1 K10 qK10 cK10 b24 ⊢
    generalize w23.heap.size = gK11 at K11 ⊢
    have qK11 := K11.lt
    have cK11 := fun o => K11.cell o
    refine (implPutSample'_any ⟨⟨A11, n11, c11⟩, ⟨E11, m11, d11⟩⟩ (putSR l0 x y p (1 + q)) x y v u _ ok11 R11).mono ?_
    rintro e w25 ⟨⟨⟨A12, n12, c12⟩, ⟨E12, m12, d12⟩⟩, rfl, ok12, R12, -, -, b25⟩
    replace R0 := R0.below b25
    replace R1 := R1.below b25
    replace R10 := R10.below b25
    replace R11 := R11.below b25
    replace K0 := K0.below b25 qK0
    replace qK0 := K0.lt
    replace cK0 := fun o => K0.cell o
    replace K1 := K1.below b25 qK1
    replace qK1 := K1.lt
    replace cK1 := fun o => K1.cell o
    replace K10 := K10.below b25 qK10
    replace qK10 := K10.lt
    replace cK10 := fun o => K10.cell o
    replace K11 := K11.below b25 qK11
    replace qK11 := K11.lt
    replace cK11 := fun o => K11.cell o
    replace b25 := bnext b24 b25
    clear b24
    unfold MosaicV
    simp only
    go_upto_region 21 with fail
    have K12 := Blk.newN (g := w25.heap.size) w25 26 #[.int .i64 (putSR (putSR l0 x y p (1 + q)) x y v u).wide, .int .i64 (putSR (putSR l0 x y p (1 + q)) x y v u).high, .slice A12 n12 c12, .slice E12 m12 d12] (by simp)
    have b26 : Below w25.heap.size w25 (w25.alloc (.cells #[.int .i64 (putSR (putSR l0 x y p (1 + q)) x y v u).wide, .int .i64 (putSR (putSR l0 x y p (1 + q)) x y v u).high, .slice A12 n12 c12, .slice E12 m12 d12] 26)) := (by (repeat (first | (with_reducible assumption) | (with_reducible exact Below.refl _ _) | (with_reducible refine Below.drew ?_) | (with_reducible refine Below.drewN ?_ _) | (with_reducible refine Below.setCell ?_ ?_ _) | (with_reducible refine Below.alloc ?_ ?_ _) | assumption)); all_goals (first | omega | (simp; done) | (simp; omega)))
    replace R0 := R0.below b26
    replace R1 := R1.below b26
    replace R10 := R10.below b26
    replace R11 := R11.below b26
    replace R12 := R12.below b26
    replace K0 := K0.below b26 qK0
    replace qK0 := K0.lt
    replace cK0 := fun o => K0.cell o
    replace K1 := K1.below b26 qK1
    replace qK1 := K1.lt
    replace cK1 := fun o => K1.cell o
    replace K10 := K10.below b26 qK10
    replace qK10 := K10.lt
    replace cK10 := fun o => K10.cell o
    replace K11 := K11.below b26 qK11
    replace qK11 := K11.lt
    replace cK11 := fun o => K11.cell o
    replace b26 := bnext b25 b26
    clear b25
    generalize w25.alloc (.cells #[.int .i64 (putSR (putSR l0 x y p (1 + q)) x y v u).wide, .int .i64 (putSR (putSR l0 x y p (1 + q)) x y v u).high, .slice A12 n12 c12, .slice E12 m12 d12] 26) = w26 at K12 R0 R1 R10 R11 R12 K0 qK0 cK0 K1 qK1 cK1 K10 qK10 cK10 K11 qK11 cK11 b26 ⊢
    generalize w25.heap.size = gK12 at K12 ⊢
    have qK12 := K12.lt
    have cK12 := fun o => K12.cell o
    rw [← HFS.out] at R12 cK12 K12
    clear R0 R1 R11 K0 qK0 cK0 K1 qK1 cK1 K11 qK11 cK11 HFS HLA
    generalize putSR la x y p (1 + q) = lb at *
    go_wp2_with fail
    refine (likeMosaics9_v ⟨⟨A10, n10, c10⟩, ⟨E10, m10, d10⟩⟩ ⟨⟨A12, n12, c12⟩, ⟨E12, m12, d12⟩⟩ lb _ ok10 R10 R12).mono ?_
    rintro e w27 ⟨rfl, b27⟩
    clear R12 K12 qK12 cK12
    replace R10 := R10.below b27
    replace K10 := K10.below b27 qK10
    replace qK10 := K10.lt
    replace cK10 := fun o => K10.cell o
    replace b27 := bnext b26 b27
    clear b26
    go_wp2_with fail
    refine (implIsMosaic_any ⟨⟨A10, n10, c10⟩, ⟨E10, m10, d10⟩⟩ lb _ ok10 R10).mono ?_
    rw [HFO.out]
    rintro e wz ⟨rfl, bz⟩
    have be := bnext b27 bz
    go_wp2
    go_ret
    exact ⟨rfl, be⟩
end Go.Proofs.Ythmcnoloeeabbaa
