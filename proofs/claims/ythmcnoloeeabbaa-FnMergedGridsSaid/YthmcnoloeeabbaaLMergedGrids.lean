/- The law FnMergedGrids, walked. No condition beyond what an argument of its type bears. -/
import Derived.Test.YthmcnoloeeabbaaDrW
import Derived.Test.YthmcnoloeeabbaaDrU
import Derived.Test.YthmcnoloeeabbaaGrsI
import Derived.Test.YthmcnoloeeabbaaGrsL
import Derived.Test.YthmcnoloeeabbaaGrsQ
import Derived.Test.YthmcnoloeeabbaaGriF
import Derived.Test.YthmcnoloeeabbaaDice
import Derived.Test.YthmcnoloeeabbaaArgB
namespace Go.Proofs.Ythmcnoloeeabbaa
open Go.RowKit

theorem rd_tail4 {w : World} {A : Option Addr} {n c q : Nat} {xs : List Int} (r : Rd w A (n * 4) (ints xs)) (hq : q ≤ n) (_ : n ≤ c) : Rd w (if c = q then A else A.map (·.add (q * 4))) ((n - q) * 4) (ints (xs.drop (q * 4))) := by
  have hl := r.len
  refine ⟨by unfold ints; simp; omega, fun hn => ?_⟩
  obtain ⟨ad, rfl, hc⟩ := r.2 (by omega)
  refine ⟨ad.add (q * 4), by rw [if_neg (by omega)]; rfl, fun i hi => ?_⟩
  rw [add_of_add, hc _ (by omega), ints_getElem?, ints_getElem?, List.getElem?_drop]
set_option maxRecDepth 100000 in
set_option maxHeartbeats 4000000 in
theorem FnMergedGrids_walk (w : World) (A : Option Addr) (n c : Nat) (zs : List Int) (G : ArgB w A n c zs) :
    Calls Try.prog 9 #[.slice A n c] w fun e w' => e = .returned (.bool true) ∧ Below w.heap.size w w' := by
  have hmx := G.max
  by_cases hb : (4096 : Int) < (n : Int)
  · go_enter Try.func9, Try.ntmps9
    go_wp2_with (go_at_call 35; refine (big_any _ _ _ _ (by omega)).mono ?_; rintro e w' ⟨rfl, rfl⟩)
    go_ret
    exact ⟨rfl, Below.refl _ _⟩
  have hbd : decide ((4096 : Int) < (n : Int)) = false := by simpa using hb
  have hn4 : n ≤ 4096 := by omega
  go_enter Try.func9, Try.ntmps9
  go_wp2_with fail
  refine (big_any _ _ _ _ (by omega)).mono ?_
  rintro e w' ⟨rfl, rfl⟩
  go_wp2_with fail
  refine (drawMergeGrids_any A n c zs _ G.rd G.byte hn4).mono ?_
  rintro e w1 ⟨A0, n0, c0, E0, m0, d0, l0, A1, n1, c1, E1, m1, d1, l1, rfl, ok0, R0, ok1, R1, b1⟩
  clear hbd hb
  go_wp2_with fail
  have K0 := (Blk.newN (g := w1.heap.size) w1 50 #[.int .i64 l0.size, .int .i64 l0.wide, .int .i64 l0.high, .slice A0 n0 c0, .slice E0 m0 d0] (by simp)).alloc (.cells #[.int .i64 l1.size, .int .i64 l1.wide, .int .i64 l1.high, .slice A1 n1 c1, .slice E1 m1 d1] 50)
  have K1 := Blk.newN (g := w1.heap.size + 1) (w1.alloc (.cells #[.int .i64 l0.size, .int .i64 l0.wide, .int .i64 l0.high, .slice A0 n0 c0, .slice E0 m0 d0] 50)) 50 #[.int .i64 l1.size, .int .i64 l1.wide, .int .i64 l1.high, .slice A1 n1 c1, .slice E1 m1 d1] (by simp)
  have b2 : Below w1.heap.size w1 ((w1.alloc (.cells #[.int .i64 l0.size, .int .i64 l0.wide, .int .i64 l0.high, .slice A0 n0 c0, .slice E0 m0 d0] 50)).alloc (.cells #[.int .i64 l1.size, .int .i64 l1.wide, .int .i64 l1.high, .slice A1 n1 c1, .slice E1 m1 d1] 50)) := (by (repeat (first | (with_reducible assumption) | (with_reducible exact Below.refl _ _) | (with_reducible refine Below.drew ?_) | (with_reducible refine Below.drewN ?_ _) | (with_reducible refine Below.setCell ?_ ?_ _) | (with_reducible refine Below.alloc ?_ ?_ _) | assumption)); all_goals (first | omega | (simp; done) | (simp; omega)))
  replace R0 := R0.below b2
  replace R1 := R1.below b2
  replace b2 := bnext b1 b2
  clear b1
  generalize ((w1.alloc (.cells #[.int .i64 l0.size, .int .i64 l0.wide, .int .i64 l0.high, .slice A0 n0 c0, .slice E0 m0 d0] 50)).alloc (.cells #[.int .i64 l1.size, .int .i64 l1.wide, .int .i64 l1.high, .slice A1 n1 c1, .slice E1 m1 d1] 50)) = w2 at K0 K1 R0 R1 b2 ⊢
  generalize w1.heap.size + 1 = gK1 at K1 ⊢
  generalize w1.heap.size = gK0 at K0 ⊢
  have qK0 := K0.lt
  have cK0 := fun o => K0.cell o
  have qK1 := K1.lt
  have cK1 := fun o => K1.cell o
  go_wp2_with fail
  refine (implMergeGrids'_any ⟨⟨A0, n0, c0⟩, ⟨E0, m0, d0⟩⟩ l0 ⟨⟨A1, n1, c1⟩, ⟨E1, m1, d1⟩⟩ l1 _ ok0 R0 ok1 R1).mono ?_
  rintro e w3 ⟨⟨⟨A2, n2, c2⟩, ⟨E2, m2, d2⟩⟩, rfl, ok2, R2, -, -, b3⟩
  replace R0 := R0.below b3
  replace R1 := R1.below b3
  replace K0 := K0.below b3 qK0
  replace qK0 := K0.lt
  replace cK0 := fun o => K0.cell o
  replace K1 := K1.below b3 qK1
  replace qK1 := K1.lt
  replace cK1 := fun o => K1.cell o
  replace b3 := bnext b2 b3
  clear b2
  unfold DepthGridV
  simp only
  go_wp2_with fail
  have K2 := Blk.newN (g := w3.heap.size) w3 50 #[.int .i64 (gmR l0 l1).size, .int .i64 (gmR l0 l1).wide, .int .i64 (gmR l0 l1).high, .slice A2 n2 c2, .slice E2 m2 d2] (by simp)
  have b4 : Below w3.heap.size w3 (w3.alloc (.cells #[.int .i64 (gmR l0 l1).size, .int .i64 (gmR l0 l1).wide, .int .i64 (gmR l0 l1).high, .slice A2 n2 c2, .slice E2 m2 d2] 50)) := (by (repeat (first | (with_reducible assumption) | (with_reducible exact Below.refl _ _) | (with_reducible refine Below.drew ?_) | (with_reducible refine Below.drewN ?_ _) | (with_reducible refine Below.setCell ?_ ?_ _) | (with_reducible refine Below.alloc ?_ ?_ _) | assumption)); all_goals (first | omega | (simp; done) | (simp; omega)))
  replace R0 := R0.below b4
  replace R1 := R1.below b4
  replace R2 := R2.below b4
  replace K0 := K0.below b4 qK0
  replace qK0 := K0.lt
  replace cK0 := fun o => K0.cell o
  replace K1 := K1.below b4 qK1
  replace qK1 := K1.lt
  replace cK1 := fun o => K1.cell o
  replace b4 := bnext b3 b4
  clear b3
  generalize (w3.alloc (.cells #[.int .i64 (gmR l0 l1).size, .int .i64 (gmR l0 l1).wide, .int .i64 (gmR l0 l1).high, .slice A2 n2 c2, .slice E2 m2 d2] 50)) = w4 at K2 R0 R1 R2 K0 qK0 cK0 K1 qK1 cK1 b4 ⊢
  generalize w3.heap.size = gK2 at K2 ⊢
  have qK2 := K2.lt
  have cK2 := fun o => K2.cell o
  go_wp2_with fail
  refine (specMergeGrids'_any ⟨⟨A0, n0, c0⟩, ⟨E0, m0, d0⟩⟩ l0 ⟨⟨A1, n1, c1⟩, ⟨E1, m1, d1⟩⟩ l1 _ ok0 R0 ok1 R1).mono ?_
  rintro e w5 ⟨⟨⟨A3, n3, c3⟩, ⟨E3, m3, d3⟩⟩, rfl, ok3, R3, -, -, b5⟩
  replace R0 := R0.below b5
  replace R1 := R1.below b5
  replace R2 := R2.below b5
  replace K0 := K0.below b5 qK0
  replace qK0 := K0.lt
  replace cK0 := fun o => K0.cell o
  replace K1 := K1.below b5 qK1
  replace qK1 := K1.lt
  replace cK1 := fun o => K1.cell o
  replace K2 := K2.below b5 qK2
  replace qK2 := K2.lt
  replace cK2 := fun o => K2.cell o
  replace b5 := bnext b4 b5
  clear b4
  unfold DepthGridV
  simp only
  go_wp2_with fail
  have K3 := Blk.newN (g := w5.heap.size) w5 50 #[.int .i64 (gmR l0 l1).size, .int .i64 (gmR l0 l1).wide, .int .i64 (gmR l0 l1).high, .slice A3 n3 c3, .slice E3 m3 d3] (by simp)
  have b6 : Below w5.heap.size w5 (w5.alloc (.cells #[.int .i64 (gmR l0 l1).size, .int .i64 (gmR l0 l1).wide, .int .i64 (gmR l0 l1).high, .slice A3 n3 c3, .slice E3 m3 d3] 50)) := (by (repeat (first | (with_reducible assumption) | (with_reducible exact Below.refl _ _) | (with_reducible refine Below.drew ?_) | (with_reducible refine Below.drewN ?_ _) | (with_reducible refine Below.setCell ?_ ?_ _) | (with_reducible refine Below.alloc ?_ ?_ _) | assumption)); all_goals (first | omega | (simp; done) | (simp; omega)))
  replace R0 := R0.below b6
  replace R1 := R1.below b6
  replace R2 := R2.below b6
  replace R3 := R3.below b6
  replace K0 := K0.below b6 qK0
  replace qK0 := K0.lt
  replace cK0 := fun o => K0.cell o
  replace K1 := K1.below b6 qK1
  replace qK1 := K1.lt
  replace cK1 := fun o => K1.cell o
  replace K2 := K2.below b6 qK2
  replace qK2 := K2.lt
  replace cK2 := fun o => K2.cell o
  replace b6 := bnext b5 b6
  clear b5
  generalize (w5.alloc (.cells #[.int .i64 (gmR l0 l1).size, .int .i64 (gmR l0 l1).wide, .int .i64 (gmR l0 l1).high, .slice A3 n3 c3, .slice E3 m3 d3] 50)) = w6 at K3 R0 R1 R2 R3 K0 qK0 cK0 K1 qK1 cK1 K2 qK2 cK2 b6 ⊢
  generalize w5.heap.size = gK3 at K3 ⊢
  have qK3 := K3.lt
  have cK3 := fun o => K3.cell o
  go_wp2_with fail
  refine (implMergeGrids'_any ⟨⟨A1, n1, c1⟩, ⟨E1, m1, d1⟩⟩ l1 ⟨⟨A0, n0, c0⟩, ⟨E0, m0, d0⟩⟩ l0 _ ok1 R1 ok0 R0).mono ?_
  rw [gmC_comm l1 l0, gmR_comm l1 l0]
  rintro e w7 ⟨⟨⟨A4, n4, c4⟩, ⟨E4, m4, d4⟩⟩, rfl, ok4, R4, -, -, b7⟩
  replace R0 := R0.below b7
  replace R1 := R1.below b7
  replace R2 := R2.below b7
  replace R3 := R3.below b7
  replace K0 := K0.below b7 qK0
  replace qK0 := K0.lt
  replace cK0 := fun o => K0.cell o
  replace K1 := K1.below b7 qK1
  replace qK1 := K1.lt
  replace cK1 := fun o => K1.cell o
  replace K2 := K2.below b7 qK2
  replace qK2 := K2.lt
  replace cK2 := fun o => K2.cell o
  replace K3 := K3.below b7 qK3
  replace qK3 := K3.lt
  replace cK3 := fun o => K3.cell o
  replace b7 := bnext b6 b7
  clear b6
  unfold DepthGridV
  simp only
  go_wp2_with fail
  have K4 := Blk.newN (g := w7.heap.size) w7 50 #[.int .i64 (gmR l0 l1).size, .int .i64 (gmR l0 l1).wide, .int .i64 (gmR l0 l1).high, .slice A4 n4 c4, .slice E4 m4 d4] (by simp)
  have b8 : Below w7.heap.size w7 (w7.alloc (.cells #[.int .i64 (gmR l0 l1).size, .int .i64 (gmR l0 l1).wide, .int .i64 (gmR l0 l1).high, .slice A4 n4 c4, .slice E4 m4 d4] 50)) := (by (repeat (first | (with_reducible assumption) | (with_reducible exact Below.refl _ _) | (with_reducible refine Below.drew ?_) | (with_reducible refine Below.drewN ?_ _) | (with_reducible refine Below.setCell ?_ ?_ _) | (with_reducible refine Below.alloc ?_ ?_ _) | assumption)); all_goals (first | omega | (simp; done) | (simp; omega)))
  replace R0 := R0.below b8
  replace R1 := R1.below b8
  replace R2 := R2.below b8
  replace R3 := R3.below b8
  replace R4 := R4.below b8
  replace K0 := K0.below b8 qK0
  replace qK0 := K0.lt
  replace cK0 := fun o => K0.cell o
  replace K1 := K1.below b8 qK1
  replace qK1 := K1.lt
  replace cK1 := fun o => K1.cell o
  replace K2 := K2.below b8 qK2
  replace qK2 := K2.lt
  replace cK2 := fun o => K2.cell o
  replace K3 := K3.below b8 qK3
  replace qK3 := K3.lt
  replace cK3 := fun o => K3.cell o
  replace b8 := bnext b7 b8
  clear b7
  generalize (w7.alloc (.cells #[.int .i64 (gmR l0 l1).size, .int .i64 (gmR l0 l1).wide, .int .i64 (gmR l0 l1).high, .slice A4 n4 c4, .slice E4 m4 d4] 50)) = w8 at K4 R0 R1 R2 R3 R4 K0 qK0 cK0 K1 qK1 cK1 K2 qK2 cK2 K3 qK3 cK3 b8 ⊢
  generalize w7.heap.size = gK4 at K4 ⊢
  have qK4 := K4.lt
  have cK4 := fun o => K4.cell o
  clear K0 qK0 cK0 K1 qK1 cK1 R0 R1
  generalize gmR l0 l1 = lx at *
  generalize gmC l0 l1 = cx at *
  go_wp2_with fail
  refine (likeGrids_v ⟨⟨A2, n2, c2⟩, ⟨E2, m2, d2⟩⟩ ⟨⟨A3, n3, c3⟩, ⟨E3, m3, d3⟩⟩ lx _ ok2 R2 R3).mono ?_
  rintro e w9 ⟨rfl, b9⟩
  replace R2 := R2.below b9
  replace R3 := R3.below b9
  replace R4 := R4.below b9
  replace K2 := K2.below b9 qK2
  replace qK2 := K2.lt
  replace cK2 := fun o => K2.cell o
  replace K3 := K3.below b9 qK3
  replace qK3 := K3.lt
  replace cK3 := fun o => K3.cell o
  replace K4 := K4.below b9 qK4
  replace qK4 := K4.lt
  replace cK4 := fun o => K4.cell o
  replace b9 := bnext b8 b9
  clear b8
  clear R3 K3 qK3 cK3
  go_wp2_with fail
  refine (likeGrids_v ⟨⟨A4, n4, c4⟩, ⟨E4, m4, d4⟩⟩ ⟨⟨A2, n2, c2⟩, ⟨E2, m2, d2⟩⟩ lx _ ok4 R4 R2).mono ?_
  rintro e w10 ⟨rfl, b10⟩
  replace R2 := R2.below b10
  replace R4 := R4.below b10
  replace K2 := K2.below b10 qK2
  replace qK2 := K2.lt
  replace cK2 := fun o => K2.cell o
  replace K4 := K4.below b10 qK4
  replace qK4 := K4.lt
  replace cK4 := fun o => K4.cell o
  replace b10 := bnext b9 b10
  clear b9
  clear R4 K4 qK4 cK4 R2 K2 qK2 cK2
  go_wp2_with fail
  refine (drawGridSoundings_any A n c zs _ (G.rd.below b10) G.byte hn4).mono ?_
  rintro e w11 ⟨s, wd, hg, ⟨HA, hN, hC⟩, xs, rfl, h201, hnc, RL, b11⟩
  replace b11 := bnext b10 b11
  clear b10
  simp only at h201 hnc RL
  simp only
  have lo0 : ∀ ad, HA = some ad → 0 < hN * 4 → ad.block < w11.heap.size := fun ad e hn => RL.lt e hn
  have b11z := b11.size
  have b11y : w.heap.size ≤ w.heap.size := Nat.le_refl _
  go_wp2_with fail
  refine (roll_any A n c zs 2201 _ (G.rd.below b11) G.byte hn4 (by decide) (by decide)).mono ?_
  rintro e w12 ⟨g, rfl, D, b12⟩
  replace RL := RL.below b12
  replace b12 := bnext b11 b12
  clear b11
  have hgl := D.lt.2
  have hgw : w.heap.size ≤ g := by have := b11z; omega
  have u1 : IntKind.i64.wrap ((hN : Int) + 1) = (hN : Int) + 1 := IntWalk.i64_in _ (by omega)
  go_wp2_with fail
  refine (below_any _ g ((hN : Int) + 1) _ D (by omega) (by omega)).mono ?_
  rintro e w13 ⟨p, rfl, p0, p1, gg, D1⟩
  replace RL := RL.grown gg (fun ad e hn c => by have := lo0 ad e hn; injection c with c; omega)
  have b13 : Below w.heap.size w w13 := bstepg b12 gg b11y (fun x e => by injection e with e; omega)
  clear b12 gg D D1 lo0 hgl u1
  obtain ⟨q, rfl⟩ : ∃ q : Nat, p = (q : Int) := ⟨p.toNat, by omega⟩
  have hqn : q ≤ hN := by omega
  have hlen : xs.length = hN * 4 := RL.len
  go_wp2_with fail
  refine (implGrids_any s wd hg HA hN hC xs _ (by omega) RL).mono ?_
  rintro e w14 ⟨⟨⟨A5, n5, c5⟩, ⟨E5, m5, d5⟩⟩, rfl, ok5, R5, -, -, b14⟩
  replace RL := RL.below b14
  replace b14 := bnext b13 b14
  clear b13
  unfold DepthGridV
  simp only
  go_wp2_with fail
  have K5 := Blk.newN (g := w14.heap.size) w14 50 #[.int .i64 (gsR s wd hg xs hN).size, .int .i64 (gsR s wd hg xs hN).wide, .int .i64 (gsR s wd hg xs hN).high, .slice A5 n5 c5, .slice E5 m5 d5] (by simp)
  have b15 : Below w14.heap.size w14 (w14.alloc (.cells #[.int .i64 (gsR s wd hg xs hN).size, .int .i64 (gsR s wd hg xs hN).wide, .int .i64 (gsR s wd hg xs hN).high, .slice A5 n5 c5, .slice E5 m5 d5] 50)) := (by (repeat (first | (with_reducible assumption) | (with_reducible exact Below.refl _ _) | (with_reducible refine Below.drew ?_) | (with_reducible refine Below.drewN ?_ _) | (with_reducible refine Below.setCell ?_ ?_ _) | (with_reducible refine Below.alloc ?_ ?_ _) | assumption)); all_goals (first | omega | (simp; done) | (simp; omega)))
  replace RL := RL.below b15
  replace R5 := R5.below b15
  replace b15 := bnext b14 b15
  clear b14
  generalize (w14.alloc (.cells #[.int .i64 (gsR s wd hg xs hN).size, .int .i64 (gsR s wd hg xs hN).wide, .int .i64 (gsR s wd hg xs hN).high, .slice A5 n5 c5, .slice E5 m5 d5] 50)) = w15 at K5 RL R5 b15 ⊢
  generalize w14.heap.size = gK5 at K5 ⊢
  have qK5 := K5.lt
  have cK5 := fun o => K5.cell o
  go_wp2_with fail
  refine (specGrids_any s wd hg HA hN hC xs _ (by omega) RL).mono ?_
  rintro e w16 ⟨⟨⟨A6, n6, c6⟩, ⟨E6, m6, d6⟩⟩, rfl, ok6, R6, -, -, b16⟩
  replace RL := RL.below b16
  replace R5 := R5.below b16
  replace K5 := K5.below b16 qK5
  replace qK5 := K5.lt
  replace cK5 := fun o => K5.cell o
  replace b16 := bnext b15 b16
  clear b15
  unfold DepthGridV
  simp only
  go_wp2_with fail
  have K6 := Blk.newN (g := w16.heap.size) w16 50 #[.int .i64 (gsR s wd hg xs hN).size, .int .i64 (gsR s wd hg xs hN).wide, .int .i64 (gsR s wd hg xs hN).high, .slice A6 n6 c6, .slice E6 m6 d6] (by simp)
  have b17 : Below w16.heap.size w16 (w16.alloc (.cells #[.int .i64 (gsR s wd hg xs hN).size, .int .i64 (gsR s wd hg xs hN).wide, .int .i64 (gsR s wd hg xs hN).high, .slice A6 n6 c6, .slice E6 m6 d6] 50)) := (by (repeat (first | (with_reducible assumption) | (with_reducible exact Below.refl _ _) | (with_reducible refine Below.drew ?_) | (with_reducible refine Below.drewN ?_ _) | (with_reducible refine Below.setCell ?_ ?_ _) | (with_reducible refine Below.alloc ?_ ?_ _) | assumption)); all_goals (first | omega | (simp; done) | (simp; omega)))
  replace RL := RL.below b17
  replace R5 := R5.below b17
  replace R6 := R6.below b17
  replace K5 := K5.below b17 qK5
  replace qK5 := K5.lt
  replace cK5 := fun o => K5.cell o
  replace b17 := bnext b16 b17
  clear b16
  generalize (w16.alloc (.cells #[.int .i64 (gsR s wd hg xs hN).size, .int .i64 (gsR s wd hg xs hN).wide, .int .i64 (gsR s wd hg xs hN).high, .slice A6 n6 c6, .slice E6 m6 d6] 50)) = w17 at K6 RL R5 R6 K5 qK5 cK5 b17 ⊢
  generalize w16.heap.size = gK6 at K6 ⊢
  have qK6 := K6.lt
  have cK6 := fun o => K6.cell o
  have HM : Hid (gsC s wd hg xs hN = 0 → gsC s wd hg (xs.take (q * 4)) q = 0 ∧ gsC s wd hg (xs.drop (q * 4)) (hN - q) = 0 ∧ gmC (gsR s wd hg (xs.take (q * 4)) q) (gsR s wd hg (xs.drop (q * 4)) (hN - q)) = 0 ∧ gmR (gsR s wd hg (xs.take (q * 4)) q) (gsR s wd hg (xs.drop (q * 4)) (hN - q)) = gsR s wd hg xs hN) := gs_merge hlen hqn
  have RT : Rd w17 HA (q * 4) (ints (xs.take (q * 4))) := RL.take (by omega)
  clear hlen
  generalize gsC s wd hg xs hN = cy at *
  generalize gsR s wd hg xs hN = ly at *
  go_wp2_with fail
  refine (likeGrids_v ⟨⟨A5, n5, c5⟩, ⟨E5, m5, d5⟩⟩ ⟨⟨A6, n6, c6⟩, ⟨E6, m6, d6⟩⟩ ly _ ok5 R5 R6).mono ?_
  rintro e w18 ⟨rfl, b18⟩
  replace RL := RL.below b18
  replace R5 := R5.below b18
  replace R6 := R6.below b18
  replace RT := RT.below b18
  replace K5 := K5.below b18 qK5
  replace qK5 := K5.lt
  replace cK5 := fun o => K5.cell o
  replace K6 := K6.below b18 qK6
  replace qK6 := K6.lt
  replace cK6 := fun o => K6.cell o
  replace b18 := bnext b17 b18
  clear b17
  clear R6 K6 qK6 cK6
  by_cases hcy : cy = 0
  case neg =>
    have g1 : (cy == 0) = false := by rw [beq_eq_false_iff_ne]; exact hcy
    have g2 : (cy != 0) = true := by simpa using hcy
    go_wp2
    go_ret
    exact ⟨rfl, b18⟩
  have HE := Lib.hid (HM.out hcy)
  subst hcy
  clear HM
  have hq0 : (0 : Int) ≤ (q : Int) := by omega
  have hqI : (q : Int) ≤ (hN : Int) := by omega
  have hqc : (q : Int) ≤ (hC : Int) := by omega
  go_wp2_with fail
  refine (implGrids_any s wd hg HA q hC (xs.take (q * 4)) _ (by omega) RT).mono ?_
  rw [HE.out.1]
  rintro e w19 ⟨⟨⟨A7, n7, c7⟩, ⟨E7, m7, d7⟩⟩, rfl, ok7, R7, -, -, b19⟩
  replace RL := RL.below b19
  replace R5 := R5.below b19
  replace RT := RT.below b19
  replace K5 := K5.below b19 qK5
  replace qK5 := K5.lt
  replace cK5 := fun o => K5.cell o
  replace b19 := bnext b18 b19
  clear b18
  unfold DepthGridV
  simp only
  have RD0 := rd_tail4 RL hqn hnc
  clear RT
  by_cases hcq : q = hC
  case pos =>
    obtain rfl : q = hC := hcq
    rw [if_pos rfl] at RD0
    obtain rfl : hN = q := by omega
    have HE2 := HE.out
    rw [Nat.sub_self] at RD0 HE2
    clear HE
    have HE := Lib.hid HE2
    clear HE2
    go_wp2_with fail
    have K7 := Blk.newN (g := w19.heap.size) w19 50 #[.int .i64 (gsR s wd hg (xs.take (hN * 4)) hN).size, .int .i64 (gsR s wd hg (xs.take (hN * 4)) hN).wide, .int .i64 (gsR s wd hg (xs.take (hN * 4)) hN).high, .slice A7 n7 c7, .slice E7 m7 d7] (by simp)
    have b20 : Below w19.heap.size w19 (w19.alloc (.cells #[.int .i64 (gsR s wd hg (xs.take (hN * 4)) hN).size, .int .i64 (gsR s wd hg (xs.take (hN * 4)) hN).wide, .int .i64 (gsR s wd hg (xs.take (hN * 4)) hN).high, .slice A7 n7 c7, .slice E7 m7 d7] 50)) := (by (repeat (first | (with_reducible assumption) | (with_reducible exact Below.refl _ _) | (with_reducible refine Below.drew ?_) | (with_reducible refine Below.drewN ?_ _) | (with_reducible refine Below.setCell ?_ ?_ _) | (with_reducible refine Below.alloc ?_ ?_ _) | assumption)); all_goals (first | omega | (simp; done) | (simp; omega)))
    replace RL := RL.below b20
    replace R5 := R5.below b20
    replace R7 := R7.below b20
    replace RD0 := RD0.below b20
    replace K5 := K5.below b20 qK5
    replace qK5 := K5.lt
    replace cK5 := fun o => K5.cell o
    replace b20 := bnext b19 b20
    clear b19
    generalize (w19.alloc (.cells #[.int .i64 (gsR s wd hg (xs.take (hN * 4)) hN).size, .int .i64 (gsR s wd hg (xs.take (hN * 4)) hN).wide, .int .i64 (gsR s wd hg (xs.take (hN * 4)) hN).high, .slice A7 n7 c7, .slice E7 m7 d7] 50)) = w20 at K7 RL R5 R7 RD0 K5 qK5 cK5 b20 ⊢
    generalize w19.heap.size = gK7 at K7 ⊢
    have qK7 := K7.lt
    have cK7 := fun o => K7.cell o
    go_wp2_with fail
    refine (implGrids_any s wd hg HA 0 0 (xs.drop (hN * 4)) _ (by omega) RD0).mono ?_
    rw [HE.out.2.1]
    rintro e w21 ⟨⟨⟨A8, n8, c8⟩, ⟨E8, m8, d8⟩⟩, rfl, ok8, R8, -, -, b21⟩
    replace RL := RL.below b21
    replace R5 := R5.below b21
    replace R7 := R7.below b21
    replace RD0 := RD0.below b21
    replace K5 := K5.below b21 qK5
    replace qK5 := K5.lt
    replace cK5 := fun o => K5.cell o
    replace K7 := K7.below b21 qK7
    replace qK7 := K7.lt
    replace cK7 := fun o => K7.cell o
    replace b21 := bnext b20 b21
    clear b20
    unfold DepthGridV
    simp only
    go_wp2_with fail
    have K8 := Blk.newN (g := w21.heap.size) w21 50 #[.int .i64 (gsR s wd hg (xs.drop (hN * 4)) 0).size, .int .i64 (gsR s wd hg (xs.drop (hN * 4)) 0).wide, .int .i64 (gsR s wd hg (xs.drop (hN * 4)) 0).high, .slice A8 n8 c8, .slice E8 m8 d8] (by simp)
    have b22 : Below w21.heap.size w21 (w21.alloc (.cells #[.int .i64 (gsR s wd hg (xs.drop (hN * 4)) 0).size, .int .i64 (gsR s wd hg (xs.drop (hN * 4)) 0).wide, .int .i64 (gsR s wd hg (xs.drop (hN * 4)) 0).high, .slice A8 n8 c8, .slice E8 m8 d8] 50)) := (by (repeat (first | (with_reducible assumption) | (with_reducible exact Below.refl _ _) | (with_reducible refine Below.drew ?_) | (with_reducible refine Below.drewN ?_ _) | (with_reducible refine Below.setCell ?_ ?_ _) | (with_reducible refine Below.alloc ?_ ?_ _) | assumption)); all_goals (first | omega | (simp; done) | (simp; omega)))
    replace RL := RL.below b22
    replace R5 := R5.below b22
    replace R7 := R7.below b22
    replace RD0 := RD0.below b22
    replace R8 := R8.below b22
    replace K5 := K5.below b22 qK5
    replace qK5 := K5.lt
    replace cK5 := fun o => K5.cell o
    replace K7 := K7.below b22 qK7
    replace qK7 := K7.lt
    replace cK7 := fun o => K7.cell o
    replace b22 := bnext b21 b22
    clear b21
    generalize (w21.alloc (.cells #[.int .i64 (gsR s wd hg (xs.drop (hN * 4)) 0).size, .int .i64 (gsR s wd hg (xs.drop (hN * 4)) 0).wide, .int .i64 (gsR s wd hg (xs.drop (hN * 4)) 0).high, .slice A8 n8 c8, .slice E8 m8 d8] 50)) = w22 at K8 RL R5 R7 RD0 R8 K5 qK5 cK5 K7 qK7 cK7 b22 ⊢
    generalize w21.heap.size = gK8 at K8 ⊢
    have qK8 := K8.lt
    have cK8 := fun o => K8.cell o
    clear RD0 RL
    go_wp2_with fail
    refine (implMergeGrids'_any ⟨⟨A7, n7, c7⟩, ⟨E7, m7, d7⟩⟩ (gsR s wd hg (xs.take (hN * 4)) hN) ⟨⟨A8, n8, c8⟩, ⟨E8, m8, d8⟩⟩ (gsR s wd hg (xs.drop (hN * 4)) 0) _ ok7 R7 ok8 R8).mono ?_
    rw [HE.out.2.2.1, HE.out.2.2.2]
    rintro e w23 ⟨⟨⟨A9, n9, c9⟩, ⟨E9, m9, d9⟩⟩, rfl, ok9, R9, -, -, b23⟩
    replace R5 := R5.below b23
    replace R7 := R7.below b23
    replace R8 := R8.below b23
    replace K5 := K5.below b23 qK5
    replace qK5 := K5.lt
    replace cK5 := fun o => K5.cell o
    replace K7 := K7.below b23 qK7
    replace qK7 := K7.lt
    replace cK7 := fun o => K7.cell o
    replace K8 := K8.below b23 qK8
    replace qK8 := K8.lt
    replace cK8 := fun o => K8.cell o
    replace b23 := bnext b22 b23
    clear b22
    unfold DepthGridV
    simp only
    go_wp2_with fail
    have K9 := Blk.newN (g := w23.heap.size) w23 50 #[.int .i64 ly.size, .int .i64 ly.wide, .int .i64 ly.high, .slice A9 n9 c9, .slice E9 m9 d9] (by simp)
    have b24 : Below w23.heap.size w23 (w23.alloc (.cells #[.int .i64 ly.size, .int .i64 ly.wide, .int .i64 ly.high, .slice A9 n9 c9, .slice E9 m9 d9] 50)) := (by (repeat (first | (with_reducible assumption) | (with_reducible exact Below.refl _ _) | (with_reducible refine Below.drew ?_) | (with_reducible refine Below.drewN ?_ _) | (with_reducible refine Below.setCell ?_ ?_ _) | (with_reducible refine Below.alloc ?_ ?_ _) | assumption)); all_goals (first | omega | (simp; done) | (simp; omega)))
    replace R5 := R5.below b24
    replace R7 := R7.below b24
    replace R8 := R8.below b24
    replace R9 := R9.below b24
    replace K5 := K5.below b24 qK5
    replace qK5 := K5.lt
    replace cK5 := fun o => K5.cell o
    replace K7 := K7.below b24 qK7
    replace qK7 := K7.lt
    replace cK7 := fun o => K7.cell o
    replace K8 := K8.below b24 qK8
    replace qK8 := K8.lt
    replace cK8 := fun o => K8.cell o
    replace b24 := bnext b23 b24
    clear b23
    generalize (w23.alloc (.cells #[.int .i64 ly.size, .int .i64 ly.wide, .int .i64 ly.high, .slice A9 n9 c9, .slice E9 m9 d9] 50)) = w24 at K9 R5 R7 R8 R9 K5 qK5 cK5 K7 qK7 cK7 K8 qK8 cK8 b24 ⊢
    generalize w23.heap.size = gK9 at K9 ⊢
    have qK9 := K9.lt
    have cK9 := fun o => K9.cell o
    go_wp2_with fail
    refine (likeGrids_v ⟨⟨A9, n9, c9⟩, ⟨E9, m9, d9⟩⟩ ⟨⟨A5, n5, c5⟩, ⟨E5, m5, d5⟩⟩ ly _ ok9 R9 R5).mono ?_
    rintro e w25 ⟨rfl, b25⟩
    replace R5 := R5.below b25
    replace R7 := R7.below b25
    replace R8 := R8.below b25
    replace R9 := R9.below b25
    replace K5 := K5.below b25 qK5
    replace qK5 := K5.lt
    replace cK5 := fun o => K5.cell o
    replace K7 := K7.below b25 qK7
    replace qK7 := K7.lt
    replace cK7 := fun o => K7.cell o
    replace K8 := K8.below b25 qK8
    replace qK8 := K8.lt
    replace cK8 := fun o => K8.cell o
    replace K9 := K9.below b25 qK9
    replace qK9 := K9.lt
    replace cK9 := fun o => K9.cell o
    replace b25 := bnext b24 b25
    clear b24
    go_wp2
    go_ret
    exact ⟨rfl, b25⟩
  case neg =>
    have hcq2 : ¬ hC = q := fun c => hcq c.symm
    rw [if_neg hcq2] at RD0
    go_wp2_with fail
    have K7 := Blk.newN (g := w19.heap.size) w19 50 #[.int .i64 (gsR s wd hg (xs.take (q * 4)) q).size, .int .i64 (gsR s wd hg (xs.take (q * 4)) q).wide, .int .i64 (gsR s wd hg (xs.take (q * 4)) q).high, .slice A7 n7 c7, .slice E7 m7 d7] (by simp)
    have b20 : Below w19.heap.size w19 (w19.alloc (.cells #[.int .i64 (gsR s wd hg (xs.take (q * 4)) q).size, .int .i64 (gsR s wd hg (xs.take (q * 4)) q).wide, .int .i64 (gsR s wd hg (xs.take (q * 4)) q).high, .slice A7 n7 c7, .slice E7 m7 d7] 50)) := (by (repeat (first | (with_reducible assumption) | (with_reducible exact Below.refl _ _) | (with_reducible refine Below.drew ?_) | (with_reducible refine Below.drewN ?_ _) | (with_reducible refine Below.setCell ?_ ?_ _) | (with_reducible refine Below.alloc ?_ ?_ _) | assumption)); all_goals (first | omega | (simp; done) | (simp; omega)))
    replace RL := RL.below b20
    replace R5 := R5.below b20
    replace R7 := R7.below b20
    replace RD0 := RD0.below b20
    replace K5 := K5.below b20 qK5
    replace qK5 := K5.lt
    replace cK5 := fun o => K5.cell o
    replace b20 := bnext b19 b20
    clear b19
    generalize (w19.alloc (.cells #[.int .i64 (gsR s wd hg (xs.take (q * 4)) q).size, .int .i64 (gsR s wd hg (xs.take (q * 4)) q).wide, .int .i64 (gsR s wd hg (xs.take (q * 4)) q).high, .slice A7 n7 c7, .slice E7 m7 d7] 50)) = w20 at K7 RL R5 R7 RD0 K5 qK5 cK5 b20 ⊢
    generalize w19.heap.size = gK7 at K7 ⊢
    have qK7 := K7.lt
    have cK7 := fun o => K7.cell o
    go_wp2_with fail
    refine (implGrids_any s wd hg (HA.map (·.add (q * 4))) (hN - q) (hC - q) (xs.drop (q * 4)) _ (by omega) RD0).mono ?_
    rw [HE.out.2.1]
    rintro e w21 ⟨⟨⟨A8, n8, c8⟩, ⟨E8, m8, d8⟩⟩, rfl, ok8, R8, -, -, b21⟩
    replace RL := RL.below b21
    replace R5 := R5.below b21
    replace R7 := R7.below b21
    replace RD0 := RD0.below b21
    replace K5 := K5.below b21 qK5
    replace qK5 := K5.lt
    replace cK5 := fun o => K5.cell o
    replace K7 := K7.below b21 qK7
    replace qK7 := K7.lt
    replace cK7 := fun o => K7.cell o
    replace b21 := bnext b20 b21
    clear b20
    unfold DepthGridV
    simp only
    go_wp2_with fail
    have K8 := Blk.newN (g := w21.heap.size) w21 50 #[.int .i64 (gsR s wd hg (xs.drop (q * 4)) (hN - q)).size, .int .i64 (gsR s wd hg (xs.drop (q * 4)) (hN - q)).wide, .int .i64 (gsR s wd hg (xs.drop (q * 4)) (hN - q)).high, .slice A8 n8 c8, .slice E8 m8 d8] (by simp)
    have b22 : Below w21.heap.size w21 (w21.alloc (.cells #[.int .i64 (gsR s wd hg (xs.drop (q * 4)) (hN - q)).size, .int .i64 (gsR s wd hg (xs.drop (q * 4)) (hN - q)).wide, .int .i64 (gsR s wd hg (xs.drop (q * 4)) (hN - q)).high, .slice A8 n8 c8, .slice E8 m8 d8] 50)) := (by (repeat (first | (with_reducible assumption) | (with_reducible exact Below.refl _ _) | (with_reducible refine Below.drew ?_) | (with_reducible refine Below.drewN ?_ _) | (with_reducible refine Below.setCell ?_ ?_ _) | (with_reducible refine Below.alloc ?_ ?_ _) | assumption)); all_goals (first | omega | (simp; done) | (simp; omega)))
    replace RL := RL.below b22
    replace R5 := R5.below b22
    replace R7 := R7.below b22
    replace RD0 := RD0.below b22
    replace R8 := R8.below b22
    replace K5 := K5.below b22 qK5
    replace qK5 := K5.lt
    replace cK5 := fun o => K5.cell o
    replace K7 := K7.below b22 qK7
    replace qK7 := K7.lt
    replace cK7 := fun o => K7.cell o
    replace b22 := bnext b21 b22
    clear b21
    generalize (w21.alloc (.cells #[.int .i64 (gsR s wd hg (xs.drop (q * 4)) (hN - q)).size, .int .i64 (gsR s wd hg (xs.drop (q * 4)) (hN - q)).wide, .int .i64 (gsR s wd hg (xs.drop (q * 4)) (hN - q)).high, .slice A8 n8 c8, .slice E8 m8 d8] 50)) = w22 at K8 RL R5 R7 RD0 R8 K5 qK5 cK5 K7 qK7 cK7 b22 ⊢
    generalize w21.heap.size = gK8 at K8 ⊢
    have qK8 := K8.lt
    have cK8 := fun o => K8.cell o
    clear RD0 RL
    go_wp2_with fail
    refine (implMergeGrids'_any ⟨⟨A7, n7, c7⟩, ⟨E7, m7, d7⟩⟩ (gsR s wd hg (xs.take (q * 4)) q) ⟨⟨A8, n8, c8⟩, ⟨E8, m8, d8⟩⟩ (gsR s wd hg (xs.drop (q * 4)) (hN - q)) _ ok7 R7 ok8 R8).mono ?_
    rw [HE.out.2.2.1, HE.out.2.2.2]
    rintro e w23 ⟨⟨⟨A9, n9, c9⟩, ⟨E9, m9, d9⟩⟩, rfl, ok9, R9, -, -, b23⟩
    replace R5 := R5.below b23
    replace R7 := R7.below b23
    replace R8 := R8.below b23
    replace K5 := K5.below b23 qK5
    replace qK5 := K5.lt
    replace cK5 := fun o => K5.cell o
    replace K7 := K7.below b23 qK7
    replace qK7 := K7.lt
    replace cK7 := fun o => K7.cell o
    replace K8 := K8.below b23 qK8
    replace qK8 := K8.lt
    replace cK8 := fun o => K8.cell o
    replace b23 := bnext b22 b23
    clear b22
    unfold DepthGridV
    simp only
    go_wp2_with fail
    have K9 := Blk.newN (g := w23.heap.size) w23 50 #[.int .i64 ly.size, .int .i64 ly.wide, .int .i64 ly.high, .slice A9 n9 c9, .slice E9 m9 d9] (by simp)
    have b24 : Below w23.heap.size w23 (w23.alloc (.cells #[.int .i64 ly.size, .int .i64 ly.wide, .int .i64 ly.high, .slice A9 n9 c9, .slice E9 m9 d9] 50)) := (by (repeat (first | (with_reducible assumption) | (with_reducible exact Below.refl _ _) | (with_reducible refine Below.drew ?_) | (with_reducible refine Below.drewN ?_ _) | (with_reducible refine Below.setCell ?_ ?_ _) | (with_reducible refine Below.alloc ?_ ?_ _) | assumption)); all_goals (first | omega | (simp; done) | (simp; omega)))
    replace R5 := R5.below b24
    replace R7 := R7.below b24
    replace R8 := R8.below b24
    replace R9 := R9.below b24
    replace K5 := K5.below b24 qK5
    replace qK5 := K5.lt
    replace cK5 := fun o => K5.cell o
    replace K7 := K7.below b24 qK7
    replace qK7 := K7.lt
    replace cK7 := fun o => K7.cell o
    replace K8 := K8.below b24 qK8
    replace qK8 := K8.lt
    replace cK8 := fun o => K8.cell o
    replace b24 := bnext b23 b24
    clear b23
    generalize (w23.alloc (.cells #[.int .i64 ly.size, .int .i64 ly.wide, .int .i64 ly.high, .slice A9 n9 c9, .slice E9 m9 d9] 50)) = w24 at K9 R5 R7 R8 R9 K5 qK5 cK5 K7 qK7 cK7 K8 qK8 cK8 b24 ⊢
    generalize w23.heap.size = gK9 at K9 ⊢
    have qK9 := K9.lt
    have cK9 := fun o => K9.cell o
    go_wp2_with fail
    refine (likeGrids_v ⟨⟨A9, n9, c9⟩, ⟨E9, m9, d9⟩⟩ ⟨⟨A5, n5, c5⟩, ⟨E5, m5, d5⟩⟩ ly _ ok9 R9 R5).mono ?_
    rintro e w25 ⟨rfl, b25⟩
    replace R5 := R5.below b25
    replace R7 := R7.below b25
    replace R8 := R8.below b25
    replace R9 := R9.below b25
    replace K5 := K5.below b25 qK5
    replace qK5 := K5.lt
    replace cK5 := fun o => K5.cell o
    replace K7 := K7.below b25 qK7
    replace qK7 := K7.lt
    replace cK7 := fun o => K7.cell o
    replace K8 := K8.below b25 qK8
    replace qK8 := K8.lt
    replace cK8 := fun o => K8.cell o
    replace K9 := K9.below b25 qK9
    replace qK9 := K9.lt
    replace cK9 := fun o => K9.cell o
    replace b25 := bnext b24 b25
    clear b24
    go_wp2
    go_ret
    exact ⟨rfl, b25⟩
end Go.Proofs.Ythmcnoloeeabbaa
