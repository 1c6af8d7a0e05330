/- The law FnLinkSteps, walked. Condition: the library's variables are as they are laid. -/
import Derived.Test.YtoledbicmghmbaaDoorLinkY
import Derived.Test.YtoledbicmghmbaaDoorLkV
import Derived.Test.YtoledbicmghmbaaDoorArgB
import Derived.Deep.RegionHeld3
namespace Go.Proofs.YtoledbicmghmbaaDoor
open Go.RowKit

/-- what a step that went well says -/
structure StepFact (l x : LinkC) (k : Int) (np : Nat) : Prop where
  link : linkOk x = true
  send : k = 0 → x.next = l.next + 1 ∧ x.packets = l.packets ++ [l.next % 4, l.items.getD l.next.toNat 0] ∧ 0 ≤ l.next ∧ l.next < l.items.length ∧ x.packets.length = (np + 1) * 2 ∧ x.packets.getD (np * 2 + 1) 0 = l.items.getD l.next.toNat 0
theorem step_fact {l : LinkC} {k : Int} {np : Nat} (he : l.packets.length = np * 2) (h : stepLC l k = 0) : StepFact l (stepLR l k) k np := by
  unfold stepLC at h
  split at h
  · split at h
    · split at h
      · rename_i h1 h2 h3
        have e : stepLR l k = stepL l k := by unfold stepLR; rw [if_pos ⟨h1, h2, h3⟩]
        have ok := LOk.of h1 (by omega)
        rw [e]
        refine ⟨(stepL_ok ok h2 h3).to, fun hk => ?_⟩
        subst hk
        have e2 : stepL l 0 = ⟨l.items, l.base, l.next + 1, l.packets ++ [l.next % 4, l.items.getD l.next.toNat 0], l.acks, l.got⟩ := if_pos rfl
        rw [e2]
        unfold canL at h3
        rw [if_pos rfl] at h3
        simp only [Bool.and_eq_true, decide_eq_true_eq] at h3
        have b0 := ok.base0
        have b1 := ok.next0
        refine ⟨rfl, rfl, by omega, h3.1.2, ?_, ?_⟩
        · simp [he]; omega
        · simp only
          rw [List.getD_eq_getElem?_getD, List.getElem?_append_right (by omega), he, show np * 2 + 1 - np * 2 = 1 by omega]
          rfl
      · cases h
    · cases h
  · cases h
theorem can_code (l : LinkC) (k : Int) : canR l k = decide (stepLC l k = 0) := by
  unfold canR stepLC
  by_cases h1 : linkOk l = true
  · by_cases h2 : kindOk k = true
    · by_cases h3 : canL l k = true
      · simp [h1, h2, h3]
      · simp [h1, h2, h3]
    · simp [h1, h2]
  · simp [h1]

set_option maxRecDepth 100000 in
set_option maxHeartbeats 8000000 in
theorem FnLinkSteps_walk (w : World) (A : Option Addr) (n c : Nat) (zs : List Int) (G : ArgB w A n c zs) (T : TabW w) :
    Calls Tryd.prog 6 #[.slice A n c] w fun e w' => e = .returned (.bool true) ∧ Below w.heap.size w w' := by
  have hmx := G.max
  by_cases hb : (4096 : Int) < (n : Int)
  · go_enter Tryd.func6, Tryd.ntmps6
    go_wp2_with (go_at_call 24; refine (big_any _ _ _ _ (by omega)).mono ?_; rintro e w' ⟨rfl, rfl⟩)
    go_ret
    exact ⟨rfl, Below.refl _ _⟩
  have hbd : decide ((4096 : Int) < (n : Int)) = false := by simpa using hb
  have hn4 : n ≤ 4096 := by omega
  go_enter Tryd.func6, Tryd.ntmps6
  go_wp2_with fail
  refine (big_any _ _ _ _ (by omega)).mono ?_
  rintro e w' ⟨rfl, rfl⟩
  go_wp2_with fail
  refine (drawStepLink_any A n c zs _ G.rd G.byte hn4).mono ?_
  rintro e w1 ⟨⟨⟨A0, n0, c0⟩, ⟨P0, p0, d0⟩, ⟨Q0, q0, e0⟩, ⟨V0, v0, f0⟩⟩, l, kd, rfl, ok0, R0, -, b1⟩
  unfold LinkV
  simp only
  clear hbd hb
  have hev : l.packets.length = p0 * 2 := LinkS_even R0
  have hil : l.items.length = n0 := LinkS_items R0
  have HEV := Lib.hid hev
  have HIL := Lib.hid hil
  have HSF : Hid (stepLC l kd = 0 → StepFact l (stepLR l kd) kd p0) := fun h => step_fact hev h
  have HCC := Lib.hid (can_code l kd)
  clear hev hil
  go_wp2_with fail
  have K0 := Blk.newN (g := w1.heap.size) w1 48 #[.slice A0 n0 c0, .int .i64 l.base, .int .i64 l.next, .slice P0 p0 d0, .slice Q0 q0 e0, .slice V0 v0 f0] (by simp)
  have b2 : Below w1.heap.size w1 (w1.alloc (.cells #[.slice A0 n0 c0, .int .i64 l.base, .int .i64 l.next, .slice P0 p0 d0, .slice Q0 q0 e0, .slice V0 v0 f0] 48)) := (by (repeat (first | (with_reducible assumption) | (with_reducible exact Below.refl _ _) | (with_reducible refine Below.drew ?_) | (with_reducible refine Below.drewN ?_ _) | (with_reducible refine Below.setCell ?_ ?_ _) | (with_reducible refine Below.alloc ?_ ?_ _) | assumption)); all_goals (first | omega | (simp; done) | (simp; omega)))
  replace R0 := R0.below b2
  replace b2 := bnext b1 b2
  clear b1
  generalize (w1.alloc (.cells #[.slice A0 n0 c0, .int .i64 l.base, .int .i64 l.next, .slice P0 p0 d0, .slice Q0 q0 e0, .slice V0 v0 f0] 48)) = w2 at K0 R0 b2 ⊢
  generalize w1.heap.size = gK0 at K0 ⊢
  have qK0 := K0.lt
  have cK0 := fun o => K0.cell o
  go_wp2_with fail
  refine (implStepLink'_any ⟨⟨A0, n0, c0⟩, ⟨P0, p0, d0⟩, ⟨Q0, q0, e0⟩, ⟨V0, v0, f0⟩⟩ l kd _ ok0 R0).mono ?_
  rintro e w3 ⟨⟨⟨A1, n1, c1⟩, ⟨P1, p1, d1⟩, ⟨Q1, q1, e1⟩, ⟨V1, v1, f1⟩⟩, rfl, ok1, R1, -, -, b3⟩
  replace R0 := R0.below b3
  replace K0 := K0.below b3 qK0
  replace qK0 := K0.lt
  replace cK0 := fun o => K0.cell o
  replace b3 := bnext b2 b3
  clear b2
  unfold LinkV
  simp only
  go_wp2_with fail
  have K1 := Blk.newN (g := w3.heap.size) w3 48 #[.slice A1 n1 c1, .int .i64 (stepLR l kd).base, .int .i64 (stepLR l kd).next, .slice P1 p1 d1, .slice Q1 q1 e1, .slice V1 v1 f1] (by simp)
  have b4 : Below w3.heap.size w3 (w3.alloc (.cells #[.slice A1 n1 c1, .int .i64 (stepLR l kd).base, .int .i64 (stepLR l kd).next, .slice P1 p1 d1, .slice Q1 q1 e1, .slice V1 v1 f1] 48)) := (by (repeat (first | (with_reducible assumption) | (with_reducible exact Below.refl _ _) | (with_reducible refine Below.drew ?_) | (with_reducible refine Below.drewN ?_ _) | (with_reducible refine Below.setCell ?_ ?_ _) | (with_reducible refine Below.alloc ?_ ?_ _) | assumption)); all_goals (first | omega | (simp; done) | (simp; omega)))
  replace R0 := R0.below b4
  replace R1 := R1.below b4
  replace K0 := K0.below b4 qK0
  replace qK0 := K0.lt
  replace cK0 := fun o => K0.cell o
  replace b4 := bnext b3 b4
  clear b3
  generalize (w3.alloc (.cells #[.slice A1 n1 c1, .int .i64 (stepLR l kd).base, .int .i64 (stepLR l kd).next, .slice P1 p1 d1, .slice Q1 q1 e1, .slice V1 v1 f1] 48)) = w4 at K1 R0 R1 K0 qK0 cK0 b4 ⊢
  generalize w3.heap.size = gK1 at K1 ⊢
  have qK1 := K1.lt
  have cK1 := fun o => K1.cell o
  go_wp2_with fail
  refine (specStepLink'_any ⟨⟨A0, n0, c0⟩, ⟨P0, p0, d0⟩, ⟨Q0, q0, e0⟩, ⟨V0, v0, f0⟩⟩ l kd _ ok0 R0).mono ?_
  rintro e w5 ⟨⟨⟨A2, n2, c2⟩, ⟨P2, p2, d2⟩, ⟨Q2, q2, e2⟩, ⟨V2, v2, f2⟩⟩, rfl, ok2, R2, -, -, b5⟩
  replace R0 := R0.below b5
  replace R1 := R1.below b5
  replace K0 := K0.below b5 qK0
  replace qK0 := K0.lt
  replace cK0 := fun o => K0.cell o
  replace K1 := K1.below b5 qK1
  replace qK1 := K1.lt
  replace cK1 := fun o => K1.cell o
  replace b5 := bnext b4 b5
  clear b4
  unfold LinkV
  simp only
  go_wp2_with fail
  have K2 := Blk.newN (g := w5.heap.size) w5 48 #[.slice A2 n2 c2, .int .i64 (stepLR l kd).base, .int .i64 (stepLR l kd).next, .slice P2 p2 d2, .slice Q2 q2 e2, .slice V2 v2 f2] (by simp)
  have b6 : Below w5.heap.size w5 (w5.alloc (.cells #[.slice A2 n2 c2, .int .i64 (stepLR l kd).base, .int .i64 (stepLR l kd).next, .slice P2 p2 d2, .slice Q2 q2 e2, .slice V2 v2 f2] 48)) := (by (repeat (first | (with_reducible assumption) | (with_reducible exact Below.refl _ _) | (with_reducible refine Below.drew ?_) | (with_reducible refine Below.drewN ?_ _) | (with_reducible refine Below.setCell ?_ ?_ _) | (with_reducible refine Below.alloc ?_ ?_ _) | assumption)); all_goals (first | omega | (simp; done) | (simp; omega)))
  replace R0 := R0.below b6
  replace R1 := R1.below b6
  replace R2 := R2.below b6
  replace K0 := K0.below b6 qK0
  replace qK0 := K0.lt
  replace cK0 := fun o => K0.cell o
  replace K1 := K1.below b6 qK1
  replace qK1 := K1.lt
  replace cK1 := fun o => K1.cell o
  replace b6 := bnext b5 b6
  clear b5
  generalize (w5.alloc (.cells #[.slice A2 n2 c2, .int .i64 (stepLR l kd).base, .int .i64 (stepLR l kd).next, .slice P2 p2 d2, .slice Q2 q2 e2, .slice V2 v2 f2] 48)) = w6 at K2 R0 R1 R2 K0 qK0 cK0 K1 qK1 cK1 b6 ⊢
  generalize w5.heap.size = gK2 at K2 ⊢
  have qK2 := K2.lt
  have cK2 := fun o => K2.cell o
  go_wp2_with fail
  refine (implCanStep'_any ⟨⟨A0, n0, c0⟩, ⟨P0, p0, d0⟩, ⟨Q0, q0, e0⟩, ⟨V0, v0, f0⟩⟩ l kd _ ok0 R0).mono ?_
  rintro e w7 ⟨rfl, b7⟩
  replace R0 := R0.below b7
  replace R1 := R1.below b7
  replace R2 := R2.below b7
  replace K0 := K0.below b7 qK0
  replace qK0 := K0.lt
  replace cK0 := fun o => K0.cell o
  replace K1 := K1.below b7 qK1
  replace qK1 := K1.lt
  replace cK1 := fun o => K1.cell o
  replace K2 := K2.below b7 qK2
  replace qK2 := K2.lt
  replace cK2 := fun o => K2.cell o
  replace b7 := bnext b6 b7
  clear b6
  go_wp2_with fail
  refine (specCanStep'_any ⟨⟨A0, n0, c0⟩, ⟨P0, p0, d0⟩, ⟨Q0, q0, e0⟩, ⟨V0, v0, f0⟩⟩ l kd _ ok0 R0).mono ?_
  rintro e w8 ⟨rfl, b8⟩
  replace R0 := R0.below b8
  replace R1 := R1.below b8
  replace R2 := R2.below b8
  replace K0 := K0.below b8 qK0
  replace qK0 := K0.lt
  replace cK0 := fun o => K0.cell o
  replace K1 := K1.below b8 qK1
  replace qK1 := K1.lt
  replace cK1 := fun o => K1.cell o
  replace K2 := K2.below b8 qK2
  replace qK2 := K2.lt
  replace cK2 := fun o => K2.cell o
  replace b8 := bnext b7 b8
  clear b7
  generalize stepLR l kd = x at *
  generalize stepLC l kd = sc at *
  generalize canR l kd = cr at *
  generalize canC l kd = cc at *
  go_wp2_with fail
  refine (drawLinkText_any A n c zs _ (G.rd.below b8) G.byte hn4).mono ?_
  rintro e w9 ⟨⟨⟨A3, n3, c3⟩, ⟨P3, p3, d3⟩, ⟨Q3, q3, e3⟩, ⟨V3, v3, f3⟩⟩, y, rfl, ok3, R3, b9⟩
  replace R0 := R0.below b9
  replace R1 := R1.below b9
  replace R2 := R2.below b9
  replace K0 := K0.below b9 qK0
  replace qK0 := K0.lt
  replace cK0 := fun o => K0.cell o
  replace K1 := K1.below b9 qK1
  replace qK1 := K1.lt
  replace cK1 := fun o => K1.cell o
  replace K2 := K2.below b9 qK2
  replace qK2 := K2.lt
  replace cK2 := fun o => K2.cell o
  replace b9 := bnext b8 b9
  clear b8
  unfold LinkV
  simp only
  go_wp2_with fail
  have K3 := Blk.newN (g := w9.heap.size) w9 48 #[.slice A3 n3 c3, .int .i64 y.base, .int .i64 y.next, .slice P3 p3 d3, .slice Q3 q3 e3, .slice V3 v3 f3] (by simp)
  have b10 : Below w9.heap.size w9 (w9.alloc (.cells #[.slice A3 n3 c3, .int .i64 y.base, .int .i64 y.next, .slice P3 p3 d3, .slice Q3 q3 e3, .slice V3 v3 f3] 48)) := (by (repeat (first | (with_reducible assumption) | (with_reducible exact Below.refl _ _) | (with_reducible refine Below.drew ?_) | (with_reducible refine Below.drewN ?_ _) | (with_reducible refine Below.setCell ?_ ?_ _) | (with_reducible refine Below.alloc ?_ ?_ _) | assumption)); all_goals (first | omega | (simp; done) | (simp; omega)))
  replace R0 := R0.below b10
  replace R1 := R1.below b10
  replace R2 := R2.below b10
  replace R3 := R3.below b10
  replace K0 := K0.below b10 qK0
  replace qK0 := K0.lt
  replace cK0 := fun o => K0.cell o
  replace K1 := K1.below b10 qK1
  replace qK1 := K1.lt
  replace cK1 := fun o => K1.cell o
  replace K2 := K2.below b10 qK2
  replace qK2 := K2.lt
  replace cK2 := fun o => K2.cell o
  replace b10 := bnext b9 b10
  clear b9
  generalize (w9.alloc (.cells #[.slice A3 n3 c3, .int .i64 y.base, .int .i64 y.next, .slice P3 p3 d3, .slice Q3 q3 e3, .slice V3 v3 f3] 48)) = w10 at K3 R0 R1 R2 R3 K0 qK0 cK0 K1 qK1 cK1 K2 qK2 cK2 b10 ⊢
  generalize w9.heap.size = gK3 at K3 ⊢
  have qK3 := K3.lt
  have cK3 := fun o => K3.cell o
  go_wp2_with fail
  refine (implLinkText'_any ⟨⟨A3, n3, c3⟩, ⟨P3, p3, d3⟩, ⟨Q3, q3, e3⟩, ⟨V3, v3, f3⟩⟩ y _ ok3 R3 (T.below b10)).mono ?_
  rintro e w11 ⟨rfl, b11⟩
  replace R0 := R0.below b11
  replace R1 := R1.below b11
  replace R2 := R2.below b11
  replace R3 := R3.below b11
  replace K0 := K0.below b11 qK0
  replace qK0 := K0.lt
  replace cK0 := fun o => K0.cell o
  replace K1 := K1.below b11 qK1
  replace qK1 := K1.lt
  replace cK1 := fun o => K1.cell o
  replace K2 := K2.below b11 qK2
  replace qK2 := K2.lt
  replace cK2 := fun o => K2.cell o
  replace K3 := K3.below b11 qK3
  replace qK3 := K3.lt
  replace cK3 := fun o => K3.cell o
  replace b11 := bnext b10 b11
  clear b10
  go_wp2_with fail
  refine (specLinkText'_any ⟨⟨A3, n3, c3⟩, ⟨P3, p3, d3⟩, ⟨Q3, q3, e3⟩, ⟨V3, v3, f3⟩⟩ y _ ok3 R3).mono ?_
  rintro e w12 ⟨rfl, b12⟩
  replace R0 := R0.below b12
  replace R1 := R1.below b12
  replace R2 := R2.below b12
  replace R3 := R3.below b12
  replace K0 := K0.below b12 qK0
  replace qK0 := K0.lt
  replace cK0 := fun o => K0.cell o
  replace K1 := K1.below b12 qK1
  replace qK1 := K1.lt
  replace cK1 := fun o => K1.cell o
  replace K2 := K2.below b12 qK2
  replace qK2 := K2.lt
  replace cK2 := fun o => K2.cell o
  replace K3 := K3.below b12 qK3
  replace qK3 := K3.lt
  replace cK3 := fun o => K3.cell o
  replace b12 := bnext b11 b12
  clear b11
  clear R3 K3 qK3 cK3
  generalize lkS y = ly at *
  generalize lkC y = lc at *
  go_wp2_with fail
  refine (drawOpenItems_any A n c zs _ (G.rd.below b12) G.byte hn4).mono ?_
  rintro e w13 ⟨⟨⟨A4, n4, c4⟩, ⟨P4, p4, d4⟩, ⟨Q4, q4, e4⟩, ⟨V4, v4, f4⟩⟩, z, rfl, ok4, R4, b13⟩
  replace R0 := R0.below b13
  replace R1 := R1.below b13
  replace R2 := R2.below b13
  replace K0 := K0.below b13 qK0
  replace qK0 := K0.lt
  replace cK0 := fun o => K0.cell o
  replace K1 := K1.below b13 qK1
  replace qK1 := K1.lt
  replace cK1 := fun o => K1.cell o
  replace K2 := K2.below b13 qK2
  replace qK2 := K2.lt
  replace cK2 := fun o => K2.cell o
  replace b13 := bnext b12 b13
  clear b12
  unfold LinkV
  simp only
  go_wp2_with fail
  have K4 := Blk.newN (g := w13.heap.size) w13 48 #[.slice A4 n4 c4, .int .i64 z.base, .int .i64 z.next, .slice P4 p4 d4, .slice Q4 q4 e4, .slice V4 v4 f4] (by simp)
  have b14 : Below w13.heap.size w13 (w13.alloc (.cells #[.slice A4 n4 c4, .int .i64 z.base, .int .i64 z.next, .slice P4 p4 d4, .slice Q4 q4 e4, .slice V4 v4 f4] 48)) := (by (repeat (first | (with_reducible assumption) | (with_reducible exact Below.refl _ _) | (with_reducible refine Below.drew ?_) | (with_reducible refine Below.drewN ?_ _) | (with_reducible refine Below.setCell ?_ ?_ _) | (with_reducible refine Below.alloc ?_ ?_ _) | assumption)); all_goals (first | omega | (simp; done) | (simp; omega)))
  replace R0 := R0.below b14
  replace R1 := R1.below b14
  replace R2 := R2.below b14
  replace R4 := R4.below b14
  replace K0 := K0.below b14 qK0
  replace qK0 := K0.lt
  replace cK0 := fun o => K0.cell o
  replace K1 := K1.below b14 qK1
  replace qK1 := K1.lt
  replace cK1 := fun o => K1.cell o
  replace K2 := K2.below b14 qK2
  replace qK2 := K2.lt
  replace cK2 := fun o => K2.cell o
  replace b14 := bnext b13 b14
  clear b13
  generalize (w13.alloc (.cells #[.slice A4 n4 c4, .int .i64 z.base, .int .i64 z.next, .slice P4 p4 d4, .slice Q4 q4 e4, .slice V4 v4 f4] 48)) = w14 at K4 R0 R1 R2 R4 K0 qK0 cK0 K1 qK1 cK1 K2 qK2 cK2 b14 ⊢
  generalize w13.heap.size = gK4 at K4 ⊢
  have qK4 := K4.lt
  have cK4 := fun o => K4.cell o
  go_wp2_with fail
  refine (implOpenItems'_any ⟨⟨A4, n4, c4⟩, ⟨P4, p4, d4⟩, ⟨Q4, q4, e4⟩, ⟨V4, v4, f4⟩⟩ z _ ok4 R4).mono ?_
  rintro e w15 ⟨rfl, b15⟩
  replace R0 := R0.below b15
  replace R1 := R1.below b15
  replace R2 := R2.below b15
  replace R4 := R4.below b15
  replace K0 := K0.below b15 qK0
  replace qK0 := K0.lt
  replace cK0 := fun o => K0.cell o
  replace K1 := K1.below b15 qK1
  replace qK1 := K1.lt
  replace cK1 := fun o => K1.cell o
  replace K2 := K2.below b15 qK2
  replace qK2 := K2.lt
  replace cK2 := fun o => K2.cell o
  replace K4 := K4.below b15 qK4
  replace qK4 := K4.lt
  replace cK4 := fun o => K4.cell o
  replace b15 := bnext b14 b15
  clear b14
  go_wp2_with fail
  refine (specOpenItems'_any ⟨⟨A4, n4, c4⟩, ⟨P4, p4, d4⟩, ⟨Q4, q4, e4⟩, ⟨V4, v4, f4⟩⟩ z _ ok4 R4).mono ?_
  rintro e w16 ⟨rfl, b16⟩
  replace R0 := R0.below b16
  replace R1 := R1.below b16
  replace R2 := R2.below b16
  replace R4 := R4.below b16
  replace K0 := K0.below b16 qK0
  replace qK0 := K0.lt
  replace cK0 := fun o => K0.cell o
  replace K1 := K1.below b16 qK1
  replace qK1 := K1.lt
  replace cK1 := fun o => K1.cell o
  replace K2 := K2.below b16 qK2
  replace qK2 := K2.lt
  replace cK2 := fun o => K2.cell o
  replace K4 := K4.below b16 qK4
  replace qK4 := K4.lt
  replace cK4 := fun o => K4.cell o
  replace b16 := bnext b15 b16
  clear b15
  clear R4 K4 qK4 cK4
  generalize openR z = oz at *
  generalize openC z = oc at *
  have bd : Below w16.heap.size w16 w16.drew := Below.drew (Below.refl _ _)
  have D0 := K0.below bd qK0
  have D1 := K1.below bd qK1
  have D2 := K2.below bd qK2
  have S0 : (∀ o, w16.drew.cell? ⟨gK0, o, none⟩ = (#[.slice A0 n0 c0, .int .i64 l.base, .int .i64 l.next, .slice P0 p0 d0, .slice Q0 q0 e0, .slice V0 v0 f0] : Array Value)[o]?) ∧ (∀ o, w16.drew.cell? ⟨gK1, o, none⟩ = (#[.slice A1 n1 c1, .int .i64 x.base, .int .i64 x.next, .slice P1 p1 d1, .slice Q1 q1 e1, .slice V1 v1 f1] : Array Value)[o]?) ∧ (∀ o, w16.drew.cell? ⟨gK2, o, none⟩ = (#[.slice A2 n2 c2, .int .i64 x.base, .int .i64 x.next, .slice P2 p2 d2, .slice Q2 q2 e2, .slice V2 v2 f2] : Array Value)[o]?) := ⟨fun o => D0.cell o, fun o => D1.cell o, fun o => D2.cell o⟩
  have HA := likeLinks5_any ⟨⟨A1, n1, c1⟩, ⟨P1, p1, d1⟩, ⟨Q1, q1, e1⟩, ⟨V1, v1, f1⟩⟩ ⟨⟨A2, n2, c2⟩, ⟨P2, p2, d2⟩, ⟨Q2, q2, e2⟩, ⟨V2, v2, f2⟩⟩ x w16.drew ok1 (R1.below bd) (R2.below bd)
  have HI1 := fun (V : World) (R : RdAll V (LinkS ⟨⟨A0, n0, c0⟩, ⟨P0, p0, d0⟩, ⟨Q0, q0, e0⟩, ⟨V0, v0, f0⟩⟩ l)) => implIsLink'_any ⟨⟨A0, n0, c0⟩, ⟨P0, p0, d0⟩, ⟨Q0, q0, e0⟩, ⟨V0, v0, f0⟩⟩ l V ok0 R
  have HI2 := fun (V : World) (R : RdAll V (LinkS ⟨⟨A0, n0, c0⟩, ⟨P0, p0, d0⟩, ⟨Q0, q0, e0⟩, ⟨V0, v0, f0⟩⟩ l)) => specIsLink'_any ⟨⟨A0, n0, c0⟩, ⟨P0, p0, d0⟩, ⟨Q0, q0, e0⟩, ⟨V0, v0, f0⟩⟩ l V ok0 R
  unfold LinkV at HA HI1 HI2
  simp only at HA HI1 HI2
  generalize hlk : linkOk l = lk at HI1 HI2
  clear hlk
  have hcc := HCC.out
  by_cases hsc : sc = 0
  rotate_left
  · have y0' : (sc == 0) = false := by rw [beq_eq_false_iff_ne]; exact hsc
    have y1' : (sc != 0) = true := by rw [bne_iff_ne]; exact hsc
    have y2' : decide (sc = 0) = false := by simpa using hsc
    rw [y2'] at hcc
    subst hcc
    go_wp2_with fail
    go_region_held3 (fun w' => (∀ o, w'.cell? ⟨gK0, o, none⟩ = (#[.slice A0 n0 c0, .int .i64 l.base, .int .i64 l.next, .slice P0 p0 d0, .slice Q0 q0 e0, .slice V0 v0 f0] : Array Value)[o]?) ∧ (∀ o, w'.cell? ⟨gK1, o, none⟩ = (#[.slice A1 n1 c1, .int .i64 x.base, .int .i64 x.next, .slice P1 p1 d1, .slice Q1 q1 e1, .slice V1 v1 f1] : Array Value)[o]?) ∧ (∀ o, w'.cell? ⟨gK2, o, none⟩ = (#[.slice A2 n2 c2, .int .i64 x.base, .int .i64 x.next, .slice P2 p2 d2, .slice Q2 q2 e2, .slice V2 v2 f2] : Array Value)[o]?))
      (first | (with_reducible assumption) | ((with_reducible refine ⟨?_, ?_, ?_⟩) <;> (first | (with_reducible assumption) | (intro o; go_keep))))
      (first
        | (go_at_call 34; (with_reducible refine HA.mono ?_); rintro e u1 ⟨rfl, b1'⟩; have E0 := D0.below b1' D0.lt; have E1 := D1.below b1' D1.lt; have E2 := D2.below b1' D2.lt; have S1 : (∀ o, u1.cell? ⟨gK0, o, none⟩ = (#[.slice A0 n0 c0, .int .i64 l.base, .int .i64 l.next, .slice P0 p0 d0, .slice Q0 q0 e0, .slice V0 v0 f0] : Array Value)[o]?) ∧ (∀ o, u1.cell? ⟨gK1, o, none⟩ = (#[.slice A1 n1 c1, .int .i64 x.base, .int .i64 x.next, .slice P1 p1 d1, .slice Q1 q1 e1, .slice V1 v1 f1] : Array Value)[o]?) ∧ (∀ o, u1.cell? ⟨gK2, o, none⟩ = (#[.slice A2 n2 c2, .int .i64 x.base, .int .i64 x.next, .slice P2 p2 d2, .slice Q2 q2 e2, .slice V2 v2 f2] : Array Value)[o]?) := ⟨fun o => E0.cell o, fun o => E1.cell o, fun o => E2.cell o⟩; have bu1 := bnext b16 (bnext bd b1'); have r1 := (R0.below bd).below b1'; have x1 := (R1.below bd).below b1'; have HJ1 := HI1 u1 r1)
        | (go_at_call 35; (with_reducible refine HJ1.mono ?_); rintro e u2 ⟨rfl, b2'⟩; have F0 := E0.below b2' E0.lt; have F1 := E1.below b2' E1.lt; have F2 := E2.below b2' E2.lt; have S2 : (∀ o, u2.cell? ⟨gK0, o, none⟩ = (#[.slice A0 n0 c0, .int .i64 l.base, .int .i64 l.next, .slice P0 p0 d0, .slice Q0 q0 e0, .slice V0 v0 f0] : Array Value)[o]?) ∧ (∀ o, u2.cell? ⟨gK1, o, none⟩ = (#[.slice A1 n1 c1, .int .i64 x.base, .int .i64 x.next, .slice P1 p1 d1, .slice Q1 q1 e1, .slice V1 v1 f1] : Array Value)[o]?) ∧ (∀ o, u2.cell? ⟨gK2, o, none⟩ = (#[.slice A2 n2 c2, .int .i64 x.base, .int .i64 x.next, .slice P2 p2 d2, .slice Q2 q2 e2, .slice V2 v2 f2] : Array Value)[o]?) := ⟨fun o => F0.cell o, fun o => F1.cell o, fun o => F2.cell o⟩; have bu2 := bnext bu1 b2'; have r2 := r1.below b2'; have x2 := x1.below b2'; have HJ2 := HI2 u2 r2)
        | (go_at_call 36; (with_reducible refine HJ2.mono ?_); rintro e u3 ⟨rfl, b3'⟩; have I0 := F0.below b3' F0.lt; have I1 := F1.below b3' F1.lt; have I2 := F2.below b3' F2.lt; have S3 : (∀ o, u3.cell? ⟨gK0, o, none⟩ = (#[.slice A0 n0 c0, .int .i64 l.base, .int .i64 l.next, .slice P0 p0 d0, .slice Q0 q0 e0, .slice V0 v0 f0] : Array Value)[o]?) ∧ (∀ o, u3.cell? ⟨gK1, o, none⟩ = (#[.slice A1 n1 c1, .int .i64 x.base, .int .i64 x.next, .slice P1 p1 d1, .slice Q1 q1 e1, .slice V1 v1 f1] : Array Value)[o]?) ∧ (∀ o, u3.cell? ⟨gK2, o, none⟩ = (#[.slice A2 n2 c2, .int .i64 x.base, .int .i64 x.next, .slice P2 p2 d2, .slice Q2 q2 e2, .slice V2 v2 f2] : Array Value)[o]?) := ⟨fun o => I0.cell o, fun o => I1.cell o, fun o => I2.cell o⟩; have bu3 := bnext bu2 b3'; have r3 := r2.below b3'; have x3 := x2.below b3'))
    go_wp2
    go_ret
    exact ⟨rfl, bu3⟩
  subst hsc
  have y2' : decide ((0 : Int) = 0) = true := by decide
  rw [y2'] at hcc
  subst hcc
  go_wp2_with fail
  go_region_held3 (fun w' => (∀ o, w'.cell? ⟨gK0, o, none⟩ = (#[.slice A0 n0 c0, .int .i64 l.base, .int .i64 l.next, .slice P0 p0 d0, .slice Q0 q0 e0, .slice V0 v0 f0] : Array Value)[o]?) ∧ (∀ o, w'.cell? ⟨gK1, o, none⟩ = (#[.slice A1 n1 c1, .int .i64 x.base, .int .i64 x.next, .slice P1 p1 d1, .slice Q1 q1 e1, .slice V1 v1 f1] : Array Value)[o]?) ∧ (∀ o, w'.cell? ⟨gK2, o, none⟩ = (#[.slice A2 n2 c2, .int .i64 x.base, .int .i64 x.next, .slice P2 p2 d2, .slice Q2 q2 e2, .slice V2 v2 f2] : Array Value)[o]?))
    (first | (with_reducible assumption) | ((with_reducible refine ⟨?_, ?_, ?_⟩) <;> (first | (with_reducible assumption) | (intro o; go_keep))))
    (first
      | (go_at_call 34; (with_reducible refine HA.mono ?_); rintro e u1 ⟨rfl, b1'⟩; have E0 := D0.below b1' D0.lt; have E1 := D1.below b1' D1.lt; have E2 := D2.below b1' D2.lt; have S1 : (∀ o, u1.cell? ⟨gK0, o, none⟩ = (#[.slice A0 n0 c0, .int .i64 l.base, .int .i64 l.next, .slice P0 p0 d0, .slice Q0 q0 e0, .slice V0 v0 f0] : Array Value)[o]?) ∧ (∀ o, u1.cell? ⟨gK1, o, none⟩ = (#[.slice A1 n1 c1, .int .i64 x.base, .int .i64 x.next, .slice P1 p1 d1, .slice Q1 q1 e1, .slice V1 v1 f1] : Array Value)[o]?) ∧ (∀ o, u1.cell? ⟨gK2, o, none⟩ = (#[.slice A2 n2 c2, .int .i64 x.base, .int .i64 x.next, .slice P2 p2 d2, .slice Q2 q2 e2, .slice V2 v2 f2] : Array Value)[o]?) := ⟨fun o => E0.cell o, fun o => E1.cell o, fun o => E2.cell o⟩; have bu1 := bnext b16 (bnext bd b1'); have r1 := (R0.below bd).below b1'; have x1 := (R1.below bd).below b1'; have HJ1 := HI1 u1 r1)
      | (go_at_call 35; (with_reducible refine HJ1.mono ?_); rintro e u2 ⟨rfl, b2'⟩; have F0 := E0.below b2' E0.lt; have F1 := E1.below b2' E1.lt; have F2 := E2.below b2' E2.lt; have S2 : (∀ o, u2.cell? ⟨gK0, o, none⟩ = (#[.slice A0 n0 c0, .int .i64 l.base, .int .i64 l.next, .slice P0 p0 d0, .slice Q0 q0 e0, .slice V0 v0 f0] : Array Value)[o]?) ∧ (∀ o, u2.cell? ⟨gK1, o, none⟩ = (#[.slice A1 n1 c1, .int .i64 x.base, .int .i64 x.next, .slice P1 p1 d1, .slice Q1 q1 e1, .slice V1 v1 f1] : Array Value)[o]?) ∧ (∀ o, u2.cell? ⟨gK2, o, none⟩ = (#[.slice A2 n2 c2, .int .i64 x.base, .int .i64 x.next, .slice P2 p2 d2, .slice Q2 q2 e2, .slice V2 v2 f2] : Array Value)[o]?) := ⟨fun o => F0.cell o, fun o => F1.cell o, fun o => F2.cell o⟩; have bu2 := bnext bu1 b2'; have r2 := r1.below b2'; have x2 := x1.below b2'; have HJ2 := HI2 u2 r2)
      | (go_at_call 36; (with_reducible refine HJ2.mono ?_); rintro e u3 ⟨rfl, b3'⟩; have I0 := F0.below b3' F0.lt; have I1 := F1.below b3' F1.lt; have I2 := F2.below b3' F2.lt; have S3 : (∀ o, u3.cell? ⟨gK0, o, none⟩ = (#[.slice A0 n0 c0, .int .i64 l.base, .int .i64 l.next, .slice P0 p0 d0, .slice Q0 q0 e0, .slice V0 v0 f0] : Array Value)[o]?) ∧ (∀ o, u3.cell? ⟨gK1, o, none⟩ = (#[.slice A1 n1 c1, .int .i64 x.base, .int .i64 x.next, .slice P1 p1 d1, .slice Q1 q1 e1, .slice V1 v1 f1] : Array Value)[o]?) ∧ (∀ o, u3.cell? ⟨gK2, o, none⟩ = (#[.slice A2 n2 c2, .int .i64 x.base, .int .i64 x.next, .slice P2 p2 d2, .slice Q2 q2 e2, .slice V2 v2 f2] : Array Value)[o]?) := ⟨fun o => I0.cell o, fun o => I1.cell o, fun o => I2.cell o⟩; have bu3 := bnext bu2 b3'; have r3 := r2.below b3'; have x3 := x2.below b3'))
  have hsf := HSF.out (by first | rfl | trivial)
  have HLK := Lib.hid hsf.link
  have HI3 := fun (V : World) (R : RdAll V (LinkS ⟨⟨A1, n1, c1⟩, ⟨P1, p1, d1⟩, ⟨Q1, q1, e1⟩, ⟨V1, v1, f1⟩⟩ x)) => implIsLink'_any ⟨⟨A1, n1, c1⟩, ⟨P1, p1, d1⟩, ⟨Q1, q1, e1⟩, ⟨V1, v1, f1⟩⟩ x V ok1 R
  rw [HLK.out] at HI3
  unfold LinkV at HI3
  simp only at HI3
  have hev1 : x.packets.length = p1 * 2 := LinkS_even x3
  have hev2 : x.packets.length = p2 * 2 := LinkS_even R2
  have c0' := fun o => I0.cell o
  have c1' := fun o => I1.cell o
  have c2' := fun o => I2.cell o
  have g0' := I0.lt
  have g1' := I1.lt
  have g2' := I2.lt
  clear S0 S1 S2 S3 E0 E1 E2 F0 F1 F2 D0 D1 D2 K0 K1 K2 cK0 cK1 cK2 qK0 qK1 qK2 HA HI1 HI2 HJ1 HJ2 bd b1' b2' b3' bu1 bu2 r1 r2 x1 x2 R0 R1 R2 HSF HCC
  by_cases hk : kd = 0
  rotate_left
  · have hkb : (kd == 0) = false := by rw [beq_eq_false_iff_ne]; exact hk
    have hkd : decide (kd = 0) = false := by simpa using hk
    clear hsf hev1 hev2
    go_wp2_with fail
    go_quiet (fail)
    revert nq; intro nq1
    have x4 := x3.below (below_drewN u3 nq1)
    have b4 := Below.drewN bu3 nq1
    go_wp2_with fail
    refine (HI3 _ x4).mono ?_
    rintro e w' ⟨rfl, bz⟩
    have bb := bnext b4 bz
    go_wp2
    go_ret
    exact ⟨rfl, bb⟩
  subst hk
  obtain ⟨hn, hp, hm0, hm1, hpl, hpv⟩ := hsf.send rfl
  clear hsf
  obtain ⟨xi, xb, xn, xp, xa, xg⟩ := x
  obtain ⟨li, lb, ln, lp, la, lg⟩ := l
  simp only at *
  subst hn
  obtain ⟨m, rfl⟩ := Int.eq_ofNat_of_zero_le hm0
  obtain rfl : p1 = p0 + 1 := by omega
  obtain rfl : p2 = p0 + 1 := by omega
  have hmn : m < n0 := by have := HIL.out; (try simp only at this); omega
  have hmI : (m : Int) < (n0 : Int) := by omega
  have hrx : Rd u3 P1 ((p0 + 1) * 2) (ints xp) := x3.tail.head
  have hry : Rd u3 A0 n0 (ints li) := r3.head
  obtain ⟨ad1, rfl, -, hx1⟩ := rd_two2 (k := p0) hrx (by omega)
  obtain ⟨ad0, rfl, hy0⟩ := hry.int hmn
  rw [Int.toNat_natCast] at hpv
  rw [hpv] at hx1
  clear hp hpl hpv hev1 hev2 hm0 hm1 HEV HIL
  generalize li.getD m 0 = vv at *
  have u1 : IntKind.i64.wrap ((m : Int) + 1) = (m : Int) + 1 := IntWalk.i64_in _ (by have := ok0.1; (try simp only at this); omega)
  have hp0 : p0 ≤ 1048576 := by have := ok0.2.1; (try simp only at this); omega
  have u2 : IntKind.i64.wrap ((p0 : Int) + 1) = (p0 : Int) + 1 := IntWalk.i64_in _ (by omega)
  have u3' : IntKind.i64.wrap ((p0 : Int) + 1 - 1) = (p0 : Int) := by rw [IntWalk.i64_in _ (by omega)]; omega
  have hpI : (p0 : Int) < ((p0 + 1 : Nat) : Int) := by omega
  have hpI2 : (p0 : Int) < (p0 : Int) + 1 := by omega
  have hpN : p0 < p0 + 1 := by omega
  have hp00 : (0 : Int) ≤ (p0 : Int) := by omega
  have hm00 : (0 : Int) ≤ (m : Int) := by omega
  go_wp2_with fail
  go_quiet (fail)
  revert nq; intro nq1
  have x4 := x3.below (below_drewN u3 nq1)
  have b4 := Below.drewN bu3 nq1
  go_wp2_with fail
  refine (HI3 _ x4).mono ?_
  rintro e w' ⟨rfl, bz⟩
  have bb := bnext b4 bz
  go_wp2
  go_ret
  exact ⟨rfl, bb⟩
end Go.Proofs.YtoledbicmghmbaaDoor
