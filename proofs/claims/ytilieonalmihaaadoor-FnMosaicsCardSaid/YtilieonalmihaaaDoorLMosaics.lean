/- The law FnMosaics, walked. Condition: the library's variables are as they are laid. -/
import Derived.Test.YtilieonalmihaaaDoorMosDm
import Derived.Test.YtilieonalmihaaaDoorMosDr
import Derived.Test.YtilieonalmihaaaDoorMosL
import Derived.Test.YtilieonalmihaaaDoorMosK
import Derived.Test.YtilieonalmihaaaDoorMosRd
import Derived.Test.YtilieonalmihaaaDoorMosD
import Derived.Test.YtilieonalmihaaaDoorPutP
import Derived.Test.YtilieonalmihaaaDoorArgB
namespace Go.Proofs.YtilieonalmihaaaDoor
open Go.RowKit

theorem rm_nil : rmB [] = false := by
  have h := (sm_rm []).1
  rw [h]
  have : smAll [] = false := by unfold smAll cellsL; simp [splitC, sOk_nil]
  rw [this]; rfl
theorem mosTx_facts (l : MosaicC) : rmB (mosTx l) = mosOk l ∧ (mosOk l = true → rmR (mosTx l) = l) ∧ (mosOk l = true → mosTx l ≠ []) ∧ (mosOk l = false → mosTx l = []) := by
  unfold mosTx
  rcases Bool.eq_false_or_eq_true (mosOk l) with h | h
  · rw [if_pos h]
    have r := rm_to h
    refine ⟨r.1.trans h.symm, fun _ => ?_, fun _ c => ?_, fun h2 => by rw [h] at h2; cases h2⟩
    · unfold rmR; rw [if_pos r.1]; exact r.2.1
    · have := r.1; rw [c, rm_nil] at this; cases this
  · rw [if_neg (by rw [h]; decide)]
    exact ⟨rm_nil.trans h.symm, fun h2 => (by rw [h] at h2; cases h2), fun h2 => (by rw [h] at h2; cases h2), fun _ => rfl⟩
theorem ckN_bd {h : MosaicH} {l : MosaicC} {w : World} (ok : MosaicOk h) (R : RdAll w (MosaicS h l)) : 0 ≤ ckN l ∧ ckN l ≤ 1048576 := by
  have h1 := MosaicS_g R
  have h2 := ok.2
  have h3 := ckU_le l.grades l.grades.length
  unfold ckN
  split <;> omega

set_option maxRecDepth 100000 in
set_option maxHeartbeats 8000000 in
theorem FnMosaics_walk (w : World) (A : Option Addr) (n c : Nat) (zs : List Int) (G : ArgB w A n c zs) (T : LibW w) :
    Calls Tryd.prog 3 #[.slice A n c] w fun e w' => e = .returned (.bool true) ∧ Below w.heap.size w w' := by
  have hmx := G.max
  by_cases hb : (4096 : Int) < (n : Int)
  · go_enter Tryd.func3, Tryd.ntmps3
    go_wp2_with (go_at_call 4; refine (big_any _ _ _ _ (by omega)).mono ?_; rintro e w' ⟨rfl, rfl⟩)
    go_ret
    exact ⟨rfl, Below.refl _ _⟩
  have hbd : decide ((4096 : Int) < (n : Int)) = false := by simpa using hb
  have hn4 : n ≤ 4096 := by omega
  go_enter Tryd.func3, Tryd.ntmps3
  go_wp2_with fail
  refine (big_any _ _ _ _ (by omega)).mono ?_
  rintro e w' ⟨rfl, rfl⟩
  go_wp2_with fail
  refine (drawMergeMosaics_any A n c zs _ G.rd G.byte hn4).mono ?_
  rintro e w1 ⟨⟨⟨A0, n0, c0⟩, ⟨E0, m0, d0⟩⟩, l0, ⟨⟨A1, n1, c1⟩, ⟨E1, m1, d1⟩⟩, l1, rfl, ok0, R0, ok1, R1, b1⟩
  clear hbd hb
  unfold MosaicV
  simp only
  go_wp2_with fail
  have K0 := (Blk.newN (g := w1.heap.size) w1 26 #[.int .i64 l0.wide, .int .i64 l0.high, .slice A0 n0 c0, .slice E0 m0 d0] (by simp)).alloc (.cells #[.int .i64 l1.wide, .int .i64 l1.high, .slice A1 n1 c1, .slice E1 m1 d1] 26)
  have K1 := Blk.newN (g := w1.heap.size + 1) (w1.alloc (.cells #[.int .i64 l0.wide, .int .i64 l0.high, .slice A0 n0 c0, .slice E0 m0 d0] 26)) 26 #[.int .i64 l1.wide, .int .i64 l1.high, .slice A1 n1 c1, .slice E1 m1 d1] (by simp)
  have b2 : Below w1.heap.size w1 ((w1.alloc (.cells #[.int .i64 l0.wide, .int .i64 l0.high, .slice A0 n0 c0, .slice E0 m0 d0] 26)).alloc (.cells #[.int .i64 l1.wide, .int .i64 l1.high, .slice A1 n1 c1, .slice E1 m1 d1] 26)) := (by (repeat (first | (with_reducible assumption) | (with_reducible exact Below.refl _ _) | (with_reducible refine Below.drew ?_) | (with_reducible refine Below.drewN ?_ _) | (with_reducible refine Below.setCell ?_ ?_ _) | (with_reducible refine Below.alloc ?_ ?_ _) | assumption)); all_goals (first | omega | (simp; done) | (simp; omega)))
  replace R0 := R0.below b2
  replace R1 := R1.below b2
  replace b2 := bnext b1 b2
  clear b1
  generalize ((w1.alloc (.cells #[.int .i64 l0.wide, .int .i64 l0.high, .slice A0 n0 c0, .slice E0 m0 d0] 26)).alloc (.cells #[.int .i64 l1.wide, .int .i64 l1.high, .slice A1 n1 c1, .slice E1 m1 d1] 26)) = w2 at K0 K1 R0 R1 b2 ⊢
  generalize w1.heap.size + 1 = gK1 at K1 ⊢
  generalize w1.heap.size = gK0 at K0 ⊢
  have qK0 := K0.lt
  have cK0 := fun o => K0.cell o
  have qK1 := K1.lt
  have cK1 := fun o => K1.cell o
  go_wp2_with fail
  refine (implMergeMosaics'_any ⟨⟨A0, n0, c0⟩, ⟨E0, m0, d0⟩⟩ l0 ⟨⟨A1, n1, c1⟩, ⟨E1, m1, d1⟩⟩ l1 _ ok0 R0 ok1 R1).mono ?_
  rintro e w3 ⟨⟨⟨A2, n2, c2⟩, ⟨E2, m2, d2⟩⟩, rfl, ok2, R2, -, -, b3⟩
  replace R0 := R0.below b3
  replace R1 := R1.below b3
  replace K0 := K0.below b3 qK0
  replace qK0 := K0.lt
  replace cK0 := fun o => K0.cell o
  replace K1 := K1.below b3 qK1
  replace qK1 := K1.lt
  replace cK1 := fun o => K1.cell o
  replace b3 := bnext b2 b3
  clear b2
  unfold MosaicV
  simp only
  go_wp2_with fail
  have K2 := Blk.newN (g := w3.heap.size) w3 26 #[.int .i64 (mergeMR l0 l1).wide, .int .i64 (mergeMR l0 l1).high, .slice A2 n2 c2, .slice E2 m2 d2] (by simp)
  have b4 : Below w3.heap.size w3 (w3.alloc (.cells #[.int .i64 (mergeMR l0 l1).wide, .int .i64 (mergeMR l0 l1).high, .slice A2 n2 c2, .slice E2 m2 d2] 26)) := (by (repeat (first | (with_reducible assumption) | (with_reducible exact Below.refl _ _) | (with_reducible refine Below.drew ?_) | (with_reducible refine Below.drewN ?_ _) | (with_reducible refine Below.setCell ?_ ?_ _) | (with_reducible refine Below.alloc ?_ ?_ _) | assumption)); all_goals (first | omega | (simp; done) | (simp; omega)))
  replace R0 := R0.below b4
  replace R1 := R1.below b4
  replace R2 := R2.below b4
  replace K0 := K0.below b4 qK0
  replace qK0 := K0.lt
  replace cK0 := fun o => K0.cell o
  replace K1 := K1.below b4 qK1
  replace qK1 := K1.lt
  replace cK1 := fun o => K1.cell o
  replace b4 := bnext b3 b4
  clear b3
  generalize (w3.alloc (.cells #[.int .i64 (mergeMR l0 l1).wide, .int .i64 (mergeMR l0 l1).high, .slice A2 n2 c2, .slice E2 m2 d2] 26)) = w4 at K2 R0 R1 R2 K0 qK0 cK0 K1 qK1 cK1 b4 ⊢
  generalize w3.heap.size = gK2 at K2 ⊢
  have qK2 := K2.lt
  have cK2 := fun o => K2.cell o
  go_wp2_with fail
  refine (specMergeMosaics'_any ⟨⟨A0, n0, c0⟩, ⟨E0, m0, d0⟩⟩ l0 ⟨⟨A1, n1, c1⟩, ⟨E1, m1, d1⟩⟩ l1 _ ok0 R0 ok1 R1).mono ?_
  rintro e w5 ⟨⟨⟨A3, n3, c3⟩, ⟨E3, m3, d3⟩⟩, rfl, ok3, R3, -, -, b5⟩
  replace R0 := R0.below b5
  replace R1 := R1.below b5
  replace R2 := R2.below b5
  replace K0 := K0.below b5 qK0
  replace qK0 := K0.lt
  replace cK0 := fun o => K0.cell o
  replace K1 := K1.below b5 qK1
  replace qK1 := K1.lt
  replace cK1 := fun o => K1.cell o
  replace K2 := K2.below b5 qK2
  replace qK2 := K2.lt
  replace cK2 := fun o => K2.cell o
  replace b5 := bnext b4 b5
  clear b4
  unfold MosaicV
  simp only
  go_wp2_with fail
  have K3 := Blk.newN (g := w5.heap.size) w5 26 #[.int .i64 (mergeMR l0 l1).wide, .int .i64 (mergeMR l0 l1).high, .slice A3 n3 c3, .slice E3 m3 d3] (by simp)
  have b6 : Below w5.heap.size w5 (w5.alloc (.cells #[.int .i64 (mergeMR l0 l1).wide, .int .i64 (mergeMR l0 l1).high, .slice A3 n3 c3, .slice E3 m3 d3] 26)) := (by (repeat (first | (with_reducible assumption) | (with_reducible exact Below.refl _ _) | (with_reducible refine Below.drew ?_) | (with_reducible refine Below.drewN ?_ _) | (with_reducible refine Below.setCell ?_ ?_ _) | (with_reducible refine Below.alloc ?_ ?_ _) | assumption)); all_goals (first | omega | (simp; done) | (simp; omega)))
  replace R0 := R0.below b6
  replace R1 := R1.below b6
  replace R2 := R2.below b6
  replace R3 := R3.below b6
  replace K0 := K0.below b6 qK0
  replace qK0 := K0.lt
  replace cK0 := fun o => K0.cell o
  replace K1 := K1.below b6 qK1
  replace qK1 := K1.lt
  replace cK1 := fun o => K1.cell o
  replace K2 := K2.below b6 qK2
  replace qK2 := K2.lt
  replace cK2 := fun o => K2.cell o
  replace b6 := bnext b5 b6
  clear b5
  generalize (w5.alloc (.cells #[.int .i64 (mergeMR l0 l1).wide, .int .i64 (mergeMR l0 l1).high, .slice A3 n3 c3, .slice E3 m3 d3] 26)) = w6 at K3 R0 R1 R2 R3 K0 qK0 cK0 K1 qK1 cK1 K2 qK2 cK2 b6 ⊢
  generalize w5.heap.size = gK3 at K3 ⊢
  have qK3 := K3.lt
  have cK3 := fun o => K3.cell o
  go_wp2_with fail
  refine (implMergeMosaics'_any ⟨⟨A1, n1, c1⟩, ⟨E1, m1, d1⟩⟩ l1 ⟨⟨A0, n0, c0⟩, ⟨E0, m0, d0⟩⟩ l0 _ ok1 R1 ok0 R0).mono ?_
  rw [(merge_sym l1 l0).1, (merge_sym l1 l0).2]
  rintro e w7 ⟨⟨⟨A4, n4, c4⟩, ⟨E4, m4, d4⟩⟩, rfl, ok4, R4, -, -, b7⟩
  replace R0 := R0.below b7
  replace R1 := R1.below b7
  replace R2 := R2.below b7
  replace R3 := R3.below b7
  replace K0 := K0.below b7 qK0
  replace qK0 := K0.lt
  replace cK0 := fun o => K0.cell o
  replace K1 := K1.below b7 qK1
  replace qK1 := K1.lt
  replace cK1 := fun o => K1.cell o
  replace K2 := K2.below b7 qK2
  replace qK2 := K2.lt
  replace cK2 := fun o => K2.cell o
  replace K3 := K3.below b7 qK3
  replace qK3 := K3.lt
  replace cK3 := fun o => K3.cell o
  replace b7 := bnext b6 b7
  clear b6
  unfold MosaicV
  simp only
  go_wp2_with fail
  have K4 := Blk.newN (g := w7.heap.size) w7 26 #[.int .i64 (mergeMR l0 l1).wide, .int .i64 (mergeMR l0 l1).high, .slice A4 n4 c4, .slice E4 m4 d4] (by simp)
  have b8 : Below w7.heap.size w7 (w7.alloc (.cells #[.int .i64 (mergeMR l0 l1).wide, .int .i64 (mergeMR l0 l1).high, .slice A4 n4 c4, .slice E4 m4 d4] 26)) := (by (repeat (first | (with_reducible assumption) | (with_reducible exact Below.refl _ _) | (with_reducible refine Below.drew ?_) | (with_reducible refine Below.drewN ?_ _) | (with_reducible refine Below.setCell ?_ ?_ _) | (with_reducible refine Below.alloc ?_ ?_ _) | assumption)); all_goals (first | omega | (simp; done) | (simp; omega)))
  replace R0 := R0.below b8
  replace R1 := R1.below b8
  replace R2 := R2.below b8
  replace R3 := R3.below b8
  replace R4 := R4.below b8
  replace K0 := K0.below b8 qK0
  replace qK0 := K0.lt
  replace cK0 := fun o => K0.cell o
  replace K1 := K1.below b8 qK1
  replace qK1 := K1.lt
  replace cK1 := fun o => K1.cell o
  replace K2 := K2.below b8 qK2
  replace qK2 := K2.lt
  replace cK2 := fun o => K2.cell o
  replace K3 := K3.below b8 qK3
  replace qK3 := K3.lt
  replace cK3 := fun o => K3.cell o
  replace b8 := bnext b7 b8
  clear b7
  generalize (w7.alloc (.cells #[.int .i64 (mergeMR l0 l1).wide, .int .i64 (mergeMR l0 l1).high, .slice A4 n4 c4, .slice E4 m4 d4] 26)) = w8 at K4 R0 R1 R2 R3 R4 K0 qK0 cK0 K1 qK1 cK1 K2 qK2 cK2 K3 qK3 cK3 b8 ⊢
  generalize w7.heap.size = gK4 at K4 ⊢
  have qK4 := K4.lt
  have cK4 := fun o => K4.cell o
  have HCK : Hid (mergeMC l0 l1 = 0 → ckC l0 = 0 ∧ ckC l1 = 0 ∧ ckC (mergeMR l0 l1) = 0 ∧ ckN l0 ≤ ckN (mergeMR l0 l1) ∧ ckN l1 ≤ ckN (mergeMR l0 l1) ∧ ckN (mergeMR l0 l1) ≤ ckN l0 + ckN l1) := ck_merged
  generalize mergeMR l0 l1 = lx at *
  generalize mergeMC l0 l1 = cx at *
  go_wp2_with fail
  refine (implMosaicText_any ⟨⟨A0, n0, c0⟩, ⟨E0, m0, d0⟩⟩ l0 _ ok0 R0 (T.below b8).tab).mono ?_
  rintro e w9 ⟨rfl, b9⟩
  replace R0 := R0.below b9
  replace R1 := R1.below b9
  replace R2 := R2.below b9
  replace R3 := R3.below b9
  replace R4 := R4.below b9
  replace K0 := K0.below b9 qK0
  replace qK0 := K0.lt
  replace cK0 := fun o => K0.cell o
  replace K1 := K1.below b9 qK1
  replace qK1 := K1.lt
  replace cK1 := fun o => K1.cell o
  replace K2 := K2.below b9 qK2
  replace qK2 := K2.lt
  replace cK2 := fun o => K2.cell o
  replace K3 := K3.below b9 qK3
  replace qK3 := K3.lt
  replace cK3 := fun o => K3.cell o
  replace K4 := K4.below b9 qK4
  replace qK4 := K4.lt
  replace cK4 := fun o => K4.cell o
  replace b9 := bnext b8 b9
  clear b8
  have HT := Lib.hid (mosTx_facts l0)
  have hl0 := mosTx_len l0
  have HSL := fun (V : World) (R : RdAll V (MosaicS ⟨⟨A0, n0, c0⟩, ⟨E0, m0, d0⟩⟩ l0)) => specMosaicText_any ⟨⟨A0, n0, c0⟩, ⟨E0, m0, d0⟩⟩ l0 V ok0 R
  have HIS := fun (V : World) (R : RdAll V (MosaicS ⟨⟨A0, n0, c0⟩, ⟨E0, m0, d0⟩⟩ l0)) => implIsMosaic_any ⟨⟨A0, n0, c0⟩, ⟨E0, m0, d0⟩⟩ l0 V ok0 R
  have HC0 := fun (V : World) (R : RdAll V (MosaicS ⟨⟨A0, n0, c0⟩, ⟨E0, m0, d0⟩⟩ l0)) => implCountKnown_any ⟨⟨A0, n0, c0⟩, ⟨E0, m0, d0⟩⟩ l0 V ok0 R
  have hB0 := ckN_bd ok0 R0
  have hB1 := ckN_bd ok1 R1
  generalize mosOk l0 = ok at HT HIS
  generalize mosTx l0 = LT at *
  have HRD := fun (V : World) (T : LibW V) => implReadMosaic_any LT V (by omega) T
  rw [HT.out.1] at HRD
  have HX : Hid (ok = true → rmR LT = l0) := HT.out.2.1
  unfold MosaicV at HSL HIS HC0
  generalize rmR LT = lr at HRD HX
  go_wp2_with fail
  refine (HRD _ (T.below b9)).mono ?_
  rintro e w10 ⟨⟨⟨A5, n5, c5⟩, ⟨E5, m5, d5⟩⟩, rfl, ok5, R5, b10⟩
  replace R0 := R0.below b10
  replace R1 := R1.below b10
  replace R2 := R2.below b10
  replace R3 := R3.below b10
  replace R4 := R4.below b10
  replace K0 := K0.below b10 qK0
  replace qK0 := K0.lt
  replace cK0 := fun o => K0.cell o
  replace K1 := K1.below b10 qK1
  replace qK1 := K1.lt
  replace cK1 := fun o => K1.cell o
  replace K2 := K2.below b10 qK2
  replace qK2 := K2.lt
  replace cK2 := fun o => K2.cell o
  replace K3 := K3.below b10 qK3
  replace qK3 := K3.lt
  replace cK3 := fun o => K3.cell o
  replace K4 := K4.below b10 qK4
  replace qK4 := K4.lt
  replace cK4 := fun o => K4.cell o
  replace b10 := bnext b9 b10
  clear b9
  unfold MosaicV
  simp only
  go_wp2_with fail
  have K5 := Blk.newN (g := w10.heap.size) w10 26 #[.int .i64 lr.wide, .int .i64 lr.high, .slice A5 n5 c5, .slice E5 m5 d5] (by simp)
  have b11 : Below w10.heap.size w10 (w10.alloc (.cells #[.int .i64 lr.wide, .int .i64 lr.high, .slice A5 n5 c5, .slice E5 m5 d5] 26)) := (by (repeat (first | (with_reducible assumption) | (with_reducible exact Below.refl _ _) | (with_reducible refine Below.drew ?_) | (with_reducible refine Below.drewN ?_ _) | (with_reducible refine Below.setCell ?_ ?_ _) | (with_reducible refine Below.alloc ?_ ?_ _) | assumption)); all_goals (first | omega | (simp; done) | (simp; omega)))
  replace R0 := R0.below b11
  replace R1 := R1.below b11
  replace R2 := R2.below b11
  replace R3 := R3.below b11
  replace R4 := R4.below b11
  replace R5 := R5.below b11
  replace K0 := K0.below b11 qK0
  replace qK0 := K0.lt
  replace cK0 := fun o => K0.cell o
  replace K1 := K1.below b11 qK1
  replace qK1 := K1.lt
  replace cK1 := fun o => K1.cell o
  replace K2 := K2.below b11 qK2
  replace qK2 := K2.lt
  replace cK2 := fun o => K2.cell o
  replace K3 := K3.below b11 qK3
  replace qK3 := K3.lt
  replace cK3 := fun o => K3.cell o
  replace K4 := K4.below b11 qK4
  replace qK4 := K4.lt
  replace cK4 := fun o => K4.cell o
  replace b11 := bnext b10 b11
  clear b10
  generalize (w10.alloc (.cells #[.int .i64 lr.wide, .int .i64 lr.high, .slice A5 n5 c5, .slice E5 m5 d5] 26)) = w11 at K5 R0 R1 R2 R3 R4 R5 K0 qK0 cK0 K1 qK1 cK1 K2 qK2 cK2 K3 qK3 cK3 K4 qK4 cK4 b11 ⊢
  generalize w10.heap.size = gK5 at K5 ⊢
  have qK5 := K5.lt
  have cK5 := fun o => K5.cell o
  clear HRD
  go_wp2_with fail
  refine (drawReadMosaic_any A n c zs _ (G.rd.below b11) G.byte hn4).mono ?_
  rintro e w12 ⟨s, rfl, hs, b12⟩
  replace R0 := R0.below b12
  replace R1 := R1.below b12
  replace R2 := R2.below b12
  replace R3 := R3.below b12
  replace R4 := R4.below b12
  replace R5 := R5.below b12
  replace K0 := K0.below b12 qK0
  replace qK0 := K0.lt
  replace cK0 := fun o => K0.cell o
  replace K1 := K1.below b12 qK1
  replace qK1 := K1.lt
  replace cK1 := fun o => K1.cell o
  replace K2 := K2.below b12 qK2
  replace qK2 := K2.lt
  replace cK2 := fun o => K2.cell o
  replace K3 := K3.below b12 qK3
  replace qK3 := K3.lt
  replace cK3 := fun o => K3.cell o
  replace K4 := K4.below b12 qK4
  replace qK4 := K4.lt
  replace cK4 := fun o => K4.cell o
  replace K5 := K5.below b12 qK5
  replace qK5 := K5.lt
  replace cK5 := fun o => K5.cell o
  replace b12 := bnext b11 b12
  clear b11
  have HRI := fun (V : World) (T : LibW V) => implReadMosaic_any s V hs T
  have HRS := fun (V : World) => specReadMosaic_any s V hs
  generalize rmR s = lz at HRI HRS
  generalize rmB s = two at HRI HRS
  go_wp2_with fail
  refine (HRI _ (T.below b12)).mono ?_
  rintro e w13 ⟨⟨⟨A6, n6, c6⟩, ⟨E6, m6, d6⟩⟩, rfl, ok6, R6, b13⟩
  replace R0 := R0.below b13
  replace R1 := R1.below b13
  replace R2 := R2.below b13
  replace R3 := R3.below b13
  replace R4 := R4.below b13
  replace R5 := R5.below b13
  replace K0 := K0.below b13 qK0
  replace qK0 := K0.lt
  replace cK0 := fun o => K0.cell o
  replace K1 := K1.below b13 qK1
  replace qK1 := K1.lt
  replace cK1 := fun o => K1.cell o
  replace K2 := K2.below b13 qK2
  replace qK2 := K2.lt
  replace cK2 := fun o => K2.cell o
  replace K3 := K3.below b13 qK3
  replace qK3 := K3.lt
  replace cK3 := fun o => K3.cell o
  replace K4 := K4.below b13 qK4
  replace qK4 := K4.lt
  replace cK4 := fun o => K4.cell o
  replace K5 := K5.below b13 qK5
  replace qK5 := K5.lt
  replace cK5 := fun o => K5.cell o
  replace b13 := bnext b12 b13
  clear b12
  unfold MosaicV
  simp only
  go_wp2_with fail
  have K6 := Blk.newN (g := w13.heap.size) w13 26 #[.int .i64 lz.wide, .int .i64 lz.high, .slice A6 n6 c6, .slice E6 m6 d6] (by simp)
  have b14 : Below w13.heap.size w13 (w13.alloc (.cells #[.int .i64 lz.wide, .int .i64 lz.high, .slice A6 n6 c6, .slice E6 m6 d6] 26)) := (by (repeat (first | (with_reducible assumption) | (with_reducible exact Below.refl _ _) | (with_reducible refine Below.drew ?_) | (with_reducible refine Below.drewN ?_ _) | (with_reducible refine Below.setCell ?_ ?_ _) | (with_reducible refine Below.alloc ?_ ?_ _) | assumption)); all_goals (first | omega | (simp; done) | (simp; omega)))
  replace R0 := R0.below b14
  replace R1 := R1.below b14
  replace R2 := R2.below b14
  replace R3 := R3.below b14
  replace R4 := R4.below b14
  replace R5 := R5.below b14
  replace R6 := R6.below b14
  replace K0 := K0.below b14 qK0
  replace qK0 := K0.lt
  replace cK0 := fun o => K0.cell o
  replace K1 := K1.below b14 qK1
  replace qK1 := K1.lt
  replace cK1 := fun o => K1.cell o
  replace K2 := K2.below b14 qK2
  replace qK2 := K2.lt
  replace cK2 := fun o => K2.cell o
  replace K3 := K3.below b14 qK3
  replace qK3 := K3.lt
  replace cK3 := fun o => K3.cell o
  replace K4 := K4.below b14 qK4
  replace qK4 := K4.lt
  replace cK4 := fun o => K4.cell o
  replace K5 := K5.below b14 qK5
  replace qK5 := K5.lt
  replace cK5 := fun o => K5.cell o
  replace b14 := bnext b13 b14
  clear b13
  generalize (w13.alloc (.cells #[.int .i64 lz.wide, .int .i64 lz.high, .slice A6 n6 c6, .slice E6 m6 d6] 26)) = w14 at K6 R0 R1 R2 R3 R4 R5 R6 K0 qK0 cK0 K1 qK1 cK1 K2 qK2 cK2 K3 qK3 cK3 K4 qK4 cK4 K5 qK5 cK5 b14 ⊢
  generalize w13.heap.size = gK6 at K6 ⊢
  have qK6 := K6.lt
  have cK6 := fun o => K6.cell o
  go_wp2_with fail
  refine (HRS _).mono ?_
  rintro e w15 ⟨⟨⟨A7, n7, c7⟩, ⟨E7, m7, d7⟩⟩, rfl, ok7, R7, b15⟩
  replace R0 := R0.below b15
  replace R1 := R1.below b15
  replace R2 := R2.below b15
  replace R3 := R3.below b15
  replace R4 := R4.below b15
  replace R5 := R5.below b15
  replace R6 := R6.below b15
  replace K0 := K0.below b15 qK0
  replace qK0 := K0.lt
  replace cK0 := fun o => K0.cell o
  replace K1 := K1.below b15 qK1
  replace qK1 := K1.lt
  replace cK1 := fun o => K1.cell o
  replace K2 := K2.below b15 qK2
  replace qK2 := K2.lt
  replace cK2 := fun o => K2.cell o
  replace K3 := K3.below b15 qK3
  replace qK3 := K3.lt
  replace cK3 := fun o => K3.cell o
  replace K4 := K4.below b15 qK4
  replace qK4 := K4.lt
  replace cK4 := fun o => K4.cell o
  replace K5 := K5.below b15 qK5
  replace qK5 := K5.lt
  replace cK5 := fun o => K5.cell o
  replace K6 := K6.below b15 qK6
  replace qK6 := K6.lt
  replace cK6 := fun o => K6.cell o
  replace b15 := bnext b14 b15
  clear b14
  unfold MosaicV
  simp only
  go_wp2_with fail
  have K7 := Blk.newN (g := w15.heap.size) w15 26 #[.int .i64 lz.wide, .int .i64 lz.high, .slice A7 n7 c7, .slice E7 m7 d7] (by simp)
  have b16 : Below w15.heap.size w15 (w15.alloc (.cells #[.int .i64 lz.wide, .int .i64 lz.high, .slice A7 n7 c7, .slice E7 m7 d7] 26)) := (by (repeat (first | (with_reducible assumption) | (with_reducible exact Below.refl _ _) | (with_reducible refine Below.drew ?_) | (with_reducible refine Below.drewN ?_ _) | (with_reducible refine Below.setCell ?_ ?_ _) | (with_reducible refine Below.alloc ?_ ?_ _) | assumption)); all_goals (first | omega | (simp; done) | (simp; omega)))
  replace R0 := R0.below b16
  replace R1 := R1.below b16
  replace R2 := R2.below b16
  replace R3 := R3.below b16
  replace R4 := R4.below b16
  replace R5 := R5.below b16
  replace R6 := R6.below b16
  replace R7 := R7.below b16
  replace K0 := K0.below b16 qK0
  replace qK0 := K0.lt
  replace cK0 := fun o => K0.cell o
  replace K1 := K1.below b16 qK1
  replace qK1 := K1.lt
  replace cK1 := fun o => K1.cell o
  replace K2 := K2.below b16 qK2
  replace qK2 := K2.lt
  replace cK2 := fun o => K2.cell o
  replace K3 := K3.below b16 qK3
  replace qK3 := K3.lt
  replace cK3 := fun o => K3.cell o
  replace K4 := K4.below b16 qK4
  replace qK4 := K4.lt
  replace cK4 := fun o => K4.cell o
  replace K5 := K5.below b16 qK5
  replace qK5 := K5.lt
  replace cK5 := fun o => K5.cell o
  replace K6 := K6.below b16 qK6
  replace qK6 := K6.lt
  replace cK6 := fun o => K6.cell o
  replace b16 := bnext b15 b16
  clear b15
  generalize (w15.alloc (.cells #[.int .i64 lz.wide, .int .i64 lz.high, .slice A7 n7 c7, .slice E7 m7 d7] 26)) = w16 at K7 R0 R1 R2 R3 R4 R5 R6 R7 K0 qK0 cK0 K1 qK1 cK1 K2 qK2 cK2 K3 qK3 cK3 K4 qK4 cK4 K5 qK5 cK5 K6 qK6 cK6 b16 ⊢
  generalize w15.heap.size = gK7 at K7 ⊢
  have qK7 := K7.lt
  have cK7 := fun o => K7.cell o
  clear HRI HRS
  go_wp2_with fail
  refine (likeMosaics9_v ⟨⟨A2, n2, c2⟩, ⟨E2, m2, d2⟩⟩ ⟨⟨A3, n3, c3⟩, ⟨E3, m3, d3⟩⟩ lx _ ok2 R2 R3).mono ?_
  rintro e w17 ⟨rfl, b17⟩
  replace R0 := R0.below b17
  replace R1 := R1.below b17
  replace R2 := R2.below b17
  replace R3 := R3.below b17
  replace R4 := R4.below b17
  replace R5 := R5.below b17
  replace R6 := R6.below b17
  replace R7 := R7.below b17
  replace K0 := K0.below b17 qK0
  replace qK0 := K0.lt
  replace cK0 := fun o => K0.cell o
  replace K1 := K1.below b17 qK1
  replace qK1 := K1.lt
  replace cK1 := fun o => K1.cell o
  replace K2 := K2.below b17 qK2
  replace qK2 := K2.lt
  replace cK2 := fun o => K2.cell o
  replace K3 := K3.below b17 qK3
  replace qK3 := K3.lt
  replace cK3 := fun o => K3.cell o
  replace K4 := K4.below b17 qK4
  replace qK4 := K4.lt
  replace cK4 := fun o => K4.cell o
  replace K5 := K5.below b17 qK5
  replace qK5 := K5.lt
  replace cK5 := fun o => K5.cell o
  replace K6 := K6.below b17 qK6
  replace qK6 := K6.lt
  replace cK6 := fun o => K6.cell o
  replace K7 := K7.below b17 qK7
  replace qK7 := K7.lt
  replace cK7 := fun o => K7.cell o
  replace b17 := bnext b16 b17
  clear b16
  clear R3 K3 qK3 cK3
  go_wp2_with fail
  refine (likeMosaics9_v ⟨⟨A4, n4, c4⟩, ⟨E4, m4, d4⟩⟩ ⟨⟨A2, n2, c2⟩, ⟨E2, m2, d2⟩⟩ lx _ ok4 R4 R2).mono ?_
  rintro e w18 ⟨rfl, b18⟩
  replace R0 := R0.below b18
  replace R1 := R1.below b18
  replace R2 := R2.below b18
  replace R4 := R4.below b18
  replace R5 := R5.below b18
  replace R6 := R6.below b18
  replace R7 := R7.below b18
  replace K0 := K0.below b18 qK0
  replace qK0 := K0.lt
  replace cK0 := fun o => K0.cell o
  replace K1 := K1.below b18 qK1
  replace qK1 := K1.lt
  replace cK1 := fun o => K1.cell o
  replace K2 := K2.below b18 qK2
  replace qK2 := K2.lt
  replace cK2 := fun o => K2.cell o
  replace K4 := K4.below b18 qK4
  replace qK4 := K4.lt
  replace cK4 := fun o => K4.cell o
  replace K5 := K5.below b18 qK5
  replace qK5 := K5.lt
  replace cK5 := fun o => K5.cell o
  replace K6 := K6.below b18 qK6
  replace qK6 := K6.lt
  replace cK6 := fun o => K6.cell o
  replace K7 := K7.below b18 qK7
  replace qK7 := K7.lt
  replace cK7 := fun o => K7.cell o
  replace b18 := bnext b17 b18
  clear b17
  clear R4 K4 qK4 cK4
  rcases Bool.eq_false_or_eq_true ok with h | h
  all_goals subst h
  · obtain rfl := HX.out rfl
    have he1 := HT.out.2.2.1 rfl
    have he2 : LT.isEmpty = false := by rw [List.isEmpty_eq_false_iff]; exact he1
    have he3 : (LT == []) = false := by rw [beq_eq_false_iff_ne]; exact he1
    go_wp2_with fail
    refine (HSL _ R0).mono ?_
    rintro e w19 ⟨rfl, b19⟩
    replace R0 := R0.below b19
    replace R1 := R1.below b19
    replace R2 := R2.below b19
    replace R5 := R5.below b19
    replace R6 := R6.below b19
    replace R7 := R7.below b19
    replace K0 := K0.below b19 qK0
    replace qK0 := K0.lt
    replace cK0 := fun o => K0.cell o
    replace K1 := K1.below b19 qK1
    replace qK1 := K1.lt
    replace cK1 := fun o => K1.cell o
    replace K2 := K2.below b19 qK2
    replace qK2 := K2.lt
    replace cK2 := fun o => K2.cell o
    replace K5 := K5.below b19 qK5
    replace qK5 := K5.lt
    replace cK5 := fun o => K5.cell o
    replace K6 := K6.below b19 qK6
    replace qK6 := K6.lt
    replace cK6 := fun o => K6.cell o
    replace K7 := K7.below b19 qK7
    replace qK7 := K7.lt
    replace cK7 := fun o => K7.cell o
    replace b19 := bnext b18 b19
    clear b18
    clear HSL
    go_wp2_with fail
    refine (likeMosaics9_v ⟨⟨A5, n5, c5⟩, ⟨E5, m5, d5⟩⟩ ⟨⟨A0, n0, c0⟩, ⟨E0, m0, d0⟩⟩ lr _ ok5 R5 R0).mono ?_
    rintro e w20 ⟨rfl, b20⟩
    replace R0 := R0.below b20
    replace R1 := R1.below b20
    replace R2 := R2.below b20
    replace R5 := R5.below b20
    replace R6 := R6.below b20
    replace R7 := R7.below b20
    replace K0 := K0.below b20 qK0
    replace qK0 := K0.lt
    replace cK0 := fun o => K0.cell o
    replace K1 := K1.below b20 qK1
    replace qK1 := K1.lt
    replace cK1 := fun o => K1.cell o
    replace K2 := K2.below b20 qK2
    replace qK2 := K2.lt
    replace cK2 := fun o => K2.cell o
    replace K5 := K5.below b20 qK5
    replace qK5 := K5.lt
    replace cK5 := fun o => K5.cell o
    replace K6 := K6.below b20 qK6
    replace qK6 := K6.lt
    replace cK6 := fun o => K6.cell o
    replace K7 := K7.below b20 qK7
    replace qK7 := K7.lt
    replace cK7 := fun o => K7.cell o
    replace b20 := bnext b19 b20
    clear b19
    go_wp2_with fail
    refine (likeMosaics9_v ⟨⟨A6, n6, c6⟩, ⟨E6, m6, d6⟩⟩ ⟨⟨A7, n7, c7⟩, ⟨E7, m7, d7⟩⟩ lz _ ok6 R6 R7).mono ?_
    rintro e w21 ⟨rfl, b21⟩
    replace R0 := R0.below b21
    replace R1 := R1.below b21
    replace R2 := R2.below b21
    replace R5 := R5.below b21
    replace R6 := R6.below b21
    replace R7 := R7.below b21
    replace K0 := K0.below b21 qK0
    replace qK0 := K0.lt
    replace cK0 := fun o => K0.cell o
    replace K1 := K1.below b21 qK1
    replace qK1 := K1.lt
    replace cK1 := fun o => K1.cell o
    replace K2 := K2.below b21 qK2
    replace qK2 := K2.lt
    replace cK2 := fun o => K2.cell o
    replace K5 := K5.below b21 qK5
    replace qK5 := K5.lt
    replace cK5 := fun o => K5.cell o
    replace K6 := K6.below b21 qK6
    replace qK6 := K6.lt
    replace cK6 := fun o => K6.cell o
    replace K7 := K7.below b21 qK7
    replace qK7 := K7.lt
    replace cK7 := fun o => K7.cell o
    replace b21 := bnext b20 b21
    clear b20
    clear R7 K7 qK7 cK7 R6 K6 qK6 cK6 R5 K5 qK5 cK5
    go_wp2_with fail
    refine (HIS _ R0).mono ?_
    rintro e w22 ⟨rfl, b22⟩
    replace R0 := R0.below b22
    replace R1 := R1.below b22
    replace R2 := R2.below b22
    replace K0 := K0.below b22 qK0
    replace qK0 := K0.lt
    replace cK0 := fun o => K0.cell o
    replace K1 := K1.below b22 qK1
    replace qK1 := K1.lt
    replace cK1 := fun o => K1.cell o
    replace K2 := K2.below b22 qK2
    replace qK2 := K2.lt
    replace cK2 := fun o => K2.cell o
    replace b22 := bnext b21 b22
    clear b21
    clear HIS
    by_cases hcx : cx = 0
    case neg =>
      have g1 : (cx == 0) = false := by rw [beq_eq_false_iff_ne]; exact hcx
      have g2 : (cx != 0) = true := by simpa using hcx
      go_wp2
      go_ret
      exact ⟨rfl, b22⟩
    have HE := HCK.out hcx
    subst hcx
    clear HCK
    rw [HE.1] at HC0
    go_wp2_with fail
    refine (HC0 _ R0).mono ?_
    rintro e w23 ⟨rfl, b23⟩
    replace R0 := R0.below b23
    replace R1 := R1.below b23
    replace R2 := R2.below b23
    replace K0 := K0.below b23 qK0
    replace qK0 := K0.lt
    replace cK0 := fun o => K0.cell o
    replace K1 := K1.below b23 qK1
    replace qK1 := K1.lt
    replace cK1 := fun o => K1.cell o
    replace K2 := K2.below b23 qK2
    replace qK2 := K2.lt
    replace cK2 := fun o => K2.cell o
    replace b23 := bnext b22 b23
    clear b22
    have HC1 := fun (V : World) (R : RdAll V (MosaicS ⟨⟨A1, n1, c1⟩, ⟨E1, m1, d1⟩⟩ l1)) => implCountKnown_any ⟨⟨A1, n1, c1⟩, ⟨E1, m1, d1⟩⟩ l1 V ok1 R
    rw [HE.2.1] at HC1
    unfold MosaicV at HC1
    go_wp2_with fail
    refine (HC1 _ R1).mono ?_
    rintro e w24 ⟨rfl, b24⟩
    replace R0 := R0.below b24
    replace R1 := R1.below b24
    replace R2 := R2.below b24
    replace K0 := K0.below b24 qK0
    replace qK0 := K0.lt
    replace cK0 := fun o => K0.cell o
    replace K1 := K1.below b24 qK1
    replace qK1 := K1.lt
    replace cK1 := fun o => K1.cell o
    replace K2 := K2.below b24 qK2
    replace qK2 := K2.lt
    replace cK2 := fun o => K2.cell o
    replace b24 := bnext b23 b24
    clear b23
    have HC2 := fun (V : World) (R : RdAll V (MosaicS ⟨⟨A2, n2, c2⟩, ⟨E2, m2, d2⟩⟩ lx)) => implCountKnown_any ⟨⟨A2, n2, c2⟩, ⟨E2, m2, d2⟩⟩ lx V ok2 R
    rw [HE.2.2.1] at HC2
    unfold MosaicV at HC2
    go_wp2_with fail
    refine (HC2 _ R2).mono ?_
    rintro e w25 ⟨rfl, b25⟩
    replace R0 := R0.below b25
    replace R1 := R1.below b25
    replace R2 := R2.below b25
    replace K0 := K0.below b25 qK0
    replace qK0 := K0.lt
    replace cK0 := fun o => K0.cell o
    replace K1 := K1.below b25 qK1
    replace qK1 := K1.lt
    replace cK1 := fun o => K1.cell o
    replace K2 := K2.below b25 qK2
    replace qK2 := K2.lt
    replace cK2 := fun o => K2.cell o
    replace b25 := bnext b24 b25
    clear b24
    obtain ⟨-, -, -, s1, s2, s3⟩ := HE
    generalize ckN lx = x3 at *
    generalize ckN l1 = x2 at *
    generalize ckN lr = x1 at *
    have wr : IntKind.i64.wrap (x1 + x2) = x1 + x2 := IntWalk.i64_in _ (by omega)
    go_wp2
    go_ret
    exact ⟨rfl, b25⟩
  · obtain rfl := HT.out.2.2.2 rfl
    go_wp2_with fail
    refine (HSL _ R0).mono ?_
    rintro e w19 ⟨rfl, b19⟩
    replace R0 := R0.below b19
    replace R1 := R1.below b19
    replace R2 := R2.below b19
    replace R5 := R5.below b19
    replace R6 := R6.below b19
    replace R7 := R7.below b19
    replace K0 := K0.below b19 qK0
    replace qK0 := K0.lt
    replace cK0 := fun o => K0.cell o
    replace K1 := K1.below b19 qK1
    replace qK1 := K1.lt
    replace cK1 := fun o => K1.cell o
    replace K2 := K2.below b19 qK2
    replace qK2 := K2.lt
    replace cK2 := fun o => K2.cell o
    replace K5 := K5.below b19 qK5
    replace qK5 := K5.lt
    replace cK5 := fun o => K5.cell o
    replace K6 := K6.below b19 qK6
    replace qK6 := K6.lt
    replace cK6 := fun o => K6.cell o
    replace K7 := K7.below b19 qK7
    replace qK7 := K7.lt
    replace cK7 := fun o => K7.cell o
    replace b19 := bnext b18 b19
    clear b18
    clear HSL
    go_wp2_with fail
    refine (likeMosaics9_v ⟨⟨A6, n6, c6⟩, ⟨E6, m6, d6⟩⟩ ⟨⟨A7, n7, c7⟩, ⟨E7, m7, d7⟩⟩ lz _ ok6 R6 R7).mono ?_
    rintro e w20 ⟨rfl, b20⟩
    replace R0 := R0.below b20
    replace R1 := R1.below b20
    replace R2 := R2.below b20
    replace R5 := R5.below b20
    replace R6 := R6.below b20
    replace R7 := R7.below b20
    replace K0 := K0.below b20 qK0
    replace qK0 := K0.lt
    replace cK0 := fun o => K0.cell o
    replace K1 := K1.below b20 qK1
    replace qK1 := K1.lt
    replace cK1 := fun o => K1.cell o
    replace K2 := K2.below b20 qK2
    replace qK2 := K2.lt
    replace cK2 := fun o => K2.cell o
    replace K5 := K5.below b20 qK5
    replace qK5 := K5.lt
    replace cK5 := fun o => K5.cell o
    replace K6 := K6.below b20 qK6
    replace qK6 := K6.lt
    replace cK6 := fun o => K6.cell o
    replace K7 := K7.below b20 qK7
    replace qK7 := K7.lt
    replace cK7 := fun o => K7.cell o
    replace b20 := bnext b19 b20
    clear b19
    clear R7 K7 qK7 cK7 R6 K6 qK6 cK6 R5 K5 qK5 cK5
    go_wp2_with fail
    refine (HIS _ R0).mono ?_
    rintro e w21 ⟨rfl, b21⟩
    replace R0 := R0.below b21
    replace R1 := R1.below b21
    replace R2 := R2.below b21
    replace K0 := K0.below b21 qK0
    replace qK0 := K0.lt
    replace cK0 := fun o => K0.cell o
    replace K1 := K1.below b21 qK1
    replace qK1 := K1.lt
    replace cK1 := fun o => K1.cell o
    replace K2 := K2.below b21 qK2
    replace qK2 := K2.lt
    replace cK2 := fun o => K2.cell o
    replace b21 := bnext b20 b21
    clear b20
    clear HIS
    by_cases hcx : cx = 0
    case neg =>
      have g1 : (cx == 0) = false := by rw [beq_eq_false_iff_ne]; exact hcx
      have g2 : (cx != 0) = true := by simpa using hcx
      go_wp2
      go_ret
      exact ⟨rfl, b21⟩
    have HE := HCK.out hcx
    subst hcx
    clear HCK
    rw [HE.1] at HC0
    go_wp2_with fail
    refine (HC0 _ R0).mono ?_
    rintro e w22 ⟨rfl, b22⟩
    replace R0 := R0.below b22
    replace R1 := R1.below b22
    replace R2 := R2.below b22
    replace K0 := K0.below b22 qK0
    replace qK0 := K0.lt
    replace cK0 := fun o => K0.cell o
    replace K1 := K1.below b22 qK1
    replace qK1 := K1.lt
    replace cK1 := fun o => K1.cell o
    replace K2 := K2.below b22 qK2
    replace qK2 := K2.lt
    replace cK2 := fun o => K2.cell o
    replace b22 := bnext b21 b22
    clear b21
    have HC1 := fun (V : World) (R : RdAll V (MosaicS ⟨⟨A1, n1, c1⟩, ⟨E1, m1, d1⟩⟩ l1)) => implCountKnown_any ⟨⟨A1, n1, c1⟩, ⟨E1, m1, d1⟩⟩ l1 V ok1 R
    rw [HE.2.1] at HC1
    unfold MosaicV at HC1
    go_wp2_with fail
    refine (HC1 _ R1).mono ?_
    rintro e w23 ⟨rfl, b23⟩
    replace R0 := R0.below b23
    replace R1 := R1.below b23
    replace R2 := R2.below b23
    replace K0 := K0.below b23 qK0
    replace qK0 := K0.lt
    replace cK0 := fun o => K0.cell o
    replace K1 := K1.below b23 qK1
    replace qK1 := K1.lt
    replace cK1 := fun o => K1.cell o
    replace K2 := K2.below b23 qK2
    replace qK2 := K2.lt
    replace cK2 := fun o => K2.cell o
    replace b23 := bnext b22 b23
    clear b22
    have HC2 := fun (V : World) (R : RdAll V (MosaicS ⟨⟨A2, n2, c2⟩, ⟨E2, m2, d2⟩⟩ lx)) => implCountKnown_any ⟨⟨A2, n2, c2⟩, ⟨E2, m2, d2⟩⟩ lx V ok2 R
    rw [HE.2.2.1] at HC2
    unfold MosaicV at HC2
    go_wp2_with fail
    refine (HC2 _ R2).mono ?_
    rintro e w24 ⟨rfl, b24⟩
    replace R0 := R0.below b24
    replace R1 := R1.below b24
    replace R2 := R2.below b24
    replace K0 := K0.below b24 qK0
    replace qK0 := K0.lt
    replace cK0 := fun o => K0.cell o
    replace K1 := K1.below b24 qK1
    replace qK1 := K1.lt
    replace cK1 := fun o => K1.cell o
    replace K2 := K2.below b24 qK2
    replace qK2 := K2.lt
    replace cK2 := fun o => K2.cell o
    replace b24 := bnext b23 b24
    clear b23
    obtain ⟨-, -, -, s1, s2, s3⟩ := HE
    generalize ckN lx = x3 at *
    generalize ckN l1 = x2 at *
    generalize ckN l0 = x1 at *
    have wr : IntKind.i64.wrap (x1 + x2) = x1 + x2 := IntWalk.i64_in _ (by omega)
    go_wp2
    go_ret
    exact ⟨rfl, b24⟩
end Go.Proofs.YtilieonalmihaaaDoor
