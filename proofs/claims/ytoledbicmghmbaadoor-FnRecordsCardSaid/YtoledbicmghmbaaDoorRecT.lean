/- The statements' own helpers on slices of records: a copy, marks laid. Condition: at most 1048576 records. -/
import Derived.Test.YtoledbicmghmbaaDoorRecordS
import Derived.Deep.DeepCutAuto
namespace Go.Proofs.YtoledbicmghmbaaDoor
open Go.RowKit

theorem fld_add (a : Addr) (i j : Nat) (h : j ≠ 0) : (⟨(a.add i).block, (a.add i).off + j, none⟩ : Addr) = a.add (i + j) := by rw [← field_add _ j h, add_of_add]
set_option maxRecDepth 100000 in
set_option maxHeartbeats 4000000 in
theorem toRecordS_any (A : Option Addr) (n c : Nat) (xs : List Int) (w : World) (hn : n ≤ 1048576) (hr : Rd w A (n * 7) (ints xs)) :
    Calls Tryd.prog 16 #[.slice A n c] w fun e w' => e = .returned (.slice (some ⟨w.heap.size, 0, none⟩) n n) ∧
      Rd w' (some ⟨w.heap.size, 0, none⟩) (n * 7) (ints xs) ∧ Wr w' w.heap.size (some ⟨w.heap.size, 0, none⟩) (n * 7) ∧ Below w.heap.size w w' ∧ w.heap.size < w'.heap.size := by
  obtain ⟨cs0, hcs0, hmk⟩ := run_make_Record n hn w
  have HC0 := Lib.hid hcs0
  have HL := Lib.hid hr.len
  clear hcs0
  go_enter Tryd.func16, Tryd.ntmps16
  go_wp2
  clear hmk
  go_loopw [4] (fun i wr => ∃ k : Nat, ∃ cs : Array Value, k ≤ n ∧ i = .int .i64 k ∧ Blk wr w.heap.size 29 cs ∧ cs.size = n * 7 ∧ (∀ j, j < k * 7 → cs[j]? = (ints xs)[j]?) ∧ Below w.heap.size w wr)
    (fun i _ => n - (intOf i).toNat)
  case atStart => exact ⟨0, _, Nat.zero_le _, rfl, Blk.new _ _ _, HC0.out, fun j hj => absurd hj (by omega), (Below.refl _ _).alloc (Nat.le_refl _) _⟩
  case round =>
    obtain ⟨k, cs, hk, rfl, hB, hcs, hpre, hbel⟩ := hrel
    have hG := hB.lt
    by_cases hlt : k < n
    · have HP := Lib.hid hpre
      clear hpre
      have hkn : k * 7 + 7 ≤ n * 7 := by omega
      obtain ⟨_, e0, hx0⟩ := (hr.below hbel).int (show k * 7 + 0 < n * 7 by omega)
      obtain ⟨_, e1, hx1⟩ := (hr.below hbel).int (show k * 7 + 1 < n * 7 by omega)
      obtain ⟨_, e2, hx2⟩ := (hr.below hbel).int (show k * 7 + 2 < n * 7 by omega)
      obtain ⟨_, e3, hx3⟩ := (hr.below hbel).int (show k * 7 + 3 < n * 7 by omega)
      obtain ⟨_, e4, hx4⟩ := (hr.below hbel).int (show k * 7 + 4 < n * 7 by omega)
      obtain ⟨_, e5, hx5⟩ := (hr.below hbel).int (show k * 7 + 5 < n * 7 by omega)
      obtain ⟨_, e6, hx6⟩ := (hr.below hbel).int (show k * 7 + 6 < n * 7 by omega)
      obtain ⟨ad, rfl⟩ : ∃ ad, A = some ad := ⟨_, e0⟩
      cases e0
      cases e1
      cases e2
      cases e3
      cases e4
      cases e5
      cases e6
      rw [Nat.add_zero] at hx0
      rw [← add_of_add, field_add _ 1 (by decide)] at hx1
      rw [← add_of_add, field_add _ 2 (by decide)] at hx2
      rw [← add_of_add, field_add _ 3 (by decide)] at hx3
      rw [← add_of_add, field_add _ 4 (by decide)] at hx4
      rw [← add_of_add, field_add _ 5 (by decide)] at hx5
      rw [← add_of_add, field_add _ 6 (by decide)] at hx6
      have hvals : ∀ j, j < 7 → (ints xs)[k * 7 + j]? = some (.int .i64 (xs.getD (k * 7 + j) 0)) := fun j hj => by
        have := HL.out
        rw [ints_getElem?]
        simp [List.getElem?_eq_getElem (show k * 7 + j < xs.length by omega)]
      have HV0 := Lib.hid (hvals 0 (by omega))
      have HV1 := Lib.hid (hvals 1 (by omega))
      have HV2 := Lib.hid (hvals 2 (by omega))
      have HV3 := Lib.hid (hvals 3 (by omega))
      have HV4 := Lib.hid (hvals 4 (by omega))
      have HV5 := Lib.hid (hvals 5 (by omega))
      have HV6 := Lib.hid (hvals 6 (by omega))
      clear hvals
      rw [Nat.add_zero] at HV0
      generalize xs.getD (k * 7) 0 = x0 at *
      generalize xs.getD (k * 7 + 1) 0 = x1 at *
      generalize xs.getD (k * 7 + 2) 0 = x2 at *
      generalize xs.getD (k * 7 + 3) 0 = x3 at *
      generalize xs.getD (k * 7 + 4) 0 = x4 at *
      generalize xs.getD (k * 7 + 5) 0 = x5 at *
      generalize xs.getD (k * 7 + 6) 0 = x6 at *
      go_wp2_with fail
      refine (toRecord_any _ _ _ _ _ _ _ _).mono ?_
      rintro e wq ⟨rfl, bq⟩
      have hbel2 := hbel.trans (bq.mono hbel.size)
      have S0 := hB.below bq hG
      have z0 := S0.lt
      obtain ⟨o0, hd0⟩ : ∃ v, (wq).cell? ⟨w.heap.size, k * 7, none⟩ = some v := ⟨_, by rw [S0.cell]; exact Array.getElem?_eq_getElem (by first | omega | (simp only [Array.size_setIfInBounds]; omega))⟩
      have hf0 : (wq).frozen? ⟨w.heap.size, k * 7, none⟩ = false := S0.frozen _
      have S1 := S0.set_ (k * 7) (.int .i64 x0)
      have z1 := S1.lt
      obtain ⟨o1, hd1⟩ : ∃ v, ((wq).setCell ⟨w.heap.size, k * 7, none⟩ (.int .i64 x0)).cell? ⟨w.heap.size, k * 7 + 1, none⟩ = some v := ⟨_, by rw [S1.cell]; exact Array.getElem?_eq_getElem (by first | omega | (simp only [Array.size_setIfInBounds]; omega))⟩
      have hf1 : ((wq).setCell ⟨w.heap.size, k * 7, none⟩ (.int .i64 x0)).frozen? ⟨w.heap.size, k * 7 + 1, none⟩ = false := S1.frozen _
      have S2 := S1.set_ (k * 7 + 1) (.int .i64 x1)
      have z2 := S2.lt
      obtain ⟨o2, hd2⟩ : ∃ v, (((wq).setCell ⟨w.heap.size, k * 7, none⟩ (.int .i64 x0)).setCell ⟨w.heap.size, k * 7 + 1, none⟩ (.int .i64 x1)).cell? ⟨w.heap.size, k * 7 + 2, none⟩ = some v := ⟨_, by rw [S2.cell]; exact Array.getElem?_eq_getElem (by first | omega | (simp only [Array.size_setIfInBounds]; omega))⟩
      have hf2 : (((wq).setCell ⟨w.heap.size, k * 7, none⟩ (.int .i64 x0)).setCell ⟨w.heap.size, k * 7 + 1, none⟩ (.int .i64 x1)).frozen? ⟨w.heap.size, k * 7 + 2, none⟩ = false := S2.frozen _
      have S3 := S2.set_ (k * 7 + 2) (.int .i64 x2)
      have z3 := S3.lt
      obtain ⟨o3, hd3⟩ : ∃ v, ((((wq).setCell ⟨w.heap.size, k * 7, none⟩ (.int .i64 x0)).setCell ⟨w.heap.size, k * 7 + 1, none⟩ (.int .i64 x1)).setCell ⟨w.heap.size, k * 7 + 2, none⟩ (.int .i64 x2)).cell? ⟨w.heap.size, k * 7 + 3, none⟩ = some v := ⟨_, by rw [S3.cell]; exact Array.getElem?_eq_getElem (by first | omega | (simp only [Array.size_setIfInBounds]; omega))⟩
      have hf3 : ((((wq).setCell ⟨w.heap.size, k * 7, none⟩ (.int .i64 x0)).setCell ⟨w.heap.size, k * 7 + 1, none⟩ (.int .i64 x1)).setCell ⟨w.heap.size, k * 7 + 2, none⟩ (.int .i64 x2)).frozen? ⟨w.heap.size, k * 7 + 3, none⟩ = false := S3.frozen _
      have S4 := S3.set_ (k * 7 + 3) (.int .i64 x3)
      have z4 := S4.lt
      obtain ⟨o4, hd4⟩ : ∃ v, (((((wq).setCell ⟨w.heap.size, k * 7, none⟩ (.int .i64 x0)).setCell ⟨w.heap.size, k * 7 + 1, none⟩ (.int .i64 x1)).setCell ⟨w.heap.size, k * 7 + 2, none⟩ (.int .i64 x2)).setCell ⟨w.heap.size, k * 7 + 3, none⟩ (.int .i64 x3)).cell? ⟨w.heap.size, k * 7 + 4, none⟩ = some v := ⟨_, by rw [S4.cell]; exact Array.getElem?_eq_getElem (by first | omega | (simp only [Array.size_setIfInBounds]; omega))⟩
      have hf4 : (((((wq).setCell ⟨w.heap.size, k * 7, none⟩ (.int .i64 x0)).setCell ⟨w.heap.size, k * 7 + 1, none⟩ (.int .i64 x1)).setCell ⟨w.heap.size, k * 7 + 2, none⟩ (.int .i64 x2)).setCell ⟨w.heap.size, k * 7 + 3, none⟩ (.int .i64 x3)).frozen? ⟨w.heap.size, k * 7 + 4, none⟩ = false := S4.frozen _
      have S5 := S4.set_ (k * 7 + 4) (.int .i64 x4)
      have z5 := S5.lt
      obtain ⟨o5, hd5⟩ : ∃ v, ((((((wq).setCell ⟨w.heap.size, k * 7, none⟩ (.int .i64 x0)).setCell ⟨w.heap.size, k * 7 + 1, none⟩ (.int .i64 x1)).setCell ⟨w.heap.size, k * 7 + 2, none⟩ (.int .i64 x2)).setCell ⟨w.heap.size, k * 7 + 3, none⟩ (.int .i64 x3)).setCell ⟨w.heap.size, k * 7 + 4, none⟩ (.int .i64 x4)).cell? ⟨w.heap.size, k * 7 + 5, none⟩ = some v := ⟨_, by rw [S5.cell]; exact Array.getElem?_eq_getElem (by first | omega | (simp only [Array.size_setIfInBounds]; omega))⟩
      have hf5 : ((((((wq).setCell ⟨w.heap.size, k * 7, none⟩ (.int .i64 x0)).setCell ⟨w.heap.size, k * 7 + 1, none⟩ (.int .i64 x1)).setCell ⟨w.heap.size, k * 7 + 2, none⟩ (.int .i64 x2)).setCell ⟨w.heap.size, k * 7 + 3, none⟩ (.int .i64 x3)).setCell ⟨w.heap.size, k * 7 + 4, none⟩ (.int .i64 x4)).frozen? ⟨w.heap.size, k * 7 + 5, none⟩ = false := S5.frozen _
      have S6 := S5.set_ (k * 7 + 5) (.int .i64 x5)
      have z6 := S6.lt
      obtain ⟨o6, hd6⟩ : ∃ v, (((((((wq).setCell ⟨w.heap.size, k * 7, none⟩ (.int .i64 x0)).setCell ⟨w.heap.size, k * 7 + 1, none⟩ (.int .i64 x1)).setCell ⟨w.heap.size, k * 7 + 2, none⟩ (.int .i64 x2)).setCell ⟨w.heap.size, k * 7 + 3, none⟩ (.int .i64 x3)).setCell ⟨w.heap.size, k * 7 + 4, none⟩ (.int .i64 x4)).setCell ⟨w.heap.size, k * 7 + 5, none⟩ (.int .i64 x5)).cell? ⟨w.heap.size, k * 7 + 6, none⟩ = some v := ⟨_, by rw [S6.cell]; exact Array.getElem?_eq_getElem (by first | omega | (simp only [Array.size_setIfInBounds]; omega))⟩
      have hf6 : (((((((wq).setCell ⟨w.heap.size, k * 7, none⟩ (.int .i64 x0)).setCell ⟨w.heap.size, k * 7 + 1, none⟩ (.int .i64 x1)).setCell ⟨w.heap.size, k * 7 + 2, none⟩ (.int .i64 x2)).setCell ⟨w.heap.size, k * 7 + 3, none⟩ (.int .i64 x3)).setCell ⟨w.heap.size, k * 7 + 4, none⟩ (.int .i64 x4)).setCell ⟨w.heap.size, k * 7 + 5, none⟩ (.int .i64 x5)).frozen? ⟨w.heap.size, k * 7 + 6, none⟩ = false := S6.frozen _
      have S7 := S6.set_ (k * 7 + 6) (.int .i64 x6)
      have hbel3 : Below w.heap.size w ((((((((wq).setCell ⟨w.heap.size, k * 7, none⟩ (.int .i64 x0)).setCell ⟨w.heap.size, k * 7 + 1, none⟩ (.int .i64 x1)).setCell ⟨w.heap.size, k * 7 + 2, none⟩ (.int .i64 x2)).setCell ⟨w.heap.size, k * 7 + 3, none⟩ (.int .i64 x3)).setCell ⟨w.heap.size, k * 7 + 4, none⟩ (.int .i64 x4)).setCell ⟨w.heap.size, k * 7 + 5, none⟩ (.int .i64 x5)).setCell ⟨w.heap.size, k * 7 + 6, none⟩ (.int .i64 x6)) := (by (repeat (first | (with_reducible assumption) | (with_reducible exact Below.refl _ _) | (with_reducible refine Below.drew ?_) | (with_reducible refine Below.drewN ?_ _) | (with_reducible refine Below.setCell ?_ ?_ _) | (with_reducible refine Below.alloc ?_ ?_ _) | assumption)); all_goals (first | omega | (simp; done) | (simp; omega)))
      have HS := Lib.hid S7
      have HC := Lib.hid hcs
      clear hB hcs S0 S1 S2 S3 S4 S5 S6 S7 hbel hbel2 bq hx0 hx1 hx2 hx3 hx4 hx5 hx6
      go_wp2
      go_roundw
      case rel =>
        refine ⟨k + 1, (((((((cs.setIfInBounds (k * 7) (.int .i64 x0)).setIfInBounds (k * 7 + 1) (.int .i64 x1)).setIfInBounds (k * 7 + 2) (.int .i64 x2)).setIfInBounds (k * 7 + 3) (.int .i64 x3)).setIfInBounds (k * 7 + 4) (.int .i64 x4)).setIfInBounds (k * 7 + 5) (.int .i64 x5)).setIfInBounds (k * 7 + 6) (.int .i64 x6)), by omega, by go_num, HS.out, by simp only [Array.size_setIfInBounds]; exact HC.out, ?_, hbel3⟩
        intro j hj
        have := HC.out
        by_cases hjk : j < k * 7
        · rw [Array.getElem?_setIfInBounds_ne (by omega), Array.getElem?_setIfInBounds_ne (by omega), Array.getElem?_setIfInBounds_ne (by omega), Array.getElem?_setIfInBounds_ne (by omega), Array.getElem?_setIfInBounds_ne (by omega), Array.getElem?_setIfInBounds_ne (by omega), Array.getElem?_setIfInBounds_ne (by omega)]
          exact HP.out j hjk
        · obtain ⟨i, rfl⟩ : ∃ i, j = k * 7 + i := ⟨j - k * 7, by omega⟩
          have hi : i < 7 := by omega
          match i, hi with
          | 0, _ => simp only [Nat.add_zero]; rw [Array.getElem?_setIfInBounds_ne (by omega), Array.getElem?_setIfInBounds_ne (by omega), Array.getElem?_setIfInBounds_ne (by omega), Array.getElem?_setIfInBounds_ne (by omega), Array.getElem?_setIfInBounds_ne (by omega), Array.getElem?_setIfInBounds_ne (by omega), Array.getElem?_setIfInBounds_self_of_lt (by first | omega | (simp only [Array.size_setIfInBounds]; omega))]; exact HV0.out.symm
          | 1, _ => rw [Array.getElem?_setIfInBounds_ne (by omega), Array.getElem?_setIfInBounds_ne (by omega), Array.getElem?_setIfInBounds_ne (by omega), Array.getElem?_setIfInBounds_ne (by omega), Array.getElem?_setIfInBounds_ne (by omega), Array.getElem?_setIfInBounds_self_of_lt (by first | omega | (simp only [Array.size_setIfInBounds]; omega))]; exact HV1.out.symm
          | 2, _ => rw [Array.getElem?_setIfInBounds_ne (by omega), Array.getElem?_setIfInBounds_ne (by omega), Array.getElem?_setIfInBounds_ne (by omega), Array.getElem?_setIfInBounds_ne (by omega), Array.getElem?_setIfInBounds_self_of_lt (by first | omega | (simp only [Array.size_setIfInBounds]; omega))]; exact HV2.out.symm
          | 3, _ => rw [Array.getElem?_setIfInBounds_ne (by omega), Array.getElem?_setIfInBounds_ne (by omega), Array.getElem?_setIfInBounds_ne (by omega), Array.getElem?_setIfInBounds_self_of_lt (by first | omega | (simp only [Array.size_setIfInBounds]; omega))]; exact HV3.out.symm
          | 4, _ => rw [Array.getElem?_setIfInBounds_ne (by omega), Array.getElem?_setIfInBounds_ne (by omega), Array.getElem?_setIfInBounds_self_of_lt (by first | omega | (simp only [Array.size_setIfInBounds]; omega))]; exact HV4.out.symm
          | 5, _ => rw [Array.getElem?_setIfInBounds_ne (by omega), Array.getElem?_setIfInBounds_self_of_lt (by first | omega | (simp only [Array.size_setIfInBounds]; omega))]; exact HV5.out.symm
          | 6, _ => rw [Array.getElem?_setIfInBounds_self_of_lt (by first | omega | (simp only [Array.size_setIfInBounds]; omega))]; exact HV6.out.symm
      case measure => simp [intOf]; omega
    · obtain rfl : n = k := by omega
      have HP := Lib.hid hpre
      have HC := Lib.hid hcs
      clear hpre hcs
      go_wp2
      go_ret
      exact ⟨rfl, hB.rd (by have := HL.out; unfold ints; simpa using this) (fun i hi => HP.out i hi), hB.wr (Nat.le_refl _) _, hbel, hB.lt⟩

set_option maxRecDepth 100000 in
set_option maxHeartbeats 4000000 in
theorem markRecordS_any (A : Option Addr) (n c : Nat) (us : List Value) (q : Int) (B : Nat) (w : World) (hn : n ≤ 1048576) (hq0 : 0 ≤ q) (hq : q ≤ 1073741824) (ha : Rd w A (n * 7) us) (hw : Wr w B A (n * 7)) :
    Calls Tryd.prog 59 #[.slice A n c, .int .i64 q] w fun e w' => e = .returned (.int .i64 (q + (n * 7 : Nat))) ∧ w.grownBy w' (blkp A (n * 7)) ∧ w'.heap.size = w.heap.size ∧
      Rd w' A (n * 7) (ints (marks q (n * 7))) ∧ Wr w' B A (n * 7) := by
  go_enter Tryd.func59, Tryd.ntmps59
  go_wp2
  go_loopw [1, 5] (fun j i wr => ∃ (k : Nat) (z : Int) (vs : List Value), k ≤ n ∧ i = .int .i64 k ∧ j = .int .i64 z ∧ z = q + (k : Int) * 7 ∧ w.grownBy wr (blkp A (n * 7)) ∧ wr.heap.size = w.heap.size ∧ Rd wr A (n * 7) vs ∧ Wr wr B A (n * 7) ∧ (∀ x, x < k * 7 → vs[x]? = some (.int .i64 (q + (x : Int)))))
    (fun _ i _ => n - (intOf i).toNat)
  case atStart => exact ⟨0, q, us, Nat.zero_le _, rfl, rfl, by omega, World.grownBy.refl w _, rfl, ha, hw, fun x hx => absurd hx (by omega)⟩
  case round =>
    clear ha hw
    obtain ⟨k, z0, vs0, hk, rfl, rfl, hz, G0, hs0, R0, W0, hpre⟩ := hrel
    by_cases hlt : k < n
    · have HP := Lib.hid hpre
      have HZ := Lib.hid hz
      have hz0 : 0 ≤ z0 ∧ z0 ≤ 1082130432 := by omega
      clear hpre hz
      have hltI : (k : Int) < (n : Int) := by omega
      have hk0 : (0 : Int) ≤ (k : Int) := by omega
      obtain ⟨ad, hA, -⟩ := R0.2 (by omega)
      subst hA
      have hbp : blkp (some ad) (n * 7) = some ad.block := by unfold blkp; rw [if_neg (by omega)]; rfl
      have HBP := Lib.hid hbp
      clear hbp
      obtain ⟨_, _, ⟨⟩, -, hc0⟩ := R0.at_ (show k * 7 + 0 < n * 7 by omega)
      obtain ⟨_, ⟨⟩, -, hf0⟩ := W0 (by omega)
      replace hf0 := hf0 (k * 7 + 0) (by omega)
      rw [Nat.add_zero] at hc0 hf0
      have R1 := R0.set_ (u := .int .i64 z0) (show k * 7 + 0 < n * 7 by omega) rfl
      have W1 := W0.set_ (u := .int .i64 z0) (ad.add (k * 7 + 0))
      have G1 := grown_setCell G0 (p := ad.add (k * 7 + 0)) (.inl (by rw [HBP.out, block_of_add])) (.int .i64 z0)
      have hs1 : (wr.setCell (ad.add (k * 7 + 0)) (.int .i64 z0)).heap.size = w.heap.size := by simpa using hs0
      rw [Nat.add_zero] at R1 W1 G1 hs1
      go_upto_region 5 with fail
      generalize wr.setCell (ad.add (k * 7)) (.int .i64 z0) = v1 at R1 W1 G1 hs1 ⊢
      clear hc0 hf0 R0 W0 G0 hs0
      go_upto_region 6 with fail
      obtain ⟨z1, hz1⟩ : ∃ z, z = z0 + 1 := ⟨_, rfl⟩
      rw [← hz1]
      have HZ1 := Lib.hid hz1
      have hz1' : 0 ≤ z1 ∧ z1 ≤ 1082130432 + 1 := by omega
      clear hz1
      obtain ⟨_, _, ⟨⟩, -, hc1⟩ := R1.at_ (show k * 7 + 1 < n * 7 by omega)
      obtain ⟨_, ⟨⟩, -, hf1⟩ := W1 (by omega)
      replace hf1 := hf1 (k * 7 + 1) (by omega)
      rw [← fld_add _ _ 1 (by decide)] at hc1 hf1
      have R2 := R1.set_ (u := .int .i64 z1) (show k * 7 + 1 < n * 7 by omega) rfl
      have W2 := W1.set_ (u := .int .i64 z1) (ad.add (k * 7 + 1))
      have G2 := grown_setCell G1 (p := ad.add (k * 7 + 1)) (.inl (by rw [HBP.out, block_of_add])) (.int .i64 z1)
      have hs2 : (v1.setCell (ad.add (k * 7 + 1)) (.int .i64 z1)).heap.size = w.heap.size := by simpa using hs1
      rw [← fld_add _ _ 1 (by decide)] at R2 W2 G2 hs2
      go_upto_region 7 with fail
      generalize v1.setCell (⟨(ad.add (k * 7)).block, (ad.add (k * 7)).off + 1, none⟩) (.int .i64 z1) = v2 at R2 W2 G2 hs2 ⊢
      clear hc1 hf1 R1 W1 G1 hs1
      go_upto_region 8 with fail
      obtain ⟨z2, hz2⟩ : ∃ z, z = z1 + 1 := ⟨_, rfl⟩
      rw [← hz2]
      have HZ2 := Lib.hid hz2
      have hz2' : 0 ≤ z2 ∧ z2 ≤ 1082130432 + 2 := by omega
      clear hz2
      obtain ⟨_, _, ⟨⟩, -, hc2⟩ := R2.at_ (show k * 7 + 2 < n * 7 by omega)
      obtain ⟨_, ⟨⟩, -, hf2⟩ := W2 (by omega)
      replace hf2 := hf2 (k * 7 + 2) (by omega)
      rw [← fld_add _ _ 2 (by decide)] at hc2 hf2
      have R3 := R2.set_ (u := .int .i64 z2) (show k * 7 + 2 < n * 7 by omega) rfl
      have W3 := W2.set_ (u := .int .i64 z2) (ad.add (k * 7 + 2))
      have G3 := grown_setCell G2 (p := ad.add (k * 7 + 2)) (.inl (by rw [HBP.out, block_of_add])) (.int .i64 z2)
      have hs3 : (v2.setCell (ad.add (k * 7 + 2)) (.int .i64 z2)).heap.size = w.heap.size := by simpa using hs2
      rw [← fld_add _ _ 2 (by decide)] at R3 W3 G3 hs3
      go_upto_region 9 with fail
      generalize v2.setCell (⟨(ad.add (k * 7)).block, (ad.add (k * 7)).off + 2, none⟩) (.int .i64 z2) = v3 at R3 W3 G3 hs3 ⊢
      clear hc2 hf2 R2 W2 G2 hs2
      go_upto_region 10 with fail
      obtain ⟨z3, hz3⟩ : ∃ z, z = z2 + 1 := ⟨_, rfl⟩
      rw [← hz3]
      have HZ3 := Lib.hid hz3
      have hz3' : 0 ≤ z3 ∧ z3 ≤ 1082130432 + 3 := by omega
      clear hz3
      obtain ⟨_, _, ⟨⟩, -, hc3⟩ := R3.at_ (show k * 7 + 3 < n * 7 by omega)
      obtain ⟨_, ⟨⟩, -, hf3⟩ := W3 (by omega)
      replace hf3 := hf3 (k * 7 + 3) (by omega)
      rw [← fld_add _ _ 3 (by decide)] at hc3 hf3
      have R4 := R3.set_ (u := .int .i64 z3) (show k * 7 + 3 < n * 7 by omega) rfl
      have W4 := W3.set_ (u := .int .i64 z3) (ad.add (k * 7 + 3))
      have G4 := grown_setCell G3 (p := ad.add (k * 7 + 3)) (.inl (by rw [HBP.out, block_of_add])) (.int .i64 z3)
      have hs4 : (v3.setCell (ad.add (k * 7 + 3)) (.int .i64 z3)).heap.size = w.heap.size := by simpa using hs3
      rw [← fld_add _ _ 3 (by decide)] at R4 W4 G4 hs4
      go_upto_region 11 with fail
      generalize v3.setCell (⟨(ad.add (k * 7)).block, (ad.add (k * 7)).off + 3, none⟩) (.int .i64 z3) = v4 at R4 W4 G4 hs4 ⊢
      clear hc3 hf3 R3 W3 G3 hs3
      go_upto_region 12 with fail
      obtain ⟨z4, hz4⟩ : ∃ z, z = z3 + 1 := ⟨_, rfl⟩
      rw [← hz4]
      have HZ4 := Lib.hid hz4
      have hz4' : 0 ≤ z4 ∧ z4 ≤ 1082130432 + 4 := by omega
      clear hz4
      obtain ⟨_, _, ⟨⟩, -, hc4⟩ := R4.at_ (show k * 7 + 4 < n * 7 by omega)
      obtain ⟨_, ⟨⟩, -, hf4⟩ := W4 (by omega)
      replace hf4 := hf4 (k * 7 + 4) (by omega)
      rw [← fld_add _ _ 4 (by decide)] at hc4 hf4
      have R5 := R4.set_ (u := .int .i64 z4) (show k * 7 + 4 < n * 7 by omega) rfl
      have W5 := W4.set_ (u := .int .i64 z4) (ad.add (k * 7 + 4))
      have G5 := grown_setCell G4 (p := ad.add (k * 7 + 4)) (.inl (by rw [HBP.out, block_of_add])) (.int .i64 z4)
      have hs5 : (v4.setCell (ad.add (k * 7 + 4)) (.int .i64 z4)).heap.size = w.heap.size := by simpa using hs4
      rw [← fld_add _ _ 4 (by decide)] at R5 W5 G5 hs5
      go_upto_region 13 with fail
      generalize v4.setCell (⟨(ad.add (k * 7)).block, (ad.add (k * 7)).off + 4, none⟩) (.int .i64 z4) = v5 at R5 W5 G5 hs5 ⊢
      clear hc4 hf4 R4 W4 G4 hs4
      go_upto_region 14 with fail
      obtain ⟨z5, hz5⟩ : ∃ z, z = z4 + 1 := ⟨_, rfl⟩
      rw [← hz5]
      have HZ5 := Lib.hid hz5
      have hz5' : 0 ≤ z5 ∧ z5 ≤ 1082130432 + 5 := by omega
      clear hz5
      obtain ⟨_, _, ⟨⟩, -, hc5⟩ := R5.at_ (show k * 7 + 5 < n * 7 by omega)
      obtain ⟨_, ⟨⟩, -, hf5⟩ := W5 (by omega)
      replace hf5 := hf5 (k * 7 + 5) (by omega)
      rw [← fld_add _ _ 5 (by decide)] at hc5 hf5
      have R6 := R5.set_ (u := .int .i64 z5) (show k * 7 + 5 < n * 7 by omega) rfl
      have W6 := W5.set_ (u := .int .i64 z5) (ad.add (k * 7 + 5))
      have G6 := grown_setCell G5 (p := ad.add (k * 7 + 5)) (.inl (by rw [HBP.out, block_of_add])) (.int .i64 z5)
      have hs6 : (v5.setCell (ad.add (k * 7 + 5)) (.int .i64 z5)).heap.size = w.heap.size := by simpa using hs5
      rw [← fld_add _ _ 5 (by decide)] at R6 W6 G6 hs6
      go_upto_region 15 with fail
      generalize v5.setCell (⟨(ad.add (k * 7)).block, (ad.add (k * 7)).off + 5, none⟩) (.int .i64 z5) = v6 at R6 W6 G6 hs6 ⊢
      clear hc5 hf5 R5 W5 G5 hs5
      go_upto_region 16 with fail
      obtain ⟨z6, hz6⟩ : ∃ z, z = z5 + 1 := ⟨_, rfl⟩
      rw [← hz6]
      have HZ6 := Lib.hid hz6
      have hz6' : 0 ≤ z6 ∧ z6 ≤ 1082130432 + 6 := by omega
      clear hz6
      obtain ⟨_, _, ⟨⟩, -, hc6⟩ := R6.at_ (show k * 7 + 6 < n * 7 by omega)
      obtain ⟨_, ⟨⟩, -, hf6⟩ := W6 (by omega)
      replace hf6 := hf6 (k * 7 + 6) (by omega)
      rw [← fld_add _ _ 6 (by decide)] at hc6 hf6
      have R7 := R6.set_ (u := .int .i64 z6) (show k * 7 + 6 < n * 7 by omega) rfl
      have W7 := W6.set_ (u := .int .i64 z6) (ad.add (k * 7 + 6))
      have G7 := grown_setCell G6 (p := ad.add (k * 7 + 6)) (.inl (by rw [HBP.out, block_of_add])) (.int .i64 z6)
      have hs7 : (v6.setCell (ad.add (k * 7 + 6)) (.int .i64 z6)).heap.size = w.heap.size := by simpa using hs6
      rw [← fld_add _ _ 6 (by decide)] at R7 W7 G7 hs7
      go_upto_region 17 with fail
      generalize v6.setCell (⟨(ad.add (k * 7)).block, (ad.add (k * 7)).off + 6, none⟩) (.int .i64 z6) = v7 at R7 W7 G7 hs7 ⊢
      clear hc6 hf6 R6 W6 G6 hs6
      have HL0 : Hid (vs0.length = n * 7) := by unfold Hid; have := R7.1; simpa using this
      go_wp2
      go_roundw
      case rel =>
        have hl := HL0.out
        refine ⟨k + 1, z6 + 1, _, by omega, by go_num, rfl, by have a0 := HZ.out; have a1 := HZ1.out; have a2 := HZ2.out; have a3 := HZ3.out; have a4 := HZ4.out; have a5 := HZ5.out; have a6 := HZ6.out; omega, G7, hs7, R7, W7, fun x hx => ?_⟩
        by_cases hxk : x < k * 7
        · rw [List.getElem?_set_ne (by omega), List.getElem?_set_ne (by omega), List.getElem?_set_ne (by omega), List.getElem?_set_ne (by omega), List.getElem?_set_ne (by omega), List.getElem?_set_ne (by omega), List.getElem?_set_ne (by omega)]
          exact HP.out x hxk
        · obtain ⟨i, rfl⟩ : ∃ i, x = k * 7 + i := ⟨x - k * 7, by omega⟩
          have hi : i < 7 := by omega
          have a0 := HZ.out; have a1 := HZ1.out; have a2 := HZ2.out; have a3 := HZ3.out; have a4 := HZ4.out; have a5 := HZ5.out; have a6 := HZ6.out
          match i, hi with
          | 0, _ => simp only [Nat.add_zero]; rw [List.getElem?_set_ne (by omega), List.getElem?_set_ne (by omega), List.getElem?_set_ne (by omega), List.getElem?_set_ne (by omega), List.getElem?_set_ne (by omega), List.getElem?_set_ne (by omega), List.getElem?_set_self (by first | omega | (simp only [List.length_set]; omega))]; exact congrArg (fun z => some (Value.int .i64 z)) (by first | omega | (simp only [Nat.add_zero]; omega))
          | 1, _ => rw [List.getElem?_set_ne (by omega), List.getElem?_set_ne (by omega), List.getElem?_set_ne (by omega), List.getElem?_set_ne (by omega), List.getElem?_set_ne (by omega), List.getElem?_set_self (by first | omega | (simp only [List.length_set]; omega))]; exact congrArg (fun z => some (Value.int .i64 z)) (by first | omega | (simp only [Nat.add_zero]; omega))
          | 2, _ => rw [List.getElem?_set_ne (by omega), List.getElem?_set_ne (by omega), List.getElem?_set_ne (by omega), List.getElem?_set_ne (by omega), List.getElem?_set_self (by first | omega | (simp only [List.length_set]; omega))]; exact congrArg (fun z => some (Value.int .i64 z)) (by first | omega | (simp only [Nat.add_zero]; omega))
          | 3, _ => rw [List.getElem?_set_ne (by omega), List.getElem?_set_ne (by omega), List.getElem?_set_ne (by omega), List.getElem?_set_self (by first | omega | (simp only [List.length_set]; omega))]; exact congrArg (fun z => some (Value.int .i64 z)) (by first | omega | (simp only [Nat.add_zero]; omega))
          | 4, _ => rw [List.getElem?_set_ne (by omega), List.getElem?_set_ne (by omega), List.getElem?_set_self (by first | omega | (simp only [List.length_set]; omega))]; exact congrArg (fun z => some (Value.int .i64 z)) (by first | omega | (simp only [Nat.add_zero]; omega))
          | 5, _ => rw [List.getElem?_set_ne (by omega), List.getElem?_set_self (by first | omega | (simp only [List.length_set]; omega))]; exact congrArg (fun z => some (Value.int .i64 z)) (by first | omega | (simp only [Nat.add_zero]; omega))
          | 6, _ => rw [List.getElem?_set_self (by first | omega | (simp only [List.length_set]; omega))]; exact congrArg (fun z => some (Value.int .i64 z)) (by first | omega | (simp only [Nat.add_zero]; omega))
      case measure => simp [intOf]; omega
    · obtain rfl : n = k := by omega
      have HP := Lib.hid hpre
      have HZ := Lib.hid hz
      clear hpre hz
      go_wp2
      go_ret
      refine ⟨ret_int (by rw [HZ.out]; omega), G0, hs0, ?_, W0⟩
      have e : vs0 = ints (marks q (n * 7)) := by
        refine List.ext_getElem? fun i => ?_
        rw [ints_getElem?]
        unfold marks
        by_cases hi : i < n * 7
        · rw [HP.out i hi]; simp [hi]
        · have e1 : vs0.length = n * 7 := R0.1
          have e2 : n * 7 ≤ i := by omega
          rw [List.getElem?_eq_none (show vs0.length ≤ i by omega)]; simp [e2]
      rw [← e]; exact R0
end Go.Proofs.YtoledbicmghmbaaDoor
