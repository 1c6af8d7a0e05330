/- impl: the level of a valid gauge at a time; a valid gauge is one. Condition: a valid gauge, a time from 0 to 1000000. -/
import Derived.Test.YtphpjmkebnadoaaLevI
import Derived.StillTailTactics
namespace Go.Proofs.Ytphpjmkebnadoaa
open Go.RowKit

set_option maxHeartbeats 400000 in
theorem lenG_any (A : Option Addr) (n c : Nat) (w : World) (_ : n ≤ 9223372036854775807) :
    Calls Try.prog 54 #[.slice A n c] w fun e w' => e = .returned (.int .i64 (n : Int)) ∧ w = w' := by
  go_enter Try.func54, Try.ntmps54
  go_wp2
  go_ret
  exact ⟨rfl, rfl⟩
set_option maxRecDepth 100000 in
set_option maxHeartbeats 2000000 in
theorem implIsGauge_yes (A0 A1 : Option Addr) (n m c d : Nat) (ts ls : List Int) (w : World) (G : GaOk ts ls) (r0 : Rd w A0 n (ints ts)) (r1 : Rd w A1 m (ints ls)) :
    Calls Try.prog 27 #[.agg #[.slice A0 n c, .slice A1 m d]] w fun e w' => e = .returned (.bool true) ∧ Below w.heap.size w w' := by
  have K0 := Blk.new w 26 #[.slice A0 n c, .slice A1 m d]
  have b0 : Below w.heap.size w (w.alloc (.cells #[.slice A0 n c, .slice A1 m d] 26)) := (Below.refl _ _).alloc (Nat.le_refl _) _
  have l0 := r0.len
  have l1 := r1.len
  have g0 := G.n0; have g1 := G.n1; have ge := G.eq
  obtain rfl : n = m := by omega
  have q0 : inR (n : Int) 1 40 = true := inR_mk (by omega) (by omega)
  have HR := Lib.hid G.ris
  have HV := Lib.hid G.lev
  clear G l0 l1 ge g0
  have hn40 : n ≤ 40 := by have := inR_true q0; omega
  clear g1
  go_enter Try.func27, Try.ntmps27
  go_upto_region 1 with fail
  generalize w.alloc (.cells #[.slice A0 n c, .slice A1 n d] 26) = w1 at K0 b0 ⊢
  have e0 := fun o => K0.cell o
  have g0 := K0.lt
  go_wp2_with fail
  refine (lenG_any _ _ _ _ (by omega)).mono ?_
  rintro e w' ⟨rfl, rfl⟩
  go_wp2_with fail
  refine (within_any _ _ _ _).mono ?_
  rintro e w' ⟨rfl, rfl⟩
  go_wp2_with fail
  refine (isRising_any _ _ _ ts _ _ (by omega) (r0.below b0)).mono ?_
  rw [HR.out]
  rintro e w2 ⟨rfl, b2⟩
  have b3 := b0.trans (b2.mono b0.size)
  replace K0 := K0.below b2 g0
  replace e0 := fun o => K0.cell o
  replace g0 := K0.lt
  clear b2
  go_wp2_with fail
  refine (areWithin_any _ _ _ ls _ _ _ (by omega) (r1.below b3)).mono ?_
  rw [HV.out]
  rintro e w' ⟨rfl, rfl⟩
  go_wp2
  go_ret
  exact ⟨rfl, b3⟩

def lvLo (ts ls : List Int) (t : Int) : Int := if levC ts t = 0 then levLo ts ls t else 0
def lvHi (ts ls : List Int) (t : Int) : Int := if levC ts t = 0 then levHi ts ls t else 0
set_option maxRecDepth 100000 in
set_option maxHeartbeats 4000000 in
theorem levelAt_any (A0 A1 : Option Addr) (n c d : Nat) (ts ls : List Int) (t : Int) (w : World) (G : GaOk ts ls) (r0 : Rd w A0 n (ints ts)) (r1 : Rd w A1 n (ints ls)) (ht0 : 0 ≤ t) (ht1 : t ≤ 1000000) :
    Calls Try.prog 86 #[.agg #[.slice A0 n c, .slice A1 n d], .int .i64 t] w fun e w' => e = .returned (.tuple #[.agg #[.int .i64 (lvLo ts ls t), .int .i64 (lvHi ts ls t)], .int .i64 (levC ts t)]) ∧ Below w.heap.size w w' := by
  have K2 := (Blk.new w 26 #[.slice A0 n c, .slice A1 n d]).alloc (.cells #[.int .i64 0, .int .i64 0] 106)
  have K4 := Blk.newN (g := w.heap.size + 1) (w.alloc (.cells #[.slice A0 n c, .slice A1 n d] 26)) 106 #[.int .i64 0, .int .i64 0] (by simp)
  have b0 : Below w.heap.size w ((w.alloc (.cells #[.slice A0 n c, .slice A1 n d] 26)).alloc (.cells #[.int .i64 0, .int .i64 0] 106)) := (by (repeat (first | (with_reducible assumption) | (with_reducible exact Below.refl _ _) | (with_reducible refine Below.drew ?_) | (with_reducible refine Below.drewN ?_ _) | (with_reducible refine Below.setCell ?_ ?_ _) | (with_reducible refine Below.alloc ?_ ?_ _) | assumption)); all_goals (first | omega | (simp; done) | (simp; omega)))
  have l0 : ts.length = n := r0.len
  have hR := ris_of G.ris
  have n0 := G.n0
  have n1 : n ≤ 40 := by have := G.n1; omega
  have HG := Lib.hid G
  have hin : inR t 0 1000000 = true := inR_mk ht0 ht1
  go_enter Try.func86, Try.ntmps86
  go_upto_region 1 with fail
  generalize (w.alloc (.cells #[.slice A0 n c, .slice A1 n d] 26)).alloc (.cells #[.int .i64 0, .int .i64 0] 106) = w1 at K2 K4 b0 ⊢
  have g2 := K2.lt
  have g4 := K4.lt
  have e2 := fun o => K2.cell o
  go_wp2_with fail
  refine (binSearch_any _ _ _ ts t _ (by omega) (r0.below b0) hR).mono ?_
  rintro e w2 ⟨rfl, b2⟩
  replace K2 := K2.below b2 g2
  replace K4 := K4.below b2 g4
  replace b0 := b0.trans (b2.mono b0.size)
  replace g2 := K2.lt
  replace g4 := K4.lt
  replace e2 := fun o => K2.cell o
  have e4 := fun o => K4.cell o
  have f4 := fun o => K4.frozen o
  clear b2
  have hcl := cutN_le ts t
  have FND := fun h h2 => lev_found (t := t) hR h h2
  have OUT := lev_out (t := t) hR n0
  have MID := fun h h2 => lev_mid (t := t) hR h h2
  rw [l0] at hcl FND OUT MID
  have HF : Hid (∀ h : cutN ts t < n, ts.getD (cutN ts t) 0 = t → levC ts t = 0) := FND
  have HO : Hid ((cutN ts t = 0 ∧ ¬ ts.getD 0 0 = t) ∨ cutN ts t = n → levC ts t = 4) := OUT
  have HM : Hid (cutN ts t ≠ 0 → cutN ts t < n → levC ts t = 0) := MID
  have HLo : Hid (levLo ts ls t = if ts.getD (cutN ts t) 0 = t then ls.getD (cutN ts t) 0 else ls.getD (cutN ts t - 1) 0 + (ls.getD (cutN ts t) 0 - ls.getD (cutN ts t - 1) 0) * (t - ts.getD (cutN ts t - 1) 0) / (ts.getD (cutN ts t) 0 - ts.getD (cutN ts t - 1) 0)) := rfl
  have HHi : Hid (levHi ts ls t = if ts.getD (cutN ts t) 0 = t then ls.getD (cutN ts t) 0 else ls.getD (cutN ts t - 1) 0 + -(-((ls.getD (cutN ts t) 0 - ls.getD (cutN ts t - 1) 0) * (t - ts.getD (cutN ts t - 1) 0)) / (ts.getD (cutN ts t) 0 - ts.getD (cutN ts t - 1) 0))) := rfl
  have HRIS := Lib.hid hR
  have HCF := Lib.hid (cut_facts (ts := ts) (t := t))
  clear FND OUT MID hR G n0
  generalize cutN ts t = i at *
  by_cases hi : i < n
  · obtain ⟨ad, rfl, hx⟩ := (r0.below b0).int hi
    obtain ⟨bd, rfl, hy⟩ := (r1.below b0).int hi
    by_cases he : ts.getD i 0 = t
    · have HC : Hid (levC ts t = 0) := HF.out hi he
      have HV : Hid (lvLo ts ls t = ls.getD i 0 ∧ lvHi ts ls t = ls.getD i 0) := by unfold Hid lvLo lvHi; rw [HC.out, if_pos rfl, if_pos rfl, HLo.out, HHi.out, if_pos he, if_pos he]; exact ⟨rfl, rfl⟩
      have hd1 : decide (i < n) = true := decide_eq_true hi
      have hd2 : decide (ts.getD i 0 = t) = true := decide_eq_true he
      rw [hd1, hd2]
      generalize ls.getD i 0 = y at *
      clear hx hd2 he HF HO HM HLo HHi
      go_wp2_with fail
      refine (within_any _ _ _ _).mono ?_
      rw [hin]
      rintro e w' ⟨rfl, rfl⟩
      go_wp2_with fail
      go_still_tail 11, (by kernel_rfl)
      have D4 : Blk w2.drew (w.heap.size + 1) 106 #[.int .i64 0, .int .i64 0] := K4
      have db : Below w.heap.size w w2.drew := Below.drew b0
      change wpList _ _ _ _ _ w2.drew
      clear e2 e4 f4 g2 g4
      generalize w2.drew = w3 at D4 db ⊢
      have e4 := fun o => D4.cell o
      have f4 := fun o => D4.frozen o
      have g4 := D4.lt
      go_wp2
      refine bodyPost_ret (v := .tuple #[.agg #[.int .i64 y, .int .i64 y], .int .i64 0]) (by simp [results, Try.results86, go_sem, e4, f4, g4]) rfl ⟨by rw [HV.out.1, HV.out.2, HC.out], ?_⟩
      repeat (first | with_reducible exact db | refine Below.setCell ?_ (by simp <;> omega) _)
    · have hd1 : decide (i < n) = true := decide_eq_true hi
      have hd2 : decide (ts.getD i 0 = t) = false := decide_eq_false he
      by_cases h0 : i = 0
      · have HC : Hid (levC ts t = 4) := HO.out (.inl ⟨h0, by rw [← h0]; exact he⟩)
        have HV : Hid (lvLo ts ls t = 0 ∧ lvHi ts ls t = 0) := by unfold Hid lvLo lvHi; rw [HC.out]; exact ⟨rfl, rfl⟩
        rw [hd1, hd2]
        clear hx hy hd2 he HF HO HM HLo HHi HCF
        subst h0
        go_wp2_with fail
        refine (within_any _ _ _ _).mono ?_
        rw [hin]
        rintro e w' ⟨rfl, rfl⟩
        go_wp2
        refine bodyPost_ret (v := .tuple #[.agg #[.int .i64 0, .int .i64 0], .int .i64 4]) (by simp [results, Try.results86, go_sem, e4, f4, g4]) rfl ⟨by rw [HV.out.1, HV.out.2, HC.out], ?_⟩
        repeat (first | with_reducible exact b0 | refine Below.setCell ?_ (by simp <;> omega) _)
      · obtain ⟨k, rfl⟩ : ∃ k, i = k + 1 := ⟨i - 1, by omega⟩
        have HC : Hid (levC ts t = 0) := HM.out h0 hi
        have HV : Hid (lvLo ts ls t = ls.getD k 0 + (ls.getD (k + 1) 0 - ls.getD k 0) * (t - ts.getD k 0) / (ts.getD (k + 1) 0 - ts.getD k 0) ∧ lvHi ts ls t = ls.getD k 0 + -(-((ls.getD (k + 1) 0 - ls.getD k 0) * (t - ts.getD k 0)) / (ts.getD (k + 1) 0 - ts.getD k 0))) := by
          have a := HLo.out
          have b := HHi.out
          rw [if_neg he, Nat.add_sub_cancel] at a b
          unfold Hid lvLo lvHi
          rw [HC.out, if_pos rfl, if_pos rfl, a, b]
          exact ⟨rfl, rfl⟩
        obtain ⟨_, ⟨⟩, hx0⟩ := (r0.below b0).int (show k < n by omega)
        obtain ⟨_, ⟨⟩, hy0⟩ := (r1.below b0).int (show k < n by omega)
        have hz := HRIS.out k (k + 1) (by omega) (by rw [l0]; exact hi)
        have hA := HG.out.tm (k := k) (by rw [l0]; omega)
        have hB := HG.out.tm (k := k + 1) (by rw [l0]; exact hi)
        have hC := HG.out.lv (k := k) (by rw [l0]; omega)
        have hD := HG.out.lv (k := k + 1) (by rw [l0]; exact hi)
        rw [hd1, hd2]
        clear hd2 he HF HO HM HLo HHi HCF
        generalize ts.getD k 0 = tA at *
        generalize ts.getD (k + 1) 0 = tB at *
        generalize ls.getD k 0 = lA at *
        generalize ls.getD (k + 1) 0 = lB at *
        have hp := mul_bd (a := lB - lA) (b := t - tA) (A := 4000) (B := 1000000) (by omega) (by omega) (by omega) (by omega)
        obtain ⟨by_, hby⟩ : ∃ b, (lB - lA) * (t - tA) = b := ⟨_, rfl⟩
        rw [hby] at hp HV
        have hkI : (k : Int) + 1 < (n : Int) := by omega
        have hkI2 : ¬ ((k : Int) + 1 = (n : Int)) := by omega
        have hkI3 : ¬ ((k : Int) + 1 = 0) := by omega
        have hk0 : (0 : Int) ≤ (k : Int) := by omega
        have hk1 : (k : Int) < (n : Int) := by omega
        have hk2 : (0 : Int) ≤ (k : Int) + 1 := by omega
        have hk3 : ((k : Int) + 1).toNat = k + 1 := by omega
        have hk4 : k < n := by omega
        rw [field_add ad (k + 1) (by omega)] at hx
        rw [field_add bd (k + 1) (by omega)] at hy
        have w1 : IntKind.i64.wrap (k : Int) = k := IntWalk.i64_in _ (by omega)
        have w2' : IntKind.i64.wrap (tB - tA) = tB - tA := IntWalk.i64_in _ (by omega)
        have w3' : IntKind.i64.wrap (lB - lA) = lB - lA := IntWalk.i64_in _ (by omega)
        have w4' : IntKind.i64.wrap (t - tA) = t - tA := IntWalk.i64_in _ (by omega)
        have w5' : IntKind.i64.wrap by_ = by_ := IntWalk.i64_in _ (by omega)
        have hkB : ((k : Int) + 1 == 0) = false := by rw [beq_eq_false_iff_ne]; omega
        have hkB2 : ((k : Int) + 1 == (n : Int)) = false := by rw [beq_eq_false_iff_ne]; omega
        go_wp2_with fail
        refine (within_any _ _ _ _).mono ?_
        rw [hin]
        rintro e w' ⟨rfl, rfl⟩
        go_wp2_with fail
        go_quiet (fail)
        revert nq; intro nq1
        go_wp2_with fail
        go_quiet (fail)
        revert nq; intro nq2
        have qb := ediv_bd (a := by_) (b := tB - tA) (by omega) (by omega) (by omega)
        have qc := ediv_bd (a := -by_) (b := tB - tA) (by omega) (by omega) (by omega)
        go_wp2_with fail
        refine (floorDiv_any by_ (tB - tA) _ (by omega) (by omega) (by omega) (by omega)).mono ?_
        rintro e w' ⟨rfl, rfl⟩
        go_wp2_with fail
        refine (ceilDiv_any by_ (tB - tA) _ (by omega) (by omega) (by omega) (by omega)).mono ?_
        rintro e w' ⟨rfl, rfl⟩
        have D4 : Blk (w2.drewN (nq1 + nq2)) (w.heap.size + 1) 106 #[.int .i64 0, .int .i64 0] := K4
        have db : Below w.heap.size w (w2.drewN (nq1 + nq2)) := Below.drewN b0 _
        clear e2 e4 f4 g2 g4 hx hy hx0 hy0 hby
        generalize w2.drewN (nq1 + nq2) = w3 at D4 db ⊢
        have e4 := fun o => D4.cell o
        have f4 := fun o => D4.frozen o
        have g4 := D4.lt
        go_wp2
        refine bodyPost_ret (v := .tuple #[.agg #[.int .i64 (lA + by_ / (tB - tA)), .int .i64 (lA + -(-by_ / (tB - tA)))], .int .i64 0]) (by simp [results, Try.results86, go_sem, e4, f4, g4]) rfl ⟨by rw [HV.out.1, HV.out.2, HC.out], ?_⟩
        repeat (first | with_reducible exact db | refine Below.setCell ?_ (by simp <;> omega) _)
  · obtain rfl : n = i := by omega
    have HC : Hid (levC ts t = 4) := HO.out (.inr rfl)
    have HV : Hid (lvLo ts ls t = 0 ∧ lvHi ts ls t = 0) := by unfold Hid lvLo lvHi; rw [HC.out]; exact ⟨rfl, rfl⟩
    have hd1 : decide (n < n) = false := decide_eq_false (Nat.lt_irrefl _)
    have hnB : ((n : Int) == 0) = false := by rw [beq_eq_false_iff_ne]; have := HG.out.n0; omega
    rw [hd1, Bool.false_and]
    clear HF HO HM HLo HHi HCF hd1
    go_wp2_with fail
    refine (within_any _ _ _ _).mono ?_
    rw [hin]
    rintro e w' ⟨rfl, rfl⟩
    go_wp2
    refine bodyPost_ret (v := .tuple #[.agg #[.int .i64 (0), .int .i64 (0)], .int .i64 4]) (by simp [results, Try.results86, go_sem, e4, f4, g4]) rfl ⟨by rw [HV.out.1, HV.out.2, HC.out], ?_⟩
    repeat (first | with_reducible exact b0 | refine Below.setCell ?_ (by simp <;> omega) _)
end Go.Proofs.Ytphpjmkebnadoaa
