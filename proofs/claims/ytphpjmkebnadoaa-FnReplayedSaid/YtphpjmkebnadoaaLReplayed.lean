/- The law FnReplayed, walked. No condition beyond what an argument of its type bears. -/
import Derived.Test.YtphpjmkebnadoaaDrL
import Derived.Test.YtphpjmkebnadoaaRepP
import Derived.Test.YtphpjmkebnadoaaRepL
import Derived.Test.YtphpjmkebnadoaaArgB
namespace Go.Proofs.Ytphpjmkebnadoaa
open Go.RowKit

set_option maxRecDepth 100000 in
set_option maxHeartbeats 4000000 in
theorem FnReplayed_walk (w : World) (A : Option Addr) (n c : Nat) (zs : List Int) (G : ArgB w A n c zs) :
    Calls Try.prog 5 #[.slice A n c] w fun e w' => e = .returned (.bool true) ∧ Below w.heap.size w w' := by
  have hmx := G.max
  by_cases hb : (4096 : Int) < (n : Int)
  · go_enter Try.func5, Try.ntmps5
    go_wp2_with (go_at_call 22; refine (big_any _ _ _ _ (by omega)).mono ?_; rintro e w' ⟨rfl, rfl⟩)
    go_ret
    exact ⟨rfl, Below.refl _ _⟩
  have hbd : decide ((4096 : Int) < (n : Int)) = false := by simpa using hb
  have hn4 : n ≤ 4096 := by omega
  go_enter Try.func5, Try.ntmps5
  go_wp2_with fail
  refine (big_any _ _ _ _ (by omega)).mono ?_
  rintro e w' ⟨rfl, rfl⟩
  go_wp2_with fail
  refine (drawReplayLog_any A n c zs _ G.rd G.byte hn4).mono ?_
  rintro e w1 ⟨⟨LA, m, lc⟩, xs, rfl, hm60, hmc, R, b1⟩
  simp only at hm60 hmc R
  clear hbd hb G
  go_wp2_with fail
  refine (implReplay_any LA m lc xs _ (by omega) hmc R).mono ?_
  rintro e w2 ⟨⟨A1, n1, c1⟩, rfl, h1, R1, -, b2⟩
  replace R := R.below b2
  replace b2 := bnext b1 b2
  clear b1
  simp only at h1 R1
  go_wp2_with fail
  refine (specReplay_any LA m lc xs _ (by omega) R).mono ?_
  rintro e w3 ⟨⟨A2, n2, c2⟩, rfl, h2, R2, -, b3⟩
  replace R := R.below b3
  replace R1 := R1.below b3
  replace b3 := bnext b2 b3
  clear b2
  simp only at h2 R2
  go_wp2_with fail
  refine (implGauge_any LA m lc xs _ (by omega) hmc R).mono ?_
  rintro e w4 ⟨⟨⟨TA, tn, tc⟩, ⟨VA, vn, vc⟩⟩, rfl, ok4, R4, -, -, b4⟩
  replace R := R.below b4
  replace R1 := R1.below b4
  replace R2 := R2.below b4
  replace b4 := bnext b3 b4
  clear b3
  unfold GaugeV
  simp only
  go_wp2_with fail
  have K4 := Blk.new w4 26 #[.slice TA tn tc, .slice VA vn vc]
  have b5 : Below w4.heap.size w4 (w4.alloc (.cells #[.slice TA tn tc, .slice VA vn vc] 26)) := (Below.refl _ _).alloc (Nat.le_refl _) _
  replace R := R.below b5
  replace R1 := R1.below b5
  replace R2 := R2.below b5
  replace R4 := R4.below b5
  replace b5 := bnext b4 b5
  clear b4
  generalize w4.alloc (.cells #[.slice TA tn tc, .slice VA vn vc] 26) = w5 at K4 R R1 R2 R4 b5 ⊢
  generalize w4.heap.size = g4 at K4 ⊢
  have q4 := K4.lt
  refine (specGauge_any LA m lc xs _ (by omega) R).mono ?_
  rintro e w6 ⟨⟨⟨TB, sn, sc⟩, ⟨VB, un, uc⟩⟩, rfl, ok6, R6, -, -, b6⟩
  replace R := R.below b6
  replace R1 := R1.below b6
  replace R2 := R2.below b6
  replace R4 := R4.below b6
  replace K4 := K4.below b6 q4
  replace q4 := K4.lt
  replace b6 := bnext b5 b6
  clear b5
  unfold GaugeV
  simp only
  go_upto_region 8 with fail
  have K6 := Blk.new w6 26 #[.slice TB sn sc, .slice VB un uc]
  have b7 : Below w6.heap.size w6 (w6.alloc (.cells #[.slice TB sn sc, .slice VB un uc] 26)) := (Below.refl _ _).alloc (Nat.le_refl _) _
  replace R := R.below b7
  replace R1 := R1.below b7
  replace R2 := R2.below b7
  replace R4 := R4.below b7
  replace R6 := R6.below b7
  replace K4 := K4.below b7 q4
  replace q4 := K4.lt
  replace b7 := bnext b6 b7
  clear b6
  generalize w6.alloc (.cells #[.slice TB sn sc, .slice VB un uc] 26) = w7 at K6 R R1 R2 R4 R6 K4 q4 b7 ⊢
  generalize w6.heap.size = g6 at K6 ⊢
  have q6 := K6.lt
  have c4 := fun o => K4.cell o
  have c6 := fun o => K6.cell o
  obtain rfl : n1 = n2 := by have a := R1.len; have b := R2.len; omega
  have RT4 : Rd w7 TA tn (ints (gaugeR xs m).times) := R4.head
  have RV4 : Rd w7 VA vn (ints (gaugeR xs m).levels) := R4.tail.head
  have RT6 : Rd w7 TB sn (ints (gaugeR xs m).times) := R6.head
  have RV6 : Rd w7 VB un (ints (gaugeR xs m).levels) := R6.tail.head
  obtain rfl : tn = sn := by have a := RT4.len; have b := RT6.len; omega
  obtain rfl : vn = un := by have a := RV4.len; have b := RV6.len; omega
  clear R4 R6
  unfold GaugeOk at ok4
  simp only at ok4
  obtain ⟨o4a, o4b⟩ := ok4
  obtain ⟨gc, hgc⟩ : ∃ x, gaugeC xs m = x := ⟨_, rfl⟩
  obtain ⟨rn, hrn⟩ : ∃ x, rpN xs m = x := ⟨_, rfl⟩
  have HGC := Lib.hid hgc
  have HRN := Lib.hid hrn
  rw [hgc, hrn]
  clear hgc hrn ok6
  go_wp2_with fail
  refine (likeSnds_same A1 A2 n1 c1 c2 _ _ (by omega) R1 R2).mono ?_
  rintro e w8 ⟨rfl, b8⟩
  replace R := R.below b8
  replace R1 := R1.below b8
  replace RT4 := RT4.below b8
  replace RV4 := RV4.below b8
  replace RT6 := RT6.below b8
  replace RV6 := RV6.below b8
  replace K4 := K4.below b8 q4
  replace q4 := K4.lt
  replace c4 := fun o => K4.cell o
  replace K6 := K6.below b8 q6
  replace c6 := fun o => K6.cell o
  replace b8 := bnext b7 b8
  clear b7 R2
  go_wp2_with fail
  refine (likeGauges_same TA VA TB VB tn vn tc vc sc uc _ _ _ (by omega) (by omega) RT4 RV4 RT6 RV6).mono ?_
  rintro e w9 ⟨rfl, b9⟩
  replace R := R.below b9
  replace R1 := R1.below b9
  replace RT4 := RT4.below b9
  replace RV4 := RV4.below b9
  replace K4 := K4.below b9 q4
  replace q4 := K4.lt
  replace c4 := fun o => K4.cell o
  replace b9 := bnext b8 b9
  clear b8 K6 c6 q6 RT6 RV6
  by_cases hz : gc = 0
  rotate_left
  · have hzb : (gc == 0) = false := by rw [beq_eq_false_iff_ne]; exact hz
    go_wp2
    go_ret
    exact ⟨rfl, b9⟩
  subst hz
  obtain ⟨hlog, hgr, GO⟩ := gauge_ok HGC.out
  have HREC := Lib.hid (logB_parts hlog).1
  have HGO := Lib.hid GO
  rw [hgr] at RT4 RV4
  simp only at RT4 RV4
  have HRPL : Hid (rpL xs m = repL (rpT xs m) (rpS xs m) xs m ∧ rpN xs m = (repN (rpT xs m) (rpS xs m) xs m : Int)) := by unfold Hid rpL rpN; rw [if_pos HGC.out, if_pos HGC.out]; exact ⟨rfl, rfl⟩
  have HHAS := Lib.hid (fun i (hi : i < m) hk => gTo_has xs m i hi hk)
  clear hlog hgr GO HGC
  go_wp2_with fail
  go_loopw [14, 15] (fun v14 v15 wr => ∃ k : Nat, k ≤ m ∧ v15 = .int .i64 k ∧ v14 = .int .i64 (cnt2 xs k : Nat) ∧ Below w9.heap.size w9 wr)
    (fun _ v15 _ => m - (intOf v15).toNat)
  case atStart => exact ⟨0, Nat.zero_le _, rfl, rfl, Below.refl _ _⟩
  case round =>
    obtain ⟨k, hk, rfl, rfl, hbw⟩ := hrel
    have KW := K4.below hbw q4
    have RTW := RT4.below hbw
    have qW := KW.lt
    have cW := fun o => KW.cell o
    clear c4
    have hcl := cnt2_le xs k
    by_cases hlt : k < m
    · have hltI : (k : Int) < (m : Int) := by omega
      have hlt0 : (0 : Int) ≤ (k : Int) := by omega
      obtain ⟨ad, rfl, d0, d1, -, -, -, -, -⟩ := (R.below hbw).seven hlt
      have HC2 : Hid (cnt2 xs (k + 1) = if recK xs k = 2 then cnt2 xs k + 1 else cnt2 xs k) := rfl
      have HT : Hid (recT xs k = xs.getD (k * 7) 0 ∧ recK xs k = xs.getD (k * 7 + 1) 0) := ⟨rfl, rfl⟩
      have HH := HHAS.out k hlt
      have HH2 : Hid (xs.getD (k * 7 + 1) 0 = 1 → xs.getD (k * 7) 0 ∈ fstL (gTo xs m)) := HH
      clear HH
      generalize xs.getD (k * 7) 0 = x0 at *
      generalize xs.getD (k * 7 + 1) 0 = x1 at *
      by_cases h2 : x1 = 2
      · subst h2
        have HC3 : Hid (cnt2 xs (k + 1) = cnt2 xs k + 1) := by show _ = _; rw [HC2.out, if_pos HT.out.2]
        generalize cnt2 xs k = cn at *
        have u1 : IntKind.i64.wrap ((cn : Int) + 1) = (cn : Int) + 1 := IntWalk.i64_in _ (by omega)
        go_wp2_with fail
        go_quiet (fail)
        revert nq; intro nq1
        go_wp2_with fail
        go_roundw
        case rel => exact ⟨k + 1, by omega, by go_num, by rw [HC3.out]; go_num, Below.drewN hbw _⟩
        case measure => simp [intOf]; omega
      have h2b : (x1 == 2) = false := by rw [beq_eq_false_iff_ne]; exact h2
      have HC3 : Hid (cnt2 xs (k + 1) = cnt2 xs k) := by show _ = _; rw [HC2.out, if_neg (fun e => h2 (by rw [← HT.out.2]; exact e))]
      generalize cnt2 xs k = cn at *
      by_cases h1 : x1 = 1
      · subst h1
        have hmem := HH2.out rfl
        have hH := fun j => hasInt_yes TA tn tc (fstL (gTo xs m)) x0 (wr.drewN j) (by omega) RTW hmem
        clear hmem HH2
        go_wp2_with fail
        go_quiet ((go_at_call 26; with_reducible exact q_left (hH _)))
        revert nq; intro nq1
        go_wp2_with fail
        go_roundw
        case rel => exact ⟨k + 1, by omega, by go_num, by rw [HC3.out], Below.drewN hbw _⟩
        case measure => simp [intOf]; omega
      · have h1b : (x1 == 1) = false := by rw [beq_eq_false_iff_ne]; exact h1
        have h1d : decide (x1 = 1) = false := decide_eq_false h1
        go_wp2_with fail
        go_quiet (fail)
        revert nq; intro nq1
        go_wp2_with fail
        go_roundw
        case rel => exact ⟨k + 1, by omega, by go_num, by rw [HC3.out], Below.drewN hbw _⟩
        case measure => simp [intOf]; omega
    · obtain rfl : m = k := by omega
      have RVW := RV4.below hbw
      have R1W := R1.below hbw
      have hbe := bnext b9 hbw
      obtain ⟨mm, hmm, hsou⟩ := rep_sou (rpT xs m) (rpS xs m) xs m
      rw [HRPL.out.1] at R1W
      have hn1 : n1 = mm := by have a := R1W.len; omega
      subst hn1
      have hct := rep_count (rpT xs m) (rpS xs m) xs m
      have HS := Lib.hid hsou
      have hsum : (n1 : Int) + rn = (cnt2 xs m : Int) := by have a := HRN.out; rw [HRPL.out.2] at a; omega
      have HTL : tn = vn := by have a := RTW.len; have b := RVW.len; rw [fstL_len] at a; rw [sndL_len] at b; omega
      subst HTL
      clear hsou hmm hct R1 RT4 RV4 R HRN HHAS
      generalize cnt2 xs m = cn at *
      have u1 : IntKind.i64.wrap ((n1 : Int) + rn) = (n1 : Int) + rn := IntWalk.i64_in _ (by omega)
      have hsb : ((n1 : Int) + rn == (cn : Int)) = true := by rw [beq_iff_eq]; exact hsum
      go_wp2_with fail
      refine (implIsGauge_yes TA VA tn tn tc vc _ _ _ HGO.out RTW RVW).mono ?_
      rintro e we ⟨rfl, be⟩
      replace R1W := R1W.below be
      replace hbe := bnext hbe be
      go_wp2_with fail
      refine (areSoundings_yes A1 n1 c1 _ _ (by omega) R1W HS.out).mono ?_
      rintro e wf ⟨rfl, bf⟩
      have hbf := bnext hbe bf
      go_wp2
      go_ret
      exact ⟨ret_bool (by first | rfl | exact hsb | simp [hsum]), hbf⟩
end Go.Proofs.Ytphpjmkebnadoaa
