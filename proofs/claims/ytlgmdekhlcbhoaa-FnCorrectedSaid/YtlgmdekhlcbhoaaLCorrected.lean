/- The law FnCorrected, walked. No condition beyond what an argument of its type bears. -/
import Derived.Test.YtlgmdekhlcbhoaaDrawQ
import Derived.Test.YtlgmdekhlcbhoaaProp
import Derived.Test.YtlgmdekhlcbhoaaLike
import Derived.Test.YtlgmdekhlcbhoaaDiceL
namespace Go.Proofs.Ytlgmdekhlcbhoaa
open Go.RowKit

set_option maxRecDepth 100000 in
set_option maxHeartbeats 4000000 in
theorem FnCorrected_walk (w : World) (A : Option Addr) (n c : Nat) (zs : List Int) (G : ArgB w A n c zs) :
    Calls Try.prog 11 #[.slice A n c] w fun e w' => e = .returned (.bool true) ∧ Below w.heap.size w w' := by
  have hmx := G.max
  by_cases hb : (4096 : Int) < (n : Int)
  · go_enter Try.func11, Try.ntmps11
    go_wp2_with (go_at_call 34; refine (big_any _ _ _ _ (by omega)).mono ?_; rintro e w' ⟨rfl, rfl⟩)
    go_ret
    exact ⟨rfl, Below.refl _ _⟩
  have hbd : decide ((4096 : Int) < (n : Int)) = false := by simpa using hb
  have hn4 : n ≤ 4096 := by omega
  go_enter Try.func11, Try.ntmps11
  go_wp2_with fail
  refine (big_any _ _ _ _ (by omega)).mono ?_
  rintro e w' ⟨rfl, rfl⟩
  go_wp2_with fail
  refine (drawEncodeBits_any A n c zs _ G.rd G.byte hn4).mono ?_
  rintro e w1 ⟨⟨A0, n0, c0⟩, xs, rfl, hn0, O0, b1⟩
  have R0 : Rd w1 A0 n0 (ints xs) := O0.rd1
  simp only at hn0
  clear hbd hb O0
  go_wp2_with fail
  refine (implEncodeBits_any A0 n0 c0 xs _ (by omega) R0).mono ?_
  rintro e w2 ⟨B1, m1, d1, rfl, R1, -, hm1, b2, -⟩
  have R0 := R0.below b2
  have b2 := bnext b1 b2
  clear b1
  go_wp2_with fail
  refine (drawCountNearest_any A n c zs _ (G.rd.below b2) G.byte hn4).mono ?_
  rintro e w3 ⟨⟨A3, n3, c3⟩, us, rfl, hn3, O3, b3⟩
  have R0 := R0.below b3
  have R1 := R1.below b3
  have R3 : Rd w3 A3 n3 (ints us) := O3.rd1
  have b3 := bnext b2 b3
  clear b2
  simp only at hn3
  have hc3 : n3 ≤ c3 := O3.nc
  clear O3
  go_wp2_with fail
  refine (implCountNearest_any A3 n3 c3 us _ (by omega) hc3 R3).mono ?_
  rintro e w4 ⟨rfl, b4⟩
  have R0 := R0.below b4
  have R1 := R1.below b4
  have R3 := R3.below b4
  have b4 := bnext b3 b4
  clear b3
  go_wp2_with fail
  refine (specCountNearest_any A3 n3 c3 us _ (by omega) hc3 R3).mono ?_
  rintro e w5 ⟨rfl, b5⟩
  have R0 := R0.below b5
  have R1 := R1.below b5
  have R3 := R3.below b5
  have b5 := bnext b4 b5
  clear b4
  go_wp2_with fail
  refine (implIsSingle_any A3 n3 c3 us _ (by omega) hc3 R3).mono ?_
  rintro e w6 ⟨rfl, b6⟩
  have R0 := R0.below b6
  have R1 := R1.below b6
  have R3 := R3.below b6
  have b6 := bnext b5 b6
  clear b5
  go_wp2_with fail
  refine (specIsSingle_any A3 n3 c3 us _ (by omega) hc3 R3).mono ?_
  rintro e w7 ⟨rfl, b7⟩
  have R0 := R0.below b7
  have R1 := R1.below b7
  have R3 := R3.below b7
  have b7 := bnext b6 b7
  clear b6
  clear R3
  go_wp2_with fail
  refine (specEncodeBits_any A0 n0 c0 xs _ (by omega) R0).mono ?_
  rintro e w8 ⟨B2, m2, d2, rfl, R2, -, hm2, b8, -⟩
  have R0 := R0.below b8
  have R1 := R1.below b8
  have b8 := bnext b7 b8
  clear b7
  obtain rfl : m2 = m1 := R2.1.symm.trans R1.1
  have HN := Lib.hid R0.len
  have HF : Hid (recvC us = 0 → 1 ≤ cntN us ∧ sglB us = (cntN us == 1)) := count_law
  have HX : Hid (msgC xs = 0 → encR xs = enc xs ∧ allIn xs 0 1 = true ∧ m2 = 2 * (n0 + 2)) := fun h => by
    have hok := msgC_zero h
    have he : encR xs = enc xs := by unfold encR; rw [if_pos hok]
    refine ⟨he, (okList_true hok).2, ?_⟩
    have := R1.len
    rw [he, enc_length, HN.out] at this
    exact this.symm
  have HL2 : Hid (∀ ws : List Int, msgC xs = 0 → ws.length = (enc xs).length → allIn ws 0 1 = true → errs ws (enc xs) ≤ 2 → decR ws = xs ∧ recvC ws = 0 ∧ sglB ws = true) := fun ws h1 h2 h3 h4 => corrected_law h1 h2 h3 h4
  generalize cntN us = cn at *
  generalize sglB us = sb at *
  generalize recvC us = ru at *
  generalize encR xs = er at *
  generalize msgC xs = mc at *
  go_upto_region 11 with fail
  go_cut [104] (fun cv wx => cv = .bool false ∧ Below w8.heap.size w8 wx)
  case first =>
    by_cases hru : ru = 0
    · subst hru
      obtain ⟨h1, hsb⟩ := HF.out rfl
      have h2 : ¬ cn < 1 := by omega
      have f3 : decide (cn < 1) = false := decide_eq_false h2
      by_cases hcn : cn = 1
      · subst hcn
        obtain rfl : sb = true := hsb
        try clear hsb
        go_wp2_with (refine (likeInts_below _ _ _ _ _ er _ (by omega) R1 R2).mono ?_; rintro e wz ⟨rfl, bz⟩)
        go_meet
        exact ⟨rfl, bz⟩
      · have f1 : (cn == 1) = false := by simpa using hcn
        obtain rfl : sb = false := hsb.trans f1
        try clear hsb
        go_wp2_with (refine (likeInts_below _ _ _ _ _ er _ (by omega) R1 R2).mono ?_; rintro e wz ⟨rfl, bz⟩)
        go_meet
        exact ⟨rfl, bz⟩
    · have f1 : (ru == 0) = false := by simpa using hru
      clear hru
      go_wp2_with (refine (likeInts_below _ _ _ _ _ er _ (by omega) R1 R2).mono ?_; rintro e wz ⟨rfl, bz⟩)
      go_meet
      exact ⟨rfl, bz⟩
  case rest =>
    obtain ⟨rfl, bx⟩ := hcut
    obtain ⟨wx, rfl⟩ : ∃ x : World, x = wc := ⟨_, rfl⟩
    have R0 := R0.below bx
    have R1 := R1.below bx
    have bx := bnext b8 bx
    clear b8 R2 HF
    by_cases hq : mc = 0
    case neg =>
      have g1 : (mc == 0) = false := by simpa using hq
      have g2 : (mc != 0) = true := by simpa using hq
      clear hq
      go_wp2
      go_ret
      exact ⟨rfl, bx⟩
    obtain ⟨hxe, hxb, hm2e⟩ := HX.out hq
    subst hq
    subst hxe hm2e
    have HXB := Lib.hid hxb
    clear HX hxb
    have HEB : Hid (allIn (enc xs) 0 1 = true) := codeTo_bits HXB.out _
    have HEL : Hid ((enc xs).length = 2 * (n0 + 2)) := by unfold Hid; rw [enc_length, HN.out]
    generalize hys : enc xs = ys at *
    clear hys
    go_wp2_with fail
    refine (roll_any A n c zs 2801 _ (G.rd.below bx) G.byte hn4 (by decide) (by decide)).mono ?_
    rintro e wd ⟨g, rfl, D, bd⟩
    have D0 := LstD.start D 2
    go_wp2_with (at_builtin; refine wpList_pushD rfl _ _ rfl wd _ g _ [] ys D0 rfl B1 (2 * (n0 + 2)) d1 rfl (D0.keep bd R1) (by simp only; omega) ?_; intro H wl hHn LH)
    simp only [List.nil_append, Nat.zero_add] at LH hHn
    have LH2 := LH.cast hHn
    clear D0 LH hHn
    generalize H.A = HA at *
    generalize H.c = Hc at *
    clear H
    refine (below_any _ g 3 _ LH2.dice (by decide) (by decide)).mono ?_
    rintro e w5 ⟨q, rfl, q0, q1, g5, S5⟩
    have L5 := LH2.next g5 S5
    clear LH2 g5 S5
    obtain ⟨q, rfl⟩ := Int.eq_ofNat_of_zero_le q0
    go_wp2_with fail
    go_loopw [19] (fun i wr => ∃ (ws : List Int) (j : Nat), i = .int .i64 j ∧ j ≤ 2 ∧ allIn ws 0 1 = true ∧ errs ws ys + j ≤ 2 ∧ LstD wd wr wx.heap.size g ⟨HA, 2 * (n0 + 2), Hc⟩ ws) (fun i _ => (intOf i).toNat)
    case atStart => exact ⟨ys, q, rfl, by omega, HEB.out, by rw [errs_self]; omega, L5⟩
    case round =>
      clear L5 q0 q1
      obtain ⟨ws, j, rfl, hj2, hwb, hwe, Lx⟩ := hrel
      have HW := Lib.hid (And.intro hwb hwe)
      clear hwb hwe
      by_cases hj0 : 0 < (j : Int)
      · go_wp2_with fail
        refine (below_any _ g _ _ Lx.dice (by omega) (by omega)).mono ?_
        rintro e w7 ⟨t, rfl, t0, t1, g7, S7⟩
        have L7 := Lx.next g7 S7
        clear Lx g7 S7
        obtain ⟨t, rfl⟩ := Int.eq_ofNat_of_zero_le t0
        have ht : t < 2 * (n0 + 2) := by omega
        obtain ⟨ad, hA, hx, hf⟩ := L7.own.cell ht
        have hL := fun v => Lib.hid (L7.set_ ht hA v)
        have hbt := getD_bit HW.out.1 t
        have HB2 : Hid (allIn (ws.set t (1 - ws.getD t 0)) 0 1 = true) := allIn_set HW.out.1 t (by omega) (by omega)
        have HE2 := Lib.hid (errs_set ws ys t (1 - ws.getD t 0))
        simp only at hA
        subst hA
        have i0 : (0 : Int) ≤ (t : Int) := by omega
        have i1 : (t : Int) < 2 * ((n0 : Int) + 2) := by omega
        clear L7 t0 t1
        generalize ws.getD t 0 = x at *
        go_wp2
        go_roundw
        case rel => exact ⟨_, j - 1, by congr 1; omega, by omega, HB2.out, by have := HE2.out; have := HW.out.2; omega, (hL _).out⟩
        case measure => simp [intOf]; omega
      · have F := HL2.out ws (by first | rfl | trivial) (by rw [HEL.out]; exact Lx.own.rd1.len) HW.out.1 (by have := HW.out.2; omega)
        have hHc : 2 * (n0 + 2) ≤ Hc := Lx.own.nc
        have RW : Rd wr HA (2 * (n0 + 2)) (ints ws) := Lx.own.rd1
        have R0 := Lx.keep bd R0
        have bw := bnext bx (Lx.bel bd)
        have HD : Hid (∀ W, Rd W HA (2 * (n0 + 2)) (ints ws) → Calls Try.prog 63 #[.slice HA (2 * (n0 + 2)) Hc] W (RetIIC xs (decN ws) 0 W)) := fun W h => by
          have := implDecodeBits_any HA (2 * (n0 + 2)) Hc ws W (by omega) hHc h
          rw [F.1, F.2.1] at this
          exact this
        have HS : Hid (∀ W, Rd W HA (2 * (n0 + 2)) (ints ws) → Calls Try.prog 58 #[.slice HA (2 * (n0 + 2)) Hc] W (fun e w' => e = .returned (.tuple #[.bool true, .int .i64 0]) ∧ Below W.heap.size W w')) := fun W h => by
          have := implIsSingle_any HA (2 * (n0 + 2)) Hc ws W (by omega) hHc h
          rw [F.2.1, F.2.2] at this
          exact this
        clear F Lx
        generalize decN ws = dn at *
        go_wp2_with fail
        refine (HD.out _ RW).mono ?_
        rintro e wa ⟨C1, l1, e1, rfl, S1, -, hl1, ba⟩
        have R0 := R0.below ba
        have RW := RW.below ba
        have ba := bnext bw ba
        go_wp2_with fail
        refine (HS.out _ RW).mono ?_
        rintro e wb ⟨rfl, bb⟩
        have R0 := R0.below bb
        have S1 := S1.below bb
        have bb := bnext ba bb
        obtain rfl : l1 = n0 := S1.1.symm.trans R0.1
        go_wp2_with fail
        refine (likeInts_below _ _ _ _ _ xs _ (by omega) S1 R0).mono ?_
        rintro e wf ⟨rfl, bf⟩
        go_wp2
        go_ret
        exact ⟨rfl, bnext bb bf⟩
end Go.Proofs.Ytlgmdekhlcbhoaa
