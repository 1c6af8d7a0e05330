/- The law FnStates, walked. No condition beyond what an argument of its type bears. -/
import Derived.Test.YtlgmdekhlcbhoaaDrawQ
import Derived.Test.YtlgmdekhlcbhoaaProp
import Derived.Test.YtlgmdekhlcbhoaaLike
import Derived.Test.YtlgmdekhlcbhoaaDiceL
namespace Go.Proofs.Ytlgmdekhlcbhoaa
open Go.RowKit

set_option maxRecDepth 100000 in
set_option maxHeartbeats 4000000 in
theorem FnStates_walk (w : World) (A : Option Addr) (n c : Nat) (zs : List Int) (G : ArgB w A n c zs) :
    Calls Try.prog 14 #[.slice A n c] w fun e w' => e = .returned (.bool true) ∧ Below w.heap.size w w' := by
  have hmx := G.max
  by_cases hb : (4096 : Int) < (n : Int)
  · go_enter Try.func14, Try.ntmps14
    go_wp2_with (go_at_call 34; refine (big_any _ _ _ _ (by omega)).mono ?_; rintro e w' ⟨rfl, rfl⟩)
    go_ret
    exact ⟨rfl, Below.refl _ _⟩
  have hbd : decide ((4096 : Int) < (n : Int)) = false := by simpa using hb
  have hn4 : n ≤ 4096 := by omega
  go_enter Try.func14, Try.ntmps14
  go_wp2_with fail
  refine (big_any _ _ _ _ (by omega)).mono ?_
  rintro e w' ⟨rfl, rfl⟩
  go_wp2_with fail
  refine (drawStateErrors_any A n c zs _ G.rd G.byte hn4).mono ?_
  rintro e w1 ⟨⟨A0, n0, c0⟩, xs, k0, rfl, hn0, hk0, hk1, O0, b1⟩
  have R0 : Rd w1 A0 n0 (ints xs) := O0.rd1
  simp only at hn0
  have hc0 : n0 ≤ c0 := O0.nc
  clear hbd hb O0
  go_wp2_with fail
  refine (implStateErrors_any A0 n0 c0 xs k0 _ (by omega) hc0 R0).mono ?_
  rintro e w2 ⟨B1, m1, d1, rfl, R1, -, hm1, b2⟩
  have R0 := R0.below b2
  have b2 := bnext b1 b2
  clear b1
  go_wp2_with fail
  refine (specStateErrors_any A0 n0 c0 xs k0 _ (by omega) hc0 R0).mono ?_
  rintro e w3 ⟨B2, m2, d2, rfl, R2, -, hm2, b3⟩
  have R0 := R0.below b3
  have R1 := R1.below b3
  have b3 := bnext b2 b3
  clear b2
  go_wp2_with fail
  refine (drawNearestCode_any A n c zs _ (G.rd.below b3) G.byte hn4).mono ?_
  rintro e w4 ⟨⟨A3, n3, c3⟩, us, rfl, hn3, O3, b4⟩
  have R0 := R0.below b4
  have R1 := R1.below b4
  have R2 := R2.below b4
  have R3 : Rd w4 A3 n3 (ints us) := O3.rd1
  have b4 := bnext b3 b4
  clear b3
  simp only at hn3
  have hc3 : n3 ≤ c3 := O3.nc
  clear O3
  go_wp2_with fail
  refine (implNearestCode_any A3 n3 c3 us _ (by omega) hc3 R3).mono ?_
  rintro e w5 ⟨B4, m4, d4, rfl, R4, -, hm4, b5⟩
  have R0 := R0.below b5
  have R1 := R1.below b5
  have R2 := R2.below b5
  have R3 := R3.below b5
  have b5 := bnext b4 b5
  clear b4
  go_wp2_with fail
  refine (specNearestCode_any A3 n3 c3 us _ (by omega) hc3 R3).mono ?_
  rintro e w6 ⟨B5, m5, d5, rfl, R5, -, hm5, b6⟩
  clear R3
  have R0 := R0.below b6
  have R1 := R1.below b6
  have R2 := R2.below b6
  have R4 := R4.below b6
  have b6 := bnext b5 b6
  clear b5
  obtain rfl : m2 = m1 := R2.1.symm.trans R1.1
  obtain rfl : m5 = m4 := R5.1.symm.trans R4.1
  have HN := Lib.hid R0.len
  have HF : Hid (stC xs k0 = 0 → ∃ K : Nat, k0 = K ∧ K ≤ 300 ∧ 2 * K + 4 ≤ xs.length ∧ stR xs k0 = stE xs K) := states_ok
  generalize ncodeR us = nr at *
  generalize recvC us = rc at *
  generalize stR xs k0 = sr at *
  generalize stC xs k0 = sc at *
  go_wp2_with fail
  refine (likeInts_below _ _ _ _ _ sr _ (by omega) R1 R2).mono ?_
  rintro e w7 ⟨rfl, b7⟩
  clear R2
  have R0 := R0.below b7
  have R1 := R1.below b7
  have R4 := R4.below b7
  have R5 := R5.below b7
  have b7 := bnext b6 b7
  clear b6
  go_wp2_with fail
  refine (likeInts_below _ _ _ _ _ nr _ (by omega) R4 R5).mono ?_
  rintro e w8 ⟨rfl, b8⟩
  clear R4 R5
  have R0 := R0.below b8
  have R1 := R1.below b8
  have b8 := bnext b7 b8
  clear b7
  by_cases hq : sc = 0
  case neg =>
    have g1 : (sc == 0) = false := by simpa using hq
    have g2 : (sc != 0) = true := by simpa using hq
    clear hq
    go_wp2
    go_ret
    exact ⟨rfl, b8⟩
  obtain ⟨K, rfl, hK, hKl, HS⟩ := HF.out hq
  subst hq
  have HS := Lib.hid HS
  have hKl : 2 * K + 4 ≤ n0 := by have := HN.out; omega
  clear HF
  go_wp2_with fail
  refine (roll_any A n c zs 2802 _ (G.rd.below b8) G.byte hn4 (by decide) (by decide)).mono ?_
  rintro e w9 ⟨g, rfl, D, b9⟩
  have D0 := LstD.start D 2
  go_wp2_with fail
  generalize w9.alloc (.cells #[] 2) = wl at D0 ⊢
  generalize hG0 : (⟨some ⟨w9.heap.size, 0, none⟩, 0, 0⟩ : Hd) = h0 at D0
  obtain ⟨hA0, hn0', hc0'⟩ := h0
  injection hG0 with x1 x2 x3
  subst x1 x2 x3
  go_loopw [15, 16] (fun v i wr => ∃ (h : Hd) (ms : List Int) (j : Nat), v = .slice h.A h.n h.c ∧ i = .int .i64 j ∧ h.n = j ∧ j ≤ K ∧ allIn ms 0 1 = true ∧ LstD w9 wr w8.heap.size g h ms) (fun _ i _ => K - (intOf i).toNat)
  case atStart => exact ⟨_, [], 0, rfl, rfl, rfl, Nat.zero_le _, rfl, D0⟩
  case round =>
    clear D0 D
    obtain ⟨h, ms, j, rfl, rfl, hhj, hjK, HB0, Lx⟩ := hrel
    have HJ := Lib.hid hhj
    have HB := Lib.hid HB0
    clear hhj HB0
    by_cases hlt : (j : Int) < (K : Int)
    · go_wp2_with fail
      refine (below_any _ g 2 _ Lx.dice (by decide) (by decide)).mono ?_
      rintro e w5 ⟨x, rfl, x0, x1, g5, S5⟩
      have L5 := Lx.next g5 S5
      clear Lx g5 S5
      have HX := Lib.hid (bits_snoc HB.out x0 (.inl x1))
      clear x0 x1
      go_wp2_with (at_builtin; refine wpList_pushD rfl _ _ rfl w9 _ g h ms [x] (L5.alloc _) rfl _ 1 1 rfl (rd_one _ _ _) (by have := HJ.out; omega) ?_; intro G wg hGn LG)
      clear L5
      have hGn' := Lib.hid hGn
      clear hGn
      go_roundw
      case rel => exact ⟨G, ms ++ [x], j + 1, by rw [hGn'.out], by go_num, by rw [hGn'.out, HJ.out], by omega, HX.out, LG⟩
      case measure => simp [intOf]; omega
    · have hjK2 : j = K := by omega
      have hml : ms.length = K := by have := Lx.own.rd1.len; have := HJ.out; omega
      have R0 := Lx.keep b9 R0
      have R1 := Lx.keep b9 R1
      have RM := Lx.own.rd1
      have b9 := bnext b8 (Lx.bel b9)
      have hjn : h.n ≤ 300 := by have := HJ.out; omega
      have F := states_law (xs := xs) hK hml HB.out
      obtain ⟨s, hs4, hst, he0, he1⟩ := F.st
      have HST := Lib.hid hst
      have HE := Lib.hid (And.intro he0 he1)
      clear b8 Lx he0 he1 hst
      have HC1 : Hid (∀ W, Rd W h.A h.n (ints ms) → Calls Try.prog 86 #[.slice h.A h.n h.c] W fun e w' => e = .returned (.tuple #[.int .i64 s, .int .i64 0]) ∧ W = w') := fun W hr => by
        have := implStateBehind_any h.A h.n h.c ms W (by omega) hr
        rw [HST.out, F.code] at this
        exact this
      have HC2 : Hid (∀ W, Rd W h.A h.n (ints ms) → Calls Try.prog 87 #[.slice h.A h.n h.c] W fun e w' => e = .returned (.tuple #[.int .i64 s, .int .i64 0]) ∧ W = w') := fun W hr => by
        have := specStateBehind_any h.A h.n h.c ms W (by omega) hr
        rw [HST.out, F.code] at this
        exact this
      have HC3 : Hid (∀ W, Rd W h.A h.n (ints ms) → Calls Try.prog 54 #[.slice h.A h.n h.c] W (RetICd (enc ms) 0 W)) := fun W hr => by
        have := implEncodeBits_any h.A h.n h.c ms W (by omega) hr
        rw [F.enc_, F.code] at this
        exact this
      have HC4 : Hid (∀ W, Rd W h.A h.n (ints ms) → Calls Try.prog 60 #[.slice h.A h.n h.c] W (RetICd (enc ms) 0 W)) := fun W hr => by
        have := specEncodeBits_any h.A h.n h.c ms W (by omega) hr
        rw [F.enc_, F.code] at this
        exact this
      have HLE : Hid ((enc ms).length = 2 * (K + 2)) := by unfold Hid; rw [enc_length, hml]
      have HS4 : Hid ((stE xs K).length = 4) := (stE_four xs K).1
      obtain rfl : sr = stE xs K := HS.out
      clear F HS HST HB HJ
      generalize enc ms = ys at *
      generalize stE xs K = es at *
      go_wp2_with fail
      refine (HC1.out _ RM).mono ?_
      rintro e w' ⟨rfl, rfl⟩
      go_wp2_with fail
      refine (HC2.out _ RM).mono ?_
      rintro e w' ⟨rfl, rfl⟩
      go_wp2_with fail
      refine (HC3.out _ RM).mono ?_
      rintro e w10 ⟨C1, l1, e1, rfl, S1, -, hl1, b10, -⟩
      have R0 := R0.below b10
      have R1 := R1.below b10
      have RM := RM.below b10
      have b10 := bnext b9 b10
      clear b9
      go_wp2_with fail
      refine (HC4.out _ RM).mono ?_
      rintro e w11 ⟨C2, l2, e2, rfl, S2, -, hl2, b11, -⟩
      clear RM
      have R0 := R0.below b11
      have R1 := R1.below b11
      have S1 := S1.below b11
      have b11 := bnext b10 b11
      clear b10
      obtain rfl : l2 = l1 := S2.1.symm.trans S1.1
      go_wp2_with fail
      refine (likeInts_below _ _ _ _ _ ys _ (by omega) S1 S2).mono ?_
      rintro e w12 ⟨rfl, b12⟩
      clear S2
      have R0 := R0.below b12
      have R1 := R1.below b12
      have S1 := S1.below b12
      have b12 := bnext b11 b12
      clear b11
      have hl2e : l2 = 2 * (K + 2) := S1.len.symm.trans HLE.out
      have hm2e : m2 = 4 := R1.len.symm.trans HS4.out
      subst hl2e hm2e
      clear HC1 HC2 HC3 HC4 HLE
      have hsn : ¬ (s : Int) < 0 := by omega
      have hs3 : ¬ (3 : Int) < (s : Int) := by omega
      have hmul : IntKind.i64.wrap (2 * (K : Int)) = 2 * (K : Int) := IntWalk.i64_in _ (by omega)
      have hq1 : ((2 * ((K : Int) + 2)) == 2 * (K : Int) + 4) = true := by simp; omega
      have hq2 : ((2 * ((K : Int) + 2)) != 2 * (K : Int) + 4) = false := by simp; omega
      go_wp2
      go_loopw [25, 26] (fun o i wr => ∃ j m : Nat, j ≤ 2 * K ∧ i = .int .i64 j ∧ o = .int .i64 (diffs xs ys j) ∧ wr = w12.drewN m) (fun _ i _ => 2 * K - (intOf i).toNat)
      case atStart => exact ⟨0, 0, Nat.zero_le _, rfl, rfl, rfl⟩
      case round =>
        obtain ⟨j, m, hjK2, rfl, rfl, rfl⟩ := hrel
        by_cases hlt2 : (j : Int) < 2 * (K : Int)
        · have hj1 : j < n0 := by omega
          have hj2 : j < 2 * (K + 2) := by omega
          have hj3 : (j : Int) < (n0 : Int) := by omega
          have hj4 : (j : Int) < 2 * ((K : Int) + 2) := by omega
          have hj0 : (0 : Int) ≤ (j : Int) := by omega
          obtain ⟨ad, rfl, hx⟩ := R0.int hj1
          obtain ⟨bd, rfl, hy⟩ := S1.int hj2
          have HD := Lib.hid (diffs_succ xs ys j)
          have hd := diffs_bd xs ys j
          generalize xs.getD j 0 = x at *
          generalize ys.getD j 0 = y at *
          generalize diffs xs ys j = q at *
          by_cases e1 : x = 2
          · subst e1
            have HV : Hid (wrongB y 2 = 0) := by unfold Hid wrongB; simp
            go_wp2_with fail
            go_quiet (fail)
            go_wp2
            go_roundw
            case rel => exact ⟨j + 1, _, by omega, by go_num, by rw [HD.out, HV.out, Int.add_zero], rfl⟩
            case measure => simp [intOf]; omega
          · have f1 : (x == 2) = false := by simpa using e1
            have f2 : (x != 2) = true := by simpa using e1
            by_cases e2 : x = y
            · have HV : Hid (wrongB y x = 0) := by unfold Hid wrongB; rw [if_pos (.inr e2.symm)]
              have f3 : (x == y) = true := by simpa using e2
              have f4 : (x != y) = false := by simpa using e2
              clear e1 e2
              go_wp2_with fail
              go_quiet (fail)
              go_wp2
              go_roundw
              case rel => exact ⟨j + 1, _, by omega, by go_num, by rw [HD.out, HV.out, Int.add_zero], rfl⟩
              case measure => simp [intOf]; omega
            · have HV : Hid (wrongB y x = 1) := by unfold Hid wrongB; rw [if_neg (fun c => c.elim e1 (fun c => e2 c.symm))]
              have f3 : (x == y) = false := by simpa using e2
              have f4 : (x != y) = true := by simpa using e2
              clear e1 e2
              go_wp2_with fail
              go_quiet (fail)
              go_wp2
              go_roundw
              case rel => exact ⟨j + 1, _, by omega, by go_num, by rw [HD.out, HV.out], rfl⟩
              case measure => simp [intOf]; omega
        · obtain rfl : j = 2 * K := by omega
          obtain ⟨ad, rfl, hx⟩ := R1.int hs4
          have hv0 := HE.out.1
          have hv1 := HE.out.2
          have i0 : (0 : Int) ≤ (s : Int) := by omega
          have i1 : (s : Int) < 4 := by omega
          generalize es.getD s 0 = x at *
          generalize diffs xs ys (2 * K) = q at *
          go_wp2
          go_ret
          exact ⟨rfl, Below.drewN b12 _⟩
end Go.Proofs.Ytlgmdekhlcbhoaa
