/- The law FnNoise, walked. No condition beyond what an argument of its type bears. -/
import Derived.Test.YtlgmdekhlcbhoaaDrawG
import Derived.Test.YtlgmdekhlcbhoaaFraW
import Derived.Test.YtlgmdekhlcbhoaaFraP
import Derived.Test.YtlgmdekhlcbhoaaNoisy
import Derived.Test.YtlgmdekhlcbhoaaLike
namespace Go.Proofs.Ytlgmdekhlcbhoaa
open Go.RowKit

/-- how many of the first k differ -/
def cntTo (xs ys : List Int) : Nat → Int
  | 0 => 0
  | k + 1 => cntTo xs ys k + (if ys.getD k 0 = xs.getD k 0 then 0 else 1)
theorem cntTo_bd (xs ys : List Int) : ∀ k, 0 ≤ cntTo xs ys k ∧ cntTo xs ys k ≤ k
  | 0 => ⟨Int.le_refl _, Int.le_refl _⟩
  | k + 1 => by have := cntTo_bd xs ys k; show 0 ≤ cntTo xs ys k + _ ∧ cntTo xs ys k + _ ≤ _; split <;> omega
theorem burst_getD (xs : List Int) (f : Nat) : ∀ s, f + s ≤ xs.length → ∀ i, (damage xs (bplaces f s)).getD i 0 = if f ≤ i ∧ i < f + s then 1 - xs.getD i 0 else xs.getD i 0
  | 0, _, i => by rw [if_neg (by omega)]; rfl
  | s + 1, h, i => by
    have e : bplaces f (s + 1) = bplaces f s ++ [(f : Int) + (s : Int)] := range_map_snoc _ _
    have ih := burst_getD xs f s (by omega)
    rw [e, damage_snoc, show ((f : Int) + (s : Int)).toNat = f + s by omega, getD_set0 _ _ _ _ (by rw [damage_length]; omega), ih, ih]
    by_cases hi : i = f + s
    · rw [if_pos hi, if_neg (by omega), if_pos (by omega), hi]
    · rw [if_neg hi]
      by_cases h2 : f ≤ i ∧ i < f + s
      · rw [if_pos h2, if_pos (by omega)]
      · rw [if_neg h2, if_neg (by omega)]
theorem burst_cnt {xs : List Int} {f s : Nat} (h : f + s ≤ xs.length) : ∀ k, cntTo xs (damage xs (bplaces f s)) k = (((min k (f + s)) - f : Nat) : Int)
  | 0 => by show (0 : Int) = _; omega
  | k + 1 => by
    have ih := burst_cnt h k
    show cntTo xs (damage xs (bplaces f s)) k + _ = _
    rw [ih, burst_getD xs f s h k]
    by_cases h2 : f ≤ k ∧ k < f + s
    · rw [if_pos h2]
      split <;> omega
    · rw [if_neg h2, if_pos rfl]; omega
theorem burst_law {xs : List Int} {f s : Int} (h : burstC xs f s = 0) : (burstR xs f s).length = xs.length ∧ cntTo xs (burstR xs f s) xs.length = s := by
  unfold burstC at h
  by_cases h1 : okList xs 1200 0 1 = true
  · rw [if_pos h1] at h
    by_cases h2 : burstOk xs.length f s = true
    · have e : burstR xs f s = damage xs (bplaces f s.toNat) := by unfold burstR; rw [if_pos ⟨h1, h2⟩]
      unfold burstOk at h2
      rw [Bool.and_eq_true] at h2
      have b1 := inR_true h2.1
      have b2 := inR_true h2.2
      obtain ⟨f, rfl⟩ := Int.eq_ofNat_of_zero_le b2.1
      obtain ⟨s, rfl⟩ := Int.eq_ofNat_of_zero_le b1.1
      rw [e, damage_length]
      refine ⟨rfl, ?_⟩
      rw [Int.toNat_natCast, burst_cnt (by omega)]
      omega
    · rw [if_neg h2] at h; exact absurd h (by decide)
  · rw [if_neg h1] at h; exact absurd h (by decide)
theorem noisy_law {xs : List Int} {seed rate : Int} (h : noisyC xs seed rate = 0) : (noisyR xs seed rate).length = xs.length ∧
    ∀ k, k < xs.length → (rate = 0 → (noisyR xs seed rate).getD k 0 = xs.getD k 0) ∧ (rate = 100 → (noisyR xs seed rate).getD k 0 ≠ xs.getD k 0) := by
  unfold noisyC at h
  by_cases h1 : okList xs 1200 0 1 = true
  · rw [if_pos h1] at h
    by_cases h2 : noisyOk xs seed rate = true
    · have e : noisyR xs seed rate = noisy xs seed rate := by unfold noisyR; rw [if_pos ⟨h1, h2⟩]
      rw [e, noisy_length]
      refine ⟨rfl, fun k hk => ?_⟩
      unfold noisy
      rw [range_map_getD _ hk]
      unfold noisyAt
      have m0 := Int.emod_nonneg (nseed seed (k + 1)) (show (100 : Int) ≠ 0 by decide)
      have m1 := Int.emod_lt_of_pos (nseed seed (k + 1)) (show (0 : Int) < 100 by decide)
      exact ⟨fun hr => by subst hr; rw [if_neg (by omega)], fun hr => by subst hr; rw [if_pos m1]; omega⟩
    · rw [if_neg h2] at h; exact absurd h (by decide)
  · rw [if_neg h1] at h; exact absurd h (by decide)
set_option maxRecDepth 100000 in
set_option maxHeartbeats 4000000 in
theorem FnNoise_walk (w : World) (A : Option Addr) (n c : Nat) (zs : List Int) (G : ArgB w A n c zs) :
    Calls Try.prog 10 #[.slice A n c] w fun e w' => e = .returned (.bool true) ∧ Below w.heap.size w w' := by
  have hmx := G.max
  by_cases hb : (4096 : Int) < (n : Int)
  · go_enter Try.func10, Try.ntmps10
    go_wp2_with (go_at_call 34; refine (big_any _ _ _ _ (by omega)).mono ?_; rintro e w' ⟨rfl, rfl⟩)
    go_ret
    exact ⟨rfl, Below.refl _ _⟩
  have hbd : decide ((4096 : Int) < (n : Int)) = false := by simpa using hb
  have hn4 : n ≤ 4096 := by omega
  go_enter Try.func10, Try.ntmps10
  go_wp2_with fail
  refine (big_any _ _ _ _ (by omega)).mono ?_
  rintro e w' ⟨rfl, rfl⟩
  go_wp2_with fail
  refine (drawNoisyBits_any A n c zs _ G.rd G.byte hn4).mono ?_
  rintro e w1 ⟨⟨A0, n0, c0⟩, xs, seed, rate, rfl, hn0, O0, b1⟩
  have R0 : Rd w1 A0 n0 (ints xs) := O0.rd1
  simp only at hn0
  clear hbd hb O0
  go_wp2_with fail
  refine (implNoisyBits_any A0 n0 c0 xs seed rate _ (by omega) R0).mono ?_
  rintro e w2 ⟨B1, m1, d1, rfl, R1, -, hm1, b2⟩
  have R0 := R0.below b2
  have b2 := bnext b1 b2
  clear b1
  go_wp2_with fail
  refine (specNoisyBits_any A0 n0 c0 xs seed rate _ (by omega) R0).mono ?_
  rintro e w3 ⟨B2, m2, d2, rfl, R2, -, hm2, b3⟩
  have R0 := R0.below b3
  have R1 := R1.below b3
  have b3 := bnext b2 b3
  clear b2
  obtain rfl : m2 = m1 := R2.1.symm.trans R1.1
  go_wp2_with fail
  refine (drawBurstBits_any A n c zs _ (G.rd.below b3) G.byte hn4).mono ?_
  rintro e w4 ⟨⟨A4, n4, c4⟩, us, f, s, rfl, hn4', f0, f1, s0, s1, O4, b4⟩
  have R0 := R0.below b4
  have R1 := R1.below b4
  have R2 := R2.below b4
  have R4 : Rd w4 A4 n4 (ints us) := O4.rd1
  have b4 := bnext b3 b4
  clear b3
  simp only at hn4'
  clear O4
  go_wp2_with fail
  refine (implBurstBits_any A4 n4 c4 us f s _ (by omega) R4).mono ?_
  rintro e w5 ⟨B5, m5, d5, rfl, R5, -, hm5, b5⟩
  have R0 := R0.below b5
  have R1 := R1.below b5
  have R2 := R2.below b5
  have R4 := R4.below b5
  have b5 := bnext b4 b5
  clear b4
  go_wp2_with fail
  refine (specBurstBits_any A4 n4 c4 us f s _ (by omega) R4).mono ?_
  rintro e w6 ⟨B6, m6, d6, rfl, R6, -, hm6, b6⟩
  have R0 := R0.below b6
  have R1 := R1.below b6
  have R2 := R2.below b6
  have R4 := R4.below b6
  have R5 := R5.below b6
  have b6 := bnext b5 b6
  clear b5
  obtain rfl : m6 = m5 := R6.1.symm.trans R5.1
  go_wp2_with fail
  refine (drawCountWrong_any A n c zs _ (G.rd.below b6) G.byte hn4).mono ?_
  rintro e w7 ⟨⟨AF, nF, cF⟩, kF, mF, ps, ⟨A7, n7, c7⟩, vs, rfl, hnF, hn7, OF, O7, b7⟩
  have R0 := R0.below b7
  have R1 := R1.below b7
  have R2 := R2.below b7
  have R4 := R4.below b7
  have R5 := R5.below b7
  have R6 := R6.below b7
  have RF : Rd w7 AF nF (ints ps) := OF.rd1
  have R7 : Rd w7 A7 n7 (ints vs) := O7.rd1
  have b7 := bnext b6 b7
  clear b6
  simp only at hnF hn7
  clear OF O7
  simp only [FrameV]
  go_wp2_with fail
  have K8 := Blk.new w7 28 #[.int .i64 kF, .int .i64 mF, .slice AF nF cF]
  have b8 : Below w7.heap.size w7 (w7.alloc (.cells #[.int .i64 kF, .int .i64 mF, .slice AF nF cF] 28)) := (Below.refl _ _).alloc (Nat.le_refl _) _
  generalize w7.alloc (.cells #[.int .i64 kF, .int .i64 mF, .slice AF nF cF] 28) = w8 at K8 b8 ⊢
  generalize w7.heap.size = Q at K8 ⊢
  have R0 := R0.below b8
  have R1 := R1.below b8
  have R2 := R2.below b8
  have R4 := R4.below b8
  have R5 := R5.below b8
  have R6 := R6.below b8
  have RF := RF.below b8
  have R7 := R7.below b8
  have b8 := bnext b7 b8
  clear b7
  have q8 := K8.lt
  refine (implCountWrong'_any ⟨⟨AF, nF, cF⟩⟩ ⟨kF, mF, ps⟩ ⟨A7, n7, c7⟩ vs _ (show nF ≤ 1048576 by omega) (RdAll.cons (s := ⟨AF, nF, ints ps⟩) RF (RdAll.nil _)) (show n7 ≤ 1048576 by omega) (RdAll.cons (s := ⟨A7, n7, ints vs⟩) R7 (RdAll.nil _))).mono ?_
  rintro e w9 ⟨rfl, b9⟩
  have hb9 := b9
  have R0 := R0.below b9
  have R1 := R1.below b9
  have R2 := R2.below b9
  have R4 := R4.below b9
  have R5 := R5.below b9
  have R6 := R6.below b9
  have RF := RF.below b9
  have R7 := R7.below b9
  have b9 := bnext b8 b9
  clear b8
  have K9 := K8.below hb9 q8
  have q9 := K9.lt
  have c9 := fun o => K9.cell o
  go_wp2_with fail
  refine (specCountWrong'_any ⟨⟨AF, nF, cF⟩⟩ ⟨kF, mF, ps⟩ ⟨A7, n7, c7⟩ vs _ (show nF ≤ 1048576 by omega) (RdAll.cons (s := ⟨AF, nF, ints ps⟩) RF (RdAll.nil _)) (show n7 ≤ 1048576 by omega) (RdAll.cons (s := ⟨A7, n7, ints vs⟩) R7 (RdAll.nil _))).mono ?_
  rintro e w10 ⟨rfl, b10⟩
  have hb10 := b10
  have R0 := R0.below b10
  have R1 := R1.below b10
  have R2 := R2.below b10
  have R4 := R4.below b10
  have R5 := R5.below b10
  have R6 := R6.below b10
  have RF := RF.below b10
  have R7 := R7.below b10
  have b10 := bnext b9 b10
  clear b9
  have K10 := K9.below hb10 q9
  have q10 := K10.lt
  have c10 := fun o => K10.cell o
  clear RF R7 hb9 hb10 K8 K9 K10 c9 c10 q8 q9 q10
  have HBL : Hid (burstC us f s = 0 → (burstR us f s).length = us.length ∧ cntTo us (burstR us f s) us.length = s) := burst_law
  have HNL : Hid (noisyC xs seed rate = 0 → (noisyR xs seed rate).length = xs.length ∧ ∀ k, k < xs.length → (rate = 0 → (noisyR xs seed rate).getD k 0 = xs.getD k 0) ∧ (rate = 100 → (noisyR xs seed rate).getD k 0 ≠ xs.getD k 0)) := noisy_law
  have HL4 := Lib.hid R4.len
  have HL5 := Lib.hid R5.len
  have HL0 := Lib.hid R0.len
  have HL1 := Lib.hid R1.len
  generalize burstR us f s = ys at *
  generalize burstC us f s = bc at *
  generalize noisyR xs seed rate = ns at *
  generalize noisyC xs seed rate = nc at *
  generalize cwR ⟨kF, mF, ps⟩ vs = cw at *
  generalize cwC ⟨kF, mF, ps⟩ vs = cc at *
  go_upto_region 12 with fail
  go_cut [114] (fun cv wx => cv = .bool false ∧ Below w10.heap.size w10 wx)
  case first =>
    go_wp2_with (first | (refine (likeInts_below _ _ _ _ _ ns _ (by omega) R1 R2).mono ?_; rintro e wz ⟨rfl, bz⟩; have R5 := R5.below bz; have R6 := R6.below bz; have R1 := 0) | (refine (likeInts_below _ _ _ _ _ ys _ (by omega) R5 R6).mono ?_; rintro e wy ⟨rfl, by_⟩))
    go_meet
    exact ⟨rfl, bnext bz by_⟩
  case rest =>
    obtain ⟨rfl, bx⟩ := hcut
    obtain ⟨wx, rfl⟩ : ∃ x : World, x = wc := ⟨_, rfl⟩
    have R0 := R0.below bx
    have R1 := R1.below bx
    have R4 := R4.below bx
    have R5 := R5.below bx
    have bx := bnext b10 bx
    clear b10 R2 R6
    by_cases hbc : bc = 0
    · subst hbc
      obtain ⟨hl5, hcnt⟩ := HBL.out rfl
      obtain rfl : m6 = n4 := by rw [← HL5.out, ← HL4.out, hl5]
      have HC : Hid (cntTo us ys m6 = s) := by unfold Hid; rw [← HL4.out]; exact hcnt
      clear HBL hl5 hcnt
      go_wp2
      go_loopw [23, 24] (fun v i wr => ∃ k u : Nat, k ≤ m6 ∧ i = .int .i64 k ∧ v = .int .i64 (cntTo us ys k) ∧ wr = wx.drewN u) (fun _ i _ => m6 - (intOf i).toNat)
      case atStart => exact ⟨0, 0, Nat.zero_le _, rfl, rfl, rfl⟩
      case round =>
        obtain ⟨k, u, hk, rfl, rfl, rfl⟩ := hrel
        by_cases hlt : k < m6
        · obtain ⟨ad, rfl, hx⟩ := R4.int hlt
          obtain ⟨bd, rfl, hy⟩ := R5.int hlt
          have hltI : (k : Int) < (m6 : Int) := by omega
          have HS : Hid (cntTo us ys (k + 1) = cntTo us ys k + (if ys.getD k 0 = us.getD k 0 then 0 else 1)) := rfl
          have hcb := cntTo_bd us ys k
          generalize ys.getD k 0 = y at *
          generalize us.getD k 0 = x at *
          generalize cntTo us ys k = t at *
          rcases Bool.eq_false_or_eq_true (y != x) with e2 | e2
          · have HE : Hid (cntTo us ys (k + 1) = t + 1) := by unfold Hid; rw [HS.out, if_neg (by simpa using e2)]
            clear HS
            go_wp2_with fail
            go_quiet (fail)
            go_wp2
            go_roundw
            case rel => exact ⟨k + 1, _, by omega, by go_num, by rw [HE.out], rfl⟩
            case measure => simp [intOf]; omega
          · have HE : Hid (cntTo us ys (k + 1) = t) := by unfold Hid; rw [HS.out, if_pos (by simpa using e2), Int.add_zero]
            clear HS
            go_wp2_with fail
            go_quiet (fail)
            go_wp2
            go_roundw
            case rel => exact ⟨k + 1, _, by omega, by go_num, by rw [HE.out], rfl⟩
            case measure => simp [intOf]; omega
        · obtain rfl : k = m6 := by omega
          rw [HC.out]
          have bx := Below.drewN bx u
          have R0 := R0.drewN u
          have R1 := R1.drewN u
          generalize wx.drewN u = wx at *
          clear R4 R5 HC hlt hk
          by_cases hnc : nc = 0
          case neg =>
            have g1 : (nc == 0) = false := by simpa using hnc
            have g2 : (nc != 0) = true := by simpa using hnc
            clear hnc
            go_wp2
            go_ret
            exact ⟨rfl, bx⟩
          subst hnc
          obtain ⟨hl1, hall⟩ := HNL.out rfl
          obtain rfl : m2 = n0 := by rw [← HL1.out, ← HL0.out, hl1]
          have HA : Hid (∀ k, k < m2 → (rate = 0 → ns.getD k 0 = xs.getD k 0) ∧ (rate = 100 → ns.getD k 0 ≠ xs.getD k 0)) := fun k hk => hall k (by rw [HL0.out]; exact hk)
          clear HNL hl1 hall
          go_wp2
          go_loopw [25] (fun i wr => ∃ k u : Nat, k ≤ m2 ∧ i = .int .i64 k ∧ wr = wx.drewN u) (fun i _ => m2 - (intOf i).toNat)
          case atStart => exact ⟨0, 0, Nat.zero_le _, rfl, rfl⟩
          case round =>
            obtain ⟨k, u, hk, rfl, rfl⟩ := hrel
            by_cases hlt : k < m2
            · obtain ⟨ad, rfl, hx⟩ := R0.int hlt
              obtain ⟨bd, rfl, hy⟩ := R1.int hlt
              have hltI : (k : Int) < (m2 : Int) := by omega
              have hA := HA.out k hlt
              generalize ns.getD k 0 = y at *
              generalize xs.getD k 0 = x at *
              by_cases h0 : rate = 0
              · obtain rfl := hA.1 h0
                subst h0
                clear hA
                go_wp2_with fail
                go_quiet (fail)
                go_wp2
                go_roundw
                case rel => exact ⟨k + 1, _, by omega, by go_num, rfl⟩
                case measure => simp [intOf]; omega
              · have k0 : (rate == 0) = false := by simpa using h0
                by_cases h1 : rate = 100
                · have e2 : (y == x) = false := by simpa using hA.2 h1
                  subst h1
                  clear hA h0
                  go_wp2_with fail
                  go_quiet (fail)
                  go_wp2
                  go_roundw
                  case rel => exact ⟨k + 1, _, by omega, by go_num, rfl⟩
                  case measure => simp [intOf]; omega
                · have k1 : (rate == 100) = false := by simpa using h1
                  clear hA h0 h1
                  go_wp2_with fail
                  go_quiet (fail)
                  go_wp2
                  go_roundw
                  case rel => exact ⟨k + 1, _, by omega, by go_num, rfl⟩
                  case measure => simp [intOf]; omega
            · obtain rfl : k = m2 := by omega
              go_wp2
              go_ret
              exact ⟨rfl, Below.drewN bx u⟩
    · have hb1 : (bc == 0) = false := by simpa using hbc
      clear hbc HBL
      by_cases hnc : nc = 0
      case neg =>
        have g1 : (nc == 0) = false := by simpa using hnc
        have g2 : (nc != 0) = true := by simpa using hnc
        clear hnc
        go_wp2
        go_ret
        exact ⟨rfl, bx⟩
      subst hnc
      obtain ⟨hl1, hall⟩ := HNL.out rfl
      obtain rfl : m2 = n0 := by rw [← HL1.out, ← HL0.out, hl1]
      have HA : Hid (∀ k, k < m2 → (rate = 0 → ns.getD k 0 = xs.getD k 0) ∧ (rate = 100 → ns.getD k 0 ≠ xs.getD k 0)) := fun k hk => hall k (by rw [HL0.out]; exact hk)
      clear HNL hl1 hall
      go_wp2
      go_loopw [25] (fun i wr => ∃ k u : Nat, k ≤ m2 ∧ i = .int .i64 k ∧ wr = wx.drewN u) (fun i _ => m2 - (intOf i).toNat)
      case atStart => exact ⟨0, 0, Nat.zero_le _, rfl, rfl⟩
      case round =>
        obtain ⟨k, u, hk, rfl, rfl⟩ := hrel
        by_cases hlt : k < m2
        · obtain ⟨ad, rfl, hx⟩ := R0.int hlt
          obtain ⟨bd, rfl, hy⟩ := R1.int hlt
          have hltI : (k : Int) < (m2 : Int) := by omega
          have hA := HA.out k hlt
          generalize ns.getD k 0 = y at *
          generalize xs.getD k 0 = x at *
          by_cases h0 : rate = 0
          · obtain rfl := hA.1 h0
            subst h0
            clear hA
            go_wp2_with fail
            go_quiet (fail)
            go_wp2
            go_roundw
            case rel => exact ⟨k + 1, _, by omega, by go_num, rfl⟩
            case measure => simp [intOf]; omega
          · have k0 : (rate == 0) = false := by simpa using h0
            by_cases h1 : rate = 100
            · have e2 : (y == x) = false := by simpa using hA.2 h1
              subst h1
              clear hA h0
              go_wp2_with fail
              go_quiet (fail)
              go_wp2
              go_roundw
              case rel => exact ⟨k + 1, _, by omega, by go_num, rfl⟩
              case measure => simp [intOf]; omega
            · have k1 : (rate == 100) = false := by simpa using h1
              clear hA h0 h1
              go_wp2_with fail
              go_quiet (fail)
              go_wp2
              go_roundw
              case rel => exact ⟨k + 1, _, by omega, by go_num, rfl⟩
              case measure => simp [intOf]; omega
        · obtain rfl : k = m2 := by omega
          go_wp2
          go_ret
          exact ⟨rfl, Below.drewN bx u⟩
  
end Go.Proofs.Ytlgmdekhlcbhoaa
