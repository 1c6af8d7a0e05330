/- The law FnPunctured, walked. No condition beyond what an argument of its type bears. -/
import Derived.Test.YtlgmdekhlcbhoaaDrawP
import Derived.Test.YtlgmdekhlcbhoaaLike
namespace Go.Proofs.Ytlgmdekhlcbhoaa
open Go.RowKit

structure PuncFact (xs : List Int) (n : Nat) : Prop where
  r : fillR (puncR xs) n = fillP (puncTo xs n) n
  c : fillC (puncR xs) n = 0
  at0 : ∀ k, k < n → k % 4 = 3 → (fillP (puncTo xs n) n).getD k 0 = 2
  at1 : ∀ k, k < n → ¬ k % 4 = 3 → (fillP (puncTo xs n) n).getD k 0 = xs.getD k 0
  bit : ∀ k, 0 ≤ xs.getD k 0 ∧ xs.getD k 0 ≤ 1
theorem punc_fact {xs : List Int} {n : Nat} (hn : xs.length = n) (h : puncC xs = 0) : PuncFact xs n := by
  have hok : okList xs 604 0 1 = true := by
    by_cases e : okList xs 604 0 1 = true
    · exact e
    · unfold puncC at h; rw [if_neg e] at h; cases h
  have ht := okList_true hok
  have hp : puncR xs = puncTo xs n := by unfold puncR; rw [if_pos hok, hn]
  have hl := puncTo_length xs n
  have h1 : okList (puncTo xs n) 604 0 1 = true := by unfold okList; rw [puncTo_bits ht.2, hl]; simp; omega
  have h2 : fillOk (puncTo xs n) n = true := by
    unfold fillOk
    rw [inR_mk (by omega) (by omega), hl, Bool.true_and, beq_iff_eq]
    omega
  have hg : ∀ k, k < n → (fillP (puncTo xs n) n).getD k 0 = fillAt (puncTo xs n) k := fun k hk => by unfold fillP; exact range_map_getD _ hk
  refine ⟨by rw [hp]; unfold fillR; rw [if_pos ⟨h1, h2⟩, Int.toNat_natCast], by rw [hp]; unfold fillC; rw [if_pos h1, if_pos h2], fun k hk h4 => ?_, fun k hk h4 => ?_, getD_bit ht.2⟩
  · rw [hg k hk]; exact if_pos h4
  · rw [hg k hk]; unfold fillAt; rw [if_neg h4]; exact puncTo_getD xs n k hk h4

set_option maxRecDepth 100000 in
set_option maxHeartbeats 4000000 in
theorem FnPunctured_walk (w : World) (A : Option Addr) (n c : Nat) (zs : List Int) (G : ArgB w A n c zs) :
    Calls Try.prog 12 #[.slice A n c] w fun e w' => e = .returned (.bool true) ∧ Below w.heap.size w w' := by
  have hmx := G.max
  by_cases hb : (4096 : Int) < (n : Int)
  · go_enter Try.func12, Try.ntmps12
    go_wp2_with (go_at_call 34; refine (big_any _ _ _ _ (by omega)).mono ?_; rintro e w' ⟨rfl, rfl⟩)
    go_ret
    exact ⟨rfl, Below.refl _ _⟩
  have hbd : decide ((4096 : Int) < (n : Int)) = false := by simpa using hb
  have hn4 : n ≤ 4096 := by omega
  go_enter Try.func12, Try.ntmps12
  go_wp2_with fail
  refine (big_any _ _ _ _ (by omega)).mono ?_
  rintro e w' ⟨rfl, rfl⟩
  go_wp2_with fail
  refine (drawPunctureCode_any A n c zs _ G.rd G.byte hn4).mono ?_
  rintro e w1 ⟨⟨A0, n0, c0⟩, xs, rfl, hn0, O0, b1⟩
  simp only at hn0
  clear hbd hb
  have R0 : Rd w1 A0 n0 (ints xs) := O0.rd1
  clear O0
  go_wp2_with fail
  refine (implPunctureCode_any A0 n0 c0 xs _ (by omega) R0).mono ?_
  rintro e w2 ⟨B1, m1, d1, rfl, R1, -, hm1, b2, -⟩
  have R0 := R0.below b2
  have b2 := bnext b1 b2
  clear b1
  go_wp2_with fail
  refine (specPunctureCode_any A0 n0 c0 xs _ (by omega) R0).mono ?_
  rintro e w3 ⟨B2, m2, d2, rfl, R2, -, hm2, b3, -⟩
  have R0 := R0.below b3
  have R1 := R1.below b3
  have b3 := bnext b2 b3
  clear b2
  go_wp2_with fail
  refine (drawFillPunctures_any A n c zs _ (G.rd.below b3) G.byte hn4).mono ?_
  rintro e w4 ⟨⟨A3, n3, c3⟩, ys, k3, rfl, hn3, hk30, hk31, O3, b4⟩
  simp only at hn3
  have R3 : Rd w4 A3 n3 (ints ys) := O3.rd1
  have R0 := R0.below b4
  have R1 := R1.below b4
  have R2 := R2.below b4
  have b4 := bnext b3 b4
  clear b3 O3
  go_wp2_with fail
  refine (implFillPunctures_any A3 n3 c3 ys k3 _ (by omega) R3).mono ?_
  rintro e w5 ⟨B4, m4, d4, rfl, R4, -, hm4, b5, -⟩
  have R0 := R0.below b5
  have R1 := R1.below b5
  have R2 := R2.below b5
  have R3 := R3.below b5
  have b5 := bnext b4 b5
  clear b4
  go_wp2_with fail
  refine (specFillPunctures_any A3 n3 c3 ys k3 _ (by omega) R3).mono ?_
  rintro e w6 ⟨B5, m5, d5, rfl, R5, -, hm5, b6, -⟩
  have R0 := R0.below b6
  have R1 := R1.below b6
  have R2 := R2.below b6
  have R4 := R4.below b6
  have b6 := bnext b5 b6
  clear b5 R3
  go_wp2_with fail
  refine (drawDecodePunctured_any A n c zs _ (G.rd.below b6) G.byte hn4).mono ?_
  rintro e w7 ⟨⟨A6, n6, c6⟩, us, k6, rfl, hn6, hk60, hk61, O6, b7⟩
  simp only at hn6
  have R6 : Rd w7 A6 n6 (ints us) := O6.rd1
  have R0 := R0.below b7
  have R1 := R1.below b7
  have R2 := R2.below b7
  have R4 := R4.below b7
  have R5 := R5.below b7
  have b7 := bnext b6 b7
  clear b6 O6
  go_wp2_with fail
  refine (implDecodePunctured_any A6 n6 c6 us k6 _ (by omega) R6).mono ?_
  rintro e w8 ⟨B7, m7, d7, rfl, R7, -, hm7, b8⟩
  have R0 := R0.below b8
  have R1 := R1.below b8
  have R2 := R2.below b8
  have R4 := R4.below b8
  have R5 := R5.below b8
  have R6 := R6.below b8
  have b8 := bnext b7 b8
  clear b7
  go_wp2_with fail
  refine (specDecodePunctured_any A6 n6 c6 us k6 _ (by omega) R6).mono ?_
  rintro e w9 ⟨B8, m8, d8, rfl, R8, -, hm8, b9⟩
  have R0 := R0.below b9
  have R1 := R1.below b9
  have R2 := R2.below b9
  have R4 := R4.below b9
  have R5 := R5.below b9
  have R7 := R7.below b9
  have b9 := bnext b8 b9
  clear b8 R6
  have HN := Lib.hid R0.len
  have HF : Hid (puncC xs = 0 → fillR (puncR xs) n0 = fillP (puncTo xs n0) n0 ∧ fillC (puncR xs) n0 = 0 ∧ PuncFact xs n0) := fun h => ⟨(punc_fact HN.out h).r, (punc_fact HN.out h).c, punc_fact HN.out h⟩
  obtain rfl : m2 = m1 := R2.1.symm.trans R1.1
  obtain rfl : m5 = m4 := R5.1.symm.trans R4.1
  obtain rfl : m8 = m7 := R8.1.symm.trans R7.1
  generalize fillR ys k3 = fs at *
  generalize fillC ys k3 = fc at *
  generalize punR us k6 = ps at *
  generalize punC us k6 = pc at *
  generalize punN us k6 = pn at *
  have HP : Hid (∀ W, Rd W B1 m2 (ints (puncR xs)) → Calls Try.prog 68 #[.slice B1 m2 d1, .int .i64 (n0 : Int)] W (RetICd (fillR (puncR xs) n0) (fillC (puncR xs) n0) W)) := fun W h => implFillPunctures_any B1 m2 d1 (puncR xs) n0 W (by omega) h
  have HQ : Hid (∀ W, Rd W B1 m2 (ints (puncR xs)) → Calls Try.prog 69 #[.slice B1 m2 d1, .int .i64 (n0 : Int)] W (RetICd (fillR (puncR xs) n0) (fillC (puncR xs) n0) W)) := fun W h => specFillPunctures_any B1 m2 d1 (puncR xs) n0 W (by omega) h
  generalize puncR xs = qs at *
  generalize puncC xs = qc at *
  go_wp2_with fail
  refine (likeInts_below _ _ _ _ _ qs _ (by omega) R1 R2).mono ?_
  rintro e w10 ⟨rfl, b10⟩
  have R0 := R0.below b10
  have R1 := R1.below b10
  have R4 := R4.below b10
  have R5 := R5.below b10
  have R7 := R7.below b10
  have R8 := R8.below b10
  have b10 := bnext b9 b10
  clear b9 R2
  go_wp2_with fail
  refine (likeInts_below _ _ _ _ _ fs _ (by omega) R4 R5).mono ?_
  rintro e w11 ⟨rfl, b11⟩
  have R0 := R0.below b11
  have R1 := R1.below b11
  have R7 := R7.below b11
  have R8 := R8.below b11
  have b11 := bnext b10 b11
  clear b10 R4 R5
  go_wp2_with fail
  refine (likeInts_below _ _ _ _ _ ps _ (by omega) R7 R8).mono ?_
  rintro e w12 ⟨rfl, b12⟩
  have R0 := R0.below b12
  have R1 := R1.below b12
  have b12 := bnext b11 b12
  clear b11 R7 R8
  by_cases hq : qc = 0
  case neg =>
    have f1 : (qc == 0) = false := by simpa using hq
    have f2 : (qc != 0) = true := by simpa using hq
    clear hq
    go_wp2
    go_ret
    exact ⟨rfl, b12⟩
  subst hq
  have F := Lib.hid (HF.out rfl)
  clear HF
  have HP' := HP.out
  have HQ' := HQ.out
  rw [F.out.1, F.out.2.1] at HP' HQ'
  clear HP HQ
  have HPh := Lib.hid HP'
  have HQh := Lib.hid HQ'
  clear HP' HQ'
  have HG0 := Lib.hid F.out.2.2.at0
  have HG1 := Lib.hid F.out.2.2.at1
  have HGb := Lib.hid F.out.2.2.bit
  have HFL : Hid ((fillP (puncTo xs n0) n0).length = n0) := fillP_length _ _
  clear F
  generalize fillP (puncTo xs n0) n0 = gs at *
  go_wp2_with fail
  refine (HPh.out _ R1).mono ?_
  rintro e w13 ⟨C1, l1, e1, rfl, S1, -, hl1, b13, -⟩
  have R0 := R0.below b13
  have R1 := R1.below b13
  have b13 := bnext b12 b13
  clear b12
  go_wp2_with fail
  refine (HQh.out _ R1).mono ?_
  rintro e w14 ⟨C2, l2, e2, rfl, S2, -, hl2, b14, -⟩
  have R0 := R0.below b14
  have S1 := S1.below b14
  have b14 := bnext b13 b14
  clear b13 R1 HPh HQh
  obtain rfl : l2 = l1 := S2.1.symm.trans S1.1
  obtain rfl : l2 = n0 := S1.len.symm.trans HFL.out
  go_wp2_with fail
  refine (likeInts_below _ _ _ _ _ gs _ (by omega) S1 S2).mono ?_
  rintro e w15 ⟨rfl, b15⟩
  have R0 := R0.below b15
  have S1 := S1.below b15
  have b15 := bnext b14 b15
  clear b14 S2
  go_wp2
  go_loopw [26] (fun i wr => ∃ k m : Nat, k ≤ l2 ∧ i = .int .i64 k ∧ wr = w15.drewN m) (fun i _ => l2 - (intOf i).toNat)
  case atStart => exact ⟨0, 0, Nat.zero_le _, rfl, rfl⟩
  case round =>
    obtain ⟨k, m, hk, rfl, rfl⟩ := hrel
    by_cases hlt : k < l2
    · obtain ⟨ad, rfl, hx⟩ := R0.int hlt
      obtain ⟨bd, rfl, hy⟩ := S1.int hlt
      have hbit := HGb.out k
      have i0 : (0 : Int) ≤ (k : Int) := by omega
      have i1 : (k : Int) < (l2 : Int) := by omega
      by_cases h4 : k % 4 = 3
      · have hv := HG0.out k hlt h4
        rw [hv] at hy
        have q1 : ((k : Int) % 4 == 3) = true := by simp; omega
        have q2 : ((k : Int) % 4 != 3) = false := by simp; omega
        clear h4 hv
        generalize xs.getD k 0 = x at *
        have q3 : ((2 : Int) == x) = false := by simp; omega
        have q4 : ((2 : Int) != x) = true := by simp; omega
        clear hbit
        go_wp2_with fail
        go_quiet (fail)
        go_wp2
        go_roundw
        case rel => exact ⟨k + 1, _, by omega, by go_num, rfl⟩
        case measure => simp [intOf]; omega
      · have hv := HG1.out k hlt h4
        rw [hv] at hy
        clear h4 hv
        generalize xs.getD k 0 = x at *
        clear hbit
        go_wp2_with fail
        go_quiet (fail)
        go_wp2
        go_roundw
        case rel => exact ⟨k + 1, _, by omega, by go_num, rfl⟩
        case measure => simp [intOf]; omega
    · obtain rfl : k = l2 := by omega
      go_wp2
      go_ret
      exact ⟨rfl, Below.drewN b15 _⟩
end Go.Proofs.Ytlgmdekhlcbhoaa
