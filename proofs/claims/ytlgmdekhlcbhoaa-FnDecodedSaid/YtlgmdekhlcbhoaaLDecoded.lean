/- The law FnDecoded, walked. No condition beyond what an argument of its type bears. -/
import Derived.Test.YtlgmdekhlcbhoaaDrawQ
import Derived.Test.YtlgmdekhlcbhoaaProp
import Derived.Test.YtlgmdekhlcbhoaaLike
namespace Go.Proofs.Ytlgmdekhlcbhoaa
open Go.RowKit

set_option maxRecDepth 100000 in
set_option maxHeartbeats 4000000 in
theorem FnDecoded_walk (w : World) (A : Option Addr) (n c : Nat) (zs : List Int) (G : ArgB w A n c zs) :
    Calls Try.prog 13 #[.slice A n c] w fun e w' => e = .returned (.bool true) ∧ Below w.heap.size w w' := by
  have hmx := G.max
  by_cases hb : (4096 : Int) < (n : Int)
  · go_enter Try.func13, Try.ntmps13
    go_wp2_with (go_at_call 34; refine (big_any _ _ _ _ (by omega)).mono ?_; rintro e w' ⟨rfl, rfl⟩)
    go_ret
    exact ⟨rfl, Below.refl _ _⟩
  have hbd : decide ((4096 : Int) < (n : Int)) = false := by simpa using hb
  have hn4 : n ≤ 4096 := by omega
  go_enter Try.func13, Try.ntmps13
  go_wp2_with fail
  refine (big_any _ _ _ _ (by omega)).mono ?_
  rintro e w' ⟨rfl, rfl⟩
  go_wp2_with fail
  refine (drawDecodeBits_any A n c zs _ G.rd G.byte hn4).mono ?_
  rintro e w1 ⟨⟨A0, n0, c0⟩, xs, rfl, hn0, O0, b1⟩
  have R0 : Rd w1 A0 n0 (ints xs) := O0.rd1
  simp only at hn0
  have hc0 : n0 ≤ c0 := O0.nc
  clear hbd hb O0
  go_wp2_with fail
  refine (implDecodeBits_any A0 n0 c0 xs _ (by omega) hc0 R0).mono ?_
  rintro e w2 ⟨B1, m1, d1, rfl, R1, -, hm1, b2⟩
  have R0 := R0.below b2
  have b2 := bnext b1 b2
  clear b1
  go_wp2_with fail
  refine (specDecodeBits_any A0 n0 c0 xs _ (by omega) hc0 R0).mono ?_
  rintro e w3 ⟨B2, m2, d2, rfl, R2, -, hm2, b3⟩
  have R0 := R0.below b3
  have R1 := R1.below b3
  have b3 := bnext b2 b3
  clear b2
  go_wp2_with fail
  refine (implLeastErrors_any A0 n0 c0 xs _ (by omega) hc0 R0).mono ?_
  rintro e w4 ⟨rfl, b4⟩
  have R0 := R0.below b4
  have R1 := R1.below b4
  have R2 := R2.below b4
  have b4 := bnext b3 b4
  clear b3
  go_wp2_with fail
  refine (specLeastErrors_any A0 n0 c0 xs _ (by omega) hc0 R0).mono ?_
  rintro e w5 ⟨rfl, b5⟩
  have R0 := R0.below b5
  have R1 := R1.below b5
  have R2 := R2.below b5
  have b5 := bnext b4 b5
  clear b4
  go_wp2_with fail
  refine (drawErrorsOf_any A n c zs _ (G.rd.below b5) G.byte hn4).mono ?_
  rintro e w6 ⟨⟨A3, n3, c3⟩, us, ⟨A4, n4, c4⟩, vs, rfl, hn3, hn4', O3, O4, b6⟩
  have R0 := R0.below b6
  have R1 := R1.below b6
  have R2 := R2.below b6
  have R3 : Rd w6 A3 n3 (ints us) := O3.rd1
  have R4 : Rd w6 A4 n4 (ints vs) := O4.rd1
  have b6 := bnext b5 b6
  clear b5
  simp only at hn3 hn4'
  have hc3 : n3 ≤ c3 := O3.nc
  clear O3 O4
  go_wp2_with fail
  refine (implErrorsOf_any A3 n3 c3 us A4 n4 c4 vs _ (by omega) (by omega) R3 R4).mono ?_
  rintro e w7 ⟨rfl, b7⟩
  have R0 := R0.below b7
  have R1 := R1.below b7
  have R2 := R2.below b7
  have R3 := R3.below b7
  have R4 := R4.below b7
  have b7 := bnext b6 b7
  clear b6
  go_wp2_with fail
  refine (specErrorsOf_any A3 n3 c3 us A4 n4 c4 vs _ (by omega) (by omega) R3 R4).mono ?_
  rintro e w8 ⟨rfl, b8⟩
  have R0 := R0.below b8
  have R1 := R1.below b8
  have R2 := R2.below b8
  have R3 := R3.below b8
  have R4 := R4.below b8
  have b8 := bnext b7 b8
  clear b7
  obtain rfl : m2 = m1 := R2.1.symm.trans R1.1
  have HF1 : Hid (errC us vs = 0 → recvC us = 0 ∧ decN us ≤ errR us vs) := decoded_least
  have HL1 : Hid (∀ W, Rd W A3 n3 (ints us) → Calls Try.prog 75 #[.slice A3 n3 c3] W (fun e w' => e = .returned (.tuple #[.int .i64 (decN us), .int .i64 (recvC us)]) ∧ Below W.heap.size W w')) := fun W h => implLeastErrors_any A3 n3 c3 us W (by omega) hc3 h
  have HE : Hid (∀ W, recvC xs = 0 → Rd W A0 n0 (ints xs) → Rd W B1 m2 (ints (decR xs)) → Calls Try.prog 78 #[.slice A0 n0 c0, .slice B1 m2 d1] W (fun e w' => e = .returned (.tuple #[.int .i64 (decN xs), .int .i64 0]) ∧ Below W.heap.size W w')) := fun W h0 h h' => by
    have hf := decoded_own h0
    have := implErrorsOf_any A0 n0 c0 xs B1 m2 d1 (decR xs) W (by omega) (by omega) h h'
    rw [hf.1, hf.2.1] at this
    exact this
  have HN : Hid (∀ W, Rd W A0 n0 (ints xs) → Calls Try.prog 80 #[.slice A0 n0 c0] W (RetIC (ncodeR xs) (recvC xs) W)) := fun W h => implNearestCode_any A0 n0 c0 xs W (by omega) hc0 h
  have HB : Hid (∀ W, recvC xs = 0 → Rd W B1 m2 (ints (decR xs)) → Calls Try.prog 54 #[.slice B1 m2 d1] W (RetICd (ncodeR xs) 0 W)) := fun W h0 h => by
    have hf := decoded_own h0
    have := implEncodeBits_any B1 m2 d1 (decR xs) W (by omega) h
    rw [hf.2.2.1, hf.2.2.2] at this
    exact this
  generalize decN xs = dn at *
  generalize decR xs = dr at *
  generalize ncodeR xs = nr at *
  generalize recvC xs = rc at *
  generalize decN us = du at *
  generalize recvC us = ru at *
  generalize errC us vs = ec at *
  generalize errR us vs = er at *
  go_wp2_with fail
  refine (likeInts_below _ _ _ _ _ dr _ (by omega) R1 R2).mono ?_
  rintro e w9 ⟨rfl, b9⟩
  clear R2
  have R0 := R0.below b9
  have R1 := R1.below b9
  have R3 := R3.below b9
  have R4 := R4.below b9
  have b9 := bnext b8 b9
  clear b8
  by_cases hec : ec = 0
  · subst hec
    have F := HF1.out (by first | rfl | trivial)
    obtain ⟨F1, F2⟩ := F
    subst F1
    clear HF1
    have F3 : ¬ er < du := by omega
    go_wp2_with fail
    refine (HL1.out _ R3).mono ?_
    rintro e w10 ⟨rfl, b10⟩
    have R0 := R0.below b10
    have R1 := R1.below b10
    have R3 := R3.below b10
    have R4 := R4.below b10
    have b10 := bnext b9 b10
    clear b9
    by_cases hq : rc = 0
    case neg =>
      have g1 : (rc == 0) = false := by simpa using hq
      have g2 : (rc != 0) = true := by simpa using hq
      clear hq
      go_wp2
      go_ret
      exact ⟨rfl, b10⟩
    subst hq
    go_wp2_with fail
    refine (HE.out _ (by first | rfl | trivial) R0 R1).mono ?_
    rintro e w11 ⟨rfl, b11⟩
    have R0 := R0.below b11
    have R1 := R1.below b11
    have R3 := R3.below b11
    have R4 := R4.below b11
    have b11 := bnext b10 b11
    clear b10
    go_wp2_with fail
    refine (HN.out _ R0).mono ?_
    rintro e w12 ⟨C1, l1, e1, rfl, S1, -, hl1, b12⟩
    have R0 := R0.below b12
    have R1 := R1.below b12
    have R3 := R3.below b12
    have R4 := R4.below b12
    have b12 := bnext b11 b12
    clear b11
    go_wp2_with fail
    refine (HB.out _ (by first | rfl | trivial) R1).mono ?_
    rintro e w13 ⟨C2, l2, e2, rfl, S2, -, hl2, b13, -⟩
    have R0 := R0.below b13
    have R1 := R1.below b13
    have R3 := R3.below b13
    have R4 := R4.below b13
    have S1 := S1.below b13
    have b13 := bnext b12 b13
    clear b12
    obtain rfl : l2 = l1 := S2.1.symm.trans S1.1
    go_wp2_with fail
    refine (likeInts_below _ _ _ _ _ nr _ (by omega) S1 S2).mono ?_
    rintro e w14 ⟨rfl, b14⟩
    have R0 := R0.below b14
    have R1 := R1.below b14
    have R3 := R3.below b14
    have R4 := R4.below b14
    have S1 := S1.below b14
    have S2 := S2.below b14
    have b14 := bnext b13 b14
    clear b13
    go_wp2
    go_ret
    exact ⟨rfl, b14⟩
  · have f1 : (ec == 0) = false := by simpa using hec
    have f2 : (ec != 0) = true := by simpa using hec
    clear hec HF1 HL1
    by_cases hq : rc = 0
    case neg =>
      have g1 : (rc == 0) = false := by simpa using hq
      have g2 : (rc != 0) = true := by simpa using hq
      clear hq
      go_wp2
      go_ret
      exact ⟨rfl, b9⟩
    subst hq
    go_wp2_with fail
    refine (HE.out _ (by first | rfl | trivial) R0 R1).mono ?_
    rintro e w10 ⟨rfl, b10⟩
    have R0 := R0.below b10
    have R1 := R1.below b10
    have R3 := R3.below b10
    have R4 := R4.below b10
    have b10 := bnext b9 b10
    clear b9
    go_wp2_with fail
    refine (HN.out _ R0).mono ?_
    rintro e w11 ⟨C1, l1, e1, rfl, S1, -, hl1, b11⟩
    have R0 := R0.below b11
    have R1 := R1.below b11
    have R3 := R3.below b11
    have R4 := R4.below b11
    have b11 := bnext b10 b11
    clear b10
    go_wp2_with fail
    refine (HB.out _ (by first | rfl | trivial) R1).mono ?_
    rintro e w12 ⟨C2, l2, e2, rfl, S2, -, hl2, b12, -⟩
    have R0 := R0.below b12
    have R1 := R1.below b12
    have R3 := R3.below b12
    have R4 := R4.below b12
    have S1 := S1.below b12
    have b12 := bnext b11 b12
    clear b11
    obtain rfl : l2 = l1 := S2.1.symm.trans S1.1
    go_wp2_with fail
    refine (likeInts_below _ _ _ _ _ nr _ (by omega) S1 S2).mono ?_
    rintro e w13 ⟨rfl, b13⟩
    have R0 := R0.below b13
    have R1 := R1.below b13
    have R3 := R3.below b13
    have R4 := R4.below b13
    have S1 := S1.below b13
    have S2 := S2.below b13
    have b13 := bnext b12 b13
    clear b12
    go_wp2
    go_ret
    exact ⟨rfl, b13⟩
end Go.Proofs.Ytlgmdekhlcbhoaa
