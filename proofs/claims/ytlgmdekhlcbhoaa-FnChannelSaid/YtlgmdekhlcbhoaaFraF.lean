/- Frames: interleaving, both sides; a frame's channel bits. Condition: width 16, at most 40 rows; a valid frame. -/
import Derived.Test.YtlgmdekhlcbhoaaFraE
import Derived.Test.YtlgmdekhlcbhoaaEnc
namespace Go.Proofs.Ytlgmdekhlcbhoaa
open Go.RowKit

set_option maxRecDepth 100000 in
set_option maxHeartbeats 2000000 in
theorem interleave_any (A : Option Addr) (n c m : Nat) (xs : List Int) (w : World) (h1 : 1 ≤ m) (hm : m ≤ 40) (hn : n = 16 * m) (hr : Rd w A n (ints xs)) (hbits : allIn xs 0 1 = true) :
    Calls Try.prog 148 #[.slice A n c, .int .i64 m, .int .i64 16] w fun e w' => ∃ h : Hd, e = .returned (.tuple #[.slice h.A h.n h.c, .int .i64 0]) ∧ Own w' w.heap.size 1 h (ints (ileav xs m)) ∧ Below w.heap.size w w' := by
  have HN := Lib.hid hn
  have HE : Hid (ileav xs m = ileavTo xs m n) := by unfold Hid ileav; rw [hn]
  have hn6 : n ≤ 640 := by omega
  clear hn
  go_enter Try.func148, Try.ntmps148
  go_wp2_with fail
  refine (tableCode_any A n c m xs _ h1 hm HN.out hr hbits).mono ?_
  rintro e w' ⟨rfl, rfl⟩
  go_wp2_with fail
  refine (places_any m _ hm).mono ?_
  rintro e w1 ⟨⟨B, pn, pc⟩, rfl, OP, b1⟩
  have hr1 := hr.below b1
  have RP := OP.rd1
  have hpl : n = pn := by have := RP.len; rw [plc_length] at this; exact HN.out.trans this
  simp only at RP
  subst hpl
  have O0 := Own.nil w1 w1.heap.size 1
  have hs1 := b1.size
  clear OP hr
  go_wp2
  go_loopw [9, 23] (fun v i wr => ∃ (k : Nat) (hb : Hd), k ≤ n ∧ i = .int .i64 k ∧ v = .slice hb.A hb.n hb.c ∧ hb.n = k ∧ Own wr w1.heap.size 1 hb (ints (ileavTo xs m k)) ∧ Below w1.heap.size w1 wr) (fun _ i _ => n - (intOf i).toNat)
  case atStart => exact ⟨0, ⟨none, 0, 0⟩, Nat.zero_le _, rfl, rfl, rfl, O0, Below.refl _ _⟩
  case round =>
    clear O0
    obtain ⟨k, ⟨bA, bn, bc⟩, hk, rfl, rfl, hbn, OB, hbel⟩ := hrel
    simp only at hbn
    subst hbn
    have hsz := hbel.size
    have hsz0 : w1.heap.size ≤ w1.heap.size := Nat.le_refl _
    by_cases hlt : bn < n
    · obtain ⟨ad, rfl, hx⟩ := (RP.below hbel).int hlt
      have hpb := plc_bd (m := m) (t := bn) (by rw [← HN.out]; exact hlt)
      obtain ⟨xd, rfl, hy⟩ := (hr1.below hbel).int (show ((plc m).getD bn 0).toNat < n by rw [HN.out]; omega)
      have HM := Lib.hid (ileavTo_succ xs m bn)
      generalize (plc m).getD bn 0 = p at *
      generalize xs.getD p.toNat 0 = x at *
      obtain ⟨q, rfl⟩ : ∃ q : Nat, p = q := ⟨p.toNat, by omega⟩
      rw [Int.toNat_natCast] at hy
      have hqn : q < n := by rw [HN.out]; omega
      have hqI : (q : Int) < (n : Int) := by omega
      clear hpb
      generalize ileavTo xs m bn = L at *
      go_wp2_with (at_builtin; refine wpList_append_Own rfl _ _ 22 rfl 2 1 8 Try.underlying22 Int64_info (by decide) w1.heap.size ⟨bA, bn, bc⟩ _ rfl (OB.below ((Below.refl _ _).alloc (Nat.le_refl _) _)) _ 1 1 (ints [x]) rfl (by rw [Nat.mul_one]; exact rd_one _ _ _) (oneCell_ints _) (by first | omega | (simp only; omega)) (by decide) (Nat.le_trans hsz (by simp)) ?_; intro k2 w2 hk2 hO2 gg hat)
      have HK2 := Lib.hid hk2
      clear hk2
      go_roundw
      case rel => exact ⟨bn + 1, k2, by omega, by go_num, (by first | rfl | rw [HK2.out]), HK2.out, by rw [HM.out, ints_append]; exact hO2, bstepg (hbel.trans (((Below.refl _ _).alloc (Nat.le_refl _) _).mono hsz)) gg hsz0 (fun b e => (OB.rowlt b e).1)⟩
      case measure => simp [intOf]; omega
    · obtain rfl : bn = n := by omega
      go_wp2
      go_ret2
      exact ⟨⟨bA, _, bc⟩, rfl, by rw [HE.out]; exact OB.mono hs1, bnext b1 hbel⟩

set_option maxRecDepth 100000 in
set_option maxHeartbeats 2000000 in
theorem l26Interleave_any (A : Option Addr) (n c m : Nat) (xs : List Int) (w : World) (hm : m ≤ 40) (hn : n = 16 * m) (hr : Rd w A n (ints xs)) :
    Calls Try.prog 147 #[.slice A n c, .int .i64 m, .int .i64 16] w fun e w' => ∃ h : Hd, e = .returned (.slice h.A h.n h.c) ∧ Own w' w.heap.size 1 h (ints (ileav xs m)) ∧ Below w.heap.size w w' := by
  have HN := Lib.hid hn
  have HE : Hid (ileav xs m = ileavTo xs m n) := by unfold Hid ileav; rw [hn]
  have hn6 : n ≤ 640 := by omega
  clear hn
  go_enter Try.func147, Try.ntmps147
  go_wp2_with fail
  refine (l26From_any m _ hm).mono ?_
  rintro e w0 ⟨⟨B, pn, pc⟩, rfl, OP, b0⟩
  have hs0 := b0.size
  have hpl : n = pn := by have := OP.rd1.len; rw [plc_length] at this; exact HN.out.trans this
  subst hpl
  go_wp2
  have b1 : Below w.heap.size w (w0.alloc (.cells #[] 2)) := bnext b0 ((Below.refl _ _).alloc (Nat.le_refl _) _)
  have RP := (OP.below ((Below.refl _ _).alloc (Nat.le_refl _) (.cells #[] 2))).rd1
  simp only at RP
  have O0 : Own (w0.alloc (.cells #[] 2)) (w0.alloc (.cells #[] 2)).heap.size 1 ⟨some ⟨w0.heap.size, 0, none⟩, 0, 0⟩ (ints []) := Own.empty _ _ _ _
  have hr1 := hr.below b1
  have hs1 := b1.size
  clear OP hr b0 hs0
  generalize hAA : (some ⟨w0.heap.size, 0, none⟩ : Option Addr) = AA at O0 ⊢
  clear hAA
  generalize w0.alloc (.cells #[] 2) = w1 at *
  go_loopw [8, 9] (fun v i wr => ∃ (k : Nat) (hb : Hd), k ≤ n ∧ i = .int .i64 k ∧ v = .slice hb.A hb.n hb.c ∧ hb.n = k ∧ Own wr w1.heap.size 1 hb (ints (ileavTo xs m k)) ∧ Below w1.heap.size w1 wr) (fun _ i _ => n - (intOf i).toNat)
  case atStart => exact ⟨0, ⟨AA, 0, 0⟩, Nat.zero_le _, rfl, rfl, rfl, O0, Below.refl _ _⟩
  case round =>
    clear O0
    obtain ⟨k, ⟨bA, bn, bc⟩, hk, rfl, rfl, hbn, OB, hbel⟩ := hrel
    simp only at hbn
    subst hbn
    have hsz := hbel.size
    have hsz0 : w1.heap.size ≤ w1.heap.size := Nat.le_refl _
    by_cases hlt : bn < n
    · obtain ⟨ad, rfl, hx⟩ := (RP.below hbel).int hlt
      have hpb := plc_bd (m := m) (t := bn) (by rw [← HN.out]; exact hlt)
      obtain ⟨xd, rfl, hy⟩ := (hr1.below hbel).int (show ((plc m).getD bn 0).toNat < n by rw [HN.out]; omega)
      have HM := Lib.hid (ileavTo_succ xs m bn)
      generalize (plc m).getD bn 0 = p at *
      generalize xs.getD p.toNat 0 = x at *
      obtain ⟨q, rfl⟩ : ∃ q : Nat, p = q := ⟨p.toNat, by omega⟩
      rw [Int.toNat_natCast] at hy
      have hqn : q < n := by rw [HN.out]; omega
      have hqI : (q : Int) < (n : Int) := by omega
      clear hpb
      generalize ileavTo xs m bn = L at *
      go_wp2_with (at_builtin; refine wpList_append_Own rfl _ _ 22 rfl 2 1 8 Try.underlying22 Int64_info (by decide) w1.heap.size ⟨bA, bn, bc⟩ _ rfl (OB.below ((Below.refl _ _).alloc (Nat.le_refl _) _)) _ 1 1 (ints [x]) rfl (by rw [Nat.mul_one]; exact rd_one _ _ _) (oneCell_ints _) (by first | omega | (simp only; omega)) (by decide) (Nat.le_trans hsz (by simp)) ?_; intro k2 w2 hk2 hO2 gg hat)
      have HK2 := Lib.hid hk2
      clear hk2
      go_roundw
      case rel => exact ⟨bn + 1, k2, by omega, by go_num, (by first | rfl | rw [HK2.out]), HK2.out, by rw [HM.out, ints_append]; exact hO2, bstepg (hbel.trans (((Below.refl _ _).alloc (Nat.le_refl _) _).mono hsz)) gg hsz0 (fun b e => (OB.rowlt b e).1)⟩
      case measure => simp [intOf]; omega
    · obtain rfl : bn = n := by omega
      go_wp2
      go_ret
      exact ⟨⟨bA, _, bc⟩, rfl, by rw [HE.out]; exact OB.mono hs1, bnext b1 hbel⟩

/-- The channel's rows for a frame of n bits, the bits with zeros behind, and what is sent. -/
def rowsOf (n : Nat) : Nat := (2 * (n + 2) + 15) / 16
def padL (xs : List Int) : List Int := enc xs ++ List.replicate (16 * rowsOf xs.length - 2 * (xs.length + 2)) 0
def sendL (xs : List Int) : List Int := ileav (padL xs) (rowsOf xs.length)
theorem chLen_rows (n : Nat) : chLen n = 16 * (rowsOf n : Int) := by unfold chLen rowsOf; omega
theorem sendL_length (xs : List Int) : (sendL xs).length = 16 * rowsOf xs.length := ileav_length _ _
theorem padL_bits {xs : List Int} (h : allIn xs 0 1 = true) : allIn (padL xs) 0 1 = true := by
  unfold padL
  have h1 : allIn (enc xs) 0 1 = true := codeTo_bits h _
  unfold allIn at *
  rw [List.all_append, h1, Bool.true_and, List.all_eq_true]
  intro x hx
  have := List.eq_of_mem_replicate hx
  subst this; rfl
theorem sendL_bits {xs : List Int} (h : allIn xs 0 1 = true) : allIn (sendL xs) 0 1 = true := ileav_bits (padL_bits h)

theorem tI64_kind : Try.prog.underlying 2 = some (.int .i64) := by kernel_rfl
set_option maxRecDepth 100000 in
set_option maxHeartbeats 2000000 in
theorem send_any (h : FrameH) (l : FrameC) (w : World) (hr : RdAll w (FrameS h l)) (hok : FrO l) :
    Calls Try.prog 91 #[FrameV h l] w fun e w' => ∃ k : Hd, e = .returned (.slice k.A k.n k.c) ∧ Own w' w.heap.size 1 k (ints (sendL (frameC l))) ∧ Below w.heap.size w w' := by
  have HB : Hid (allIn (frameC l) 0 1 = true) := frameL_bits _ _ _
  have HL := Lib.hid (frameL_length l.kind l.number l.payload hok.len)
  obtain ⟨⟨AF, n2, c2⟩⟩ := h
  obtain ⟨x0, x1, l2⟩ := l
  have hb0 : Below w.heap.size w (w.alloc (.cells #[.int .i64 x0, .int .i64 x1, .slice AF n2 c2] 28)) := (Below.refl _ _).alloc (Nat.le_refl _) _
  have HF := Lib.hid (frameBits_any ⟨⟨AF, n2, c2⟩⟩ ⟨x0, x1, l2⟩ _ (hr.below hb0) hok)
  have HQ : Hid (48 ≤ (frameC ⟨x0, x1, l2⟩).length ∧ (frameC ⟨x0, x1, l2⟩).length ≤ 284) := HL.out
  clear hr hok HL
  generalize frameC ⟨x0, x1, l2⟩ = q at *
  unfold FrameV at *
  simp only at *
  go_enter Try.func91, Try.ntmps91
  go_wp2_with fail
  refine HF.out.mono ?_
  rintro e w1 ⟨⟨AQ, n1, c1⟩, rfl, O1, b1⟩
  have bw := hb0.trans (b1.mono hb0.size)
  have R1 := O1.rd1
  simp only at R1
  have HL1 : Hid (q.length = n1) := R1.len
  have hn1 : 48 ≤ n1 ∧ n1 ≤ 284 := by have := HQ.out; rw [HL1.out] at this; exact this
  obtain ⟨hn1a, hn1b⟩ := hn1
  clear HF hb0 b1 O1 HQ
  go_wp2_with fail
  refine (encode_any AQ n1 c1 q _ (by omega) R1 HB.out).mono ?_
  rintro e w2 ⟨v, rfl, OW, b2⟩
  obtain ⟨⟨B2, m2, d2⟩, rfl, hm2, O2, _⟩ := Own.of_row (by decide) OW
  simp only at hm2
  subst hm2
  have bw2 := bnext bw b2
  have O2 := O2.mono bw.size
  have hrow := chLen_rows n1
  have hrw : 2 * (n1 + 2) ≤ 16 * rowsOf n1 ∧ 16 * rowsOf n1 ≤ 640 ∧ 1 ≤ rowsOf n1 := by unfold rowsOf; omega
  have HR := Lib.hid hrw
  have HP : Hid (padL q = enc q ++ List.replicate (16 * rowsOf n1 - 2 * (n1 + 2)) 0) := by unfold Hid padL; rw [HL1.out]
  have HS : Hid (sendL q = ileav (padL q) (rowsOf n1)) := by unfold Hid sendL; rw [HL1.out]
  have HRW := Lib.hid hrow
  clear hrow hrw OW b2 bw R1
  generalize rowsOf n1 = m at *
  obtain ⟨i0, hi0, hz0, hz1, hz2⟩ := info_parts int64_info
  obtain ⟨h3, w3, hrun, hn3, O3, g3⟩ := run_append_zeros_Own (P := Try.prog) w2 22 2 22 2 i0 Try.underlying22 tI64_kind hi0 hz0 hz1 hz2 w.heap.size ⟨B2, 2 * (n1 + 2), d2⟩ (enc q) O2 (by simp only; omega) (16 * m - 2 * (n1 + 2)) (by simp only; have := HR.out; omega) bw2.size
  have HRUN := Lib.hid hrun
  have hn3' : h3.n = 16 * m := by have := HR.out; simp only at hn3; omega
  have HN3 := Lib.hid hn3'
  have hdiv : Int.tdiv (16 * (m : Int)) 16 = m := by rw [Int.tdiv_eq_ediv_of_nonneg (by omega)]; omega
  have hm40 : m ≤ 40 ∧ 1 ≤ m := by have := HR.out; omega
  obtain ⟨hm40, hm1⟩ := hm40
  clear hrun hn3 hn3' hi0 hz0 hz1 hz2
  go_wp2_with (first | (go_at_call 100; refine (lengthInt_any _ _ _ _ (by omega)).mono ?_; rintro e w' ⟨rfl, rfl⟩) | (go_at_call 101; refine (channelLength_any _ _ (by omega) (by omega)).mono ?_; rintro e w' ⟨rfl, rfl⟩; rw [HRW.out]) | (at_builtin; refine Lib.wpList_append_run _ rfl _ _ _ _ rfl _ _ rfl (show _ = Value.int .i64 ((16 * m - 2 * (n1 + 2) : Nat) : Int) from congrArg (Value.int .i64) (by have := HR.out; omega)) _ _ HRUN.out ?_))
  refine (interleave_any h3.A h3.n h3.c m (padL q) _ hm1 hm40 HN3.out (by rw [HP.out]; exact O3.rd1) (padL_bits HB.out)).mono ?_
  rintro e w4 ⟨⟨A4, n4, c4⟩, rfl, O4, b4⟩
  have b3 : Below w.heap.size w w3 := bstepg bw2 g3 (Nat.le_refl _) (fun b e => (O2.rowlt b e).1)
  go_wp2
  go_ret
  exact ⟨⟨A4, n4, c4⟩, rfl, by rw [HS.out]; exact O4.mono b3.size, bnext b3 b4⟩
end Go.Proofs.Ytlgmdekhlcbhoaa
