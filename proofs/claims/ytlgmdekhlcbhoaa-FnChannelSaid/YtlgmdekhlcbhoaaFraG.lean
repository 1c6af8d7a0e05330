/- Frames: the reference's side of sending. Condition: a valid frame. -/
import Derived.Test.YtlgmdekhlcbhoaaFraF
namespace Go.Proofs.Ytlgmdekhlcbhoaa
open Go.RowKit

def slN : Value → Nat
  | .slice _ n _ => n
  | _ => 0
set_option maxRecDepth 100000 in
set_option maxHeartbeats 2000000 in
theorem l30Send_any (h : FrameH) (l : FrameC) (w : World) (hr : RdAll w (FrameS h l)) (hok : FrO l) :
    Calls Try.prog 90 #[FrameV h l] w fun e w' => ∃ k : Hd, e = .returned (.slice k.A k.n k.c) ∧ Own w' w.heap.size 1 k (ints (sendL (frameC l))) ∧ Below w.heap.size w w' := by
  have HB : Hid (allIn (frameC l) 0 1 = true) := frameL_bits _ _ _
  have HL := Lib.hid (frameL_length l.kind l.number l.payload hok.len)
  obtain ⟨⟨AF, n2, c2⟩⟩ := h
  obtain ⟨x0, x1, l2⟩ := l
  have hb0 : Below w.heap.size w (w.alloc (.cells #[.int .i64 x0, .int .i64 x1, .slice AF n2 c2] 28)) := (Below.refl _ _).alloc (Nat.le_refl _) _
  have HF := Lib.hid (l25Frame_any ⟨⟨AF, n2, c2⟩⟩ ⟨x0, x1, l2⟩ _ (hr.below hb0) hok)
  have HQ : Hid (48 ≤ (frameC ⟨x0, x1, l2⟩).length ∧ (frameC ⟨x0, x1, l2⟩).length ≤ 284) := HL.out
  clear hr hok HL
  generalize frameC ⟨x0, x1, l2⟩ = q at *
  unfold FrameV at *
  simp only at *
  go_enter Try.func90, Try.ntmps90
  go_wp2_with fail
  refine HF.out.mono ?_
  rintro e w1 ⟨⟨AQ, n1, c1⟩, rfl, O1, b1⟩
  have bw := hb0.trans (b1.mono hb0.size)
  have R1 := O1.rd1
  simp only at R1
  have HL1 : Hid (q.length = n1) := R1.len
  have hn1 : 48 ≤ n1 ∧ n1 ≤ 284 := by have := HQ.out; rw [HL1.out] at this; exact this
  obtain ⟨hn1a, hn1b⟩ := hn1
  clear HF hb0 b1 O1 HQ
  go_wp2_with fail
  refine (l27Encode_any AQ n1 c1 q _ (by omega) R1 HB.out).mono ?_
  rintro e w2 ⟨v, rfl, OW, b2⟩
  obtain ⟨⟨B2, m2, d2⟩, rfl, hm2, O2, _⟩ := Own.of_row (by decide) OW
  simp only at hm2
  subst hm2
  have bw2 := bnext bw b2
  have O2 := O2.mono bw.size
  have hrw : 2 * (n1 + 2) ≤ 16 * rowsOf n1 ∧ 16 * rowsOf n1 ≤ 640 ∧ 1 ≤ rowsOf n1 ∧ 16 * rowsOf n1 < 2 * (n1 + 2) + 16 := by unfold rowsOf; omega
  have HR := Lib.hid hrw
  have HP : Hid (padL q = enc q ++ List.replicate (16 * rowsOf n1 - 2 * (n1 + 2)) 0) := by unfold Hid padL; rw [HL1.out]
  have HS : Hid (sendL q = ileav (padL q) (rowsOf n1)) := by unfold Hid sendL; rw [HL1.out]
  clear hrw OW b2 bw R1
  generalize rowsOf n1 = m at *
  have hdiv : Int.tdiv (16 * (m : Int)) 16 = m := by rw [Int.tdiv_eq_ediv_of_nonneg (by omega)]; omega
  have hm40 : m ≤ 40 ∧ 1 ≤ m := by have := HR.out; omega
  obtain ⟨hm40, hm1⟩ := hm40
  generalize hN0 : 2 * (n1 + 2) = N0 at *
  have HN0 := Lib.hid hN0
  clear hN0
  have OZ : Own w2 w.heap.size 1 ⟨B2, N0, d2⟩ (ints (enc q ++ List.replicate 0 0)) := by rw [show List.replicate 0 (0 : Int) = [] from rfl, List.append_nil]; exact O2
  have hsz00 : w.heap.size ≤ w.heap.size := Nat.le_refl _
  clear O2
  have hp15 : 16 * m - N0 ≤ 15 := by have := HR.out; omega
  go_wp2
  go_loopw [3] (fun v wr => ∃ (j : Nat) (hb : Hd), j ≤ 16 * m - N0 ∧ v = .slice hb.A hb.n hb.c ∧ hb.n = N0 + j ∧ Own wr w.heap.size 1 hb (ints (enc q ++ List.replicate j 0)) ∧ Below w.heap.size w wr) (fun v _ => 16 * m - slN v)
  case atStart => exact ⟨0, ⟨B2, N0, d2⟩, Nat.zero_le _, rfl, rfl, OZ, bw2⟩
  case round =>
    clear OZ bw2
    obtain ⟨j, ⟨bA, bn, bc⟩, hj, rfl, hbn, OB, hbel⟩ := hrel
    simp only at hbn
    have HBN := Lib.hid hbn
    clear hbn
    have hsz := hbel.size
    by_cases hlt : j < 16 * m - N0
    · have hmod : Int.tmod (bn : Int) 16 = ((bn % 16 : Nat) : Int) := by rw [Int.tmod_eq_emod_of_nonneg (by omega)]; omega
      have hr0 : 0 < bn % 16 := by have := HR.out; have := HBN.out; omega
      have hr1 : bn % 16 < 16 := Nat.mod_lt _ (by decide)
      have hbn6 : bn < 16 * m := by have := HR.out; have := HBN.out; omega
      have HT : Hid (List.replicate (j + 1) (0 : Int) = List.replicate j 0 ++ [0]) := List.replicate_succ'
      generalize bn % 16 = r at *
      have hrI : ¬ ((r : Int) = 0) := by omega
      generalize List.replicate j (0 : Int) = Z at *
      go_wp2_with (at_builtin; refine wpList_append_Own rfl _ _ 22 rfl 2 1 8 Try.underlying22 Int64_info (by decide) w.heap.size ⟨bA, bn, bc⟩ _ rfl (OB.below ((Below.refl _ _).alloc (Nat.le_refl _) _)) _ 1 1 (ints [0]) rfl (by rw [Nat.mul_one]; exact rd_one _ _ _) (oneCell_ints _) (by first | omega | (simp only; omega)) (by decide) (Nat.le_trans hsz (by simp)) ?_; intro k2 w3 hk2 hO2 gg hat)
      have HK2 := Lib.hid hk2
      clear hk2
      go_roundw
      case rel => exact ⟨j + 1, k2, by omega, (by first | rfl | rw [HK2.out]), by rw [HK2.out, HBN.out]; rfl, by rw [HT.out, ← List.append_assoc, ints_append]; exact hO2, bstepg (hbel.trans (((Below.refl _ _).alloc (Nat.le_refl _) _).mono hsz)) gg hsz00 (fun b e => (OB.rowlt b e).1)⟩
      case measure => simp [slN]; omega
    · have hj' : j = 16 * m - N0 := by omega
      have hbn' : bn = 16 * m := by have := HR.out; have := HBN.out; omega
      subst hbn'
      have hmod : Int.tmod (16 * (m : Int)) 16 = 0 := by rw [Int.tmod_eq_emod_of_nonneg (by omega)]; omega
      have OB' := OB
      rw [hj', ← HP.out] at OB'
      have HM : Hid (16 * m = 16 * m) := rfl
      clear hj hlt hj' OB
      go_wp2_with fail
      refine (l26Interleave_any bA (16 * m) bc m (padL q) _ hm40 rfl OB'.rd1).mono ?_
      rintro e w4 ⟨⟨A4, n4, c4⟩, rfl, O4, b4⟩
      go_wp2
      go_ret
      exact ⟨⟨A4, n4, c4⟩, rfl, by rw [HS.out]; exact O4.mono hbel.size, bnext hbel b4⟩
end Go.Proofs.Ytlgmdekhlcbhoaa
