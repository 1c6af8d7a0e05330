/- Frames: the bits of a frame, the reference's side. Condition: a valid frame. -/
import Derived.Test.YtlgmdekhlcbhoaaFraC
namespace Go.Proofs.Ytlgmdekhlcbhoaa
open Go.RowKit

theorem byteBits_take (x : Int) {j : Nat} (h : j < 8) : (byteBits x).take (j + 1) = (byteBits x).take j ++ [x / ((2 ^ (7 - j) : Nat) : Int) % 2] := by
  have hl : j < (byteBits x).length := by rw [byteBits_length]; exact h
  rw [List.take_succ_eq_append_getElem hl, ← getD_at hl]
  have : (byteBits x).getD j 0 = x / ((2 ^ (7 - j) : Nat) : Int) % 2 := range_map_getD _ h
  rw [this]
theorem byteBits_all (x : Int) : (byteBits x).take 8 = byteBits x := List.take_of_length_le (by rw [byteBits_length]; exact Nat.le_refl _)
set_option maxRecDepth 100000 in
set_option maxHeartbeats 4000000 in
theorem l25Frame_any (h : FrameH) (l : FrameC) (w : World) (hr : RdAll w (FrameS h l)) (hok : FrO l) :
    Calls Try.prog 117 #[FrameV h l] w fun e w' => ∃ k : Hd, e = .returned (.slice k.A k.n k.c) ∧ Own w' w.heap.size 1 k (ints (frameC l)) ∧ Below w.heap.size w w' := by
  have r2 := hr.head
  obtain ⟨⟨A2, n2, c2⟩⟩ := h
  obtain ⟨x0, x1, l2⟩ := l
  have HO := Lib.hid hok
  have HL := Lib.hid r2.len
  have hn2 : n2 ≤ 24 := by have := HO.out.len; have := HL.out; simp only at *; omega
  clear hr hok
  unfold FrameV
  simp only at *
  have hb0 : Below w.heap.size w ((w.alloc (.cells #[.int .i64 x0, .int .i64 x1, .slice A2 n2 c2] 28)).alloc (.cells #[.int .i64 x0, .int .i64 x1] 2)) := ((Below.refl _ _).alloc (Nat.le_refl _) _).alloc (by simp) _
  have O0 : Own ((w.alloc (.cells #[.int .i64 x0, .int .i64 x1, .slice A2 n2 c2] 28)).alloc (.cells #[.int .i64 x0, .int .i64 x1] 2)) w.heap.size 1 ⟨some ⟨w.heap.size + 1, 0, none⟩, 2, 2⟩ (ints [x0, x1]) := by
    have h := lit_own (w.alloc (.cells #[.int .i64 x0, .int .i64 x1, .slice A2 n2 c2] 28)) [x0, x1] 2 w.heap.size (by simp) (show 2 ≤ 1000 by decide)
    rw [show (w.alloc (.cells #[.int .i64 x0, .int .i64 x1, .slice A2 n2 c2] 28)).heap.size = w.heap.size + 1 by simp] at h
    exact h
  have R2 := r2.below hb0
  go_enter Try.func117, Try.ntmps117
  go_wp2_with (at_builtin; refine wpList_append_Own rfl _ _ 22 rfl 2 1 8 Try.underlying22 Int64_info (by decide) w.heap.size ⟨some ⟨w.heap.size + 1, 0, none⟩, 2, 2⟩ (ints [x0, x1]) rfl O0 A2 n2 c2 (ints l2) rfl (by rw [Nat.mul_one]; exact R2) (oneCell_ints _) (by simp only; omega) (by decide) hb0.size ?_; intro h1 w1 hk1 O1 g1 hat1)
  rw [← ints_append, show [x0, x1] ++ l2 = bytesL x0 x1 l2 from rfl] at O1
  have b1 : Below w.heap.size w w1 := bstepg hb0 g1 (Nat.le_refl _) (fun b e => (O0.rowlt b e).1)
  obtain ⟨q, hq⟩ : ∃ q, q = 2 + n2 := ⟨_, rfl⟩
  have HBY := Lib.hid HO.out.bytes
  have O1q := O1.cast (hk1.trans hq.symm)
  rw [← hq]
  have HQ : Hid (q = n2 + 2) := by unfold Hid; omega
  have hq26 : q ≤ 26 := by omega
  clear O1 hq
  have O1 := O1q
  clear O1q
  generalize h1.A = B1 at *
  generalize h1.c = d1 at *
  clear hb0 O0 R2 r2 g1 hat1 hk1 h1
  go_wp2_with fail
  refine (l25Check_any B1 q d1 (bytesL x0 x1 l2) _ (by omega) O1.rd1 HBY.out).mono ?_
  rintro e w' ⟨rfl, rfl⟩
  have hcb := crc_bd (bytesL x0 x1 l2) q
  have HIN : Hid (innerL x0 x1 l2 = bytesL x0 x1 l2 ++ [crc (bytesL x0 x1 l2) q / 256, crc (bytesL x0 x1 l2) q % 256]) := by unfold Hid innerL checkN; rw [HL.out, HQ.out]
  generalize crc (bytesL x0 x1 l2) q = r at *
  have e1 : r.tdiv 256 = r / 256 := Int.tdiv_eq_ediv_of_nonneg hcb.1
  have e2 : r.tmod 256 = r % 256 := Int.tmod_eq_emod_of_nonneg hcb.1
  have hs1 := b1.size
  go_wp2_with (at_builtin; refine wpList_append_Own rfl _ _ 22 rfl 2 1 8 Try.underlying22 Int64_info (by decide) w.heap.size ⟨B1, q, d1⟩ (ints (bytesL x0 x1 l2)) rfl (O1.below ((Below.refl _ _).alloc (Nat.le_refl _) _)) _ 2 2 (ints [r / 256, r % 256]) rfl (by rw [Nat.mul_one]; exact rd_pair _ _ _ _) (oneCell_ints _) (by simp only; omega) (by decide) (Nat.le_trans hs1 (by simp)) ?_; intro h2 w3 hk2 O2 g2 hat2)
  rw [← ints_append, ← HIN.out] at O2
  have b3 : Below w.heap.size w w3 := bstepg (b1.trans (((Below.refl w1.heap.size w1).alloc (Nat.le_refl _) _).mono hs1)) g2 (Nat.le_refl _) (fun b e => (O1.rowlt b e).1)
  have h2n : h2.n = q + 2 := hk2
  have HI := Lib.hid HO.out.inner
  have HIL : Hid ((innerL x0 x1 l2).length = q + 2) := by unfold Hid; rw [innerL_length, HL.out, HQ.out]
  obtain ⟨B2, m2, d2⟩ := h2
  simp only at h2n
  have O2' := O2
  have HFR : Hid (frameC ⟨x0, x1, l2⟩ = flagL ++ stuffL (bytesTo (innerL x0 x1 l2) (q + 2)) ++ flagL) := by unfold Hid frameC frameL rawL; simp only; rw [HL.out, HQ.out]
  subst h2n
  clear hk2 hat2 g2 O1 O2 b1 hs1 hcb HIN HBY e1 e2
  generalize innerL x0 x1 l2 = inner at *
  have R2 : Rd w3 B2 (q + 2) (ints inner) := O2'.rd1
  clear O2'
  go_wp2_with fail
  have ba : Below w3.heap.size w3 (w3.alloc (.cells #[] 2)) := (Below.refl _ _).alloc (Nat.le_refl _) _
  have R2 := R2.below ba
  have b4 := bnext b3 ba
  have OE : Own (w3.alloc (.cells #[] 2)) w3.heap.size 1 ⟨some ⟨w3.heap.size, 0, none⟩, 0, 0⟩ (ints []) := Own.empty _ _ _ _
  have hrowE : ∀ b, (⟨some ⟨w3.heap.size, 0, none⟩, 0, 0⟩ : Hd).row = some b → w3.heap.size + 1 ≤ b := fun b e => by simp [Hd.row] at e
  have hz4 : (w3.alloc (.cells #[] 2)).heap.size = w3.heap.size + 1 := by simp
  have OE2 : Own (w3.alloc (.cells #[] 2)) (w3.heap.size + 1) 1 ⟨some ⟨w3.heap.size, 0, none⟩, 0, 0⟩ (ints []) := Own.empty _ _ _ _
  rw [← hz4] at OE2
  generalize hHd : (⟨some ⟨w3.heap.size, 0, none⟩, 0, 0⟩ : Hd) = hd0 at OE2
  obtain ⟨hA0, hn0, hc0⟩ := hd0
  injection hHd with y1 y2 y3
  subst y1 y2 y3
  clear OE hrowE hz4 ba b3
  generalize hAA : (some ⟨w3.heap.size, 0, none⟩ : Option Addr) = AA at OE2 ⊢
  clear hAA
  generalize w3.alloc (.cells #[] 2) = w4 at R2 b4 OE2 ⊢
  go_loopw [5, 6] (fun v i wr => ∃ (k : Nat) (hb : Hd), k ≤ q + 2 ∧ i = .int .i64 k ∧ v = .slice hb.A hb.n hb.c ∧ hb.n = 8 * k ∧ Own wr w4.heap.size 1 hb (ints (bytesTo inner k)) ∧ Below w4.heap.size w4 wr) (fun _ i _ => q + 2 - (intOf i).toNat)
  case atStart => exact ⟨0, ⟨AA, 0, 0⟩, Nat.zero_le _, rfl, rfl, rfl, OE2, Below.refl _ _⟩
  case round =>
    clear OE2
    obtain ⟨k, hb, hk, rfl, rfl, hbn, OB, hbel⟩ := hrel
    have HBN := Lib.hid hbn
    clear hbn
    have hsz := hbel.size
    by_cases hlt : k < q + 2
    · have RX := fun (W : World) (b : Below w4.heap.size w4 W) => (R2.below b).int hlt
      have hbd := allIn_getD HI.out (show k < inner.length by rw [HIL.out]; exact hlt)
      have HM := Lib.hid (bytesTo_succ inner k)
      have hk0 : (0 : Int) ≤ (k : Int) := by omega
      have hltI : (k : Int) < (q : Int) + 2 := by omega
      generalize inner.getD k 0 = x at *
      generalize bytesTo inner k = L at *
      go_wp2
      go_loopw [5, 7] (fun v i wq => ∃ (j : Nat) (hb : Hd), j ≤ 8 ∧ i = .int .u64 (8 - (j : Int)) ∧ v = .slice hb.A hb.n hb.c ∧ hb.n = 8 * k + j ∧ Own wq w4.heap.size 1 hb (ints (L ++ (byteBits x).take j)) ∧ Below w4.heap.size w4 wq) (fun _ i _ => (intOf i).toNat)
      case atStart => exact ⟨0, hb, by omega, rfl, rfl, by have := HBN.out; omega, by rw [List.take_zero, List.append_nil]; exact OB, hbel⟩
      case round =>
        clear OB hbel hsz HBN
        obtain ⟨j, hb, hj, rfl, rfl, hbn, OB, bi⟩ := hrel
        have HBN := Lib.hid hbn
        clear hbn
        have hsz2 := bi.size
        have hsz0 : w4.heap.size ≤ w4.heap.size := Nat.le_refl _
        by_cases hj8 : j = 8
        · subst hj8
          rw [byteBits_all, ← HM.out] at OB
          go_wp2
          go_roundw
          case rel => exact ⟨k + 1, hb, by omega, by go_num, rfl, by have := HBN.out; omega, OB, bi⟩
          case measure => simp [intOf]; omega
        have hjl : j < 8 := by omega
        clear hj8
        obtain ⟨ad, hAd, hx⟩ := RX _ bi
        subst hAd
        have HT := Lib.hid (byteBits_take x hjl)
        have hbn6 : hb.n ≤ 1000 := by have := HBN.out; omega
        rcases (show j = 0 ∨ j = 1 ∨ j = 2 ∨ j = 3 ∨ j = 4 ∨ j = 5 ∨ j = 6 ∨ j = 7 by omega) with rfl | rfl | rfl | rfl | rfl | rfl | rfl | rfl
        · have hbv : bits .and .i64 (x / 128) 1 = (x / 128) % 2 := and1 (by omega) (by omega)
          have HM2 := HT.out
          rw [show x / ((2 ^ (7 - 0) : Nat) : Int) = x / 128 from rfl] at HM2
          have HM3 := Lib.hid HM2
          clear HM2
          go_wp2_with (at_builtin; refine wpList_append_Own rfl _ _ 22 rfl 2 1 8 Try.underlying22 Int64_info (by decide) w4.heap.size hb _ rfl (OB.below ((Below.refl _ _).alloc (Nat.le_refl _) _)) _ 1 1 (ints [(x / 128) % 2]) rfl (by rw [Nat.mul_one]; exact rd_one _ _ _) (oneCell_ints _) (by omega) (by decide) (Nat.le_trans hsz2 (by simp)) ?_; intro k2 w2 hk2 hO2 gg hat)
          have HK2 := Lib.hid hk2
          clear hk2
          go_roundw
          case rel => exact ⟨1, k2, by omega, by go_num, by rw [HK2.out], by have := HK2.out; have := HBN.out; omega, by rw [HM3.out, ← List.append_assoc, ints_append]; exact hO2, bstepg (bi.trans (((Below.refl _ _).alloc (Nat.le_refl _) _).mono hsz2)) gg hsz0 (fun b e => (OB.rowlt b e).1)⟩
          case measure => simp [intOf]
        · have hbv : bits .and .i64 (x / 64) 1 = (x / 64) % 2 := and1 (by omega) (by omega)
          have HM2 := HT.out
          rw [show x / ((2 ^ (7 - 1) : Nat) : Int) = x / 64 from rfl] at HM2
          have HM3 := Lib.hid HM2
          clear HM2
          go_wp2_with (at_builtin; refine wpList_append_Own rfl _ _ 22 rfl 2 1 8 Try.underlying22 Int64_info (by decide) w4.heap.size hb _ rfl (OB.below ((Below.refl _ _).alloc (Nat.le_refl _) _)) _ 1 1 (ints [(x / 64) % 2]) rfl (by rw [Nat.mul_one]; exact rd_one _ _ _) (oneCell_ints _) (by omega) (by decide) (Nat.le_trans hsz2 (by simp)) ?_; intro k2 w2 hk2 hO2 gg hat)
          have HK2 := Lib.hid hk2
          clear hk2
          go_roundw
          case rel => exact ⟨2, k2, by omega, by go_num, by rw [HK2.out], by have := HK2.out; have := HBN.out; omega, by rw [HM3.out, ← List.append_assoc, ints_append]; exact hO2, bstepg (bi.trans (((Below.refl _ _).alloc (Nat.le_refl _) _).mono hsz2)) gg hsz0 (fun b e => (OB.rowlt b e).1)⟩
          case measure => simp [intOf]
        · have hbv : bits .and .i64 (x / 32) 1 = (x / 32) % 2 := and1 (by omega) (by omega)
          have HM2 := HT.out
          rw [show x / ((2 ^ (7 - 2) : Nat) : Int) = x / 32 from rfl] at HM2
          have HM3 := Lib.hid HM2
          clear HM2
          go_wp2_with (at_builtin; refine wpList_append_Own rfl _ _ 22 rfl 2 1 8 Try.underlying22 Int64_info (by decide) w4.heap.size hb _ rfl (OB.below ((Below.refl _ _).alloc (Nat.le_refl _) _)) _ 1 1 (ints [(x / 32) % 2]) rfl (by rw [Nat.mul_one]; exact rd_one _ _ _) (oneCell_ints _) (by omega) (by decide) (Nat.le_trans hsz2 (by simp)) ?_; intro k2 w2 hk2 hO2 gg hat)
          have HK2 := Lib.hid hk2
          clear hk2
          go_roundw
          case rel => exact ⟨3, k2, by omega, by go_num, by rw [HK2.out], by have := HK2.out; have := HBN.out; omega, by rw [HM3.out, ← List.append_assoc, ints_append]; exact hO2, bstepg (bi.trans (((Below.refl _ _).alloc (Nat.le_refl _) _).mono hsz2)) gg hsz0 (fun b e => (OB.rowlt b e).1)⟩
          case measure => simp [intOf]
        · have hbv : bits .and .i64 (x / 16) 1 = (x / 16) % 2 := and1 (by omega) (by omega)
          have HM2 := HT.out
          rw [show x / ((2 ^ (7 - 3) : Nat) : Int) = x / 16 from rfl] at HM2
          have HM3 := Lib.hid HM2
          clear HM2
          go_wp2_with (at_builtin; refine wpList_append_Own rfl _ _ 22 rfl 2 1 8 Try.underlying22 Int64_info (by decide) w4.heap.size hb _ rfl (OB.below ((Below.refl _ _).alloc (Nat.le_refl _) _)) _ 1 1 (ints [(x / 16) % 2]) rfl (by rw [Nat.mul_one]; exact rd_one _ _ _) (oneCell_ints _) (by omega) (by decide) (Nat.le_trans hsz2 (by simp)) ?_; intro k2 w2 hk2 hO2 gg hat)
          have HK2 := Lib.hid hk2
          clear hk2
          go_roundw
          case rel => exact ⟨4, k2, by omega, by go_num, by rw [HK2.out], by have := HK2.out; have := HBN.out; omega, by rw [HM3.out, ← List.append_assoc, ints_append]; exact hO2, bstepg (bi.trans (((Below.refl _ _).alloc (Nat.le_refl _) _).mono hsz2)) gg hsz0 (fun b e => (OB.rowlt b e).1)⟩
          case measure => simp [intOf]
        · have hbv : bits .and .i64 (x / 8) 1 = (x / 8) % 2 := and1 (by omega) (by omega)
          have HM2 := HT.out
          rw [show x / ((2 ^ (7 - 4) : Nat) : Int) = x / 8 from rfl] at HM2
          have HM3 := Lib.hid HM2
          clear HM2
          go_wp2_with (at_builtin; refine wpList_append_Own rfl _ _ 22 rfl 2 1 8 Try.underlying22 Int64_info (by decide) w4.heap.size hb _ rfl (OB.below ((Below.refl _ _).alloc (Nat.le_refl _) _)) _ 1 1 (ints [(x / 8) % 2]) rfl (by rw [Nat.mul_one]; exact rd_one _ _ _) (oneCell_ints _) (by omega) (by decide) (Nat.le_trans hsz2 (by simp)) ?_; intro k2 w2 hk2 hO2 gg hat)
          have HK2 := Lib.hid hk2
          clear hk2
          go_roundw
          case rel => exact ⟨5, k2, by omega, by go_num, by rw [HK2.out], by have := HK2.out; have := HBN.out; omega, by rw [HM3.out, ← List.append_assoc, ints_append]; exact hO2, bstepg (bi.trans (((Below.refl _ _).alloc (Nat.le_refl _) _).mono hsz2)) gg hsz0 (fun b e => (OB.rowlt b e).1)⟩
          case measure => simp [intOf]
        · have hbv : bits .and .i64 (x / 4) 1 = (x / 4) % 2 := and1 (by omega) (by omega)
          have HM2 := HT.out
          rw [show x / ((2 ^ (7 - 5) : Nat) : Int) = x / 4 from rfl] at HM2
          have HM3 := Lib.hid HM2
          clear HM2
          go_wp2_with (at_builtin; refine wpList_append_Own rfl _ _ 22 rfl 2 1 8 Try.underlying22 Int64_info (by decide) w4.heap.size hb _ rfl (OB.below ((Below.refl _ _).alloc (Nat.le_refl _) _)) _ 1 1 (ints [(x / 4) % 2]) rfl (by rw [Nat.mul_one]; exact rd_one _ _ _) (oneCell_ints _) (by omega) (by decide) (Nat.le_trans hsz2 (by simp)) ?_; intro k2 w2 hk2 hO2 gg hat)
          have HK2 := Lib.hid hk2
          clear hk2
          go_roundw
          case rel => exact ⟨6, k2, by omega, by go_num, by rw [HK2.out], by have := HK2.out; have := HBN.out; omega, by rw [HM3.out, ← List.append_assoc, ints_append]; exact hO2, bstepg (bi.trans (((Below.refl _ _).alloc (Nat.le_refl _) _).mono hsz2)) gg hsz0 (fun b e => (OB.rowlt b e).1)⟩
          case measure => simp [intOf]
        · have hbv : bits .and .i64 (x / 2) 1 = (x / 2) % 2 := and1 (by omega) (by omega)
          have HM2 := HT.out
          rw [show x / ((2 ^ (7 - 6) : Nat) : Int) = x / 2 from rfl] at HM2
          have HM3 := Lib.hid HM2
          clear HM2
          go_wp2_with (at_builtin; refine wpList_append_Own rfl _ _ 22 rfl 2 1 8 Try.underlying22 Int64_info (by decide) w4.heap.size hb _ rfl (OB.below ((Below.refl _ _).alloc (Nat.le_refl _) _)) _ 1 1 (ints [(x / 2) % 2]) rfl (by rw [Nat.mul_one]; exact rd_one _ _ _) (oneCell_ints _) (by omega) (by decide) (Nat.le_trans hsz2 (by simp)) ?_; intro k2 w2 hk2 hO2 gg hat)
          have HK2 := Lib.hid hk2
          clear hk2
          go_roundw
          case rel => exact ⟨7, k2, by omega, by go_num, by rw [HK2.out], by have := HK2.out; have := HBN.out; omega, by rw [HM3.out, ← List.append_assoc, ints_append]; exact hO2, bstepg (bi.trans (((Below.refl _ _).alloc (Nat.le_refl _) _).mono hsz2)) gg hsz0 (fun b e => (OB.rowlt b e).1)⟩
          case measure => simp [intOf]
        · have hbv : bits .and .i64 x 1 = x % 2 := and1 (by omega) (by omega)
          have HM2 := HT.out
          rw [show x / ((2 ^ (7 - 7) : Nat) : Int) = x from Int.ediv_one x] at HM2
          have HM3 := Lib.hid HM2
          clear HM2
          go_wp2_with (at_builtin; refine wpList_append_Own rfl _ _ 22 rfl 2 1 8 Try.underlying22 Int64_info (by decide) w4.heap.size hb _ rfl (OB.below ((Below.refl _ _).alloc (Nat.le_refl _) _)) _ 1 1 (ints [x % 2]) rfl (by rw [Nat.mul_one]; exact rd_one _ _ _) (oneCell_ints _) (by omega) (by decide) (Nat.le_trans hsz2 (by simp)) ?_; intro k2 w2 hk2 hO2 gg hat)
          have HK2 := Lib.hid hk2
          clear hk2
          go_roundw
          case rel => exact ⟨8, k2, by omega, by go_num, by rw [HK2.out], by have := HK2.out; have := HBN.out; omega, by rw [HM3.out, ← List.append_assoc, ints_append]; exact hO2, bstepg (bi.trans (((Below.refl _ _).alloc (Nat.le_refl _) _).mono hsz2)) gg hsz0 (fun b e => (OB.rowlt b e).1)⟩
          case measure => simp [intOf]
    · obtain rfl : k = q + 2 := by omega
      have hlt2 : ¬ (((q + 2 : Nat) : Int) < (q : Int) + 2) := by omega
      have bw := b4.trans (hbel.mono b4.size)
      have OB := OB.mono b4.size
      clear R2 hbel hsz hlt
      generalize bytesTo inner (q + 2) = raw at *
      go_wp2_with fail
      refine (l25Flag_any _).mono ?_
      rintro e w5 ⟨⟨fA, fn, fc⟩, rfl, hf1, F1, b5⟩
      simp only at hf1
      subst hf1
      have OB := OB.below b5
      have bw5 := bnext bw b5
      have F1 := F1.mono bw.size
      go_wp2_with fail
      refine (l25Stuff_any hb.A hb.n hb.c raw _ (by have := HBN.out; omega) OB.rd1).mono ?_
      rintro e w6 ⟨f2, rfl, F2, b6⟩
      have F1 := F1.below b6
      have bw6 := bnext bw5 b6
      have hf2 : f2.n ≤ 2000 := by
        have h1 := F2.rd1.len; have h2 := (stuffL_length raw).2; have h3 := OB.rd1.len; have h4 := HBN.out; omega
      go_wp2_with (at_builtin; refine wpList_append_Own rfl _ _ 22 rfl 2 1 8 Try.underlying22 Int64_info (by decide) w.heap.size ⟨fA, 8, fc⟩ (ints flagL) rfl F1 f2.A f2.n f2.c (ints (stuffL raw)) rfl (by rw [Nat.mul_one]; exact F2.rd1) (oneCell_ints _) (by simp only; omega) (by decide) bw6.size ?_; intro h3 w7 hk3 O3 g3 hat3)
      rw [← ints_append] at O3
      have bw7 : Below w.heap.size w w7 := bstepg bw6 g3 (Nat.le_refl _) (fun b e => (F1.rowlt b e).1)
      have hk3' : h3.n = 8 + f2.n := hk3
      have HK3 := Lib.hid hk3'
      clear hk3 hk3' g3 hat3 F1 F2
      refine (l25Flag_any _).mono ?_
      rintro e w8 ⟨⟨fA3, fn3, fc3⟩, rfl, hf3, F3, b8⟩
      simp only at hf3
      subst hf3
      have O3 := O3.below b8
      have bw8 := bnext bw7 b8
      go_wp2_with (at_builtin; refine wpList_append_Own rfl _ _ 22 rfl 2 1 8 Try.underlying22 Int64_info (by decide) w.heap.size h3 (ints (flagL ++ stuffL raw)) (by first | rfl | (rw [HK3.out]; rfl)) O3 fA3 8 fc3 (ints flagL) rfl (by rw [Nat.mul_one]; exact F3.rd1) (oneCell_ints _) (by have := HK3.out; omega) (by decide) bw8.size ?_; intro h4 w9 hk4 O4 g4 hat4)
      rw [← ints_append, ← HFR.out] at O4
      have bw9 : Below w.heap.size w w9 := bstepg bw8 g4 (Nat.le_refl _) (fun b e => (O3.rowlt b e).1)
      have HK4 := Lib.hid hk4
      clear hk4
      go_wp2
      go_ret
      exact ⟨h4, by first
        | rfl
        | (show Ending.returned (Value.slice h4.A (h3.n + 8) h4.c) = _; rw [HK4.out])
        | (show Ending.returned (Value.slice h4.A (8 + f2.n + 8) h4.c) = _; rw [HK4.out, HK3.out]), O4, bw9⟩
end Go.Proofs.Ytlgmdekhlcbhoaa
