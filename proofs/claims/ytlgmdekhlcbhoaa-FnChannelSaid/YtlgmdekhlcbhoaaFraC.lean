/- Frames: spec and impl of IsFrame and of a frame's bits. Condition: lists of at most 1048576 numbers; a valid frame. -/
import Derived.Test.YtlgmdekhlcbhoaaFraB
import Derived.Test.YtlgmdekhlcbhoaaOwnFrame
import Derived.Test.YtlgmdekhlcbhoaaTI
namespace Go.Proofs.Ytlgmdekhlcbhoaa
open Go.RowKit

def frOkC (l : FrameC) : Bool := frOk l.kind l.number l.payload
def frameC (l : FrameC) : List Int := frameL l.kind l.number l.payload
structure FrO (l : FrameC) : Prop where
  k0 : 0 ≤ l.kind
  k1 : l.kind ≤ 15
  n0 : 0 ≤ l.number
  n1 : l.number ≤ 255
  len : l.payload.length ≤ 24
  by_ : allIn l.payload 0 255 = true
theorem FrO.of {l : FrameC} (h : frOkC l = true) : FrO l := by
  unfold frOkC frOk at h
  rw [Bool.and_eq_true, Bool.and_eq_true] at h
  have h1 := inR_true h.1.1; have h2 := inR_true h.1.2; have h3 := okList_true h.2
  exact ⟨h1.1, h1.2, h2.1, h2.2, by omega, h3.2⟩
theorem FrO.to {l : FrameC} (h : FrO l) : frOkC l = true := by
  unfold frOkC frOk okList
  rw [inR_mk h.k0 h.k1, inR_mk h.n0 h.n1, h.by_, decide_eq_true (show (l.payload.length : Int) ≤ 24 by have := h.len; omega)]; rfl
theorem FrO.bytes {l : FrameC} (h : FrO l) : allIn (bytesL l.kind l.number l.payload) 0 255 = true := by
  have := h.by_
  have := h.k0; have := h.k1; have := h.n0; have := h.n1
  unfold bytesL allIn at *
  rw [List.all_cons, List.all_cons, inR_mk (by omega) (by omega), inR_mk (by omega) (by omega)]
  assumption
theorem FrO.inner {l : FrameC} (h : FrO l) : allIn (innerL l.kind l.number l.payload) 0 255 = true := by
  have h1 := h.bytes
  have hc := crc_bd (bytesL l.kind l.number l.payload) (l.payload.length + 2)
  unfold innerL
  unfold allIn at *
  rw [List.all_append, h1, List.all_cons, List.all_cons]
  unfold checkN
  rw [inR_mk (by omega) (by omega), inR_mk (by omega) (by omega)]; rfl

set_option maxHeartbeats 400000 in
theorem areByt_any (A : Option Addr) (n c : Nat) (xs : List Int) (most : Int) (w : World) (hn : n ≤ 9223372036854775807) (hr : Rd w A n (ints xs)) :
    Calls Try.prog 118 #[.slice A n c, .int .i64 most] w fun e w' => e = .returned (.bool (okList xs most 0 255)) ∧ w = w' := by
  have HL := Lib.hid hr.len
  by_cases h : (n : Int) ≤ most
  · have HE : Hid (okList xs most 0 255 = allIn xs 0 255) := by unfold Hid okList; rw [HL.out, decide_eq_true h]; rfl
    go_enter Try.func118, Try.ntmps118
    go_wp2_with (go_at_call 140; refine (areWithin_any _ _ _ xs _ _ _ hn hr).mono ?_; rintro e w' ⟨rfl, rfl⟩)
    go_ret
    exact ⟨ret_bool (by rw [HE.out]), rfl⟩
  · have HE : Hid (okList xs most 0 255 = false) := by unfold Hid okList; rw [HL.out, decide_eq_false h]; rfl
    go_enter Try.func118, Try.ntmps118
    go_wp2_with (go_at_call 140; refine (areWithin_any _ _ _ xs _ _ _ hn hr).mono ?_; rintro e w' ⟨rfl, rfl⟩)
    go_ret
    exact ⟨ret_bool (by rw [HE.out]), rfl⟩

set_option maxHeartbeats 1000000 in
theorem implIsFrame_any (h : FrameH) (l : FrameC) (w : World) (ok : FrameOk h) (hr : RdAll w (FrameS h l)) :
    Calls Try.prog 45 #[FrameV h l] w fun e w' => e = .returned (.bool (frOkC l)) ∧ Below w.heap.size w w' := by
  have r2 := hr.head
  have ok2 := ok
  unfold FrameOk at ok2
  obtain ⟨⟨A2, n2, c2⟩⟩ := h
  obtain ⟨x0, x1, l2⟩ := l
  clear hr ok
  unfold FrameV
  simp only at *
  have hb0 : Below w.heap.size w (w.alloc (.cells #[.int .i64 x0, .int .i64 x1, .slice A2 n2 c2] 28)) := (Below.refl _ _).alloc (Nat.le_refl _) _
  have HO : Hid (frOkC ⟨x0, x1, l2⟩ = (inR x0 0 15 && inR x1 0 255 && okList l2 24 0 255)) := rfl
  rcases Bool.eq_false_or_eq_true (inR x0 0 15) with h1 | h1
  all_goals rcases Bool.eq_false_or_eq_true (inR x1 0 255) with h2 | h2
  all_goals
    go_enter Try.func45, Try.ntmps45
    go_wp2_with (first | (go_at_call 99; refine (within_any _ _ _ _).mono ?_; rintro e w' ⟨rfl, rfl⟩) | (go_at_call 118; refine (areByt_any _ _ _ l2 _ _ (by omega) (r2.below hb0)).mono ?_; rintro e w' ⟨rfl, rfl⟩))
    go_ret
    exact ⟨ret_bool (by rw [HO.out, h1, h2]; first | rfl | simp), hb0⟩

set_option maxHeartbeats 1000000 in
theorem specIsFrame_any (h : FrameH) (l : FrameC) (w : World) (ok : FrameOk h) (hr : RdAll w (FrameS h l)) :
    Calls Try.prog 89 #[FrameV h l] w fun e w' => e = .returned (.bool (frOkC l)) ∧ Below w.heap.size w w' := by
  have r2 := hr.head
  have ok2 := ok
  unfold FrameOk at ok2
  obtain ⟨⟨A2, n2, c2⟩⟩ := h
  obtain ⟨x0, x1, l2⟩ := l
  clear hr ok
  unfold FrameV
  simp only at *
  have hb0 : Below w.heap.size w (w.alloc (.cells #[.int .i64 x0, .int .i64 x1, .slice A2 n2 c2] 28)) := (Below.refl _ _).alloc (Nat.le_refl _) _
  have HO : Hid (frOkC ⟨x0, x1, l2⟩ = (inR x0 0 15 && inR x1 0 255 && okList l2 24 0 255)) := rfl
  rcases Bool.eq_false_or_eq_true (inR x0 0 15) with h1 | h1
  all_goals rcases Bool.eq_false_or_eq_true (inR x1 0 255) with h2 | h2
  all_goals
    go_enter Try.func89, Try.ntmps89
    go_wp2_with (first | (go_at_call 96; refine (l01In_any _ _ _ _).mono ?_; rintro e w' ⟨rfl, rfl⟩) | (go_at_call 146; refine (l01Within_any _ _ _ l2 _ _ _ _ (by omega) (r2.below hb0)).mono ?_; rintro e w' ⟨rfl, rfl⟩))
    go_ret
    exact ⟨ret_bool (by rw [HO.out, h1, h2]; first | rfl | simp), hb0⟩

set_option maxRecDepth 100000 in
set_option maxHeartbeats 4000000 in
theorem frameBits_any (h : FrameH) (l : FrameC) (w : World) (hr : RdAll w (FrameS h l)) (hok : FrO l) :
    Calls Try.prog 108 #[FrameV h l] w fun e w' => ∃ k : Hd, e = .returned (.slice k.A k.n k.c) ∧ Own w' w.heap.size 1 k (ints (frameC l)) ∧ Below w.heap.size w w' := by
  have r2 := hr.head
  obtain ⟨⟨A2, n2, c2⟩⟩ := h
  obtain ⟨x0, x1, l2⟩ := l
  have HO := Lib.hid hok
  have HL := Lib.hid r2.len
  have hn2 : n2 ≤ 24 := by have := HO.out.len; have := HL.out; simp only at *; omega
  clear hr hok
  unfold FrameV
  simp only at *
  go_enter Try.func108, Try.ntmps108
  go_wp2_with fail
  have hb0 : Below w.heap.size w (((w.alloc (.cells #[.int .i64 x0, .int .i64 x1, .slice A2 n2 c2] 28)).alloc (.cells #[.int .i64 x0, .int .i64 x1] 2)).alloc (.cells #[.slice (some ⟨w.heap.size + 1, 0, none⟩) 2 2, .slice A2 n2 c2] 22)) := (by (repeat (first | (with_reducible assumption) | (with_reducible exact Below.refl _ _) | (with_reducible refine Below.drew ?_) | (with_reducible refine Below.drewN ?_ _) | (with_reducible refine Below.setCell ?_ ?_ _) | (with_reducible refine Below.alloc ?_ ?_ _) | assumption)); all_goals (first | omega | (simp; done) | (simp; omega)))
  have K1 := (Blk.newN (g := w.heap.size + 1) (w.alloc (.cells #[.int .i64 x0, .int .i64 x1, .slice A2 n2 c2] 28)) 2 #[.int .i64 x0, .int .i64 x1] (by simp)).alloc (.cells #[.slice (some ⟨w.heap.size + 1, 0, none⟩) 2 2, .slice A2 n2 c2] 22)
  have K2 := Blk.newN (g := w.heap.size + 1 + 1) ((w.alloc (.cells #[.int .i64 x0, .int .i64 x1, .slice A2 n2 c2] 28)).alloc (.cells #[.int .i64 x0, .int .i64 x1] 2)) 22 #[.slice (some ⟨w.heap.size + 1, 0, none⟩) 2 2, .slice A2 n2 c2] (by simp)
  have R2 := r2.below hb0
  generalize ((w.alloc (.cells #[.int .i64 x0, .int .i64 x1, .slice A2 n2 c2] 28)).alloc (.cells #[.int .i64 x0, .int .i64 x1] 2)).alloc (.cells #[.slice (some ⟨w.heap.size + 1, 0, none⟩) 2 2, .slice A2 n2 c2] 22) = w0 at hb0 K1 K2 R2 ⊢
  have RP : Rd w0 (some ⟨w.heap.size + 1, 0, none⟩) 2 (ints [x0, x1]) := K1.rd rfl (fun i hi => by
    match i, hi with
    | 0, _ => rfl
    | 1, _ => rfl)
  refine (concat_any (w.heap.size + 1 + 1) 2 2 (fun i => if i = 0 then ⟨some ⟨w.heap.size + 1, 0, none⟩, 2, 2⟩ else ⟨A2, n2, c2⟩) (fun i => if i = 0 then [x0, x1] else l2) w0 (by decide) K2.lt (fun i hi => by
      rw [K2.cell]
      match i, hi with
      | 0, _ => rfl
      | 1, _ => rfl) (fun i hi => by
      match i, hi with
      | 0, _ => exact ⟨RP, show 2 ≤ 2000 by decide⟩
      | 1, _ => exact ⟨R2, show n2 ≤ 2000 by omega⟩)).mono ?_
  rintro e w1 ⟨h1, rfl, O1, b1⟩
  have hcat : catTo (fun i => if i = 0 then [x0, x1] else l2) 2 = bytesL x0 x1 l2 := by rw [show (2 : Nat) = 0 + 1 + 1 from rfl, catTo_succ, catTo_succ]; rfl
  rw [hcat] at O1
  have O1 := O1.mono hb0.size
  have b1 := bnext hb0 b1
  have HBY := Lib.hid HO.out.bytes
  have h1n : h1.n = n2 + 2 := by have := O1.rd1.len; have := HL.out; unfold bytesL at *; simp at *; omega
  obtain ⟨B1, m1, d1⟩ := h1
  simp only at h1n
  subst h1n
  clear hcat hb0 K1 K2 R2 RP r2
  go_wp2_with fail
  refine (check_any B1 (n2 + 2) d1 (bytesL x0 x1 l2) _ (by omega) O1.rd1 HBY.out).mono ?_
  rintro e w' ⟨rfl, rfl⟩
  have hcb := crc_bd (bytesL x0 x1 l2) (n2 + 2)
  have HIN : Hid (innerL x0 x1 l2 = bytesL x0 x1 l2 ++ [crc (bytesL x0 x1 l2) (n2 + 2) / 256, crc (bytesL x0 x1 l2) (n2 + 2) % 256]) := by unfold Hid innerL checkN; rw [HL.out]
  generalize crc (bytesL x0 x1 l2) (n2 + 2) = r at *
  have hand : bits .and .i64 r 255 = r % 256 := and255 (by omega) (by omega)
  have hq : 0 ≤ r / 256 ∧ r / 256 ≤ 255 ∧ 0 ≤ r % 256 ∧ r % 256 ≤ 255 := by omega
  have hs1 := b1.size
  go_wp2_with (at_builtin; refine wpList_append_Own rfl _ _ 22 rfl 2 1 8 Try.underlying22 Int64_info (by decide) w.heap.size ⟨B1, n2 + 2, d1⟩ (ints (bytesL x0 x1 l2)) rfl (O1.below ((Below.refl _ _).alloc (Nat.le_refl _) _)) _ 2 2 (ints [r / 256, r % 256]) rfl (by rw [Nat.mul_one]; exact rd_pair _ _ _ _) (oneCell_ints _) (by simp only; omega) (by decide) (Nat.le_trans hs1 (by simp)) ?_; intro h2 w4 hk2 O2 g2 hat2)
  rw [← ints_append, ← HIN.out] at O2
  have b4 : Below w.heap.size w w4 := bstepg (b1.trans (((Below.refl w1.heap.size w1).alloc (Nat.le_refl _) _).mono hs1)) g2 (Nat.le_refl _) (fun b e => (O1.rowlt b e).1)
  have h2n : h2.n = n2 + 4 := by omega
  have R2 := O2.rd1
  have HI := Lib.hid HO.out.inner
  have HIL : Hid ((innerL x0 x1 l2).length = n2 + 4) := by unfold Hid; rw [innerL_length, HL.out]
  obtain ⟨B2, m2, d2⟩ := h2
  simp only at h2n R2
  clear hk2 hat2 g2 O1 O2 b1 hs1 hcb hq hand HIN HBY
  subst h2n
  have HFR : Hid (frameC ⟨x0, x1, l2⟩ = flagL ++ stuffL (bytesTo (innerL x0 x1 l2) (n2 + 4)) ++ flagL) := by unfold Hid frameC frameL rawL; simp only; rw [HL.out]
  generalize innerL x0 x1 l2 = inner at *
  go_loopw [5, 27] (fun v i wr => ∃ (k : Nat) (hb : Hd), k ≤ n2 + 4 ∧ i = .int .i64 k ∧ v = .slice hb.A hb.n hb.c ∧ hb.n = 8 * k ∧ Own wr w4.heap.size 1 hb (ints (bytesTo inner k)) ∧ Below w4.heap.size w4 wr) (fun _ i _ => n2 + 4 - (intOf i).toNat)
  case atStart => exact ⟨0, ⟨none, 0, 0⟩, Nat.zero_le _, rfl, rfl, rfl, Own.nil _ _ _, Below.refl _ _⟩
  case round =>
    obtain ⟨k, hb, hk, rfl, rfl, hbn, OB, hbel⟩ := hrel
    have HBN := Lib.hid hbn
    clear hbn
    have hsz := hbel.size
    by_cases hlt : k < n2 + 4
    · obtain ⟨ad, rfl, hx⟩ := (R2.below hbel).int hlt
      have hbd := allIn_getD HI.out (show k < inner.length by rw [HIL.out]; exact hlt)
      have HM := Lib.hid (bytesTo_succ inner k)
      have hltI : (k : Int) < (n2 : Int) + 4 := by omega
      generalize inner.getD k 0 = x at *
      generalize bytesTo inner k = L at *
      go_wp2_with fail
      refine (bitsOf_any x _ hbd.1 hbd.2).mono ?_
      rintro e w5 ⟨h5, rfl, hn5, O5, b5⟩
      have HN5 := Lib.hid hn5
      clear hn5
      have hs5 := b5.size
      go_wp2_with (at_builtin; refine wpList_append_Own rfl _ _ 22 rfl 2 1 8 Try.underlying22 Int64_info (by decide) w4.heap.size hb _ rfl (OB.below b5) h5.A h5.n h5.c (ints (byteBits x)) rfl (by rw [Nat.mul_one]; exact O5.rd1) (oneCell_ints _) (by have := HN5.out; have := HBN.out; omega) (by decide) (Nat.le_trans hsz hs5) ?_; intro k2 w6 hk2 hO2 gg hat)
      have HK2 := Lib.hid hk2
      clear hk2
      go_roundw
      case rel => exact ⟨k + 1, k2, by omega, by go_num, by rw [HK2.out], by have := HK2.out; have := HBN.out; have := HN5.out; omega, by rw [HM.out, ints_append]; exact hO2, bstepg (hbel.trans (b5.mono hsz)) gg (Nat.le_refl _) (fun b e => (OB.rowlt b e).1)⟩
      case measure => simp [intOf]; omega
    · obtain rfl : k = n2 + 4 := by omega
      have hlt2 : ¬ (((n2 + 4 : Nat) : Int) < (n2 : Int) + 4) := by omega
      have bw := b4.trans (hbel.mono b4.size)
      have OB := OB.mono b4.size
      clear R2 hbel hsz hlt
      generalize bytesTo inner (n2 + 4) = raw at *
      go_wp2_with fail
      refine (frameFlag_any _).mono ?_
      rintro e w5 ⟨f1, rfl, hf1, F1, b5⟩
      have HF1 := Lib.hid hf1
      clear hf1
      have OB := OB.below b5
      have bw5 := bnext bw b5
      go_wp2_with fail
      refine (stuff_any hb.A hb.n hb.c raw _ (by have := HBN.out; omega) OB.rd1).mono ?_
      rintro e w6 ⟨f2, rfl, F2, b6⟩
      have F1 := F1.below b6
      have bw6 := bnext bw5 b6
      have hf2 : f2.n ≤ 2000 := by
        have h1 := F2.rd1.len; have h2 := (stuffL_length raw).2; have h3 := OB.rd1.len; have h4 := HBN.out; omega
      go_wp2_with fail
      refine (frameFlag_any _).mono ?_
      rintro e w7 ⟨f3, rfl, hf3, F3, b7⟩
      have HF3 := Lib.hid hf3
      clear hf3
      have F1 := F1.below b7
      have F2 := F2.below b7
      have bw7 := bnext bw6 b7
      go_wp2_with fail
      have ba : Below w7.heap.size w7 (w7.alloc (.cells #[.slice f1.A f1.n f1.c, .slice f2.A f2.n f2.c, .slice f3.A f3.n f3.c] 22)) := (Below.refl _ _).alloc (Nat.le_refl _) _
      have K := Blk.new w7 22 #[.slice f1.A f1.n f1.c, .slice f2.A f2.n f2.c, .slice f3.A f3.n f3.c]
      have F1 := F1.below ba
      have F2 := F2.below ba
      have F3 := F3.below ba
      have bw8 := bnext bw7 ba
      refine (concat_any w7.heap.size 3 3 (fun i => if i = 0 then f1 else if i = 1 then f2 else f3) (fun i => if i = 0 then flagL else if i = 1 then stuffL raw else flagL) _ (by decide) K.lt (fun i hi => by
        rw [K.cell]
        match i, hi with
        | 0, _ => rfl
        | 1, _ => rfl
        | 2, _ => rfl) (fun i hi => by
        match i, hi with
        | 0, _ => exact ⟨F1.rd1, by have := HF1.out; show f1.n ≤ 2000; omega⟩
        | 1, _ => exact ⟨F2.rd1, hf2⟩
        | 2, _ => exact ⟨F3.rd1, by have := HF3.out; show f3.n ≤ 2000; omega⟩)).mono ?_
      rintro e w9 ⟨kk, rfl, OK, b9⟩
      have hcat : catTo (fun i => if i = 0 then flagL else if i = 1 then stuffL raw else flagL) 3 = flagL ++ stuffL raw ++ flagL := by rw [show (3 : Nat) = 0 + 1 + 1 + 1 from rfl, catTo_succ, catTo_succ, catTo_succ]; rfl
      rw [hcat, ← HFR.out] at OK
      go_wp2
      go_ret
      exact ⟨kk, rfl, OK.mono bw8.size, bnext bw8 b9⟩
end Go.Proofs.Ytlgmdekhlcbhoaa
