/- Links: impl.FinishLink, walked. Condition: lists of at most 1048576 numbers. -/
import Derived.Test.YtfankajbddmdaaaLinkT
namespace Go.Proofs.Ytfankajbddmdaaa
open Go.RowKit

set_option maxRecDepth 100000 in
set_option maxHeartbeats 4000000 in
theorem implFinishLink'_any (h : Hd) (xs : List Int) (h' : Hd) (ks : List Int) (w : World) (ok : IntsOk h) (hr : RdAll w (IntsS h xs)) (ok' : IntsOk h') (hr' : RdAll w (IntsS h' ks)) :
    Calls Try.prog 31 #[IntsV h, IntsV h'] w (RetLinkN (finR xs ks) (finN xs ks) (runC xs ks) w) := by
  have hb0 : Below w.heap.size w (w.alloc (.cells #[.slice none 0 0, .int .i64 0, .int .i64 0, .slice none 0 0, .slice none 0 0, .slice none 0 0] 25)) := (Below.refl _ _).alloc (Nat.le_refl _) _
  by_cases hno : runC xs ks = 0
  case neg =>
    have HZ : Hid (finR xs ks = zeroLink ∧ finN xs ks = 0) := by unfold Hid finR finN; rw [if_neg hno, if_neg hno]; exact ⟨rfl, rfl⟩
    have HR : Hid (runR xs ks = zeroLink) := by unfold Hid runR; rw [if_neg hno]
    have HV := runC_no hno
    clear hno
    unfold IntsV
    go_enter Try.func31, Try.ntmps31
    go_wp2_with fail
    refine (implRunLink'_any h xs h' ks _ ok (hr.below hb0) ok' (hr'.below hb0)).mono ?_
    rintro e w1 ⟨k0, he, -, -, -, -, b1⟩
    rw [HR.out] at he
    unfold LinkV zeroLink at he
    subst he
    have hb1 : Below w.heap.size w w1 := hb0.trans (b1.mono (by first | omega | (simp; done) | (simp; omega)))
    have KR : Blk w1 w.heap.size 25 #[.slice none 0 0, .int .i64 0, .int .i64 0, .slice none 0 0, .slice none 0 0, .slice none 0 0] := Blk.below (Blk.newN _ _ _ rfl) b1 (by first | omega | (simp; done) | (simp; omega))
    have cR := fun o => KR.cell o
    have fR := fun o => KR.frozen o
    have gR := KR.lt
    clear b1
    rcases HV with e | e | e
    all_goals
      go_wp2
      first
        | (refine bodyPost_ret (v := .tuple #[.agg #[.slice none 0 0, .int .i64 0, .int .i64 0, .slice none 0 0, .slice none 0 0, .slice none 0 0], .int .i64 0, .int .i64 1]) (by simp [results, Try.results31, go_sem, cR, gR]) rfl ?_; rw [HZ.out.1, HZ.out.2]; (try rw [e]); exact retLinkN_zero (by (repeat (first | (with_reducible assumption) | (with_reducible exact Below.refl _ _) | (with_reducible refine Below.drew ?_) | (with_reducible refine Below.drewN ?_ _) | (with_reducible refine Below.setCell ?_ ?_ _) | (with_reducible refine Below.alloc ?_ ?_ _) | assumption)); all_goals (first | omega | (simp; done) | (simp; omega))))
        | (refine bodyPost_ret (v := .tuple #[.agg #[.slice none 0 0, .int .i64 0, .int .i64 0, .slice none 0 0, .slice none 0 0, .slice none 0 0], .int .i64 0, .int .i64 2]) (by simp [results, Try.results31, go_sem, cR, gR]) rfl ?_; rw [HZ.out.1, HZ.out.2]; (try rw [e]); exact retLinkN_zero (by (repeat (first | (with_reducible assumption) | (with_reducible exact Below.refl _ _) | (with_reducible refine Below.drew ?_) | (with_reducible refine Below.drewN ?_ _) | (with_reducible refine Below.setCell ?_ ?_ _) | (with_reducible refine Below.alloc ?_ ?_ _) | assumption)); all_goals (first | omega | (simp; done) | (simp; omega))))
        | (refine bodyPost_ret (v := .tuple #[.agg #[.slice none 0 0, .int .i64 0, .int .i64 0, .slice none 0 0, .slice none 0 0, .slice none 0 0], .int .i64 0, .int .i64 3]) (by simp [results, Try.results31, go_sem, cR, gR]) rfl ?_; rw [HZ.out.1, HZ.out.2]; (try rw [e]); exact retLinkN_zero (by (repeat (first | (with_reducible assumption) | (with_reducible exact Below.refl _ _) | (with_reducible refine Below.drew ?_) | (with_reducible refine Below.drewN ?_ _) | (with_reducible refine Below.setCell ?_ ?_ _) | (with_reducible refine Below.alloc ?_ ?_ _) | assumption)); all_goals (first | omega | (simp; done) | (simp; omega))))
  have HY := Lib.hid (runC_yes hno)
  have h4 : (ks.length : Int) ≤ 400 := by
    unfold runC at hno
    rw [if_pos HY.out.1, if_pos HY.out.2] at hno
    exact Decidable.byContradiction fun c => by rw [if_neg c] at hno; cases hno
  have H4 := Lib.hid h4
  clear h4
  have HFR : Hid (finR xs ks = (finL xs ks).1 ∧ finN xs ks = ((finL xs ks).2 : Int) ∧ runC xs ks = 0) := by unfold Hid finR finN; rw [if_pos hno, if_pos hno]; exact ⟨rfl, rfl, hno⟩
  have HF0 := Lib.hid (finX_start HY.out.1 HY.out.2)
  clear hno
  unfold IntsV
  go_enter Try.func31, Try.ntmps31
  go_wp2_with fail
  refine (implRunLinkOwn_any h xs h' ks _ ok (hr.below hb0) ok' (hr'.below hb0) HY.out.1 HY.out.2 H4.out).mono ?_
  rintro e w1 ⟨k, he, ow, b1⟩
  unfold LinkV at he
  subst he
  have KR : Blk w1 w.heap.size 25 #[.slice none 0 0, .int .i64 0, .int .i64 0, .slice none 0 0, .slice none 0 0, .slice none 0 0] := Blk.below (Blk.newN _ _ _ rfl) b1 (by first | omega | (simp; done) | (simp; omega))
  have hb1 : Below w.heap.size w w1 := hb0.trans (b1.mono (by first | omega | (simp; done) | (simp; omega)))
  have OW := ow.mono (show w.heap.size + 1 ≤ _ from (by first | omega | (simp; done) | (simp; omega)))
  have z1 : w.heap.size + 1 ≤ w1.heap.size := Nat.le_trans (by first | omega | (simp; done) | (simp; omega)) b1.size
  clear b1 ow hb0
  have HDef : Hid (∀ l q, FinX (runTo xs ks ks.length) l q → ¬ l.base < l.items.length → finL xs ks = (l, q)) := fun l q hq hb => finAt_end hq.1 hb
  generalize runTo xs ks ks.length = l0 at *
  go_wp2_with fail
  have BB : Below w1.heap.size w1 (w1.alloc (.cells #[.slice k.items.A k.items.n k.items.c, .int .i64 l0.base, .int .i64 l0.next, .slice k.packets.A k.packets.n k.packets.c, .slice k.acks.A k.acks.n k.acks.c, .slice k.got.A k.got.n k.got.c] 25)) := (Below.refl _ _).alloc (Nat.le_refl _) _
  have X1 : LinkBox (w1.alloc (.cells #[.slice k.items.A k.items.n k.items.c, .int .i64 l0.base, .int .i64 l0.next, .slice k.packets.A k.packets.n k.packets.c, .slice k.acks.A k.acks.n k.acks.c, .slice k.got.A k.got.n k.got.c] 25)) (w.heap.size + 1) w1.heap.size k l0 := ⟨Blk.newN _ _ _ rfl, OW.below BB, z1, fun s hs c => by have := (OW.blt s hs _ c).2; omega⟩
  have KR1 := KR.below BB (by omega)
  have hb2 := hb1.trans (BB.mono hb1.size)
  clear KR hb1 OW BB
  generalize w1.alloc (.cells #[.slice k.items.A k.items.n k.items.c, .int .i64 l0.base, .int .i64 l0.next, .slice k.packets.A k.packets.n k.packets.c, .slice k.acks.A k.acks.n k.acks.c, .slice k.got.A k.got.n k.got.c] 25) = w3 at X1 KR1 hb2 ⊢
  go_loopw [9] (fun i wr => ∃ (q : Nat) (kk : LinkH) (l : LinkC), i = .int .i64 q ∧ FinX l0 l q ∧ LinkBox wr (w.heap.size + 1) w1.heap.size kk l ∧ Blk wr w.heap.size 25 #[.slice none 0 0, .int .i64 0, .int .i64 0, .slice none 0 0, .slice none 0 0, .slice none 0 0] ∧ Below w.heap.size w wr) (fun i _ => 5000 - (intOf i).toNat)
  case atStart => exact ⟨0, _, _, rfl, HF0.out, X1, KR1, hb2⟩
  case round =>
    clear X1 KR1 hb2
    obtain ⟨q, kk, l, rfl, hF, X, KR, hb⟩ := hrel
    have cX := fun o => X.box.cell o
    have gX := X.box.lt
    unfold LinkCells at cX
    have hOK := Lib.hid (X.own.ok hF.2)
    have hLen : Hid (l.items.length = kk.items.n) := X.own.items.rd1.len
    have hLe : kk.items.n ≤ 20 := by rw [← hLen.out]; exact hF.2.n
    have HF := Lib.hid hF
    have hq5 := hF.1.1
    clear hF
    by_cases hlt : l.base < (kk.items.n : Int)
    · have HST := Lib.hid (finX_step HF.out (by rw [hLen.out]; exact hlt))
      have hq4 : q < 5000 := HST.out.2.2
      have HI := finI_le l
      go_wp2_with fail
      go_quiet ((go_at_call 53; exact q_left (length_any _ _ _ _ (by omega))))
      have X2 := X.drewN nq
      have KR2 : Blk (wr.drewN nq) w.heap.size _ _ := KR
      have hb2 := Below.drewN hb nq
      generalize wr.drewN nq = w4 at X2 KR2 hb2 ⊢
      clear X KR hb cX gX
      have cX := fun o => X2.box.cell o
      have gX := X2.box.lt
      unfold LinkCells at cX
      go_wp2_with fail
      have B5 : Below w4.heap.size w4 (w4.alloc (.cells #[.int .i64 3, .int .i64 1, .int .i64 0, .int .i64 5] 2)) := (Below.refl _ _).alloc (Nat.le_refl _) _
      have X3 := X2.below B5
      have S3 : Rd (w4.alloc (.cells #[.int .i64 3, .int .i64 1, .int .i64 0, .int .i64 5] 2)) (some ⟨w4.heap.size, 0, none⟩) 4 (ints ordL) := rd_ord _ _ _ rfl
      have KR3 := KR2.below B5 KR2.lt
      have hb3 := hb2.trans (B5.mono hb2.size)
      generalize w4.alloc (.cells #[.int .i64 3, .int .i64 1, .int .i64 0, .int .i64 5] 2) = w5 at X3 S3 KR3 hb3 ⊢
      clear X2 KR2 hb2 B5 cX gX
      refine (indexCan_any (some ⟨w4.heap.size, 0, none⟩) 4 kk l _ hOK.out HF.out.2 X3.own.rd S3).mono ?_
      rintro e w6 ⟨rfl, b6⟩
      have X6 := X3.below b6
      have S6 := S3.below b6
      have KR6 := KR3.below b6 KR3.lt
      have hb6 := hb3.trans (b6.mono hb3.size)
      clear X3 S3 KR3 hb3 b6
      obtain ⟨_, ⟨⟩, hx⟩ := S6.int (show finI l < 4 by omega)
      rw [Addr.add_lit, Nat.zero_add] at hx
      have hin := Lib.hid (ordL_in (show finI l < 4 by omega))
      have i0 : (0 : Int) ≤ (finI l : Int) := by omega
      have i1 : (finI l : Int) < 4 := by omega
      generalize ordL.getD (finI l) 0 = x at *
      go_wp2_with fail
      refine (make_any (w.heap.size + 1) w1.heap.size kk l x _ X6 HF.out.2 hin.out HST.out.1 (by have := X6.box.lt; omega)).mono ?_
      rintro e w7 ⟨rfl, ⟨k7, X7⟩, b7⟩
      have KR7 := KR6.below b7 (by omega)
      have hb7 := hb6.trans (b7.mono (by omega))
      clear X6 S6 KR6 hb6 b7 hx
      go_wp2
      go_roundw
      case rel => exact ⟨q + 1, k7, stepL l x, by go_num, HST.out.2.1, X7, KR7, hb7⟩
      case measure => simp [intOf]; omega
    · have HE := HDef.out l q HF.out (by rw [hLen.out]; omega)
      have HE1 := Lib.hid HE
      clear HE
      go_wp2_with fail
      go_quiet ((go_at_call 53; exact q_left (length_any _ _ _ _ (by omega))))
      have X2 := X.drewN nq
      have KR2 : Blk (wr.drewN nq) w.heap.size _ _ := KR
      have hb2 := Below.drewN hb nq
      generalize wr.drewN nq = w4 at X2 KR2 hb2 ⊢
      clear X KR hb cX gX
      have cX := fun o => X2.box.cell o
      have gX := X2.box.lt
      have cR := fun o => KR2.cell o
      have fR := fun o => KR2.frozen o
      have gR := KR2.lt
      unfold LinkCells at cX
      go_wp2
      refine bodyPost_ret (v := .tuple #[.agg #[.slice kk.items.A kk.items.n kk.items.c, .int .i64 l.base, .int .i64 l.next, .slice kk.packets.A kk.packets.n kk.packets.c, .slice kk.acks.A kk.acks.n kk.acks.c, .slice kk.got.A kk.got.n kk.got.c], .int .i64 q, .int .i64 0]) (by simp [results, Try.results31, go_sem, cR]) rfl ?_
      rw [HFR.out.1, HFR.out.2.1, HFR.out.2.2, HE1.out]
      exact retLinkN_own ((X2.own.above (D := w.heap.size + 1) (by repeat (first | (refine Above.setCell ?_ (by first | omega | (simp; done) | (simp; omega)) _) | exact Above.refl _ _)) (Nat.le_refl _)).mono (by first | omega | (simp; done) | (simp; omega))) HF.out.2 (by (repeat (first | (with_reducible assumption) | (with_reducible exact Below.refl _ _) | (with_reducible refine Below.drew ?_) | (with_reducible refine Below.drewN ?_ _) | (with_reducible refine Below.setCell ?_ ?_ _) | (with_reducible refine Below.alloc ?_ ?_ _) | assumption)); all_goals (first | omega | (simp; done) | (simp; omega)))
end Go.Proofs.Ytfankajbddmdaaa
