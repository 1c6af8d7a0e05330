/- Links: several steps: spec.RunLink and impl.RunLink compute the same. Condition: lists of at most 1048576 numbers. -/
import Derived.Test.YtoledbicmghmbaaDoorLinkK
import Derived.Test.YtoledbicmghmbaaDoorLinkV
import Derived.StillTailTactics
namespace Go.Proofs.YtoledbicmghmbaaDoor
open Go.RowKit

def link0 (xs : List Int) : LinkC := ⟨xs, 0, 0, [], [], []⟩
def runTo (xs ks : List Int) (n : Nat) : LinkC := (ks.take n).foldl (fun l k => if canL l k = true then stepL l k else l) (link0 xs)
theorem runTo_zero (xs ks : List Int) : runTo xs ks 0 = link0 xs := rfl
theorem runTo_succ (xs ks : List Int) {n : Nat} (h : n < ks.length) : runTo xs ks (n + 1) = if canL (runTo xs ks n) (ks.getD n 0) = true then stepL (runTo xs ks n) (ks.getD n 0) else runTo xs ks n := by
  unfold runTo
  rw [List.take_succ_eq_append_getElem h, List.foldl_append, getD_at h]
  rfl
theorem link0_ok {xs : List Int} (h : okList xs 20 0 255 = true) : LOk (link0 xs) := by
  have a := okList_true h
  refine ⟨by show xs.length ≤ 20; omega, a.2, Int.le_refl _, by show (0 : Int) ≤ xs.length; omega, Int.le_refl _, by show (0 : Int) ≤ 0 + 3; omega, by show (0 : Int) ≤ xs.length; omega, rfl, by show 0 ≤ 24; omega, by simp [link0, pktsIn], by show 0 ≤ 12; omega, rfl, by show 0 ≤ 20; omega, rfl⟩
theorem runTo_ok {xs ks : List Int} (h : okList xs 20 0 255 = true) (hk : allIn ks 0 5 = true) : ∀ n, n ≤ ks.length → LOk (runTo xs ks n) ∧ LIn (runTo xs ks n) ∧ (runTo xs ks n).items = xs
  | 0, _ => ⟨link0_ok h, ⟨0, [], [], new_inv xs (by have := (okList_true h).1; omega)⟩, rfl⟩
  | n + 1, hn => by
    have ih := runTo_ok h hk n (by omega)
    have hb := allIn_getD hk (show n < ks.length by omega)
    rw [runTo_succ xs ks (by omega)]
    split
    · rename_i hc
      refine ⟨stepL_ok ih.1 (inR_mk hb.1 hb.2) hc, step_in ih.2.1 hb hc, ?_⟩
      unfold stepL
      (repeat' split) <;> exact ih.2.2
    · exact ih
def runC (xs ks : List Int) : Int := if okList xs 20 0 255 = true then (if allIn ks 0 5 = true then (if (ks.length : Int) ≤ 400 then 0 else 3) else 2) else 1
def runR (xs ks : List Int) : LinkC := if runC xs ks = 0 then runTo xs ks ks.length else zeroLink
theorem run_items {xs ks : List Int} (h : okList xs 20 0 255 = false) : Hid (runC xs ks = 1 ∧ runR xs ks = zeroLink) := by unfold Hid runR runC; simp [h]
theorem run_kinds {xs ks : List Int} (h : okList xs 20 0 255 = true) (h2 : allIn ks 0 5 = false) : Hid (runC xs ks = 2 ∧ runR xs ks = zeroLink) := by unfold Hid runR runC; simp [h, h2]
theorem run_long {xs ks : List Int} (h : okList xs 20 0 255 = true) (h2 : allIn ks 0 5 = true) (h3 : ¬ (ks.length : Int) ≤ 400) : Hid (runC xs ks = 3 ∧ runR xs ks = zeroLink) := by
  have e : runC xs ks = 3 := by unfold runC; rw [if_pos h, if_pos h2, if_neg h3]
  exact ⟨e, by unfold runR; rw [e]; rfl⟩
theorem run_yes {xs ks : List Int} (h : okList xs 20 0 255 = true) (h2 : allIn ks 0 5 = true) (h3 : (ks.length : Int) ≤ 400) : Hid (runC xs ks = 0 ∧ runR xs ks = runTo xs ks ks.length) := by
  have e : runC xs ks = 0 := by unfold runC; rw [if_pos h, if_pos h2, if_pos h3]
  exact ⟨e, by unfold runR; rw [if_pos e]⟩

set_option maxHeartbeats 1000000 in
theorem l29Code_any (h h' : Hd) (xs ks : List Int) (w : World) (ok : IntsOk h) (ok' : IntsOk h') (hr : RdAll w (IntsS h xs)) (hr' : RdAll w (IntsS h' ks)) :
    Calls Tryd.prog 138 #[IntsV h, IntsV h'] w fun e w' => e = .returned (.int .i64 (runC xs ks)) ∧ w = w' := by
  obtain ⟨A, n, c⟩ := h
  obtain ⟨B, m, d⟩ := h'
  unfold IntsOk at ok ok'
  unfold IntsV
  have r := hr.head
  have s := hr'.head
  simp only at *
  have HL := Lib.hid s.len
  rcases Bool.eq_false_or_eq_true (okList xs 20 0 255) with h0 | h0
  case inr =>
    have HZ := run_items (ks := ks) h0
    go_enter Tryd.func138, Tryd.ntmps138
    go_wp2_with (go_at_call 94; refine (l29Items_any _ _ _ xs _ (by omega) r).mono ?_; rintro e w' ⟨rfl, rfl⟩)
    go_ret
    exact ⟨ret_int (by rw [HZ.out.1]), rfl⟩
  have H0 := Lib.hid h0
  go_enter Tryd.func138, Tryd.ntmps138
  go_wp2_with (go_at_call 94; refine (l29Items_any _ _ _ xs _ (by omega) r).mono ?_; rintro e w' ⟨rfl, rfl⟩)
  clear h0
  go_loop [5] (fun i => ∃ k : Nat, k ≤ m ∧ i = .int .i64 k ∧ allIn (ks.take k) 0 5 = true) (fun i => m - (intOf i).toNat)
  case atStart => exact ⟨0, Nat.zero_le _, rfl, rfl⟩
  case round =>
    obtain ⟨k, hk, rfl, hall⟩ := hrel
    have HA := Lib.hid hall
    clear hall
    by_cases hlt : k < m
    · obtain ⟨ad, rfl, hx⟩ := s.int hlt
      have HS := Lib.hid (allIn_take_succ (xs := ks) (lo := 0) (hi := 5) (k := k) (by rw [HL.out]; exact hlt))
      have HF : Hid (kindOk (ks.getD k 0) = false → allIn ks 0 5 = false) := fun h => allIn_false_of (k := k) (by rw [HL.out]; exact hlt) h
      generalize ks.getD k 0 = x at *
      rcases Bool.eq_false_or_eq_true (kindOk x) with h | h
      · go_wp2_with (go_at_call 85; refine (l29Kind_any _ _).mono ?_; rintro e w' ⟨rfl, rfl⟩)
        go_round
        case rel => exact ⟨k + 1, by omega, by go_num, by rw [HS.out, HA.out, show inR x 0 5 = true from h]; rfl⟩
        case measure => simp [intOf]; omega
      · go_wp2_with (go_at_call 85; refine (l29Kind_any _ _).mono ?_; rintro e w' ⟨rfl, rfl⟩)
        go_ret
        exact ⟨ret_int (by rw [(run_kinds H0.out (HF.out h)).out.1]), rfl⟩
    · have HK := Lib.hid (allIn_of_take HA.out (by rw [HL.out]; omega))
      by_cases h4 : (m : Int) ≤ 400
      · go_wp2
        go_ret
        exact ⟨ret_int (by rw [(run_yes H0.out HK.out (by rw [HL.out]; exact h4)).out.1]), rfl⟩
      · go_wp2
        go_ret
        exact ⟨ret_int (by rw [(run_long H0.out HK.out (by rw [HL.out]; omega)).out.1]), rfl⟩
theorem LinkCells_eq (h : LinkH) (l : LinkC) : LinkCells h l = #[.slice h.items.A h.items.n h.items.c, .int .i64 l.base, .int .i64 l.next, .slice h.packets.A h.packets.n h.packets.c, .slice h.acks.A h.acks.n h.acks.c, .slice h.got.A h.got.n h.got.c] := rfl
theorem LinkOwn.ok {w : World} {B : Nat} {k : LinkH} {l : LinkC} (o : LinkOwn w B k l) (K : LOk l) : LinkOk k := by
  have h0 := o.items.rd1.len; have h1 := o.packets.rd.len; have h2 := o.acks.rd1.len; have h3 := o.got.rd1.len
  have k0 := K.n; have k1 := K.np; have k2 := K.na; have k3 := K.ng
  exact ⟨by omega, by omega, by omega, by omega⟩
theorem Blk.set6 {w : World} {g : Nat} {t : TypeId} {a b c d e f x0 x1 x2 x3 x4 x5 : Value} (h : Blk w g t #[a, b, c, d, e, f]) : Blk ((((((w.setCell ⟨g, 0, none⟩ x0).setCell ⟨g, 1, none⟩ x1).setCell ⟨g, 2, none⟩ x2).setCell ⟨g, 3, none⟩ x3).setCell ⟨g, 4, none⟩ x4).setCell ⟨g, 5, none⟩ x5) g t #[x0, x1, x2, x3, x4, x5] := (((((h.set_ 0 x0).set_ 1 x1).set_ 2 x2).set_ 3 x3).set_ 4 x4).set_ 5 x5

set_option maxRecDepth 100000 in
set_option maxHeartbeats 2000000 in
theorem l29Run_any (h h' : Hd) (xs ks : List Int) (w : World) (ok : IntsOk h) (ok' : IntsOk h') (hr : RdAll w (IntsS h xs)) (hr' : RdAll w (IntsS h' ks)) (hx : okList xs 20 0 255 = true) (hk : allIn ks 0 5 = true) :
    Calls Tryd.prog 139 #[IntsV h, IntsV h'] w fun e w' => ∃ k, e = .returned (LinkV k (runTo xs ks ks.length)) ∧ LinkOwn w' w.heap.size k (runTo xs ks ks.length) ∧ Below w.heap.size w w' := by
  obtain ⟨A, n, c⟩ := h
  obtain ⟨B, m, d⟩ := h'
  unfold IntsOk at ok ok'
  unfold IntsV
  have r := hr.head
  have s := hr'.head
  simp only at *
  have HL := Lib.hid s.len
  have RO := fun n hn => runTo_ok hx hk n hn
  have HRO := Lib.hid RO
  have HKs := Lib.hid hk
  clear RO hx hk hr hr'
  go_enter Tryd.func139, Tryd.ntmps139
  go_wp2_with fail
  refine (l01OwnOwn_any A n c xs _ (by omega) (r.below (by (repeat (first | (with_reducible assumption) | (with_reducible exact Below.refl _ _) | (with_reducible refine Below.drew ?_) | (with_reducible refine Below.drewN ?_ _) | (with_reducible refine Below.setCell ?_ ?_ _) | (with_reducible refine Below.alloc ?_ ?_ _) | assumption)); all_goals (first | omega | (simp; done) | (simp; omega))))).mono ?_
  rintro e w1 ⟨k0, rfl, hn0, o0, b1⟩
  have hb1 : Below w.heap.size w w1 := (show Below w.heap.size w _ from (by (repeat (first | (with_reducible assumption) | (with_reducible exact Below.refl _ _) | (with_reducible refine Below.drew ?_) | (with_reducible refine Below.drewN ?_ _) | (with_reducible refine Below.setCell ?_ ?_ _) | (with_reducible refine Below.alloc ?_ ?_ _) | assumption)); all_goals (first | omega | (simp; done) | (simp; omega)))).trans (b1.mono (by first | omega | (simp; done) | (simp; omega)))
  have KR : Blk w1 w.heap.size 48 #[.slice none 0 0, .int .i64 0, .int .i64 0, .slice none 0 0, .slice none 0 0, .slice none 0 0] := Blk.below (Blk.newN _ _ _ rfl) b1 (by first | omega | (simp; done) | (simp; omega))
  have z1 : w.heap.size + 1 ≤ w1.heap.size := Nat.le_trans (by first | omega | (simp; done) | (simp; omega)) b1.size
  have o1 := o0.mono (show w.heap.size + 1 ≤ _ from (by first | omega | (simp; done) | (simp; omega)))
  clear o0 b1 hn0
  go_wp2_with fail
  have BB : Below w1.heap.size w1 (w1.alloc (.cells #[.slice k0.A k0.n k0.c, .int .i64 0, .int .i64 0, .slice none 0 0, .slice none 0 0, .slice none 0 0] 48)) := (Below.refl _ _).alloc (Nat.le_refl _) _
  have X0 : LinkBox (w1.alloc (.cells #[.slice k0.A k0.n k0.c, .int .i64 0, .int .i64 0, .slice none 0 0, .slice none 0 0, .slice none 0 0] 48)) (w.heap.size + 1) w1.heap.size ⟨k0, ⟨none, 0, 0⟩, ⟨none, 0, 0⟩, ⟨none, 0, 0⟩⟩ (link0 xs) :=
    ⟨Blk.newN _ _ _ rfl, ⟨o1.below BB, Own.nil _ _ _, Own.nil _ _ _, Own.nil _ _ _, Sep.cons (fun x hx y hy b e c => by
      simp only [List.mem_cons, List.not_mem_nil, or_false] at hy
      rcases hy with rfl | rfl | rfl <;> simp [Hd.row] at c) (Sep.ofNone fun s hs => by
      simp only [List.mem_cons, List.not_mem_nil, or_false] at hs
      rcases hs with rfl | rfl | rfl <;> rfl)⟩, z1, fun s hs c => by
      simp only [LinkB, List.mem_cons, List.not_mem_nil, or_false] at hs
      rcases hs with rfl | rfl | rfl | rfl
      · have := (o1.rowlt _ c).2; omega
      · cases c
      · cases c
      · cases c⟩
  have KR2 := KR.below BB (by omega)
  have hb2 := hb1.trans (BB.mono hb1.size)
  have z2 := BB.size
  generalize w1.alloc (.cells #[.slice k0.A k0.n k0.c, .int .i64 0, .int .i64 0, .slice none 0 0, .slice none 0 0, .slice none 0 0] 48) = w2 at X0 KR2 hb2 z2 ⊢
  clear BB KR hb1 o1
  go_loopw [6] (fun i wr => ∃ (q : Nat) (kk : LinkH), q ≤ m ∧ i = .int .i64 q ∧ LinkBox wr (w.heap.size + 1) w1.heap.size kk (runTo xs ks q) ∧ Blk wr w.heap.size 48 #[.slice none 0 0, .int .i64 0, .int .i64 0, .slice none 0 0, .slice none 0 0, .slice none 0 0] ∧ Below w.heap.size w wr) (fun i _ => m - (intOf i).toNat)
  case atStart => exact ⟨0, _, Nat.zero_le _, rfl, X0, KR2, hb2⟩
  case round =>
    clear X0 KR2 hb2
    obtain ⟨q, kk, hq, rfl, X, KR, hb⟩ := hrel
    have cX := fun o => X.box.cell o
    have fX := fun o => X.box.frozen o
    have gX := X.box.lt
    have cR := fun o => KR.cell o
    have fR := fun o => KR.frozen o
    have gR := KR.lt
    unfold LinkCells at cX
    have hin := HRO.out q (by rw [HL.out]; exact hq)
    have HIN := Lib.hid hin
    clear hin
    by_cases hlt : q < m
    · obtain ⟨ad, rfl, hx⟩ := (s.below hb).int hlt
      have HS := Lib.hid (runTo_succ xs ks (n := q) (by rw [HL.out]; exact hlt))
      have hkb := allIn_getD HKs.out (show q < ks.length by rw [HL.out]; exact hlt)
      have HKB := Lib.hid (inR_mk hkb.1 hkb.2)
      clear hkb
      have i0 : (0 : Int) ≤ (q : Int) := by omega
      have i1 : (q : Int) < (m : Int) := by omega
      generalize ks.getD q 0 = x at *
      have hOK := Lib.hid (X.own.ok HIN.out.1)
      go_wp2_with fail
      go_still_tail 5, (by kernel_rfl)
      have D : LinkBox wr.drew (w.heap.size + 1) w1.heap.size kk (runTo xs ks q) := X.drew
      have dR : Blk wr.drew _ _ _ := KR
      have db := Below.drew hb
      have hx2 : wr.drew.cell? (ad.add q) = some (.int .i64 x) := hx
      change wpList _ _ _ _ _ wr.drew
      generalize wr.drew = w3 at D dR db hx2 ⊢
      clear X KR hb cX fX gX cR fR gR hx
      go_wp2_with fail
      refine (l29Can_any kk (runTo xs ks q) x _ hOK.out HIN.out.1 HKB.out D.own.rd).mono ?_
      rintro e w4 ⟨rfl, b4⟩
      have D4 := D.below b4
      have dR4 := dR.below b4 dR.lt
      have db4 := db.trans (b4.mono db.size)
      have hx4 : w4.cell? (ad.add q) = some (.int .i64 x) := by
        rw [b4.cell (by
          have := World.block_lt_of_cell? w3 _ hx2
          exact this)]
        exact hx2
      clear D dR db hx2 b4
      have cX := fun o => D4.box.cell o
      have fX := fun o => D4.box.frozen o
      have gX := D4.box.lt
      have cR := fun o => dR4.cell o
      have gR := dR4.lt
      unfold LinkCells at cX
      rcases Bool.eq_false_or_eq_true (canL (runTo xs ks q) x) with hc | hc
      · go_wp2_with fail
        go_still_tail 5, (by kernel_rfl)
        have HC := Lib.hid hc
        have E : LinkBox w4.drew (w.heap.size + 1) w1.heap.size kk (runTo xs ks q) := D4.drew
        have eR : Blk w4.drew _ _ _ := dR4
        have eb := Below.drew db4
        change wpList _ _ _ _ _ w4.drew
        generalize w4.drew = w5 at E eR eb ⊢
        clear D4 dR4 db4 cX fX gX cR gR hx4 hc
        go_wp2_with fail
        refine (l29Step_any kk (runTo xs ks q) x _ hOK.out HIN.out.1 HKB.out HC.out E.own.rd).mono ?_
        rintro e w6 ⟨k6, he, ow, b6⟩
        unfold LinkV at he
        subst he
        have B6 := E.box.below b6 E.box.lt
        have f6 := fun o => B6.frozen o
        have c6 := fun o => B6.cell o
        have g6 := B6.lt
        have gE := E.box.lt
        have eR6 := eR.below b6 eR.lt
        have eb6 := eb.trans (b6.mono eb.size)
        unfold LinkCells at c6
        clear eR eb
        go_wp2
        go_roundw
        case rel =>
          refine ⟨q + 1, k6, by omega, by go_num, ?_, ?_, ?_⟩
          · rw [HS.out, if_pos HC.out]
            refine ⟨?_, ?_, z1, fun s hs c => by have := (ow.blt s hs _ c).1; omega⟩
            · rw [LinkCells_eq] at B6 ⊢
              exact Blk.set6 B6
            · exact (ow.above (D := w5.heap.size) (by repeat (first | (refine Above.setCell ?_ (by first | omega | (simp; done) | (simp; omega)) _) | exact Above.refl _ _)) (Nat.le_refl _)).mono (by have := eb6.size; omega)
          · repeat (refine Blk.far ?_ (by first | omega | (simp; done) | (simp; omega)) _)
            exact eR6
          · exact (by (repeat (first | (with_reducible assumption) | (with_reducible exact Below.refl _ _) | (with_reducible refine Below.drew ?_) | (with_reducible refine Below.drewN ?_ _) | (with_reducible refine Below.setCell ?_ ?_ _) | (with_reducible refine Below.alloc ?_ ?_ _) | assumption)); all_goals (first | omega | (simp; done) | (simp; omega)))
        case measure => simp [intOf]; omega
      · go_wp2
        go_roundw
        case rel => exact ⟨q + 1, kk, by omega, by go_num, by rw [HS.out, if_neg (by rw [hc]; decide)]; exact D4, dR4, db4⟩
        case measure => simp [intOf]; omega
    · obtain rfl : q = m := by omega
      go_wp2
      rw [HL.out]
      refine bodyPost_ret (v := .agg #[.slice kk.items.A kk.items.n kk.items.c, .int .i64 (runTo xs ks q).base, .int .i64 (runTo xs ks q).next, .slice kk.packets.A kk.packets.n kk.packets.c, .slice kk.acks.A kk.acks.n kk.acks.c, .slice kk.got.A kk.got.n kk.got.c]) (by simp [results, Tryd.results139, go_sem, cR]) rfl ⟨kk, rfl, ?_, (by (repeat (first | (with_reducible assumption) | (with_reducible exact Below.refl _ _) | (with_reducible refine Below.drew ?_) | (with_reducible refine Below.drewN ?_ _) | (with_reducible refine Below.setCell ?_ ?_ _) | (with_reducible refine Below.alloc ?_ ?_ _) | assumption)); all_goals (first | omega | (simp; done) | (simp; omega)))⟩
      exact (X.own.above (D := w.heap.size + 1) (by repeat (first | (refine Above.setCell ?_ (by first | omega | (simp; done) | (simp; omega)) _) | exact Above.refl _ _)) (Nat.le_refl _)).mono (by first | omega | (simp; done) | (simp; omega))

end Go.Proofs.YtoledbicmghmbaaDoor
