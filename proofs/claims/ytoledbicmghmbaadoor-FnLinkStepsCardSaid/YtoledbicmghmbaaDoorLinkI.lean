/- Links: the reference's steps, spec.l29Step, kind by kind. -/
import Derived.Test.YtoledbicmghmbaaDoorLinkE
import Derived.Deep.DeepCutAuto
namespace Go.Proofs.YtoledbicmghmbaaDoor
open Go.RowKit

set_option maxRecDepth 100000 in
set_option maxHeartbeats 8000000 in
theorem l29Step2_any (h : LinkH) (l : LinkC) (w : World) (ok : LinkOk h) (K : LOk l) (hc : canL l 2 = true) (hr : RdAll w (LinkS h l)) :
    Calls Tryd.prog 84 #[LinkV h l, .int .i64 2] w fun e w' => ∃ k, e = .returned (LinkV k (stepL l 2)) ∧ LinkOwn w' w.heap.size k (stepL l 2) ∧ Below w.heap.size w w' := by
  have HS : Hid (stepL l 2 = ⟨l.items, l.base, l.next, l.packets.drop 2, l.acks, l.got⟩) := by unfold Hid stepL; simp
  have hp : 0 < l.packets.length := by unfold canL at hc; simp at hc; omega
  unfold LinkV
  go_enter Tryd.func84, Tryd.ntmps84
  go_wp2_with fail
  refine (l29Own_any h l _ ok (hr.below (by (repeat (first | (with_reducible assumption) | (with_reducible exact Below.refl _ _) | (with_reducible refine Below.drew ?_) | (with_reducible refine Below.drewN ?_ _) | (with_reducible refine Below.setCell ?_ ?_ _) | (with_reducible refine Below.alloc ?_ ?_ _) | assumption)); all_goals (first | omega | (simp; done) | (simp; omega))))).mono ?_
  rintro e w1 ⟨k, he, ow, b1⟩
  unfold LinkV at he
  subst he
  have hw1 : Below w.heap.size w w1 := (show Below w.heap.size w _ from (by (repeat (first | (with_reducible assumption) | (with_reducible exact Below.refl _ _) | (with_reducible refine Below.drew ?_) | (with_reducible refine Below.drewN ?_ _) | (with_reducible refine Below.setCell ?_ ?_ _) | (with_reducible refine Below.alloc ?_ ?_ _) | assumption)); all_goals (first | omega | (simp; done) | (simp; omega)))).trans (b1.mono (by first | omega | (simp; done) | (simp; omega)))
  have KB : Blk w1 w.heap.size 48 #[.slice h.items.A h.items.n h.items.c, .int .i64 l.base, .int .i64 l.next, .slice h.packets.A h.packets.n h.packets.c, .slice h.acks.A h.acks.n h.acks.c, .slice h.got.A h.got.n h.got.c] := Blk.below ((Blk.newN _ _ _ rfl).alloc _) b1 (by first | omega | (simp; done) | (simp; omega))
  have KR : Blk w1 (w.heap.size + 1) 48 #[.slice none 0 0, .int .i64 0, .int .i64 0, .slice none 0 0, .slice none 0 0, .slice none 0 0] := Blk.below (Blk.newN _ _ _ (by simp)) b1 (by first | omega | (simp; done) | (simp; omega))
  have OW := ow.mono (show w.heap.size + 2 ≤ _ from (by first | omega | (simp; done) | (simp; omega)))
  have z1 : w.heap.size + 2 ≤ w1.heap.size := Nat.le_trans (by first | omega | (simp; done) | (simp; omega)) b1.size
  clear ow b1
  have cB := fun o => KB.cell o
  have cR := fun o => KR.cell o
  have fR := fun o => KR.frozen o
  have qB : w.heap.size < w1.heap.size := by omega
  have qR : w.heap.size + 1 < w1.heap.size := by omega
  have HL3 := OW.packets.rd.len
  have hn3 : 1 ≤ k.packets.n := by omega
  have i0 : (0 : Int) < (k.packets.n : Int) := by omega
  have i1 : (k.packets.n : Int) ≤ 1048576 := by have := K.np; omega
  have hsl := fun W => run_tail (P := Tryd.prog) W 46 64 2 16 Tryd.underlying46 Packet_info k.packets hn3
  have HT := OW.packets.tl (by omega)
  have HR := Own.tl_row k.packets 2
  generalize k.packets.tl 2 = Q at *
  clear HL3
  go_wp2_with fail
  go_region_held3 (fun w' => ∀ o, w'.cell? ⟨w1.heap.size, o, none⟩ = #[.slice k.items.A k.items.n k.items.c, .int .i64 l.base, .int .i64 l.next, .slice k.packets.A k.packets.n k.packets.c, .slice k.acks.A k.acks.n k.acks.c, .slice k.got.A k.got.n k.got.c][o]?)
    (first | (with_reducible assumption) | ((with_reducible refine cells_new _ _ _ ?_); (simp; done)) | ((with_reducible refine cells_drew ?_); (with_reducible refine cells_new _ _ _ ?_); (simp; done)) | (intro o; go_keep))
    (fail)

  go_wp2
  refine bodyPost_ret (v := .agg #[.slice k.items.A k.items.n k.items.c, .int .i64 l.base, .int .i64 l.next, .slice Q.A Q.n Q.c, .slice k.acks.A k.acks.n k.acks.c, .slice k.got.A k.got.n k.got.c]) (by simp [results, Tryd.results84, go_sem, cR, qR]) rfl ⟨⟨k.items, Q, k.acks, k.got⟩, by rw [HS.out], ?_, ?_⟩
  · rw [HS.out]
    exact (((⟨OW.items, ints_drop l.packets 2 ▸ HT, OW.acks, OW.got, Sep.replace (L := LinkB k) 1 OW.sep (fun b e => .inl (by rw [← HR b e]; rfl))⟩ : LinkOwn w1 (w.heap.size + 2) ⟨k.items, Q, k.acks, k.got⟩ ⟨l.items, l.base, l.next, l.packets.drop 2, l.acks, l.got⟩)).above (D := w.heap.size + 2) (by repeat (first | (with_reducible refine Above.drew ?_) | (with_reducible refine Above.drewN ?_ _) | (with_reducible refine Above.alloc ?_ _) | (refine Above.setCell ?_ (by first | omega | (simp; done) | (simp; omega)) _) | exact Above.refl _ _)) (Nat.le_refl _)).mono (by first | omega | (simp; done) | (simp; omega))
  · exact (by (repeat (first | (with_reducible assumption) | (with_reducible exact Below.refl _ _) | (with_reducible refine Below.drew ?_) | (with_reducible refine Below.drewN ?_ _) | (with_reducible refine Below.setCell ?_ ?_ _) | (with_reducible refine Below.alloc ?_ ?_ _) | assumption)); all_goals (first | omega | (simp; done) | (simp; omega)))
set_option maxRecDepth 100000 in
set_option maxHeartbeats 8000000 in
theorem l29Step4_any (h : LinkH) (l : LinkC) (w : World) (ok : LinkOk h) (K : LOk l) (hc : canL l 4 = true) (hr : RdAll w (LinkS h l)) :
    Calls Tryd.prog 84 #[LinkV h l, .int .i64 4] w fun e w' => ∃ k, e = .returned (LinkV k (stepL l 4)) ∧ LinkOwn w' w.heap.size k (stepL l 4) ∧ Below w.heap.size w w' := by
  have HS : Hid (stepL l 4 = ⟨l.items, l.base, l.next, l.packets, l.acks.drop 1, l.got⟩) := by unfold Hid stepL; simp
  have hp : 0 < l.acks.length := by unfold canL at hc; simp at hc; omega
  unfold LinkV
  go_enter Tryd.func84, Tryd.ntmps84
  go_wp2_with fail
  refine (l29Own_any h l _ ok (hr.below (by (repeat (first | (with_reducible assumption) | (with_reducible exact Below.refl _ _) | (with_reducible refine Below.drew ?_) | (with_reducible refine Below.drewN ?_ _) | (with_reducible refine Below.setCell ?_ ?_ _) | (with_reducible refine Below.alloc ?_ ?_ _) | assumption)); all_goals (first | omega | (simp; done) | (simp; omega))))).mono ?_
  rintro e w1 ⟨k, he, ow, b1⟩
  unfold LinkV at he
  subst he
  have hw1 : Below w.heap.size w w1 := (show Below w.heap.size w _ from (by (repeat (first | (with_reducible assumption) | (with_reducible exact Below.refl _ _) | (with_reducible refine Below.drew ?_) | (with_reducible refine Below.drewN ?_ _) | (with_reducible refine Below.setCell ?_ ?_ _) | (with_reducible refine Below.alloc ?_ ?_ _) | assumption)); all_goals (first | omega | (simp; done) | (simp; omega)))).trans (b1.mono (by first | omega | (simp; done) | (simp; omega)))
  have KB : Blk w1 w.heap.size 48 #[.slice h.items.A h.items.n h.items.c, .int .i64 l.base, .int .i64 l.next, .slice h.packets.A h.packets.n h.packets.c, .slice h.acks.A h.acks.n h.acks.c, .slice h.got.A h.got.n h.got.c] := Blk.below ((Blk.newN _ _ _ rfl).alloc _) b1 (by first | omega | (simp; done) | (simp; omega))
  have KR : Blk w1 (w.heap.size + 1) 48 #[.slice none 0 0, .int .i64 0, .int .i64 0, .slice none 0 0, .slice none 0 0, .slice none 0 0] := Blk.below (Blk.newN _ _ _ (by simp)) b1 (by first | omega | (simp; done) | (simp; omega))
  have OW := ow.mono (show w.heap.size + 2 ≤ _ from (by first | omega | (simp; done) | (simp; omega)))
  have z1 : w.heap.size + 2 ≤ w1.heap.size := Nat.le_trans (by first | omega | (simp; done) | (simp; omega)) b1.size
  clear ow b1
  have cB := fun o => KB.cell o
  have cR := fun o => KR.cell o
  have fR := fun o => KR.frozen o
  have qB : w.heap.size < w1.heap.size := by omega
  have qR : w.heap.size + 1 < w1.heap.size := by omega
  have HL4 := OW.acks.rd1.len
  have hn4 : 1 ≤ k.acks.n := by omega
  have i0 : (0 : Int) < (k.acks.n : Int) := by omega
  have i1 : (k.acks.n : Int) ≤ 1048576 := by have := K.na; omega
  have hsl := fun W => run_tail (P := Tryd.prog) W 40 2 1 8 Tryd.underlying40 Int64_info k.acks hn4
  have HT := OW.acks.tl (by omega)
  have HR := Own.tl_row k.acks 1
  generalize k.acks.tl 1 = Q at *
  clear HL4
  go_wp2_with fail
  go_region_held3 (fun w' => ∀ o, w'.cell? ⟨w1.heap.size, o, none⟩ = #[.slice k.items.A k.items.n k.items.c, .int .i64 l.base, .int .i64 l.next, .slice k.packets.A k.packets.n k.packets.c, .slice k.acks.A k.acks.n k.acks.c, .slice k.got.A k.got.n k.got.c][o]?)
    (first | (with_reducible assumption) | ((with_reducible refine cells_new _ _ _ ?_); (simp; done)) | ((with_reducible refine cells_drew ?_); (with_reducible refine cells_new _ _ _ ?_); (simp; done)) | (intro o; go_keep))
    (fail)
  go_wp2
  refine bodyPost_ret (v := .agg #[.slice k.items.A k.items.n k.items.c, .int .i64 l.base, .int .i64 l.next, .slice k.packets.A k.packets.n k.packets.c, .slice Q.A Q.n Q.c, .slice k.got.A k.got.n k.got.c]) (by simp [results, Tryd.results84, go_sem, cR, qR]) rfl ⟨⟨k.items, k.packets, Q, k.got⟩, by rw [HS.out], ?_, ?_⟩
  · rw [HS.out]
    exact (((⟨OW.items, OW.packets, ints_drop l.acks 1 ▸ HT, OW.got, Sep.replace (L := LinkB k) 2 OW.sep (fun b e => .inl (by rw [← HR b e]; rfl))⟩ : LinkOwn w1 (w.heap.size + 2) ⟨k.items, k.packets, Q, k.got⟩ ⟨l.items, l.base, l.next, l.packets, l.acks.drop 1, l.got⟩)).above (D := w.heap.size + 2) (by repeat (first | (with_reducible refine Above.drew ?_) | (with_reducible refine Above.drewN ?_ _) | (with_reducible refine Above.alloc ?_ _) | (refine Above.setCell ?_ (by first | omega | (simp; done) | (simp; omega)) _) | exact Above.refl _ _)) (Nat.le_refl _)).mono (by first | omega | (simp; done) | (simp; omega))
  · exact (by (repeat (first | (with_reducible assumption) | (with_reducible exact Below.refl _ _) | (with_reducible refine Below.drew ?_) | (with_reducible refine Below.drewN ?_ _) | (with_reducible refine Below.setCell ?_ ?_ _) | (with_reducible refine Below.alloc ?_ ?_ _) | assumption)); all_goals (first | omega | (simp; done) | (simp; omega)))

set_option maxRecDepth 100000 in
set_option maxHeartbeats 8000000 in
theorem l29Step5_any (h : LinkH) (l : LinkC) (w : World) (ok : LinkOk h) (K : LOk l) (hc : canL l 5 = true) (hr : RdAll w (LinkS h l)) :
    Calls Tryd.prog 84 #[LinkV h l, .int .i64 5] w fun e w' => ∃ k, e = .returned (LinkV k (stepL l 5)) ∧ LinkOwn w' w.heap.size k (stepL l 5) ∧ Below w.heap.size w w' := by
  have HS : Hid (stepL l 5 = ⟨l.items, l.base, l.base, l.packets, l.acks, l.got⟩) := by unfold Hid stepL; simp
  unfold LinkV
  go_enter Tryd.func84, Tryd.ntmps84
  go_wp2_with fail
  refine (l29Own_any h l _ ok (hr.below (by (repeat (first | (with_reducible assumption) | (with_reducible exact Below.refl _ _) | (with_reducible refine Below.drew ?_) | (with_reducible refine Below.drewN ?_ _) | (with_reducible refine Below.setCell ?_ ?_ _) | (with_reducible refine Below.alloc ?_ ?_ _) | assumption)); all_goals (first | omega | (simp; done) | (simp; omega))))).mono ?_
  rintro e w1 ⟨k, he, ow, b1⟩
  unfold LinkV at he
  subst he
  have hw1 : Below w.heap.size w w1 := (show Below w.heap.size w _ from (by (repeat (first | (with_reducible assumption) | (with_reducible exact Below.refl _ _) | (with_reducible refine Below.drew ?_) | (with_reducible refine Below.drewN ?_ _) | (with_reducible refine Below.setCell ?_ ?_ _) | (with_reducible refine Below.alloc ?_ ?_ _) | assumption)); all_goals (first | omega | (simp; done) | (simp; omega)))).trans (b1.mono (by first | omega | (simp; done) | (simp; omega)))
  have KB : Blk w1 w.heap.size 48 #[.slice h.items.A h.items.n h.items.c, .int .i64 l.base, .int .i64 l.next, .slice h.packets.A h.packets.n h.packets.c, .slice h.acks.A h.acks.n h.acks.c, .slice h.got.A h.got.n h.got.c] := Blk.below ((Blk.newN _ _ _ rfl).alloc _) b1 (by first | omega | (simp; done) | (simp; omega))
  have KR : Blk w1 (w.heap.size + 1) 48 #[.slice none 0 0, .int .i64 0, .int .i64 0, .slice none 0 0, .slice none 0 0, .slice none 0 0] := Blk.below (Blk.newN _ _ _ (by simp)) b1 (by first | omega | (simp; done) | (simp; omega))
  have OW := ow.mono (show w.heap.size + 2 ≤ _ from (by first | omega | (simp; done) | (simp; omega)))
  have z1 : w.heap.size + 2 ≤ w1.heap.size := Nat.le_trans (by first | omega | (simp; done) | (simp; omega)) b1.size
  clear ow b1
  have cB := fun o => KB.cell o
  have cR := fun o => KR.cell o
  have fR := fun o => KR.frozen o
  have qB : w.heap.size < w1.heap.size := by omega
  have qR : w.heap.size + 1 < w1.heap.size := by omega
  go_wp2
  refine bodyPost_ret (v := .agg #[.slice k.items.A k.items.n k.items.c, .int .i64 l.base, .int .i64 l.base, .slice k.packets.A k.packets.n k.packets.c, .slice k.acks.A k.acks.n k.acks.c, .slice k.got.A k.got.n k.got.c]) (by simp [results, Tryd.results84, go_sem, cR, qR]) rfl ⟨⟨k.items, k.packets, k.acks, k.got⟩, by rw [HS.out], ?_, ?_⟩
  · rw [HS.out]
    exact (((⟨OW.items, OW.packets, OW.acks, OW.got, OW.sep⟩ : LinkOwn w1 (w.heap.size + 2) k ⟨l.items, l.base, l.base, l.packets, l.acks, l.got⟩)).above (D := w.heap.size + 2) (by repeat (first | (with_reducible refine Above.drew ?_) | (with_reducible refine Above.drewN ?_ _) | (with_reducible refine Above.alloc ?_ _) | (refine Above.setCell ?_ (by first | omega | (simp; done) | (simp; omega)) _) | exact Above.refl _ _)) (Nat.le_refl _)).mono (by first | omega | (simp; done) | (simp; omega))
  · exact (by (repeat (first | (with_reducible assumption) | (with_reducible exact Below.refl _ _) | (with_reducible refine Below.drew ?_) | (with_reducible refine Below.drewN ?_ _) | (with_reducible refine Below.setCell ?_ ?_ _) | (with_reducible refine Below.alloc ?_ ?_ _) | assumption)); all_goals (first | omega | (simp; done) | (simp; omega)))

set_option maxRecDepth 100000 in
set_option maxHeartbeats 8000000 in
theorem l29Step3_any (h : LinkH) (l : LinkC) (w : World) (ok : LinkOk h) (K : LOk l) (hc : canL l 3 = true) (hr : RdAll w (LinkS h l)) :
    Calls Tryd.prog 84 #[LinkV h l, .int .i64 3] w fun e w' => ∃ k, e = .returned (LinkV k (stepL l 3)) ∧ LinkOwn w' w.heap.size k (stepL l 3) ∧ Below w.heap.size w w' := by
  have HS : Hid (stepL l 3 = ⟨l.items, ackBase l, max l.next (ackBase l), l.packets, l.acks.drop 1, l.got⟩) := by unfold Hid stepL; simp
  have hp : 0 < l.acks.length := by unfold canL at hc; simp at hc; omega
  have ha := getD_in K.acks (by decide) (by decide) 0
  have HB : Hid (ackBase l = min (l.base + (l.acks.getD 0 0 - l.base % 4 + 4) % 4) (l.items.length : Int)) := rfl
  have hbk := ackBase_bd K
  have HL0 := LinkS_items hr
  have HLA := LinkS_acks hr
  obtain ⟨aa, hAA, hxa⟩ := hr.tail.tail.head.int (show 0 < h.acks.n by omega)
  have k0 := K.base0
  have k1 := K.base1
  have k2 := K.n
  have k3 := K.next0
  have k4 := K.next1
  have n4 : (0 : Int) < (h.acks.n : Int) := by omega
  have n4n : 0 < h.acks.n := by omega
  have n4' : (h.acks.n : Int) ≤ 12 := by have := K.na; omega
  have n0 : (h.items.n : Int) ≤ 20 := by omega
  have HL0' := Lib.hid HL0
  have HAA := Lib.hid hAA
  have HXA := Lib.hid hxa
  clear HL0 HLA hAA hxa
  unfold LinkV
  go_enter Tryd.func84, Tryd.ntmps84
  go_wp2_with fail
  refine (l29Own_any h l _ ok (hr.below (by (repeat (first | (with_reducible assumption) | (with_reducible exact Below.refl _ _) | (with_reducible refine Below.drew ?_) | (with_reducible refine Below.drewN ?_ _) | (with_reducible refine Below.setCell ?_ ?_ _) | (with_reducible refine Below.alloc ?_ ?_ _) | assumption)); all_goals (first | omega | (simp; done) | (simp; omega))))).mono ?_
  rintro e w1 ⟨k, he, ow, b1⟩
  unfold LinkV at he
  subst he
  have hw1 : Below w.heap.size w w1 := (show Below w.heap.size w _ from (by (repeat (first | (with_reducible assumption) | (with_reducible exact Below.refl _ _) | (with_reducible refine Below.drew ?_) | (with_reducible refine Below.drewN ?_ _) | (with_reducible refine Below.setCell ?_ ?_ _) | (with_reducible refine Below.alloc ?_ ?_ _) | assumption)); all_goals (first | omega | (simp; done) | (simp; omega)))).trans (b1.mono (by first | omega | (simp; done) | (simp; omega)))
  have KB : Blk w1 w.heap.size 48 #[.slice h.items.A h.items.n h.items.c, .int .i64 l.base, .int .i64 l.next, .slice h.packets.A h.packets.n h.packets.c, .slice h.acks.A h.acks.n h.acks.c, .slice h.got.A h.got.n h.got.c] := Blk.below ((Blk.newN _ _ _ rfl).alloc _) b1 (by first | omega | (simp; done) | (simp; omega))
  have KR : Blk w1 (w.heap.size + 1) 48 #[.slice none 0 0, .int .i64 0, .int .i64 0, .slice none 0 0, .slice none 0 0, .slice none 0 0] := Blk.below (Blk.newN _ _ _ (by simp)) b1 (by first | omega | (simp; done) | (simp; omega))
  have OW := ow.mono (show w.heap.size + 2 ≤ _ from (by first | omega | (simp; done) | (simp; omega)))
  have z1 : w.heap.size + 2 ≤ w1.heap.size := Nat.le_trans (by first | omega | (simp; done) | (simp; omega)) b1.size
  clear ow b1
  have cB := fun o => KB.cell o
  have cR := fun o => KR.cell o
  have fR := fun o => KR.frozen o
  have qB : w.heap.size < w1.heap.size := by omega
  have qR : w.heap.size + 1 < w1.heap.size := by omega
  have HL4 := OW.acks.rd1.len
  have hn4 : 1 ≤ k.acks.n := by omega
  have i0 : (0 : Int) < (k.acks.n : Int) := by omega
  have i1 : (k.acks.n : Int) ≤ 1048576 := by have := K.na; omega
  have hsl := fun W => run_tail (P := Tryd.prog) W 40 2 1 8 Tryd.underlying40 Int64_info k.acks hn4
  have HT := OW.acks.tl (by omega)
  have HR := Own.tl_row k.acks 1
  generalize k.acks.tl 1 = Q at *
  clear HL4
  have hxa1 : w1.cell? (aa.add 0) = some (.int .i64 (l.acks.getD 0 0)) := (hw1.cell (by rw [block_of_add]; exact hr.tail.tail.head.lt HAA.out (show 0 < h.acks.n by omega))).trans HXA.out
  rw [HAA.out] at cB
  rw [show aa.add 0 = aa from rfl] at hxa1
  clear HXA
  have hxa2 : (w1.alloc (.cells #[.slice k.items.A k.items.n k.items.c, .int .i64 l.base, .int .i64 l.next, .slice k.packets.A k.packets.n k.packets.c, .slice k.acks.A k.acks.n k.acks.c, .slice k.got.A k.got.n k.got.c] 48)).cell? aa = some (.int .i64 (l.acks.getD 0 0)) := by rw [World.cell?_alloc_some _ _ _ (by rw [hxa1]; rfl)]; exact hxa1
  generalize l.acks.getD 0 0 = a0 at *
  have e1 : IntKind.i64.wrap (a0 + 4) = a0 + 4 := IntWalk.i64_in _ (by omega)
  have e2 : IntKind.i64.wrap (a0 + 4 - l.base % 4) = a0 + 4 - l.base % 4 := IntWalk.i64_in _ (by omega)
  have e3 : l.base.tmod 4 = l.base % 4 := Int.tmod_eq_emod_of_nonneg k0
  have e4 : (a0 + 4 - l.base % 4).tmod 4 = (a0 + 4 - l.base % 4) % 4 := Int.tmod_eq_emod_of_nonneg (by omega)
  go_wp2_with fail
  go_quiet (fail)
  have HV : Hid ((if l.base + (a0 + 4 - l.base) % 4 < (h.items.n : Int) then l.base + (a0 + 4 - l.base) % 4 else (h.items.n : Int)) = ackBase l) := by
    unfold Hid
    rw [HB.out, HL0'.out, show (a0 - l.base % 4 + 4) % 4 = (a0 + 4 - l.base) % 4 from by omega]
    split <;> omega
  rw [HV.out]
  clear HV HB e1 e2 e3 e4 hxa1 hxa2 HAA HL0'
  generalize ackBase l = nb at *
  have KO : Blk ((w1.alloc (.cells #[.slice k.items.A k.items.n k.items.c, .int .i64 l.base, .int .i64 l.next, .slice k.packets.A k.packets.n k.packets.c, .slice k.acks.A k.acks.n k.acks.c, .slice k.got.A k.got.n k.got.c] 48)).drewN nq) w1.heap.size 48 #[.slice k.items.A k.items.n k.items.c, .int .i64 l.base, .int .i64 l.next, .slice k.packets.A k.packets.n k.packets.c, .slice k.acks.A k.acks.n k.acks.c, .slice k.got.A k.got.n k.got.c] := (Blk.newN _ _ _ rfl).drewN nq
  have KR2 := (KR.alloc (.cells #[.slice k.items.A k.items.n k.items.c, .int .i64 l.base, .int .i64 l.next, .slice k.packets.A k.packets.n k.packets.c, .slice k.acks.A k.acks.n k.acks.c, .slice k.got.A k.got.n k.got.c] 48)).drewN nq
  have BB : Below w1.heap.size w1 ((w1.alloc (.cells #[.slice k.items.A k.items.n k.items.c, .int .i64 l.base, .int .i64 l.next, .slice k.packets.A k.packets.n k.packets.c, .slice k.acks.A k.acks.n k.acks.c, .slice k.got.A k.got.n k.got.c] 48)).drewN nq) := Below.drewN ((Below.refl _ _).alloc (Nat.le_refl _) _) nq
  have OW2 := OW.below BB
  have HT2 := HT.below BB
  have hw2 := hw1.trans (BB.mono hw1.size)
  have z2 := BB.size
  generalize (w1.alloc (.cells #[.slice k.items.A k.items.n k.items.c, .int .i64 l.base, .int .i64 l.next, .slice k.packets.A k.packets.n k.packets.c, .slice k.acks.A k.acks.n k.acks.c, .slice k.got.A k.got.n k.got.c] 48)).drewN nq = w2 at KO KR2 BB OW2 HT2 hw2 z2 ⊢
  clear cB cR fR KB KR OW HT hw1
  have cO := fun o => KO.cell o
  have cR := fun o => KR2.cell o
  have fR := fun o => KR2.frozen o
  have qO := KO.lt
  have qR2 := KR2.lt
  by_cases hmx : l.next < nb
  · rw [show max l.next nb = nb from by omega] at HS
    have hif : (if l.next < nb then nb else l.next) = nb := by split <;> omega
    have hne : w.heap.size + 1 ≠ w1.heap.size := by omega
    go_wp2_with fail
    go_region_held3 (fun w' => ∀ o, w'.cell? ⟨w1.heap.size, o, none⟩ = #[.slice k.items.A k.items.n k.items.c, .int .i64 l.base, .int .i64 l.next, .slice k.packets.A k.packets.n k.packets.c, .slice k.acks.A k.acks.n k.acks.c, .slice k.got.A k.got.n k.got.c][o]?)
      (first | (with_reducible assumption) | ((with_reducible refine cells_new _ _ _ ?_); (simp; done)) | ((with_reducible refine cells_drew ?_); (with_reducible refine cells_new _ _ _ ?_); (simp; done)) | (intro o; go_keep))
      (fail)
    go_wp2
    refine bodyPost_ret (v := .agg #[.slice k.items.A k.items.n k.items.c, .int .i64 nb, .int .i64 nb, .slice k.packets.A k.packets.n k.packets.c, .slice Q.A Q.n Q.c, .slice k.got.A k.got.n k.got.c]) (by simp [results, Tryd.results84, go_sem, cR]) rfl ⟨⟨k.items, k.packets, Q, k.got⟩, by rw [HS.out], ?_, ?_⟩
    · rw [HS.out]
      exact (((⟨OW2.items, OW2.packets, ints_drop l.acks 1 ▸ HT2, OW2.got, Sep.replace (L := LinkB k) 2 OW2.sep (fun b e => .inl (by rw [← HR b e]; rfl))⟩ : LinkOwn w2 (w.heap.size + 2) ⟨k.items, k.packets, Q, k.got⟩ ⟨l.items, nb, nb, l.packets, l.acks.drop 1, l.got⟩)).above (D := w.heap.size + 2) (by repeat (first | (with_reducible refine Above.drew ?_) | (with_reducible refine Above.drewN ?_ _) | (with_reducible refine Above.alloc ?_ _) | (refine Above.setCell ?_ (by first | omega | (simp; done) | (simp; omega)) _) | exact Above.refl _ _)) (Nat.le_refl _)).mono (by first | omega | (simp; done) | (simp; omega))
    · exact (by (repeat (first | (with_reducible assumption) | (with_reducible exact Below.refl _ _) | (with_reducible refine Below.drew ?_) | (with_reducible refine Below.drewN ?_ _) | (with_reducible refine Below.setCell ?_ ?_ _) | (with_reducible refine Below.alloc ?_ ?_ _) | assumption)); all_goals (first | omega | (simp; done) | (simp; omega)))
  · rw [show max l.next nb = l.next from by omega] at HS
    have hif : (if l.next < nb then nb else l.next) = l.next := by split <;> omega
    have hne : w.heap.size + 1 ≠ w1.heap.size := by omega
    go_wp2_with fail
    go_region_held3 (fun w' => ∀ o, w'.cell? ⟨w1.heap.size, o, none⟩ = #[.slice k.items.A k.items.n k.items.c, .int .i64 l.base, .int .i64 l.next, .slice k.packets.A k.packets.n k.packets.c, .slice k.acks.A k.acks.n k.acks.c, .slice k.got.A k.got.n k.got.c][o]?)
      (first | (with_reducible assumption) | ((with_reducible refine cells_new _ _ _ ?_); (simp; done)) | ((with_reducible refine cells_drew ?_); (with_reducible refine cells_new _ _ _ ?_); (simp; done)) | (intro o; go_keep))
      (fail)
    go_wp2
    refine bodyPost_ret (v := .agg #[.slice k.items.A k.items.n k.items.c, .int .i64 nb, .int .i64 l.next, .slice k.packets.A k.packets.n k.packets.c, .slice Q.A Q.n Q.c, .slice k.got.A k.got.n k.got.c]) (by simp [results, Tryd.results84, go_sem, cR]) rfl ⟨⟨k.items, k.packets, Q, k.got⟩, by rw [HS.out], ?_, ?_⟩
    · rw [HS.out]
      exact (((⟨OW2.items, OW2.packets, ints_drop l.acks 1 ▸ HT2, OW2.got, Sep.replace (L := LinkB k) 2 OW2.sep (fun b e => .inl (by rw [← HR b e]; rfl))⟩ : LinkOwn w2 (w.heap.size + 2) ⟨k.items, k.packets, Q, k.got⟩ ⟨l.items, nb, l.next, l.packets, l.acks.drop 1, l.got⟩)).above (D := w.heap.size + 2) (by repeat (first | (with_reducible refine Above.drew ?_) | (with_reducible refine Above.drewN ?_ _) | (with_reducible refine Above.alloc ?_ _) | (refine Above.setCell ?_ (by first | omega | (simp; done) | (simp; omega)) _) | exact Above.refl _ _)) (Nat.le_refl _)).mono (by first | omega | (simp; done) | (simp; omega))
    · exact (by (repeat (first | (with_reducible assumption) | (with_reducible exact Below.refl _ _) | (with_reducible refine Below.drew ?_) | (with_reducible refine Below.drewN ?_ _) | (with_reducible refine Below.setCell ?_ ?_ _) | (with_reducible refine Below.alloc ?_ ?_ _) | assumption)); all_goals (first | omega | (simp; done) | (simp; omega)))

set_option maxRecDepth 100000 in
set_option maxHeartbeats 8000000 in
theorem l29Step0_any (h : LinkH) (l : LinkC) (w : World) (ok : LinkOk h) (K : LOk l) (hc : canL l 0 = true) (hr : RdAll w (LinkS h l)) :
    Calls Tryd.prog 84 #[LinkV h l, .int .i64 0] w fun e w' => ∃ k, e = .returned (LinkV k (stepL l 0)) ∧ LinkOwn w' w.heap.size k (stepL l 0) ∧ Below w.heap.size w w' := by
  have hlt : l.next < (l.items.length : Int) ∧ (l.packets.length : Int) < 24 := by unfold canL at hc; simp at hc; omega
  have HL0 := LinkS_items hr
  have k0 := K.base0
  have k2 := K.n
  have k3 := K.next0
  have i0 : (0 : Int) ≤ l.next := by omega
  obtain ⟨nx, hnx⟩ : ∃ nx : Nat, l.next = (nx : Int) := ⟨l.next.toNat, by omega⟩
  obtain ⟨aa, hAA, hxa⟩ := hr.head.int (show nx < h.items.n by omega)
  have hnxT : l.next.toNat = nx := by omega
  have HS : Hid (stepL l 0 = ⟨l.items, l.base, l.next + 1, l.packets ++ [(nx : Int) % 4, l.items.getD nx 0], l.acks, l.got⟩) := by unfold Hid stepL; rw [if_pos rfl, hnxT, hnx]
  have i1 : nx < h.items.n := by omega
  have i2 : nx ≤ 20 := by omega
  have i1' : (nx : Int) < (h.items.n : Int) := by omega
  have HNX := Lib.hid hnx
  have HAA := Lib.hid hAA
  have HXA := Lib.hid hxa
  have n3 : l.packets.length < 24 := by omega
  clear HL0 hAA hxa hnxT hnx hlt k0 k2 k3 i0
  unfold LinkV
  go_enter Tryd.func84, Tryd.ntmps84
  go_wp2_with fail
  refine (l29Own_any h l _ ok (hr.below (by (repeat (first | (with_reducible assumption) | (with_reducible exact Below.refl _ _) | (with_reducible refine Below.drew ?_) | (with_reducible refine Below.drewN ?_ _) | (with_reducible refine Below.setCell ?_ ?_ _) | (with_reducible refine Below.alloc ?_ ?_ _) | assumption)); all_goals (first | omega | (simp; done) | (simp; omega))))).mono ?_
  rintro e w1 ⟨k, he, ow, b1⟩
  unfold LinkV at he
  subst he
  have hw1 : Below w.heap.size w w1 := (show Below w.heap.size w _ from (by (repeat (first | (with_reducible assumption) | (with_reducible exact Below.refl _ _) | (with_reducible refine Below.drew ?_) | (with_reducible refine Below.drewN ?_ _) | (with_reducible refine Below.setCell ?_ ?_ _) | (with_reducible refine Below.alloc ?_ ?_ _) | assumption)); all_goals (first | omega | (simp; done) | (simp; omega)))).trans (b1.mono (by first | omega | (simp; done) | (simp; omega)))
  have KB : Blk w1 w.heap.size 48 #[.slice h.items.A h.items.n h.items.c, .int .i64 l.base, .int .i64 l.next, .slice h.packets.A h.packets.n h.packets.c, .slice h.acks.A h.acks.n h.acks.c, .slice h.got.A h.got.n h.got.c] := Blk.below ((Blk.newN _ _ _ rfl).alloc _) b1 (by first | omega | (simp; done) | (simp; omega))
  have KR : Blk w1 (w.heap.size + 1) 48 #[.slice none 0 0, .int .i64 0, .int .i64 0, .slice none 0 0, .slice none 0 0, .slice none 0 0] := Blk.below (Blk.newN _ _ _ (by simp)) b1 (by first | omega | (simp; done) | (simp; omega))
  have OW := ow.mono (show w.heap.size + 2 ≤ _ from (by first | omega | (simp; done) | (simp; omega)))
  have z1 : w.heap.size + 2 ≤ w1.heap.size := Nat.le_trans (by first | omega | (simp; done) | (simp; omega)) b1.size
  clear ow b1
  have cB := fun o => KB.cell o
  have cR := fun o => KR.cell o
  have fR := fun o => KR.frozen o
  have qB : w.heap.size < w1.heap.size := by omega
  have qR : w.heap.size + 1 < w1.heap.size := by omega
  have hp3 : k.packets.n < 12 := by have := OW.packets.rd.len; omega
  have hxa1 : w1.cell? (aa.add nx) = some (.int .i64 (l.items.getD nx 0)) := (hw1.cell (by rw [block_of_add]; exact hr.head.lt HAA.out (show 0 < h.items.n by omega))).trans HXA.out
  have hab : (aa.add nx).block < w.heap.size := by rw [block_of_add]; exact hr.head.lt HAA.out (show 0 < h.items.n by omega)
  rw [HAA.out] at cB
  rw [HNX.out] at cB
  clear HXA
  generalize l.items.getD nx 0 = y0 at *
  have hxa2 : (w1.alloc (.cells #[.slice k.items.A k.items.n k.items.c, .int .i64 l.base, .int .i64 l.next, .slice k.packets.A k.packets.n k.packets.c, .slice k.acks.A k.acks.n k.acks.c, .slice k.got.A k.got.n k.got.c] 48)).cell? (aa.add nx) = some (.int .i64 y0) := by rw [World.cell?_alloc_some _ _ _ (by rw [hxa1]; rfl)]; exact hxa1
  have HB2 : Hid (∀ r : Nat, k.packets.row = some r → w.heap.size + 2 ≤ r ∧ r < w1.heap.size) := fun r e => OW.packets.rowlt r e
  have KO : Blk (w1.alloc (.cells #[.slice k.items.A k.items.n k.items.c, .int .i64 l.base, .int .i64 l.next, .slice k.packets.A k.packets.n k.packets.c, .slice k.acks.A k.acks.n k.acks.c, .slice k.got.A k.got.n k.got.c] 48)) w1.heap.size 48 #[.slice k.items.A k.items.n k.items.c, .int .i64 l.base, .int .i64 l.next, .slice k.packets.A k.packets.n k.packets.c, .slice k.acks.A k.acks.n k.acks.c, .slice k.got.A k.got.n k.got.c] := Blk.newN _ _ _ rfl
  have BB : Below w1.heap.size w1 (w1.alloc (.cells #[.slice k.items.A k.items.n k.items.c, .int .i64 l.base, .int .i64 l.next, .slice k.packets.A k.packets.n k.packets.c, .slice k.acks.A k.acks.n k.acks.c, .slice k.got.A k.got.n k.got.c] 48)) := (Below.refl _ _).alloc (Nat.le_refl _) _
  have KB2 := KB.below BB qB
  have KR2 := KR.below BB qR
  have OW2 := OW.below BB
  have hw2 := hw1.trans (BB.mono hw1.size)
  have z2 : w1.heap.size < (w1.alloc (.cells #[.slice k.items.A k.items.n k.items.c, .int .i64 l.base, .int .i64 l.next, .slice k.packets.A k.packets.n k.packets.c, .slice k.acks.A k.acks.n k.acks.c, .slice k.got.A k.got.n k.got.c] 48)).heap.size := KO.lt
  go_upto_region 4 with fail
  have hb2 : l.next ≤ 20 := by rw [HNX.out]; omega
  have hb3 : 0 ≤ l.next := by rw [HNX.out]; omega
  have hrB : k.packets.row ≠ some w.heap.size := fun e => by have := HB2.out _ e; omega
  have hrO : k.packets.row ≠ some w1.heap.size := fun e => by have := HB2.out _ e; omega
  have hrR : k.packets.row ≠ some (w.heap.size + 1) := fun e => by have := HB2.out _ e; omega
  have hrX : some (aa.add nx).block ≠ k.packets.row := fun e => by have := HB2.out _ e.symm; omega
  have hin : IntKind.i64.wrap (l.next + 1) = l.next + 1 := IntWalk.i64_in _ (by omega)
  have hmd : (nx : Int).tmod 4 = (nx : Int) % 4 := Int.tmod_eq_emod_of_nonneg (by omega)
  have HMD := Lib.hid hmd
  clear hin hmd
  generalize w1.alloc (.cells #[.slice k.items.A k.items.n k.items.c, .int .i64 l.base, .int .i64 l.next, .slice k.packets.A k.packets.n k.packets.c, .slice k.acks.A k.acks.n k.acks.c, .slice k.got.A k.got.n k.got.c] 48) = w2 at KO BB KB2 KR2 OW2 hw2 z2 hxa2 ⊢
  clear cB cR fR KB KR OW hw1 hxa1
  have qB2 := KB2.lt
  have qO2 := KO.lt
  have qR2 := KR2.lt
  rw [HAA.out, HNX.out] at KB2
  have cB := fun o => KB2.cell o
  have cO := fun o => KO.cell o
  have hx2 : (aa.add nx).block < w2.heap.size := by omega
  go_region_held3 (fun w' => (∀ o, w'.cell? ⟨w.heap.size, o, none⟩ = #[.slice (some aa) h.items.n h.items.c, .int .i64 l.base, .int .i64 nx, .slice h.packets.A h.packets.n h.packets.c, .slice h.acks.A h.acks.n h.acks.c, .slice h.got.A h.got.n h.got.c][o]?) ∧ (∀ o, w'.cell? ⟨w1.heap.size, o, none⟩ = #[.slice k.items.A k.items.n k.items.c, .int .i64 l.base, .int .i64 l.next, .slice k.packets.A k.packets.n k.packets.c, .slice k.acks.A k.acks.n k.acks.c, .slice k.got.A k.got.n k.got.c][o]?) ∧ w'.cell? (aa.add nx) = some (.int .i64 y0))
    (first | (exact ⟨SB3, SO3, SX3⟩) | (refine ⟨fun o => ?_, fun o => ?_, ?_⟩ <;> (try simp only [World.cell?_drew]) <;> first | (with_reducible exact cB o) | (with_reducible exact cO o) | (with_reducible exact hxa2) | (with_reducible exact cells_alloc cB qB2 _ o) | (with_reducible exact cells_alloc cO qO2 _ o) | (rw [World.cell?_alloc_some _ _ _ (by rw [hxa2]; rfl)]; exact hxa2)))
    ((refine step_append_Own (by rfl) _ _ 46 (by rfl) 64 2 16 Tryd.underlying46 Packet_info (by decide) (w.heap.size + 2) k.packets (ints l.packets) (by rfl) (OW2.packets.below (by (repeat (first | (with_reducible assumption) | (with_reducible exact Below.refl _ _) | (with_reducible refine Below.drew ?_) | (with_reducible refine Below.drewN ?_ _) | (with_reducible refine Below.setCell ?_ ?_ _) | (with_reducible refine Below.alloc ?_ ?_ _) | assumption)); all_goals (first | omega | (simp; done) | (simp; omega)))) _ 1 1 (ints [(nx : Int) % 4, y0]) (by rfl) (by exact rd_pair _ _ _ _) (oneCell_ints _) (by omega) (by decide) (by first | omega | (simp; done) | (simp; omega)) ?_; intro G w3 hGn HG gg hat; have SB3 := fun o => ((KB2.below (show Below w2.heap.size w2 _ from (by (repeat (first | (with_reducible assumption) | (with_reducible exact Below.refl _ _) | (with_reducible refine Below.drew ?_) | (with_reducible refine Below.drewN ?_ _) | (with_reducible refine Below.setCell ?_ ?_ _) | (with_reducible refine Below.alloc ?_ ?_ _) | assumption)); all_goals (first | omega | (simp; done) | (simp; omega)))) qB2).grown gg hrB).cell o; have SO3 := fun o => ((KO.below (show Below w2.heap.size w2 _ from (by (repeat (first | (with_reducible assumption) | (with_reducible exact Below.refl _ _) | (with_reducible refine Below.drew ?_) | (with_reducible refine Below.drewN ?_ _) | (with_reducible refine Below.setCell ?_ ?_ _) | (with_reducible refine Below.alloc ?_ ?_ _) | assumption)); all_goals (first | omega | (simp; done) | (simp; omega)))) qO2).grown gg hrO).cell o; have SX3 := gg.cell (((show Below w2.heap.size w2 _ from (by (repeat (first | (with_reducible assumption) | (with_reducible exact Below.refl _ _) | (with_reducible refine Below.drew ?_) | (with_reducible refine Below.drewN ?_ _) | (with_reducible refine Below.setCell ?_ ?_ _) | (with_reducible refine Below.alloc ?_ ?_ _) | assumption)); all_goals (first | omega | (simp; done) | (simp; omega)))).cell (p := aa.add nx) hx2).trans hxa2) hrX))
  all_goals
    have gg2 : w2.grownBy w3 k.packets.row := grown_trans (grown_of_below (show Below w2.heap.size w2 _ from (by (repeat (first | (with_reducible assumption) | (with_reducible exact Below.refl _ _) | (with_reducible refine Below.drew ?_) | (with_reducible refine Below.drewN ?_ _) | (with_reducible refine Below.setCell ?_ ?_ _) | (with_reducible refine Below.alloc ?_ ?_ _) | assumption)); all_goals (first | omega | (simp; done) | (simp; omega))))) gg
    have KO3 := KO.grown gg2 hrO
    have KR3 := KR2.grown gg2 hrR
    have hq := app_q (n := w2.heap.size) hat (by first | omega | (simp; done) | (simp; omega))
    have OW3 : LinkOwn w3 (w.heap.size + 2) ⟨k.items, G, k.acks, k.got⟩ ⟨l.items, l.base, l.next + 1, l.packets ++ [(nx : Int) % 4, y0], l.acks, l.got⟩ :=
      ⟨OW2.items.grown gg2 (fun b e => OW2.sep.nth (i := 1) (j := 0) rfl rfl (by decide) b e), ints_append _ _ ▸ HG, OW2.acks.grown gg2 (fun b e => OW2.sep.nth (i := 1) (j := 2) rfl rfl (by decide) b e), OW2.got.grown gg2 (fun b e => OW2.sep.nth (i := 1) (j := 3) rfl rfl (by decide) b e),
        Sep.replace (L := LinkB k) 1 OW2.sep (fun b e => (hq b e).imp (fun e => by rw [← e]; rfl) (fun e s hs c => by have := (OW2.blt s hs b c).2; omega))⟩
    have hw3 : Below w.heap.size w w3 := hw2.grown gg2 (Nat.le_trans (Nat.le_of_lt (by omega)) (Nat.le_refl _)) (fun b e => by have := HB2.out b e; omega)
    have z3 := gg2.size
    clear SB3 SO3 SX3 gg gg2 hat hq HG cB cO KB2 KO KR2 OW2 hw2 hxa2 BB
    have cO := fun o => KO3.cell o
    have cR := fun o => KR3.cell o
    have fR := fun o => KR3.frozen o

    go_wp2
    refine bodyPost_ret (v := .agg #[.slice k.items.A k.items.n k.items.c, .int .i64 l.base, .int .i64 (l.next + 1), .slice G.A G.n G.c, .slice k.acks.A k.acks.n k.acks.c, .slice k.got.A k.got.n k.got.c]) (by simp [results, Tryd.results84, go_sem, cR, hGn]) rfl ⟨⟨k.items, G, k.acks, k.got⟩, by rw [HS.out], ?_, ?_⟩
    · rw [HS.out]
      exact ((OW3).above (D := w.heap.size + 2) (by repeat (first | (with_reducible refine Above.drew ?_) | (with_reducible refine Above.drewN ?_ _) | (with_reducible refine Above.alloc ?_ _) | (refine Above.setCell ?_ (by first | omega | (simp; done) | (simp; omega)) _) | exact Above.refl _ _)) (Nat.le_refl _)).mono (by first | omega | (simp; done) | (simp; omega))
    · exact (by (repeat (first | (with_reducible assumption) | (with_reducible exact Below.refl _ _) | (with_reducible refine Below.drew ?_) | (with_reducible refine Below.drewN ?_ _) | (with_reducible refine Below.setCell ?_ ?_ _) | (with_reducible refine Below.alloc ?_ ?_ _) | assumption)); all_goals (first | omega | (simp; done) | (simp; omega)))
end Go.Proofs.YtoledbicmghmbaaDoor
