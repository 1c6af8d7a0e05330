/- Links: the reference's arrival, spec.l29Arrive. Condition: a valid link with a packet on its way, lists of at most 1048576. -/
import Derived.Test.YtoledbicmghmbaaDoorLinkE
import Derived.Deep.DeepCutAuto
import Derived.StillTailTactics
namespace Go.Proofs.YtoledbicmghmbaaDoor
open Go.RowKit

theorem app_q2 {G : Hd} {r : Option Nat} {n m : Nat} (hat : G.row = r ∨ ∃ g, G.row = some g ∧ m ≤ g) (hz : n ≤ m) : G.row = r ∨ ∃ g, G.row = some g ∧ n ≤ g := hat.imp id fun ⟨g, h, hl⟩ => ⟨g, h, by omega⟩
set_option maxRecDepth 100000 in
set_option maxHeartbeats 2000000 in
theorem l29Arrive_any (h : LinkH) (l : LinkC) (w : World) (ok : LinkOk h) (K : LOk l) (hp : 0 < l.packets.length) (hr : RdAll w (LinkS h l)) :
    Calls Tryd.prog 135 #[LinkV h l] w fun e w' => ∃ k, e = .returned (LinkV k (stepL l 1)) ∧ LinkOwn w' w.heap.size k (stepL l 1) ∧ Below w.heap.size w w' := by
  have HA : Hid (arrGot l = if l.packets.getD 0 0 = (l.got.length : Int) % 4 ∧ (l.got.length : Int) < 20 then l.got ++ [l.packets.getD 1 0] else l.got) := rfl
  have HS : Hid (stepL l 1 = ⟨l.items, l.base, l.next, l.packets.drop 2, arrAcks l, arrGot l⟩) := by unfold Hid stepL; simp
  have HC : Hid (arrAcks l = if (l.acks.length : Int) < 12 then l.acks ++ [((arrGot l).length : Int) % 4] else l.acks) := rfl
  have HL3 : l.packets.length = h.packets.n * 2 := hr.tail.head.len
  have hpk := pkt_at K hp
  have n2 : 1 < h.packets.n * 2 := by omega
  obtain ⟨aa, hAA, hx0⟩ := hr.tail.head.int (show 0 < h.packets.n * 2 by omega)
  obtain ⟨aa', hAA', hx1⟩ := hr.tail.head.int n2
  rw [hAA] at hAA'
  cases hAA'
  have n3 : 0 < h.packets.n := by omega
  have n3' : (0 : Int) < (h.packets.n : Int) := by omega
  have n3'' : (h.packets.n : Int) ≤ 12 := by have := K.np; omega
  have HAA := Lib.hid hAA
  have HX0 := Lib.hid hx0
  have HX1 := Lib.hid hx1
  clear HL3 hAA hx0 hx1
  unfold LinkV
  go_enter Tryd.func135, Tryd.ntmps135
  go_wp2_with fail
  refine (l29Own_any h l _ ok (hr.below (by (repeat (first | (with_reducible assumption) | (with_reducible exact Below.refl _ _) | (with_reducible refine Below.drew ?_) | (with_reducible refine Below.drewN ?_ _) | (with_reducible refine Below.setCell ?_ ?_ _) | (with_reducible refine Below.alloc ?_ ?_ _) | assumption)); all_goals (first | omega | (simp; done) | (simp; omega))))).mono ?_
  rintro e w1 ⟨k, he, ow, b1⟩
  unfold LinkV at he
  subst he
  have hw1 : Below w.heap.size w w1 := (show Below w.heap.size w _ from (by (repeat (first | (with_reducible assumption) | (with_reducible exact Below.refl _ _) | (with_reducible refine Below.drew ?_) | (with_reducible refine Below.drewN ?_ _) | (with_reducible refine Below.setCell ?_ ?_ _) | (with_reducible refine Below.alloc ?_ ?_ _) | assumption)); all_goals (first | omega | (simp; done) | (simp; omega)))).trans (b1.mono (by first | omega | (simp; done) | (simp; omega)))
  have KB : Blk w1 w.heap.size 48 #[.slice h.items.A h.items.n h.items.c, .int .i64 l.base, .int .i64 l.next, .slice h.packets.A h.packets.n h.packets.c, .slice h.acks.A h.acks.n h.acks.c, .slice h.got.A h.got.n h.got.c] := Blk.below ((Blk.newN _ _ _ rfl).alloc _) b1 (by first | omega | (simp; done) | (simp; omega))
  have KR : Blk w1 (w.heap.size + 1) 48 #[.slice none 0 0, .int .i64 0, .int .i64 0, .slice none 0 0, .slice none 0 0, .slice none 0 0] := Blk.below (Blk.newN _ _ _ (by simp)) b1 (by first | omega | (simp; done) | (simp; omega))
  have OW := ow.mono (show w.heap.size + 2 ≤ _ from (by first | omega | (simp; done) | (simp; omega)))
  have z1 : w.heap.size + 2 ≤ w1.heap.size := Nat.le_trans (by first | omega | (simp; done) | (simp; omega)) b1.size
  have hblt : ∀ s ∈ LinkB k, ∀ b, s = some b → b < w1.heap.size := fun s hs b e => (OW.blt s hs b e).2
  clear ow b1
  have hb3 : aa.block < w.heap.size := hr.tail.head.lt HAA.out (show 0 < h.packets.n * 2 by omega)
  have hx0 : w1.cell? (aa.add 0) = some (.int .i64 (l.packets.getD 0 0)) := (hw1.cell (by rw [block_of_add]; exact hb3)).trans HX0.out
  have hx1 : w1.cell? (aa.add 1) = some (.int .i64 (l.packets.getD 1 0)) := (hw1.cell (by rw [block_of_add]; exact hb3)).trans HX1.out
  rw [HAA.out] at KB
  have KO : Blk (w1.alloc (.cells #[.slice k.items.A k.items.n k.items.c, .int .i64 l.base, .int .i64 l.next, .slice k.packets.A k.packets.n k.packets.c, .slice k.acks.A k.acks.n k.acks.c, .slice k.got.A k.got.n k.got.c] 48)) w1.heap.size 48 #[.slice k.items.A k.items.n k.items.c, .int .i64 l.base, .int .i64 l.next, .slice k.packets.A k.packets.n k.packets.c, .slice k.acks.A k.acks.n k.acks.c, .slice k.got.A k.got.n k.got.c] := Blk.newN _ _ _ rfl
  have BB : Below w1.heap.size w1 (w1.alloc (.cells #[.slice k.items.A k.items.n k.items.c, .int .i64 l.base, .int .i64 l.next, .slice k.packets.A k.packets.n k.packets.c, .slice k.acks.A k.acks.n k.acks.c, .slice k.got.A k.got.n k.got.c] 48)) := (Below.refl _ _).alloc (Nat.le_refl _) _
  have KB2 := KB.below BB (by omega)
  have KR2 := KR.below BB (by omega)
  have OW2 := OW.below BB
  have hw2 := hw1.trans (BB.mono hw1.size)
  have z2 : w1.heap.size < (w1.alloc (.cells #[.slice k.items.A k.items.n k.items.c, .int .i64 l.base, .int .i64 l.next, .slice k.packets.A k.packets.n k.packets.c, .slice k.acks.A k.acks.n k.acks.c, .slice k.got.A k.got.n k.got.c] 48)).heap.size := KO.lt
  have hy0 := (BB.cell (p := aa.add 0) (by rw [block_of_add]; omega)).trans hx0
  have hy1 := (BB.cell (p := aa.add 1) (by rw [block_of_add]; omega)).trans hx1
  generalize l.packets.getD 0 0 = p0 at *
  generalize l.packets.getD 1 0 = p1 at *
  clear HX0 HX1 HAA hx0 hx1 KB KR OW hw1
  go_upto_region 2 with fail
  generalize w1.alloc (.cells #[.slice k.items.A k.items.n k.items.c, .int .i64 l.base, .int .i64 l.next, .slice k.packets.A k.packets.n k.packets.c, .slice k.acks.A k.acks.n k.acks.c, .slice k.got.A k.got.n k.got.c] 48) = w2 at KO BB KB2 KR2 OW2 hw2 z2 hy0 hy1 ⊢
  have cO := fun o => KO.cell o
  have cB := fun o => KB2.cell o
  have qO := KO.lt
  have qB := KB2.lt
  have qR := KR2.lt
  go_quiet (fail)
  have hy0a : w2.cell? aa = some (.int .i64 p0) := hy0
  have HG0 := Lib.hid OW2.got.rd1.len
  have HK0 := Lib.hid OW2.acks.rd1.len
  have n5 : (k.got.n : Int) ≤ 20 := by have := K.ng; rw [HG0.out] at this; omega
  have e0 : (k.got.n : Int).tmod 4 = (k.got.n : Int) % 4 := Int.tmod_eq_emod_of_nonneg (by omega)
  go_upto_region 3 with fail
  go_cut [25] (fun c wx => c = .bool (decide (p0 = (k.got.n : Int) % 4) && decide ((k.got.n : Int) < 20)) ∧ ∃ nq, wx = w2.drewN nq)
  case first =>
    by_cases ca : p0 = (k.got.n : Int) % 4
    all_goals have CA := Lib.hid ca
    all_goals first
      | have cb : (p0 == (k.got.n : Int) % 4) = true := by simpa using ca
      | have cb : (p0 == (k.got.n : Int) % 4) = false := by simpa using ca
    all_goals
      clear ca
      go_wp2_with fail
      go_meet
      exact ⟨congrArg Value.bool (by first | rw [decide_eq_true CA.out, Bool.true_and] | rw [decide_eq_false CA.out, Bool.false_and]), _, rfl⟩
  case rest =>
    obtain ⟨rfl, nq2, rfl⟩ := hcut
    have KO3 := KO.drewN nq2
    have KB3 := KB2.drewN nq2
    have KR3 := KR2.drewN nq2
    have B3 : Below w2.heap.size w2 (w2.drewN nq2) := Below.drewN (Below.refl _ _) nq2
    have OW3 := OW2.below B3
    have hw3 := hw2.trans (B3.mono hw2.size)
    have hy13 : (w2.drewN nq2).cell? (aa.add 1) = some (.int .i64 p1) := hy1
    generalize w2.drewN nq2 = w3 at KO3 KB3 KR3 OW3 hw3 hy13 B3 ⊢
    have z3 := B3.size
    clear KO KB2 KR2 OW2 hw2 hy0 hy1 hy0a cO cB B3
    go_upto_if 25 with fail
    have cB := fun o => KB3.cell o
    have qB3 := KB3.lt
    go_cut [4] (fun c wx => ∃ G : Hd, c = .slice G.A G.n G.c ∧ Own wx (w.heap.size + 2) 1 G (ints (arrGot l)) ∧ w3.grownBy wx k.got.row ∧ (G.row = k.got.row ∨ ∃ g, G.row = some g ∧ w3.heap.size ≤ g))
    case first =>
      cases hb : (decide (p0 = (k.got.n : Int) % 4) && decide ((k.got.n : Int) < 20))
      · have hbf := Lib.hid hb
        clear hb
        go_wp2_with fail
        go_meet
        refine ⟨k.got, rfl, ?_, World.grownBy.refl _ _, .inl rfl⟩
        rw [HA.out, if_neg (fun c => by rw [HG0.out] at c; have := hbf.out; rw [decide_eq_true c.1, decide_eq_true c.2] at this; cases this)]
        exact OW3.got
      · have hbt := Lib.hid hb
        clear hb
        have hzz : w.heap.size + 2 ≤ w3.heap.size := by omega
        have hy13b := hy13
        rw [field_add _ 1 (by decide)] at hy13b
        go_wp2_with (at_builtin; refine wpList_append_Own rfl _ _ 40 rfl 2 1 8 Tryd.underlying40 Int64_info (by decide) (w.heap.size + 2) k.got (ints l.got) rfl (OW3.got.below (show Below w3.heap.size w3 _ from (by (repeat (first | (with_reducible assumption) | (with_reducible exact Below.refl _ _) | (with_reducible refine Below.drew ?_) | (with_reducible refine Below.drewN ?_ _) | (with_reducible refine Below.setCell ?_ ?_ _) | (with_reducible refine Below.alloc ?_ ?_ _) | assumption)); all_goals (first | omega | (simp; done) | (simp; omega))))) _ 1 1 (ints [p1]) rfl (by rw [Nat.mul_one]; exact rd_one _ _ _) (oneCell_ints _) (by omega) (by decide) (by first | omega | (simp; done) | (simp; omega)) ?_; intro G wg hGn HG gg hat)
        go_meet
        refine ⟨G, by rw [hGn], ?_, grown_trans (grown_of_below (show Below w3.heap.size w3 _ from (by (repeat (first | (with_reducible assumption) | (with_reducible exact Below.refl _ _) | (with_reducible refine Below.drew ?_) | (with_reducible refine Below.drewN ?_ _) | (with_reducible refine Below.setCell ?_ ?_ _) | (with_reducible refine Below.alloc ?_ ?_ _) | assumption)); all_goals (first | omega | (simp; done) | (simp; omega))))) gg, app_q2 hat (by first | omega | (simp; done) | (simp; omega))⟩
        rw [HA.out, if_pos (by rw [HG0.out]; have := hbt.out; rw [Bool.and_eq_true] at this; exact ⟨of_decide_eq_true this.1, of_decide_eq_true this.2⟩), ints_append]
        exact HG
    case rest =>
      obtain ⟨G, rfl, HG, gg, hat⟩ := hcut
      have sep := OW3.sep
      have hG : G.n = (arrGot l).length := by have := HG.rd1.len; omega
      have HGn := Lib.hid hG
      clear hG
      have hgot20 := (arrGot_ok K hp).1
      have n6 : (G.n : Int) ≤ 20 := by have := HGn.out; omega
      have kI := OW3.items.grown gg (fun b e => sep.nth (i := 3) (j := 0) rfl rfl (by decide) b e)
      have kP := OW3.packets.grown gg (fun b e => sep.nth (i := 3) (j := 1) rfl rfl (by decide) b e)
      have kA := OW3.acks.grown gg (fun b e => sep.nth (i := 3) (j := 2) rfl rfl (by decide) b e)
      have hrow : ∀ g, g < w.heap.size + 2 ∨ g = w1.heap.size → k.got.row ≠ some g := fun g hg e => by
        have := OW3.got.rowlt g e
        have := hblt k.got.row (by simp [LinkB]) g e
        omega
      have KO4 := KO3.grown gg (hrow _ (.inr rfl))
      have KB4 := KB3.grown gg (hrow _ (.inl (by omega)))
      have KR4 := KR3.grown gg (hrow _ (.inl (by omega)))
      have hw4 : Below w.heap.size w wc := hw3.grown gg hw3.size (fun b e => by have := (OW3.got.rowlt b e).1; omega)
      have z4 : w3.heap.size ≤ wc.heap.size := gg.size
      have sepG : Sep [k.items.row, k.packets.row, k.acks.row, G.row] := Sep.replace (L := LinkB k) 3 sep (fun b e => by
        rcases hat with hh | ⟨g, hh, hl⟩
        · exact .inl (by rw [← e, hh]; rfl)
        · refine .inr fun s hs c => ?_
          have := hblt s hs b c
          rw [hh] at e; injection e with e
          omega)
      have hGlt : ∀ b, G.row = some b → b < wc.heap.size := fun b e => (HG.rowlt b e).2
      have hn3 : 1 ≤ k.packets.n := by have := OW3.packets.rd.len; omega
      obtain ⟨w4, rfl⟩ : ∃ x : World, x = wc := ⟨_, rfl⟩
      clear KO3 KB3 KR3 OW3 hw3 hy13 cB gg hat sep
      have cB := fun o => KB4.cell o
      have qB4 := KB4.lt
      have n7 : 0 ≤ (G.n : Int) := by omega
      have e1 : (G.n : Int).tmod 4 = (G.n : Int) % 4 := Int.tmod_eq_emod_of_nonneg (by omega)
      have hna := K.na
      go_upto_if 36 with fail
      go_cut [5] (fun c wx => ∃ F : Hd, c = .slice F.A F.n F.c ∧ Own wx (w.heap.size + 2) 1 F (ints (arrAcks l)) ∧ w4.grownBy wx k.acks.row ∧ (F.row = k.acks.row ∨ ∃ g, F.row = some g ∧ w4.heap.size ≤ g))
      case first =>
        by_cases ha : (k.acks.n : Int) < 12
        · have hab : (l.acks.length : Int) < 12 := by rw [HK0.out]; exact ha
          have HAB := Lib.hid hab
          clear hab
          have hzz : w.heap.size + 2 ≤ w4.heap.size := by omega
          go_wp2_with (at_builtin; refine wpList_append_Own rfl _ _ 40 rfl 2 1 8 Tryd.underlying40 Int64_info (by decide) (w.heap.size + 2) k.acks (ints l.acks) rfl (kA.below (show Below w4.heap.size w4 _ from (by (repeat (first | (with_reducible assumption) | (with_reducible exact Below.refl _ _) | (with_reducible refine Below.drew ?_) | (with_reducible refine Below.drewN ?_ _) | (with_reducible refine Below.setCell ?_ ?_ _) | (with_reducible refine Below.alloc ?_ ?_ _) | assumption)); all_goals (first | omega | (simp; done) | (simp; omega))))) _ 1 1 (ints [(G.n : Int) % 4]) rfl (by rw [Nat.mul_one]; exact rd_one _ _ _) (oneCell_ints _) (by omega) (by decide) (by first | omega | (simp; done) | (simp; omega)) ?_; intro F wf hFn HF ff hff)
          go_meet
          refine ⟨F, by rw [hFn], ?_, grown_trans (grown_of_below (show Below w4.heap.size w4 _ from (by (repeat (first | (with_reducible assumption) | (with_reducible exact Below.refl _ _) | (with_reducible refine Below.drew ?_) | (with_reducible refine Below.drewN ?_ _) | (with_reducible refine Below.setCell ?_ ?_ _) | (with_reducible refine Below.alloc ?_ ?_ _) | assumption)); all_goals (first | omega | (simp; done) | (simp; omega))))) ff, app_q2 hff (by first | omega | (simp; done) | (simp; omega))⟩
          rw [HC.out, if_pos HAB.out, ints_append, ← HGn.out]
          exact HF
        · have hab : ¬ (l.acks.length : Int) < 12 := by rw [HK0.out]; exact ha
          have HAB := Lib.hid hab
          clear hab
          go_wp2_with fail
          go_meet
          refine ⟨k.acks, rfl, ?_, World.grownBy.refl _ _, .inl rfl⟩
          rw [HC.out, if_neg (by have := HAB.out; omega)]
          exact kA
      case rest =>
        obtain ⟨F, rfl, HF, gf, hatf⟩ := hcut
        have hsn := fun j p (hj : [k.items.row, k.packets.row, k.acks.row, G.row][j]? = some p) (hij : 2 ≠ j) => sepG.nth (i := 2) (j := j) rfl hj hij
        have jI := kI.grown gf (hsn 0 _ rfl (by decide))
        have jP := kP.grown gf (hsn 1 _ rfl (by decide))
        have jG := HG.grown gf (hsn 3 _ rfl (by decide))
        have hrow2 : ∀ g, g < w.heap.size + 2 ∨ g = w1.heap.size → k.acks.row ≠ some g := fun g hg e => by
          have := kA.rowlt g e
          have := hblt k.acks.row (by simp [LinkB]) g e
          omega
        have KO5 := KO4.grown gf (hrow2 _ (.inr rfl))
        have KB5 := KB4.grown gf (hrow2 _ (.inl (by omega)))
        have KR5 := KR4.grown gf (hrow2 _ (.inl (by omega)))
        have hw5 : Below w.heap.size w wc := hw4.grown gf hw4.size (fun b e => by have := (kA.rowlt b e).1; omega)
        have sepF : Sep [k.items.row, k.packets.row, F.row, G.row] := Sep.replace (L := [k.items.row, k.packets.row, k.acks.row, G.row]) 2 sepG (fun b e => by
          rcases hatf with hh | ⟨g, hh, hl⟩
          · exact .inl (by rw [← e, hh]; rfl)
          · refine .inr fun s hs c => ?_
            rw [hh] at e; injection e with e
            have z5 : w1.heap.size ≤ w4.heap.size := by omega
            simp only [List.mem_cons, List.not_mem_nil, or_false] at hs
            rcases hs with rfl | rfl | rfl | rfl
            · have := hblt k.items.row (by simp [LinkB]) b c; omega
            · have := hblt k.packets.row (by simp [LinkB]) b c; omega
            · have := hblt k.acks.row (by simp [LinkB]) b c; omega
            · have := hGlt b c; omega)
        have sepQ : Sep [k.items.row, (k.packets.tl 2).row, F.row, G.row] := Sep.replace (L := [k.items.row, k.packets.row, F.row, G.row]) 1 sepF (fun b e => .inl (by rw [← Own.tl_row k.packets 2 b e]; rfl))
        have jQ : Own wc (w.heap.size + 2) 2 (k.packets.tl 2) (ints (l.packets.drop 2)) := by rw [← ints_drop]; exact jP.tl hn3
        have hsl := fun W => run_tail (P := Tryd.prog) W 46 64 2 16 Tryd.underlying46 Packet_info k.packets hn3
        obtain ⟨w5, rfl⟩ : ∃ x : World, x = wc := ⟨_, rfl⟩
        generalize k.packets.tl 2 = Q at *
        clear KO4 KB4 KR4 hw4 cB kI kP kA gf hatf hsn HG jP
        have cO := fun o => KO5.cell o
        have cR := fun o => KR5.cell o
        have fR := fun o => KR5.frozen o
        have qO := KO5.lt
        have qR := KR5.lt
        go_wp2_with fail
        go_still_tail 12, (by kernel_rfl)
        have D : LinkOwn w5.drew (w.heap.size + 2) ⟨k.items, Q, F, G⟩ (stepL l 1) := by
          rw [HS.out]
          have bd : Below w5.heap.size w5 w5.drew := ⟨rfl, rfl, rfl, Nat.le_refl _, fun _ _ => rfl⟩
          exact ⟨jI.below bd, jQ.below bd, HF.below bd, jG.below bd, sepQ⟩
        have dR : Blk w5.drew _ _ _ := KR5
        have dw := Below.drew hw5
        change wpList _ _ _ _ _ w5.drew
        generalize w5.drew = w6 at D dR dw ⊢
        clear jI jQ HF jG KO5 KB5 KR5 cO cR fR qO qR hw5
        have cR := fun o => dR.cell o
        have fR := fun o => dR.frozen o
        have qR := dR.lt
        go_wp2
        refine bodyPost_ret (v := .agg #[.slice k.items.A k.items.n k.items.c, .int .i64 l.base, .int .i64 l.next, .slice Q.A Q.n Q.c, .slice F.A F.n F.c, .slice G.A G.n G.c]) (by simp [results, Tryd.results135, go_sem, cR]) rfl ⟨⟨k.items, Q, F, G⟩, by rw [HS.out], ?_, (by (repeat (first | (with_reducible assumption) | (with_reducible exact Below.refl _ _) | (with_reducible refine Below.drew ?_) | (with_reducible refine Below.drewN ?_ _) | (with_reducible refine Below.setCell ?_ ?_ _) | (with_reducible refine Below.alloc ?_ ?_ _) | assumption)); all_goals (first | omega | (simp; done) | (simp; omega)))⟩
        have ab := fun (W : World) (a : Above (w.heap.size + 2) w6 W) => (D.above a (Nat.le_refl _)).mono (show w.heap.size ≤ w.heap.size + 2 by omega)
        refine ab _ ?_
        repeat (first | refine Above.setCell ?_ (by first | omega | (simp; done) | (simp; omega)) _ | exact Above.refl _ _)
end Go.Proofs.YtoledbicmghmbaaDoor
