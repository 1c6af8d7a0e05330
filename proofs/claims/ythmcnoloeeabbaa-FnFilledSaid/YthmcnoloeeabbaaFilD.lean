/- Grids: gaps are filled, the reference's side. Condition: lists of at most 1048576 elements. -/
import Derived.Test.YthmcnoloeeabbaaFilC
namespace Go.Proofs.Ythmcnoloeeabbaa
open Go.RowKit

theorem RdAll.blo {w w' : World} {l : List Sl} {B : Nat} (h : RdAll w l) (b : Below B w w') (lo : Lo (l.map Sl.row) B) : RdAll w' l := fun s hs =>
  (h s hs).below' b fun ad e hn => lo _ (List.mem_map_of_mem hs) _ (by unfold Sl.row blkp; rw [if_neg (by omega), e]; rfl)
theorem WrAll.blo {w w' : World} {l : List Sl} {B C : Nat} (h : WrAll w C l) (b : Below B w w') (lo : Lo (l.map Sl.row) B) : WrAll w' C l := fun s hs =>
  (h s hs).keep fun ad e hn => b.block _ (lo _ (List.mem_map_of_mem hs) _ (by unfold Sl.row blkp; rw [if_neg (by omega), e]; rfl))
theorem near_col {W q k : Nat} (h : ¬ absI (((q % W : Nat) : Int) - ((k % W : Nat) : Int)) ≤ 1) : nearB W q k = false := by
  have h2 : ¬ (q % W ≤ k % W + 1 ∧ k % W ≤ q % W + 1) := fun c => h (absI_near.2 c)
  refine nearB_false ?_
  generalize q % W = a at *; generalize k % W = b at *
  omega
theorem near_row {W q k : Nat} (h : ¬ absI (((q / W : Nat) : Int) - ((k / W : Nat) : Int)) ≤ 1) : nearB W q k = false := by
  have h2 : ¬ (q / W ≤ k / W + 1 ∧ k / W ≤ q / W + 1) := fun c => h (absI_near.2 c)
  refine nearB_false ?_
  generalize q / W = a at *; generalize k / W = b at *
  omega
theorem near_both {W q k : Nat} (h : absI (((q % W : Nat) : Int) - ((k % W : Nat) : Int)) ≤ 1) (h2 : absI (((q / W : Nat) : Int) - ((k / W : Nat) : Int)) ≤ 1) : nearB W q k = true :=
  nearB_true (absI_near.1 h).1 (absI_near.1 h).2 (absI_near.1 h2).1 (absI_near.1 h2).2
theorem ivB_of_gcell {c a b : Int} (h : gcellB c a b = true) : ivB a b = true := by
  have k := gcellB_bd h
  exact ivB_mk k.2.2.1 k.2.2.2.1 k.2.2.2.2.1

set_option maxRecDepth 100000 in
set_option maxHeartbeats 8000000 in
theorem specFillGaps'_any (h : DepthGridH) (l : DepthGridC) (w : World) (ok : DepthGridOk h) (hr : RdAll w (DepthGridS h l)) :
    Calls Try.prog 33 #[DepthGridV h l] w (RetGrid (fgR l) (fgC l) w) := by
  unfold DepthGridV
  go_enter Try.func33, Try.ntmps33
  go_wp2_with fail
  refine (specIsDepthGrid_any h l _ ok (hr.below (by (repeat (first | (with_reducible assumption) | (with_reducible exact Below.refl _ _) | (with_reducible refine Below.drew ?_) | (with_reducible refine Below.drewN ?_ _) | (with_reducible refine Below.setCell ?_ ?_ _) | (with_reducible refine Below.alloc ?_ ?_ _) | assumption)); all_goals (first | omega | (simp; done) | (simp; omega))))).mono ?_
  rintro e w1 ⟨rfl, b1⟩
  have hb1 : Below w.heap.size w w1 := (show Below w.heap.size w _ from (by (repeat (first | (with_reducible assumption) | (with_reducible exact Below.refl _ _) | (with_reducible refine Below.drew ?_) | (with_reducible refine Below.drewN ?_ _) | (with_reducible refine Below.setCell ?_ ?_ _) | (with_reducible refine Below.alloc ?_ ?_ _) | assumption)); all_goals (first | omega | (simp; done) | (simp; omega)))).trans (b1.mono (by first | omega | (simp; done) | (simp; omega)))
  have z1 : w.heap.size + 1 < w1.heap.size := Nat.lt_of_lt_of_le (by first | omega | (simp; done) | (simp; omega)) b1.size
  have K0 : Blk w1 w.heap.size 50 #[.int .i64 l.size, .int .i64 l.wide, .int .i64 l.high, .slice h.counts.A h.counts.n h.counts.c, .slice h.depths.A h.depths.n h.depths.c] := Blk.below (by repeat (first | exact Blk.newN _ _ _ (by simp; done) | refine Blk.alloc ?_ _)) b1 (by first | omega | (simp; done) | (simp; omega))
  have K1 : Blk w1 (w.heap.size + 1) 50 #[.int .i64 0, .int .i64 0, .int .i64 0, .slice none 0 0, .slice none 0 0] := Blk.below (by repeat (first | exact Blk.newN _ _ _ (by simp; done) | refine Blk.alloc ?_ _)) b1 (by first | omega | (simp; done) | (simp; omega))
  clear b1
  have c0 := fun o => K0.cell o
  have c1 := fun o => K1.cell o
  have f1 := fun o => K1.frozen o
  rcases Bool.eq_false_or_eq_true (gridOk l) with o0 | o0
  case inr =>
    have HM := Lib.hid (fg_bad o0)
    go_wp2
    refine bodyPost_ret (v := .tuple #[.agg #[.int .i64 0, .int .i64 0, .int .i64 0, .slice none 0 0, .slice none 0 0], .int .i64 1]) (by simp [results, Try.results33, go_sem, c1]) rfl ?_
    rw [HM.out.1, HM.out.2]
    exact retGrid_zero (by (repeat (first | (with_reducible assumption) | (with_reducible exact Below.refl _ _) | (with_reducible refine Below.drew ?_) | (with_reducible refine Below.drewN ?_ _) | (with_reducible refine Below.setCell ?_ ?_ _) | (with_reducible refine Below.alloc ?_ ?_ _) | assumption)); all_goals (first | omega | (simp; done) | (simp; omega)))
  have HM := Lib.hid (fg_ok o0)
  have M0 := Lib.hid (GOk.of o0)
  go_wp2_with fail
  refine (l22Own_any h l _ ok (hr.below (by (repeat (first | (with_reducible assumption) | (with_reducible exact Below.refl _ _) | (with_reducible refine Below.drew ?_) | (with_reducible refine Below.drewN ?_ _) | (with_reducible refine Below.setCell ?_ ?_ _) | (with_reducible refine Below.alloc ?_ ?_ _) | assumption)); all_goals (first | omega | (simp; done) | (simp; omega))))).mono ?_
  rintro e w2 ⟨k, he, ow, b2⟩
  unfold DepthGridV at he
  subst he
  clear o0
  have hb2 : Below w.heap.size w w2 := hb1.trans (b2.mono (by first | omega | (simp; done) | (simp; omega)))
  have z2 : w.heap.size + 1 < w2.heap.size := Nat.lt_of_lt_of_le z1 b2.size
  have hz12 := b2.size
  have I0 := K0.below b2 K0.lt
  have I1 := K1.below b2 K1.lt
  clear c0 c1 f1 K0 K1 b2
  have rk := ow.rd
  have wk := ow.wr
  have sk := ow.sp
  clear ow
  have c0 := fun o => I0.cell o
  have y0 : w.heap.size < w2.heap.size := by omega
  have hlen0 := GridS_c rk
  have hlen1 := GridS_d rk
  have hlen2 := GridS_c hr
  have hlen3 := GridS_d hr
  have hn : Hid (k.depths.n = k.counts.n ∧ k.counts.n = h.counts.n ∧ h.depths.n = h.counts.n ∧ h.counts.n ≤ 900) := by
    have m0 := M0.out
    have a := m0.eq; have b := m0.len; have e := m0.bd.1
    exact ⟨by omega, by omega, by omega, by omega⟩
  have hlo : Lo (DepthGridR k) w2.heap.size := rk.lo
  have hhi : Hi (DepthGridR k) w1.heap.size := wk.hi
  have HV := Lib.hid hlen2
  clear hlen0 hlen1 hlen2 hlen3
  obtain ⟨⟨A2, m2, d2⟩, ⟨A3, m3, d3⟩⟩ := h
  simp only at hn c0 I0 HV
  have hm900 := hn.out.2.2.2
  obtain ⟨rfl, HH⟩ : m3 = m2 ∧ Hid (k.depths.n = k.counts.n ∧ k.counts.n = m2) := ⟨hn.out.2.2.1, ⟨hn.out.1, hn.out.2.1⟩⟩
  clear hn
  try simp only at ok hr
  go_wp2_with fail
  have rk4 := rk.below ((Below.refl w2.heap.size w2).alloc (Nat.le_refl _) (.cells #[.int .i64 l.size, .int .i64 l.wide, .int .i64 l.high, .slice k.counts.A k.counts.n k.counts.c, .slice k.depths.A k.depths.n k.depths.c] 50))
  have wk4 := wk.below rk ((Below.refl w2.heap.size w2).alloc (Nat.le_refl _) (.cells #[.int .i64 l.size, .int .i64 l.wide, .int .i64 l.high, .slice k.counts.A k.counts.n k.counts.c, .slice k.depths.A k.depths.n k.depths.c] 50))
  have P0 := I0.alloc (.cells #[.int .i64 l.size, .int .i64 l.wide, .int .i64 l.high, .slice k.counts.A k.counts.n k.counts.c, .slice k.depths.A k.depths.n k.depths.c] 50)
  have P1 := I1.alloc (.cells #[.int .i64 l.size, .int .i64 l.wide, .int .i64 l.high, .slice k.counts.A k.counts.n k.counts.c, .slice k.depths.A k.depths.n k.depths.c] 50)
  have P2 := Blk.new w2 50 #[.int .i64 l.size, .int .i64 l.wide, .int .i64 l.high, .slice k.counts.A k.counts.n k.counts.c, .slice k.depths.A k.depths.n k.depths.c]
  have hb4 : Below w.heap.size w (w2.alloc (.cells #[.int .i64 l.size, .int .i64 l.wide, .int .i64 l.high, .slice k.counts.A k.counts.n k.counts.c, .slice k.depths.A k.depths.n k.depths.c] 50)) := (by (repeat (first | (with_reducible assumption) | (with_reducible exact Below.refl _ _) | (with_reducible refine Below.drew ?_) | (with_reducible refine Below.drewN ?_ _) | (with_reducible refine Below.setCell ?_ ?_ _) | (with_reducible refine Below.alloc ?_ ?_ _) | assumption)); all_goals (first | omega | (simp; done) | (simp; omega)))
  generalize w2.alloc (.cells #[.int .i64 l.size, .int .i64 l.wide, .int .i64 l.high, .slice k.counts.A k.counts.n k.counts.c, .slice k.depths.A k.depths.n k.depths.c] 50) = w4 at rk4 wk4 P0 P1 P2 hb4 ⊢
  clear c0 I0 I1 rk wk hb2
  obtain ⟨⟨B3, n3, e4⟩, ⟨B4, n4, e5⟩⟩ := k
  have hhd := HH.out
  simp only at hhd P2 rk4 wk4 hlo hhi sk
  obtain rfl : n4 = n3 := hhd.1
  obtain rfl : n4 = m3 := hhd.2
  clear hhd HH
  obtain ⟨W, hW⟩ : ∃ W : Nat, l.wide = (W : Int) := ⟨l.wide.toNat, by have := M0.out.w0; omega⟩
  have HW := Lib.hid hW
  have hW0 : 0 < W ∧ W ≤ 30 := by have a := M0.out.w0; have b := M0.out.w1; omega
  have HWT : Hid (l.wide.toNat = W) := by unfold Hid; omega
  rw [hW] at P0
  clear hW
  have hWz : (W : Int) ≠ 0 := by omega
  go_loopw [5] (fun i wr => ∃ q : Nat, q ≤ n4 ∧ i = .int .i64 q ∧ RdAll wr (DepthGridS ⟨⟨B3, n4, e4⟩, ⟨B4, n4, e5⟩⟩ (fgTo l q)) ∧ WrAll wr w1.heap.size (DepthGridS ⟨⟨B3, n4, e4⟩, ⟨B4, n4, e5⟩⟩ (fgTo l q)) ∧ Below w.heap.size w wr ∧
      Blk wr w.heap.size 50 #[.int .i64 l.size, .int .i64 (W : Int), .int .i64 l.high, .slice A2 n4 d2, .slice A3 n4 d3] ∧ Blk wr (w.heap.size + 1) 50 #[.int .i64 0, .int .i64 0, .int .i64 0, .slice none 0 0, .slice none 0 0] ∧ Blk wr w2.heap.size 50 #[.int .i64 l.size, .int .i64 l.wide, .int .i64 l.high, .slice B3 n4 e4, .slice B4 n4 e5]) (fun i _ => n4 - (intOf i).toNat)
  case atStart => exact ⟨0, Nat.zero_le _, rfl, rk4, wk4, hb4, P0, P1, P2⟩
  case round =>
    clear rk4 wk4 hb4 P0 P1 P2
    obtain ⟨q, hqm, rfl, rk, wk, hbel, P0, P1, P2⟩ := hrel
    have c0 := fun o => P0.cell o
    by_cases hlt : q < n4
    · have hql : q < l.counts.length := by rw [HV.out]; exact hlt
      obtain ⟨a2, rfl, hx⟩ := (hr.head.below hbel).int hlt
      obtain ⟨a3, rfl, -, -⟩ := (hr.tail.head.below hbel).two hlt
      have hi0 : (0 : Int) ≤ (q : Int) := by omega
      have hi1 : (q : Int) < (n4 : Int) := by omega
      have z9 : w.heap.size < wr.heap.size := P0.lt
      have z8 : w2.heap.size < wr.heap.size := P2.lt
      generalize wr = ws at *
      have hb2' : Below (w2.heap.size + 1) ws (ws.alloc (.cells #[] 82)) := (Below.refl _ _).alloc (by omega) _
      obtain ⟨cq, hcq⟩ : ∃ c, c = q % W := ⟨_, rfl⟩
      obtain ⟨rq, hrq⟩ : ∃ c, c = q / W := ⟨_, rfl⟩
      have e1 : (q : Int) % (W : Int) = (cq : Int) := by rw [hcq, Int.natCast_emod]
      have e3 : (q : Int) / (W : Int) = (rq : Int) := by rw [hrq, Int.natCast_ediv]
      have hcq1 : cq < 30 := by rw [hcq]; have := Nat.mod_lt q hW0.1; omega
      have hrq1 : rq ≤ 900 := by rw [hrq]; have := Nat.div_le_self q W; omega
      have HCQ := Lib.hid hcq
      have HRQ := Lib.hid hrq
      clear hcq hrq
      have hlenN : ∀ m, (nbTo l q m).length ≤ 90 := fun m => by have := nb_len (g := l) (i := q) HWT.out hW0.1 m; omega
      go_wp2
      go_loopw [6, 7] (fun v i wr => ∃ (k : Nat) (hb : Hd), k ≤ n4 ∧ v = .slice hb.A hb.n hb.c ∧ i = .int .i64 k ∧ hb.n = (nbTo l q k).length ∧ Own wr (w2.heap.size + 1) 2 hb (ints (pairsL l.depths (nbTo l q k))) ∧ Below (w2.heap.size + 1) ws wr) (fun _ i _ => n4 - (intOf i).toNat)
      case atStart => exact ⟨0, ⟨some ⟨ws.heap.size, 0, none⟩, 0, 0⟩, Nat.zero_le _, rfl, rfl, rfl, Own.empty _ _ _ _, hb2'⟩
      case round =>
        clear c0 hx hb2'
        obtain ⟨k, hb, hkn, rfl, rfl, hbn, OB, bi⟩ := hrel
        have hbw : Below w.heap.size w wr := hbel.trans (bi.mono (by omega))
        have Q0 := P0.below bi (by omega)
        have c0 := fun o => Q0.cell o
        have z7 : w.heap.size < wr.heap.size := Q0.lt
        have z6 : w2.heap.size + 1 ≤ wr.heap.size := by have := bi.size; omega
        by_cases hkl : k < n4
        · obtain ⟨_, ⟨⟩, hxk⟩ := (hr.head.below hbw).int hkl
          obtain ⟨_, ⟨⟩, hy0, hy1⟩ := (hr.tail.head.below hbw).two hkl
          have hk0 : (0 : Int) ≤ (k : Int) := by omega
          have hk1 : (k : Int) < (n4 : Int) := by omega
          obtain ⟨ck, hck⟩ : ∃ c, c = k % W := ⟨_, rfl⟩
          obtain ⟨rr, hrr⟩ : ∃ c, c = k / W := ⟨_, rfl⟩
          have e2 : (k : Int) % (W : Int) = (ck : Int) := by rw [hck, Int.natCast_emod]
          have e4 : (k : Int) / (W : Int) = (rr : Int) := by rw [hrr, Int.natCast_ediv]
          have hck1 : ck < 30 := by rw [hck]; have := Nat.mod_lt k hW0.1; omega
          have hrr1 : rr ≤ 900 := by rw [hrr]; have := Nat.div_le_self k W; omega
          have HCK := Lib.hid hck
          have HRR := Lib.hid hrr
          clear hck hrr
          have HSN : Hid (nearB W q k = false → nbTo l q (k + 1) = nbTo l q k) := fun h => nbTo_no (near_false (by rw [HWT.out]; exact h))
          by_cases hc1 : absI ((cq : Int) - (ck : Int)) ≤ 1
          case neg =>
            have g1 : decide (absI ((cq : Int) - (ck : Int)) ≤ 1) = false := decide_eq_false hc1
            have HS := Lib.hid (HSN.out (near_col (by rw [← HCQ.out, ← HCK.out]; exact hc1)))
            clear hc1 HSN
            go_wp2_with fail
            go_quiet ((first | (go_at_call 91; exact q_left (l01Abs_any _ _ (by omega) (by omega))) | (go_at_call 91; exact q_add_left (l01Abs_any _ _ (by omega) (by omega)))))
            go_wp2
            go_roundw
            case rel => exact ⟨k + 1, hb, by omega, rfl, by go_num, by rw [HS.out]; exact hbn, by rw [HS.out]; exact OB.below (below_drewN _ _), Below.drewN bi _⟩
            case measure => simp [intOf]; omega
          have g1 : decide (absI ((cq : Int) - (ck : Int)) ≤ 1) = true := decide_eq_true hc1
          by_cases hc2 : absI ((rq : Int) - (rr : Int)) ≤ 1
          case neg =>
            have g2 : decide (absI ((rq : Int) - (rr : Int)) ≤ 1) = false := decide_eq_false hc2
            have HS := Lib.hid (HSN.out (near_row (by rw [← HRQ.out, ← HRR.out]; exact hc2)))
            clear hc1 hc2 HSN
            go_wp2_with fail
            go_quiet ((first | (go_at_call 91; exact q_left (l01Abs_any _ _ (by omega) (by omega))) | (go_at_call 91; exact q_add_left (l01Abs_any _ _ (by omega) (by omega)))))
            go_wp2
            go_roundw
            case rel => exact ⟨k + 1, hb, by omega, rfl, by go_num, by rw [HS.out]; exact hbn, by rw [HS.out]; exact OB.below (below_drewN _ _), Below.drewN bi _⟩
            case measure => simp [intOf]; omega
          have g2 : decide (absI ((rq : Int) - (rr : Int)) ≤ 1) = true := decide_eq_true hc2
          have HNR : Hid (nearB W q k = true) := near_both (by rw [← HCQ.out, ← HCK.out]; exact hc1) (by rw [← HRQ.out, ← HRR.out]; exact hc2)
          have HNO : Hid (¬ (k ≠ q ∧ l.counts.getD k 0 ≠ 0) → nbTo l q (k + 1) = nbTo l q k) := fun h => nbTo_no (by
            unfold nbB
            rcases Classical.em (k = q) with e | e
            · simp [e]
            · have : l.counts.getD k 0 = 0 := Classical.byContradiction fun c => h ⟨e, c⟩
              rw [this]; simp)
          have HYE : Hid (k ≠ q → l.counts.getD k 0 ≠ 0 → nbTo l q (k + 1) = nbTo l q k ++ [k]) := fun h1 h2 => nbTo_yes (by
            unfold nbB
            rw [HWT.out, HNR.out, decide_eq_true h1, decide_eq_true h2]; rfl)
          have hbl := hlenN k
          clear hc1 hc2 HSN HNR
          go_wp2_with fail
          go_quiet ((first | (go_at_call 91; exact q_left (l01Abs_any _ _ (by omega) (by omega))) | (go_at_call 91; exact q_add_left (l01Abs_any _ _ (by omega) (by omega)))))
          have bd := below_drewN wr nq
          have OBd := OB.below bd
          have bid := Below.drewN bi nq
          have Q0d := Q0.below bd Q0.lt
          have hbwd := Below.drewN hbw nq
          clear bd OB bi Q0 hbw c0 hxk hy0 hy1 g1 g2 e1 e2 e3 e4
          generalize wr.drewN nq = wz at OBd bid Q0d hbwd ⊢
          have c0 := fun o => Q0d.cell o
          have z5 : w.heap.size < wz.heap.size := Q0d.lt
          have z4 : w2.heap.size + 1 ≤ wz.heap.size := by have := bid.size; omega
          obtain ⟨_, ⟨⟩, hxk⟩ := (hr.head.below hbwd).int hkl
          obtain ⟨_, ⟨⟩, hy0, hy1⟩ := (hr.tail.head.below hbwd).two hkl
          have HPS := Lib.hid (pairsL_snoc l.depths (nbTo l q k) k)
          generalize l.depths.getD (k * 2) 0 = x at *
          generalize l.depths.getD (k * 2 + 1) 0 = y at *
          by_cases hkq : k = q
          case pos =>
            have g3 : ((k : Int) == (q : Int)) = true := by simp; omega
            have g4 : ((k : Int) != (q : Int)) = false := by simp; omega
            have HS := Lib.hid (HNO.out (fun c => c.1 hkq))
            clear hkq HNO HYE
            go_wp2
            go_roundw
            case rel => exact ⟨k + 1, hb, by omega, rfl, by go_num, by rw [HS.out]; exact hbn, by rw [HS.out]; exact OBd, bid⟩
            case measure => simp [intOf]; omega
          have g3 : ((k : Int) == (q : Int)) = false := by simp; omega
          have g4 : ((k : Int) != (q : Int)) = true := by simp; omega
          generalize l.counts.getD k 0 = v at *
          by_cases hv : v = 0
          case pos =>
            have HS := Lib.hid (HNO.out (fun c => c.2 hv))
            have g5 : (v == 0) = true := by simpa using hv
            have g6 : (v != 0) = false := by simpa using hv
            clear hkq HNO HYE hv
            go_wp2
            go_roundw
            case rel => exact ⟨k + 1, hb, by omega, rfl, by go_num, by rw [HS.out]; exact hbn, by rw [HS.out]; exact OBd, bid⟩
            case measure => simp [intOf]; omega
          have g5 : (v == 0) = false := by simpa using hv
          have g6 : (v != 0) = true := by simpa using hv
          have HS := Lib.hid (HYE.out hkq hv)
          have HBN := Lib.hid hbn
          have hbl2 : hb.n ≤ 90 := by omega
          clear hkq HNO HYE hv hbn
          go_wp2_with (at_builtin; refine wpList_append_Own rfl _ _ 48 rfl 82 2 16 Try.underlying48 Interval_info (by decide) (w2.heap.size + 1) hb _ rfl (OBd.below ((Below.refl _ _).alloc (Nat.le_refl _) _)) _ 1 1 (ints [x, y]) rfl (by show Rd _ _ 2 _; exact rd_pair _ _ _ _) (oneCell_ints _) (by omega) (by decide) (Nat.le_trans z4 (by simp)) ?_; intro k2 w5 hk2 hO2 gg hat)
          have HK2 := Lib.hid hk2
          clear hk2
          go_roundw
          case rel => exact ⟨k + 1, k2, by omega, (by first | rfl | rw [HK2.out]), by go_num, by rw [HS.out, HK2.out, HBN.out]; simp, by rw [HS.out, HPS.out, ints_append]; exact hO2, bstepg (bid.alloc z4 _) gg (by omega) (fun b e => (OBd.rowlt b e).1)⟩
          case measure => simp [intOf]; omega
        · obtain rfl : n4 = k := by omega
          obtain ⟨_, ⟨⟩, hx⟩ := (hr.head.below hbw).int hlt
          have rs := rk.blo bi (hlo.mono (Nat.le_succ _))
          have ws' := wk.blo bi (hlo.mono (Nat.le_succ _))
          have Q1 := P1.below bi (by omega)
          have Q2 := P2.below bi (Nat.lt_succ_self _)
          have hbl := hlenN l.counts.length
          have HFN : Hid (¬ (l.counts.getD q 0 = 0 ∧ 3 ≤ (nbTo l q l.counts.length).length) → fgTo l (q + 1) = fgTo l q) := fun hh => fgTo_no hh
          have HFY : Hid (l.counts.getD q 0 = 0 → 3 ≤ (nbTo l q l.counts.length).length → fgTo l (q + 1) = fillHull (fgTo l q) q (hullL l.depths (nbTo l q l.counts.length))) := fun h1 h2 => fgTo_yes h1 h2
          have hnblt : ∀ j (hj : j < (nbTo l q l.counts.length).length), ivB (l.depths.getD ((nbTo l q l.counts.length)[j] * 2) 0) (l.depths.getD ((nbTo l q l.counts.length)[j] * 2 + 1) 0) = true := fun j hj =>
            ivB_of_gcell (M0.out.at_ (nbTo_lt (List.getElem_mem hj)))
          have HIV := Lib.hid hnblt
          clear hnblt
          rw [← HV.out] at OB
          have hbn' : hb.n = (nbTo l q l.counts.length).length := by rw [HV.out]; exact hbn
          clear hbn
          generalize nbTo l q l.counts.length = nb at *
          generalize l.counts.getD q 0 = x at *
          obtain ⟨kA, kn, kc⟩ := hb
          simp only at hbn'
          subst hbn'
          have RN := OB.rd
          simp only at RN
          clear OB bi rk wk hbel P0 P1 P2 hlenN
          by_cases hx0 : x = 0
          case neg =>
            have g1 : (x == 0) = false := by simpa using hx0
            have HS := Lib.hid (HFN.out (fun c => hx0 c.1))
            clear hx0 HFN HFY
            go_wp2
            go_roundw
            case rel => exact ⟨q + 1, by omega, by go_num, by rw [HS.out]; exact rs, by rw [HS.out]; exact ws', hbw, Q0, Q1, Q2⟩
            case measure => simp [intOf]; omega
          have g1 : (x == 0) = true := by simpa using hx0
          by_cases hn3 : 3 ≤ nb.length
          case neg =>
            have g3 : ¬ (3 : Int) ≤ (nb.length : Int) := by omega
            have HS := Lib.hid (HFN.out (fun c => hn3 c.2))
            clear hx0 HFN HFY
            go_wp2
            go_roundw
            case rel => exact ⟨q + 1, by omega, by go_num, by rw [HS.out]; exact rs, by rw [HS.out]; exact ws', hbw, Q0, Q1, Q2⟩
            case measure => simp [intOf]; omega
          have g3 : (3 : Int) ≤ (nb.length : Int) := by omega
          have HS := Lib.hid (HFY.out hx0 hn3)
          clear hx0 HFN HFY
          obtain ⟨p, p2, hp⟩ : ∃ p p2, hullL l.depths nb = (p, p2) := ⟨_, _, rfl⟩
          have HE := specEncloseAll_any l.depths nb kA kc wr (by omega) (by omega) RN HIV.out
          rw [hp] at HE
          simp only at HE
          have HP := Lib.hid hp
          clear hp
          have y6 := Q2.lt
          go_wp2_with fail
          refine HE.mono ?_
          rintro e w6 ⟨rfl, b6⟩
          have hb6 := hbw.trans (b6.mono hbw.size)
          have rs6 := rs.below b6
          have ws6 := ws'.below rs b6
          have R0 := Q0.below b6 Q0.lt
          have R1 := Q1.below b6 Q1.lt
          have R2 := Q2.below b6 Q2.lt
          have yw6 := R2.lt
          clear HE RN HIV rs ws' Q0 Q1 Q2 c0 hx hbw b6 z9 z8 z7 z6 hbl
          go_upto_region 16 with fail
          have rs7 := rs6.below ((Below.refl w6.heap.size w6).alloc (Nat.le_refl _) (.cells #[.int .i64 p, .int .i64 p2] 82))
          have ws7 := ws6.below rs6 ((Below.refl w6.heap.size w6).alloc (Nat.le_refl _) (.cells #[.int .i64 p, .int .i64 p2] 82))
          have S0 := R0.alloc (.cells #[.int .i64 p, .int .i64 p2] 82)
          have S1 := R1.alloc (.cells #[.int .i64 p, .int .i64 p2] 82)
          have S2 := R2.alloc (.cells #[.int .i64 p, .int .i64 p2] 82)
          have S9 := Blk.new w6 82 #[.int .i64 p, .int .i64 p2]
          have hb7 : Below w.heap.size w (w6.alloc (.cells #[.int .i64 p, .int .i64 p2] 82)) := hb6.alloc hb6.size _
          generalize w6.alloc (.cells #[.int .i64 p, .int .i64 p2] 82) = w7 at rs7 ws7 S0 S1 S2 S9 hb7 ⊢
          clear rs6 ws6 R0 R1 R2 hb6
          have c2 := fun o => S2.cell o
          have c9 := fun o => S9.cell o
          have y7 := S2.lt
          have y79 := S9.lt
          have rk0 : Rd w7 B3 n4 (ints (fgTo l q).counts) := rs7.head
          have rk1 : Rd w7 B4 (n4 * 2) (ints (fgTo l q).depths) := rs7.tail.head
          have wk0 : Wr w7 w1.heap.size B3 n4 := ws7.head
          have wk1 : Wr w7 w1.heap.size B4 (n4 * 2) := ws7.tail.head
          obtain ⟨b3, rfl, hz3⟩ := rk0.int hlt
          obtain ⟨b4, rfl, hz4, hz5⟩ := rk1.two hlt
          obtain ⟨_, ⟨⟩, _, hfz⟩ := wk0 (by omega)
          have hf3 := hfz q hlt
          obtain ⟨_, ⟨⟩, _, hfy⟩ := wk1 (by omega)
          have hf4 := hfy (q * 2) (by omega)
          have hf5 := hfy (q * 2 + 1) (by omega)
          rw [← snd_addr] at hf5
          clear hfz hfy
          have hbb : blkp (some b3) n4 = some b3.block := by unfold blkp; rw [if_neg (by omega)]; rfl
          have hbd : blkp (some b4) (n4 * 2) = some b4.block := by unfold blkp; rw [if_neg (by omega)]; rfl
          have hb3hi : b3.block < w2.heap.size := hlo _ (List.mem_cons_self ..) _ hbb
          have hb3lo : w1.heap.size ≤ b3.block := hhi _ (List.mem_cons_self ..) _ hbb
          have hb4hi : b4.block < w2.heap.size := hlo _ (List.mem_cons_of_mem _ (List.mem_cons_self ..)) _ hbd
          have hb4lo : w1.heap.size ≤ b4.block := hhi _ (List.mem_cons_of_mem _ (List.mem_cons_self ..)) _ hbd
          have hne : b4.block ≠ b3.block := fun c => sk.off _ (List.mem_cons_self ..) _ (List.mem_cons_self ..) b3.block hbb (by rw [← c]; exact hbd)
          have kC : ∀ (W : World) (u : Value) (o : Nat), (W.setCell (b3.add q) u).cell? ⟨w2.heap.size, o, none⟩ = W.cell? ⟨w2.heap.size, o, none⟩ := fun W u o => far_set (by rw [block_of_add]; simp only; omega)
          have kC9 : ∀ (W : World) (u : Value) (o : Nat), (W.setCell (b3.add q) u).cell? ⟨w6.heap.size, o, none⟩ = W.cell? ⟨w6.heap.size, o, none⟩ := fun W u o => far_set (by rw [block_of_add]; simp only; omega)
          have kD : ∀ (W : World) (u : Value), (W.setCell (b3.add q) u).cell? (b4.add (q * 2)) = W.cell? (b4.add (q * 2)) := fun W u => far_set (by rw [block_of_add, block_of_add]; exact hne.symm)
          have kE : ∀ (W : World) (u : Value), (W.setCell (b3.add q) u).cell? ⟨(b4.add (q * 2)).block, (b4.add (q * 2)).off + 1, none⟩ = W.cell? ⟨(b4.add (q * 2)).block, (b4.add (q * 2)).off + 1, none⟩ := fun W u => far_set (by rw [block_of_add]; simp only [block_of_add]; exact hne.symm)
          have kF : ∀ (W : World) (u : Value), (W.setCell (b4.add (q * 2)) u).cell? ⟨(b4.add (q * 2)).block, (b4.add (q * 2)).off + 1, none⟩ = W.cell? ⟨(b4.add (q * 2)).block, (b4.add (q * 2)).off + 1, none⟩ := fun W u => World.cell?_setCell_other _ _ _ _ (fun e => by have e2 := congrArg Addr.off e; first | omega | (simp only at e2; omega))
          have HG := gputC (B := w1.heap.size) (c3 := e4) (c4 := e5) (x0 := (fgTo l q).size) (x1 := (fgTo l q).wide) (x2 := (fgTo l q).high) (v := -1) hlt rk0 rk1 wk0 wk1 (Touch.refl w7 _) hne
          have HG2 := Lib.hid (gputD (B := w1.heap.size) (c3 := e4) (c4 := e5) (x0 := (fgTo l q).size) (x1 := (fgTo l q).wide) (x2 := (fgTo l q).high) (p := p) (q := p2) hlt HG.2.1.head HG.2.1.tail.head HG.2.2.1.head HG.2.2.1.tail.head HG.2.2.2 hne)
          have HNE := Lib.hid (show w1.heap.size ≤ b3.block ∧ b3.block < w2.heap.size ∧ w1.heap.size ≤ b4.block ∧ b4.block < w2.heap.size ∧ w.heap.size + 1 < w1.heap.size from ⟨hb3lo, hb3hi, hb4lo, hb4hi, z1⟩)
          clear HG rk0 rk1 wk0 wk1 hbb hbd hb3hi hb3lo hb4hi hb4lo hne rs7 ws7
          go_wp2
          go_roundw
          case rel =>
            have h := HG2.out
            have hN := HNE.out
            exact ⟨q + 1, by omega, by go_num, by rw [HS.out, HP.out]; exact h.2.1, by rw [HS.out, HP.out]; exact h.2.2.1, ((hb7.setCell (by rw [block_of_add]; omega) _).setCell (by rw [block_of_add]; omega) _).setCell (by simp only [block_of_add]; omega) _, ((S0.far (by rw [block_of_add]; omega) _).far (by rw [block_of_add]; omega) _).far (by simp only [block_of_add]; omega) _, ((S1.far (by rw [block_of_add]; omega) _).far (by rw [block_of_add]; omega) _).far (by simp only [block_of_add]; omega) _, ((S2.far (by rw [block_of_add]; omega) _).far (by rw [block_of_add]; omega) _).far (by simp only [block_of_add]; omega) _⟩
          case measure => simp [intOf]; omega
    · obtain rfl : q = n4 := by omega
      have c1 := fun o => P1.cell o
      have f1 := fun o => P1.frozen o
      have c2 := fun o => P2.cell o
      have y0 : w.heap.size < wr.heap.size := P0.lt
      have y1 : w.heap.size + 1 < wr.heap.size := P1.lt
      have y2 : w2.heap.size < wr.heap.size := P2.lt
      go_wp2
      refine bodyPost_ret (v := .tuple #[.agg #[.int .i64 l.size, .int .i64 l.wide, .int .i64 l.high, .slice B3 q e4, .slice B4 q e5], .int .i64 0]) (by simp [results, Try.results33, go_sem, c1]) rfl ?_
      rw [HM.out.1, HM.out.2, HV.out]
      have hh := fgTo_side l q
      refine ⟨⟨⟨B3, q, e4⟩, ⟨B4, q, e5⟩⟩, by unfold DepthGridV; rw [hh.1, hh.2.1, hh.2.2.1], ⟨by show q ≤ 1048576; omega, by show q ≤ 1048576; omega⟩, ?_, ?_, sk, (by (repeat (first | (with_reducible assumption) | (with_reducible exact Below.refl _ _) | (with_reducible refine Below.drew ?_) | (with_reducible refine Below.drewN ?_ _) | (with_reducible refine Below.setCell ?_ ?_ _) | (with_reducible refine Below.alloc ?_ ?_ _) | assumption)); all_goals (first | omega | (simp; done) | (simp; omega)))⟩
      · repeat (refine RdAll.cell_ ?_ (hhi.ne (by omega)))
        exact rk
      · repeat (refine WrAll.cell_ ?_)
        exact wk.lower hb1.size
end Go.Proofs.Ythmcnoloeeabbaa
