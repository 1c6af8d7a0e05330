/- Grids: merging, the reference's side. Condition: lists of at most 1048576 elements. -/
import Derived.Test.YthmcnoloeeabbaaGriE
namespace Go.Proofs.Ythmcnoloeeabbaa
open Go.RowKit

set_option maxRecDepth 100000 in
set_option maxHeartbeats 4000000 in
theorem specMergeGrids'_any (h : DepthGridH) (l : DepthGridC) (h' : DepthGridH) (l' : DepthGridC) (w : World) (ok : DepthGridOk h) (hr : RdAll w (DepthGridS h l)) (ok' : DepthGridOk h') (hr' : RdAll w (DepthGridS h' l')) :
    Calls Try.prog 27 #[DepthGridV h l, DepthGridV h' l'] w (RetGrid (gmR l l') (gmC l l') w) := by
  unfold DepthGridV
  go_enter Try.func27, Try.ntmps27
  go_wp2_with fail
  refine (specIsDepthGrid_any h l _ ok (hr.below (by (repeat (first | (with_reducible assumption) | (with_reducible exact Below.refl _ _) | (with_reducible refine Below.drew ?_) | (with_reducible refine Below.drewN ?_ _) | (with_reducible refine Below.setCell ?_ ?_ _) | (with_reducible refine Below.alloc ?_ ?_ _) | assumption)); all_goals (first | omega | (simp; done) | (simp; omega))))).mono ?_
  rintro e w1 ⟨rfl, b1⟩
  have hb1 : Below w.heap.size w w1 := (show Below w.heap.size w _ from (by (repeat (first | (with_reducible assumption) | (with_reducible exact Below.refl _ _) | (with_reducible refine Below.drew ?_) | (with_reducible refine Below.drewN ?_ _) | (with_reducible refine Below.setCell ?_ ?_ _) | (with_reducible refine Below.alloc ?_ ?_ _) | assumption)); all_goals (first | omega | (simp; done) | (simp; omega)))).trans (b1.mono (by first | omega | (simp; done) | (simp; omega)))
  have z1 : w.heap.size + 2 < w1.heap.size := Nat.lt_of_lt_of_le (by first | omega | (simp; done) | (simp; omega)) b1.size
  have K0 : Blk w1 w.heap.size 50 #[.int .i64 l.size, .int .i64 l.wide, .int .i64 l.high, .slice h.counts.A h.counts.n h.counts.c, .slice h.depths.A h.depths.n h.depths.c] := Blk.below (by repeat (first | exact Blk.newN _ _ _ (by simp; done) | refine Blk.alloc ?_ _)) b1 (by first | omega | (simp; done) | (simp; omega))
  have K1 : Blk w1 (w.heap.size + 1) 50 #[.int .i64 l'.size, .int .i64 l'.wide, .int .i64 l'.high, .slice h'.counts.A h'.counts.n h'.counts.c, .slice h'.depths.A h'.depths.n h'.depths.c] := Blk.below (by repeat (first | exact Blk.newN _ _ _ (by simp; done) | refine Blk.alloc ?_ _)) b1 (by first | omega | (simp; done) | (simp; omega))
  have K2 : Blk w1 (w.heap.size + 1 + 1) 50 #[.int .i64 0, .int .i64 0, .int .i64 0, .slice none 0 0, .slice none 0 0] := Blk.below (by repeat (first | exact Blk.newN _ _ _ (by simp; done) | refine Blk.alloc ?_ _)) b1 (by first | omega | (simp; done) | (simp; omega))
  clear b1
  have c0 := fun o => K0.cell o
  have c1 := fun o => K1.cell o
  have c2 := fun o => K2.cell o
  have f2 := fun o => K2.frozen o
  rcases Bool.eq_false_or_eq_true (gridOk l) with o0 | o0
  case inr =>
    have HM : Hid (gmR l l' = zeroGrid ∧ gmC l l' = 1) := by unfold Hid gmR gmC; simp [o0]
    go_wp2
    refine bodyPost_ret (v := .tuple #[.agg #[.int .i64 0, .int .i64 0, .int .i64 0, .slice none 0 0, .slice none 0 0], .int .i64 1]) (by simp [results, Try.results27, go_sem, c2]) rfl ?_
    rw [HM.out.1, HM.out.2]
    exact retGrid_zero (by (repeat (first | (with_reducible assumption) | (with_reducible exact Below.refl _ _) | (with_reducible refine Below.drew ?_) | (with_reducible refine Below.drewN ?_ _) | (with_reducible refine Below.setCell ?_ ?_ _) | (with_reducible refine Below.alloc ?_ ?_ _) | assumption)); all_goals (first | omega | (simp; done) | (simp; omega)))
  go_wp2_with fail
  refine (specIsDepthGrid_any h' l' _ ok' (hr'.below (by (repeat (first | (with_reducible assumption) | (with_reducible exact Below.refl _ _) | (with_reducible refine Below.drew ?_) | (with_reducible refine Below.drewN ?_ _) | (with_reducible refine Below.setCell ?_ ?_ _) | (with_reducible refine Below.alloc ?_ ?_ _) | assumption)); all_goals (first | omega | (simp; done) | (simp; omega))))).mono ?_
  rintro e w2 ⟨rfl, b2⟩
  have hb2 : Below w.heap.size w w2 := hb1.trans (b2.mono (by first | omega | (simp; done) | (simp; omega)))
  have z2 : w.heap.size + 2 < w2.heap.size := Nat.lt_of_lt_of_le z1 b2.size
  have J0 := K0.below b2 K0.lt
  have J1 := K1.below b2 K1.lt
  have J2 := K2.below b2 K2.lt
  clear c0 c1 c2 f2 K0 K1 K2 b2
  have c0 := fun o => J0.cell o
  have c1 := fun o => J1.cell o
  have c2 := fun o => J2.cell o
  have f2 := fun o => J2.frozen o
  rcases Bool.eq_false_or_eq_true (gridOk l') with o1 | o1
  case inr =>
    have HM : Hid (gmR l l' = zeroGrid ∧ gmC l l' = 1) := by unfold Hid gmR gmC; simp [o1]
    go_wp2
    refine bodyPost_ret (v := .tuple #[.agg #[.int .i64 0, .int .i64 0, .int .i64 0, .slice none 0 0, .slice none 0 0], .int .i64 1]) (by simp [results, Try.results27, go_sem, c2]) rfl ?_
    rw [HM.out.1, HM.out.2]
    exact retGrid_zero (by (repeat (first | (with_reducible assumption) | (with_reducible exact Below.refl _ _) | (with_reducible refine Below.drew ?_) | (with_reducible refine Below.drewN ?_ _) | (with_reducible refine Below.setCell ?_ ?_ _) | (with_reducible refine Below.alloc ?_ ?_ _) | assumption)); all_goals (first | omega | (simp; done) | (simp; omega)))
  have HM5 : Hid (¬ gmSame l l' → gmR l l' = zeroGrid ∧ gmC l l' = 5) := by
    intro hn
    have h5 : gmC l l' = 5 := by unfold gmC; rw [if_pos ⟨o0, o1⟩, if_neg hn]
    exact ⟨by unfold gmR; rw [h5, if_neg (by decide)], h5⟩
  have HM0 : Hid (gmSame l l' → (gmFit l l' l'.counts.length = true → gmR l l' = gmTo l l' l'.counts.length ∧ gmC l l' = 0) ∧ (gmFit l l' l'.counts.length = false → gmR l l' = zeroGrid ∧ gmC l l' = 3)) := by
    intro hn
    refine ⟨fun hf => ?_, fun hf => ?_⟩
    · have h5 : gmC l l' = 0 := by unfold gmC; rw [if_pos ⟨o0, o1⟩, if_pos hn, if_pos hf]
      exact ⟨by unfold gmR; rw [h5, if_pos rfl], h5⟩
    · have h5 : gmC l l' = 3 := by unfold gmC; rw [if_pos ⟨o0, o1⟩, if_pos hn, if_neg (by rw [hf]; decide)]
      exact ⟨by unfold gmR; rw [h5, if_neg (by decide)], h5⟩
  have M0 := Lib.hid (GOk.of o0)
  have M1 := Lib.hid (GOk.of o1)
  by_cases e_size : l.size = l'.size
  case neg =>
    have q1 : (l.size == l'.size) = false := by simpa using e_size
    have q2 : (l.size != l'.size) = true := by simpa using e_size
    have HE := Lib.hid e_size
    clear e_size
    go_wp2
    refine bodyPost_ret (v := .tuple #[.agg #[.int .i64 0, .int .i64 0, .int .i64 0, .slice none 0 0, .slice none 0 0], .int .i64 5]) (by simp [results, Try.results27, go_sem, c2]) rfl ?_
    rw [(HM5.out (fun c => HE.out c.1)).1, (HM5.out (fun c => HE.out c.1)).2]
    exact retGrid_zero (by (repeat (first | (with_reducible assumption) | (with_reducible exact Below.refl _ _) | (with_reducible refine Below.drew ?_) | (with_reducible refine Below.drewN ?_ _) | (with_reducible refine Below.setCell ?_ ?_ _) | (with_reducible refine Below.alloc ?_ ?_ _) | assumption)); all_goals (first | omega | (simp; done) | (simp; omega)))
  by_cases e_wide : l.wide = l'.wide
  case neg =>
    have q_size : (l.size == l'.size) = true := by simpa using e_size
    have r_size : (l.size != l'.size) = false := by simpa using e_size
    have q1 : (l.wide == l'.wide) = false := by simpa using e_wide
    have q2 : (l.wide != l'.wide) = true := by simpa using e_wide
    have HE := Lib.hid e_wide
    clear e_wide e_size
    go_wp2
    refine bodyPost_ret (v := .tuple #[.agg #[.int .i64 0, .int .i64 0, .int .i64 0, .slice none 0 0, .slice none 0 0], .int .i64 5]) (by simp [results, Try.results27, go_sem, c2]) rfl ?_
    rw [(HM5.out (fun c => HE.out c.2.1)).1, (HM5.out (fun c => HE.out c.2.1)).2]
    exact retGrid_zero (by (repeat (first | (with_reducible assumption) | (with_reducible exact Below.refl _ _) | (with_reducible refine Below.drew ?_) | (with_reducible refine Below.drewN ?_ _) | (with_reducible refine Below.setCell ?_ ?_ _) | (with_reducible refine Below.alloc ?_ ?_ _) | assumption)); all_goals (first | omega | (simp; done) | (simp; omega)))
  by_cases e_high : l.high = l'.high
  case neg =>
    have q_size : (l.size == l'.size) = true := by simpa using e_size
    have r_size : (l.size != l'.size) = false := by simpa using e_size
    have q_wide : (l.wide == l'.wide) = true := by simpa using e_wide
    have r_wide : (l.wide != l'.wide) = false := by simpa using e_wide
    have q1 : (l.high == l'.high) = false := by simpa using e_high
    have q2 : (l.high != l'.high) = true := by simpa using e_high
    have HE := Lib.hid e_high
    clear e_high e_size e_wide
    go_wp2
    refine bodyPost_ret (v := .tuple #[.agg #[.int .i64 0, .int .i64 0, .int .i64 0, .slice none 0 0, .slice none 0 0], .int .i64 5]) (by simp [results, Try.results27, go_sem, c2]) rfl ?_
    rw [(HM5.out (fun c => HE.out c.2.2)).1, (HM5.out (fun c => HE.out c.2.2)).2]
    exact retGrid_zero (by (repeat (first | (with_reducible assumption) | (with_reducible exact Below.refl _ _) | (with_reducible refine Below.drew ?_) | (with_reducible refine Below.drewN ?_ _) | (with_reducible refine Below.setCell ?_ ?_ _) | (with_reducible refine Below.alloc ?_ ?_ _) | assumption)); all_goals (first | omega | (simp; done) | (simp; omega)))
  have q_size : (l.size == l'.size) = true := by simpa using e_size
  have r_size : (l.size != l'.size) = false := by simpa using e_size
  have q_wide : (l.wide == l'.wide) = true := by simpa using e_wide
  have r_wide : (l.wide != l'.wide) = false := by simpa using e_wide
  have q_high : (l.high == l'.high) = true := by simpa using e_high
  have r_high : (l.high != l'.high) = false := by simpa using e_high
  have HM := Lib.hid (HM0.out ⟨e_size, e_wide, e_high⟩)
  have hwide := Lib.hid e_wide
  have hhigh := Lib.hid e_high
  clear HM5 HM0 e_size e_wide e_high
  go_wp2_with fail
  refine (l22Own_any h l _ ok (hr.below (by (repeat (first | (with_reducible assumption) | (with_reducible exact Below.refl _ _) | (with_reducible refine Below.drew ?_) | (with_reducible refine Below.drewN ?_ _) | (with_reducible refine Below.setCell ?_ ?_ _) | (with_reducible refine Below.alloc ?_ ?_ _) | assumption)); all_goals (first | omega | (simp; done) | (simp; omega))))).mono ?_
  rintro e w3 ⟨k, he, ow, b3⟩
  unfold DepthGridV at he
  subst he
  clear q_size r_size q_wide r_wide q_high r_high o0 o1
  have hb3 : Below w.heap.size w w3 := hb2.trans (b3.mono (by first | omega | (simp; done) | (simp; omega)))
  have z3 : w.heap.size + 2 < w3.heap.size := Nat.lt_of_lt_of_le z2 b3.size
  have I1 := J1.below b3 J1.lt
  have I0 := J0.below b3 J0.lt
  have I2 := J2.below b3 J2.lt
  clear c0 c1 c2 f2 J0 J1 J2 b3
  have c0 := fun o => I0.cell o
  have rk := ow.rd
  have wk := ow.wr
  have sk := ow.sp
  clear ow
  have c1 := fun o => I1.cell o
  have y1 : w.heap.size + 1 < w3.heap.size := by omega
  have y2 : w.heap.size + 1 + 1 < w3.heap.size := by omega
  have c2 := fun o => I2.cell o
  have f2 := fun o => I2.frozen o
  have hlen0 := GridS_c rk
  have hlen1 := GridS_d rk
  have hlen2 := GridS_c hr'
  have hlen3 := GridS_d hr'
  have hn : Hid (k.depths.n = k.counts.n ∧ k.counts.n = h'.counts.n ∧ h'.depths.n = h'.counts.n ∧ h'.counts.n ≤ 900 ∧ h.counts.n = h'.counts.n) := by
    have m0 := M0.out; have m1 := M1.out
    have a := m0.eq; have b := m0.len; have c := m1.eq; have d := m1.len; have e := m1.bd.1
    rw [hwide.out, hhigh.out] at b
    have f := GridS_c hr
    exact ⟨by omega, by omega, by omega, by omega, by omega⟩
  have hlo : Lo (DepthGridR k) w3.heap.size := rk.lo
  have hhi : Hi (DepthGridR k) w2.heap.size := wk.hi
  have HV := Lib.hid hlen2
  have hlk := Lib.hid hlen0
  clear hlen0 hlen1 hlen2 hlen3
  obtain ⟨⟨A2, m2, d2⟩, ⟨A3, m3, d3⟩⟩ := h'
  simp only at hn c1 I1
  go_wp2_with fail
  have rk4 := rk.below ((Below.refl w3.heap.size w3).alloc (Nat.le_refl _) (.cells #[.int .i64 l.size, .int .i64 l.wide, .int .i64 l.high, .slice k.counts.A k.counts.n k.counts.c, .slice k.depths.A k.depths.n k.depths.c] 50))
  have wk4 := wk.below rk ((Below.refl w3.heap.size w3).alloc (Nat.le_refl _) (.cells #[.int .i64 l.size, .int .i64 l.wide, .int .i64 l.high, .slice k.counts.A k.counts.n k.counts.c, .slice k.depths.A k.depths.n k.depths.c] 50))
  have P0 := I0.alloc (.cells #[.int .i64 l.size, .int .i64 l.wide, .int .i64 l.high, .slice k.counts.A k.counts.n k.counts.c, .slice k.depths.A k.depths.n k.depths.c] 50)
  have P1 := I1.alloc (.cells #[.int .i64 l.size, .int .i64 l.wide, .int .i64 l.high, .slice k.counts.A k.counts.n k.counts.c, .slice k.depths.A k.depths.n k.depths.c] 50)
  have P2 := I2.alloc (.cells #[.int .i64 l.size, .int .i64 l.wide, .int .i64 l.high, .slice k.counts.A k.counts.n k.counts.c, .slice k.depths.A k.depths.n k.depths.c] 50)
  have P3 := Blk.new w3 50 #[.int .i64 l.size, .int .i64 l.wide, .int .i64 l.high, .slice k.counts.A k.counts.n k.counts.c, .slice k.depths.A k.depths.n k.depths.c]
  have hb4 : Below w.heap.size w (w3.alloc (.cells #[.int .i64 l.size, .int .i64 l.wide, .int .i64 l.high, .slice k.counts.A k.counts.n k.counts.c, .slice k.depths.A k.depths.n k.depths.c] 50)) := (by (repeat (first | (with_reducible assumption) | (with_reducible exact Below.refl _ _) | (with_reducible refine Below.drew ?_) | (with_reducible refine Below.drewN ?_ _) | (with_reducible refine Below.setCell ?_ ?_ _) | (with_reducible refine Below.alloc ?_ ?_ _) | assumption)); all_goals (first | omega | (simp; done) | (simp; omega)))
  generalize w3.alloc (.cells #[.int .i64 l.size, .int .i64 l.wide, .int .i64 l.high, .slice k.counts.A k.counts.n k.counts.c, .slice k.depths.A k.depths.n k.depths.c] 50) = w4 at rk4 wk4 P0 P1 P2 P3 hb4 ⊢
  clear c1 c2 f2 I1 I2 rk wk hb3 I0 c0
  go_loopw [7] (fun i wr => ∃ n : Nat, n ≤ m2 ∧ i = .int .i64 n ∧ gmFit l l' n = true ∧ RdAll wr (DepthGridS k (gmTo l l' n)) ∧ WrAll wr w2.heap.size (DepthGridS k (gmTo l l' n)) ∧ Below w.heap.size w wr ∧ Blk wr w.heap.size 50 #[.int .i64 l.size, .int .i64 l.wide, .int .i64 l.high, .slice h.counts.A h.counts.n h.counts.c, .slice h.depths.A h.depths.n h.depths.c] ∧
      Blk wr (w.heap.size + 1) 50 #[.int .i64 l'.size, .int .i64 l'.wide, .int .i64 l'.high, .slice A2 m2 d2, .slice A3 m3 d3] ∧ Blk wr (w.heap.size + 1 + 1) 50 #[.int .i64 0, .int .i64 0, .int .i64 0, .slice none 0 0, .slice none 0 0] ∧
      Blk wr w3.heap.size 50 #[.int .i64 l.size, .int .i64 l.wide, .int .i64 l.high, .slice k.counts.A k.counts.n k.counts.c, .slice k.depths.A k.depths.n k.depths.c]) (fun i _ => m2 - (intOf i).toNat)
  case atStart => exact ⟨0, Nat.zero_le _, rfl, rfl, rk4, wk4, hb4, P0, P1, P2, P3⟩
  case round =>
    clear rk4 wk4 hb4 P1 P2 P3 P0
    obtain ⟨n, hnm, rfl, hfit, rk, wk, hbel, P0, P1, P2, P3⟩ := hrel
    have HFT := Lib.hid hfit
    clear hfit
    have c1 := fun o => P1.cell o
    have c2 := fun o => P2.cell o
    have f2 := fun o => P2.frozen o
    have c3 := fun o => P3.cell o
    have c0 := fun o => P0.cell o
    have hnn := hn.out
    have hm := hnn.2.2.2.1
    obtain rfl : m3 = m2 := hnn.2.2.1
    have HH := Lib.hid hnn
    clear hnn
    by_cases hlt : n < m3
    · have hbc := gcellB_bd (M1.out.at_ (k := n) (by rw [HV.out]; exact hlt))
      have hba := gcellB_bd (M0.out.at_ (k := n) (by have := hlk.out; have := HH.out; omega))
      have HST := fun (hne : l'.counts.getD n 0 ≠ 0) v hv => gmTo_step (g := l) (h := l') (n := n) hne v hv
      have HSZ : l'.counts.getD n 0 = 0 → gmTo l l' (n + 1) = gmTo l l' n := fun h0 => by rw [gmTo_succ, if_pos h0]
      have HF1 : Hid (mcnt (l.counts.getD n 0) (l'.counts.getD n 0) ≤ 1000000000000 → gmFit l l' (n + 1) = true) := fun h => by rw [gmFit_succ, HFT.out, decide_eq_true h]; rfl
      have HF2 : Hid (¬ mcnt (l.counts.getD n 0) (l'.counts.getD n 0) ≤ 1000000000000 → gmFit l l' l'.counts.length = false) := fun h => gmFit_false (by rw [HV.out]; exact hlt) h
      have HAT := gmTo_at l l' (i := n) n (Nat.le_refl _)
      obtain ⟨a2, rfl, hx⟩ := (hr'.head.below hbel).int hlt
      obtain ⟨a3, rfl, hy0, hy1⟩ := (hr'.tail.head.below hbel).two hlt
      have hi0 : (0 : Int) ≤ (n : Int) := by omega
      have hi1 : (n : Int) < (m3 : Int) := by omega
      obtain ⟨⟨A4, n4, e4⟩, ⟨A5, n5, e5⟩⟩ := k
      obtain ⟨⟨A6, n6, e6⟩, ⟨A7, n7, e7⟩⟩ := h
      have hhd := HH.out
      simp only at hhd rk wk P0 c0 P3 c3 hhi hlo sk hr
      obtain rfl : n5 = n4 := hhd.1
      obtain rfl : n5 = n6 := by omega
      have hk3 : n < n5 := by omega
      have rk0 : Rd wr A4 n5 (ints (gmTo l l' n).counts) := rk.head
      have rk1 : Rd wr A5 (n5 * 2) (ints (gmTo l l' n).depths) := rk.tail.head
      obtain ⟨b6, rfl, hg⟩ := (hr.head.below hbel).int (show n < n5 by omega)
      obtain ⟨b3, rfl, -⟩ := rk0.int hk3
      obtain ⟨b4, rfl, -, -⟩ := rk1.two hk3
      have hn66 : n < n5 := by omega
      have hi6 : (n : Int) < (n5 : Int) := by omega
      have hbb : blkp (some b3) n5 = some b3.block := by unfold blkp; rw [if_neg (by omega)]; rfl
      have hbd : blkp (some b4) (n5 * 2) = some b4.block := by unfold blkp; rw [if_neg (by omega)]; rfl
      have hb3hi : b3.block < w3.heap.size := hlo _ (List.mem_cons_self ..) _ hbb
      have hb3lo : w2.heap.size ≤ b3.block := hhi _ (List.mem_cons_self ..) _ hbb
      have hne : b4.block ≠ b3.block := fun c => sk.off _ (List.mem_cons_self ..) _ (List.mem_cons_self ..) b3.block hbb (by rw [← c]; exact hbd)
      have HP := fun kn a b => l22Add_any w2.heap.size ⟨⟨some b3, n5, e4⟩, ⟨some b4, n5, e5⟩⟩ ⟨l.size, l.wide, l.high, (gmTo l l' n).counts, (gmTo l l' n).depths⟩ n kn a b wr.drew ⟨show n5 ≤ 1048576 by omega, show n5 ≤ 1048576 by omega⟩ rfl hk3 rk wk sk
      simp only [DepthGridV, addK] at HP
      have HG6 := fun (W : World) (b : Below w.heap.size w W) => (hr.head.below b).int hn66
      have HX6 := fun (W : World) (b : Below w.heap.size w W) => (hr'.head.below b).int hlt
      have hr3 := Lib.hid hb3hi
      have hr4 := Lib.hid hb3lo
      have hb2z := hb2.size
      clear rk0 rk1 hb3hi hb3lo hbd hhd
      have HAD : Hid (∀ a b : Int, addD (gmTo l l' n).counts (gmTo l l' n).depths n a b = if l.counts.getD n 0 = 0 then set2 (gmTo l l' n).depths n a b else set2 (gmTo l l' n).depths n (min ((gmTo l l' n).depths.getD (n * 2) 0) a) (max ((gmTo l l' n).depths.getD (n * 2 + 1) 0) b)) := fun a b => by unfold addD; rw [HAT.1]
      clear HAT
      have kC1 : ∀ (W : World) (u : Value) (o : Nat), (W.setCell (b3.add n) u).cell? ⟨w.heap.size + 1, o, none⟩ = W.cell? ⟨w.heap.size + 1, o, none⟩ := fun W u o => far_set (by rw [block_of_add]; have := hr4.out; simp only; omega)
      generalize hx' : l'.counts.getD n 0 = x at *
      generalize hy' : l.counts.getD n 0 = y at *
      generalize l'.depths.getD (n * 2) 0 = p at *
      generalize l'.depths.getD (n * 2 + 1) 0 = q at *
      clear hx' hy'
      by_cases hx0 : x = 0
      case pos =>
        have HS0 := Lib.hid (HSZ hx0)
        have HM1 : Hid (mcnt y x ≤ 1000000000000) := by unfold Hid mcnt; rw [if_pos hx0]; omega
        have g1 : (x == 0) = true := by simpa using hx0
        clear HSZ HST hx0
        go_wp2
        go_roundw
        case rel => exact ⟨n + 1, by omega, by go_num, HF1.out HM1.out, by rw [HS0.out]; exact rk, by rw [HS0.out]; exact wk, hbel, P0, P1, P2, P3⟩
        case measure => simp [intOf]; omega
      case neg =>
        have g1 : (x == 0) = false := by simpa using hx0
        have HMC : Hid (mcnt y x = if max y 0 + max x 0 = 0 then -1 else max y 0 + max x 0) := by unfold Hid mcnt; rw [if_neg hx0]
        have HST2 := Lib.hid (HST hx0)
        clear HSZ HST hx0
        have HD2 : Hid (∀ a b : Int, (if (y != 0) = true then set2 (gmTo l l' n).depths n (min ((gmTo l l' n).depths.getD (n * 2) 0) a) (max ((gmTo l l' n).depths.getD (n * 2 + 1) 0) b) else set2 (gmTo l l' n).depths n a b) = addD (gmTo l l' n).counts (gmTo l l' n).depths n a b) := fun a b => by
          rw [HAD.out a b]
          by_cases h : y = 0
          · rw [if_pos h, if_neg (by simp [h])]
          · rw [if_neg h, if_pos (by simp [h])]
        clear HAD
        go_wp2_with fail
        go_still_tail 13, (by kernel_rfl)
        have D0 : Blk wr.drew _ _ _ := P0
        have D1 : Blk wr.drew _ _ _ := P1
        have D2 : Blk wr.drew _ _ _ := P2
        have D3 : Blk wr.drew _ _ _ := P3
        have db := Below.drew hbel
        change wpList _ _ _ _ _ wr.drew
        generalize wr.drew = w5 at HP D0 D1 D2 D3 db ⊢
        clear c0 c1 c2 f2 c3 P0 P1 P2 P3 hbel rk wk hx hy0 hy1 hg
        go_wp2_with fail
        with_reducible refine (HP _ _ _).mono ?_
        rintro e w6 ⟨rfl, rk6, wk6, t6⟩
        rw [HD2.out] at rk6 wk6
        have Q0 := D0.touch t6 (hhi.ne (by omega))
        have Q1 := D1.touch t6 (hhi.ne (by omega))
        have Q2 := D2.touch t6 (hhi.ne (by omega))
        have Q3 := D3.touch t6 (hlo.ne (by omega))
        have db6 := bstepT db t6 (Nat.le_refl _) (hhi.mono hb2.size)
        have c0 := fun o => Q0.cell o
        have c1 := fun o => Q1.cell o
        have c2 := fun o => Q2.cell o
        have f2 := fun o => Q2.frozen o
        have c3 := fun o => Q3.cell o
        obtain ⟨_, ⟨⟩, hg⟩ := HG6 _ db6
        obtain ⟨_, ⟨⟩, hx⟩ := HX6 _ db6
        have rk60 : Rd w6 (some b3) n5 (ints (gmTo l l' n).counts) := rk6.head
        have rk61 : Rd w6 (some b4) (n5 * 2) (ints (addD (gmTo l l' n).counts (gmTo l l' n).depths n p q)) := rk6.tail.head
        have wk60 : Wr w6 w2.heap.size (some b3) n5 := wk6.head
        have wk61 : Wr w6 w2.heap.size (some b4) (n5 * 2) := wk6.tail.head
        obtain ⟨_, ⟨⟩, hz6⟩ := rk60.int hk3
        obtain ⟨_, ⟨⟩, _, hfz⟩ := wk60 (by omega)
        have hf6 := hfz n hk3
        have T6 : Touch w5 w6 [blkp (some b3) n5, blkp (some b4) (n5 * 2)] := t6
        have HC := fun v => Lib.hid (gputC (B := w2.heap.size) (c3 := e4) (c4 := e5) (x0 := l.size) (x1 := l.wide) (x2 := l.high) (v := v) hk3 rk60 rk61 wk60 wk61 T6 hne)
        clear hfz rk6 wk6 t6 D0 D1 D2 D3 db HP rk60 rk61 wk60 wk61 T6 HG6 HX6 HD2
        generalize (gmTo l l' n).counts.getD n 0 = old at *
        by_cases h1 : 0 < y
        all_goals by_cases h2 : 0 < x
        · have h1 : 0 < y := h1
          have p1 : max y 0 = y := by omega
          have p2 : max x 0 = x := by omega
          rw [p1, p2] at HMC
          clear p1 p2
          generalize hv : mcnt y x = v at *
          have HV := Lib.hid (HST2.out v rfl)
          obtain rfl : y + x = v := by rw [HMC.out, if_neg (by omega)]; try omega
          have gz : ((y + x) == 0) = false := by simp; omega
          have hbv : -1 ≤ (y + x) ∧ (y + x) ≤ 2000000000000 := by omega
          clear hv HST2 HMC
          go_wp2_with fail
          go_quiet (fail)
          have U0 := Q0.drewN nq
          have U1 := Q1.drewN nq
          have U2 := Q2.drewN nq
          have U3 := Q3.drewN nq
          have bu := Below.drewN db6 nq
          have HC2 := Lib.hid ((HC (y + x)).out.drewC2 nq)
          have hz7 : (w6.drewN nq).cell? _ = _ := hz6
          have hf7 : (w6.drewN nq).frozen? _ = _ := hf6
          generalize w6.drewN nq = w7 at U0 U1 U2 U3 bu HC2 hz7 hf7 ⊢
          clear c0 c1 c2 f2 c3 hg hx hz6 hf6 Q0 Q1 Q2 Q3 db6 HC
          have c2 := fun o => U2.cell o
          have f2 := fun o => U2.frozen o
          have c3 := fun o => U3.cell o
          by_cases hle : (1000000000000 : Int) < y + x
          · have HMf := HM.out.2 (HF2.out (by omega))
            have HMg := Lib.hid HMf
            clear HMf
            go_wp2
            refine bodyPost_ret (v := .tuple #[.agg #[.int .i64 0, .int .i64 0, .int .i64 0, .slice none 0 0, .slice none 0 0], .int .i64 3]) (by simp [results, Try.results27, go_sem, c2]) rfl ?_
            rw [HMg.out.1, HMg.out.2]
            exact retGrid_zero (by (repeat (first | (with_reducible assumption) | (with_reducible exact Below.refl _ _) | (with_reducible refine Below.drew ?_) | (with_reducible refine Below.drewN ?_ _) | (with_reducible refine Below.setCell ?_ ?_ _) | (with_reducible refine Below.alloc ?_ ?_ _) | assumption)); all_goals (first | omega | (simp; done) | (simp; omega)))
          · have HF := Lib.hid (HF1.out (by omega))
            go_wp2
            go_roundw
            case rel =>
              have h := HC2.out
              exact ⟨n + 1, by omega, by go_num, HF.out, by rw [HV.out]; exact h.2.1, by rw [HV.out]; exact h.2.2.1, bu.setCell (p := b3.add n) (by rw [block_of_add]; have := hr4.out; omega) _, U0.far (p := b3.add n) (by rw [block_of_add]; have := hr4.out; omega) _, U1.far (p := b3.add n) (by rw [block_of_add]; have := hr4.out; omega) _, U2.far (p := b3.add n) (by rw [block_of_add]; have := hr4.out; omega) _, U3.far (p := b3.add n) (by rw [block_of_add]; have := hr3.out; omega) _⟩
            case measure => simp [intOf]; omega
        · have h1 : 0 < y := h1
          have p1 : max y 0 = y := by omega
          have p2 : max x 0 = 0 := by omega
          rw [p1, p2] at HMC
          clear p1 p2
          generalize hv : mcnt y x = v at *
          have HV := Lib.hid (HST2.out v rfl)
          obtain rfl : y = v := by rw [HMC.out, if_neg (by omega)]; try omega
          have gz : ((y) == 0) = false := by simp; omega
          have hbv : -1 ≤ (y) ∧ (y) ≤ 2000000000000 := by omega
          clear hv HST2 HMC
          go_wp2_with fail
          go_quiet (fail)
          have U0 := Q0.drewN nq
          have U1 := Q1.drewN nq
          have U2 := Q2.drewN nq
          have U3 := Q3.drewN nq
          have bu := Below.drewN db6 nq
          have HC2 := Lib.hid ((HC (y)).out.drewC2 nq)
          have hz7 : (w6.drewN nq).cell? _ = _ := hz6
          have hf7 : (w6.drewN nq).frozen? _ = _ := hf6
          generalize w6.drewN nq = w7 at U0 U1 U2 U3 bu HC2 hz7 hf7 ⊢
          clear c0 c1 c2 f2 c3 hg hx hz6 hf6 Q0 Q1 Q2 Q3 db6 HC
          have c2 := fun o => U2.cell o
          have f2 := fun o => U2.frozen o
          have c3 := fun o => U3.cell o
          have hle : ¬ (1000000000000 : Int) < y := by omega
          have HF := Lib.hid (HF1.out (by omega))
          go_wp2
          go_roundw
          case rel =>
            have h := HC2.out
            exact ⟨n + 1, by omega, by go_num, HF.out, by rw [HV.out]; exact h.2.1, by rw [HV.out]; exact h.2.2.1, bu.setCell (p := b3.add n) (by rw [block_of_add]; have := hr4.out; omega) _, U0.far (p := b3.add n) (by rw [block_of_add]; have := hr4.out; omega) _, U1.far (p := b3.add n) (by rw [block_of_add]; have := hr4.out; omega) _, U2.far (p := b3.add n) (by rw [block_of_add]; have := hr4.out; omega) _, U3.far (p := b3.add n) (by rw [block_of_add]; have := hr3.out; omega) _⟩
          case measure => simp [intOf]; omega
        · have h1 : ¬ 0 < y := h1
          have p1 : max y 0 = 0 := by omega
          have p2 : max x 0 = x := by omega
          rw [p1, p2] at HMC
          clear p1 p2
          generalize hv : mcnt y x = v at *
          have HV := Lib.hid (HST2.out v rfl)
          obtain rfl : x = v := by rw [HMC.out, if_neg (by omega)]; try omega
          have gz : ((x) == 0) = false := by simp; omega
          have hbv : -1 ≤ (x) ∧ (x) ≤ 2000000000000 := by omega
          clear hv HST2 HMC
          go_wp2_with fail
          go_quiet (fail)
          have U0 := Q0.drewN nq
          have U1 := Q1.drewN nq
          have U2 := Q2.drewN nq
          have U3 := Q3.drewN nq
          have bu := Below.drewN db6 nq
          have HC2 := Lib.hid ((HC (x)).out.drewC2 nq)
          have hz7 : (w6.drewN nq).cell? _ = _ := hz6
          have hf7 : (w6.drewN nq).frozen? _ = _ := hf6
          generalize w6.drewN nq = w7 at U0 U1 U2 U3 bu HC2 hz7 hf7 ⊢
          clear c0 c1 c2 f2 c3 hg hx hz6 hf6 Q0 Q1 Q2 Q3 db6 HC
          have c2 := fun o => U2.cell o
          have f2 := fun o => U2.frozen o
          have c3 := fun o => U3.cell o
          have hle : ¬ (1000000000000 : Int) < x := by omega
          have HF := Lib.hid (HF1.out (by omega))
          go_wp2
          go_roundw
          case rel =>
            have h := HC2.out
            exact ⟨n + 1, by omega, by go_num, HF.out, by rw [HV.out]; exact h.2.1, by rw [HV.out]; exact h.2.2.1, bu.setCell (p := b3.add n) (by rw [block_of_add]; have := hr4.out; omega) _, U0.far (p := b3.add n) (by rw [block_of_add]; have := hr4.out; omega) _, U1.far (p := b3.add n) (by rw [block_of_add]; have := hr4.out; omega) _, U2.far (p := b3.add n) (by rw [block_of_add]; have := hr4.out; omega) _, U3.far (p := b3.add n) (by rw [block_of_add]; have := hr3.out; omega) _⟩
          case measure => simp [intOf]; omega
        · have h1 : ¬ 0 < y := h1
          have p1 : max y 0 = 0 := by omega
          have p2 : max x 0 = 0 := by omega
          rw [p1, p2] at HMC
          clear p1 p2
          generalize hv : mcnt y x = v at *
          have HV := Lib.hid (HST2.out v rfl)
          obtain rfl : v = -1 := by rw [HMC.out, if_pos (by omega)]
          clear hv HST2 HMC
          go_wp2_with fail
          go_quiet (fail)
          have U0 := Q0.drewN nq
          have U1 := Q1.drewN nq
          have U2 := Q2.drewN nq
          have U3 := Q3.drewN nq
          have bu := Below.drewN db6 nq
          have HC2 := Lib.hid ((HC (-1)).out.drewC2 nq)
          have hz7 : (w6.drewN nq).cell? _ = _ := hz6
          have hf7 : (w6.drewN nq).frozen? _ = _ := hf6
          generalize w6.drewN nq = w7 at U0 U1 U2 U3 bu HC2 hz7 hf7 ⊢
          clear c0 c1 c2 f2 c3 hg hx hz6 hf6 Q0 Q1 Q2 Q3 db6 HC
          have c2 := fun o => U2.cell o
          have f2 := fun o => U2.frozen o
          have c3 := fun o => U3.cell o
          have HF := Lib.hid (HF1.out (by omega))
          go_wp2
          go_roundw
          case rel =>
            have h := HC2.out
            exact ⟨n + 1, by omega, by go_num, HF.out, by rw [HV.out]; exact h.2.1, by rw [HV.out]; exact h.2.2.1, bu.setCell (p := b3.add n) (by rw [block_of_add]; have := hr4.out; omega) _, U0.far (p := b3.add n) (by rw [block_of_add]; have := hr4.out; omega) _, U1.far (p := b3.add n) (by rw [block_of_add]; have := hr4.out; omega) _, U2.far (p := b3.add n) (by rw [block_of_add]; have := hr4.out; omega) _, U3.far (p := b3.add n) (by rw [block_of_add]; have := hr3.out; omega) _⟩
          case measure => simp [intOf]; omega
    · obtain rfl : n = m3 := by omega
      have hfit := HFT.out
      have HMf := HM.out.1 (by rw [HV.out]; exact hfit)
      have HMg := Lib.hid HMf
      clear HMf hfit
      go_wp2
      refine bodyPost_ret (v := .tuple #[.agg #[.int .i64 l.size, .int .i64 l.wide, .int .i64 l.high, .slice k.counts.A k.counts.n k.counts.c, .slice k.depths.A k.depths.n k.depths.c], .int .i64 0]) (by simp [results, Try.results27, go_sem, c2]) rfl ?_
      rw [HMg.out.1, HMg.out.2, HV.out]
      have hh := gmTo_side l l' n
      refine ⟨k, by unfold DepthGridV; rw [hh.1, hh.2.1, hh.2.2.1], by have := HH.out; exact ⟨by omega, by omega⟩, ?_, ?_, sk, (by (repeat (first | (with_reducible assumption) | (with_reducible exact Below.refl _ _) | (with_reducible refine Below.drew ?_) | (with_reducible refine Below.drewN ?_ _) | (with_reducible refine Below.setCell ?_ ?_ _) | (with_reducible refine Below.alloc ?_ ?_ _) | assumption)); all_goals (first | omega | (simp; done) | (simp; omega)))⟩
      · repeat (refine RdAll.cell_ ?_ (hhi.ne (by omega)))
        exact rk
      · repeat (refine WrAll.cell_ ?_)
        exact wk.lower hb2.size
end Go.Proofs.Ythmcnoloeeabbaa
