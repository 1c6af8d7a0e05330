/- Grids: merging. spec.MergeGrids and impl.MergeGrids compute the same. Condition: lists of at most 1048576 elements. -/
import Derived.Test.YthmcnoloeeabbaaGriD
import Derived.Test.YthmcnoloeeabbaaReg
import Derived.Deep.RegionWith
namespace Go.Proofs.Ythmcnoloeeabbaa
open Go.RowKit

def RetGrid (l : DepthGridC) (code : Int) (w : World) (e : Ending) (w' : World) : Prop :=
  ∃ k, e = .returned (.tuple #[DepthGridV k l, .int .i64 code]) ∧ DepthGridOk k ∧ RdAll w' (DepthGridS k l) ∧ WrAll w' w.heap.size (DepthGridS k l) ∧ Sep (DepthGridR k) ∧ Below w.heap.size w w'
theorem retGrid_zero {w w' : World} {code : Int} (hb : Below w.heap.size w w') :
    RetGrid zeroGrid code w (.returned (.tuple #[.agg #[.int .i64 0, .int .i64 0, .int .i64 0, .slice none 0 0, .slice none 0 0], .int .i64 code])) w' :=
  ⟨⟨⟨none, 0, 0⟩, ⟨none, 0, 0⟩⟩, rfl, ⟨Nat.zero_le _, Nat.zero_le _⟩,
    RdAll.cons (s := ⟨none, 0, []⟩) (Rd.nil _ _) (RdAll.cons (s := ⟨none, 0, []⟩) (Rd.nil _ _) (RdAll.nil _)),
    WrAll.cons (s := ⟨none, 0, []⟩) (fun h => absurd h (by decide)) (WrAll.cons (s := ⟨none, 0, []⟩) (fun h => absurd h (by decide)) (WrAll.nil _ _)),
    Sep.step (B := 0) (fun b e => by simp [blkp] at e) (Hi.cons (fun b e => by simp [blkp] at e) (Hi.nil _)) (Sep.step (B := 0) (fun b e => by simp [blkp] at e) (Hi.nil _) Sep.nil), hb⟩
theorem GridS_c {w : World} {h : DepthGridH} {l : DepthGridC} (hr : RdAll w (DepthGridS h l)) : l.counts.length = h.counts.n := hr.head.len
theorem GridS_d {w : World} {h : DepthGridH} {l : DepthGridC} (hr : RdAll w (DepthGridS h l)) : l.depths.length = h.depths.n * 2 := hr.tail.head.len
set_option maxHeartbeats 400000 in
theorem merged_any (a b : Int) (w : World) (ha : -1 ≤ a) (ha1 : a ≤ 1000000000000) (hb : -1 ≤ b) (hb1 : b ≤ 1000000000000) (hza : a ≠ 0) (hzb : b ≠ 0) :
    Calls Try.prog 87 #[.int .i64 a, .int .i64 b] w fun e w' => e = .returned (.int .i64 (mcnt a b)) ∧ w = w' := by
  by_cases e1 : a = -1
  all_goals by_cases e2 : b = -1
  · subst e1 e2
    go_enter Try.func87, Try.ntmps87
    go_wp2
    go_ret
    exact ⟨ret_int (by decide), rfl⟩
  all_goals
    have HM : Hid (mcnt a b = max a 0 + max b 0) := by unfold Hid mcnt; rw [if_neg hzb, if_neg (by omega)]
    have M1 : 0 ≤ max a 0 + max b 0 ∧ max a 0 + max b 0 ≤ 2000000000000 := by omega
    first | (have g1 : (a == -1) = true := by simpa using e1) | (have g1 : (a == -1) = false := by simpa using e1)
    first | (have g2 : (b == -1) = true := by simpa using e2) | (have g2 : (b == -1) = false := by simpa using e2)
    by_cases h1 : a < 0
    all_goals by_cases h2 : b < 0
    all_goals try (exfalso; omega)
    all_goals
      first | (have p1 : max a 0 = 0 := by omega) | (have p1 : max a 0 = a := by omega)
      first | (have p2 : max b 0 = 0 := by omega) | (have p2 : max b 0 = b := by omega)
      rw [p1, p2] at HM M1
      clear p1 p2
      have HE := Lib.hid (And.intro e1 e2)
      clear e1 e2
      go_enter Try.func87, Try.ntmps87
      go_wp2
      go_ret
      exact ⟨ret_int (by rw [HM.out]; try omega), rfl⟩
theorem addD_congr {cs cs' ds : List Int} {i : Nat} (h : cs.getD i 0 = cs'.getD i 0) (a b : Int) : addD cs ds i a b = addD cs' ds i a b := by unfold addD; rw [h]
theorem GPost.drewC {B : Nat} {k : DepthGridH} {c : DepthGridC} {w W : World} {e : Ending} {p : Addr} {u : Value} (h : GPost B k c w e (W.setCell p u)) : GPost B k c w e (W.drew.setCell p u) := by
  obtain ⟨e1, e2, e3, e4⟩ := h
  exact ⟨e1, e2, e3, e4.os, e4.tape, e4.output, e4.size, e4.block⟩
theorem GPost.drewC2 {B : Nat} {k : DepthGridH} {c : DepthGridC} {w W : World} {e : Ending} {p : Addr} {u : Value} (h : GPost B k c w e (W.setCell p u)) (m : Nat) : GPost B k c w e ((W.drewN m).setCell p u) := by
  obtain ⟨e1, e2, e3, e4⟩ := h
  exact ⟨e1, e2, e3, e4.os, e4.tape, e4.output, e4.size, e4.block⟩
/-- one more cell -/
theorem gmTo_step {g h : DepthGridC} {n : Nat} (hn : h.counts.getD n 0 ≠ 0) (v : Int) (hv : v = mcnt (g.counts.getD n 0) (h.counts.getD n 0)) :
    gmTo g h (n + 1) = ⟨(gmTo g h n).size, (gmTo g h n).wide, (gmTo g h n).high, (gmTo g h n).counts.set n v, addD (gmTo g h n).counts (gmTo g h n).depths n (h.depths.getD (n * 2) 0) (h.depths.getD (n * 2 + 1) 0)⟩ := by
  rw [gmTo_succ, if_neg hn, hv, addD_congr (gmTo_at g h (i := n) n (Nat.le_refl _)).1]
theorem mcnt_fst {b : Int} (hb : b ≠ 0) (hb1 : -1 ≤ b) : mcnt 0 b = b := by unfold mcnt; rw [if_neg hb]; split <;> omega
set_option maxRecDepth 100000 in
set_option maxHeartbeats 4000000 in
theorem implMergeGrids'_any (h : DepthGridH) (l : DepthGridC) (h' : DepthGridH) (l' : DepthGridC) (w : World) (ok : DepthGridOk h) (hr : RdAll w (DepthGridS h l)) (ok' : DepthGridOk h') (hr' : RdAll w (DepthGridS h' l')) :
    Calls Try.prog 29 #[DepthGridV h l, DepthGridV h' l'] w (RetGrid (gmR l l') (gmC l l') w) := by
  unfold DepthGridV
  go_enter Try.func29, Try.ntmps29
  go_wp2_with fail
  refine (implIsDepthGrid_any h l _ ok (hr.below (by (repeat (first | (with_reducible assumption) | (with_reducible exact Below.refl _ _) | (with_reducible refine Below.drew ?_) | (with_reducible refine Below.drewN ?_ _) | (with_reducible refine Below.setCell ?_ ?_ _) | (with_reducible refine Below.alloc ?_ ?_ _) | assumption)); all_goals (first | omega | (simp; done) | (simp; omega))))).mono ?_
  rintro e w1 ⟨rfl, b1⟩
  have hb1 : Below w.heap.size w w1 := (show Below w.heap.size w _ from (by (repeat (first | (with_reducible assumption) | (with_reducible exact Below.refl _ _) | (with_reducible refine Below.drew ?_) | (with_reducible refine Below.drewN ?_ _) | (with_reducible refine Below.setCell ?_ ?_ _) | (with_reducible refine Below.alloc ?_ ?_ _) | assumption)); all_goals (first | omega | (simp; done) | (simp; omega)))).trans (b1.mono (by first | omega | (simp; done) | (simp; omega)))
  have z1 : w.heap.size + 2 < w1.heap.size := Nat.lt_of_lt_of_le (by first | omega | (simp; done) | (simp; omega)) b1.size
  have K0 : Blk w1 w.heap.size 50 #[.int .i64 l.size, .int .i64 l.wide, .int .i64 l.high, .slice h.counts.A h.counts.n h.counts.c, .slice h.depths.A h.depths.n h.depths.c] := Blk.below (by repeat (first | exact Blk.newN _ _ _ (by simp; done) | refine Blk.alloc ?_ _)) b1 (by first | omega | (simp; done) | (simp; omega))
  have K1 : Blk w1 (w.heap.size + 1) 50 #[.int .i64 l'.size, .int .i64 l'.wide, .int .i64 l'.high, .slice h'.counts.A h'.counts.n h'.counts.c, .slice h'.depths.A h'.depths.n h'.depths.c] := Blk.below (by repeat (first | exact Blk.newN _ _ _ (by simp; done) | refine Blk.alloc ?_ _)) b1 (by first | omega | (simp; done) | (simp; omega))
  have K2 : Blk w1 (w.heap.size + 1 + 1) 50 #[.int .i64 0, .int .i64 0, .int .i64 0, .slice none 0 0, .slice none 0 0] := Blk.below (by repeat (first | exact Blk.newN _ _ _ (by simp; done) | refine Blk.alloc ?_ _)) b1 (by first | omega | (simp; done) | (simp; omega))
  clear b1
  have c0 := fun o => K0.cell o
  have c1 := fun o => K1.cell o
  have c2 := fun o => K2.cell o
  have f2 := fun o => K2.frozen o
  rcases Bool.eq_false_or_eq_true (gridOk l) with o0 | o0
  case inr =>
    have HM : Hid (gmR l l' = zeroGrid ∧ gmC l l' = 1) := by unfold Hid gmR gmC; simp [o0]
    go_wp2
    refine bodyPost_ret (v := .tuple #[.agg #[.int .i64 0, .int .i64 0, .int .i64 0, .slice none 0 0, .slice none 0 0], .int .i64 1]) (by simp [results, Try.results29, go_sem, c2]) rfl ?_
    rw [HM.out.1, HM.out.2]
    exact retGrid_zero (by (repeat (first | (with_reducible assumption) | (with_reducible exact Below.refl _ _) | (with_reducible refine Below.drew ?_) | (with_reducible refine Below.drewN ?_ _) | (with_reducible refine Below.setCell ?_ ?_ _) | (with_reducible refine Below.alloc ?_ ?_ _) | assumption)); all_goals (first | omega | (simp; done) | (simp; omega)))
  go_wp2_with fail
  refine (implIsDepthGrid_any h' l' _ ok' (hr'.below (by (repeat (first | (with_reducible assumption) | (with_reducible exact Below.refl _ _) | (with_reducible refine Below.drew ?_) | (with_reducible refine Below.drewN ?_ _) | (with_reducible refine Below.setCell ?_ ?_ _) | (with_reducible refine Below.alloc ?_ ?_ _) | assumption)); all_goals (first | omega | (simp; done) | (simp; omega))))).mono ?_
  rintro e w2 ⟨rfl, b2⟩
  have hb2 : Below w.heap.size w w2 := hb1.trans (b2.mono (by first | omega | (simp; done) | (simp; omega)))
  have z2 : w.heap.size + 2 < w2.heap.size := Nat.lt_of_lt_of_le z1 b2.size
  have J0 := K0.below b2 K0.lt
  have J1 := K1.below b2 K1.lt
  have J2 := K2.below b2 K2.lt
  clear c0 c1 c2 f2 K0 K1 K2 b2
  have c0 := fun o => J0.cell o
  have c1 := fun o => J1.cell o
  have c2 := fun o => J2.cell o
  have f2 := fun o => J2.frozen o
  rcases Bool.eq_false_or_eq_true (gridOk l') with o1 | o1
  case inr =>
    have HM : Hid (gmR l l' = zeroGrid ∧ gmC l l' = 1) := by unfold Hid gmR gmC; simp [o1]
    go_wp2
    refine bodyPost_ret (v := .tuple #[.agg #[.int .i64 0, .int .i64 0, .int .i64 0, .slice none 0 0, .slice none 0 0], .int .i64 1]) (by simp [results, Try.results29, go_sem, c2]) rfl ?_
    rw [HM.out.1, HM.out.2]
    exact retGrid_zero (by (repeat (first | (with_reducible assumption) | (with_reducible exact Below.refl _ _) | (with_reducible refine Below.drew ?_) | (with_reducible refine Below.drewN ?_ _) | (with_reducible refine Below.setCell ?_ ?_ _) | (with_reducible refine Below.alloc ?_ ?_ _) | assumption)); all_goals (first | omega | (simp; done) | (simp; omega)))
  have HM5 : Hid (¬ gmSame l l' → gmR l l' = zeroGrid ∧ gmC l l' = 5) := by
    intro hn
    have h5 : gmC l l' = 5 := by unfold gmC; rw [if_pos ⟨o0, o1⟩, if_neg hn]
    exact ⟨by unfold gmR; rw [h5, if_neg (by decide)], h5⟩
  have HM0 : Hid (gmSame l l' → (gmFit l l' l'.counts.length = true → gmR l l' = gmTo l l' l'.counts.length ∧ gmC l l' = 0) ∧ (gmFit l l' l'.counts.length = false → gmR l l' = zeroGrid ∧ gmC l l' = 3)) := by
    intro hn
    refine ⟨fun hf => ?_, fun hf => ?_⟩
    · have h5 : gmC l l' = 0 := by unfold gmC; rw [if_pos ⟨o0, o1⟩, if_pos hn, if_pos hf]
      exact ⟨by unfold gmR; rw [h5, if_pos rfl], h5⟩
    · have h5 : gmC l l' = 3 := by unfold gmC; rw [if_pos ⟨o0, o1⟩, if_pos hn, if_neg (by rw [hf]; decide)]
      exact ⟨by unfold gmR; rw [h5, if_neg (by decide)], h5⟩
  have M0 := Lib.hid (GOk.of o0)
  have M1 := Lib.hid (GOk.of o1)
  by_cases e_size : l.size = l'.size
  case neg =>
    have q1 : (l.size == l'.size) = false := by simpa using e_size
    have q2 : (l.size != l'.size) = true := by simpa using e_size
    have HE := Lib.hid e_size
    clear e_size
    go_wp2
    refine bodyPost_ret (v := .tuple #[.agg #[.int .i64 0, .int .i64 0, .int .i64 0, .slice none 0 0, .slice none 0 0], .int .i64 5]) (by simp [results, Try.results29, go_sem, c2]) rfl ?_
    rw [(HM5.out (fun c => HE.out c.1)).1, (HM5.out (fun c => HE.out c.1)).2]
    exact retGrid_zero (by (repeat (first | (with_reducible assumption) | (with_reducible exact Below.refl _ _) | (with_reducible refine Below.drew ?_) | (with_reducible refine Below.drewN ?_ _) | (with_reducible refine Below.setCell ?_ ?_ _) | (with_reducible refine Below.alloc ?_ ?_ _) | assumption)); all_goals (first | omega | (simp; done) | (simp; omega)))
  by_cases e_wide : l.wide = l'.wide
  case neg =>
    have q_size : (l.size == l'.size) = true := by simpa using e_size
    have r_size : (l.size != l'.size) = false := by simpa using e_size
    have q1 : (l.wide == l'.wide) = false := by simpa using e_wide
    have q2 : (l.wide != l'.wide) = true := by simpa using e_wide
    have HE := Lib.hid e_wide
    clear e_wide e_size
    go_wp2
    refine bodyPost_ret (v := .tuple #[.agg #[.int .i64 0, .int .i64 0, .int .i64 0, .slice none 0 0, .slice none 0 0], .int .i64 5]) (by simp [results, Try.results29, go_sem, c2]) rfl ?_
    rw [(HM5.out (fun c => HE.out c.2.1)).1, (HM5.out (fun c => HE.out c.2.1)).2]
    exact retGrid_zero (by (repeat (first | (with_reducible assumption) | (with_reducible exact Below.refl _ _) | (with_reducible refine Below.drew ?_) | (with_reducible refine Below.drewN ?_ _) | (with_reducible refine Below.setCell ?_ ?_ _) | (with_reducible refine Below.alloc ?_ ?_ _) | assumption)); all_goals (first | omega | (simp; done) | (simp; omega)))
  by_cases e_high : l.high = l'.high
  case neg =>
    have q_size : (l.size == l'.size) = true := by simpa using e_size
    have r_size : (l.size != l'.size) = false := by simpa using e_size
    have q_wide : (l.wide == l'.wide) = true := by simpa using e_wide
    have r_wide : (l.wide != l'.wide) = false := by simpa using e_wide
    have q1 : (l.high == l'.high) = false := by simpa using e_high
    have q2 : (l.high != l'.high) = true := by simpa using e_high
    have HE := Lib.hid e_high
    clear e_high e_size e_wide
    go_wp2
    refine bodyPost_ret (v := .tuple #[.agg #[.int .i64 0, .int .i64 0, .int .i64 0, .slice none 0 0, .slice none 0 0], .int .i64 5]) (by simp [results, Try.results29, go_sem, c2]) rfl ?_
    rw [(HM5.out (fun c => HE.out c.2.2)).1, (HM5.out (fun c => HE.out c.2.2)).2]
    exact retGrid_zero (by (repeat (first | (with_reducible assumption) | (with_reducible exact Below.refl _ _) | (with_reducible refine Below.drew ?_) | (with_reducible refine Below.drewN ?_ _) | (with_reducible refine Below.setCell ?_ ?_ _) | (with_reducible refine Below.alloc ?_ ?_ _) | assumption)); all_goals (first | omega | (simp; done) | (simp; omega)))
  have q_size : (l.size == l'.size) = true := by simpa using e_size
  have r_size : (l.size != l'.size) = false := by simpa using e_size
  have q_wide : (l.wide == l'.wide) = true := by simpa using e_wide
  have r_wide : (l.wide != l'.wide) = false := by simpa using e_wide
  have q_high : (l.high == l'.high) = true := by simpa using e_high
  have r_high : (l.high != l'.high) = false := by simpa using e_high
  have HM := Lib.hid (HM0.out ⟨e_size, e_wide, e_high⟩)
  have hwide := Lib.hid e_wide
  have hhigh := Lib.hid e_high
  clear HM5 HM0 e_size e_wide e_high
  go_wp2_with fail
  refine (gridClone_any h l _ ok (hr.below (by (repeat (first | (with_reducible assumption) | (with_reducible exact Below.refl _ _) | (with_reducible refine Below.drew ?_) | (with_reducible refine Below.drewN ?_ _) | (with_reducible refine Below.setCell ?_ ?_ _) | (with_reducible refine Below.alloc ?_ ?_ _) | assumption)); all_goals (first | omega | (simp; done) | (simp; omega))))).mono ?_
  rintro e w3 ⟨k, he, ow, b3⟩
  unfold DepthGridV at he
  subst he
  clear q_size r_size q_wide r_wide q_high r_high o0 o1
  have hb3 : Below w.heap.size w w3 := hb2.trans (b3.mono (by first | omega | (simp; done) | (simp; omega)))
  have z3 : w.heap.size + 2 < w3.heap.size := Nat.lt_of_lt_of_le z2 b3.size
  have I1 := J1.below b3 J1.lt
  have I2 := J2.below b3 J2.lt
  clear c0 c1 c2 f2 J0 J1 J2 b3
  have rk := ow.rd
  have wk := ow.wr
  have sk := ow.sp
  clear ow
  have c1 := fun o => I1.cell o
  have y1 : w.heap.size + 1 < w3.heap.size := by omega
  have y2 : w.heap.size + 1 + 1 < w3.heap.size := by omega
  have c2 := fun o => I2.cell o
  have f2 := fun o => I2.frozen o
  have hlen0 := GridS_c rk
  have hlen1 := GridS_d rk
  have hlen2 := GridS_c hr'
  have hlen3 := GridS_d hr'
  have hn : Hid (k.depths.n = k.counts.n ∧ k.counts.n = h'.counts.n ∧ h'.depths.n = h'.counts.n ∧ h'.counts.n ≤ 900 ∧ h.counts.n = h'.counts.n) := by
    have m0 := M0.out; have m1 := M1.out
    have a := m0.eq; have b := m0.len; have c := m1.eq; have d := m1.len; have e := m1.bd.1
    rw [hwide.out, hhigh.out] at b
    have f := GridS_c hr
    exact ⟨by omega, by omega, by omega, by omega, by omega⟩
  have hlo : Lo (DepthGridR k) w3.heap.size := rk.lo
  have hhi : Hi (DepthGridR k) w2.heap.size := wk.hi
  have HV := Lib.hid hlen2
  have hlk := Lib.hid hlen0
  clear hlen0 hlen1 hlen2 hlen3
  obtain ⟨⟨A2, m2, d2⟩, ⟨A3, m3, d3⟩⟩ := h'
  simp only at hn c1 I1
  go_wp2_with fail
  have rk4 := rk.below ((Below.refl w3.heap.size w3).alloc (Nat.le_refl _) (.cells #[.int .i64 l.size, .int .i64 l.wide, .int .i64 l.high, .slice k.counts.A k.counts.n k.counts.c, .slice k.depths.A k.depths.n k.depths.c] 50))
  have wk4 := wk.below rk ((Below.refl w3.heap.size w3).alloc (Nat.le_refl _) (.cells #[.int .i64 l.size, .int .i64 l.wide, .int .i64 l.high, .slice k.counts.A k.counts.n k.counts.c, .slice k.depths.A k.depths.n k.depths.c] 50))
  have P1 := I1.alloc (.cells #[.int .i64 l.size, .int .i64 l.wide, .int .i64 l.high, .slice k.counts.A k.counts.n k.counts.c, .slice k.depths.A k.depths.n k.depths.c] 50)
  have P2 := I2.alloc (.cells #[.int .i64 l.size, .int .i64 l.wide, .int .i64 l.high, .slice k.counts.A k.counts.n k.counts.c, .slice k.depths.A k.depths.n k.depths.c] 50)
  have P3 := Blk.new w3 50 #[.int .i64 l.size, .int .i64 l.wide, .int .i64 l.high, .slice k.counts.A k.counts.n k.counts.c, .slice k.depths.A k.depths.n k.depths.c]
  have hb4 : Below w.heap.size w (w3.alloc (.cells #[.int .i64 l.size, .int .i64 l.wide, .int .i64 l.high, .slice k.counts.A k.counts.n k.counts.c, .slice k.depths.A k.depths.n k.depths.c] 50)) := (by (repeat (first | (with_reducible assumption) | (with_reducible exact Below.refl _ _) | (with_reducible refine Below.drew ?_) | (with_reducible refine Below.drewN ?_ _) | (with_reducible refine Below.setCell ?_ ?_ _) | (with_reducible refine Below.alloc ?_ ?_ _) | assumption)); all_goals (first | omega | (simp; done) | (simp; omega)))
  generalize w3.alloc (.cells #[.int .i64 l.size, .int .i64 l.wide, .int .i64 l.high, .slice k.counts.A k.counts.n k.counts.c, .slice k.depths.A k.depths.n k.depths.c] 50) = w4 at rk4 wk4 P1 P2 P3 hb4 ⊢
  clear c1 c2 f2 I1 I2 rk wk hb3
  go_loopw [46] (fun i wr => ∃ n : Nat, n ≤ m2 ∧ i = .int .i64 n ∧ gmFit l l' n = true ∧ RdAll wr (DepthGridS k (gmTo l l' n)) ∧ WrAll wr w2.heap.size (DepthGridS k (gmTo l l' n)) ∧ Below w.heap.size w wr ∧
      Blk wr (w.heap.size + 1) 50 #[.int .i64 l'.size, .int .i64 l'.wide, .int .i64 l'.high, .slice A2 m2 d2, .slice A3 m3 d3] ∧ Blk wr (w.heap.size + 1 + 1) 50 #[.int .i64 0, .int .i64 0, .int .i64 0, .slice none 0 0, .slice none 0 0] ∧
      Blk wr w3.heap.size 50 #[.int .i64 l.size, .int .i64 l.wide, .int .i64 l.high, .slice k.counts.A k.counts.n k.counts.c, .slice k.depths.A k.depths.n k.depths.c]) (fun i _ => m2 - (intOf i).toNat)
  case atStart => exact ⟨0, Nat.zero_le _, rfl, rfl, rk4, wk4, hb4, P1, P2, P3⟩
  case round =>
    clear rk4 wk4 hb4 P1 P2 P3
    obtain ⟨n, hnm, rfl, hfit, rk, wk, hbel, P1, P2, P3⟩ := hrel
    have HFT := Lib.hid hfit
    clear hfit
    have c1 := fun o => P1.cell o
    have c2 := fun o => P2.cell o
    have f2 := fun o => P2.frozen o
    have c3 := fun o => P3.cell o
    have hnn := hn.out
    have hm := hnn.2.2.2.1
    obtain rfl : m3 = m2 := hnn.2.2.1
    have HH := Lib.hid hnn
    clear hnn
    by_cases hlt : n < m3
    · have hbc := gcellB_bd (M1.out.at_ (k := n) (by rw [HV.out]; exact hlt))
      have hba := gcellB_bd (M0.out.at_ (k := n) (by have := hlk.out; have := HH.out; omega))
      have HST := fun (hne : l'.counts.getD n 0 ≠ 0) v hv => gmTo_step (g := l) (h := l') (n := n) hne v hv
      have HSZ : l'.counts.getD n 0 = 0 → gmTo l l' (n + 1) = gmTo l l' n := fun h0 => by rw [gmTo_succ, if_pos h0]
      have HF1 : Hid (mcnt (l.counts.getD n 0) (l'.counts.getD n 0) ≤ 1000000000000 → gmFit l l' (n + 1) = true) := fun h => by rw [gmFit_succ, HFT.out, decide_eq_true h]; rfl
      have HF2 : Hid (¬ mcnt (l.counts.getD n 0) (l'.counts.getD n 0) ≤ 1000000000000 → gmFit l l' l'.counts.length = false) := fun h => gmFit_false (by rw [HV.out]; exact hlt) h
      have HAT := gmTo_at l l' (i := n) n (Nat.le_refl _)
      obtain ⟨a2, rfl, hx⟩ := (hr'.head.below hbel).int hlt
      obtain ⟨a3, rfl, hy0, hy1⟩ := (hr'.tail.head.below hbel).two hlt
      have hi0 : (0 : Int) ≤ (n : Int) := by omega
      have hi1 : (n : Int) < (m3 : Int) := by omega
      obtain ⟨⟨A4, n4, e4⟩, ⟨A5, n5, e5⟩⟩ := k
      have hhd := HH.out
      simp only at hhd rk wk P3 c3 hhi hlo sk
      obtain rfl : n5 = n4 := hhd.1
      have hk3 : n < n5 := by omega
      have rk0 : Rd wr A4 n5 (ints (gmTo l l' n).counts) := rk.head
      have rk1 : Rd wr A5 (n5 * 2) (ints (gmTo l l' n).depths) := rk.tail.head
      obtain ⟨b3, rfl, hz⟩ := rk0.int hk3
      obtain ⟨b4, rfl, -, -⟩ := rk1.two hk3
      have hbb : blkp (some b3) n5 = some b3.block := by unfold blkp; rw [if_neg (by omega)]; rfl
      have hbd : blkp (some b4) (n5 * 2) = some b4.block := by unfold blkp; rw [if_neg (by omega)]; rfl
      have hb3hi : b3.block < w3.heap.size := hlo _ (List.mem_cons_self ..) _ hbb
      have hb3lo : w2.heap.size ≤ b3.block := hhi _ (List.mem_cons_self ..) _ hbb
      have hne : b4.block ≠ b3.block := fun c => sk.off _ (List.mem_cons_self ..) _ (List.mem_cons_self ..) b3.block hbb (by rw [← c]; exact hbd)
      have HP := fun a b => implAdd_any w2.heap.size ⟨⟨some b3, n5, e4⟩, ⟨some b4, n5, e5⟩⟩ ⟨l.size, l.wide, l.high, (gmTo l l' n).counts, (gmTo l l' n).depths⟩ n a b 0 wr.drew ⟨show n5 ≤ 1048576 by omega, show n5 ≤ 1048576 by omega⟩ rfl hk3 rk wk sk (by simp only [HAT.1]; exact hba.1) (by simp only [HAT.1]; have := hba.2.1; omega) (by decide) (by decide)
      simp only [DepthGridV, addG, HAT.1, Int.add_zero] at HP
      rw [HAT.1] at hz
      have kC1 : ∀ (W : World) (u : Value) (o : Nat), (W.setCell (b3.add n) u).cell? ⟨w.heap.size + 1, o, none⟩ = W.cell? ⟨w.heap.size + 1, o, none⟩ := fun W u o => far_set (by rw [block_of_add]; simp only; omega)
      have kC2 : ∀ (W : World) (u : Value) (o : Nat), (W.setCell (b3.add n) u).cell? ⟨w.heap.size + 1 + 1, o, none⟩ = W.cell? ⟨w.heap.size + 1 + 1, o, none⟩ := fun W u o => far_set (by rw [block_of_add]; simp only; omega)
      have kC3 : ∀ (W : World) (u : Value) (o : Nat), (W.setCell (b3.add n) u).cell? ⟨w3.heap.size, o, none⟩ = W.cell? ⟨w3.heap.size, o, none⟩ := fun W u o => far_set (by rw [block_of_add]; simp only; omega)
      have hlen : (gmTo l l' n).counts.length = n5 := rk0.len
      have hr3 := Lib.hid hb3hi
      have hr4 := Lib.hid hb3lo
      clear rk0 rk1 hb3hi hb3lo HAT hbd hhd
      generalize hx' : l'.counts.getD n 0 = x at *
      generalize hy' : l.counts.getD n 0 = y at *
      generalize l'.depths.getD (n * 2) 0 = p at *
      generalize l'.depths.getD (n * 2 + 1) 0 = q at *
      clear hx' hy'
      by_cases hx0 : x = 0
      case pos =>
        have HS0 := Lib.hid (HSZ hx0)
        have HM1 : Hid (mcnt y x ≤ 1000000000000) := by unfold Hid mcnt; rw [if_pos hx0]; omega
        have g1 : (x == 0) = true := by simpa using hx0
        clear HSZ HST hx0
        go_wp2
        go_roundw
        case rel => exact ⟨n + 1, by omega, by go_num, HF1.out HM1.out, by rw [HS0.out]; exact rk, by rw [HS0.out]; exact wk, hbel, P1, P2, P3⟩
        case measure => simp [intOf]; omega
      case neg =>
        have g1 : (x == 0) = false := by simpa using hx0
        have HXN := Lib.hid hx0
        have HST2 := Lib.hid (HST hx0)
        have HZY : Hid (y = 0 → mcnt y x = x) := fun h => by rw [h]; exact mcnt_fst hx0 hbc.1
        clear HSZ HST hx0
        go_wp2_with fail
        go_still_tail 7, (by kernel_rfl)
        have D1 : Blk wr.drew _ _ _ := P1
        have D2 : Blk wr.drew _ _ _ := P2
        have D3 : Blk wr.drew _ _ _ := P3
        have db := Below.drew hbel
        change wpList _ _ _ _ _ wr.drew
        generalize wr.drew = w5 at HP D1 D2 D3 db ⊢
        clear c1 c2 f2 c3 P1 P2 P3 hbel rk wk hz hx hy0 hy1
        go_wp2_with fail
        with_reducible refine (HP _ _).mono ?_
        rintro e w6 ⟨rfl, rk6, wk6, t6⟩
        have Q1 := D1.touch t6 (hhi.ne (by omega))
        have Q2 := D2.touch t6 (hhi.ne (by omega))
        have Q3 := D3.touch t6 (hlo.ne (by omega))
        have db6 := bstepT db t6 (Nat.le_refl _) (hhi.mono hb2.size)
        have c1 := fun o => Q1.cell o
        have c2 := fun o => Q2.cell o
        have f2 := fun o => Q2.frozen o
        have c3 := fun o => Q3.cell o
        have rk60 : Rd w6 (some b3) n5 (ints ((gmTo l l' n).counts.set n y)) := rk6.head
        have rk61 : Rd w6 (some b4) (n5 * 2) (ints (addD (gmTo l l' n).counts (gmTo l l' n).depths n p q)) := rk6.tail.head
        have wk60 : Wr w6 w2.heap.size (some b3) n5 := wk6.head
        have wk61 : Wr w6 w2.heap.size (some b4) (n5 * 2) := wk6.tail.head
        obtain ⟨_, ⟨⟩, hz6⟩ := rk60.int hk3
        rw [getD_at (by rw [List.length_set, hlen]; exact hk3), List.getElem_set_self] at hz6
        obtain ⟨_, ⟨⟩, _, hfz⟩ := wk60 (by omega)
        have hf6 := hfz n hk3
        have T6 : Touch w5 w6 [blkp (some b3) n5, blkp (some b4) (n5 * 2)] := t6
        have HC := fun v => Lib.hid (gputC (B := w2.heap.size) (c3 := e4) (c4 := e5) (x0 := l.size) (x1 := l.wide) (x2 := l.high) (v := v) hk3 rk60 rk61 wk60 wk61 T6 hne)
        clear hfz rk6 wk6 t6 D1 D2 D3 db HP rk60 rk61 wk60 wk61 T6
        simp only [List.set_set] at HC
        by_cases hy : y = 0
        · have HV1 := Lib.hid (HZY.out hy)
          have HV2 := Lib.hid (HST2.out x HV1.out.symm)
          have g2 : (y == 0) = true := by simpa using hy
          have g3 : (y != 0) = false := by simpa using hy
          have hle : ¬ (1000000000000 : Int) < x := by have := hbc.2.1; omega
          have HF := Lib.hid (HF1.out (by rw [HV1.out]; exact hbc.2.1))
          clear hy
          go_wp2
          go_roundw
          case rel =>
            have h := (HC x).out
            exact ⟨n + 1, by omega, by go_num, HF.out, by rw [HV2.out]; exact h.2.1, by rw [HV2.out]; exact h.2.2.1, db6.setCell (by rw [block_of_add]; have := hr4.out; have := hb2.size; omega) _, Q1.far (by rw [block_of_add]; have := hr4.out; omega) _, Q2.far (by rw [block_of_add]; have := hr4.out; omega) _, Q3.far (by rw [block_of_add]; have := hr3.out; omega) _⟩
          case measure => simp [intOf]; omega
        · have g2 : (y == 0) = false := by simpa using hy
          have g3 : (y != 0) = true := by simpa using hy
          have hmr := fun W => merged_any y x W hba.1 hba.2.1 hbc.1 hbc.2.1 hy HXN.out
          have HYN := Lib.hid hy
          clear hy
          generalize hv : mcnt y x = v at *
          have HV2 := Lib.hid (HST2.out v rfl)
          clear hv
          go_upto_region 14 with fail
          obtain ⟨-, rk7, wk7, T7⟩ := (HC x).out
          have bq : Below w.heap.size w (w6.setCell (b3.add n) (.int .i64 x)) := db6.setCell (by rw [block_of_add]; have := hr4.out; have := hb2.size; omega) _
          have S1 : Blk (w6.setCell (b3.add n) (.int .i64 x)) _ _ _ := Q1.far (by rw [block_of_add]; have := hr4.out; omega) _
          have S2 : Blk (w6.setCell (b3.add n) (.int .i64 x)) _ _ _ := Q2.far (by rw [block_of_add]; have := hr4.out; omega) _
          have S3 : Blk (w6.setCell (b3.add n) (.int .i64 x)) _ _ _ := Q3.far (by rw [block_of_add]; have := hr3.out; omega) _
          generalize w6.setCell (b3.add n) (.int .i64 x) = w7 at rk7 wk7 T7 bq S1 S2 S3 ⊢
          clear c1 c2 f2 c3 Q1 Q2 Q3 HC hz6 hf6 db6
          have rk70 : Rd w7 (some b3) n5 (ints ((gmTo l l' n).counts.set n x)) := rk7.head
          have rk71 : Rd w7 (some b4) (n5 * 2) (ints (addD (gmTo l l' n).counts (gmTo l l' n).depths n p q)) := rk7.tail.head
          have wk70 : Wr w7 w2.heap.size (some b3) n5 := wk7.head
          have wk71 : Wr w7 w2.heap.size (some b4) (n5 * 2) := wk7.tail.head
          have HC := Lib.hid (gputC (B := w2.heap.size) (c3 := e4) (c4 := e5) (x0 := l.size) (x1 := l.wide) (x2 := l.high) (v := v) hk3 rk70 rk71 wk70 wk71 T7 hne)
          obtain ⟨_, ⟨⟩, hz7⟩ := rk70.int hk3
          obtain ⟨_, ⟨⟩, _, hfz⟩ := wk70 (by omega)
          have hf7 := hfz n hk3
          clear hfz rk7 wk7 rk70 rk71 wk70 wk71 T7
          rw [List.set_set] at HC
          have c1 := fun o => S1.cell o
          have c2 := fun o => S2.cell o
          have f2 := fun o => S2.frozen o
          have c3 := fun o => S3.cell o
          go_wp2_with fail
          go_still_tail 7, (by kernel_rfl)
          still_call ((hmr _).mono fun _ _ h => ⟨h.1, h.2.symm⟩)
          repeat still_step
          refine wpStill_nil ?_
          have HC2 := Lib.hid HC.out.drewC
          have U1 : Blk w7.drew _ _ _ := S1
          have U2 : Blk w7.drew _ _ _ := S2
          have U3 : Blk w7.drew _ _ _ := S3
          have bu := Below.drew bq
          have hz8 : w7.drew.cell? _ = _ := hz7
          have hf8 : w7.drew.frozen? _ = _ := hf7
          change wpList _ _ _ _ _ w7.drew
          generalize w7.drew = w8 at HC2 U1 U2 U3 bu hz8 hf8 ⊢
          clear c1 c2 f2 c3 S1 S2 S3 hz7 hf7 bq HC
          have c1 := fun o => U1.cell o
          have c2 := fun o => U2.cell o
          have f2 := fun o => U2.frozen o
          have c3 := fun o => U3.cell o
          by_cases hle : (1000000000000 : Int) < v
          · have HMf := HM.out.2 (HF2.out (by omega))
            have HMg := Lib.hid HMf
            clear HMf
            go_wp2
            refine bodyPost_ret (v := .tuple #[.agg #[.int .i64 0, .int .i64 0, .int .i64 0, .slice none 0 0, .slice none 0 0], .int .i64 3]) (by simp [results, Try.results29, go_sem, c2, kC2]) rfl ?_
            rw [HMg.out.1, HMg.out.2]
            exact retGrid_zero (by repeat (first | (with_reducible assumption) | refine Below.setCell ?_ (by first | (rw [block_of_add]; have := hr4.out; have := hb2.size; omega) | (simp only; omega)) _))
          · have HF := Lib.hid (HF1.out (by omega))
            go_wp2
            go_roundw
            case rel =>
              have h := HC2.out
              exact ⟨n + 1, by omega, by go_num, HF.out, by rw [HV2.out]; exact h.2.1, by rw [HV2.out]; exact h.2.2.1, bu.setCell (p := b3.add n) (by rw [block_of_add]; have := hr4.out; have := hb2.size; omega) _, U1.far (p := b3.add n) (by rw [block_of_add]; have := hr4.out; omega) _, U2.far (p := b3.add n) (by rw [block_of_add]; have := hr4.out; omega) _, U3.far (p := b3.add n) (by rw [block_of_add]; have := hr3.out; omega) _⟩
            case measure => simp [intOf]; omega
    · obtain rfl : n = m3 := by omega
      have hfit := HFT.out
      have HMf := HM.out.1 (by rw [HV.out]; exact hfit)
      have HMg := Lib.hid HMf
      clear HMf hfit
      go_wp2
      refine bodyPost_ret (v := .tuple #[.agg #[.int .i64 l.size, .int .i64 l.wide, .int .i64 l.high, .slice k.counts.A k.counts.n k.counts.c, .slice k.depths.A k.depths.n k.depths.c], .int .i64 0]) (by simp [results, Try.results29, go_sem, c2]) rfl ?_
      rw [HMg.out.1, HMg.out.2, HV.out]
      have hh := gmTo_side l l' n
      refine ⟨k, by unfold DepthGridV; rw [hh.1, hh.2.1, hh.2.2.1], by have := HH.out; exact ⟨by omega, by omega⟩, ?_, ?_, sk, (by (repeat (first | (with_reducible assumption) | (with_reducible exact Below.refl _ _) | (with_reducible refine Below.drew ?_) | (with_reducible refine Below.drewN ?_ _) | (with_reducible refine Below.setCell ?_ ?_ _) | (with_reducible refine Below.alloc ?_ ?_ _) | assumption)); all_goals (first | omega | (simp; done) | (simp; omega)))⟩
      · repeat (refine RdAll.cell_ ?_ (hhi.ne (by omega)))
        exact rk
      · repeat (refine WrAll.cell_ ?_)
        exact wk.lower hb2.size
end Go.Proofs.Ythmcnoloeeabbaa
