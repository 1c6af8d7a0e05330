/- Mosaics: merging. spec.MergeMosaics and impl.MergeMosaics compute the same. Condition: lists of at most 1048576 numbers. -/
import Derived.Test.YtilieonalmihaaaDoorMosC
import Derived.Test.YtilieonalmihaaaDoorReg
import Derived.StillTailTactics
import Derived.Outline
import Derived.Deep.DeepCutAuto
namespace Go.Proofs.YtilieonalmihaaaDoor
open Go.RowKit

def RetMosaic (l : MosaicC) (code : Int) (w : World) (e : Ending) (w' : World) : Prop :=
  ∃ k, e = .returned (.tuple #[MosaicV k l, .int .i64 code]) ∧ MosaicOk k ∧ RdAll w' (MosaicS k l) ∧ WrAll w' w.heap.size (MosaicS k l) ∧ Sep (MosaicR k) ∧ Below w.heap.size w w'
theorem retMosaic_zero {w w' : World} {code : Int} (hb : Below w.heap.size w w') :
    RetMosaic zeroMosaic code w (.returned (.tuple #[.agg #[.int .i64 0, .int .i64 0, .slice none 0 0, .slice none 0 0], .int .i64 code])) w' :=
  ⟨⟨⟨none, 0, 0⟩, ⟨none, 0, 0⟩⟩, rfl, ⟨Nat.zero_le _, Nat.zero_le _⟩,
    RdAll.cons (s := ⟨none, 0, []⟩) (Rd.nil _ _) (RdAll.cons (s := ⟨none, 0, []⟩) (Rd.nil _ _) (RdAll.nil _)),
    WrAll.cons (s := ⟨none, 0, []⟩) (fun h => absurd h (by decide)) (WrAll.cons (s := ⟨none, 0, []⟩) (fun h => absurd h (by decide)) (WrAll.nil _ _)),
    Sep.step (B := 0) (fun b e => by simp [blkp] at e) (Hi.cons (fun b e => by simp [blkp] at e) (Hi.nil _)) (Sep.step (B := 0) (fun b e => by simp [blkp] at e) (Hi.nil _) Sep.nil), hb⟩
theorem MosaicS_v {w : World} {h : MosaicH} {l : MosaicC} (hr : RdAll w (MosaicS h l)) : l.values.length = h.values.n := hr.head.len
theorem MosaicS_g {w : World} {h : MosaicH} {l : MosaicC} (hr : RdAll w (MosaicS h l)) : l.grades.length = h.grades.n := hr.tail.head.len
theorem mergeTo_wh (m k : MosaicC) (n : Nat) : (mergeTo m k n).wide = m.wide ∧ (mergeTo m k n).high = m.high := by
  induction n with
  | zero => exact ⟨rfl, rfl⟩
  | succ n ih => rw [mergeTo_succ]; split <;> exact ih

set_option maxRecDepth 100000 in
set_option maxHeartbeats 4000000 in
theorem implMergeMosaics'_any (h : MosaicH) (l : MosaicC) (h' : MosaicH) (l' : MosaicC) (w : World) (ok : MosaicOk h) (hr : RdAll w (MosaicS h l)) (ok' : MosaicOk h') (hr' : RdAll w (MosaicS h' l')) :
    Calls Tryd.prog 6 #[MosaicV h l, MosaicV h' l'] w (RetMosaic (mergeMR l l') (mergeMC l l') w) := by
  unfold MosaicV
  go_enter Tryd.func6, Tryd.ntmps6
  go_wp2_with fail
  refine (implIsMosaic_any h l _ ok (hr.below (by (repeat (first | (with_reducible assumption) | (with_reducible exact Below.refl _ _) | (with_reducible refine Below.drew ?_) | (with_reducible refine Below.drewN ?_ _) | (with_reducible refine Below.setCell ?_ ?_ _) | (with_reducible refine Below.alloc ?_ ?_ _) | assumption)); all_goals (first | omega | (simp; done) | (simp; omega))))).mono ?_
  rintro e w1 ⟨rfl, b1⟩
  have hb1 : Below w.heap.size w w1 := (show Below w.heap.size w _ from (by (repeat (first | (with_reducible assumption) | (with_reducible exact Below.refl _ _) | (with_reducible refine Below.drew ?_) | (with_reducible refine Below.drewN ?_ _) | (with_reducible refine Below.setCell ?_ ?_ _) | (with_reducible refine Below.alloc ?_ ?_ _) | assumption)); all_goals (first | omega | (simp; done) | (simp; omega)))).trans (b1.mono (by first | omega | (simp; done) | (simp; omega)))
  have z1 : w.heap.size + 2 < w1.heap.size := Nat.lt_of_lt_of_le (by first | omega | (simp; done) | (simp; omega)) b1.size
  have K0 : Blk w1 w.heap.size 26 #[.int .i64 l.wide, .int .i64 l.high, .slice h.values.A h.values.n h.values.c, .slice h.grades.A h.grades.n h.grades.c] := Blk.below (by repeat (first | exact Blk.newN _ _ _ (by simp; done) | refine Blk.alloc ?_ _)) b1 (by first | omega | (simp; done) | (simp; omega))
  have K1 : Blk w1 (w.heap.size + 1) 26 #[.int .i64 l'.wide, .int .i64 l'.high, .slice h'.values.A h'.values.n h'.values.c, .slice h'.grades.A h'.grades.n h'.grades.c] := Blk.below (by repeat (first | exact Blk.newN _ _ _ (by simp; done) | refine Blk.alloc ?_ _)) b1 (by first | omega | (simp; done) | (simp; omega))
  have K2 : Blk w1 (w.heap.size + 1 + 1) 26 #[.int .i64 0, .int .i64 0, .slice none 0 0, .slice none 0 0] := Blk.below (by repeat (first | exact Blk.newN _ _ _ (by simp; done) | refine Blk.alloc ?_ _)) b1 (by first | omega | (simp; done) | (simp; omega))
  clear b1
  have c0 := fun o => K0.cell o
  have c1 := fun o => K1.cell o
  have c2 := fun o => K2.cell o
  have f2 := fun o => K2.frozen o
  rcases Bool.eq_false_or_eq_true (mosOk l) with o0 | o0
  case inr =>
    have HM : Hid (mergeMR l l' = zeroMosaic ∧ mergeMC l l' = 1) := by unfold Hid mergeMR mergeMC; simp [o0]
    go_wp2
    refine bodyPost_ret (v := .tuple #[.agg #[.int .i64 0, .int .i64 0, .slice none 0 0, .slice none 0 0], .int .i64 1]) (by simp [results, Tryd.results6, go_sem, c2]) rfl ?_
    rw [HM.out.1, HM.out.2]
    exact retMosaic_zero (by (repeat (first | (with_reducible assumption) | (with_reducible exact Below.refl _ _) | (with_reducible refine Below.drew ?_) | (with_reducible refine Below.drewN ?_ _) | (with_reducible refine Below.setCell ?_ ?_ _) | (with_reducible refine Below.alloc ?_ ?_ _) | assumption)); all_goals (first | omega | (simp; done) | (simp; omega)))
  go_wp2_with fail
  refine (implIsMosaic_any h' l' _ ok' (hr'.below (by (repeat (first | (with_reducible assumption) | (with_reducible exact Below.refl _ _) | (with_reducible refine Below.drew ?_) | (with_reducible refine Below.drewN ?_ _) | (with_reducible refine Below.setCell ?_ ?_ _) | (with_reducible refine Below.alloc ?_ ?_ _) | assumption)); all_goals (first | omega | (simp; done) | (simp; omega))))).mono ?_
  rintro e w2 ⟨rfl, b2⟩
  have hb2 : Below w.heap.size w w2 := hb1.trans (b2.mono (by first | omega | (simp; done) | (simp; omega)))
  have z2 : w.heap.size + 2 < w2.heap.size := Nat.lt_of_lt_of_le z1 b2.size
  have J0 := K0.below b2 K0.lt
  have J1 := K1.below b2 K1.lt
  have J2 := K2.below b2 K2.lt
  clear c0 c1 c2 f2 K0 K1 K2 b2
  have c0 := fun o => J0.cell o
  have c1 := fun o => J1.cell o
  have c2 := fun o => J2.cell o
  have f2 := fun o => J2.frozen o
  rcases Bool.eq_false_or_eq_true (mosOk l') with o1 | o1
  case inr =>
    have HM : Hid (mergeMR l l' = zeroMosaic ∧ mergeMC l l' = 1) := by unfold Hid mergeMR mergeMC; simp [o1]
    go_wp2
    refine bodyPost_ret (v := .tuple #[.agg #[.int .i64 0, .int .i64 0, .slice none 0 0, .slice none 0 0], .int .i64 1]) (by simp [results, Tryd.results6, go_sem, c2]) rfl ?_
    rw [HM.out.1, HM.out.2]
    exact retMosaic_zero (by (repeat (first | (with_reducible assumption) | (with_reducible exact Below.refl _ _) | (with_reducible refine Below.drew ?_) | (with_reducible refine Below.drewN ?_ _) | (with_reducible refine Below.setCell ?_ ?_ _) | (with_reducible refine Below.alloc ?_ ?_ _) | assumption)); all_goals (first | omega | (simp; done) | (simp; omega)))
  have HM5 : Hid (¬ (l.wide = l'.wide ∧ l.high = l'.high) → mergeMR l l' = zeroMosaic ∧ mergeMC l l' = 5) := by
    intro hn
    unfold mergeMR mergeMC
    rw [if_neg (fun c => hn ⟨c.2.2.1, c.2.2.2⟩), if_pos ⟨o0, o1⟩, if_neg hn]
    exact ⟨rfl, rfl⟩
  have HM0 : Hid (l.wide = l'.wide ∧ l.high = l'.high → mergeMR l l' = mergeTo l l' l'.values.length ∧ mergeMC l l' = 0) := by
    intro hn
    unfold mergeMR mergeMC
    rw [if_pos ⟨o0, o1, hn.1, hn.2⟩, if_pos ⟨o0, o1⟩, if_pos hn]
    exact ⟨rfl, rfl⟩
  have M0 := Lib.hid (MOk.of o0)
  have M1 := Lib.hid (MOk.of o1)
  by_cases e1 : l.wide = l'.wide
  case neg =>
    have q1 : (l.wide == l'.wide) = false := by simpa using e1
    have q2 : (l.wide != l'.wide) = true := by simpa using e1
    have HE := Lib.hid e1
    clear e1
    go_wp2
    refine bodyPost_ret (v := .tuple #[.agg #[.int .i64 0, .int .i64 0, .slice none 0 0, .slice none 0 0], .int .i64 5]) (by simp [results, Tryd.results6, go_sem, c2]) rfl ?_
    rw [(HM5.out (fun c => HE.out c.1)).1, (HM5.out (fun c => HE.out c.1)).2]
    exact retMosaic_zero (by (repeat (first | (with_reducible assumption) | (with_reducible exact Below.refl _ _) | (with_reducible refine Below.drew ?_) | (with_reducible refine Below.drewN ?_ _) | (with_reducible refine Below.setCell ?_ ?_ _) | (with_reducible refine Below.alloc ?_ ?_ _) | assumption)); all_goals (first | omega | (simp; done) | (simp; omega)))
  by_cases e2 : l.high = l'.high
  case neg =>
    have q1 : (l.wide == l'.wide) = true := by simpa using e1
    have q2 : (l.wide != l'.wide) = false := by simpa using e1
    have q3 : (l.high == l'.high) = false := by simpa using e2
    have q4 : (l.high != l'.high) = true := by simpa using e2
    have HE := Lib.hid e2
    clear e1 e2
    go_wp2
    refine bodyPost_ret (v := .tuple #[.agg #[.int .i64 0, .int .i64 0, .slice none 0 0, .slice none 0 0], .int .i64 5]) (by simp [results, Tryd.results6, go_sem, c2]) rfl ?_
    rw [(HM5.out (fun c => HE.out c.2)).1, (HM5.out (fun c => HE.out c.2)).2]
    exact retMosaic_zero (by (repeat (first | (with_reducible assumption) | (with_reducible exact Below.refl _ _) | (with_reducible refine Below.drew ?_) | (with_reducible refine Below.drewN ?_ _) | (with_reducible refine Below.setCell ?_ ?_ _) | (with_reducible refine Below.alloc ?_ ?_ _) | assumption)); all_goals (first | omega | (simp; done) | (simp; omega)))
  have q1 : (l.wide == l'.wide) = true := by simpa using e1
  have q2 : (l.wide != l'.wide) = false := by simpa using e1
  have q3 : (l.high == l'.high) = true := by simpa using e2
  have q4 : (l.high != l'.high) = false := by simpa using e2
  have HM := Lib.hid (HM0.out ⟨e1, e2⟩)
  have hwide := Lib.hid e1
  have hhigh := Lib.hid e2
  clear HM5 HM0 e1 e2
  go_wp2_with fail
  refine (mosClone_any h l _ ok (hr.below (by (repeat (first | (with_reducible assumption) | (with_reducible exact Below.refl _ _) | (with_reducible refine Below.drew ?_) | (with_reducible refine Below.drewN ?_ _) | (with_reducible refine Below.setCell ?_ ?_ _) | (with_reducible refine Below.alloc ?_ ?_ _) | assumption)); all_goals (first | omega | (simp; done) | (simp; omega))))).mono ?_
  rintro e w3 ⟨k, he, ow, b3⟩
  unfold MosaicV at he
  subst he
  clear q1 q2 q3 q4 o0 o1
  have hb3 : Below w.heap.size w w3 := hb2.trans (b3.mono (by first | omega | (simp; done) | (simp; omega)))
  have z3 : w.heap.size + 2 < w3.heap.size := Nat.lt_of_lt_of_le z2 b3.size
  have I1 := J1.below b3 J1.lt
  have I2 := J2.below b3 J2.lt
  clear c0 c1 c2 f2 J0 J1 J2 b3
  have rk := ow.rd
  have wk := ow.wr
  have sk := ow.sp
  clear ow
  have c1 := fun o => I1.cell o
  have y1 : w.heap.size + 1 < w3.heap.size := by omega
  have y2 : w.heap.size + 1 + 1 < w3.heap.size := by omega
  have c2 := fun o => I2.cell o
  have f2 := fun o => I2.frozen o
  have hlen0 := MosaicS_v rk
  have hlen1 := MosaicS_g rk
  have hlen2 := MosaicS_v hr'
  have hlen3 := MosaicS_g hr'
  have hn : Hid (k.grades.n = k.values.n ∧ k.values.n = h'.values.n ∧ h'.grades.n = h'.values.n ∧ h'.values.n ≤ 1600) := by
    have m0 := M0.out; have m1 := M1.out
    have a := m0.eq; have b := m0.len; have c := m1.eq; have d := m1.len; have e := m1.bd.1
    rw [hwide.out, hhigh.out] at b
    exact ⟨by omega, by omega, by omega, by omega⟩
  have hlo : Lo (MosaicR k) w3.heap.size := rk.lo
  have hhi : Hi (MosaicR k) w2.heap.size := wk.hi
  have HV := Lib.hid hlen2
  clear hlen0 hlen1 hlen2 hlen3
  obtain ⟨⟨A2, m2, d2⟩, ⟨A3, m3, d3⟩⟩ := h'
  simp only at hn c1 I1
  go_wp2_with fail
  have rk4 := rk.below ((Below.refl w3.heap.size w3).alloc (Nat.le_refl _) (.cells #[.int .i64 l.wide, .int .i64 l.high, .slice k.values.A k.values.n k.values.c, .slice k.grades.A k.grades.n k.grades.c] 26))
  have wk4 := wk.below rk ((Below.refl w3.heap.size w3).alloc (Nat.le_refl _) (.cells #[.int .i64 l.wide, .int .i64 l.high, .slice k.values.A k.values.n k.values.c, .slice k.grades.A k.grades.n k.grades.c] 26))
  have P1 := I1.alloc (.cells #[.int .i64 l.wide, .int .i64 l.high, .slice k.values.A k.values.n k.values.c, .slice k.grades.A k.grades.n k.grades.c] 26)
  have P2 := I2.alloc (.cells #[.int .i64 l.wide, .int .i64 l.high, .slice k.values.A k.values.n k.values.c, .slice k.grades.A k.grades.n k.grades.c] 26)
  have P3 := Blk.new w3 26 #[.int .i64 l.wide, .int .i64 l.high, .slice k.values.A k.values.n k.values.c, .slice k.grades.A k.grades.n k.grades.c]
  have hb4 : Below w.heap.size w (w3.alloc (.cells #[.int .i64 l.wide, .int .i64 l.high, .slice k.values.A k.values.n k.values.c, .slice k.grades.A k.grades.n k.grades.c] 26)) := (by (repeat (first | (with_reducible assumption) | (with_reducible exact Below.refl _ _) | (with_reducible refine Below.drew ?_) | (with_reducible refine Below.drewN ?_ _) | (with_reducible refine Below.setCell ?_ ?_ _) | (with_reducible refine Below.alloc ?_ ?_ _) | assumption)); all_goals (first | omega | (simp; done) | (simp; omega)))
  generalize w3.alloc (.cells #[.int .i64 l.wide, .int .i64 l.high, .slice k.values.A k.values.n k.values.c, .slice k.grades.A k.grades.n k.grades.c] 26) = w4 at rk4 wk4 P1 P2 P3 hb4 ⊢
  clear c1 c2 f2 I1 I2 rk wk hb3
  go_loopw [38] (fun i wr => ∃ n : Nat, n ≤ m2 ∧ i = .int .i64 n ∧ RdAll wr (MosaicS k (mergeTo l l' n)) ∧ WrAll wr w2.heap.size (MosaicS k (mergeTo l l' n)) ∧ Below w.heap.size w wr ∧
      Blk wr (w.heap.size + 1) 26 #[.int .i64 l'.wide, .int .i64 l'.high, .slice A2 m2 d2, .slice A3 m3 d3] ∧ Blk wr (w.heap.size + 1 + 1) 26 #[.int .i64 0, .int .i64 0, .slice none 0 0, .slice none 0 0] ∧
      Blk wr w3.heap.size 26 #[.int .i64 l.wide, .int .i64 l.high, .slice k.values.A k.values.n k.values.c, .slice k.grades.A k.grades.n k.grades.c]) (fun i _ => m2 - (intOf i).toNat)
  case atStart => exact ⟨0, Nat.zero_le _, rfl, rk4, wk4, hb4, P1, P2, P3⟩
  case round =>
    clear rk4 wk4 hb4 P1 P2 P3
    obtain ⟨n, hnm, rfl, rk, wk, hbel, P1, P2, P3⟩ := hrel
    have c1 := fun o => P1.cell o
    have c2 := fun o => P2.cell o
    have f2 := fun o => P2.frozen o
    have c3 := fun o => P3.cell o
    have hnn := hn.out
    have hm := hnn.2.2.2
    obtain rfl : m3 = m2 := hnn.2.2.1
    have HH := Lib.hid hnn
    clear hnn
    by_cases hlt : n < m3
    · have HS := Lib.hid (mergeTo_succ l l' n)
      obtain ⟨a2, rfl, hx⟩ := (hr'.head.below hbel).int hlt
      obtain ⟨a3, rfl, hy⟩ := (hr'.tail.head.below hbel).int hlt
      have HP := fun x y => implPut_any w2.heap.size k ⟨l.wide, l.high, (mergeTo l l' n).values, (mergeTo l l' n).grades⟩ n x y wr.drew (by have := HH.out; exact ⟨by omega, by omega⟩) HH.out.1 (by have := HH.out; omega) rk wk sk
      simp only [MosaicV] at HP
      generalize l'.values.getD n 0 = x at *
      generalize l'.grades.getD n 0 = y at *
      have hi0 : (0 : Int) ≤ (n : Int) := by omega
      have hi1 : (n : Int) < (m3 : Int) := by omega
      by_cases hy0 : 0 < y
      · go_wp2_with fail
        go_still_tail 8, (by kernel_rfl)
        have D1 : Blk wr.drew _ _ _ := P1
        have D2 : Blk wr.drew _ _ _ := P2
        have D3 : Blk wr.drew _ _ _ := P3
        have db := Below.drew hbel
        change wpList _ _ _ _ _ wr.drew
        generalize wr.drew = w5 at HP D1 D2 D3 db ⊢
        clear c1 c2 f2 c3 P1 P2 P3 hbel rk wk
        go_wp2_with fail
        with_reducible refine (HP _ _).mono ?_
        rintro e w6 ⟨rfl, rk6, wk6, t6⟩
        go_wp2
        go_roundw
        case rel => exact ⟨n + 1, by omega, by go_num, by rw [HS.out, if_pos hy0]; exact rk6, by rw [HS.out, if_pos hy0]; exact wk6, bstepT db t6 (Nat.le_refl _) (hhi.mono hb2.size), D1.touch t6 (hhi.ne (by omega)), D2.touch t6 (hhi.ne (by omega)), D3.touch t6 (hlo.ne (Nat.le_refl _))⟩
        case measure => simp [intOf]; omega
      · go_wp2
        go_roundw
        case rel => exact ⟨n + 1, by omega, by go_num, by rw [HS.out, if_neg hy0]; exact rk, by rw [HS.out, if_neg hy0]; exact wk, hbel, P1, P2, P3⟩
        case measure => simp [intOf]; omega
    · obtain rfl : n = m3 := by omega
      go_wp2
      refine bodyPost_ret (v := .tuple #[.agg #[.int .i64 l.wide, .int .i64 l.high, .slice k.values.A k.values.n k.values.c, .slice k.grades.A k.grades.n k.grades.c], .int .i64 0]) (by simp [results, Tryd.results6, go_sem, c2]) rfl ?_
      rw [HM.out.1, HM.out.2, HV.out]
      have hh := mergeTo_wh l l' n
      refine ⟨k, by unfold MosaicV; rw [hh.1, hh.2], by have := HH.out; exact ⟨by omega, by omega⟩, ?_, ?_, sk, (by (repeat (first | (with_reducible assumption) | (with_reducible exact Below.refl _ _) | (with_reducible refine Below.drew ?_) | (with_reducible refine Below.drewN ?_ _) | (with_reducible refine Below.setCell ?_ ?_ _) | (with_reducible refine Below.alloc ?_ ?_ _) | assumption)); all_goals (first | omega | (simp; done) | (simp; omega)))⟩
      · repeat (refine RdAll.cell_ ?_ (hhi.ne (by omega)))
        exact rk
      · repeat (refine WrAll.cell_ ?_)
        exact wk.lower hb2.size
set_option maxRecDepth 100000 in
set_option maxHeartbeats 4000000 in
theorem specMergeMosaics'_any (h : MosaicH) (l : MosaicC) (h' : MosaicH) (l' : MosaicC) (w : World) (ok : MosaicOk h) (hr : RdAll w (MosaicS h l)) (ok' : MosaicOk h') (hr' : RdAll w (MosaicS h' l')) :
    Calls Tryd.prog 7 #[MosaicV h l, MosaicV h' l'] w (RetMosaic (mergeMR l l') (mergeMC l l') w) := by
  unfold MosaicV
  go_enter Tryd.func7, Tryd.ntmps7
  go_wp2_with fail
  refine (specIsMosaic_any h l _ ok (hr.below (by (repeat (first | (with_reducible assumption) | (with_reducible exact Below.refl _ _) | (with_reducible refine Below.drew ?_) | (with_reducible refine Below.drewN ?_ _) | (with_reducible refine Below.setCell ?_ ?_ _) | (with_reducible refine Below.alloc ?_ ?_ _) | assumption)); all_goals (first | omega | (simp; done) | (simp; omega))))).mono ?_
  rintro e w1 ⟨rfl, b1⟩
  have hb1 : Below w.heap.size w w1 := (show Below w.heap.size w _ from (by (repeat (first | (with_reducible assumption) | (with_reducible exact Below.refl _ _) | (with_reducible refine Below.drew ?_) | (with_reducible refine Below.drewN ?_ _) | (with_reducible refine Below.setCell ?_ ?_ _) | (with_reducible refine Below.alloc ?_ ?_ _) | assumption)); all_goals (first | omega | (simp; done) | (simp; omega)))).trans (b1.mono (by first | omega | (simp; done) | (simp; omega)))
  have z1 : w.heap.size + 2 < w1.heap.size := Nat.lt_of_lt_of_le (by first | omega | (simp; done) | (simp; omega)) b1.size
  have K0 : Blk w1 w.heap.size 26 #[.int .i64 l.wide, .int .i64 l.high, .slice h.values.A h.values.n h.values.c, .slice h.grades.A h.grades.n h.grades.c] := Blk.below (by repeat (first | exact Blk.newN _ _ _ (by simp; done) | refine Blk.alloc ?_ _)) b1 (by first | omega | (simp; done) | (simp; omega))
  have K1 : Blk w1 (w.heap.size + 1) 26 #[.int .i64 l'.wide, .int .i64 l'.high, .slice h'.values.A h'.values.n h'.values.c, .slice h'.grades.A h'.grades.n h'.grades.c] := Blk.below (by repeat (first | exact Blk.newN _ _ _ (by simp; done) | refine Blk.alloc ?_ _)) b1 (by first | omega | (simp; done) | (simp; omega))
  have K2 : Blk w1 (w.heap.size + 1 + 1) 26 #[.int .i64 0, .int .i64 0, .slice none 0 0, .slice none 0 0] := Blk.below (by repeat (first | exact Blk.newN _ _ _ (by simp; done) | refine Blk.alloc ?_ _)) b1 (by first | omega | (simp; done) | (simp; omega))
  clear b1
  have c0 := fun o => K0.cell o
  have c1 := fun o => K1.cell o
  have c2 := fun o => K2.cell o
  have f2 := fun o => K2.frozen o
  rcases Bool.eq_false_or_eq_true (mosOk l) with o0 | o0
  case inr =>
    have HM : Hid (mergeMR l l' = zeroMosaic ∧ mergeMC l l' = 1) := by unfold Hid mergeMR mergeMC; simp [o0]
    go_wp2
    refine bodyPost_ret (v := .tuple #[.agg #[.int .i64 0, .int .i64 0, .slice none 0 0, .slice none 0 0], .int .i64 1]) (by simp [results, Tryd.results7, go_sem, c2]) rfl ?_
    rw [HM.out.1, HM.out.2]
    exact retMosaic_zero (by (repeat (first | (with_reducible assumption) | (with_reducible exact Below.refl _ _) | (with_reducible refine Below.drew ?_) | (with_reducible refine Below.drewN ?_ _) | (with_reducible refine Below.setCell ?_ ?_ _) | (with_reducible refine Below.alloc ?_ ?_ _) | assumption)); all_goals (first | omega | (simp; done) | (simp; omega)))
  go_wp2_with fail
  refine (specIsMosaic_any h' l' _ ok' (hr'.below (by (repeat (first | (with_reducible assumption) | (with_reducible exact Below.refl _ _) | (with_reducible refine Below.drew ?_) | (with_reducible refine Below.drewN ?_ _) | (with_reducible refine Below.setCell ?_ ?_ _) | (with_reducible refine Below.alloc ?_ ?_ _) | assumption)); all_goals (first | omega | (simp; done) | (simp; omega))))).mono ?_
  rintro e w2 ⟨rfl, b2⟩
  have hb2 : Below w.heap.size w w2 := hb1.trans (b2.mono (by first | omega | (simp; done) | (simp; omega)))
  have z2 : w.heap.size + 2 < w2.heap.size := Nat.lt_of_lt_of_le z1 b2.size
  have J0 := K0.below b2 K0.lt
  have J1 := K1.below b2 K1.lt
  have J2 := K2.below b2 K2.lt
  clear c0 c1 c2 f2 K0 K1 K2 b2
  have c0 := fun o => J0.cell o
  have c1 := fun o => J1.cell o
  have c2 := fun o => J2.cell o
  have f2 := fun o => J2.frozen o
  rcases Bool.eq_false_or_eq_true (mosOk l') with o1 | o1
  case inr =>
    have HM : Hid (mergeMR l l' = zeroMosaic ∧ mergeMC l l' = 1) := by unfold Hid mergeMR mergeMC; simp [o1]
    go_wp2
    refine bodyPost_ret (v := .tuple #[.agg #[.int .i64 0, .int .i64 0, .slice none 0 0, .slice none 0 0], .int .i64 1]) (by simp [results, Tryd.results7, go_sem, c2]) rfl ?_
    rw [HM.out.1, HM.out.2]
    exact retMosaic_zero (by (repeat (first | (with_reducible assumption) | (with_reducible exact Below.refl _ _) | (with_reducible refine Below.drew ?_) | (with_reducible refine Below.drewN ?_ _) | (with_reducible refine Below.setCell ?_ ?_ _) | (with_reducible refine Below.alloc ?_ ?_ _) | assumption)); all_goals (first | omega | (simp; done) | (simp; omega)))
  have HM5 : Hid (¬ (l.wide = l'.wide ∧ l.high = l'.high) → mergeMR l l' = zeroMosaic ∧ mergeMC l l' = 5) := by
    intro hn
    unfold mergeMR mergeMC
    rw [if_neg (fun c => hn ⟨c.2.2.1, c.2.2.2⟩), if_pos ⟨o0, o1⟩, if_neg hn]
    exact ⟨rfl, rfl⟩
  have HM0 : Hid (l.wide = l'.wide ∧ l.high = l'.high → mergeMR l l' = mergeTo l l' l'.values.length ∧ mergeMC l l' = 0) := by
    intro hn
    unfold mergeMR mergeMC
    rw [if_pos ⟨o0, o1, hn.1, hn.2⟩, if_pos ⟨o0, o1⟩, if_pos hn]
    exact ⟨rfl, rfl⟩
  have M0 := Lib.hid (MOk.of o0)
  have M1 := Lib.hid (MOk.of o1)
  by_cases e1 : l.wide = l'.wide
  case neg =>
    have q1 : (l.wide == l'.wide) = false := by simpa using e1
    have q2 : (l.wide != l'.wide) = true := by simpa using e1
    have HE := Lib.hid e1
    clear e1
    go_wp2
    refine bodyPost_ret (v := .tuple #[.agg #[.int .i64 0, .int .i64 0, .slice none 0 0, .slice none 0 0], .int .i64 5]) (by simp [results, Tryd.results7, go_sem, c2]) rfl ?_
    rw [(HM5.out (fun c => HE.out c.1)).1, (HM5.out (fun c => HE.out c.1)).2]
    exact retMosaic_zero (by (repeat (first | (with_reducible assumption) | (with_reducible exact Below.refl _ _) | (with_reducible refine Below.drew ?_) | (with_reducible refine Below.drewN ?_ _) | (with_reducible refine Below.setCell ?_ ?_ _) | (with_reducible refine Below.alloc ?_ ?_ _) | assumption)); all_goals (first | omega | (simp; done) | (simp; omega)))
  by_cases e2 : l.high = l'.high
  case neg =>
    have q1 : (l.wide == l'.wide) = true := by simpa using e1
    have q2 : (l.wide != l'.wide) = false := by simpa using e1
    have q3 : (l.high == l'.high) = false := by simpa using e2
    have q4 : (l.high != l'.high) = true := by simpa using e2
    have HE := Lib.hid e2
    clear e1 e2
    go_wp2
    refine bodyPost_ret (v := .tuple #[.agg #[.int .i64 0, .int .i64 0, .slice none 0 0, .slice none 0 0], .int .i64 5]) (by simp [results, Tryd.results7, go_sem, c2]) rfl ?_
    rw [(HM5.out (fun c => HE.out c.2)).1, (HM5.out (fun c => HE.out c.2)).2]
    exact retMosaic_zero (by (repeat (first | (with_reducible assumption) | (with_reducible exact Below.refl _ _) | (with_reducible refine Below.drew ?_) | (with_reducible refine Below.drewN ?_ _) | (with_reducible refine Below.setCell ?_ ?_ _) | (with_reducible refine Below.alloc ?_ ?_ _) | assumption)); all_goals (first | omega | (simp; done) | (simp; omega)))
  have q1 : (l.wide == l'.wide) = true := by simpa using e1
  have q2 : (l.wide != l'.wide) = false := by simpa using e1
  have q3 : (l.high == l'.high) = true := by simpa using e2
  have q4 : (l.high != l'.high) = false := by simpa using e2
  have HM := Lib.hid (HM0.out ⟨e1, e2⟩)
  have hwide := Lib.hid e1
  have hhigh := Lib.hid e2
  clear HM5 HM0 e1 e2
  go_wp2_with fail
  refine (l19Own_any h l _ ok (hr.below (by (repeat (first | (with_reducible assumption) | (with_reducible exact Below.refl _ _) | (with_reducible refine Below.drew ?_) | (with_reducible refine Below.drewN ?_ _) | (with_reducible refine Below.setCell ?_ ?_ _) | (with_reducible refine Below.alloc ?_ ?_ _) | assumption)); all_goals (first | omega | (simp; done) | (simp; omega))))).mono ?_
  rintro e w3 ⟨k, he, ow, b3⟩
  unfold MosaicV at he
  subst he
  clear q1 q2 q3 q4 o0 o1
  have hb3 : Below w.heap.size w w3 := hb2.trans (b3.mono (by first | omega | (simp; done) | (simp; omega)))
  have z3 : w.heap.size + 2 < w3.heap.size := Nat.lt_of_lt_of_le z2 b3.size
  have I1 := J1.below b3 J1.lt
  have I2 := J2.below b3 J2.lt
  clear c0 c1 c2 f2 J0 J1 J2 b3
  have rk := ow.rd
  have wk := ow.wr
  have sk := ow.sp
  clear ow
  have c1 := fun o => I1.cell o
  have y1 : w.heap.size + 1 < w3.heap.size := by omega
  have y2 : w.heap.size + 1 + 1 < w3.heap.size := by omega
  have c2 := fun o => I2.cell o
  have f2 := fun o => I2.frozen o
  have hlen0 := MosaicS_v rk
  have hlen1 := MosaicS_g rk
  have hlen2 := MosaicS_v hr'
  have hlen3 := MosaicS_g hr'
  have hn : Hid (k.grades.n = k.values.n ∧ k.values.n = h'.values.n ∧ h'.grades.n = h'.values.n ∧ h'.values.n ≤ 1600) := by
    have m0 := M0.out; have m1 := M1.out
    have a := m0.eq; have b := m0.len; have c := m1.eq; have d := m1.len; have e := m1.bd.1
    rw [hwide.out, hhigh.out] at b
    exact ⟨by omega, by omega, by omega, by omega⟩
  have hlo : Lo (MosaicR k) w3.heap.size := rk.lo
  have hhi : Hi (MosaicR k) w2.heap.size := wk.hi
  have HV := Lib.hid hlen2
  clear hlen0 hlen1 hlen2 hlen3
  obtain ⟨⟨A2, m2, d2⟩, ⟨A3, m3, d3⟩⟩ := h'
  simp only at hn c1 I1
  go_wp2_with fail
  have rk4 := rk.below ((Below.refl w3.heap.size w3).alloc (Nat.le_refl _) (.cells #[.int .i64 l.wide, .int .i64 l.high, .slice k.values.A k.values.n k.values.c, .slice k.grades.A k.grades.n k.grades.c] 26))
  have wk4 := wk.below rk ((Below.refl w3.heap.size w3).alloc (Nat.le_refl _) (.cells #[.int .i64 l.wide, .int .i64 l.high, .slice k.values.A k.values.n k.values.c, .slice k.grades.A k.grades.n k.grades.c] 26))
  have P1 := I1.alloc (.cells #[.int .i64 l.wide, .int .i64 l.high, .slice k.values.A k.values.n k.values.c, .slice k.grades.A k.grades.n k.grades.c] 26)
  have P2 := I2.alloc (.cells #[.int .i64 l.wide, .int .i64 l.high, .slice k.values.A k.values.n k.values.c, .slice k.grades.A k.grades.n k.grades.c] 26)
  have P3 := Blk.new w3 26 #[.int .i64 l.wide, .int .i64 l.high, .slice k.values.A k.values.n k.values.c, .slice k.grades.A k.grades.n k.grades.c]
  have hb4 : Below w.heap.size w (w3.alloc (.cells #[.int .i64 l.wide, .int .i64 l.high, .slice k.values.A k.values.n k.values.c, .slice k.grades.A k.grades.n k.grades.c] 26)) := (by (repeat (first | (with_reducible assumption) | (with_reducible exact Below.refl _ _) | (with_reducible refine Below.drew ?_) | (with_reducible refine Below.drewN ?_ _) | (with_reducible refine Below.setCell ?_ ?_ _) | (with_reducible refine Below.alloc ?_ ?_ _) | assumption)); all_goals (first | omega | (simp; done) | (simp; omega)))
  generalize w3.alloc (.cells #[.int .i64 l.wide, .int .i64 l.high, .slice k.values.A k.values.n k.values.c, .slice k.grades.A k.grades.n k.grades.c] 26) = w4 at rk4 wk4 P1 P2 P3 hb4 ⊢
  clear c1 c2 f2 I1 I2 rk wk hb3
  go_loopw [7] (fun i wr => ∃ n : Nat, n ≤ m2 ∧ i = .int .i64 n ∧ RdAll wr (MosaicS k (mergeTo l l' n)) ∧ WrAll wr w2.heap.size (MosaicS k (mergeTo l l' n)) ∧ Below w.heap.size w wr ∧
      Blk wr (w.heap.size + 1) 26 #[.int .i64 l'.wide, .int .i64 l'.high, .slice A2 m2 d2, .slice A3 m3 d3] ∧ Blk wr (w.heap.size + 1 + 1) 26 #[.int .i64 0, .int .i64 0, .slice none 0 0, .slice none 0 0] ∧
      Blk wr w3.heap.size 26 #[.int .i64 l.wide, .int .i64 l.high, .slice k.values.A k.values.n k.values.c, .slice k.grades.A k.grades.n k.grades.c]) (fun i _ => m2 - (intOf i).toNat)
  case atStart => exact ⟨0, Nat.zero_le _, rfl, rk4, wk4, hb4, P1, P2, P3⟩
  case round =>
    clear rk4 wk4 hb4 P1 P2 P3
    obtain ⟨n, hnm, rfl, rk, wk, hbel, P1, P2, P3⟩ := hrel
    have c1 := fun o => P1.cell o
    have c2 := fun o => P2.cell o
    have f2 := fun o => P2.frozen o
    have c3 := fun o => P3.cell o
    have hnn := hn.out
    have hm := hnn.2.2.2
    obtain rfl : m3 = m2 := hnn.2.2.1
    have HH := Lib.hid hnn
    clear hnn
    by_cases hlt : n < m3
    · have HS := Lib.hid (mergeTo_succ l l' n)
      obtain ⟨a2, rfl, hx⟩ := (hr'.head.below hbel).int hlt
      obtain ⟨a3, rfl, hy⟩ := (hr'.tail.head.below hbel).int hlt
      have HP := fun x y => specPut_any w2.heap.size k ⟨l.wide, l.high, (mergeTo l l' n).values, (mergeTo l l' n).grades⟩ n x y wr.drew (by have := HH.out; exact ⟨by omega, by omega⟩) HH.out.1 (by have := HH.out; omega) rk wk sk
      simp only [MosaicV] at HP
      generalize l'.values.getD n 0 = x at *
      generalize l'.grades.getD n 0 = y at *
      have hi0 : (0 : Int) ≤ (n : Int) := by omega
      have hi1 : (n : Int) < (m3 : Int) := by omega
      by_cases hy0 : 0 < y
      · go_wp2_with fail
        go_still_tail 12, (by kernel_rfl)
        have D1 : Blk wr.drew _ _ _ := P1
        have D2 : Blk wr.drew _ _ _ := P2
        have D3 : Blk wr.drew _ _ _ := P3
        have db := Below.drew hbel
        change wpList _ _ _ _ _ wr.drew
        generalize wr.drew = w5 at HP D1 D2 D3 db ⊢
        clear c1 c2 f2 c3 P1 P2 P3 hbel rk wk
        go_wp2_with fail
        with_reducible refine (HP _ _).mono ?_
        rintro e w6 ⟨rfl, rk6, wk6, t6⟩
        go_wp2
        go_roundw
        case rel => exact ⟨n + 1, by omega, by go_num, by rw [HS.out, if_pos hy0]; exact rk6, by rw [HS.out, if_pos hy0]; exact wk6, bstepT db t6 (Nat.le_refl _) (hhi.mono hb2.size), D1.touch t6 (hhi.ne (by omega)), D2.touch t6 (hhi.ne (by omega)), D3.touch t6 (hlo.ne (Nat.le_refl _))⟩
        case measure => simp [intOf]; omega
      · go_wp2
        go_roundw
        case rel => exact ⟨n + 1, by omega, by go_num, by rw [HS.out, if_neg hy0]; exact rk, by rw [HS.out, if_neg hy0]; exact wk, hbel, P1, P2, P3⟩
        case measure => simp [intOf]; omega
    · obtain rfl : n = m3 := by omega
      go_wp2
      refine bodyPost_ret (v := .tuple #[.agg #[.int .i64 l.wide, .int .i64 l.high, .slice k.values.A k.values.n k.values.c, .slice k.grades.A k.grades.n k.grades.c], .int .i64 0]) (by simp [results, Tryd.results7, go_sem, c2]) rfl ?_
      rw [HM.out.1, HM.out.2, HV.out]
      have hh := mergeTo_wh l l' n
      refine ⟨k, by unfold MosaicV; rw [hh.1, hh.2], by have := HH.out; exact ⟨by omega, by omega⟩, ?_, ?_, sk, (by (repeat (first | (with_reducible assumption) | (with_reducible exact Below.refl _ _) | (with_reducible refine Below.drew ?_) | (with_reducible refine Below.drewN ?_ _) | (with_reducible refine Below.setCell ?_ ?_ _) | (with_reducible refine Below.alloc ?_ ?_ _) | assumption)); all_goals (first | omega | (simp; done) | (simp; omega)))⟩
      · repeat (refine RdAll.cell_ ?_ (hhi.ne (by omega)))
        exact rk
      · repeat (refine WrAll.cell_ ?_)
        exact wk.lower hb2.size
end Go.Proofs.YtilieonalmihaaaDoor
