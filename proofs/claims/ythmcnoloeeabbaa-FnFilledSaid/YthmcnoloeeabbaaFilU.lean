/- The dangerous cells of a grid, both sides; drawn grids for the law. Condition: lists of at most 1048576 elements. -/
import Derived.Test.YthmcnoloeeabbaaFilS
import Derived.Test.YthmcnoloeeabbaaDrW
namespace Go.Proofs.Ythmcnoloeeabbaa
open Go.RowKit

set_option maxRecDepth 100000 in
set_option maxHeartbeats 4000000 in
theorem implDangerCells_any (h : DepthGridH) (l : DepthGridC) (q : Int) (w : World) (ok : DepthGridOk h) (hr : RdAll w (DepthGridS h l)) :
    Calls Try.prog 56 #[DepthGridV h l, .int .i64 q] w (RetIC (dgR l q) (dgC l q) w) := by
  unfold DepthGridV
  go_enter Try.func56, Try.ntmps56
  go_wp2_with fail
  refine (implIsDepthGrid_any h l _ ok (hr.below (by (repeat (first | (with_reducible assumption) | (with_reducible exact Below.refl _ _) | (with_reducible refine Below.drew ?_) | (with_reducible refine Below.drewN ?_ _) | (with_reducible refine Below.setCell ?_ ?_ _) | (with_reducible refine Below.alloc ?_ ?_ _) | assumption)); all_goals (first | omega | (simp; done) | (simp; omega))))).mono ?_
  rintro e w1 ⟨rfl, b1⟩
  have hb1 : Below w.heap.size w w1 := (show Below w.heap.size w _ from (by (repeat (first | (with_reducible assumption) | (with_reducible exact Below.refl _ _) | (with_reducible refine Below.drew ?_) | (with_reducible refine Below.drewN ?_ _) | (with_reducible refine Below.setCell ?_ ?_ _) | (with_reducible refine Below.alloc ?_ ?_ _) | assumption)); all_goals (first | omega | (simp; done) | (simp; omega)))).trans (b1.mono (by first | omega | (simp; done) | (simp; omega)))
  have K0 : Blk w1 w.heap.size 50 #[.int .i64 l.size, .int .i64 l.wide, .int .i64 l.high, .slice h.counts.A h.counts.n h.counts.c, .slice h.depths.A h.depths.n h.depths.c] := Blk.below (Blk.new _ _ _) b1 (by first | omega | (simp; done) | (simp; omega))
  clear b1
  rcases Bool.eq_false_or_eq_true (gridOk l) with o0 | o0
  case inr =>
    have HM := Lib.hid (dg_bad q o0)
    rw [o0]
    clear o0
    go_wp2
    refine bodyPost_ret (v := .tuple #[.slice none 0 0, .int .i64 1]) (by simp [results, Try.results56, go_sem]) rfl ?_
    rw [HM.out.1, HM.out.2]
    exact retIC_nil hb1
  have M := GOk.of o0
  have HO := Lib.hid o0
  rw [o0]
  clear o0
  rcases Bool.eq_false_or_eq_true (inR q 0 1000000) with i0 | i0
  case inr =>
    have HM := Lib.hid (dg_out HO.out i0)
    go_wp2_with (go_at_call 77; refine (within_any _ _ _ _).mono ?_; rintro e w' ⟨rfl, rfl⟩)
    refine bodyPost_ret (v := .tuple #[.slice none 0 0, .int .i64 2]) (by simp [results, Try.results56, go_sem]) rfl ?_
    rw [HM.out.1, HM.out.2]
    exact retIC_nil hb1
  have HR := Lib.hid (dg_ok HO.out i0)
  have r3 : Rd w1 h.counts.A h.counts.n (ints l.counts) := (hr.below hb1).head
  have r4 : Rd w1 h.depths.A (h.depths.n * 2) (ints l.depths) := (hr.below hb1).tail.head
  obtain ⟨⟨A3, n, c3⟩, ⟨A4, m, c4⟩⟩ := h
  have e3 : l.counts.length = n := r3.len
  have e4 : l.depths.length = m * 2 := r4.len
  have hbd := M.bd
  have hn9 : n ≤ 900 ∧ 1 ≤ n := by omega
  obtain rfl : n = m := by have := M.eq; omega
  have HE := Lib.hid e3
  clear e3 e4 hbd M hr ok
  obtain ⟨a3, rfl, -⟩ := r3.int (show 0 < n by omega)
  obtain ⟨a4, rfl, -, -⟩ := r4.two (show 0 < n by omega)
  simp only at K0
  have c0 := fun o => K0.cell o
  have g0 := K0.lt
  go_wp2_with (go_at_call 77; refine (within_any _ _ _ _).mono ?_; rintro e w' ⟨rfl, rfl⟩)
  clear i0
  go_loopw [6, 20] (fun o i wr => ∃ k j : Nat, k ≤ n ∧ j ≤ k ∧ i = .int .i64 k ∧ wr.ownsRow w1.heap.size 2 1 o j (ints (dgTo l q k)) ∧ Below w1.heap.size w1 wr) (fun _ i _ => n - (intOf i).toNat)
  case atStart => exact ⟨0, 0, Nat.zero_le _, Nat.le_refl _, rfl, World.ownsRow_nil _ _ _ _, Below.refl _ _⟩
  case round =>
    obtain ⟨k, j, hk, hjk, rfl, hown, b⟩ := hrel
    have K := K0.below b g0
    have g1 := K.lt
    clear c0
    have c0 := fun o => K.cell o
    have hsz := b.size
    by_cases hlt : k < n
    · have hltI : (k : Int) < (n : Int) := by omega
      have hk0 : (0 : Int) ≤ (k : Int) := by omega
      obtain ⟨_, ⟨⟩, hd0, -⟩ := (r4.below b).two hlt
      obtain ⟨_, ⟨⟩, hx⟩ := (r3.below b).int hlt
      have HY : Hid (dgB l q k = true → dgTo l q (k + 1) = dgTo l q k ++ [(k : Int)]) := dgTo_yes
      have HN : Hid (dgB l q k = false → dgTo l q (k + 1) = dgTo l q k) := dgTo_no
      have HB : Hid (dgB l q k = (decide (l.counts.getD k 0 = 0) || decide (l.depths.getD (k * 2) 0 < q))) := rfl
      generalize l.counts.getD k 0 = cv at *
      generalize l.depths.getD (k * 2) 0 = dk at *
      by_cases e1 : cv = 0
      · subst e1
        have HS := Lib.hid (HY.out (by rw [HB.out]; rfl))
        clear HY HN HB
        go_wp2_with (at_builtin; refine wpList_append_int1 rfl _ _ rfl w1.heap.size _ j (dgTo l q k) rfl rfl hown (by omega) hsz ?_; intro v' w' hown' hbel' _ _)
        go_roundw
        case rel => exact ⟨k + 1, j + 1, by omega, by omega, by go_num, by rw [HS.out]; exact hown', b.trans hbel'⟩
        case measure => simp [intOf]; omega
      have e1b : (cv == 0) = false := by rw [beq_eq_false_iff_ne]; exact e1
      by_cases e2 : dk < q
      · have HS := Lib.hid (HY.out (by rw [HB.out]; simp [e2]))
        clear HY HN HB e1
        go_wp2_with (at_builtin; refine wpList_append_int1 rfl _ _ rfl w1.heap.size _ j (dgTo l q k) rfl rfl hown (by omega) hsz ?_; intro v' w' hown' hbel' _ _)
        go_roundw
        case rel => exact ⟨k + 1, j + 1, by omega, by omega, by go_num, by rw [HS.out]; exact hown', b.trans hbel'⟩
        case measure => simp [intOf]; omega
      · have HS := Lib.hid (HN.out (by rw [HB.out]; simp [e1, e2]))
        clear HY HN HB e1
        go_wp2
        go_roundw
        case rel => exact ⟨k + 1, j, by omega, by omega, by go_num, by rw [HS.out]; exact hown, b⟩
        case measure => simp [intOf]; omega
    · obtain rfl : k = n := by omega
      obtain ⟨B, d, rfl, hrd, hwr, _, _⟩ := own_rd hown
      have hb2 := hb1.trans (b.mono hb1.size)
      have HT : Hid (dgR l q = dgTo l q k) := by unfold Hid; rw [HR.out.2, HE.out]
      go_wp2
      refine bodyPost_ret (v := .tuple #[.slice B j d, .int .i64 0]) (by simp [results, Try.results56, go_sem]) rfl ?_
      rw [HR.out.1, HT.out]
      exact ⟨B, j, d, rfl, hrd, hwr.lower hb1.size, by omega, hb2⟩

set_option maxRecDepth 100000 in
set_option maxHeartbeats 4000000 in
theorem specDangerCells_any (h : DepthGridH) (l : DepthGridC) (q : Int) (w : World) (ok : DepthGridOk h) (hr : RdAll w (DepthGridS h l)) :
    Calls Try.prog 57 #[DepthGridV h l, .int .i64 q] w (RetIC (dgR l q) (dgC l q) w) := by
  unfold DepthGridV
  go_enter Try.func57, Try.ntmps57
  go_wp2_with fail
  refine (specIsDepthGrid_any h l _ ok (hr.below (by (repeat (first | (with_reducible assumption) | (with_reducible exact Below.refl _ _) | (with_reducible refine Below.drew ?_) | (with_reducible refine Below.drewN ?_ _) | (with_reducible refine Below.setCell ?_ ?_ _) | (with_reducible refine Below.alloc ?_ ?_ _) | assumption)); all_goals (first | omega | (simp; done) | (simp; omega))))).mono ?_
  rintro e w1 ⟨rfl, b1⟩
  have hb1 : Below w.heap.size w w1 := (show Below w.heap.size w _ from (by (repeat (first | (with_reducible assumption) | (with_reducible exact Below.refl _ _) | (with_reducible refine Below.drew ?_) | (with_reducible refine Below.drewN ?_ _) | (with_reducible refine Below.setCell ?_ ?_ _) | (with_reducible refine Below.alloc ?_ ?_ _) | assumption)); all_goals (first | omega | (simp; done) | (simp; omega)))).trans (b1.mono (by first | omega | (simp; done) | (simp; omega)))
  have K0 : Blk w1 w.heap.size 50 #[.int .i64 l.size, .int .i64 l.wide, .int .i64 l.high, .slice h.counts.A h.counts.n h.counts.c, .slice h.depths.A h.depths.n h.depths.c] := Blk.below (Blk.new _ _ _) b1 (by first | omega | (simp; done) | (simp; omega))
  clear b1
  rcases Bool.eq_false_or_eq_true (gridOk l) with o0 | o0
  case inr =>
    have HM := Lib.hid (dg_bad q o0)
    rw [o0]
    clear o0
    go_wp2
    refine bodyPost_ret (v := .tuple #[.slice none 0 0, .int .i64 1]) (by simp [results, Try.results57, go_sem]) rfl ?_
    rw [HM.out.1, HM.out.2]
    exact retIC_nil hb1
  have M := GOk.of o0
  have HO := Lib.hid o0
  rw [o0]
  clear o0
  rcases Bool.eq_false_or_eq_true (inR q 0 1000000) with i0 | i0
  case inr =>
    have HM := Lib.hid (dg_out HO.out i0)
    go_wp2_with (go_at_call 74; refine (l01In_any _ _ _ _).mono ?_; rintro e w' ⟨rfl, rfl⟩)
    refine bodyPost_ret (v := .tuple #[.slice none 0 0, .int .i64 2]) (by simp [results, Try.results57, go_sem]) rfl ?_
    rw [HM.out.1, HM.out.2]
    exact retIC_nil hb1
  have HR := Lib.hid (dg_ok HO.out i0)
  have r3 : Rd w1 h.counts.A h.counts.n (ints l.counts) := (hr.below hb1).head
  have r4 : Rd w1 h.depths.A (h.depths.n * 2) (ints l.depths) := (hr.below hb1).tail.head
  obtain ⟨⟨A3, n, c3⟩, ⟨A4, m, c4⟩⟩ := h
  have e3 : l.counts.length = n := r3.len
  have e4 : l.depths.length = m * 2 := r4.len
  have hbd := M.bd
  have hn9 : n ≤ 900 ∧ 1 ≤ n := by omega
  obtain rfl : n = m := by have := M.eq; omega
  have HE := Lib.hid e3
  clear e3 e4 hbd M hr ok
  obtain ⟨a3, rfl, -⟩ := r3.int (show 0 < n by omega)
  obtain ⟨a4, rfl, -, -⟩ := r4.two (show 0 < n by omega)
  simp only at K0
  have c0 := fun o => K0.cell o
  have g0 := K0.lt
  go_wp2_with (go_at_call 74; refine (l01In_any _ _ _ _).mono ?_; rintro e w' ⟨rfl, rfl⟩)
  clear i0
  go_loopw [6, 7] (fun o i wr => ∃ k j : Nat, k ≤ n ∧ j ≤ k ∧ i = .int .i64 k ∧ wr.ownsRow w1.heap.size 2 1 o j (ints (dgTo l q k)) ∧ Below w1.heap.size w1 wr) (fun _ i _ => n - (intOf i).toNat)
  case atStart => exact ⟨0, 0, Nat.zero_le _, Nat.le_refl _, rfl, own_empty w1 _, (Below.refl _ _).alloc (Nat.le_refl _) _⟩
  case round =>
    obtain ⟨k, j, hk, hjk, rfl, hown, b⟩ := hrel
    have K := K0.below b g0
    have g1 := K.lt
    clear c0
    have c0 := fun o => K.cell o
    have hsz := b.size
    by_cases hlt : k < n
    · have hltI : (k : Int) < (n : Int) := by omega
      have hk0 : (0 : Int) ≤ (k : Int) := by omega
      obtain ⟨_, ⟨⟩, hd0, -⟩ := (r4.below b).two hlt
      obtain ⟨_, ⟨⟩, hx⟩ := (r3.below b).int hlt
      have HY : Hid (dgB l q k = true → dgTo l q (k + 1) = dgTo l q k ++ [(k : Int)]) := dgTo_yes
      have HN : Hid (dgB l q k = false → dgTo l q (k + 1) = dgTo l q k) := dgTo_no
      have HB : Hid (dgB l q k = (decide (l.counts.getD k 0 = 0) || decide (l.depths.getD (k * 2) 0 < q))) := rfl
      generalize l.counts.getD k 0 = cv at *
      generalize l.depths.getD (k * 2) 0 = dk at *
      by_cases e1 : cv = 0
      · subst e1
        have HS := Lib.hid (HY.out (by rw [HB.out]; rfl))
        clear HY HN HB
        go_wp2_with (at_builtin; refine wpList_append_int1 rfl _ _ rfl w1.heap.size _ j (dgTo l q k) rfl rfl hown (by omega) hsz ?_; intro v' w' hown' hbel' _ _)
        go_roundw
        case rel => exact ⟨k + 1, j + 1, by omega, by omega, by go_num, by rw [HS.out]; exact hown', b.trans hbel'⟩
        case measure => simp [intOf]; omega
      have e1b : (cv == 0) = false := by rw [beq_eq_false_iff_ne]; exact e1
      by_cases e2 : dk < q
      · have HS := Lib.hid (HY.out (by rw [HB.out]; simp [e2]))
        clear HY HN HB e1
        go_wp2_with (at_builtin; refine wpList_append_int1 rfl _ _ rfl w1.heap.size _ j (dgTo l q k) rfl rfl hown (by omega) hsz ?_; intro v' w' hown' hbel' _ _)
        go_roundw
        case rel => exact ⟨k + 1, j + 1, by omega, by omega, by go_num, by rw [HS.out]; exact hown', b.trans hbel'⟩
        case measure => simp [intOf]; omega
      · have HS := Lib.hid (HN.out (by rw [HB.out]; simp [e1, e2]))
        clear HY HN HB e1
        go_wp2
        go_roundw
        case rel => exact ⟨k + 1, j, by omega, by omega, by go_num, by rw [HS.out]; exact hown, b⟩
        case measure => simp [intOf]; omega
    · obtain rfl : k = n := by omega
      obtain ⟨B, d, rfl, hrd, hwr, _, _⟩ := own_rd hown
      have hb2 := hb1.trans (b.mono hb1.size)
      have HT : Hid (dgR l q = dgTo l q k) := by unfold Hid; rw [HR.out.2, HE.out]
      go_wp2
      refine bodyPost_ret (v := .tuple #[.slice B j d, .int .i64 0]) (by simp [results, Try.results57, go_sem]) rfl ?_
      rw [HR.out.1, HT.out]
      exact ⟨B, j, d, rfl, hrd, hwr.lower hb1.size, by omega, hb2⟩

set_option maxHeartbeats 2000000 in
theorem drawFillGaps_any (A : Option Addr) (n c : Nat) (bs : List Int) (w : World) (r : Rd w A n (byteV bs)) (hx : ∀ x ∈ bs, 0 ≤ x ∧ x ≤ 255) (hn : n ≤ 4096) :
    Calls Try.prog 50 #[.slice A n c] w fun e w' => ∃ (A : Option Addr) (n c : Nat) (A2 : Option Addr) (n2 c2 : Nat) (l : DepthGridC), e = .returned (.agg #[.int .i64 l.size, .int .i64 l.wide, .int .i64 l.high, .slice A n c, .slice A2 n2 c2]) ∧ DepthGridOk ⟨⟨A, n, c⟩, ⟨A2, n2, c2⟩⟩ ∧ RdAll w' (DepthGridS ⟨⟨A, n, c⟩, ⟨A2, n2, c2⟩⟩ l) ∧ Below w.heap.size w w' := by
  have b0 : Below w.heap.size w (w.alloc (.cells #[.int .i64 0, .int .i64 0, .int .i64 0, .slice none 0 0, .slice none 0 0] 50)) := (Below.refl _ _).alloc (Nat.le_refl _) _
  have K0 := Blk.new w 50 #[.int .i64 0, .int .i64 0, .int .i64 0, .slice none 0 0, .slice none 0 0]
  have r0 := r.below b0
  go_enter Try.func50, Try.ntmps50
  go_wp2_with fail
  generalize w.alloc (.cells #[.int .i64 0, .int .i64 0, .int .i64 0, .slice none 0 0, .slice none 0 0] 50) = w0 at b0 K0 r0 ⊢
  refine (l01From_any A n c bs _ r0 hx hn).mono ?_
  rintro e w1 ⟨g, rfl, S1, b1⟩
  have hg := S1.lt
  have q0 := K0.lt
  have K1 := K0.below b1 q0
  have D1 := Dr.start S1
  go_wp2_with fail
  refine (l22Draw_agg _ g _ D1.src).mono ?_
  rintro e w2 ⟨A3, n3, c3, A4, n4, c4, l7, rfl, G2, E2⟩
  have D2 := D1.next E2.gr E2.src
  have K2 := K1.nx E2.gr (by omega)
  have b2 := b0.trans ((D2.fin b1).mono b0.size)
  have c2 := fun o => K2.cell o
  have f2 := fun o => K2.frozen o
  have g2 := K2.lt
  have z1 := b1.size
  go_wp2
  refine bodyPost_ret (v := .agg #[.int .i64 l7.size, .int .i64 l7.wide, .int .i64 l7.high, .slice A3 n3 c3, .slice A4 n4 c4]) (by simp [results, Try.results50, go_sem, c2]) rfl ?_
  have X := ((((G2.cell (b := w.heap.size) (i := 0) (by omega) (.int .i64 l7.size)).cell (b := w.heap.size) (i := 1) (by omega) (.int .i64 l7.wide)).cell (b := w.heap.size) (i := 2) (by omega) (.int .i64 l7.high)).cell (b := w.heap.size) (i := 3) (by omega) (.slice A3 n3 c3)).cell (b := w.heap.size) (i := 4) (by omega) (.slice A4 n4 c4)
  exact ⟨A3, n3, c3, A4, n4, c4, l7, rfl, G2.ok, X.rd, ((((b2.setCell (p := ⟨w.heap.size, 0, none⟩) (Nat.le_refl _) _).setCell (p := ⟨w.heap.size, 1, none⟩) (Nat.le_refl _) _).setCell (p := ⟨w.heap.size, 2, none⟩) (Nat.le_refl _) _).setCell (p := ⟨w.heap.size, 3, none⟩) (Nat.le_refl _) _).setCell (p := ⟨w.heap.size, 4, none⟩) (Nat.le_refl _) _⟩

set_option maxRecDepth 100000 in
set_option maxHeartbeats 4000000 in
theorem drawDangerCells_any (A : Option Addr) (n c : Nat) (bs : List Int) (w : World) (r : Rd w A n (byteV bs)) (hx : ∀ x ∈ bs, 0 ≤ x ∧ x ≤ 255) (hn : n ≤ 4096) :
    Calls Try.prog 55 #[.slice A n c] w fun e w' => ∃ (A : Option Addr) (n c : Nat) (A2 : Option Addr) (n2 c2 : Nat) (l : DepthGridC) (q : Int), e = .returned (.tuple #[.agg #[.int .i64 l.size, .int .i64 l.wide, .int .i64 l.high, .slice A n c, .slice A2 n2 c2], .int .i64 q]) ∧ DepthGridOk ⟨⟨A, n, c⟩, ⟨A2, n2, c2⟩⟩ ∧ RdAll w' (DepthGridS ⟨⟨A, n, c⟩, ⟨A2, n2, c2⟩⟩ l) ∧ Below w.heap.size w w' := by
  have b0 : Below w.heap.size w (w.alloc (.cells #[.int .i64 0, .int .i64 0, .int .i64 0, .slice none 0 0, .slice none 0 0] 50)) := (Below.refl _ _).alloc (Nat.le_refl _) _
  have K0 := Blk.new w 50 #[.int .i64 0, .int .i64 0, .int .i64 0, .slice none 0 0, .slice none 0 0]
  have r0 := r.below b0
  go_enter Try.func55, Try.ntmps55
  go_wp2_with fail
  generalize w.alloc (.cells #[.int .i64 0, .int .i64 0, .int .i64 0, .slice none 0 0, .slice none 0 0] 50) = w0 at b0 K0 r0 ⊢
  refine (l01From_any A n c bs _ r0 hx hn).mono ?_
  rintro e w1 ⟨g, rfl, S1, b1⟩
  have hg := S1.lt
  have q0 := K0.lt
  have K0 := K0.below b1 q0
  have D1 := Dr.start S1
  have z1 := b1.size
  clear S1 r r0
  go_wp2_with fail
  refine (l22Draw_agg _ g _ D1.src).mono ?_
  rintro e w2 ⟨A3, n3, c3, A4, n4, c4, l7, rfl, G2, E2⟩
  have D2 := D1.next E2.gr E2.src
  have K0 := K0.nx E2.gr (by omega)
  have z2 : w1.heap.size ≤ w2.heap.size := E2.size
  clear D1 E2
  go_upto_region 3 with fail
  have BQ := Blk.new w2 50 #[.int .i64 l7.size, .int .i64 l7.wide, .int .i64 l7.high, .slice A3 n3 c3, .slice A4 n4 c4]
  have D3 := D2.alloc (.cells #[.int .i64 l7.size, .int .i64 l7.wide, .int .i64 l7.high, .slice A3 n3 c3, .slice A4 n4 c4] 50)
  have K0 := K0.alloc (.cells #[.int .i64 l7.size, .int .i64 l7.wide, .int .i64 l7.high, .slice A3 n3 c3, .slice A4 n4 c4] 50)
  have G3 := G2.alloc (.cells #[.int .i64 l7.size, .int .i64 l7.wide, .int .i64 l7.high, .slice A3 n3 c3, .slice A4 n4 c4] 50)
  generalize w2.alloc (.cells #[.int .i64 l7.size, .int .i64 l7.wide, .int .i64 l7.high, .slice A3 n3 c3, .slice A4 n4 c4] 50) = w3 at BQ D3 K0 G3 ⊢
  obtain ⟨Q, hQ⟩ : ∃ Q, w2.heap.size = Q := ⟨_, rfl⟩
  rw [hQ] at BQ z2 ⊢
  clear D2 G2 hQ
  have hQg : g ≠ Q := by omega
  have hQr0 : w.heap.size ≠ Q := by omega
  have hQr1 : Q ≠ w.heap.size := by omega
  go_wp2_with fail
  refine (l01Next_any _ g 20 _ D3.src (by decide)).mono ?_
  rintro e w4 ⟨q, rfl, qa, qb, g4, S4⟩
  have D4 := D3.next g4 S4
  have K0 := K0.nx g4 (by omega)
  have B4 := BQ.nx g4 hQg
  have G4 := G3.nx g4 (by omega)
  clear D3 BQ G3 g4 S4
  by_cases hq : q = 0
  · subst hq
    clear qa qb
    have hS6 := fun o => (Blk.drew B4).cell o
    have hP : Calls Try.prog 97 #[.pointer (some ⟨g, 0, none⟩), .slice (some ⟨w4.heap.size, 0, none⟩) 4 4] (w4.alloc (.cells #[.int .i64 (-1), .int .i64 0, .int .i64 1000000, .int .i64 1000001] 2)).drew (PickPost _ g [-1, 0, 1000000, 1000001] (w4.alloc (.cells #[.int .i64 (-1), .int .i64 0, .int .i64 1000000, .int .i64 1000001] 2)).drew) := pick_drew _ g [-1, 0, 1000000, 1000001] 4 w4 D4.src rfl (by decide) (by decide)
    have D6 := (D4.alloc (.cells #[.int .i64 (-1), .int .i64 0, .int .i64 1000000, .int .i64 1000001] 2)).drew
    have K6 := Blk.drew (K0.alloc (.cells #[.int .i64 (-1), .int .i64 0, .int .i64 1000000, .int .i64 1000001] 2))
    have B6 := Blk.drew (B4.alloc (.cells #[.int .i64 (-1), .int .i64 0, .int .i64 1000000, .int .i64 1000001] 2))
    have G6 := (G4.alloc (.cells #[.int .i64 (-1), .int .i64 0, .int .i64 1000000, .int .i64 1000001] 2)).bel (Below.drew (Below.refl _ _))
    have hT6 := fun o => B6.cell o
    go_wp2_with fail
    go_region_held3 (fun w' => ∀ o, w'.cell? ⟨Q, o, none⟩ = (#[.int .i64 l7.size, .int .i64 l7.wide, .int .i64 l7.high, .slice A3 n3 c3, .slice A4 n4 c4] : Array Value)[o]?)
      (first | (with_reducible assumption) | (intro o; go_keep))
      (first
        | (go_at_call 97; (with_reducible refine hP.mono ?_); rintro e w17 ⟨v, -, rfl, g9, S9⟩; have D7 := D6.next g9 S9; have K7 := K6.nx g9 (by omega); have B7 := B6.nx g9 hQg; have G7 := G6.nx g9 (by omega); have hS7 := fun o => B7.cell o; have c0 := fun o => K7.cell o; have f0 := fun o => K7.frozen o; have g0 := K7.lt))
    all_goals
      have HB := b0.trans ((D7.fin b1).mono b0.size)
      have N0 : Blk (((((w17.setCell ⟨w.heap.size, 0, none⟩ (.int .i64 l7.size)).setCell ⟨w.heap.size, 1, none⟩ (.int .i64 l7.wide)).setCell ⟨w.heap.size, 2, none⟩ (.int .i64 l7.high)).setCell ⟨w.heap.size, 3, none⟩ (.slice A3 n3 c3)).setCell ⟨w.heap.size, 4, none⟩ (.slice A4 n4 c4)) w.heap.size 50 #[.int .i64 l7.size, .int .i64 l7.wide, .int .i64 l7.high, .slice A3 n3 c3, .slice A4 n4 c4] := (((((K7.set_ 0 (.int .i64 l7.size)).set_ 1 (.int .i64 l7.wide)).set_ 2 (.int .i64 l7.high)).set_ 3 (.slice A3 n3 c3)).set_ 4 (.slice A4 n4 c4))
      have NB : Below w.heap.size w (((((w17.setCell ⟨w.heap.size, 0, none⟩ (.int .i64 l7.size)).setCell ⟨w.heap.size, 1, none⟩ (.int .i64 l7.wide)).setCell ⟨w.heap.size, 2, none⟩ (.int .i64 l7.high)).setCell ⟨w.heap.size, 3, none⟩ (.slice A3 n3 c3)).setCell ⟨w.heap.size, 4, none⟩ (.slice A4 n4 c4)) := (((((HB.setCell (p := ⟨w.heap.size, 0, none⟩) (Nat.le_refl _) (.int .i64 l7.size)).setCell (p := ⟨w.heap.size, 1, none⟩) (Nat.le_refl _) (.int .i64 l7.wide)).setCell (p := ⟨w.heap.size, 2, none⟩) (Nat.le_refl _) (.int .i64 l7.high)).setCell (p := ⟨w.heap.size, 3, none⟩) (Nat.le_refl _) (.slice A3 n3 c3)).setCell (p := ⟨w.heap.size, 4, none⟩) (Nat.le_refl _) (.slice A4 n4 c4))
      have NX := (((((G7.cell (b := w.heap.size) (i := 0) (by omega) (.int .i64 l7.size)).cell (b := w.heap.size) (i := 1) (by omega) (.int .i64 l7.wide)).cell (b := w.heap.size) (i := 2) (by omega) (.int .i64 l7.high)).cell (b := w.heap.size) (i := 3) (by omega) (.slice A3 n3 c3)).cell (b := w.heap.size) (i := 4) (by omega) (.slice A4 n4 c4))
      clear HB
      generalize (((((w17.setCell ⟨w.heap.size, 0, none⟩ (.int .i64 l7.size)).setCell ⟨w.heap.size, 1, none⟩ (.int .i64 l7.wide)).setCell ⟨w.heap.size, 2, none⟩ (.int .i64 l7.high)).setCell ⟨w.heap.size, 3, none⟩ (.slice A3 n3 c3)).setCell ⟨w.heap.size, 4, none⟩ (.slice A4 n4 c4)) = wz at N0 NB NX ⊢
      have y0 := fun o => N0.cell o
      have p0 := N0.lt
      go_wp2
      refine bodyPost_ret (v := .tuple #[.agg #[.int .i64 l7.size, .int .i64 l7.wide, .int .i64 l7.high, .slice A3 n3 c3, .slice A4 n4 c4], .int .i64 v]) (by simp [results, Try.results55, go_sem, y0]) rfl ?_
      exact ⟨A3, n3, c3, A4, n4, c4, l7, _, rfl, NX.ok, NX.rd, NB⟩
  have hqb : (q == 0) = false := by rw [beq_eq_false_iff_ne]; exact hq
  clear hq
  have hS6 := fun o => (Blk.drew B4).cell o
  have hP := fun (W : World) (S : Src W w0.heap.size g) => l01Next_any w0.heap.size g 140 W S (by decide)
  have D6 := D4.drew
  have K6 := Blk.drew K0
  have B6 := Blk.drew B4
  have G6 := G4.bel (Below.drew (Below.refl _ _))
  have HP := hP _ D6.src
  clear hP
  go_wp2_with fail
  go_region_held3 (fun w' => ∀ o, w'.cell? ⟨Q, o, none⟩ = (#[.int .i64 l7.size, .int .i64 l7.wide, .int .i64 l7.high, .slice A3 n3 c3, .slice A4 n4 c4] : Array Value)[o]?)
    (first | (with_reducible assumption) | (intro o; go_keep))
    (first
      | (go_at_call 96; (with_reducible refine HP.mono ?_); rintro e w17 ⟨v, rfl, va, vb, g9, S9⟩; have D7 := D6.next g9 S9; have K7 := K6.nx g9 (by omega); have B7 := B6.nx g9 hQg; have G7 := G6.nx g9 (by omega); have hS7 := fun o => B7.cell o; have c0 := fun o => K7.cell o; have f0 := fun o => K7.frozen o; have g0 := K7.lt; have u9 : IntKind.i64.wrap (960 + v) = 960 + v := IntWalk.i64_in _ (by omega)))
  all_goals
  have HB := b0.trans ((D7.fin b1).mono b0.size)
  have N0 : Blk (((((w17.setCell ⟨w.heap.size, 0, none⟩ (.int .i64 l7.size)).setCell ⟨w.heap.size, 1, none⟩ (.int .i64 l7.wide)).setCell ⟨w.heap.size, 2, none⟩ (.int .i64 l7.high)).setCell ⟨w.heap.size, 3, none⟩ (.slice A3 n3 c3)).setCell ⟨w.heap.size, 4, none⟩ (.slice A4 n4 c4)) w.heap.size 50 #[.int .i64 l7.size, .int .i64 l7.wide, .int .i64 l7.high, .slice A3 n3 c3, .slice A4 n4 c4] := (((((K7.set_ 0 (.int .i64 l7.size)).set_ 1 (.int .i64 l7.wide)).set_ 2 (.int .i64 l7.high)).set_ 3 (.slice A3 n3 c3)).set_ 4 (.slice A4 n4 c4))
  have NB : Below w.heap.size w (((((w17.setCell ⟨w.heap.size, 0, none⟩ (.int .i64 l7.size)).setCell ⟨w.heap.size, 1, none⟩ (.int .i64 l7.wide)).setCell ⟨w.heap.size, 2, none⟩ (.int .i64 l7.high)).setCell ⟨w.heap.size, 3, none⟩ (.slice A3 n3 c3)).setCell ⟨w.heap.size, 4, none⟩ (.slice A4 n4 c4)) := (((((HB.setCell (p := ⟨w.heap.size, 0, none⟩) (Nat.le_refl _) (.int .i64 l7.size)).setCell (p := ⟨w.heap.size, 1, none⟩) (Nat.le_refl _) (.int .i64 l7.wide)).setCell (p := ⟨w.heap.size, 2, none⟩) (Nat.le_refl _) (.int .i64 l7.high)).setCell (p := ⟨w.heap.size, 3, none⟩) (Nat.le_refl _) (.slice A3 n3 c3)).setCell (p := ⟨w.heap.size, 4, none⟩) (Nat.le_refl _) (.slice A4 n4 c4))
  have NX := (((((G7.cell (b := w.heap.size) (i := 0) (by omega) (.int .i64 l7.size)).cell (b := w.heap.size) (i := 1) (by omega) (.int .i64 l7.wide)).cell (b := w.heap.size) (i := 2) (by omega) (.int .i64 l7.high)).cell (b := w.heap.size) (i := 3) (by omega) (.slice A3 n3 c3)).cell (b := w.heap.size) (i := 4) (by omega) (.slice A4 n4 c4))
  clear HB
  generalize (((((w17.setCell ⟨w.heap.size, 0, none⟩ (.int .i64 l7.size)).setCell ⟨w.heap.size, 1, none⟩ (.int .i64 l7.wide)).setCell ⟨w.heap.size, 2, none⟩ (.int .i64 l7.high)).setCell ⟨w.heap.size, 3, none⟩ (.slice A3 n3 c3)).setCell ⟨w.heap.size, 4, none⟩ (.slice A4 n4 c4)) = wz at N0 NB NX ⊢
  have y0 := fun o => N0.cell o
  have p0 := N0.lt
  go_wp2
  refine bodyPost_ret (v := .tuple #[.agg #[.int .i64 l7.size, .int .i64 l7.wide, .int .i64 l7.high, .slice A3 n3 c3, .slice A4 n4 c4], .int .i64 (960 + v)]) (by simp [results, Try.results55, go_sem, y0]) rfl ?_
  exact ⟨A3, n3, c3, A4, n4, c4, l7, _, rfl, NX.ok, NX.rd, NB⟩

end Go.Proofs.Ythmcnoloeeabbaa
