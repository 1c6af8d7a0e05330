/- The shoalest cell of a grid, both sides. Condition: lists of at most 1048576 elements. -/
import Derived.Test.YthmcnoloeeabbaaFilP
import Derived.Test.YthmcnoloeeabbaaGriB
import Derived.Test.YthmcnoloeeabbaaGriD
import Derived.StillTailTactics
import Derived.Outline
import Derived.Deep.DeepCutAuto
namespace Go.Proofs.Ythmcnoloeeabbaa
open Go.RowKit

set_option maxRecDepth 100000 in
set_option maxHeartbeats 4000000 in
theorem implShoalestCell_any (h : DepthGridH) (l : DepthGridC) (w : World) (ok : DepthGridOk h) (hr : RdAll w (DepthGridS h l)) :
    Calls Try.prog 51 #[DepthGridV h l] w fun e w' => e = .returned (.tuple #[.int .i64 (shV l), .int .i64 (shC l)]) ∧ Below w.heap.size w w' := by
  unfold DepthGridV
  go_enter Try.func51, Try.ntmps51
  go_wp2_with fail
  refine (implIsDepthGrid_any h l _ ok (hr.below (by (repeat (first | (with_reducible assumption) | (with_reducible exact Below.refl _ _) | (with_reducible refine Below.drew ?_) | (with_reducible refine Below.drewN ?_ _) | (with_reducible refine Below.setCell ?_ ?_ _) | (with_reducible refine Below.alloc ?_ ?_ _) | assumption)); all_goals (first | omega | (simp; done) | (simp; omega))))).mono ?_
  rintro e w1 ⟨rfl, b1⟩
  have hb1 : Below w.heap.size w w1 := (show Below w.heap.size w _ from (by (repeat (first | (with_reducible assumption) | (with_reducible exact Below.refl _ _) | (with_reducible refine Below.drew ?_) | (with_reducible refine Below.drewN ?_ _) | (with_reducible refine Below.setCell ?_ ?_ _) | (with_reducible refine Below.alloc ?_ ?_ _) | assumption)); all_goals (first | omega | (simp; done) | (simp; omega)))).trans (b1.mono (by first | omega | (simp; done) | (simp; omega)))
  have K0 : Blk w1 w.heap.size 50 #[.int .i64 l.size, .int .i64 l.wide, .int .i64 l.high, .slice h.counts.A h.counts.n h.counts.c, .slice h.depths.A h.depths.n h.depths.c] := Blk.below (Blk.new _ _ _) b1 (by first | omega | (simp; done) | (simp; omega))
  clear b1
  rcases Bool.eq_false_or_eq_true (gridOk l) with o0 | o0
  case inr =>
    have HM := Lib.hid (sh_bad o0)
    have c0 := fun o => K0.cell o
    rw [o0]
    clear o0
    go_wp2
    refine bodyPost_ret (v := .tuple #[.int .i64 0, .int .i64 1]) (by simp [results, Try.results51, go_sem]) rfl ?_
    rw [HM.out.1, HM.out.2]
    exact ⟨rfl, hb1⟩
  have M := GOk.of o0
  have HO := Lib.hid o0
  rw [o0]
  clear o0
  have r3 : Rd w1 h.counts.A h.counts.n (ints l.counts) := (hr.below hb1).head
  have r4 : Rd w1 h.depths.A (h.depths.n * 2) (ints l.depths) := (hr.below hb1).tail.head
  obtain ⟨⟨A3, n, c3⟩, ⟨A4, m, c4⟩⟩ := h
  have e3 : l.counts.length = n := r3.len
  have e4 : l.depths.length = m * 2 := r4.len
  have hbd := M.bd
  have hn9 : n ≤ 900 ∧ 1 ≤ n := by omega
  obtain rfl : n = m := by have := M.eq; omega
  have HE := Lib.hid e3
  have HM := Lib.hid M
  clear e3 e4 hbd M hr ok
  obtain ⟨a3, rfl, -⟩ := r3.int (show 0 < n by omega)
  obtain ⟨a4, rfl, -, -⟩ := r4.two (show 0 < n by omega)
  simp only at K0
  have c0 := fun o => K0.cell o
  have g0 := K0.lt
  go_upto_region 5 with fail
  go_loopw [4, 13] (fun b i wr => ∃ k : Nat, k ≤ n ∧ i = .int .i64 k ∧ b = .int .i64 (shTo l k) ∧ Below w1.heap.size w1 wr) (fun _ i _ => n - (intOf i).toNat)
  case atStart => exact ⟨0, Nat.zero_le _, rfl, rfl, Below.refl _ _⟩
  case round =>
    obtain ⟨k, hk, rfl, rfl, b⟩ := hrel
    have K := K0.below b g0
    have g1 := K.lt
    clear c0
    have c0 := fun o => K.cell o
    have hbs := b.size
    by_cases hlt : k < n
    · have hltI : (k : Int) < (n : Int) := by omega
      have hk0 : (0 : Int) ≤ (k : Int) := by omega
      obtain ⟨_, ⟨⟩, hd0, hd1⟩ := (r4.below b).two hlt
      obtain ⟨dk, hdk⟩ : ∃ d : Int, l.depths.getD (k * 2) 0 = d := ⟨_, rfl⟩
      obtain ⟨ek, hek⟩ : ∃ d : Int, l.depths.getD (k * 2 + 1) 0 = d := ⟨_, rfl⟩
      rw [hdk] at hd0
      rw [hek] at hd1
      have HDK := Lib.hid hdk
      clear hdk hek
      go_upto_region 7 with fail
      have K2 := K.alloc (.cells #[.int .i64 dk, .int .i64 ek] 82)
      have J := Blk.new wr 82 #[.int .i64 dk, .int .i64 ek]
      have b2 : Below w1.heap.size w1 (wr.alloc (.cells #[.int .i64 dk, .int .i64 ek] 82)) := b.alloc hbs _
      generalize wr.alloc (.cells #[.int .i64 dk, .int .i64 ek] 82) = w2 at K2 J b2 ⊢
      generalize wr.heap.size = gj at J hbs ⊢
      clear c0 K hd0 hd1 b
      have c0 := fun o => K2.cell o
      have cJ := fun o => J.cell o
      obtain ⟨_, ⟨⟩, hx⟩ := (r3.below b2).int hlt
      obtain ⟨_, ⟨⟩, hd0, -⟩ := (r4.below b2).two hlt
      rw [HDK.out] at hd0
      have sb := shTo_bd l k
      have HY : l.counts.getD k 0 ≠ 0 → (shTo l k < 0 ∨ l.depths.getD (k * 2) 0 < l.depths.getD ((shTo l k).toNat * 2) 0) → shTo l (k + 1) = (k : Int) := shTo_yes
      have HN : ¬ (l.counts.getD k 0 ≠ 0 ∧ (shTo l k < 0 ∨ l.depths.getD (k * 2) 0 < l.depths.getD ((shTo l k).toNat * 2) 0)) → shTo l (k + 1) = shTo l k := shTo_no
      rw [HDK.out] at HY HN
      have HY3 := Lib.hid HY
      have HN3 := Lib.hid HN
      clear HY HN
      have HY := HY3
      have HN := HN3
      clear HY3 HN3
      have HLO : Hid (∀ q : Nat, shTo l k = (q : Int) → w2.cell? (a4.add (q * 2)) = some (.int .i64 (l.depths.getD (q * 2) 0))) := fun q hq => by
        obtain ⟨_, ⟨⟩, h1, _⟩ := (r4.below b2).two (k := q) (by omega)
        exact h1
      by_cases e1 : l.counts.getD k 0 = 0
      · have HS : Hid (shTo l (k + 1) = shTo l k) := HN.out (fun c => c.1 e1)
        rw [e1] at hx
        clear HY HN HLO e1
        generalize shTo l k = s at *
        go_quiet (fail)
        go_wp2
        go_roundw
        case rel => exact ⟨k + 1, by omega, by go_num, by rw [HS.out], Below.drewN b2 _⟩
        case measure => simp [intOf]; omega
      have e1b : (l.counts.getD k 0 == 0) = false := by rw [beq_eq_false_iff_ne]; exact e1
      have e1c : (l.counts.getD k 0 != 0) = true := by simpa using e1
      by_cases e2 : shTo l k < 0
      · have HS : Hid (shTo l (k + 1) = (k : Int)) := HY.out e1 (.inl e2)
        have e2b : decide (shTo l k < 0) = true := by simpa using e2
        clear HY HN HLO e1
        generalize shTo l k = s at *
        generalize l.counts.getD k 0 = cv at *
        go_quiet (fail)
        go_wp2
        go_roundw
        case rel => exact ⟨k + 1, by omega, by go_num, by rw [HS.out], Below.drewN b2 _⟩
        case measure => simp [intOf]; omega
      have e2b : decide (shTo l k < 0) = false := by simpa using e2
      obtain ⟨q, hq⟩ : ∃ q : Nat, shTo l k = (q : Int) := ⟨(shTo l k).toNat, by omega⟩
      have hlo := HLO.out q hq
      have hqn : q < n := by omega
      have HY2 := HY.out
      have HN2 := HN.out
      rw [hq, Int.toNat_natCast] at HY2 HN2
      rw [hq] at e2b sb ⊢
      have HY := Lib.hid HY2
      have HN := Lib.hid HN2
      clear HY2 HN2 HLO hq e2
      have hqI : (q : Int) < (n : Int) := by omega
      have hq0 : (0 : Int) ≤ (q : Int) := by omega
      by_cases e3 : dk < l.depths.getD (q * 2) 0
      · have HS : Hid (shTo l (k + 1) = (k : Int)) := HY.out e1 (.inr e3)
        have e3b : decide (dk < l.depths.getD (q * 2) 0) = true := by simpa using e3
        clear HY HN e1 e3 sb
        generalize l.counts.getD k 0 = cv at *
        generalize l.depths.getD (q * 2) 0 = dq at *
        go_quiet (fail)
        go_wp2
        go_roundw
        case rel => exact ⟨k + 1, by omega, by go_num, by rw [HS.out], Below.drewN b2 _⟩
        case measure => simp [intOf]; omega
      · have HS : Hid (shTo l (k + 1) = (q : Int)) := HN.out (fun c => by rcases c.2 with c | c <;> omega)
        have e3b : decide (dk < l.depths.getD (q * 2) 0) = false := by simpa using e3
        clear HY HN e1 e3 sb
        generalize l.counts.getD k 0 = cv at *
        generalize l.depths.getD (q * 2) 0 = dq at *
        go_quiet (fail)
        go_wp2
        go_roundw
        case rel => exact ⟨k + 1, by omega, by go_num, by rw [HS.out], Below.drewN b2 _⟩
        case measure => simp [intOf]; omega
    · obtain rfl : k = n := by omega
      have hb2 := hb1.trans (b.mono hb1.size)
      have HB : Hid (l.counts.length = k) := HE
      have H1 : Hid (shTo l k < 0 → shC l = 4 ∧ shV l = 0) := fun h => sh_none HO.out (by rw [HB.out]; exact h)
      have H2 : Hid (0 ≤ shTo l k → shC l = 0 ∧ shV l = shTo l k) := fun h => by have := sh_some HO.out (by rw [HB.out]; exact h); rwa [HB.out] at this
      generalize shTo l k = s at *
      by_cases e2 : s < 0
      · have HR := Lib.hid (H1.out e2)
        clear H1 H2
        go_wp2
        refine bodyPost_ret (v := .tuple #[.int .i64 0, .int .i64 4]) (by simp [results, Try.results51, go_sem]) rfl ?_
        rw [HR.out.1, HR.out.2]
        exact ⟨rfl, hb2⟩
      · have HR := Lib.hid (H2.out (by omega))
        clear H1 H2
        go_wp2
        refine bodyPost_ret (v := .tuple #[.int .i64 s, .int .i64 0]) (by simp [results, Try.results51, go_sem]) rfl ?_
        rw [HR.out.1, HR.out.2]
        exact ⟨rfl, hb2⟩

set_option maxRecDepth 100000 in
set_option maxHeartbeats 4000000 in
theorem specShoalestCell_any (h : DepthGridH) (l : DepthGridC) (w : World) (ok : DepthGridOk h) (hr : RdAll w (DepthGridS h l)) :
    Calls Try.prog 52 #[DepthGridV h l] w fun e w' => e = .returned (.tuple #[.int .i64 (shV l), .int .i64 (shC l)]) ∧ Below w.heap.size w w' := by
  unfold DepthGridV
  go_enter Try.func52, Try.ntmps52
  go_wp2_with fail
  refine (specIsDepthGrid_any h l _ ok (hr.below (by (repeat (first | (with_reducible assumption) | (with_reducible exact Below.refl _ _) | (with_reducible refine Below.drew ?_) | (with_reducible refine Below.drewN ?_ _) | (with_reducible refine Below.setCell ?_ ?_ _) | (with_reducible refine Below.alloc ?_ ?_ _) | assumption)); all_goals (first | omega | (simp; done) | (simp; omega))))).mono ?_
  rintro e w1 ⟨rfl, b1⟩
  have hb1 : Below w.heap.size w w1 := (show Below w.heap.size w _ from (by (repeat (first | (with_reducible assumption) | (with_reducible exact Below.refl _ _) | (with_reducible refine Below.drew ?_) | (with_reducible refine Below.drewN ?_ _) | (with_reducible refine Below.setCell ?_ ?_ _) | (with_reducible refine Below.alloc ?_ ?_ _) | assumption)); all_goals (first | omega | (simp; done) | (simp; omega)))).trans (b1.mono (by first | omega | (simp; done) | (simp; omega)))
  have K0 : Blk w1 w.heap.size 50 #[.int .i64 l.size, .int .i64 l.wide, .int .i64 l.high, .slice h.counts.A h.counts.n h.counts.c, .slice h.depths.A h.depths.n h.depths.c] := Blk.below (Blk.new _ _ _) b1 (by first | omega | (simp; done) | (simp; omega))
  clear b1
  rcases Bool.eq_false_or_eq_true (gridOk l) with o0 | o0
  case inr =>
    have HM := Lib.hid (sh_bad o0)
    have c0 := fun o => K0.cell o
    rw [o0]
    clear o0
    go_wp2
    refine bodyPost_ret (v := .tuple #[.int .i64 0, .int .i64 1]) (by simp [results, Try.results52, go_sem]) rfl ?_
    rw [HM.out.1, HM.out.2]
    exact ⟨rfl, hb1⟩
  have M := GOk.of o0
  have HO := Lib.hid o0
  rw [o0]
  clear o0
  have r3 : Rd w1 h.counts.A h.counts.n (ints l.counts) := (hr.below hb1).head
  have r4 : Rd w1 h.depths.A (h.depths.n * 2) (ints l.depths) := (hr.below hb1).tail.head
  obtain ⟨⟨A3, n, c3⟩, ⟨A4, m, c4⟩⟩ := h
  have e3 : l.counts.length = n := r3.len
  have e4 : l.depths.length = m * 2 := r4.len
  have hbd := M.bd
  have hn9 : n ≤ 900 ∧ 1 ≤ n := by omega
  obtain rfl : n = m := by have := M.eq; omega
  have HE := Lib.hid e3
  have HM := Lib.hid M
  clear e3 e4 hbd M hr ok
  obtain ⟨a3, rfl, -⟩ := r3.int (show 0 < n by omega)
  obtain ⟨a4, rfl, -, -⟩ := r4.two (show 0 < n by omega)
  simp only at K0
  have c0 := fun o => K0.cell o
  have g0 := K0.lt
  go_upto_region 5 with fail
  go_loopw [4, 5] (fun b i wr => ∃ k : Nat, k ≤ n ∧ i = .int .i64 k ∧ b = .int .i64 (shTo l k) ∧ Below w1.heap.size w1 wr) (fun _ i _ => n - (intOf i).toNat)
  case atStart => exact ⟨0, Nat.zero_le _, rfl, rfl, Below.refl _ _⟩
  case round =>
    obtain ⟨k, hk, rfl, rfl, b⟩ := hrel
    have K := K0.below b g0
    have g1 := K.lt
    clear c0
    have c0 := fun o => K.cell o
    have hbs := b.size
    by_cases hlt : k < n
    · have hltI : (k : Int) < (n : Int) := by omega
      have hk0 : (0 : Int) ≤ (k : Int) := by omega
      obtain ⟨_, ⟨⟩, hd0, hd1⟩ := (r4.below b).two hlt
      obtain ⟨dk, hdk⟩ : ∃ d : Int, l.depths.getD (k * 2) 0 = d := ⟨_, rfl⟩
      obtain ⟨ek, hek⟩ : ∃ d : Int, l.depths.getD (k * 2 + 1) 0 = d := ⟨_, rfl⟩
      rw [hdk] at hd0
      rw [hek] at hd1
      have HDK := Lib.hid hdk
      clear hdk hek
      clear hd0 hd1
      go_upto_region 7 with fail
      have b2 := b
      obtain ⟨w2, rfl⟩ : ∃ x : World, x = wr := ⟨_, rfl⟩
      clear b
      obtain ⟨_, ⟨⟩, hx⟩ := (r3.below b2).int hlt
      obtain ⟨_, ⟨⟩, hd0, -⟩ := (r4.below b2).two hlt
      rw [HDK.out] at hd0
      have sb := shTo_bd l k
      have HY : l.counts.getD k 0 ≠ 0 → (shTo l k < 0 ∨ l.depths.getD (k * 2) 0 < l.depths.getD ((shTo l k).toNat * 2) 0) → shTo l (k + 1) = (k : Int) := shTo_yes
      have HN : ¬ (l.counts.getD k 0 ≠ 0 ∧ (shTo l k < 0 ∨ l.depths.getD (k * 2) 0 < l.depths.getD ((shTo l k).toNat * 2) 0)) → shTo l (k + 1) = shTo l k := shTo_no
      rw [HDK.out] at HY HN
      have HY3 := Lib.hid HY
      have HN3 := Lib.hid HN
      clear HY HN
      have HY := HY3
      have HN := HN3
      clear HY3 HN3
      have HLO : Hid (∀ q : Nat, shTo l k = (q : Int) → w2.cell? (a4.add (q * 2)) = some (.int .i64 (l.depths.getD (q * 2) 0))) := fun q hq => by
        obtain ⟨_, ⟨⟩, h1, _⟩ := (r4.below b2).two (k := q) (by omega)
        exact h1
      by_cases e1 : l.counts.getD k 0 = 0
      · have HS : Hid (shTo l (k + 1) = shTo l k) := HN.out (fun c => c.1 e1)
        rw [e1] at hx
        clear HY HN HLO e1
        generalize shTo l k = s at *
        go_quiet (fail)
        go_wp2
        go_roundw
        case rel => exact ⟨k + 1, by omega, by go_num, by rw [HS.out], Below.drewN b2 _⟩
        case measure => simp [intOf]; omega
      have e1b : (l.counts.getD k 0 == 0) = false := by rw [beq_eq_false_iff_ne]; exact e1
      have e1c : (l.counts.getD k 0 != 0) = true := by simpa using e1
      by_cases e2 : shTo l k < 0
      · have HS : Hid (shTo l (k + 1) = (k : Int)) := HY.out e1 (.inl e2)
        have e2b : decide (shTo l k < 0) = true := by simpa using e2
        clear HY HN HLO e1
        generalize shTo l k = s at *
        generalize l.counts.getD k 0 = cv at *
        go_quiet (fail)
        go_wp2
        go_roundw
        case rel => exact ⟨k + 1, by omega, by go_num, by rw [HS.out], Below.drewN b2 _⟩
        case measure => simp [intOf]; omega
      have e2b : decide (shTo l k < 0) = false := by simpa using e2
      obtain ⟨q, hq⟩ : ∃ q : Nat, shTo l k = (q : Int) := ⟨(shTo l k).toNat, by omega⟩
      have hlo := HLO.out q hq
      have hqn : q < n := by omega
      have HY2 := HY.out
      have HN2 := HN.out
      rw [hq, Int.toNat_natCast] at HY2 HN2
      rw [hq] at e2b sb ⊢
      have HY := Lib.hid HY2
      have HN := Lib.hid HN2
      clear HY2 HN2 HLO hq e2
      have hqI : (q : Int) < (n : Int) := by omega
      have hq0 : (0 : Int) ≤ (q : Int) := by omega
      by_cases e3 : dk < l.depths.getD (q * 2) 0
      · have HS : Hid (shTo l (k + 1) = (k : Int)) := HY.out e1 (.inr e3)
        have e3b : decide (dk < l.depths.getD (q * 2) 0) = true := by simpa using e3
        clear HY HN e1 e3 sb
        generalize l.counts.getD k 0 = cv at *
        generalize l.depths.getD (q * 2) 0 = dq at *
        go_quiet (fail)
        go_wp2
        go_roundw
        case rel => exact ⟨k + 1, by omega, by go_num, by rw [HS.out], Below.drewN b2 _⟩
        case measure => simp [intOf]; omega
      · have HS : Hid (shTo l (k + 1) = (q : Int)) := HN.out (fun c => by rcases c.2 with c | c <;> omega)
        have e3b : decide (dk < l.depths.getD (q * 2) 0) = false := by simpa using e3
        clear HY HN e1 e3 sb
        generalize l.counts.getD k 0 = cv at *
        generalize l.depths.getD (q * 2) 0 = dq at *
        go_quiet (fail)
        go_wp2
        go_roundw
        case rel => exact ⟨k + 1, by omega, by go_num, by rw [HS.out], Below.drewN b2 _⟩
        case measure => simp [intOf]; omega
    · obtain rfl : k = n := by omega
      have hb2 := hb1.trans (b.mono hb1.size)
      have HB : Hid (l.counts.length = k) := HE
      have H1 : Hid (shTo l k < 0 → shC l = 4 ∧ shV l = 0) := fun h => sh_none HO.out (by rw [HB.out]; exact h)
      have H2 : Hid (0 ≤ shTo l k → shC l = 0 ∧ shV l = shTo l k) := fun h => by have := sh_some HO.out (by rw [HB.out]; exact h); rwa [HB.out] at this
      generalize shTo l k = s at *
      by_cases e2 : s < 0
      · have HR := Lib.hid (H1.out e2)
        clear H1 H2
        go_wp2
        refine bodyPost_ret (v := .tuple #[.int .i64 0, .int .i64 4]) (by simp [results, Try.results52, go_sem]) rfl ?_
        rw [HR.out.1, HR.out.2]
        exact ⟨rfl, hb2⟩
      · have HR := Lib.hid (H2.out (by omega))
        clear H1 H2
        go_wp2
        refine bodyPost_ret (v := .tuple #[.int .i64 s, .int .i64 0]) (by simp [results, Try.results52, go_sem]) rfl ?_
        rw [HR.out.1, HR.out.2]
        exact ⟨rfl, hb2⟩

end Go.Proofs.Ythmcnoloeeabbaa
