/- The record of a line, the reference's side. Conditions: a length. -/
import Derived.Test.YtoledbicmghmbaaGreatDoorStE
import Derived.Test.YtoledbicmghmbaaGreatDoorRecW
import Derived.Deep.RegionHeld3
import Derived.StillTailTactics
namespace Go.Proofs.YtoledbicmghmbaaGreatDoor
open Go.RowKit

theorem splitC_last (c : UInt8) (s : Bs) : (splitC c s).dropLast = (splitC c s).take ((splitC c s).length - 1) := List.dropLast_eq_take
theorem rr_bad1 {s : Bs} (h : sgAll (splitC 32 s).dropLast = false) : rrB s = false ∧ rrR s = R7.z := by
  have hb : rrB s = false := by unfold rrB; rw [h]; rfl
  exact ⟨hb, by unfold rrR; rw [hb]; rfl⟩
theorem rr_bad2 {s : Bs} (h : ¬ 2 ≤ (splitC 32 s).dropLast.length) : rrB s = false ∧ rrR s = R7.z := by
  have hb : rrB s = false := by unfold rrB; rw [decide_eq_false h]; simp
  exact ⟨hb, by unfold rrR; rw [hb]; rfl⟩
theorem rr_fin {s : Bs} (h : sgAll (splitC 32 s).dropLast = true) (h2 : 2 ≤ (splitC 32 s).dropLast.length) :
    s ≠ [] ∧ ((R7.of ((splitC 32 s).dropLast.map sgN)).t0 = s → rrB s = true ∧ rrR s = R7.of ((splitC 32 s).dropLast.map sgN)) ∧ (¬ (R7.of ((splitC 32 s).dropLast.map sgN)).t0 = s → rrB s = false ∧ rrR s = R7.z) := by
  have hne : s ≠ [] := by intro c; subst c; simp [splitC] at h2
  refine ⟨hne, fun e => ?_, fun e => ?_⟩
  · unfold R7.t0 at e
    split at e
    · rename_i hok
      have hb : rrB s = true := by
        unfold rrB rrS
        rw [h, decide_eq_true h2, decide_eq_true e, hok]
        rfl
      exact ⟨hb, by unfold rrR; rw [hb]; rfl⟩
    · exact absurd e.symm hne
  · have hb : rrB s = false := by
      rw [Bool.eq_false_iff]; intro c
      unfold rrB rrS at c
      simp only [Bool.and_eq_true, decide_eq_true_eq] at c
      refine e ?_
      unfold R7.t0
      rw [if_pos c.2.2.1]; exact c.2.2.2
    exact ⟨hb, by unfold rrR; rw [hb]; rfl⟩
theorem add_fld (a : Addr) (j : Nat) (h : j ≠ 0) : a.add j = ⟨a.block, a.off + j, none⟩ := by unfold Addr.add; rw [if_neg h]
theorem R7.V_z : R7.z.V = .agg #[.int .i64 0, .int .i64 0, .int .i64 0, .int .i64 0, .int .i64 0, .int .i64 0, .int .i64 0] := rfl
theorem l01Split32 (s : Bs) (w : World) (hs : s.length ≤ 1048576) :
    Calls Tryz.prog 25 #[.string ⟨s.toArray⟩, .int .u8 32] w fun e w' => ∃ B d, e = .returned (.slice B (splitC 32 s).length d) ∧ Rd w' B (splitC 32 s).length (strs (splitC 32 s)) ∧ (splitC 32 s).length ≤ d ∧ Below w.heap.size w w' := l01Split_any ⟨s.toArray⟩ 32 w (by rw [str_size]; exact hs)

set_option maxRecDepth 100000 in
set_option maxHeartbeats 4000000 in
theorem specReadRecordLine_any (s : Bs) (w : World) (hs : s.length ≤ 1048576) :
    Calls Tryz.prog 26 #[.string ⟨s.toArray⟩] w fun e w' => e = .returned (.tuple #[(rrR s).V, .bool (rrB s)]) ∧ Below w.heap.size w w' := by
  have hlen := splitC_len 32 s
  have hne := List.length_pos_iff.2 (splitC_ne 32 s)
  have HPC := Lib.hid (splitC_piece 32 s)
  have HLA := Lib.hid (splitC_last 32 s)
  have HB1 := Lib.hid (@rr_bad1 s)
  have HB2 := Lib.hid (@rr_bad2 s)
  have HFI := Lib.hid (@rr_fin s)
  have hspl := l01Split32 s
  have b0 : Below w.heap.size w (w.alloc (.cells #[.int .i64 0, .int .i64 0, .int .i64 0, .int .i64 0, .int .i64 0, .int .i64 0, .int .i64 0] 45)) := (Below.refl _ _).alloc (Nat.le_refl _) _
  have K2 := Blk.new w 45 #[.int .i64 0, .int .i64 0, .int .i64 0, .int .i64 0, .int .i64 0, .int .i64 0, .int .i64 0]
  generalize splitC 32 s = ws at *
  obtain ⟨p, hp⟩ : ∃ p, ws.length = p + 1 := ⟨ws.length - 1, by omega⟩
  rw [hp] at hspl HLA
  have hdl := HLA.out
  rw [Nat.add_sub_cancel] at hdl
  rw [hdl] at HB1 HB2 HFI
  have hlt : (ws.take p).length = p := by rw [List.length_take]; omega
  rw [hlt] at HB2 HFI
  have HPT : Hid (∀ x ∈ ws.take p, x.length ≤ 1048576) := fun x hx => by
    have := HPC.out x (List.mem_of_mem_take hx)
    omega
  have hp2 : p ≤ 1048576 := by omega
  clear HLA HPC hne hdl
  go_enter Tryz.func26, Tryz.ntmps26
  go_wp2_with fail
  generalize w.alloc (.cells #[.int .i64 0, .int .i64 0, .int .i64 0, .int .i64 0, .int .i64 0, .int .i64 0, .int .i64 0] 45) = w0 at b0 K2 ⊢
  have q2 := K2.lt
  refine (hspl _ hs).mono ?_
  rintro e w1 ⟨B, d, rfl, hr, hd, b1⟩
  have K2 := K2.below b1 q2
  have b1 := b0.trans (b1.mono b0.size)
  clear b0 hspl
  have q2 := K2.lt
  obtain ⟨ad, rfl, -⟩ := hr.2 (by omega)
  have hr2 := hr.strt (k := p) (by omega)
  have hpd : p ≤ d := by omega
  have u1 : IntKind.i64.wrap ((p : Int) + 1 - 1) = (p : Int) := by rw [Int.add_sub_cancel]; exact IntWalk.i64_in _ (by omega)
  clear hr
  go_wp2_with fail
  refine (l01Numbers_any (some ad) p d (ws.take p) _ hp2 hr2 HPT.out).mono ?_
  rintro e w2 ⟨hcase, b2⟩
  have K2 := K2.below b2 q2
  have b2 := b1.trans (b2.mono b1.size)
  have y2 := fun o => K2.cell o
  have f2 := fun o => K2.frozen o
  have q2 := K2.lt
  clear b1 hr2
  rcases hcase with ⟨hall, B2, d2, rfl, r2, hd2⟩ | ⟨hall, rfl⟩
  case inr =>
    have HX := Lib.hid (HB1.out hall)
    clear HB1 HB2 HFI hall
    go_wp2
    refine bodyPost_ret (v := .tuple #[.agg #[.int .i64 0, .int .i64 0, .int .i64 0, .int .i64 0, .int .i64 0, .int .i64 0, .int .i64 0], .bool false]) (by simp [results, Tryz.results26, go_sem, y2]) rfl ?_
    rw [HX.out.1, HX.out.2, R7.V_z]
    exact ⟨rfl, by (repeat (first | (with_reducible assumption) | (with_reducible exact Below.refl _ _) | (with_reducible refine Below.drew ?_) | (with_reducible refine Below.drewN ?_ _) | (with_reducible refine Below.setCell ?_ ?_ _) | (with_reducible refine Below.alloc ?_ ?_ _) | assumption)); all_goals (first | omega | (simp; done) | (simp; omega))⟩
  by_cases hp3 : ¬ 2 ≤ p
  · have HX := Lib.hid (HB2.out hp3)
    have hpI : (p : Int) < 2 := by omega
    clear HB1 HB2 HFI hall
    go_wp2
    refine bodyPost_ret (v := .tuple #[.agg #[.int .i64 0, .int .i64 0, .int .i64 0, .int .i64 0, .int .i64 0, .int .i64 0, .int .i64 0], .bool false]) (by simp [results, Tryz.results26, go_sem, y2]) rfl ?_
    rw [HX.out.1, HX.out.2, R7.V_z]
    exact ⟨rfl, by (repeat (first | (with_reducible assumption) | (with_reducible exact Below.refl _ _) | (with_reducible refine Below.drew ?_) | (with_reducible refine Below.drewN ?_ _) | (with_reducible refine Below.setCell ?_ ?_ _) | (with_reducible refine Below.alloc ?_ ?_ _) | assumption)); all_goals (first | omega | (simp; done) | (simp; omega))⟩
  have hp3' : 2 ≤ p := by omega
  have hpI : ¬ (p : Int) < 2 := by omega
  obtain ⟨hne, hy, hn⟩ := HFI.out hall hp3'
  have hemp : s.isEmpty = false := by
    cases s with
    | nil => exact absurd rfl hne
    | cons _ _ => rfl
  have HY := Lib.hid hy
  have HN := Lib.hid hn
  have hnl : ((ws.take p).map sgN).length = p := by rw [List.length_map, hlt]
  clear HB1 HB2 HFI hall hp3 hy hn hlt HPT
  generalize (ws.take p).map sgN = ns at *
  obtain ⟨a2, rfl, h0⟩ := r2.int (show 0 < p by omega)
  obtain ⟨_, ⟨⟩, h1⟩ := r2.int (show 1 < p by omega)
  rw [Addr.add_zero'] at h0
  rw [add_fld _ 1 (by decide)] at h1
  generalize hn0 : ns.getD 0 0 = n0 at h0 h1
  generalize hn1 : ns.getD 1 0 = n1 at h0 h1
  have lo : a2.block < w2.heap.size := r2.lt rfl (by omega)
  go_upto_region 5 with fail
  have hS : w2.cell? a2 = some (.int .i64 n0) ∧ w2.cell? ⟨a2.block, a2.off + 1, none⟩ = some (.int .i64 n1) := ⟨h0, h1⟩
  have hS2 : ∀ ob, (w2.alloc ob).cell? a2 = some (.int .i64 n0) ∧ (w2.alloc ob).cell? ⟨a2.block, a2.off + 1, none⟩ = some (.int .i64 n1) := fun ob => by
    have hb := (Below.refl w2.heap.size w2).alloc (Nat.le_refl _) ob
    exact ⟨(hb.cell lo).trans h0, (hb.cell (p := ⟨a2.block, a2.off + 1, none⟩) lo).trans h1⟩
  have p2 : (0 : Int) < (p : Int) := by omega
  have p3 : (1 : Int) < (p : Int) := by omega
  have p4 : 0 < p := by omega
  have K3 := Blk.new w2 45 #[.int .i64 n0, .int .i64 n1, .int .i64 0, .int .i64 0, .int .i64 0, .int .i64 0, .int .i64 0]
  go_cut [7] (fun v wx => v = .pointer (some ⟨w2.heap.size, 0, none⟩) ∧ Blk wx w2.heap.size 45 #[.int .i64 n0, .int .i64 n1, .int .i64 0, .int .i64 0, .int .i64 0, .int .i64 0, .int .i64 0] ∧ Below w2.heap.size w2 wx)
  case first =>
    have bN : Below w2.heap.size w2 (w2.alloc (.cells #[.int .i64 n0, .int .i64 n1, .int .i64 0, .int .i64 0, .int .i64 0, .int .i64 0, .int .i64 0] 45)) := (Below.refl _ _).alloc (Nat.le_refl _) _
    go_region_held3 (fun w' => w'.cell? a2 = some (.int .i64 n0) ∧ w'.cell? ⟨a2.block, a2.off + 1, none⟩ = some (.int .i64 n1))
      (first | (with_reducible exact hS) | (with_reducible exact hS2 _) | (exact hS) | (exact hS2 _))
      (fail)
    all_goals
      go_wp2_with fail
      go_meet
      exact ⟨rfl, K3, Below.drew bN⟩
  case rest =>
    clear hS hS2 K3 lo
    obtain ⟨rfl, K3, bW⟩ := hcut
    obtain ⟨w3, rfl⟩ : ∃ x : World, x = wc := ⟨_, rfl⟩
    replace K2 := K2.below bW q2
    replace b2 := b2.trans (bW.mono b2.size)
    replace r2 := r2.below bW
    have hg : w.heap.size ≠ w2.heap.size := by omega
    have hg' : w2.heap.size ≠ w.heap.size := by omega
    have hwg : w.heap.size ≤ w2.heap.size := by omega
    clear bW h0 h1 y2 f2 q2
    generalize w2.heap.size = g3 at *
    have y2 := fun o => K2.cell o
    have f2 := fun o => K2.frozen o
    have q2 := K2.lt
    have y3 := fun o => K3.cell o
    have f3 := fun o => K3.frozen o
    have q3 := K3.lt
    have lo : a2.block < w3.heap.size := r2.lt rfl (by omega)
    by_cases e3 : p = 3
    · subst e3
      obtain ⟨_, ⟨⟩, h2⟩ := r2.int (show 2 < 3 by omega)
      rw [add_fld _ 2 (by decide)] at h2
      have hf : R7.of ns = ⟨n0, n1, ns.getD 2 0, 0, 0, 0, 0⟩ := by unfold R7.of; rw [hnl, hn0, hn1]; simp
      generalize ns.getD 2 0 = n2 at h2 hf
      clear r2 hn0 hn1 hnl
      go_upto_region 11 with fail
      have K3 : Blk (w3.setCell ⟨g3, 2, none⟩ (.int .i64 n2)) g3 45 #[.int .i64 n0, .int .i64 n1, .int .i64 n2, .int .i64 0, .int .i64 0, .int .i64 0, .int .i64 0] := (K3.set_ 2 (.int .i64 n2))
      have K2 := (K2.far (p := ⟨g3, 2, none⟩) hg (.int .i64 n2))
      have b2 := (b2.setCell (p := ⟨g3, 2, none⟩) hwg (.int .i64 n2))
      generalize (w3.setCell ⟨g3, 2, none⟩ (.int .i64 n2)) = w6 at K2 K3 b2 ⊢
      replace y2 := fun o => K2.cell o
      replace f2 := fun o => K2.frozen o
      replace y3 := fun o => K3.cell o
      replace f3 := fun o => K3.frozen o
      replace q2 := K2.lt
      replace q3 := K3.lt
      have HL := fun (W : World) => specRecordLine_any (⟨n0, n1, n2, 0, 0, 0, 0⟩ : R7) W
      unfold R7.V at HL
      simp only at HL
      rw [hf] at HY HN
      generalize hLN : (⟨n0, n1, n2, 0, 0, 0, 0⟩ : R7).t0 = LN at HL HY HN
      go_wp2_with fail
      refine (HL _).mono ?_
      rintro e w5 ⟨rfl, b4⟩
      have b5 : Below w.heap.size w w5 := b2.trans (b4.mono b2.size)
      replace K2 := K2.below b4 q2
      replace K3 := K3.below b4 q3
      replace y2 := fun o => K2.cell o
      replace f2 := fun o => K2.frozen o
      replace y3 := fun o => K3.cell o
      replace q2 := K2.lt
      clear hLN f3 b2 b4
      by_cases hE : LN = s
      · have HX := Lib.hid (HY.out hE)
        rw [hE]
        clear HY HN hE
        go_wp2
        refine bodyPost_ret (v := .tuple #[.agg #[.int .i64 n0, .int .i64 n1, .int .i64 n2, .int .i64 0, .int .i64 0, .int .i64 0, .int .i64 0], .bool true]) (by simp [results, Tryz.results26, go_sem, y2]) rfl ?_
        rw [HX.out.1, HX.out.2]
        exact ⟨rfl, by (repeat (first | (with_reducible assumption) | (with_reducible exact Below.refl _ _) | (with_reducible refine Below.drew ?_) | (with_reducible refine Below.drewN ?_ _) | (with_reducible refine Below.setCell ?_ ?_ _) | (with_reducible refine Below.alloc ?_ ?_ _) | assumption)); all_goals (first | omega | (simp; done) | (simp; omega))⟩
      · have HX := Lib.hid (HN.out hE)
        have hEb : (LN == s) = false := by rw [beq_eq_false_iff_ne]; exact hE
        clear HY HN
        go_wp2
        refine bodyPost_ret (v := .tuple #[.agg #[.int .i64 0, .int .i64 0, .int .i64 0, .int .i64 0, .int .i64 0, .int .i64 0, .int .i64 0], .bool false]) (by simp [results, Tryz.results26, go_sem, y2]) rfl ?_
        rw [HX.out.1, HX.out.2, R7.V_z]
        exact ⟨rfl, by (repeat (first | (with_reducible assumption) | (with_reducible exact Below.refl _ _) | (with_reducible refine Below.drew ?_) | (with_reducible refine Below.drewN ?_ _) | (with_reducible refine Below.setCell ?_ ?_ _) | (with_reducible refine Below.alloc ?_ ?_ _) | assumption)); all_goals (first | omega | (simp; done) | (simp; omega))⟩
    have e3I : ¬ (p : Int) = 3 := by omega
    have e3b : ((p : Int) == 3) = false := by rw [beq_eq_false_iff_ne]; exact e3I
    by_cases e6 : p = 6
    · subst e6
      obtain ⟨_, ⟨⟩, h2⟩ := r2.int (show 2 < 6 by omega)
      obtain ⟨_, ⟨⟩, h3⟩ := r2.int (show 3 < 6 by omega)
      obtain ⟨_, ⟨⟩, h4⟩ := r2.int (show 4 < 6 by omega)
      obtain ⟨_, ⟨⟩, h5⟩ := r2.int (show 5 < 6 by omega)
      rw [add_fld _ 2 (by decide)] at h2
      rw [add_fld _ 3 (by decide)] at h3
      rw [add_fld _ 4 (by decide)] at h4
      rw [add_fld _ 5 (by decide)] at h5
      have hf : R7.of ns = ⟨n0, n1, 0, ns.getD 2 0, ns.getD 3 0, ns.getD 4 0, ns.getD 5 0⟩ := by unfold R7.of; rw [hnl, hn0, hn1]; simp
      generalize ns.getD 2 0 = n2 at h2 hf
      generalize ns.getD 3 0 = n3 at h3 hf
      generalize ns.getD 4 0 = n4 at h4 hf
      generalize ns.getD 5 0 = n5 at h5 hf
      clear r2 hn0 hn1 hnl
      go_upto_region 10 with fail
      go_still_tail 14, (by kernel_rfl)
      change wpList _ _ _ _ _ w3.drew
      replace K2 := blk_drewS K2
      replace K3 := blk_drewS K3
      replace b2 := Below.drew b2
      generalize w3.drew = w4 at *
      replace y2 := fun o => K2.cell o
      replace f2 := fun o => K2.frozen o
      replace y3 := fun o => K3.cell o
      replace f3 := fun o => K3.frozen o
      replace q2 := K2.lt
      replace q3 := K3.lt
      go_upto_region 11 with fail
      have K3 : Blk ((((w4.setCell ⟨g3, 3, none⟩ (.int .i64 n2)).setCell ⟨g3, 4, none⟩ (.int .i64 n3)).setCell ⟨g3, 5, none⟩ (.int .i64 n4)).setCell ⟨g3, 6, none⟩ (.int .i64 n5)) g3 45 #[.int .i64 n0, .int .i64 n1, .int .i64 0, .int .i64 n2, .int .i64 n3, .int .i64 n4, .int .i64 n5] := ((((K3.set_ 3 (.int .i64 n2)).set_ 4 (.int .i64 n3)).set_ 5 (.int .i64 n4)).set_ 6 (.int .i64 n5))
      have K2 := ((((K2.far (p := ⟨g3, 3, none⟩) hg (.int .i64 n2)).far (p := ⟨g3, 4, none⟩) hg (.int .i64 n3)).far (p := ⟨g3, 5, none⟩) hg (.int .i64 n4)).far (p := ⟨g3, 6, none⟩) hg (.int .i64 n5))
      have b2 := ((((b2.setCell (p := ⟨g3, 3, none⟩) hwg (.int .i64 n2)).setCell (p := ⟨g3, 4, none⟩) hwg (.int .i64 n3)).setCell (p := ⟨g3, 5, none⟩) hwg (.int .i64 n4)).setCell (p := ⟨g3, 6, none⟩) hwg (.int .i64 n5))
      generalize ((((w4.setCell ⟨g3, 3, none⟩ (.int .i64 n2)).setCell ⟨g3, 4, none⟩ (.int .i64 n3)).setCell ⟨g3, 5, none⟩ (.int .i64 n4)).setCell ⟨g3, 6, none⟩ (.int .i64 n5)) = w6 at K2 K3 b2 ⊢
      replace y2 := fun o => K2.cell o
      replace f2 := fun o => K2.frozen o
      replace y3 := fun o => K3.cell o
      replace f3 := fun o => K3.frozen o
      replace q2 := K2.lt
      replace q3 := K3.lt
      have HL := fun (W : World) => specRecordLine_any (⟨n0, n1, 0, n2, n3, n4, n5⟩ : R7) W
      unfold R7.V at HL
      simp only at HL
      rw [hf] at HY HN
      generalize hLN : (⟨n0, n1, 0, n2, n3, n4, n5⟩ : R7).t0 = LN at HL HY HN
      go_wp2_with fail
      refine (HL _).mono ?_
      rintro e w5 ⟨rfl, b4⟩
      have b5 : Below w.heap.size w w5 := b2.trans (b4.mono b2.size)
      replace K2 := K2.below b4 q2
      replace K3 := K3.below b4 q3
      replace y2 := fun o => K2.cell o
      replace f2 := fun o => K2.frozen o
      replace y3 := fun o => K3.cell o
      replace q2 := K2.lt
      clear hLN f3 b2 b4
      by_cases hE : LN = s
      · have HX := Lib.hid (HY.out hE)
        rw [hE]
        clear HY HN hE
        go_wp2
        refine bodyPost_ret (v := .tuple #[.agg #[.int .i64 n0, .int .i64 n1, .int .i64 0, .int .i64 n2, .int .i64 n3, .int .i64 n4, .int .i64 n5], .bool true]) (by simp [results, Tryz.results26, go_sem, y2]) rfl ?_
        rw [HX.out.1, HX.out.2]
        exact ⟨rfl, by (repeat (first | (with_reducible assumption) | (with_reducible exact Below.refl _ _) | (with_reducible refine Below.drew ?_) | (with_reducible refine Below.drewN ?_ _) | (with_reducible refine Below.setCell ?_ ?_ _) | (with_reducible refine Below.alloc ?_ ?_ _) | assumption)); all_goals (first | omega | (simp; done) | (simp; omega))⟩
      · have HX := Lib.hid (HN.out hE)
        have hEb : (LN == s) = false := by rw [beq_eq_false_iff_ne]; exact hE
        clear HY HN
        go_wp2
        refine bodyPost_ret (v := .tuple #[.agg #[.int .i64 0, .int .i64 0, .int .i64 0, .int .i64 0, .int .i64 0, .int .i64 0, .int .i64 0], .bool false]) (by simp [results, Tryz.results26, go_sem, y2]) rfl ?_
        rw [HX.out.1, HX.out.2, R7.V_z]
        exact ⟨rfl, by (repeat (first | (with_reducible assumption) | (with_reducible exact Below.refl _ _) | (with_reducible refine Below.drew ?_) | (with_reducible refine Below.drewN ?_ _) | (with_reducible refine Below.setCell ?_ ?_ _) | (with_reducible refine Below.alloc ?_ ?_ _) | assumption)); all_goals (first | omega | (simp; done) | (simp; omega))⟩
    have e6I : ¬ (p : Int) = 6 := by omega
    have e6b : ((p : Int) == 6) = false := by rw [beq_eq_false_iff_ne]; exact e6I
    have hf : R7.of ns = ⟨n0, n1, 0, 0, 0, 0, 0⟩ := by unfold R7.of; rw [hnl, hn0, hn1, if_neg e3, if_neg e6, if_neg e6, if_neg e6, if_neg e6]
    clear r2 hn0 hn1 hnl
    go_upto_region 11 with fail
    have HL := fun (W : World) => specRecordLine_any (⟨n0, n1, 0, 0, 0, 0, 0⟩ : R7) W
    unfold R7.V at HL
    simp only at HL
    rw [hf] at HY HN
    generalize hLN : (⟨n0, n1, 0, 0, 0, 0, 0⟩ : R7).t0 = LN at HL HY HN
    go_wp2_with fail
    refine (HL _).mono ?_
    rintro e w5 ⟨rfl, b4⟩
    have b5 : Below w.heap.size w w5 := b2.trans (b4.mono b2.size)
    replace K2 := K2.below b4 q2
    replace K3 := K3.below b4 q3
    replace y2 := fun o => K2.cell o
    replace f2 := fun o => K2.frozen o
    replace y3 := fun o => K3.cell o
    replace q2 := K2.lt
    clear hLN f3 b2 b4
    by_cases hE : LN = s
    · have HX := Lib.hid (HY.out hE)
      rw [hE]
      clear HY HN hE
      go_wp2
      refine bodyPost_ret (v := .tuple #[.agg #[.int .i64 n0, .int .i64 n1, .int .i64 0, .int .i64 0, .int .i64 0, .int .i64 0, .int .i64 0], .bool true]) (by simp [results, Tryz.results26, go_sem, y2]) rfl ?_
      rw [HX.out.1, HX.out.2]
      exact ⟨rfl, by (repeat (first | (with_reducible assumption) | (with_reducible exact Below.refl _ _) | (with_reducible refine Below.drew ?_) | (with_reducible refine Below.drewN ?_ _) | (with_reducible refine Below.setCell ?_ ?_ _) | (with_reducible refine Below.alloc ?_ ?_ _) | assumption)); all_goals (first | omega | (simp; done) | (simp; omega))⟩
    · have HX := Lib.hid (HN.out hE)
      have hEb : (LN == s) = false := by rw [beq_eq_false_iff_ne]; exact hE
      clear HY HN
      go_wp2
      refine bodyPost_ret (v := .tuple #[.agg #[.int .i64 0, .int .i64 0, .int .i64 0, .int .i64 0, .int .i64 0, .int .i64 0, .int .i64 0], .bool false]) (by simp [results, Tryz.results26, go_sem, y2]) rfl ?_
      rw [HX.out.1, HX.out.2, R7.V_z]
      exact ⟨rfl, by (repeat (first | (with_reducible assumption) | (with_reducible exact Below.refl _ _) | (with_reducible refine Below.drew ?_) | (with_reducible refine Below.drewN ?_ _) | (with_reducible refine Below.setCell ?_ ?_ _) | (with_reducible refine Below.alloc ?_ ?_ _) | assumption)); all_goals (first | omega | (simp; done) | (simp; omega))⟩
end Go.Proofs.YtoledbicmghmbaaGreatDoor
