/- The record of a line, the program's side. Conditions: a length; the library's variables are as they are laid. -/
import Derived.Test.YtoledbicmghmbaaGreatDoorStF
import Derived.Test.YtoledbicmghmbaaGreatDoorRdR
namespace Go.Proofs.YtoledbicmghmbaaGreatDoor
open Go.RowKit

/-- the record that the program puts together -/
def imG (ns : List Int) : R7 := if ns.getD 1 0 = 1 ∧ ns.length = 3 then ⟨ns.getD 0 0, ns.getD 1 0, ns.getD 2 0, 0, 0, 0, 0⟩ else if ns.getD 1 0 = 2 ∧ ns.length = 6 then ⟨ns.getD 0 0, ns.getD 1 0, 0, ns.getD 2 0, ns.getD 3 0, ns.getD 4 0, ns.getD 5 0⟩ else ⟨ns.getD 0 0, ns.getD 1 0, 0, 0, 0, 0, 0⟩
theorem imG_ns {f : R7} (h : f.ok = true) : imG f.ns = f := by
  obtain ⟨h1, h2⟩ := R7.cases h
  obtain ⟨t, k, l, x, y, d, r⟩ := f
  simp only at h1 h2
  rcases h2 with ⟨rfl, h3, rfl, rfl, rfl, rfl⟩ | ⟨rfl, rfl, h3⟩ | ⟨rfl, rfl, rfl, rfl, rfl, rfl⟩
  · rfl
  · rfl
  · rfl
/-- the words before the check number -/
def imW (s : Bs) : List Bs := splitC 32 (Lib.cut s [32, 35]).1
theorem imW_ln {f : R7} (h : f.ok = true) : imW f.ln = f.ns.map Lib.itoa := by unfold imW; rw [R7.ln_cut, R7.tx_words h]
theorem im_bad1 {s : Bs} (h : rdAll (imW s) = false) : rrB s = false ∧ rrR s = R7.z := rr_not fun ⟨f, hf, e⟩ => by
  subst e
  rw [imW_ln hf, (rdAll_ns hf).1] at h
  cases h
theorem im_bad2 {s : Bs} (h : ¬ 2 ≤ (imW s).length) : rrB s = false ∧ rrR s = R7.z := rr_not fun ⟨f, hf, e⟩ => by
  subst e
  rw [imW_ln hf, List.length_map] at h
  exact h (R7.of_ns hf).2.2.1
theorem im_fin (s : Bs) : ((imG ((imW s).map rdN)).ok = true → (imG ((imW s).map rdN)).ln = s → rrB s = true ∧ rrR s = imG ((imW s).map rdN)) ∧ (¬ ((imG ((imW s).map rdN)).ok = true ∧ (imG ((imW s).map rdN)).ln = s) → rrB s = false ∧ rrR s = R7.z) := by
  refine ⟨fun h e => rr_is h e, fun hn => rr_not fun ⟨f, hf, e⟩ => hn ?_⟩
  have hg : imG ((imW s).map rdN) = f := by rw [← e, imW_ln hf, (rdAll_ns hf).2, imG_ns hf]
  rw [hg]
  exact ⟨hf, e⟩
theorem cut_len (s : Bs) : (Lib.cut s [32, 35]).1.length ≤ s.length := by
  unfold Lib.cut
  split
  · rw [List.length_take]; omega
  · exact Nat.le_refl _
theorem ok_recB {t k l x y d r : Int} : (⟨t, k, l, x, y, d, r⟩ : R7).ok = recB t k l x y d r := rfl

set_option maxRecDepth 100000 in
set_option maxHeartbeats 4000000 in
theorem implReadRecordLine_any (s : Bs) (w : World) (hs : s.length ≤ 1048576) (T : LibW w) :
    Calls Tryz.prog 24 #[.string ⟨s.toArray⟩] w fun e w' => e = .returned (.tuple #[(rrR s).V, .bool (rrB s)]) ∧ Below w.heap.size w w' := by
  obtain ⟨m, hm⟩ := T.mx
  have HB1 := Lib.hid (@im_bad1 s)
  have HB2 := Lib.hid (@im_bad2 s)
  have HFI := Lib.hid (im_fin s)
  have hb0 := cut_len s
  have hcut := fun (W : World) (h : W.cell? ⟨0, 0, none⟩ = some (.int .i64 m)) => strings_Cut ⟨s.toArray⟩ ⟨#[32, 35]⟩ m W (by rw [str_size]; omega) h
  have hsp := fun (W : World) (T : LibW W) => split_any (Lib.cut s [32, 35]).1 32 W (by omega) T
  have hrn := fun (W : World) (T : LibW W) => readNumbers_any (Lib.cut s [32, 35]).1 32 W (by omega) T
  have hwl := splitC_len 32 (Lib.cut s [32, 35]).1
  unfold imW at HB1 HB2 HFI
  simp only at hcut
  have b0 : Below w.heap.size w (w.alloc (.cells #[.int .i64 0, .int .i64 0, .int .i64 0, .int .i64 0, .int .i64 0, .int .i64 0, .int .i64 0] 45)) := (Below.refl _ _).alloc (Nat.le_refl _) _
  have K2 := Blk.new w 45 #[.int .i64 0, .int .i64 0, .int .i64 0, .int .i64 0, .int .i64 0, .int .i64 0, .int .i64 0]
  have hcut2 : ∀ (W : World), W.cell? ⟨0, 0, none⟩ = some (.int .i64 m) → Calls Tryz.prog 39 #[.string ⟨s.toArray⟩, .string ⟨#[32, 35]⟩] W fun e w' => ∃ x y, e = .returned (.tuple #[.string ⟨(Lib.cut s [32, 35]).1.toArray⟩, .string x, .bool y]) ∧ ∃ n, w' = W.drewN n := fun W h => (hcut W h).mono fun e w' ⟨h1, h2⟩ => ⟨_, _, h1, h2⟩
  clear hcut
  generalize (Lib.cut s [32, 35]).1 = body at *
  generalize splitC 32 body = ws at *
  obtain ⟨p, hp⟩ : ∃ p, ws.length = p := ⟨_, rfl⟩
  rw [hp] at HB2
  simp only [hp] at hsp hrn
  have hp2 : p ≤ 1048577 := by omega
  have T0 := T.below b0
  have hm0 := (b0.cell (p := ⟨0, 0, none⟩) T.pos).trans hm
  clear hwl hm
  go_enter Tryz.func24, Tryz.ntmps24
  go_wp2_with fail
  generalize w.alloc (.cells #[.int .i64 0, .int .i64 0, .int .i64 0, .int .i64 0, .int .i64 0, .int .i64 0, .int .i64 0] 45) = w0 at b0 K2 T0 hm0 ⊢
  have q2 := K2.lt
  refine (hcut2 _ hm0).mono ?_
  rintro e w1 ⟨x, y, rfl, n', rfl⟩
  clear hm0 hcut2
  replace b0 := Below.drewN b0 n'
  replace T0 : LibW (w0.drewN n') := T0.below (below_drewN w0 n')
  replace K2 : Blk (w0.drewN n') w.heap.size 45 #[.int .i64 0, .int .i64 0, .int .i64 0, .int .i64 0, .int .i64 0, .int .i64 0, .int .i64 0] := K2
  generalize w0.drewN n' = w1 at *
  have q2 := K2.lt
  go_wp2_with fail
  refine (hsp _ T0).mono ?_
  rintro e w2 ⟨rfl, -, b1⟩
  replace K2 := K2.below b1 q2
  replace b0 := b0.trans (b1.mono b0.size)
  replace T0 := T0.below b1
  generalize w1.heap.size = g1 at *
  have q2 := K2.lt
  clear hsp b1
  go_wp2_with fail
  refine (hrn _ T0).mono ?_
  rintro e w3 ⟨hcase, b1⟩
  replace K2 := K2.below b1 q2
  replace b0 := b0.trans (b1.mono b0.size)
  replace T0 := T0.below b1
  have y2 := fun o => K2.cell o
  have f2 := fun o => K2.frozen o
  have q2 := K2.lt
  clear hrn b1
  rcases hcase with ⟨hall, B2, d2, rfl, r2, hd2⟩ | ⟨hall, rfl⟩
  case inr =>
    have HX := Lib.hid (HB1.out hall)
    clear HB1 HB2 HFI hall
    go_wp2
    refine bodyPost_ret (v := .tuple #[.agg #[.int .i64 0, .int .i64 0, .int .i64 0, .int .i64 0, .int .i64 0, .int .i64 0, .int .i64 0], .bool false]) (by simp [results, Tryz.results24, go_sem, y2]) rfl ?_
    rw [HX.out.1, HX.out.2, R7.V_z]
    exact ⟨rfl, by (repeat (first | (with_reducible assumption) | (with_reducible exact Below.refl _ _) | (with_reducible refine Below.drew ?_) | (with_reducible refine Below.drewN ?_ _) | (with_reducible refine Below.setCell ?_ ?_ _) | (with_reducible refine Below.alloc ?_ ?_ _) | assumption)); all_goals (first | omega | (simp; done) | (simp; omega))⟩
  by_cases hp3 : ¬ 2 ≤ p
  · have HX := Lib.hid (HB2.out hp3)
    have hpI : (p : Int) < 2 := by omega
    clear HB1 HB2 HFI hall
    go_wp2
    refine bodyPost_ret (v := .tuple #[.agg #[.int .i64 0, .int .i64 0, .int .i64 0, .int .i64 0, .int .i64 0, .int .i64 0, .int .i64 0], .bool false]) (by simp [results, Tryz.results24, go_sem, y2]) rfl ?_
    rw [HX.out.1, HX.out.2, R7.V_z]
    exact ⟨rfl, by (repeat (first | (with_reducible assumption) | (with_reducible exact Below.refl _ _) | (with_reducible refine Below.drew ?_) | (with_reducible refine Below.drewN ?_ _) | (with_reducible refine Below.setCell ?_ ?_ _) | (with_reducible refine Below.alloc ?_ ?_ _) | assumption)); all_goals (first | omega | (simp; done) | (simp; omega))⟩
  have hp3' : 2 ≤ p := by omega
  have hpI : ¬ (p : Int) < 2 := by omega
  obtain ⟨hy, hn⟩ := HFI.out
  have HY := Lib.hid hy
  have HN := Lib.hid hn
  have hnl : (ws.map rdN).length = p := by rw [List.length_map, hp]
  clear HB1 HB2 HFI hall hp3 hy hn
  generalize ws.map rdN = ns at *
  clear hp
  obtain ⟨a2, rfl, h0⟩ := r2.int (show 0 < p by omega)
  obtain ⟨_, ⟨⟩, h1⟩ := r2.int (show 1 < p by omega)
  rw [Addr.add_zero'] at h0
  rw [add_fld _ 1 (by decide)] at h1
  generalize hn0 : ns.getD 0 0 = n0 at h0 h1
  generalize hn1 : ns.getD 1 0 = n1 at h0 h1
  have lo : a2.block < w3.heap.size := r2.lt rfl (by omega)
  go_upto_region 6 with fail
  have hS : w3.cell? a2 = some (.int .i64 n0) ∧ w3.cell? ⟨a2.block, a2.off + 1, none⟩ = some (.int .i64 n1) := ⟨h0, h1⟩
  have hS2 : ∀ ob, (w3.alloc ob).cell? a2 = some (.int .i64 n0) ∧ (w3.alloc ob).cell? ⟨a2.block, a2.off + 1, none⟩ = some (.int .i64 n1) := fun ob => by
    have hb := (Below.refl w3.heap.size w3).alloc (Nat.le_refl _) ob
    exact ⟨(hb.cell lo).trans h0, (hb.cell (p := ⟨a2.block, a2.off + 1, none⟩) lo).trans h1⟩
  have p2 : (0 : Int) < (p : Int) := by omega
  have p3 : (1 : Int) < (p : Int) := by omega
  have p4 : 0 < p := by omega
  have K3 := Blk.new w3 45 #[.int .i64 n0, .int .i64 n1, .int .i64 0, .int .i64 0, .int .i64 0, .int .i64 0, .int .i64 0]
  go_cut [10] (fun v wx => v = .pointer (some ⟨w3.heap.size, 0, none⟩) ∧ Blk wx w3.heap.size 45 #[.int .i64 n0, .int .i64 n1, .int .i64 0, .int .i64 0, .int .i64 0, .int .i64 0, .int .i64 0] ∧ Below w3.heap.size w3 wx)
  case first =>
    have bN : Below w3.heap.size w3 (w3.alloc (.cells #[.int .i64 n0, .int .i64 n1, .int .i64 0, .int .i64 0, .int .i64 0, .int .i64 0, .int .i64 0] 45)) := (Below.refl _ _).alloc (Nat.le_refl _) _
    go_region_held3 (fun w' => w'.cell? a2 = some (.int .i64 n0) ∧ w'.cell? ⟨a2.block, a2.off + 1, none⟩ = some (.int .i64 n1))
      (first | (with_reducible exact hS) | (with_reducible exact hS2 _) | (exact hS) | (exact hS2 _))
      (fail)
    all_goals
      go_wp2_with fail
      go_meet
      exact ⟨rfl, K3, Below.drew bN⟩
  case rest =>
    clear hS hS2 K3 lo
    obtain ⟨rfl, K3, bW⟩ := hcut
    obtain ⟨w4, rfl⟩ : ∃ x : World, x = wc := ⟨_, rfl⟩
    replace K2 := K2.below bW q2
    have b2 := b0.trans (bW.mono b0.size)
    replace r2 := r2.below bW
    replace T0 := T0.below bW
    have hg : w.heap.size ≠ w3.heap.size := by omega
    have hg' : w3.heap.size ≠ w.heap.size := by omega
    have hwg : w.heap.size ≤ w3.heap.size := by omega
    clear bW b0 h0 h1 y2 f2 q2
    generalize w3.heap.size = g3 at *
    have y2 := fun o => K2.cell o
    have f2 := fun o => K2.frozen o
    have q2 := K2.lt
    have y3 := fun o => K3.cell o
    have f3 := fun o => K3.frozen o
    have q3 := K3.lt
    have lo : a2.block < w4.heap.size := r2.lt rfl (by omega)
    by_cases c1 : n1 = 1 ∧ p = 3
    · obtain ⟨rfl, rfl⟩ := c1
      obtain ⟨_, ⟨⟩, h2⟩ := r2.int (show 2 < 3 by omega)
      rw [add_fld _ 2 (by decide)] at h2
      have hf : imG ns = ⟨n0, 1, ns.getD 2 0, 0, 0, 0, 0⟩ := by unfold imG; rw [if_pos ⟨hn1, hnl⟩, hn0, hn1]
      generalize ns.getD 2 0 = n2 at h2 hf
      clear r2 hn0 hn1 hnl
      go_upto_region 11 with fail
      have K3 : Blk (w4.setCell ⟨g3, 2, none⟩ (.int .i64 n2)) g3 45 #[.int .i64 n0, .int .i64 1, .int .i64 n2, .int .i64 0, .int .i64 0, .int .i64 0, .int .i64 0] := (K3.set_ 2 (.int .i64 n2))
      have K2 := (K2.far (p := ⟨g3, 2, none⟩) hg (.int .i64 n2))
      have b2 := (b2.setCell (p := ⟨g3, 2, none⟩) hwg (.int .i64 n2))
      generalize (w4.setCell ⟨g3, 2, none⟩ (.int .i64 n2)) = w6 at K2 K3 b2 ⊢
      replace y2 := fun o => K2.cell o
      replace f2 := fun o => K2.frozen o
      replace y3 := fun o => K3.cell o
      replace f3 := fun o => K3.frozen o
      replace q2 := K2.lt
      replace q3 := K3.lt
      have HL := fun (W : World) (h : (⟨n0, 1, n2, 0, 0, 0, 0⟩ : R7).ok = true) (T : TabW W) => recordLine_any (⟨n0, 1, n2, 0, 0, 0, 0⟩ : R7) W h T
      unfold R7.V at HL
      simp only at HL
      rw [hf] at HY HN
      generalize hLN : (⟨n0, 1, n2, 0, 0, 0, 0⟩ : R7).ln = LN at HL HY HN
      clear hLN f3
      go_wp2_with fail
      refine (implIsRecord_any n0 1 n2 0 0 0 0 _).mono ?_
      rintro e w7 ⟨rfl, b4⟩
      have b5 : Below w.heap.size w w7 := b2.trans (b4.mono b2.size)
      replace K2 := K2.below b4 q2
      replace K3 := K3.below b4 q3
      replace y2 := fun o => K2.cell o
      replace f2 := fun o => K2.frozen o
      replace y3 := fun o => K3.cell o
      replace q2 := K2.lt
      replace q3 := K3.lt
      clear b2 b4
      rcases Bool.eq_false_or_eq_true (recB n0 1 n2 0 0 0 0) with hok | hok
      case inr =>
        have HX := Lib.hid (HN.out (fun h => by rw [ok_recB, hok] at h; cases h.1))
        rw [hok]
        clear HY HN HL
        go_wp2
        refine bodyPost_ret (v := .tuple #[.agg #[.int .i64 0, .int .i64 0, .int .i64 0, .int .i64 0, .int .i64 0, .int .i64 0, .int .i64 0], .bool false]) (by simp [results, Tryz.results24, go_sem, y2]) rfl ?_
        rw [HX.out.1, HX.out.2, R7.V_z]
        exact ⟨rfl, by (repeat (first | (with_reducible assumption) | (with_reducible exact Below.refl _ _) | (with_reducible refine Below.drew ?_) | (with_reducible refine Below.drewN ?_ _) | (with_reducible refine Below.setCell ?_ ?_ _) | (with_reducible refine Below.alloc ?_ ?_ _) | assumption)); all_goals (first | omega | (simp; done) | (simp; omega))⟩
      have hok2 : (⟨n0, 1, n2, 0, 0, 0, 0⟩ : R7).ok = true := hok
      rw [hok]
      clear hok
      go_wp2_with fail
      refine (HL _ hok2 (T.below b5).tab).mono ?_
      rintro e w8 ⟨rfl, b6⟩
      have b9 : Below w.heap.size w w8 := b5.trans (b6.mono b5.size)
      replace K2 := K2.below b6 q2
      replace K3 := K3.below b6 q3
      replace y2 := fun o => K2.cell o
      replace f2 := fun o => K2.frozen o
      replace y3 := fun o => K3.cell o
      replace q2 := K2.lt
      replace q3 := K3.lt
      clear b5 b6 HL
      by_cases hE : LN = s
      · have HX := Lib.hid (HY.out hok2 hE)
        rw [hE]
        clear HY HN hE hok2
        go_wp2
        refine bodyPost_ret (v := .tuple #[.agg #[.int .i64 n0, .int .i64 1, .int .i64 n2, .int .i64 0, .int .i64 0, .int .i64 0, .int .i64 0], .bool true]) (by simp [results, Tryz.results24, go_sem, y2]) rfl ?_
        rw [HX.out.1, HX.out.2]
        exact ⟨rfl, by (repeat (first | (with_reducible assumption) | (with_reducible exact Below.refl _ _) | (with_reducible refine Below.drew ?_) | (with_reducible refine Below.drewN ?_ _) | (with_reducible refine Below.setCell ?_ ?_ _) | (with_reducible refine Below.alloc ?_ ?_ _) | assumption)); all_goals (first | omega | (simp; done) | (simp; omega))⟩
      · have HX := Lib.hid (HN.out (fun h => hE h.2))
        have hEb : (LN == s) = false := by rw [beq_eq_false_iff_ne]; exact hE
        clear HY HN hok2
        go_wp2
        refine bodyPost_ret (v := .tuple #[.agg #[.int .i64 0, .int .i64 0, .int .i64 0, .int .i64 0, .int .i64 0, .int .i64 0, .int .i64 0], .bool false]) (by simp [results, Tryz.results24, go_sem, y2]) rfl ?_
        rw [HX.out.1, HX.out.2, R7.V_z]
        exact ⟨rfl, by (repeat (first | (with_reducible assumption) | (with_reducible exact Below.refl _ _) | (with_reducible refine Below.drew ?_) | (with_reducible refine Below.drewN ?_ _) | (with_reducible refine Below.setCell ?_ ?_ _) | (with_reducible refine Below.alloc ?_ ?_ _) | assumption)); all_goals (first | omega | (simp; done) | (simp; omega))⟩
    by_cases c2 : n1 = 2 ∧ p = 6
    · obtain ⟨rfl, rfl⟩ := c2
      obtain ⟨_, ⟨⟩, h2⟩ := r2.int (show 2 < 6 by omega)
      obtain ⟨_, ⟨⟩, h3⟩ := r2.int (show 3 < 6 by omega)
      obtain ⟨_, ⟨⟩, h4⟩ := r2.int (show 4 < 6 by omega)
      obtain ⟨_, ⟨⟩, h5⟩ := r2.int (show 5 < 6 by omega)
      rw [add_fld _ 2 (by decide)] at h2
      rw [add_fld _ 3 (by decide)] at h3
      rw [add_fld _ 4 (by decide)] at h4
      rw [add_fld _ 5 (by decide)] at h5
      have hf : imG ns = ⟨n0, 2, 0, ns.getD 2 0, ns.getD 3 0, ns.getD 4 0, ns.getD 5 0⟩ := by unfold imG; rw [if_neg (by omega), if_pos ⟨hn1, hnl⟩, hn0, hn1]
      generalize ns.getD 2 0 = n2 at h2 hf
      generalize ns.getD 3 0 = n3 at h3 hf
      generalize ns.getD 4 0 = n4 at h4 hf
      generalize ns.getD 5 0 = n5 at h5 hf
      clear r2 hn0 hn1 hnl c1
      go_upto_region 10 with fail
      go_still_tail 14, (by kernel_rfl)
      change wpList _ _ _ _ _ w4.drew
      replace K2 := blk_drewS K2
      replace K3 := blk_drewS K3
      replace b2 := Below.drew b2
      generalize w4.drew = w4d at *
      replace y2 := fun o => K2.cell o
      replace f2 := fun o => K2.frozen o
      replace y3 := fun o => K3.cell o
      replace f3 := fun o => K3.frozen o
      replace q2 := K2.lt
      replace q3 := K3.lt
      go_upto_region 11 with fail
      have K3 : Blk ((((w4d.setCell ⟨g3, 3, none⟩ (.int .i64 n2)).setCell ⟨g3, 4, none⟩ (.int .i64 n3)).setCell ⟨g3, 5, none⟩ (.int .i64 n4)).setCell ⟨g3, 6, none⟩ (.int .i64 n5)) g3 45 #[.int .i64 n0, .int .i64 2, .int .i64 0, .int .i64 n2, .int .i64 n3, .int .i64 n4, .int .i64 n5] := ((((K3.set_ 3 (.int .i64 n2)).set_ 4 (.int .i64 n3)).set_ 5 (.int .i64 n4)).set_ 6 (.int .i64 n5))
      have K2 := ((((K2.far (p := ⟨g3, 3, none⟩) hg (.int .i64 n2)).far (p := ⟨g3, 4, none⟩) hg (.int .i64 n3)).far (p := ⟨g3, 5, none⟩) hg (.int .i64 n4)).far (p := ⟨g3, 6, none⟩) hg (.int .i64 n5))
      have b2 := ((((b2.setCell (p := ⟨g3, 3, none⟩) hwg (.int .i64 n2)).setCell (p := ⟨g3, 4, none⟩) hwg (.int .i64 n3)).setCell (p := ⟨g3, 5, none⟩) hwg (.int .i64 n4)).setCell (p := ⟨g3, 6, none⟩) hwg (.int .i64 n5))
      generalize ((((w4d.setCell ⟨g3, 3, none⟩ (.int .i64 n2)).setCell ⟨g3, 4, none⟩ (.int .i64 n3)).setCell ⟨g3, 5, none⟩ (.int .i64 n4)).setCell ⟨g3, 6, none⟩ (.int .i64 n5)) = w6 at K2 K3 b2 ⊢
      replace y2 := fun o => K2.cell o
      replace f2 := fun o => K2.frozen o
      replace y3 := fun o => K3.cell o
      replace f3 := fun o => K3.frozen o
      replace q2 := K2.lt
      replace q3 := K3.lt
      have HL := fun (W : World) (h : (⟨n0, 2, 0, n2, n3, n4, n5⟩ : R7).ok = true) (T : TabW W) => recordLine_any (⟨n0, 2, 0, n2, n3, n4, n5⟩ : R7) W h T
      unfold R7.V at HL
      simp only at HL
      rw [hf] at HY HN
      generalize hLN : (⟨n0, 2, 0, n2, n3, n4, n5⟩ : R7).ln = LN at HL HY HN
      clear hLN f3
      go_wp2_with fail
      refine (implIsRecord_any n0 2 0 n2 n3 n4 n5 _).mono ?_
      rintro e w7 ⟨rfl, b4⟩
      have b5 : Below w.heap.size w w7 := b2.trans (b4.mono b2.size)
      replace K2 := K2.below b4 q2
      replace K3 := K3.below b4 q3
      replace y2 := fun o => K2.cell o
      replace f2 := fun o => K2.frozen o
      replace y3 := fun o => K3.cell o
      replace q2 := K2.lt
      replace q3 := K3.lt
      clear b2 b4
      rcases Bool.eq_false_or_eq_true (recB n0 2 0 n2 n3 n4 n5) with hok | hok
      case inr =>
        have HX := Lib.hid (HN.out (fun h => by rw [ok_recB, hok] at h; cases h.1))
        rw [hok]
        clear HY HN HL
        go_wp2
        refine bodyPost_ret (v := .tuple #[.agg #[.int .i64 0, .int .i64 0, .int .i64 0, .int .i64 0, .int .i64 0, .int .i64 0, .int .i64 0], .bool false]) (by simp [results, Tryz.results24, go_sem, y2]) rfl ?_
        rw [HX.out.1, HX.out.2, R7.V_z]
        exact ⟨rfl, by (repeat (first | (with_reducible assumption) | (with_reducible exact Below.refl _ _) | (with_reducible refine Below.drew ?_) | (with_reducible refine Below.drewN ?_ _) | (with_reducible refine Below.setCell ?_ ?_ _) | (with_reducible refine Below.alloc ?_ ?_ _) | assumption)); all_goals (first | omega | (simp; done) | (simp; omega))⟩
      have hok2 : (⟨n0, 2, 0, n2, n3, n4, n5⟩ : R7).ok = true := hok
      rw [hok]
      clear hok
      go_wp2_with fail
      refine (HL _ hok2 (T.below b5).tab).mono ?_
      rintro e w8 ⟨rfl, b6⟩
      have b9 : Below w.heap.size w w8 := b5.trans (b6.mono b5.size)
      replace K2 := K2.below b6 q2
      replace K3 := K3.below b6 q3
      replace y2 := fun o => K2.cell o
      replace f2 := fun o => K2.frozen o
      replace y3 := fun o => K3.cell o
      replace q2 := K2.lt
      replace q3 := K3.lt
      clear b5 b6 HL
      by_cases hE : LN = s
      · have HX := Lib.hid (HY.out hok2 hE)
        rw [hE]
        clear HY HN hE hok2
        go_wp2
        refine bodyPost_ret (v := .tuple #[.agg #[.int .i64 n0, .int .i64 2, .int .i64 0, .int .i64 n2, .int .i64 n3, .int .i64 n4, .int .i64 n5], .bool true]) (by simp [results, Tryz.results24, go_sem, y2]) rfl ?_
        rw [HX.out.1, HX.out.2]
        exact ⟨rfl, by (repeat (first | (with_reducible assumption) | (with_reducible exact Below.refl _ _) | (with_reducible refine Below.drew ?_) | (with_reducible refine Below.drewN ?_ _) | (with_reducible refine Below.setCell ?_ ?_ _) | (with_reducible refine Below.alloc ?_ ?_ _) | assumption)); all_goals (first | omega | (simp; done) | (simp; omega))⟩
      · have HX := Lib.hid (HN.out (fun h => hE h.2))
        have hEb : (LN == s) = false := by rw [beq_eq_false_iff_ne]; exact hE
        clear HY HN hok2
        go_wp2
        refine bodyPost_ret (v := .tuple #[.agg #[.int .i64 0, .int .i64 0, .int .i64 0, .int .i64 0, .int .i64 0, .int .i64 0, .int .i64 0], .bool false]) (by simp [results, Tryz.results24, go_sem, y2]) rfl ?_
        rw [HX.out.1, HX.out.2, R7.V_z]
        exact ⟨rfl, by (repeat (first | (with_reducible assumption) | (with_reducible exact Below.refl _ _) | (with_reducible refine Below.drew ?_) | (with_reducible refine Below.drewN ?_ _) | (with_reducible refine Below.setCell ?_ ?_ _) | (with_reducible refine Below.alloc ?_ ?_ _) | assumption)); all_goals (first | omega | (simp; done) | (simp; omega))⟩
    have hf : imG ns = ⟨n0, n1, 0, 0, 0, 0, 0⟩ := by unfold imG; rw [hn0, hn1, hnl, if_neg c1, if_neg c2]
    clear r2 hn0 hn1 hnl
    have hcs : (n1 = 1 ∧ ¬ (p : Int) = 3) ∨ (n1 = 2 ∧ ¬ (p : Int) = 6) ∨ (¬ n1 = 1 ∧ ¬ n1 = 2) := by omega
    clear c1 c2
    rcases hcs with ⟨rfl, c3⟩ | ⟨rfl, c3⟩ | ⟨c1, c2⟩
    · have c3b : ((p : Int) == 3) = false := by rw [beq_eq_false_iff_ne]; exact c3
      go_upto_region 11 with fail
      have HL := fun (W : World) (h : (⟨n0, 1, 0, 0, 0, 0, 0⟩ : R7).ok = true) (T : TabW W) => recordLine_any (⟨n0, 1, 0, 0, 0, 0, 0⟩ : R7) W h T
      unfold R7.V at HL
      simp only at HL
      rw [hf] at HY HN
      generalize hLN : (⟨n0, 1, 0, 0, 0, 0, 0⟩ : R7).ln = LN at HL HY HN
      clear hLN f3
      go_wp2_with fail
      refine (implIsRecord_any n0 1 0 0 0 0 0 _).mono ?_
      rintro e w7 ⟨rfl, b4⟩
      have b5 : Below w.heap.size w w7 := b2.trans (b4.mono b2.size)
      replace K2 := K2.below b4 q2
      replace K3 := K3.below b4 q3
      replace y2 := fun o => K2.cell o
      replace f2 := fun o => K2.frozen o
      replace y3 := fun o => K3.cell o
      replace q2 := K2.lt
      replace q3 := K3.lt
      clear b2 b4
      rcases Bool.eq_false_or_eq_true (recB n0 1 0 0 0 0 0) with hok | hok
      case inr =>
        have HX := Lib.hid (HN.out (fun h => by rw [ok_recB, hok] at h; cases h.1))
        rw [hok]
        clear HY HN HL
        go_wp2
        refine bodyPost_ret (v := .tuple #[.agg #[.int .i64 0, .int .i64 0, .int .i64 0, .int .i64 0, .int .i64 0, .int .i64 0, .int .i64 0], .bool false]) (by simp [results, Tryz.results24, go_sem, y2]) rfl ?_
        rw [HX.out.1, HX.out.2, R7.V_z]
        exact ⟨rfl, by (repeat (first | (with_reducible assumption) | (with_reducible exact Below.refl _ _) | (with_reducible refine Below.drew ?_) | (with_reducible refine Below.drewN ?_ _) | (with_reducible refine Below.setCell ?_ ?_ _) | (with_reducible refine Below.alloc ?_ ?_ _) | assumption)); all_goals (first | omega | (simp; done) | (simp; omega))⟩
      have hok2 : (⟨n0, 1, 0, 0, 0, 0, 0⟩ : R7).ok = true := hok
      rw [hok]
      clear hok
      go_wp2_with fail
      refine (HL _ hok2 (T.below b5).tab).mono ?_
      rintro e w8 ⟨rfl, b6⟩
      have b9 : Below w.heap.size w w8 := b5.trans (b6.mono b5.size)
      replace K2 := K2.below b6 q2
      replace K3 := K3.below b6 q3
      replace y2 := fun o => K2.cell o
      replace f2 := fun o => K2.frozen o
      replace y3 := fun o => K3.cell o
      replace q2 := K2.lt
      replace q3 := K3.lt
      clear b5 b6 HL
      by_cases hE : LN = s
      · have HX := Lib.hid (HY.out hok2 hE)
        rw [hE]
        clear HY HN hE hok2
        go_wp2
        refine bodyPost_ret (v := .tuple #[.agg #[.int .i64 n0, .int .i64 1, .int .i64 0, .int .i64 0, .int .i64 0, .int .i64 0, .int .i64 0], .bool true]) (by simp [results, Tryz.results24, go_sem, y2]) rfl ?_
        rw [HX.out.1, HX.out.2]
        exact ⟨rfl, by (repeat (first | (with_reducible assumption) | (with_reducible exact Below.refl _ _) | (with_reducible refine Below.drew ?_) | (with_reducible refine Below.drewN ?_ _) | (with_reducible refine Below.setCell ?_ ?_ _) | (with_reducible refine Below.alloc ?_ ?_ _) | assumption)); all_goals (first | omega | (simp; done) | (simp; omega))⟩
      · have HX := Lib.hid (HN.out (fun h => hE h.2))
        have hEb : (LN == s) = false := by rw [beq_eq_false_iff_ne]; exact hE
        clear HY HN hok2
        go_wp2
        refine bodyPost_ret (v := .tuple #[.agg #[.int .i64 0, .int .i64 0, .int .i64 0, .int .i64 0, .int .i64 0, .int .i64 0, .int .i64 0], .bool false]) (by simp [results, Tryz.results24, go_sem, y2]) rfl ?_
        rw [HX.out.1, HX.out.2, R7.V_z]
        exact ⟨rfl, by (repeat (first | (with_reducible assumption) | (with_reducible exact Below.refl _ _) | (with_reducible refine Below.drew ?_) | (with_reducible refine Below.drewN ?_ _) | (with_reducible refine Below.setCell ?_ ?_ _) | (with_reducible refine Below.alloc ?_ ?_ _) | assumption)); all_goals (first | omega | (simp; done) | (simp; omega))⟩
    · have c3b : ((p : Int) == 6) = false := by rw [beq_eq_false_iff_ne]; exact c3
      go_upto_region 11 with fail
      have HL := fun (W : World) (h : (⟨n0, 2, 0, 0, 0, 0, 0⟩ : R7).ok = true) (T : TabW W) => recordLine_any (⟨n0, 2, 0, 0, 0, 0, 0⟩ : R7) W h T
      unfold R7.V at HL
      simp only at HL
      rw [hf] at HY HN
      generalize hLN : (⟨n0, 2, 0, 0, 0, 0, 0⟩ : R7).ln = LN at HL HY HN
      clear hLN f3
      go_wp2_with fail
      refine (implIsRecord_any n0 2 0 0 0 0 0 _).mono ?_
      rintro e w7 ⟨rfl, b4⟩
      have b5 : Below w.heap.size w w7 := b2.trans (b4.mono b2.size)
      replace K2 := K2.below b4 q2
      replace K3 := K3.below b4 q3
      replace y2 := fun o => K2.cell o
      replace f2 := fun o => K2.frozen o
      replace y3 := fun o => K3.cell o
      replace q2 := K2.lt
      replace q3 := K3.lt
      clear b2 b4
      rcases Bool.eq_false_or_eq_true (recB n0 2 0 0 0 0 0) with hok | hok
      case inr =>
        have HX := Lib.hid (HN.out (fun h => by rw [ok_recB, hok] at h; cases h.1))
        rw [hok]
        clear HY HN HL
        go_wp2
        refine bodyPost_ret (v := .tuple #[.agg #[.int .i64 0, .int .i64 0, .int .i64 0, .int .i64 0, .int .i64 0, .int .i64 0, .int .i64 0], .bool false]) (by simp [results, Tryz.results24, go_sem, y2]) rfl ?_
        rw [HX.out.1, HX.out.2, R7.V_z]
        exact ⟨rfl, by (repeat (first | (with_reducible assumption) | (with_reducible exact Below.refl _ _) | (with_reducible refine Below.drew ?_) | (with_reducible refine Below.drewN ?_ _) | (with_reducible refine Below.setCell ?_ ?_ _) | (with_reducible refine Below.alloc ?_ ?_ _) | assumption)); all_goals (first | omega | (simp; done) | (simp; omega))⟩
      have hok2 : (⟨n0, 2, 0, 0, 0, 0, 0⟩ : R7).ok = true := hok
      rw [hok]
      clear hok
      go_wp2_with fail
      refine (HL _ hok2 (T.below b5).tab).mono ?_
      rintro e w8 ⟨rfl, b6⟩
      have b9 : Below w.heap.size w w8 := b5.trans (b6.mono b5.size)
      replace K2 := K2.below b6 q2
      replace K3 := K3.below b6 q3
      replace y2 := fun o => K2.cell o
      replace f2 := fun o => K2.frozen o
      replace y3 := fun o => K3.cell o
      replace q2 := K2.lt
      replace q3 := K3.lt
      clear b5 b6 HL
      by_cases hE : LN = s
      · have HX := Lib.hid (HY.out hok2 hE)
        rw [hE]
        clear HY HN hE hok2
        go_wp2
        refine bodyPost_ret (v := .tuple #[.agg #[.int .i64 n0, .int .i64 2, .int .i64 0, .int .i64 0, .int .i64 0, .int .i64 0, .int .i64 0], .bool true]) (by simp [results, Tryz.results24, go_sem, y2]) rfl ?_
        rw [HX.out.1, HX.out.2]
        exact ⟨rfl, by (repeat (first | (with_reducible assumption) | (with_reducible exact Below.refl _ _) | (with_reducible refine Below.drew ?_) | (with_reducible refine Below.drewN ?_ _) | (with_reducible refine Below.setCell ?_ ?_ _) | (with_reducible refine Below.alloc ?_ ?_ _) | assumption)); all_goals (first | omega | (simp; done) | (simp; omega))⟩
      · have HX := Lib.hid (HN.out (fun h => hE h.2))
        have hEb : (LN == s) = false := by rw [beq_eq_false_iff_ne]; exact hE
        clear HY HN hok2
        go_wp2
        refine bodyPost_ret (v := .tuple #[.agg #[.int .i64 0, .int .i64 0, .int .i64 0, .int .i64 0, .int .i64 0, .int .i64 0, .int .i64 0], .bool false]) (by simp [results, Tryz.results24, go_sem, y2]) rfl ?_
        rw [HX.out.1, HX.out.2, R7.V_z]
        exact ⟨rfl, by (repeat (first | (with_reducible assumption) | (with_reducible exact Below.refl _ _) | (with_reducible refine Below.drew ?_) | (with_reducible refine Below.drewN ?_ _) | (with_reducible refine Below.setCell ?_ ?_ _) | (with_reducible refine Below.alloc ?_ ?_ _) | assumption)); all_goals (first | omega | (simp; done) | (simp; omega))⟩
    · have c1b : (n1 == 1) = false := by rw [beq_eq_false_iff_ne]; exact c1
      have c2b : (n1 == 2) = false := by rw [beq_eq_false_iff_ne]; exact c2
      go_upto_region 11 with fail
      have HL := fun (W : World) (h : (⟨n0, n1, 0, 0, 0, 0, 0⟩ : R7).ok = true) (T : TabW W) => recordLine_any (⟨n0, n1, 0, 0, 0, 0, 0⟩ : R7) W h T
      unfold R7.V at HL
      simp only at HL
      rw [hf] at HY HN
      generalize hLN : (⟨n0, n1, 0, 0, 0, 0, 0⟩ : R7).ln = LN at HL HY HN
      clear hLN f3
      go_wp2_with fail
      refine (implIsRecord_any n0 n1 0 0 0 0 0 _).mono ?_
      rintro e w7 ⟨rfl, b4⟩
      have b5 : Below w.heap.size w w7 := b2.trans (b4.mono b2.size)
      replace K2 := K2.below b4 q2
      replace K3 := K3.below b4 q3
      replace y2 := fun o => K2.cell o
      replace f2 := fun o => K2.frozen o
      replace y3 := fun o => K3.cell o
      replace q2 := K2.lt
      replace q3 := K3.lt
      clear b2 b4
      rcases Bool.eq_false_or_eq_true (recB n0 n1 0 0 0 0 0) with hok | hok
      case inr =>
        have HX := Lib.hid (HN.out (fun h => by rw [ok_recB, hok] at h; cases h.1))
        rw [hok]
        clear HY HN HL
        go_wp2
        refine bodyPost_ret (v := .tuple #[.agg #[.int .i64 0, .int .i64 0, .int .i64 0, .int .i64 0, .int .i64 0, .int .i64 0, .int .i64 0], .bool false]) (by simp [results, Tryz.results24, go_sem, y2]) rfl ?_
        rw [HX.out.1, HX.out.2, R7.V_z]
        exact ⟨rfl, by (repeat (first | (with_reducible assumption) | (with_reducible exact Below.refl _ _) | (with_reducible refine Below.drew ?_) | (with_reducible refine Below.drewN ?_ _) | (with_reducible refine Below.setCell ?_ ?_ _) | (with_reducible refine Below.alloc ?_ ?_ _) | assumption)); all_goals (first | omega | (simp; done) | (simp; omega))⟩
      have hok2 : (⟨n0, n1, 0, 0, 0, 0, 0⟩ : R7).ok = true := hok
      rw [hok]
      clear hok
      go_wp2_with fail
      refine (HL _ hok2 (T.below b5).tab).mono ?_
      rintro e w8 ⟨rfl, b6⟩
      have b9 : Below w.heap.size w w8 := b5.trans (b6.mono b5.size)
      replace K2 := K2.below b6 q2
      replace K3 := K3.below b6 q3
      replace y2 := fun o => K2.cell o
      replace f2 := fun o => K2.frozen o
      replace y3 := fun o => K3.cell o
      replace q2 := K2.lt
      replace q3 := K3.lt
      clear b5 b6 HL
      by_cases hE : LN = s
      · have HX := Lib.hid (HY.out hok2 hE)
        rw [hE]
        clear HY HN hE hok2
        go_wp2
        refine bodyPost_ret (v := .tuple #[.agg #[.int .i64 n0, .int .i64 n1, .int .i64 0, .int .i64 0, .int .i64 0, .int .i64 0, .int .i64 0], .bool true]) (by simp [results, Tryz.results24, go_sem, y2]) rfl ?_
        rw [HX.out.1, HX.out.2]
        exact ⟨rfl, by (repeat (first | (with_reducible assumption) | (with_reducible exact Below.refl _ _) | (with_reducible refine Below.drew ?_) | (with_reducible refine Below.drewN ?_ _) | (with_reducible refine Below.setCell ?_ ?_ _) | (with_reducible refine Below.alloc ?_ ?_ _) | assumption)); all_goals (first | omega | (simp; done) | (simp; omega))⟩
      · have HX := Lib.hid (HN.out (fun h => hE h.2))
        have hEb : (LN == s) = false := by rw [beq_eq_false_iff_ne]; exact hE
        clear HY HN hok2
        go_wp2
        refine bodyPost_ret (v := .tuple #[.agg #[.int .i64 0, .int .i64 0, .int .i64 0, .int .i64 0, .int .i64 0, .int .i64 0, .int .i64 0], .bool false]) (by simp [results, Tryz.results24, go_sem, y2]) rfl ?_
        rw [HX.out.1, HX.out.2, R7.V_z]
        exact ⟨rfl, by (repeat (first | (with_reducible assumption) | (with_reducible exact Below.refl _ _) | (with_reducible refine Below.drew ?_) | (with_reducible refine Below.drewN ?_ _) | (with_reducible refine Below.setCell ?_ ?_ _) | (with_reducible refine Below.alloc ?_ ?_ _) | assumption)); all_goals (first | omega | (simp; done) | (simp; omega))⟩
end Go.Proofs.YtoledbicmghmbaaGreatDoor
