/- RecoverLog, the reference's side. Conditions: a length. -/
import Derived.Test.YtoledbicmghmbaaGreatDoorRdR
import Derived.Test.YtoledbicmghmbaaGreatDoorRvM
import Derived.Test.YtoledbicmghmbaaGreatDoorRecordS
namespace Go.Proofs.YtoledbicmghmbaaGreatDoor
open Go.RowKit

/-- A list of records and a code. -/
def RetRcs (xs : List Int) (code : Int) (w : World) (e : Ending) (w' : World) : Prop :=
  ∃ k : Hd, e = .returned (.tuple #[.slice k.A k.n k.c, .int .i64 code]) ∧ k.n ≤ 200 ∧ k.n ≤ k.c ∧ Rd w' k.A (k.n * 7) (ints xs) ∧ Wr w' w.heap.size k.A (k.n * 7) ∧ Below w.heap.size w w'
theorem retRcs_nil {w w' : World} {code : Int} (b : Below w.heap.size w w') : RetRcs [] code w (.returned (.tuple #[.slice none 0 0, .int .i64 code])) w' :=
  ⟨⟨none, 0, 0⟩, rfl, Nat.zero_le _, Nat.le_refl _, Rd.nil _ _, fun h => absurd h (by decide), b⟩
theorem l01Split10 (s : Bs) (w : World) (hs : s.length ≤ 1048576) :
    Calls Tryz.prog 25 #[.string ⟨s.toArray⟩, .int .u8 10] w fun e w' => ∃ B d, e = .returned (.slice B (splitC 10 s).length d) ∧ Rd w' B (splitC 10 s).length (strs (splitC 10 s)) ∧ (splitC 10 s).length ≤ d ∧ Below w.heap.size w w' := l01Split_any ⟨s.toArray⟩ 10 w (by rw [str_size]; exact hs)
theorem ints7 (f : R7) : ints f.L = [.int .i64 f.t, .int .i64 f.k, .int .i64 f.l, .int .i64 f.x, .int .i64 f.y, .int .i64 f.d, .int .i64 f.r] := rfl
theorem rd_one7 (w : World) (f : R7) (e : TypeId) : Rd (w.alloc (.cells #[.int .i64 f.t, .int .i64 f.k, .int .i64 f.l, .int .i64 f.x, .int .i64 f.y, .int .i64 f.d, .int .i64 f.r] e)) (some ⟨w.heap.size, 0, none⟩) (1 * 7) (ints f.L) :=
  (Blk.new w e _).rd rfl (fun i hi => by
    match i, hi with
    | 0, _ => rfl
    | 1, _ => rfl
    | 2, _ => rfl
    | 3, _ => rfl
    | 4, _ => rfl
    | 5, _ => rfl
    | 6, _ => rfl)
set_option maxRecDepth 100000 in
set_option maxHeartbeats 4000000 in
theorem specRecoverLog_any (s : Bs) (w : World) (hs : s.length ≤ 1048576) :
    Calls Tryz.prog 10 #[.string ⟨s.toArray⟩] w (RetRcs (rvL s) (rvC s) w) := by
  have hz := str_size s
  by_cases h : 20000 < s.length
  · have HM := Lib.hid (rv_no h)
    have hI : (20000 : Int) < (s.length : Int) := by omega
    go_enter Tryz.func10, Tryz.ntmps10
    go_wp2
    refine bodyPost_ret (v := .tuple #[.slice none 0 0, .int .i64 3]) (by simp [results, Tryz.results10, go_sem]) rfl ?_
    rw [HM.out.1, HM.out.2]
    exact retRcs_nil (Below.refl _ _)
  have HM := Lib.hid (rv_yes h)
  have hI : ¬ (20000 : Int) < (s.length : Int) := by omega
  have hsp := fun (W : World) => l01Split10 s W hs
  have hlen := splitC_len 10 s
  have hne := List.length_pos_iff.2 (splitC_ne 10 s)
  have HPC := Lib.hid (splitC_piece 10 s)
  have HW : Hid (∀ {ws : List Bs} {k : Nat}, (splitC 10 s).dropLast = ws → (ws.take k).all rrB = true → k ≤ 200 → k ≤ ws.length → (k = ws.length ∨ k = 200 ∨ ∃ h : k < ws.length, rrB ws[k] = false) → rvW s = ws.take k) := rvW_at
  have HDL := Lib.hid (show (splitC 10 s).dropLast = (splitC 10 s).take ((splitC 10 s).length - 1) from List.dropLast_eq_take)
  generalize splitC 10 s = ws at *
  obtain ⟨p, hp⟩ : ∃ p, ws.length = p + 1 := ⟨ws.length - 1, by omega⟩
  simp only [hp] at hsp
  have hdl := HDL.out
  rw [hp, Nat.add_sub_cancel] at hdl
  have HD := Lib.hid hdl
  have hlt : (ws.take p).length = p := by rw [List.length_take]; omega
  have HLT := Lib.hid hlt
  have hp2 : p ≤ 20000 := by omega
  clear hne hdl HDL h hlt
  go_enter Tryz.func10, Tryz.ntmps10
  go_wp2_with fail
  refine (hsp _).mono ?_
  rintro e w1 ⟨B, d, rfl, hr, hd, b1⟩
  have hb1s := b1.size
  clear hsp
  go_wp2_with fail
  go_loopw [5, 6] (fun v i wr => ∃ (k : Nat) (h : Hd), k ≤ p ∧ k ≤ 200 ∧ i = .int .i64 k ∧ v = .slice h.A h.n h.c ∧ h.n = k ∧ ((ws.take p).take k).all rrB = true ∧ Own wr w1.heap.size 7 h (ints (rcL ((ws.take p).take k))) ∧ Below w1.heap.size w1 wr) (fun _ i _ => p + 1 - (intOf i).toNat)
  case atStart => exact ⟨0, ⟨some ⟨w1.heap.size, 0, none⟩, 0, 0⟩, Nat.zero_le _, Nat.zero_le _, rfl, rfl, rfl, rfl, Own.empty _ _ _ _, (Below.refl _ _).alloc (Nat.le_refl _) _⟩
  case round =>
    obtain ⟨k, ⟨HA, hN, hC⟩, hk, hk2, rfl, rfl, hn, ha, o, b⟩ := hrel
    simp only at hn o
    have hnc : hN ≤ hC := o.nc
    have hmx := o.capm
    simp only at hmx
    subst hn
    have hbs := b.size
    have u1 : IntKind.i64.wrap ((hN : Int) + 1) = (hN : Int) + 1 := IntWalk.i64_in _ (by omega)
    by_cases hgo : hN < p ∧ hN < 200
    · obtain ⟨hlt, h200⟩ := hgo
      have i1 : (hN : Int) + 1 < (p : Int) + 1 := by omega
      have i2 : (hN : Int) < 200 := by omega
      have i3 : (0 : Int) ≤ (hN : Int) := by omega
      have i4 : (hN : Int) < (p : Int) + 1 := by omega
      obtain ⟨ad, rfl, hx⟩ := (hr.below b).str (show hN < p + 1 by omega)
      have hkl : hN < (ws.take p).length := by rw [HLT.out]; exact hlt
      have hkw : hN < ws.length := by omega
      have hge : ws.getD hN [] = (ws.take p)[hN] := by rw [List.getD_eq_getElem?_getD, List.getElem?_eq_getElem hkw, List.getElem_take]; rfl
      have hxl := HPC.out (ws.getD hN []) (by rw [hge, List.getElem_take]; exact List.getElem_mem hkw)
      have HA2 : Hid (((ws.take p).take (hN + 1)).all rrB = rrB (ws.getD hN [])) := by
        unfold Hid
        rw [List.take_succ_eq_append_getElem hkl, List.all_append, ha, hge]
        simp
      have HR : Hid (rcL ((ws.take p).take (hN + 1)) = rcL ((ws.take p).take hN) ++ (rrR (ws.getD hN [])).L) := by
        unfold Hid
        rw [List.take_succ_eq_append_getElem hkl, rcL_snoc, hge]
      have HF : Hid (rrB (ws.getD hN []) = false → rvW s = (ws.take p).take hN) := fun h => HW.out HD.out ha (by omega) (by rw [HLT.out]; omega) (.inr (.inr ⟨hkl, by rw [← hge]; exact h⟩))
      clear hge ha
      have HS := fun (W : World) => specReadRecordLine_any (ws.getD hN []) W (by omega)
      have hone := fun (W : World) => rd_one7 W (rrR (ws.getD hN [])) 45
      unfold R7.V at HS
      generalize rrR (ws.getD hN []) = f at HS hone HR
      generalize rrB (ws.getD hN []) = rb at HS HA2 HF
      obtain ⟨t, kk, lv, x, y, dd, r⟩ := f
      simp only at HS hone
      generalize ws.getD hN [] = ln at *
      go_wp2_with fail
      refine (HS _).mono ?_
      rintro e w2 ⟨rfl, b2⟩
      have o2 := o.below b2
      have b3 := b.trans (b2.mono hbs)
      clear o
      have K0 := Blk.new w2 45 #[.int .i64 t, .int .i64 kk, .int .i64 lv, .int .i64 x, .int .i64 y, .int .i64 dd, .int .i64 r]
      have b4 : Below w2.heap.size w2 (w2.alloc (.cells #[.int .i64 t, .int .i64 kk, .int .i64 lv, .int .i64 x, .int .i64 y, .int .i64 dd, .int .i64 r] 45)) := (Below.refl _ _).alloc (Nat.le_refl _) _
      replace o2 := o2.below b4
      replace b3 := b3.trans (b4.mono b3.size)
      clear b4 b2
      go_upto_region 9 with fail
      generalize w2.alloc (.cells #[.int .i64 t, .int .i64 kk, .int .i64 lv, .int .i64 x, .int .i64 y, .int .i64 dd, .int .i64 r] 45) = w3 at K0 o2 b3 ⊢
      generalize w2.heap.size = g0 at K0 ⊢
      have y0 := fun o => K0.cell o
      have q0 := K0.lt
      have hbs3 := b3.size
      cases rb
      · have HF2 := Lib.hid (HF.out rfl)
        go_wp2
        refine bodyPost_ret (v := .tuple #[.slice HA hN hC, .int .i64 0]) (by simp [results, Tryz.results10, go_sem]) rfl ?_
        rw [HM.out.1, HM.out.2, HF2.out]
        exact ⟨⟨HA, hN, hC⟩, rfl, by show hN ≤ 200; omega, hnc, o2.rd, o2.wr.lower hb1s, b1.trans (b3.mono hb1s)⟩
      · have HA3 : Hid (((ws.take p).take (hN + 1)).all rrB = true) := HA2.out
        have bz : Below w3.heap.size w3 (w3.alloc (.cells #[.int .i64 t, .int .i64 kk, .int .i64 lv, .int .i64 x, .int .i64 y, .int .i64 dd, .int .i64 r] 45)) := (Below.refl _ _).alloc (Nat.le_refl _) _
        have oz := o2.below bz
        have RE := hone w3
        have b5 := b3.trans (bz.mono hbs3)
        have hBz := b5.size
        have h63 : hN + 1 ≤ 1099511627776 := by omega
        have hrow : ∀ b, (⟨HA, hN, hC⟩ : Hd).row = some b → w1.heap.size ≤ b := fun b e => (o2.rowlt b e).1
        clear o2 bz b3 hone HA2 HF
        go_wp2_with (at_builtin; refine wpList_append_Own rfl _ _ 24 rfl 45 7 56 Tryz.underlying24 Record_info (by decide) w1.heap.size ⟨HA, hN, hC⟩ _ rfl oz _ 1 1 (ints (⟨t, kk, lv, x, y, dd, r⟩ : R7).L) rfl RE (oneCell_ints _) h63 (by decide) hBz ?_; intro G wg hGn HG gg hat)
        have hGn2 : G.n = hN + 1 := hGn
        have HGN := Lib.hid hGn2
        clear hGn hat hGn2
        go_roundw
        case rel => exact ⟨hN + 1, G, by omega, by omega, by go_num, by first | rfl | rw [HGN.out], HGN.out, HA3.out, by rw [HR.out]; unfold ints at HG ⊢; rw [List.map_append]; exact HG, b5.grown gg hBz (fun b e => hrow b e)⟩
        case measure => simp [intOf]; omega
    · have HF2 : Hid (rvW s = (ws.take p).take hN) := HW.out HD.out ha (by omega) (by rw [HLT.out]; omega) (by have := HLT.out; rcases Nat.lt_or_ge hN 200 with h | h; exact .inl (by omega); exact .inr (.inl (by omega)))
      have hcs : (¬ (hN : Int) + 1 < (p : Int) + 1) ∨ ((hN : Int) + 1 < (p : Int) + 1 ∧ ¬ (hN : Int) < 200) := by omega
      clear ha
      rcases hcs with h1 | ⟨h1, h2⟩
      all_goals
        go_wp2
        refine bodyPost_ret (v := .tuple #[.slice HA hN hC, .int .i64 0]) (by simp [results, Tryz.results10, go_sem]) rfl ?_
        rw [HM.out.1, HM.out.2, HF2.out]
        exact ⟨⟨HA, hN, hC⟩, rfl, by show hN ≤ 200; omega, hnc, o.rd, o.wr.lower hb1s, b1.trans (b.mono hb1s)⟩
end Go.Proofs.YtoledbicmghmbaaGreatDoor
