/- impl.ReplayLog. Condition: a list of at most 1048576 records. -/
import Derived.Test.YtphpjmkebnadoaaRepM
import Derived.Test.YtphpjmkebnadoaaGauL
import Derived.StillTailTactics
import Derived.Deep.Cut
import Derived.Deep.DeepCutAuto
import Derived.Deep.RegionHeld3
namespace Go.Proofs.Ytphpjmkebnadoaa
open Go.RowKit

set_option maxRecDepth 100000 in
set_option maxHeartbeats 4000000 in
theorem implReplay_any (A : Option Addr) (n c : Nat) (xs : List Int) (w : World) (hn : n ≤ 1048576) (hnc : n ≤ c) (hr : Rd w A (n * 7) (ints xs)) :
    Calls Try.prog 18 #[.slice A n c] w fun e w' => ∃ h : Hd, e = .returned (.tuple #[.slice h.A h.n h.c, .int .i64 (rpN xs n), .int .i64 (gaugeC xs n)]) ∧ h.n ≤ 200 ∧ Rd w' h.A (h.n * 4) (ints (rpL xs n)) ∧ Wr w' w.heap.size h.A (h.n * 4) ∧ Below w.heap.size w w' := by
  go_enter Try.func18, Try.ntmps18
  go_wp2_with fail
  refine (implGauge_any A n c xs _ hn hnc hr).mono ?_
  rintro e w1 ⟨⟨⟨TA, tn, tc⟩, ⟨LA, ln, lc⟩⟩, rfl, ok, R, -, -, b1⟩
  unfold GaugeV
  simp only
  by_cases hc : gaugeC xs n = 0
  rotate_left
  · have HV : Hid (rpN xs n = 0 ∧ rpL xs n = []) := by unfold Hid rpN rpL; rw [if_neg hc, if_neg hc]; exact ⟨rfl, rfl⟩
    have hcb : (gaugeC xs n == 0) = false := by rw [beq_eq_false_iff_ne]; exact hc
    have hcn : (gaugeC xs n != 0) = true := by rw [bne, hcb]; rfl
    clear R ok
    obtain ⟨gc, hgc⟩ : ∃ x, gaugeC xs n = x := ⟨_, rfl⟩
    have HG := Lib.hid hgc
    rw [hgc] at hc hcb hcn ⊢
    clear hgc
    go_wp2
    refine bodyPost_ret (v := .tuple #[.slice none 0 0, .int .i64 0, .int .i64 gc]) (by simp [results, Try.results18, go_sem]) rfl ⟨⟨none, 0, 0⟩, by rw [HV.out.1, HG.out], Nat.zero_le _, by rw [HV.out.2]; exact Rd.nil _ _, fun h => absurd h (Nat.lt_irrefl 0), ?_⟩
    repeat (first | with_reducible exact b1 | refine Below.setCell ?_ (by simp <;> omega) _ | refine Below.alloc ?_ (by have := b1.size; simp <;> omega) _)
  obtain ⟨hlog, hgr, GO⟩ := gauge_ok hc
  have hn200 := (logB_parts hlog).2
  have HREC := Lib.hid (logB_parts hlog).1
  have HGO : Hid (GaOk (rpT xs n) (rpS xs n)) := GO
  rw [hgr] at R
  have rT : Rd w1 TA tn (ints (rpT xs n)) := R.head
  have rL : Rd w1 LA ln (ints (rpS xs n)) := R.tail.head
  have htl : tn = ln := by have a := rT.len; have b := rL.len; have := GO.eq; unfold rpT rpS at *; omega
  subst htl
  have HV : Hid (rpN xs n = (repN (rpT xs n) (rpS xs n) xs n : Int) ∧ rpL xs n = repL (rpT xs n) (rpS xs n) xs n) := by unfold Hid rpN rpL; rw [if_pos hc, if_pos hc]; exact ⟨rfl, rfl⟩
  clear R ok hgr GO hlog
  generalize rpT xs n = ts at *
  generalize rpS xs n = ls at *
  have HC := Lib.hid hc
  rw [hc]
  clear hc
  have hg5 : w.heap.size ≤ w1.heap.size := b1.size
  have K5 := Blk.new w1 26 #[.slice TA tn tc, .slice LA tn lc]
  have b2 : Below w1.heap.size w1 (w1.alloc (.cells #[.slice TA tn tc, .slice LA tn lc] 26)) := (Below.refl _ _).alloc (Nat.le_refl _) _
  go_upto_region 2 with fail
  replace rT := rT.below b2
  replace rL := rL.below b2
  replace b1 := b1.trans (b2.mono b1.size)
  generalize w1.alloc (.cells #[.slice TA tn tc, .slice LA tn lc] 26) = w2 at K5 rT rL b1 ⊢
  clear b2
  generalize w1.heap.size = g5 at *
  have q5 := K5.lt
  go_wp2_with fail

  go_loopw [7, 8, 23] (fun v7 v8 v9 wr => ∃ (k : Nat) (h : Hd), k ≤ n ∧ v9 = .int .i64 k ∧ v7 = .slice h.A h.n h.c ∧ v8 = .int .i64 (repN ts ls xs k : Nat) ∧ h.n ≤ k ∧ Own wr w2.heap.size 4 h (ints (repL ts ls xs k)) ∧ Below w2.heap.size w2 wr)
    (fun _ _ v9 _ => n - (intOf v9).toNat)
  case atStart => exact ⟨0, ⟨none, 0, 0⟩, Nat.zero_le _, rfl, rfl, rfl, Nat.le_refl _, Own.nil _ _ _, Below.refl _ _⟩
  case round =>
    obtain ⟨k, ⟨HA, hN, hC⟩, hk, rfl, rfl, rfl, hNk, o, hb⟩ := hrel
    simp only at hNk
    have KW := K5.below hb q5
    have qw := KW.lt
    by_cases hlt : k < n
    · have hltI : (k : Int) < (n : Int) := by omega
      obtain ⟨ad, rfl, c0, c1, c2, c3, c4, c5, c6⟩ := ((hr.below b1).below hb).seven hlt
      have HRA : Hid (recB (recT xs k) (recK xs k) (recL xs k) (xs.getD (k * 7 + 3) 0) (xs.getD (k * 7 + 4) 0) (xs.getD (k * 7 + 5) 0) (xs.getD (k * 7 + 6) 0) = true) := recsB_at HREC.out hlt
      have HL : Hid (repL ts ls xs (k + 1) = if recK xs k = 2 ∧ recRed ts ls xs k = 0 then repL ts ls xs k ++ recOut ts ls xs k else repL ts ls xs k) := rfl
      have HN : Hid (repN ts ls xs (k + 1) = if recK xs k = 2 ∧ ¬ recRed ts ls xs k = 0 then repN ts ls xs k + 1 else repN ts ls xs k) := rfl
      have HD : Hid (recRed ts ls xs k = redC ts ls (xs.getD (k * 7) 0) (xs.getD (k * 7 + 3) 0) (xs.getD (k * 7 + 4) 0) (xs.getD (k * 7 + 5) 0) (xs.getD (k * 7 + 6) 0)) := rfl
      have HO : Hid (recOut ts ls xs k = [xs.getD (k * 7 + 3) 0, xs.getD (k * 7 + 4) 0, redD (xs.getD (k * 7 + 5) 0) (xs.getD (k * 7 + 6) 0) (lvLo ts ls (xs.getD (k * 7) 0)) (lvHi ts ls (xs.getD (k * 7) 0)), redE (xs.getD (k * 7 + 5) 0) (xs.getD (k * 7 + 6) 0) (lvLo ts ls (xs.getD (k * 7) 0)) (lvHi ts ls (xs.getD (k * 7) 0))]) := rfl
      have HT : Hid (recT xs k = xs.getD (k * 7) 0 ∧ recK xs k = xs.getD (k * 7 + 1) 0) := ⟨rfl, rfl⟩
      have hNle := repN_le ts ls xs k
      generalize xs.getD (k * 7) 0 = x0 at *
      generalize xs.getD (k * 7 + 1) 0 = x1 at *
      generalize xs.getD (k * 7 + 2) 0 = x2 at *
      generalize xs.getD (k * 7 + 3) 0 = x3 at *
      generalize xs.getD (k * 7 + 4) 0 = x4 at *
      generalize xs.getD (k * 7 + 5) 0 = x5 at *
      generalize xs.getD (k * 7 + 6) 0 = x6 at *
      by_cases hx1 : x1 = 2
      rotate_left
      · have hx1b : (x1 == 2) = false := by rw [beq_eq_false_iff_ne]; exact hx1
        have HL2 : Hid (repL ts ls xs (k + 1) = repL ts ls xs k) := by show _ = _; rw [HL.out, if_neg (fun e => hx1 (by rw [← HT.out.2]; exact e.1))]
        have HN2 : Hid (repN ts ls xs (k + 1) = repN ts ls xs k) := by show _ = _; rw [HN.out, if_neg (fun e => hx1 (by rw [← HT.out.2]; exact e.1))]
        generalize repN ts ls xs k = rn at *
        go_wp2_with fail
        go_roundw
        case rel => exact ⟨k + 1, ⟨HA, hN, hC⟩, by omega, by go_num, rfl, by rw [HN2.out], by show hN ≤ k + 1; omega, by rw [HL2.out]; exact o.below ((Below.refl _ _).alloc (Nat.le_refl _) _), hb.alloc hb.size _⟩
        case measure => simp [intOf]; omega
      subst hx1
      have hs : Hid (souB x3 x4 x5 x6 = true) := by have a := HRA.out; rw [HT.out.2] at a; exact recB_sou a
      have ht := recB_time HRA.out
      rw [HT.out.1] at ht

      have hcon0 := fun W r1 r2 => implReduce_any TA LA tn tc lc ts ls x0 x3 x4 x5 x6 W HGO.out r1 r2 ht.1 ht.2 hs.out
      obtain ⟨a, b, p, q, rc, hV0, hC0, hO0⟩ : ∃ a b p q rc : Int, redV ts ls x0 x3 x4 x5 x6 = .agg #[.int .i64 a, .int .i64 b, .int .i64 p, .int .i64 q] ∧ redC ts ls x0 x3 x4 x5 x6 = rc ∧ (rc = 0 → recOut ts ls xs k = [a, b, p, q]) := by
        by_cases h0 : redC ts ls x0 x3 x4 x5 x6 = 0
        · exact ⟨_, _, _, _, _, redV_zero h0, rfl, fun _ => HO.out⟩
        · exact ⟨_, _, _, _, _, redV_code h0, rfl, fun e => absurd e h0⟩
      have hcon : ∀ W, Rd W TA tn (ints ts) → Rd W LA tn (ints ls) → Calls Try.prog 48 #[.agg #[.int .i64 x3, .int .i64 x4, .int .i64 x5, .int .i64 x6], .agg #[.slice TA tn tc, .slice LA tn lc], .int .i64 x0] W fun e w' => e = .returned (.tuple #[.agg #[.int .i64 a, .int .i64 b, .int .i64 p, .int .i64 q], .int .i64 rc]) ∧ Below W.heap.size W w' := fun W r1 r2 => by
        have := hcon0 W r1 r2
        rw [hV0, hC0] at this
        exact this
      have HL2 : Hid (rc = 0 → repL ts ls xs (k + 1) = repL ts ls xs k ++ [a, b, p, q] ∧ repN ts ls xs (k + 1) = repN ts ls xs k) := fun e => ⟨by rw [HL.out, if_pos ⟨HT.out.2, by rw [HD.out, hC0]; exact e⟩, hO0 e], by rw [HN.out, if_neg (fun e2 => e2.2 (by rw [HD.out, hC0]; exact e))]⟩
      have HL3 : Hid (¬ rc = 0 → repL ts ls xs (k + 1) = repL ts ls xs k ∧ repN ts ls xs (k + 1) = repN ts ls xs k + 1) := fun e => ⟨by rw [HL.out, if_neg (fun e2 => e (by rw [← hC0, ← HD.out]; exact e2.2))], by rw [HN.out, if_pos ⟨HT.out.2, by rw [HD.out, hC0]; exact e⟩]⟩
      clear HL HN HD HRA HO hs hV0 hC0 hO0 hcon0 HT
      generalize repN ts ls xs k = rn at *
      have h63 : hN + 1 ≤ 1099511627776 := by omega
      have e5 := fun o => KW.cell o
      go_upto_region 9 with fail
      have KB := Blk.new wr 47 #[.int .i64 x0, .int .i64 2, .int .i64 x2, .int .i64 x3, .int .i64 x4, .int .i64 x5, .int .i64 x6]
      have bB : Below wr.heap.size wr (wr.alloc (.cells #[.int .i64 x0, .int .i64 2, .int .i64 x2, .int .i64 x3, .int .i64 x4, .int .i64 x5, .int .i64 x6] 47)) := (Below.refl _ _).alloc (Nat.le_refl _) _
      have D5 := KW.below bB qw
      have oD := o.below bB
      have db := hb.trans (bB.mono hb.size)
      clear bB c0 c1 c2 c3 c4 c5 c6 e5 KW qw o hb
      generalize wr.alloc (.cells #[.int .i64 x0, .int .i64 2, .int .i64 x2, .int .i64 x3, .int .i64 x4, .int .i64 x5, .int .i64 x6] 47) = w3 at KB D5 oD db ⊢
      have eB := fun o => KB.cell o
      have e5 := fun o => D5.cell o
      go_wp2_with fail
      refine (hcon _ (rT.below db) (rL.below db)).mono ?_
      rintro e w4 ⟨rfl, b4⟩
      replace oD := oD.below b4
      replace db := db.trans (b4.mono db.size)
      clear b4 hcon e5 eB D5 KB
      have KS := Blk.new w4 45 #[.int .i64 a, .int .i64 b, .int .i64 p, .int .i64 q]
      have b5 : Below w4.heap.size w4 (w4.alloc (.cells #[.int .i64 a, .int .i64 b, .int .i64 p, .int .i64 q] 45)) := (Below.refl _ _).alloc (Nat.le_refl _) _
      replace oD := oD.below b5
      replace db := db.trans (b5.mono db.size)
      go_upto_region 11 with fail
      generalize w4.alloc (.cells #[.int .i64 a, .int .i64 b, .int .i64 p, .int .i64 q] 45) = w5 at KS oD db ⊢
      generalize w4.heap.size = gs at KS ⊢
      have eS := fun o => KS.cell o
      by_cases h0 : rc = 0
      · subst h0
        have HL2 := Lib.hid (HL2.out rfl)
        clear HL3
        have bz : Below w5.heap.size w5 (w5.alloc (.cells #[.int .i64 a, .int .i64 b, .int .i64 p, .int .i64 q] 45)) := (Below.refl _ _).alloc (Nat.le_refl _) _
        have oz := oD.below bz
        have RE := rd_four4 w5 a b p q 45
        have dz := db.trans (bz.mono db.size)
        have hBz := dz.size
        have hrow : ∀ b, (⟨HA, hN, hC⟩ : Hd).row = some b → w2.heap.size ≤ b := fun b e => (oD.rowlt b e).1
        go_wp2_with (at_builtin; refine wpList_append_Own rfl _ _ 36 rfl 45 4 32 Try.underlying36 Sounding_info4 (by decide) w2.heap.size ⟨HA, hN, hC⟩ _ rfl oz _ 1 1 (ints [a, b, p, q]) rfl RE (oneCell_ints _) h63 (by decide) hBz ?_; intro G wg hGn HG gg hat)
        have hn2 : G.n ≤ k + 1 := by rw [hGn]; show hN + 1 ≤ k + 1; omega
        have HN3 := Lib.hid hn2
        have HGN := Lib.hid hGn
        clear hGn hn2 hat
        go_roundw
        case rel => exact ⟨k + 1, G, by omega, by go_num, by first | rfl | rw [HGN.out], by rw [HL2.out.2], HN3.out, by rw [HL2.out.1, ints_append]; exact HG, dz.grown gg hBz (fun b e => hrow b e)⟩
        case measure => simp [intOf]; omega
      · have hrcb : (rc == 0) = false := by rw [beq_eq_false_iff_ne]; exact h0
        have HL3 := Lib.hid (HL3.out h0)
        clear HL2 h0
        have u1 : IntKind.i64.wrap ((rn : Int) + 1) = (rn : Int) + 1 := IntWalk.i64_in _ (by omega)
        go_wp2_with fail
        go_roundw
        case rel => exact ⟨k + 1, ⟨HA, hN, hC⟩, by omega, by go_num, rfl, by rw [HL3.out.2]; go_num, by show hN ≤ k + 1; omega, by rw [HL3.out.1]; exact oD, db⟩
        case measure => simp [intOf]; omega
    · obtain rfl : n = k := by omega
      have hb2 : Below w.heap.size w wr := b1.trans (hb.mono b1.size)
      generalize repN ts ls xs n = rn at *
      go_wp2
      refine bodyPost_ret (v := .tuple #[.slice HA hN hC, .int .i64 (rn : Int), .int .i64 0]) (by simp [results, Try.results18, go_sem]) rfl ⟨⟨HA, hN, hC⟩, by rw [HV.out.1, HC.out], by show hN ≤ 200; omega, by rw [HV.out.2]; exact o.rd, (o.mono (by omega)).wr, hb2⟩
end Go.Proofs.Ytphpjmkebnadoaa

