/- spec.GaugeOfLog. Condition: a length. -/
import Derived.Test.YtphpjmkebnadoaaLog
import Derived.Test.YtphpjmkebnadoaaGauM
import Derived.Test.YtphpjmkebnadoaaTGauge
import Derived.Deep.Cut
import Derived.Test.YtphpjmkebnadoaaDir
import Derived.Deep.RegionHeld3
import Derived.Deep.DeepCutAuto
namespace Go.Proofs.Ytphpjmkebnadoaa
open Go.RowKit

theorem Own.fars {w : World} {B K : Nat} {h : Hd} {us : List Value} (o : Own w B K h us) {p : Addr} (hr : h.row ≠ some p.block) (u : Value) : Own (w.setCell p u) B K h us :=
  o.keep (by simp) fun b e => Below.heap_setCell w p u b (fun c => hr (by rw [e, c]))
theorem Rd.partG {w : World} {A : Option Addr} {n k m : Nat} {xs : List Int} (h : Rd w A n (ints xs)) (hk : k + m ≤ n) : Rd w (A.map (·.add k)) m (ints ((xs.drop k).take m)) := by
  have hl := h.len
  refine ⟨by simp [ints]; omega, fun hm => ?_⟩
  obtain ⟨ad, rfl, hc⟩ := h.2 (by omega)
  refine ⟨ad.add k, rfl, fun i hi => ?_⟩
  rw [add_of_add, hc _ (by omega), ints_getElem?, ints_getElem?, List.getElem?_take, if_pos hi, List.getElem?_drop]
def gaugeP (xs : List Int) (n : Nat) : List (Int × Int) := if logB xs n = true then (if (gTo xs n).length ≤ 40 then gTo xs n else []) else []
def gaugeR (xs : List Int) (n : Nat) : GaugeC := ⟨fstL (gaugeP xs n), sndL (gaugeP xs n)⟩
def gaugeC (xs : List Int) (n : Nat) : Int := if logB xs n = true then (if (gTo xs n).length = 0 then 4 else if (gTo xs n).length ≤ 40 then 0 else 3) else 1
theorem gTo_len (xs : List Int) : ∀ k, (gTo xs k).length ≤ k
  | 0 => Nat.le_refl _
  | k + 1 => by
    have ih := gTo_len xs k
    have key : ∀ (t l : Int) (p : List (Int × Int)), (insP t l p).length ≤ p.length + 1 := by
      intro t l p
      induction p with
      | nil => simp [insP]
      | cons a r ih => 
        obtain ⟨a, b⟩ := a
        unfold insP
        split
        · simpa using ih
        · split <;> simp
    unfold gTo
    split
    · have := key (recT xs k) (recL xs k) (gTo xs k); omega
    · omega

set_option maxRecDepth 100000 in
set_option maxHeartbeats 2000000 in
theorem specGauge_any (A : Option Addr) (n c : Nat) (xs : List Int) (w : World) (hn : n ≤ 1048576) (hr : Rd w A (n * 7) (ints xs)) :
    Calls Try.prog 9 #[.slice A n c] w fun e w' => ∃ k : GaugeH, e = .returned (.tuple #[GaugeV k (gaugeR xs n), .int .i64 (gaugeC xs n)]) ∧ GaugeOk k ∧ RdAll w' (GaugeS k (gaugeR xs n)) ∧ WrAll w' w.heap.size (GaugeS k (gaugeR xs n)) ∧ Sep (GaugeR k) ∧ Below w.heap.size w w' := by
  have K0 := Blk.new w 26 #[.slice none 0 0, .slice none 0 0]
  have b0 : Below w.heap.size w (w.alloc (.cells #[.slice none 0 0, .slice none 0 0] 26)) := (Below.refl _ _).alloc (Nat.le_refl _) _
  go_enter Try.func9, Try.ntmps9
  go_upto_region 1 with fail
  generalize w.alloc (.cells #[.slice none 0 0, .slice none 0 0] 26) = w1 at K0 b0 ⊢
  have g0 := K0.lt
  go_wp2_with fail
  refine (l31Log_any A n c xs _ (by omega) (hr.below b0)).mono ?_
  rintro e w2 ⟨rfl, b2⟩
  replace K0 := K0.below b2 g0
  replace b0 := b0.trans (b2.mono b0.size)
  replace g0 := K0.lt
  have e0 := fun o => K0.cell o
  have f0 := fun o => K0.frozen o
  clear b2
  rcases Bool.eq_false_or_eq_true (logB xs n) with hlog | hlog
  rotate_left
  · have HP : Hid (gaugeP xs n = [] ∧ gaugeC xs n = 1) := by unfold Hid gaugeP gaugeC; rw [hlog]; exact ⟨rfl, rfl⟩
    go_wp2
    refine bodyPost_ret (v := .tuple #[.agg #[.slice none 0 0, .slice none 0 0], .int .i64 1]) (by simp [results, Try.results9, go_sem, e0]) rfl ⟨⟨⟨none, 0, 0⟩, ⟨none, 0, 0⟩⟩, ?_, ⟨Nat.zero_le _, Nat.zero_le _⟩, ?_, ?_, ?_, ?_⟩
    · rw [HP.out.2]; rfl
    · unfold gaugeR; rw [HP.out.1]; exact RdAll.cons (s := ⟨none, 0, []⟩) (Rd.nil _ _) (RdAll.cons (s := ⟨none, 0, []⟩) (Rd.nil _ _) (RdAll.nil _))
    · exact WrAll.cons (s := ⟨none, 0, _⟩) (fun h => absurd h (Nat.lt_irrefl 0)) (WrAll.cons (s := ⟨none, 0, _⟩) (fun h => absurd h (Nat.lt_irrefl 0)) (WrAll.nil _ _))
    · exact Sep.cons (fun s hs t ht b e => by rw [List.mem_singleton.1 hs] at e; cases e) (Sep.one _)
    · repeat (first | with_reducible exact b0 | refine Below.setCell ?_ (by simp <;> omega) _)
  have hn2 : n ≤ 200 := by
    have : logB xs n = (recsB xs n && decide ((n : Int) ≤ 200)) := rfl
    rw [this, Bool.and_eq_true, decide_eq_true_eq] at hlog
    omega
  go_wp2
  have HLOG := Lib.hid hlog
  clear hlog
  go_loopw [4, 5, 6] (fun t4 t5 i wr => ∃ (k : Nat) (ht hl : Hd), k ≤ n ∧ i = .int .i64 k ∧ t4 = .slice ht.A ht.n ht.c ∧ t5 = .slice hl.A hl.n hl.c ∧ Own wr (w.heap.size + 1) 1 ht (ints (fstL (gTo xs k))) ∧ Own wr (w.heap.size + 1) 1 hl (ints (sndL (gTo xs k))) ∧ (∀ b, ht.row = some b → hl.row ≠ some b) ∧ ht.A ≠ none ∧ hl.A ≠ none ∧ Below w.heap.size w wr ∧ Blk wr w.heap.size 26 #[.slice none 0 0, .slice none 0 0])
    (fun _ _ i _ => n - (intOf i).toNat)
  case atStart =>
    refine ⟨0, ⟨some ⟨w2.heap.size, 0, none⟩, 0, 0⟩, ⟨some ⟨w2.heap.size + 1, 0, none⟩, 0, 0⟩, Nat.zero_le _, rfl, rfl, rfl, Own.empty _ _ _ _, Own.empty _ _ _ _, (fun b e => by cases e), (by simp), (by simp), (b0.alloc (by omega) _).alloc (by simp; omega) _, (K0.alloc _).alloc _⟩
  case round =>
    obtain ⟨k, ht, hl, hk, rfl, rfl, rfl, oT, oL, hoff, nT, nL, hb, KW⟩ := hrel
    clear K0 b0 e0 f0 g0
    obtain ⟨aT, hT⟩ := Option.ne_none_iff_exists'.1 nT
    obtain ⟨aL, hL⟩ := Option.ne_none_iff_exists'.1 nL
    obtain ⟨AT, nt, ct⟩ := ht
    obtain ⟨AL, nl, cl⟩ := hl
    simp only at hT hL
    subst hT hL
    have lT : nt = (gTo xs k).length := by have := oT.len; simp only [Nat.mul_one] at this; rw [← this]; unfold ints; rw [List.length_map, fstL_len]
    have lL : nl = (gTo xs k).length := by have := oL.len; simp only [Nat.mul_one] at this; rw [← this]; unfold ints; rw [List.length_map, sndL_len]
    have lk := gTo_len xs k
    by_cases hlt : k < n
    · obtain ⟨ad, rfl, c0', c1', c2', -⟩ := (hr.below hb).seven hlt
      have c0 : wr.cell? (ad.add (k * 7)) = some (.int .i64 (recT xs k)) := c0'
      have c1 : wr.cell? ⟨(ad.add (k * 7)).block, (ad.add (k * 7)).off + 1, none⟩ = some (.int .i64 (recK xs k)) := c1'
      have c2 : wr.cell? ⟨(ad.add (k * 7)).block, (ad.add (k * 7)).off + 2, none⟩ = some (.int .i64 (recL xs k)) := c2'
      clear c0' c1' c2'
      have hltI : (k : Int) < (n : Int) := by omega
      by_cases hkind : recK xs k = 1
      rotate_left
      · have HG := Lib.hid (gTo_skip hkind)
        have hd : decide (recK xs k = 1) = false := by simpa using hkind
        generalize recK xs k = kd at *
        go_wp2
        go_roundw
        case rel => exact ⟨k + 1, ⟨some aT, nt, ct⟩, ⟨some aL, nl, cl⟩, by omega, by go_num, rfl, rfl, by rw [HG.out]; exact oT, by rw [HG.out]; exact oL, hoff, by simp, by simp, hb, KW⟩
        case measure => simp [intOf]; omega
      · rw [hkind] at c1
        have HM := Lib.hid (rfl : aheadP (recT xs k) (gTo xs k) = aheadP (recT xs k) (gTo xs k))
        have HN : Hid (∀ m, m = aheadP (recT xs k) (gTo xs k) → (m < (gTo xs k).length → (fstL (gTo xs k)).getD m 0 ≠ recT xs k) → fstL (gTo xs (k + 1)) = (fstL (gTo xs k)).take m ++ recT xs k :: (fstL (gTo xs k)).drop m ∧ sndL (gTo xs (k + 1)) = (sndL (gTo xs k)).take m ++ recL xs k :: (sndL (gTo xs k)).drop m) := fun m hm h => gTo_new hkind hm.symm h
        have HU : Hid (∀ m, m = aheadP (recT xs k) (gTo xs k) → m < (gTo xs k).length → (fstL (gTo xs k)).getD m 0 = recT xs k → fstL (gTo xs (k + 1)) = fstL (gTo xs k) ∧ sndL (gTo xs (k + 1)) = (sndL (gTo xs k)).set m (recL xs k)) := fun m hm h e => gTo_turn hkind hm.symm h e
        have HA : Hid (∀ a, a < aheadP (recT xs k) (gTo xs k) → (fstL (gTo xs k)).getD a 0 < recT xs k) := fun a h => ahead_lt h
        have HB : Hid (aheadP (recT xs k) (gTo xs k) < (gTo xs k).length → ¬ (fstL (gTo xs k)).getD (aheadP (recT xs k) (gTo xs k)) 0 < recT xs k) := ahead_stop
        have hmle : aheadP (recT xs k) (gTo xs k) ≤ nt := by rw [lT]; exact ahead_le _ _
        rw [← lT] at HN HU HB
        clear HM hkind
        generalize aheadP (recT xs k) (gTo xs k) = m at *
        generalize recT xs k = tk at *
        generalize recL xs k = lv at *
        generalize fstL (gTo xs k) = ts at *
        generalize sndL (gTo xs k) = ls at *
        generalize (gTo xs k).length = gl at *
        obtain rfl : nt = gl := lT
        obtain rfl : nt = nl := lL.symm
        have rT := oT.rd1
        simp only at rT
        have hnt : nt ≤ 200 := by omega
        go_wp2
        go_loopw [7] (fun t7 wx => ∃ a u : Nat, a ≤ m ∧ t7 = .int .i64 a ∧ wx = wr.drewN u) (fun t7 _ => m - (intOf t7).toNat)
        case atStart => exact ⟨0, 0, Nat.zero_le _, rfl, rfl⟩
        case round =>
          obtain ⟨a, u, ha, rfl, rfl⟩ := hrel
          by_cases ham : a < m
          · obtain ⟨_, ⟨⟩, hx⟩ := rT.int (show a < nt by omega)
            have hv := HA.out a ham
            have q1 : decide ((a : Int) < (nt : Int)) = true := decide_eq_true (by omega)
            have q3 : decide (a < nt) = true := decide_eq_true (by omega)
            generalize ts.getD a 0 = x at *
            have q2 : decide (x < tk) = true := decide_eq_true hv
            clear oT oL HN HU HA HB
            go_wp2_with fail
            go_quiet (fail)
            go_wp2
            go_roundw
            case rel => exact ⟨a + 1, _, by omega, by go_num, rfl⟩
            case measure => simp [intOf]; omega
          · obtain rfl : a = m := by omega
            by_cases hmn : a < nt
            · obtain ⟨_, ⟨⟩, hx⟩ := rT.int hmn
              have hv := HB.out hmn
              have q1 : decide ((a : Int) < (nt : Int)) = true := decide_eq_true (by omega)
              have q3 : decide (a < nt) = true := decide_eq_true hmn
              by_cases heq : ts.getD a 0 = tk
              · have HE := Lib.hid (HU.out a rfl hmn heq)
                rw [heq] at hx hv
                have q2 : decide (tk < tk) = false := decide_eq_false (by omega)
                obtain ⟨_, ⟨⟩, hy, hz⟩ := oL.cell (k := a) hmn
                clear HN HU HA HB heq
                go_wp2_with fail
                go_quiet (fail)
                revert nq; intro nq1
                go_wp2_with fail
                go_quiet (fail)
                revert nq; intro nq2
                go_wp2
                have bD : Below wr.heap.size wr (wr.drewN (u + nq1 + nq2)) := Below.drewN (Below.refl _ _) _
                have lrow : (⟨some aL, nt, cl⟩ : Hd).row = some aL.block := Hd.row_mk rfl (show 0 < cl by have := oL.nc; simp only at this; omega)
                have lge := (oL.rowlt _ lrow).1
                refine ⟨⟨k + 1, ⟨some aT, nt, ct⟩, ⟨some aL, nt, cl⟩, by omega, by go_num, rfl, rfl, ?_, ?_, hoff, by simp, by simp, ?_, ?_⟩, by simp [intOf]; omega⟩
                · rw [HE.out.1]
                  exact (oT.below bD).fars (fun e => hoff _ (by rw [block_of_add] at e; exact e) lrow) _
                · rw [HE.out.2]
                  exact (oL.below bD).set_ hmn rfl lv
                · exact (hb.trans (bD.mono hb.size)).setCell (by rw [block_of_add]; omega) _
                · exact (KW.below bD KW.lt).far (by rw [block_of_add]; omega) _
              · have HE := Lib.hid (HN.out a rfl (fun _ => heq))
                have q2 : decide (ts.getD a 0 < tk) = false := decide_eq_false (by omega)
                have q4 : decide (ts.getD a 0 = tk) = false := decide_eq_false heq
                generalize ts.getD a 0 = x at *
                clear HN HU HA HB
                go_wp2_with fail
                go_quiet (fail)
                revert nq; intro nq1
                go_wp2_with fail
                go_quiet (fail)
                revert nq; intro nq2
                go_wp2_with fail
                have hW : Below wr.heap.size wr (((wr.drewN u).drewN nq1).drewN nq2) := Below.drewN (Below.drewN (Below.drewN (Below.refl _ _) _) _) _
                have OT := oT.below hW
                have OL := oL.below hW
                have cT : (((wr.drewN u).drewN nq1).drewN nq2).cell? (ad.add (k * 7)) = some (.int .i64 tk) := c0
                have cL : (((wr.drewN u).drewN nq1).drewN nq2).cell? ⟨(ad.add (k * 7)).block, (ad.add (k * 7)).off + 2, none⟩ = some (.int .i64 lv) := c2
                have KV := KW.below hW KW.lt
                have hV := hb.trans (hW.mono hb.size)
                clear hx rT oT oL KW hb c0 c1 c2 q1 q2 q3 q4 hv heq
                generalize ((wr.drewN u).drewN nq1).drewN nq2 = W at *
                have ha63 : a + 1 ≤ 1099511627776 := by omega
                have hblt : (ad.add (k * 7)).block < W.heap.size := by
                  rw [block_of_add]
                  have h1 := hr.lt rfl (show 0 < n * 7 by omega)
                  have h2 := hV.size
                  omega
                have i0 : (0 : Int) ≤ (a : Int) := by omega
                have i2 : (a : Int) ≤ (nt : Int) := by omega
                have i5 : a ≤ nt := by omega
                have r0 := OT.rd1
                simp only at r0
                have RT1 : Rd W (some aT) a (ints (ts.take a)) := by
                  have := r0.partG (k := 0) (m := a) (by omega)
                  rwa [Option.map_some, Addr.add_zero', List.drop_zero] at this
                have lts : ts.length = nt := r0.len
                have RT2 : Rd W (some (aT.add a)) (nt - a) (ints (ts.drop a)) := by
                  have := r0.partG (k := a) (m := nt - a) (by omega)
                  rwa [Option.map_some, List.take_of_length_le (by rw [List.length_drop]; omega)] at this
                have bZ : Below W.heap.size W (W.alloc (.cells #[.int .i64 tk] 2)) := (Below.refl _ _).alloc (Nat.le_refl _) _
                have RZ1 : Rd (W.alloc (.cells #[.int .i64 tk] 2)).drew (some aT) a (ints (ts.take a)) := Rd.below (w := W) RT1 (Below.drew bZ)
                have RD1 : Rd W.drew (some aT) a (ints (ts.take a)) := RT1
                have RZN : Rd (W.alloc (.cells #[.int .i64 tk] 2)).drew (some ⟨W.heap.size, 0, none⟩) 1 (ints [tk]) := rd_one _ _ _
                have nct : nt ≤ ct := OT.nc
                have i1 : (a : Int) ≤ (ct : Int) := by omega
                have i3 : (nt : Int) ≤ (ct : Int) := by omega
                have i4 : a ≤ ct := by omega
                go_upto_region 13 with fail
                go_cut [4] (fun v wx => ∃ kt : Hd, v = .slice kt.A kt.n kt.c ∧ kt.n = nt + 1 ∧ Own wx W.heap.size 1 kt (ints (ts.take a ++ tk :: ts.drop a)) ∧ Below W.heap.size W wx)
                case first =>
                  go_region_held3 (fun w' => w'.cell? (ad.add (k * 7)) = some (.int .i64 tk))
                    (first | (with_reducible exact cT) | (with_reducible assumption) | go_keep)
                    (first
                      | (go_at_call 39; (with_reducible refine (l01OwnOwn_any (some aT) a ct (ts.take a) _ (by omega) RD1).mono ?_); rintro e u1 ⟨⟨KA, kn, kc⟩, rfl, hkn, OK, bk⟩; obtain rfl : a = kn := hkn.symm; have bk2 : Below W.heap.size W u1 := Below.left (m := 1) bk; have hz := (Below.cell bk2 (p := ad.add (k * 7)) hblt).trans cT; have bu : Below u1.heap.size u1 (u1.alloc (.cells #[.int .i64 tk] 2)) := (Below.refl _ _).alloc (Nat.le_refl _) _; have RU : Rd (u1.alloc (.cells #[.int .i64 tk] 2)) (some ⟨u1.heap.size, 0, none⟩) (1 * 1) (ints [tk]) := rd_one _ _ _; have hBu : W.heap.size ≤ (u1.alloc (.cells #[.int .i64 tk] 2)).heap.size := Nat.le_trans bk2.size bu.size; have h63 : a + 1 ≤ 1099511627776 := ha63)
                      | (go_at_call 39; (with_reducible refine (l01OwnOwn_any (some aT) a ct (ts.take a) _ (by omega) RZ1).mono ?_); rintro e u1 ⟨⟨KA, kn, kc⟩, rfl, hkn, OK, bk⟩; obtain rfl : a = kn := hkn.symm; have bk2 : Below W.heap.size W u1 := (Below.drew bZ).trans (bk.mono bZ.size); have RN : Rd u1 (some ⟨W.heap.size, 0, none⟩) (1 * 1) (ints [tk]) := RZN.below bk; have hz := (Below.cell bk2 (p := ad.add (k * 7)) hblt).trans cT; have OK := OK.mono bZ.size; have hBu := bk2.size; have h63 : a + 1 ≤ 1099511627776 := ha63)
                      | (refine step_append_Own (by rfl) _ _ 24 (by rfl) 2 1 8 Try.underlying24 Int64_info (by decide) W.heap.size (⟨KA, a, kc⟩ : Hd) (ints (ts.take a)) (by rfl) (OK.below (w' := u1.alloc (.cells #[.int .i64 tk] 2)) bu) _ 1 1 (ints [tk]) (by rfl) RU (oneCell_ints _) h63 (by decide) hBu ?_; intro k1 v1 hn1 q1 g1 hat1; have bv1 : Below W.heap.size W v1 := (bk2.trans (bu.mono bk2.size)).grown g1 hBu (fun b e => (OK.rowlt b e).1); have hz1 := (Below.cell bv1 (p := ad.add (k * 7)) hblt).trans cT; have RD2 : Rd v1 (some (aT.add a)) ((nt - a) * 1) (ints (ts.drop a)) := by { rw [Nat.mul_one]; exact RT2.below bv1 }; have h64 : k1.n + (nt - a) ≤ 1099511627776 := by { rw [hn1]; show a + 1 + (nt - a) ≤ 1099511627776; omega })
                      | (refine step_append_Own (by rfl) _ _ 24 (by rfl) 2 1 8 Try.underlying24 Int64_info (by decide) W.heap.size (⟨KA, a, kc⟩ : Hd) (ints (ts.take a)) (by rfl) OK _ 1 1 (ints [tk]) (by rfl) RN (oneCell_ints _) h63 (by decide) hBu ?_; intro k1 v1 hn1 q1 g1 hat1; have bv1 : Below W.heap.size W v1 := bk2.grown g1 hBu (fun b e => (OK.rowlt b e).1); have hz1 := (Below.cell bv1 (p := ad.add (k * 7)) hblt).trans cT; have RD2 : Rd v1 (some (aT.add a)) ((nt - a) * 1) (ints (ts.drop a)) := by { rw [Nat.mul_one]; exact RT2.below bv1 }; have h64 : k1.n + (nt - a) ≤ 1099511627776 := by { rw [hn1]; show a + 1 + (nt - a) ≤ 1099511627776; omega })
                      | (refine step_append_Own (by rfl) _ _ 24 (by rfl) 2 1 8 Try.underlying24 Int64_info (by decide) W.heap.size k1 (ints (ts.take a) ++ ints [tk]) (by rfl) q1 (some (aT.add a)) (nt - a) (ct - a) (ints (ts.drop a)) (by rfl) RD2 (oneCell_ints _) h64 (by decide) bv1.size ?_; intro k2 v2 hn2 q2 g2 hat2; have bv2 : Below W.heap.size W v2 := bv1.grown g2 bv1.size (fun b e => (q1.rowlt b e).1); have hz2 := (Below.cell bv2 (p := ad.add (k * 7)) hblt).trans cT))
                  all_goals
                    have hn3 : k2.n = a + 1 + (nt - a) := by rw [hn2, hn1]
                    have HN3 := Lib.hid hn3
                    have hnk : k2.n = nt + 1 := by rw [hn2, hn1]; show a + 1 + (nt - a) = nt + 1; omega
                    have HNK := Lib.hid hnk
                    clear hn2 hn1 hn3 hnk
                    have q3 : Own v2 W.heap.size 1 k2 (ints (ts.take a ++ tk :: ts.drop a)) := by
                      have e : ints (ts.take a ++ tk :: ts.drop a) = ints (ts.take a) ++ ints [tk] ++ ints (ts.drop a) := by unfold ints; simp
                      rw [e]; exact q2
                    go_wp2_with fail
                    go_meet
                    exact ⟨k2, by first | rfl | rw [HN3.out], HNK.out, q3, bv2⟩
                case rest =>
                  obtain ⟨⟨ktA, ktn, ktc⟩, rfl, hkt, OKT, bT⟩ := hcut
                  obtain ⟨W2, rfl⟩ : ∃ x : World, x = wc := ⟨_, rfl⟩
                  simp only at hkt
                  have OL := OL.below bT
                  have cL : W2.cell? ⟨(ad.add (k * 7)).block, (ad.add (k * 7)).off + 2, none⟩ = some (.int .i64 lv) := (Below.cell bT (p := ⟨(ad.add (k * 7)).block, (ad.add (k * 7)).off + 2, none⟩) hblt).trans cL
                  have hw1 : w.heap.size + 1 ≤ W.heap.size := KV.lt
                  have KV := KV.below bT KV.lt
                  have hV := hV.trans (bT.mono hV.size)
                  have hblt : (ad.add (k * 7)).block < W2.heap.size := Nat.lt_of_lt_of_le hblt bT.size
                  have hW12 := bT.size
                  clear r0 RT1 RT2 bZ RZ1 RD1 RZN nct i1 i3 i4 OT cT bT
                  have HKT := Lib.hid hkt
                  have hktA : ktA ≠ none := by
                    obtain ⟨_, _, e, -, -⟩ := OKT.rd1.at_ (k := 0) (by simp only; omega)
                    simp only at e
                    rw [e]; simp
                  clear hkt
                  have r0 := OL.rd1
                  simp only at r0
                  have RT1 : Rd W2 (some aL) a (ints (ls.take a)) := by
                    have := r0.partG (k := 0) (m := a) (by omega)
                    rwa [Option.map_some, Addr.add_zero', List.drop_zero] at this
                  have lts : ls.length = nt := r0.len
                  have RT2 : Rd W2 (some (aL.add a)) (nt - a) (ints (ls.drop a)) := by
                    have := r0.partG (k := a) (m := nt - a) (by omega)
                    rwa [Option.map_some, List.take_of_length_le (by rw [List.length_drop]; omega)] at this
                  have bZ : Below W2.heap.size W2 (W2.alloc (.cells #[.int .i64 lv] 2)) := (Below.refl _ _).alloc (Nat.le_refl _) _
                  have RZ1 : Rd (W2.alloc (.cells #[.int .i64 lv] 2)).drew (some aL) a (ints (ls.take a)) := Rd.below (w := W2) RT1 (Below.drew bZ)
                  have RD1 : Rd W2.drew (some aL) a (ints (ls.take a)) := RT1
                  have RZN : Rd (W2.alloc (.cells #[.int .i64 lv] 2)).drew (some ⟨W2.heap.size, 0, none⟩) 1 (ints [lv]) := rd_one _ _ _
                  have nct : nt ≤ cl := OL.nc
                  have i1 : (a : Int) ≤ (cl : Int) := by omega
                  have i3 : (nt : Int) ≤ (cl : Int) := by omega
                  have i4 : a ≤ cl := by omega
                  go_upto_region 14 with fail
                  go_region_held3 (fun w' => w'.cell? ⟨(ad.add (k * 7)).block, (ad.add (k * 7)).off + 2, none⟩ = some (.int .i64 lv))
                    (first | (with_reducible exact cL) | (with_reducible assumption) | go_keep)
                    (first
                      | (go_at_call 39; (with_reducible refine (l01OwnOwn_any (some aL) a cl (ls.take a) _ (by omega) RD1).mono ?_); rintro e u1 ⟨⟨KA, kn, kc⟩, rfl, hkn, OK, bk⟩; obtain rfl : a = kn := hkn.symm; have bk2 : Below W2.heap.size W2 u1 := Below.left (m := 1) bk; have hz := (Below.cell bk2 (p := ⟨(ad.add (k * 7)).block, (ad.add (k * 7)).off + 2, none⟩) hblt).trans cL; have bu : Below u1.heap.size u1 (u1.alloc (.cells #[.int .i64 lv] 2)) := (Below.refl _ _).alloc (Nat.le_refl _) _; have RU : Rd (u1.alloc (.cells #[.int .i64 lv] 2)) (some ⟨u1.heap.size, 0, none⟩) (1 * 1) (ints [lv]) := rd_one _ _ _; have hBu : W2.heap.size ≤ (u1.alloc (.cells #[.int .i64 lv] 2)).heap.size := Nat.le_trans bk2.size bu.size; have h63 : a + 1 ≤ 1099511627776 := ha63)
                      | (go_at_call 39; (with_reducible refine (l01OwnOwn_any (some aL) a cl (ls.take a) _ (by omega) RZ1).mono ?_); rintro e u1 ⟨⟨KA, kn, kc⟩, rfl, hkn, OK, bk⟩; obtain rfl : a = kn := hkn.symm; have bk2 : Below W2.heap.size W2 u1 := (Below.drew bZ).trans (bk.mono bZ.size); have RN : Rd u1 (some ⟨W2.heap.size, 0, none⟩) (1 * 1) (ints [lv]) := RZN.below bk; have hz := (Below.cell bk2 (p := ⟨(ad.add (k * 7)).block, (ad.add (k * 7)).off + 2, none⟩) hblt).trans cL; have OK := OK.mono bZ.size; have hBu := bk2.size; have h63 : a + 1 ≤ 1099511627776 := ha63)
                      | (refine step_append_Own (by rfl) _ _ 24 (by rfl) 2 1 8 Try.underlying24 Int64_info (by decide) W2.heap.size (⟨KA, a, kc⟩ : Hd) (ints (ls.take a)) (by rfl) (OK.below (w' := u1.alloc (.cells #[.int .i64 lv] 2)) bu) _ 1 1 (ints [lv]) (by rfl) RU (oneCell_ints _) h63 (by decide) hBu ?_; intro k1 v1 hn1 q1 g1 hat1; have bv1 : Below W2.heap.size W2 v1 := (bk2.trans (bu.mono bk2.size)).grown g1 hBu (fun b e => (OK.rowlt b e).1); have hz1 := (Below.cell bv1 (p := ⟨(ad.add (k * 7)).block, (ad.add (k * 7)).off + 2, none⟩) hblt).trans cL; have RD2 : Rd v1 (some (aL.add a)) ((nt - a) * 1) (ints (ls.drop a)) := by { rw [Nat.mul_one]; exact RT2.below bv1 }; have h64 : k1.n + (nt - a) ≤ 1099511627776 := by { rw [hn1]; show a + 1 + (nt - a) ≤ 1099511627776; omega })
                      | (refine step_append_Own (by rfl) _ _ 24 (by rfl) 2 1 8 Try.underlying24 Int64_info (by decide) W2.heap.size (⟨KA, a, kc⟩ : Hd) (ints (ls.take a)) (by rfl) OK _ 1 1 (ints [lv]) (by rfl) RN (oneCell_ints _) h63 (by decide) hBu ?_; intro k1 v1 hn1 q1 g1 hat1; have bv1 : Below W2.heap.size W2 v1 := bk2.grown g1 hBu (fun b e => (OK.rowlt b e).1); have hz1 := (Below.cell bv1 (p := ⟨(ad.add (k * 7)).block, (ad.add (k * 7)).off + 2, none⟩) hblt).trans cL; have RD2 : Rd v1 (some (aL.add a)) ((nt - a) * 1) (ints (ls.drop a)) := by { rw [Nat.mul_one]; exact RT2.below bv1 }; have h64 : k1.n + (nt - a) ≤ 1099511627776 := by { rw [hn1]; show a + 1 + (nt - a) ≤ 1099511627776; omega })
                      | (refine step_append_Own (by rfl) _ _ 24 (by rfl) 2 1 8 Try.underlying24 Int64_info (by decide) W2.heap.size k1 (ints (ls.take a) ++ ints [lv]) (by rfl) q1 (some (aL.add a)) (nt - a) (cl - a) (ints (ls.drop a)) (by rfl) RD2 (oneCell_ints _) h64 (by decide) bv1.size ?_; intro k2 v2 hn2 q2 g2 hat2; have bv2 : Below W2.heap.size W2 v2 := bv1.grown g2 bv1.size (fun b e => (q1.rowlt b e).1); have hz2 := (Below.cell bv2 (p := ⟨(ad.add (k * 7)).block, (ad.add (k * 7)).off + 2, none⟩) hblt).trans cL))
                  all_goals
                    have hn3 : k2.n = a + 1 + (nt - a) := by rw [hn2, hn1]
                    have HN3 := Lib.hid hn3
                    have hnk : k2.n = nt + 1 := by rw [hn2, hn1]; show a + 1 + (nt - a) = nt + 1; omega
                    have HNK := Lib.hid hnk
                    clear hn2 hn1 hn3 hnk
                    have q3 : Own v2 W2.heap.size 1 k2 (ints (ls.take a ++ lv :: ls.drop a)) := by
                      have e : ints (ls.take a ++ lv :: ls.drop a) = ints (ls.take a) ++ ints [lv] ++ ints (ls.drop a) := by unfold ints; simp
                      rw [e]; exact q2
                    have hkl := HNK.out
                    have OKL := q3
                    have bL := bv2
                    have hklA : k2.A ≠ none := by
                      obtain ⟨_, _, e, -, -⟩ := OKL.rd1.at_ (k := 0) (by omega)
                      rw [e]; simp
                    have OKT2 := OKT.below bL
                    have KV := KV.below bL KV.lt
                    have hV := hV.trans (bL.mono hV.size)
                    have hoff : ∀ b, (⟨ktA, ktn, ktc⟩ : Hd).row = some b → k2.row ≠ some b := fun b e e2 => by have h1 := (OKT.rowlt b e).2; have h2 := (OKL.rowlt b e2).1; omega
                    clear hkl
                    go_wp2_with fail
                    refine ⟨⟨k + 1, ⟨ktA, ktn, ktc⟩, k2, by omega, by go_num, rfl, (by first | rfl | rw [HN3.out]), ?_, ?_, hoff, hktA, hklA, hV, KV⟩, by simp [intOf]; omega⟩
                    · rw [HE.out.1]; exact OKT2.mono hw1
                    · rw [HE.out.2]; exact OKL.mono (Nat.le_trans hw1 hW12)
            · have HQ : Hid (a = nt) := (show a = nt by omega)
              have HE := Lib.hid (HN.out a rfl (fun h => absurd h hmn))
              have q1 : decide ((a : Int) < (nt : Int)) = false := decide_eq_false (by omega)
              have q3 : decide (a < nt) = false := decide_eq_false hmn
              clear HN HU HA HB
              go_wp2_with fail
              go_quiet (fail)
              revert nq; intro nq1
              go_wp2_with fail
              go_quiet (fail)
              revert nq; intro nq2
              go_wp2_with fail
              have hW : Below wr.heap.size wr (((wr.drewN u).drewN nq1).drewN nq2) := Below.drewN (Below.drewN (Below.drewN (Below.refl _ _) _) _) _
              have OT := oT.below hW
              have OL := oL.below hW
              have cT : (((wr.drewN u).drewN nq1).drewN nq2).cell? (ad.add (k * 7)) = some (.int .i64 tk) := c0
              have cL : (((wr.drewN u).drewN nq1).drewN nq2).cell? ⟨(ad.add (k * 7)).block, (ad.add (k * 7)).off + 2, none⟩ = some (.int .i64 lv) := c2
              have KV := KW.below hW KW.lt
              have hV := hb.trans (hW.mono hb.size)
              clear rT oT oL KW hb c0 c1 c2 q1 q3
              generalize ((wr.drewN u).drewN nq1).drewN nq2 = W at *
              have ha63 : a + 1 ≤ 1099511627776 := by omega
              have hblt : (ad.add (k * 7)).block < W.heap.size := by
                rw [block_of_add]
                have h1 := hr.lt rfl (show 0 < n * 7 by omega)
                have h2 := hV.size
                omega
              have i0 : (0 : Int) ≤ (a : Int) := by omega
              have i2 : (a : Int) ≤ (nt : Int) := by omega
              have i5 : a ≤ nt := by omega
              have r0 := OT.rd1
              simp only at r0
              have RT1 : Rd W (some aT) a (ints (ts.take a)) := by
                have := r0.partG (k := 0) (m := a) (by omega)
                rwa [Option.map_some, Addr.add_zero', List.drop_zero] at this
              have lts : ts.length = nt := r0.len
              have RT2 : Rd W (some (aT.add a)) (nt - a) (ints (ts.drop a)) := by
                have := r0.partG (k := a) (m := nt - a) (by omega)
                rwa [Option.map_some, List.take_of_length_le (by rw [List.length_drop]; omega)] at this
              have RT2' : ∀ (v1 : World) (A : Option Addr), Rd v1 A (nt - a) (ints (ts.drop a)) := fun v1 A => by rw [show nt - a = 0 by have := HQ.out; omega, List.drop_eq_nil_of_le (show ts.length ≤ a by have := HQ.out; omega)]; exact Rd.nil _ _
              obtain ⟨XaT, hXaT⟩ : ∃ X, (if ct = a then some aT else some (aT.add a)) = X := ⟨_, rfl⟩
              have bZ : Below W.heap.size W (W.alloc (.cells #[.int .i64 tk] 2)) := (Below.refl _ _).alloc (Nat.le_refl _) _
              have RZ1 : Rd (W.alloc (.cells #[.int .i64 tk] 2)).drew (some aT) a (ints (ts.take a)) := Rd.below (w := W) RT1 (Below.drew bZ)
              have RD1 : Rd W.drew (some aT) a (ints (ts.take a)) := RT1
              have RZN : Rd (W.alloc (.cells #[.int .i64 tk] 2)).drew (some ⟨W.heap.size, 0, none⟩) 1 (ints [tk]) := rd_one _ _ _
              have nct : nt ≤ ct := OT.nc
              have i1 : (a : Int) ≤ (ct : Int) := by omega
              have i3 : (nt : Int) ≤ (ct : Int) := by omega
              have i4 : a ≤ ct := by omega
              go_upto_region 13 with fail
              go_cut [4] (fun v wx => ∃ kt : Hd, v = .slice kt.A kt.n kt.c ∧ kt.n = nt + 1 ∧ Own wx W.heap.size 1 kt (ints (ts.take a ++ tk :: ts.drop a)) ∧ Below W.heap.size W wx)
              case first =>
                go_region_held3 (fun w' => w'.cell? (ad.add (k * 7)) = some (.int .i64 tk))
                  (first | (with_reducible exact cT) | (with_reducible assumption) | go_keep)
                  (first
                    | (go_at_call 39; (with_reducible refine (l01OwnOwn_any (some aT) a ct (ts.take a) _ (by omega) RD1).mono ?_); rintro e u1 ⟨⟨KA, kn, kc⟩, rfl, hkn, OK, bk⟩; obtain rfl : a = kn := hkn.symm; have bk2 : Below W.heap.size W u1 := Below.left (m := 1) bk; have hz := (Below.cell bk2 (p := ad.add (k * 7)) hblt).trans cT; have bu : Below u1.heap.size u1 (u1.alloc (.cells #[.int .i64 tk] 2)) := (Below.refl _ _).alloc (Nat.le_refl _) _; have RU : Rd (u1.alloc (.cells #[.int .i64 tk] 2)) (some ⟨u1.heap.size, 0, none⟩) (1 * 1) (ints [tk]) := rd_one _ _ _; have hBu : W.heap.size ≤ (u1.alloc (.cells #[.int .i64 tk] 2)).heap.size := Nat.le_trans bk2.size bu.size; have h63 : a + 1 ≤ 1099511627776 := ha63)
                    | (go_at_call 39; (with_reducible refine (l01OwnOwn_any (some aT) a ct (ts.take a) _ (by omega) RZ1).mono ?_); rintro e u1 ⟨⟨KA, kn, kc⟩, rfl, hkn, OK, bk⟩; obtain rfl : a = kn := hkn.symm; have bk2 : Below W.heap.size W u1 := (Below.drew bZ).trans (bk.mono bZ.size); have RN : Rd u1 (some ⟨W.heap.size, 0, none⟩) (1 * 1) (ints [tk]) := RZN.below bk; have hz := (Below.cell bk2 (p := ad.add (k * 7)) hblt).trans cT; have OK := OK.mono bZ.size; have hBu := bk2.size; have h63 : a + 1 ≤ 1099511627776 := ha63)
                    | (refine step_append_Own (by rfl) _ _ 24 (by rfl) 2 1 8 Try.underlying24 Int64_info (by decide) W.heap.size (⟨KA, a, kc⟩ : Hd) (ints (ts.take a)) (by rfl) (OK.below (w' := u1.alloc (.cells #[.int .i64 tk] 2)) bu) _ 1 1 (ints [tk]) (by rfl) RU (oneCell_ints _) h63 (by decide) hBu ?_; intro k1 v1 hn1 q1 g1 hat1; have bv1 : Below W.heap.size W v1 := (bk2.trans (bu.mono bk2.size)).grown g1 hBu (fun b e => (OK.rowlt b e).1); have hz1 := (Below.cell bv1 (p := ad.add (k * 7)) hblt).trans cT; have RD2 : ∀ A, Rd v1 A ((nt - a) * 1) (ints (ts.drop a)) := fun A => by { rw [Nat.mul_one]; exact RT2' v1 A }; have h64 : k1.n + (nt - a) ≤ 1099511627776 := by { rw [hn1]; show a + 1 + (nt - a) ≤ 1099511627776; omega })
                    | (refine step_append_Own (by rfl) _ _ 24 (by rfl) 2 1 8 Try.underlying24 Int64_info (by decide) W.heap.size (⟨KA, a, kc⟩ : Hd) (ints (ts.take a)) (by rfl) OK _ 1 1 (ints [tk]) (by rfl) RN (oneCell_ints _) h63 (by decide) hBu ?_; intro k1 v1 hn1 q1 g1 hat1; have bv1 : Below W.heap.size W v1 := bk2.grown g1 hBu (fun b e => (OK.rowlt b e).1); have hz1 := (Below.cell bv1 (p := ad.add (k * 7)) hblt).trans cT; have RD2 : ∀ A, Rd v1 A ((nt - a) * 1) (ints (ts.drop a)) := fun A => by { rw [Nat.mul_one]; exact RT2' v1 A }; have h64 : k1.n + (nt - a) ≤ 1099511627776 := by { rw [hn1]; show a + 1 + (nt - a) ≤ 1099511627776; omega })
                    | (refine step_append_Own (by rfl) _ _ 24 (by rfl) 2 1 8 Try.underlying24 Int64_info (by decide) W.heap.size k1 (ints (ts.take a) ++ ints [tk]) (by rfl) q1 _ (nt - a) (ct - a) (ints (ts.drop a)) (by rfl) (RD2 _) (oneCell_ints _) h64 (by decide) bv1.size ?_; intro k2 v2 hn2 q2 g2 hat2; have bv2 : Below W.heap.size W v2 := bv1.grown g2 bv1.size (fun b e => (q1.rowlt b e).1); have hz2 := (Below.cell bv2 (p := ad.add (k * 7)) hblt).trans cT))
                all_goals
                  have hn3 : k2.n = a + 1 + (nt - a) := by rw [hn2, hn1]
                  have HN3 := Lib.hid hn3
                  have hnk : k2.n = nt + 1 := by rw [hn2, hn1]; show a + 1 + (nt - a) = nt + 1; omega
                  have HNK := Lib.hid hnk
                  clear hn2 hn1 hn3 hnk
                  have q3 : Own v2 W.heap.size 1 k2 (ints (ts.take a ++ tk :: ts.drop a)) := by
                    have e : ints (ts.take a ++ tk :: ts.drop a) = ints (ts.take a) ++ ints [tk] ++ ints (ts.drop a) := by unfold ints; simp
                    rw [e]; exact q2
                  go_wp2_with fail
                  go_meet
                  exact ⟨k2, by first | rfl | rw [HN3.out], HNK.out, q3, bv2⟩
              case rest =>
                obtain ⟨⟨ktA, ktn, ktc⟩, rfl, hkt, OKT, bT⟩ := hcut
                obtain ⟨W2, rfl⟩ : ∃ x : World, x = wc := ⟨_, rfl⟩
                simp only at hkt
                have OL := OL.below bT
                have cL : W2.cell? ⟨(ad.add (k * 7)).block, (ad.add (k * 7)).off + 2, none⟩ = some (.int .i64 lv) := (Below.cell bT (p := ⟨(ad.add (k * 7)).block, (ad.add (k * 7)).off + 2, none⟩) hblt).trans cL
                have hw1 : w.heap.size + 1 ≤ W.heap.size := KV.lt
                have KV := KV.below bT KV.lt
                have hV := hV.trans (bT.mono hV.size)
                have hblt : (ad.add (k * 7)).block < W2.heap.size := Nat.lt_of_lt_of_le hblt bT.size
                have hW12 := bT.size
                clear r0 RT1 RT2 bZ RZ1 RD1 RZN nct i1 i3 i4 OT cT bT
                have HKT := Lib.hid hkt
                have hktA : ktA ≠ none := by
                  obtain ⟨_, _, e, -, -⟩ := OKT.rd1.at_ (k := 0) (by simp only; omega)
                  simp only at e
                  rw [e]; simp
                clear hkt
                have r0 := OL.rd1
                simp only at r0
                have RT1 : Rd W2 (some aL) a (ints (ls.take a)) := by
                  have := r0.partG (k := 0) (m := a) (by omega)
                  rwa [Option.map_some, Addr.add_zero', List.drop_zero] at this
                have lts : ls.length = nt := r0.len
                have RT2 : Rd W2 (some (aL.add a)) (nt - a) (ints (ls.drop a)) := by
                  have := r0.partG (k := a) (m := nt - a) (by omega)
                  rwa [Option.map_some, List.take_of_length_le (by rw [List.length_drop]; omega)] at this
                have RT2' : ∀ (v1 : World) (A : Option Addr), Rd v1 A (nt - a) (ints (ls.drop a)) := fun v1 A => by rw [show nt - a = 0 by have := HQ.out; omega, List.drop_eq_nil_of_le (show ls.length ≤ a by have := HQ.out; omega)]; exact Rd.nil _ _
                obtain ⟨XaL, hXaL⟩ : ∃ X, (if cl = a then some aL else some (aL.add a)) = X := ⟨_, rfl⟩
                have bZ : Below W2.heap.size W2 (W2.alloc (.cells #[.int .i64 lv] 2)) := (Below.refl _ _).alloc (Nat.le_refl _) _
                have RZ1 : Rd (W2.alloc (.cells #[.int .i64 lv] 2)).drew (some aL) a (ints (ls.take a)) := Rd.below (w := W2) RT1 (Below.drew bZ)
                have RD1 : Rd W2.drew (some aL) a (ints (ls.take a)) := RT1
                have RZN : Rd (W2.alloc (.cells #[.int .i64 lv] 2)).drew (some ⟨W2.heap.size, 0, none⟩) 1 (ints [lv]) := rd_one _ _ _
                have nct : nt ≤ cl := OL.nc
                have i1 : (a : Int) ≤ (cl : Int) := by omega
                have i3 : (nt : Int) ≤ (cl : Int) := by omega
                have i4 : a ≤ cl := by omega
                go_upto_region 14 with fail
                go_region_held3 (fun w' => w'.cell? ⟨(ad.add (k * 7)).block, (ad.add (k * 7)).off + 2, none⟩ = some (.int .i64 lv))
                  (first | (with_reducible exact cL) | (with_reducible assumption) | go_keep)
                  (first
                    | (go_at_call 39; (with_reducible refine (l01OwnOwn_any (some aL) a cl (ls.take a) _ (by omega) RD1).mono ?_); rintro e u1 ⟨⟨KA, kn, kc⟩, rfl, hkn, OK, bk⟩; obtain rfl : a = kn := hkn.symm; have bk2 : Below W2.heap.size W2 u1 := Below.left (m := 1) bk; have hz := (Below.cell bk2 (p := ⟨(ad.add (k * 7)).block, (ad.add (k * 7)).off + 2, none⟩) hblt).trans cL; have bu : Below u1.heap.size u1 (u1.alloc (.cells #[.int .i64 lv] 2)) := (Below.refl _ _).alloc (Nat.le_refl _) _; have RU : Rd (u1.alloc (.cells #[.int .i64 lv] 2)) (some ⟨u1.heap.size, 0, none⟩) (1 * 1) (ints [lv]) := rd_one _ _ _; have hBu : W2.heap.size ≤ (u1.alloc (.cells #[.int .i64 lv] 2)).heap.size := Nat.le_trans bk2.size bu.size; have h63 : a + 1 ≤ 1099511627776 := ha63)
                    | (go_at_call 39; (with_reducible refine (l01OwnOwn_any (some aL) a cl (ls.take a) _ (by omega) RZ1).mono ?_); rintro e u1 ⟨⟨KA, kn, kc⟩, rfl, hkn, OK, bk⟩; obtain rfl : a = kn := hkn.symm; have bk2 : Below W2.heap.size W2 u1 := (Below.drew bZ).trans (bk.mono bZ.size); have RN : Rd u1 (some ⟨W2.heap.size, 0, none⟩) (1 * 1) (ints [lv]) := RZN.below bk; have hz := (Below.cell bk2 (p := ⟨(ad.add (k * 7)).block, (ad.add (k * 7)).off + 2, none⟩) hblt).trans cL; have OK := OK.mono bZ.size; have hBu := bk2.size; have h63 : a + 1 ≤ 1099511627776 := ha63)
                    | (refine step_append_Own (by rfl) _ _ 24 (by rfl) 2 1 8 Try.underlying24 Int64_info (by decide) W2.heap.size (⟨KA, a, kc⟩ : Hd) (ints (ls.take a)) (by rfl) (OK.below (w' := u1.alloc (.cells #[.int .i64 lv] 2)) bu) _ 1 1 (ints [lv]) (by rfl) RU (oneCell_ints _) h63 (by decide) hBu ?_; intro k1 v1 hn1 q1 g1 hat1; have bv1 : Below W2.heap.size W2 v1 := (bk2.trans (bu.mono bk2.size)).grown g1 hBu (fun b e => (OK.rowlt b e).1); have hz1 := (Below.cell bv1 (p := ⟨(ad.add (k * 7)).block, (ad.add (k * 7)).off + 2, none⟩) hblt).trans cL; have RD2 : ∀ A, Rd v1 A ((nt - a) * 1) (ints (ls.drop a)) := fun A => by { rw [Nat.mul_one]; exact RT2' v1 A }; have h64 : k1.n + (nt - a) ≤ 1099511627776 := by { rw [hn1]; show a + 1 + (nt - a) ≤ 1099511627776; omega })
                    | (refine step_append_Own (by rfl) _ _ 24 (by rfl) 2 1 8 Try.underlying24 Int64_info (by decide) W2.heap.size (⟨KA, a, kc⟩ : Hd) (ints (ls.take a)) (by rfl) OK _ 1 1 (ints [lv]) (by rfl) RN (oneCell_ints _) h63 (by decide) hBu ?_; intro k1 v1 hn1 q1 g1 hat1; have bv1 : Below W2.heap.size W2 v1 := bk2.grown g1 hBu (fun b e => (OK.rowlt b e).1); have hz1 := (Below.cell bv1 (p := ⟨(ad.add (k * 7)).block, (ad.add (k * 7)).off + 2, none⟩) hblt).trans cL; have RD2 : ∀ A, Rd v1 A ((nt - a) * 1) (ints (ls.drop a)) := fun A => by { rw [Nat.mul_one]; exact RT2' v1 A }; have h64 : k1.n + (nt - a) ≤ 1099511627776 := by { rw [hn1]; show a + 1 + (nt - a) ≤ 1099511627776; omega })
                    | (refine step_append_Own (by rfl) _ _ 24 (by rfl) 2 1 8 Try.underlying24 Int64_info (by decide) W2.heap.size k1 (ints (ls.take a) ++ ints [lv]) (by rfl) q1 _ (nt - a) (cl - a) (ints (ls.drop a)) (by rfl) (RD2 _) (oneCell_ints _) h64 (by decide) bv1.size ?_; intro k2 v2 hn2 q2 g2 hat2; have bv2 : Below W2.heap.size W2 v2 := bv1.grown g2 bv1.size (fun b e => (q1.rowlt b e).1); have hz2 := (Below.cell bv2 (p := ⟨(ad.add (k * 7)).block, (ad.add (k * 7)).off + 2, none⟩) hblt).trans cL))
                all_goals
                  have hn3 : k2.n = a + 1 + (nt - a) := by rw [hn2, hn1]
                  have HN3 := Lib.hid hn3
                  have hnk : k2.n = nt + 1 := by rw [hn2, hn1]; show a + 1 + (nt - a) = nt + 1; omega
                  have HNK := Lib.hid hnk
                  clear hn2 hn1 hn3 hnk
                  have q3 : Own v2 W2.heap.size 1 k2 (ints (ls.take a ++ lv :: ls.drop a)) := by
                    have e : ints (ls.take a ++ lv :: ls.drop a) = ints (ls.take a) ++ ints [lv] ++ ints (ls.drop a) := by unfold ints; simp
                    rw [e]; exact q2
                  have hkl := HNK.out
                  have OKL := q3
                  have bL := bv2
                  have hklA : k2.A ≠ none := by
                    obtain ⟨_, _, e, -, -⟩ := OKL.rd1.at_ (k := 0) (by omega)
                    rw [e]; simp
                  have OKT2 := OKT.below bL
                  have KV := KV.below bL KV.lt
                  have hV := hV.trans (bL.mono hV.size)
                  have hoff : ∀ b, (⟨ktA, ktn, ktc⟩ : Hd).row = some b → k2.row ≠ some b := fun b e e2 => by have h1 := (OKT.rowlt b e).2; have h2 := (OKL.rowlt b e2).1; omega
                  clear hkl
                  go_wp2_with fail
                  refine ⟨⟨k + 1, ⟨ktA, ktn, ktc⟩, k2, by omega, by go_num, rfl, (by first | rfl | rw [HN3.out]), ?_, ?_, hoff, hktA, hklA, hV, KV⟩, by simp [intOf]; omega⟩
                  · rw [HE.out.1]; exact OKT2.mono hw1
                  · rw [HE.out.2]; exact OKL.mono (Nat.le_trans hw1 hW12)
    · obtain rfl : n = k := by omega
      obtain rfl : nt = nl := by omega
      have lts : (fstL (gTo xs n)).length = nt := oT.rd1.len
      have hKW := KW.lt
      have LT := Lib.hid lT
      clear lT lL lk
      have e0 := fun o => KW.cell o
      have f0 := fun o => KW.frozen o
      by_cases h0 : nt = 0
      · have HP : Hid (gaugeP xs n = [] ∧ gaugeC xs n = 4) := by unfold Hid gaugeP gaugeC; rw [HLOG.out, ← LT.out, h0]; exact ⟨by simpa using List.length_eq_zero_iff.1 (LT.out.symm.trans h0), rfl⟩
        clear LT lts
        subst h0
        go_wp2
        refine bodyPost_ret (v := .tuple #[.agg #[.slice none 0 0, .slice none 0 0], .int .i64 4]) (by simp [results, Try.results9, go_sem, e0]) rfl ⟨⟨⟨none, 0, 0⟩, ⟨none, 0, 0⟩⟩, ?_, ⟨Nat.zero_le _, Nat.zero_le _⟩, ?_, ?_, ?_, ?_⟩
        · rw [HP.out.2]; rfl
        · unfold gaugeR; rw [HP.out.1]; exact RdAll.cons (s := ⟨none, 0, []⟩) (Rd.nil _ _) (RdAll.cons (s := ⟨none, 0, []⟩) (Rd.nil _ _) (RdAll.nil _))
        · exact WrAll.cons (s := ⟨none, 0, _⟩) (fun h => absurd h (Nat.lt_irrefl 0)) (WrAll.cons (s := ⟨none, 0, _⟩) (fun h => absurd h (Nat.lt_irrefl 0)) (WrAll.nil _ _))
        · exact Sep.cons (fun s hs t ht b e => by rw [List.mem_singleton.1 hs] at e; cases e) (Sep.one _)
        · repeat (first | with_reducible exact hb | refine Below.setCell ?_ (by simp <;> omega) _)
      have h0I : ¬ ((nt : Int) = 0) := by omega
      by_cases h1 : nt ≤ 40
      rotate_left
      · have h1I : (40 : Int) < (nt : Int) := by omega
        have HP : Hid (gaugeP xs n = [] ∧ gaugeC xs n = 3) := by unfold Hid gaugeP gaugeC; simp [HLOG.out, ← LT.out, h0, h1]
        go_wp2
        refine bodyPost_ret (v := .tuple #[.agg #[.slice none 0 0, .slice none 0 0], .int .i64 3]) (by simp [results, Try.results9, go_sem, e0]) rfl ⟨⟨⟨none, 0, 0⟩, ⟨none, 0, 0⟩⟩, ?_, ⟨Nat.zero_le _, Nat.zero_le _⟩, ?_, ?_, ?_, ?_⟩
        · rw [HP.out.2]; rfl
        · unfold gaugeR; rw [HP.out.1]; exact RdAll.cons (s := ⟨none, 0, []⟩) (Rd.nil _ _) (RdAll.cons (s := ⟨none, 0, []⟩) (Rd.nil _ _) (RdAll.nil _))
        · exact WrAll.cons (s := ⟨none, 0, _⟩) (fun h => absurd h (Nat.lt_irrefl 0)) (WrAll.cons (s := ⟨none, 0, _⟩) (fun h => absurd h (Nat.lt_irrefl 0)) (WrAll.nil _ _))
        · exact Sep.cons (fun s hs t ht b e => by rw [List.mem_singleton.1 hs] at e; cases e) (Sep.one _)
        · repeat (first | with_reducible exact hb | refine Below.setCell ?_ (by simp <;> omega) _)
      · have h1I : ¬ (40 : Int) < (nt : Int) := by omega
        have HP : Hid (gaugeR xs n = ⟨fstL (gTo xs n), sndL (gTo xs n)⟩ ∧ gaugeC xs n = 0) := by unfold Hid gaugeR gaugeP gaugeC; simp [HLOG.out, ← LT.out, h0, h1]
        have hrow2 : ∀ (h : Hd) (us : List Value), Own wr (w.heap.size + 1) 1 h us → ∀ (u v : Value), Own ((wr.setCell ⟨w.heap.size, 0, none⟩ u).setCell ⟨w.heap.size, 1, none⟩ v) (w.heap.size + 1) 1 h us := fun h us o u v => (o.fars (fun e => by have := (o.rowlt _ e).1; simp only at this; omega) u).fars (fun e => by have := (o.rowlt _ e).1; simp only at this; omega) v
        have OT2 := fun u v => hrow2 _ _ oT u v
        have OL2 := fun u v => hrow2 _ _ oL u v
        go_wp2
        refine bodyPost_ret (v := .tuple #[.agg #[.slice (some aT) nt ct, .slice (some aL) nt cl], .int .i64 0]) (by simp [results, Try.results9, go_sem, e0]) rfl ?_
        rw [HP.out.1, HP.out.2]
        refine ⟨⟨⟨some aT, nt, ct⟩, ⟨some aL, nt, cl⟩⟩, rfl, ⟨by simp only; omega, by simp only; omega⟩, RdAll.cons (s := ⟨some aT, nt, ints (fstL (gTo xs n))⟩) ?_ (RdAll.cons (s := ⟨some aL, nt, ints (sndL (gTo xs n))⟩) ?_ (RdAll.nil _)), WrAll.cons (s := ⟨some aT, nt, ints (fstL (gTo xs n))⟩) ?_ (WrAll.cons (s := ⟨some aL, nt, ints (sndL (gTo xs n))⟩) ?_ (WrAll.nil _ _)), ?_, ?_⟩
        · exact (OT2 _ _).rd1
        · exact (OL2 _ _).rd1
        · exact ((OT2 _ _).mono (Nat.le_succ _)).wr1
        · exact ((OL2 _ _).mono (Nat.le_succ _)).wr1
        · refine Sep.cons (fun s hs t ht b e => ?_) (Sep.one _)
          rw [List.mem_singleton.1 hs] at e
          rw [List.mem_singleton.1 ht]
          intro e2
          obtain ⟨_, e3, h3, rfl⟩ := row_some e
          obtain ⟨_, e4, h4, h5⟩ := row_some e2
          have hc3 : 0 < ct := by have := oT.nc; simp only at this h3; omega
          have hc4 : 0 < cl := by have := oL.nc; simp only at this h4; omega
          exact hoff _ (Hd.row_mk e3 hc3) (by rw [← h5]; exact Hd.row_mk e4 hc4)
        · repeat (first | with_reducible exact hb | refine Below.setCell ?_ (by simp <;> omega) _)
end Go.Proofs.Ytphpjmkebnadoaa
