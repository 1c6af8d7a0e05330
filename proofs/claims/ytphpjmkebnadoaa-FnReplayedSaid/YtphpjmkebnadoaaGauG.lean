/- impl.gaugeOf and impl.GaugeOfLog. Condition: lengths. -/
import Derived.Test.YtphpjmkebnadoaaGauE
namespace Go.Proofs.Ytphpjmkebnadoaa
open Go.RowKit

def recsL (xs : List Int) (ks : List Nat) : List Int := ks.flatMap fun i => [xs.getD (i * 7) 0, xs.getD (i * 7 + 1) 0, xs.getD (i * 7 + 2) 0, xs.getD (i * 7 + 3) 0, xs.getD (i * 7 + 4) 0, xs.getD (i * 7 + 5) 0, xs.getD (i * 7 + 6) 0]
theorem recsV_ints (xs : List Int) : ∀ ks : List Nat, recsV xs ks = ints (recsL xs ks)
  | [] => rfl
  | k :: ks => by
    show encR xs k ++ recsV xs ks = ints (_ ++ recsL xs ks)
    rw [recsV_ints xs ks, ints_append]; rfl
theorem recsL_at (xs : List Int) : ∀ (ks : List Nat) (j : Nat) (h : j < ks.length), (recsL xs ks).getD (j * 7) 0 = recT xs ks[j] ∧ (recsL xs ks).getD (j * 7 + 2) 0 = recL xs ks[j]
  | [], _, h => absurd h (Nat.not_lt_zero _)
  | k :: ks, 0, _ => ⟨rfl, rfl⟩
  | k :: ks, j + 1, h => by
    have ih := recsL_at xs ks j (by simpa using h)
    have e : ∀ (a b c d e f g : Int) (l : List Int) (i : Nat), ([a, b, c, d, e, f, g] ++ l).getD (i + 7) 0 = l.getD i 0 := by
      intro a b c d e f g l i
      simp [List.getD_eq_getElem?_getD]
    rw [show (j + 1) * 7 = j * 7 + 7 by omega, show j * 7 + 7 + 2 = (j * 7 + 2) + 7 by omega]
    show (_ ++ recsL xs ks).getD _ 0 = _ ∧ (_ ++ recsL xs ks).getD _ 0 = _
    rw [e, e]
    exact ih
theorem rd_encR (w : World) (xs : List Int) (k : Nat) (e : TypeId) : Rd (w.alloc (.cells (encR xs k).toArray e)) (some ⟨w.heap.size, 0, none⟩) (1 * 7) (encR xs k) := by
  refine ⟨rfl, fun _ => ⟨_, rfl, fun i hi => ?_⟩⟩
  rw [add_lit, (Blk.new w e (encR xs k).toArray).cell]
  simp
theorem Rd.restG {w : World} {ad : Addr} {n c k : Nat} {xs : List Int} {X : Option Addr} (h : Rd w (some ad) (n * 7) (ints xs)) (hk : k < n) (hc : n ≤ c) (hX : (if c = k + 1 then some ad else some (ad.add ((k + 1) * 7))) = X) : Rd w X ((n - (k + 1)) * 7) (ints (xs.drop ((k + 1) * 7))) := by
  have hl := h.len
  by_cases e : c = k + 1
  · have e2 : n - (k + 1) = 0 := by omega
    rw [e2, List.drop_eq_nil_of_le (by omega)]
    exact Rd.nil _ _
  · rw [if_neg e] at hX
    subst hX
    have := Rd.partG (A := some ad) (n := n * 7) (k := (k + 1) * 7) (m := (n - (k + 1)) * 7) (by exact h) (by omega)
    rwa [Option.map_some, List.take_of_length_le (by rw [List.length_drop]; omega)] at this

set_option maxRecDepth 100000 in
set_option maxHeartbeats 2000000 in
theorem gaugeOf_any (A : Option Addr) (n c : Nat) (xs : List Int) (w : World) (hn : n ≤ 200) (hnc : n ≤ c) (hr : Rd w A (n * 7) (ints xs)) (hlog : logB xs n = true) :
    Calls Try.prog 42 #[.slice A n c] w fun e w' => ∃ k : GaugeH, e = .returned (.tuple #[GaugeV k (gaugeR xs n), .int .i64 (gaugeC xs n)]) ∧ GaugeOk k ∧ RdAll w' (GaugeS k (gaugeR xs n)) ∧ WrAll w' w.heap.size (GaugeS k (gaugeR xs n)) ∧ Sep (GaugeR k) ∧ Below w.heap.size w w' := by
  have K0 := Blk.new w 26 #[.slice none 0 0, .slice none 0 0]
  have b0 : Below w.heap.size w (w.alloc (.cells #[.slice none 0 0, .slice none 0 0] 26)) := (Below.refl _ _).alloc (Nat.le_refl _) _
  have HLOG := Lib.hid hlog
  clear hlog
  go_enter Try.func42, Try.ntmps42
  go_upto_region 1 with fail
  generalize w.alloc (.cells #[.slice none 0 0, .slice none 0 0] 26) = w1 at K0 b0 ⊢
  have hz1 : w.heap.size < w1.heap.size := K0.lt
  go_wp2_with fail
  go_loopw [4, 13] (fun v4 v13 wr => ∃ (k : Nat) (h : Hd), k ≤ n ∧ v13 = .int .i64 k ∧ v4 = .slice h.A h.n h.c ∧ h.n = (sel xs n k).length ∧ Own wr (w.heap.size + 1) 7 h (recsV xs (sel xs n k)) ∧ Below w.heap.size w wr ∧ Blk wr w.heap.size 26 #[.slice none 0 0, .slice none 0 0])
    (fun _ v13 _ => n - (intOf v13).toNat)
  case atStart => exact ⟨0, ⟨none, 0, 0⟩, Nat.zero_le _, rfl, rfl, rfl, Own.nil _ _ _, b0, K0⟩
  case round =>
    obtain ⟨k, ⟨HA, hN, hC⟩, hk, rfl, rfl, hlen, o, hb, KW⟩ := hrel
    clear K0 b0 hz1
    simp only at hlen
    have HLEN := Lib.hid hlen
    have hNn : hN ≤ 200 := by
      have : (sel xs n k).length ≤ (List.range k).length := List.length_filter_le _ _
      rw [List.length_range] at this
      omega
    clear hlen
    by_cases hlt : k < n
    · have hltI : (k : Int) < (n : Int) := by omega
      obtain ⟨ad, rfl, c0, c1, c2, c3, c4, c5, c6⟩ := (hr.below hb).seven hlt
      obtain ⟨X, hX⟩ : ∃ X, (if c = k + 1 then some ad else some (ad.add ((k + 1) * 7))) = X := ⟨_, rfl⟩
      have RX := (hr.below hb).restG hlt hnc hX
      have HSEL := Lib.hid (sel_succ xs n k)
      have HSB := Lib.hid (selB_later (xs := xs) hlt)
      have HE : Hid (encR xs k = [.int .i64 (xs.getD (k * 7) 0), .int .i64 (xs.getD (k * 7 + 1) 0), .int .i64 (xs.getD (k * 7 + 2) 0), .int .i64 (xs.getD (k * 7 + 3) 0), .int .i64 (xs.getD (k * 7 + 4) 0), .int .i64 (xs.getD (k * 7 + 5) 0), .int .i64 (xs.getD (k * 7 + 6) 0)]) := rfl
      have HT : Hid (recT xs k = xs.getD (k * 7) 0 ∧ recK xs k = xs.getD (k * 7 + 1) 0) := ⟨rfl, rfl⟩
      generalize xs.getD (k * 7) 0 = x0 at *
      generalize xs.getD (k * 7 + 1) 0 = x1 at *
      generalize xs.getD (k * 7 + 2) 0 = x2 at *
      generalize xs.getD (k * 7 + 3) 0 = x3 at *
      generalize xs.getD (k * 7 + 4) 0 = x4 at *
      generalize xs.getD (k * 7 + 5) 0 = x5 at *
      generalize xs.getD (k * 7 + 6) 0 = x6 at *
      have i1 : (k : Int) + 1 ≤ (n : Int) := by omega
      have i2 : k + 1 ≤ n := by omega
      go_upto_region 5 with fail
      have KB := Blk.new wr 47 #[.int .i64 x0, .int .i64 x1, .int .i64 x2, .int .i64 x3, .int .i64 x4, .int .i64 x5, .int .i64 x6]
      have b1 : Below wr.heap.size wr (wr.alloc (.cells #[.int .i64 x0, .int .i64 x1, .int .i64 x2, .int .i64 x3, .int .i64 x4, .int .i64 x5, .int .i64 x6] 47)) := (Below.refl _ _).alloc (Nat.le_refl _) _
      replace RX := RX.below b1
      replace o := o.below b1
      replace KW := KW.below b1 KW.lt
      replace hb := hb.trans (b1.mono hb.size)
      clear b1 c0 c1 c2 c3 c4 c5 c6
      generalize wr.alloc (.cells #[.int .i64 x0, .int .i64 x1, .int .i64 x2, .int .i64 x3, .int .i64 x4, .int .i64 x5, .int .i64 x6] 47) = w2 at KB RX o KW hb ⊢
      generalize wr.heap.size = gb at KB ⊢
      have hgb := KB.lt
      have cB := KB.cell 0
      go_wp2_with fail
      refine (containsLater_any X (n - (k + 1)) (c - (k + 1)) _ x0 gb _ (by omega) RX hgb cB).mono ?_
      rintro e w3 ⟨rfl, b3⟩
      replace o := o.below b3
      replace KW := KW.below b3 KW.lt
      replace hb := hb.trans (b3.mono hb.size)
      replace KB := KB.below b3 hgb
      replace hgb := KB.lt
      clear b3 RX cB
      have HSB2 : Hid (selB xs n k = (decide (x1 = 1) && !(laterB (List.drop ((k + 1) * 7) xs) (n - (k + 1)) x0))) := by have := HSB.out; rw [HT.out.1, HT.out.2] at this; exact this
      clear HSB HT
      have cB := fun o => KB.cell o
      generalize laterB (List.drop ((k + 1) * 7) xs) (n - (k + 1)) x0 = lb at *
      by_cases hx1 : x1 = 1
      · subst hx1
        cases lb
        · have HS2 : Hid (sel xs n (k + 1) = sel xs n k ++ [k]) := by show _ = _; rw [HSEL.out, HSB2.out]; rfl
          have bz : Below w3.heap.size w3 (w3.alloc (.cells #[.int .i64 x0, .int .i64 1, .int .i64 x2, .int .i64 x3, .int .i64 x4, .int .i64 x5, .int .i64 x6] 47)) := (Below.refl _ _).alloc (Nat.le_refl _) _
          have oz := o.below bz
          have RE : Rd (w3.alloc (.cells #[.int .i64 x0, .int .i64 1, .int .i64 x2, .int .i64 x3, .int .i64 x4, .int .i64 x5, .int .i64 x6] 47)) (some ⟨w3.heap.size, 0, none⟩) (1 * 7) (encR xs k) := by have := rd_encR w3 xs k 47; rw [HE.out] at this; rw [HE.out]; exact this
          have hBz : w.heap.size + 1 ≤ (w3.alloc (.cells #[.int .i64 x0, .int .i64 1, .int .i64 x2, .int .i64 x3, .int .i64 x4, .int .i64 x5, .int .i64 x6] 47)).heap.size := Nat.le_trans KW.lt bz.size
          have h63 : hN + 1 ≤ 1099511627776 := by omega
          replace KW := KW.below bz KW.lt
          replace hb := hb.trans (bz.mono hb.size)
          have hrow : ∀ b, (⟨HA, hN, hC⟩ : Hd).row = some b → w.heap.size + 1 ≤ b := fun b e => (o.rowlt b e).1
          clear o bz
          go_wp2_with (at_builtin; refine wpList_append_Own rfl _ _ 29 rfl 47 7 56 Try.underlying29 Record_info (by decide) (w.heap.size + 1) ⟨HA, hN, hC⟩ _ rfl oz _ 1 1 (encR xs k) rfl RE (oneCell_encR xs k) h63 (by decide) hBz ?_; intro G wg hGn HG gg hat)
          have hn2 : G.n = (sel xs n (k + 1)).length := by rw [hGn, HS2.out, List.length_append, ← HLEN.out]; rfl
          have HN2 := Lib.hid hn2
          have HGN := Lib.hid hGn
          clear hGn hn2 hat
          go_roundw
          case rel => exact ⟨k + 1, G, by omega, by go_num, by first | rfl | rw [HGN.out], HN2.out, by rw [HS2.out, recsV_snoc]; exact HG, hb.grown gg (by have := KW.lt; omega) (fun b e => by have := hrow b e; omega), KW.grown gg (fun e => by have := hrow _ e; omega)⟩
          case measure => simp [intOf]; omega
        · have HS2 : Hid (sel xs n (k + 1) = sel xs n k) := by show _ = _; rw [HSEL.out, HSB2.out]; rfl
          go_wp2_with fail
          go_roundw
          case rel => exact ⟨k + 1, ⟨HA, hN, hC⟩, by omega, by go_num, rfl, by rw [HS2.out]; exact HLEN.out, by rw [HS2.out]; exact o, hb, KW⟩
          case measure => simp [intOf]; omega
      · have hd : decide (x1 = 1) = false := by simpa using hx1
        have HS2 : Hid (sel xs n (k + 1) = sel xs n k) := by show _ = _; rw [HSEL.out, HSB2.out, hd]; rfl
        go_wp2_with fail
        go_roundw
        case rel => exact ⟨k + 1, ⟨HA, hN, hC⟩, by omega, by go_num, rfl, by rw [HS2.out]; exact HLEN.out, by rw [HS2.out]; exact o, hb, KW⟩
        case measure => simp [intOf]; omega
    · obtain rfl : n = k := by omega
      have HGL : Hid (hN = (gTo xs n).length) := by show _ = _; rw [HLEN.out]; exact sel_len xs n
      have hKW := KW.lt
      have e0 := fun o => KW.cell o
      have f0 := fun o => KW.frozen o
      by_cases h0 : hN = 0
      · have HP : Hid (gaugeP xs n = [] ∧ gaugeC xs n = 4) := by unfold Hid gaugeP gaugeC; rw [HLOG.out, ← HGL.out, h0]; exact ⟨by simpa using List.length_eq_zero_iff.1 (HGL.out.symm.trans h0), rfl⟩
        clear HGL HLEN o
        subst h0
        go_wp2
        refine bodyPost_ret (v := .tuple #[.agg #[.slice none 0 0, .slice none 0 0], .int .i64 4]) (by simp [results, Try.results42, go_sem, e0]) rfl ⟨⟨⟨none, 0, 0⟩, ⟨none, 0, 0⟩⟩, ?_, ⟨Nat.zero_le _, Nat.zero_le _⟩, ?_, ?_, ?_, ?_⟩
        · rw [HP.out.2]; rfl
        · unfold gaugeR; rw [HP.out.1]; exact RdAll.cons (s := ⟨none, 0, []⟩) (Rd.nil _ _) (RdAll.cons (s := ⟨none, 0, []⟩) (Rd.nil _ _) (RdAll.nil _))
        · exact WrAll.cons (s := ⟨none, 0, _⟩) (fun h => absurd h (Nat.lt_irrefl 0)) (WrAll.cons (s := ⟨none, 0, _⟩) (fun h => absurd h (Nat.lt_irrefl 0)) (WrAll.nil _ _))
        · exact Sep.cons (fun s hs t ht b e => by rw [List.mem_singleton.1 hs] at e; cases e) (Sep.one _)
        · repeat (first | with_reducible exact hb | refine Below.setCell ?_ (by simp <;> omega) _)
      have h0I : ¬ ((hN : Int) = 0) := by omega
      by_cases h1 : hN ≤ 40
      rotate_left
      · have h1I : (40 : Int) < (hN : Int) := by omega
        have HP : Hid (gaugeP xs n = [] ∧ gaugeC xs n = 3) := by unfold Hid gaugeP gaugeC; simp [HLOG.out, ← HGL.out, h0, h1]
        go_wp2
        refine bodyPost_ret (v := .tuple #[.agg #[.slice none 0 0, .slice none 0 0], .int .i64 3]) (by simp [results, Try.results42, go_sem, e0]) rfl ⟨⟨⟨none, 0, 0⟩, ⟨none, 0, 0⟩⟩, ?_, ⟨Nat.zero_le _, Nat.zero_le _⟩, ?_, ?_, ?_, ?_⟩
        · rw [HP.out.2]; rfl
        · unfold gaugeR; rw [HP.out.1]; exact RdAll.cons (s := ⟨none, 0, []⟩) (Rd.nil _ _) (RdAll.cons (s := ⟨none, 0, []⟩) (Rd.nil _ _) (RdAll.nil _))
        · exact WrAll.cons (s := ⟨none, 0, _⟩) (fun h => absurd h (Nat.lt_irrefl 0)) (WrAll.cons (s := ⟨none, 0, _⟩) (fun h => absurd h (Nat.lt_irrefl 0)) (WrAll.nil _ _))
        · exact Sep.cons (fun s hs t ht b e => by rw [List.mem_singleton.1 hs] at e; cases e) (Sep.one _)
        · repeat (first | with_reducible exact hb | refine Below.setCell ?_ (by simp <;> omega) _)
      have h1I : ¬ (40 : Int) < (hN : Int) := by omega
      have HP : Hid (gaugeR xs n = ⟨fstL (gTo xs n), sndL (gTo xs n)⟩ ∧ gaugeC xs n = 0) := by unfold Hid gaugeR gaugeP gaugeC; simp [HLOG.out, ← HGL.out, h0, h1]
      have h0p : 0 < hN := by omega
      go_wp2_with fail
      refine (sortRecs_any (w.heap.size + 1) ⟨HA, hN, hC⟩ xs _ _ o h0p (by simp only; omega)).mono ?_
      rintro e w2 ⟨rfl, ks, hp, hs, RK, g2⟩
      have HKS := Lib.hid (gauge_eq hp hs)
      have hlk : ks.length = hN := (hp.length_eq).trans HLEN.out.symm
      have hrow : ∀ b, (⟨HA, hN, hC⟩ : Hd).row = some b → w.heap.size + 1 ≤ b := fun b e => (o.rowlt b e).1
      replace KW := KW.grown g2 (fun e => by have := hrow _ e; omega)
      replace hb := hb.grown g2 (by omega) (fun b e => by have := hrow b e; omega)
      rw [recsV_ints] at RK
      simp only at RK
      clear o hp hs HLEN g2 e0 f0 hKW
      have hKW := KW.lt
      have K8 := Blk.new w2 26 #[.slice none 0 0, .slice none 0 0]
      have b8 : Below w2.heap.size w2 (w2.alloc (.cells #[.slice none 0 0, .slice none 0 0] 26)) := (Below.refl _ _).alloc (Nat.le_refl _) _
      go_upto_region 15 with fail
      go_wp2_with fail
      go_loopw [50] (fun v50 wr => ∃ (k : Nat) (ht hl : Hd), k ≤ hN ∧ v50 = .int .i64 k ∧ ht.n = k ∧ hl.n = k ∧ Blk wr w2.heap.size 26 #[.slice ht.A ht.n ht.c, .slice hl.A hl.n hl.c] ∧ Own wr (w2.heap.size + 1) 1 ht (ints ((ks.take k).map (recT xs))) ∧ Own wr (w2.heap.size + 1) 1 hl (ints ((ks.take k).map (recL xs))) ∧ (∀ b, ht.row = some b → hl.row ≠ some b) ∧ Below w2.heap.size w2 wr)
        (fun v50 _ => hN - (intOf v50).toNat)
      case atStart => exact ⟨0, ⟨none, 0, 0⟩, ⟨none, 0, 0⟩, Nat.zero_le _, rfl, rfl, rfl, K8, Own.nil _ _ _, Own.nil _ _ _, (fun b e => by cases e), b8⟩
      case round =>
        obtain ⟨k, ⟨TA, tn, tc⟩, ⟨LA, ln, lc⟩, hk, rfl, htn, hln, K8, oT, oL, hoff, hb8⟩ := hrel
        simp only at htn hln
        subst htn
        obtain rfl : tn = ln := hln.symm
        have q8 := K8.lt
        have c8 := fun o => K8.cell o
        by_cases hlt : tn < hN
        · have hltI : (tn : Int) < (hN : Int) := by omega
          obtain ⟨ad, rfl, c0, c1, c2, c3, c4, c5, c6⟩ := (RK.below hb8).seven hlt
          have hat := recsL_at xs ks tn (by omega)
          have HT2 : Hid ((ks.take (tn + 1)).map (recT xs) = (ks.take tn).map (recT xs) ++ [(recsL xs ks).getD (tn * 7) 0]) := by show _ = _; rw [hat.1, List.take_succ_eq_append_getElem (show tn < ks.length by omega), List.map_append]; rfl
          have HL2 : Hid ((ks.take (tn + 1)).map (recL xs) = (ks.take tn).map (recL xs) ++ [(recsL xs ks).getD (tn * 7 + 2) 0]) := by show _ = _; rw [hat.2, List.take_succ_eq_append_getElem (show tn < ks.length by omega), List.map_append]; rfl
          clear hat
          generalize (recsL xs ks).getD (tn * 7) 0 = x0 at *
          generalize (recsL xs ks).getD (tn * 7 + 1) 0 = x1 at *
          generalize (recsL xs ks).getD (tn * 7 + 2) 0 = x2 at *
          generalize (recsL xs ks).getD (tn * 7 + 3) 0 = x3 at *
          generalize (recsL xs ks).getD (tn * 7 + 4) 0 = x4 at *
          generalize (recsL xs ks).getD (tn * 7 + 5) 0 = x5 at *
          generalize (recsL xs ks).getD (tn * 7 + 6) 0 = x6 at *
          go_upto_region 18 with fail
          have KB := Blk.new wr 47 #[.int .i64 x0, .int .i64 x1, .int .i64 x2, .int .i64 x3, .int .i64 x4, .int .i64 x5, .int .i64 x6]
          have b1 : Below wr.heap.size wr (wr.alloc (.cells #[.int .i64 x0, .int .i64 x1, .int .i64 x2, .int .i64 x3, .int .i64 x4, .int .i64 x5, .int .i64 x6] 47)) := (Below.refl _ _).alloc (Nat.le_refl _) _
          have hgw : w2.heap.size < wr.heap.size := q8
          have hTr : ∀ b, (⟨TA, tn, tc⟩ : Hd).row = some b → w2.heap.size + 1 ≤ b ∧ b < wr.heap.size := fun b e => oT.rowlt b e
          have hLr : ∀ b, (⟨LA, tn, lc⟩ : Hd).row = some b → w2.heap.size + 1 ≤ b ∧ b < wr.heap.size := fun b e => oL.rowlt b e
          replace oT := oT.below b1
          replace oL := oL.below b1
          replace K8 := K8.below b1 q8
          replace q8 := K8.lt
          replace hb8 := hb8.trans (b1.mono hb8.size)
          replace c8 := fun o => K8.cell o
          clear b1 c0 c1 c2 c3 c4 c5 c6
          generalize wr.alloc (.cells #[.int .i64 x0, .int .i64 x1, .int .i64 x2, .int .i64 x3, .int .i64 x4, .int .i64 x5, .int .i64 x6] 47) = w4 at KB oT oL K8 q8 c8 hb8 ⊢
          generalize wr.heap.size = gb at KB hgw hTr hLr ⊢
          have cB := fun o => KB.cell o
          have bz1 : Below w4.heap.size w4 (w4.alloc (.cells #[.int .i64 x0] 2)) := (Below.refl _ _).alloc (Nat.le_refl _) _
          have oz1 := oT.below bz1
          have RE1 : Rd (w4.alloc (.cells #[.int .i64 x0] 2)) (some ⟨w4.heap.size, 0, none⟩) (1 * 1) (ints [x0]) := rd_one _ _ _
          have hBz1 : w2.heap.size + 1 ≤ (w4.alloc (.cells #[.int .i64 x0] 2)).heap.size := Nat.le_trans q8 bz1.size
          have h631 : tn + 1 ≤ 1099511627776 := by omega
          go_upto_region 19 with (at_builtin; refine wpList_append_Own rfl _ _ 24 rfl 2 1 8 Try.underlying24 Int64_info (by decide) (w2.heap.size + 1) ⟨TA, tn, tc⟩ _ rfl oz1 _ 1 1 (ints [x0]) rfl RE1 (oneCell_ints _) h631 (by decide) hBz1 ?_; intro G wg1 hnG oG gg1 hat1; have K8 := (K8.below bz1 q8).grown gg1 (fun e => by have := (oT.rowlt _ e).1; omega); have q8 := K8.lt; have f8 := fun o => K8.frozen o; have c8 := fun o => K8.cell o; have HNG := Lib.hid hnG; clear hnG)
          have K8' : Blk (wg1.setCell ⟨w2.heap.size, 0, none⟩ (.slice G.A G.n G.c)) w2.heap.size 26 #[.slice G.A G.n G.c, .slice LA tn lc] := K8.set_ 0 _
          have hat1' : G.row = (⟨TA, tn, tc⟩ : Hd).row ∨ ∃ g, G.row = some g ∧ w4.heap.size ≤ g := by
            rcases hat1 with h | ⟨g, h, h'⟩
            · exact .inl h
            · exact .inr ⟨g, h, Nat.le_trans bz1.size h'⟩
          have oL1 := ((oL.below bz1).grown gg1 (fun b e c => hoff _ c e)).fars (p := ⟨w2.heap.size, 0, none⟩) (fun e => by have := (hLr _ e).1; simp only at this; omega) (.slice G.A G.n G.c)
          have oG1 := oG.fars (p := ⟨w2.heap.size, 0, none⟩) (fun e => by have := (oG.rowlt _ e).1; simp only at this; omega) (.slice G.A G.n G.c)
          have KB1 := ((KB.below bz1 KB.lt).grown gg1 (fun e => by have := (hTr _ e).2; omega)).far (p := ⟨w2.heap.size, 0, none⟩) (by simp only; omega) (.slice G.A G.n G.c)
          have hoff1 : ∀ b, G.row = some b → (⟨LA, tn, lc⟩ : Hd).row ≠ some b := fun b e e2 => by
            rcases hat1' with h | ⟨g, h, h'⟩
            · exact hoff b (h ▸ e) e2
            · rw [h] at e; injection e with e; have := (oL.rowlt _ e2).2; omega
          have hb81 := ((hb8.trans (bz1.mono hb8.size)).grown gg1 (by have := bz1.size; omega) (fun b e => by have := (hTr b e).1; omega)).setCell (p := ⟨w2.heap.size, 0, none⟩) (Nat.le_refl _) (.slice G.A G.n G.c)
          clear hat1 hat1' oG gg1 K8 oL oT KB hb8 c8 f8 q8 hoff bz1 oz1 RE1 hBz1 h631
          have K8 := K8'
          clear K8'
          generalize wg1.setCell ⟨w2.heap.size, 0, none⟩ (.slice G.A G.n G.c) = w5 at *
          have q8 := K8.lt
          have c8 := fun o => K8.cell o
          have cB := fun o => KB1.cell o
          have bz2 : Below w5.heap.size w5 (w5.alloc (.cells #[.int .i64 x2] 2)) := (Below.refl _ _).alloc (Nat.le_refl _) _
          have oz2 := oL1.below bz2
          have RE2 : Rd (w5.alloc (.cells #[.int .i64 x2] 2)) (some ⟨w5.heap.size, 0, none⟩) (1 * 1) (ints [x2]) := rd_one _ _ _
          have hBz2 : w2.heap.size + 1 ≤ (w5.alloc (.cells #[.int .i64 x2] 2)).heap.size := Nat.le_trans q8 bz2.size
          have h632 : tn + 1 ≤ 1099511627776 := by omega
          go_wp2_with (at_builtin; refine wpList_append_Own rfl _ _ 24 rfl 2 1 8 Try.underlying24 Int64_info (by decide) (w2.heap.size + 1) ⟨LA, tn, lc⟩ _ rfl oz2 _ 1 1 (ints [x2]) rfl RE2 (oneCell_ints _) h632 (by decide) hBz2 ?_; intro F wg2 hnF oF gg2 hat2; have K8 := (K8.below bz2 q8).grown gg2 (fun e => by have := (oL1.rowlt _ e).1; omega); have q8 := K8.lt; have f8 := fun o => K8.frozen o; have c8 := fun o => K8.cell o; have HNF := Lib.hid hnF; clear hnF)
          have K9 : Blk (wg2.setCell ⟨w2.heap.size, 1, none⟩ (.slice F.A F.n F.c)) w2.heap.size 26 #[.slice G.A G.n G.c, .slice F.A F.n F.c] := K8.set_ 1 _
          have hat2' : F.row = (⟨LA, tn, lc⟩ : Hd).row ∨ ∃ g, F.row = some g ∧ w5.heap.size ≤ g := by
            rcases hat2 with h | ⟨g, h, h'⟩
            · exact .inl h
            · exact .inr ⟨g, h, Nat.le_trans bz2.size h'⟩
          have oG2 := ((oG1.below bz2).grown gg2 (fun b e c => hoff1 _ e c)).fars (p := ⟨w2.heap.size, 1, none⟩) (fun e => by have := (oG1.rowlt _ e).1; simp only at this; omega) (.slice F.A F.n F.c)
          have oF2 := oF.fars (p := ⟨w2.heap.size, 1, none⟩) (fun e => by have := (oF.rowlt _ e).1; simp only at this; omega) (.slice F.A F.n F.c)
          have hoff2 : ∀ b, G.row = some b → F.row ≠ some b := fun b e e2 => by
            rcases hat2' with h | ⟨g, h, h'⟩
            · exact hoff1 b e (h ▸ e2)
            · rw [h] at e2; injection e2 with e2; have := (oG1.rowlt _ e).2; omega
          have hb82 := ((hb81.trans (bz2.mono hb81.size)).grown gg2 (by have := bz2.size; omega) (fun b e => by have := (oL1.rowlt b e).1; omega)).setCell (p := ⟨w2.heap.size, 1, none⟩) (Nat.le_refl _) (.slice F.A F.n F.c)
          go_roundw
          case rel => exact ⟨tn + 1, G, F, by omega, by go_num, HNG.out, HNF.out, K9, by rw [HT2.out, ints_append]; exact oG2, by rw [HL2.out, ints_append]; exact oF2, hoff2, hb82⟩
          case measure => simp [intOf]; omega
        · obtain rfl : tn = hN := by omega
          have e1 : ks.take tn = ks := List.take_of_length_le (by omega)
          rw [e1] at oT oL
          have e2 : ks.map (recT xs) = fstL (gTo xs n) := by rw [← HKS.out]; unfold fstL pairOf; simp
          have e3 : ks.map (recL xs) = sndL (gTo xs n) := by rw [← HKS.out]; unfold sndL pairOf; simp
          rw [e2] at oT
          rw [e3] at oL
          have K0 := KW.below hb8 hKW
          have hb9 := hb.trans (hb8.mono hb.size)
          have hw2 := hb.size
          have e0 := fun o => K0.cell o
          have f0 := fun o => K0.frozen o
          have hrow2 : ∀ (h : Hd) (us : List Value), Own wr (w2.heap.size + 1) 1 h us → ∀ (u v : Value), Own ((wr.setCell ⟨w.heap.size, 0, none⟩ u).setCell ⟨w.heap.size, 1, none⟩ v) (w2.heap.size + 1) 1 h us := fun h us o u v => (o.fars (fun e => by have := (o.rowlt _ e).1; simp only at this; omega) u).fars (fun e => by have := (o.rowlt _ e).1; simp only at this; omega) v
          have OT2 := fun u v => hrow2 _ _ oT u v
          have OL2 := fun u v => hrow2 _ _ oL u v
          have hw3 : w.heap.size ≤ w2.heap.size + 1 := by omega
          have hc3 : 0 < tc := by have := oT.nc; simp only at this; omega
          have hc4 : 0 < lc := by have := oL.nc; simp only at this; omega
          clear RK e1 e2 e3 oT oL
          go_wp2
          refine bodyPost_ret (v := .tuple #[.agg #[.slice TA tn tc, .slice LA tn lc], .int .i64 0]) (by simp [results, Try.results42, go_sem, e0]) rfl ?_
          rw [HP.out.1, HP.out.2]
          refine ⟨⟨⟨TA, tn, tc⟩, ⟨LA, tn, lc⟩⟩, rfl, ⟨by simp only; omega, by simp only; omega⟩, RdAll.cons (s := ⟨TA, tn, ints (fstL (gTo xs n))⟩) ?_ (RdAll.cons (s := ⟨LA, tn, ints (sndL (gTo xs n))⟩) ?_ (RdAll.nil _)), WrAll.cons (s := ⟨TA, tn, ints (fstL (gTo xs n))⟩) ?_ (WrAll.cons (s := ⟨LA, tn, ints (sndL (gTo xs n))⟩) ?_ (WrAll.nil _ _)), ?_, ?_⟩
          · exact (OT2 _ _).rd1
          · exact (OL2 _ _).rd1
          · exact ((OT2 _ _).mono hw3).wr1
          · exact ((OL2 _ _).mono hw3).wr1
          · refine Sep.cons (fun s hs t ht b e => ?_) (Sep.one _)
            rw [List.mem_singleton.1 hs] at e
            rw [List.mem_singleton.1 ht]
            intro e2
            obtain ⟨_, e3, h3, rfl⟩ := row_some e
            obtain ⟨_, e4, h4, h5⟩ := row_some e2
            exact hoff _ (Hd.row_mk e3 hc3) (by rw [← h5]; exact Hd.row_mk e4 hc4)
          · repeat (first | with_reducible exact hb9 | refine Below.setCell ?_ (by simp <;> omega) _)
end Go.Proofs.Ytphpjmkebnadoaa
