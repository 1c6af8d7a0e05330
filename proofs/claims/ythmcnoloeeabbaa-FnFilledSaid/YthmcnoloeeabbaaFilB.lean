/- Grids: gaps are filled, the program's side. Condition: lists of at most 1048576 elements. -/
import Derived.Test.YthmcnoloeeabbaaFilA
namespace Go.Proofs.Ythmcnoloeeabbaa
open Go.RowKit

theorem nbTo_lt {l : DepthGridC} {i n k : Nat} (h : k ∈ nbTo l i n) : k < n := by
  unfold nbTo at h
  exact List.mem_range.1 (List.mem_filter.1 h).1
theorem natsI_getD (ks : List Nat) {j : Nat} (h : j < ks.length) : (natsI ks).getD j 0 = (ks[j] : Int) := by
  unfold natsI
  rw [List.getD_eq_getElem?_getD, List.getElem?_map, List.getElem?_eq_getElem h]; rfl
theorem Rd.touch_hi {w w' : World} {A : Option Addr} {n : Nat} {us : List Value} {r : List (Option Nat)} (h : Rd w A n us) (t : Touch w w' r) {B : Nat} (lo : Lo r B) (hB : ∀ ad, A = some ad → 0 < n → B ≤ ad.block) : Rd w' A n us :=
  h.keep fun ad e hn => t.block _ (h.lt e hn) (lo.ne (hB ad e hn))
theorem fillFrom_side (g r : DepthGridC) (i : Nat) : ∀ (n : Nat) (ks : List Nat), ks.length = n → (fillFrom g r i ks).size = r.size ∧ (fillFrom g r i ks).wide = r.wide ∧ (fillFrom g r i ks).high = r.high
  | 0, ks, hn => by rw [List.length_eq_zero_iff.1 hn]; exact ⟨rfl, rfl, rfl⟩
  | n + 1, ks, hn => by
    have hk : ks ≠ [] := fun e => by rw [e] at hn; cases hn
    obtain ⟨l, k, rfl⟩ : ∃ l k, ks = l ++ [k] := ⟨ks.dropLast, ks.getLast hk, (List.dropLast_concat_getLast hk).symm⟩
    rw [fillFrom_snoc]
    exact fillFrom_side g r i n l (by simpa using hn)
theorem fillFrom_cnt {g r : DepthGridC} {i : Nat} (hi : i < r.counts.length) : ∀ (n : Nat) (ks : List Nat), ks.length = n → ks ≠ [] → (fillFrom g r i ks).counts.getD i 0 = -1 ∧ (fillFrom g r i ks).counts.length = r.counts.length
  | 0, ks, hn, hk => absurd (List.length_eq_zero_iff.1 hn) hk
  | n + 1, ks, hn, hk => by
    obtain ⟨l, k, rfl⟩ : ∃ l k, ks = l ++ [k] := ⟨ks.dropLast, ks.getLast hk, (List.dropLast_concat_getLast hk).symm⟩
    rw [fillFrom_snoc]
    have hl : (fillFrom g r i l).counts.length = r.counts.length := by
      by_cases e : l = []
      · rw [e]; rfl
      · exact (fillFrom_cnt hi n l (by simpa using hn) e).2
    unfold fillPut
    simp only [List.length_set]
    exact ⟨getD_set_self (by rw [hl]; exact hi), hl⟩
theorem take_snoc {ks : List Nat} {j : Nat} (h : j < ks.length) : ks.take (j + 1) = ks.take j ++ [ks[j]] := by rw [List.take_succ_eq_append_getElem h]

set_option maxRecDepth 100000 in
set_option maxHeartbeats 8000000 in
theorem implFillGaps'_any (h : DepthGridH) (l : DepthGridC) (w : World) (ok : DepthGridOk h) (hr : RdAll w (DepthGridS h l)) :
    Calls Try.prog 34 #[DepthGridV h l] w (RetGrid (fgR l) (fgC l) w) := by
  unfold DepthGridV
  go_enter Try.func34, Try.ntmps34
  go_wp2_with fail
  refine (implIsDepthGrid_any h l _ ok (hr.below (by (repeat (first | (with_reducible assumption) | (with_reducible exact Below.refl _ _) | (with_reducible refine Below.drew ?_) | (with_reducible refine Below.drewN ?_ _) | (with_reducible refine Below.setCell ?_ ?_ _) | (with_reducible refine Below.alloc ?_ ?_ _) | assumption)); all_goals (first | omega | (simp; done) | (simp; omega))))).mono ?_
  rintro e w1 ⟨rfl, b1⟩
  have hb1 : Below w.heap.size w w1 := (show Below w.heap.size w _ from (by (repeat (first | (with_reducible assumption) | (with_reducible exact Below.refl _ _) | (with_reducible refine Below.drew ?_) | (with_reducible refine Below.drewN ?_ _) | (with_reducible refine Below.setCell ?_ ?_ _) | (with_reducible refine Below.alloc ?_ ?_ _) | assumption)); all_goals (first | omega | (simp; done) | (simp; omega)))).trans (b1.mono (by first | omega | (simp; done) | (simp; omega)))
  have z1 : w.heap.size + 1 < w1.heap.size := Nat.lt_of_lt_of_le (by first | omega | (simp; done) | (simp; omega)) b1.size
  have K0 : Blk w1 w.heap.size 50 #[.int .i64 l.size, .int .i64 l.wide, .int .i64 l.high, .slice h.counts.A h.counts.n h.counts.c, .slice h.depths.A h.depths.n h.depths.c] := Blk.below (by repeat (first | exact Blk.newN _ _ _ (by simp; done) | refine Blk.alloc ?_ _)) b1 (by first | omega | (simp; done) | (simp; omega))
  have K1 : Blk w1 (w.heap.size + 1) 50 #[.int .i64 0, .int .i64 0, .int .i64 0, .slice none 0 0, .slice none 0 0] := Blk.below (by repeat (first | exact Blk.newN _ _ _ (by simp; done) | refine Blk.alloc ?_ _)) b1 (by first | omega | (simp; done) | (simp; omega))
  clear b1
  have c0 := fun o => K0.cell o
  have c1 := fun o => K1.cell o
  have f1 := fun o => K1.frozen o
  rcases Bool.eq_false_or_eq_true (gridOk l) with o0 | o0
  case inr =>
    have HM := Lib.hid (fg_bad o0)
    go_wp2
    refine bodyPost_ret (v := .tuple #[.agg #[.int .i64 0, .int .i64 0, .int .i64 0, .slice none 0 0, .slice none 0 0], .int .i64 1]) (by simp [results, Try.results34, go_sem, c1]) rfl ?_
    rw [HM.out.1, HM.out.2]
    exact retGrid_zero (by (repeat (first | (with_reducible assumption) | (with_reducible exact Below.refl _ _) | (with_reducible refine Below.drew ?_) | (with_reducible refine Below.drewN ?_ _) | (with_reducible refine Below.setCell ?_ ?_ _) | (with_reducible refine Below.alloc ?_ ?_ _) | assumption)); all_goals (first | omega | (simp; done) | (simp; omega)))
  have HM := Lib.hid (fg_ok o0)
  have M0 := Lib.hid (GOk.of o0)
  go_wp2_with fail
  refine (gridClone_any h l _ ok (hr.below (by (repeat (first | (with_reducible assumption) | (with_reducible exact Below.refl _ _) | (with_reducible refine Below.drew ?_) | (with_reducible refine Below.drewN ?_ _) | (with_reducible refine Below.setCell ?_ ?_ _) | (with_reducible refine Below.alloc ?_ ?_ _) | assumption)); all_goals (first | omega | (simp; done) | (simp; omega))))).mono ?_
  rintro e w2 ⟨k, he, ow, b2⟩
  unfold DepthGridV at he
  subst he
  clear o0
  have hb2 : Below w.heap.size w w2 := hb1.trans (b2.mono (by first | omega | (simp; done) | (simp; omega)))
  have z2 : w.heap.size + 1 < w2.heap.size := Nat.lt_of_lt_of_le z1 b2.size
  have hz12 := b2.size
  have I0 := K0.below b2 K0.lt
  have I1 := K1.below b2 K1.lt
  clear c0 c1 f1 K0 K1 b2
  have rk := ow.rd
  have wk := ow.wr
  have sk := ow.sp
  clear ow
  have c0 := fun o => I0.cell o
  have y0 : w.heap.size < w2.heap.size := by omega
  have hlen0 := GridS_c rk
  have hlen1 := GridS_d rk
  have hlen2 := GridS_c hr
  have hlen3 := GridS_d hr
  have hn : Hid (k.depths.n = k.counts.n ∧ k.counts.n = h.counts.n ∧ h.depths.n = h.counts.n ∧ h.counts.n ≤ 900) := by
    have m0 := M0.out
    have a := m0.eq; have b := m0.len; have e := m0.bd.1
    exact ⟨by omega, by omega, by omega, by omega⟩
  have hlo : Lo (DepthGridR k) w2.heap.size := rk.lo
  have hhi : Hi (DepthGridR k) w1.heap.size := wk.hi
  have HV := Lib.hid hlen2
  clear hlen0 hlen1 hlen2 hlen3
  obtain ⟨⟨A2, m2, d2⟩, ⟨A3, m3, d3⟩⟩ := h
  simp only at hn c0 I0 HV
  have hm900 := hn.out.2.2.2
  obtain ⟨rfl, HH⟩ : m3 = m2 ∧ Hid (k.depths.n = k.counts.n ∧ k.counts.n = m2) := ⟨hn.out.2.2.1, ⟨hn.out.1, hn.out.2.1⟩⟩
  clear hn
  try simp only at ok hr
  go_wp2_with fail
  have rk4 := rk.below ((Below.refl w2.heap.size w2).alloc (Nat.le_refl _) (.cells #[.int .i64 l.size, .int .i64 l.wide, .int .i64 l.high, .slice k.counts.A k.counts.n k.counts.c, .slice k.depths.A k.depths.n k.depths.c] 50))
  have wk4 := wk.below rk ((Below.refl w2.heap.size w2).alloc (Nat.le_refl _) (.cells #[.int .i64 l.size, .int .i64 l.wide, .int .i64 l.high, .slice k.counts.A k.counts.n k.counts.c, .slice k.depths.A k.depths.n k.depths.c] 50))
  have P0 := I0.alloc (.cells #[.int .i64 l.size, .int .i64 l.wide, .int .i64 l.high, .slice k.counts.A k.counts.n k.counts.c, .slice k.depths.A k.depths.n k.depths.c] 50)
  have P1 := I1.alloc (.cells #[.int .i64 l.size, .int .i64 l.wide, .int .i64 l.high, .slice k.counts.A k.counts.n k.counts.c, .slice k.depths.A k.depths.n k.depths.c] 50)
  have P2 := Blk.new w2 50 #[.int .i64 l.size, .int .i64 l.wide, .int .i64 l.high, .slice k.counts.A k.counts.n k.counts.c, .slice k.depths.A k.depths.n k.depths.c]
  have hb4 : Below w.heap.size w (w2.alloc (.cells #[.int .i64 l.size, .int .i64 l.wide, .int .i64 l.high, .slice k.counts.A k.counts.n k.counts.c, .slice k.depths.A k.depths.n k.depths.c] 50)) := (by (repeat (first | (with_reducible assumption) | (with_reducible exact Below.refl _ _) | (with_reducible refine Below.drew ?_) | (with_reducible refine Below.drewN ?_ _) | (with_reducible refine Below.setCell ?_ ?_ _) | (with_reducible refine Below.alloc ?_ ?_ _) | assumption)); all_goals (first | omega | (simp; done) | (simp; omega)))
  generalize w2.alloc (.cells #[.int .i64 l.size, .int .i64 l.wide, .int .i64 l.high, .slice k.counts.A k.counts.n k.counts.c, .slice k.depths.A k.depths.n k.depths.c] 50) = w4 at rk4 wk4 P0 P1 P2 hb4 ⊢
  clear c0 I0 I1 rk wk hb2
  obtain ⟨⟨B3, n3, e4⟩, ⟨B4, n4, e5⟩⟩ := k
  have hhd := HH.out
  simp only at hhd P2 rk4 wk4 hlo hhi sk
  obtain rfl : n4 = n3 := hhd.1
  obtain rfl : n4 = m3 := hhd.2
  clear hhd HH
  go_loopw [19] (fun i wr => ∃ q : Nat, q ≤ n4 ∧ i = .int .i64 q ∧ RdAll wr (DepthGridS ⟨⟨B3, n4, e4⟩, ⟨B4, n4, e5⟩⟩ (fgTo l q)) ∧ WrAll wr w1.heap.size (DepthGridS ⟨⟨B3, n4, e4⟩, ⟨B4, n4, e5⟩⟩ (fgTo l q)) ∧ Below w.heap.size w wr ∧
      Blk wr w.heap.size 50 #[.int .i64 l.size, .int .i64 l.wide, .int .i64 l.high, .slice A2 n4 d2, .slice A3 n4 d3] ∧ Blk wr (w.heap.size + 1) 50 #[.int .i64 0, .int .i64 0, .int .i64 0, .slice none 0 0, .slice none 0 0] ∧ Blk wr w2.heap.size 50 #[.int .i64 l.size, .int .i64 l.wide, .int .i64 l.high, .slice B3 n4 e4, .slice B4 n4 e5]) (fun i _ => n4 - (intOf i).toNat)
  case atStart => exact ⟨0, Nat.zero_le _, rfl, rk4, wk4, hb4, P0, P1, P2⟩
  case round =>
    clear rk4 wk4 hb4 P0 P1 P2
    obtain ⟨q, hqm, rfl, rk, wk, hbel, P0, P1, P2⟩ := hrel
    have c0 := fun o => P0.cell o
    by_cases hlt : q < n4
    · have hql : q < l.counts.length := by rw [HV.out]; exact hlt
      have HNB := fun W (b : Below w.heap.size w W) => neighbours_any ⟨⟨A2, n4, d2⟩, ⟨A3, n4, d3⟩⟩ l q W M0.out hql (hr.below b)
      simp only [DepthGridV] at HNB
      have HNB' := Lib.hid HNB
      clear HNB
      have hS := shp_of M0.out hql
      have hnbl : (nbTo l q l.counts.length).length ≤ 90 := by
        obtain ⟨W, H, c, r, S⟩ := hS
        have h1 := nb_len (g := l) (i := q) S.wt S.w0 l.counts.length
        have h2 := S.w1
        omega
      have hnblt : ∀ j (hj : j < (nbTo l q l.counts.length).length), (nbTo l q l.counts.length)[j] < n4 := fun j hj => by
        have := nbTo_lt (List.getElem_mem hj)
        have e := HV.out; omega
      have HLT := Lib.hid hnblt
      clear hS hnblt
      have HAT := fgTo_at l (i := q) q (Nat.le_refl _)
      have HSD := fgTo_side l q
      have HFN : Hid (¬ (l.counts.getD q 0 = 0 ∧ 3 ≤ (nbTo l q l.counts.length).length) → fgTo l (q + 1) = fgTo l q) := fun hh => fgTo_no hh
      have HFY : Hid (l.counts.getD q 0 = 0 → 3 ≤ (nbTo l q l.counts.length).length → fgTo l (q + 1) = fillFrom l (fgTo l q) q (nbTo l q l.counts.length)) := fun h1 h2 => by
        rw [fgTo_yes h1 h2]
        exact (fillFrom_hull (by rw [HSD.2.2.2.1]; exact hql) (by rw [HSD.2.2.2.1, HSD.2.2.2.2]; exact M0.out.eq) (by rw [HAT.1]; exact h1) _ _ rfl (fun e => by rw [e] at h2; cases h2)).symm
      have HA0 : Hid ((fgTo l q).counts.getD q 0 = l.counts.getD q 0 ∧ (fgTo l q).counts.length = l.counts.length) := ⟨HAT.1, HSD.2.2.2.1⟩
      have HSZ : Hid ((fgTo l q).size = l.size ∧ (fgTo l q).wide = l.wide ∧ (fgTo l q).high = l.high) := ⟨HSD.1, HSD.2.1, HSD.2.2.1⟩
      clear HAT HSD
      obtain ⟨a2, rfl, hx⟩ := (hr.head.below hbel).int hlt
      generalize hgx : l.counts.getD q 0 = x at *
      have HGX : Hid (l.counts.getD q 0 = x) := hgx
      clear hgx
      generalize hNB : nbTo l q l.counts.length = nb at *
      clear hNB
      have hi0 : (0 : Int) ≤ (q : Int) := by omega
      have hi1 : (q : Int) < (n4 : Int) := by omega
      have z9 : w.heap.size < wr.heap.size := P0.lt
      go_wp2_with fail
      refine (HNB'.out _ hbel).mono ?_
      rintro e ws ⟨⟨kA, kn, kc⟩, rfl, On, bs⟩
      have hbs := hbel.trans (bs.mono hbel.size)
      have rs := rk.below bs
      have ws' := wk.below rk bs
      have Q0 := P0.below bs P0.lt
      have Q1 := P1.below bs P1.lt
      have Q2 := P2.below bs P2.lt
      have z2r := P2.lt
      have hkn : kn = nb.length := by have := On.rd1.len; rw [natsI_len] at this; exact this.symm
      subst hkn
      have HLB : Hid (∀ ad, kA = some ad → 0 < nb.length → w2.heap.size ≤ ad.block) := fun ad e hn0 => Nat.le_trans (Nat.le_of_lt z2r) (On.wr1.base e hn0)
      have RN := On.rd1
      simp only at RN
      clear On bs c0 P0 P1 P2 rk wk hbel z9 HNB'
      have c0 := fun o => Q0.cell o
      have z9 : w.heap.size < ws.heap.size := Q0.lt
      by_cases hx0 : x = 0
      case neg =>
        have g1 : (x == 0) = false := by simpa using hx0
        have g2 : (x != 0) = true := by simpa using hx0
        have HS := Lib.hid (HFN.out (fun c => hx0 c.1))
        clear hx0 HFN HFY
        go_wp2
        go_roundw
        case rel => exact ⟨q + 1, by omega, by go_num, by rw [HS.out]; exact rs, by rw [HS.out]; exact ws', hbs, Q0, Q1, Q2⟩
        case measure => simp [intOf]; omega
      case pos =>
        have g1 : (x == 0) = true := by simpa using hx0
        have g2 : (x != 0) = false := by simpa using hx0
        have HX0 := Lib.hid hx0
        clear hx0
        by_cases hn3 : 3 ≤ nb.length
        case neg =>
          have g3 : (nb.length : Int) < 3 := by omega
          have HS := Lib.hid (HFN.out (fun c => hn3 c.2))
          clear HFN HFY
          go_wp2
          go_roundw
          case rel => exact ⟨q + 1, by omega, by go_num, by rw [HS.out]; exact rs, by rw [HS.out]; exact ws', hbs, Q0, Q1, Q2⟩
          case measure => simp [intOf]; omega
        case pos =>
          have g3 : ¬ (nb.length : Int) < 3 := by omega
          have HS := Lib.hid (HFY.out HX0.out hn3)
          clear HFN HFY
          have rs0 : RdAll ws (DepthGridS ⟨⟨B3, n4, e4⟩, ⟨B4, n4, e5⟩⟩ (fillFrom l (fgTo l q) q (nb.take 0))) := rs
          have ws0 : WrAll ws w1.heap.size (DepthGridS ⟨⟨B3, n4, e4⟩, ⟨B4, n4, e5⟩⟩ (fillFrom l (fgTo l q) q (nb.take 0))) := ws'
          go_wp2
          go_loopw [36] (fun i wq => ∃ j : Nat, j ≤ nb.length ∧ i = .int .i64 j ∧ RdAll wq (DepthGridS ⟨⟨B3, n4, e4⟩, ⟨B4, n4, e5⟩⟩ (fillFrom l (fgTo l q) q (nb.take j))) ∧ WrAll wq w1.heap.size (DepthGridS ⟨⟨B3, n4, e4⟩, ⟨B4, n4, e5⟩⟩ (fillFrom l (fgTo l q) q (nb.take j))) ∧ Below w.heap.size w wq ∧
              Blk wq w.heap.size 50 #[.int .i64 l.size, .int .i64 l.wide, .int .i64 l.high, .slice (some a2) n4 d2, .slice A3 n4 d3] ∧ Blk wq (w.heap.size + 1) 50 #[.int .i64 0, .int .i64 0, .int .i64 0, .slice none 0 0, .slice none 0 0] ∧ Blk wq w2.heap.size 50 #[.int .i64 l.size, .int .i64 l.wide, .int .i64 l.high, .slice B3 n4 e4, .slice B4 n4 e5] ∧ Rd wq kA nb.length (ints (natsI nb))) (fun i _ => nb.length - (intOf i).toNat)
          case atStart => exact ⟨0, Nat.zero_le _, rfl, rs0, ws0, hbs, Q0, Q1, Q2, RN⟩
          case round =>
            clear rs ws' rs0 ws0 hbs Q0 Q1 Q2 RN c0 z9 hx
            obtain ⟨j, hjn, rfl, rk, wk, hbel, P0, P1, P2, RN⟩ := hrel
            have c0 := fun o => P0.cell o
            have c1 := fun o => P1.cell o
            have f1 := fun o => P1.frozen o
            have c2 := fun o => P2.cell o
            have y0 : w.heap.size < wr.heap.size := P0.lt
            have y1 : w.heap.size + 1 < wr.heap.size := P1.lt
            have y2 : w2.heap.size < wr.heap.size := P2.lt
            by_cases hjl : j < nb.length
            · obtain ⟨ka, hka, hkc⟩ := RN.int hjl
              have HTK := Lib.hid (take_snoc hjl)
              have hp4 := HLT.out j hjl
              rw [natsI_getD nb hjl] at hkc
              generalize nb[j] = p at *
              have hj0 : (0 : Int) ≤ (j : Int) := by omega
              have hj1 : (j : Int) < (nb.length : Int) := by omega
              have hp0 : (0 : Int) ≤ (p : Int) := by omega
              have hp1 : (p : Int) < (n4 : Int) := by omega
              have HKA := Lib.hid hka
              subst hka
              obtain ⟨a3, rfl, hy0, hy1⟩ := (hr.tail.head.below hbel).two hp4
              have HPT : Hid (fillFrom l (fgTo l q) q (nb.take (j + 1)) = fillPut (fillFrom l (fgTo l q) q (nb.take j)) q (l.depths.getD (p * 2) 0) (l.depths.getD (p * 2 + 1) 0)) := by unfold Hid; rw [HTK.out, fillFrom_snoc]
              have hcv : -1 ≤ (fillFrom l (fgTo l q) q (nb.take j)).counts.getD q 0 ∧ (fillFrom l (fgTo l q) q (nb.take j)).counts.getD q 0 ≤ 0 := by
                rcases Nat.eq_zero_or_pos j with e | e
                · subst e
                  rw [List.take_zero]
                  show -1 ≤ (fgTo l q).counts.getD q 0 ∧ (fgTo l q).counts.getD q 0 ≤ 0
                  rw [HA0.out.1, HX0.out]; decide
                · have hne : nb.take j ≠ [] := fun c => by
                    have := congrArg List.length c
                    rw [List.length_take] at this
                    simp only [List.length_nil] at this
                    omega
                  rw [(fillFrom_cnt (by rw [HA0.out.2, HV.out]; exact hlt) _ _ rfl hne).1]; decide
              have hsd : (fillFrom l (fgTo l q) q (nb.take j)).size = l.size ∧ (fillFrom l (fgTo l q) q (nb.take j)).wide = l.wide ∧ (fillFrom l (fgTo l q) q (nb.take j)).high = l.high := by
                have h1 := fillFrom_side l (fgTo l q) q _ (nb.take j) rfl
                have h2 := HSZ.out
                exact ⟨h1.1.trans h2.1, h1.2.1.trans h2.2.1, h1.2.2.trans h2.2.2⟩
              generalize fillFrom l (fgTo l q) q (nb.take j) = G at *
              have rk0 : Rd wr B3 n4 (ints G.counts) := rk.head
              have rk1 : Rd wr B4 (n4 * 2) (ints G.depths) := rk.tail.head
              obtain ⟨b3, rfl, -⟩ := rk0.int hlt
              obtain ⟨b4, rfl, -, -⟩ := rk1.two hlt
              have hbb : blkp (some b3) n4 = some b3.block := by unfold blkp; rw [if_neg (by omega)]; rfl
              have hbd : blkp (some b4) (n4 * 2) = some b4.block := by unfold blkp; rw [if_neg (by omega)]; rfl
              have hb3hi : b3.block < w2.heap.size := hlo _ (List.mem_cons_self ..) _ hbb
              have hb3lo : w1.heap.size ≤ b3.block := hhi _ (List.mem_cons_self ..) _ hbb
              have hne : b4.block ≠ b3.block := fun c => sk.off _ (List.mem_cons_self ..) _ (List.mem_cons_self ..) b3.block hbb (by rw [← c]; exact hbd)
              have HP := fun a b => implAdd_any w1.heap.size ⟨⟨some b3, n4, e4⟩, ⟨some b4, n4, e5⟩⟩ ⟨l.size, l.wide, l.high, G.counts, G.depths⟩ q a b 0 wr.drew ⟨show n4 ≤ 1048576 by omega, show n4 ≤ 1048576 by omega⟩ rfl hlt rk wk sk hcv.1 (by have := hcv.2; simp only; omega) (by decide) (by decide)
              simp only [DepthGridV, addG] at HP
              have kC0 : ∀ (W : World) (u : Value) (o : Nat), (W.setCell (b3.add q) u).cell? ⟨w.heap.size, o, none⟩ = W.cell? ⟨w.heap.size, o, none⟩ := fun W u o => far_set (by rw [block_of_add]; simp only; omega)
              have hlen : G.counts.length = n4 := rk0.len
              have hr3 := Lib.hid hb3hi
              have hr4 := Lib.hid hb3lo
              have HSD := Lib.hid hsd
              clear rk0 rk1 hb3hi hb3lo hbd hsd hcv
              generalize l.depths.getD (p * 2) 0 = u at *
              generalize l.depths.getD (p * 2 + 1) 0 = v at *
              go_wp2_with fail
              go_still_tail 7, (by kernel_rfl)
              have D0 : Blk wr.drew _ _ _ := P0
              have D1 : Blk wr.drew _ _ _ := P1
              have D2 : Blk wr.drew _ _ _ := P2
              have DN : Rd wr.drew _ _ _ := RN
              have db := Below.drew hbel
              change wpList _ _ _ _ _ wr.drew
              generalize wr.drew = w5 at HP D0 D1 D2 DN db ⊢
              clear c0 c1 f1 c2 P0 P1 P2 RN hbel rk wk hkc hy0 hy1
              go_wp2_with fail
              with_reducible refine (HP _ _).mono ?_
              rintro e w6 ⟨rfl, rk6, wk6, t6⟩
              have Q0 := D0.touch t6 (hhi.ne (by omega))
              have Q1 := D1.touch t6 (hhi.ne (by omega))
              have Q2 := D2.touch t6 (hlo.ne (by omega))
              have QN := DN.touch_hi t6 hlo HLB.out
              have db6 := bstepT db t6 (Nat.le_refl _) (hhi.mono hb1.size)
              have c0 := fun o => Q0.cell o
              have c2 := fun o => Q2.cell o
              have y60 : w.heap.size < w6.heap.size := Q0.lt
              have y62 : w2.heap.size < w6.heap.size := Q2.lt
              have rk60 : Rd w6 (some b3) n4 (ints (G.counts.set q (G.counts.getD q 0 + 0))) := rk6.head
              have rk61 : Rd w6 (some b4) (n4 * 2) (ints (addD G.counts G.depths q u v)) := rk6.tail.head
              have wk60 : Wr w6 w1.heap.size (some b3) n4 := wk6.head
              have wk61 : Wr w6 w1.heap.size (some b4) (n4 * 2) := wk6.tail.head
              obtain ⟨_, ⟨⟩, hz6⟩ := rk60.int hlt
              obtain ⟨_, ⟨⟩, _, hfz⟩ := wk60 (by omega)
              have hf6 := hfz q hlt
              have T6 : Touch w5 w6 [blkp (some b3) n4, blkp (some b4) (n4 * 2)] := t6
              have HC := Lib.hid (gputC (B := w1.heap.size) (c3 := e4) (c4 := e5) (x0 := l.size) (x1 := l.wide) (x2 := l.high) (v := -1) hlt rk60 rk61 wk60 wk61 T6 hne)
              have HEQ : Hid (∀ (W : World) (S : DepthGridC → World → Prop), S ⟨l.size, l.wide, l.high, (G.counts.set q (G.counts.getD q 0 + 0)).set q (-1), addD G.counts G.depths q u v⟩ W → S (fillPut G q u v) W) := fun W S hh => by
                unfold fillPut
                rw [HSD.out.1, HSD.out.2.1, HSD.out.2.2]
                rwa [List.set_set] at hh
              clear hfz rk6 wk6 t6 D0 D1 D2 DN db HP rk60 rk61 wk60 wk61 T6
              go_wp2
              go_roundw
              case rel =>
                have h := HC.out
                exact ⟨j + 1, by omega, by go_num, by rw [HPT.out]; exact HEQ.out _ (fun g W => RdAll W (DepthGridS ⟨⟨some b3, n4, e4⟩, ⟨some b4, n4, e5⟩⟩ g)) h.2.1, by rw [HPT.out]; exact HEQ.out _ (fun g W => WrAll W w1.heap.size (DepthGridS ⟨⟨some b3, n4, e4⟩, ⟨some b4, n4, e5⟩⟩ g)) h.2.2.1, db6.setCell (by rw [block_of_add]; have := hr4.out; have := hb1.size; omega) _, Q0.far (by rw [block_of_add]; have := hr4.out; have := hb1.size; omega) _, Q1.far (by rw [block_of_add]; have := hr4.out; omega) _, Q2.far (by rw [block_of_add]; have := hr3.out; omega) _, QN.keep fun ad e hn0 => Below.heap_setCell _ _ _ _ (by rw [block_of_add]; have := HLB.out ad e hn0; have := hr3.out; omega)⟩
              case measure => simp [intOf]; omega
            · obtain rfl : j = nb.length := by omega
              rw [List.take_length, ← HS.out] at rk wk
              go_wp2
              go_roundw
              case rel => exact ⟨q + 1, by omega, by go_num, rk, wk, hbel, P0, P1, P2⟩
              case measure => simp [intOf]; omega
    · obtain rfl : q = n4 := by omega
      have c1 := fun o => P1.cell o
      have f1 := fun o => P1.frozen o
      have c2 := fun o => P2.cell o
      have y0 : w.heap.size < wr.heap.size := P0.lt
      have y1 : w.heap.size + 1 < wr.heap.size := P1.lt
      have y2 : w2.heap.size < wr.heap.size := P2.lt
      go_wp2
      refine bodyPost_ret (v := .tuple #[.agg #[.int .i64 l.size, .int .i64 l.wide, .int .i64 l.high, .slice B3 q e4, .slice B4 q e5], .int .i64 0]) (by simp [results, Try.results34, go_sem, c1]) rfl ?_
      rw [HM.out.1, HM.out.2, HV.out]
      have hh := fgTo_side l q
      refine ⟨⟨⟨B3, q, e4⟩, ⟨B4, q, e5⟩⟩, by unfold DepthGridV; rw [hh.1, hh.2.1, hh.2.2.1], ⟨by show q ≤ 1048576; omega, by show q ≤ 1048576; omega⟩, ?_, ?_, sk, (by (repeat (first | (with_reducible assumption) | (with_reducible exact Below.refl _ _) | (with_reducible refine Below.drew ?_) | (with_reducible refine Below.drewN ?_ _) | (with_reducible refine Below.setCell ?_ ?_ _) | (with_reducible refine Below.alloc ?_ ?_ _) | assumption)); all_goals (first | omega | (simp; done) | (simp; omega)))⟩
      · repeat (refine RdAll.cell_ ?_ (hhi.ne (by omega)))
        exact rk
      · repeat (refine WrAll.cell_ ?_)
        exact wk.lower hb1.size
end Go.Proofs.Ythmcnoloeeabbaa
