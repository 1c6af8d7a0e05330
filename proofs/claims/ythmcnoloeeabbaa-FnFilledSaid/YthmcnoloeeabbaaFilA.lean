/- Grids: the known neighbours of a cell. Condition: a valid grid, a cell of it. -/
import Derived.Test.YthmcnoloeeabbaaFilM
import Derived.Test.YthmcnoloeeabbaaGriE
namespace Go.Proofs.Ythmcnoloeeabbaa
open Go.RowKit

def natsI (ks : List Nat) : List Int := ks.map fun k : Nat => (k : Int)
theorem natsI_snoc (ks : List Nat) (k : Nat) : ints (natsI (ks ++ [k])) = ints (natsI ks) ++ ints [(k : Int)] := by unfold natsI; rw [List.map_append, ints_append]; rfl
theorem natsI_len (ks : List Nat) : (natsI ks).length = ks.length := by unfold natsI; rw [List.length_map]
structure Shp (l : DepthGridC) (i W H c r : Nat) : Prop where
  w : l.wide = (W : Int)
  wt : l.wide.toNat = W
  h : l.high = (H : Int)
  w0 : 1 ≤ W
  w1 : W ≤ 30
  h1 : H ≤ 30
  len : l.counts.length = H * W
  ie : i = r * W + c
  cl : c < W
  rl : r < H
  cm : i % W = c
  rd : i / W = r
theorem shp_of {l : DepthGridC} {i : Nat} (K : GOk l) (hi : i < l.counts.length) : ∃ W H c r : Nat, Shp l i W H c r := by
  have k0 := K.w0; have k1 := K.w1; have k2 := K.h0; have k3 := K.h1; have k4 := K.len
  obtain ⟨W, hW⟩ : ∃ W : Nat, l.wide = (W : Int) := ⟨l.wide.toNat, by omega⟩
  obtain ⟨H, hH⟩ : ∃ H : Nat, l.high = (H : Int) := ⟨l.high.toNat, by omega⟩
  have hl : l.counts.length = H * W := by
    rw [hW, hH, ← Int.natCast_mul] at k4
    rw [Nat.mul_comm H W]
    exact Int.ofNat.inj k4
  have hd := Nat.div_add_mod i W
  refine ⟨W, H, i % W, i / W, hW, by omega, hH, by omega, by omega, by omega, hl, ?_, Nat.mod_lt _ (by omega), ?_, rfl, rfl⟩
  · rw [Nat.mul_comm]; exact hd.symm
  · rw [hl] at hi; exact (Nat.div_lt_iff_lt_mul (by omega)).2 hi
theorem yW_bd {y W H x : Nat} (hy : y < H) (hx : x < W) (hw : W ≤ 30) (hh : H ≤ 30) : y * W + x < H * W ∧ y * W ≤ 900 ∧ H * W ≤ 900 := by
  have h1 : y * W + W ≤ H * W := by rw [← Nat.succ_mul]; exact Nat.mul_le_mul_right _ hy
  have h2 : H * W ≤ 30 * 30 := Nat.mul_le_mul hh hw
  omega

set_option maxRecDepth 100000 in
set_option maxHeartbeats 4000000 in
theorem neighbours_any (h : DepthGridH) (l : DepthGridC) (i : Nat) (w : World) (K : GOk l) (hi : i < l.counts.length) (hr : RdAll w (DepthGridS h l)) :
    Calls Try.prog 93 #[DepthGridV h l, .int .i64 i] w fun e w' => ∃ k : Hd, e = .returned (.slice k.A k.n k.c) ∧ Own w' w.heap.size 1 k (ints (natsI (nbTo l i l.counts.length))) ∧ Below w.heap.size w w' := by
  obtain ⟨W, H, c, r, S⟩ := shp_of K hi
  have SH := Lib.hid S
  have rc := hr.head
  obtain ⟨⟨A3, n3, c3⟩, ⟨A4, n4, c4⟩⟩ := h
  simp only at rc
  have hw0 := S.w0; have hw1 := S.w1; have hh1 := S.h1; have hc := S.cl; have hr1 := S.rl
  have hib : i ≤ 900 := by have := yW_bd hr1 hc hw1 hh1; have := S.ie; omega
  have e1 : (i : Int) % (W : Int) = (c : Int) := by rw [← Int.natCast_emod, S.cm]
  have e2 : (i : Int) / (W : Int) = (r : Int) := by rw [← Int.natCast_ediv, S.rd]
  have hw2 : (W : Int) ≠ 0 := by omega
  unfold DepthGridV
  simp only
  rw [S.w, S.h]
  clear S K
  have hb0 : Below w.heap.size w (w.alloc (.cells #[.int .i64 l.size, .int .i64 W, .int .i64 H, .slice A3 n3 c3, .slice A4 n4 c4] 50)) := (Below.refl _ _).alloc (Nat.le_refl _) _
  have K0 := Blk.newN w 50 #[.int .i64 l.size, .int .i64 W, .int .i64 H, .slice A3 n3 c3, .slice A4 n4 c4] rfl
  go_enter Try.func93, Try.ntmps93
  go_upto_region 1 with fail
  generalize w.alloc (.cells #[.int .i64 l.size, .int .i64 W, .int .i64 H, .slice A3 n3 c3, .slice A4 n4 c4] 50) = w1 at hb0 K0 ⊢
  have c0 := fun o => K0.cell o
  go_quiet (fail)
  clear e2 hw2
  obtain ⟨y0, hy0⟩ : ∃ y0 : Nat, y0 = r - 1 := ⟨_, rfl⟩
  obtain ⟨x0, hx0⟩ : ∃ x0 : Nat, x0 = c - 1 := ⟨_, rfl⟩
  obtain ⟨y1, hy1⟩ : ∃ y1 : Nat, y1 = min (r + 1) (H - 1) := ⟨_, rfl⟩
  obtain ⟨x1, hx1⟩ : ∃ x1 : Nat, x1 = min (c + 1) (W - 1) := ⟨_, rfl⟩
  have E1 : (if (r : Int) - 1 < 0 then (0 : Int) else (r : Int) - 1) = (y0 : Int) := by split <;> omega
  have E2 : (if (c : Int) - 1 < 0 then (0 : Int) else (c : Int) - 1) = (x0 : Int) := by split <;> omega
  have E3 : (if (H : Int) - 1 < (r : Int) + 1 then (H : Int) - 1 else (r : Int) + 1) = (y1 : Int) := by split <;> omega
  have E4 : (if (W : Int) - 1 < (c : Int) + 1 then (W : Int) - 1 else (c : Int) + 1) = (x1 : Int) := by split <;> omega
  have HNL : Hid (nbTo l i (y0 * W) = []) := nb_low SH.out.wt hw0 (by rw [SH.out.rd]; omega) (by rw [SH.out.rd]; exact hy0)
  have HNH : Hid (nbTo l i l.counts.length = nbTo l i ((y1 + 1) * W)) := by
    unfold Hid
    rw [SH.out.len]
    exact nb_high SH.out.wt hw0 (by rw [SH.out.rd]; omega)
  have HNLft : Hid (∀ y, nbTo l i (y * W + x0) = nbTo l i (y * W)) := fun y => by have := nb_left (g := l) (i := i) SH.out.wt hw0 y; rw [SH.out.cm, ← hx0] at this; exact this
  have HNRgt : Hid (∀ y, nbTo l i ((y + 1) * W) = nbTo l i (y * W + (x1 + 1))) := fun y => nb_right SH.out.wt hw0 y (by rw [SH.out.cm]; omega)
  have hy1' : y1 + 1 ≤ H ∧ y0 ≤ y1 + 1 ∧ y1 ≤ r + 1 ∧ r - 1 ≤ y0 ∧ y0 ≤ r := by omega
  have hx1' : x1 + 1 ≤ W ∧ x0 ≤ x1 + 1 ∧ x1 ≤ c + 1 ∧ c - 1 ≤ x0 ∧ x0 ≤ c := by omega
  have HY1 := Lib.hid hy1'
  have HX1 := Lib.hid hx1'
  have hlenN : ∀ m, (nbTo l i m).length ≤ 90 := fun m => by have := nb_len (g := l) (i := i) SH.out.wt hw0 m; omega
  have HLN := Lib.hid hlenN
  clear hy0 hx0 hy1 hx1 hy1' hx1' hlenN
  rw [e1]
  clear e1 hib
  go_upto_region 4 with fail
  have O0 : Own (w1.drewN nq) (w.heap.size + 1) 1 ⟨none, 0, 0⟩ (ints (natsI (nbTo l i (y0 * W)))) := by rw [HNL.out]; exact Own.nil _ _ _
  have hb1 := Below.drewN hb0 nq
  have K1 : Blk (w1.drewN nq) _ _ _ := K0
  clear c0 K0 hb0 E1
  generalize w1.drewN nq = w2 at O0 hb1 K1 ⊢
  go_loopw [7, 8] (fun v q wq => ∃ (y : Nat) (hb : Hd), y0 ≤ y ∧ y ≤ y1 + 1 ∧ q = .int .i64 y ∧ v = .slice hb.A hb.n hb.c ∧ Own wq (w.heap.size + 1) 1 hb (ints (natsI (nbTo l i (y * W)))) ∧ Below w.heap.size w wq ∧ Blk wq w.heap.size 50 #[.int .i64 l.size, .int .i64 W, .int .i64 H, .slice A3 n3 c3, .slice A4 n4 c4]) (fun _ q _ => y1 + 1 - (intOf q).toNat)
  case atStart => exact ⟨y0, ⟨none, 0, 0⟩, Nat.le_refl _, HY1.out.2.1, rfl, rfl, O0, hb1, K1⟩
  case round =>
    clear O0 hb1 K1
    obtain ⟨y, hb, hya, hyb, rfl, rfl, OB, hbel, K1⟩ := hrel
    have c0 := fun o => K1.cell o
    by_cases hlt : y ≤ y1
    · have hltI : (y : Int) ≤ (y1 : Int) := by omega
      have hyH : y < H := by have := HY1.out; omega
      have OB' : Own wr (w.heap.size + 1) 1 hb (ints (natsI (nbTo l i (y * W + x0)))) := by rw [HNLft.out]; exact OB
      go_upto_region 7 with fail
      go_loopw [7, 9] (fun v q wq => ∃ (x : Nat) (hb : Hd), x0 ≤ x ∧ x ≤ x1 + 1 ∧ q = .int .i64 x ∧ v = .slice hb.A hb.n hb.c ∧ Own wq (w.heap.size + 1) 1 hb (ints (natsI (nbTo l i (y * W + x)))) ∧ Below w.heap.size w wq ∧ Blk wq w.heap.size 50 #[.int .i64 l.size, .int .i64 W, .int .i64 H, .slice A3 n3 c3, .slice A4 n4 c4]) (fun _ q _ => x1 + 1 - (intOf q).toNat)
      case atStart => exact ⟨x0, hb, Nat.le_refl _, HX1.out.2.1, rfl, rfl, OB', hbel, K1⟩
      case round =>
        clear OB OB' hbel K1 c0
        obtain ⟨x, hb, hxa, hxb, rfl, rfl, OB, bi, K1⟩ := hrel
        have c0 := fun o => K1.cell o
        have hsz2 : w.heap.size + 1 ≤ wr.heap.size := K1.lt
        have hsz3 := bi.size
        have hsz0 : w.heap.size ≤ w.heap.size := Nat.le_refl _
        have hbn : hb.n ≤ 90 := by have := OB.rd1.len; rw [natsI_len] at this; have := HLN.out (y * W + x); omega
        by_cases hxl : x ≤ x1
        · have hxI : (x : Int) ≤ (x1 : Int) := by omega
          have hxW : x < W := by have := HX1.out; omega
          have hbd := yW_bd hyH hxW hw1 hh1
          have hNB : nbB l i (y * W + x) = (decide (y * W + x ≠ i) && decide (l.counts.getD (y * W + x) 0 ≠ 0)) := nb_at SH.out.wt hw0 hxW (by rw [SH.out.cm]; have := HX1.out; omega) (by rw [SH.out.cm]; have := HX1.out; omega) (by rw [SH.out.rd]; have := HY1.out; omega) (by rw [SH.out.rd]; have := HY1.out; omega)
          have hkn : y * W + x < n3 := by rw [← rc.len, SH.out.len]; exact hbd.1
          have hp1 : (y : Int) * (W : Int) = ((y * W : Nat) : Int) := by rw [Int.natCast_mul]
          have hsx : nbTo l i (y * W + (x + 1)) = nbTo l i (y * W + x + 1) := rfl
          have HSX := Lib.hid hsx
          clear hsx
          obtain ⟨m, hm⟩ : ∃ m, y * W = m := ⟨_, rfl⟩
          rw [hm] at hp1 hbd hNB hkn OB HSX
          have HMM := Lib.hid hm
          clear hm
          have hm9 : m ≤ 900 := hbd.2.1
          have hmW : ∀ z, Own z (w.heap.size + 1) 1 hb (ints (natsI (nbTo l i (m + x)))) = Own z (w.heap.size + 1) 1 hb (ints (natsI (nbTo l i (m + x)))) := fun _ => rfl
          clear hmW hbd
          obtain ⟨k, hk⟩ : ∃ k, m + x = k := ⟨_, rfl⟩
          have hkI : (m : Int) + (x : Int) = (k : Int) := by omega
          rw [hk] at hNB hkn OB HSX
          have HKK := Lib.hid hk
          clear hk
          by_cases hki : k = i
          · have g1 : ((k : Int) == (i : Int)) = true := by simp; omega
            have g2 : ((k : Int) != (i : Int)) = false := by simp; omega
            have HS := Lib.hid (nbTo_no (g := l) (i := i) (n := k) (by rw [hNB]; simp [hki]))
            clear hki hNB
            go_wp2
            go_roundw
            case rel => exact ⟨x + 1, hb, by omega, by omega, by go_num, rfl, by rw [HMM.out, HSX.out, HS.out]; exact OB, bi, K1⟩
            case measure => simp [intOf]; omega
          · have g1 : ((k : Int) == (i : Int)) = false := by simp; omega
            have g2 : ((k : Int) != (i : Int)) = true := by simp; omega
            obtain ⟨ad, rfl, hcell⟩ := (rc.below bi).int hkn
            have hkn0 : (0 : Int) ≤ (k : Int) := by omega
            have hkn1 : (k : Int) < (n3 : Int) := by omega
            have HYS : Hid (l.counts.getD k 0 ≠ 0 → nbTo l i (k + 1) = nbTo l i k ++ [k]) := fun hne => nbTo_yes (by rw [hNB]; simp only [ne_eq, hki, not_false_eq_true, decide_true, Bool.true_and]; exact decide_eq_true hne)
            have HNO : Hid (l.counts.getD k 0 = 0 → nbTo l i (k + 1) = nbTo l i k) := fun he => nbTo_no (by rw [hNB, he]; simp)
            clear hki hNB
            generalize l.counts.getD k 0 = v at *
            by_cases hv : v = 0
            · subst hv
              have HS := Lib.hid (HNO.out rfl)
              clear HYS HNO
              go_wp2
              go_roundw
              case rel => exact ⟨x + 1, hb, by omega, by omega, by go_num, rfl, by rw [HMM.out, HSX.out, HS.out]; exact OB, bi, K1⟩
              case measure => simp [intOf]; omega
            · have g3 : (v == 0) = false := by simpa using hv
              have g4 : (v != 0) = true := by simpa using hv
              have HS := Lib.hid (HYS.out hv)
              clear HYS HNO hv
              go_wp2_with (at_builtin; refine wpList_append_Own rfl _ _ 22 rfl 2 1 8 Try.underlying22 Int64_info (by decide) (w.heap.size + 1) hb _ rfl (OB.below ((Below.refl _ _).alloc (Nat.le_refl _) _)) _ 1 1 (ints [(k : Int)]) rfl (by rw [Nat.mul_one]; exact rd_one _ _ _) (oneCell_ints _) (by first | omega | (simp only; omega)) (by decide) (Nat.le_trans hsz2 (by simp)) ?_; intro k2 w2 hk2 hO2 gg hat)
              have HK2 := Lib.hid hk2
              clear hk2
              have hrn : hb.row ≠ some w.heap.size := fun e => by have := (OB.rowlt _ e).1; omega
              go_roundw
              case rel => exact ⟨x + 1, k2, by omega, by omega, by go_num, (by first | rfl | rw [HK2.out]), by rw [HMM.out, HSX.out, HS.out, natsI_snoc]; exact hO2, bstepg (bi.trans (((Below.refl _ _).alloc (Nat.le_refl _) _).mono hsz3)) gg hsz0 (fun b e => by have := (OB.rowlt b e).1; omega), (K1.alloc _).grown gg hrn⟩
              case measure => simp [intOf]; omega
        · obtain rfl : x = x1 + 1 := by omega
          have hxI : ¬ ((x1 + 1 : Nat) : Int) ≤ (x1 : Int) := by omega
          rw [← HNRgt.out] at OB
          go_wp2
          go_roundw
          case rel => exact ⟨y + 1, hb, by omega, by omega, by go_num, rfl, OB, bi, K1⟩
          case measure => simp [intOf]; omega
    · obtain rfl : y = y1 + 1 := by omega
      have hxI : ¬ ((y1 + 1 : Nat) : Int) ≤ (y1 : Int) := by omega
      rw [← HNH.out] at OB
      go_wp2
      go_ret
      exact ⟨hb, rfl, OB.mono (Nat.le_succ _), hbel⟩

end Go.Proofs.Ythmcnoloeeabbaa
