/- spec: the level of a valid gauge at a time; a valid gauge is one. Condition: a valid gauge, a time from 0 to 1000000. -/
import Derived.Test.YtphpjmkebnadoaaLevK
import Derived.Test.YtphpjmkebnadoaaNear
import Derived.StillTailTactics
namespace Go.Proofs.Ytphpjmkebnadoaa
open Go.RowKit

set_option maxHeartbeats 1000000 in
theorem l01Ceil_any (a b : Int) (w : World) (h1 : -4611686018427387904 ≤ a) (h2 : a ≤ 4611686018427387904) (hb : 0 < b) (hb2 : b ≤ 4611686018427387904) :
    Calls Try.prog 85 #[.int .i64 a, .int .i64 b] w fun e w' => e = .returned (.int .i64 (-(-a / b))) ∧ w = w' := by
  have u1 : IntKind.i64.wrap (-a) = -a := IntWalk.i64_in _ (by omega)
  have qb := ediv_bd (a := -a) (b := b) hb (by omega) (by omega)
  have u2 : IntKind.i64.wrap (-(-a / b)) = -(-a / b) := IntWalk.i64_in _ (by omega)
  go_enter Try.func85, Try.ntmps85
  go_wp2_with fail
  refine (l01Floor_any (-a) b _ (by omega) (by omega) hb hb2).mono ?_
  rintro e w' ⟨rfl, rfl⟩
  go_wp2
  go_ret
  exact ⟨rfl, rfl⟩
set_option maxRecDepth 100000 in
set_option maxHeartbeats 2000000 in
theorem specIsGauge_yes (A0 A1 : Option Addr) (n m c d : Nat) (ts ls : List Int) (w : World) (G : GaOk ts ls) (r0 : Rd w A0 n (ints ts)) (r1 : Rd w A1 m (ints ls)) :
    Calls Try.prog 105 #[.agg #[.slice A0 n c, .slice A1 m d]] w fun e w' => e = .returned (.bool true) ∧ Below w.heap.size w w' := by
  have K0 := Blk.new w 26 #[.slice A0 n c, .slice A1 m d]
  have b0 : Below w.heap.size w (w.alloc (.cells #[.slice A0 n c, .slice A1 m d] 26)) := (Below.refl _ _).alloc (Nat.le_refl _) _
  have l0 := r0.len
  have l1 := r1.len
  have g0 := G.n0; have g1 := G.n1; have ge := G.eq
  obtain rfl : n = m := by omega
  have HR := Lib.hid G.ris
  have HV : Hid (okList ls 40 (-2000) 2000 = true) := by show _ = _; unfold okList; rw [G.lev, decide_eq_true (by omega)]; rfl
  have k0 : (0 : Int) < (n : Int) := by omega
  have k1 : (n : Int) ≤ 40 := by omega
  have k2 : 0 < n := by omega
  have hn40 : n ≤ 40 := by omega
  clear G l0 l1 ge g0 g1
  go_enter Try.func105, Try.ntmps105
  go_upto_region 1 with fail
  generalize w.alloc (.cells #[.slice A0 n c, .slice A1 n d] 26) = w1 at K0 b0 ⊢
  have e0 := fun o => K0.cell o
  have g0 := K0.lt
  go_wp2_with fail
  refine (l01Rises_any _ _ _ ts _ _ (by omega) (r0.below b0)).mono ?_
  rw [HR.out]
  rintro e w2 ⟨rfl, b2⟩
  have b3 := b0.trans (b2.mono b0.size)
  replace K0 := K0.below b2 g0
  replace e0 := fun o => K0.cell o
  replace g0 := K0.lt
  clear b2
  go_wp2_with fail
  refine (l01Within_any _ _ _ ls _ _ _ _ (by omega) (r1.below b3)).mono ?_
  rw [HV.out]
  rintro e w' ⟨rfl, rfl⟩
  go_wp2
  go_ret
  exact ⟨rfl, b3⟩

set_option maxRecDepth 100000 in
set_option maxHeartbeats 4000000 in
theorem l20Level_any (A0 A1 : Option Addr) (n c d : Nat) (ts ls : List Int) (t : Int) (w : World) (G : GaOk ts ls) (r0 : Rd w A0 n (ints ts)) (r1 : Rd w A1 n (ints ls)) (ht0 : 0 ≤ t) (ht1 : t ≤ 1000000) (hlo : ts.getD 0 0 ≤ t) (hhi : t ≤ ts.getD (n - 1) 0) :
    Calls Try.prog 106 #[.agg #[.slice A0 n c, .slice A1 n d], .int .i64 t] w fun e w' => e = .returned (.agg #[.int .i64 (levLo ts ls t), .int .i64 (levHi ts ls t)]) ∧ Below w.heap.size w w' := by
  have K2 := (Blk.new w 26 #[.slice A0 n c, .slice A1 n d]).alloc (.cells #[.int .i64 0, .int .i64 0] 106)
  have K4 := Blk.newN (g := w.heap.size + 1) (w.alloc (.cells #[.slice A0 n c, .slice A1 n d] 26)) 106 #[.int .i64 0, .int .i64 0] (by simp)
  have b0 : Below w.heap.size w ((w.alloc (.cells #[.slice A0 n c, .slice A1 n d] 26)).alloc (.cells #[.int .i64 0, .int .i64 0] 106)) := (by (repeat (first | (with_reducible assumption) | (with_reducible exact Below.refl _ _) | (with_reducible refine Below.drew ?_) | (with_reducible refine Below.drewN ?_ _) | (with_reducible refine Below.setCell ?_ ?_ _) | (with_reducible refine Below.alloc ?_ ?_ _) | assumption)); all_goals (first | omega | (simp; done) | (simp; omega)))
  have l0 : ts.length = n := r0.len
  have hR := Lib.hid (ris_of G.ris)
  have n0 := G.n0
  have n1 : n ≤ 40 := by have := G.n1; omega
  have HG := Lib.hid G
  have HLO := Lib.hid hlo
  have HHI := Lib.hid hhi
  have HL0 := Lib.hid l0
  have hnp : 1 ≤ n := by omega
  clear G hlo hhi n0 l0
  go_enter Try.func106, Try.ntmps106
  go_upto_region 1 with fail
  generalize (w.alloc (.cells #[.slice A0 n c, .slice A1 n d] 26)).alloc (.cells #[.int .i64 0, .int .i64 0] 106) = w1 at K2 K4 b0 ⊢
  replace r0 := r0.below b0
  replace r1 := r1.below b0
  have g2 := K2.lt
  have g4 := K4.lt
  have e2 := fun o => K2.cell o
  go_wp2_with fail
  go_loopw [5] (fun v5 wr => ∃ k : Nat, k < n ∧ v5 = .int .i64 k ∧ ts.getD k 0 ≤ t ∧ wr = w1) (fun v5 _ => n - (intOf v5).toNat)
  case atStart => exact ⟨0, by omega, rfl, HLO.out, rfl⟩
  case round =>
    obtain ⟨k, hk, rfl, hkt, rfl⟩ := hrel
    have HKT := Lib.hid hkt
    clear hkt
    have hkI : (k : Int) < (n : Int) := by omega
    have hk0 : (0 : Int) ≤ (k : Int) := by omega
    have hk2 : (0 : Int) ≤ (k : Int) + 1 := by omega
    have hk3 : ((k : Int) + 1).toNat = k + 1 := by omega
    have hst : (k + 1 < n ∧ ts.getD (k + 1) 0 ≤ t) ∨ (k + 1 < n ∧ ¬ ts.getD (k + 1) 0 ≤ t) ∨ k + 1 = n := by omega
    rcases hst with ⟨h1, h2⟩ | hst
    · obtain ⟨ad, rfl, hx⟩ := r0.int h1
      rw [field_add ad (k + 1) (by omega)] at hx
      have hd := decide_eq_true h2
      have H2 := Lib.hid h2
      have hkI2 : (k : Int) + 1 < (n : Int) := by omega
      clear h2
      generalize ts.getD (k + 1) 0 = x at hx hd
      go_wp2_with fail
      go_roundw
      case rel => exact ⟨k + 1, h1, by go_num, H2.out, by first | rfl | trivial⟩
      case measure => simp [intOf]; omega
    · by_cases he : ts.getD k 0 = t
      · have HC : Hid (cutN ts t = k) := cutN_uniq (by have := HL0.out; omega) (fun a ha => by have := hR.out a k ha (by have := HL0.out; omega); omega) (fun _ => by omega)
        have HV : Hid (levLo ts ls t = ls.getD k 0 ∧ levHi ts ls t = ls.getD k 0) := by unfold Hid levLo levHi; rw [HC.out, if_pos he, if_pos he]; exact ⟨rfl, rfl⟩
        obtain ⟨ad, rfl, hx⟩ := r0.int hk
        obtain ⟨bd, rfl, hy⟩ := r1.int hk
        rw [he] at hx
        generalize ls.getD k 0 = y at *
        rcases hst with ⟨h1, h2⟩ | h1
        · obtain ⟨_, ⟨⟩, hx1⟩ := r0.int h1
          rw [field_add ad (k + 1) (by omega)] at hx1
          have hd := decide_eq_false h2
          have hkI2 : (k : Int) + 1 < (n : Int) := by omega
          clear h2
          generalize ts.getD (k + 1) 0 = x at hx1 hd
          go_upto_region 5 with fail
          go_still_tail 11, (by kernel_rfl)
          have D4 : Blk wr.drew (w.heap.size + 1) 106 #[.int .i64 0, .int .i64 0] := K4
          have db : Below w.heap.size w wr.drew := Below.drew b0
          change wpList _ _ _ _ _ wr.drew
          clear e2 g2 g4 hx hy hx1
          generalize wr.drew = w3 at D4 db ⊢
          have e4 := fun o => D4.cell o
          have f4 := fun o => D4.frozen o
          have g4 := D4.lt
          go_wp2
          refine bodyPost_ret (v := .agg #[.int .i64 y, .int .i64 y]) (by simp [results, Try.results106, go_sem, e4, g4]) rfl ⟨by rw [HV.out.1, HV.out.2], ?_⟩
          repeat (first | with_reducible exact db | refine Below.setCell ?_ (by simp <;> omega) _)
        · have hkC : ¬ (k : Int) + 1 < (n : Int) := by omega
          go_upto_region 5 with fail
          go_still_tail 11, (by kernel_rfl)
          have D4 : Blk wr.drew (w.heap.size + 1) 106 #[.int .i64 0, .int .i64 0] := K4
          have db : Below w.heap.size w wr.drew := Below.drew b0
          change wpList _ _ _ _ _ wr.drew
          clear e2 g2 g4 hx hy
          generalize wr.drew = w3 at D4 db ⊢
          have e4 := fun o => D4.cell o
          have f4 := fun o => D4.frozen o
          have g4 := D4.lt
          go_wp2
          refine bodyPost_ret (v := .agg #[.int .i64 y, .int .i64 y]) (by simp [results, Try.results106, go_sem, e4, g4]) rfl ⟨by rw [HV.out.1, HV.out.2], ?_⟩
          repeat (first | with_reducible exact db | refine Below.setCell ?_ (by simp <;> omega) _)
      · have hkt := HKT.out
        have h12 : k + 1 < n ∧ ¬ ts.getD (k + 1) 0 ≤ t := by
          rcases hst with h | h
          · exact h
          · have := HHI.out
            rw [show n - 1 = k by omega] at this
            omega
        obtain ⟨h1, h2⟩ := h12
        have hz := hR.out k (k + 1) (by omega) (by have := HL0.out; omega)
        have HC : Hid (cutN ts t = k + 1) := cutN_uniq (by have := HL0.out; omega) (fun a ha => by
          by_cases e : a = k
          · subst e; omega
          · have := hR.out a k (by omega) (by have := HL0.out; omega); omega) (fun _ => by omega)
        have HV : Hid (levLo ts ls t = ls.getD k 0 + (ls.getD (k + 1) 0 - ls.getD k 0) * (t - ts.getD k 0) / (ts.getD (k + 1) 0 - ts.getD k 0) ∧ levHi ts ls t = ls.getD k 0 + -(-((ls.getD (k + 1) 0 - ls.getD k 0) * (t - ts.getD k 0)) / (ts.getD (k + 1) 0 - ts.getD k 0))) := by
          have hne : ¬ ts.getD (k + 1) 0 = t := by omega
          unfold Hid levLo levHi levBy levZ
          rw [HC.out, Nat.add_sub_cancel, if_neg hne, if_neg hne]
          exact ⟨rfl, rfl⟩
        obtain ⟨ad, rfl, hx0⟩ := r0.int hk
        obtain ⟨bd, rfl, hy0⟩ := r1.int hk
        obtain ⟨_, ⟨⟩, hx⟩ := r0.int h1
        obtain ⟨_, ⟨⟩, hy⟩ := r1.int h1
        have hA := HG.out.tmA k
        have hB := HG.out.tmA (k + 1)
        have hC := HG.out.lvA k
        have hD := HG.out.lvA (k + 1)
        rw [field_add ad (k + 1) (by omega)] at hx
        rw [field_add bd (k + 1) (by omega)] at hy
        have hd := decide_eq_false h2
        have he' : decide (ts.getD k 0 = t) = false := decide_eq_false he
        have hb1 : (ts.getD k 0 == t) = false := by rw [beq_eq_false_iff_ne]; exact he
        have hkI2 : (k : Int) + 1 < (n : Int) := by omega
        clear h2 he HC HKT hst
        generalize ts.getD k 0 = tA at *
        generalize ts.getD (k + 1) 0 = tB at *
        generalize ls.getD k 0 = lA at *
        generalize ls.getD (k + 1) 0 = lB at *
        have hp := mul_bd (a := lB - lA) (b := t - tA) (A := 4000) (B := 1000000) (by omega) (by omega) (by omega) (by omega)
        obtain ⟨by_, hby⟩ : ∃ b, (lB - lA) * (t - tA) = b := ⟨_, rfl⟩
        rw [hby] at hp HV
        have w1' : IntKind.i64.wrap ((k : Int) + 1) = (k : Int) + 1 := IntWalk.i64_in _ (by omega)
        have w2' : IntKind.i64.wrap (tB - tA) = tB - tA := IntWalk.i64_in _ (by omega)
        have w3' : IntKind.i64.wrap (lB - lA) = lB - lA := IntWalk.i64_in _ (by omega)
        have w4' : IntKind.i64.wrap (t - tA) = t - tA := IntWalk.i64_in _ (by omega)
        have w5' : IntKind.i64.wrap by_ = by_ := IntWalk.i64_in _ (by omega)
        go_upto_region 6 with fail
        go_quiet (fail)
        revert nq; intro nq1
        have qb := ediv_bd (a := by_) (b := tB - tA) (by omega) (by omega) (by omega)
        have qc := ediv_bd (a := -by_) (b := tB - tA) (by omega) (by omega) (by omega)
        go_upto_region 7 with fail
        have E2 : ∀ o, (wr.drewN nq1).cell? ⟨w.heap.size, o, none⟩ = (#[.slice (some ad) n c, .slice (some bd) n d] : Array Value)[o]? := e2
        have D4 : Blk (wr.drewN nq1) (w.heap.size + 1) 106 #[.int .i64 0, .int .i64 0] := K4
        have db : Below w.heap.size w (wr.drewN nq1) := Below.drewN b0 _
        have Y0 : (wr.drewN nq1).cell? (bd.add k) = some (.int .i64 lA) := hy0
        clear e2 g2 g4 hx hx0 hy hy0 K2 K4 b0
        generalize wr.drewN nq1 = w3 at E2 D4 db Y0 ⊢
        have cF := fun (W : World) => l01Floor_any by_ (tB - tA) W (by omega) (by omega) (by omega) (by omega)
        have cC := fun (W : World) => l01Ceil_any by_ (tB - tA) W (by omega) (by omega) (by omega) (by omega)
        go_still_tail 19, (by kernel_rfl)
        still_call ((cF _).mono fun _ _ h => ⟨h.1, h.2.symm⟩)
        repeat still_step
        still_call ((cC _).mono fun _ _ h => ⟨h.1, h.2.symm⟩)
        repeat still_step
        refine wpStill_nil ?_
        have D5 : Blk w3.drew (w.heap.size + 1) 106 #[.int .i64 0, .int .i64 0] := D4
        have db5 : Below w.heap.size w w3.drew := Below.drew db
        change wpList _ _ _ _ _ w3.drew
        clear cF cC E2 D4 db Y0
        generalize w3.drew = w4 at D5 db5 ⊢
        have e4 := fun o => D5.cell o
        have f4 := fun o => D5.frozen o
        have g4 := D5.lt
        go_wp2
        refine bodyPost_ret (v := .agg #[.int .i64 (lA + by_ / (tB - tA)), .int .i64 (lA + -(-by_ / (tB - tA)))]) (by simp [results, Try.results106, go_sem, e4, g4]) rfl ⟨by rw [HV.out.1, HV.out.2], ?_⟩
        repeat (first | with_reducible exact db5 | refine Below.setCell ?_ (by simp <;> omega) _)
end Go.Proofs.Ytphpjmkebnadoaa
