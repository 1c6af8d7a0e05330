/- Decoding in the reference: l28Decode, l28Count. Condition: received bits. -/
import Derived.Test.YtlgmdekhlcbhoaaVitF
namespace Go.Proofs.Ytlgmdekhlcbhoaa
open Go.RowKit

theorem Rows4.num {w : World} {G B m lo t q : Nat} {f : Nat → List Int} (h : Rows4 w G B m lo f) (h1 : lo ≤ t) (h2 : t ≤ m) (hq : q < 4) :
    ∃ ad c, w.cell? ⟨G, t, none⟩ = some (.slice (some ad) 4 c) ∧ w.cell? (ad.add q) = some (.int .i64 ((f t).getD q 0)) := by
  obtain ⟨ad, c, h3, h4⟩ := h.at_ h1 h2
  obtain ⟨_, ⟨⟩, h5⟩ := h4.int hq
  exact ⟨ad, c, h3, h5⟩
theorem refE_getD (xs : List Int) (m t : Nat) {q : Nat} (hq : q < 4) (ht : t + 2 ≤ m) : (refE xs m t 4).getD q 0 = (vit xs m (m - t) q).1 := by
  unfold refE
  rw [range_map_getD _ hq, ref_vit xs m (m - t) (by omega) q (by omega) (by omega) (by omega)]
theorem refW_getD (xs : List Int) (m t : Nat) {q : Nat} (hq : q < 4) (ht : t + 2 ≤ m) : (refW xs m t 4).getD q 0 = (vit xs m (m - t) q).2 := by
  unfold refW
  rw [range_map_getD _ hq, ref_vit xs m (m - t) (by omega) q (by omega) (by omega) (by omega)]

set_option maxRecDepth 100000 in
set_option maxHeartbeats 4000000 in
theorem l28Decode_any (A : Option Addr) (m c : Nat) (xs : List Int) (w : World) (hm : 2 ≤ m) (hm2 : m ≤ 302) (hr : Rd w A (2 * m) (ints xs)) :
    Calls Try.prog 137 #[.slice A (2 * m) c] w (RetII (dec xs m (m - 2)) (vit xs m m 0).1 w) := by
  have h2 : (2 * (m : Int)) / 2 = (m : Int) := by omega
  obtain ⟨M, hM⟩ : ∃ M, m = M + 2 := ⟨m - 2, by omega⟩
  have hM2 : (m : Int) - 2 = (M : Int) := by omega
  have HM := Lib.hid hM
  clear hM
  go_enter Try.func137, Try.ntmps137
  go_wp2_with fail
  refine (l28Rest_any A m c xs _ hm hm2 hr).mono ?_
  rintro e w1 ⟨rfl, hE, hW, hb1⟩
  have HE := Lib.hid hE
  clear hE hW
  go_wp2_with fail
  go_loopw [6, 7, 8] (fun o s i wr => ∃ k : Nat, k ≤ M ∧ i = .int .i64 k ∧ s = .int .i64 (decSt xs m k) ∧ wr.ownsRow w1.heap.size 2 1 o k (ints (dec xs m k)) ∧ Below w1.heap.size w1 wr) (fun _ _ i _ => M - (intOf i).toNat)
  case atStart => exact ⟨0, Nat.zero_le _, rfl, rfl, own_empty w1 _, (Below.refl _ _).alloc (Nat.le_refl _) _⟩
  case round =>
    obtain ⟨k, hk, rfl, rfl, hown, hbel⟩ := hrel
    have hsz := hbel.size
    by_cases hlt : k < M
    · have hkm : k + 2 < m := by have := HM.out; omega
      have hsb := decSt_bd xs m k
      obtain ⟨q, hq⟩ := Int.eq_ofNat_of_zero_le hsb.1
      have hq4 : q < 4 := by omega
      have hrr := hr.below (bnext hb1 hbel)
      have hTT := HE.out.below hbel
      have nb0 := nxt_bd (s := (q : Int)) (b := 0) (by omega) (by omega) (by omega) (by omega)
      have nb1 := nxt_bd (s := (q : Int)) (b := 1) (by omega) (by omega) (by omega) (by omega)
      obtain ⟨n0, hn0⟩ := Int.eq_ofNat_of_zero_le nb0.1
      obtain ⟨a0, d0, x0, y0⟩ := hTT.num (t := k) (q := q) (Nat.zero_le _) (by omega) hq4
      obtain ⟨a1, d1, x1, y1⟩ := hTT.num (t := k + 1) (q := n0) (Nat.zero_le _) (by omega) (by omega)
      rw [refE_getD xs m k hq4 (by omega)] at y0
      rw [refE_getD xs m (k + 1) (by omega) (by omega)] at y1
      have e0 := vit_bd xs m (m - k) q
      have e1 := vit_bd xs m (m - (k + 1)) n0
      have HD : Hid (dec xs m (k + 1) = dec xs m k ++ [decBit xs m k (decSt xs m k)]) := range_map_snoc _ k
      have HS : Hid (decSt xs m (k + 1) = nxt (decSt xs m k) (decBit xs m k (decSt xs m k))) := rfl
      have HB : Hid (decBit xs m k q = if stepW xs k q 0 + (vit xs m (m - (k + 1)) n0).1 = (vit xs m (m - k) q).1 then 0 else 1) := by unfold Hid decBit; rw [hn0]
      have s0 := stepW_bd xs k q 0
      have b0 : 0 ≤ (vit xs m (m - k) q).1 ∧ (vit xs m (m - k) q).1 ≤ 1208 := by omega
      have b1 : 0 ≤ (vit xs m (m - (k + 1)) n0).1 ∧ (vit xs m (m - (k + 1)) n0).1 ≤ 1208 := by omega
      clear e0 e1
      rw [hq] at HD HS ⊢
      generalize (vit xs m (m - k) q).1 = T at *
      generalize (vit xs m (m - (k + 1)) n0).1 = E0 at *
      generalize dec xs m k = L at *
      clear hsb hq hTT
      have hG : w.heap.size < wr.heap.size := by obtain ⟨cs, h, _⟩ := HE.out; have := h.lt; omega
      have q1 : 0 ≤ (k : Int) + 1 := by omega
      have q2 : (k : Int) + 1 < (m : Int) + 1 := by omega
      have q3 : (k : Int) < (m : Int) + 1 := by omega
      have q4 : (q : Int) < 4 := by omega
      have q5 : (n0 : Int) < 4 := by omega
      by_cases hz : stepW xs k q 0 + E0 = T
      · have hz' : (stepW xs k q 0 + E0 != T) = false := by rw [hz]; simp
        have HX : Hid (decBit xs m k q = 0) := by unfold Hid; rw [HB.out, if_pos hz]
        clear hz
        go_wp2_with (first | (go_at_call 138; refine (l28Size_any _ _ _ _ (by omega)).mono ?_; rintro e w' ⟨rfl, rfl⟩) | (go_at_call 143; refine (l28Step_any A (2 * m) c xs k q 0 _ (by omega) hrr (by omega) (by omega) (by omega) (by omega) (by omega)).mono ?_; rintro e w' ⟨rfl, r0, rfl⟩; rw [hn0]))
        have m1 : IntKind.i64.wrap ((k : Int) + 1) = (k : Int) + 1 := IntWalk.i64_in _ (by omega)
        have m2 : ((k : Int) + 1).toNat = k + 1 := by omega
        have m3 : IntKind.i64.wrap (stepW xs k q 0 + E0) = stepW xs k q 0 + E0 := IntWalk.i64_in _ (by omega)
        go_quiet (fail)
        clear m1 m2 m3
        go_wp2_with (at_builtin; refine wpList_append_int1g wr.heap.size (by simp) rfl _ _ rfl w1.heap.size _ k L rfl rfl (own_drewN hown) (by omega) (by simp; omega) ?_; intro v' w' hown' hbel' _ _)
        go_roundw
        case rel => exact ⟨k + 1, by omega, by go_num, by rw [HS.out, HX.out, hn0], by rw [HD.out, HX.out]; exact hown', (Below.drewN hbel _).trans hbel'⟩
        case measure => simp [intOf]; omega
      · have hz' : (stepW xs k q 0 + E0 != T) = true := by simpa using hz
        have HX : Hid (decBit xs m k q = 1) := by unfold Hid; rw [HB.out, if_neg hz]
        clear hz
        go_wp2_with (first | (go_at_call 138; refine (l28Size_any _ _ _ _ (by omega)).mono ?_; rintro e w' ⟨rfl, rfl⟩) | (go_at_call 143; refine (l28Step_any A (2 * m) c xs k q 0 _ (by omega) hrr (by omega) (by omega) (by omega) (by omega) (by omega)).mono ?_; rintro e w' ⟨rfl, r0, rfl⟩; rw [hn0]))
        have m1 : IntKind.i64.wrap ((k : Int) + 1) = (k : Int) + 1 := IntWalk.i64_in _ (by omega)
        have m2 : ((k : Int) + 1).toNat = k + 1 := by omega
        have m3 : IntKind.i64.wrap (stepW xs k q 0 + E0) = stepW xs k q 0 + E0 := IntWalk.i64_in _ (by omega)
        go_quiet (fail)
        clear m1 m2 m3
        go_wp2_with (first | (go_at_call 143; refine (l28Step_any A (2 * m) c xs k q 1 _ (by omega) ?_ (by omega) (by omega) (by omega) (by omega) (by omega)).mono ?_; exact hrr; rintro e w' ⟨rfl, r1, rfl⟩) | (at_builtin; refine wpList_append_int1g wr.heap.size (by simp) rfl _ _ rfl w1.heap.size _ k L rfl rfl (own_drewN hown) (by omega) (by simp; omega) ?_; intro v' w' hown' hbel' _ _))
        go_roundw
        case rel => exact ⟨k + 1, by omega, by go_num, by rw [HS.out, HX.out], by rw [HD.out, HX.out]; exact hown', (Below.drewN hbel _).trans hbel'⟩
        case measure => simp [intOf]; omega
    · obtain rfl : k = M := by omega
      obtain ⟨B, d, rfl, hrd, hwr, hBd, _⟩ := own_rd hown
      have hkm : k + 2 ≤ m := by have := HM.out; omega
      obtain ⟨a0, d0, x0, y0⟩ := (HE.out.below hbel).num (t := 0) (q := 0) (Nat.zero_le _) (by omega) (by omega)
      rw [refE_getD xs m 0 (by omega) (by omega), Addr.add_zero'] at y0
      go_wp2_with (go_at_call 138; refine (l28Size_any _ _ _ _ (by omega)).mono ?_; rintro e w' ⟨rfl, rfl⟩)
      go_quiet (fail)
      go_wp2
      go_ret2
      exact ⟨B, k, d, rfl, by have := HM.out; rw [show m - 2 = k from by omega]; exact hrd, hwr.mono hb1.size, hBd, by omega, bnext hb1 (Below.drewN hbel _)⟩

set_option maxHeartbeats 1000000 in
theorem l28Count_any (A : Option Addr) (m c : Nat) (xs : List Int) (w : World) (hm : 2 ≤ m) (hm2 : m ≤ 302) (hr : Rd w A (2 * m) (ints xs)) :
    Calls Try.prog 129 #[.slice A (2 * m) c] w fun e w' => e = .returned (.int .i64 (vit xs m m 0).2) ∧ Below w.heap.size w w' := by
  go_enter Try.func129, Try.ntmps129
  go_wp2_with fail
  refine (l28Rest_any A m c xs _ hm hm2 hr).mono ?_
  rintro e w1 ⟨rfl, hE, hW, hb1⟩
  obtain ⟨a0, d0, x0, y0⟩ := hW.num (t := 0) (q := 0) (Nat.zero_le _) (by omega) (by omega)
  rw [refW_getD xs m 0 (by omega) (by omega), Addr.add_zero'] at y0
  clear hE hW
  go_wp2
  go_ret
  exact ⟨rfl, hb1⟩
end Go.Proofs.Ytlgmdekhlcbhoaa
