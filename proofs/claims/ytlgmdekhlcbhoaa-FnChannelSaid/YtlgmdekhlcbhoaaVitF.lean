/- Decoding: impl.decode and spec.l28Decode give the same message and the same number of errors. Condition: received bits. -/
import Derived.Test.YtlgmdekhlcbhoaaVitD
import Derived.Test.YtlgmdekhlcbhoaaVitE
namespace Go.Proofs.Ytlgmdekhlcbhoaa
open Go.RowKit

/-- The call has returned the decoded message, in memory of its own, and the number of its errors. -/
def RetII (ys : List Int) (k : Int) (w : World) (e : Ending) (w' : World) : Prop :=
  ∃ B m d, e = .returned (.tuple #[.slice B m d, .int .i64 k]) ∧ Rd w' B m (ints ys) ∧ Wr w' w.heap.size B m ∧ m ≤ d ∧ m ≤ 1048576 ∧ Below w.heap.size w w'

theorem below_drewN2 (w : World) (o : Obj) (m : Nat) : Below w.heap.size w ((w.alloc o).drewN m) := Below.drewN ((Below.refl _ _).alloc (Nat.le_refl _) o) m
/-- Cells of the program's table read at a step and a state. -/
theorem Tab.err {w : World} {G m t' : Nat} {f : Nat → Int → Int × Int} (h : Tab w G m 0 4 f) (h1 : t' ≤ m) {s : Nat} (h2 : s < 4) : w.cell? ⟨G, t' * 8 + s * 2, none⟩ = some (.int .i64 (f t' s).1) :=
  (h.cell h1 h2 (by omega)).1

theorem Tab.lt {w : World} {G m t k : Nat} {f : Nat → Int → Int × Int} (h : Tab w G m t k f) : G < w.heap.size := by obtain ⟨cs, h, _⟩ := h; exact h.lt

set_option maxRecDepth 100000 in
set_option maxHeartbeats 4000000 in
theorem decode_any (A : Option Addr) (m c : Nat) (xs : List Int) (w : World) (hm : 2 ≤ m) (hm2 : m ≤ 302) (hc : 2 * m ≤ c) (hr : Rd w A (2 * m) (ints xs)) :
    Calls Try.prog 132 #[.slice A (2 * m) c] w (RetII (dec xs m (m - 2)) (vit xs m m 0).1 w) := by
  have h2 : (2 * (m : Int)) / 2 = (m : Int) := by omega
  obtain ⟨M, hM⟩ : ∃ M, m = M + 2 := ⟨m - 2, by omega⟩
  have hM2 : (m : Int) - 2 = (M : Int) := by omega
  have HM := Lib.hid hM
  clear hM
  go_enter Try.func132, Try.ntmps132
  go_wp2_with fail
  refine (rests_any A m c xs _ hm hm2 hc hr).mono ?_
  rintro e w1 ⟨rfl, hT, hb1⟩
  go_wp2_with (go_at_call 139; refine (messageSize_any _ _ _ _ (by omega)).mono ?_; rintro e w' ⟨rfl, rfl⟩)
  have HT := Lib.hid hT
  clear hT
  go_loopw [5, 6, 15] (fun o s i wr => ∃ k : Nat, k ≤ M ∧ i = .int .i64 k ∧ s = .int .i64 (decSt xs m k) ∧ wr.ownsRow w1.heap.size 2 1 o k (ints (dec xs m k)) ∧ Below w1.heap.size w1 wr) (fun _ _ i _ => M - (intOf i).toNat)
  case atStart => exact ⟨0, Nat.zero_le _, rfl, rfl, World.ownsRow_nil _ _ _ _, Below.refl _ _⟩
  case round =>
    obtain ⟨k, hk, rfl, rfl, hown, hbel⟩ := hrel
    by_cases hlt : k < M
    · have hkm : k + 2 < m := by have := HM.out; omega
      have hsb := decSt_bd xs m k
      obtain ⟨q, hq⟩ := Int.eq_ofNat_of_zero_le hsb.1
      have hq4 : q < 4 := by omega
      have hb12 := bnext hb1 hbel
      have hrr := hr.below hb12
      have hTT := HT.out.below hbel
      have hsz := hbel.size
      have ct := hTT.err (t' := k) (by omega) hq4
      have nb0 := nxt_bd (s := (q : Int)) (b := 0) (by omega) (by omega) (by omega) (by omega)
      have nb1 := nxt_bd (s := (q : Int)) (b := 1) (by omega) (by omega) (by omega) (by omega)
      obtain ⟨n0, hn0⟩ := Int.eq_ofNat_of_zero_le nb0.1
      obtain ⟨n1, hn1⟩ := Int.eq_ofNat_of_zero_le nb1.1
      have c0 := hTT.err (t' := k + 1) (by omega) (show n0 < 4 by omega)
      have c1 := hTT.err (t' := k + 1) (by omega) (show n1 < 4 by omega)
      have e0 := vit_bd xs m (m - k) q
      have e1 := vit_bd xs m (m - (k + 1)) n0
      have e2 := vit_bd xs m (m - (k + 1)) n1
      have HD : Hid (dec xs m (k + 1) = dec xs m k ++ [decBit xs m k (decSt xs m k)]) := range_map_snoc _ k
      have HS : Hid (decSt xs m (k + 1) = nxt (decSt xs m k) (decBit xs m k (decSt xs m k))) := rfl
      have HB : Hid (decBit xs m k q = if stepW xs k q 0 + (vit xs m (m - (k + 1)) n0).1 = (vit xs m (m - k) q).1 then 0 else 1) := by unfold Hid decBit; rw [hn0]
      have HO : Hid (¬ stepW xs k q 0 + (vit xs m (m - (k + 1)) n0).1 = (vit xs m (m - k) q).1 → stepW xs k q 1 + (vit xs m (m - (k + 1)) n1).1 = (vit xs m (m - k) q).1) := by
        intro h; have := dec_one xs m k q hkm (by rw [hn0]; exact h); rw [hn1] at this; exact this
      have s0 := stepW_bd xs k q 0
      have s1 := stepW_bd xs k q 1
      have b0 : 0 ≤ (vit xs m (m - k) q).1 ∧ (vit xs m (m - k) q).1 ≤ 1208 := by omega
      have b1 : 0 ≤ (vit xs m (m - (k + 1)) n0).1 ∧ (vit xs m (m - (k + 1)) n0).1 ≤ 1208 := by omega
      have b2 : 0 ≤ (vit xs m (m - (k + 1)) n1).1 ∧ (vit xs m (m - (k + 1)) n1).1 ≤ 1208 := by omega
      unfold vitT at ct c0 c1
      clear e0 e1 e2
      rw [hq] at HD HS ⊢
      generalize (vit xs m (m - k) q).1 = T at *
      generalize (vit xs m (m - (k + 1)) n0).1 = E0 at *
      generalize (vit xs m (m - (k + 1)) n1).1 = E1 at *
      generalize dec xs m k = L at *
      clear hsb hq
      go_wp2_with fail
      refine wp_loop_rounds 3 ?_
      rw [rounds_succ]
      have hG : w.heap.size < wr.heap.size := by have := HT.out.lt; omega
      have q1 : 0 ≤ (k : Int) + 1 := by omega
      have q2 : (k : Int) + 1 < (m : Int) + 1 := by omega
      have q3 : (k : Int) < (m : Int) + 1 := by omega
      have q4 : (q : Int) < 4 := by omega
      have q5 : (n0 : Int) < 4 := by omega
      have q6 : (n1 : Int) < 4 := by omega
      have HR := Lib.hid hrr
      by_cases hz : stepW xs k q 0 + E0 = T
      · have hz' : (stepW xs k q 0 + E0 == T) = true := by rw [hz]; simp
        have HX : Hid (decBit xs m k q = 0) := by unfold Hid; rw [HB.out, if_pos hz]
        clear hz
        go_wp2_with (go_at_call 142; refine (branch_any A (2 * m) c xs k q 0 _ (by omega) hc hrr (by omega) (by omega) (by omega) (by omega) (by omega)).mono ?_; rintro e w' ⟨rfl, rfl⟩; rw [hn0])
        have m1 : IntKind.i64.wrap ((k : Int) + 1) = (k : Int) + 1 := IntWalk.i64_in _ (by omega)
        have m2 : ((k : Int) + 1).toNat = k + 1 := by omega
        have m3 : IntKind.i64.wrap (stepW xs k q 0 + E0) = stepW xs k q 0 + E0 := IntWalk.i64_in _ (by omega)
        go_quiet (fail)
        clear m1 m2 m3
        have hown1 := own_drewN (m := nq) (hown.alloc (.cells #[.int .i64 (outA q 0), .int .i64 (outB q 0)] 2))
        have hsz1 : w1.heap.size ≤ ((wr.alloc (.cells #[.int .i64 (outA q 0), .int .i64 (outB q 0)] 2)).drewN nq).heap.size := by simp; omega
        go_wp2_with (at_builtin; refine wpList_append_int1g (wr.heap.size + 1) (by simp) rfl _ _ rfl w1.heap.size _ k L rfl rfl hown1 (by omega) hsz1 ?_; intro v' w' hown' hbel' _ _)
        go_roundw
        case rel => exact ⟨k + 1, by omega, by go_num, by rw [HS.out, HX.out, hn0], by rw [HD.out, HX.out]; exact hown', (Below.drewN (hbel.alloc hsz _) _).trans hbel'⟩
        case measure => simp [intOf]; omega
      · have hz' : (stepW xs k q 0 + E0 == T) = false := by simpa using hz
        have HX : Hid (decBit xs m k q = 1) := by unfold Hid; rw [HB.out, if_neg hz]
        have ho := HO.out hz
        have ho' : (stepW xs k q 1 + E1 == T) = true := by rw [ho]; simp
        clear hz ho
        go_wp2_with (go_at_call 142; refine (branch_any A (2 * m) c xs k q 0 _ (by omega) hc hrr (by omega) (by omega) (by omega) (by omega) (by omega)).mono ?_; rintro e w' ⟨rfl, rfl⟩; rw [hn0])
        have m1 : IntKind.i64.wrap ((k : Int) + 1) = (k : Int) + 1 := IntWalk.i64_in _ (by omega)
        have m2 : ((k : Int) + 1).toNat = k + 1 := by omega
        have m3 : IntKind.i64.wrap (stepW xs k q 0 + E0) = stepW xs k q 0 + E0 := IntWalk.i64_in _ (by omega)
        go_quiet (fail)
        clear m1 m2 m3
        go_wp2
        rw [rounds_succ]
        have hrr2 := hrr.below (below_drewN2 wr (.cells #[.int .i64 (outA q 0), .int .i64 (outB q 0)] 2) nq)
        go_wp2_with (go_at_call 142; refine (branch_any A (2 * m) c xs k q 1 _ (by omega) hc hrr2 (by omega) (by omega) (by omega) (by omega) (by omega)).mono ?_; rintro e w' ⟨rfl, rfl⟩; rw [hn1])
        have m1 : IntKind.i64.wrap ((k : Int) + 1) = (k : Int) + 1 := IntWalk.i64_in _ (by omega)
        have m2 : ((k : Int) + 1).toNat = k + 1 := by omega
        have m3 : IntKind.i64.wrap (stepW xs k q 1 + E1) = stepW xs k q 1 + E1 := IntWalk.i64_in _ (by omega)
        go_quiet (fail)
        clear m1 m2 m3
        go_wp2_with (at_builtin; refine wpList_append_int1g (wr.heap.size + 1 + 1) (by simp) rfl _ _ rfl w1.heap.size _ k L rfl rfl (own_drewN ((hown.alloc _).alloc _)) (by omega) (by simp; omega) ?_; intro v' w' hown' hbel' _ _)
        go_roundw
        case rel => exact ⟨k + 1, by omega, by go_num, by rw [HS.out, HX.out, hn1], by rw [HD.out, HX.out]; exact hown', (Below.drewN (Below.alloc (Below.drewN (hbel.alloc hsz _) _) (by simp; omega) _) _).trans hbel'⟩
        case measure => simp [intOf]; omega
    · obtain rfl : k = M := by omega
      obtain ⟨B, d, rfl, hrd, hwr, hBd, _⟩ := own_rd hown
      have ct := (HT.out.below hbel).err (t' := 0) (s := 0) (by omega) (by omega)
      simp only [Nat.zero_mul, Nat.zero_add, Nat.add_zero] at ct
      unfold vitT at ct
      go_wp2
      go_quiet (fail)
      go_wp2
      go_ret2
      exact ⟨B, k, d, rfl, by have := HM.out; rw [show m - 2 = k from by omega]; exact hrd, hwr.mono hb1.size, hBd, by omega, bnext hb1 (Below.drewN hbel _)⟩
end Go.Proofs.Ytlgmdekhlcbhoaa
