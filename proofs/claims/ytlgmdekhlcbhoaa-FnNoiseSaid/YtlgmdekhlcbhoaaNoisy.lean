/- Bits behind noise: spec.NoisyBits and impl.NoisyBits compute the same list. Condition: a list of at most 1048576 numbers. -/
import Derived.Test.YtlgmdekhlcbhoaaKern
namespace Go.Proofs.Ytlgmdekhlcbhoaa
open Go.RowKit

def nseed (s : Int) : Nat → Int
  | 0 => s
  | k + 1 => 48271 * nseed s k % 2147483647
theorem nseed_bd (s : Int) (h1 : 0 ≤ s) (h2 : s ≤ 2147483646) : ∀ k, 0 ≤ nseed s k ∧ nseed s k ≤ 2147483646
  | 0 => ⟨h1, h2⟩
  | k + 1 => by unfold nseed; omega
def noisyAt (xs : List Int) (seed rate : Int) (i : Nat) : Int := if nseed seed (i + 1) % 100 < rate then 1 - xs.getD i 0 else xs.getD i 0
def noisy (xs : List Int) (seed rate : Int) : List Int := (List.range xs.length).map (noisyAt xs seed rate)
theorem noisy_length (xs : List Int) (seed rate : Int) : (noisy xs seed rate).length = xs.length := by unfold noisy; simp
def noisyOk (_ : List Int) (seed rate : Int) : Bool := inR seed 1 2147483646 && inR rate 0 100
def noisyR (xs : List Int) (seed rate : Int) : List Int := if okList xs 1200 0 1 = true ∧ noisyOk xs seed rate = true then noisy xs seed rate else []
def noisyC (xs : List Int) (seed rate : Int) : Int := if okList xs 1200 0 1 = true then (if noisyOk xs seed rate = true then 0 else 2) else 1

set_option maxHeartbeats 1000000 in
theorem specNoisyBits_any (A : Option Addr) (n c : Nat) (xs : List Int) (seed rate : Int) (w : World) (hn : n ≤ 1048576) (hr : Rd w A n (ints xs)) :
    Calls Try.prog 48 #[.slice A n c, .int .i64 seed, .int .i64 rate] w (RetIC (noisyR xs seed rate) (noisyC xs seed rate) w) := by
  have HL := Lib.hid hr.len
  rcases Bool.eq_false_or_eq_true (okList xs 1200 0 1) with h1 | h1
  · rcases Bool.eq_false_or_eq_true (inR seed 1 2147483646) with h2 | h2
    · rcases Bool.eq_false_or_eq_true (inR rate 0 100) with h3 | h3
      · have e1 : Hid (noisyR xs seed rate = noisy xs seed rate ∧ noisyC xs seed rate = 0) := by unfold Hid noisyR noisyC noisyOk; simp [h1, h2, h3]
        have hb := inR_true h2
        have hbits := (okList_true h1).2
        have hlen := (okList_true h1).1
        go_enter Try.func48, Try.ntmps48
        go_wp2_with (first | (go_at_call 92; refine (l25Bits_any _ _ _ xs _ (by omega) hr).mono ?_; rintro e w' ⟨rfl, rfl⟩) | (go_at_call 96; refine (l01In_any _ _ _ _).mono ?_; rintro e w' ⟨rfl, rfl⟩))
        have HB := Lib.hid hbits
        clear h1 h2 h3 hbits hlen
        go_loopw [1, 8, 9] (fun s o i wr => ∃ k : Nat, k ≤ n ∧ i = .int .i64 k ∧ s = .int .i64 (nseed seed k) ∧ wr.ownsRow w.heap.size 2 1 o k (ints ((List.range k).map (noisyAt xs seed rate))) ∧ Below w.heap.size w wr)
          (fun _ _ i _ => n - (intOf i).toNat)
        case atStart => exact ⟨0, Nat.zero_le _, rfl, rfl, own_empty w _, (Below.refl _ _).alloc (Nat.le_refl _) _⟩
        case round =>
          obtain ⟨k, hk, rfl, rfl, hown, hbel⟩ := hrel
          by_cases hlt : k < n
          · obtain ⟨ad, rfl, hx⟩ := (hr.below hbel).int hlt
            have hbd := allIn_getD HB.out (show k < xs.length by rw [HL.out]; exact hlt)
            have hs := nseed_bd seed (by omega) (by omega) k
            have HN : Hid (nseed seed (k + 1) = 48271 * nseed seed k % 2147483647) := rfl
            have HM : Hid ((List.range (k + 1)).map (noisyAt xs seed rate) = (List.range k).map (noisyAt xs seed rate) ++ [noisyAt xs seed rate k]) := range_map_snoc _ k
            have HV : Hid (noisyAt xs seed rate k = if nseed seed (k + 1) % 100 < rate then 1 - xs.getD k 0 else xs.getD k 0) := rfl
            have hsz := hbel.size
            generalize xs.getD k 0 = x at *
            generalize nseed seed k = s at *
            generalize noisyAt xs seed rate k = y at *
            generalize (List.range k).map (noisyAt xs seed rate) = L at *
            by_cases ht : s * 48271 % 2147483647 % 100 < rate
            · have HY : Hid (y = 1 - x) := by unfold Hid; rw [HV.out, HN.out, Int.mul_comm, if_pos ht]
              go_wp2_with (at_builtin; refine wpList_append_int1 rfl _ _ rfl w.heap.size _ k L rfl rfl hown (by omega) hsz ?_; intro v' w' hown' hbel' _ _)
              go_roundw
              case rel => exact ⟨k + 1, by omega, by go_num, by rw [HN.out, Int.mul_comm], by rw [HM.out, HY.out]; exact hown', hbel.trans hbel'⟩
              case measure => simp [intOf]; omega
            · have HY : Hid (y = x) := by unfold Hid; rw [HV.out, HN.out, Int.mul_comm, if_neg ht]
              go_wp2_with (at_builtin; refine wpList_append_int1 rfl _ _ rfl w.heap.size _ k L rfl rfl hown (by omega) hsz ?_; intro v' w' hown' hbel' _ _)
              go_roundw
              case rel => exact ⟨k + 1, by omega, by go_num, by rw [HN.out, Int.mul_comm], by rw [HM.out, HY.out]; exact hown', hbel.trans hbel'⟩
              case measure => simp [intOf]; omega
          · obtain rfl : k = n := by omega
            obtain ⟨B, d, rfl, hrd, hwr, _, _⟩ := own_rd hown
            go_wp2
            go_ret2
            exact ⟨B, k, d, by rw [e1.out.2]; rfl, by rw [e1.out.1]; unfold noisy; rw [HL.out]; exact hrd, hwr, hn, hbel⟩
      · have e1 : Hid (noisyR xs seed rate = [] ∧ noisyC xs seed rate = 2) := by unfold Hid noisyR noisyC noisyOk; simp [h1, h2, h3]
        go_enter Try.func48, Try.ntmps48
        go_wp2_with (first | (go_at_call 92; refine (l25Bits_any _ _ _ xs _ (by omega) hr).mono ?_; rintro e w' ⟨rfl, rfl⟩) | (go_at_call 96; refine (l01In_any _ _ _ _).mono ?_; rintro e w' ⟨rfl, rfl⟩))
        go_ret2
        rw [e1.out.1, e1.out.2]; exact retIC_nil (Below.refl _ _)
    · have e1 : Hid (noisyR xs seed rate = [] ∧ noisyC xs seed rate = 2) := by unfold Hid noisyR noisyC noisyOk; simp [h1, h2]
      go_enter Try.func48, Try.ntmps48
      go_wp2_with (first | (go_at_call 92; refine (l25Bits_any _ _ _ xs _ (by omega) hr).mono ?_; rintro e w' ⟨rfl, rfl⟩) | (go_at_call 96; refine (l01In_any _ _ _ _).mono ?_; rintro e w' ⟨rfl, rfl⟩))
      go_ret2
      rw [e1.out.1, e1.out.2]; exact retIC_nil (Below.refl _ _)
  · have e1 : Hid (noisyR xs seed rate = [] ∧ noisyC xs seed rate = 1) := by unfold Hid noisyR noisyC; simp [h1]
    go_enter Try.func48, Try.ntmps48
    go_wp2_with (first | (go_at_call 92; refine (l25Bits_any _ _ _ xs _ (by omega) hr).mono ?_; rintro e w' ⟨rfl, rfl⟩))
    go_ret2
    rw [e1.out.1, e1.out.2]; exact retIC_nil (Below.refl _ _)

set_option maxHeartbeats 1000000 in
theorem implNoisyBits_any (A : Option Addr) (n c : Nat) (xs : List Int) (seed rate : Int) (w : World) (hn : n ≤ 1048576) (hr : Rd w A n (ints xs)) :
    Calls Try.prog 47 #[.slice A n c, .int .i64 seed, .int .i64 rate] w (RetIC (noisyR xs seed rate) (noisyC xs seed rate) w) := by
  have HL := Lib.hid hr.len
  rcases Bool.eq_false_or_eq_true (okList xs 1200 0 1) with h1 | h1
  · rcases Bool.eq_false_or_eq_true (inR seed 1 2147483646) with h2 | h2
    · rcases Bool.eq_false_or_eq_true (inR rate 0 100) with h3 | h3
      · have e1 : Hid (noisyR xs seed rate = noisy xs seed rate ∧ noisyC xs seed rate = 0) := by unfold Hid noisyR noisyC noisyOk; simp [h1, h2, h3]
        have hb := inR_true h2
        have hbits := (okList_true h1).2
        have hlen := (okList_true h1).1
        go_enter Try.func47, Try.ntmps47
        go_wp2_with (first | (go_at_call 94; refine (isBits_any _ _ _ xs _ _ (by omega) hr).mono ?_; rintro e w' ⟨rfl, rfl⟩) | (go_at_call 99; refine (within_any _ _ _ _).mono ?_; rintro e w' ⟨rfl, rfl⟩) | (go_at_call 120; refine (clone_any _ _ _ xs _ (by omega) hr).mono ?_; rintro e w1 ⟨v, rfl, hown, hb1⟩; obtain ⟨B, d, rfl, hrd, hwr, _, _⟩ := own_rd hown))
        have HB := Lib.hid hbits
        clear h1 h2 h3 hbits hlen
        go_loopw [1, 9, 27] (fun s _ i wr => ∃ k : Nat, k ≤ n ∧ i = .int .i64 k ∧ s = .int .i64 (nseed seed k) ∧ Rd wr B n (ints (mix (noisy xs seed rate) xs k)) ∧ Wr wr w.heap.size B n ∧ Below w.heap.size w wr)
          (fun _ _ i _ => n - (intOf i).toNat)
        case atStart => exact ⟨0, Nat.zero_le _, rfl, rfl, by rw [mix_zero]; exact hrd, hwr, hb1⟩
        case round =>
          clear hown hrd hwr hb1
          obtain ⟨k, hk, rfl, rfl, hrd, hwr, hbel⟩ := hrel
          by_cases hlt : k < n
          · have hkl : k < xs.length := by rw [HL.out]; exact hlt
            obtain ⟨ad, rfl, hx⟩ := hrd.int hlt
            rw [mix_getD _ _ (noisy_length _ _ _) hkl] at hx
            have hbd := allIn_getD HB.out hkl
            obtain ⟨_, ⟨⟩, hbase, hfr⟩ := hwr (by omega)
            have hf := hfr k hlt
            have hs := nseed_bd seed (by omega) (by omega) k
            have HN : Hid (nseed seed (k + 1) = 48271 * nseed seed k % 2147483647) := rfl
            have HM : Hid ((mix (noisy xs seed rate) xs k).set k (noisyAt xs seed rate k) = mix (noisy xs seed rate) xs (k + 1)) := by
              have := mix_set (noisy xs seed rate) xs (noisy_length _ _ _) hkl
              unfold noisy at this ⊢
              rw [range_map_getD _ hkl] at this
              exact this
            have HS : Hid ((mix (noisy xs seed rate) xs k).set k (xs.getD k 0) = mix (noisy xs seed rate) xs k) := by
              unfold Hid
              have hl : k < (mix (noisy xs seed rate) xs k).length := by have := hrd.len; omega
              rw [← mix_getD _ _ (noisy_length xs seed rate) hkl, getD_at hl, List.set_getElem_self]
            have HV : Hid (noisyAt xs seed rate k = if nseed seed (k + 1) % 100 < rate then 1 - xs.getD k 0 else xs.getD k 0) := rfl
            have HF := Lib.hid hfr
            clear hfr
            generalize xs.getD k 0 = x at *
            generalize nseed seed k = s at *
            generalize noisyAt xs seed rate k = y at *
            generalize mix (noisy xs seed rate) xs k = L at *
            by_cases ht : 48271 * s % 2147483647 % 100 < rate
            · have HY : Hid (y = 1 - x) := by unfold Hid; rw [HV.out, HN.out, if_pos ht]
              go_wp2
              go_roundw
              case rel => exact ⟨k + 1, by omega, by go_num, by rw [HN.out], by rw [← HM.out, HY.out]; exact hrd.seti hlt rfl, hwr.set_ _, hbel.setCell (by rw [block_of_add]; exact hbase) _⟩
              case measure => simp [intOf]; omega
            · have HY : Hid (y = x) := by unfold Hid; rw [HV.out, HN.out, if_neg ht]
              go_wp2
              go_roundw
              case rel => exact ⟨k + 1, by omega, by go_num, by rw [HN.out], by rw [← HM.out, HY.out, HS.out]; exact hrd, hwr, hbel⟩
              case measure => simp [intOf]; omega
          · obtain rfl : k = n := by omega
            go_wp2
            go_ret2
            exact ⟨B, k, d, by rw [e1.out.2]; rfl, by rw [e1.out.1]; have := HL.out; subst this; rw [mix_end _ _ (noisy_length _ _ _)] at hrd; exact hrd, hwr, hn, hbel⟩
      · have e1 : Hid (noisyR xs seed rate = [] ∧ noisyC xs seed rate = 2) := by unfold Hid noisyR noisyC noisyOk; simp [h1, h2, h3]
        go_enter Try.func47, Try.ntmps47
        go_wp2_with (first | (go_at_call 94; refine (isBits_any _ _ _ xs _ _ (by omega) hr).mono ?_; rintro e w' ⟨rfl, rfl⟩) | (go_at_call 99; refine (within_any _ _ _ _).mono ?_; rintro e w' ⟨rfl, rfl⟩))
        go_ret2
        rw [e1.out.1, e1.out.2]; exact retIC_nil (Below.refl _ _)
    · have e1 : Hid (noisyR xs seed rate = [] ∧ noisyC xs seed rate = 2) := by unfold Hid noisyR noisyC noisyOk; simp [h1, h2]
      go_enter Try.func47, Try.ntmps47
      go_wp2_with (first | (go_at_call 94; refine (isBits_any _ _ _ xs _ _ (by omega) hr).mono ?_; rintro e w' ⟨rfl, rfl⟩) | (go_at_call 99; refine (within_any _ _ _ _).mono ?_; rintro e w' ⟨rfl, rfl⟩))
      go_ret2
      rw [e1.out.1, e1.out.2]; exact retIC_nil (Below.refl _ _)
  · have e1 : Hid (noisyR xs seed rate = [] ∧ noisyC xs seed rate = 1) := by unfold Hid noisyR noisyC; simp [h1]
    go_enter Try.func47, Try.ntmps47
    go_wp2_with (first | (go_at_call 94; refine (isBits_any _ _ _ xs _ _ (by omega) hr).mono ?_; rintro e w' ⟨rfl, rfl⟩))
    go_ret2
    rw [e1.out.1, e1.out.2]; exact retIC_nil (Below.refl _ _)
end Go.Proofs.Ytlgmdekhlcbhoaa
