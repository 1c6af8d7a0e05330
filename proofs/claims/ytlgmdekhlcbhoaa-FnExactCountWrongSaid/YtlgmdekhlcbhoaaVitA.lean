/- One step of the encoder and its errors: take, l27Next, l28Wrong, l28Step, differences, branch. Condition: a state of 0 to 3, a bit of 0 or 1, a step within the list. -/
import Derived.Test.YtlgmdekhlcbhoaaVitP
import Derived.Test.YtlgmdekhlcbhoaaRes
import Derived.IntWalk
namespace Go.Proofs.Ytlgmdekhlcbhoaa
open Go.RowKit

set_option maxHeartbeats 400000 in
theorem l27Next_any (s b : Int) (w : World) (h1 : 0 ≤ s) (h2 : s ≤ 3) (h3 : 0 ≤ b) (h4 : b ≤ 1) :
    Calls Try.prog 145 #[.int .i64 s, .int .i64 b] w fun e w' => e = .returned (.tuple #[.int .i64 (nxt s b), .int .i64 (outA s b), .int .i64 (outB s b)]) ∧ w = w' := by
  go_enter Try.func145, Try.ntmps145
  go_wp2
  go_ret3
  exact ⟨rfl, rfl⟩
set_option maxHeartbeats 400000 in
theorem take_any (s b : Int) (w : World) (h1 : 0 ≤ s) (h2 : s ≤ 3) (h3 : 0 ≤ b) (h4 : b ≤ 1) :
    Calls Try.prog 144 #[.int .i64 s, .int .i64 b] w fun e w' => e = .returned (.tuple #[.int .i64 (outA s b), .int .i64 (outB s b), .int .i64 (nxt s b)]) ∧ w = w' := by
  go_enter Try.func144, Try.ntmps144
  go_wp2
  go_ret3
  exact ⟨rfl, rfl⟩
set_option maxHeartbeats 400000 in
theorem l28Wrong_any (b r : Int) (w : World) :
    Calls Try.prog 166 #[.int .i64 b, .int .i64 r] w fun e w' => e = .returned (.int .i64 (wrongB b r)) ∧ w' = w := by
  rcases Bool.eq_false_or_eq_true (r == 2) with h1 | h1
  · have HE : Hid (wrongB b r = 0) := by unfold Hid wrongB; simp at h1; simp [h1]
    go_enter Try.func166, Try.ntmps166
    go_wp2
    go_ret
    exact ⟨ret_int HE.out.symm, rfl⟩
  · rcases Bool.eq_false_or_eq_true (b == r) with h2 | h2
    · have HE : Hid (wrongB b r = 0) := by unfold Hid wrongB; simp at h2; simp [h2]
      go_enter Try.func166, Try.ntmps166
      go_wp2
      go_ret
      exact ⟨ret_int HE.out.symm, rfl⟩
    · have HE : Hid (wrongB b r = 1) := by unfold Hid wrongB; simp at h1 h2; simp [h1, h2]
      go_enter Try.func166, Try.ntmps166
      go_wp2
      go_ret
      exact ⟨ret_int HE.out.symm, rfl⟩

set_option maxHeartbeats 1000000 in
theorem l28Step_any (A : Option Addr) (n c : Nat) (xs : List Int) (t : Nat) (s b : Int) (w : World) (hn : n ≤ 9223372036854775807) (hr : Rd w A n (ints xs)) (ht : 2 * t + 1 < n) (h1 : 0 ≤ s) (h2 : s ≤ 3) (h3 : 0 ≤ b) (h4 : b ≤ 1) :
    Calls Try.prog 143 #[.slice A n c, .int .i64 t, .int .i64 s, .int .i64 b] w fun e w' => e = .returned (.tuple #[.int .i64 (nxt s b), .int .i64 (stepW xs t s b)]) ∧ ∃ m, w' = w.drewN m := by
  obtain ⟨ad, rfl, hx⟩ := hr.int (show 2 * t < n by omega)
  obtain ⟨_, ⟨⟩, hy⟩ := hr.int ht
  have hv1 := wrongB_bd (outA s b) (xs.getD (2 * t) 0)
  have hv2 := wrongB_bd (outB s b) (xs.getD (2 * t + 1) 0)
  have HS : Hid (stepW xs t s b = wrongB (outA s b) (xs.getD (2 * t) 0) + wrongB (outB s b) (xs.getD (2 * t + 1) 0)) := rfl
  generalize xs.getD (2 * t) 0 = x at *
  generalize xs.getD (2 * t + 1) 0 = y at *
  rw [Addr.add_succ'] at hy
  have q1 : 0 ≤ 2 * (t : Int) := by omega
  have q2 : 0 ≤ 2 * (t : Int) + 1 := by omega
  go_enter Try.func143, Try.ntmps143
  go_wp2_with (go_at_call 145; refine (l27Next_any _ _ _ h1 h2 h3 h4).mono ?_; rintro e w' ⟨rfl, rfl⟩)
  have m1 : IntKind.i64.wrap (2 * (t : Int)) = 2 * (t : Int) := IntWalk.i64_in _ (by omega)
  have m2 : IntKind.i64.wrap (2 * (t : Int) + 1) = 2 * (t : Int) + 1 := IntWalk.i64_in _ (by omega)
  have m3 : (2 * (t : Int)).toNat = 2 * t := by omega
  have m4 : (2 * (t : Int) + 1).toNat = 2 * t + 1 := by omega
  have q3 : 2 * (t : Int) < (n : Int) := by omega
  have q4 : 2 * (t : Int) + 1 < (n : Int) := by omega
  have HV := Lib.hid (show 0 ≤ wrongB (outA s b) x + wrongB (outB s b) y ∧ wrongB (outA s b) x + wrongB (outB s b) y ≤ 2 by omega)
  have m5 : IntKind.i64.wrap (wrongB (outA s b) x + wrongB (outB s b) y) = wrongB (outA s b) x + wrongB (outB s b) y := IntWalk.i64_in _ (by omega)
  go_quiet ((go_at_call 166; exact Calls.quiet_of_same (l28Wrong_any _ _ _)))
  clear m1 m2 m3 m4 m5
  go_wp2
  go_ret2
  exact ⟨by rw [HS.out]; rfl, _, rfl⟩

/-- At how many places a list differs from a code, 2 not counted. -/
def diffs (xs ys : List Int) (k : Nat) : Int := ((List.range k).map fun i => wrongB (ys.getD i 0) (xs.getD i 0)).sum
theorem diffs_succ (xs ys : List Int) (k : Nat) : diffs xs ys (k + 1) = diffs xs ys k + wrongB (ys.getD k 0) (xs.getD k 0) := by
  unfold diffs; rw [range_map_snoc, List.sum_append]; simp
theorem diffs_bd (xs ys : List Int) : ∀ k, 0 ≤ diffs xs ys k ∧ diffs xs ys k ≤ k
  | 0 => by simp [diffs]
  | k + 1 => by have := diffs_bd xs ys k; have := wrongB_bd (ys.getD k 0) (xs.getD k 0); rw [diffs_succ]; omega

set_option maxHeartbeats 1000000 in
theorem differences_any (A B : Option Addr) (n c m d : Nat) (xs ys : List Int) (w : World) (hn : n ≤ 9223372036854775807) (ha : Rd w A n (ints xs)) (hb : Rd w B m (ints ys)) (hm : m ≤ n) :
    Calls Try.prog 95 #[.slice A n c, .slice B m d] w fun e w' => e = .returned (.int .i64 (diffs xs ys m)) ∧ w = w' := by
  go_enter Try.func95, Try.ntmps95
  go_wp2
  go_loop [5, 10] (fun o i => ∃ k : Nat, k ≤ m ∧ i = .int .i64 k ∧ o = .int .i64 (diffs xs ys k)) (fun _ i => m - (intOf i).toNat)
  case atStart => exact ⟨0, Nat.zero_le _, rfl, rfl⟩
  case round =>
    obtain ⟨k, hk, rfl, rfl⟩ := hrel
    by_cases hlt : k < m
    · obtain ⟨ad, rfl, hx⟩ := ha.int (show k < n by omega)
      obtain ⟨bd, rfl, hy⟩ := hb.int hlt
      have HS := Lib.hid (diffs_succ xs ys k)
      have hd := diffs_bd xs ys k
      generalize xs.getD k 0 = x at *
      generalize ys.getD k 0 = y at *
      generalize diffs xs ys k = q at *
      rcases Bool.eq_false_or_eq_true (x != 2) with e1 | e1
      · rcases Bool.eq_false_or_eq_true (x != y) with e2 | e2
        · have HE : Hid (wrongB y x = 1) := by unfold Hid wrongB; simp at e1 e2; rw [if_neg]; rintro (h | h); exact e1 h; exact e2 h.symm
          go_wp2
          go_round
          case rel => exact ⟨k + 1, by omega, by go_num, by rw [HS.out, HE.out]⟩
          case measure => simp [intOf]; omega
        · have HE : Hid (wrongB y x = 0) := by unfold Hid wrongB; simp at e2; simp [e2]
          go_wp2
          go_round
          case rel => exact ⟨k + 1, by omega, by go_num, by rw [HS.out, HE.out, Int.add_zero]⟩
          case measure => simp [intOf]; omega
      · have HE : Hid (wrongB y x = 0) := by unfold Hid wrongB; simp at e1; simp [e1]
        go_wp2
        go_round
        case rel => exact ⟨k + 1, by omega, by go_num, by rw [HS.out, HE.out, Int.add_zero]⟩
        case measure => simp [intOf]; omega
    · obtain rfl : k = m := by omega
      go_wp2
      go_ret
      exact ⟨rfl, rfl⟩

theorem rd_twog (w : World) (x y : Int) (e : TypeId) (g : Nat) (hg : w.heap.size = g) : Rd (w.alloc (.cells #[.int .i64 x, .int .i64 y] e)) (some ⟨g, 0, none⟩) 2 (ints [x, y]) := by
  subst hg
  exact (Blk.new w e #[.int .i64 x, .int .i64 y]).rd rfl (fun i hi => by
    match i, hi with
    | 0, _ => rfl
    | 1, _ => rfl)
theorem Rd.tail {w : World} {ad : Addr} {n k : Nat} {us : List Value} (h : Rd w (some ad) n us) (hk : k ≤ n) : Rd w (some (ad.add k)) (n - k) (us.drop k) := by
  refine ⟨by rw [List.length_drop, h.1], fun hn => ⟨_, rfl, fun i hi => ?_⟩⟩
  obtain ⟨ad', e, hc⟩ := h.2 (by omega)
  cases e
  rw [add_of_add, hc _ (by omega), List.getElem?_drop]
theorem ints_dropv (xs : List Int) (k : Nat) : (ints xs).drop k = ints (xs.drop k) := by unfold ints; rw [List.map_drop]
theorem stepW_diffs (xs : List Int) (t : Nat) (s b : Int) : diffs (xs.drop (2 * t)) [outA s b, outB s b] 2 = stepW xs t s b := by
  rw [show (2 : Nat) = 0 + 1 + 1 from rfl, diffs_succ, diffs_succ]
  unfold stepW
  simp [diffs]

set_option maxHeartbeats 1000000 in
theorem branch_any (A : Option Addr) (n c : Nat) (xs : List Int) (t : Nat) (s b : Int) (w : World) (hn : n ≤ 9223372036854775807) (hc : n ≤ c) (hr : Rd w A n (ints xs)) (ht : 2 * t + 1 < n) (h1 : 0 ≤ s) (h2 : s ≤ 3) (h3 : 0 ≤ b) (h4 : b ≤ 1) :
    Calls Try.prog 142 #[.slice A n c, .int .i64 t, .int .i64 s, .int .i64 b] w fun e w' => e = .returned (.tuple #[.int .i64 (stepW xs t s b), .int .i64 (nxt s b)]) ∧ w' = w.alloc (.cells #[.int .i64 (outA s b), .int .i64 (outB s b)] 2) := by
  obtain ⟨ad, _, rfl, -, -⟩ := hr.at_ (show 2 * t < n by omega)
  have HS := Lib.hid (stepW_diffs xs t s b)
  go_enter Try.func142, Try.ntmps142
  go_wp2_with (go_at_call 144; refine (take_any _ _ _ h1 h2 h3 h4).mono ?_; rintro e w' ⟨rfl, rfl⟩)
  have hr2 := hr.tail (show 2 * t ≤ n by omega)
  rw [ints_dropv] at hr2
  refine (differences_any _ _ _ _ 2 2 (xs.drop (2 * t)) [outA s b, outB s b] _ (by omega) (hr2.below ((Below.refl _ _).alloc (Nat.le_refl _) _)) (rd_twog _ _ _ _ _ rfl) (by omega)).mono ?_
  rintro e w' ⟨rfl, rfl⟩
  go_wp2
  go_ret2
  exact ⟨by rw [HS.out]; rfl, rfl⟩
end Go.Proofs.Ytlgmdekhlcbhoaa
