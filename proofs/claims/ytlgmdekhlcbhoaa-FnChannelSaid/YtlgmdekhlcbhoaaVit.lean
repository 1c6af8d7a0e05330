/- Merged texts: VitP, VitA, VitB, VitC. What each says stands ahead of it. -/
import Derived.Test.YtlgmdekhlcbhoaaKern
import Derived.IntWalk

/- The best ways through a code, as plain functions on lists: what the program's table and the reference's table hold, and that they agree. No program. -/
namespace Go.Proofs.Ytlgmdekhlcbhoaa

def wrongB (b r : Int) : Int := if r = 2 ∨ b = r then 0 else 1
def nxt (s b : Int) : Int := 2 * b + s / 2
def outA (s b : Int) : Int := (b + s / 2 + s % 2) % 2
def outB (s b : Int) : Int := (b + s % 2) % 2
def stepW (xs : List Int) (t : Nat) (s b : Int) : Int := wrongB (outA s b) (xs.getD (2 * t) 0) + wrongB (outB s b) (xs.getD (2 * t + 1) 0)
theorem wrongB_bd (b r : Int) : 0 ≤ wrongB b r ∧ wrongB b r ≤ 1 := by unfold wrongB; split <;> omega
theorem stepW_bd (xs : List Int) (t : Nat) (s b : Int) : 0 ≤ stepW xs t s b ∧ stepW xs t s b ≤ 2 := by
  have := wrongB_bd (outA s b) (xs.getD (2 * t) 0); have := wrongB_bd (outB s b) (xs.getD (2 * t + 1) 0); unfold stepW; omega
theorem nxt_bd {s b : Int} (h1 : 0 ≤ s) (h2 : s ≤ 3) (h3 : 0 ≤ b) (h4 : b ≤ 1) : 0 ≤ nxt s b ∧ nxt s b ≤ 3 := by unfold nxt; omega

/-- One state of the program's table: z the way with bit 0, o the way with bit 1 (errors, how many). -/
def pick (z o : Int × Int) : Int × Int := if o.1 < z.1 then o else if o.1 = z.1 then (z.1, min (z.2 + o.2) 1000000) else z
/-- The program's table, r steps from the end of n. -/
def vit (xs : List Int) (n : Nat) : Nat → Int → Int × Int
  | 0, _ => (0, 1)
  | r + 1, s =>
    let z := (stepW xs (n - (r + 1)) s 0 + (vit xs n r (nxt s 0)).1, (vit xs n r (nxt s 0)).2)
    if 2 ≤ r then pick z (stepW xs (n - (r + 1)) s 1 + (vit xs n r (nxt s 1)).1, (vit xs n r (nxt s 1)).2) else z
theorem vit_succ (xs : List Int) (n r : Nat) (s : Int) : vit xs n (r + 1) s =
    if 2 ≤ r then pick (stepW xs (n - (r + 1)) s 0 + (vit xs n r (nxt s 0)).1, (vit xs n r (nxt s 0)).2) (stepW xs (n - (r + 1)) s 1 + (vit xs n r (nxt s 1)).1, (vit xs n r (nxt s 1)).2)
    else (stepW xs (n - (r + 1)) s 0 + (vit xs n r (nxt s 0)).1, (vit xs n r (nxt s 0)).2) := rfl
theorem vit_bd (xs : List Int) (n : Nat) : ∀ r s, 0 ≤ (vit xs n r s).1 ∧ (vit xs n r s).1 ≤ 2 * r ∧ 1 ≤ (vit xs n r s).2 ∧ (vit xs n r s).2 ≤ 1000000
  | 0, s => by simp [vit]
  | r + 1, s => by
    have h0 := vit_bd xs n r (nxt s 0)
    have h1 := vit_bd xs n r (nxt s 1)
    have w0 := stepW_bd xs (n - (r + 1)) s 0
    have w1 := stepW_bd xs (n - (r + 1)) s 1
    unfold vit
    simp only
    unfold pick
    split
    · split
      · simp only; omega
      · split <;> simp only <;> omega
    · simp only; omega

/-- One bit more in the reference's table: m errors, c ways. -/
def add1 (a : Int × Int) (m c : Int) : Int × Int :=
  let a' := if m < a.1 then (m, 0) else a
  if m = a'.1 then (a'.1, min 1000000 (a'.2 + c)) else a'
/-- The reference's table. -/
def ref (xs : List Int) (n : Nat) : Nat → Int → Int × Int
  | 0, s => if s = 0 then (0, 1) else (2 * (n : Int) + 1, 0)
  | r + 1, s =>
    let z := add1 (2 * (n : Int) + 1, 0) (stepW xs (n - (r + 1)) s 0 + (ref xs n r (nxt s 0)).1) (ref xs n r (nxt s 0)).2
    if 2 ≤ r then add1 z (stepW xs (n - (r + 1)) s 1 + (ref xs n r (nxt s 1)).1) (ref xs n r (nxt s 1)).2 else z
theorem ref_bd (xs : List Int) (n : Nat) : ∀ r s, 0 ≤ (ref xs n r s).1 ∧ (ref xs n r s).1 ≤ 2 * (n : Int) + 1 ∧ 0 ≤ (ref xs n r s).2 ∧ (ref xs n r s).2 ≤ 1000000
  | 0, s => by unfold ref; split <;> simp <;> omega
  | r + 1, s => by
    have h0 := ref_bd xs n r (nxt s 0)
    have h1 := ref_bd xs n r (nxt s 1)
    have w0 := stepW_bd xs (n - (r + 1)) s 0
    have w1 := stepW_bd xs (n - (r + 1)) s 1
    have key : ∀ (a : Int × Int) (m c : Int), 0 ≤ a.1 → a.1 ≤ 2 * (n : Int) + 1 → 0 ≤ a.2 → a.2 ≤ 1000000 → 0 ≤ m → 0 ≤ c → c ≤ 1000000 →
        0 ≤ (add1 a m c).1 ∧ (add1 a m c).1 ≤ 2 * (n : Int) + 1 ∧ 0 ≤ (add1 a m c).2 ∧ (add1 a m c).2 ≤ 1000000 := by
      intro a m c a1 a2 a3 a4 m1 c1 c2
      unfold add1
      simp only
      split <;> split <;> (try dsimp only at *) <;> omega
    unfold ref
    simp only
    have k0 := key (2 * (n : Int) + 1, 0) (stepW xs (n - (r + 1)) s 0 + (ref xs n r (nxt s 0)).1) (ref xs n r (nxt s 0)).2 (by simp only; omega) (by simp only; omega) (by simp only; omega) (by simp only; omega) (by omega) (by omega) (by omega)
    split
    · exact key _ _ _ k0.1 k0.2.1 k0.2.2.1 k0.2.2.2 (by omega) (by omega) (by omega)
    · exact k0

theorem add1_first {N m c : Int} (h1 : m < N) (h2 : 1 ≤ c) (h3 : c ≤ 1000000) : add1 (N, 0) m c = (m, c) := by
  unfold add1
  simp only [h1, if_true]
  rw [Int.min_eq_right (by omega)]
  simp
theorem add1_pick {z : Int × Int} {m c : Int} (h0 : 1 ≤ c) (h1 : c ≤ 1000000) : add1 z m c = pick z (m, c) := by
  unfold add1 pick
  simp only
  by_cases h : m < z.1
  · simp only [h, if_true]
    rw [Int.min_eq_right (by omega)]
    simp
  · simp only [h, if_false]
    by_cases e : m = z.1
    · simp only [e, if_true]
      rw [Int.min_comm]
    · simp only [e, if_false]

/-- Where the two tables agree: from the second step from the end on at every state. -/
theorem ref_vit (xs : List Int) (n : Nat) : ∀ r, r ≤ n → ∀ s, 0 ≤ s → s ≤ 3 → (2 ≤ r ∨ (r = 1 ∧ s ≤ 1) ∨ (r = 0 ∧ s = 0)) → ref xs n r s = vit xs n r s
  | 0, _, s, _, _, h => by
    have : s = 0 := by omega
    subst this
    simp [ref, vit]
  | r + 1, hr, s, h1, h2, h => by
    have n0 := nxt_bd h1 h2 (b := 0) (by omega) (by omega)
    have n1 := nxt_bd h1 h2 (b := 1) (by omega) (by omega)
    have e0 : ref xs n r (nxt s 0) = vit xs n r (nxt s 0) := ref_vit xs n r (by omega) _ n0.1 n0.2 (by unfold nxt; omega)
    have b0 := vit_bd xs n r (nxt s 0)
    have b1 := vit_bd xs n r (nxt s 1)
    have w0 := stepW_bd xs (n - (r + 1)) s 0
    unfold ref vit
    simp only [e0]
    rw [add1_first (by omega) b0.2.2.1 b0.2.2.2]
    by_cases hr2 : 2 ≤ r
    · simp only [hr2, if_true]
      have e1 : ref xs n r (nxt s 1) = vit xs n r (nxt s 1) := ref_vit xs n r (by omega) _ n1.1 n1.2 (.inl hr2)
      rw [e1]
      exact add1_pick b1.2.2.1 b1.2.2.2
    · simp only [hr2, if_false]

/-- The chosen way: the state behind k steps, and the bit at step k. -/
def decBit (xs : List Int) (n : Nat) (k : Nat) (s : Int) : Int :=
  if stepW xs k s 0 + (vit xs n (n - (k + 1)) (nxt s 0)).1 = (vit xs n (n - k) s).1 then 0 else 1
def decSt (xs : List Int) (n : Nat) : Nat → Int
  | 0 => 0
  | k + 1 => nxt (decSt xs n k) (decBit xs n k (decSt xs n k))
theorem decBit_bd (xs : List Int) (n k : Nat) (s : Int) : decBit xs n k s = 0 ∨ decBit xs n k s = 1 := by unfold decBit; split <;> simp
theorem decSt_bd (xs : List Int) (n : Nat) : ∀ k, 0 ≤ decSt xs n k ∧ decSt xs n k ≤ 3
  | 0 => by simp [decSt]
  | k + 1 => by
    have h := decSt_bd xs n k
    have b := decBit_bd xs n k (decSt xs n k)
    exact nxt_bd h.1 h.2 (by omega) (by omega)
def dec (xs : List Int) (n : Nat) (k : Nat) : List Int := (List.range k).map fun i => decBit xs n i (decSt xs n i)
/-- Where bit 0 does not serve, bit 1 does. -/
theorem dec_one (xs : List Int) (n k : Nat) (s : Int) (hk : k + 2 < n) (h : ¬ stepW xs k s 0 + (vit xs n (n - (k + 1)) (nxt s 0)).1 = (vit xs n (n - k) s).1) :
    stepW xs k s 1 + (vit xs n (n - (k + 1)) (nxt s 1)).1 = (vit xs n (n - k) s).1 := by
  have e : n - k = (n - (k + 1)) + 1 := by omega
  have e2 : n - ((n - (k + 1)) + 1) = k := by omega
  have hv : vit xs n ((n - (k + 1)) + 1) s = pick (stepW xs (n - ((n - (k + 1)) + 1)) s 0 + (vit xs n (n - (k + 1)) (nxt s 0)).1, (vit xs n (n - (k + 1)) (nxt s 0)).2) (stepW xs (n - ((n - (k + 1)) + 1)) s 1 + (vit xs n (n - (k + 1)) (nxt s 1)).1, (vit xs n (n - (k + 1)) (nxt s 1)).2) :=
    if_pos (show 2 ≤ n - (k + 1) by omega)
  rw [e2, ← e] at hv
  rw [hv] at h ⊢
  revert h
  unfold pick
  split
  · intro _; rfl
  · split
    · intro h; exact absurd rfl h
    · intro h; exact absurd rfl h
end Go.Proofs.Ytlgmdekhlcbhoaa

/- One step of the encoder and its errors: take, l27Next, l28Wrong, l28Step, differences, branch. Condition: a state of 0 to 3, a bit of 0 or 1, a step within the list. -/
namespace Go.Proofs.Ytlgmdekhlcbhoaa
open Go.RowKit

set_option maxHeartbeats 400000 in
theorem l27Next_any (s b : Int) (w : World) (h1 : 0 ≤ s) (h2 : s ≤ 3) (h3 : 0 ≤ b) (h4 : b ≤ 1) :
    Calls Try.prog 145 #[.int .i64 s, .int .i64 b] w fun e w' => e = .returned (.tuple #[.int .i64 (nxt s b), .int .i64 (outA s b), .int .i64 (outB s b)]) ∧ w = w' := by
  go_enter Try.func145, Try.ntmps145
  go_wp2
  go_ret3
  exact ⟨rfl, rfl⟩
set_option maxHeartbeats 400000 in
theorem take_any (s b : Int) (w : World) (h1 : 0 ≤ s) (h2 : s ≤ 3) (h3 : 0 ≤ b) (h4 : b ≤ 1) :
    Calls Try.prog 144 #[.int .i64 s, .int .i64 b] w fun e w' => e = .returned (.tuple #[.int .i64 (outA s b), .int .i64 (outB s b), .int .i64 (nxt s b)]) ∧ w = w' := by
  go_enter Try.func144, Try.ntmps144
  go_wp2
  go_ret3
  exact ⟨rfl, rfl⟩
set_option maxHeartbeats 400000 in
theorem l28Wrong_any (b r : Int) (w : World) :
    Calls Try.prog 166 #[.int .i64 b, .int .i64 r] w fun e w' => e = .returned (.int .i64 (wrongB b r)) ∧ w' = w := by
  rcases Bool.eq_false_or_eq_true (r == 2) with h1 | h1
  · have HE : Hid (wrongB b r = 0) := by unfold Hid wrongB; simp at h1; simp [h1]
    go_enter Try.func166, Try.ntmps166
    go_wp2
    go_ret
    exact ⟨ret_int HE.out.symm, rfl⟩
  · rcases Bool.eq_false_or_eq_true (b == r) with h2 | h2
    · have HE : Hid (wrongB b r = 0) := by unfold Hid wrongB; simp at h2; simp [h2]
      go_enter Try.func166, Try.ntmps166
      go_wp2
      go_ret
      exact ⟨ret_int HE.out.symm, rfl⟩
    · have HE : Hid (wrongB b r = 1) := by unfold Hid wrongB; simp at h1 h2; simp [h1, h2]
      go_enter Try.func166, Try.ntmps166
      go_wp2
      go_ret
      exact ⟨ret_int HE.out.symm, rfl⟩

set_option maxHeartbeats 1000000 in
theorem l28Step_any (A : Option Addr) (n c : Nat) (xs : List Int) (t : Nat) (s b : Int) (w : World) (hn : n ≤ 9223372036854775807) (hr : Rd w A n (ints xs)) (ht : 2 * t + 1 < n) (h1 : 0 ≤ s) (h2 : s ≤ 3) (h3 : 0 ≤ b) (h4 : b ≤ 1) :
    Calls Try.prog 143 #[.slice A n c, .int .i64 t, .int .i64 s, .int .i64 b] w fun e w' => e = .returned (.tuple #[.int .i64 (nxt s b), .int .i64 (stepW xs t s b)]) ∧ ∃ m, w' = w.drewN m := by
  obtain ⟨ad, rfl, hx⟩ := hr.int (show 2 * t < n by omega)
  obtain ⟨_, ⟨⟩, hy⟩ := hr.int ht
  have hv1 := wrongB_bd (outA s b) (xs.getD (2 * t) 0)
  have hv2 := wrongB_bd (outB s b) (xs.getD (2 * t + 1) 0)
  have HS : Hid (stepW xs t s b = wrongB (outA s b) (xs.getD (2 * t) 0) + wrongB (outB s b) (xs.getD (2 * t + 1) 0)) := rfl
  generalize xs.getD (2 * t) 0 = x at *
  generalize xs.getD (2 * t + 1) 0 = y at *
  rw [Addr.add_succ'] at hy
  have q1 : 0 ≤ 2 * (t : Int) := by omega
  have q2 : 0 ≤ 2 * (t : Int) + 1 := by omega
  go_enter Try.func143, Try.ntmps143
  go_wp2_with (go_at_call 145; refine (l27Next_any _ _ _ h1 h2 h3 h4).mono ?_; rintro e w' ⟨rfl, rfl⟩)
  have m1 : IntKind.i64.wrap (2 * (t : Int)) = 2 * (t : Int) := IntWalk.i64_in _ (by omega)
  have m2 : IntKind.i64.wrap (2 * (t : Int) + 1) = 2 * (t : Int) + 1 := IntWalk.i64_in _ (by omega)
  have m3 : (2 * (t : Int)).toNat = 2 * t := by omega
  have m4 : (2 * (t : Int) + 1).toNat = 2 * t + 1 := by omega
  have q3 : 2 * (t : Int) < (n : Int) := by omega
  have q4 : 2 * (t : Int) + 1 < (n : Int) := by omega
  have HV := Lib.hid (show 0 ≤ wrongB (outA s b) x + wrongB (outB s b) y ∧ wrongB (outA s b) x + wrongB (outB s b) y ≤ 2 by omega)
  have m5 : IntKind.i64.wrap (wrongB (outA s b) x + wrongB (outB s b) y) = wrongB (outA s b) x + wrongB (outB s b) y := IntWalk.i64_in _ (by omega)
  go_quiet ((go_at_call 166; exact Calls.quiet_of_same (l28Wrong_any _ _ _)))
  clear m1 m2 m3 m4 m5
  go_wp2
  go_ret2
  exact ⟨by rw [HS.out]; rfl, _, rfl⟩

/-- At how many places a list differs from a code, 2 not counted. -/
def diffs (xs ys : List Int) (k : Nat) : Int := ((List.range k).map fun i => wrongB (ys.getD i 0) (xs.getD i 0)).sum
theorem diffs_succ (xs ys : List Int) (k : Nat) : diffs xs ys (k + 1) = diffs xs ys k + wrongB (ys.getD k 0) (xs.getD k 0) := by
  unfold diffs; rw [range_map_snoc, List.sum_append]; simp
theorem diffs_bd (xs ys : List Int) : ∀ k, 0 ≤ diffs xs ys k ∧ diffs xs ys k ≤ k
  | 0 => by simp [diffs]
  | k + 1 => by have := diffs_bd xs ys k; have := wrongB_bd (ys.getD k 0) (xs.getD k 0); rw [diffs_succ]; omega

set_option maxHeartbeats 1000000 in
theorem differences_any (A B : Option Addr) (n c m d : Nat) (xs ys : List Int) (w : World) (hn : n ≤ 9223372036854775807) (ha : Rd w A n (ints xs)) (hb : Rd w B m (ints ys)) (hm : m ≤ n) :
    Calls Try.prog 95 #[.slice A n c, .slice B m d] w fun e w' => e = .returned (.int .i64 (diffs xs ys m)) ∧ w = w' := by
  go_enter Try.func95, Try.ntmps95
  go_wp2
  go_loop [5, 10] (fun o i => ∃ k : Nat, k ≤ m ∧ i = .int .i64 k ∧ o = .int .i64 (diffs xs ys k)) (fun _ i => m - (intOf i).toNat)
  case atStart => exact ⟨0, Nat.zero_le _, rfl, rfl⟩
  case round =>
    obtain ⟨k, hk, rfl, rfl⟩ := hrel
    by_cases hlt : k < m
    · obtain ⟨ad, rfl, hx⟩ := ha.int (show k < n by omega)
      obtain ⟨bd, rfl, hy⟩ := hb.int hlt
      have HS := Lib.hid (diffs_succ xs ys k)
      have hd := diffs_bd xs ys k
      generalize xs.getD k 0 = x at *
      generalize ys.getD k 0 = y at *
      generalize diffs xs ys k = q at *
      rcases Bool.eq_false_or_eq_true (x != 2) with e1 | e1
      · rcases Bool.eq_false_or_eq_true (x != y) with e2 | e2
        · have HE : Hid (wrongB y x = 1) := by unfold Hid wrongB; simp at e1 e2; rw [if_neg]; rintro (h | h); exact e1 h; exact e2 h.symm
          go_wp2
          go_round
          case rel => exact ⟨k + 1, by omega, by go_num, by rw [HS.out, HE.out]⟩
          case measure => simp [intOf]; omega
        · have HE : Hid (wrongB y x = 0) := by unfold Hid wrongB; simp at e2; simp [e2]
          go_wp2
          go_round
          case rel => exact ⟨k + 1, by omega, by go_num, by rw [HS.out, HE.out, Int.add_zero]⟩
          case measure => simp [intOf]; omega
      · have HE : Hid (wrongB y x = 0) := by unfold Hid wrongB; simp at e1; simp [e1]
        go_wp2
        go_round
        case rel => exact ⟨k + 1, by omega, by go_num, by rw [HS.out, HE.out, Int.add_zero]⟩
        case measure => simp [intOf]; omega
    · obtain rfl : k = m := by omega
      go_wp2
      go_ret
      exact ⟨rfl, rfl⟩

theorem rd_twog (w : World) (x y : Int) (e : TypeId) (g : Nat) (hg : w.heap.size = g) : Rd (w.alloc (.cells #[.int .i64 x, .int .i64 y] e)) (some ⟨g, 0, none⟩) 2 (ints [x, y]) := by
  subst hg
  exact (Blk.new w e #[.int .i64 x, .int .i64 y]).rd rfl (fun i hi => by
    match i, hi with
    | 0, _ => rfl
    | 1, _ => rfl)
theorem Rd.tail {w : World} {ad : Addr} {n k : Nat} {us : List Value} (h : Rd w (some ad) n us) (hk : k ≤ n) : Rd w (some (ad.add k)) (n - k) (us.drop k) := by
  refine ⟨by rw [List.length_drop, h.1], fun hn => ⟨_, rfl, fun i hi => ?_⟩⟩
  obtain ⟨ad', e, hc⟩ := h.2 (by omega)
  cases e
  rw [add_of_add, hc _ (by omega), List.getElem?_drop]
theorem ints_dropv (xs : List Int) (k : Nat) : (ints xs).drop k = ints (xs.drop k) := by unfold ints; rw [List.map_drop]
theorem stepW_diffs (xs : List Int) (t : Nat) (s b : Int) : diffs (xs.drop (2 * t)) [outA s b, outB s b] 2 = stepW xs t s b := by
  rw [show (2 : Nat) = 0 + 1 + 1 from rfl, diffs_succ, diffs_succ]
  unfold stepW
  simp [diffs]

set_option maxHeartbeats 1000000 in
theorem branch_any (A : Option Addr) (n c : Nat) (xs : List Int) (t : Nat) (s b : Int) (w : World) (hn : n ≤ 9223372036854775807) (hc : n ≤ c) (hr : Rd w A n (ints xs)) (ht : 2 * t + 1 < n) (h1 : 0 ≤ s) (h2 : s ≤ 3) (h3 : 0 ≤ b) (h4 : b ≤ 1) :
    Calls Try.prog 142 #[.slice A n c, .int .i64 t, .int .i64 s, .int .i64 b] w fun e w' => e = .returned (.tuple #[.int .i64 (stepW xs t s b), .int .i64 (nxt s b)]) ∧ w' = w.alloc (.cells #[.int .i64 (outA s b), .int .i64 (outB s b)] 2) := by
  obtain ⟨ad, _, rfl, -, -⟩ := hr.at_ (show 2 * t < n by omega)
  have HS := Lib.hid (stepW_diffs xs t s b)
  go_enter Try.func142, Try.ntmps142
  go_wp2_with (go_at_call 144; refine (take_any _ _ _ h1 h2 h3 h4).mono ?_; rintro e w' ⟨rfl, rfl⟩)
  have hr2 := hr.tail (show 2 * t ≤ n by omega)
  rw [ints_dropv] at hr2
  refine (differences_any _ _ _ _ 2 2 (xs.drop (2 * t)) [outA s b, outB s b] _ (by omega) (hr2.below ((Below.refl _ _).alloc (Nat.le_refl _) _)) (rd_twog _ _ _ _ _ rfl) (by omega)).mono ?_
  rintro e w' ⟨rfl, rfl⟩
  go_wp2
  go_ret2
  exact ⟨by rw [HS.out]; rfl, rfl⟩
end Go.Proofs.Ytlgmdekhlcbhoaa

/- Whether a list has received bits, and the size of its messages. No condition. -/
namespace Go.Proofs.Ytlgmdekhlcbhoaa
open Go.RowKit

def recvOk (xs : List Int) : Bool := okList xs 604 0 2 && (decide (4 ≤ (xs.length : Int)) && ((xs.length : Int) % 2 == 0))
theorem recvOk_true {xs : List Int} (h : recvOk xs = true) : 4 ≤ xs.length ∧ xs.length ≤ 604 ∧ xs.length % 2 = 0 ∧ allIn xs 0 2 = true := by
  unfold recvOk at h
  rw [Bool.and_eq_true, Bool.and_eq_true] at h
  have := okList_true h.1
  have h3 := h.2.2
  have h4 := h.2.1
  simp at h3 h4
  exact ⟨by omega, by omega, by omega, this.2⟩

set_option maxHeartbeats 400000 in
theorem l28Received_any (A : Option Addr) (n c : Nat) (xs : List Int) (w : World) (hn : n ≤ 9223372036854775807) (hr : Rd w A n (ints xs)) :
    Calls Try.prog 128 #[.slice A n c] w fun e w' => e = .returned (.bool (recvOk xs)) ∧ w = w' := by
  have HL := Lib.hid hr.len
  have HR : Hid (recvOk xs = (okList xs 604 0 2 && (decide (4 ≤ (n : Int)) && ((n : Int) % 2 == 0)))) := by unfold Hid recvOk; rw [HL.out]
  rcases Bool.eq_false_or_eq_true (okList xs 604 0 2) with h1 | h1
  · by_cases h2 : 4 ≤ n
    · rcases Bool.eq_false_or_eq_true ((n : Int) % 2 == 0) with h3 | h3
      all_goals
        have HE := HR.out
        rw [h1, h3, decide_eq_true (show 4 ≤ (n : Int) by omega)] at HE
        replace HE := Lib.hid HE
        go_enter Try.func128, Try.ntmps128
        go_wp2_with (go_at_call 146; refine (l01Within_any _ _ _ xs _ _ _ _ hn hr).mono ?_; rintro e w' ⟨rfl, rfl⟩)
        go_ret
        exact ⟨ret_bool (by first | rfl | (rw [HE.out]; rfl) | rw [HE.out]), rfl⟩
    · have HE := HR.out
      rw [h1, decide_eq_false (show ¬ 4 ≤ (n : Int) by omega)] at HE
      replace HE := Lib.hid HE
      go_enter Try.func128, Try.ntmps128
      go_wp2_with (go_at_call 146; refine (l01Within_any _ _ _ xs _ _ _ _ hn hr).mono ?_; rintro e w' ⟨rfl, rfl⟩)
      go_ret
      exact ⟨ret_bool (by first | rfl | (rw [HE.out]; rfl) | rw [HE.out]), rfl⟩
  · have HE := HR.out
    rw [h1] at HE
    replace HE := Lib.hid HE
    go_enter Try.func128, Try.ntmps128
    go_wp2_with (go_at_call 146; refine (l01Within_any _ _ _ xs _ _ _ _ hn hr).mono ?_; rintro e w' ⟨rfl, rfl⟩)
    go_ret
    exact ⟨ret_bool (by first | rfl | (rw [HE.out]; rfl) | rw [HE.out]), rfl⟩

set_option maxHeartbeats 400000 in
theorem lengthInt_any (A : Option Addr) (n c : Nat) (w : World) (_ : n ≤ 9223372036854775807) :
    Calls Try.prog 100 #[.slice A n c] w fun e w' => e = .returned (.int .i64 (n : Int)) ∧ w = w' := by
  go_enter Try.func100, Try.ntmps100
  go_wp2
  go_ret
  exact ⟨rfl, rfl⟩

set_option maxHeartbeats 400000 in
theorem isReceived_any (A : Option Addr) (n c : Nat) (xs : List Int) (w : World) (hn : n ≤ 9223372036854775807) (hr : Rd w A n (ints xs)) :
    Calls Try.prog 126 #[.slice A n c] w fun e w' => e = .returned (.bool (recvOk xs)) ∧ w = w' := by
  have HL := Lib.hid hr.len
  have HR : Hid (recvOk xs = (((n : Int) % 2 == 0) && (inR n 4 604 && allIn xs 0 2))) := by
    unfold Hid recvOk okList inR; rw [HL.out]
    rcases Bool.eq_false_or_eq_true (allIn xs 0 2) with h | h <;> rw [h] <;> rw [Bool.eq_iff_iff] <;> simp <;> omega
  rcases Bool.eq_false_or_eq_true ((n : Int) % 2 == 0) with h3 | h3
  · rcases Bool.eq_false_or_eq_true (inR n 4 604) with h1 | h1
    · have HE := HR.out
      rw [h1, h3] at HE
      replace HE := Lib.hid HE
      go_enter Try.func126, Try.ntmps126
      go_wp2_with (first | (go_at_call 140; refine (areWithin_any _ _ _ xs _ _ _ hn hr).mono ?_; rintro e w' ⟨rfl, rfl⟩) | (go_at_call 99; refine (within_any _ _ _ _).mono ?_; rintro e w' ⟨rfl, rfl⟩) | (go_at_call 100; refine (lengthInt_any _ _ _ _ hn).mono ?_; rintro e w' ⟨rfl, rfl⟩))
      go_ret
      exact ⟨ret_bool (by first | rfl | (rw [HE.out]; rfl) | rw [HE.out]), rfl⟩
    · have HE := HR.out
      rw [h1, h3] at HE
      replace HE := Lib.hid HE
      go_enter Try.func126, Try.ntmps126
      go_wp2_with (first | (go_at_call 99; refine (within_any _ _ _ _).mono ?_; rintro e w' ⟨rfl, rfl⟩) | (go_at_call 100; refine (lengthInt_any _ _ _ _ hn).mono ?_; rintro e w' ⟨rfl, rfl⟩))
      go_ret
      exact ⟨ret_bool (by first | rfl | (rw [HE.out]; rfl) | rw [HE.out]), rfl⟩
  · have HE := HR.out
    rw [h3] at HE
    replace HE := Lib.hid HE
    go_enter Try.func126, Try.ntmps126
    go_wp2_with fail
    go_ret
    exact ⟨ret_bool (by first | rfl | (rw [HE.out]; rfl) | rw [HE.out]), rfl⟩

set_option maxHeartbeats 400000 in
theorem l28Size_any (A : Option Addr) (n c : Nat) (w : World) (hn : n ≤ 9223372036854775807) :
    Calls Try.prog 138 #[.slice A n c] w fun e w' => e = .returned (.int .i64 ((n : Int) / 2 - 2)) ∧ w = w' := by
  go_enter Try.func138, Try.ntmps138
  go_wp2
  go_ret
  exact ⟨rfl, rfl⟩
set_option maxHeartbeats 400000 in
theorem messageSize_any (A : Option Addr) (n c : Nat) (w : World) (hn : n ≤ 9223372036854775807) :
    Calls Try.prog 139 #[.slice A n c] w fun e w' => e = .returned (.int .i64 ((n : Int) / 2 - 2)) ∧ w = w' := by
  go_enter Try.func139, Try.ntmps139
  go_wp2_with (go_at_call 100; refine (lengthInt_any _ _ _ _ hn).mono ?_; rintro e w' ⟨rfl, rfl⟩)
  go_ret
  exact ⟨rfl, rfl⟩
end Go.Proofs.Ytlgmdekhlcbhoaa

/- The program's table: bitsAt and restAt. Condition: a list of an even number of bits, at most 604. -/
namespace Go.Proofs.Ytlgmdekhlcbhoaa
open Go.RowKit

set_option maxHeartbeats 400000 in
theorem bitsAt_any (A : Option Addr) (n c : Nat) (t : Nat) (w : World) (hn : n ≤ 9223372036854775807) :
    Calls Try.prog 177 #[.slice A n c, .int .i64 t] w fun e w' => e = .returned (.int .i64 (if (t : Int) < (n : Int) / 2 - 2 then 1 else 0)) ∧ w = w' := by
  by_cases h : (t : Int) < (n : Int) / 2 - 2
  · rw [if_pos h]
    go_enter Try.func177, Try.ntmps177
    go_wp2_with (go_at_call 139; refine (messageSize_any _ _ _ _ hn).mono ?_; rintro e w' ⟨rfl, rfl⟩)
    go_ret
    exact ⟨rfl, rfl⟩
  · rw [if_neg h]
    go_enter Try.func177, Try.ntmps177
    go_wp2_with (go_at_call 139; refine (messageSize_any _ _ _ _ hn).mono ?_; rintro e w' ⟨rfl, rfl⟩)
    go_ret
    exact ⟨rfl, rfl⟩

def rowV (f : Int → Int × Int) : Array Value := #[.int .i64 (f 0).1, .int .i64 (f 0).2, .int .i64 (f 1).1, .int .i64 (f 1).2, .int .i64 (f 2).1, .int .i64 (f 2).2, .int .i64 (f 3).1, .int .i64 (f 3).2]
/-- What restAt gives for a step and a state, with what the next step has. -/
def oneRest (f : Int → Int × Int) (xs : List Int) (t : Nat) (s : Int) (two : Bool) : Int × Int :=
  let z := (stepW xs t s 0 + (f (nxt s 0)).1, (f (nxt s 0)).2)
  if two then pick z (stepW xs t s 1 + (f (nxt s 1)).1, (f (nxt s 1)).2) else z


set_option maxHeartbeats 1000000 in
theorem restAt_one0 (A : Option Addr) (n c : Nat) (xs : List Int) (t : Nat) (s : Int) (e0 c0 e1 c1 e2 c2 e3 c3 : Int) (w : World) (hn : n ≤ 604) (hc : n ≤ c) (hr : Rd w A n (ints xs)) (ht : 2 * t + 1 < n) (h1 : 0 ≤ s) (h3 : s ≤ 3)
    (hx0 : nxt s 0 = 0) (hx1 : nxt s 1 = 2) (h2 : ¬ (t : Int) < (n : Int) / 2 - 2) (b0 : 0 ≤ e0) (b1 : e0 ≤ 1208) :
    Calls Try.prog 164 #[.slice A n c, .int .i64 t, .int .i64 s, .agg #[.int .i64 e0, .int .i64 c0, .int .i64 e1, .int .i64 c1, .int .i64 e2, .int .i64 c2, .int .i64 e3, .int .i64 c3]] w fun e w' =>
      e = .returned (.agg #[.int .i64 (stepW xs t s 0 + e0), .int .i64 c0]) ∧ Below w.heap.size w w' := by
  have hs := stepW_bd xs t s 0
  have hif : (if (t : Int) < (n : Int) / 2 - 2 then (1 : Int) else 0) = 0 := if_neg h2
  go_enter Try.func164, Try.ntmps164
  go_wp2_with fail
  refine wp_loop_rounds 2 ?_
  rw [rounds_succ]
  go_wp2_with (first | (go_at_call 177; refine (bitsAt_any _ _ _ _ _ (by omega)).mono ?_; rintro e w' ⟨rfl, rfl⟩) | (go_at_call 142; refine (branch_any _ _ _ xs _ _ _ _ (by omega) hc ?_ ht h1 h3 (by omega) (by omega)).mono ?_; exact hr.below (by (repeat (first | (with_reducible assumption) | (with_reducible exact Below.refl _ _) | (with_reducible refine Below.drew ?_) | (with_reducible refine Below.drewN ?_ _) | (with_reducible refine Below.setCell ?_ ?_ _) | (with_reducible refine Below.alloc ?_ ?_ _) | assumption)); all_goals (first | omega | (simp; done) | (simp; omega))); rintro e w' ⟨rfl, rfl⟩))
  rw [rounds_succ]
  go_wp2_with (first | (go_at_call 177; refine (bitsAt_any _ _ _ _ _ (by omega)).mono ?_; rintro e w' ⟨rfl, rfl⟩) | (go_at_call 142; refine (branch_any _ _ _ xs _ _ _ _ (by omega) hc ?_ ht h1 h3 (by omega) (by omega)).mono ?_; exact hr.below (by (repeat (first | (with_reducible assumption) | (with_reducible exact Below.refl _ _) | (with_reducible refine Below.drew ?_) | (with_reducible refine Below.drewN ?_ _) | (with_reducible refine Below.setCell ?_ ?_ _) | (with_reducible refine Below.alloc ?_ ?_ _) | assumption)); all_goals (first | omega | (simp; done) | (simp; omega))); rintro e w' ⟨rfl, rfl⟩))
  exact bodyPost_ret (v := .agg #[.int .i64 (stepW xs t s 0 + e0), .int .i64 c0]) (by simp [results, Try.results164, go_sem]) rfl ⟨rfl, by (repeat (first | (with_reducible assumption) | (with_reducible exact Below.refl _ _) | (with_reducible refine Below.drew ?_) | (with_reducible refine Below.drewN ?_ _) | (with_reducible refine Below.setCell ?_ ?_ _) | (with_reducible refine Below.alloc ?_ ?_ _) | assumption)); all_goals (first | omega | (simp; done) | (simp; omega))⟩

set_option maxHeartbeats 1000000 in
theorem restAt_two00 (A : Option Addr) (n c : Nat) (xs : List Int) (t : Nat) (s : Int) (e0 c0 e1 c1 e2 c2 e3 c3 : Int) (w : World) (hn : n ≤ 604) (hc : n ≤ c) (hr : Rd w A n (ints xs)) (ht : 2 * t + 1 < n) (h1 : 0 ≤ s) (h3 : s ≤ 3)
    (hx0 : nxt s 0 = 0) (hx1 : nxt s 1 = 2) (h2 : (t : Int) < (n : Int) / 2 - 2) (b0 : 0 ≤ e0) (b1 : e0 ≤ 1208) (b2 : 0 ≤ e2) (b3 : e2 ≤ 1208) (d0 : 0 ≤ c0) (d1 : c0 ≤ 1000000) (d2 : 0 ≤ c2) (d3 : c2 ≤ 1000000)
    (hk : stepW xs t s 1 + e2 < stepW xs t s 0 + e0) :
    Calls Try.prog 164 #[.slice A n c, .int .i64 t, .int .i64 s, .agg #[.int .i64 e0, .int .i64 c0, .int .i64 e1, .int .i64 c1, .int .i64 e2, .int .i64 c2, .int .i64 e3, .int .i64 c3]] w fun e w' =>
      e = .returned (.agg #[.int .i64 (stepW xs t s 1 + e2), .int .i64 (c2)]) ∧ Below w.heap.size w w' := by
  have hs := stepW_bd xs t s 0
  have hs1 := stepW_bd xs t s 1
  have hif : (if (t : Int) < (n : Int) / 2 - 2 then (1 : Int) else 0) = 1 := if_pos h2
  have q1 : stepW xs t s 0 + e0 ≥ 0 := by omega
  go_enter Try.func164, Try.ntmps164
  go_wp2_with fail
  refine wp_loop_rounds 3 ?_
  rw [rounds_succ]
  go_wp2_with (first | (go_at_call 177; refine (bitsAt_any _ _ _ _ _ (by omega)).mono ?_; rintro e w' ⟨rfl, rfl⟩) | (go_at_call 142; refine (branch_any _ _ _ xs _ _ _ _ (by omega) hc ?_ ht h1 h3 (by omega) (by omega)).mono ?_; exact hr.below (by (repeat (first | (with_reducible assumption) | (with_reducible exact Below.refl _ _) | (with_reducible refine Below.drew ?_) | (with_reducible refine Below.drewN ?_ _) | (with_reducible refine Below.setCell ?_ ?_ _) | (with_reducible refine Below.alloc ?_ ?_ _) | assumption)); all_goals (first | omega | (simp; done) | (simp; omega))); rintro e w' ⟨rfl, rfl⟩))
  rw [rounds_succ]
  go_wp2_with (first | (go_at_call 177; refine (bitsAt_any _ _ _ _ _ (by omega)).mono ?_; rintro e w' ⟨rfl, rfl⟩) | (go_at_call 142; refine (branch_any _ _ _ xs _ _ _ _ (by omega) hc ?_ ht h1 h3 (by omega) (by omega)).mono ?_; exact hr.below (by (repeat (first | (with_reducible assumption) | (with_reducible exact Below.refl _ _) | (with_reducible refine Below.drew ?_) | (with_reducible refine Below.drewN ?_ _) | (with_reducible refine Below.setCell ?_ ?_ _) | (with_reducible refine Below.alloc ?_ ?_ _) | assumption)); all_goals (first | omega | (simp; done) | (simp; omega))); rintro e w' ⟨rfl, rfl⟩))
  rw [rounds_succ]
  go_wp2_with (first | (go_at_call 177; refine (bitsAt_any _ _ _ _ _ (by omega)).mono ?_; rintro e w' ⟨rfl, rfl⟩) | (go_at_call 142; refine (branch_any _ _ _ xs _ _ _ _ (by omega) hc ?_ ht h1 h3 (by omega) (by omega)).mono ?_; exact hr.below (by (repeat (first | (with_reducible assumption) | (with_reducible exact Below.refl _ _) | (with_reducible refine Below.drew ?_) | (with_reducible refine Below.drewN ?_ _) | (with_reducible refine Below.setCell ?_ ?_ _) | (with_reducible refine Below.alloc ?_ ?_ _) | assumption)); all_goals (first | omega | (simp; done) | (simp; omega))); rintro e w' ⟨rfl, rfl⟩))
  exact bodyPost_ret (v := .agg #[.int .i64 (stepW xs t s 1 + e2), .int .i64 (c2)]) (by simp [results, Try.results164, go_sem]) rfl ⟨rfl, by (repeat (first | (with_reducible assumption) | (with_reducible exact Below.refl _ _) | (with_reducible refine Below.drew ?_) | (with_reducible refine Below.drewN ?_ _) | (with_reducible refine Below.setCell ?_ ?_ _) | (with_reducible refine Below.alloc ?_ ?_ _) | assumption)); all_goals (first | omega | (simp; done) | (simp; omega))⟩

set_option maxHeartbeats 1000000 in
theorem restAt_two01 (A : Option Addr) (n c : Nat) (xs : List Int) (t : Nat) (s : Int) (e0 c0 e1 c1 e2 c2 e3 c3 : Int) (w : World) (hn : n ≤ 604) (hc : n ≤ c) (hr : Rd w A n (ints xs)) (ht : 2 * t + 1 < n) (h1 : 0 ≤ s) (h3 : s ≤ 3)
    (hx0 : nxt s 0 = 0) (hx1 : nxt s 1 = 2) (h2 : (t : Int) < (n : Int) / 2 - 2) (b0 : 0 ≤ e0) (b1 : e0 ≤ 1208) (b2 : 0 ≤ e2) (b3 : e2 ≤ 1208) (d0 : 0 ≤ c0) (d1 : c0 ≤ 1000000) (d2 : 0 ≤ c2) (d3 : c2 ≤ 1000000)
    (hk : stepW xs t s 1 + e2 = stepW xs t s 0 + e0) :
    Calls Try.prog 164 #[.slice A n c, .int .i64 t, .int .i64 s, .agg #[.int .i64 e0, .int .i64 c0, .int .i64 e1, .int .i64 c1, .int .i64 e2, .int .i64 c2, .int .i64 e3, .int .i64 c3]] w fun e w' =>
      e = .returned (.agg #[.int .i64 (stepW xs t s 0 + e0), .int .i64 (min (c0 + c2) 1000000)]) ∧ Below w.heap.size w w' := by
  by_cases hmn : 1000000 < c0 + c2
  · have hm : min (c0 + c2) 1000000 = 1000000 := by omega
    rw [hm]
    clear hm
    have hs := stepW_bd xs t s 0
    have hs1 := stepW_bd xs t s 1
    have hif : (if (t : Int) < (n : Int) / 2 - 2 then (1 : Int) else 0) = 1 := if_pos h2
    have q1 : ¬ stepW xs t s 1 + e2 < stepW xs t s 0 + e0 := by omega
    have q2 : (stepW xs t s 1 + e2 == stepW xs t s 0 + e0) = true := by rw [hk]; simp
    have HK := Lib.hid hk
    clear hk
    go_enter Try.func164, Try.ntmps164
    go_wp2_with fail
    refine wp_loop_rounds 3 ?_
    rw [rounds_succ]
    go_wp2_with (first | (go_at_call 177; refine (bitsAt_any _ _ _ _ _ (by omega)).mono ?_; rintro e w' ⟨rfl, rfl⟩) | (go_at_call 142; refine (branch_any _ _ _ xs _ _ _ _ (by omega) hc ?_ ht h1 h3 (by omega) (by omega)).mono ?_; exact hr.below (by (repeat (first | (with_reducible assumption) | (with_reducible exact Below.refl _ _) | (with_reducible refine Below.drew ?_) | (with_reducible refine Below.drewN ?_ _) | (with_reducible refine Below.setCell ?_ ?_ _) | (with_reducible refine Below.alloc ?_ ?_ _) | assumption)); all_goals (first | omega | (simp; done) | (simp; omega))); rintro e w' ⟨rfl, rfl⟩))
    rw [rounds_succ]
    go_wp2_with (first | (go_at_call 177; refine (bitsAt_any _ _ _ _ _ (by omega)).mono ?_; rintro e w' ⟨rfl, rfl⟩) | (go_at_call 142; refine (branch_any _ _ _ xs _ _ _ _ (by omega) hc ?_ ht h1 h3 (by omega) (by omega)).mono ?_; exact hr.below (by (repeat (first | (with_reducible assumption) | (with_reducible exact Below.refl _ _) | (with_reducible refine Below.drew ?_) | (with_reducible refine Below.drewN ?_ _) | (with_reducible refine Below.setCell ?_ ?_ _) | (with_reducible refine Below.alloc ?_ ?_ _) | assumption)); all_goals (first | omega | (simp; done) | (simp; omega))); rintro e w' ⟨rfl, rfl⟩))
    go_region
    all_goals
      go_wp2
      rw [rounds_succ]
      go_wp2_with (first | (go_at_call 177; refine (bitsAt_any _ _ _ _ _ (by omega)).mono ?_; rintro e w' ⟨rfl, rfl⟩) | (go_at_call 142; refine (branch_any _ _ _ xs _ _ _ _ (by omega) hc ?_ ht h1 h3 (by omega) (by omega)).mono ?_; exact hr.below (by (repeat (first | (with_reducible assumption) | (with_reducible exact Below.refl _ _) | (with_reducible refine Below.drew ?_) | (with_reducible refine Below.drewN ?_ _) | (with_reducible refine Below.setCell ?_ ?_ _) | (with_reducible refine Below.alloc ?_ ?_ _) | assumption)); all_goals (first | omega | (simp; done) | (simp; omega))); rintro e w' ⟨rfl, rfl⟩))
      exact bodyPost_ret (v := .agg #[.int .i64 (stepW xs t s 0 + e0), .int .i64 (1000000)]) (by simp [results, Try.results164, go_sem]) rfl ⟨rfl, by (repeat (first | (with_reducible assumption) | (with_reducible exact Below.refl _ _) | (with_reducible refine Below.drew ?_) | (with_reducible refine Below.drewN ?_ _) | (with_reducible refine Below.setCell ?_ ?_ _) | (with_reducible refine Below.alloc ?_ ?_ _) | assumption)); all_goals (first | omega | (simp; done) | (simp; omega))⟩
  · have hm : min (c0 + c2) 1000000 = c0 + c2 := by omega
    rw [hm]
    clear hm
    have hs := stepW_bd xs t s 0
    have hs1 := stepW_bd xs t s 1
    have hif : (if (t : Int) < (n : Int) / 2 - 2 then (1 : Int) else 0) = 1 := if_pos h2
    have q1 : ¬ stepW xs t s 1 + e2 < stepW xs t s 0 + e0 := by omega
    have q2 : (stepW xs t s 1 + e2 == stepW xs t s 0 + e0) = true := by rw [hk]; simp
    have HK := Lib.hid hk
    clear hk
    go_enter Try.func164, Try.ntmps164
    go_wp2_with fail
    refine wp_loop_rounds 3 ?_
    rw [rounds_succ]
    go_wp2_with (first | (go_at_call 177; refine (bitsAt_any _ _ _ _ _ (by omega)).mono ?_; rintro e w' ⟨rfl, rfl⟩) | (go_at_call 142; refine (branch_any _ _ _ xs _ _ _ _ (by omega) hc ?_ ht h1 h3 (by omega) (by omega)).mono ?_; exact hr.below (by (repeat (first | (with_reducible assumption) | (with_reducible exact Below.refl _ _) | (with_reducible refine Below.drew ?_) | (with_reducible refine Below.drewN ?_ _) | (with_reducible refine Below.setCell ?_ ?_ _) | (with_reducible refine Below.alloc ?_ ?_ _) | assumption)); all_goals (first | omega | (simp; done) | (simp; omega))); rintro e w' ⟨rfl, rfl⟩))
    rw [rounds_succ]
    go_wp2_with (first | (go_at_call 177; refine (bitsAt_any _ _ _ _ _ (by omega)).mono ?_; rintro e w' ⟨rfl, rfl⟩) | (go_at_call 142; refine (branch_any _ _ _ xs _ _ _ _ (by omega) hc ?_ ht h1 h3 (by omega) (by omega)).mono ?_; exact hr.below (by (repeat (first | (with_reducible assumption) | (with_reducible exact Below.refl _ _) | (with_reducible refine Below.drew ?_) | (with_reducible refine Below.drewN ?_ _) | (with_reducible refine Below.setCell ?_ ?_ _) | (with_reducible refine Below.alloc ?_ ?_ _) | assumption)); all_goals (first | omega | (simp; done) | (simp; omega))); rintro e w' ⟨rfl, rfl⟩))
    go_region
    all_goals
      go_wp2
      rw [rounds_succ]
      go_wp2_with (first | (go_at_call 177; refine (bitsAt_any _ _ _ _ _ (by omega)).mono ?_; rintro e w' ⟨rfl, rfl⟩) | (go_at_call 142; refine (branch_any _ _ _ xs _ _ _ _ (by omega) hc ?_ ht h1 h3 (by omega) (by omega)).mono ?_; exact hr.below (by (repeat (first | (with_reducible assumption) | (with_reducible exact Below.refl _ _) | (with_reducible refine Below.drew ?_) | (with_reducible refine Below.drewN ?_ _) | (with_reducible refine Below.setCell ?_ ?_ _) | (with_reducible refine Below.alloc ?_ ?_ _) | assumption)); all_goals (first | omega | (simp; done) | (simp; omega))); rintro e w' ⟨rfl, rfl⟩))
      exact bodyPost_ret (v := .agg #[.int .i64 (stepW xs t s 0 + e0), .int .i64 (c0 + c2)]) (by simp [results, Try.results164, go_sem]) rfl ⟨rfl, by (repeat (first | (with_reducible assumption) | (with_reducible exact Below.refl _ _) | (with_reducible refine Below.drew ?_) | (with_reducible refine Below.drewN ?_ _) | (with_reducible refine Below.setCell ?_ ?_ _) | (with_reducible refine Below.alloc ?_ ?_ _) | assumption)); all_goals (first | omega | (simp; done) | (simp; omega))⟩

set_option maxHeartbeats 1000000 in
theorem restAt_two02 (A : Option Addr) (n c : Nat) (xs : List Int) (t : Nat) (s : Int) (e0 c0 e1 c1 e2 c2 e3 c3 : Int) (w : World) (hn : n ≤ 604) (hc : n ≤ c) (hr : Rd w A n (ints xs)) (ht : 2 * t + 1 < n) (h1 : 0 ≤ s) (h3 : s ≤ 3)
    (hx0 : nxt s 0 = 0) (hx1 : nxt s 1 = 2) (h2 : (t : Int) < (n : Int) / 2 - 2) (b0 : 0 ≤ e0) (b1 : e0 ≤ 1208) (b2 : 0 ≤ e2) (b3 : e2 ≤ 1208) (d0 : 0 ≤ c0) (d1 : c0 ≤ 1000000) (d2 : 0 ≤ c2) (d3 : c2 ≤ 1000000)
    (hk : stepW xs t s 0 + e0 < stepW xs t s 1 + e2) :
    Calls Try.prog 164 #[.slice A n c, .int .i64 t, .int .i64 s, .agg #[.int .i64 e0, .int .i64 c0, .int .i64 e1, .int .i64 c1, .int .i64 e2, .int .i64 c2, .int .i64 e3, .int .i64 c3]] w fun e w' =>
      e = .returned (.agg #[.int .i64 (stepW xs t s 0 + e0), .int .i64 (c0)]) ∧ Below w.heap.size w w' := by
  have hs := stepW_bd xs t s 0
  have hs1 := stepW_bd xs t s 1
  have hif : (if (t : Int) < (n : Int) / 2 - 2 then (1 : Int) else 0) = 1 := if_pos h2
  have q1 : ¬ stepW xs t s 1 + e2 < stepW xs t s 0 + e0 := by omega
  have q2 : (stepW xs t s 1 + e2 == stepW xs t s 0 + e0) = false := by simp; omega
  go_enter Try.func164, Try.ntmps164
  go_wp2_with fail
  refine wp_loop_rounds 3 ?_
  rw [rounds_succ]
  go_wp2_with (first | (go_at_call 177; refine (bitsAt_any _ _ _ _ _ (by omega)).mono ?_; rintro e w' ⟨rfl, rfl⟩) | (go_at_call 142; refine (branch_any _ _ _ xs _ _ _ _ (by omega) hc ?_ ht h1 h3 (by omega) (by omega)).mono ?_; exact hr.below (by (repeat (first | (with_reducible assumption) | (with_reducible exact Below.refl _ _) | (with_reducible refine Below.drew ?_) | (with_reducible refine Below.drewN ?_ _) | (with_reducible refine Below.setCell ?_ ?_ _) | (with_reducible refine Below.alloc ?_ ?_ _) | assumption)); all_goals (first | omega | (simp; done) | (simp; omega))); rintro e w' ⟨rfl, rfl⟩))
  rw [rounds_succ]
  go_wp2_with (first | (go_at_call 177; refine (bitsAt_any _ _ _ _ _ (by omega)).mono ?_; rintro e w' ⟨rfl, rfl⟩) | (go_at_call 142; refine (branch_any _ _ _ xs _ _ _ _ (by omega) hc ?_ ht h1 h3 (by omega) (by omega)).mono ?_; exact hr.below (by (repeat (first | (with_reducible assumption) | (with_reducible exact Below.refl _ _) | (with_reducible refine Below.drew ?_) | (with_reducible refine Below.drewN ?_ _) | (with_reducible refine Below.setCell ?_ ?_ _) | (with_reducible refine Below.alloc ?_ ?_ _) | assumption)); all_goals (first | omega | (simp; done) | (simp; omega))); rintro e w' ⟨rfl, rfl⟩))
  rw [rounds_succ]
  go_wp2_with (first | (go_at_call 177; refine (bitsAt_any _ _ _ _ _ (by omega)).mono ?_; rintro e w' ⟨rfl, rfl⟩) | (go_at_call 142; refine (branch_any _ _ _ xs _ _ _ _ (by omega) hc ?_ ht h1 h3 (by omega) (by omega)).mono ?_; exact hr.below (by (repeat (first | (with_reducible assumption) | (with_reducible exact Below.refl _ _) | (with_reducible refine Below.drew ?_) | (with_reducible refine Below.drewN ?_ _) | (with_reducible refine Below.setCell ?_ ?_ _) | (with_reducible refine Below.alloc ?_ ?_ _) | assumption)); all_goals (first | omega | (simp; done) | (simp; omega))); rintro e w' ⟨rfl, rfl⟩))
  exact bodyPost_ret (v := .agg #[.int .i64 (stepW xs t s 0 + e0), .int .i64 (c0)]) (by simp [results, Try.results164, go_sem]) rfl ⟨rfl, by (repeat (first | (with_reducible assumption) | (with_reducible exact Below.refl _ _) | (with_reducible refine Below.drew ?_) | (with_reducible refine Below.drewN ?_ _) | (with_reducible refine Below.setCell ?_ ?_ _) | (with_reducible refine Below.alloc ?_ ?_ _) | assumption)); all_goals (first | omega | (simp; done) | (simp; omega))⟩
set_option maxHeartbeats 1000000 in
theorem restAt_one1 (A : Option Addr) (n c : Nat) (xs : List Int) (t : Nat) (s : Int) (e0 c0 e1 c1 e2 c2 e3 c3 : Int) (w : World) (hn : n ≤ 604) (hc : n ≤ c) (hr : Rd w A n (ints xs)) (ht : 2 * t + 1 < n) (h1 : 0 ≤ s) (h3 : s ≤ 3)
    (hx0 : nxt s 0 = 1) (hx1 : nxt s 1 = 3) (h2 : ¬ (t : Int) < (n : Int) / 2 - 2) (b0 : 0 ≤ e1) (b1 : e1 ≤ 1208) :
    Calls Try.prog 164 #[.slice A n c, .int .i64 t, .int .i64 s, .agg #[.int .i64 e0, .int .i64 c0, .int .i64 e1, .int .i64 c1, .int .i64 e2, .int .i64 c2, .int .i64 e3, .int .i64 c3]] w fun e w' =>
      e = .returned (.agg #[.int .i64 (stepW xs t s 0 + e1), .int .i64 c1]) ∧ Below w.heap.size w w' := by
  have hs := stepW_bd xs t s 0
  have hif : (if (t : Int) < (n : Int) / 2 - 2 then (1 : Int) else 0) = 0 := if_neg h2
  go_enter Try.func164, Try.ntmps164
  go_wp2_with fail
  refine wp_loop_rounds 2 ?_
  rw [rounds_succ]
  go_wp2_with (first | (go_at_call 177; refine (bitsAt_any _ _ _ _ _ (by omega)).mono ?_; rintro e w' ⟨rfl, rfl⟩) | (go_at_call 142; refine (branch_any _ _ _ xs _ _ _ _ (by omega) hc ?_ ht h1 h3 (by omega) (by omega)).mono ?_; exact hr.below (by (repeat (first | (with_reducible assumption) | (with_reducible exact Below.refl _ _) | (with_reducible refine Below.drew ?_) | (with_reducible refine Below.drewN ?_ _) | (with_reducible refine Below.setCell ?_ ?_ _) | (with_reducible refine Below.alloc ?_ ?_ _) | assumption)); all_goals (first | omega | (simp; done) | (simp; omega))); rintro e w' ⟨rfl, rfl⟩))
  rw [rounds_succ]
  go_wp2_with (first | (go_at_call 177; refine (bitsAt_any _ _ _ _ _ (by omega)).mono ?_; rintro e w' ⟨rfl, rfl⟩) | (go_at_call 142; refine (branch_any _ _ _ xs _ _ _ _ (by omega) hc ?_ ht h1 h3 (by omega) (by omega)).mono ?_; exact hr.below (by (repeat (first | (with_reducible assumption) | (with_reducible exact Below.refl _ _) | (with_reducible refine Below.drew ?_) | (with_reducible refine Below.drewN ?_ _) | (with_reducible refine Below.setCell ?_ ?_ _) | (with_reducible refine Below.alloc ?_ ?_ _) | assumption)); all_goals (first | omega | (simp; done) | (simp; omega))); rintro e w' ⟨rfl, rfl⟩))
  exact bodyPost_ret (v := .agg #[.int .i64 (stepW xs t s 0 + e1), .int .i64 c1]) (by simp [results, Try.results164, go_sem]) rfl ⟨rfl, by (repeat (first | (with_reducible assumption) | (with_reducible exact Below.refl _ _) | (with_reducible refine Below.drew ?_) | (with_reducible refine Below.drewN ?_ _) | (with_reducible refine Below.setCell ?_ ?_ _) | (with_reducible refine Below.alloc ?_ ?_ _) | assumption)); all_goals (first | omega | (simp; done) | (simp; omega))⟩

set_option maxHeartbeats 1000000 in
theorem restAt_two10 (A : Option Addr) (n c : Nat) (xs : List Int) (t : Nat) (s : Int) (e0 c0 e1 c1 e2 c2 e3 c3 : Int) (w : World) (hn : n ≤ 604) (hc : n ≤ c) (hr : Rd w A n (ints xs)) (ht : 2 * t + 1 < n) (h1 : 0 ≤ s) (h3 : s ≤ 3)
    (hx0 : nxt s 0 = 1) (hx1 : nxt s 1 = 3) (h2 : (t : Int) < (n : Int) / 2 - 2) (b0 : 0 ≤ e1) (b1 : e1 ≤ 1208) (b2 : 0 ≤ e3) (b3 : e3 ≤ 1208) (d0 : 0 ≤ c1) (d1 : c1 ≤ 1000000) (d2 : 0 ≤ c3) (d3 : c3 ≤ 1000000)
    (hk : stepW xs t s 1 + e3 < stepW xs t s 0 + e1) :
    Calls Try.prog 164 #[.slice A n c, .int .i64 t, .int .i64 s, .agg #[.int .i64 e0, .int .i64 c0, .int .i64 e1, .int .i64 c1, .int .i64 e2, .int .i64 c2, .int .i64 e3, .int .i64 c3]] w fun e w' =>
      e = .returned (.agg #[.int .i64 (stepW xs t s 1 + e3), .int .i64 (c3)]) ∧ Below w.heap.size w w' := by
  have hs := stepW_bd xs t s 0
  have hs1 := stepW_bd xs t s 1
  have hif : (if (t : Int) < (n : Int) / 2 - 2 then (1 : Int) else 0) = 1 := if_pos h2
  have q1 : stepW xs t s 0 + e1 ≥ 0 := by omega
  go_enter Try.func164, Try.ntmps164
  go_wp2_with fail
  refine wp_loop_rounds 3 ?_
  rw [rounds_succ]
  go_wp2_with (first | (go_at_call 177; refine (bitsAt_any _ _ _ _ _ (by omega)).mono ?_; rintro e w' ⟨rfl, rfl⟩) | (go_at_call 142; refine (branch_any _ _ _ xs _ _ _ _ (by omega) hc ?_ ht h1 h3 (by omega) (by omega)).mono ?_; exact hr.below (by (repeat (first | (with_reducible assumption) | (with_reducible exact Below.refl _ _) | (with_reducible refine Below.drew ?_) | (with_reducible refine Below.drewN ?_ _) | (with_reducible refine Below.setCell ?_ ?_ _) | (with_reducible refine Below.alloc ?_ ?_ _) | assumption)); all_goals (first | omega | (simp; done) | (simp; omega))); rintro e w' ⟨rfl, rfl⟩))
  rw [rounds_succ]
  go_wp2_with (first | (go_at_call 177; refine (bitsAt_any _ _ _ _ _ (by omega)).mono ?_; rintro e w' ⟨rfl, rfl⟩) | (go_at_call 142; refine (branch_any _ _ _ xs _ _ _ _ (by omega) hc ?_ ht h1 h3 (by omega) (by omega)).mono ?_; exact hr.below (by (repeat (first | (with_reducible assumption) | (with_reducible exact Below.refl _ _) | (with_reducible refine Below.drew ?_) | (with_reducible refine Below.drewN ?_ _) | (with_reducible refine Below.setCell ?_ ?_ _) | (with_reducible refine Below.alloc ?_ ?_ _) | assumption)); all_goals (first | omega | (simp; done) | (simp; omega))); rintro e w' ⟨rfl, rfl⟩))
  rw [rounds_succ]
  go_wp2_with (first | (go_at_call 177; refine (bitsAt_any _ _ _ _ _ (by omega)).mono ?_; rintro e w' ⟨rfl, rfl⟩) | (go_at_call 142; refine (branch_any _ _ _ xs _ _ _ _ (by omega) hc ?_ ht h1 h3 (by omega) (by omega)).mono ?_; exact hr.below (by (repeat (first | (with_reducible assumption) | (with_reducible exact Below.refl _ _) | (with_reducible refine Below.drew ?_) | (with_reducible refine Below.drewN ?_ _) | (with_reducible refine Below.setCell ?_ ?_ _) | (with_reducible refine Below.alloc ?_ ?_ _) | assumption)); all_goals (first | omega | (simp; done) | (simp; omega))); rintro e w' ⟨rfl, rfl⟩))
  exact bodyPost_ret (v := .agg #[.int .i64 (stepW xs t s 1 + e3), .int .i64 (c3)]) (by simp [results, Try.results164, go_sem]) rfl ⟨rfl, by (repeat (first | (with_reducible assumption) | (with_reducible exact Below.refl _ _) | (with_reducible refine Below.drew ?_) | (with_reducible refine Below.drewN ?_ _) | (with_reducible refine Below.setCell ?_ ?_ _) | (with_reducible refine Below.alloc ?_ ?_ _) | assumption)); all_goals (first | omega | (simp; done) | (simp; omega))⟩

set_option maxHeartbeats 1000000 in
theorem restAt_two11 (A : Option Addr) (n c : Nat) (xs : List Int) (t : Nat) (s : Int) (e0 c0 e1 c1 e2 c2 e3 c3 : Int) (w : World) (hn : n ≤ 604) (hc : n ≤ c) (hr : Rd w A n (ints xs)) (ht : 2 * t + 1 < n) (h1 : 0 ≤ s) (h3 : s ≤ 3)
    (hx0 : nxt s 0 = 1) (hx1 : nxt s 1 = 3) (h2 : (t : Int) < (n : Int) / 2 - 2) (b0 : 0 ≤ e1) (b1 : e1 ≤ 1208) (b2 : 0 ≤ e3) (b3 : e3 ≤ 1208) (d0 : 0 ≤ c1) (d1 : c1 ≤ 1000000) (d2 : 0 ≤ c3) (d3 : c3 ≤ 1000000)
    (hk : stepW xs t s 1 + e3 = stepW xs t s 0 + e1) :
    Calls Try.prog 164 #[.slice A n c, .int .i64 t, .int .i64 s, .agg #[.int .i64 e0, .int .i64 c0, .int .i64 e1, .int .i64 c1, .int .i64 e2, .int .i64 c2, .int .i64 e3, .int .i64 c3]] w fun e w' =>
      e = .returned (.agg #[.int .i64 (stepW xs t s 0 + e1), .int .i64 (min (c1 + c3) 1000000)]) ∧ Below w.heap.size w w' := by
  by_cases hmn : 1000000 < c1 + c3
  · have hm : min (c1 + c3) 1000000 = 1000000 := by omega
    rw [hm]
    clear hm
    have hs := stepW_bd xs t s 0
    have hs1 := stepW_bd xs t s 1
    have hif : (if (t : Int) < (n : Int) / 2 - 2 then (1 : Int) else 0) = 1 := if_pos h2
    have q1 : ¬ stepW xs t s 1 + e3 < stepW xs t s 0 + e1 := by omega
    have q2 : (stepW xs t s 1 + e3 == stepW xs t s 0 + e1) = true := by rw [hk]; simp
    have HK := Lib.hid hk
    clear hk
    go_enter Try.func164, Try.ntmps164
    go_wp2_with fail
    refine wp_loop_rounds 3 ?_
    rw [rounds_succ]
    go_wp2_with (first | (go_at_call 177; refine (bitsAt_any _ _ _ _ _ (by omega)).mono ?_; rintro e w' ⟨rfl, rfl⟩) | (go_at_call 142; refine (branch_any _ _ _ xs _ _ _ _ (by omega) hc ?_ ht h1 h3 (by omega) (by omega)).mono ?_; exact hr.below (by (repeat (first | (with_reducible assumption) | (with_reducible exact Below.refl _ _) | (with_reducible refine Below.drew ?_) | (with_reducible refine Below.drewN ?_ _) | (with_reducible refine Below.setCell ?_ ?_ _) | (with_reducible refine Below.alloc ?_ ?_ _) | assumption)); all_goals (first | omega | (simp; done) | (simp; omega))); rintro e w' ⟨rfl, rfl⟩))
    rw [rounds_succ]
    go_wp2_with (first | (go_at_call 177; refine (bitsAt_any _ _ _ _ _ (by omega)).mono ?_; rintro e w' ⟨rfl, rfl⟩) | (go_at_call 142; refine (branch_any _ _ _ xs _ _ _ _ (by omega) hc ?_ ht h1 h3 (by omega) (by omega)).mono ?_; exact hr.below (by (repeat (first | (with_reducible assumption) | (with_reducible exact Below.refl _ _) | (with_reducible refine Below.drew ?_) | (with_reducible refine Below.drewN ?_ _) | (with_reducible refine Below.setCell ?_ ?_ _) | (with_reducible refine Below.alloc ?_ ?_ _) | assumption)); all_goals (first | omega | (simp; done) | (simp; omega))); rintro e w' ⟨rfl, rfl⟩))
    go_region
    all_goals
      go_wp2
      rw [rounds_succ]
      go_wp2_with (first | (go_at_call 177; refine (bitsAt_any _ _ _ _ _ (by omega)).mono ?_; rintro e w' ⟨rfl, rfl⟩) | (go_at_call 142; refine (branch_any _ _ _ xs _ _ _ _ (by omega) hc ?_ ht h1 h3 (by omega) (by omega)).mono ?_; exact hr.below (by (repeat (first | (with_reducible assumption) | (with_reducible exact Below.refl _ _) | (with_reducible refine Below.drew ?_) | (with_reducible refine Below.drewN ?_ _) | (with_reducible refine Below.setCell ?_ ?_ _) | (with_reducible refine Below.alloc ?_ ?_ _) | assumption)); all_goals (first | omega | (simp; done) | (simp; omega))); rintro e w' ⟨rfl, rfl⟩))
      exact bodyPost_ret (v := .agg #[.int .i64 (stepW xs t s 0 + e1), .int .i64 (1000000)]) (by simp [results, Try.results164, go_sem]) rfl ⟨rfl, by (repeat (first | (with_reducible assumption) | (with_reducible exact Below.refl _ _) | (with_reducible refine Below.drew ?_) | (with_reducible refine Below.drewN ?_ _) | (with_reducible refine Below.setCell ?_ ?_ _) | (with_reducible refine Below.alloc ?_ ?_ _) | assumption)); all_goals (first | omega | (simp; done) | (simp; omega))⟩
  · have hm : min (c1 + c3) 1000000 = c1 + c3 := by omega
    rw [hm]
    clear hm
    have hs := stepW_bd xs t s 0
    have hs1 := stepW_bd xs t s 1
    have hif : (if (t : Int) < (n : Int) / 2 - 2 then (1 : Int) else 0) = 1 := if_pos h2
    have q1 : ¬ stepW xs t s 1 + e3 < stepW xs t s 0 + e1 := by omega
    have q2 : (stepW xs t s 1 + e3 == stepW xs t s 0 + e1) = true := by rw [hk]; simp
    have HK := Lib.hid hk
    clear hk
    go_enter Try.func164, Try.ntmps164
    go_wp2_with fail
    refine wp_loop_rounds 3 ?_
    rw [rounds_succ]
    go_wp2_with (first | (go_at_call 177; refine (bitsAt_any _ _ _ _ _ (by omega)).mono ?_; rintro e w' ⟨rfl, rfl⟩) | (go_at_call 142; refine (branch_any _ _ _ xs _ _ _ _ (by omega) hc ?_ ht h1 h3 (by omega) (by omega)).mono ?_; exact hr.below (by (repeat (first | (with_reducible assumption) | (with_reducible exact Below.refl _ _) | (with_reducible refine Below.drew ?_) | (with_reducible refine Below.drewN ?_ _) | (with_reducible refine Below.setCell ?_ ?_ _) | (with_reducible refine Below.alloc ?_ ?_ _) | assumption)); all_goals (first | omega | (simp; done) | (simp; omega))); rintro e w' ⟨rfl, rfl⟩))
    rw [rounds_succ]
    go_wp2_with (first | (go_at_call 177; refine (bitsAt_any _ _ _ _ _ (by omega)).mono ?_; rintro e w' ⟨rfl, rfl⟩) | (go_at_call 142; refine (branch_any _ _ _ xs _ _ _ _ (by omega) hc ?_ ht h1 h3 (by omega) (by omega)).mono ?_; exact hr.below (by (repeat (first | (with_reducible assumption) | (with_reducible exact Below.refl _ _) | (with_reducible refine Below.drew ?_) | (with_reducible refine Below.drewN ?_ _) | (with_reducible refine Below.setCell ?_ ?_ _) | (with_reducible refine Below.alloc ?_ ?_ _) | assumption)); all_goals (first | omega | (simp; done) | (simp; omega))); rintro e w' ⟨rfl, rfl⟩))
    go_region
    all_goals
      go_wp2
      rw [rounds_succ]
      go_wp2_with (first | (go_at_call 177; refine (bitsAt_any _ _ _ _ _ (by omega)).mono ?_; rintro e w' ⟨rfl, rfl⟩) | (go_at_call 142; refine (branch_any _ _ _ xs _ _ _ _ (by omega) hc ?_ ht h1 h3 (by omega) (by omega)).mono ?_; exact hr.below (by (repeat (first | (with_reducible assumption) | (with_reducible exact Below.refl _ _) | (with_reducible refine Below.drew ?_) | (with_reducible refine Below.drewN ?_ _) | (with_reducible refine Below.setCell ?_ ?_ _) | (with_reducible refine Below.alloc ?_ ?_ _) | assumption)); all_goals (first | omega | (simp; done) | (simp; omega))); rintro e w' ⟨rfl, rfl⟩))
      exact bodyPost_ret (v := .agg #[.int .i64 (stepW xs t s 0 + e1), .int .i64 (c1 + c3)]) (by simp [results, Try.results164, go_sem]) rfl ⟨rfl, by (repeat (first | (with_reducible assumption) | (with_reducible exact Below.refl _ _) | (with_reducible refine Below.drew ?_) | (with_reducible refine Below.drewN ?_ _) | (with_reducible refine Below.setCell ?_ ?_ _) | (with_reducible refine Below.alloc ?_ ?_ _) | assumption)); all_goals (first | omega | (simp; done) | (simp; omega))⟩

set_option maxHeartbeats 1000000 in
theorem restAt_two12 (A : Option Addr) (n c : Nat) (xs : List Int) (t : Nat) (s : Int) (e0 c0 e1 c1 e2 c2 e3 c3 : Int) (w : World) (hn : n ≤ 604) (hc : n ≤ c) (hr : Rd w A n (ints xs)) (ht : 2 * t + 1 < n) (h1 : 0 ≤ s) (h3 : s ≤ 3)
    (hx0 : nxt s 0 = 1) (hx1 : nxt s 1 = 3) (h2 : (t : Int) < (n : Int) / 2 - 2) (b0 : 0 ≤ e1) (b1 : e1 ≤ 1208) (b2 : 0 ≤ e3) (b3 : e3 ≤ 1208) (d0 : 0 ≤ c1) (d1 : c1 ≤ 1000000) (d2 : 0 ≤ c3) (d3 : c3 ≤ 1000000)
    (hk : stepW xs t s 0 + e1 < stepW xs t s 1 + e3) :
    Calls Try.prog 164 #[.slice A n c, .int .i64 t, .int .i64 s, .agg #[.int .i64 e0, .int .i64 c0, .int .i64 e1, .int .i64 c1, .int .i64 e2, .int .i64 c2, .int .i64 e3, .int .i64 c3]] w fun e w' =>
      e = .returned (.agg #[.int .i64 (stepW xs t s 0 + e1), .int .i64 (c1)]) ∧ Below w.heap.size w w' := by
  have hs := stepW_bd xs t s 0
  have hs1 := stepW_bd xs t s 1
  have hif : (if (t : Int) < (n : Int) / 2 - 2 then (1 : Int) else 0) = 1 := if_pos h2
  have q1 : ¬ stepW xs t s 1 + e3 < stepW xs t s 0 + e1 := by omega
  have q2 : (stepW xs t s 1 + e3 == stepW xs t s 0 + e1) = false := by simp; omega
  go_enter Try.func164, Try.ntmps164
  go_wp2_with fail
  refine wp_loop_rounds 3 ?_
  rw [rounds_succ]
  go_wp2_with (first | (go_at_call 177; refine (bitsAt_any _ _ _ _ _ (by omega)).mono ?_; rintro e w' ⟨rfl, rfl⟩) | (go_at_call 142; refine (branch_any _ _ _ xs _ _ _ _ (by omega) hc ?_ ht h1 h3 (by omega) (by omega)).mono ?_; exact hr.below (by (repeat (first | (with_reducible assumption) | (with_reducible exact Below.refl _ _) | (with_reducible refine Below.drew ?_) | (with_reducible refine Below.drewN ?_ _) | (with_reducible refine Below.setCell ?_ ?_ _) | (with_reducible refine Below.alloc ?_ ?_ _) | assumption)); all_goals (first | omega | (simp; done) | (simp; omega))); rintro e w' ⟨rfl, rfl⟩))
  rw [rounds_succ]
  go_wp2_with (first | (go_at_call 177; refine (bitsAt_any _ _ _ _ _ (by omega)).mono ?_; rintro e w' ⟨rfl, rfl⟩) | (go_at_call 142; refine (branch_any _ _ _ xs _ _ _ _ (by omega) hc ?_ ht h1 h3 (by omega) (by omega)).mono ?_; exact hr.below (by (repeat (first | (with_reducible assumption) | (with_reducible exact Below.refl _ _) | (with_reducible refine Below.drew ?_) | (with_reducible refine Below.drewN ?_ _) | (with_reducible refine Below.setCell ?_ ?_ _) | (with_reducible refine Below.alloc ?_ ?_ _) | assumption)); all_goals (first | omega | (simp; done) | (simp; omega))); rintro e w' ⟨rfl, rfl⟩))
  rw [rounds_succ]
  go_wp2_with (first | (go_at_call 177; refine (bitsAt_any _ _ _ _ _ (by omega)).mono ?_; rintro e w' ⟨rfl, rfl⟩) | (go_at_call 142; refine (branch_any _ _ _ xs _ _ _ _ (by omega) hc ?_ ht h1 h3 (by omega) (by omega)).mono ?_; exact hr.below (by (repeat (first | (with_reducible assumption) | (with_reducible exact Below.refl _ _) | (with_reducible refine Below.drew ?_) | (with_reducible refine Below.drewN ?_ _) | (with_reducible refine Below.setCell ?_ ?_ _) | (with_reducible refine Below.alloc ?_ ?_ _) | assumption)); all_goals (first | omega | (simp; done) | (simp; omega))); rintro e w' ⟨rfl, rfl⟩))
  exact bodyPost_ret (v := .agg #[.int .i64 (stepW xs t s 0 + e1), .int .i64 (c1)]) (by simp [results, Try.results164, go_sem]) rfl ⟨rfl, by (repeat (first | (with_reducible assumption) | (with_reducible exact Below.refl _ _) | (with_reducible refine Below.drew ?_) | (with_reducible refine Below.drewN ?_ _) | (with_reducible refine Below.setCell ?_ ?_ _) | (with_reducible refine Below.alloc ?_ ?_ _) | assumption)); all_goals (first | omega | (simp; done) | (simp; omega))⟩

set_option maxHeartbeats 1000000 in
theorem restAt_any (A : Option Addr) (n c : Nat) (xs : List Int) (t : Nat) (s : Int) (f : Int → Int × Int) (w : World) (hn : n ≤ 604) (hc : n ≤ c) (hr : Rd w A n (ints xs)) (ht : 2 * t + 1 < n) (h1 : 0 ≤ s) (h3 : s ≤ 3)
    (hf : ∀ s, 0 ≤ (f s).1 ∧ (f s).1 ≤ 1208 ∧ 0 ≤ (f s).2 ∧ (f s).2 ≤ 1000000) :
    Calls Try.prog 164 #[.slice A n c, .int .i64 t, .int .i64 s, .agg (rowV f)] w fun e w' =>
      e = .returned (.agg #[.int .i64 (oneRest f xs t s (decide ((t : Int) < (n : Int) / 2 - 2))).1, .int .i64 (oneRest f xs t s (decide ((t : Int) < (n : Int) / 2 - 2))).2]) ∧ Below w.heap.size w w' := by
  have f0 := hf 0
  have f1 := hf 1
  have f2 := hf 2
  have f3 := hf 3
  by_cases hs : s ≤ 1
  · have hx0 : nxt s 0 = 0 := by unfold nxt; omega
    have hx1 : nxt s 1 = 2 := by unfold nxt; omega
    by_cases h2 : (t : Int) < (n : Int) / 2 - 2
    · simp only [oneRest, h2, hx0, hx1, decide_true, if_true, rowV]
      unfold pick
      split
      · exact restAt_two00 A n c xs t s _ _ _ _ _ _ _ _ w hn hc hr ht h1 h3 hx0 hx1 h2 f0.1 f0.2.1 f2.1 f2.2.1 f0.2.2.1 f0.2.2.2 f2.2.2.1 f2.2.2.2 (by assumption)
      · split
        · exact restAt_two01 A n c xs t s _ _ _ _ _ _ _ _ w hn hc hr ht h1 h3 hx0 hx1 h2 f0.1 f0.2.1 f2.1 f2.2.1 f0.2.2.1 f0.2.2.2 f2.2.2.1 f2.2.2.2 (by assumption)
        · exact restAt_two02 A n c xs t s _ _ _ _ _ _ _ _ w hn hc hr ht h1 h3 hx0 hx1 h2 f0.1 f0.2.1 f2.1 f2.2.1 f0.2.2.1 f0.2.2.2 f2.2.2.1 f2.2.2.2 (by simp only at *; omega)
    · simp only [oneRest, h2, hx0, decide_false, if_false, rowV, Bool.false_eq_true]
      exact restAt_one0 A n c xs t s _ _ _ _ _ _ _ _ w hn hc hr ht h1 h3 hx0 hx1 h2 f0.1 f0.2.1
  · have hx0 : nxt s 0 = 1 := by unfold nxt; omega
    have hx1 : nxt s 1 = 3 := by unfold nxt; omega
    by_cases h2 : (t : Int) < (n : Int) / 2 - 2
    · simp only [oneRest, h2, hx0, hx1, decide_true, if_true, rowV]
      unfold pick
      split
      · exact restAt_two10 A n c xs t s _ _ _ _ _ _ _ _ w hn hc hr ht h1 h3 hx0 hx1 h2 f1.1 f1.2.1 f3.1 f3.2.1 f1.2.2.1 f1.2.2.2 f3.2.2.1 f3.2.2.2 (by assumption)
      · split
        · exact restAt_two11 A n c xs t s _ _ _ _ _ _ _ _ w hn hc hr ht h1 h3 hx0 hx1 h2 f1.1 f1.2.1 f3.1 f3.2.1 f1.2.2.1 f1.2.2.2 f3.2.2.1 f3.2.2.2 (by assumption)
        · exact restAt_two12 A n c xs t s _ _ _ _ _ _ _ _ w hn hc hr ht h1 h3 hx0 hx1 h2 f1.1 f1.2.1 f3.1 f3.2.1 f1.2.2.1 f1.2.2.2 f3.2.2.1 f3.2.2.2 (by simp only at *; omega)
    · simp only [oneRest, h2, hx0, decide_false, if_false, rowV, Bool.false_eq_true]
      exact restAt_one1 A n c xs t s _ _ _ _ _ _ _ _ w hn hc hr ht h1 h3 hx0 hx1 h2 f1.1 f1.2.1
end Go.Proofs.Ytlgmdekhlcbhoaa
