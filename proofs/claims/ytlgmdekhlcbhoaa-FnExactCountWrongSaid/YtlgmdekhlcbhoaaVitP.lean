/- The best ways through a code, as plain functions on lists: what the program's table and the reference's table hold, and that they agree. No program. -/
import Derived.Test.YtlgmdekhlcbhoaaBase
namespace Go.Proofs.Ytlgmdekhlcbhoaa

def wrongB (b r : Int) : Int := if r = 2 ∨ b = r then 0 else 1
def nxt (s b : Int) : Int := 2 * b + s / 2
def outA (s b : Int) : Int := (b + s / 2 + s % 2) % 2
def outB (s b : Int) : Int := (b + s % 2) % 2
def stepW (xs : List Int) (t : Nat) (s b : Int) : Int := wrongB (outA s b) (xs.getD (2 * t) 0) + wrongB (outB s b) (xs.getD (2 * t + 1) 0)
theorem wrongB_bd (b r : Int) : 0 ≤ wrongB b r ∧ wrongB b r ≤ 1 := by unfold wrongB; split <;> omega
theorem stepW_bd (xs : List Int) (t : Nat) (s b : Int) : 0 ≤ stepW xs t s b ∧ stepW xs t s b ≤ 2 := by
  have := wrongB_bd (outA s b) (xs.getD (2 * t) 0); have := wrongB_bd (outB s b) (xs.getD (2 * t + 1) 0); unfold stepW; omega
theorem nxt_bd {s b : Int} (h1 : 0 ≤ s) (h2 : s ≤ 3) (h3 : 0 ≤ b) (h4 : b ≤ 1) : 0 ≤ nxt s b ∧ nxt s b ≤ 3 := by unfold nxt; omega

/-- One state of the program's table: z the way with bit 0, o the way with bit 1 (errors, how many). -/
def pick (z o : Int × Int) : Int × Int := if o.1 < z.1 then o else if o.1 = z.1 then (z.1, min (z.2 + o.2) 1000000) else z
/-- The program's table, r steps from the end of n. -/
def vit (xs : List Int) (n : Nat) : Nat → Int → Int × Int
  | 0, _ => (0, 1)
  | r + 1, s =>
    let z := (stepW xs (n - (r + 1)) s 0 + (vit xs n r (nxt s 0)).1, (vit xs n r (nxt s 0)).2)
    if 2 ≤ r then pick z (stepW xs (n - (r + 1)) s 1 + (vit xs n r (nxt s 1)).1, (vit xs n r (nxt s 1)).2) else z
theorem vit_succ (xs : List Int) (n r : Nat) (s : Int) : vit xs n (r + 1) s =
    if 2 ≤ r then pick (stepW xs (n - (r + 1)) s 0 + (vit xs n r (nxt s 0)).1, (vit xs n r (nxt s 0)).2) (stepW xs (n - (r + 1)) s 1 + (vit xs n r (nxt s 1)).1, (vit xs n r (nxt s 1)).2)
    else (stepW xs (n - (r + 1)) s 0 + (vit xs n r (nxt s 0)).1, (vit xs n r (nxt s 0)).2) := rfl
theorem vit_bd (xs : List Int) (n : Nat) : ∀ r s, 0 ≤ (vit xs n r s).1 ∧ (vit xs n r s).1 ≤ 2 * r ∧ 1 ≤ (vit xs n r s).2 ∧ (vit xs n r s).2 ≤ 1000000
  | 0, s => by simp [vit]
  | r + 1, s => by
    have h0 := vit_bd xs n r (nxt s 0)
    have h1 := vit_bd xs n r (nxt s 1)
    have w0 := stepW_bd xs (n - (r + 1)) s 0
    have w1 := stepW_bd xs (n - (r + 1)) s 1
    unfold vit
    simp only
    unfold pick
    split
    · split
      · simp only; omega
      · split <;> simp only <;> omega
    · simp only; omega

/-- One bit more in the reference's table: m errors, c ways. -/
def add1 (a : Int × Int) (m c : Int) : Int × Int :=
  let a' := if m < a.1 then (m, 0) else a
  if m = a'.1 then (a'.1, min 1000000 (a'.2 + c)) else a'
/-- The reference's table. -/
def ref (xs : List Int) (n : Nat) : Nat → Int → Int × Int
  | 0, s => if s = 0 then (0, 1) else (2 * (n : Int) + 1, 0)
  | r + 1, s =>
    let z := add1 (2 * (n : Int) + 1, 0) (stepW xs (n - (r + 1)) s 0 + (ref xs n r (nxt s 0)).1) (ref xs n r (nxt s 0)).2
    if 2 ≤ r then add1 z (stepW xs (n - (r + 1)) s 1 + (ref xs n r (nxt s 1)).1) (ref xs n r (nxt s 1)).2 else z
theorem ref_bd (xs : List Int) (n : Nat) : ∀ r s, 0 ≤ (ref xs n r s).1 ∧ (ref xs n r s).1 ≤ 2 * (n : Int) + 1 ∧ 0 ≤ (ref xs n r s).2 ∧ (ref xs n r s).2 ≤ 1000000
  | 0, s => by unfold ref; split <;> simp <;> omega
  | r + 1, s => by
    have h0 := ref_bd xs n r (nxt s 0)
    have h1 := ref_bd xs n r (nxt s 1)
    have w0 := stepW_bd xs (n - (r + 1)) s 0
    have w1 := stepW_bd xs (n - (r + 1)) s 1
    have key : ∀ (a : Int × Int) (m c : Int), 0 ≤ a.1 → a.1 ≤ 2 * (n : Int) + 1 → 0 ≤ a.2 → a.2 ≤ 1000000 → 0 ≤ m → 0 ≤ c → c ≤ 1000000 →
        0 ≤ (add1 a m c).1 ∧ (add1 a m c).1 ≤ 2 * (n : Int) + 1 ∧ 0 ≤ (add1 a m c).2 ∧ (add1 a m c).2 ≤ 1000000 := by
      intro a m c a1 a2 a3 a4 m1 c1 c2
      unfold add1
      simp only
      split <;> split <;> (try dsimp only at *) <;> omega
    unfold ref
    simp only
    have k0 := key (2 * (n : Int) + 1, 0) (stepW xs (n - (r + 1)) s 0 + (ref xs n r (nxt s 0)).1) (ref xs n r (nxt s 0)).2 (by simp only; omega) (by simp only; omega) (by simp only; omega) (by simp only; omega) (by omega) (by omega) (by omega)
    split
    · exact key _ _ _ k0.1 k0.2.1 k0.2.2.1 k0.2.2.2 (by omega) (by omega) (by omega)
    · exact k0

theorem add1_first {N m c : Int} (h1 : m < N) (h2 : 1 ≤ c) (h3 : c ≤ 1000000) : add1 (N, 0) m c = (m, c) := by
  unfold add1
  simp only [h1, if_true]
  rw [Int.min_eq_right (by omega)]
  simp
theorem add1_pick {z : Int × Int} {m c : Int} (h0 : 1 ≤ c) (h1 : c ≤ 1000000) : add1 z m c = pick z (m, c) := by
  unfold add1 pick
  simp only
  by_cases h : m < z.1
  · simp only [h, if_true]
    rw [Int.min_eq_right (by omega)]
    simp
  · simp only [h, if_false]
    by_cases e : m = z.1
    · simp only [e, if_true]
      rw [Int.min_comm]
    · simp only [e, if_false]

/-- Where the two tables agree: from the second step from the end on at every state. -/
theorem ref_vit (xs : List Int) (n : Nat) : ∀ r, r ≤ n → ∀ s, 0 ≤ s → s ≤ 3 → (2 ≤ r ∨ (r = 1 ∧ s ≤ 1) ∨ (r = 0 ∧ s = 0)) → ref xs n r s = vit xs n r s
  | 0, _, s, _, _, h => by
    have : s = 0 := by omega
    subst this
    simp [ref, vit]
  | r + 1, hr, s, h1, h2, h => by
    have n0 := nxt_bd h1 h2 (b := 0) (by omega) (by omega)
    have n1 := nxt_bd h1 h2 (b := 1) (by omega) (by omega)
    have e0 : ref xs n r (nxt s 0) = vit xs n r (nxt s 0) := ref_vit xs n r (by omega) _ n0.1 n0.2 (by unfold nxt; omega)
    have b0 := vit_bd xs n r (nxt s 0)
    have b1 := vit_bd xs n r (nxt s 1)
    have w0 := stepW_bd xs (n - (r + 1)) s 0
    unfold ref vit
    simp only [e0]
    rw [add1_first (by omega) b0.2.2.1 b0.2.2.2]
    by_cases hr2 : 2 ≤ r
    · simp only [hr2, if_true]
      have e1 : ref xs n r (nxt s 1) = vit xs n r (nxt s 1) := ref_vit xs n r (by omega) _ n1.1 n1.2 (.inl hr2)
      rw [e1]
      exact add1_pick b1.2.2.1 b1.2.2.2
    · simp only [hr2, if_false]

/-- The chosen way: the state behind k steps, and the bit at step k. -/
def decBit (xs : List Int) (n : Nat) (k : Nat) (s : Int) : Int :=
  if stepW xs k s 0 + (vit xs n (n - (k + 1)) (nxt s 0)).1 = (vit xs n (n - k) s).1 then 0 else 1
def decSt (xs : List Int) (n : Nat) : Nat → Int
  | 0 => 0
  | k + 1 => nxt (decSt xs n k) (decBit xs n k (decSt xs n k))
theorem decBit_bd (xs : List Int) (n k : Nat) (s : Int) : decBit xs n k s = 0 ∨ decBit xs n k s = 1 := by unfold decBit; split <;> simp
theorem decSt_bd (xs : List Int) (n : Nat) : ∀ k, 0 ≤ decSt xs n k ∧ decSt xs n k ≤ 3
  | 0 => by simp [decSt]
  | k + 1 => by
    have h := decSt_bd xs n k
    have b := decBit_bd xs n k (decSt xs n k)
    exact nxt_bd h.1 h.2 (by omega) (by omega)
def dec (xs : List Int) (n : Nat) (k : Nat) : List Int := (List.range k).map fun i => decBit xs n i (decSt xs n i)
/-- Where bit 0 does not serve, bit 1 does. -/
theorem dec_one (xs : List Int) (n k : Nat) (s : Int) (hk : k + 2 < n) (h : ¬ stepW xs k s 0 + (vit xs n (n - (k + 1)) (nxt s 0)).1 = (vit xs n (n - k) s).1) :
    stepW xs k s 1 + (vit xs n (n - (k + 1)) (nxt s 1)).1 = (vit xs n (n - k) s).1 := by
  have e : n - k = (n - (k + 1)) + 1 := by omega
  have e2 : n - ((n - (k + 1)) + 1) = k := by omega
  have hv : vit xs n ((n - (k + 1)) + 1) s = pick (stepW xs (n - ((n - (k + 1)) + 1)) s 0 + (vit xs n (n - (k + 1)) (nxt s 0)).1, (vit xs n (n - (k + 1)) (nxt s 0)).2) (stepW xs (n - ((n - (k + 1)) + 1)) s 1 + (vit xs n (n - (k + 1)) (nxt s 1)).1, (vit xs n (n - (k + 1)) (nxt s 1)).2) :=
    if_pos (show 2 ≤ n - (k + 1) by omega)
  rw [e2, ← e] at hv
  rw [hv] at h ⊢
  revert h
  unfold pick
  split
  · intro _; rfl
  · split
    · intro h; exact absurd rfl h
    · intro h; exact absurd rfl h
end Go.Proofs.Ytlgmdekhlcbhoaa
