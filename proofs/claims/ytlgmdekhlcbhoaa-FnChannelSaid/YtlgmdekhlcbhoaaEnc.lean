/- The encoder: impl.encode and spec.l27Encode give the same code. Condition: a message of bits, of at most 1000 numbers. -/
import Derived.Test.YtlgmdekhlcbhoaaVit
import Derived.Test.YtlgmdekhlcbhoaaBurst
namespace Go.Proofs.Ytlgmdekhlcbhoaa
open Go.RowKit

def encSt (xs : List Int) : Nat → Int
  | 0 => 0
  | k + 1 => nxt (encSt xs k) (xs.getD k 0)
def codeTo (xs : List Int) (k : Nat) : List Int := (List.range k).flatMap fun i => [outA (encSt xs i) (xs.getD i 0), outB (encSt xs i) (xs.getD i 0)]
def enc (xs : List Int) : List Int := codeTo xs (xs.length + 2)
theorem codeTo_succ (xs : List Int) (k : Nat) : codeTo xs (k + 1) = codeTo xs k ++ [outA (encSt xs k) (xs.getD k 0), outB (encSt xs k) (xs.getD k 0)] := by
  unfold codeTo; rw [List.range_succ, List.flatMap_append]; simp
theorem codeTo_length (xs : List Int) : ∀ k, (codeTo xs k).length = 2 * k
  | 0 => rfl
  | k + 1 => by rw [codeTo_succ, List.length_append, codeTo_length xs k]; simp; omega
theorem enc_length (xs : List Int) : (enc xs).length = 2 * (xs.length + 2) := codeTo_length xs _
theorem encSt_bd {xs : List Int} (h : allIn xs 0 1 = true) : ∀ k, 0 ≤ encSt xs k ∧ encSt xs k ≤ 3
  | 0 => by simp [encSt]
  | k + 1 => by
    have hs := encSt_bd h k
    have hb := getD_bit h k
    exact nxt_bd hs.1 hs.2 hb.1 hb.2
theorem codeTo_bits {xs : List Int} (h : allIn xs 0 1 = true) (k : Nat) : allIn (codeTo xs k) 0 1 = true := by
  unfold allIn
  rw [List.all_eq_true]
  intro y hy
  unfold codeTo at hy
  rw [List.mem_flatMap] at hy
  obtain ⟨i, _, hy⟩ := hy
  have hs := encSt_bd h i
  have hb := getD_bit h i
  simp at hy
  unfold outA outB at hy
  exact inR_mk (by omega) (by omega)

set_option maxHeartbeats 1000000 in
theorem l27Encode_any (A : Option Addr) (n c : Nat) (xs : List Int) (w : World) (hn : n ≤ 1000) (hr : Rd w A n (ints xs)) (hb : allIn xs 0 1 = true) :
    Calls Try.prog 131 #[.slice A n c] w fun e w' => ∃ v, e = .returned v ∧ w'.ownsRow w.heap.size 2 1 v (2 * (n + 2)) (ints (enc xs)) ∧ Below w.heap.size w w' := by
  have HL := Lib.hid hr.len
  have HB := Lib.hid hb
  clear hb
  go_enter Try.func131, Try.ntmps131
  go_wp2_with fail
  go_loopw [3, 4, 5] (fun o s i wr => ∃ k : Nat, k ≤ n + 2 ∧ i = .int .i64 k ∧ s = .int .i64 (encSt xs k) ∧ wr.ownsRow w.heap.size 2 1 o (2 * k) (ints (codeTo xs k)) ∧ Below w.heap.size w wr)
    (fun _ _ i _ => n + 2 - (intOf i).toNat)
  case atStart => exact ⟨0, Nat.zero_le _, rfl, rfl, own_empty w _, (Below.refl _ _).alloc (Nat.le_refl _) _⟩
  case round =>
    obtain ⟨k, hk, rfl, rfl, hown, hbel⟩ := hrel
    by_cases hlt : k < n + 2
    · have hs := encSt_bd HB.out k
      have hbd := getD_bit HB.out k
      have HM := Lib.hid (codeTo_succ xs k)
      have HS : Hid (encSt xs (k + 1) = nxt (encSt xs k) (xs.getD k 0)) := rfl
      have hsz := hbel.size
      by_cases hkn : k < n
      · obtain ⟨ad, rfl, hx⟩ := (hr.below hbel).int hkn
        generalize xs.getD k 0 = x at *
        generalize encSt xs k = s at *
        generalize codeTo xs k = L at *
        go_wp2_with (first | (go_at_call 145; refine (l27Next_any _ _ _ (by omega) (by omega) (by omega) (by omega)).mono ?_; rintro e w' ⟨rfl, rfl⟩) | (at_builtin; refine wpList_append_int2 rfl _ _ rfl w.heap.size _ (2 * k) L rfl rfl hown (by omega) hsz ?_; intro v' w' hown' hbel' _ _))
        go_roundw
        case rel => exact ⟨k + 1, by omega, by go_num, by rw [HS.out], by rw [HM.out]; exact hown', hbel.trans hbel'⟩
        case measure => simp [intOf]; omega
      · have hx0 : xs.getD k 0 = 0 := by simp [List.getElem?_eq_none (show xs.length ≤ k by rw [HL.out]; omega)]
        rw [hx0] at HM HS
        clear hx0 hbd
        generalize encSt xs k = s at *
        generalize codeTo xs k = L at *
        go_wp2_with (first | (go_at_call 145; refine (l27Next_any _ _ _ (by omega) (by omega) (by omega) (by omega)).mono ?_; rintro e w' ⟨rfl, rfl⟩) | (at_builtin; refine wpList_append_int2 rfl _ _ rfl w.heap.size _ (2 * k) L rfl rfl hown (by omega) hsz ?_; intro v' w' hown' hbel' _ _))
        go_roundw
        case rel => exact ⟨k + 1, by omega, by go_num, by rw [HS.out], by rw [HM.out]; exact hown', hbel.trans hbel'⟩
        case measure => simp [intOf]; omega
    · obtain rfl : k = n + 2 := by omega
      go_wp2
      go_ret
      exact ⟨_, rfl, by unfold enc; rw [HL.out]; exact hown, hbel⟩

theorem getD_zeros (xs : List Int) (k : Nat) : (xs ++ [0, 0]).getD k 0 = xs.getD k 0 := by
  rcases Nat.lt_or_ge k xs.length with h | h
  · simp [List.getElem?_append_left h]
  · simp only [List.getD_eq_getElem?_getD, List.getElem?_append_right h, List.getElem?_eq_none h]
    rcases hj : k - xs.length with _ | _ | j <;> simp

set_option maxHeartbeats 1000000 in
theorem encode_any (A : Option Addr) (n c : Nat) (xs : List Int) (w : World) (hn : n ≤ 1000) (hr : Rd w A n (ints xs)) (hb : allIn xs 0 1 = true) :
    Calls Try.prog 124 #[.slice A n c] w fun e w' => ∃ v, e = .returned v ∧ w'.ownsRow w.heap.size 2 1 v (2 * (n + 2)) (ints (enc xs)) ∧ Below w.heap.size w w' := by
  have HL := Lib.hid hr.len
  have HB := Lib.hid hb
  clear hb
  go_enter Try.func124, Try.ntmps124
  go_wp2_with fail
  refine (clone_any _ _ _ xs _ (by omega) hr).mono ?_
  rintro e w1 ⟨v, rfl, hown, hb1⟩
  have hs1 := hb1.size
  go_wp2_with (at_builtin; refine wpList_append_int2 rfl _ _ rfl w.heap.size _ n xs rfl rfl hown (by omega) hs1 ?_; intro v' w2 hown2 hb2 _ _; obtain ⟨B, d, rfl, hrd, _, _, _⟩ := own_rd hown2)
  have hb12 := hb1.trans hb2
  clear hown hown2 hb2 hs1 hb1
  go_loopw [3, 4, 15] (fun o s i wr => ∃ k : Nat, k ≤ n + 2 ∧ i = .int .i64 k ∧ s = .int .i64 (encSt xs k) ∧ wr.ownsRow w2.heap.size 2 1 o (2 * k) (ints (codeTo xs k)) ∧ Below w2.heap.size w2 wr)
    (fun _ _ i _ => n + 2 - (intOf i).toNat)
  case atStart => exact ⟨0, Nat.zero_le _, rfl, rfl, World.ownsRow_nil _ _ _ _, Below.refl _ _⟩
  case round =>
    obtain ⟨k, hk, rfl, rfl, hown, hbel⟩ := hrel
    by_cases hlt : k < n + 2
    · obtain ⟨ad, rfl, hx⟩ := (hrd.below hbel).int hlt
      rw [getD_zeros] at hx
      have hs := encSt_bd HB.out k
      have hbd := getD_bit HB.out k
      have HM := Lib.hid (codeTo_succ xs k)
      have HS : Hid (encSt xs (k + 1) = nxt (encSt xs k) (xs.getD k 0)) := rfl
      have hsz := hbel.size
      generalize xs.getD k 0 = x at *
      generalize encSt xs k = s at *
      generalize codeTo xs k = L at *
      go_wp2_with (first | (go_at_call 144; refine (take_any _ _ _ (by omega) (by omega) (by omega) (by omega)).mono ?_; rintro e w' ⟨rfl, rfl⟩) | (at_builtin; refine wpList_append_int2 rfl _ _ rfl w2.heap.size _ (2 * k) L rfl rfl hown (by omega) hsz ?_; intro v' w' hown' hbel' _ _))
      go_roundw
      case rel => exact ⟨k + 1, by omega, by go_num, by rw [HS.out], by rw [HM.out]; exact hown', hbel.trans hbel'⟩
      case measure => simp [intOf]; omega
    · obtain rfl : k = n + 2 := by omega
      go_wp2
      go_ret
      exact ⟨_, rfl, by unfold enc; rw [HL.out]; exact own_base hown hb12.size, bstep hb12 hbel (Nat.le_refl _)⟩
end Go.Proofs.Ytlgmdekhlcbhoaa
