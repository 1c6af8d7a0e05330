/- Frames: unstuffing, both sides. Condition: at most 2000 bits. -/
import Derived.Test.YtlgmdekhlcbhoaaFraB
namespace Go.Proofs.Ytlgmdekhlcbhoaa
open Go.RowKit

def unTo (xs : List Int) : Nat → Option (List Int × Nat)
  | 0 => some ([], 0)
  | k + 1 => match unTo xs k with
    | none => none
    | some (L, s) => if s = 5 then (if xs.getD k 0 = 1 then none else some (L, 0)) else some (L ++ [xs.getD k 0], if xs.getD k 0 = 1 then s + 1 else 0)
def unR (xs : List Int) : List Int × Bool := match unTo xs xs.length with
  | none => ([], false)
  | some (L, s) => (L, decide (s < 5))
theorem unTo_succ {xs : List Int} {k s : Nat} {L : List Int} (h : unTo xs k = some (L, s)) :
    unTo xs (k + 1) = if s = 5 then (if xs.getD k 0 = 1 then none else some (L, 0)) else some (L ++ [xs.getD k 0], if xs.getD k 0 = 1 then s + 1 else 0) := by
  show (match unTo xs k with | none => none | some (L, s) => if s = 5 then (if xs.getD k 0 = 1 then none else some (L, 0)) else some (L ++ [xs.getD k 0], if xs.getD k 0 = 1 then s + 1 else 0)) = _
  rw [h]
theorem unTo_bd {xs : List Int} : ∀ {k s : Nat} {L : List Int}, unTo xs k = some (L, s) → s ≤ 5
  | 0, s, L, h => by injection h with h; injection h with _ h; omega
  | k + 1, s, L, h => by
    cases hk : unTo xs k with
    | none => simp [unTo, hk] at h
    | some p =>
      obtain ⟨L0, s0⟩ := p
      have := unTo_bd hk
      rw [unTo_succ hk] at h
      split at h
      · split at h
        · cases h
        · injection h with h; injection h with _ h; omega
      · injection h with h; injection h with _ h; split at h <;> omega
theorem unTo_none {xs : List Int} {k : Nat} (h : unTo xs k = none) : ∀ j, unTo xs (k + j) = none
  | 0 => h
  | j + 1 => by show unTo xs (k + j + 1) = none; simp [unTo, unTo_none h j]
theorem unR_none {xs : List Int} {k : Nat} (hk : k ≤ xs.length) (h : unTo xs k = none) : unR xs = ([], false) := by
  obtain ⟨j, hj⟩ := Nat.exists_eq_add_of_le hk
  unfold unR; rw [hj, unTo_none h j]

set_option maxRecDepth 100000 in
set_option maxHeartbeats 2000000 in
theorem unstuff_any (A : Option Addr) (n c : Nat) (xs : List Int) (w : World) (hn : n ≤ 2000) (hr : Rd w A n (ints xs)) (hb : allIn xs 0 1 = true) :
    Calls Try.prog 173 #[.slice A n c] w fun e w' => ∃ h : Hd, e = .returned (.tuple #[.slice h.A h.n h.c, .bool (unR xs).2]) ∧ Own w' w.heap.size 1 h (ints (unR xs).1) ∧ Below w.heap.size w w' := by
  have HL := Lib.hid hr.len
  have HB := Lib.hid hb
  have hsz00 : w.heap.size ≤ w.heap.size := Nat.le_refl _
  clear hb
  go_enter Try.func173, Try.ntmps173
  go_wp2
  go_loopw [4, 5, 10] (fun v u i wr => ∃ (k : Nat) (hb : Hd) (L : List Int) (s : Nat), k ≤ n ∧ i = .int .i64 k ∧ u = .int .i64 s ∧ v = .slice hb.A hb.n hb.c ∧ unTo xs k = some (L, s) ∧ hb.n ≤ k ∧ Own wr w.heap.size 1 hb (ints L) ∧ Below w.heap.size w wr) (fun _ _ i _ => n - (intOf i).toNat)
  case atStart => exact ⟨0, ⟨none, 0, 0⟩, [], 0, Nat.zero_le _, rfl, rfl, rfl, rfl, Nat.zero_le _, Own.nil _ _ _, Below.refl _ _⟩
  case round =>
    obtain ⟨k, ⟨bA, bn, bc⟩, L, s, hk, rfl, rfl, rfl, hu, hbn, OB, hbel⟩ := hrel
    simp only at hbn
    have HU := Lib.hid hu
    have hs5 := (unTo_bd hu)
    clear hu
    have hsz := hbel.size
    by_cases hlt : k < n
    · obtain ⟨ad, rfl, hx⟩ := (hr.below hbel).int hlt
      have HX2 := fun (W : World) (b : Below w.heap.size w W) => (hr.below b).int hlt
      have HS := Lib.hid (unTo_succ HU.out)
      have hbd := allIn_getD HB.out (show k < xs.length by rw [HL.out]; exact hlt)
      have hk0 : (0 : Int) ≤ (k : Int) := by omega
      have hltI : (k : Int) < (n : Int) := by omega
      have HN : Hid (unTo xs (k + 1) = none → unR xs = ([], false)) := unR_none (by rw [HL.out]; omega)
      generalize xs.getD k 0 = x at *
      by_cases h5 : s = 5
      · subst h5
        by_cases hx1 : x = 1
        · subst hx1
          have HV := Lib.hid (HN.out (by rw [HS.out]; rfl))
          clear HS HN HX2
          go_wp2
          go_ret2
          exact ⟨⟨none, 0, 0⟩, (by first | (rw [HV.out]; done) | (rw [HV.out]; rfl)), by rw [HV.out]; exact Own.nil _ _ _, hbel⟩
        · obtain rfl : x = 0 := by omega
          have HV : Hid (unTo xs (k + 1) = some (L, 0)) := HS.out
          clear HS HN hx1 HX2
          go_wp2
          go_roundw
          case rel => exact ⟨k + 1, ⟨bA, bn, bc⟩, L, 0, by omega, by go_num, rfl, rfl, HV.out, by simp only; omega, OB, hbel⟩
          case measure => simp [intOf]; omega
      · have g5 : ((s : Int) == 5) = false := by simp; omega
        by_cases hx1 : x = 1
        · subst hx1
          have HV : Hid (unTo xs (k + 1) = some (L ++ [1], s + 1)) := by unfold Hid; rw [HS.out, if_neg h5, if_pos rfl]
          clear HS HN h5
          go_wp2_with (at_builtin; refine wpList_append_Own rfl _ _ 22 rfl 2 1 8 Try.underlying22 Int64_info (by decide) w.heap.size ⟨bA, bn, bc⟩ _ rfl (OB.below ((Below.refl _ _).alloc (Nat.le_refl _) _)) _ 1 1 (ints [1]) rfl (by rw [Nat.mul_one]; exact rd_one _ _ _) (oneCell_ints _) (by first | omega | (simp only; omega)) (by decide) (Nat.le_trans hsz (by simp)) ?_; intro k2 w2 hk2 hO2 gg hat; have bb := bstepg (hbel.trans (((Below.refl _ _).alloc (Nat.le_refl _) _).mono hsz)) gg hsz00 (fun b e => (OB.rowlt b e).1))
          have HK2 := Lib.hid hk2
          clear hk2
          go_roundw
          case rel => exact ⟨k + 1, k2, L ++ [1], s + 1, by omega, by go_num, by go_num, (by first | rfl | rw [HK2.out]), HV.out, by rw [HK2.out]; simp only; omega, by rw [ints_append]; exact hO2, bb⟩
          case measure => simp [intOf]; omega
        · obtain rfl : x = 0 := by omega
          have HV : Hid (unTo xs (k + 1) = some (L ++ [0], 0)) := by unfold Hid; rw [HS.out, if_neg h5, if_neg hx1]
          clear HS HN hx1 h5
          go_wp2_with (at_builtin; refine wpList_append_Own rfl _ _ 22 rfl 2 1 8 Try.underlying22 Int64_info (by decide) w.heap.size ⟨bA, bn, bc⟩ _ rfl (OB.below ((Below.refl _ _).alloc (Nat.le_refl _) _)) _ 1 1 (ints [0]) rfl (by rw [Nat.mul_one]; exact rd_one _ _ _) (oneCell_ints _) (by first | omega | (simp only; omega)) (by decide) (Nat.le_trans hsz (by simp)) ?_; intro k2 w2 hk2 hO2 gg hat; have bb := bstepg (hbel.trans (((Below.refl _ _).alloc (Nat.le_refl _) _).mono hsz)) gg hsz00 (fun b e => (OB.rowlt b e).1))
          have HK2 := Lib.hid hk2
          clear hk2
          go_roundw
          case rel => exact ⟨k + 1, k2, L ++ [0], 0, by omega, by go_num, rfl, (by first | rfl | rw [HK2.out]), HV.out, by rw [HK2.out]; simp only; omega, by rw [ints_append]; exact hO2, bb⟩
          case measure => simp [intOf]; omega
    · obtain rfl : k = n := by omega
      have HV : Hid (unR xs = (L, decide ((s : Int) < 5))) := by unfold Hid unR; rw [HL.out, HU.out]; simp; omega
      go_wp2
      go_ret2
      exact ⟨⟨bA, bn, bc⟩, (by first | (rw [HV.out]; done) | (rw [HV.out]; rfl)), by rw [HV.out]; exact OB, hbel⟩

set_option maxRecDepth 100000 in
set_option maxHeartbeats 2000000 in
theorem l25Unstuff_any (A : Option Addr) (n c : Nat) (xs : List Int) (w : World) (hn : n ≤ 2000) (hr : Rd w A n (ints xs)) (hb : allIn xs 0 1 = true) :
    Calls Try.prog 171 #[.slice A n c] w fun e w' => ∃ h : Hd, e = .returned (.tuple #[.slice h.A h.n h.c, .bool (unR xs).2]) ∧ Own w' w.heap.size 1 h (ints (unR xs).1) ∧ Below w.heap.size w w' := by
  have HL := Lib.hid hr.len
  have HB := Lib.hid hb
  have hsz00 : w.heap.size ≤ w.heap.size := Nat.le_refl _
  clear hb
  go_enter Try.func171, Try.ntmps171
  go_wp2
  have b0 : Below w.heap.size w (w.alloc (.cells #[] 2)) := (Below.refl _ _).alloc (Nat.le_refl _) _
  have O0 : Own (w.alloc (.cells #[] 2)) w.heap.size 1 ⟨some ⟨w.heap.size, 0, none⟩, 0, 0⟩ (ints []) := Own.empty _ _ _ _
  generalize hAA : (some ⟨w.heap.size, 0, none⟩ : Option Addr) = AA at O0 ⊢
  clear hAA
  generalize w.alloc (.cells #[] 2) = w0 at O0 b0 ⊢
  go_loopw [4, 5, 6] (fun v u i wr => ∃ (k : Nat) (hb : Hd) (L : List Int) (s : Nat), k ≤ n ∧ i = .int .i64 k ∧ u = .int .i64 s ∧ v = .slice hb.A hb.n hb.c ∧ unTo xs k = some (L, s) ∧ hb.n ≤ k ∧ Own wr w.heap.size 1 hb (ints L) ∧ Below w.heap.size w wr) (fun _ _ i _ => n - (intOf i).toNat)
  case atStart => exact ⟨0, ⟨AA, 0, 0⟩, [], 0, Nat.zero_le _, rfl, rfl, rfl, rfl, Nat.zero_le _, O0, b0⟩
  case round =>
    obtain ⟨k, ⟨bA, bn, bc⟩, L, s, hk, rfl, rfl, rfl, hu, hbn, OB, hbel⟩ := hrel
    simp only at hbn
    have HU := Lib.hid hu
    have hs5 := (unTo_bd hu)
    clear hu
    have hsz := hbel.size
    by_cases hlt : k < n
    · obtain ⟨ad, rfl, hx⟩ := (hr.below hbel).int hlt
      have HX2 := fun (W : World) (b : Below w.heap.size w W) => (hr.below b).int hlt
      have HS := Lib.hid (unTo_succ HU.out)
      have hbd := allIn_getD HB.out (show k < xs.length by rw [HL.out]; exact hlt)
      have hk0 : (0 : Int) ≤ (k : Int) := by omega
      have hltI : (k : Int) < (n : Int) := by omega
      have HN : Hid (unTo xs (k + 1) = none → unR xs = ([], false)) := unR_none (by rw [HL.out]; omega)
      generalize xs.getD k 0 = x at *
      by_cases h5 : s = 5
      · subst h5
        by_cases hx1 : x = 1
        · subst hx1
          have HV := Lib.hid (HN.out (by rw [HS.out]; rfl))
          clear HS HN HX2
          go_wp2
          go_ret2
          exact ⟨⟨none, 0, 0⟩, (by first | (rw [HV.out]; done) | (rw [HV.out]; rfl)), by rw [HV.out]; exact Own.nil _ _ _, hbel⟩
        · obtain rfl : x = 0 := by omega
          have HV : Hid (unTo xs (k + 1) = some (L, 0)) := HS.out
          clear HS HN hx1 HX2
          go_wp2
          go_roundw
          case rel => exact ⟨k + 1, ⟨bA, bn, bc⟩, L, 0, by omega, by go_num, rfl, rfl, HV.out, by simp only; omega, OB, hbel⟩
          case measure => simp [intOf]; omega
      · have g5 : ((s : Int) == 5) = false := by simp; omega
        by_cases hx1 : x = 1
        · subst hx1
          have HV : Hid (unTo xs (k + 1) = some (L ++ [1], s + 1)) := by unfold Hid; rw [HS.out, if_neg h5, if_pos rfl]
          clear HS HN h5
          go_wp2_with (at_builtin; refine wpList_append_Own rfl _ _ 22 rfl 2 1 8 Try.underlying22 Int64_info (by decide) w.heap.size ⟨bA, bn, bc⟩ _ rfl (OB.below ((Below.refl _ _).alloc (Nat.le_refl _) _)) _ 1 1 (ints [1]) rfl (by rw [Nat.mul_one]; exact rd_one _ _ _) (oneCell_ints _) (by first | omega | (simp only; omega)) (by decide) (Nat.le_trans hsz (by simp)) ?_; intro k2 w2 hk2 hO2 gg hat; have bb := bstepg (hbel.trans (((Below.refl _ _).alloc (Nat.le_refl _) _).mono hsz)) gg hsz00 (fun b e => (OB.rowlt b e).1); obtain ⟨_, ⟨⟩, hx2⟩ := HX2 _ bb)
          have HK2 := Lib.hid hk2
          clear hk2
          go_roundw
          case rel => exact ⟨k + 1, k2, L ++ [1], s + 1, by omega, by go_num, by go_num, (by first | rfl | rw [HK2.out]), HV.out, by rw [HK2.out]; simp only; omega, by rw [ints_append]; exact hO2, bb⟩
          case measure => simp [intOf]; omega
        · obtain rfl : x = 0 := by omega
          have HV : Hid (unTo xs (k + 1) = some (L ++ [0], 0)) := by unfold Hid; rw [HS.out, if_neg h5, if_neg hx1]
          clear HS HN hx1 h5
          go_wp2_with (at_builtin; refine wpList_append_Own rfl _ _ 22 rfl 2 1 8 Try.underlying22 Int64_info (by decide) w.heap.size ⟨bA, bn, bc⟩ _ rfl (OB.below ((Below.refl _ _).alloc (Nat.le_refl _) _)) _ 1 1 (ints [0]) rfl (by rw [Nat.mul_one]; exact rd_one _ _ _) (oneCell_ints _) (by first | omega | (simp only; omega)) (by decide) (Nat.le_trans hsz (by simp)) ?_; intro k2 w2 hk2 hO2 gg hat; have bb := bstepg (hbel.trans (((Below.refl _ _).alloc (Nat.le_refl _) _).mono hsz)) gg hsz00 (fun b e => (OB.rowlt b e).1); obtain ⟨_, ⟨⟩, hx2⟩ := HX2 _ bb)
          have HK2 := Lib.hid hk2
          clear hk2
          go_roundw
          case rel => exact ⟨k + 1, k2, L ++ [0], 0, by omega, by go_num, rfl, (by first | rfl | rw [HK2.out]), HV.out, by rw [HK2.out]; simp only; omega, by rw [ints_append]; exact hO2, bb⟩
          case measure => simp [intOf]; omega
    · obtain rfl : k = n := by omega
      have HV : Hid (unR xs = (L, decide ((s : Int) < 5))) := by unfold Hid unR; rw [HL.out, HU.out]; simp; omega
      go_wp2
      go_ret2
      exact ⟨⟨bA, bn, bc⟩, (by first | (rw [HV.out]; done) | (rw [HV.out]; rfl)), by rw [HV.out]; exact OB, hbel⟩
end Go.Proofs.Ytlgmdekhlcbhoaa
