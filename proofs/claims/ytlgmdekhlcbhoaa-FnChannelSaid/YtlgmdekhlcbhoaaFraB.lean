/- Frames: the bits of a byte, lists laid one behind the other, the bits of a frame. Condition: bytes; lists of at most 1000 numbers. -/
import Derived.Test.YtlgmdekhlcbhoaaFraA
import Derived.Test.YtlgmdekhlcbhoaaKern
import Derived.Lib.AppendZeros
namespace Go.Proofs.Ytlgmdekhlcbhoaa
open Go.RowKit

set_option maxRecDepth 100000 in
set_option maxHeartbeats 4000000 in
theorem bitsOf_any (x : Int) (w : World) (h0 : 0 ≤ x) (h1 : x ≤ 255) :
    Calls Try.prog 156 #[.int .i64 x, .int .i64 8] w fun e w' => ∃ h : Hd, e = .returned (.slice h.A h.n h.c) ∧ h.n = 8 ∧ Own w' w.heap.size 1 h (ints (byteBits x)) ∧ Below w.heap.size w w' := by
  have hmk : ∀ W : World, (Instr.makeSlice 22 (.int .i64 8) (.int .i64 8)).run Try.prog W = .ok (.slice (some ⟨W.heap.size, 0, none⟩) 8 8) (W.alloc (.cells (madeCells #[.int .i64 0] 8) 2)) := fun W => run_make_int64 8 (by decide) W
  have HL : Hid ((byteBits x).length = 8) := byteBits_length x
  have O0 : Own (w.alloc (.cells (madeCells #[.int .i64 0] 8) 2)) w.heap.size 1 ⟨some ⟨w.heap.size, 0, none⟩, 8, 8⟩ (ints (List.replicate 8 0)) := Own.made (Nat.le_refl _) (by decide) _
  have B0 : Below w.heap.size w (w.alloc (.cells (madeCells #[.int .i64 0] 8) 2)) := (Below.refl _ _).alloc (Nat.le_refl _) _
  have hz : w.heap.size < (w.alloc (.cells (madeCells #[.int .i64 0] 8) 2)).heap.size := by simp
  go_enter Try.func156, Try.ntmps156
  go_wp2
  clear hmk
  generalize w.alloc (.cells (madeCells #[.int .i64 0] 8) 2) = w1 at O0 B0 hz ⊢
  go_loopw [11] (fun i wr => ∃ k : Nat, k ≤ 8 ∧ i = .int .i64 k ∧ Own wr w.heap.size 1 ⟨some ⟨w.heap.size, 0, none⟩, 8, 8⟩ (ints (mix (byteBits x) (List.replicate 8 0) k)) ∧ Below w.heap.size w wr) (fun i _ => 8 - (intOf i).toNat)
  case atStart => exact ⟨0, Nat.zero_le _, rfl, O0, B0⟩
  case round =>
    clear O0 B0
    obtain ⟨k, hk, rfl, O, hbel⟩ := hrel
    by_cases hlt : k < 8
    · obtain ⟨ad, hA, hd, hf⟩ := O.cell (show k < (⟨some ⟨w.heap.size, 0, none⟩, 8, 8⟩ : Hd).n from hlt)
      simp only at hA
      injection hA with hA
      subst hA
      have HM := Lib.hid (mix_set (byteBits x) (List.replicate 8 0) (by rw [HL.out]; rfl) (k := k) (by simpa using hlt))
      have HO := fun v => Lib.hid (O.set_ (ad := ⟨w.heap.size, 0, none⟩) hlt rfl v)
      rw [add_lit] at hd hf
      simp only [add_lit] at HO
      have hbv : (byteBits x).getD k 0 = x / ((2 ^ (7 - k) : Nat) : Int) % 2 := range_map_getD _ hlt
      rw [hbv] at HM
      clear hbv O
      generalize mix (byteBits x) (List.replicate 8 0) k = L at *
      generalize L.getD k 0 = y at *
      rcases (show k = 0 ∨ k = 1 ∨ k = 2 ∨ k = 3 ∨ k = 4 ∨ k = 5 ∨ k = 6 ∨ k = 7 by omega) with rfl | rfl | rfl | rfl | rfl | rfl | rfl | rfl
      · have hbv : bits .and .i64 (x / 128) 1 = (x / 128) % 2 := and1 (by omega) (by omega)
        have HM2 := HM.out
        rw [show x / ((2 ^ (7 - 0) : Nat) : Int) = x / 128 from rfl] at HM2
        have HM3 := Lib.hid HM2
        clear HM2
        go_wp2
        go_roundw
        case rel => exact ⟨1, by omega, by go_num, by rw [← HM3.out]; exact (HO _).out, hbel.setCell (Nat.le_refl _) _⟩
        case measure => simp [intOf]
      · have hbv : bits .and .i64 (x / 64) 1 = (x / 64) % 2 := and1 (by omega) (by omega)
        have HM2 := HM.out
        rw [show x / ((2 ^ (7 - 1) : Nat) : Int) = x / 64 from rfl] at HM2
        have HM3 := Lib.hid HM2
        clear HM2
        go_wp2
        go_roundw
        case rel => exact ⟨2, by omega, by go_num, by rw [← HM3.out]; exact (HO _).out, hbel.setCell (Nat.le_refl _) _⟩
        case measure => simp [intOf]
      · have hbv : bits .and .i64 (x / 32) 1 = (x / 32) % 2 := and1 (by omega) (by omega)
        have HM2 := HM.out
        rw [show x / ((2 ^ (7 - 2) : Nat) : Int) = x / 32 from rfl] at HM2
        have HM3 := Lib.hid HM2
        clear HM2
        go_wp2
        go_roundw
        case rel => exact ⟨3, by omega, by go_num, by rw [← HM3.out]; exact (HO _).out, hbel.setCell (Nat.le_refl _) _⟩
        case measure => simp [intOf]
      · have hbv : bits .and .i64 (x / 16) 1 = (x / 16) % 2 := and1 (by omega) (by omega)
        have HM2 := HM.out
        rw [show x / ((2 ^ (7 - 3) : Nat) : Int) = x / 16 from rfl] at HM2
        have HM3 := Lib.hid HM2
        clear HM2
        go_wp2
        go_roundw
        case rel => exact ⟨4, by omega, by go_num, by rw [← HM3.out]; exact (HO _).out, hbel.setCell (Nat.le_refl _) _⟩
        case measure => simp [intOf]
      · have hbv : bits .and .i64 (x / 8) 1 = (x / 8) % 2 := and1 (by omega) (by omega)
        have HM2 := HM.out
        rw [show x / ((2 ^ (7 - 4) : Nat) : Int) = x / 8 from rfl] at HM2
        have HM3 := Lib.hid HM2
        clear HM2
        go_wp2
        go_roundw
        case rel => exact ⟨5, by omega, by go_num, by rw [← HM3.out]; exact (HO _).out, hbel.setCell (Nat.le_refl _) _⟩
        case measure => simp [intOf]
      · have hbv : bits .and .i64 (x / 4) 1 = (x / 4) % 2 := and1 (by omega) (by omega)
        have HM2 := HM.out
        rw [show x / ((2 ^ (7 - 5) : Nat) : Int) = x / 4 from rfl] at HM2
        have HM3 := Lib.hid HM2
        clear HM2
        go_wp2
        go_roundw
        case rel => exact ⟨6, by omega, by go_num, by rw [← HM3.out]; exact (HO _).out, hbel.setCell (Nat.le_refl _) _⟩
        case measure => simp [intOf]
      · have hbv : bits .and .i64 (x / 2) 1 = (x / 2) % 2 := and1 (by omega) (by omega)
        have HM2 := HM.out
        rw [show x / ((2 ^ (7 - 6) : Nat) : Int) = x / 2 from rfl] at HM2
        have HM3 := Lib.hid HM2
        clear HM2
        go_wp2
        go_roundw
        case rel => exact ⟨7, by omega, by go_num, by rw [← HM3.out]; exact (HO _).out, hbel.setCell (Nat.le_refl _) _⟩
        case measure => simp [intOf]
      · have hbv : bits .and .i64 x 1 = x % 2 := and1 (by omega) (by omega)
        have HM2 := HM.out
        rw [show x / ((2 ^ (7 - 7) : Nat) : Int) = x from Int.ediv_one x] at HM2
        have HM3 := Lib.hid HM2
        clear HM2
        go_wp2
        go_roundw
        case rel => exact ⟨8, by omega, by go_num, by rw [← HM3.out]; exact (HO _).out, hbel.setCell (Nat.le_refl _) _⟩
        case measure => simp [intOf]
    · obtain rfl : k = 8 := by omega
      have HE : Hid (mix (byteBits x) (List.replicate 8 0) 8 = byteBits x) := mix_end (byteBits x) (List.replicate 8 0) (by rw [HL.out]; rfl)
      go_wp2
      go_ret
      exact ⟨_, rfl, rfl, by rw [HE.out] at O; exact O, hbel⟩

theorem tInt64_kind : Try.prog.underlying 3 = some (.int .i64) := by kernel_rfl
set_option maxHeartbeats 1000000 in
theorem grow_any (n : Nat) (w : World) (hn : n ≤ 1000000) :
    Calls Try.prog 176 #[.slice none 0 0, .int .i64 n] w fun e w' => ∃ h : Hd, e = .returned (.slice h.A h.n h.c) ∧ h.n = 0 ∧ Own w' w.heap.size 1 h (ints []) ∧ Below w.heap.size w w' := by
  by_cases h0 : n = 0
  · subst h0
    go_enter Try.func176, Try.ntmps176
    go_wp2
    go_ret
    exact ⟨⟨none, 0, 0⟩, rfl, rfl, Own.nil _ _ _, Below.refl _ _⟩
  · have hp : 0 < n := by omega
    obtain ⟨i0, hi0, hz0, hz1, hz2⟩ := info_parts int64_info
    have hrz : ∀ ty, (Builtin.append_ #[22, 3] ty #[.slice none 0 0, .int .i64 n]).run Try.prog w =
        .ok (.slice (some ⟨w.heap.size, 0, none⟩) n (grownCap w n 0 2)) (w.drew.alloc (.cells (Builtin.zeroCells (Value.int .i64 0).cells n ++ Builtin.zeroCells (Value.int .i64 0).cells (grownCap w n 0 2 - n)) 2)) := fun ty =>
      Lib.run_append_nil_zeros w 22 3 ty 2 i0 _ .i64 .i64 Try.underlying22 tInt64_kind hi0 hz0 n hp (by rw [hz1]; decide) (by omega) (by rw [hz2]; omega)
    have hge := grownCap_ge w n 0 2
    have hle := grownCap_le_maxLen w n 0 2 (by unfold maxLen; omega)
    generalize grownCap w n 0 2 = G at *
    have O : Own (w.drew.alloc (.cells (Builtin.zeroCells (Value.int .i64 0).cells n ++ Builtin.zeroCells (Value.int .i64 0).cells (G - n)) 2)) w.heap.size 1 ⟨some ⟨w.heap.size, 0, none⟩, 0, G⟩ (ints []) := by
      have hr := World.ownsRow_made (base := w.heap.size) (e := 2) (size := 1) w.drew (Builtin.zeroCells (Value.int .i64 0).cells n ++ Builtin.zeroCells (Value.int .i64 0).cells (G - n)) G (Nat.le_refl _) hle (by rw [Array.size_append, size_zeroCells, size_zeroCells]; show n * 1 + (G - n) * 1 = G * 1; omega)
      obtain ⟨h, hv, hn0, ho, _⟩ := Own.of_row (by decide) hr
      injection hv with e1 e2 e3
      obtain ⟨hA, hn, hc⟩ := h
      simp only at e1 e2 e3
      subst e1 e2 e3
      exact ho
    have hB : Below w.heap.size w (w.drew.alloc (.cells (Builtin.zeroCells (Value.int .i64 0).cells n ++ Builtin.zeroCells (Value.int .i64 0).cells (G - n)) 2)) := (Below.drew (Below.refl _ _)).alloc (Nat.le_refl _) _
    have hG63 : G ≤ 9223372036854775807 := by unfold maxLen at hle; exact hle
    generalize w.drew.alloc (.cells (Builtin.zeroCells (Value.int .i64 0).cells n ++ Builtin.zeroCells (Value.int .i64 0).cells (G - n)) 2) = w1 at hrz O hB
    have hpos : (0 : Int) < (n : Int) := by omega
    have HR := Lib.hid hrz
    clear hrz hle hz0 hz1 hz2 hi0
    go_enter Try.func176, Try.ntmps176
    go_wp2_with (at_builtin; refine Lib.wpList_append_run _ rfl _ _ _ _ rfl _ _ rfl rfl _ _ (HR.out _) ?_)
    go_ret
    exact ⟨⟨some ⟨w.heap.size, 0, none⟩, 0, G⟩, rfl, rfl, O, hB⟩

/-- k lists, one behind the other -/
def catTo (X : Nat → List Int) (k : Nat) : List Int := (List.range k).flatMap X
theorem catTo_succ (X : Nat → List Int) (k : Nat) : catTo X (k + 1) = catTo X k ++ X k := by unfold catTo; rw [List.range_succ, List.flatMap_append]; simp
set_option maxRecDepth 100000 in
set_option maxHeartbeats 2000000 in
theorem concat_any (g m c : Nat) (H : Nat → Hd) (X : Nat → List Int) (w : World) (hm : m ≤ 100) (hg : g < w.heap.size) (hc : ∀ i, i < m → w.cell? ⟨g, i, none⟩ = some (.slice (H i).A (H i).n (H i).c)) (hr : ∀ i, i < m → Rd w (H i).A (H i).n (ints (X i)) ∧ (H i).n ≤ 2000) :
    Calls Try.prog 154 #[.slice (some ⟨g, 0, none⟩) m c] w fun e w' => ∃ h : Hd, e = .returned (.slice h.A h.n h.c) ∧ Own w' w.heap.size 1 h (ints (catTo X m)) ∧ Below w.heap.size w w' := by
  have HC := Lib.hid hc
  have HR := Lib.hid hr
  clear hc hr
  go_enter Try.func154, Try.ntmps154
  go_wp2
  go_loop [3, 11] (fun s i => ∃ k q : Nat, k ≤ m ∧ q ≤ 2000 * k ∧ i = .int .i64 k ∧ s = .int .i64 q) (fun _ i => m - (intOf i).toNat)
  case atStart => exact ⟨0, 0, Nat.zero_le _, Nat.zero_le _, rfl, rfl⟩
  case round =>
    obtain ⟨k, q, hk, hq, rfl, rfl⟩ := hrel
    by_cases hlt : k < m
    · have hc := HC.out k hlt
      have hn := (HR.out k hlt).2
      generalize (H k).A = A at *
      generalize (H k).n = n at *
      generalize (H k).c = cc at *
      go_wp2
      go_round
      case rel => exact ⟨k + 1, q + n, by omega, by omega, by go_num, by go_num⟩
      case measure => simp [intOf]; omega
    · have hkm : k = m := by omega
      clear hlt
      go_wp2_with fail
      refine (grow_any q _ (by omega)).mono ?_
      rintro e w1 ⟨h, rfl, hn0, O, b1⟩
      obtain ⟨hA, hn, hcp⟩ := h
      simp only at hn0
      subst hn0
      go_wp2
      go_loopw [6, 27] (fun v i wr => ∃ (k : Nat) (h : Hd), k ≤ m ∧ i = .int .i64 k ∧ v = .slice h.A h.n h.c ∧ h.n ≤ 2000 * k ∧ Own wr w.heap.size 1 h (ints (catTo X k)) ∧ Below w.heap.size w wr) (fun _ i _ => m - (intOf i).toNat)
      case atStart => exact ⟨0, ⟨hA, 0, hcp⟩, Nat.zero_le _, rfl, rfl, Nat.zero_le _, O, b1⟩
      case round =>
        clear O b1 hkm hq hk
        obtain ⟨k, h, hk, rfl, rfl, hkn, O, hbel⟩ := hrel
        by_cases hlt : k < m
        · have hc := (hbel.cell (p := ⟨g, k, none⟩) hg).trans (HC.out k hlt)
          have hrr := HR.out k hlt
          have hr := hrr.1.below hbel
          have hn := hrr.2
          have HM := Lib.hid (catTo_succ X k)
          have hsz := hbel.size
          clear hrr
          generalize (H k).A = A at *
          generalize (H k).n = n at *
          generalize (H k).c = cc at *
          generalize X k = xs at *
          generalize catTo X k = L at *
          go_wp2_with (at_builtin; refine wpList_append_Own rfl _ _ 22 rfl 2 1 8 Try.underlying22 Int64_info (by decide) w.heap.size h (ints L) rfl O A n cc (ints xs) rfl (by rw [Nat.mul_one]; exact hr) (oneCell_ints _) (by omega) (by decide) hsz ?_; intro k2 w2 hk2 hO2 gg hat)
          have HK2 := Lib.hid hk2
          clear hk2
          go_roundw
          case rel => exact ⟨k + 1, k2, by omega, by go_num, by rw [HK2.out], by have := HK2.out; omega, by rw [HM.out, ints_append]; exact hO2, bstepg hbel gg (Nat.le_refl _) (fun b e => (O.rowlt b e).1)⟩
          case measure => simp [intOf]; omega
        · obtain rfl : k = m := by omega
          go_wp2
          go_ret
          exact ⟨h, rfl, O, hbel⟩
end Go.Proofs.Ytlgmdekhlcbhoaa
