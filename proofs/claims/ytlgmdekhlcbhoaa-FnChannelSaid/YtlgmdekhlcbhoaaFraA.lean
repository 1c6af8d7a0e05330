/- Frames: check numbers, stuffed bits, flags, the bits of a byte. Condition: bytes and bits; lists of at most 1000 numbers. -/
import Derived.Test.YtlgmdekhlcbhoaaFraM
import Derived.Test.YtlgmdekhlcbhoaaKern
import Derived.Test.YtlgmdekhlcbhoaaBurst
namespace Go.Proofs.Ytlgmdekhlcbhoaa
open Go.RowKit

theorem two_pow7 (k : Nat) (hk : k < 8) : ∀ b : Int, b / ((2 ^ (7 - k) : Nat) : Int) = (match k with | 0 => b / 128 | 1 => b / 64 | 2 => b / 32 | 3 => b / 16 | 4 => b / 8 | 5 => b / 4 | 6 => b / 2 | _ => b / 1) := fun b => by
  match k, hk with
  | 0, _ => rfl
  | 1, _ => rfl
  | 2, _ => rfl
  | 3, _ => rfl
  | 4, _ => rfl
  | 5, _ => rfl
  | 6, _ => rfl
  | 7, _ => rfl

/-- a literal, owned -/
theorem lit_own (w : World) (xs : List Int) (e : TypeId) (B : Nat) (hB : B ≤ w.heap.size) (hn : xs.length ≤ 1000) : Own (w.alloc (.cells (ints xs).toArray e)) B 1 ⟨some ⟨w.heap.size, 0, none⟩, xs.length, xs.length⟩ (ints xs) := by
  have hb := Blk.new w e (ints xs).toArray
  refine ⟨by unfold ints; simp, Nat.le_refl _, by unfold maxLen; simp only; omega, (fun h => by cases h), fun ad ea _ => ?_⟩
  injection ea with ea
  subst ea
  refine ⟨hB, hb.lt, rfl, fun i hi => ⟨?_, by rw [add_lit]; exact hb.frozen i⟩⟩
  have hi' : i < xs.length := by simpa using hi
  have hl : i < (ints xs).length := by unfold ints; simpa using hi'
  refine ⟨(ints xs)[i], by rw [add_lit, hb.cell]; simp [hl], fun u hu => ?_⟩
  rw [List.getElem?_eq_getElem hl] at hu
  exact Option.some.inj hu
theorem flag_own (w : World) (e : TypeId) : Own (w.alloc (.cells #[.int .i64 0, .int .i64 1, .int .i64 1, .int .i64 1, .int .i64 1, .int .i64 1, .int .i64 1, .int .i64 0] e)) w.heap.size 1 ⟨some ⟨w.heap.size, 0, none⟩, 8, 8⟩ (ints flagL) := lit_own w flagL e _ (Nat.le_refl _) (by decide)

set_option maxRecDepth 100000 in
set_option maxHeartbeats 4000000 in
theorem check_any (A : Option Addr) (n c : Nat) (xs : List Int) (w : World) (hn : n ≤ 1000) (hr : Rd w A n (ints xs)) (hb : allIn xs 0 255 = true) :
    Calls Try.prog 155 #[.slice A n c] w fun e w' => e = .returned (.int .i64 (crc xs n)) ∧ w = w' := by
  have HB := Lib.hid hb
  have HL := Lib.hid hr.len
  clear hb
  go_enter Try.func155, Try.ntmps155
  go_wp2
  go_loop [3, 10] (fun r i => ∃ k : Nat, k ≤ n ∧ i = .int .i64 k ∧ r = .int .i64 (crc xs k)) (fun _ i => n - (intOf i).toNat)
  case atStart => exact ⟨0, Nat.zero_le _, rfl, rfl⟩
  case round =>
    obtain ⟨k, hk, rfl, rfl⟩ := hrel
    by_cases hlt : k < n
    · obtain ⟨ad, rfl, hx⟩ := hr.int hlt
      have hbx := allIn_getD HB.out (show k < xs.length by rw [HL.out]; exact hlt)
      have hcb := crc_bd xs k
      have HS : Hid (crc xs (k + 1) = crcByte (crc xs k) (xs.getD k 0) 8) := rfl
      generalize xs.getD k 0 = x at *
      generalize crc xs k = r at *
      have HR := Lib.hid hcb
      clear hcb
      go_wp2
      go_loop [3, 6] (fun q i => ∃ j : Nat, j ≤ 8 ∧ i = .int .i64 (7 - (j : Int)) ∧ q = .int .i64 (crcByte r x j)) (fun _ i => (intOf i + 1).toNat)
      case atStart => exact ⟨0, by omega, rfl, rfl⟩
      case round =>
        obtain ⟨j, hj, rfl, rfl⟩ := hrel
        have hq := crcByte_bd HR.out (x := x) j
        have HC : Hid (crcByte r x (j + 1) = crcBit (crcByte r x j) (x / ((2 ^ (7 - j) : Nat) : Int) % 2)) := rfl
        have HE : Hid (crc xs (k + 1) = crcByte r x 8) := HS.out
        by_cases hj8 : j = 8
        · subst hj8
          go_wp2
          go_round
          case rel => exact ⟨k + 1, by omega, by go_num, by rw [HE.out]⟩
          case measure => simp [intOf]; omega
        have hjl : j < 8 := by omega
        clear hj8
        generalize crcByte r x j = q at *
        have ht : bits .and .i64 (q / 32768) 1 = q / 32768 := by rw [and1 (by omega) (by omega)]; omega
        have h65 : bits .and .i64 (q * 2) 65535 = q * 2 % 65536 := and65535 (by omega) (by omega)
        have hq2 : 0 ≤ q * 2 % 65536 ∧ q * 2 % 65536 < 65536 := by omega
        have fin : ∀ b : Int, (∀ B : Bool, (q / 32768 != b) = B → crcBit q b = if B = true then bits .xor .i64 (q * 2 % 65536) 4129 else q * 2 % 65536) := fun b B hB => by
          unfold crcBit
          rw [Int.mul_comm 2 q]
          by_cases e : q / 32768 = b
          · rw [if_pos e, ← hB]; simp [e]
          · rw [if_neg e, ← hB]; simp [e]
        have FN := Lib.hid fin
        clear fin
        rcases (show j = 0 ∨ j = 1 ∨ j = 2 ∨ j = 3 ∨ j = 4 ∨ j = 5 ∨ j = 6 ∨ j = 7 by omega) with rfl | rfl | rfl | rfl | rfl | rfl | rfl | rfl
        · have hbv : bits .and .i64 (x / 128) 1 = (x / 128) % 2 := and1 (by omega) (by omega)
          have HV : Hid (crcByte r x 1 = crcBit q ((x / 128) % 2)) := by have h := HC.out; exact h
          generalize (x / 128) % 2 = b at *
          cases hB : (q / 32768 != b)
          all_goals
            have HF := Lib.hid (FN.out b _ hB)
            go_wp2
            go_round
            case rel => exact ⟨1, by omega, by go_num, by rw [HV.out, HF.out]; rfl⟩
            case measure => simp [intOf]
        · have hbv : bits .and .i64 (x / 64) 1 = (x / 64) % 2 := and1 (by omega) (by omega)
          have HV : Hid (crcByte r x 2 = crcBit q ((x / 64) % 2)) := by have h := HC.out; exact h
          generalize (x / 64) % 2 = b at *
          cases hB : (q / 32768 != b)
          all_goals
            have HF := Lib.hid (FN.out b _ hB)
            go_wp2
            go_round
            case rel => exact ⟨2, by omega, by go_num, by rw [HV.out, HF.out]; rfl⟩
            case measure => simp [intOf]
        · have hbv : bits .and .i64 (x / 32) 1 = (x / 32) % 2 := and1 (by omega) (by omega)
          have HV : Hid (crcByte r x 3 = crcBit q ((x / 32) % 2)) := by have h := HC.out; exact h
          generalize (x / 32) % 2 = b at *
          cases hB : (q / 32768 != b)
          all_goals
            have HF := Lib.hid (FN.out b _ hB)
            go_wp2
            go_round
            case rel => exact ⟨3, by omega, by go_num, by rw [HV.out, HF.out]; rfl⟩
            case measure => simp [intOf]
        · have hbv : bits .and .i64 (x / 16) 1 = (x / 16) % 2 := and1 (by omega) (by omega)
          have HV : Hid (crcByte r x 4 = crcBit q ((x / 16) % 2)) := by have h := HC.out; exact h
          generalize (x / 16) % 2 = b at *
          cases hB : (q / 32768 != b)
          all_goals
            have HF := Lib.hid (FN.out b _ hB)
            go_wp2
            go_round
            case rel => exact ⟨4, by omega, by go_num, by rw [HV.out, HF.out]; rfl⟩
            case measure => simp [intOf]
        · have hbv : bits .and .i64 (x / 8) 1 = (x / 8) % 2 := and1 (by omega) (by omega)
          have HV : Hid (crcByte r x 5 = crcBit q ((x / 8) % 2)) := by have h := HC.out; exact h
          generalize (x / 8) % 2 = b at *
          cases hB : (q / 32768 != b)
          all_goals
            have HF := Lib.hid (FN.out b _ hB)
            go_wp2
            go_round
            case rel => exact ⟨5, by omega, by go_num, by rw [HV.out, HF.out]; rfl⟩
            case measure => simp [intOf]
        · have hbv : bits .and .i64 (x / 4) 1 = (x / 4) % 2 := and1 (by omega) (by omega)
          have HV : Hid (crcByte r x 6 = crcBit q ((x / 4) % 2)) := by have h := HC.out; exact h
          generalize (x / 4) % 2 = b at *
          cases hB : (q / 32768 != b)
          all_goals
            have HF := Lib.hid (FN.out b _ hB)
            go_wp2
            go_round
            case rel => exact ⟨6, by omega, by go_num, by rw [HV.out, HF.out]; rfl⟩
            case measure => simp [intOf]
        · have hbv : bits .and .i64 (x / 2) 1 = (x / 2) % 2 := and1 (by omega) (by omega)
          have HV : Hid (crcByte r x 7 = crcBit q ((x / 2) % 2)) := by have h := HC.out; exact h
          generalize (x / 2) % 2 = b at *
          cases hB : (q / 32768 != b)
          all_goals
            have HF := Lib.hid (FN.out b _ hB)
            go_wp2
            go_round
            case rel => exact ⟨7, by omega, by go_num, by rw [HV.out, HF.out]; rfl⟩
            case measure => simp [intOf]
        · have hbv : bits .and .i64 x 1 = x % 2 := and1 (by omega) (by omega)
          have HV : Hid (crcByte r x 8 = crcBit q (x % 2)) := by have h := HC.out; rw [show x / ((2 ^ (7 - 7) : Nat) : Int) = x from Int.ediv_one x] at h; exact h
          generalize x % 2 = b at *
          cases hB : (q / 32768 != b)
          all_goals
            have HF := Lib.hid (FN.out b _ hB)
            go_wp2
            go_round
            case rel => exact ⟨8, by omega, by go_num, by rw [HV.out, HF.out]; rfl⟩
            case measure => simp [intOf]
    · obtain rfl : k = n := by omega
      go_wp2
      go_ret
      exact ⟨rfl, rfl⟩
set_option maxRecDepth 100000 in
set_option maxHeartbeats 4000000 in
theorem l25Check_any (A : Option Addr) (n c : Nat) (xs : List Int) (w : World) (hn : n ≤ 1000) (hr : Rd w A n (ints xs)) (hb : allIn xs 0 255 = true) :
    Calls Try.prog 160 #[.slice A n c] w fun e w' => e = .returned (.int .i64 (crc xs n)) ∧ w = w' := by
  have HB := Lib.hid hb
  have HL := Lib.hid hr.len
  clear hb
  go_enter Try.func160, Try.ntmps160
  go_wp2
  go_loop [3, 4] (fun r i => ∃ k : Nat, k ≤ n ∧ i = .int .i64 k ∧ r = .int .i64 (crc xs k)) (fun _ i => n - (intOf i).toNat)
  case atStart => exact ⟨0, Nat.zero_le _, rfl, rfl⟩
  case round =>
    obtain ⟨k, hk, rfl, rfl⟩ := hrel
    by_cases hlt : k < n
    · obtain ⟨ad, rfl, hx⟩ := hr.int hlt
      have hbx := allIn_getD HB.out (show k < xs.length by rw [HL.out]; exact hlt)
      have hcb := crc_bd xs k
      have HS : Hid (crc xs (k + 1) = crcByte (crc xs k) (xs.getD k 0) 8) := rfl
      generalize xs.getD k 0 = x at *
      generalize crc xs k = r at *
      have HR := Lib.hid hcb
      clear hcb
      have hi0 : (0 : Int) ≤ (k : Int) := by omega
      have hi1 : (k : Int) < (n : Int) := by omega
      go_wp2
      go_loop [3, 5] (fun q i => ∃ j : Nat, j ≤ 8 ∧ i = .int .u64 (8 - (j : Int)) ∧ q = .int .i64 (crcByte r x j)) (fun _ i => (intOf i).toNat)
      case atStart => exact ⟨0, by omega, rfl, rfl⟩
      case round =>
        obtain ⟨j, hj, rfl, rfl⟩ := hrel
        have hq := crcByte_bd HR.out (x := x) j
        have HC : Hid (crcByte r x (j + 1) = crcBit (crcByte r x j) (x / ((2 ^ (7 - j) : Nat) : Int) % 2)) := rfl
        have HE : Hid (crc xs (k + 1) = crcByte r x 8) := HS.out
        by_cases hj8 : j = 8
        · subst hj8
          go_wp2
          go_round
          case rel => exact ⟨k + 1, by omega, by go_num, by rw [HE.out]⟩
          case measure => simp [intOf]; omega
        have hjl : j < 8 := by omega
        clear hj8
        generalize crcByte r x j = q at *
        have h65 : bits .and .i64 (q * 2) 65535 = q * 2 % 65536 := and65535 (by omega) (by omega)
        have hq2 : 0 ≤ q * 2 % 65536 ∧ q * 2 % 65536 < 65536 := by omega
        have fin : ∀ b : Int, (∀ B : Bool, (q / 32768 != b) = B → crcBit q b = if B = true then bits .xor .i64 (q * 2 % 65536) 4129 else q * 2 % 65536) := fun b B hB => by
          unfold crcBit
          rw [Int.mul_comm 2 q]
          by_cases e : q / 32768 = b
          · rw [if_pos e, ← hB]; simp [e]
          · rw [if_neg e, ← hB]; simp [e]
        have FN := Lib.hid fin
        clear fin
        rcases (show j = 0 ∨ j = 1 ∨ j = 2 ∨ j = 3 ∨ j = 4 ∨ j = 5 ∨ j = 6 ∨ j = 7 by omega) with rfl | rfl | rfl | rfl | rfl | rfl | rfl | rfl
        · have hbv : bits .and .i64 (x / 128) 1 = (x / 128) % 2 := and1 (by omega) (by omega)
          have HV : Hid (crcByte r x 1 = crcBit q ((x / 128) % 2)) := by have h := HC.out; exact h
          generalize (x / 128) % 2 = b at *
          cases hB : (q / 32768 != b)
          all_goals
            have HF := Lib.hid (FN.out b _ hB)
            go_wp2
            go_round
            case rel => exact ⟨1, by omega, by go_num, by rw [HV.out, HF.out]; rfl⟩
            case measure => simp [intOf]
        · have hbv : bits .and .i64 (x / 64) 1 = (x / 64) % 2 := and1 (by omega) (by omega)
          have HV : Hid (crcByte r x 2 = crcBit q ((x / 64) % 2)) := by have h := HC.out; exact h
          generalize (x / 64) % 2 = b at *
          cases hB : (q / 32768 != b)
          all_goals
            have HF := Lib.hid (FN.out b _ hB)
            go_wp2
            go_round
            case rel => exact ⟨2, by omega, by go_num, by rw [HV.out, HF.out]; rfl⟩
            case measure => simp [intOf]
        · have hbv : bits .and .i64 (x / 32) 1 = (x / 32) % 2 := and1 (by omega) (by omega)
          have HV : Hid (crcByte r x 3 = crcBit q ((x / 32) % 2)) := by have h := HC.out; exact h
          generalize (x / 32) % 2 = b at *
          cases hB : (q / 32768 != b)
          all_goals
            have HF := Lib.hid (FN.out b _ hB)
            go_wp2
            go_round
            case rel => exact ⟨3, by omega, by go_num, by rw [HV.out, HF.out]; rfl⟩
            case measure => simp [intOf]
        · have hbv : bits .and .i64 (x / 16) 1 = (x / 16) % 2 := and1 (by omega) (by omega)
          have HV : Hid (crcByte r x 4 = crcBit q ((x / 16) % 2)) := by have h := HC.out; exact h
          generalize (x / 16) % 2 = b at *
          cases hB : (q / 32768 != b)
          all_goals
            have HF := Lib.hid (FN.out b _ hB)
            go_wp2
            go_round
            case rel => exact ⟨4, by omega, by go_num, by rw [HV.out, HF.out]; rfl⟩
            case measure => simp [intOf]
        · have hbv : bits .and .i64 (x / 8) 1 = (x / 8) % 2 := and1 (by omega) (by omega)
          have HV : Hid (crcByte r x 5 = crcBit q ((x / 8) % 2)) := by have h := HC.out; exact h
          generalize (x / 8) % 2 = b at *
          cases hB : (q / 32768 != b)
          all_goals
            have HF := Lib.hid (FN.out b _ hB)
            go_wp2
            go_round
            case rel => exact ⟨5, by omega, by go_num, by rw [HV.out, HF.out]; rfl⟩
            case measure => simp [intOf]
        · have hbv : bits .and .i64 (x / 4) 1 = (x / 4) % 2 := and1 (by omega) (by omega)
          have HV : Hid (crcByte r x 6 = crcBit q ((x / 4) % 2)) := by have h := HC.out; exact h
          generalize (x / 4) % 2 = b at *
          cases hB : (q / 32768 != b)
          all_goals
            have HF := Lib.hid (FN.out b _ hB)
            go_wp2
            go_round
            case rel => exact ⟨6, by omega, by go_num, by rw [HV.out, HF.out]; rfl⟩
            case measure => simp [intOf]
        · have hbv : bits .and .i64 (x / 2) 1 = (x / 2) % 2 := and1 (by omega) (by omega)
          have HV : Hid (crcByte r x 7 = crcBit q ((x / 2) % 2)) := by have h := HC.out; exact h
          generalize (x / 2) % 2 = b at *
          cases hB : (q / 32768 != b)
          all_goals
            have HF := Lib.hid (FN.out b _ hB)
            go_wp2
            go_round
            case rel => exact ⟨7, by omega, by go_num, by rw [HV.out, HF.out]; rfl⟩
            case measure => simp [intOf]
        · have hbv : bits .and .i64 x 1 = x % 2 := and1 (by omega) (by omega)
          have HV : Hid (crcByte r x 8 = crcBit q (x % 2)) := by have h := HC.out; rw [show x / ((2 ^ (7 - 7) : Nat) : Int) = x from Int.ediv_one x] at h; exact h
          generalize x % 2 = b at *
          cases hB : (q / 32768 != b)
          all_goals
            have HF := Lib.hid (FN.out b _ hB)
            go_wp2
            go_round
            case rel => exact ⟨8, by omega, by go_num, by rw [HV.out, HF.out]; rfl⟩
            case measure => simp [intOf]
    · obtain rfl : k = n := by omega
      go_wp2
      go_ret
      exact ⟨rfl, rfl⟩

set_option maxRecDepth 100000 in
set_option maxHeartbeats 4000000 in
theorem stuff_any (A : Option Addr) (n c : Nat) (xs : List Int) (w : World) (hn : n ≤ 2000) (hr : Rd w A n (ints xs)) :
    Calls Try.prog 158 #[.slice A n c] w fun e w' => ∃ h : Hd, e = .returned (.slice h.A h.n h.c) ∧ Own w' w.heap.size 1 h (ints (stuffL xs)) ∧ Below w.heap.size w w' := by
  have HL := Lib.hid hr.len
  go_enter Try.func158, Try.ntmps158
  go_wp2
  go_loopw [3, 4, 9] (fun o u i wr => ∃ (k m : Nat), k ≤ n ∧ i = .int .i64 k ∧ m ≤ 2 * k ∧ u = .int .i64 ((stuffTo xs k).2 : Int) ∧ wr.ownsRow w.heap.size 2 1 o m (ints (stuffTo xs k).1) ∧ Below w.heap.size w wr) (fun _ _ i _ => n - (intOf i).toNat)
  case atStart => exact ⟨0, 0, Nat.zero_le _, rfl, Nat.zero_le _, rfl, World.ownsRow_nil _ _ _ _, Below.refl _ _⟩
  case round =>
    obtain ⟨k, m, hk, rfl, hm, rfl, hown, hbel⟩ := hrel
    by_cases hlt : k < n
    · have hkl : k < xs.length := by rw [HL.out]; exact hlt
      obtain ⟨ad, rfl, hx⟩ := (hr.below hbel).int hlt
      have hsz := hbel.size
      have HS := Lib.hid (stuffTo_succ hkl)
      have hb4 := (stuffTo_bd (xs := xs) k (by omega)).1
      have hi0 : (0 : Int) ≤ (k : Int) := by omega
      have hi1 : (k : Int) < (n : Int) := by omega
      have HX2 := fun (W : World) (b : Below w.heap.size w W) => (hr.below b).int hlt
      generalize xs.getD k 0 = x at *
      generalize stuffTo xs k = s at *
      obtain ⟨L, u⟩ := s
      simp only at *
      by_cases hx0 : x = 0
      · subst hx0
        have HV : Hid (stuffStep (L, u) 0 = (L ++ [0], 0)) := rfl
        go_wp2_with (first | (at_builtin; refine wpList_append_int1 rfl _ _ rfl w.heap.size _ m L rfl rfl hown (by omega) hsz ?_; intro v' w' hown' hbel' _ _; obtain ⟨_, ⟨⟩, hx2⟩ := HX2 _ (hbel.trans hbel'); have bb := hbel.trans hbel'; have hsz2 := bb.size) | (at_builtin; refine wpList_append_int1 rfl _ _ rfl w.heap.size _ (m + 1) (L ++ [x]) rfl rfl hown' (by omega) hsz2 ?_; intro v'' w'' hown'' hbel'' _ _))
        go_roundw
        case rel => exact ⟨k + 1, m + 1, by omega, by go_num, by omega, by rw [HS.out, HV.out]; rfl, by rw [HS.out, HV.out]; exact hown', bb⟩
        case measure => simp [intOf]; omega
      · have g0 : (x == 0) = false := by simpa using hx0
        by_cases hu : u = 4
        · subst hu
          have HV : Hid (stuffStep (L, 4) x = (L ++ [x, 0], 0)) := by unfold Hid stuffStep; simp [hx0]
          clear hx0
          go_wp2_with (first | (at_builtin; refine wpList_append_int1 rfl _ _ rfl w.heap.size _ m L rfl rfl hown (by omega) hsz ?_; intro v' w' hown' hbel' _ _; obtain ⟨_, ⟨⟩, hx2⟩ := HX2 _ (hbel.trans hbel'); have bb := hbel.trans hbel'; have hsz2 := bb.size) | (at_builtin; refine wpList_append_int1 rfl _ _ rfl w.heap.size _ (m + 1) (L ++ [x]) rfl rfl hown' (by omega) hsz2 ?_; intro v'' w'' hown'' hbel'' _ _))
          go_roundw
          case rel => exact ⟨k + 1, m + 1 + 1, by omega, by go_num, by omega, by rw [HS.out, HV.out]; rfl, by rw [HS.out, HV.out]; simpa using hown'', bb.trans hbel''⟩
          case measure => simp [intOf]; omega
        · have HV : Hid (stuffStep (L, u) x = (L ++ [x], u + 1)) := by unfold Hid stuffStep; simp [hx0, hu]
          have g5 : ((u : Int) + 1 == 5) = false := by simp; omega
          clear hx0 hu
          go_wp2_with (first | (at_builtin; refine wpList_append_int1 rfl _ _ rfl w.heap.size _ m L rfl rfl hown (by omega) hsz ?_; intro v' w' hown' hbel' _ _; obtain ⟨_, ⟨⟩, hx2⟩ := HX2 _ (hbel.trans hbel'); have bb := hbel.trans hbel'; have hsz2 := bb.size) | (at_builtin; refine wpList_append_int1 rfl _ _ rfl w.heap.size _ (m + 1) (L ++ [x]) rfl rfl hown' (by omega) hsz2 ?_; intro v'' w'' hown'' hbel'' _ _))
          go_roundw
          case rel => exact ⟨k + 1, m + 1, by omega, by go_num, by omega, by rw [HS.out, HV.out]; rfl, by rw [HS.out, HV.out]; exact hown', bb⟩
          case measure => simp [intOf]; omega
    · obtain rfl : k = n := by omega
      obtain ⟨h, rfl, rfl, o, _⟩ := Own.of_row (by decide) hown
      go_wp2
      go_ret
      exact ⟨h, rfl, by unfold stuffL; rw [HL.out]; exact o, hbel⟩

set_option maxRecDepth 100000 in
set_option maxHeartbeats 4000000 in
theorem l25Stuff_any (A : Option Addr) (n c : Nat) (xs : List Int) (w : World) (hn : n ≤ 2000) (hr : Rd w A n (ints xs)) :
    Calls Try.prog 162 #[.slice A n c] w fun e w' => ∃ h : Hd, e = .returned (.slice h.A h.n h.c) ∧ Own w' w.heap.size 1 h (ints (stuffL xs)) ∧ Below w.heap.size w w' := by
  have HL := Lib.hid hr.len
  go_enter Try.func162, Try.ntmps162
  go_wp2
  go_loopw [3, 4, 5] (fun o u i wr => ∃ (k m : Nat), k ≤ n ∧ i = .int .i64 k ∧ m ≤ 2 * k ∧ u = .int .i64 ((stuffTo xs k).2 : Int) ∧ wr.ownsRow w.heap.size 2 1 o m (ints (stuffTo xs k).1) ∧ Below w.heap.size w wr) (fun _ _ i _ => n - (intOf i).toNat)
  case atStart => exact ⟨0, 0, Nat.zero_le _, rfl, Nat.zero_le _, rfl, own_empty w _, (Below.refl _ _).alloc (Nat.le_refl _) _⟩
  case round =>
    obtain ⟨k, m, hk, rfl, hm, rfl, hown, hbel⟩ := hrel
    by_cases hlt : k < n
    · have hkl : k < xs.length := by rw [HL.out]; exact hlt
      obtain ⟨ad, rfl, hx⟩ := (hr.below hbel).int hlt
      have hsz := hbel.size
      have HS := Lib.hid (stuffTo_succ hkl)
      have hb4 := (stuffTo_bd (xs := xs) k (by omega)).1
      have hi0 : (0 : Int) ≤ (k : Int) := by omega
      have hi1 : (k : Int) < (n : Int) := by omega
      have HX2 := fun (W : World) (b : Below w.heap.size w W) => (hr.below b).int hlt
      generalize xs.getD k 0 = x at *
      generalize stuffTo xs k = s at *
      obtain ⟨L, u⟩ := s
      simp only at *
      by_cases hx0 : x = 0
      · subst hx0
        have HV : Hid (stuffStep (L, u) 0 = (L ++ [0], 0)) := rfl
        go_wp2_with (first | (at_builtin; refine wpList_append_int1 rfl _ _ rfl w.heap.size _ m L rfl rfl hown (by omega) hsz ?_; intro v' w' hown' hbel' _ _; obtain ⟨_, ⟨⟩, hx2⟩ := HX2 _ (hbel.trans hbel'); have bb := hbel.trans hbel'; have hsz2 := bb.size) | (at_builtin; refine wpList_append_int1 rfl _ _ rfl w.heap.size _ (m + 1) (L ++ [x]) rfl rfl hown' (by omega) hsz2 ?_; intro v'' w'' hown'' hbel'' _ _))
        go_roundw
        case rel => exact ⟨k + 1, m + 1, by omega, by go_num, by omega, by rw [HS.out, HV.out]; rfl, by rw [HS.out, HV.out]; exact hown', bb⟩
        case measure => simp [intOf]; omega
      · have g0 : (x == 0) = false := by simpa using hx0
        by_cases hu : u = 4
        · subst hu
          have HV : Hid (stuffStep (L, 4) x = (L ++ [x, 0], 0)) := by unfold Hid stuffStep; simp [hx0]
          clear hx0
          go_wp2_with (first | (at_builtin; refine wpList_append_int1 rfl _ _ rfl w.heap.size _ m L rfl rfl hown (by omega) hsz ?_; intro v' w' hown' hbel' _ _; obtain ⟨_, ⟨⟩, hx2⟩ := HX2 _ (hbel.trans hbel'); have bb := hbel.trans hbel'; have hsz2 := bb.size) | (at_builtin; refine wpList_append_int1 rfl _ _ rfl w.heap.size _ (m + 1) (L ++ [x]) rfl rfl hown' (by omega) hsz2 ?_; intro v'' w'' hown'' hbel'' _ _))
          go_roundw
          case rel => exact ⟨k + 1, m + 1 + 1, by omega, by go_num, by omega, by rw [HS.out, HV.out]; rfl, by rw [HS.out, HV.out]; simpa using hown'', bb.trans hbel''⟩
          case measure => simp [intOf]; omega
        · have HV : Hid (stuffStep (L, u) x = (L ++ [x], u + 1)) := by unfold Hid stuffStep; simp [hx0, hu]
          have g5 : ((u : Int) + 1 == 5) = false := by simp; omega
          clear hx0 hu
          go_wp2_with (first | (at_builtin; refine wpList_append_int1 rfl _ _ rfl w.heap.size _ m L rfl rfl hown (by omega) hsz ?_; intro v' w' hown' hbel' _ _; obtain ⟨_, ⟨⟩, hx2⟩ := HX2 _ (hbel.trans hbel'); have bb := hbel.trans hbel'; have hsz2 := bb.size) | (at_builtin; refine wpList_append_int1 rfl _ _ rfl w.heap.size _ (m + 1) (L ++ [x]) rfl rfl hown' (by omega) hsz2 ?_; intro v'' w'' hown'' hbel'' _ _))
          go_roundw
          case rel => exact ⟨k + 1, m + 1, by omega, by go_num, by omega, by rw [HS.out, HV.out]; rfl, by rw [HS.out, HV.out]; exact hown', bb⟩
          case measure => simp [intOf]; omega
    · obtain rfl : k = n := by omega
      obtain ⟨h, rfl, rfl, o, _⟩ := Own.of_row (by decide) hown
      go_wp2
      go_ret
      exact ⟨h, rfl, by unfold stuffL; rw [HL.out]; exact o, hbel⟩

set_option maxHeartbeats 400000 in
theorem frameFlag_any (w : World) : Calls Try.prog 157 #[] w fun e w' => ∃ h : Hd, e = .returned (.slice h.A h.n h.c) ∧ h.n = 8 ∧ Own w' w.heap.size 1 h (ints flagL) ∧ Below w.heap.size w w' := by
  go_enter Try.func157, Try.ntmps157
  go_wp2
  go_ret
  exact ⟨⟨some ⟨w.heap.size, 0, none⟩, 8, 8⟩, rfl, rfl, flag_own w _, (Below.refl _ _).alloc (Nat.le_refl _) _⟩
set_option maxHeartbeats 400000 in
theorem l25Flag_any (w : World) : Calls Try.prog 161 #[] w fun e w' => ∃ h : Hd, e = .returned (.slice h.A h.n h.c) ∧ h.n = 8 ∧ Own w' w.heap.size 1 h (ints flagL) ∧ Below w.heap.size w w' := by
  go_enter Try.func161, Try.ntmps161
  go_wp2
  go_ret
  exact ⟨⟨some ⟨w.heap.size, 0, none⟩, 8, 8⟩, rfl, rfl, flag_own w _, (Below.refl _ _).alloc (Nat.le_refl _) _⟩
end Go.Proofs.Ytlgmdekhlcbhoaa
