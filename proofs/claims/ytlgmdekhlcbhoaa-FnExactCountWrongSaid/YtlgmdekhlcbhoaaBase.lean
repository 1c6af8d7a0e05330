/- Small functions used everywhere: a number in a range, a list of numbers in a range and of at most a length, a copy of a list. No condition. -/
import Derived.Test.YtlgmdekhlcbhoaaIntS
namespace Go.Proofs.Ytlgmdekhlcbhoaa
open Go.RowKit

theorem getD_at {xs : List Int} {k : Nat} (h : k < xs.length) : xs.getD k 0 = xs[k] := by simp [h]

def inR (x lo hi : Int) : Bool := decide (lo ≤ x) && decide (x ≤ hi)
theorem inR_true {x lo hi : Int} (h : inR x lo hi = true) : lo ≤ x ∧ x ≤ hi := by unfold inR at h; simpa using h
theorem inR_mk {x lo hi : Int} (h : lo ≤ x) (h' : x ≤ hi) : inR x lo hi = true := by unfold inR; simp [h, h']
theorem inR_false {x lo hi : Int} (h : inR x lo hi = false) : x < lo ∨ hi < x := by unfold inR at h; simp at h; omega
def allIn (xs : List Int) (lo hi : Int) : Bool := xs.all (fun x => inR x lo hi)
theorem allIn_true {xs : List Int} {lo hi : Int} (h : allIn xs lo hi = true) {x : Int} (hx : x ∈ xs) : lo ≤ x ∧ x ≤ hi := by
  unfold allIn at h; rw [List.all_eq_true] at h; exact inR_true (h x hx)
theorem allIn_getD {xs : List Int} {lo hi : Int} (h : allIn xs lo hi = true) {k : Nat} (hk : k < xs.length) : lo ≤ xs.getD k 0 ∧ xs.getD k 0 ≤ hi :=
  allIn_true h (by rw [getD_at hk]; exact List.getElem_mem hk)
theorem allIn_of_take {xs : List Int} {lo hi : Int} {k : Nat} (h : allIn (xs.take k) lo hi = true) (hk : xs.length ≤ k) : allIn xs lo hi = true := by rwa [List.take_of_length_le hk] at h
theorem allIn_take_succ {xs : List Int} {lo hi : Int} {k : Nat} (hk : k < xs.length) : allIn (xs.take (k + 1)) lo hi = (allIn (xs.take k) lo hi && inR (xs.getD k 0) lo hi) := by
  unfold allIn; rw [List.take_succ_eq_append_getElem hk, List.all_append, getD_at hk]; simp
theorem allIn_false_of {xs : List Int} {lo hi : Int} {k : Nat} (hk : k < xs.length) (h : inR (xs.getD k 0) lo hi = false) : allIn xs lo hi = false := by
  rw [Bool.eq_false_iff]; intro c
  have := allIn_getD c hk
  rw [inR_mk this.1 this.2] at h; cases h
/-- at most so many numbers, all in a range -/
def okList (xs : List Int) (most : Int) (lo hi : Int) : Bool := decide ((xs.length : Int) ≤ most) && allIn xs lo hi
theorem okList_true {xs : List Int} {most lo hi : Int} (h : okList xs most lo hi = true) : (xs.length : Int) ≤ most ∧ allIn xs lo hi = true := by unfold okList at h; simpa using h

theorem Rd.len {w : World} {A : Option Addr} {n : Nat} {xs : List Int} (h : Rd w A n (ints xs)) : xs.length = n := by have := h.1; unfold ints at this; simpa using this

theorem within_any (x lo hi : Int) (w : World) :
    Calls Try.prog 99 #[.int .i64 x, .int .i64 lo, .int .i64 hi] w fun e w' => e = .returned (.bool (inR x lo hi)) ∧ w = w' := by
  by_cases h1 : lo ≤ x
  · by_cases h2 : x ≤ hi
    · have e : inR x lo hi = true := inR_mk h1 h2
      go_enter Try.func99, Try.ntmps99
      go_wp2
      go_ret
      exact ⟨ret_bool (by first | rfl | rw [e]), rfl⟩
    · have e : inR x lo hi = false := by unfold inR; simp [h2]
      go_enter Try.func99, Try.ntmps99
      go_wp2
      go_ret
      exact ⟨ret_bool (by first | rfl | rw [e]), rfl⟩
  · have e : inR x lo hi = false := by unfold inR; simp [h1]
    go_enter Try.func99, Try.ntmps99
    go_wp2
    go_ret
    exact ⟨ret_bool (by first | rfl | rw [e]), rfl⟩

theorem l01In_any (x lo hi : Int) (w : World) :
    Calls Try.prog 96 #[.int .i64 x, .int .i64 lo, .int .i64 hi] w fun e w' => e = .returned (.bool (inR x lo hi)) ∧ w = w' := by
  by_cases h1 : lo ≤ x
  · by_cases h2 : x ≤ hi
    · have e : inR x lo hi = true := inR_mk h1 h2
      go_enter Try.func96, Try.ntmps96
      go_wp2
      go_ret
      exact ⟨ret_bool (by first | rfl | rw [e]), rfl⟩
    · have e : inR x lo hi = false := by unfold inR; simp [h2]
      go_enter Try.func96, Try.ntmps96
      go_wp2
      go_ret
      exact ⟨ret_bool (by first | rfl | rw [e]), rfl⟩
  · have e : inR x lo hi = false := by unfold inR; simp [h1]
    go_enter Try.func96, Try.ntmps96
    go_wp2
    go_ret
    exact ⟨ret_bool (by first | rfl | rw [e]), rfl⟩

set_option maxHeartbeats 400000 in
theorem areWithin_any (A : Option Addr) (n c : Nat) (xs : List Int) (lo hi : Int) (w : World) (hn : n ≤ 9223372036854775807) (hr : Rd w A n (ints xs)) :
    Calls Try.prog 140 #[.slice A n c, .int .i64 lo, .int .i64 hi] w fun e w' => e = .returned (.bool (allIn xs lo hi)) ∧ w = w' := by
  have HL := Lib.hid hr.len
  go_enter Try.func140, Try.ntmps140
  go_wp2
  go_loop [11] (fun i => ∃ k : Nat, k ≤ n ∧ i = .int .i64 k ∧ allIn (xs.take k) lo hi = true) (fun i => n - (intOf i).toNat)
  case atStart => exact ⟨0, Nat.zero_le _, rfl, rfl⟩
  case round =>
    obtain ⟨k, hk, rfl, hall⟩ := hrel
    have HA := Lib.hid hall
    clear hall
    by_cases hlt : k < n
    · obtain ⟨ad, rfl, hx⟩ := hr.int hlt
      have hs := allIn_take_succ (xs := xs) (lo := lo) (hi := hi) (k := k) (by rw [HL.out]; exact hlt)
      have HS := Lib.hid hs
      clear hs
      have HF : Hid (inR (xs.getD k 0) lo hi = false → allIn xs lo hi = false) := fun h => allIn_false_of (k := k) (by rw [HL.out]; exact hlt) h
      generalize xs.getD k 0 = x at *
      rcases Bool.eq_false_or_eq_true (inR x lo hi) with h | h
      · go_wp2_with (go_at_call 99; refine (within_any _ _ _ _).mono ?_; rintro e w' ⟨rfl, rfl⟩)
        go_round
        case rel => exact ⟨k + 1, by omega, by go_num, by rw [HS.out, HA.out, h]; rfl⟩
        case measure => simp [intOf]; omega
      · go_wp2_with (go_at_call 99; refine (within_any _ _ _ _).mono ?_; rintro e w' ⟨rfl, rfl⟩)
        go_ret
        exact ⟨ret_bool (by rw [HF.out h]), rfl⟩
    · go_wp2
      go_ret
      exact ⟨ret_bool (by rw [allIn_of_take HA.out (by rw [HL.out]; omega)]), rfl⟩

set_option maxHeartbeats 400000 in
theorem l01Within_any (A : Option Addr) (n c : Nat) (xs : List Int) (most lo hi : Int) (w : World) (hn : n ≤ 9223372036854775807) (hr : Rd w A n (ints xs)) :
    Calls Try.prog 146 #[.slice A n c, .int .i64 most, .int .i64 lo, .int .i64 hi] w fun e w' => e = .returned (.bool (okList xs most lo hi)) ∧ w = w' := by
  have HL := Lib.hid hr.len
  go_enter Try.func146, Try.ntmps146
  go_wp2
  go_loop [9] (fun i => ∃ k : Nat, k ≤ n ∧ i = .int .i64 k ∧ allIn (xs.take k) lo hi = true) (fun i => n - (intOf i).toNat)
  case atStart => exact ⟨0, Nat.zero_le _, rfl, rfl⟩
  case round =>
    obtain ⟨k, hk, rfl, hall⟩ := hrel
    have HA := Lib.hid hall
    clear hall
    by_cases hlt : k < n
    · obtain ⟨ad, rfl, hx⟩ := hr.int hlt
      have hs := allIn_take_succ (xs := xs) (lo := lo) (hi := hi) (k := k) (by rw [HL.out]; exact hlt)
      have HS := Lib.hid hs
      clear hs
      have HF : Hid (inR (xs.getD k 0) lo hi = false → allIn xs lo hi = false) := fun h => allIn_false_of (k := k) (by rw [HL.out]; exact hlt) h
      generalize xs.getD k 0 = x at *
      rcases Bool.eq_false_or_eq_true (inR x lo hi) with h | h
      · go_wp2_with (go_at_call 96; refine (l01In_any _ _ _ _).mono ?_; rintro e w' ⟨rfl, rfl⟩)
        go_round
        case rel => exact ⟨k + 1, by omega, by go_num, by rw [HS.out, HA.out, h]; rfl⟩
        case measure => simp [intOf]; omega
      · go_wp2_with (go_at_call 96; refine (l01In_any _ _ _ _).mono ?_; rintro e w' ⟨rfl, rfl⟩)
        go_ret
        exact ⟨ret_bool (by unfold okList; rw [HF.out h, Bool.and_false]), rfl⟩
    · go_wp2
      go_ret
      exact ⟨ret_bool (by unfold okList; rw [allIn_of_take HA.out (by rw [HL.out]; omega), HL.out, Bool.and_true]), rfl⟩

set_option maxHeartbeats 400000 in
theorem l25Bits_any (A : Option Addr) (n c : Nat) (xs : List Int) (w : World) (hn : n ≤ 9223372036854775807) (hr : Rd w A n (ints xs)) :
    Calls Try.prog 92 #[.slice A n c] w fun e w' => e = .returned (.bool (okList xs 1200 0 1)) ∧ w = w' := by
  go_enter Try.func92, Try.ntmps92
  go_wp2_with (go_at_call 146; refine (l01Within_any _ _ _ xs _ _ _ _ hn hr).mono ?_; rintro e w' ⟨rfl, rfl⟩)
  go_ret
  exact ⟨rfl, rfl⟩

set_option maxHeartbeats 400000 in
theorem isBits_any (A : Option Addr) (n c : Nat) (xs : List Int) (most : Int) (w : World) (hn : n ≤ 9223372036854775807) (hr : Rd w A n (ints xs)) :
    Calls Try.prog 94 #[.slice A n c, .int .i64 most] w fun e w' => e = .returned (.bool (okList xs most 0 1)) ∧ w = w' := by
  have HL := Lib.hid hr.len
  by_cases h : (n : Int) ≤ most
  · have HE : Hid (okList xs most 0 1 = allIn xs 0 1) := by unfold Hid okList; rw [HL.out]; simp [h]
    go_enter Try.func94, Try.ntmps94
    go_wp2_with (go_at_call 140; refine (areWithin_any _ _ _ xs _ _ _ hn hr).mono ?_; rintro e w' ⟨rfl, rfl⟩)
    go_ret
    exact ⟨ret_bool (by rw [HE.out]), rfl⟩
  · have HE : Hid (okList xs most 0 1 = false) := by unfold Hid okList; rw [HL.out]; simp [h]
    go_enter Try.func94, Try.ntmps94
    go_wp2_with fail
    go_ret
    exact ⟨ret_bool (by rw [HE.out]), rfl⟩
end Go.Proofs.Ytlgmdekhlcbhoaa
