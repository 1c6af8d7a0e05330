/- Whether a list has received bits, and the size of its messages. No condition. -/
import Derived.Test.YtojmeghcollmeaaVitA
namespace Go.Proofs.Ytojmeghcollmeaa
open Go.RowKit

def recvOk (xs : List Int) : Bool := okList xs 604 0 2 && (decide (4 ≤ (xs.length : Int)) && ((xs.length : Int) % 2 == 0))
theorem recvOk_true {xs : List Int} (h : recvOk xs = true) : 4 ≤ xs.length ∧ xs.length ≤ 604 ∧ xs.length % 2 = 0 ∧ allIn xs 0 2 = true := by
  unfold recvOk at h
  rw [Bool.and_eq_true, Bool.and_eq_true] at h
  have := okList_true h.1
  have h3 := h.2.2
  have h4 := h.2.1
  simp at h3 h4
  exact ⟨by omega, by omega, by omega, this.2⟩

set_option maxHeartbeats 400000 in
theorem l28Received_any (A : Option Addr) (n c : Nat) (xs : List Int) (w : World) (hn : n ≤ 9223372036854775807) (hr : Rd w A n (ints xs)) :
    Calls Try.prog 58 #[.slice A n c] w fun e w' => e = .returned (.bool (recvOk xs)) ∧ w = w' := by
  have HL := Lib.hid hr.len
  have HR : Hid (recvOk xs = (okList xs 604 0 2 && (decide (4 ≤ (n : Int)) && ((n : Int) % 2 == 0)))) := by unfold Hid recvOk; rw [HL.out]
  rcases Bool.eq_false_or_eq_true (okList xs 604 0 2) with h1 | h1
  · by_cases h2 : 4 ≤ n
    · rcases Bool.eq_false_or_eq_true ((n : Int) % 2 == 0) with h3 | h3
      all_goals
        have HE := HR.out
        rw [h1, h3, decide_eq_true (show 4 ≤ (n : Int) by omega)] at HE
        replace HE := Lib.hid HE
        go_enter Try.func58, Try.ntmps58
        go_wp2_with (go_at_call 75; refine (l01Within_any _ _ _ xs _ _ _ _ hn hr).mono ?_; rintro e w' ⟨rfl, rfl⟩)
        go_ret
        exact ⟨ret_bool (by first | rfl | (rw [HE.out]; rfl) | rw [HE.out]), rfl⟩
    · have HE := HR.out
      rw [h1, decide_eq_false (show ¬ 4 ≤ (n : Int) by omega)] at HE
      replace HE := Lib.hid HE
      go_enter Try.func58, Try.ntmps58
      go_wp2_with (go_at_call 75; refine (l01Within_any _ _ _ xs _ _ _ _ hn hr).mono ?_; rintro e w' ⟨rfl, rfl⟩)
      go_ret
      exact ⟨ret_bool (by first | rfl | (rw [HE.out]; rfl) | rw [HE.out]), rfl⟩
  · have HE := HR.out
    rw [h1] at HE
    replace HE := Lib.hid HE
    go_enter Try.func58, Try.ntmps58
    go_wp2_with (go_at_call 75; refine (l01Within_any _ _ _ xs _ _ _ _ hn hr).mono ?_; rintro e w' ⟨rfl, rfl⟩)
    go_ret
    exact ⟨ret_bool (by first | rfl | (rw [HE.out]; rfl) | rw [HE.out]), rfl⟩

set_option maxHeartbeats 400000 in
theorem lengthInt_any (A : Option Addr) (n c : Nat) (w : World) (_ : n ≤ 9223372036854775807) :
    Calls Try.prog 80 #[.slice A n c] w fun e w' => e = .returned (.int .i64 (n : Int)) ∧ w = w' := by
  go_enter Try.func80, Try.ntmps80
  go_wp2
  go_ret
  exact ⟨rfl, rfl⟩

set_option maxHeartbeats 400000 in
theorem isReceived_any (A : Option Addr) (n c : Nat) (xs : List Int) (w : World) (hn : n ≤ 9223372036854775807) (hr : Rd w A n (ints xs)) :
    Calls Try.prog 61 #[.slice A n c] w fun e w' => e = .returned (.bool (recvOk xs)) ∧ w = w' := by
  have HL := Lib.hid hr.len
  have HR : Hid (recvOk xs = (((n : Int) % 2 == 0) && (inR n 4 604 && allIn xs 0 2))) := by
    unfold Hid recvOk okList inR; rw [HL.out]
    rcases Bool.eq_false_or_eq_true (allIn xs 0 2) with h | h <;> rw [h] <;> rw [Bool.eq_iff_iff] <;> simp <;> omega
  rcases Bool.eq_false_or_eq_true ((n : Int) % 2 == 0) with h3 | h3
  · rcases Bool.eq_false_or_eq_true (inR n 4 604) with h1 | h1
    · have HE := HR.out
      rw [h1, h3] at HE
      replace HE := Lib.hid HE
      go_enter Try.func61, Try.ntmps61
      go_wp2_with (first | (go_at_call 76; refine (areWithin_any _ _ _ xs _ _ _ hn hr).mono ?_; rintro e w' ⟨rfl, rfl⟩) | (go_at_call 46; refine (within_any _ _ _ _).mono ?_; rintro e w' ⟨rfl, rfl⟩) | (go_at_call 80; refine (lengthInt_any _ _ _ _ hn).mono ?_; rintro e w' ⟨rfl, rfl⟩))
      go_ret
      exact ⟨ret_bool (by first | rfl | (rw [HE.out]; rfl) | rw [HE.out]), rfl⟩
    · have HE := HR.out
      rw [h1, h3] at HE
      replace HE := Lib.hid HE
      go_enter Try.func61, Try.ntmps61
      go_wp2_with (first | (go_at_call 46; refine (within_any _ _ _ _).mono ?_; rintro e w' ⟨rfl, rfl⟩) | (go_at_call 80; refine (lengthInt_any _ _ _ _ hn).mono ?_; rintro e w' ⟨rfl, rfl⟩))
      go_ret
      exact ⟨ret_bool (by first | rfl | (rw [HE.out]; rfl) | rw [HE.out]), rfl⟩
  · have HE := HR.out
    rw [h3] at HE
    replace HE := Lib.hid HE
    go_enter Try.func61, Try.ntmps61
    go_wp2_with fail
    go_ret
    exact ⟨ret_bool (by first | rfl | (rw [HE.out]; rfl) | rw [HE.out]), rfl⟩

set_option maxHeartbeats 400000 in
theorem l28Size_any (A : Option Addr) (n c : Nat) (w : World) (hn : n ≤ 9223372036854775807) :
    Calls Try.prog 59 #[.slice A n c] w fun e w' => e = .returned (.int .i64 ((n : Int) / 2 - 2)) ∧ w = w' := by
  go_enter Try.func59, Try.ntmps59
  go_wp2
  go_ret
  exact ⟨rfl, rfl⟩
set_option maxHeartbeats 400000 in
theorem messageSize_any (A : Option Addr) (n c : Nat) (w : World) (hn : n ≤ 9223372036854775807) :
    Calls Try.prog 62 #[.slice A n c] w fun e w' => e = .returned (.int .i64 ((n : Int) / 2 - 2)) ∧ w = w' := by
  go_enter Try.func62, Try.ntmps62
  go_wp2_with (go_at_call 80; refine (lengthInt_any _ _ _ _ hn).mono ?_; rintro e w' ⟨rfl, rfl⟩)
  go_ret
  exact ⟨rfl, rfl⟩
end Go.Proofs.Ytojmeghcollmeaa
