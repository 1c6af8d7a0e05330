/- Whether a list has received bits, and the size of its messages. No condition. -/
import Derived.Test.YtlgmdekhlcbhoaaVitA
namespace Go.Proofs.Ytlgmdekhlcbhoaa
open Go.RowKit

def recvOk (xs : List Int) : Bool := okList xs 604 0 2 && (decide (4 ≤ (xs.length : Int)) && ((xs.length : Int) % 2 == 0))
theorem recvOk_true {xs : List Int} (h : recvOk xs = true) : 4 ≤ xs.length ∧ xs.length ≤ 604 ∧ xs.length % 2 = 0 ∧ allIn xs 0 2 = true := by
  unfold recvOk at h
  rw [Bool.and_eq_true, Bool.and_eq_true] at h
  have := okList_true h.1
  have h3 := h.2.2
  have h4 := h.2.1
  simp at h3 h4
  exact ⟨by omega, by omega, by omega, this.2⟩

set_option maxHeartbeats 400000 in
theorem l28Received_any (A : Option Addr) (n c : Nat) (xs : List Int) (w : World) (hn : n ≤ 9223372036854775807) (hr : Rd w A n (ints xs)) :
    Calls Try.prog 128 #[.slice A n c] w fun e w' => e = .returned (.bool (recvOk xs)) ∧ w = w' := by
  have HL := Lib.hid hr.len
  have HR : Hid (recvOk xs = (okList xs 604 0 2 && (decide (4 ≤ (n : Int)) && ((n : Int) % 2 == 0)))) := by unfold Hid recvOk; rw [HL.out]
  rcases Bool.eq_false_or_eq_true (okList xs 604 0 2) with h1 | h1
  · by_cases h2 : 4 ≤ n
    · rcases Bool.eq_false_or_eq_true ((n : Int) % 2 == 0) with h3 | h3
      all_goals
        have HE := HR.out
        rw [h1, h3, decide_eq_true (show 4 ≤ (n : Int) by omega)] at HE
        replace HE := Lib.hid HE
        go_enter Try.func128, Try.ntmps128
        go_wp2_with (go_at_call 146; refine (l01Within_any _ _ _ xs _ _ _ _ hn hr).mono ?_; rintro e w' ⟨rfl, rfl⟩)
        go_ret
        exact ⟨ret_bool (by first | rfl | (rw [HE.out]; rfl) | rw [HE.out]), rfl⟩
    · have HE := HR.out
      rw [h1, decide_eq_false (show ¬ 4 ≤ (n : Int) by omega)] at HE
      replace HE := Lib.hid HE
      go_enter Try.func128, Try.ntmps128
      go_wp2_with (go_at_call 146; refine (l01Within_any _ _ _ xs _ _ _ _ hn hr).mono ?_; rintro e w' ⟨rfl, rfl⟩)
      go_ret
      exact ⟨ret_bool (by first | rfl | (rw [HE.out]; rfl) | rw [HE.out]), rfl⟩
  · have HE := HR.out
    rw [h1] at HE
    replace HE := Lib.hid HE
    go_enter Try.func128, Try.ntmps128
    go_wp2_with (go_at_call 146; refine (l01Within_any _ _ _ xs _ _ _ _ hn hr).mono ?_; rintro e w' ⟨rfl, rfl⟩)
    go_ret
    exact ⟨ret_bool (by first | rfl | (rw [HE.out]; rfl) | rw [HE.out]), rfl⟩

set_option maxHeartbeats 400000 in
theorem lengthInt_any (A : Option Addr) (n c : Nat) (w : World) (_ : n ≤ 9223372036854775807) :
    Calls Try.prog 100 #[.slice A n c] w fun e w' => e = .returned (.int .i64 (n : Int)) ∧ w = w' := by
  go_enter Try.func100, Try.ntmps100
  go_wp2
  go_ret
  exact ⟨rfl, rfl⟩

set_option maxHeartbeats 400000 in
theorem isReceived_any (A : Option Addr) (n c : Nat) (xs : List Int) (w : World) (hn : n ≤ 9223372036854775807) (hr : Rd w A n (ints xs)) :
    Calls Try.prog 126 #[.slice A n c] w fun e w' => e = .returned (.bool (recvOk xs)) ∧ w = w' := by
  have HL := Lib.hid hr.len
  have HR : Hid (recvOk xs = (((n : Int) % 2 == 0) && (inR n 4 604 && allIn xs 0 2))) := by
    unfold Hid recvOk okList inR; rw [HL.out]
    rcases Bool.eq_false_or_eq_true (allIn xs 0 2) with h | h <;> rw [h] <;> rw [Bool.eq_iff_iff] <;> simp <;> omega
  rcases Bool.eq_false_or_eq_true ((n : Int) % 2 == 0) with h3 | h3
  · rcases Bool.eq_false_or_eq_true (inR n 4 604) with h1 | h1
    · have HE := HR.out
      rw [h1, h3] at HE
      replace HE := Lib.hid HE
      go_enter Try.func126, Try.ntmps126
      go_wp2_with (first | (go_at_call 140; refine (areWithin_any _ _ _ xs _ _ _ hn hr).mono ?_; rintro e w' ⟨rfl, rfl⟩) | (go_at_call 99; refine (within_any _ _ _ _).mono ?_; rintro e w' ⟨rfl, rfl⟩) | (go_at_call 100; refine (lengthInt_any _ _ _ _ hn).mono ?_; rintro e w' ⟨rfl, rfl⟩))
      go_ret
      exact ⟨ret_bool (by first | rfl | (rw [HE.out]; rfl) | rw [HE.out]), rfl⟩
    · have HE := HR.out
      rw [h1, h3] at HE
      replace HE := Lib.hid HE
      go_enter Try.func126, Try.ntmps126
      go_wp2_with (first | (go_at_call 99; refine (within_any _ _ _ _).mono ?_; rintro e w' ⟨rfl, rfl⟩) | (go_at_call 100; refine (lengthInt_any _ _ _ _ hn).mono ?_; rintro e w' ⟨rfl, rfl⟩))
      go_ret
      exact ⟨ret_bool (by first | rfl | (rw [HE.out]; rfl) | rw [HE.out]), rfl⟩
  · have HE := HR.out
    rw [h3] at HE
    replace HE := Lib.hid HE
    go_enter Try.func126, Try.ntmps126
    go_wp2_with fail
    go_ret
    exact ⟨ret_bool (by first | rfl | (rw [HE.out]; rfl) | rw [HE.out]), rfl⟩

set_option maxHeartbeats 400000 in
theorem l28Size_any (A : Option Addr) (n c : Nat) (w : World) (hn : n ≤ 9223372036854775807) :
    Calls Try.prog 138 #[.slice A n c] w fun e w' => e = .returned (.int .i64 ((n : Int) / 2 - 2)) ∧ w = w' := by
  go_enter Try.func138, Try.ntmps138
  go_wp2
  go_ret
  exact ⟨rfl, rfl⟩
set_option maxHeartbeats 400000 in
theorem messageSize_any (A : Option Addr) (n c : Nat) (w : World) (hn : n ≤ 9223372036854775807) :
    Calls Try.prog 139 #[.slice A n c] w fun e w' => e = .returned (.int .i64 ((n : Int) / 2 - 2)) ∧ w = w' := by
  go_enter Try.func139, Try.ntmps139
  go_wp2_with (go_at_call 100; refine (lengthInt_any _ _ _ _ hn).mono ?_; rintro e w' ⟨rfl, rfl⟩)
  go_ret
  exact ⟨rfl, rfl⟩
end Go.Proofs.Ytlgmdekhlcbhoaa
