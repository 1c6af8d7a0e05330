/- The number of channel bits: spec.ChannelLength and impl.ChannelLength, and the law. No condition for the law; the inner functions for 0 to 300. -/
import Derived.Test.YtlgmdekhlcbhoaaArith
namespace Go.Proofs.Ytlgmdekhlcbhoaa
open Go.RowKit

def chLen (n : Int) : Int := -(-(2 * (n + 2)) / 16) * 16

set_option maxHeartbeats 400000 in
theorem l30Fill_any (n : Int) (w : World) (h1 : 0 ≤ n) (h2 : n ≤ 300) :
    Calls Try.prog 149 #[.int .i64 n] w fun e w' => e = .returned (.int .i64 ((16 - 2 * (n + 2) % 16) % 16)) ∧ w = w' := by
  go_enter Try.func149, Try.ntmps149
  go_wp2
  go_ret
  exact ⟨rfl, rfl⟩
set_option maxHeartbeats 400000 in
theorem l30Length_any (n : Int) (w : World) (h1 : 0 ≤ n) (h2 : n ≤ 300) :
    Calls Try.prog 97 #[.int .i64 n] w fun e w' => e = .returned (.int .i64 (chLen n)) ∧ w = w' := by
  go_enter Try.func97, Try.ntmps97
  go_wp2_with (go_at_call 149; refine (l30Fill_any _ _ (by omega) (by omega)).mono ?_; rintro e w' ⟨rfl, rfl⟩)
  go_ret
  exact ⟨ret_int (by unfold chLen; omega), rfl⟩
set_option maxHeartbeats 400000 in
theorem channelLength_any (n : Int) (w : World) (h1 : 0 ≤ n) (h2 : n ≤ 300) :
    Calls Try.prog 101 #[.int .i64 n] w fun e w' => e = .returned (.int .i64 (chLen n)) ∧ w = w' := by
  go_enter Try.func101, Try.ntmps101
  go_wp2_with (go_at_call 151; refine (ceilDiv_any _ _ _ (by omega) (by omega) (by omega) (by omega)).mono ?_; rintro e w' ⟨rfl, rfl⟩)
  go_ret
  exact ⟨ret_int (by unfold chLen; omega), rfl⟩

/-- What both give: the number and the code. -/
def chLenR (n : Int) : Int := if inR n 0 300 = true then chLen n else 0
def chLenC (n : Int) : Int := if inR n 0 300 = true then 0 else 2
set_option maxHeartbeats 400000 in
theorem specChannelLength_any (n : Int) (w : World) :
    Calls Try.prog 44 #[.int .i64 n] w fun e w' => e = .returned (.tuple #[.int .i64 (chLenR n), .int .i64 (chLenC n)]) ∧ w = w' := by
  rcases Bool.eq_false_or_eq_true (inR n 0 300) with h | h
  · have e1 : Hid (chLenR n = chLen n ∧ chLenC n = 0) := by unfold Hid chLenR chLenC; simp [h]
    have hb := inR_true h
    go_enter Try.func44, Try.ntmps44
    go_wp2_with (first | (go_at_call 96; refine (l01In_any _ _ _ _).mono ?_; rintro e w' ⟨rfl, rfl⟩) | (go_at_call 97; refine (l30Length_any _ _ (by omega) (by omega)).mono ?_; rintro e w' ⟨rfl, rfl⟩))
    go_ret2
    exact ⟨by rw [e1.out.1, e1.out.2]; rfl, rfl⟩
  · have e1 : Hid (chLenR n = 0 ∧ chLenC n = 2) := by unfold Hid chLenR chLenC; simp [h]
    go_enter Try.func44, Try.ntmps44
    go_wp2_with (go_at_call 96; refine (l01In_any _ _ _ _).mono ?_; rintro e w' ⟨rfl, rfl⟩)
    go_ret2
    exact ⟨by rw [e1.out.1, e1.out.2]; rfl, rfl⟩
end Go.Proofs.Ytlgmdekhlcbhoaa
