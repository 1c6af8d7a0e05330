/- The number of channel bits: spec.ChannelLength and impl.ChannelLength, and the law. No condition for the law; the inner functions for 0 to 300. -/
import Derived.Test.YtojmeghcollmeaaArith
namespace Go.Proofs.Ytojmeghcollmeaa
open Go.RowKit

def chLen (n : Int) : Int := -(-(2 * (n + 2)) / 16) * 16

set_option maxHeartbeats 400000 in
theorem l30Fill_any (n : Int) (w : World) (h1 : 0 ≤ n) (h2 : n ≤ 300) :
    Calls Try.prog 72 #[.int .i64 n] w fun e w' => e = .returned (.int .i64 ((16 - 2 * (n + 2) % 16) % 16)) ∧ w = w' := by
  go_enter Try.func72, Try.ntmps72
  go_wp2
  go_ret
  exact ⟨rfl, rfl⟩
set_option maxHeartbeats 400000 in
theorem l30Length_any (n : Int) (w : World) (h1 : 0 ≤ n) (h2 : n ≤ 300) :
    Calls Try.prog 45 #[.int .i64 n] w fun e w' => e = .returned (.int .i64 (chLen n)) ∧ w = w' := by
  go_enter Try.func45, Try.ntmps45
  go_wp2_with (go_at_call 72; refine (l30Fill_any _ _ (by omega) (by omega)).mono ?_; rintro e w' ⟨rfl, rfl⟩)
  go_ret
  exact ⟨ret_int (by unfold chLen; omega), rfl⟩
set_option maxHeartbeats 400000 in
theorem channelLength_any (n : Int) (w : World) (h1 : 0 ≤ n) (h2 : n ≤ 300) :
    Calls Try.prog 47 #[.int .i64 n] w fun e w' => e = .returned (.int .i64 (chLen n)) ∧ w = w' := by
  go_enter Try.func47, Try.ntmps47
  go_wp2_with (go_at_call 73; refine (ceilDiv_any _ _ _ (by omega) (by omega) (by omega) (by omega)).mono ?_; rintro e w' ⟨rfl, rfl⟩)
  go_ret
  exact ⟨ret_int (by unfold chLen; omega), rfl⟩

/-- What both give: the number and the code. -/
def chLenR (n : Int) : Int := if inR n 0 300 = true then chLen n else 0
def chLenC (n : Int) : Int := if inR n 0 300 = true then 0 else 2
set_option maxHeartbeats 400000 in
theorem specChannelLength_any (n : Int) (w : World) :
    Calls Try.prog 17 #[.int .i64 n] w fun e w' => e = .returned (.tuple #[.int .i64 (chLenR n), .int .i64 (chLenC n)]) ∧ w = w' := by
  rcases Bool.eq_false_or_eq_true (inR n 0 300) with h | h
  · have e1 : Hid (chLenR n = chLen n ∧ chLenC n = 0) := by unfold Hid chLenR chLenC; simp [h]
    have hb := inR_true h
    go_enter Try.func17, Try.ntmps17
    go_wp2_with (first | (go_at_call 44; refine (l01In_any _ _ _ _).mono ?_; rintro e w' ⟨rfl, rfl⟩) | (go_at_call 45; refine (l30Length_any _ _ (by omega) (by omega)).mono ?_; rintro e w' ⟨rfl, rfl⟩))
    go_ret2
    exact ⟨by rw [e1.out.1, e1.out.2]; rfl, rfl⟩
  · have e1 : Hid (chLenR n = 0 ∧ chLenC n = 2) := by unfold Hid chLenR chLenC; simp [h]
    go_enter Try.func17, Try.ntmps17
    go_wp2_with (go_at_call 44; refine (l01In_any _ _ _ _).mono ?_; rintro e w' ⟨rfl, rfl⟩)
    go_ret2
    exact ⟨by rw [e1.out.1, e1.out.2]; rfl, rfl⟩
set_option maxHeartbeats 400000 in
theorem implChannelLength_any (n : Int) (w : World) :
    Calls Try.prog 18 #[.int .i64 n] w fun e w' => e = .returned (.tuple #[.int .i64 (chLenR n), .int .i64 (chLenC n)]) ∧ w = w' := by
  rcases Bool.eq_false_or_eq_true (inR n 0 300) with h | h
  · have e1 : Hid (chLenR n = chLen n ∧ chLenC n = 0) := by unfold Hid chLenR chLenC; simp [h]
    have hb := inR_true h
    go_enter Try.func18, Try.ntmps18
    go_wp2_with (first | (go_at_call 46; refine (within_any _ _ _ _).mono ?_; rintro e w' ⟨rfl, rfl⟩) | (go_at_call 47; refine (channelLength_any _ _ (by omega) (by omega)).mono ?_; rintro e w' ⟨rfl, rfl⟩))
    go_ret2
    exact ⟨by rw [e1.out.1, e1.out.2]; rfl, rfl⟩
  · have e1 : Hid (chLenR n = 0 ∧ chLenC n = 2) := by unfold Hid chLenR chLenC; simp [h]
    go_enter Try.func18, Try.ntmps18
    go_wp2_with (go_at_call 46; refine (within_any _ _ _ _).mono ?_; rintro e w' ⟨rfl, rfl⟩)
    go_ret2
    exact ⟨by rw [e1.out.1, e1.out.2]; rfl, rfl⟩
set_option maxHeartbeats 400000 in
theorem FnExactChannelLength_walk (n : Int) (_ : (Lit.int .i64 n).wf = true) (w : World) :
    Calls Try.prog 4 #[.int .i64 n] w fun e w' => e = .returned (.bool true) ∧ Below w.heap.size w w' := by
  go_enter Try.func4, Try.ntmps4
  go_wp2_with (first | (go_at_call 17; refine (specChannelLength_any _ _).mono ?_; rintro e w' ⟨rfl, rfl⟩) | (go_at_call 18; refine (implChannelLength_any _ _).mono ?_; rintro e w' ⟨rfl, rfl⟩))
  go_ret
  exact ⟨rfl, Below.refl _ _⟩
end Go.Proofs.Ytojmeghcollmeaa
