/- impl.ChannelLength once more (XChLen's is left out on a seat without FnExactChannelLength). Condition: none. -/
import Derived.Test.YtlgmdekhlcbhoaaChLen
namespace Go.Proofs.Ytlgmdekhlcbhoaa
open Go.RowKit

set_option maxHeartbeats 400000 in
theorem implChLen_any (n : Int) (w : World) :
    Calls Try.prog 43 #[.int .i64 n] w fun e w' => e = .returned (.tuple #[.int .i64 (chLenR n), .int .i64 (chLenC n)]) ∧ w = w' := by
  rcases Bool.eq_false_or_eq_true (inR n 0 300) with h | h
  · have e1 : Hid (chLenR n = chLen n ∧ chLenC n = 0) := by unfold Hid chLenR chLenC; simp [h]
    have hb := inR_true h
    go_enter Try.func43, Try.ntmps43
    go_wp2_with (first | (go_at_call 99; refine (within_any _ _ _ _).mono ?_; rintro e w' ⟨rfl, rfl⟩) | (go_at_call 101; refine (channelLength_any _ _ (by omega) (by omega)).mono ?_; rintro e w' ⟨rfl, rfl⟩))
    go_ret2
    exact ⟨by rw [e1.out.1, e1.out.2]; rfl, rfl⟩
  · have e1 : Hid (chLenR n = 0 ∧ chLenC n = 2) := by unfold Hid chLenR chLenC; simp [h]
    go_enter Try.func43, Try.ntmps43
    go_wp2_with (go_at_call 99; refine (within_any _ _ _ _).mono ?_; rintro e w' ⟨rfl, rfl⟩)
    go_ret2
    exact ⟨by rw [e1.out.1, e1.out.2]; rfl, rfl⟩
end Go.Proofs.Ytlgmdekhlcbhoaa
