/- ReplayLog, both sides, in the words of the laws. Condition: a list of at most 1048576 records. -/
import Derived.Test.YtphpjmkebnadoaaRepS
import Derived.Test.YtphpjmkebnadoaaRepI
import Derived.Test.YtphpjmkebnadoaaSnds
namespace Go.Proofs.Ytphpjmkebnadoaa
open Go.RowKit

def rpL' (xs : List Int) : List Int := rpL xs (xs.length / 7)
def rpN' (xs : List Int) : Int := rpN xs (xs.length / 7)
theorem specReplayLog'_any (h : Hd) (l : List Int) (w : World) (ok : RecsOk h) (hr : RdAll w (RecsS h l)) :
    Calls Try.prog 17 #[RecsV h] w fun e w' => ∃ k : Hd, e = .returned (.tuple #[SndsV k, .int .i64 (rpN' l), .int .i64 (gaugeC' l)]) ∧ SndsOk k ∧ RdAll w' (SndsS k (rpL' l)) ∧ WrAll w' w.heap.size (SndsS k (rpL' l)) ∧ Sep (SndsR k) ∧ Below w.heap.size w w' := by
  obtain ⟨A, n, c⟩ := h
  have r : Rd w A (n * 7) (ints l) := hr.head
  unfold rpL' rpN' gaugeC'
  rw [r.len7]
  refine (specReplay_any A n c l w ok.1 r).mono ?_
  rintro e w' ⟨k, rfl, hk, R, Y, b⟩
  exact ⟨k, rfl, (show k.n ≤ 1048576 by omega), RdAll.cons (s := ⟨k.A, k.n * 4, ints (rpL l n)⟩) R (RdAll.nil _), WrAll.cons (s := ⟨k.A, k.n * 4, ints (rpL l n)⟩) Y (WrAll.nil _ _), Sep.one _, b⟩
theorem implReplayLog'_any (h : Hd) (l : List Int) (w : World) (ok : RecsOk h) (hr : RdAll w (RecsS h l)) :
    Calls Try.prog 18 #[RecsV h] w fun e w' => ∃ k : Hd, e = .returned (.tuple #[SndsV k, .int .i64 (rpN' l), .int .i64 (gaugeC' l)]) ∧ SndsOk k ∧ RdAll w' (SndsS k (rpL' l)) ∧ WrAll w' w.heap.size (SndsS k (rpL' l)) ∧ Sep (SndsR k) ∧ Below w.heap.size w w' := by
  obtain ⟨A, n, c⟩ := h
  have r : Rd w A (n * 7) (ints l) := hr.head
  unfold rpL' rpN' gaugeC'
  rw [r.len7]
  refine (implReplay_any A n c l w ok.1 ok.2 r).mono ?_
  rintro e w' ⟨k, rfl, hk, R, Y, b⟩
  exact ⟨k, rfl, (show k.n ≤ 1048576 by omega), RdAll.cons (s := ⟨k.A, k.n * 4, ints (rpL l n)⟩) R (RdAll.nil _), WrAll.cons (s := ⟨k.A, k.n * 4, ints (rpL l n)⟩) Y (WrAll.nil _ _), Sep.one _, b⟩
end Go.Proofs.Ytphpjmkebnadoaa
