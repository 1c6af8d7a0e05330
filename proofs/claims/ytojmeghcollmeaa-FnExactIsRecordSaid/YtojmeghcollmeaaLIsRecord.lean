/- The law FnExactIsRecord, walked. No condition. -/
import Derived.Test.YtojmeghcollmeaaOpenRec
namespace Go.Proofs.Ytojmeghcollmeaa
open Go.RowKit

set_option maxHeartbeats 400000 in
theorem lawIsRecord_any (t k l x y d r : Int) (w : World) :
    Calls Try.prog 5 #[.agg #[.int .i64 t, .int .i64 k, .int .i64 l, .int .i64 x, .int .i64 y, .int .i64 d, .int .i64 r]] w fun e w' => e = .returned (.bool true) ∧ Below w.heap.size w w' := by
  go_enter Try.func5, Try.ntmps5
  go_wp2_with fail
  refine (toRecord_any _ _ _ _ _ _ _ _).mono ?_
  rintro e w1 ⟨rfl, hb1⟩
  obtain ⟨hc, hf⟩ := bcell hb1
  go_wp2_with fail
  refine (specIsRecord_any _ _ _ _ _ _ _ _).mono ?_
  rintro e w2 ⟨rfl, hb2⟩
  have hb12 := hb1.trans (hb2.mono hb1.size)
  obtain ⟨hc, hf⟩ := bcell hb12
  go_wp2_with fail
  refine (toRecord_any _ _ _ _ _ _ _ _).mono ?_
  rintro e w3 ⟨rfl, hb3⟩
  go_wp2_with fail
  refine (implIsRecord_any _ _ _ _ _ _ _ _).mono ?_
  rintro e w4 ⟨rfl, hb4⟩
  have hb14 := (hb12.trans (hb3.mono hb12.size)).trans (hb4.mono (Nat.le_trans hb12.size hb3.size))
  go_wp2
  go_ret
  exact ⟨rfl, Below.trans (by repeat (first | exact Below.refl _ _ | assumption | refine Below.drew ?_ | refine Below.drewN ?_ _ | refine Below.setCell ?_ (by first | (simp; done) | (simp; omega)) _ | refine Below.alloc ?_ (by first | (simp; done) | (simp; omega)) _)) (hb14.mono (by simp))⟩

theorem FnExactIsRecord_walk (v : Value) (hv : ∃ t k l x y d r : Int, v = .agg #[.int .i64 t, .int .i64 k, .int .i64 l, .int .i64 x, .int .i64 y, .int .i64 d, .int .i64 r]) (w : World) :
    Calls Try.prog 5 #[v] w fun e w' => e = .returned (.bool true) ∧ Below w.heap.size w w' := by
  obtain ⟨t, k, l, x, y, d, r, rfl⟩ := hv
  exact lawIsRecord_any t k l x y d r w
end Go.Proofs.Ytojmeghcollmeaa
