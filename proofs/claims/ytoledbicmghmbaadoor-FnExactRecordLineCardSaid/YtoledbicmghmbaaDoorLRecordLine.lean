/- The law FnExactRecordLine, walked. Condition: the library's table of powers of ten is as it is laid. -/
import Derived.Test.YtoledbicmghmbaaDoorRecW
import Derived.Test.YtoledbicmghmbaaDoorOpenRec
namespace Go.Proofs.YtoledbicmghmbaaDoor
open Go.RowKit

set_option maxRecDepth 100000 in
set_option maxHeartbeats 2000000 in
theorem FnExactRecordLine_walk (w : World) (v : Value) (hv : ∃ t k l x y d r : Int, v = .agg #[.int .i64 t, .int .i64 k, .int .i64 l, .int .i64 x, .int .i64 y, .int .i64 d, .int .i64 r]) (T : TabW w) :
    Calls Tryd.prog 3 #[v] w fun e w' => e = .returned (.bool true) ∧ Below w.heap.size w w' := by
  obtain ⟨t, k, l, x, y, d, r, rfl⟩ := hv
  have K0 := Blk.new w 25 #[.int .i64 t, .int .i64 k, .int .i64 l, .int .i64 x, .int .i64 y, .int .i64 d, .int .i64 r]
  have b0 : Below w.heap.size w (w.alloc (.cells #[.int .i64 t, .int .i64 k, .int .i64 l, .int .i64 x, .int .i64 y, .int .i64 d, .int .i64 r] 25)) := (Below.refl _ _).alloc (Nat.le_refl _) _
  have HS := fun (W : World) => specRecordLine_any ⟨t, k, l, x, y, d, r⟩ W
  have HI := fun (W : World) (T : TabW W) => implRecordLine_any ⟨t, k, l, x, y, d, r⟩ W T
  unfold R7.V at HS HI
  simp only at HS HI
  generalize (⟨t, k, l, x, y, d, r⟩ : R7).t0 = L at *
  go_enter Tryd.func3, Tryd.ntmps3
  go_wp2_with fail
  generalize w.alloc (.cells #[.int .i64 t, .int .i64 k, .int .i64 l, .int .i64 x, .int .i64 y, .int .i64 d, .int .i64 r] 25) = w0 at b0 K0 ⊢
  have q0 := K0.lt
  have c0 := fun o => K0.cell o
  refine (toRecord_any t k l x y d r _).mono ?_
  rintro e w1 ⟨rfl, b1⟩
  have K1 := K0.below b1 q0
  have b1 := b0.trans (b1.mono b0.size)
  clear c0 b0 K0
  have q1 := K1.lt
  have c1 := fun o => K1.cell o
  go_wp2_with fail
  refine (HS _).mono ?_
  rintro e w2 ⟨rfl, b2⟩
  have K2 := K1.below b2 q1
  have b2 := b1.trans (b2.mono b1.size)
  clear c1 b1 K1
  have q2 := K2.lt
  have c2 := fun o => K2.cell o
  go_wp2_with fail
  refine (toRecord_any t k l x y d r _).mono ?_
  rintro e w3 ⟨rfl, b3⟩
  have b3 := b2.trans (b3.mono b2.size)
  clear c2 b2 K2
  go_wp2_with fail
  refine (HI _ (T.below b3)).mono ?_
  rintro e w4 ⟨rfl, b4⟩
  have b4 := b3.trans (b4.mono b3.size)
  go_wp2
  go_ret
  exact ⟨rfl, b4⟩
end Go.Proofs.YtoledbicmghmbaaDoor
