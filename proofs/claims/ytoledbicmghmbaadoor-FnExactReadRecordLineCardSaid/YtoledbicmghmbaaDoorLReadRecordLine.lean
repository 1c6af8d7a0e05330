/- The law FnExactReadRecordLine, walked. Condition: the library's variables are as they are laid. -/
import Derived.Test.YtoledbicmghmbaaDoorRdI
import Derived.Test.YtoledbicmghmbaaDoorRecN
namespace Go.Proofs.YtoledbicmghmbaaDoor
open Go.RowKit

set_option maxRecDepth 100000 in
set_option maxHeartbeats 2000000 in
theorem lawReadRecordLine_any (l : Bs) (w : World) (hs : l.length ≤ 9223372036854775807) (T : LibW w) :
    Calls Tryd.prog 7 #[.string ⟨l.toArray⟩] w fun e w' => e = .returned (.bool true) ∧ Below w.heap.size w w' := by
  have hz := str_size l
  by_cases h : (1048576 : Int) < (l.length : Int)
  · go_enter Tryd.func7, Tryd.ntmps7
    go_wp2_with fail
    go_ret
    exact ⟨rfl, Below.refl _ _⟩
  have HS := fun (W : World) => specReadRecordLine_any l W (by omega)
  have HI := fun (W : World) (T : LibW W) => implReadRecordLine_any l W (by omega) T
  unfold R7.V at HS HI
  generalize rrR l = f at HS HI
  generalize rrB l = rb at HS HI
  obtain ⟨t, k, lv, x, y, d, r⟩ := f
  simp only at HS HI
  go_enter Tryd.func7, Tryd.ntmps7
  go_wp2_with fail
  refine (HS _).mono ?_
  rintro e w1 ⟨rfl, b1⟩
  have K0 := Blk.new w1 29 #[.int .i64 t, .int .i64 k, .int .i64 lv, .int .i64 x, .int .i64 y, .int .i64 d, .int .i64 r]
  have b2 : Below w.heap.size w (w1.alloc (.cells #[.int .i64 t, .int .i64 k, .int .i64 lv, .int .i64 x, .int .i64 y, .int .i64 d, .int .i64 r] 29)) := b1.trans (((Below.refl _ _).alloc (Nat.le_refl _) _).mono b1.size)
  go_wp2_with fail
  generalize w1.alloc (.cells #[.int .i64 t, .int .i64 k, .int .i64 lv, .int .i64 x, .int .i64 y, .int .i64 d, .int .i64 r] 29) = w2 at K0 b2 ⊢
  generalize w1.heap.size = g0 at K0 ⊢
  clear b1
  have q0 := K0.lt
  refine (HI _ (T.below b2)).mono ?_
  rintro e w3 ⟨rfl, b3⟩
  replace K0 := K0.below b3 q0
  replace b2 := b2.trans (b3.mono b2.size)
  clear b3
  have K1 := Blk.new w3 29 #[.int .i64 t, .int .i64 k, .int .i64 lv, .int .i64 x, .int .i64 y, .int .i64 d, .int .i64 r]
  replace K0 := K0.alloc (.cells #[.int .i64 t, .int .i64 k, .int .i64 lv, .int .i64 x, .int .i64 y, .int .i64 d, .int .i64 r] 29)
  have b4 : Below w.heap.size w (w3.alloc (.cells #[.int .i64 t, .int .i64 k, .int .i64 lv, .int .i64 x, .int .i64 y, .int .i64 d, .int .i64 r] 29)) := b2.trans (((Below.refl _ _).alloc (Nat.le_refl _) _).mono b2.size)
  go_upto_region 5 with fail
  generalize w3.alloc (.cells #[.int .i64 t, .int .i64 k, .int .i64 lv, .int .i64 x, .int .i64 y, .int .i64 d, .int .i64 r] 29) = w4 at K0 K1 b4 ⊢
  generalize w3.heap.size = g1 at K1 ⊢
  have y0 := fun o => K0.cell o
  have y1 := fun o => K1.cell o
  have p0 := K0.lt
  have p1 := K1.lt
  go_wp2_with fail
  refine (eqRecord_same t k lv x y d r _).mono ?_
  rintro e w5 ⟨rfl, b5⟩
  have b5' : Below w4.heap.size w4 w5 := by
    subst b5
    exact (by (repeat (first | (with_reducible assumption) | (with_reducible exact Below.refl _ _) | (with_reducible refine Below.drew ?_) | (with_reducible refine Below.drewN ?_ _) | (with_reducible refine Below.setCell ?_ ?_ _) | (with_reducible refine Below.alloc ?_ ?_ _) | assumption)); all_goals (first | omega | (simp; done) | (simp; omega)))
  have b6 : Below w.heap.size w w5 := b4.trans (b5'.mono b4.size)
  clear b5 b5'
  go_wp2
  go_ret
  exact ⟨rfl, b6⟩
theorem FnExactReadRecordLine_walk (w : World) (s : ByteArray) (hs : s.size ≤ maxLen) (T : LibW w) :
    Calls Tryd.prog 7 #[.string s] w fun e w' => e = .returned (.bool true) ∧ Below w.heap.size w w' := by
  have h := lawReadRecordLine_any s.data.toList w (by unfold maxLen at hs; simpa using hs) T
  rw [mk_list] at h
  exact h
end Go.Proofs.YtoledbicmghmbaaDoor
