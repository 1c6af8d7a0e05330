/- Grids: the cell of a place, the bounds of a sounding, both sides; gridding, plainly. Condition: a size from 1 to 10000, sides from 1 to 30, a place from 0 to 10000. -/
import Derived.Test.YthmcnoloeeabbaaGriF
import Derived.Test.YthmcnoloeeabbaaSndB
namespace Go.Proofs.Ythmcnoloeeabbaa
open Go.RowKit

def cellI (s wd hg x y : Int) : Int := if x / s < wd ∧ y / s < hg then y / s * wd + x / s else -1
theorem ediv_bdS {x s : Int} (h0 : 0 ≤ x) (h1 : x ≤ 10000) (hs : 1 ≤ s) : 0 ≤ x / s ∧ x / s ≤ 10000 ∧ x.tdiv s = x / s := by
  have a := Int.ediv_nonneg h0 (show 0 ≤ s by omega)
  have b := Int.ediv_le_self s h0
  exact ⟨a, by omega, Int.tdiv_eq_ediv_of_nonneg h0⟩
theorem cellI_bd {s wd hg x y : Int} (h0 : 0 ≤ x) (h1 : 0 ≤ y) (hs : 1 ≤ s) (hw : 1 ≤ wd) (h : 0 ≤ cellI s wd hg x y) : cellI s wd hg x y < wd * hg := by
  unfold cellI at *
  split at h
  · rename_i hc
    rw [if_pos hc]
    have a := Int.ediv_nonneg h0 (show 0 ≤ s by omega)
    have b := Int.ediv_nonneg h1 (show 0 ≤ s by omega)
    have e : (y / s + 1) * wd ≤ hg * wd := Int.mul_le_mul_of_nonneg_right (by omega) (by omega)
    rw [Int.add_mul, Int.one_mul] at e
    rw [Int.mul_comm wd hg]
    omega
  · omega
set_option maxRecDepth 100000 in
set_option maxHeartbeats 2000000 in
theorem implCell_any (s wd hg x y : Int) (S1 S2 : Value) (w : World) (hs0 : 1 ≤ s) (hs1 : s ≤ 10000) (hw0 : 1 ≤ wd) (hw1 : wd ≤ 30) (hx0 : 0 ≤ x) (hx1 : x ≤ 10000) (hy0 : 0 ≤ y) (hy1 : y ≤ 10000) (hc1 : ∃ A n c, S1 = .slice A n c) (hc2 : ∃ A n c, S2 = .slice A n c) :
    Calls Try.prog 109 #[.agg #[.int .i64 s, .int .i64 wd, .int .i64 hg, S1, S2], .int .i64 x, .int .i64 y] w fun e w' => e = .returned (.int .i64 (cellI s wd hg x y)) ∧ Below w.heap.size w w' := by
  obtain ⟨A1, n1, c1, rfl⟩ := hc1
  obtain ⟨A2, n2, c2, rfl⟩ := hc2
  have K0 := Blk.new w 50 #[.int .i64 s, .int .i64 wd, .int .i64 hg, .slice A1 n1 c1, .slice A2 n2 c2]
  have b0 : Below w.heap.size w (w.alloc (.cells #[.int .i64 s, .int .i64 wd, .int .i64 hg, .slice A1 n1 c1, .slice A2 n2 c2] 50)) := (Below.refl _ _).alloc (Nat.le_refl _) _
  obtain ⟨qx0, qx1, qx2⟩ := ediv_bdS hx0 hx1 hs0
  obtain ⟨qy0, qy1, qy2⟩ := ediv_bdS hy0 hy1 hs0
  have hsn : ¬ s = 0 := by omega
  have hsb : (s == 0) = false := by rw [beq_eq_false_iff_ne]; exact hsn
  have HC : Hid (cellI s wd hg x y = if x / s < wd ∧ y / s < hg then y / s * wd + x / s else -1) := rfl
  generalize x / s = qx at *
  generalize y / s = qy at *
  have wx : IntKind.i64.wrap qx = qx := IntWalk.i64_in _ (by omega)
  have wy : IntKind.i64.wrap qy = qy := IntWalk.i64_in _ (by omega)
  go_enter Try.func109, Try.ntmps109
  go_upto_region 1 with fail
  generalize w.alloc (.cells #[.int .i64 s, .int .i64 wd, .int .i64 hg, .slice A1 n1 c1, .slice A2 n2 c2] 50) = w1 at K0 b0 ⊢
  have e0 := fun o => K0.cell o
  go_quiet (fail)
  revert nq; intro nq1
  have p0 : 0 ≤ qy * wd := Int.mul_nonneg qy0 (by omega)
  have p1 : qy * wd ≤ 10000 * 30 := Int.mul_le_mul qy1 hw1 (by omega) (by omega)
  obtain ⟨p, hp⟩ : ∃ p, qy * wd = p := ⟨_, rfl⟩
  rw [hp] at p0 p1 HC
  have wp : IntKind.i64.wrap p = p := IntWalk.i64_in _ (by omega)
  have wpx : IntKind.i64.wrap (p + qx) = p + qx := IntWalk.i64_in _ (by omega)
  have e1 : ∀ o, (w1.drewN nq1).cell? ⟨w.heap.size, o, none⟩ = (#[.int .i64 s, .int .i64 wd, .int .i64 hg, .slice A1 n1 c1, .slice A2 n2 c2] : Array Value)[o]? := e0
  have b1 : Below w.heap.size w (w1.drewN nq1) := Below.drewN b0 _
  by_cases h1 : qx < wd
  · have h1' : ¬ wd ≤ qx := by omega
    by_cases h2 : qy < hg
    · have h2' : ¬ hg ≤ qy := by omega
      rw [if_pos ⟨h1, h2⟩] at HC
      go_wp2
      go_ret
      exact ⟨ret_int HC.out.symm, b1⟩
    · have h2' : hg ≤ qy := by omega
      rw [if_neg (fun c => h2 c.2)] at HC
      go_wp2
      go_ret
      exact ⟨ret_int HC.out.symm, b1⟩
  · have h1' : wd ≤ qx := by omega
    rw [if_neg (fun c => h1 c.1)] at HC
    go_wp2
    go_ret
    exact ⟨ret_int HC.out.symm, b1⟩
set_option maxRecDepth 100000 in
set_option maxHeartbeats 2000000 in
theorem specCell_any (s wd hg x y : Int) (S1 S2 : Value) (w : World) (hs0 : 1 ≤ s) (hs1 : s ≤ 10000) (hw0 : 1 ≤ wd) (hw1 : wd ≤ 30) (hx0 : 0 ≤ x) (hx1 : x ≤ 10000) (hy0 : 0 ≤ y) (hy1 : y ≤ 10000) (hc1 : ∃ A n c, S1 = .slice A n c) (hc2 : ∃ A n c, S2 = .slice A n c) :
    Calls Try.prog 113 #[.agg #[.int .i64 s, .int .i64 wd, .int .i64 hg, S1, S2], .int .i64 x, .int .i64 y] w fun e w' => e = .returned (.int .i64 (cellI s wd hg x y)) ∧ Below w.heap.size w w' := by
  obtain ⟨A1, n1, c1, rfl⟩ := hc1
  obtain ⟨A2, n2, c2, rfl⟩ := hc2
  have K0 := Blk.new w 50 #[.int .i64 s, .int .i64 wd, .int .i64 hg, .slice A1 n1 c1, .slice A2 n2 c2]
  have b0 : Below w.heap.size w (w.alloc (.cells #[.int .i64 s, .int .i64 wd, .int .i64 hg, .slice A1 n1 c1, .slice A2 n2 c2] 50)) := (Below.refl _ _).alloc (Nat.le_refl _) _
  obtain ⟨qx0, qx1, qx2⟩ := ediv_bdS hx0 hx1 hs0
  obtain ⟨qy0, qy1, qy2⟩ := ediv_bdS hy0 hy1 hs0
  have hsn : ¬ s = 0 := by omega
  have hsb : (s == 0) = false := by rw [beq_eq_false_iff_ne]; exact hsn
  have HC : Hid (cellI s wd hg x y = if x / s < wd ∧ y / s < hg then y / s * wd + x / s else -1) := rfl
  generalize x / s = qx at *
  generalize y / s = qy at *
  have wx : IntKind.i64.wrap qx = qx := IntWalk.i64_in _ (by omega)
  have wy : IntKind.i64.wrap qy = qy := IntWalk.i64_in _ (by omega)
  go_enter Try.func113, Try.ntmps113
  go_upto_region 1 with fail
  generalize w.alloc (.cells #[.int .i64 s, .int .i64 wd, .int .i64 hg, .slice A1 n1 c1, .slice A2 n2 c2] 50) = w1 at K0 b0 ⊢
  have e0 := fun o => K0.cell o
  have p0 : 0 ≤ qy * wd := Int.mul_nonneg qy0 (by omega)
  have p1 : qy * wd ≤ 10000 * 30 := Int.mul_le_mul qy1 hw1 (by omega) (by omega)
  obtain ⟨p, hp⟩ : ∃ p, qy * wd = p := ⟨_, rfl⟩
  rw [hp] at p0 p1 HC
  have wp : IntKind.i64.wrap p = p := IntWalk.i64_in _ (by omega)
  have wpx : IntKind.i64.wrap (p + qx) = p + qx := IntWalk.i64_in _ (by omega)
  by_cases h1 : qx < wd
  · have h1' : ¬ wd ≤ qx := by omega
    have h1d : decide (wd ≤ qx) = false := decide_eq_false h1'
    by_cases h2 : qy < hg
    · have h2' : ¬ hg ≤ qy := by omega
      have h2d : decide (hg ≤ qy) = false := decide_eq_false h2'
      rw [if_pos ⟨h1, h2⟩] at HC
      go_quiet (fail)
      revert nq; intro nq1
      go_wp2_with fail
      go_quiet (fail)
      revert nq; intro nq2
      go_wp2
      go_ret
      exact ⟨ret_int HC.out.symm, by first | exact Below.drewN b0 _ | exact Below.drewN (Below.drewN b0 _) _⟩
    · have h2' : hg ≤ qy := by omega
      have h2d : decide (hg ≤ qy) = true := decide_eq_true h2'
      rw [if_neg (fun c => h2 c.2)] at HC
      go_quiet (fail)
      revert nq; intro nq1
      go_wp2
      go_ret
      exact ⟨ret_int HC.out.symm, by first | exact Below.drewN b0 _ | exact Below.drewN (Below.drewN b0 _) _⟩
  · have h1' : wd ≤ qx := by omega
    have h1d : decide (wd ≤ qx) = true := decide_eq_true h1'
    rw [if_neg (fun c => h1 c.1)] at HC
    go_quiet (fail)
    revert nq; intro nq1
    go_wp2
    go_ret
    exact ⟨ret_int HC.out.symm, by first | exact Below.drewN b0 _ | exact Below.drewN (Below.drewN b0 _) _⟩
set_option maxHeartbeats 1000000 in
theorem implBounds_any (x y d r : Int) (w : World) (h1 : -2000 ≤ d) (h2 : d ≤ 1000000) (h3 : 0 ≤ r) (h4 : r ≤ 5000) :
    Calls Try.prog 110 #[.agg #[.int .i64 x, .int .i64 y, .int .i64 d, .int .i64 r]] w fun e w' => e = .returned (.agg #[.int .i64 (d - r), .int .i64 (d + r)]) ∧ Below w.heap.size w w' := by
  have K1 := (Blk.new w 129 #[.int .i64 x, .int .i64 y, .int .i64 d, .int .i64 r]).alloc (.cells #[.int .i64 0, .int .i64 0] 82)
  have K2 := Blk.newN (g := w.heap.size + 1) (w.alloc (.cells #[.int .i64 x, .int .i64 y, .int .i64 d, .int .i64 r] 129)) 82 #[.int .i64 0, .int .i64 0] (by simp)
  have b0 : Below w.heap.size w ((w.alloc (.cells #[.int .i64 x, .int .i64 y, .int .i64 d, .int .i64 r] 129)).alloc (.cells #[.int .i64 0, .int .i64 0] 82)) := (by (repeat (first | (with_reducible assumption) | (with_reducible exact Below.refl _ _) | (with_reducible refine Below.drew ?_) | (with_reducible refine Below.drewN ?_ _) | (with_reducible refine Below.setCell ?_ ?_ _) | (with_reducible refine Below.alloc ?_ ?_ _) | assumption)); all_goals (first | omega | (simp; done) | (simp; omega)))
  go_enter Try.func110, Try.ntmps110
  go_upto_region 1 with fail
  generalize (w.alloc (.cells #[.int .i64 x, .int .i64 y, .int .i64 d, .int .i64 r] 129)).alloc (.cells #[.int .i64 0, .int .i64 0] 82) = w1 at K1 K2 b0 ⊢
  have e1 := fun o => K1.cell o
  have e2 := fun o => K2.cell o
  have f2 := fun o => K2.frozen o
  have g2 := K2.lt
  go_wp2
  refine bodyPost_ret (v := .agg #[.int .i64 (d - r), .int .i64 (d + r)]) (by simp [results, Try.results110, go_sem, e2, g2]) rfl ⟨rfl, ?_⟩
  repeat (first | with_reducible exact b0 | refine Below.setCell ?_ (by simp <;> omega) _)
set_option maxHeartbeats 1000000 in
theorem specBounds_any (x y d r : Int) (w : World) (h1 : -2000 ≤ d) (h2 : d ≤ 1000000) (h3 : 0 ≤ r) (h4 : r ≤ 5000) :
    Calls Try.prog 114 #[.agg #[.int .i64 x, .int .i64 y, .int .i64 d, .int .i64 r]] w fun e w' => e = .returned (.agg #[.int .i64 (d - r), .int .i64 (d + r)]) ∧ Below w.heap.size w w' := by
  have K1 := (Blk.new w 129 #[.int .i64 x, .int .i64 y, .int .i64 d, .int .i64 r]).alloc (.cells #[.int .i64 0, .int .i64 0] 82)
  have K2 := Blk.newN (g := w.heap.size + 1) (w.alloc (.cells #[.int .i64 x, .int .i64 y, .int .i64 d, .int .i64 r] 129)) 82 #[.int .i64 0, .int .i64 0] (by simp)
  have b0 : Below w.heap.size w ((w.alloc (.cells #[.int .i64 x, .int .i64 y, .int .i64 d, .int .i64 r] 129)).alloc (.cells #[.int .i64 0, .int .i64 0] 82)) := (by (repeat (first | (with_reducible assumption) | (with_reducible exact Below.refl _ _) | (with_reducible refine Below.drew ?_) | (with_reducible refine Below.drewN ?_ _) | (with_reducible refine Below.setCell ?_ ?_ _) | (with_reducible refine Below.alloc ?_ ?_ _) | assumption)); all_goals (first | omega | (simp; done) | (simp; omega)))
  go_enter Try.func114, Try.ntmps114
  go_upto_region 1 with fail
  generalize (w.alloc (.cells #[.int .i64 x, .int .i64 y, .int .i64 d, .int .i64 r] 129)).alloc (.cells #[.int .i64 0, .int .i64 0] 82) = w1 at K1 K2 b0 ⊢
  have e1 := fun o => K1.cell o
  have e2 := fun o => K2.cell o
  have f2 := fun o => K2.frozen o
  have g2 := K2.lt
  go_wp2
  refine bodyPost_ret (v := .agg #[.int .i64 (d - r), .int .i64 (d + r)]) (by simp [results, Try.results114, go_sem, e2, g2]) rfl ⟨rfl, ?_⟩
  repeat (first | with_reducible exact b0 | refine Below.setCell ?_ (by simp <;> omega) _)
end Go.Proofs.Ythmcnoloeeabbaa
