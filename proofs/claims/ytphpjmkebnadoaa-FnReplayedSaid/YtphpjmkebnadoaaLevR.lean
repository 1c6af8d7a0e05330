/- spec.LevelAt. Condition: a valid gauge, a time from 0 to 1000000. -/
import Derived.Test.YtphpjmkebnadoaaLevS
namespace Go.Proofs.Ytphpjmkebnadoaa
open Go.RowKit

set_option maxRecDepth 100000 in
set_option maxHeartbeats 4000000 in
theorem specLevelAt_any (A0 A1 : Option Addr) (n c d : Nat) (ts ls : List Int) (t : Int) (w : World) (G : GaOk ts ls) (r0 : Rd w A0 n (ints ts)) (r1 : Rd w A1 n (ints ls)) (ht0 : 0 ≤ t) (ht1 : t ≤ 1000000) :
    Calls Try.prog 82 #[.agg #[.slice A0 n c, .slice A1 n d], .int .i64 t] w fun e w' => e = .returned (.tuple #[.agg #[.int .i64 (lvLo ts ls t), .int .i64 (lvHi ts ls t)], .int .i64 (levC ts t)]) ∧ Below w.heap.size w w' := by
  have K2 := (Blk.new w 26 #[.slice A0 n c, .slice A1 n d]).alloc (.cells #[.int .i64 0, .int .i64 0] 106)
  have K4 := Blk.newN (g := w.heap.size + 1) (w.alloc (.cells #[.slice A0 n c, .slice A1 n d] 26)) 106 #[.int .i64 0, .int .i64 0] (by simp)
  have b0 : Below w.heap.size w ((w.alloc (.cells #[.slice A0 n c, .slice A1 n d] 26)).alloc (.cells #[.int .i64 0, .int .i64 0] 106)) := (by (repeat (first | (with_reducible assumption) | (with_reducible exact Below.refl _ _) | (with_reducible refine Below.drew ?_) | (with_reducible refine Below.drewN ?_ _) | (with_reducible refine Below.setCell ?_ ?_ _) | (with_reducible refine Below.alloc ?_ ?_ _) | assumption)); all_goals (first | omega | (simp; done) | (simp; omega)))
  have l0 : ts.length = n := r0.len
  have n0 : 1 ≤ n := by have := G.n0; omega
  have n1 : n ≤ 40 := by have := G.n1; omega
  have HG := Lib.hid G
  have hin : inR t 0 1000000 = true := inR_mk ht0 ht1
  have HLC : Hid (levC ts t = if inR t (ts.getD 0 0) (ts.getD (n - 1) 0) = true then 0 else 4) := by unfold Hid levC levIn; rw [l0]; rfl
  clear G l0
  go_enter Try.func82, Try.ntmps82
  go_upto_region 1 with fail
  generalize (w.alloc (.cells #[.slice A0 n c, .slice A1 n d] 26)).alloc (.cells #[.int .i64 0, .int .i64 0] 106) = w1 at K2 K4 b0 ⊢
  have g2 := K2.lt
  have g4 := K4.lt
  have e2 := fun o => K2.cell o
  go_wp2_with fail
  refine (specIsGauge_yes A0 A1 n n c d ts ls _ HG.out (r0.below b0) (r1.below b0)).mono ?_
  rintro e w2 ⟨rfl, b2⟩
  replace K2 := K2.below b2 g2
  replace K4 := K4.below b2 g4
  replace b0 := b0.trans (b2.mono b0.size)
  replace g2 := K2.lt
  replace g4 := K4.lt
  replace e2 := fun o => K2.cell o
  clear b2
  go_wp2_with fail
  refine (l01In_any _ _ _ _).mono ?_
  rw [hin]
  rintro e w' ⟨rfl, rfl⟩
  go_upto_region 5 with fail
  obtain ⟨ad, rfl, hx0⟩ := (r0.below b0).int (show 0 < n by omega)
  obtain ⟨_, ⟨⟩, hx1⟩ := (r0.below b0).int (show n - 1 < n by omega)
  rw [Addr.add_zero'] at hx0
  obtain ⟨m, rfl⟩ : ∃ m, n = m + 1 := ⟨n - 1, by omega⟩
  simp only [Nat.add_sub_cancel] at hx1 HLC
  have hm0 : (0 : Int) ≤ (m : Int) := by omega
  have hm1 : (m : Int) < (m : Int) + 1 := by omega
  have hm2 : 0 < m + 1 := by omega
  have hm3 : (0 : Int) < (m : Int) + 1 := by omega
  have hm4 : m < m + 1 := by omega
  have u1 : IntKind.i64.wrap (m : Int) = m := IntWalk.i64_in _ (by omega)
  rcases Bool.eq_false_or_eq_true (inR t (ts.getD 0 0) (ts.getD m 0)) with q | q
  rotate_left
  · have HC : Hid (levC ts t = 4) := by show _ = _; rw [HLC.out, q]; rfl
    have HV : Hid (lvLo ts ls t = 0 ∧ lvHi ts ls t = 0) := by unfold Hid lvLo lvHi; rw [HC.out]; exact ⟨rfl, rfl⟩
    clear HLC
    generalize ts.getD 0 0 = x0 at *
    generalize ts.getD m 0 = x1 at *
    have hI : ∀ W, Calls Try.prog 97 #[.int .i64 t, .int .i64 x0, .int .i64 x1] W fun e w' => e = .returned (.bool false) ∧ W = w' := fun W => by rw [← q]; exact l01In_any _ _ _ _
    go_quiet ((go_at_call 97; with_reducible exact q_left (hI _)))
    revert nq; intro nq1
    have D4 : Blk (w2.drewN nq1) (w.heap.size + 1) 106 #[.int .i64 0, .int .i64 0] := K4
    have db : Below w.heap.size w (w2.drewN nq1) := Below.drewN b0 _
    clear hx0 hx1 K2 K4 b0 e2 g2 g4 hI
    generalize w2.drewN nq1 = w3 at D4 db ⊢
    have e4 := fun o => D4.cell o
    have f4 := fun o => D4.frozen o
    have g4 := D4.lt
    go_wp2
    refine bodyPost_ret (v := .tuple #[.agg #[.int .i64 (0), .int .i64 (0)], .int .i64 4]) (by simp [results, Try.results82, go_sem, e4, f4, g4]) rfl ⟨by rw [HV.out.1, HV.out.2, HC.out], ?_⟩
    repeat (first | with_reducible exact db | refine Below.setCell ?_ (by simp <;> omega) _)
  · have HC : Hid (levC ts t = 0) := by show _ = _; rw [HLC.out, q]; rfl
    have HV : Hid (lvLo ts ls t = levLo ts ls t ∧ lvHi ts ls t = levHi ts ls t) := by unfold Hid lvLo lvHi; rw [HC.out]; exact ⟨rfl, rfl⟩
    have q' := inR_true q
    have hL := l20Level_any (some ad) A1 (m + 1) c d ts ls t
    have HQ1 := Lib.hid q'.1
    have HQ2 : Hid (t ≤ ts.getD (m + 1 - 1) 0) := q'.2
    clear HLC q'
    generalize ts.getD 0 0 = x0 at hx0 q
    generalize ts.getD m 0 = x1 at hx1 q
    have hI : ∀ W, Calls Try.prog 97 #[.int .i64 t, .int .i64 x0, .int .i64 x1] W fun e w' => e = .returned (.bool true) ∧ W = w' := fun W => by rw [← q]; exact l01In_any _ _ _ _
    go_quiet ((go_at_call 97; with_reducible exact q_left (hI _)))
    revert nq; intro nq1
    have D2 : Blk (w2.drewN nq1) w.heap.size 26 #[.slice (some ad) (m + 1) c, .slice A1 (m + 1) d] := K2
    have D4 : Blk (w2.drewN nq1) (w.heap.size + 1) 106 #[.int .i64 0, .int .i64 0] := K4
    have db : Below w.heap.size w (w2.drewN nq1) := Below.drewN b0 _
    clear hx0 hx1 K2 K4 b0 e2 g2 g4 hI
    generalize w2.drewN nq1 = w3 at D2 D4 db ⊢
    have e2 := fun o => D2.cell o
    have g4 := D4.lt
    go_wp2_with fail
    refine (hL _ HG.out (r0.below db) (r1.below db) ht0 ht1 HQ1.out HQ2.out).mono ?_
    rintro e w4 ⟨rfl, b4⟩
    replace D4 := D4.below b4 g4
    replace db := db.trans (b4.mono db.size)
    clear b4 e2 D2 hL
    replace g4 := D4.lt
    have e4 := fun o => D4.cell o
    have f4 := fun o => D4.frozen o
    generalize levLo ts ls t = lo at *
    generalize levHi ts ls t = hi at *
    go_wp2
    refine bodyPost_ret (v := .tuple #[.agg #[.int .i64 (lo), .int .i64 (hi)], .int .i64 0]) (by simp [results, Try.results82, go_sem, e4, f4, g4]) rfl ⟨by rw [HV.out.1, HV.out.2, HC.out], ?_⟩
    repeat (first | with_reducible exact db | refine Below.setCell ?_ (by simp <;> omega) _)
end Go.Proofs.Ytphpjmkebnadoaa
