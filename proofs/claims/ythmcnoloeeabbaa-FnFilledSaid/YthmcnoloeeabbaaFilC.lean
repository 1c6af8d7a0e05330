/- Intervals: the bounds of all of a list, the reference's side. Condition: valid intervals, at most 200. -/
import Derived.Test.YthmcnoloeeabbaaFilB
namespace Go.Proofs.Ythmcnoloeeabbaa
open Go.RowKit

def absI (x : Int) : Int := if x < 0 then -x else x
theorem absI_near {a b : Nat} : absI ((a : Int) - (b : Int)) ≤ 1 ↔ (a ≤ b + 1 ∧ b ≤ a + 1) := by unfold absI; split <;> omega
set_option maxHeartbeats 400000 in
theorem l01Abs_any (x : Int) (w : World) (h1 : -1000000 ≤ x) (h2 : x ≤ 1000000) :
    Calls Try.prog 91 #[.int .i64 x] w fun e w' => e = .returned (.int .i64 (absI x)) ∧ w = w' := by
  have HA : Hid (absI x = if x < -x then -x else x) := by unfold Hid absI; split <;> split <;> omega
  go_enter Try.func91, Try.ntmps91
  go_wp2
  all_goals
    go_ret
    exact ⟨ret_int (by rw [HA.out]; first | (rw [if_pos (by omega)]; done) | (rw [if_neg (by omega)]; done)), rfl⟩
def pairsL (ds : List Int) (ks : List Nat) : List Int := ks.flatMap fun k => [ds.getD (k * 2) 0, ds.getD (k * 2 + 1) 0]
theorem pairsL_snoc (ds : List Int) (ks : List Nat) (k : Nat) : pairsL ds (ks ++ [k]) = pairsL ds ks ++ [ds.getD (k * 2) 0, ds.getD (k * 2 + 1) 0] := by unfold pairsL; rw [List.flatMap_append]; rfl
theorem pairsL_len (ds : List Int) : ∀ ks : List Nat, (pairsL ds ks).length = ks.length * 2
  | [] => rfl
  | k :: ks => by
    show ([ds.getD (k * 2) 0, ds.getD (k * 2 + 1) 0] ++ pairsL ds ks).length = _
    rw [List.length_append, pairsL_len ds ks]; simp only [List.length_cons, List.length_nil]; omega
theorem pairsL_at (ds : List Int) : ∀ (ks : List Nat) (j : Nat) (h : j < ks.length), (pairsL ds ks).getD (j * 2) 0 = ds.getD (ks[j] * 2) 0 ∧ (pairsL ds ks).getD (j * 2 + 1) 0 = ds.getD (ks[j] * 2 + 1) 0
  | [], j, h => absurd h (Nat.not_lt_zero _)
  | k :: ks, 0, _ => ⟨rfl, rfl⟩
  | k :: ks, j + 1, h => by
    have ih := pairsL_at ds ks j (by simpa using h)
    have e : pairsL ds (k :: ks) = ds.getD (k * 2) 0 :: ds.getD (k * 2 + 1) 0 :: pairsL ds ks := rfl
    rw [e, show (j + 1) * 2 = j * 2 + 1 + 1 by omega, List.getElem_cons_succ]
    simp only [List.getD_cons_succ]
    exact ih
section
variable (ds : List Int) (ks : List Nat) (A : Option Addr) (c : Nat) (w : World)
set_option maxRecDepth 100000 in
set_option maxHeartbeats 2000000 in
theorem l02All_any (hn : ks.length ≤ 200) (hr : Rd w A (ks.length * 2) (ints (pairsL ds ks))) (hv : ∀ j (h : j < ks.length), ivB (ds.getD (ks[j] * 2) 0) (ds.getD (ks[j] * 2 + 1) 0) = true) :
    Calls Try.prog 130 #[.slice A ks.length c] w fun e w' => e = .returned (.bool true) ∧ Below w.heap.size w w' := by
  have HV := Lib.hid hv
  clear hv
  go_enter Try.func130, Try.ntmps130
  go_wp2
  go_loopw [3] (fun i wr => ∃ j : Nat, j ≤ ks.length ∧ i = .int .i64 j ∧ Below w.heap.size w wr) (fun i _ => ks.length - (intOf i).toNat)
  case atStart => exact ⟨0, Nat.zero_le _, rfl, Below.refl _ _⟩
  case round =>
    obtain ⟨j, hj, rfl, hb⟩ := hrel
    by_cases hlt : j < ks.length
    · obtain ⟨ad, rfl, hx, hy⟩ := (hr.below hb).two hlt
      have hp := pairsL_at ds ks j hlt
      rw [hp.1] at hx
      rw [hp.2] at hy
      have hq := HV.out j hlt
      clear hp
      generalize ds.getD (ks[j] * 2) 0 = x at *
      generalize ds.getD (ks[j] * 2 + 1) 0 = y at *
      have hj0 : (0 : Int) ≤ (j : Int) := by omega
      have hj1 : (j : Int) < (ks.length : Int) := by omega
      go_wp2_with fail
      refine (specIsInterval_any x y _).mono ?_
      rintro e w2 ⟨rfl, b2⟩
      have hb2 := hb.trans (b2.mono hb.size)
      clear b2 hx hy hb
      go_wp2
      go_roundw
      case rel => exact ⟨j + 1, by omega, by go_num, hb2⟩
      case measure => simp [intOf]; omega
    · obtain rfl : j = ks.length := by omega
      go_wp2
      go_ret
      exact ⟨rfl, hb⟩
set_option maxRecDepth 100000 in
set_option maxHeartbeats 4000000 in
theorem specEncloseAll_any (hn : ks.length ≤ 200) (h1 : 1 ≤ ks.length) (hr : Rd w A (ks.length * 2) (ints (pairsL ds ks))) (hv : ∀ j (h : j < ks.length), ivB (ds.getD (ks[j] * 2) 0) (ds.getD (ks[j] * 2 + 1) 0) = true) :
    Calls Try.prog 92 #[.slice A ks.length c] w fun e w' => e = .returned (.tuple #[.agg #[.int .i64 (hullL ds ks).1, .int .i64 (hullL ds ks).2], .int .i64 0]) ∧ Below w.heap.size w w' := by
  have HV := Lib.hid hv
  clear hv
  have hne : ((ks.length : Int) == 0) = false := by rw [beq_eq_false_iff_ne]; omega
  have h200 : decide ((200 : Int) < (ks.length : Int)) = false := decide_eq_false (by omega)
  have hw0 : Below w.heap.size w (w.alloc (.cells #[.int .i64 0, .int .i64 0] 82)) := (Below.refl _ _).alloc (Nat.le_refl _) _
  have K0 := Blk.newN w 82 #[.int .i64 0, .int .i64 0] rfl
  go_enter Try.func92, Try.ntmps92
  go_wp2_with fail
  generalize w.alloc (.cells #[.int .i64 0, .int .i64 0] 82) = w1 at hw0 K0 ⊢
  refine (l02All_any ds ks A c w1 hn (hr.below hw0) HV.out).mono ?_
  rintro e w2 ⟨rfl, b2⟩
  have hb2 := hw0.trans (b2.mono hw0.size)
  have K2 := K0.below b2 K0.lt
  clear b2 K0 hw0
  have c0 := fun o => K2.cell o
  have f0 := fun o => K2.frozen o
  have y0 := K2.lt
  have hl0 : (0 : Int) < (ks.length : Int) := by omega
  have hl0' : 0 < ks.length := h1
  obtain ⟨ad, rfl, hx, hy⟩ := (hr.below hb2).two (show 0 < ks.length from h1)
  rw [Nat.zero_mul, Addr.add_zero'] at hx hy
  have hp := pairsL_at ds ks 0 h1
  have HP0 : Hid (hullL ds (ks.take 1) = ((pairsL ds ks).getD 0 0, (pairsL ds ks).getD (0 + 1) 0)) := by
    unfold Hid
    have e := pairsL_at ds ks 0 h1
    rw [Nat.zero_mul] at e
    rw [e.1, e.2]
    obtain ⟨k, t, rfl⟩ : ∃ k t, ks = k :: t := by
      cases ks with
      | nil => cases h1
      | cons k t => exact ⟨k, t, rfl⟩
    rfl
  clear hp
  generalize (pairsL ds ks).getD 0 0 = x at *
  generalize (pairsL ds ks).getD (0 + 1) 0 = y at *
  go_wp2
  have hb3 : Below w.heap.size w (w2.alloc (.cells #[.int .i64 x, .int .i64 y] 82)) := (by (repeat (first | (with_reducible assumption) | (with_reducible exact Below.refl _ _) | (with_reducible refine Below.drew ?_) | (with_reducible refine Below.drewN ?_ _) | (with_reducible refine Below.setCell ?_ ?_ _) | (with_reducible refine Below.alloc ?_ ?_ _) | assumption)); all_goals (first | omega | (simp; done) | (simp; omega)))
  have P0 := K2.alloc (.cells #[.int .i64 x, .int .i64 y] 82)
  have P1 : Blk (w2.alloc (.cells #[.int .i64 x, .int .i64 y] 82)) w2.heap.size 82 #[.int .i64 (hullL ds (ks.take 1)).1, .int .i64 (hullL ds (ks.take 1)).2] := by rw [HP0.out]; exact Blk.new _ _ _
  generalize w2.alloc (.cells #[.int .i64 x, .int .i64 y] 82) = w3 at hb3 P0 P1 ⊢
  clear c0 f0 hx hy HP0 K2
  go_loopw [5] (fun i wr => ∃ j : Nat, 1 ≤ j ∧ j ≤ ks.length ∧ i = .int .i64 j ∧ Below w.heap.size w wr ∧ Blk wr w.heap.size 82 #[.int .i64 0, .int .i64 0] ∧ Blk wr w2.heap.size 82 #[.int .i64 (hullL ds (ks.take j)).1, .int .i64 (hullL ds (ks.take j)).2]) (fun i _ => ks.length - (intOf i).toNat)
  case atStart => exact ⟨1, Nat.le_refl _, h1, rfl, hb3, P0, P1⟩
  case round =>
    clear hb3 P0 P1
    obtain ⟨j, hj1, hj, rfl, hb, P0, P1⟩ := hrel
    have c0 := fun o => P0.cell o
    have f0 := fun o => P0.frozen o
    have c1 := fun o => P1.cell o
    have f1 := fun o => P1.frozen o
    have z0 := P0.lt
    have z1 := P1.lt
    by_cases hlt : j < ks.length
    · obtain ⟨_, ⟨⟩, hx, hy⟩ := (hr.below hb).two hlt
      have hp := pairsL_at ds ks j hlt
      rw [hp.1] at hx
      rw [hp.2] at hy
      clear hp
      have HH : Hid (hullL ds (ks.take (j + 1)) = (min (hullL ds (ks.take j)).1 (ds.getD (ks[j] * 2) 0), max (hullL ds (ks.take j)).2 (ds.getD (ks[j] * 2 + 1) 0))) := by
        unfold Hid
        rw [take_snoc hlt, hullL_snoc]
        intro e
        have := congrArg List.length e
        rw [List.length_take] at this
        simp only [List.length_nil] at this
        omega
      generalize ds.getD (ks[j] * 2) 0 = x at *
      generalize ds.getD (ks[j] * 2 + 1) 0 = y at *
      generalize (hullL ds (ks.take j)).1 = p at *
      generalize (hullL ds (ks.take j)).2 = q at *
      have hj0 : (0 : Int) ≤ (j : Int) := by omega
      have hjl : (j : Int) < (ks.length : Int) := by omega
      go_wp2_with fail
      go_still_tail 5, (by kernel_rfl)
      have D0 : Blk wr.drew _ _ _ := P0
      have D1 : Blk wr.drew _ _ _ := P1
      have db := Below.drew hb
      change wpList _ _ _ _ _ wr.drew
      generalize wr.drew = w5 at D0 D1 db ⊢
      clear c0 f0 c1 f1 P0 P1 hb hx hy
      go_wp2_with fail
      refine (l02Hull_any p q x y _).mono ?_
      rintro e w6 ⟨rfl, b6⟩
      have db6 := db.trans (b6.mono db.size)
      have Q0 := D0.below b6 D0.lt
      have Q1 := D1.below b6 D1.lt
      have c1 := fun o => Q1.cell o
      have f1 := fun o => Q1.frozen o
      have z6 := Q1.lt
      have R1 : Blk ((w6.setCell ⟨w2.heap.size, 0, none⟩ (.int .i64 (min p x))).setCell ⟨w2.heap.size, 1, none⟩ (.int .i64 (max q y))) w2.heap.size 82 #[.int .i64 (hullL ds (ks.take (j + 1))).1, .int .i64 (hullL ds (ks.take (j + 1))).2] := by rw [HH.out]; exact (Q1.set_ 0 _).set_ 1 _
      have R0 : Blk ((w6.setCell ⟨w2.heap.size, 0, none⟩ (.int .i64 (min p x))).setCell ⟨w2.heap.size, 1, none⟩ (.int .i64 (max q y))) w.heap.size 82 #[.int .i64 0, .int .i64 0] := (Q0.far (by simp only; omega) _).far (by simp only; omega) _
      have RB : Below w.heap.size w ((w6.setCell ⟨w2.heap.size, 0, none⟩ (.int .i64 (min p x))).setCell ⟨w2.heap.size, 1, none⟩ (.int .i64 (max q y))) := (db6.setCell (by simp only; omega) _).setCell (by simp only; omega) _
      clear D0 D1 db b6 db6 Q0 Q1
      generalize min p x = mp at *
      generalize max q y = mq at *
      go_wp2
      go_roundw
      case rel => exact ⟨j + 1, by omega, by omega, by go_num, RB, R0, R1⟩
      case measure => simp [intOf]; omega
    · obtain rfl : j = ks.length := by omega
      rw [List.take_length] at c1
      go_wp2
      exact bodyPost_ret (by simp [results, Try.results92, go_sem, c0]) rfl ⟨rfl, (by (repeat (first | (with_reducible assumption) | (with_reducible exact Below.refl _ _) | (with_reducible refine Below.drew ?_) | (with_reducible refine Below.drewN ?_ _) | (with_reducible refine Below.setCell ?_ ?_ _) | (with_reducible refine Below.alloc ?_ ?_ _) | assumption)); all_goals (first | omega | (simp; done) | (simp; omega)))⟩
end
end Go.Proofs.Ythmcnoloeeabbaa
