/- Grids: spec.IsDepthGrid and impl.IsDepthGrid. Condition: lists of at most 1048576 elements. -/
import Derived.Test.YthmcnoloeeabbaaGriA
import Derived.StillTailTactics
namespace Go.Proofs.Ythmcnoloeeabbaa
open Go.RowKit

/-- both cells of an element -/
theorem Rd.two {w : World} {A : Option Addr} {n k : Nat} {xs : List Int} (h : Rd w A (n * 2) (ints xs)) (hk : k < n) :
    ∃ ad, A = some ad ∧ w.cell? (ad.add (k * 2)) = some (.int .i64 (xs.getD (k * 2) 0)) ∧ w.cell? ⟨(ad.add (k * 2)).block, (ad.add (k * 2)).off + 1, none⟩ = some (.int .i64 (xs.getD (k * 2 + 1) 0)) := by
  obtain ⟨ad, e0, hx0⟩ := h.int (show k * 2 < n * 2 by omega)
  obtain ⟨ad', e1, hx1⟩ := h.int (show k * 2 + 1 < n * 2 by omega)
  rw [e0] at e1
  injection e1 with e1
  subst e1
  rw [← add_of_add, field_add _ 1 (by decide)] at hx1
  exact ⟨ad, e0, hx0, hx1⟩

set_option maxRecDepth 100000 in
set_option maxHeartbeats 4000000 in
theorem implIsDepthGrid_any (h : DepthGridH) (l : DepthGridC) (w : World) (ok : DepthGridOk h) (hr : RdAll w (DepthGridS h l)) :
    Calls Try.prog 59 #[DepthGridV h l] w fun e w' => e = .returned (.bool (gridOk l)) ∧ Below w.heap.size w w' := by
  obtain ⟨m3, m4⟩ := ok
  have r3 := hr.head
  have r4 := hr.tail.head
  obtain ⟨⟨A3, n3, c3⟩, ⟨A4, n4, c4⟩⟩ := h
  obtain ⟨x0, x1, x2, l3, l4⟩ := l
  clear hr
  unfold DepthGridV
  simp only at *
  have HO : Hid (gridOk ⟨x0, x1, x2, l3, l4⟩ = (gshape x0 x1 x2 && decide ((n3 : Int) = x1 * x2) && decide (n4 * 2 = n3 * 2) && gcellsB l3 l4 n3)) := by
    unfold Hid gridOk gridSide
    simp only
    rw [r3.len, r4.len]
  have hb0 : Below w.heap.size w (w.alloc (.cells #[.int .i64 x0, .int .i64 x1, .int .i64 x2, .slice A3 n3 c3, .slice A4 n4 c4] 50)) := (Below.refl _ _).alloc (Nat.le_refl _) _
  rcases Bool.eq_false_or_eq_true (gshape x0 x1 x2) with h0 | h0
  case inr =>
    go_enter Try.func59, Try.ntmps59
    go_wp2_with fail
    go_quiet ((first | (go_at_call 108; exact q_left (isGridShape_any _ _ _ _))))
    go_wp2
    go_ret
    exact ⟨ret_bool (by rw [HO.out, h0]; rfl), Below.drewN hb0 _⟩
  have i0 := gshape_true h0
  have hmul := gmul_bd i0.2.1.1 i0.2.1.2 i0.2.2.1 i0.2.2.2
  have hwr : IntKind.i64.wrap (x1 * x2) = x1 * x2 := IntWalk.i64_in _ (by omega)
  by_cases e1 : (n3 : Int) = x1 * x2
  case neg =>
    have q1 : ((n3 : Int) == x1 * x2) = false := by simpa using e1
    have q2 : ((n3 : Int) != x1 * x2) = true := by simpa using e1
    have HE := Lib.hid e1
    clear e1
    go_enter Try.func59, Try.ntmps59
    go_wp2_with fail
    go_quiet ((first | (go_at_call 108; exact q_left (isGridShape_any _ _ _ _)) | (go_at_call 78; exact q_left (len64_any _ _ _ _ (by omega)))))
    go_wp2
    go_ret
    exact ⟨ret_bool (by rw [HO.out, h0, decide_eq_false HE.out]; rfl), Below.drewN hb0 _⟩
  have q1 : ((n3 : Int) == x1 * x2) = true := by simpa using e1
  have q2 : ((n3 : Int) != x1 * x2) = false := by simpa using e1
  have HE := Lib.hid e1
  clear e1
  by_cases e2 : n4 = n3
  case neg =>
    have q3 : ((n4 : Int) == (n3 : Int)) = false := by simp; omega
    have q4 : ((n4 : Int) != (n3 : Int)) = true := by simp; omega
    have HF : Hid (¬ n4 * 2 = n3 * 2) := by unfold Hid; omega
    clear e2
    go_enter Try.func59, Try.ntmps59
    go_wp2_with fail
    go_quiet ((first | (go_at_call 108; exact q_left (isGridShape_any _ _ _ _)) | (go_at_call 78; exact q_left (len64_any _ _ _ _ (by omega)))))
    go_wp2
    go_ret
    exact ⟨ret_bool (by rw [HO.out, decide_eq_false HF.out]; simp), Below.drewN hb0 _⟩
  subst e2
  have HG : Hid (gridOk ⟨x0, x1, x2, l3, l4⟩ = gcellsB l3 l4 n4) := by unfold Hid; rw [HO.out, h0, decide_eq_true HE.out, decide_eq_true rfl]; rfl
  clear HO
  go_enter Try.func59, Try.ntmps59
  go_wp2_with fail
  have K0 := Blk.new w 50 #[.int .i64 x0, .int .i64 x1, .int .i64 x2, .slice A3 n4 c3, .slice A4 n4 c4]
  go_quiet ((first | (go_at_call 108; exact q_left (isGridShape_any _ _ _ _)) | (go_at_call 78; exact q_left (len64_any _ _ _ _ (by omega)))))
  have hb1 := Below.drewN hb0 nq
  have K1 := K0.drewN nq
  have r3 := r3.below hb1
  have r4 := r4.below hb1
  generalize (w.alloc (.cells #[.int .i64 x0, .int .i64 x1, .int .i64 x2, .slice A3 n4 c3, .slice A4 n4 c4] 50)).drewN nq = w1 at hb1 K1 r3 r4 ⊢
  have c1 := fun o => K1.cell o
  clear hwr h0 K0 hb0
  go_wp2
  clear c1
  go_loopw [36] (fun i wr => ∃ k : Nat, k ≤ n4 ∧ i = .int .i64 k ∧ gcellsB l3 l4 k = true ∧ Below w1.heap.size w1 wr) (fun i _ => n4 - (intOf i).toNat)
  case atStart => exact ⟨0, Nat.zero_le _, rfl, rfl, Below.refl _ _⟩
  case round =>
    obtain ⟨k, hk, rfl, hall, hbel⟩ := hrel
    have HA := Lib.hid hall
    clear hall q1 q2
    have KR := K1.below hbel K1.lt
    have cr := fun o => KR.cell o
    by_cases hlt : k < n4
    · have HS : Hid (gcellsB l3 l4 (k + 1) = (gcellsB l3 l4 k && gcellB (l3.getD k 0) (l4.getD (k * 2) 0) (l4.getD (k * 2 + 1) 0))) := gcellsB_succ l3 l4 k
      have HB : Hid (gcellB (l3.getD k 0) (l4.getD (k * 2) 0) (l4.getD (k * 2 + 1) 0) = false → gcellsB l3 l4 n4 = false) := fun h => gcellsB_false h hlt
      have R4 := r4.below hbel
      obtain ⟨a3, rfl, hx⟩ := (r3.below hbel).int hlt
      obtain ⟨a4, rfl, hy0, hy1⟩ := R4.two hlt
      have R4' : ∀ W, Below wr.heap.size wr W → W.cell? (a4.add (k * 2)) = some (.int .i64 (l4.getD (k * 2) 0)) ∧ W.cell? ⟨(a4.add (k * 2)).block, (a4.add (k * 2)).off + 1, none⟩ = some (.int .i64 (l4.getD (k * 2 + 1) 0)) := fun W b => by
        obtain ⟨a5, e5, h5, h6⟩ := (R4.below b).two hlt
        injection e5 with e5
        subst e5
        exact ⟨h5, h6⟩
      generalize l3.getD k 0 = x at *
      generalize l4.getD (k * 2) 0 = y at *
      generalize l4.getD (k * 2 + 1) 0 = z at *
      have HC : Hid (gcellB x y z = (inR x (-1) 1000000000000 && ivB y z && !(decide (x = 0) && !(decide (y = 0) && decide (z = 0))))) := rfl
      rcases Bool.eq_false_or_eq_true (inR x (-1) 1000000000000) with g1 | g1
      case inr =>
        go_wp2_with (go_at_call 77; refine (within_any _ _ _ _).mono ?_; rintro e w' ⟨rfl, rfl⟩)
        go_ret
        exact ⟨ret_bool (by rw [HG.out, HB.out (by rw [HC.out, g1]; rfl)]), hb1.trans (hbel.mono hb1.size)⟩
      go_wp2_with (go_at_call 77; refine (within_any _ _ _ _).mono ?_; rintro e w' ⟨rfl, rfl⟩)
      refine (implIsInterval_any y z _).mono ?_
      rintro e w2 ⟨rfl, b2⟩
      have hb2 := bstep hbel b2 (Nat.le_refl _)
      have K2 := KR.below b2 KR.lt
      have c2 := fun o => K2.cell o
      have hy := R4' _ b2
      obtain ⟨hy0', hy1'⟩ := hy
      clear cr hx hy0 hy1 R4 R4'
      rcases Bool.eq_false_or_eq_true (ivB y z) with g2 | g2
      case inr =>
        go_wp2
        go_ret
        exact ⟨ret_bool (by rw [HG.out, HB.out (by rw [HC.out, g1, g2]; rfl)]), hb1.trans (hb2.mono hb1.size)⟩
      by_cases g3 : x = 0
      case neg =>
        have f3 : (x == 0) = false := by simpa using g3
        have HV : Hid (gcellB x y z = true) := by unfold Hid; rw [HC.out, g1, g2, decide_eq_false g3]; rfl
        clear g3
        go_wp2
        go_roundw
        case rel => exact ⟨k + 1, by omega, by go_num, by rw [HS.out, HA.out, HV.out]; rfl, hb2⟩
        case measure => simp [intOf]; omega
      subst g3
      by_cases g4 : y = 0
      case neg =>
        have f4 : (y == 0) = false := by simpa using g4
        have HV : Hid (gcellB 0 y z = false) := by unfold Hid; rw [HC.out, g1, g2, decide_eq_false g4]; simp
        clear g4
        go_wp2
        go_ret
        exact ⟨ret_bool (by rw [HG.out, HB.out HV.out]), hb1.trans (hb2.mono hb1.size)⟩
      subst g4
      by_cases g5 : z = 0
      case neg =>
        have f5 : (z == 0) = false := by simpa using g5
        have HV : Hid (gcellB 0 0 z = false) := by unfold Hid; rw [HC.out, g1, g2, decide_eq_false g5]; simp
        clear g5
        go_wp2
        go_ret
        exact ⟨ret_bool (by rw [HG.out, HB.out HV.out]), hb1.trans (hb2.mono hb1.size)⟩
      subst g5
      have HV : Hid (gcellB 0 0 0 = true) := by unfold Hid; rw [HC.out, g1, g2]; rfl
      go_wp2
      go_roundw
      case rel => exact ⟨k + 1, by omega, by go_num, by rw [HS.out, HA.out, HV.out]; rfl, hb2⟩
      case measure => simp [intOf]; omega
    · obtain rfl : k = n4 := by omega
      go_wp2
      go_ret
      exact ⟨ret_bool (by rw [HG.out, HA.out]), hb1.trans (hbel.mono hb1.size)⟩
set_option maxRecDepth 100000 in
set_option maxHeartbeats 4000000 in
theorem specIsDepthGrid_any (h : DepthGridH) (l : DepthGridC) (w : World) (ok : DepthGridOk h) (hr : RdAll w (DepthGridS h l)) :
    Calls Try.prog 81 #[DepthGridV h l] w fun e w' => e = .returned (.bool (gridOk l)) ∧ Below w.heap.size w w' := by
  obtain ⟨m3, m4⟩ := ok
  have r3 := hr.head
  have r4 := hr.tail.head
  obtain ⟨⟨A3, n3, c3⟩, ⟨A4, n4, c4⟩⟩ := h
  obtain ⟨x0, x1, x2, l3, l4⟩ := l
  clear hr
  unfold DepthGridV
  simp only at *
  have HO : Hid (gridOk ⟨x0, x1, x2, l3, l4⟩ = (gshape x0 x1 x2 && decide ((n3 : Int) = x1 * x2) && decide (n4 * 2 = n3 * 2) && gcellsB l3 l4 n3)) := by
    unfold Hid gridOk gridSide
    simp only
    rw [r3.len, r4.len]
  have hb0 : Below w.heap.size w (w.alloc (.cells #[.int .i64 x0, .int .i64 x1, .int .i64 x2, .slice A3 n3 c3, .slice A4 n4 c4] 50)) := (Below.refl _ _).alloc (Nat.le_refl _) _
  rcases Bool.eq_false_or_eq_true (gshape x0 x1 x2) with h0 | h0
  case inr =>
    go_enter Try.func81, Try.ntmps81
    go_wp2_with (go_at_call 111; refine (l22Size_any _ _ _ _).mono ?_; rintro e w' ⟨rfl, rfl⟩)
    go_ret
    exact ⟨ret_bool (by rw [HO.out, h0]; rfl), hb0⟩
  have i0 := gshape_true h0
  have hmul := gmul_bd i0.2.1.1 i0.2.1.2 i0.2.2.1 i0.2.2.2
  have hwr : IntKind.i64.wrap (x1 * x2) = x1 * x2 := IntWalk.i64_in _ (by omega)
  by_cases e1 : (n3 : Int) = x1 * x2
  case neg =>
    have q1 : ((n3 : Int) == x1 * x2) = false := by simpa using e1
    have q2 : ((n3 : Int) != x1 * x2) = true := by simpa using e1
    have HE := Lib.hid e1
    clear e1
    go_enter Try.func81, Try.ntmps81
    go_wp2_with (go_at_call 111; refine (l22Size_any _ _ _ _).mono ?_; rintro e w' ⟨rfl, rfl⟩)
    go_ret
    exact ⟨ret_bool (by rw [HO.out, h0, decide_eq_false HE.out]; rfl), hb0⟩
  have q1 : ((n3 : Int) == x1 * x2) = true := by simpa using e1
  have q2 : ((n3 : Int) != x1 * x2) = false := by simpa using e1
  have HE := Lib.hid e1
  clear e1
  by_cases e2 : n4 = n3
  case neg =>
    have q3 : ((n4 : Int) == (n3 : Int)) = false := by simp; omega
    have q4 : ((n4 : Int) != (n3 : Int)) = true := by simp; omega
    have HF : Hid (¬ n4 * 2 = n3 * 2) := by unfold Hid; omega
    clear e2
    go_enter Try.func81, Try.ntmps81
    go_wp2_with (go_at_call 111; refine (l22Size_any _ _ _ _).mono ?_; rintro e w' ⟨rfl, rfl⟩)
    go_ret
    exact ⟨ret_bool (by rw [HO.out, decide_eq_false HF.out]; simp), hb0⟩
  subst e2
  have HG : Hid (gridOk ⟨x0, x1, x2, l3, l4⟩ = gcellsB l3 l4 n4) := by unfold Hid; rw [HO.out, h0, decide_eq_true HE.out, decide_eq_true rfl]; rfl
  clear HO
  go_enter Try.func81, Try.ntmps81
  go_wp2_with (go_at_call 111; refine (l22Size_any _ _ _ _).mono ?_; rintro e w' ⟨rfl, rfl⟩)
  have K1 := Blk.new w 50 #[.int .i64 x0, .int .i64 x1, .int .i64 x2, .slice A3 n4 c3, .slice A4 n4 c4]
  have r3 := r3.below hb0
  have r4 := r4.below hb0
  have hb1 := hb0
  generalize (w.alloc (.cells #[.int .i64 x0, .int .i64 x1, .int .i64 x2, .slice A3 n4 c3, .slice A4 n4 c4] 50)) = w1 at hb1 K1 r3 r4 ⊢
  clear hwr h0 hb0
  go_loopw [3] (fun i wr => ∃ k : Nat, k ≤ n4 ∧ i = .int .i64 k ∧ gcellsB l3 l4 k = true ∧ Below w1.heap.size w1 wr) (fun i _ => n4 - (intOf i).toNat)
  case atStart => exact ⟨0, Nat.zero_le _, rfl, rfl, Below.refl _ _⟩
  case round =>
    obtain ⟨k, hk, rfl, hall, hbel⟩ := hrel
    have HA := Lib.hid hall
    clear hall q1 q2
    have KR := K1.below hbel K1.lt
    have cr := fun o => KR.cell o
    by_cases hlt : k < n4
    · have HS : Hid (gcellsB l3 l4 (k + 1) = (gcellsB l3 l4 k && gcellB (l3.getD k 0) (l4.getD (k * 2) 0) (l4.getD (k * 2 + 1) 0))) := gcellsB_succ l3 l4 k
      have HB : Hid (gcellB (l3.getD k 0) (l4.getD (k * 2) 0) (l4.getD (k * 2 + 1) 0) = false → gcellsB l3 l4 n4 = false) := fun h => gcellsB_false h hlt
      have R4 := r4.below hbel
      obtain ⟨a3, rfl, hx⟩ := (r3.below hbel).int hlt
      obtain ⟨a4, rfl, hy0, hy1⟩ := R4.two hlt
      have R3' : ∀ W, Below wr.heap.size wr W → W.cell? (a3.add k) = some (.int .i64 (l3.getD k 0)) := fun W b => by
        obtain ⟨a5, e5, h5⟩ := ((r3.below hbel).below b).int hlt
        injection e5 with e5
        subst e5
        exact h5
      have R4' : ∀ W, Below wr.heap.size wr W → W.cell? (a4.add (k * 2)) = some (.int .i64 (l4.getD (k * 2) 0)) ∧ W.cell? ⟨(a4.add (k * 2)).block, (a4.add (k * 2)).off + 1, none⟩ = some (.int .i64 (l4.getD (k * 2 + 1) 0)) := fun W b => by
        obtain ⟨a5, e5, h5, h6⟩ := (R4.below b).two hlt
        injection e5 with e5
        subst e5
        exact ⟨h5, h6⟩
      generalize l3.getD k 0 = x at *
      generalize l4.getD (k * 2) 0 = y at *
      generalize l4.getD (k * 2 + 1) 0 = z at *
      have HC : Hid (gcellB x y z = (inR x (-1) 1000000000000 && ivB y z && !(decide (x = 0) && !(decide (y = 0) && decide (z = 0))))) := rfl
      rcases Bool.eq_false_or_eq_true (inR x (-1) 1000000000000) with g1 | g1
      case inr =>
        go_wp2_with (go_at_call 74; refine (l01In_any _ _ _ _).mono ?_; rintro e w' ⟨rfl, rfl⟩)
        go_ret
        exact ⟨ret_bool (by rw [HG.out, HB.out (by rw [HC.out, g1]; rfl)]), hb1.trans (hbel.mono hb1.size)⟩
      go_wp2_with (go_at_call 74; refine (l01In_any _ _ _ _).mono ?_; rintro e w' ⟨rfl, rfl⟩)
      refine (specIsInterval_any y z _).mono ?_
      rintro e w2 ⟨rfl, b2⟩
      have hb2 := bstep hbel b2 (Nat.le_refl _)
      have K2 := KR.below b2 KR.lt
      have c2 := fun o => K2.cell o
      have hy := R4' _ b2
      obtain ⟨hy0', hy1'⟩ := hy
      have hx2 := R3' _ b2
      clear cr hx hy0 hy1 R4 R4' R3'
      rcases Bool.eq_false_or_eq_true (ivB y z) with g2 | g2
      case inr =>
        go_wp2
        go_ret
        exact ⟨ret_bool (by rw [HG.out, HB.out (by rw [HC.out, g1, g2]; rfl)]), hb1.trans (hb2.mono hb1.size)⟩
      by_cases g3 : x = 0
      case neg =>
        have f3 : (x == 0) = false := by simpa using g3
        have HV : Hid (gcellB x y z = true) := by unfold Hid; rw [HC.out, g1, g2, decide_eq_false g3]; rfl
        clear g3
        go_wp2
        go_roundw
        case rel => exact ⟨k + 1, by omega, by go_num, by rw [HS.out, HA.out, HV.out]; rfl, hb2⟩
        case measure => simp [intOf]; omega
      subst g3
      by_cases g4 : y = 0
      case neg =>
        have f4 : (y == 0) = false := by simpa using g4
        have HV : Hid (gcellB 0 y z = false) := by unfold Hid; rw [HC.out, g1, g2, decide_eq_false g4]; simp
        clear g4
        go_wp2
        go_ret
        exact ⟨ret_bool (by rw [HG.out, HB.out HV.out]), hb1.trans (hb2.mono hb1.size)⟩
      subst g4
      by_cases g5 : z = 0
      case neg =>
        have f5 : (z == 0) = false := by simpa using g5
        have HV : Hid (gcellB 0 0 z = false) := by unfold Hid; rw [HC.out, g1, g2, decide_eq_false g5]; simp
        clear g5
        go_wp2
        go_ret
        exact ⟨ret_bool (by rw [HG.out, HB.out HV.out]), hb1.trans (hb2.mono hb1.size)⟩
      subst g5
      have HV : Hid (gcellB 0 0 0 = true) := by unfold Hid; rw [HC.out, g1, g2]; rfl
      go_wp2
      go_roundw
      case rel => exact ⟨k + 1, by omega, by go_num, by rw [HS.out, HA.out, HV.out]; rfl, hb2⟩
      case measure => simp [intOf]; omega
    · obtain rfl : k = n4 := by omega
      go_wp2
      go_ret
      exact ⟨ret_bool (by rw [HG.out, HA.out]), hb1.trans (hbel.mono hb1.size)⟩
end Go.Proofs.Ythmcnoloeeabbaa
