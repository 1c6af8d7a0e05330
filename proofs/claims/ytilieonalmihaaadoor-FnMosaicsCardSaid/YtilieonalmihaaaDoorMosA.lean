/- Mosaics: whether a mosaic is valid. spec.IsMosaic and impl.IsMosaic compute the same. No condition. -/
import Derived.Test.YtilieonalmihaaaDoorMosM
import Derived.Test.YtilieonalmihaaaDoorLen
import Derived.IntWalk
namespace Go.Proofs.YtilieonalmihaaaDoor
open Go.RowKit

set_option maxHeartbeats 400000 in
theorem isMosaicSide_any (x : Int) (w : World) :
    Calls Tryd.prog 35 #[.int .i64 x] w fun e w' => e = .returned (.bool (inR x 1 40)) ∧ w = w' := by
  go_enter Tryd.func35, Tryd.ntmps35
  go_wp2_with (go_at_call 51; refine (within_any _ _ _ _).mono ?_; rintro e w' ⟨rfl, rfl⟩)
  go_ret
  exact ⟨rfl, rfl⟩
set_option maxHeartbeats 400000 in
theorem isGraded_any (x y : Int) (w : World) :
    Calls Tryd.prog 37 #[.int .i64 x, .int .i64 y] w fun e w' => e = .returned (.bool (pixB x y)) ∧ w = w' := by
  rcases Bool.eq_false_or_eq_true (inR x 0 1000) with h | h
  all_goals
    go_enter Tryd.func37, Tryd.ntmps37
    go_wp2_with (go_at_call 51; refine (within_any _ _ _ _).mono ?_; rintro e w' ⟨rfl, rfl⟩)
    go_ret
    exact ⟨ret_bool (by unfold pixB; rw [h]; rfl), rfl⟩
set_option maxHeartbeats 400000 in
theorem l19Pixel_any (x y : Int) (w : World) :
    Calls Tryd.prog 40 #[.int .i64 x, .int .i64 y] w fun e w' => e = .returned (.bool (pixB x y)) ∧ w = w' := by
  rcases Bool.eq_false_or_eq_true (inR x 0 1000) with h | h
  all_goals
    go_enter Tryd.func40, Tryd.ntmps40
    go_wp2_with (go_at_call 39; refine (l01In_any _ _ _ _).mono ?_; rintro e w' ⟨rfl, rfl⟩)
    go_ret
    exact ⟨ret_bool (by unfold pixB; rw [h]; rfl), rfl⟩

set_option maxHeartbeats 4000000 in
theorem implIsMosaic_any (h : MosaicH) (l : MosaicC) (w : World) (ok : MosaicOk h) (hr : RdAll w (MosaicS h l)) :
    Calls Tryd.prog 14 #[MosaicV h l] w fun e w' => e = .returned (.bool (mosOk l)) ∧ Below w.heap.size w w' := by
  obtain ⟨m2, m3⟩ := ok
  have r2 := hr.head
  have r3 := hr.tail.head
  obtain ⟨⟨A2, n2, c2⟩, ⟨A3, n3, c3⟩⟩ := h
  obtain ⟨x0, x1, l2, l3⟩ := l
  clear hr
  unfold MosaicV
  simp only at *
  have HO : Hid (mosOk ⟨x0, x1, l2, l3⟩ = (inR x0 1 40 && inR x1 1 40 && decide ((n2 : Int) = x0 * x1) && decide (n3 = n2) && celsB l2 l3 n2)) := by
    unfold Hid mosOk mosSide
    simp only
    rw [r2.len, r3.len]
  have hb0 : Below w.heap.size w (w.alloc (.cells #[.int .i64 x0, .int .i64 x1, .slice A2 n2 c2, .slice A3 n3 c3] 26)) := (Below.refl _ _).alloc (Nat.le_refl _) _
  rcases Bool.eq_false_or_eq_true (inR x0 1 40) with h0 | h0
  case inr =>
    go_enter Tryd.func14, Tryd.ntmps14
    go_wp2_with fail
    go_quiet ((first | (go_at_call 35; exact q_left (isMosaicSide_any _ _))))
    go_wp2
    go_ret
    exact ⟨ret_bool (by rw [HO.out, h0]; rfl), Below.drewN hb0 _⟩
  rcases Bool.eq_false_or_eq_true (inR x1 1 40) with h1 | h1
  case inr =>
    go_enter Tryd.func14, Tryd.ntmps14
    go_wp2_with fail
    go_quiet ((first | (go_at_call 35; exact q_left (isMosaicSide_any _ _))))
    go_wp2
    go_ret
    exact ⟨ret_bool (by rw [HO.out, h0, h1]; rfl), Below.drewN hb0 _⟩
  have i0 := inR_true h0
  have i1 := inR_true h1
  have hmul := mul_bd i0.1 i0.2 i1.1 i1.2
  have hwr : IntKind.i64.wrap (x0 * x1) = x0 * x1 := IntWalk.i64_in _ (by omega)
  by_cases e1 : (n2 : Int) = x0 * x1
  case neg =>
    have q1 : ((n2 : Int) == x0 * x1) = false := by simpa using e1
    have q2 : ((n2 : Int) != x0 * x1) = true := by simpa using e1
    have HE := Lib.hid e1
    clear e1
    go_enter Tryd.func14, Tryd.ntmps14
    go_wp2_with fail
    go_quiet ((first | (go_at_call 35; exact q_left (isMosaicSide_any _ _)) | (go_at_call 36; exact q_left (len64_any _ _ _ _ (by omega)))))
    go_wp2
    go_ret
    exact ⟨ret_bool (by rw [HO.out, h0, h1, decide_eq_false HE.out]; rfl), Below.drewN hb0 _⟩
  have q1 : ((n2 : Int) == x0 * x1) = true := by simpa using e1
  have q2 : ((n2 : Int) != x0 * x1) = false := by simpa using e1
  have HE := Lib.hid e1
  clear e1
  by_cases e2 : n3 = n2
  case neg =>
    have q3 : ((n3 : Int) == (n2 : Int)) = false := by simp; omega
    have q4 : ((n3 : Int) != (n2 : Int)) = true := by simp; omega
    have HF := Lib.hid e2
    clear e2
    go_enter Tryd.func14, Tryd.ntmps14
    go_wp2_with fail
    go_quiet ((first | (go_at_call 35; exact q_left (isMosaicSide_any _ _)) | (go_at_call 36; exact q_left (len64_any _ _ _ _ (by omega)))))
    go_wp2
    go_ret
    exact ⟨ret_bool (by rw [HO.out, decide_eq_false HF.out]; simp), Below.drewN hb0 _⟩
  subst e2
  have HG : Hid (mosOk ⟨x0, x1, l2, l3⟩ = celsB l2 l3 n3) := by unfold Hid; rw [HO.out, h0, h1, decide_eq_true HE.out, decide_eq_true rfl]; rfl
  clear HO
  go_enter Tryd.func14, Tryd.ntmps14
  go_wp2_with fail
  go_quiet ((first | (go_at_call 35; exact q_left (isMosaicSide_any _ _)) | (go_at_call 36; exact q_left (len64_any _ _ _ _ (by omega)))))
  go_wp2
  go_loop [38] (fun i => ∃ k : Nat, k ≤ n3 ∧ i = .int .i64 k ∧ celsB l2 l3 k = true) (fun i => n3 - (intOf i).toNat)
  case atStart => exact ⟨0, Nat.zero_le _, rfl, rfl⟩
  case round =>
    obtain ⟨k, hk, rfl, hall⟩ := hrel
    have HA := Lib.hid hall
    clear hall q1 q2 hwr h0 h1
    by_cases hlt : k < n3
    · have HS : Hid (celsB l2 l3 (k + 1) = (celsB l2 l3 k && celB (l2.getD k 0) (l3.getD k 0))) := celsB_succ l2 l3 k
      have HB : Hid (celB (l2.getD k 0) (l3.getD k 0) = false → celsB l2 l3 n3 = false) := fun h => celsB_false h hlt
      obtain ⟨a2, rfl, hx⟩ := (r2.below hb0).int hlt
      obtain ⟨a3, rfl, hy⟩ := (r3.below hb0).int hlt
      generalize l2.getD k 0 = x at *
      generalize l3.getD k 0 = y at *
      by_cases e1 : x = -1
      · subst e1
        by_cases e2 : y = 0
        · subst e2
          go_wp2
          go_round
          case rel => exact ⟨k + 1, by omega, by go_num, by rw [HS.out, HA.out]; rfl⟩
          case measure => simp [intOf]; omega
        · have f1 : (y == 0) = false := by simpa using e2
          have f2 : (y != 0) = true := by simpa using e2
          clear e2
          go_wp2_with (go_at_call 37; refine (isGraded_any _ _ _).mono ?_; rintro e w' ⟨rfl, rfl⟩)
          go_ret
          exact ⟨ret_bool (by rw [HG.out, HB.out (by unfold celB; rw [f1]; rfl)]), Below.drewN hb0 _⟩
      · have f1 : (x == -1) = false := by simpa using e1
        have f2 : (x != -1) = true := by simpa using e1
        clear e1
        rcases Bool.eq_false_or_eq_true (pixB x y) with hp | hp
        · go_wp2_with (go_at_call 37; refine (isGraded_any _ _ _).mono ?_; rintro e w' ⟨rfl, rfl⟩)
          go_round
          case rel => exact ⟨k + 1, by omega, by go_num, by rw [HS.out, HA.out]; unfold celB; rw [hp]; rfl⟩
          case measure => simp [intOf]; omega
        · go_wp2_with (go_at_call 37; refine (isGraded_any _ _ _).mono ?_; rintro e w' ⟨rfl, rfl⟩)
          go_ret
          exact ⟨ret_bool (by rw [HG.out, HB.out (by unfold celB; rw [hp, f1]; rfl)]), Below.drewN hb0 _⟩
    · obtain rfl : k = n3 := by omega
      go_wp2
      go_ret
      exact ⟨ret_bool (by rw [HG.out, HA.out]), Below.drewN hb0 _⟩

set_option maxHeartbeats 4000000 in
theorem specIsMosaic_any (h : MosaicH) (l : MosaicC) (w : World) (ok : MosaicOk h) (hr : RdAll w (MosaicS h l)) :
    Calls Tryd.prog 19 #[MosaicV h l] w fun e w' => e = .returned (.bool (mosOk l)) ∧ Below w.heap.size w w' := by
  obtain ⟨m2, m3⟩ := ok
  have r2 := hr.head
  have r3 := hr.tail.head
  obtain ⟨⟨A2, n2, c2⟩, ⟨A3, n3, c3⟩⟩ := h
  obtain ⟨x0, x1, l2, l3⟩ := l
  clear hr
  unfold MosaicV
  simp only at *
  have HO : Hid (mosOk ⟨x0, x1, l2, l3⟩ = (inR x0 1 40 && inR x1 1 40 && decide ((n2 : Int) = x0 * x1) && decide (n3 = n2) && celsB l2 l3 n2)) := by
    unfold Hid mosOk mosSide
    simp only
    rw [r2.len, r3.len]
  have hb0 : Below w.heap.size w (w.alloc (.cells #[.int .i64 x0, .int .i64 x1, .slice A2 n2 c2, .slice A3 n3 c3] 26)) := (Below.refl _ _).alloc (Nat.le_refl _) _
  rcases Bool.eq_false_or_eq_true (inR x0 1 40) with h0 | h0
  case inr =>
    go_enter Tryd.func19, Tryd.ntmps19
    go_wp2_with (go_at_call 39; refine (l01In_any _ _ _ _).mono ?_; rintro e w' ⟨rfl, rfl⟩)
    go_ret
    exact ⟨ret_bool (by rw [HO.out, h0]; rfl), hb0⟩
  rcases Bool.eq_false_or_eq_true (inR x1 1 40) with h1 | h1
  case inr =>
    go_enter Tryd.func19, Tryd.ntmps19
    go_wp2_with (go_at_call 39; refine (l01In_any _ _ _ _).mono ?_; rintro e w' ⟨rfl, rfl⟩)
    go_ret
    exact ⟨ret_bool (by rw [HO.out, h0, h1]; rfl), hb0⟩
  have i0 := inR_true h0
  have i1 := inR_true h1
  have hmul := mul_bd i0.1 i0.2 i1.1 i1.2
  have hwr : IntKind.i64.wrap (x0 * x1) = x0 * x1 := IntWalk.i64_in _ (by omega)
  by_cases e1 : (n2 : Int) = x0 * x1
  case neg =>
    have q1 : ((n2 : Int) == x0 * x1) = false := by simpa using e1
    have q2 : ((n2 : Int) != x0 * x1) = true := by simpa using e1
    have HE := Lib.hid e1
    clear e1
    go_enter Tryd.func19, Tryd.ntmps19
    go_wp2_with (go_at_call 39; refine (l01In_any _ _ _ _).mono ?_; rintro e w' ⟨rfl, rfl⟩)
    go_ret
    exact ⟨ret_bool (by rw [HO.out, h0, h1, decide_eq_false HE.out]; rfl), hb0⟩
  have q1 : ((n2 : Int) == x0 * x1) = true := by simpa using e1
  have q2 : ((n2 : Int) != x0 * x1) = false := by simpa using e1
  have HE := Lib.hid e1
  clear e1
  by_cases e2 : n3 = n2
  case neg =>
    have q3 : ((n3 : Int) == (n2 : Int)) = false := by simp; omega
    have q4 : ((n3 : Int) != (n2 : Int)) = true := by simp; omega
    have HF := Lib.hid e2
    clear e2
    go_enter Tryd.func19, Tryd.ntmps19
    go_wp2_with (go_at_call 39; refine (l01In_any _ _ _ _).mono ?_; rintro e w' ⟨rfl, rfl⟩)
    go_ret
    exact ⟨ret_bool (by rw [HO.out, decide_eq_false HF.out]; simp), hb0⟩
  subst e2
  have HG : Hid (mosOk ⟨x0, x1, l2, l3⟩ = celsB l2 l3 n3) := by unfold Hid; rw [HO.out, h0, h1, decide_eq_true HE.out, decide_eq_true rfl]; rfl
  clear HO
  go_enter Tryd.func19, Tryd.ntmps19
  go_wp2_with (go_at_call 39; refine (l01In_any _ _ _ _).mono ?_; rintro e w' ⟨rfl, rfl⟩)
  go_loopw [3] (fun i wr => ∃ k m : Nat, k ≤ n3 ∧ i = .int .i64 k ∧ celsB l2 l3 k = true ∧ wr = (w.alloc (.cells #[.int .i64 x0, .int .i64 x1, .slice A2 n3 c2, .slice A3 n3 c3] 26)).drewN m) (fun i _ => n3 - (intOf i).toNat)
  case atStart => exact ⟨0, 0, Nat.zero_le _, rfl, rfl, rfl⟩
  case round =>
    obtain ⟨k, m, hk, rfl, hall, rfl⟩ := hrel
    have HA := Lib.hid hall
    clear hall q1 q2 hwr h0 h1
    by_cases hlt : k < n3
    · have HS : Hid (celsB l2 l3 (k + 1) = (celsB l2 l3 k && celB (l2.getD k 0) (l3.getD k 0))) := celsB_succ l2 l3 k
      have HB : Hid (celB (l2.getD k 0) (l3.getD k 0) = false → celsB l2 l3 n3 = false) := fun h => celsB_false h hlt
      obtain ⟨a2, rfl, hx⟩ := (r2.below hb0).int hlt
      obtain ⟨a3, rfl, hy⟩ := (r3.below hb0).int hlt
      generalize l2.getD k 0 = x at *
      generalize l3.getD k 0 = y at *
      have hi0 : (0 : Int) ≤ (k : Int) := by omega
      have hi1 : (k : Int) < (n3 : Int) := by omega
      rcases Bool.eq_false_or_eq_true (pixB x y) with hp | hp
      · go_wp2_with fail
        go_quiet ((first | (go_at_call 40; exact q_left (l19Pixel_any _ _ _)) | (go_at_call 40; exact q_add_left (l19Pixel_any _ _ _))))
        go_wp2
        go_roundw
        case rel => exact ⟨k + 1, _, by omega, by go_num, by rw [HS.out, HA.out]; unfold celB; rw [hp]; rfl, rfl⟩
        case measure => simp [intOf]; omega
      · by_cases e1 : x = -1
        · subst e1
          by_cases e2 : y = 0
          · subst e2
            go_wp2_with fail
            go_quiet ((first | (go_at_call 40; exact q_left (l19Pixel_any _ _ _)) | (go_at_call 40; exact q_add_left (l19Pixel_any _ _ _))))
            go_wp2
            go_roundw
            case rel => exact ⟨k + 1, _, by omega, by go_num, by rw [HS.out, HA.out]; rfl, rfl⟩
            case measure => simp [intOf]; omega
          · have f1 : (y == 0) = false := by simpa using e2
            have f2 : (y != 0) = true := by simpa using e2
            clear e2
            go_wp2_with fail
            go_quiet ((first | (go_at_call 40; exact q_left (l19Pixel_any _ _ _)) | (go_at_call 40; exact q_add_left (l19Pixel_any _ _ _))))
            go_wp2
            go_ret
            exact ⟨ret_bool (by rw [HG.out, HB.out (by unfold celB; rw [f1]; rfl)]), Below.drewN (Below.drewN hb0 _) _⟩
        · have f1 : (x == -1) = false := by simpa using e1
          have f2 : (x != -1) = true := by simpa using e1
          clear e1
          go_wp2_with fail
          go_quiet ((first | (go_at_call 40; exact q_left (l19Pixel_any _ _ _)) | (go_at_call 40; exact q_add_left (l19Pixel_any _ _ _))))
          go_wp2
          go_ret
          exact ⟨ret_bool (by rw [HG.out, HB.out (by unfold celB; rw [hp, f1]; rfl)]), Below.drewN (Below.drewN hb0 _) _⟩
    · obtain rfl : k = n3 := by omega
      go_wp2
      go_ret
      exact ⟨ret_bool (by rw [HG.out, HA.out]), Below.drewN hb0 _⟩
end Go.Proofs.YtilieonalmihaaaDoor
