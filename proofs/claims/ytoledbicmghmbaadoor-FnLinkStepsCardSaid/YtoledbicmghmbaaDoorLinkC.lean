/- Links: spec.IsLink computes linkOk. No condition. -/
import Derived.Test.YtoledbicmghmbaaDoorLinkB
namespace Go.Proofs.YtoledbicmghmbaaDoor
open Go.RowKit

set_option maxHeartbeats 4000000 in
theorem specIsLink_any (h : LinkH) (l : LinkC) (w : World) (hm : h.items.n ≤ 9223372036854775807 ∧ h.packets.n ≤ 9223372036854775807 ∧ h.acks.n ≤ 9223372036854775807 ∧ h.got.n ≤ 9223372036854775807) (hr : RdAll w (LinkS h l)) :
    Calls Tryd.prog 36 #[LinkV h l] w fun e w' => e = .returned (.bool (linkOk l)) ∧ Below w.heap.size w w' := by
  obtain ⟨m0, m3, m4, m5⟩ := hm
  have r0 := hr.head
  have r3 := hr.tail.head
  have r4 := hr.tail.tail.head
  have r5 := hr.tail.tail.tail.head
  obtain ⟨⟨A0, n0, c0⟩, ⟨A3, n3, c3⟩, ⟨A4, n4, c4⟩, ⟨A5, n5, c5⟩⟩ := h
  obtain ⟨l0, x1, x2, l3, l4, l5⟩ := l
  clear hr
  unfold LinkV
  simp only at *
  have HL0 := Lib.hid r0.len
  have HL3 : Hid (l3.length / 2 = n3) := by have := r3.len; unfold Hid; omega
  have HL4 := Lib.hid r4.len
  have HO : Hid (linkOk ⟨l0, x1, x2, l3, l4, l5⟩ = (okList l0 20 0 255 && inR x1 0 n0 && inR x2 x1 (min (n0 : Int) (x1 + 3)) && (decide ((n3 : Int) ≤ 12) && pktsIn l3 n3) && okList l4 12 0 3 && okList l5 20 0 255)) := by
    unfold Hid linkOk
    simp only
    rw [HL0.out, HL3.out, Int.min_comm]
  have hb0 : Below w.heap.size w (w.alloc (.cells #[.slice A0 n0 c0, .int .i64 x1, .int .i64 x2, .slice A3 n3 c3, .slice A4 n4 c4, .slice A5 n5 c5] 48)) := (Below.refl _ _).alloc (Nat.le_refl _) _
  go_enter Tryd.func36, Tryd.ntmps36
  go_wp2_with fail
  refine (l29Items_any _ _ _ l0 _ m0 (r0.below hb0)).mono ?_
  rintro e w' ⟨rfl, rfl⟩
  rcases Bool.eq_false_or_eq_true (okList l0 20 0 255) with h0 | h0
  case inr => go_wp2; go_ret; exact ⟨ret_bool (by rw [HO.out, h0]; rfl), hb0⟩
  have hl0 : (n0 : Int) ≤ 20 := by have := (okList_true h0).1; rw [HL0.out] at this; exact this
  go_wp2_with fail
  refine (l29Items_any _ _ _ l5 _ m5 (r5.below hb0)).mono ?_
  rintro e w' ⟨rfl, rfl⟩
  rcases Bool.eq_false_or_eq_true (okList l5 20 0 255) with h5 | h5
  case inr => go_wp2; go_ret; exact ⟨ret_bool (by rw [HO.out, h5, Bool.and_false]), hb0⟩
  go_wp2_with fail
  refine (l01In_any _ _ _ _).mono ?_
  rintro e w' ⟨rfl, rfl⟩
  rcases Bool.eq_false_or_eq_true (inR x1 0 n0) with h1 | h1
  case inr => go_wp2; go_ret; exact ⟨ret_bool (by rw [HO.out, h1]; simp only [Bool.and_false, Bool.false_and]), hb0⟩
  have hx1 := inR_true h1
  by_cases hx : (n0 : Int) ≤ x1 + 3
  all_goals
    go_wp2_with fail
    refine (l01In_any _ _ _ _).mono ?_
    rintro e w' ⟨rfl, rfl⟩
  all_goals first
    | (have HM : Hid (min (n0 : Int) (x1 + 3) = n0) := Int.min_eq_left hx
       rw [HM.out] at HO
       clear HM
       generalize inR x2 x1 (n0 : Int) = b2 at *)
    | (have HM : Hid (min (n0 : Int) (x1 + 3) = (x1 + 3)) := Int.min_eq_right (by omega)
       rw [HM.out] at HO
       clear HM
       generalize inR x2 x1 (x1 + 3) = b2 at *)
  all_goals
    cases b2
    · go_wp2; go_ret; exact ⟨ret_bool (by rw [HO.out]; simp only [Bool.and_false, Bool.false_and]), hb0⟩
    by_cases h3 : (n3 : Int) ≤ 12
    case neg => go_wp2; go_ret; exact ⟨ret_bool (by rw [HO.out]; simp only [decide_eq_false (show ¬ (n3 : Int) ≤ 12 by omega), Bool.and_false, Bool.false_and]), hb0⟩
    go_wp2
    go_loop [4] (fun i => ∃ k : Nat, k ≤ n3 ∧ i = .int .i64 k ∧ pktsIn l3 k = true) (fun i => n3 - (intOf i).toNat)
    case atStart => exact ⟨0, Nat.zero_le _, rfl, rfl⟩
    case round =>
      obtain ⟨k, hk, rfl, hall⟩ := hrel
      have HA := Lib.hid hall
      clear hall
      by_cases hlt : k < n3
      · have ha := r3.below hb0
        have HS : Hid (pktsIn l3 (k + 1) = (pktsIn l3 k && pktIn l3 k)) := pktsIn_succ l3 k
        have HF : Hid (pktIn l3 k = false → pktsIn l3 n3 = false) := fun h => pktsIn_false h hlt
        have HP : Hid (pktIn l3 k = (inR (l3.getD (k * 2) 0) 0 3 && inR (l3.getD (k * 2 + 1) 0) 0 255)) := rfl
        obtain ⟨_, e0, hx0⟩ := ha.int (show k * 2 + 0 < n3 * 2 by omega)
        obtain ⟨_, e1, hx1⟩ := ha.int (show k * 2 + 1 < n3 * 2 by omega)
        obtain ⟨ad, rfl⟩ : ∃ ad, A3 = some ad := ⟨_, e0⟩
        cases e0
        cases e1
        rw [Nat.add_zero] at hx0
        rw [← add_of_add, field_add _ 1 (by decide)] at hx1
        generalize l3.getD (k * 2) 0 = y0 at *
        generalize l3.getD (k * 2 + 1) 0 = y1 at *
        clear ha
        go_wp2_with fail
        refine (l01In_any _ _ _ _).mono ?_
        rintro e w' ⟨rfl, rfl⟩
        generalize inR y0 0 3 = b0 at *
        cases b0
        · go_wp2; go_ret; exact ⟨ret_bool (by rw [HO.out, HF.out (by rw [HP.out]; rfl)]; simp only [Bool.and_false, Bool.false_and]), hb0⟩
        go_wp2_with fail
        refine (l01In_any _ _ _ _).mono ?_
        rintro e w' ⟨rfl, rfl⟩
        generalize inR y1 0 255 = b1 at *
        cases b1
        · go_wp2; go_ret; exact ⟨ret_bool (by rw [HO.out, HF.out (by rw [HP.out]; rfl)]; simp only [Bool.and_false, Bool.false_and]), hb0⟩
        go_wp2
        go_round
        case rel => exact ⟨k + 1, by omega, by go_num, by rw [HS.out, HA.out, HP.out]; rfl⟩
        case measure => simp [intOf]; omega
      · obtain rfl : k = n3 := by omega
        go_wp2_with fail
        refine (l01Within_any _ _ _ l4 _ _ _ _ m4 (r4.below hb0)).mono ?_
        rintro e w' ⟨rfl, rfl⟩
        go_wp2
        go_ret
        exact ⟨ret_bool (by rw [HO.out, HA.out, decide_eq_true h3, h0, h1, h5]; simp only [Bool.true_and, Bool.and_true]), hb0⟩
end Go.Proofs.YtoledbicmghmbaaDoor
