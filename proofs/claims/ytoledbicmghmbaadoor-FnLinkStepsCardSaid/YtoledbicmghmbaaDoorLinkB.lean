/- Links: whether a link is valid. spec.IsLink and impl.IsLink compute the same. No condition. -/
import Derived.Test.YtoledbicmghmbaaDoorLinkA
namespace Go.Proofs.YtoledbicmghmbaaDoor
open Go.RowKit

set_option maxHeartbeats 400000 in
theorem length_any (A : Option Addr) (n c : Nat) (w : World) (_ : n ≤ 9223372036854775807) :
    Calls Tryd.prog 75 #[.slice A n c] w fun e w' => e = .returned (.int .i64 (n : Int)) ∧ w = w' := by
  go_enter Tryd.func75, Tryd.ntmps75
  go_wp2
  go_ret
  exact ⟨rfl, rfl⟩

def linkOk (l : LinkC) : Bool :=
  okList l.items 20 0 255 && inR l.base 0 l.items.length && inR l.next l.base (min (l.base + 3) l.items.length) &&
    (decide (((l.packets.length / 2 : Nat) : Int) ≤ 12) && pktsIn l.packets (l.packets.length / 2)) && okList l.acks 12 0 3 && okList l.got 20 0 255

set_option maxHeartbeats 4000000 in
theorem implIsLink_any (h : LinkH) (l : LinkC) (w : World) (hm : h.items.n ≤ 9223372036854775807 ∧ h.packets.n ≤ 9223372036854775807 ∧ h.acks.n ≤ 9223372036854775807 ∧ h.got.n ≤ 9223372036854775807) (hr : RdAll w (LinkS h l)) :
    Calls Tryd.prog 35 #[LinkV h l] w fun e w' => e = .returned (.bool (linkOk l)) ∧ Below w.heap.size w w' := by
  obtain ⟨m0, m3, m4, m5⟩ := hm
  have r0 := hr.head
  have r3 := hr.tail.head
  have r4 := hr.tail.tail.head
  have r5 := hr.tail.tail.tail.head
  obtain ⟨⟨A0, n0, c0⟩, ⟨A3, n3, c3⟩, ⟨A4, n4, c4⟩, ⟨A5, n5, c5⟩⟩ := h
  obtain ⟨l0, x1, x2, l3, l4, l5⟩ := l
  clear hr
  unfold LinkV
  simp only at *
  have HL0 := Lib.hid r0.len
  have HL3 : Hid (l3.length / 2 = n3) := by have := r3.len; unfold Hid; omega
  have HL4 := Lib.hid r4.len
  have HO : Hid (linkOk ⟨l0, x1, x2, l3, l4, l5⟩ = (okList l0 20 0 255 && inR x1 0 n0 && inR x2 x1 (min (x1 + 3) n0) && (decide ((n3 : Int) ≤ 12) && pktsIn l3 n3) && (decide ((n4 : Int) ≤ 12) && allIn l4 0 3) && okList l5 20 0 255)) := by
    unfold Hid linkOk
    simp only
    rw [HL0.out, HL3.out, show okList l4 12 0 3 = (decide ((n4 : Int) ≤ 12) && allIn l4 0 3) from by unfold okList; rw [HL4.out]]
  have hb0 : Below w.heap.size w (w.alloc (.cells #[.slice A0 n0 c0, .int .i64 x1, .int .i64 x2, .slice A3 n3 c3, .slice A4 n4 c4, .slice A5 n5 c5] 48)) := (Below.refl _ _).alloc (Nat.le_refl _) _
  rcases Bool.eq_false_or_eq_true (okList l0 20 0 255) with h0 | h0
  · have hl0 : (n0 : Int) ≤ 20 := by have := (okList_true h0).1; rw [HL0.out] at this; exact this
    rcases Bool.eq_false_or_eq_true (inR x1 0 n0) with h1 | h1
    · have hb1 := inR_true h1
      by_cases hx : x1 + 3 ≤ (n0 : Int)
      · have HM : Hid (min (x1 + 3) (n0 : Int) = (x1 + 3)) := Int.min_eq_left hx
        rw [HM.out] at HO
        rcases Bool.eq_false_or_eq_true (inR x2 x1 (x1 + 3)) with h2 | h2
        · rcases Bool.eq_false_or_eq_true (decide ((n3 : Int) ≤ 12) && pktsIn l3 n3) with h3 | h3
          · by_cases h4 : (n4 : Int) ≤ 12
            · rcases Bool.eq_false_or_eq_true (allIn l4 0 3) with h5 | h5
              · skip
                go_enter Tryd.func35, Tryd.ntmps35
                go_wp2_with fail
                refine (length_any _ _ _ _ m0).mono ?_
                rintro e w' ⟨rfl, rfl⟩
                go_wp2_with fail
                refine (areBytes_any _ n0 _ l0 _ _ m0 (r0.below hb0)).mono ?_
                rintro e w' ⟨rfl, rfl⟩
                go_wp2_with fail
                refine (within_any _ _ _ _).mono ?_
                rintro e w' ⟨rfl, rfl⟩
                go_wp2_with fail
                refine (within_any _ _ _ _).mono ?_
                rintro e w' ⟨rfl, rfl⟩
                go_wp2_with fail
                refine (arePackets_any _ _ _ l3 _ m3 (r3.below hb0)).mono ?_
                rintro e w1 ⟨rfl, hb1⟩
                have hbw := hb0.trans (hb1.mono (by first | omega | (simp; done) | (simp; omega)))
                have cP := fun o => ((Blk.new w _ _).below hb1 (by first | omega | (simp; done) | (simp; omega))).cell o
                go_wp2_with fail
                refine (areWithin_any _ _ _ l4 _ _ _ m4 (r4.below hbw)).mono ?_
                rintro e w' ⟨rfl, rfl⟩
                go_wp2_with fail
                refine (areBytes_any _ _ _ l5 _ _ m5 (r5.below hbw)).mono ?_
                rintro e w' ⟨rfl, rfl⟩
                go_wp2
                go_ret
                exact ⟨ret_bool (by rw [HO.out]; simp only [h0, h1, h2, h3, h4, h5, decide_true, Bool.true_and]; try rfl), hbw⟩
              · skip
                go_enter Tryd.func35, Tryd.ntmps35
                go_wp2_with fail
                refine (length_any _ _ _ _ m0).mono ?_
                rintro e w' ⟨rfl, rfl⟩
                go_wp2_with fail
                refine (areBytes_any _ n0 _ l0 _ _ m0 (r0.below hb0)).mono ?_
                rintro e w' ⟨rfl, rfl⟩
                go_wp2_with fail
                refine (within_any _ _ _ _).mono ?_
                rintro e w' ⟨rfl, rfl⟩
                go_wp2_with fail
                refine (within_any _ _ _ _).mono ?_
                rintro e w' ⟨rfl, rfl⟩
                go_wp2_with fail
                refine (arePackets_any _ _ _ l3 _ m3 (r3.below hb0)).mono ?_
                rintro e w1 ⟨rfl, hb1⟩
                have hbw := hb0.trans (hb1.mono (by first | omega | (simp; done) | (simp; omega)))
                have cP := fun o => ((Blk.new w _ _).below hb1 (by first | omega | (simp; done) | (simp; omega))).cell o
                go_wp2_with fail
                refine (areWithin_any _ _ _ l4 _ _ _ m4 (r4.below hbw)).mono ?_
                rintro e w' ⟨rfl, rfl⟩
                go_wp2
                go_ret
                exact ⟨ret_bool (by rw [HO.out]; simp only [h5, Bool.and_false, Bool.false_and]; try rfl), hbw⟩
            · skip
              go_enter Tryd.func35, Tryd.ntmps35
              go_wp2_with fail
              refine (length_any _ _ _ _ m0).mono ?_
              rintro e w' ⟨rfl, rfl⟩
              go_wp2_with fail
              refine (areBytes_any _ n0 _ l0 _ _ m0 (r0.below hb0)).mono ?_
              rintro e w' ⟨rfl, rfl⟩
              go_wp2_with fail
              refine (within_any _ _ _ _).mono ?_
              rintro e w' ⟨rfl, rfl⟩
              go_wp2_with fail
              refine (within_any _ _ _ _).mono ?_
              rintro e w' ⟨rfl, rfl⟩
              go_wp2_with fail
              refine (arePackets_any _ _ _ l3 _ m3 (r3.below hb0)).mono ?_
              rintro e w1 ⟨rfl, hb1⟩
              have hbw := hb0.trans (hb1.mono (by first | omega | (simp; done) | (simp; omega)))
              have cP := fun o => ((Blk.new w _ _).below hb1 (by first | omega | (simp; done) | (simp; omega))).cell o
              go_wp2
              go_ret
              exact ⟨ret_bool (by rw [HO.out]; simp only [decide_eq_false (show ¬ (n4 : Int) ≤ 12 by omega), Bool.and_false, Bool.false_and]; try rfl), hbw⟩
          · skip
            go_enter Tryd.func35, Tryd.ntmps35
            go_wp2_with fail
            refine (length_any _ _ _ _ m0).mono ?_
            rintro e w' ⟨rfl, rfl⟩
            go_wp2_with fail
            refine (areBytes_any _ n0 _ l0 _ _ m0 (r0.below hb0)).mono ?_
            rintro e w' ⟨rfl, rfl⟩
            go_wp2_with fail
            refine (within_any _ _ _ _).mono ?_
            rintro e w' ⟨rfl, rfl⟩
            go_wp2_with fail
            refine (within_any _ _ _ _).mono ?_
            rintro e w' ⟨rfl, rfl⟩
            go_wp2_with fail
            refine (arePackets_any _ _ _ l3 _ m3 (r3.below hb0)).mono ?_
            rintro e w1 ⟨rfl, hb1⟩
            have hbw := hb0.trans (hb1.mono (by first | omega | (simp; done) | (simp; omega)))
            have cP := fun o => ((Blk.new w _ _).below hb1 (by first | omega | (simp; done) | (simp; omega))).cell o
            go_wp2
            go_ret
            exact ⟨ret_bool (by rw [HO.out]; simp only [h3, Bool.and_false, Bool.false_and]; try rfl), hbw⟩
        · skip
          go_enter Tryd.func35, Tryd.ntmps35
          go_wp2_with fail
          refine (length_any _ _ _ _ m0).mono ?_
          rintro e w' ⟨rfl, rfl⟩
          go_wp2_with fail
          refine (areBytes_any _ n0 _ l0 _ _ m0 (r0.below hb0)).mono ?_
          rintro e w' ⟨rfl, rfl⟩
          go_wp2_with fail
          refine (within_any _ _ _ _).mono ?_
          rintro e w' ⟨rfl, rfl⟩
          go_wp2_with fail
          refine (within_any _ _ _ _).mono ?_
          rintro e w' ⟨rfl, rfl⟩
          go_wp2
          go_ret
          exact ⟨ret_bool (by rw [HO.out]; simp only [h2, Bool.and_false, Bool.false_and]; try rfl), hb0⟩
      · have HM : Hid (min (x1 + 3) (n0 : Int) = (n0 : Int)) := Int.min_eq_right (by omega)
        rw [HM.out] at HO
        rcases Bool.eq_false_or_eq_true (inR x2 x1 (n0 : Int)) with h2 | h2
        · rcases Bool.eq_false_or_eq_true (decide ((n3 : Int) ≤ 12) && pktsIn l3 n3) with h3 | h3
          · by_cases h4 : (n4 : Int) ≤ 12
            · rcases Bool.eq_false_or_eq_true (allIn l4 0 3) with h5 | h5
              · skip
                go_enter Tryd.func35, Tryd.ntmps35
                go_wp2_with fail
                refine (length_any _ _ _ _ m0).mono ?_
                rintro e w' ⟨rfl, rfl⟩
                go_wp2_with fail
                refine (areBytes_any _ n0 _ l0 _ _ m0 (r0.below hb0)).mono ?_
                rintro e w' ⟨rfl, rfl⟩
                go_wp2_with fail
                refine (within_any _ _ _ _).mono ?_
                rintro e w' ⟨rfl, rfl⟩
                go_wp2_with fail
                refine (within_any _ _ _ _).mono ?_
                rintro e w' ⟨rfl, rfl⟩
                go_wp2_with fail
                refine (arePackets_any _ _ _ l3 _ m3 (r3.below hb0)).mono ?_
                rintro e w1 ⟨rfl, hb1⟩
                have hbw := hb0.trans (hb1.mono (by first | omega | (simp; done) | (simp; omega)))
                have cP := fun o => ((Blk.new w _ _).below hb1 (by first | omega | (simp; done) | (simp; omega))).cell o
                go_wp2_with fail
                refine (areWithin_any _ _ _ l4 _ _ _ m4 (r4.below hbw)).mono ?_
                rintro e w' ⟨rfl, rfl⟩
                go_wp2_with fail
                refine (areBytes_any _ _ _ l5 _ _ m5 (r5.below hbw)).mono ?_
                rintro e w' ⟨rfl, rfl⟩
                go_wp2
                go_ret
                exact ⟨ret_bool (by rw [HO.out]; simp only [h0, h1, h2, h3, h4, h5, decide_true, Bool.true_and]; try rfl), hbw⟩
              · skip
                go_enter Tryd.func35, Tryd.ntmps35
                go_wp2_with fail
                refine (length_any _ _ _ _ m0).mono ?_
                rintro e w' ⟨rfl, rfl⟩
                go_wp2_with fail
                refine (areBytes_any _ n0 _ l0 _ _ m0 (r0.below hb0)).mono ?_
                rintro e w' ⟨rfl, rfl⟩
                go_wp2_with fail
                refine (within_any _ _ _ _).mono ?_
                rintro e w' ⟨rfl, rfl⟩
                go_wp2_with fail
                refine (within_any _ _ _ _).mono ?_
                rintro e w' ⟨rfl, rfl⟩
                go_wp2_with fail
                refine (arePackets_any _ _ _ l3 _ m3 (r3.below hb0)).mono ?_
                rintro e w1 ⟨rfl, hb1⟩
                have hbw := hb0.trans (hb1.mono (by first | omega | (simp; done) | (simp; omega)))
                have cP := fun o => ((Blk.new w _ _).below hb1 (by first | omega | (simp; done) | (simp; omega))).cell o
                go_wp2_with fail
                refine (areWithin_any _ _ _ l4 _ _ _ m4 (r4.below hbw)).mono ?_
                rintro e w' ⟨rfl, rfl⟩
                go_wp2
                go_ret
                exact ⟨ret_bool (by rw [HO.out]; simp only [h5, Bool.and_false, Bool.false_and]; try rfl), hbw⟩
            · skip
              go_enter Tryd.func35, Tryd.ntmps35
              go_wp2_with fail
              refine (length_any _ _ _ _ m0).mono ?_
              rintro e w' ⟨rfl, rfl⟩
              go_wp2_with fail
              refine (areBytes_any _ n0 _ l0 _ _ m0 (r0.below hb0)).mono ?_
              rintro e w' ⟨rfl, rfl⟩
              go_wp2_with fail
              refine (within_any _ _ _ _).mono ?_
              rintro e w' ⟨rfl, rfl⟩
              go_wp2_with fail
              refine (within_any _ _ _ _).mono ?_
              rintro e w' ⟨rfl, rfl⟩
              go_wp2_with fail
              refine (arePackets_any _ _ _ l3 _ m3 (r3.below hb0)).mono ?_
              rintro e w1 ⟨rfl, hb1⟩
              have hbw := hb0.trans (hb1.mono (by first | omega | (simp; done) | (simp; omega)))
              have cP := fun o => ((Blk.new w _ _).below hb1 (by first | omega | (simp; done) | (simp; omega))).cell o
              go_wp2
              go_ret
              exact ⟨ret_bool (by rw [HO.out]; simp only [decide_eq_false (show ¬ (n4 : Int) ≤ 12 by omega), Bool.and_false, Bool.false_and]; try rfl), hbw⟩
          · skip
            go_enter Tryd.func35, Tryd.ntmps35
            go_wp2_with fail
            refine (length_any _ _ _ _ m0).mono ?_
            rintro e w' ⟨rfl, rfl⟩
            go_wp2_with fail
            refine (areBytes_any _ n0 _ l0 _ _ m0 (r0.below hb0)).mono ?_
            rintro e w' ⟨rfl, rfl⟩
            go_wp2_with fail
            refine (within_any _ _ _ _).mono ?_
            rintro e w' ⟨rfl, rfl⟩
            go_wp2_with fail
            refine (within_any _ _ _ _).mono ?_
            rintro e w' ⟨rfl, rfl⟩
            go_wp2_with fail
            refine (arePackets_any _ _ _ l3 _ m3 (r3.below hb0)).mono ?_
            rintro e w1 ⟨rfl, hb1⟩
            have hbw := hb0.trans (hb1.mono (by first | omega | (simp; done) | (simp; omega)))
            have cP := fun o => ((Blk.new w _ _).below hb1 (by first | omega | (simp; done) | (simp; omega))).cell o
            go_wp2
            go_ret
            exact ⟨ret_bool (by rw [HO.out]; simp only [h3, Bool.and_false, Bool.false_and]; try rfl), hbw⟩
        · skip
          go_enter Tryd.func35, Tryd.ntmps35
          go_wp2_with fail
          refine (length_any _ _ _ _ m0).mono ?_
          rintro e w' ⟨rfl, rfl⟩
          go_wp2_with fail
          refine (areBytes_any _ n0 _ l0 _ _ m0 (r0.below hb0)).mono ?_
          rintro e w' ⟨rfl, rfl⟩
          go_wp2_with fail
          refine (within_any _ _ _ _).mono ?_
          rintro e w' ⟨rfl, rfl⟩
          go_wp2_with fail
          refine (within_any _ _ _ _).mono ?_
          rintro e w' ⟨rfl, rfl⟩
          go_wp2
          go_ret
          exact ⟨ret_bool (by rw [HO.out]; simp only [h2, Bool.and_false, Bool.false_and]; try rfl), hb0⟩
    · skip
      go_enter Tryd.func35, Tryd.ntmps35
      go_wp2_with fail
      refine (length_any _ _ _ _ m0).mono ?_
      rintro e w' ⟨rfl, rfl⟩
      go_wp2_with fail
      refine (areBytes_any _ n0 _ l0 _ _ m0 (r0.below hb0)).mono ?_
      rintro e w' ⟨rfl, rfl⟩
      go_wp2_with fail
      refine (within_any _ _ _ _).mono ?_
      rintro e w' ⟨rfl, rfl⟩
      go_wp2
      go_ret
      exact ⟨ret_bool (by rw [HO.out]; simp only [h1, Bool.and_false, Bool.false_and]; try rfl), hb0⟩
  · skip
    go_enter Tryd.func35, Tryd.ntmps35
    go_wp2_with fail
    refine (length_any _ _ _ _ m0).mono ?_
    rintro e w' ⟨rfl, rfl⟩
    go_wp2_with fail
    refine (areBytes_any _ n0 _ l0 _ _ m0 (r0.below hb0)).mono ?_
    rintro e w' ⟨rfl, rfl⟩
    go_wp2
    go_ret
    exact ⟨ret_bool (by rw [HO.out]; simp only [h0, Bool.false_and]; try rfl), hb0⟩
end Go.Proofs.YtoledbicmghmbaaDoor
