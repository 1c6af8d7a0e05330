/- Links: impl.RunLink, with its errors. Condition: lists of at most 1048576 numbers. -/
import Derived.Test.YtfankajbddmdaaaLinkR
namespace Go.Proofs.Ytfankajbddmdaaa
open Go.RowKit

set_option maxRecDepth 100000 in
set_option maxHeartbeats 2000000 in
theorem implRunLink'_any (h : Hd) (xs : List Int) (h' : Hd) (ks : List Int) (w : World) (ok : IntsOk h) (hr : RdAll w (IntsS h xs)) (ok' : IntsOk h') (hr' : RdAll w (IntsS h' ks)) :
    Calls Try.prog 29 #[IntsV h, IntsV h'] w (RetLink (runR xs ks) (runC xs ks) w) := by
  have HL : Hid (ks.length = h'.n) := hr'.head.len
  rcases Bool.eq_false_or_eq_true (okList xs 20 0 255) with hx | hx
  case inr =>
    have HZ := run_items (ks := ks) hx
    have HN : Hid (newLinkC xs = 1 ∧ newLinkR xs = zeroLink) := by unfold Hid newLinkC newLinkR; simp [hx]
    unfold IntsV
    go_enter Try.func29, Try.ntmps29
    go_wp2_with fail
    refine (implNewLink_any h.A h.n h.c xs _ ok (hr.head.below (by (repeat (first | (with_reducible assumption) | (with_reducible exact Below.refl _ _) | (with_reducible refine Below.drew ?_) | (with_reducible refine Below.drewN ?_ _) | (with_reducible refine Below.setCell ?_ ?_ _) | (with_reducible refine Below.alloc ?_ ?_ _) | assumption)); all_goals (first | omega | (simp; done) | (simp; omega))))).mono ?_
    rintro e w1 ⟨k0, he, -, -, -, -, b1⟩
    rw [HN.out.1, HN.out.2] at he
    unfold LinkV zeroLink at he
    subst he
    have hb1 : Below w.heap.size w w1 := (show Below w.heap.size w _ from (by (repeat (first | (with_reducible assumption) | (with_reducible exact Below.refl _ _) | (with_reducible refine Below.drew ?_) | (with_reducible refine Below.drewN ?_ _) | (with_reducible refine Below.setCell ?_ ?_ _) | (with_reducible refine Below.alloc ?_ ?_ _) | assumption)); all_goals (first | omega | (simp; done) | (simp; omega)))).trans (b1.mono (by first | omega | (simp; done) | (simp; omega)))
    have KR : Blk w1 w.heap.size 25 #[.slice none 0 0, .int .i64 0, .int .i64 0, .slice none 0 0, .slice none 0 0, .slice none 0 0] := Blk.below (Blk.newN _ _ _ rfl) b1 (by first | omega | (simp; done) | (simp; omega))
    have cR := fun o => KR.cell o
    have fR := fun o => KR.frozen o
    have gR := KR.lt
    clear b1
    go_wp2
    refine bodyPost_ret (v := .tuple #[.agg #[.slice none 0 0, .int .i64 0, .int .i64 0, .slice none 0 0, .slice none 0 0, .slice none 0 0], .int .i64 1]) (by simp [results, Try.results29, go_sem, cR, gR]) rfl ?_
    rw [HZ.out.1, HZ.out.2]
    exact retLink_zero (by (repeat (first | (with_reducible assumption) | (with_reducible exact Below.refl _ _) | (with_reducible refine Below.drew ?_) | (with_reducible refine Below.drewN ?_ _) | (with_reducible refine Below.setCell ?_ ?_ _) | (with_reducible refine Below.alloc ?_ ?_ _) | assumption)); all_goals (first | omega | (simp; done) | (simp; omega)))
  rcases Bool.eq_false_or_eq_true (allIn ks 0 5) with hk | hk
  case inr =>
    have HZ := run_kinds hx hk
    have HX := Lib.hid hx
    clear hx
    unfold IntsV
    go_enter Try.func29, Try.ntmps29
    go_wp2_with fail
    refine (implNewLinkOwn_any h.A h.n h.c xs _ ok (hr.head.below (by (repeat (first | (with_reducible assumption) | (with_reducible exact Below.refl _ _) | (with_reducible refine Below.drew ?_) | (with_reducible refine Below.drewN ?_ _) | (with_reducible refine Below.setCell ?_ ?_ _) | (with_reducible refine Below.alloc ?_ ?_ _) | assumption)); all_goals (first | omega | (simp; done) | (simp; omega)))) HX.out).mono ?_
    rintro e w1 ⟨k0, he, -, b1⟩
    unfold LinkV link0 at he
    subst he
    have hb1 : Below w.heap.size w w1 := (show Below w.heap.size w _ from (by (repeat (first | (with_reducible assumption) | (with_reducible exact Below.refl _ _) | (with_reducible refine Below.drew ?_) | (with_reducible refine Below.drewN ?_ _) | (with_reducible refine Below.setCell ?_ ?_ _) | (with_reducible refine Below.alloc ?_ ?_ _) | assumption)); all_goals (first | omega | (simp; done) | (simp; omega)))).trans (b1.mono (by first | omega | (simp; done) | (simp; omega)))
    have KR : Blk w1 w.heap.size 25 #[.slice none 0 0, .int .i64 0, .int .i64 0, .slice none 0 0, .slice none 0 0, .slice none 0 0] := Blk.below (Blk.newN _ _ _ rfl) b1 (by first | omega | (simp; done) | (simp; omega))
    have cR := fun o => KR.cell o
    have fR := fun o => KR.frozen o
    have gR := KR.lt
    clear b1
    go_wp2_with (go_at_call 56; refine (areWithin_any _ _ _ ks _ _ _ (Nat.le_trans ok' (by decide)) (hr'.head.below (by (repeat (first | (with_reducible assumption) | (with_reducible exact Below.refl _ _) | (with_reducible refine Below.drew ?_) | (with_reducible refine Below.drewN ?_ _) | (with_reducible refine Below.setCell ?_ ?_ _) | (with_reducible refine Below.alloc ?_ ?_ _) | assumption)); all_goals (first | omega | (simp; done) | (simp; omega))))).mono ?_; rintro e w' ⟨rfl, rfl⟩)
    refine bodyPost_ret (v := .tuple #[.agg #[.slice none 0 0, .int .i64 0, .int .i64 0, .slice none 0 0, .slice none 0 0, .slice none 0 0], .int .i64 2]) (by simp [results, Try.results29, go_sem, cR, gR]) rfl ?_
    rw [HZ.out.1, HZ.out.2]
    exact retLink_zero (by (repeat (first | (with_reducible assumption) | (with_reducible exact Below.refl _ _) | (with_reducible refine Below.drew ?_) | (with_reducible refine Below.drewN ?_ _) | (with_reducible refine Below.setCell ?_ ?_ _) | (with_reducible refine Below.alloc ?_ ?_ _) | assumption)); all_goals (first | omega | (simp; done) | (simp; omega)))
  by_cases h4 : (ks.length : Int) ≤ 400
  case neg =>
    have HZ := run_long hx hk h4
    have HX := Lib.hid hx
    have m4 : ¬ (h'.n : Int) ≤ 400 := by rw [← HL.out]; exact h4
    have m5 : (400 : Int) < (h'.n : Int) := by omega
    clear hx h4 m4
    unfold IntsV
    go_enter Try.func29, Try.ntmps29
    go_wp2_with fail
    refine (implNewLinkOwn_any h.A h.n h.c xs _ ok (hr.head.below (by (repeat (first | (with_reducible assumption) | (with_reducible exact Below.refl _ _) | (with_reducible refine Below.drew ?_) | (with_reducible refine Below.drewN ?_ _) | (with_reducible refine Below.setCell ?_ ?_ _) | (with_reducible refine Below.alloc ?_ ?_ _) | assumption)); all_goals (first | omega | (simp; done) | (simp; omega)))) HX.out).mono ?_
    rintro e w1 ⟨k0, he, -, b1⟩
    unfold LinkV link0 at he
    subst he
    have hb1 : Below w.heap.size w w1 := (show Below w.heap.size w _ from (by (repeat (first | (with_reducible assumption) | (with_reducible exact Below.refl _ _) | (with_reducible refine Below.drew ?_) | (with_reducible refine Below.drewN ?_ _) | (with_reducible refine Below.setCell ?_ ?_ _) | (with_reducible refine Below.alloc ?_ ?_ _) | assumption)); all_goals (first | omega | (simp; done) | (simp; omega)))).trans (b1.mono (by first | omega | (simp; done) | (simp; omega)))
    have KR : Blk w1 w.heap.size 25 #[.slice none 0 0, .int .i64 0, .int .i64 0, .slice none 0 0, .slice none 0 0, .slice none 0 0] := Blk.below (Blk.newN _ _ _ rfl) b1 (by first | omega | (simp; done) | (simp; omega))
    have cR := fun o => KR.cell o
    have fR := fun o => KR.frozen o
    have gR := KR.lt
    clear b1
    go_wp2_with (go_at_call 56; refine (areWithin_any _ _ _ ks _ _ _ (Nat.le_trans ok' (by decide)) (hr'.head.below (by (repeat (first | (with_reducible assumption) | (with_reducible exact Below.refl _ _) | (with_reducible refine Below.drew ?_) | (with_reducible refine Below.drewN ?_ _) | (with_reducible refine Below.setCell ?_ ?_ _) | (with_reducible refine Below.alloc ?_ ?_ _) | assumption)); all_goals (first | omega | (simp; done) | (simp; omega))))).mono ?_; rintro e w' ⟨rfl, rfl⟩)
    refine bodyPost_ret (v := .tuple #[.agg #[.slice none 0 0, .int .i64 0, .int .i64 0, .slice none 0 0, .slice none 0 0, .slice none 0 0], .int .i64 3]) (by simp [results, Try.results29, go_sem, cR, gR]) rfl ?_
    rw [HZ.out.1, HZ.out.2]
    exact retLink_zero (by (repeat (first | (with_reducible assumption) | (with_reducible exact Below.refl _ _) | (with_reducible refine Below.drew ?_) | (with_reducible refine Below.drewN ?_ _) | (with_reducible refine Below.setCell ?_ ?_ _) | (with_reducible refine Below.alloc ?_ ?_ _) | assumption)); all_goals (first | omega | (simp; done) | (simp; omega)))
  have HZ := run_yes hx hk h4
  rw [HZ.out.1, HZ.out.2]
  exact (implRunLinkOwn_any h xs h' ks w ok hr ok' hr' hx hk h4).mono fun e w' ⟨k, he, o, b⟩ => by
    rw [he]
    exact retLink_own o (runTo_ok hx hk _ (Nat.le_refl _)).1 b
end Go.Proofs.Ytfankajbddmdaaa
