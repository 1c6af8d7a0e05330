/- New links: spec.NewLink and impl.NewLink compute the same. Condition: a list of at most 1048576 numbers. -/
import Derived.Test.YtfankajbddmdaaaLinkA
namespace Go.Proofs.Ytfankajbddmdaaa
open Go.RowKit

def zeroLink : LinkC := ⟨[], 0, 0, [], [], []⟩
def newLinkR (xs : List Int) : LinkC := if okList xs 20 0 255 = true then ⟨xs, 0, 0, [], [], []⟩ else zeroLink
def newLinkC (xs : List Int) : Int := if okList xs 20 0 255 = true then 0 else 1
/-- The call has returned a link, in memory of its own, and a code. -/
def RetLink (l : LinkC) (code : Int) (w : World) (e : Ending) (w' : World) : Prop :=
  ∃ k, e = .returned (.tuple #[LinkV k l, .int .i64 code]) ∧ LinkOk k ∧ RdAll w' (LinkS k l) ∧ WrAll w' w.heap.size (LinkS k l) ∧ Sep (LinkR k) ∧ Below w.heap.size w w'
theorem Wr.nil (w : World) (B : Nat) (A : Option Addr) : Wr w B A 0 := fun h => absurd h (by omega)
theorem Hi.nones (B : Nat) : ∀ r : List (Option Nat), (∀ s ∈ r, s = none) → Hi r B := fun r h s hs b e => by rw [h s hs] at e; cases e
theorem Sep.ofNone {r : List (Option Nat)} (h : ∀ s ∈ r, s = none) : Sep r := by
  induction r with
  | nil => exact Sep.nil
  | cons a t ih =>
    exact Sep.cons (fun x hx y hy b e => by
      rcases List.mem_cons.1 hx with rfl | hx
      · rw [h x (List.mem_cons_self ..)] at e; cases e
      · cases hx) (ih fun s hs => h s (List.mem_cons_of_mem _ hs))
theorem newLink_ret {w w' : World} {A : Option Addr} {n c : Nat} {xs : List Int} (code : Int) (hn : n ≤ 1048576) (hr : Rd w' A n (ints xs)) (hw : Wr w' w.heap.size A n) (hb : Below w.heap.size w w') :
    RetLink ⟨xs, 0, 0, [], [], []⟩ code w (.returned (.tuple #[.agg #[.slice A n c, .int .i64 0, .int .i64 0, .slice none 0 0, .slice none 0 0, .slice none 0 0], .int .i64 code])) w' :=
  ⟨⟨⟨A, n, c⟩, ⟨none, 0, 0⟩, ⟨none, 0, 0⟩, ⟨none, 0, 0⟩⟩, rfl, ⟨hn, Nat.zero_le _, Nat.zero_le _, Nat.zero_le _⟩,
    RdAll.cons (s := ⟨A, n, ints xs⟩) hr (RdAll.cons (s := ⟨none, 0, []⟩) (Rd.nil _ _) (RdAll.cons (s := ⟨none, 0, []⟩) (Rd.nil _ _) (RdAll.cons (s := ⟨none, 0, []⟩) (Rd.nil _ _) (RdAll.nil _)))),
    WrAll.cons (s := ⟨A, n, ints xs⟩) hw (WrAll.cons (s := ⟨none, 0, []⟩) (Wr.nil _ _ _) (WrAll.cons (s := ⟨none, 0, []⟩) (Wr.nil _ _ _) (WrAll.cons (s := ⟨none, 0, []⟩) (Wr.nil _ _ _) (WrAll.nil _ _)))),
    Sep.cons (fun x hx y hy b e => by rcases List.mem_cons.1 hy with rfl | hy; · simp [blkp]
                                      rcases List.mem_cons.1 hy with rfl | hy; · simp [blkp]
                                      rcases List.mem_cons.1 hy with rfl | hy; · simp [blkp]
                                      cases hy) (Sep.ofNone fun s hs => by
      rcases List.mem_cons.1 hs with rfl | hs; · rfl
      rcases List.mem_cons.1 hs with rfl | hs; · rfl
      rcases List.mem_cons.1 hs with rfl | hs; · rfl
      cases hs), hb⟩

set_option maxHeartbeats 1000000 in
theorem implNewLink_any (A : Option Addr) (n c : Nat) (xs : List Int) (w : World) (hn : n ≤ 1048576) (hr : Rd w A n (ints xs)) :
    Calls Try.prog 14 #[.slice A n c] w (RetLink (newLinkR xs) (newLinkC xs) w) := by
  rcases Bool.eq_false_or_eq_true (okList xs 20 0 255) with h | h
  · have e1 : Hid (newLinkR xs = ⟨xs, 0, 0, [], [], []⟩ ∧ newLinkC xs = 0) := by unfold Hid newLinkR newLinkC; simp [h]
    go_enter Try.func14, Try.ntmps14
    go_wp2_with (first | (go_at_call 42; refine (areBytes_any _ _ _ xs _ _ (by omega) (hr.below (by (repeat (first | (with_reducible assumption) | (with_reducible exact Below.refl _ _) | (with_reducible refine Below.drew ?_) | (with_reducible refine Below.drewN ?_ _) | (with_reducible refine Below.setCell ?_ ?_ _) | (with_reducible refine Below.alloc ?_ ?_ _) | assumption)); all_goals (first | omega | (simp; done) | (simp; omega))))).mono ?_; rintro e w' ⟨rfl, rfl⟩) | (go_at_call 43; refine (clone_any _ _ _ xs _ (by omega) (hr.below (by (repeat (first | (with_reducible assumption) | (with_reducible exact Below.refl _ _) | (with_reducible refine Below.drew ?_) | (with_reducible refine Below.drewN ?_ _) | (with_reducible refine Below.setCell ?_ ?_ _) | (with_reducible refine Below.alloc ?_ ?_ _) | assumption)); all_goals (first | omega | (simp; done) | (simp; omega))))).mono ?_; rintro e w1 ⟨v, rfl, hown, hb1⟩; obtain ⟨B, d, rfl, hrd, hwr, _, _⟩ := own_rd hown; have BV : Blk w1 w.heap.size 25 #[.slice none 0 0, .int .i64 0, .int .i64 0, .slice none 0 0, .slice none 0 0, .slice none 0 0] := (Blk.new w _ _).below hb1 (by first | omega | (simp; done) | (simp; omega)); have cV := fun o => BV.cell o; have fV := fun o => BV.frozen o))
    have hz : w.heap.size + 1 ≤ (w.alloc (.cells #[.slice none 0 0, .int .i64 0, .int .i64 0, .slice none 0 0, .slice none 0 0, .slice none 0 0] 25)).heap.size := by first | omega | (simp; done) | (simp; omega)
    refine bodyPost_ret (v := .tuple #[.agg #[.slice B n d, .int .i64 0, .int .i64 0, .slice none 0 0, .slice none 0 0, .slice none 0 0], .int .i64 0]) (by simp [results, Try.results14, go_sem, cV]) rfl ?_
    rw [e1.out.1, e1.out.2]
    refine newLink_ret 0 hn (hrd.above (B := w.heap.size + 1) hwr hz ?_) ((hwr.above (B := w.heap.size + 1) hrd hz ?_).lower (by omega)) ?_
    · repeat (first | refine Above.setCell ?_ (by first | omega | (simp; done) | (simp; omega)) _ | exact Above.refl _ _)
    · repeat (first | refine Above.setCell ?_ (by first | omega | (simp; done) | (simp; omega)) _ | exact Above.refl _ _)
    · have hb2 : Below w.heap.size w w1 := ((Below.refl w.heap.size w).alloc (Nat.le_refl _) _).trans (hb1.mono (by first | omega | (simp; done) | (simp; omega)))
      repeat (refine Below.setCell ?_ (by first | omega | (simp; done) | (simp; omega)) _)
      exact hb2
  · have e1 : Hid (newLinkR xs = zeroLink ∧ newLinkC xs = 1) := by unfold Hid newLinkR newLinkC; simp [h]
    go_enter Try.func14, Try.ntmps14
    go_wp2_with (first | (go_at_call 42; refine (areBytes_any _ _ _ xs _ _ (by omega) (hr.below (by (repeat (first | (with_reducible assumption) | (with_reducible exact Below.refl _ _) | (with_reducible refine Below.drew ?_) | (with_reducible refine Below.drewN ?_ _) | (with_reducible refine Below.setCell ?_ ?_ _) | (with_reducible refine Below.alloc ?_ ?_ _) | assumption)); all_goals (first | omega | (simp; done) | (simp; omega))))).mono ?_; rintro e w' ⟨rfl, rfl⟩))
    refine bodyPost_ret (v := .tuple #[.agg #[.slice none 0 0, .int .i64 0, .int .i64 0, .slice none 0 0, .slice none 0 0, .slice none 0 0], .int .i64 1]) (by simp [results, Try.results14, go_sem]) rfl ?_
    rw [e1.out.1, e1.out.2]
    exact newLink_ret 1 (by omega) (Rd.nil _ _) (Wr.nil _ _ _) (by (repeat (first | (with_reducible assumption) | (with_reducible exact Below.refl _ _) | (with_reducible refine Below.drew ?_) | (with_reducible refine Below.drewN ?_ _) | (with_reducible refine Below.setCell ?_ ?_ _) | (with_reducible refine Below.alloc ?_ ?_ _) | assumption)); all_goals (first | omega | (simp; done) | (simp; omega)))

set_option maxHeartbeats 1000000 in
theorem specNewLink_any (A : Option Addr) (n c : Nat) (xs : List Int) (w : World) (hn : n ≤ 1048576) (hr : Rd w A n (ints xs)) :
    Calls Try.prog 12 #[.slice A n c] w (RetLink (newLinkR xs) (newLinkC xs) w) := by
  rcases Bool.eq_false_or_eq_true (okList xs 20 0 255) with h | h
  · have e1 : Hid (newLinkR xs = ⟨xs, 0, 0, [], [], []⟩ ∧ newLinkC xs = 0) := by unfold Hid newLinkR newLinkC; simp [h]
    go_enter Try.func12, Try.ntmps12
    go_wp2_with (first | (go_at_call 40; refine (l29Items_any _ _ _ xs _ (by omega) (hr.below (by (repeat (first | (with_reducible assumption) | (with_reducible exact Below.refl _ _) | (with_reducible refine Below.drew ?_) | (with_reducible refine Below.drewN ?_ _) | (with_reducible refine Below.setCell ?_ ?_ _) | (with_reducible refine Below.alloc ?_ ?_ _) | assumption)); all_goals (first | omega | (simp; done) | (simp; omega))))).mono ?_; rintro e w' ⟨rfl, rfl⟩) | (go_at_call 41; refine (l01Own_any _ _ _ xs _ (by omega) (hr.below (by (repeat (first | (with_reducible assumption) | (with_reducible exact Below.refl _ _) | (with_reducible refine Below.drew ?_) | (with_reducible refine Below.drewN ?_ _) | (with_reducible refine Below.setCell ?_ ?_ _) | (with_reducible refine Below.alloc ?_ ?_ _) | assumption)); all_goals (first | omega | (simp; done) | (simp; omega))))).mono ?_; rintro e w1 ⟨v, rfl, hown, hb1⟩; obtain ⟨B, d, rfl, hrd, hwr, _, _⟩ := own_rd hown; have BV : Blk w1 w.heap.size 25 #[.slice none 0 0, .int .i64 0, .int .i64 0, .slice none 0 0, .slice none 0 0, .slice none 0 0] := (Blk.new w _ _).below hb1 (by first | omega | (simp; done) | (simp; omega)); have cV := fun o => BV.cell o; have fV := fun o => BV.frozen o))
    have hz : w.heap.size + 1 ≤ (w.alloc (.cells #[.slice none 0 0, .int .i64 0, .int .i64 0, .slice none 0 0, .slice none 0 0, .slice none 0 0] 25)).heap.size := by first | omega | (simp; done) | (simp; omega)
    refine bodyPost_ret (v := .tuple #[.agg #[.slice B n d, .int .i64 0, .int .i64 0, .slice none 0 0, .slice none 0 0, .slice none 0 0], .int .i64 0]) (by simp [results, Try.results12, go_sem, cV]) rfl ?_
    rw [e1.out.1, e1.out.2]
    refine newLink_ret 0 hn (hrd.above (B := w.heap.size + 1) hwr hz ?_) ((hwr.above (B := w.heap.size + 1) hrd hz ?_).lower (by omega)) ?_
    · repeat (first | refine Above.setCell ?_ (by first | omega | (simp; done) | (simp; omega)) _ | exact Above.refl _ _)
    · repeat (first | refine Above.setCell ?_ (by first | omega | (simp; done) | (simp; omega)) _ | exact Above.refl _ _)
    · have hb2 : Below w.heap.size w w1 := ((Below.refl w.heap.size w).alloc (Nat.le_refl _) _).trans (hb1.mono (by first | omega | (simp; done) | (simp; omega)))
      repeat (refine Below.setCell ?_ (by first | omega | (simp; done) | (simp; omega)) _)
      exact hb2
  · have e1 : Hid (newLinkR xs = zeroLink ∧ newLinkC xs = 1) := by unfold Hid newLinkR newLinkC; simp [h]
    go_enter Try.func12, Try.ntmps12
    go_wp2_with (first | (go_at_call 40; refine (l29Items_any _ _ _ xs _ (by omega) (hr.below (by (repeat (first | (with_reducible assumption) | (with_reducible exact Below.refl _ _) | (with_reducible refine Below.drew ?_) | (with_reducible refine Below.drewN ?_ _) | (with_reducible refine Below.setCell ?_ ?_ _) | (with_reducible refine Below.alloc ?_ ?_ _) | assumption)); all_goals (first | omega | (simp; done) | (simp; omega))))).mono ?_; rintro e w' ⟨rfl, rfl⟩))
    refine bodyPost_ret (v := .tuple #[.agg #[.slice none 0 0, .int .i64 0, .int .i64 0, .slice none 0 0, .slice none 0 0, .slice none 0 0], .int .i64 1]) (by simp [results, Try.results12, go_sem]) rfl ?_
    rw [e1.out.1, e1.out.2]
    exact newLink_ret 1 (by omega) (Rd.nil _ _) (Wr.nil _ _ _) (by (repeat (first | (with_reducible assumption) | (with_reducible exact Below.refl _ _) | (with_reducible refine Below.drew ?_) | (with_reducible refine Below.drewN ?_ _) | (with_reducible refine Below.setCell ?_ ?_ _) | (with_reducible refine Below.alloc ?_ ?_ _) | assumption)); all_goals (first | omega | (simp; done) | (simp; omega)))
end Go.Proofs.Ytfankajbddmdaaa
