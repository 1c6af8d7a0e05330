/- Grids: copies in memory of one's own. No condition beyond lengths of at most 1048576. -/
import Derived.Test.YthmcnoloeeabbaaGriB
import Derived.Deep.RegionHeld3
namespace Go.Proofs.Ythmcnoloeeabbaa
open Go.RowKit

set_option maxHeartbeats 400000 in
theorem cloneIntervals_any (A : Option Addr) (n c : Nat) (xs : List Int) (w : World) (hn : n ≤ 2097152) (hr : Rd w A (n * 2) (ints xs)) :
    Calls Try.prog 128 #[.slice A n c] w fun e w' => ∃ h : Hd, e = .returned (.slice h.A h.n h.c) ∧ h.n = n ∧ Own w' w.heap.size 2 h (ints xs) ∧ Below w.heap.size w w' := by
  rcases A with _ | ad
  · have h0 : n = 0 := by
      rcases Nat.eq_zero_or_pos n with h | h
      · exact h
      · obtain ⟨ad, e, _⟩ := hr.2 (by omega)
        cases e
    subst h0
    obtain rfl : xs = [] := List.eq_nil_of_length_eq_zero (by simpa using hr.len)
    have hnil := fun (W : World) => Lib.run_eql_slice_nil (P := Try.prog) W 48 82 none 0 c 0 0 Try.underlying48
    simp only [Option.isNone_none] at hnil
    go_enter Try.func128, Try.ntmps128
    go_wp2_with fail
    go_ret
    exact ⟨⟨none, 0, 0⟩, rfl, rfl, Own.nil _ _ _, Below.refl _ _⟩
  · have hnil := fun (W : World) => Lib.run_eql_slice_nil (P := Try.prog) W 48 82 (some ad) n c 0 0 Try.underlying48
    simp only [Option.isNone_some] at hnil
    go_enter Try.func128, Try.ntmps128
    go_wp2_with (at_builtin; refine wpList_append_rows rfl _ _ 48 rfl 82 2 16 Try.underlying48 Interval_info (by decide) w.heap.size (.slice (some ⟨w.heap.size, 0, none⟩) 0 0) 0 [] rfl (own_emptyK w _ 2) (some ad) n c (ints xs) rfl ?_ (oneCell_ints xs) (by omega) (by decide) (by simp) ?_; exact hr.below ((Below.refl _ _).alloc (Nat.le_refl _) _); intro v' w' hown hg _)
    go_ret
    simp only [Nat.zero_add, List.nil_append] at hown
    obtain ⟨h, rfl, hn, o, _⟩ := Own.of_row (by decide) hown
    exact ⟨h, rfl, hn, o, ((Below.refl _ _).alloc (Nat.le_refl _) _).grown hg (by simp) (fun k hk => by simp [Value.ownBlock] at hk; omega)⟩

set_option maxRecDepth 100000 in
set_option maxHeartbeats 8000000 in
theorem gridClone_any (h : DepthGridH) (l : DepthGridC) (w : World) (ok : DepthGridOk h) (hr : RdAll w (DepthGridS h l)) :
    Calls Try.prog 85 #[DepthGridV h l] w fun e w' => ∃ k, e = .returned (DepthGridV k l) ∧ DepthGridOwn w' w.heap.size k l ∧ Below w.heap.size w w' := by
  obtain ⟨o3, o4⟩ := ok
  have r3 := hr.head
  have r4 := hr.tail.head
  obtain ⟨⟨A3, n3, c3⟩, ⟨A4, n4, c4⟩⟩ := h
  obtain ⟨x0, x1, x2, l3, l4⟩ := l
  clear hr
  unfold DepthGridV
  simp only at *
  go_enter Try.func85, Try.ntmps85
  go_wp2_with fail
  have hc0 : (∀ o, ((w.alloc (.cells #[.int .i64 x0, .int .i64 x1, .int .i64 x2, .slice A3 n3 c3, .slice A4 n4 c4] 50)).alloc (.cells #[.int .i64 0, .int .i64 0, .int .i64 0, .slice none 0 0, .slice none 0 0] 50)).cell? ⟨w.heap.size, o, none⟩ = #[.int .i64 x0, .int .i64 x1, .int .i64 x2, .slice A3 n3 c3, .slice A4 n4 c4][o]?) ∧ (∀ o, ((w.alloc (.cells #[.int .i64 x0, .int .i64 x1, .int .i64 x2, .slice A3 n3 c3, .slice A4 n4 c4] 50)).alloc (.cells #[.int .i64 0, .int .i64 0, .int .i64 0, .slice none 0 0, .slice none 0 0] 50)).cell? ⟨w.heap.size + 1, o, none⟩ = #[.int .i64 0, .int .i64 0, .int .i64 0, .slice none 0 0, .slice none 0 0][o]?) ∧ (∀ o, ((w.alloc (.cells #[.int .i64 x0, .int .i64 x1, .int .i64 x2, .slice A3 n3 c3, .slice A4 n4 c4] 50)).alloc (.cells #[.int .i64 0, .int .i64 0, .int .i64 0, .slice none 0 0, .slice none 0 0] 50)).frozen? ⟨w.heap.size + 1, o, none⟩ = false) ∧ w.heap.size + 1 < ((w.alloc (.cells #[.int .i64 x0, .int .i64 x1, .int .i64 x2, .slice A3 n3 c3, .slice A4 n4 c4] 50)).alloc (.cells #[.int .i64 0, .int .i64 0, .int .i64 0, .slice none 0 0, .slice none 0 0] 50)).heap.size := ⟨fun o => ((Blk.new w _ _).alloc _).cell o, fun o => (Blk.new1 w _ _ _).cell o, fun o => (Blk.new1 w _ _ _).frozen o, by simp⟩
  go_region_held3 (fun w' => ∀ o, w'.cell? ⟨w.heap.size, o, none⟩ = #[.int .i64 x0, .int .i64 x1, .int .i64 x2, .slice A3 n3 c3, .slice A4 n4 c4][o]?)
    (first | (with_reducible assumption) | ((with_reducible refine cells_alloc ?_ ?_ _) <;> first | (with_reducible assumption) | (with_reducible exact hc0.1) | omega | (simp; done) | (simp; omega)) | ((with_reducible refine cells_drew ?_); (with_reducible refine cells_alloc ?_ ?_ _) <;> first | (with_reducible assumption) | (with_reducible exact hc0.1) | omega | (simp; done) | (simp; omega)) | (intro o; go_keep))
    (first
      | (go_at_call_of 122 (Value.slice A3 n3 c3); refine (cloneOwn_any A3 n3 c3 l3 _ (by omega) (r3.below (by (repeat (first | (with_reducible assumption) | (with_reducible exact Below.refl _ _) | (with_reducible refine Below.drew ?_) | (with_reducible refine Below.drewN ?_ _) | (with_reducible refine Below.setCell ?_ ?_ _) | (with_reducible refine Below.alloc ?_ ?_ _) | assumption)); all_goals (first | omega | (simp; done) | (simp; omega))))).mono ?_; rintro e u3 ⟨k3, rfl, hn3, qq3, b3⟩; have q3 := qq3.cast hn3; clear qq3; have hS3 : (∀ o, u3.cell? ⟨w.heap.size, o, none⟩ = #[.int .i64 x0, .int .i64 x1, .int .i64 x2, .slice A3 n3 c3, .slice A4 n4 c4][o]?) ∧ (∀ o, u3.cell? ⟨w.heap.size + 1, o, none⟩ = #[.int .i64 0, .int .i64 0, .int .i64 0, .slice none 0 0, .slice none 0 0][o]?) ∧ (∀ o, u3.frozen? ⟨w.heap.size + 1, o, none⟩ = false) ∧ w.heap.size + 1 < u3.heap.size := held_below (by first | (with_reducible assumption) | exact hc0 | exact held_alloc (by first | (with_reducible assumption) | exact hc0) _) b3 (by first | omega | (simp; done) | (simp; omega)) (by first | omega | (simp; done) | (simp; omega)); have hX3 := hS3.1; have hC3 := hS3.2.1; have hF3 := hS3.2.2.1; have hl3 := Nat.lt_of_succ_lt hS3.2.2.2; have hm3 := hS3.2.2.2; have hw3 : Below w.heap.size w u3 := (show Below w.heap.size w _ from (by (repeat (first | (with_reducible assumption) | (with_reducible exact Below.refl _ _) | (with_reducible refine Below.drew ?_) | (with_reducible refine Below.drewN ?_ _) | (with_reducible refine Below.setCell ?_ ?_ _) | (with_reducible refine Below.alloc ?_ ?_ _) | assumption)); all_goals (first | omega | (simp; done) | (simp; omega)))).trans (b3.mono (by first | omega | (simp; done) | (simp; omega))); have a3 : Below w.heap.size w u3 := (show Below w.heap.size w _ from (by (repeat (first | (with_reducible assumption) | (with_reducible exact Below.refl _ _) | (with_reducible refine Below.drew ?_) | (with_reducible refine Below.drewN ?_ _) | (with_reducible refine Below.setCell ?_ ?_ _) | (with_reducible refine Below.alloc ?_ ?_ _) | assumption)); all_goals (first | omega | (simp; done) | (simp; omega)))).trans (b3.mono (by first | omega | (simp; done) | (simp; omega))); have p3 := q3.mono (show w.heap.size + 2 ≤ _ from (by first | omega | (simp; done) | (simp; omega))); clear q3; have z3 := a3.size)
      | (go_at_call_of 128 (Value.slice A4 n4 c4); refine (cloneIntervals_any A4 n4 c4 l4 _ (by omega) (r4.below (by (repeat (first | (with_reducible assumption) | (with_reducible exact Below.refl _ _) | (with_reducible refine Below.drew ?_) | (with_reducible refine Below.drewN ?_ _) | (with_reducible refine Below.setCell ?_ ?_ _) | (with_reducible refine Below.alloc ?_ ?_ _) | assumption)); all_goals (first | omega | (simp; done) | (simp; omega))))).mono ?_; rintro e u4 ⟨k4, rfl, hn4, qq4, b4⟩; have q4 := qq4.cast hn4; clear qq4; have hS4 : (∀ o, u4.cell? ⟨w.heap.size, o, none⟩ = #[.int .i64 x0, .int .i64 x1, .int .i64 x2, .slice A3 n3 c3, .slice A4 n4 c4][o]?) ∧ (∀ o, u4.cell? ⟨w.heap.size + 1, o, none⟩ = #[.int .i64 0, .int .i64 0, .int .i64 0, .slice none 0 0, .slice none 0 0][o]?) ∧ (∀ o, u4.frozen? ⟨w.heap.size + 1, o, none⟩ = false) ∧ w.heap.size + 1 < u4.heap.size := held_below (by first | (with_reducible assumption) | exact hc0 | exact held_alloc (by first | (with_reducible assumption) | exact hc0) _) b4 (by first | omega | (simp; done) | (simp; omega)) (by first | omega | (simp; done) | (simp; omega)); have hX4 := hS4.1; have hC4 := hS4.2.1; have hF4 := hS4.2.2.1; have hl4 := Nat.lt_of_succ_lt hS4.2.2.2; have hm4 := hS4.2.2.2; have hw4 : Below w.heap.size w u4 := (show Below w.heap.size w _ from (by (repeat (first | (with_reducible assumption) | (with_reducible exact Below.refl _ _) | (with_reducible refine Below.drew ?_) | (with_reducible refine Below.drewN ?_ _) | (with_reducible refine Below.setCell ?_ ?_ _) | (with_reducible refine Below.alloc ?_ ?_ _) | assumption)); all_goals (first | omega | (simp; done) | (simp; omega)))).trans (b4.mono (by first | omega | (simp; done) | (simp; omega))); have a4 : Below u3.heap.size u3 u4 := (show Below u3.heap.size u3 _ from (by (repeat (first | (with_reducible assumption) | (with_reducible exact Below.refl _ _) | (with_reducible refine Below.drew ?_) | (with_reducible refine Below.drewN ?_ _) | (with_reducible refine Below.setCell ?_ ?_ _) | (with_reducible refine Below.alloc ?_ ?_ _) | assumption)); all_goals (first | omega | (simp; done) | (simp; omega)))).trans (b4.mono (by first | omega | (simp; done) | (simp; omega))); have p4 := q4.mono (show u3.heap.size ≤ _ from (by first | omega | (simp; done) | (simp; omega))); clear q4; have z4 := a4.size)
    )
  all_goals
    go_wp2
    have lo3 := fun b e => (p3.rowlt b e).2
    have lo4 := fun b e => (p4.rowlt b e).2
    have p3 := p3.below a4
    skip
    refine bodyPost_ret (v := .agg #[.int .i64 x0, .int .i64 x1, .int .i64 x2, .slice k3.A n3 k3.c, .slice k4.A n4 k4.c]) (by simp [results, Try.results85, go_sem, hC4]) rfl ⟨⟨⟨k3.A, n3, k3.c⟩, ⟨k4.A, n4, k4.c⟩⟩, rfl, ⟨?_, ?_, ?_⟩, ?_⟩
    · exact (p3.above (D := w.heap.size + 2) (by repeat (first | refine Above.setCell ?_ (by first | omega | (simp; done) | (simp; omega)) _ | exact Above.refl _ _)) (by first | omega | (simp; done) | (simp; omega))).mono (by first | omega | (simp; done) | (simp; omega))
    · exact (p4.above (D := w.heap.size + 2) (by repeat (first | refine Above.setCell ?_ (by first | omega | (simp; done) | (simp; omega)) _ | exact Above.refl _ _)) (by first | omega | (simp; done) | (simp; omega))).mono (by first | omega | (simp; done) | (simp; omega))
    · exact (Sep.step (B := u3.heap.size) (fun b e => lo3 b e) (Hi.cons (fun b e => by have := (p4.rowlt b e).1; omega) (Hi.nil _)) (Sep.step (B := u4.heap.size) (fun b e => lo4 b e) (Hi.nil _) Sep.nil))
    · exact (by (repeat (first | (with_reducible assumption) | (with_reducible exact Below.refl _ _) | (with_reducible refine Below.drew ?_) | (with_reducible refine Below.drewN ?_ _) | (with_reducible refine Below.setCell ?_ ?_ _) | (with_reducible refine Below.alloc ?_ ?_ _) | assumption)); all_goals (first | omega | (simp; done) | (simp; omega)))


set_option maxRecDepth 100000 in
set_option maxHeartbeats 8000000 in
theorem l22Own_any (h : DepthGridH) (l : DepthGridC) (w : World) (ok : DepthGridOk h) (hr : RdAll w (DepthGridS h l)) :
    Calls Try.prog 82 #[DepthGridV h l] w fun e w' => ∃ k, e = .returned (DepthGridV k l) ∧ DepthGridOwn w' w.heap.size k l ∧ Below w.heap.size w w' := by
  obtain ⟨o3, o4⟩ := ok
  have r3 := hr.head
  have r4 := hr.tail.head
  obtain ⟨⟨A3, n3, c3⟩, ⟨A4, n4, c4⟩⟩ := h
  obtain ⟨x0, x1, x2, l3, l4⟩ := l
  clear hr
  unfold DepthGridV
  simp only at *
  go_enter Try.func82, Try.ntmps82
  go_wp2_with fail
  have hc0 : (∀ o, ((w.alloc (.cells #[.int .i64 x0, .int .i64 x1, .int .i64 x2, .slice A3 n3 c3, .slice A4 n4 c4] 50)).alloc (.cells #[.int .i64 0, .int .i64 0, .int .i64 0, .slice none 0 0, .slice none 0 0] 50)).cell? ⟨w.heap.size, o, none⟩ = #[.int .i64 x0, .int .i64 x1, .int .i64 x2, .slice A3 n3 c3, .slice A4 n4 c4][o]?) ∧ (∀ o, ((w.alloc (.cells #[.int .i64 x0, .int .i64 x1, .int .i64 x2, .slice A3 n3 c3, .slice A4 n4 c4] 50)).alloc (.cells #[.int .i64 0, .int .i64 0, .int .i64 0, .slice none 0 0, .slice none 0 0] 50)).cell? ⟨w.heap.size + 1, o, none⟩ = #[.int .i64 0, .int .i64 0, .int .i64 0, .slice none 0 0, .slice none 0 0][o]?) ∧ (∀ o, ((w.alloc (.cells #[.int .i64 x0, .int .i64 x1, .int .i64 x2, .slice A3 n3 c3, .slice A4 n4 c4] 50)).alloc (.cells #[.int .i64 0, .int .i64 0, .int .i64 0, .slice none 0 0, .slice none 0 0] 50)).frozen? ⟨w.heap.size + 1, o, none⟩ = false) ∧ w.heap.size + 1 < ((w.alloc (.cells #[.int .i64 x0, .int .i64 x1, .int .i64 x2, .slice A3 n3 c3, .slice A4 n4 c4] 50)).alloc (.cells #[.int .i64 0, .int .i64 0, .int .i64 0, .slice none 0 0, .slice none 0 0] 50)).heap.size := ⟨fun o => ((Blk.new w _ _).alloc _).cell o, fun o => (Blk.new1 w _ _ _).cell o, fun o => (Blk.new1 w _ _ _).frozen o, by simp⟩
  go_region_held3 (fun w' => ∀ o, w'.cell? ⟨w.heap.size, o, none⟩ = #[.int .i64 x0, .int .i64 x1, .int .i64 x2, .slice A3 n3 c3, .slice A4 n4 c4][o]?)
    (first | (with_reducible assumption) | ((with_reducible refine cells_alloc ?_ ?_ _) <;> first | (with_reducible assumption) | (with_reducible exact hc0.1) | omega | (simp; done) | (simp; omega)) | ((with_reducible refine cells_drew ?_); (with_reducible refine cells_alloc ?_ ?_ _) <;> first | (with_reducible assumption) | (with_reducible exact hc0.1) | omega | (simp; done) | (simp; omega)) | (intro o; go_keep))
    (first
      | (go_at_call_of 121 (Value.slice A3 n3 c3); refine (l01OwnOwn_any A3 n3 c3 l3 _ (by omega) (r3.below (by (repeat (first | (with_reducible assumption) | (with_reducible exact Below.refl _ _) | (with_reducible refine Below.drew ?_) | (with_reducible refine Below.drewN ?_ _) | (with_reducible refine Below.setCell ?_ ?_ _) | (with_reducible refine Below.alloc ?_ ?_ _) | assumption)); all_goals (first | omega | (simp; done) | (simp; omega))))).mono ?_; rintro e u3 ⟨k3, rfl, hn3, qq3, b3⟩; have q3 := qq3.cast hn3; clear qq3; have hS3 : (∀ o, u3.cell? ⟨w.heap.size, o, none⟩ = #[.int .i64 x0, .int .i64 x1, .int .i64 x2, .slice A3 n3 c3, .slice A4 n4 c4][o]?) ∧ (∀ o, u3.cell? ⟨w.heap.size + 1, o, none⟩ = #[.int .i64 0, .int .i64 0, .int .i64 0, .slice none 0 0, .slice none 0 0][o]?) ∧ (∀ o, u3.frozen? ⟨w.heap.size + 1, o, none⟩ = false) ∧ w.heap.size + 1 < u3.heap.size := held_below (by first | (with_reducible assumption) | exact hc0 | exact held_alloc (by first | (with_reducible assumption) | exact hc0) _) b3 (by first | omega | (simp; done) | (simp; omega)) (by first | omega | (simp; done) | (simp; omega)); have hX3 := hS3.1; have hC3 := hS3.2.1; have hF3 := hS3.2.2.1; have hl3 := Nat.lt_of_succ_lt hS3.2.2.2; have hm3 := hS3.2.2.2; have hw3 : Below w.heap.size w u3 := (show Below w.heap.size w _ from (by (repeat (first | (with_reducible assumption) | (with_reducible exact Below.refl _ _) | (with_reducible refine Below.drew ?_) | (with_reducible refine Below.drewN ?_ _) | (with_reducible refine Below.setCell ?_ ?_ _) | (with_reducible refine Below.alloc ?_ ?_ _) | assumption)); all_goals (first | omega | (simp; done) | (simp; omega)))).trans (b3.mono (by first | omega | (simp; done) | (simp; omega))); have a3 : Below w.heap.size w u3 := (show Below w.heap.size w _ from (by (repeat (first | (with_reducible assumption) | (with_reducible exact Below.refl _ _) | (with_reducible refine Below.drew ?_) | (with_reducible refine Below.drewN ?_ _) | (with_reducible refine Below.setCell ?_ ?_ _) | (with_reducible refine Below.alloc ?_ ?_ _) | assumption)); all_goals (first | omega | (simp; done) | (simp; omega)))).trans (b3.mono (by first | omega | (simp; done) | (simp; omega))); have p3 := q3.mono (show w.heap.size + 2 ≤ _ from (by first | omega | (simp; done) | (simp; omega))); clear q3; have z3 := a3.size)
      | (refine step_append_Own (by rfl) _ _ 48 (by rfl) 82 2 16 Try.underlying48 Interval_info (by decide) _ (⟨_, 0, 0⟩ : Hd) [] (by rfl) (Own.empty _ _ _ _) A4 n4 c4 (ints l4) (by rfl) (r4.below (by (repeat (first | (with_reducible assumption) | (with_reducible exact Below.refl _ _) | (with_reducible refine Below.drew ?_) | (with_reducible refine Below.drewN ?_ _) | (with_reducible refine Below.setCell ?_ ?_ _) | (with_reducible refine Below.alloc ?_ ?_ _) | assumption)); all_goals (first | omega | (simp; done) | (simp; omega)))) (oneCell_ints l4) (by show 0 + n4 ≤ 1099511627776; omega) (by decide) (Nat.le_refl _) ?_; intro k4 u4 hn4 qq4 gg4 hat4; simp only [Nat.zero_add, List.nil_append] at hn4 qq4; have b4 := (Below.refl _ _).grown gg4 (Nat.le_refl _) (fun k hk => by simp [Hd.row] at hk); have q4 := qq4.cast hn4; clear qq4 hat4 gg4; have hS4 : (∀ o, u4.cell? ⟨w.heap.size, o, none⟩ = #[.int .i64 x0, .int .i64 x1, .int .i64 x2, .slice A3 n3 c3, .slice A4 n4 c4][o]?) ∧ (∀ o, u4.cell? ⟨w.heap.size + 1, o, none⟩ = #[.int .i64 0, .int .i64 0, .int .i64 0, .slice none 0 0, .slice none 0 0][o]?) ∧ (∀ o, u4.frozen? ⟨w.heap.size + 1, o, none⟩ = false) ∧ w.heap.size + 1 < u4.heap.size := held_below (by first | (with_reducible assumption) | exact hc0 | exact held_alloc (by first | (with_reducible assumption) | exact hc0) _) b4 (by first | omega | (simp; done) | (simp; omega)) (by first | omega | (simp; done) | (simp; omega)); have hX4 := hS4.1; have hC4 := hS4.2.1; have hF4 := hS4.2.2.1; have hl4 := Nat.lt_of_succ_lt hS4.2.2.2; have hm4 := hS4.2.2.2; have hw4 : Below w.heap.size w u4 := (show Below w.heap.size w _ from (by (repeat (first | (with_reducible assumption) | (with_reducible exact Below.refl _ _) | (with_reducible refine Below.drew ?_) | (with_reducible refine Below.drewN ?_ _) | (with_reducible refine Below.setCell ?_ ?_ _) | (with_reducible refine Below.alloc ?_ ?_ _) | assumption)); all_goals (first | omega | (simp; done) | (simp; omega)))).trans (b4.mono (by first | omega | (simp; done) | (simp; omega))); have a4 : Below u3.heap.size u3 u4 := (show Below u3.heap.size u3 _ from (by (repeat (first | (with_reducible assumption) | (with_reducible exact Below.refl _ _) | (with_reducible refine Below.drew ?_) | (with_reducible refine Below.drewN ?_ _) | (with_reducible refine Below.setCell ?_ ?_ _) | (with_reducible refine Below.alloc ?_ ?_ _) | assumption)); all_goals (first | omega | (simp; done) | (simp; omega)))).trans (b4.mono (by first | omega | (simp; done) | (simp; omega))); have p4 := q4.mono (show u3.heap.size ≤ _ from (by first | omega | (simp; done) | (simp; omega))); clear q4; have z4 := a4.size)
    )
  all_goals
    go_wp2
    have lo3 := fun b e => (p3.rowlt b e).2
    have lo4 := fun b e => (p4.rowlt b e).2
    have p3 := p3.below a4
    skip
    refine bodyPost_ret (v := .agg #[.int .i64 x0, .int .i64 x1, .int .i64 x2, .slice k3.A n3 k3.c, .slice k4.A n4 k4.c]) (by simp [results, Try.results82, go_sem, hC4]) rfl ⟨⟨⟨k3.A, n3, k3.c⟩, ⟨k4.A, n4, k4.c⟩⟩, rfl, ⟨?_, ?_, ?_⟩, ?_⟩
    · exact (p3.above (D := w.heap.size + 2) (by repeat (first | refine Above.setCell ?_ (by first | omega | (simp; done) | (simp; omega)) _ | exact Above.refl _ _)) (by first | omega | (simp; done) | (simp; omega))).mono (by first | omega | (simp; done) | (simp; omega))
    · exact (p4.above (D := w.heap.size + 2) (by repeat (first | refine Above.setCell ?_ (by first | omega | (simp; done) | (simp; omega)) _ | exact Above.refl _ _)) (by first | omega | (simp; done) | (simp; omega))).mono (by first | omega | (simp; done) | (simp; omega))
    · exact (Sep.step (B := u3.heap.size) (fun b e => lo3 b e) (Hi.cons (fun b e => by have := (p4.rowlt b e).1; omega) (Hi.nil _)) (Sep.step (B := u4.heap.size) (fun b e => lo4 b e) (Hi.nil _) Sep.nil))
    · exact (by (repeat (first | (with_reducible assumption) | (with_reducible exact Below.refl _ _) | (with_reducible refine Below.drew ?_) | (with_reducible refine Below.drewN ?_ _) | (with_reducible refine Below.setCell ?_ ?_ _) | (with_reducible refine Below.alloc ?_ ?_ _) | assumption)); all_goals (first | omega | (simp; done) | (simp; omega)))

end Go.Proofs.Ythmcnoloeeabbaa
