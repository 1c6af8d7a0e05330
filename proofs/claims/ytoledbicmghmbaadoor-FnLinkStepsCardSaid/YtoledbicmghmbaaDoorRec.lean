/- Records and soundings: the statements' copies of them, and what IsRecord tells. No condition. -/
import Derived.Test.YtoledbicmghmbaaDoorKern
import Derived.Laws.StructEq
namespace Go.Proofs.YtoledbicmghmbaaDoor
open Go.RowKit

def souV (x y d r : Int) : Array Value := #[.int .i64 x, .int .i64 y, .int .i64 d, .int .i64 r]
def recV (t k l x y d r : Int) : Array Value := #[.int .i64 t, .int .i64 k, .int .i64 l, .int .i64 x, .int .i64 y, .int .i64 d, .int .i64 r]
set_option maxHeartbeats 400000 in
theorem toSounding_any (x y d r : Int) (w : World) :
    Calls Tryd.prog 64 #[.agg #[.int .i64 x, .int .i64 y, .int .i64 d, .int .i64 r]] w fun e w' =>
      e = .returned (.agg #[.int .i64 x, .int .i64 y, .int .i64 d, .int .i64 r]) ∧ ((w.alloc (.cells #[.int .i64 x, .int .i64 y, .int .i64 d, .int .i64 r] 23)).alloc (.cells #[.int .i64 x, .int .i64 y, .int .i64 d, .int .i64 r] 27)).alloc (.cells #[.int .i64 x, .int .i64 y, .int .i64 d, .int .i64 r] 27) = w' := by
  go_enter Tryd.func64, Tryd.ntmps64
  go_wp2
  exact bodyPost_ret (v := .agg #[.int .i64 x, .int .i64 y, .int .i64 d, .int .i64 r]) (by simp [results, Tryd.results64, go_sem]) rfl ⟨rfl, rfl⟩

set_option maxHeartbeats 400000 in
theorem toRecord_any (t k l x y d r : Int) (w : World) :
    Calls Tryd.prog 12 #[.agg #[.int .i64 t, .int .i64 k, .int .i64 l, .int .i64 x, .int .i64 y, .int .i64 d, .int .i64 r]] w fun e w' =>
      e = .returned (.agg #[.int .i64 t, .int .i64 k, .int .i64 l, .int .i64 x, .int .i64 y, .int .i64 d, .int .i64 r]) ∧ Below w.heap.size w w' := by
  go_enter Tryd.func12, Tryd.ntmps12
  go_wp2_with fail
  refine (toSounding_any _ _ _ _ _).mono ?_
  rintro e w1 ⟨rfl, rfl⟩
  go_wp2
  exact bodyPost_ret (v := .agg #[.int .i64 t, .int .i64 k, .int .i64 l, .int .i64 x, .int .i64 y, .int .i64 d, .int .i64 r]) (by simp [results, Tryd.results12, go_sem]) rfl ⟨rfl, by (repeat (first | (with_reducible assumption) | (with_reducible exact Below.refl _ _) | (with_reducible refine Below.drew ?_) | (with_reducible refine Below.drewN ?_ _) | (with_reducible refine Below.setCell ?_ ?_ _) | (with_reducible refine Below.alloc ?_ ?_ _) | assumption)); all_goals (first | omega | (simp; done) | (simp; omega))⟩

/-- What a sounding's test tells. -/
def souB (x y d r : Int) : Bool := inR x 0 10000 && inR y 0 10000 && inR d (-2000) 1000000 && inR r 0 5000
def zeroB (x y d r : Int) : Bool := x == 0 && (y == 0 && (d == 0 && r == 0))
def recB (t k l x y d r : Int) : Bool :=
  inR t 0 1000000 && (if k = 1 then inR l (-2000) 2000 && zeroB x y d r else if k = 2 then l == 0 && souB x y d r else if k = 3 then l == 0 && zeroB x y d r else false)

set_option maxHeartbeats 400000 in
theorem l21Is_any (x y d r : Int) (w : World) :
    Calls Tryd.prog 122 #[.agg #[.int .i64 x, .int .i64 y, .int .i64 d, .int .i64 r]] w fun e w' => e = .returned (.bool (souB x y d r)) ∧ w' = w.alloc (.cells (souV x y d r) 27) := by
  have HS : Hid (souB x y d r = (inR x 0 10000 && inR y 0 10000 && inR d (-2000) 1000000 && inR r 0 5000)) := rfl
  rcases Bool.eq_false_or_eq_true (inR x 0 10000) with h1 | h1 <;> rcases Bool.eq_false_or_eq_true (inR y 0 10000) with h2 | h2 <;> rcases Bool.eq_false_or_eq_true (inR d (-2000) 1000000) with h3 | h3
  all_goals
    have HS' := HS.out
    rw [h1, h2, h3] at HS'
    have HS := Lib.hid HS'
    clear HS'
    go_enter Tryd.func122, Tryd.ntmps122
    go_wp2_with (go_at_call 95; refine (l01In_any _ _ _ _).mono ?_; rintro e w' ⟨rfl, rfl⟩)
    go_ret
    exact ⟨ret_bool (by rw [HS.out]; simp), rfl⟩

set_option maxHeartbeats 400000 in
theorem isField_any (A : Option Addr) (n c : Nat) (xs : List Int) (w : World) (hn : n ≤ 9223372036854775807) (hr : Rd w A n (ints xs)) :
    Calls Tryd.prog 149 #[.slice A n c] w fun e w' => e = .returned (.bool (allIn xs 0 10000)) ∧ w = w' := by
  go_enter Tryd.func149, Tryd.ntmps149
  go_wp2_with (go_at_call 93; refine (areWithin_any _ _ _ xs _ _ _ hn hr).mono ?_; rintro e w' ⟨rfl, rfl⟩)
  go_ret
  exact ⟨rfl, rfl⟩

theorem rd_two (w : World) (x y : Int) (e : TypeId) (g : Nat) (hg : w.heap.size = g) : Rd (w.alloc (.cells #[.int .i64 x, .int .i64 y] e)) (some ⟨g, 0, none⟩) 2 (ints [x, y]) := by
  subst hg
  exact (Blk.new w e #[.int .i64 x, .int .i64 y]).rd rfl (fun i hi => by
    match i, hi with
    | 0, _ => rfl
    | 1, _ => rfl)

set_option maxHeartbeats 400000 in
theorem isSounding_any (x y d r : Int) (w : World) :
    Calls Tryd.prog 106 #[.agg #[.int .i64 x, .int .i64 y, .int .i64 d, .int .i64 r]] w fun e w' => e = .returned (.bool (souB x y d r)) ∧ Below w.heap.size w w' := by
  have HS : Hid (souB x y d r = (allIn [x, y] 0 10000 && inR d (-2000) 1000000 && inR r 0 5000)) := by unfold Hid souB allIn; simp
  rcases Bool.eq_false_or_eq_true (allIn [x, y] 0 10000) with h1 | h1 <;> rcases Bool.eq_false_or_eq_true (inR d (-2000) 1000000) with h3 | h3
  all_goals
    have HS' := HS.out
    rw [h1, h3] at HS'
    have HS := Lib.hid HS'
    clear HS'
    go_enter Tryd.func106, Tryd.ntmps106
    go_wp2_with (first | (go_at_call 91; refine (within_any _ _ _ _).mono ?_; rintro e w' ⟨rfl, rfl⟩) | (go_at_call 149; refine (isField_any _ _ _ [x, y] _ (by omega) ?_).mono ?_; exact rd_two _ x y _ _ (by simp); rintro e w' ⟨rfl, rfl⟩))
    go_ret
    exact ⟨ret_bool (by rw [HS.out]; simp), by (repeat (first | (with_reducible assumption) | (with_reducible exact Below.refl _ _) | (with_reducible refine Below.drew ?_) | (with_reducible refine Below.drewN ?_ _) | (with_reducible refine Below.setCell ?_ ?_ _) | (with_reducible refine Below.alloc ?_ ?_ _) | assumption)); all_goals (first | omega | (simp; done) | (simp; omega))⟩

set_option maxHeartbeats 400000 in
theorem specIsRecord_any (t k l x y d r : Int) (w : World) :
    Calls Tryd.prog 61 #[.agg #[.int .i64 t, .int .i64 k, .int .i64 l, .int .i64 x, .int .i64 y, .int .i64 d, .int .i64 r]] w fun e w' => e = .returned (.bool (recB t k l x y d r)) ∧ Below w.heap.size w w' := by
  rcases Bool.eq_false_or_eq_true (inR t 0 1000000) with h1 | h1
  · by_cases k1 : k = 1
    · subst k1
      rcases Bool.eq_false_or_eq_true (inR l (-2000) 2000) with h2 | h2
      · have HS : Hid (recB t 1 l x y d r = zeroB x y d r) := by unfold Hid recB; simp [h1, h2]
        go_enter Tryd.func61, Tryd.ntmps61
        go_wp2_with (first | (go_at_call 95; refine (l01In_any _ _ _ _).mono ?_; rintro e w' ⟨rfl, rfl⟩))
        all_goals
          go_ret
          exact ⟨ret_bool (by rw [HS.out]; simp [zeroB, *]), by (repeat (first | (with_reducible assumption) | (with_reducible exact Below.refl _ _) | (with_reducible refine Below.drew ?_) | (with_reducible refine Below.drewN ?_ _) | (with_reducible refine Below.setCell ?_ ?_ _) | (with_reducible refine Below.alloc ?_ ?_ _) | assumption)); all_goals (first | omega | (simp; done) | (simp; omega))⟩
      · have HS : Hid (recB t 1 l x y d r = false) := by unfold Hid recB; simp [h1, h2]
        go_enter Tryd.func61, Tryd.ntmps61
        go_wp2_with (first | (go_at_call 95; refine (l01In_any _ _ _ _).mono ?_; rintro e w' ⟨rfl, rfl⟩))
        go_ret
        exact ⟨ret_bool (by rw [HS.out]), by (repeat (first | (with_reducible assumption) | (with_reducible exact Below.refl _ _) | (with_reducible refine Below.drew ?_) | (with_reducible refine Below.drewN ?_ _) | (with_reducible refine Below.setCell ?_ ?_ _) | (with_reducible refine Below.alloc ?_ ?_ _) | assumption)); all_goals (first | omega | (simp; done) | (simp; omega))⟩
    · have e1 : (k == 1) = false := by simpa using k1
      by_cases k2 : k = 2
      · subst k2
        rcases Bool.eq_false_or_eq_true (l == 0) with h2 | h2
        · have HS : Hid (recB t 2 l x y d r = souB x y d r) := by unfold Hid recB; simp [h1, h2]
          go_enter Tryd.func61, Tryd.ntmps61
          go_wp2_with (first | (go_at_call 95; refine (l01In_any _ _ _ _).mono ?_; rintro e w' ⟨rfl, rfl⟩) | (go_at_call 122; refine (l21Is_any _ _ _ _ _).mono ?_; rintro e w' ⟨rfl, rfl⟩))
          go_ret
          exact ⟨ret_bool (by rw [HS.out]), by (repeat (first | (with_reducible assumption) | (with_reducible exact Below.refl _ _) | (with_reducible refine Below.drew ?_) | (with_reducible refine Below.drewN ?_ _) | (with_reducible refine Below.setCell ?_ ?_ _) | (with_reducible refine Below.alloc ?_ ?_ _) | assumption)); all_goals (first | omega | (simp; done) | (simp; omega))⟩
        · have HS : Hid (recB t 2 l x y d r = false) := by unfold Hid recB; simp [h1, h2]
          go_enter Tryd.func61, Tryd.ntmps61
          go_wp2_with (first | (go_at_call 95; refine (l01In_any _ _ _ _).mono ?_; rintro e w' ⟨rfl, rfl⟩))
          go_ret
          exact ⟨ret_bool (by rw [HS.out]), by (repeat (first | (with_reducible assumption) | (with_reducible exact Below.refl _ _) | (with_reducible refine Below.drew ?_) | (with_reducible refine Below.drewN ?_ _) | (with_reducible refine Below.setCell ?_ ?_ _) | (with_reducible refine Below.alloc ?_ ?_ _) | assumption)); all_goals (first | omega | (simp; done) | (simp; omega))⟩
      · have e2 : (k == 2) = false := by simpa using k2
        by_cases k3 : k = 3
        · subst k3
          rcases Bool.eq_false_or_eq_true (l == 0) with h2 | h2
          · have HS : Hid (recB t 3 l x y d r = zeroB x y d r) := by unfold Hid recB; simp [h1, h2]
            go_enter Tryd.func61, Tryd.ntmps61
            go_wp2_with (first | (go_at_call 95; refine (l01In_any _ _ _ _).mono ?_; rintro e w' ⟨rfl, rfl⟩))
            all_goals
              go_ret
              exact ⟨ret_bool (by rw [HS.out]; simp [zeroB, *]), by (repeat (first | (with_reducible assumption) | (with_reducible exact Below.refl _ _) | (with_reducible refine Below.drew ?_) | (with_reducible refine Below.drewN ?_ _) | (with_reducible refine Below.setCell ?_ ?_ _) | (with_reducible refine Below.alloc ?_ ?_ _) | assumption)); all_goals (first | omega | (simp; done) | (simp; omega))⟩
          · have HS : Hid (recB t 3 l x y d r = false) := by unfold Hid recB; simp [h1, h2]
            go_enter Tryd.func61, Tryd.ntmps61
            go_wp2_with (first | (go_at_call 95; refine (l01In_any _ _ _ _).mono ?_; rintro e w' ⟨rfl, rfl⟩))
            go_ret
            exact ⟨ret_bool (by rw [HS.out]), by (repeat (first | (with_reducible assumption) | (with_reducible exact Below.refl _ _) | (with_reducible refine Below.drew ?_) | (with_reducible refine Below.drewN ?_ _) | (with_reducible refine Below.setCell ?_ ?_ _) | (with_reducible refine Below.alloc ?_ ?_ _) | assumption)); all_goals (first | omega | (simp; done) | (simp; omega))⟩
        · have e3 : (k == 3) = false := by simpa using k3
          have HS : Hid (recB t k l x y d r = false) := by unfold Hid recB; simp [h1, k1, k2, k3]
          go_enter Tryd.func61, Tryd.ntmps61
          go_wp2_with (first | (go_at_call 95; refine (l01In_any _ _ _ _).mono ?_; rintro e w' ⟨rfl, rfl⟩))
          go_ret
          exact ⟨ret_bool (by rw [HS.out]), by (repeat (first | (with_reducible assumption) | (with_reducible exact Below.refl _ _) | (with_reducible refine Below.drew ?_) | (with_reducible refine Below.drewN ?_ _) | (with_reducible refine Below.setCell ?_ ?_ _) | (with_reducible refine Below.alloc ?_ ?_ _) | assumption)); all_goals (first | omega | (simp; done) | (simp; omega))⟩
  · have HS : Hid (recB t k l x y d r = false) := by unfold Hid recB; simp [h1]
    go_enter Tryd.func61, Tryd.ntmps61
    go_wp2_with (first | (go_at_call 95; refine (l01In_any _ _ _ _).mono ?_; rintro e w' ⟨rfl, rfl⟩))
    go_ret
    exact ⟨ret_bool (by rw [HS.out]), by (repeat (first | (with_reducible assumption) | (with_reducible exact Below.refl _ _) | (with_reducible refine Below.drew ?_) | (with_reducible refine Below.drewN ?_ _) | (with_reducible refine Below.setCell ?_ ?_ _) | (with_reducible refine Below.alloc ?_ ?_ _) | assumption)); all_goals (first | omega | (simp; done) | (simp; omega))⟩
set_option maxHeartbeats 400000 in
theorem implIsRecord_any (t k l x y d r : Int) (w : World) :
    Calls Tryd.prog 45 #[.agg #[.int .i64 t, .int .i64 k, .int .i64 l, .int .i64 x, .int .i64 y, .int .i64 d, .int .i64 r]] w fun e w' => e = .returned (.bool (recB t k l x y d r)) ∧ Below w.heap.size w w' := by
  rcases Bool.eq_false_or_eq_true (inR t 0 1000000) with h1 | h1
  · by_cases k1 : k = 1
    · subst k1
      rcases Bool.eq_false_or_eq_true (inR l (-2000) 2000) with h2 | h2
      · have HS : Hid (recB t 1 l x y d r = zeroB x y d r) := by unfold Hid recB; simp [h1, h2]
        go_enter Tryd.func45, Tryd.ntmps45
        go_wp2_with (first | (go_at_call 91; refine (within_any _ _ _ _).mono ?_; rintro e w' ⟨rfl, rfl⟩))
        all_goals
          go_ret
          exact ⟨ret_bool (by rw [HS.out]; simp [zeroB, *]), by (repeat (first | (with_reducible assumption) | (with_reducible exact Below.refl _ _) | (with_reducible refine Below.drew ?_) | (with_reducible refine Below.drewN ?_ _) | (with_reducible refine Below.setCell ?_ ?_ _) | (with_reducible refine Below.alloc ?_ ?_ _) | assumption)); all_goals (first | omega | (simp; done) | (simp; omega))⟩
      · have HS : Hid (recB t 1 l x y d r = false) := by unfold Hid recB; simp [h1, h2]
        go_enter Tryd.func45, Tryd.ntmps45
        go_wp2_with (first | (go_at_call 91; refine (within_any _ _ _ _).mono ?_; rintro e w' ⟨rfl, rfl⟩))
        go_ret
        exact ⟨ret_bool (by rw [HS.out]), by (repeat (first | (with_reducible assumption) | (with_reducible exact Below.refl _ _) | (with_reducible refine Below.drew ?_) | (with_reducible refine Below.drewN ?_ _) | (with_reducible refine Below.setCell ?_ ?_ _) | (with_reducible refine Below.alloc ?_ ?_ _) | assumption)); all_goals (first | omega | (simp; done) | (simp; omega))⟩
    · have e1 : (k == 1) = false := by simpa using k1
      by_cases k2 : k = 2
      · subst k2
        rcases Bool.eq_false_or_eq_true (l == 0) with h2 | h2
        · have HS : Hid (recB t 2 l x y d r = souB x y d r) := by unfold Hid recB; simp [h1, h2]
          go_enter Tryd.func45, Tryd.ntmps45
          go_wp2_with (first | (go_at_call 91; refine (within_any _ _ _ _).mono ?_; rintro e w' ⟨rfl, rfl⟩) | (go_at_call 106; refine (isSounding_any _ _ _ _ _).mono ?_; rintro e w' ⟨rfl, hb⟩))
          go_ret
          exact ⟨ret_bool (by rw [HS.out]), Below.trans (by (repeat (first | (with_reducible assumption) | (with_reducible exact Below.refl _ _) | (with_reducible refine Below.drew ?_) | (with_reducible refine Below.drewN ?_ _) | (with_reducible refine Below.setCell ?_ ?_ _) | (with_reducible refine Below.alloc ?_ ?_ _) | assumption)); all_goals (first | omega | (simp; done) | (simp; omega))) (hb.mono (by simp))⟩
        · have HS : Hid (recB t 2 l x y d r = false) := by unfold Hid recB; simp [h1, h2]
          go_enter Tryd.func45, Tryd.ntmps45
          go_wp2_with (first | (go_at_call 91; refine (within_any _ _ _ _).mono ?_; rintro e w' ⟨rfl, rfl⟩))
          go_ret
          exact ⟨ret_bool (by rw [HS.out]), by (repeat (first | (with_reducible assumption) | (with_reducible exact Below.refl _ _) | (with_reducible refine Below.drew ?_) | (with_reducible refine Below.drewN ?_ _) | (with_reducible refine Below.setCell ?_ ?_ _) | (with_reducible refine Below.alloc ?_ ?_ _) | assumption)); all_goals (first | omega | (simp; done) | (simp; omega))⟩
      · have e2 : (k == 2) = false := by simpa using k2
        by_cases k3 : k = 3
        · subst k3
          rcases Bool.eq_false_or_eq_true (l == 0) with h2 | h2
          · have HS : Hid (recB t 3 l x y d r = zeroB x y d r) := by unfold Hid recB; simp [h1, h2]
            go_enter Tryd.func45, Tryd.ntmps45
            go_wp2_with (first | (go_at_call 91; refine (within_any _ _ _ _).mono ?_; rintro e w' ⟨rfl, rfl⟩))
            all_goals
              go_ret
              exact ⟨ret_bool (by rw [HS.out]; simp [zeroB, *]), by (repeat (first | (with_reducible assumption) | (with_reducible exact Below.refl _ _) | (with_reducible refine Below.drew ?_) | (with_reducible refine Below.drewN ?_ _) | (with_reducible refine Below.setCell ?_ ?_ _) | (with_reducible refine Below.alloc ?_ ?_ _) | assumption)); all_goals (first | omega | (simp; done) | (simp; omega))⟩
          · have HS : Hid (recB t 3 l x y d r = false) := by unfold Hid recB; simp [h1, h2]
            go_enter Tryd.func45, Tryd.ntmps45
            go_wp2_with (first | (go_at_call 91; refine (within_any _ _ _ _).mono ?_; rintro e w' ⟨rfl, rfl⟩))
            go_ret
            exact ⟨ret_bool (by rw [HS.out]), by (repeat (first | (with_reducible assumption) | (with_reducible exact Below.refl _ _) | (with_reducible refine Below.drew ?_) | (with_reducible refine Below.drewN ?_ _) | (with_reducible refine Below.setCell ?_ ?_ _) | (with_reducible refine Below.alloc ?_ ?_ _) | assumption)); all_goals (first | omega | (simp; done) | (simp; omega))⟩
        · have e3 : (k == 3) = false := by simpa using k3
          have HS : Hid (recB t k l x y d r = false) := by unfold Hid recB; simp [h1, k1, k2, k3]
          go_enter Tryd.func45, Tryd.ntmps45
          go_wp2_with (first | (go_at_call 91; refine (within_any _ _ _ _).mono ?_; rintro e w' ⟨rfl, rfl⟩))
          go_ret
          exact ⟨ret_bool (by rw [HS.out]), by (repeat (first | (with_reducible assumption) | (with_reducible exact Below.refl _ _) | (with_reducible refine Below.drew ?_) | (with_reducible refine Below.drewN ?_ _) | (with_reducible refine Below.setCell ?_ ?_ _) | (with_reducible refine Below.alloc ?_ ?_ _) | assumption)); all_goals (first | omega | (simp; done) | (simp; omega))⟩
  · have HS : Hid (recB t k l x y d r = false) := by unfold Hid recB; simp [h1]
    go_enter Tryd.func45, Tryd.ntmps45
    go_wp2_with (first | (go_at_call 91; refine (within_any _ _ _ _).mono ?_; rintro e w' ⟨rfl, rfl⟩))
    go_ret
    exact ⟨ret_bool (by rw [HS.out]), by (repeat (first | (with_reducible assumption) | (with_reducible exact Below.refl _ _) | (with_reducible refine Below.drew ?_) | (with_reducible refine Below.drewN ?_ _) | (with_reducible refine Below.setCell ?_ ?_ _) | (with_reducible refine Below.alloc ?_ ?_ _) | assumption)); all_goals (first | omega | (simp; done) | (simp; omega))⟩
end Go.Proofs.YtoledbicmghmbaaDoor
