/- Links: whether a link is valid. spec.IsLink and impl.IsLink compute the same. No condition. -/
import Derived.Test.YtoledbicmghmbaaDoorTLink
import Derived.BigQuiet
namespace Go.Proofs.YtoledbicmghmbaaDoor
open Go.RowKit

set_option maxHeartbeats 400000 in
theorem areBytes_any (A : Option Addr) (n c : Nat) (xs : List Int) (most : Int) (w : World) (hn : n ≤ 9223372036854775807) (hr : Rd w A n (ints xs)) :
    Calls Tryd.prog 90 #[.slice A n c, .int .i64 most] w fun e w' => e = .returned (.bool (okList xs most 0 255)) ∧ w = w' := by
  have HL := Lib.hid hr.len
  by_cases h : (n : Int) ≤ most
  · have HE : Hid (okList xs most 0 255 = allIn xs 0 255) := by unfold Hid okList; rw [HL.out]; simp [h]
    go_enter Tryd.func90, Tryd.ntmps90
    go_wp2_with (go_at_call 93; refine (areWithin_any _ _ _ xs _ _ _ hn hr).mono ?_; rintro e w' ⟨rfl, rfl⟩)
    go_ret
    exact ⟨ret_bool (by rw [HE.out]), rfl⟩
  · have HE : Hid (okList xs most 0 255 = false) := by unfold Hid okList; rw [HL.out]; simp [h]
    go_enter Tryd.func90, Tryd.ntmps90
    go_wp2_with fail
    go_ret
    exact ⟨ret_bool (by rw [HE.out]), rfl⟩

set_option maxHeartbeats 400000 in
theorem l29Items_any (A : Option Addr) (n c : Nat) (xs : List Int) (w : World) (hn : n ≤ 9223372036854775807) (hr : Rd w A n (ints xs)) :
    Calls Tryd.prog 94 #[.slice A n c] w fun e w' => e = .returned (.bool (okList xs 20 0 255)) ∧ w = w' := by
  go_enter Tryd.func94, Tryd.ntmps94
  go_wp2_with (go_at_call 96; refine (l01Within_any _ _ _ xs _ _ _ _ hn hr).mono ?_; rintro e w' ⟨rfl, rfl⟩)
  go_ret
  exact ⟨rfl, rfl⟩

set_option maxHeartbeats 400000 in
theorem isNumber_any (x : Int) (w : World) :
    Calls Tryd.prog 143 #[.int .i64 x] w fun e w' => e = .returned (.bool (inR x 0 3)) ∧ w = w' := by
  go_enter Tryd.func143, Tryd.ntmps143
  go_wp2_with (go_at_call 91; refine (within_any _ _ _ _).mono ?_; rintro e w' ⟨rfl, rfl⟩)
  go_ret
  exact ⟨rfl, rfl⟩

set_option maxHeartbeats 1000000 in
theorem badPacket_any (x y : Int) (w : World) :
    Calls Tryd.prog 142 #[.agg #[.int .i64 x, .int .i64 y]] w fun e w' => e = .returned (.bool (!(inR x 0 3 && inR y 0 255))) ∧ w.alloc (.cells #[.int .i64 x, .int .i64 y] 64) = w' := by
  rcases Bool.eq_false_or_eq_true (inR x 0 3) with h | h
  · go_enter Tryd.func142, Tryd.ntmps142
    go_wp2_with (first | (go_at_call 143; refine (isNumber_any _ _).mono ?_; rintro e w' ⟨rfl, rfl⟩) | (go_at_call 91; refine (within_any _ _ _ _).mono ?_; rintro e w' ⟨rfl, rfl⟩))
    go_ret
    exact ⟨ret_bool (by rw [h]; rfl), rfl⟩
  · go_enter Tryd.func142, Tryd.ntmps142
    go_wp2_with (first | (go_at_call 143; refine (isNumber_any _ _).mono ?_; rintro e w' ⟨rfl, rfl⟩) | (go_at_call 91; refine (within_any _ _ _ _).mono ?_; rintro e w' ⟨rfl, rfl⟩))
    go_ret
    exact ⟨ret_bool (by rw [h]; rfl), rfl⟩

def pktIn (xs : List Int) (k : Nat) : Bool := inR (xs.getD (k * 2) 0) 0 3 && inR (xs.getD (k * 2 + 1) 0) 0 255
def pktsIn (xs : List Int) (n : Nat) : Bool := (List.range n).all (pktIn xs)
theorem pktsIn_succ (xs : List Int) (n : Nat) : pktsIn xs (n + 1) = (pktsIn xs n && pktIn xs n) := by unfold pktsIn; rw [List.range_succ, List.all_append]; simp
theorem pktsIn_false {xs : List Int} {k n : Nat} (h : pktIn xs k = false) (hk : k < n) : pktsIn xs n = false := by
  unfold pktsIn
  rw [Bool.eq_false_iff]
  intro c
  have := List.all_eq_true.1 c k (List.mem_range.2 hk)
  rw [h] at this
  cases this

set_option maxHeartbeats 2000000 in
theorem indexBad_any (A : Option Addr) (n c : Nat) (xs : List Int) (w : World) (hn : n ≤ 9223372036854775807) (hr : Rd w A (n * 2) (ints xs)) :
    Calls Tryd.prog 160 #[.slice A n c, .func (.func 142) #[] #[]] w fun e w' => ∃ v : Int, e = .returned (.int .i64 v) ∧ (decide (v ≥ 0)) = !(pktsIn xs n) ∧ Below w.heap.size w w' := by
  go_enter Tryd.func160, Tryd.ntmps160
  go_wp2
  go_loopw [8] (fun i wr => ∃ k : Nat, k ≤ n ∧ i = .int .i64 k ∧ pktsIn xs k = true ∧ Below w.heap.size w wr)
    (fun i _ => n - (intOf i).toNat)
  case atStart => exact ⟨0, Nat.zero_le _, rfl, rfl, Below.refl _ _⟩
  case round =>
    obtain ⟨k, hk, rfl, hall, hbel⟩ := hrel
    have HA := Lib.hid hall
    clear hall
    by_cases hlt : k < n
    · have ha := hr.below hbel
      have hz := hbel.size
      have HS : Hid (pktsIn xs (k + 1) = (pktsIn xs k && pktIn xs k)) := pktsIn_succ xs k
      have HF : Hid (pktIn xs k = false → pktsIn xs n = false) := fun h => pktsIn_false h hlt
      have HP : Hid (pktIn xs k = (inR (xs.getD (k * 2) 0) 0 3 && inR (xs.getD (k * 2 + 1) 0) 0 255)) := rfl
      obtain ⟨_, e0, hx0⟩ := ha.int (show k * 2 + 0 < n * 2 by omega)
      obtain ⟨_, e1, hx1⟩ := ha.int (show k * 2 + 1 < n * 2 by omega)
      obtain ⟨ad, rfl⟩ : ∃ ad, A = some ad := ⟨_, e0⟩
      cases e0
      cases e1
      rw [Nat.add_zero] at hx0
      rw [← add_of_add, field_add _ 1 (by decide)] at hx1
      generalize xs.getD (k * 2) 0 = x0 at *
      generalize xs.getD (k * 2 + 1) 0 = x1 at *
      rcases Bool.eq_false_or_eq_true (inR x0 0 3 && inR x1 0 255) with h | h
      · have HH := Lib.hid h
        go_wp2_with (go_at_call 142; refine (badPacket_any _ _ _).mono ?_; rintro e w' ⟨rfl, rfl⟩)
        go_roundw
        case rel => exact ⟨k + 1, by omega, by go_num, by rw [HS.out, HA.out, HP.out, HH.out]; rfl, by (repeat (first | (with_reducible assumption) | (with_reducible exact Below.refl _ _) | (with_reducible refine Below.drew ?_) | (with_reducible refine Below.drewN ?_ _) | (with_reducible refine Below.setCell ?_ ?_ _) | (with_reducible refine Below.alloc ?_ ?_ _) | assumption)); all_goals (first | omega | (simp; done) | (simp; omega))⟩
        case measure => simp [intOf]; omega
      · have HH := Lib.hid h
        go_wp2_with (go_at_call 142; refine (badPacket_any _ _ _).mono ?_; rintro e w' ⟨rfl, rfl⟩)
        go_ret
        exact ⟨k, rfl, by rw [HF.out (by rw [HP.out, HH.out])]; simp, by (repeat (first | (with_reducible assumption) | (with_reducible exact Below.refl _ _) | (with_reducible refine Below.drew ?_) | (with_reducible refine Below.drewN ?_ _) | (with_reducible refine Below.setCell ?_ ?_ _) | (with_reducible refine Below.alloc ?_ ?_ _) | assumption)); all_goals (first | omega | (simp; done) | (simp; omega))⟩
    · obtain rfl : k = n := by omega
      go_wp2
      go_ret
      exact ⟨-1, rfl, by rw [HA.out]; rfl, hbel⟩

set_option maxHeartbeats 1000000 in
theorem containsBad_any (A : Option Addr) (n c : Nat) (xs : List Int) (w : World) (hn : n ≤ 9223372036854775807) (hr : Rd w A (n * 2) (ints xs)) :
    Calls Tryd.prog 141 #[.slice A n c, .func (.func 142) #[] #[]] w fun e w' => e = .returned (.bool (!(pktsIn xs n))) ∧ Below w.heap.size w w' := by
  go_enter Tryd.func141, Tryd.ntmps141
  go_wp2_with (go_at_call 160; refine (indexBad_any _ _ _ xs _ hn hr).mono ?_; rintro e w' ⟨v, rfl, hv, hb⟩)
  go_ret
  exact ⟨ret_bool (by rw [← hv]), hb⟩

set_option maxHeartbeats 1000000 in
theorem arePackets_any (A : Option Addr) (n c : Nat) (xs : List Int) (w : World) (hn : n ≤ 9223372036854775807) (hr : Rd w A (n * 2) (ints xs)) :
    Calls Tryd.prog 92 #[.slice A n c] w fun e w' => e = .returned (.bool (decide ((n : Int) ≤ 12) && pktsIn xs n)) ∧ Below w.heap.size w w' := by
  by_cases h : (n : Int) ≤ 12
  · go_enter Tryd.func92, Tryd.ntmps92
    go_wp2_with (go_at_call 141; refine (containsBad_any _ _ _ xs _ hn hr).mono ?_; rintro e w' ⟨rfl, hb⟩)
    go_ret
    exact ⟨ret_bool (by rw [decide_eq_true h]; simp), hb⟩
  · go_enter Tryd.func92, Tryd.ntmps92
    go_wp2_with fail
    go_ret
    exact ⟨ret_bool (by rw [decide_eq_false (by omega)]; rfl), Below.refl _ _⟩
end Go.Proofs.YtoledbicmghmbaaDoor
