/- Frames: rising places, inverted bits, frames alike, the reference's transfer. Condition: lists of at most 1048576 numbers. -/
import Derived.Test.YtlgmdekhlcbhoaaFraV
namespace Go.Proofs.Ytlgmdekhlcbhoaa
open Go.RowKit

def risAt (xs : List Int) (n : Int) (j : Nat) : Bool := decide (0 ≤ xs.getD j 0) && (decide (xs.getD j 0 < n) && (decide (j = 0) || decide (xs.getD (j - 1) 0 < xs.getD j 0)))
def risTo (xs : List Int) (n : Int) (k : Nat) : Bool := (List.range k).all (risAt xs n)
def risB (xs : List Int) (n : Int) : Bool := risTo xs n xs.length
theorem risTo_succ (xs : List Int) (n : Int) (k : Nat) : risTo xs n (k + 1) = (risTo xs n k && risAt xs n k) := by unfold risTo; rw [List.range_succ, List.all_append]; simp
theorem risB_false {xs : List Int} {n : Int} {k : Nat} (hk : k < xs.length) (h : risAt xs n k = false) : risB xs n = false := by
  rw [Bool.eq_false_iff]; intro c
  unfold risB risTo at c
  rw [List.all_eq_true] at c
  rw [c k (List.mem_range.2 hk)] at h; cases h
theorem risB_in {xs : List Int} {n : Int} (h : risB xs n = true) : ∀ p ∈ xs, 0 ≤ p ∧ p < n := fun p hp => by
  obtain ⟨k, hk, rfl⟩ := List.getElem_of_mem hp
  unfold risB risTo at h
  rw [List.all_eq_true] at h
  have h2 := h k (List.mem_range.2 hk)
  unfold risAt at h2
  rw [Bool.and_eq_true, Bool.and_eq_true, getD_at hk] at h2
  exact ⟨by simpa using h2.1, by simpa using h2.2.1⟩

set_option maxHeartbeats 2000000 in
theorem isRising_any (A : Option Addr) (q c : Nat) (xs : List Int) (n : Int) (w : World) (hq : q ≤ 2097152) (hr : Rd w A q (ints xs)) :
    Calls Try.prog 111 #[.slice A q c, .int .i64 n] w fun e w' => e = .returned (.bool (risB xs n)) ∧ Below w.heap.size w w' := by
  have HL := Lib.hid hr.len
  go_enter Try.func111, Try.ntmps111
  go_wp2
  go_loopw [5, 6, 9] (fun _ _ i wr => ∃ k u : Nat, k ≤ q ∧ i = .int .i64 k ∧ risTo xs n k = true ∧ wr = w.drewN u) (fun _ _ i _ => q - (intOf i).toNat)
  case atStart => exact ⟨0, 0, Nat.zero_le _, rfl, rfl, rfl⟩
  case round =>
    obtain ⟨k, u, hk, rfl, hall, rfl⟩ := hrel
    have HA := Lib.hid hall
    clear hall
    by_cases hlt : k < q
    · have hltI : (k : Int) < (q : Int) := by omega
      obtain ⟨ad, rfl, hx⟩ := hr.int hlt
      have HS := Lib.hid (risTo_succ xs n k)
      have HF : Hid (risAt xs n k = false → risB xs n = false) := fun h => risB_false (by rw [HL.out]; exact hlt) h
      by_cases hk0 : k = 0
      · subst hk0
        rw [Addr.add_zero'] at hx
        have hq0 : 0 < q := hlt
        have HR : Hid (risAt xs n 0 = (decide (0 ≤ xs.getD 0 0) && decide (xs.getD 0 0 < n))) := by unfold Hid risAt; simp
        generalize xs.getD 0 0 = x at *
        by_cases h1 : x < 0
        · have HV := Lib.hid (HF.out (by rw [HR.out, decide_eq_false (by omega)]; rfl))
          have g1 : decide (x < 0) = true := by simpa using h1
          clear HF HR HS
          go_wp2
          go_ret
          exact ⟨by rw [HV.out]; rfl, (by first | exact Below.drewN (Below.refl _ _) _ | exact Below.drewN (Below.drewN (Below.refl _ _) _) _)⟩
        · have g1 : decide (x < 0) = false := by simpa using h1
          by_cases h2 : n ≤ x
          · have HV := Lib.hid (HF.out (by rw [HR.out, decide_eq_false (show ¬ x < n by omega)]; simp))
            have g2 : decide (n ≤ x) = true := by simpa using h2
            clear HF HR HS
            go_wp2
            go_ret
            exact ⟨by rw [HV.out]; rfl, (by first | exact Below.drewN (Below.refl _ _) _ | exact Below.drewN (Below.drewN (Below.refl _ _) _) _)⟩
          · have g2 : decide (n ≤ x) = false := by simpa using h2
            have g3 : decide ((0 : Int) < ((0 : Nat) : Int)) = false := by decide
            have HV : Hid (risTo xs n (0 + 1) = true) := by unfold Hid; rw [HS.out, HA.out, HR.out, decide_eq_true (show 0 ≤ x by omega), decide_eq_true (show x < n by omega)]; rfl
            clear HF HR HS
            go_wp2
            go_roundw
            case rel => exact ⟨0 + 1, _, by omega, by go_num, HV.out, rfl⟩
            case measure => simp [intOf]; omega
      · obtain ⟨_, ⟨⟩, hz⟩ := hr.int (show k - 1 < q by omega)
        have HR : Hid (risAt xs n k = (decide (0 ≤ xs.getD k 0) && (decide (xs.getD k 0 < n) && decide (xs.getD (k - 1) 0 < xs.getD k 0)))) := by unfold Hid risAt; simp [hk0]
        generalize xs.getD k 0 = x at *
        generalize xs.getD (k - 1) 0 = z at *
        have i0 : (0 : Int) < (k : Int) := by omega
        have g3 : decide ((0 : Int) < (k : Int)) = true := decide_eq_true i0
        have g5 : decide (0 < k) = true := decide_eq_true (by omega)
        have i1 : (0 : Int) ≤ (k : Int) - 1 := by omega
        have i2 : (k : Int) - 1 < (q : Int) := by omega
        have i3 : ((k : Int) - 1).toNat = k - 1 := by omega
        have i4 : IntKind.i64.wrap ((k : Int) - 1) = (k : Int) - 1 := IntWalk.i64_in _ (by omega)
        by_cases h1 : x < 0
        · have HV := Lib.hid (HF.out (by rw [HR.out, decide_eq_false (by omega)]; rfl))
          have g1 : decide (x < 0) = true := by simpa using h1
          clear HF HR HS
          go_wp2
          go_ret
          exact ⟨by rw [HV.out]; rfl, (by first | exact Below.drewN (Below.refl _ _) _ | exact Below.drewN (Below.drewN (Below.refl _ _) _) _)⟩
        · have g1 : decide (x < 0) = false := by simpa using h1
          by_cases h2 : n ≤ x
          · have HV := Lib.hid (HF.out (by rw [HR.out, decide_eq_false (show ¬ x < n by omega)]; simp))
            have g2 : decide (n ≤ x) = true := by simpa using h2
            clear HF HR HS
            go_wp2
            go_ret
            exact ⟨by rw [HV.out]; rfl, (by first | exact Below.drewN (Below.refl _ _) _ | exact Below.drewN (Below.drewN (Below.refl _ _) _) _)⟩
          · have g2 : decide (n ≤ x) = false := by simpa using h2
            by_cases h3 : x ≤ z
            · have HV := Lib.hid (HF.out (by rw [HR.out, decide_eq_false (show ¬ z < x by omega)]; simp))
              have g4 : decide (x ≤ z) = true := by simpa using h3
              clear HF HR HS
              go_wp2
              go_ret
              exact ⟨by rw [HV.out]; rfl, (by first | exact Below.drewN (Below.refl _ _) _ | exact Below.drewN (Below.drewN (Below.refl _ _) _) _)⟩
            · have g4 : decide (x ≤ z) = false := by simpa using h3
              have HV : Hid (risTo xs n (k + 1) = true) := by unfold Hid; rw [HS.out, HA.out, HR.out, decide_eq_true (show 0 ≤ x by omega), decide_eq_true (show x < n by omega), decide_eq_true (show z < x by omega)]; rfl
              clear HF HR HS
              go_wp2
              go_roundw
              case rel => exact ⟨k + 1, _, by omega, by go_num, HV.out, rfl⟩
              case measure => simp [intOf]; omega
    · obtain rfl : k = q := by omega
      have HE : Hid (risB xs n = true) := by unfold Hid risB; rw [HL.out]; exact HA.out
      go_wp2
      go_ret
      exact ⟨by rw [HE.out]; rfl, (by first | exact Below.drewN (Below.refl _ _) _ | exact Below.drewN (Below.drewN (Below.refl _ _) _) _)⟩

set_option maxHeartbeats 2000000 in
theorem l01Rises_any (A : Option Addr) (q c : Nat) (xs : List Int) (n : Int) (w : World) (hq : q ≤ 2097152) (hr : Rd w A q (ints xs)) :
    Calls Try.prog 110 #[.slice A q c, .int .i64 n] w fun e w' => e = .returned (.bool (risB xs n)) ∧ Below w.heap.size w w' := by
  have HL := Lib.hid hr.len
  go_enter Try.func110, Try.ntmps110
  go_wp2
  go_loopw [5] (fun i wr => ∃ k u : Nat, k ≤ q ∧ i = .int .i64 k ∧ risTo xs n k = true ∧ wr = w.drewN u) (fun i _ => q - (intOf i).toNat)
  case atStart => exact ⟨0, 0, Nat.zero_le _, rfl, rfl, rfl⟩
  case round =>
    obtain ⟨k, u, hk, rfl, hall, rfl⟩ := hrel
    have HA := Lib.hid hall
    clear hall
    by_cases hlt : k < q
    · have hltI : (k : Int) < (q : Int) := by omega
      obtain ⟨ad, rfl, hx⟩ := hr.int hlt
      have HS := Lib.hid (risTo_succ xs n k)
      have HF : Hid (risAt xs n k = false → risB xs n = false) := fun h => risB_false (by rw [HL.out]; exact hlt) h
      by_cases hk0 : k = 0
      · subst hk0
        rw [Addr.add_zero'] at hx
        have hq0 : 0 < q := hlt
        have HR : Hid (risAt xs n 0 = (decide (0 ≤ xs.getD 0 0) && decide (xs.getD 0 0 < n))) := by unfold Hid risAt; simp
        generalize xs.getD 0 0 = x at *
        by_cases h1 : x < 0
        · have HV := Lib.hid (HF.out (by rw [HR.out, decide_eq_false (by omega)]; rfl))
          have g1 : decide (x < 0) = true := by simpa using h1
          clear HF HR HS
          go_wp2_with fail
          go_quiet (fail)
          go_wp2
          go_ret
          exact ⟨by rw [HV.out]; rfl, (by first | exact Below.drewN (Below.refl _ _) _ | exact Below.drewN (Below.drewN (Below.refl _ _) _) _)⟩
        · have g1 : decide (x < 0) = false := by simpa using h1
          by_cases h2 : n ≤ x
          · have HV := Lib.hid (HF.out (by rw [HR.out, decide_eq_false (show ¬ x < n by omega)]; simp))
            have g2 : decide (n ≤ x) = true := by simpa using h2
            clear HF HR HS
            go_wp2_with fail
            go_quiet (fail)
            go_wp2
            go_ret
            exact ⟨by rw [HV.out]; rfl, (by first | exact Below.drewN (Below.refl _ _) _ | exact Below.drewN (Below.drewN (Below.refl _ _) _) _)⟩
          · have g2 : decide (n ≤ x) = false := by simpa using h2
            have g3 : decide ((0 : Int) < ((0 : Nat) : Int)) = false := by decide
            have HV : Hid (risTo xs n (0 + 1) = true) := by unfold Hid; rw [HS.out, HA.out, HR.out, decide_eq_true (show 0 ≤ x by omega), decide_eq_true (show x < n by omega)]; rfl
            clear HF HR HS
            go_wp2_with fail
            go_quiet (fail)
            go_wp2
            go_roundw
            case rel => exact ⟨0 + 1, _, by omega, by go_num, HV.out, rfl⟩
            case measure => simp [intOf]; omega
      · obtain ⟨_, ⟨⟩, hz⟩ := hr.int (show k - 1 < q by omega)
        have HR : Hid (risAt xs n k = (decide (0 ≤ xs.getD k 0) && (decide (xs.getD k 0 < n) && decide (xs.getD (k - 1) 0 < xs.getD k 0)))) := by unfold Hid risAt; simp [hk0]
        generalize xs.getD k 0 = x at *
        generalize xs.getD (k - 1) 0 = z at *
        have i0 : (0 : Int) < (k : Int) := by omega
        have g3 : decide ((0 : Int) < (k : Int)) = true := decide_eq_true i0
        have g5 : decide (0 < k) = true := decide_eq_true (by omega)
        have i1 : (0 : Int) ≤ (k : Int) - 1 := by omega
        have i2 : (k : Int) - 1 < (q : Int) := by omega
        have i3 : ((k : Int) - 1).toNat = k - 1 := by omega
        have i4 : IntKind.i64.wrap ((k : Int) - 1) = (k : Int) - 1 := IntWalk.i64_in _ (by omega)
        by_cases h1 : x < 0
        · have HV := Lib.hid (HF.out (by rw [HR.out, decide_eq_false (by omega)]; rfl))
          have g1 : decide (x < 0) = true := by simpa using h1
          clear HF HR HS
          go_wp2_with fail
          go_quiet (fail)
          go_wp2
          go_ret
          exact ⟨by rw [HV.out]; rfl, (by first | exact Below.drewN (Below.refl _ _) _ | exact Below.drewN (Below.drewN (Below.refl _ _) _) _)⟩
        · have g1 : decide (x < 0) = false := by simpa using h1
          by_cases h2 : n ≤ x
          · have HV := Lib.hid (HF.out (by rw [HR.out, decide_eq_false (show ¬ x < n by omega)]; simp))
            have g2 : decide (n ≤ x) = true := by simpa using h2
            clear HF HR HS
            go_wp2_with fail
            go_quiet (fail)
            go_wp2
            go_ret
            exact ⟨by rw [HV.out]; rfl, (by first | exact Below.drewN (Below.refl _ _) _ | exact Below.drewN (Below.drewN (Below.refl _ _) _) _)⟩
          · have g2 : decide (n ≤ x) = false := by simpa using h2
            by_cases h3 : x ≤ z
            · have HV := Lib.hid (HF.out (by rw [HR.out, decide_eq_false (show ¬ z < x by omega)]; simp))
              have g4 : decide (x ≤ z) = true := by simpa using h3
              clear HF HR HS
              go_wp2_with fail
              go_quiet (fail)
              go_wp2
              go_ret
              exact ⟨by rw [HV.out]; rfl, (by first | exact Below.drewN (Below.refl _ _) _ | exact Below.drewN (Below.drewN (Below.refl _ _) _) _)⟩
            · have g4 : decide (x ≤ z) = false := by simpa using h3
              have HV : Hid (risTo xs n (k + 1) = true) := by unfold Hid; rw [HS.out, HA.out, HR.out, decide_eq_true (show 0 ≤ x by omega), decide_eq_true (show x < n by omega), decide_eq_true (show z < x by omega)]; rfl
              clear HF HR HS
              go_wp2_with fail
              go_quiet (fail)
              go_wp2
              go_roundw
              case rel => exact ⟨k + 1, _, by omega, by go_num, HV.out, rfl⟩
              case measure => simp [intOf]; omega
    · obtain rfl : k = q := by omega
      have HE : Hid (risB xs n = true) := by unfold Hid risB; rw [HL.out]; exact HA.out
      go_wp2
      go_ret
      exact ⟨by rw [HE.out]; rfl, (by first | exact Below.drewN (Below.refl _ _) _ | exact Below.drewN (Below.drewN (Below.refl _ _) _) _)⟩

set_option maxHeartbeats 2000000 in
theorem damaged_any (A P : Option Addr) (n c q d : Nat) (xs ps : List Int) (w : World) (hn : n ≤ 1048576) (hq : q ≤ 2097152) (hr : Rd w A n (ints xs)) (hp : Rd w P q (ints ps)) (hb : allIn xs 0 1 = true)
    (hin : ∀ p ∈ ps, 0 ≤ p ∧ p < (n : Int)) :
    Calls Try.prog 112 #[.slice A n c, .slice P q d] w (RetI (damage xs ps) w) := by
  have HL := Lib.hid hr.len
  have HQ := Lib.hid hp.len
  have HB := Lib.hid hb
  have HI := Lib.hid hin
  clear hb hin
  go_enter Try.func112, Try.ntmps112
  go_wp2_with (first | (go_at_call 120; refine (clone_any _ _ _ xs _ (by omega) hr).mono ?_; rintro e w1 ⟨v, rfl, hown, hb1⟩; obtain ⟨B, c1, rfl, hrd, hwr, _, _⟩ := own_rd hown))
  go_loopw [7, 12] (fun _ i wr => ∃ k : Nat, k ≤ q ∧ i = .int .i64 k ∧ Rd wr B n (ints (damage xs (ps.take k))) ∧ Wr wr w.heap.size B n ∧ Below w.heap.size w wr)
    (fun _ i _ => q - (intOf i).toNat)
  case atStart => exact ⟨0, Nat.zero_le _, rfl, hrd, hwr, hb1⟩
  case round =>
    clear hown hrd hwr hb1
    obtain ⟨k, hk, rfl, hrd, hwr, hbel⟩ := hrel
    by_cases hlt : k < q
    · have hkl : k < ps.length := by rw [HQ.out]; exact hlt
      obtain ⟨pd, rfl, hx⟩ := (hp.below hbel).int hlt
      have hpin := HI.out (ps.getD k 0) (by rw [getD_at hkl]; exact List.getElem_mem hkl)
      have HM := Lib.hid (damage_take xs ps hkl)
      generalize ps.getD k 0 = p at *
      obtain ⟨j, rfl⟩ := Int.eq_ofNat_of_zero_le hpin.1
      have hj : j < n := by omega
      rw [Int.toNat_natCast] at HM
      obtain ⟨ad, rfl, hy⟩ := hrd.int hj
      have hbd := getD_bit (damage_bits HB.out (ps.take k)) j
      obtain ⟨_, ⟨⟩, hbase, hfr⟩ := hwr (by omega)
      have hf := hfr j hj
      have HF := Lib.hid hfr
      clear hfr hpin
      generalize (damage xs (ps.take k)).getD j 0 = y at *
      go_wp2
      go_roundw
      case rel => exact ⟨k + 1, by omega, by go_num, by rw [HM.out]; exact hrd.seti hj rfl, hwr.set_ _, hbel.setCell (by rw [block_of_add]; exact hbase) _⟩
      case measure => simp [intOf]; omega
    · obtain rfl : k = q := by omega
      go_wp2
      go_ret
      exact ⟨B, n, c1, rfl, by rw [List.take_of_length_le (by rw [HQ.out]; exact Nat.le_refl _)] at hrd; exact hrd, hwr, hn, hbel⟩

def frEq (l m : FrameC) : Bool := l.kind == m.kind && (l.number == m.number && decide (l.payload = m.payload))
theorem frEq_iff (l m : FrameC) : frEq l m = true ↔ l = m := by
  obtain ⟨a, b, p⟩ := l
  obtain ⟨a', b', p'⟩ := m
  simp [frEq]
theorem frEq_1 {x0 x1 y0 y1 : Int} {xs ys : List Int} (h : (x0 == y0) = false) : frEq ⟨x0, x1, xs⟩ ⟨y0, y1, ys⟩ = false := by simp only [frEq, h]; rfl
theorem frEq_2 {x0 x1 y0 y1 : Int} {xs ys : List Int} (h : (x1 == y1) = false) : frEq ⟨x0, x1, xs⟩ ⟨y0, y1, ys⟩ = false := by simp only [frEq, h]; simp
theorem frEq_3 {x0 x1 y0 y1 : Int} {xs ys : List Int} (h0 : (x0 == y0) = true) (h : (x1 == y1) = true) : frEq ⟨x0, x1, xs⟩ ⟨y0, y1, ys⟩ = decide (xs = ys) := by simp only [frEq, h0, h]; simp
set_option maxHeartbeats 2000000 in
theorem isSame_any (h k : FrameH) (l m : FrameC) (w : World) (ok1 : FrameOk h) (ok2 : FrameOk k) (hr : RdAll w (FrameS h l)) (hq : RdAll w (FrameS k m)) :
    Calls Try.prog 109 #[FrameV h l, FrameV k m] w fun e w' => e = .returned (.bool (frEq l m)) ∧ Below w.heap.size w w' := by
  have r1 := hr.head
  have r2 := hq.head
  obtain ⟨⟨A, n, c⟩⟩ := h
  obtain ⟨⟨B, q, d⟩⟩ := k
  obtain ⟨x0, x1, xs⟩ := l
  obtain ⟨y0, y1, ys⟩ := m
  simp only [FrameV, FrameOk] at *
  clear hr hq
  rcases Bool.eq_false_or_eq_true (x0 == y0) with g1 | g1
  · rcases Bool.eq_false_or_eq_true (x1 == y1) with g2 | g2
    · have HV := Lib.hid (frEq_3 (xs := xs) (ys := ys) g1 g2)
      go_enter Try.func109, Try.ntmps109
      go_wp2_with (go_at_call 159; refine (equalL_any A n c xs B q d ys _ (by omega) (by omega) (r1.below (by (repeat (first | (with_reducible assumption) | (with_reducible exact Below.refl _ _) | (with_reducible refine Below.drew ?_) | (with_reducible refine Below.drewN ?_ _) | (with_reducible refine Below.setCell ?_ ?_ _) | (with_reducible refine Below.alloc ?_ ?_ _) | assumption)); all_goals (first | omega | (simp; done) | (simp; omega)))) (r2.below (by (repeat (first | (with_reducible assumption) | (with_reducible exact Below.refl _ _) | (with_reducible refine Below.drew ?_) | (with_reducible refine Below.drewN ?_ _) | (with_reducible refine Below.setCell ?_ ?_ _) | (with_reducible refine Below.alloc ?_ ?_ _) | assumption)); all_goals (first | omega | (simp; done) | (simp; omega))))).mono ?_; rintro e w' ⟨rfl, bb⟩; have b2 : Below w.heap.size w w' := (show Below w.heap.size w _ from (by (repeat (first | (with_reducible assumption) | (with_reducible exact Below.refl _ _) | (with_reducible refine Below.drew ?_) | (with_reducible refine Below.drewN ?_ _) | (with_reducible refine Below.setCell ?_ ?_ _) | (with_reducible refine Below.alloc ?_ ?_ _) | assumption)); all_goals (first | omega | (simp; done) | (simp; omega)))).trans (bb.mono (by first | omega | (simp; done) | (simp; omega))))
      go_ret
      exact ⟨ret_bool (by rw [HV.out]), b2⟩
    · have HV := Lib.hid (frEq_2 (x0 := x0) (y0 := y0) (xs := xs) (ys := ys) g2)
      go_enter Try.func109, Try.ntmps109
      go_wp2
      go_ret
      exact ⟨ret_bool (by rw [HV.out]), (by (repeat (first | (with_reducible assumption) | (with_reducible exact Below.refl _ _) | (with_reducible refine Below.drew ?_) | (with_reducible refine Below.drewN ?_ _) | (with_reducible refine Below.setCell ?_ ?_ _) | (with_reducible refine Below.alloc ?_ ?_ _) | assumption)); all_goals (first | omega | (simp; done) | (simp; omega)))⟩
  · have HV := Lib.hid (frEq_1 (x1 := x1) (y1 := y1) (xs := xs) (ys := ys) g1)
    go_enter Try.func109, Try.ntmps109
    go_wp2
    go_ret
    exact ⟨ret_bool (by rw [HV.out]), (by (repeat (first | (with_reducible assumption) | (with_reducible exact Below.refl _ _) | (with_reducible refine Below.drew ?_) | (with_reducible refine Below.drewN ?_ _) | (with_reducible refine Below.setCell ?_ ?_ _) | (with_reducible refine Below.alloc ?_ ?_ _) | assumption)); all_goals (first | omega | (simp; done) | (simp; omega)))⟩
end Go.Proofs.Ytlgmdekhlcbhoaa
