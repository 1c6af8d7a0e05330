/- The errors of the states at a step: spec.StateErrors and impl.StateErrors. No condition but a list of at most 1048576 numbers. -/
import Derived.Test.YtlgmdekhlcbhoaaVitB
import Derived.RegionTactic
import Derived.IntWalk
namespace Go.Proofs.Ytlgmdekhlcbhoaa
open Go.RowKit

/-- One state and bit more. -/
def upd (xs : List Int) (t : Nat) (now a : List Int) (s b : Nat) : List Int :=
  if now.getD s 0 < 0 then a else
    if a.getD (nxt s b).toNat 0 < 0 ∨ now.getD s 0 + stepW xs t s b < a.getD (nxt s b).toNat 0 then a.set (nxt s b).toNat (now.getD s 0 + stepW xs t s b) else a
/-- j bits of state s. -/
def updB (xs : List Int) (t : Nat) (now a : List Int) (s : Nat) : Nat → List Int
  | 0 => a
  | b + 1 => upd xs t now (updB xs t now a s b) s b
/-- s states. -/
def updS (xs : List Int) (t : Nat) (now : List Int) : Nat → List Int
  | 0 => [-1, -1, -1, -1]
  | s + 1 => updB xs t now (updS xs t now s) s 2
def stE (xs : List Int) : Nat → List Int
  | 0 => [0, -1, -1, -1]
  | t + 1 => updS xs t (stE xs t) 4
/-- Four numbers from -1 to B. -/
def Four (a : List Int) (B : Int) : Prop := a.length = 4 ∧ ∀ i, i < 4 → -1 ≤ a.getD i 0 ∧ a.getD i 0 ≤ B
theorem Four.mono {a : List Int} {B C : Int} (h : Four a B) (hc : B ≤ C) : Four a C := ⟨h.1, fun i hi => by have := h.2 i hi; omega⟩
theorem Four.set_ {a : List Int} {B : Int} (h : Four a B) {k : Nat} {x : Int} (h1 : -1 ≤ x) (h2 : x ≤ B) : Four (a.set k x) B := by
  refine ⟨by rw [List.length_set]; exact h.1, fun i hi => ?_⟩
  by_cases e : i = k
  · subst e
    have hl : i < a.length := by rw [h.1]; exact hi
    simp [hl]
    omega
  · have : (a.set k x).getD i 0 = a.getD i 0 := by
      simp only [List.getD_eq_getElem?_getD]
      rw [List.getElem?_set_ne (fun c => e c.symm)]
    rw [this]; exact h.2 i hi
theorem upd_four {xs : List Int} {t : Nat} {now a : List Int} {s b : Nat} {B : Int} (hn : Four now B) (ha : Four a (B + 2)) (hs : s < 4) (hB : 0 ≤ B) : Four (upd xs t now a s b) (B + 2) := by
  have h1 := hn.2 s hs
  have h2 := stepW_bd xs t s b
  unfold upd
  split
  · exact ha
  · split
    · exact ha.set_ (by omega) (by omega)
    · exact ha
theorem updB_four {xs : List Int} {t : Nat} {now a : List Int} {s : Nat} {B : Int} (hn : Four now B) (ha : Four a (B + 2)) (hs : s < 4) (hB : 0 ≤ B) : ∀ j, Four (updB xs t now a s j) (B + 2)
  | 0 => ha
  | j + 1 => upd_four hn (updB_four hn ha hs hB j) hs hB
theorem updS_four {xs : List Int} {t : Nat} {now : List Int} {B : Int} (hn : Four now B) (hB : 0 ≤ B) : ∀ s, s ≤ 4 → Four (updS xs t now s) (B + 2)
  | 0, _ => ⟨rfl, fun i hi => by
      match i, hi with
      | 0, _ => exact ⟨by show (-1 : Int) ≤ -1; decide, by show (-1 : Int) ≤ B + 2; omega⟩
      | 1, _ => exact ⟨by show (-1 : Int) ≤ -1; decide, by show (-1 : Int) ≤ B + 2; omega⟩
      | 2, _ => exact ⟨by show (-1 : Int) ≤ -1; decide, by show (-1 : Int) ≤ B + 2; omega⟩
      | 3, _ => exact ⟨by show (-1 : Int) ≤ -1; decide, by show (-1 : Int) ≤ B + 2; omega⟩⟩
  | s + 1, h => updB_four hn (updS_four hn hB s (by omega)) (by omega) hB 2
theorem stE_four (xs : List Int) : ∀ t, Four (stE xs t) (2 * (t : Int))
  | 0 => ⟨rfl, fun i hi => by
      match i, hi with
      | 0, _ => exact ⟨by show (-1 : Int) ≤ 0; decide, by show (0 : Int) ≤ 2 * ((0 : Nat) : Int); decide⟩
      | 1, _ => exact ⟨by show (-1 : Int) ≤ -1; decide, by show (-1 : Int) ≤ 2 * ((0 : Nat) : Int); decide⟩
      | 2, _ => exact ⟨by show (-1 : Int) ≤ -1; decide, by show (-1 : Int) ≤ 2 * ((0 : Nat) : Int); decide⟩
      | 3, _ => exact ⟨by show (-1 : Int) ≤ -1; decide, by show (-1 : Int) ≤ 2 * ((0 : Nat) : Int); decide⟩⟩
  | t + 1 => (updS_four (stE_four xs t) (by omega) 4 (Nat.le_refl _)).mono (by omega)

def stOk (xs : List Int) (k : Int) : Bool := inR k 0 ((xs.length : Int) / 2 - 2)
def stR (xs : List Int) (k : Int) : List Int := if recvOk xs = true ∧ stOk xs k = true then stE xs k.toNat else []
def stC (xs : List Int) (k : Int) : Int := if recvOk xs = true then (if stOk xs k = true then 0 else 2) else 1

theorem rd_four (w : World) (a b c d : Int) (e : TypeId) (g : Nat) (hg : w.heap.size = g) : Rd (w.alloc (.cells #[.int .i64 a, .int .i64 b, .int .i64 c, .int .i64 d] e)) (some ⟨g, 0, none⟩) 4 (ints [a, b, c, d]) ∧ Wr (w.alloc (.cells #[.int .i64 a, .int .i64 b, .int .i64 c, .int .i64 d] e)) g (some ⟨g, 0, none⟩) 4 := by
  subst hg
  exact ⟨(Blk.new w e _).rd rfl (fun i hi => by
    match i, hi with
    | 0, _ => rfl
    | 1, _ => rfl
    | 2, _ => rfl
    | 3, _ => rfl), (Blk.new w e _).wr (Nat.le_refl _) 4⟩

set_option maxHeartbeats 4000000 in
theorem specStateErrors_yes (A : Option Addr) (m c : Nat) (xs : List Int) (K : Nat) (w : World) (hm : 2 ≤ m) (hm2 : m ≤ 302) (hr : Rd w A (2 * m) (ints xs)) (hrec : recvOk xs = true) (hK : K + 2 ≤ m) :
    Calls Try.prog 83 #[.slice A (2 * m) c, .int .i64 K] w (RetIC (stE xs K) 0 w) := by
  have h2 : (2 * (m : Int)) / 2 = (m : Int) := by omega
  have hin : inR (K : Int) 0 ((m : Int) - 2) = true := inR_mk (by omega) (by omega)
  go_enter Try.func83, Try.ntmps83
  go_wp2_with (first | (go_at_call 128; refine (l28Received_any _ _ _ xs _ (by omega) hr).mono ?_; rintro e w' ⟨rfl, rfl⟩) | (go_at_call 138; refine (l28Size_any _ _ _ _ (by omega)).mono ?_; rintro e w' ⟨rfl, rfl⟩) | (go_at_call 96; refine (l01In_any _ _ _ _).mono ?_; rintro e w' ⟨rfl, rfl⟩))
  clear hin hrec
  go_loopw [6, 7] (fun v i wr => ∃ t : Nat, ∃ B d, t ≤ K ∧ i = .int .i64 t ∧ v = .slice B 4 d ∧ Rd wr B 4 (ints (stE xs t)) ∧ Wr wr w.heap.size B 4 ∧ Below w.heap.size w wr) (fun _ i _ => K - (intOf i).toNat)
  case atStart =>
    have h := rd_four w 0 (-1) (-1) (-1) 2 w.heap.size rfl
    exact ⟨0, _, _, Nat.zero_le _, rfl, rfl, h.1, h.2, (Below.refl _ _).alloc (Nat.le_refl _) _⟩
  case round =>
    obtain ⟨t, B, d, ht, rfl, rfl, hrd, hwr, hbel⟩ := hrel
    by_cases hlt : t < K
    · have h4 := rd_four wr (-1) (-1) (-1) (-1) 2 wr.heap.size rfl
      go_wp2_with fail
      obtain ⟨wo, rfl⟩ : ∃ wo : World, wo = wr := ⟨_, rfl⟩
      go_loopw [9] (fun i wr => ∃ s : Nat, s ≤ 4 ∧ i = .int .i64 s ∧ Rd wr (some ⟨wo.heap.size, 0, none⟩) 4 (ints (updS xs t (stE xs t) s)) ∧ Wr wr wo.heap.size (some ⟨wo.heap.size, 0, none⟩) 4 ∧ Below wo.heap.size wo wr) (fun i _ => 4 - (intOf i).toNat)
      case atStart => exact ⟨0, by omega, rfl, h4.1, h4.2, (Below.refl _ _).alloc (Nat.le_refl _) _⟩
      case round =>
        obtain ⟨s, hs, rfl, hr1, hw1, hb1⟩ := hrel
        by_cases hlt2 : s < 4
        · have hs4 : decide ((s : Int) < 4) = true := by simp; omega
          go_wp2_with fail
          obtain ⟨wi, rfl⟩ : ∃ wi : World, wi = wr := ⟨_, rfl⟩
          go_loopw [10] (fun i wr => ∃ b : Nat, b ≤ 2 ∧ i = .int .i64 b ∧ Rd wr (some ⟨wo.heap.size, 0, none⟩) 4 (ints (updB xs t (stE xs t) (updS xs t (stE xs t) s) s b)) ∧ Wr wr wo.heap.size (some ⟨wo.heap.size, 0, none⟩) 4 ∧ Below wo.heap.size wo wr) (fun i _ => 2 - (intOf i).toNat)
          case atStart => exact ⟨0, by omega, rfl, hr1, hw1, hb1⟩
          case round =>
            obtain ⟨b, hb, rfl, hr2, hw2, hb2⟩ := hrel
            have hv4 := (stE_four xs t).2 s hlt2
            obtain ⟨bd, rfl, hx⟩ := (hrd.below hb2).int hlt2
            by_cases hb2c : b < 2
            · have hbt : decide ((b : Int) < 2) = true := by simp; omega
              by_cases hv0 : (stE xs t).getD s 0 < 0
              · have HU : Hid (updB xs t (stE xs t) (updS xs t (stE xs t) s) s b = updS xs t (stE xs t) (s + 1)) := by
                  have key : ∀ j, updB xs t (stE xs t) (updS xs t (stE xs t) s) s j = updS xs t (stE xs t) s := by
                    intro j
                    induction j with
                    | zero => rfl
                    | succ j ih => show upd xs t (stE xs t) (updB xs t (stE xs t) (updS xs t (stE xs t) s) s j) s j = _; unfold upd; rw [if_pos hv0]; exact ih
                  unfold Hid
                  rw [key b]
                  exact (key 2).symm
                generalize (stE xs t).getD s 0 = v at *
                go_wp2
                go_roundw
                case rel => exact ⟨s + 1, by omega, by go_num, by rw [← HU.out]; exact hr2, hw2, hb2⟩
                case measure => simp [intOf]; omega
              · have hq := nxt_bd (s := (s : Int)) (b := (b : Int)) (by omega) (by omega) (by omega) (by omega)
                obtain ⟨q, hqq⟩ := Int.eq_ofNat_of_zero_le hq.1
                have hq4 : q < 4 := by omega
                have hM := stepW_bd xs t s b
                have hrr := hr.below (bnext hbel hb2)
                obtain ⟨_, ⟨⟩, hy⟩ := hr2.int hq4
                rw [add_lit] at hy
                have hyb := (updB_four (xs := xs) (t := t) (s := s) (stE_four xs t) (updS_four (xs := xs) (t := t) (stE_four xs t) (by omega) s (by omega)) hlt2 (by omega) b).2 q hq4
                have hf := (hw2 (by omega))
                obtain ⟨_, ⟨⟩, _, hfr⟩ := hf
                have hf := hfr q hq4
                rw [add_lit] at hf
                clear hfr
                have HS : Hid (updB xs t (stE xs t) (updS xs t (stE xs t) s) s (b + 1) = if (updB xs t (stE xs t) (updS xs t (stE xs t) s) s b).getD q 0 < 0 ∨ (stE xs t).getD s 0 + stepW xs t s b < (updB xs t (stE xs t) (updS xs t (stE xs t) s) s b).getD q 0 then (updB xs t (stE xs t) (updS xs t (stE xs t) s) s b).set q ((stE xs t).getD s 0 + stepW xs t s b) else updB xs t (stE xs t) (updS xs t (stE xs t) s) s b) := by
                  unfold Hid
                  show upd xs t (stE xs t) (updB xs t (stE xs t) (updS xs t (stE xs t) s) s b) s b = _
                  unfold upd
                  rw [if_neg hv0, hqq, Int.toNat_natCast]
                generalize (stE xs t).getD s 0 = v at *
                generalize (updB xs t (stE xs t) (updS xs t (stE xs t) s) s b).getD q 0 = y at *
                generalize updB xs t (stE xs t) (updS xs t (stE xs t) s) s b = L at *
                have HR := Lib.hid hrr
                have q5 : (q : Int) < 4 := by omega
                have q6 : (s : Int) < 4 := by omega
                by_cases hy0 : y < 0
                · have hy0' : decide (y < 0) = true := by simpa using hy0
                  rw [if_pos (.inl hy0)] at HS
                  go_wp2_with (go_at_call 143; refine (l28Step_any A (2 * m) c xs t s b _ (by omega) hrr (by omega) (by omega) (by omega) (by omega) (by omega)).mono ?_; rintro e w' ⟨rfl, r0, rfl⟩; rw [hqq])
                  go_quiet (fail)
                  go_wp2
                  go_roundw
                  case rel =>
                    have h1 := (hr2.drewN (r0 + nq)).seti (x := v + stepW xs t s b) hq4 rfl
                    rw [add_lit] at h1
                    exact ⟨b + 1, by omega, by go_num, by rw [HS.out]; exact h1, hw2.set_ _, (Below.drewN hb2 _).setCell (by simp) _⟩
                  case measure => simp [intOf]; omega
                · have hy0' : decide (y < 0) = false := by simpa using hy0
                  by_cases hlt3 : v + stepW xs t s b < y
                  · rw [if_pos (.inr hlt3)] at HS
                    go_wp2_with (go_at_call 143; refine (l28Step_any A (2 * m) c xs t s b _ (by omega) hrr (by omega) (by omega) (by omega) (by omega) (by omega)).mono ?_; rintro e w' ⟨rfl, r0, rfl⟩; rw [hqq])
                    have m1 : IntKind.i64.wrap (v + stepW xs t s b) = v + stepW xs t s b := IntWalk.i64_in _ (by omega)
                    go_quiet (fail)
                    clear m1
                    go_wp2
                    go_roundw
                    case rel =>
                      have h1 := (hr2.drewN (r0 + nq)).seti (x := v + stepW xs t s b) hq4 rfl
                      rw [add_lit] at h1
                      exact ⟨b + 1, by omega, by go_num, by rw [HS.out]; exact h1, hw2.set_ _, (Below.drewN hb2 _).setCell (by simp) _⟩
                    case measure => simp [intOf]; omega
                  · rw [if_neg (by omega)] at HS
                    go_wp2_with (go_at_call 143; refine (l28Step_any A (2 * m) c xs t s b _ (by omega) hrr (by omega) (by omega) (by omega) (by omega) (by omega)).mono ?_; rintro e w' ⟨rfl, r0, rfl⟩; rw [hqq])
                    have m1 : IntKind.i64.wrap (v + stepW xs t s b) = v + stepW xs t s b := IntWalk.i64_in _ (by omega)
                    go_quiet (fail)
                    clear m1
                    go_wp2
                    go_roundw
                    case rel => exact ⟨b + 1, by omega, by go_num, by rw [HS.out]; exact hr2, hw2, Below.drewN hb2 _⟩
                    case measure => simp [intOf]; omega
            · obtain rfl : b = 2 := by omega
              go_wp2
              go_roundw
              case rel => exact ⟨s + 1, by omega, by go_num, hr2, hw2, hb2⟩
              case measure => simp [intOf]; omega
        · obtain rfl : s = 4 := by omega
          go_wp2
          go_roundw
          case rel => exact ⟨t + 1, _, _, by omega, by go_num, rfl, hr1, hw1.mono hbel.size, bstep hbel hb1 (Nat.le_refl _)⟩
          case measure => simp [intOf]; omega
    · obtain rfl : t = K := by omega
      go_wp2
      go_ret2
      exact ⟨B, 4, d, rfl, hrd, hwr, by omega, hbel⟩
set_option maxHeartbeats 4000000 in
theorem implStateErrors_yes (A : Option Addr) (m c : Nat) (xs : List Int) (K : Nat) (w : World) (hm : 2 ≤ m) (hm2 : m ≤ 302) (hc : 2 * m ≤ c) (hr : Rd w A (2 * m) (ints xs)) (hrec : recvOk xs = true) (hK : K + 2 ≤ m) :
    Calls Try.prog 82 #[.slice A (2 * m) c, .int .i64 K] w (RetIC (stE xs K) 0 w) := by
  have h2 : (2 * (m : Int)) / 2 = (m : Int) := by omega
  have hin : inR (K : Int) 0 ((m : Int) - 2) = true := inR_mk (by omega) (by omega)
  go_enter Try.func82, Try.ntmps82
  go_wp2_with (first | (go_at_call 126; refine (isReceived_any _ _ _ xs _ (by omega) hr).mono ?_; rintro e w' ⟨rfl, rfl⟩) | (go_at_call 139; refine (messageSize_any _ _ _ _ (by omega)).mono ?_; rintro e w' ⟨rfl, rfl⟩) | (go_at_call 99; refine (within_any _ _ _ _).mono ?_; rintro e w' ⟨rfl, rfl⟩))
  clear hin hrec
  go_loopw [6, 26] (fun v i wr => ∃ t : Nat, ∃ B d, t ≤ K ∧ i = .int .i64 t ∧ v = .slice B 4 d ∧ Rd wr B 4 (ints (stE xs t)) ∧ Wr wr w.heap.size B 4 ∧ Below w.heap.size w wr) (fun _ i _ => K - (intOf i).toNat)
  case atStart =>
    have h := rd_four w 0 (-1) (-1) (-1) 2 w.heap.size rfl
    exact ⟨0, _, _, Nat.zero_le _, rfl, rfl, h.1, h.2, (Below.refl _ _).alloc (Nat.le_refl _) _⟩
  case round =>
    obtain ⟨t, B, d, ht, rfl, rfl, hrd, hwr, hbel⟩ := hrel
    by_cases hlt : t < K
    · have h4 := rd_four wr (-1) (-1) (-1) (-1) 2 wr.heap.size rfl
      go_wp2_with fail
      obtain ⟨wo, rfl⟩ : ∃ wo : World, wo = wr := ⟨_, rfl⟩
      go_loopw [32] (fun i wr => ∃ s : Nat, s ≤ 4 ∧ i = .int .i64 s ∧ Rd wr (some ⟨wo.heap.size, 0, none⟩) 4 (ints (updS xs t (stE xs t) s)) ∧ Wr wr wo.heap.size (some ⟨wo.heap.size, 0, none⟩) 4 ∧ Below wo.heap.size wo wr) (fun i _ => 4 - (intOf i).toNat)
      case atStart => exact ⟨0, by omega, rfl, h4.1, h4.2, (Below.refl _ _).alloc (Nat.le_refl _) _⟩
      case round =>
        obtain ⟨s, hs, rfl, hr1, hw1, hb1⟩ := hrel
        by_cases hlt2 : s < 4
        · have hs4 : decide ((s : Int) < 4) = true := by simp; omega
          have hv4 := (stE_four xs t).2 s hlt2
          obtain ⟨bd, rfl, hx⟩ := (hrd.below hb1).int hlt2
          obtain ⟨v, hvv⟩ : ∃ v, v = (stE xs t).getD s 0 := ⟨_, rfl⟩
          rw [← hvv] at hx hv4
          have HVV := Lib.hid hvv
          clear hvv
          have hG : wo.heap.size < wr.heap.size := by have := hr1.lt rfl (by omega); exact this
          by_cases hv0 : v < 0
          · have HU : Hid (updS xs t (stE xs t) s = updS xs t (stE xs t) (s + 1)) := by
              have key : ∀ j, updB xs t (stE xs t) (updS xs t (stE xs t) s) s j = updS xs t (stE xs t) s := by
                intro j
                induction j with
                | zero => rfl
                | succ j ih => show upd xs t (stE xs t) (updB xs t (stE xs t) (updS xs t (stE xs t) s) s j) s j = _; unfold upd; rw [← HVV.out, if_pos hv0]; exact ih
              exact (key 2).symm
            have hv0' : decide (v < 0) = true := by simpa using hv0
            go_wp2_with fail
            go_roundw
            case rel => exact ⟨s + 1, by omega, by go_num, by rw [← HU.out]; exact hr1, hw1, hb1⟩
            case measure => simp [intOf]; omega
          · have hv0' : decide (v < 0) = false := by simpa using hv0
            go_wp2_with fail
            obtain ⟨wi, rfl⟩ : ∃ wi : World, wi = wr := ⟨_, rfl⟩
            go_loopw [39] (fun i wr => ∃ b : Nat, b ≤ 2 ∧ i = .int .i64 b ∧ Rd wr (some ⟨wo.heap.size, 0, none⟩) 4 (ints (updB xs t (stE xs t) (updS xs t (stE xs t) s) s b)) ∧ Wr wr wo.heap.size (some ⟨wo.heap.size, 0, none⟩) 4 ∧ Below wo.heap.size wo wr) (fun i _ => 2 - (intOf i).toNat)
            case atStart => exact ⟨0, by omega, rfl, hr1, hw1, hb1⟩
            case round =>
              clear hG hx
              obtain ⟨b, hb, rfl, hr2, hw2, hb2⟩ := hrel
              have hG : wo.heap.size < wr.heap.size := by have := hr2.lt rfl (by omega); exact this
              by_cases hb2c : b < 2
              · have hq := nxt_bd (s := (s : Int)) (b := (b : Int)) (by omega) (by omega) (by omega) (by omega)
                obtain ⟨q, hqq⟩ := Int.eq_ofNat_of_zero_le hq.1
                have hq4 : q < 4 := by omega
                have hM := stepW_bd xs t s b
                have hrr := hr.below (bnext hbel hb2)
                obtain ⟨_, ⟨⟩, hy⟩ := hr2.int hq4
                rw [add_lit] at hy
                have hyb := (updB_four (xs := xs) (t := t) (s := s) (stE_four xs t) (updS_four (xs := xs) (t := t) (stE_four xs t) (by omega) s (by omega)) hlt2 (by omega) b).2 q hq4
                have hf := (hw2 (by omega))
                obtain ⟨_, ⟨⟩, _, hfr⟩ := hf
                have hf := hfr q hq4
                rw [add_lit] at hf
                clear hfr
                have hr3 := hr2.below ((Below.refl _ _).alloc (Nat.le_refl _) (.cells #[.int .i64 (outA s b), .int .i64 (outB s b)] 2))
                have hw3 := hw2.below hr2 ((Below.refl _ _).alloc (Nat.le_refl _) (.cells #[.int .i64 (outA s b), .int .i64 (outB s b)] 2))
                have hb3 := hb2.alloc hb2.size (.cells #[.int .i64 (outA s b), .int .i64 (outB s b)] 2)
                have HS : Hid (updB xs t (stE xs t) (updS xs t (stE xs t) s) s (b + 1) = if (updB xs t (stE xs t) (updS xs t (stE xs t) s) s b).getD q 0 < 0 ∨ v + stepW xs t s b < (updB xs t (stE xs t) (updS xs t (stE xs t) s) s b).getD q 0 then (updB xs t (stE xs t) (updS xs t (stE xs t) s) s b).set q (v + stepW xs t s b) else updB xs t (stE xs t) (updS xs t (stE xs t) s) s b) := by
                  unfold Hid
                  show upd xs t (stE xs t) (updB xs t (stE xs t) (updS xs t (stE xs t) s) s b) s b = _
                  unfold upd
                  rw [← HVV.out, if_neg (show ¬ v < 0 by omega), hqq, Int.toNat_natCast]
                generalize (updB xs t (stE xs t) (updS xs t (stE xs t) s) s b).getD q 0 = y at *
                generalize updB xs t (stE xs t) (updS xs t (stE xs t) s) s b = L at *
                have q5 : (q : Int) < 4 := by omega
                by_cases hy0 : y < 0
                · have hy0' : decide (y < 0) = true := by simpa using hy0
                  rw [if_pos (.inl hy0)] at HS
                  go_wp2_with (go_at_call 142; refine (branch_any A (2 * m) c xs t s b _ (by omega) hc hrr (by omega) (by omega) (by omega) (by omega) (by omega)).mono ?_; rintro e w' ⟨rfl, rfl⟩; rw [hqq])
                  go_roundw
                  case rel =>
                    have h1 := hr2.seti (x := v + stepW xs t s b) hq4 rfl
                    rw [add_lit] at h1
                    exact ⟨b + 1, by omega, by go_num, by rw [HS.out]; exact h1.below ((Below.refl _ _).alloc (Nat.le_refl _) _), (hw2.set_ _).below h1 ((Below.refl _ _).alloc (Nat.le_refl _) _), (hb2.setCell (by simp) _).alloc (by simp; omega) _⟩
                  case measure => simp [intOf]; omega
                · have hy0' : decide (y < 0) = false := by simpa using hy0
                  by_cases hlt3 : v + stepW xs t s b < y
                  · rw [if_pos (.inr hlt3)] at HS
                    go_wp2_with (go_at_call 142; refine (branch_any A (2 * m) c xs t s b _ (by omega) hc hrr (by omega) (by omega) (by omega) (by omega) (by omega)).mono ?_; rintro e w' ⟨rfl, rfl⟩; rw [hqq])
                    go_roundw
                    case rel =>
                      have h1 := hr2.seti (x := v + stepW xs t s b) hq4 rfl
                      rw [add_lit] at h1
                      exact ⟨b + 1, by omega, by go_num, by rw [HS.out]; exact h1.below ((Below.refl _ _).alloc (Nat.le_refl _) _), (hw2.set_ _).below h1 ((Below.refl _ _).alloc (Nat.le_refl _) _), (hb2.setCell (by simp) _).alloc (by simp; omega) _⟩
                    case measure => simp [intOf]; omega
                  · rw [if_neg (by omega)] at HS
                    go_wp2_with (go_at_call 142; refine (branch_any A (2 * m) c xs t s b _ (by omega) hc hrr (by omega) (by omega) (by omega) (by omega) (by omega)).mono ?_; rintro e w' ⟨rfl, rfl⟩; rw [hqq])
                    go_roundw
                    case rel => exact ⟨b + 1, by omega, by go_num, by rw [HS.out]; exact hr3, hw3, hb3⟩
                    case measure => simp [intOf]; omega
              · obtain rfl : b = 2 := by omega
                go_wp2
                go_roundw
                case rel => exact ⟨s + 1, by omega, by go_num, hr2, hw2, hb2⟩
                case measure => simp [intOf]; omega
        · obtain rfl : s = 4 := by omega
          go_wp2
          go_roundw
          case rel => exact ⟨t + 1, _, _, by omega, by go_num, rfl, hr1, hw1.mono hbel.size, bstep hbel hb1 (Nat.le_refl _)⟩
          case measure => simp [intOf]; omega
    · obtain rfl : t = K := by omega
      go_wp2
      go_ret2
      exact ⟨B, 4, d, rfl, hrd, hwr, by omega, hbel⟩


set_option maxHeartbeats 1000000 in
theorem specStateErrors_any (A : Option Addr) (n c : Nat) (xs : List Int) (k : Int) (w : World) (hn : n ≤ 1048576) (hc : n ≤ c) (hr : Rd w A n (ints xs)) :
    Calls Try.prog 83 #[.slice A n c, .int .i64 k] w (RetIC (stR xs k) (stC xs k) w) := by
  rcases Bool.eq_false_or_eq_true (recvOk xs) with h | h
  · have hrv := recvOk_true h
    have hl := hr.len
    obtain ⟨m, rfl⟩ : ∃ m, n = 2 * m := ⟨n / 2, by omega⟩
    have hS : stOk xs k = inR k 0 ((m : Int) - 2) := by unfold stOk; rw [hl, show ((2 * m : Nat) : Int) / 2 = (m : Int) from by omega]
    rcases Bool.eq_false_or_eq_true (inR k 0 ((m : Int) - 2)) with h3 | h3
    · have hb := inR_true h3
      obtain ⟨K, rfl⟩ := Int.eq_ofNat_of_zero_le hb.1
      have e1 : stR xs K = stE xs K ∧ stC xs K = 0 := by unfold stR stC; rw [hS]; simp [h, h3]
      rw [e1.1, e1.2]
      exact specStateErrors_yes A m c xs K w (by omega) (by omega) hr h (by omega)
    · have e1 : Hid (stR xs k = [] ∧ stC xs k = 2) := by unfold Hid stR stC; rw [hS]; simp [h, h3]
      have h2 : (2 * (m : Int)) / 2 = (m : Int) := by omega
      have hm3 : m ≤ 302 := by omega
      clear hS hl hrv
      go_enter Try.func83, Try.ntmps83
      go_wp2_with (first | (go_at_call 128; refine (l28Received_any _ _ _ xs _ (by omega) hr).mono ?_; rintro e w' ⟨rfl, rfl⟩) | (go_at_call 138; refine (l28Size_any _ _ _ _ (by omega)).mono ?_; rintro e w' ⟨rfl, rfl⟩) | (go_at_call 96; refine (l01In_any _ _ _ _).mono ?_; rintro e w' ⟨rfl, rfl⟩))
      go_ret2
      rw [e1.out.1, e1.out.2]; exact retIC_nil (Below.refl _ _)
  · have e1 : Hid (stR xs k = [] ∧ stC xs k = 1) := by unfold Hid stR stC; simp [h]
    go_enter Try.func83, Try.ntmps83
    go_wp2_with (go_at_call 128; refine (l28Received_any _ _ _ xs _ (by omega) hr).mono ?_; rintro e w' ⟨rfl, rfl⟩)
    go_ret2
    rw [e1.out.1, e1.out.2]; exact retIC_nil (Below.refl _ _)

set_option maxHeartbeats 1000000 in
theorem implStateErrors_any (A : Option Addr) (n c : Nat) (xs : List Int) (k : Int) (w : World) (hn : n ≤ 1048576) (hc : n ≤ c) (hr : Rd w A n (ints xs)) :
    Calls Try.prog 82 #[.slice A n c, .int .i64 k] w (RetIC (stR xs k) (stC xs k) w) := by
  rcases Bool.eq_false_or_eq_true (recvOk xs) with h | h
  · have hrv := recvOk_true h
    have hl := hr.len
    obtain ⟨m, rfl⟩ : ∃ m, n = 2 * m := ⟨n / 2, by omega⟩
    have hS : stOk xs k = inR k 0 ((m : Int) - 2) := by unfold stOk; rw [hl, show ((2 * m : Nat) : Int) / 2 = (m : Int) from by omega]
    rcases Bool.eq_false_or_eq_true (inR k 0 ((m : Int) - 2)) with h3 | h3
    · have hb := inR_true h3
      obtain ⟨K, rfl⟩ := Int.eq_ofNat_of_zero_le hb.1
      have e1 : stR xs K = stE xs K ∧ stC xs K = 0 := by unfold stR stC; rw [hS]; simp [h, h3]
      rw [e1.1, e1.2]
      exact implStateErrors_yes A m c xs K w (by omega) (by omega) hc hr h (by omega)
    · have e1 : Hid (stR xs k = [] ∧ stC xs k = 2) := by unfold Hid stR stC; rw [hS]; simp [h, h3]
      have h2 : (2 * (m : Int)) / 2 = (m : Int) := by omega
      have hm3 : m ≤ 302 := by omega
      clear hS hl hrv
      go_enter Try.func82, Try.ntmps82
      go_wp2_with (first | (go_at_call 126; refine (isReceived_any _ _ _ xs _ (by omega) hr).mono ?_; rintro e w' ⟨rfl, rfl⟩) | (go_at_call 139; refine (messageSize_any _ _ _ _ (by omega)).mono ?_; rintro e w' ⟨rfl, rfl⟩) | (go_at_call 99; refine (within_any _ _ _ _).mono ?_; rintro e w' ⟨rfl, rfl⟩))
      go_ret2
      rw [e1.out.1, e1.out.2]; exact retIC_nil (Below.refl _ _)
  · have e1 : Hid (stR xs k = [] ∧ stC xs k = 1) := by unfold Hid stR stC; simp [h]
    go_enter Try.func82, Try.ntmps82
    go_wp2_with (go_at_call 126; refine (isReceived_any _ _ _ xs _ (by omega) hr).mono ?_; rintro e w' ⟨rfl, rfl⟩)
    go_ret2
    rw [e1.out.1, e1.out.2]; exact retIC_nil (Below.refl _ _)
end Go.Proofs.Ytlgmdekhlcbhoaa
