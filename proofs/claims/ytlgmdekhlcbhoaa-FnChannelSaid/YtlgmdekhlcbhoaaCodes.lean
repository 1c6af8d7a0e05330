/- Codes: spec and impl of PunctureCode, EncodeBits, StateBehind, ErrorsOf. No condition but lists of at most 1048576 numbers. -/
import Derived.Test.YtlgmdekhlcbhoaaDrawC
import Derived.Test.YtlgmdekhlcbhoaaCor
import Derived.Test.YtlgmdekhlcbhoaaKern
namespace Go.Proofs.Ytlgmdekhlcbhoaa
open Go.RowKit

/-- what is left of the first k bits -/
def puncTo (xs : List Int) (k : Nat) : List Int := (List.range k).flatMap fun i => if i % 4 = 3 then [] else [xs.getD i 0]
theorem puncTo_succ (xs : List Int) (k : Nat) : puncTo xs (k + 1) = puncTo xs k ++ (if k % 4 = 3 then [] else [xs.getD k 0]) := by unfold puncTo; rw [List.range_succ, List.flatMap_append]; simp
theorem puncTo_skip (xs : List Int) {k : Nat} (h : k % 4 = 3) : puncTo xs (k + 1) = puncTo xs k := by rw [puncTo_succ, if_pos h, List.append_nil]
theorem puncTo_take (xs : List Int) {k : Nat} (h : ¬ k % 4 = 3) : puncTo xs (k + 1) = puncTo xs k ++ [xs.getD k 0] := by rw [puncTo_succ, if_neg h]
theorem puncTo_length (xs : List Int) : ∀ k, (puncTo xs k).length = k - k / 4
  | 0 => rfl
  | k + 1 => by
    have := puncTo_length xs k
    by_cases h : k % 4 = 3
    · rw [puncTo_skip xs h]; omega
    · rw [puncTo_take xs h, List.length_append, this]; simp; omega
theorem puncTo_getD (xs : List Int) : ∀ k j, j < k → ¬ j % 4 = 3 → (puncTo xs k).getD (j - j / 4) 0 = xs.getD j 0
  | k + 1, j, hj, h => by
    have hl := puncTo_length xs k
    rw [puncTo_succ]
    simp only [List.getD_eq_getElem?_getD]
    by_cases e : j < k
    · have := puncTo_getD xs k j e h
      simp only [List.getD_eq_getElem?_getD] at this
      rw [List.getElem?_append_left (by omega)]
      exact this
    · obtain rfl : j = k := by omega
      rw [List.getElem?_append_right (by omega), hl, Nat.sub_self, if_neg h]
      rfl
theorem puncTo_bits {xs : List Int} (h : allIn xs 0 1 = true) (k : Nat) : allIn (puncTo xs k) 0 1 = true := by
  unfold allIn
  rw [List.all_eq_true]
  intro y hy
  unfold puncTo at hy
  rw [List.mem_flatMap] at hy
  obtain ⟨i, _, hy⟩ := hy
  split at hy
  · cases hy
  · simp only [List.mem_singleton] at hy
    subst hy
    have := getD_bit h i
    exact inR_mk this.1 this.2
def puncR (xs : List Int) : List Int := if okList xs 604 0 1 = true then puncTo xs xs.length else []
def puncC (xs : List Int) : Int := if okList xs 604 0 1 = true then 0 else 1

set_option maxHeartbeats 1000000 in
theorem implPunctureCode_any (A : Option Addr) (n c : Nat) (xs : List Int) (w : World) (hn : n ≤ 1048576) (hr : Rd w A n (ints xs)) :
    Calls Try.prog 65 #[.slice A n c] w (RetICd (puncR xs) (puncC xs) w) := by
  have HL := Lib.hid hr.len
  rcases Bool.eq_false_or_eq_true (okList xs 604 0 1) with h1 | h1
  case inr =>
    have e1 : Hid (puncR xs = [] ∧ puncC xs = 1) := by unfold Hid puncR puncC; simp [h1]
    go_enter Try.func65, Try.ntmps65
    go_wp2_with (go_at_call 134; refine (isCode_any _ _ _ xs _ (by omega) hr).mono ?_; rintro e w' ⟨rfl, rfl⟩)
    go_ret2
    rw [e1.out.1, e1.out.2]; exact retICd_nil (Below.refl _ _)
  have e1 : Hid (puncR xs = puncTo xs n ∧ puncC xs = 0) := by unfold Hid puncR puncC; rw [HL.out]; simp [h1]
  go_enter Try.func65, Try.ntmps65
  go_wp2_with (go_at_call 134; refine (isCode_any _ _ _ xs _ (by omega) hr).mono ?_; rintro e w' ⟨rfl, rfl⟩)
  clear h1
  go_loopw [4, 12] (fun o i wr => ∃ (k m : Nat), k ≤ n ∧ m ≤ k ∧ i = .int .i64 k ∧ wr.ownsRow w.heap.size 2 1 o m (ints (puncTo xs k)) ∧ Below w.heap.size w wr)
    (fun _ i _ => n - (intOf i).toNat)
  case atStart => exact ⟨0, 0, Nat.zero_le _, Nat.le_refl _, rfl, World.ownsRow_nil _ _ _ _, Below.refl _ _⟩
  case round =>
    obtain ⟨k, m, hk, hm, rfl, hown, hbel⟩ := hrel
    by_cases hlt : k < n
    · have hsz := hbel.size
      obtain ⟨ad, rfl, hx⟩ := (hr.below hbel).int hlt
      by_cases h4 : k % 4 = 3
      · have HM := Lib.hid (puncTo_skip xs h4)
        have ht : ((k : Int) % 4 == 3) = true := by simp; omega
        clear h4
        generalize xs.getD k 0 = x at *
        generalize puncTo xs k = M at *
        go_wp2_with (go_at_call 135; refine (isPuncture_any _ _ (by omega)).mono ?_; rintro e w' ⟨rfl, rfl⟩)
        go_roundw
        case rel => exact ⟨k + 1, m, by omega, by omega, by go_num, by rw [HM.out]; exact hown, hbel⟩
        case measure => simp [intOf]; omega
      · have HM := Lib.hid (puncTo_take xs h4)
        have ht : ((k : Int) % 4 == 3) = false := by simp; omega
        clear h4
        generalize xs.getD k 0 = x at *
        generalize puncTo xs k = M at *
        go_wp2_with (first | (go_at_call 135; refine (isPuncture_any _ _ (by omega)).mono ?_; rintro e w' ⟨rfl, rfl⟩) | (at_builtin; refine wpList_append_int1 rfl _ _ rfl w.heap.size _ m M rfl rfl hown (by omega) hsz ?_; intro v' w' hown' hbel' _ _))
        go_roundw
        case rel => exact ⟨k + 1, m + 1, by omega, by omega, by go_num, by rw [HM.out]; exact hown', hbel.trans hbel'⟩
        case measure => simp [intOf]; omega
    · obtain rfl : k = n := by omega
      obtain ⟨B, d, rfl, hrd, hwr, hBd, _⟩ := own_rd hown
      go_wp2
      go_ret2
      exact ⟨B, m, d, by rw [e1.out.2]; rfl, by rw [e1.out.1]; exact hrd, hwr, by omega, hbel, hBd⟩
/-- The call has returned the list ys, which it owns, and a code. -/
def RetO (ys : List Int) (code : Int) (w : World) (e : Ending) (w' : World) : Prop :=
  ∃ h : Hd, e = .returned (.tuple #[.slice h.A h.n h.c, .int .i64 code]) ∧ Own w' w.heap.size 1 h (ints ys) ∧ Below w.heap.size w w'
theorem RetO.icd {ys : List Int} {code : Int} {w w' : World} {e : Ending} (h : RetO ys code w e w') (hl : ys.length ≤ 1048576) : RetICd ys code w e w' := by
  obtain ⟨h, he, o, b⟩ := h
  exact ⟨h.A, h.n, h.c, he, o.rd1, o.wr1, by have := o.rd1.len; omega, b, o.nc⟩
theorem puncR_len (xs : List Int) : (puncR xs).length ≤ xs.length := by
  unfold puncR
  split
  · rw [puncTo_length]; omega
  · simp
set_option maxHeartbeats 1000000 in
theorem specPunctureCodeO_any (A : Option Addr) (n c : Nat) (xs : List Int) (w : World) (hn : n ≤ 1048576) (hr : Rd w A n (ints xs)) :
    Calls Try.prog 66 #[.slice A n c] w (RetO (puncR xs) (puncC xs) w) := by
  have HL := Lib.hid hr.len
  rcases Bool.eq_false_or_eq_true (okList xs 604 0 1) with h1 | h1
  case inr =>
    have e1 : Hid (puncR xs = [] ∧ puncC xs = 1) := by unfold Hid puncR puncC; simp [h1]
    go_enter Try.func66, Try.ntmps66
    go_wp2_with (go_at_call 136; refine (l27Code_any _ _ _ xs _ (by omega) hr).mono ?_; rintro e w' ⟨rfl, rfl⟩)
    go_ret2
    rw [e1.out.1, e1.out.2]; exact ⟨⟨none, 0, 0⟩, rfl, Own.nil _ _ _, Below.refl _ _⟩
  have e1 : Hid (puncR xs = puncTo xs n ∧ puncC xs = 0) := by unfold Hid puncR puncC; rw [HL.out]; simp [h1]
  go_enter Try.func66, Try.ntmps66
  go_wp2_with (go_at_call 136; refine (l27Code_any _ _ _ xs _ (by omega) hr).mono ?_; rintro e w' ⟨rfl, rfl⟩)
  clear h1
  go_loopw [4, 5] (fun o i wr => ∃ (k m : Nat), k ≤ n ∧ m ≤ k ∧ i = .int .i64 k ∧ wr.ownsRow w.heap.size 2 1 o m (ints (puncTo xs k)) ∧ Below w.heap.size w wr)
    (fun _ i _ => n - (intOf i).toNat)
  case atStart => exact ⟨0, 0, Nat.zero_le _, Nat.le_refl _, rfl, own_empty w _, (Below.refl _ _).alloc (Nat.le_refl _) _⟩
  case round =>
    obtain ⟨k, m, hk, hm, rfl, hown, hbel⟩ := hrel
    by_cases hlt : k < n
    · have hsz := hbel.size
      obtain ⟨ad, rfl, hx⟩ := (hr.below hbel).int hlt
      by_cases h4 : k % 4 = 3
      · have HM := Lib.hid (puncTo_skip xs h4)
        have ht : ((k : Int) % 4 == 3) = true := by simp; omega
        have ht2 : ((k : Int) % 4 != 3) = false := by simp; omega
        clear h4
        generalize xs.getD k 0 = x at *
        generalize puncTo xs k = M at *
        go_wp2
        go_roundw
        case rel => exact ⟨k + 1, m, by omega, by omega, by go_num, by rw [HM.out]; exact hown, hbel⟩
        case measure => simp [intOf]; omega
      · have HM := Lib.hid (puncTo_take xs h4)
        have ht : ((k : Int) % 4 == 3) = false := by simp; omega
        have ht2 : ((k : Int) % 4 != 3) = true := by simp; omega
        clear h4
        generalize xs.getD k 0 = x at *
        generalize puncTo xs k = M at *
        go_wp2_with (at_builtin; refine wpList_append_int1 rfl _ _ rfl w.heap.size _ m M rfl rfl hown (by omega) hsz ?_; intro v' w' hown' hbel' _ _)
        go_roundw
        case rel => exact ⟨k + 1, m + 1, by omega, by omega, by go_num, by rw [HM.out]; exact hown', hbel.trans hbel'⟩
        case measure => simp [intOf]; omega
    · obtain rfl : k = n := by omega
      obtain ⟨G, rfl, rfl, ho, _⟩ := Own.of_row (by decide) hown
      go_wp2
      go_ret2
      exact ⟨G, by rw [e1.out.2]; rfl, by rw [e1.out.1]; exact ho, hbel⟩

theorem specPunctureCode_any (A : Option Addr) (n c : Nat) (xs : List Int) (w : World) (hn : n ≤ 1048576) (hr : Rd w A n (ints xs)) :
    Calls Try.prog 66 #[.slice A n c] w (RetICd (puncR xs) (puncC xs) w) :=
  (specPunctureCodeO_any A n c xs w hn hr).mono fun _ _ h => h.icd (by have := puncR_len xs; have := hr.len; omega)

/-- encoding a message, and its state -/
def encR (xs : List Int) : List Int := if okList xs 300 0 1 = true then enc xs else []
def msgC (xs : List Int) : Int := if okList xs 300 0 1 = true then 0 else 1
def stbN (xs : List Int) : Int := if okList xs 300 0 1 = true then encSt xs xs.length else 0
set_option maxHeartbeats 1000000 in
theorem implEncodeBits_any (A : Option Addr) (n c : Nat) (xs : List Int) (w : World) (hn : n ≤ 1048576) (hr : Rd w A n (ints xs)) :
    Calls Try.prog 54 #[.slice A n c] w (RetICd (encR xs) (msgC xs) w) := by
  rcases Bool.eq_false_or_eq_true (okList xs 300 0 1) with h1 | h1
  case inr =>
    have e1 : Hid (encR xs = [] ∧ msgC xs = 1) := by unfold Hid encR msgC; simp [h1]
    go_enter Try.func54, Try.ntmps54
    go_wp2_with (go_at_call 123; refine (isMessage_any _ _ _ xs _ (by omega) hr).mono ?_; rintro e w' ⟨rfl, rfl⟩)
    go_ret2
    rw [e1.out.1, e1.out.2]; exact retICd_nil (Below.refl _ _)
  have ht := okList_true h1
  have hl := hr.len
  have hn3 : n ≤ 300 := by omega
  have HB := Lib.hid ht.2
  have e1 : Hid (encR xs = enc xs ∧ msgC xs = 0) := by unfold Hid encR msgC; simp [h1]
  clear ht hl
  go_enter Try.func54, Try.ntmps54
  go_wp2_with (go_at_call 123; refine (isMessage_any _ _ _ xs _ (by omega) hr).mono ?_; rintro e w' ⟨rfl, rfl⟩)
  refine (encode_any A n c xs _ (by omega) hr HB.out).mono ?_
  rintro e w1 ⟨v, rfl, hown, hb1⟩
  obtain ⟨B, d, rfl, hrd, hwr, hBd, _⟩ := own_rd hown
  go_wp2
  go_ret2
  exact ⟨B, _, d, by rw [e1.out.2]; rfl, by rw [e1.out.1]; exact hrd, hwr, by omega, hb1, hBd⟩
set_option maxHeartbeats 1000000 in
theorem specEncodeBits_any (A : Option Addr) (n c : Nat) (xs : List Int) (w : World) (hn : n ≤ 1048576) (hr : Rd w A n (ints xs)) :
    Calls Try.prog 60 #[.slice A n c] w (RetICd (encR xs) (msgC xs) w) := by
  rcases Bool.eq_false_or_eq_true (okList xs 300 0 1) with h1 | h1
  case inr =>
    have e1 : Hid (encR xs = [] ∧ msgC xs = 1) := by unfold Hid encR msgC; simp [h1]
    go_enter Try.func60, Try.ntmps60
    go_wp2_with (go_at_call 130; refine (l27Message_any _ _ _ xs _ (by omega) hr).mono ?_; rintro e w' ⟨rfl, rfl⟩)
    go_ret2
    rw [e1.out.1, e1.out.2]; exact retICd_nil (Below.refl _ _)
  have ht := okList_true h1
  have hl := hr.len
  have hn3 : n ≤ 300 := by omega
  have HB := Lib.hid ht.2
  have e1 : Hid (encR xs = enc xs ∧ msgC xs = 0) := by unfold Hid encR msgC; simp [h1]
  clear ht hl
  go_enter Try.func60, Try.ntmps60
  go_wp2_with (go_at_call 130; refine (l27Message_any _ _ _ xs _ (by omega) hr).mono ?_; rintro e w' ⟨rfl, rfl⟩)
  refine (l27Encode_any A n c xs _ (by omega) hr HB.out).mono ?_
  rintro e w1 ⟨v, rfl, hown, hb1⟩
  obtain ⟨B, d, rfl, hrd, hwr, hBd, _⟩ := own_rd hown
  go_wp2
  go_ret2
  exact ⟨B, _, d, by rw [e1.out.2]; rfl, by rw [e1.out.1]; exact hrd, hwr, by omega, hb1, hBd⟩
set_option maxHeartbeats 1000000 in
theorem implStateBehind_any (A : Option Addr) (n c : Nat) (xs : List Int) (w : World) (hn : n ≤ 1048576) (hr : Rd w A n (ints xs)) :
    Calls Try.prog 86 #[.slice A n c] w fun e w' => e = .returned (.tuple #[.int .i64 (stbN xs), .int .i64 (msgC xs)]) ∧ w = w' := by
  have HL := Lib.hid hr.len
  rcases Bool.eq_false_or_eq_true (okList xs 300 0 1) with h1 | h1
  case inr =>
    have e1 : Hid (stbN xs = 0 ∧ msgC xs = 1) := by unfold Hid stbN msgC; simp [h1]
    go_enter Try.func86, Try.ntmps86
    go_wp2_with (go_at_call 123; refine (isMessage_any _ _ _ xs _ (by omega) hr).mono ?_; rintro e w' ⟨rfl, rfl⟩)
    go_ret2
    rw [e1.out.1, e1.out.2]; exact ⟨rfl, rfl⟩
  have HB := Lib.hid (okList_true h1).2
  have e1 : Hid (stbN xs = encSt xs n ∧ msgC xs = 0) := by unfold Hid stbN msgC; rw [HL.out]; simp [h1]
  go_enter Try.func86, Try.ntmps86
  go_wp2_with (go_at_call 123; refine (isMessage_any _ _ _ xs _ (by omega) hr).mono ?_; rintro e w' ⟨rfl, rfl⟩)
  clear h1
  go_loop [4, 12] (fun s i => ∃ k : Nat, k ≤ n ∧ i = .int .i64 k ∧ s = .int .i64 (encSt xs k)) (fun _ i => n - (intOf i).toNat)
  case atStart => exact ⟨0, Nat.zero_le _, rfl, rfl⟩
  case round =>
    obtain ⟨k, hk, rfl, rfl⟩ := hrel
    by_cases hlt : k < n
    · obtain ⟨ad, rfl, hx⟩ := hr.int hlt
      have hs := encSt_bd HB.out k
      have hbd := getD_bit HB.out k
      have HS : Hid (encSt xs (k + 1) = nxt (encSt xs k) (xs.getD k 0)) := rfl
      generalize xs.getD k 0 = x at *
      generalize encSt xs k = s at *
      go_wp2_with (go_at_call 144; refine (take_any _ _ _ (by omega) (by omega) (by omega) (by omega)).mono ?_; rintro e w' ⟨rfl, rfl⟩)
      go_round
      case rel => exact ⟨k + 1, by omega, by go_num, by rw [HS.out]⟩
      case measure => simp [intOf]; omega
    · obtain rfl : k = n := by omega
      go_wp2
      go_ret2
      exact ⟨by rw [e1.out.1, e1.out.2]; rfl, rfl⟩
set_option maxHeartbeats 1000000 in
theorem specStateBehind_any (A : Option Addr) (n c : Nat) (xs : List Int) (w : World) (hn : n ≤ 1048576) (hr : Rd w A n (ints xs)) :
    Calls Try.prog 87 #[.slice A n c] w fun e w' => e = .returned (.tuple #[.int .i64 (stbN xs), .int .i64 (msgC xs)]) ∧ w = w' := by
  have HL := Lib.hid hr.len
  rcases Bool.eq_false_or_eq_true (okList xs 300 0 1) with h1 | h1
  case inr =>
    have e1 : Hid (stbN xs = 0 ∧ msgC xs = 1) := by unfold Hid stbN msgC; simp [h1]
    go_enter Try.func87, Try.ntmps87
    go_wp2_with (go_at_call 130; refine (l27Message_any _ _ _ xs _ (by omega) hr).mono ?_; rintro e w' ⟨rfl, rfl⟩)
    go_ret2
    rw [e1.out.1, e1.out.2]; exact ⟨rfl, rfl⟩
  have HB := Lib.hid (okList_true h1).2
  have e1 : Hid (stbN xs = encSt xs n ∧ msgC xs = 0) := by unfold Hid stbN msgC; rw [HL.out]; simp [h1]
  go_enter Try.func87, Try.ntmps87
  go_wp2_with (go_at_call 130; refine (l27Message_any _ _ _ xs _ (by omega) hr).mono ?_; rintro e w' ⟨rfl, rfl⟩)
  clear h1
  go_loop [4, 5] (fun s i => ∃ k : Nat, k ≤ n ∧ i = .int .i64 k ∧ s = .int .i64 (encSt xs k)) (fun _ i => n - (intOf i).toNat)
  case atStart => exact ⟨0, Nat.zero_le _, rfl, rfl⟩
  case round =>
    obtain ⟨k, hk, rfl, rfl⟩ := hrel
    by_cases hlt : k < n
    · obtain ⟨ad, rfl, hx⟩ := hr.int hlt
      have hs := encSt_bd HB.out k
      have hbd := getD_bit HB.out k
      have HS : Hid (encSt xs (k + 1) = nxt (encSt xs k) (xs.getD k 0)) := rfl
      generalize xs.getD k 0 = x at *
      generalize encSt xs k = s at *
      go_wp2_with (go_at_call 145; refine (l27Next_any _ _ _ (by omega) (by omega) (by omega) (by omega)).mono ?_; rintro e w' ⟨rfl, rfl⟩)
      go_round
      case rel => exact ⟨k + 1, by omega, by go_num, by rw [HS.out]⟩
      case measure => simp [intOf]; omega
    · obtain rfl : k = n := by omega
      go_wp2
      go_ret2
      exact ⟨by rw [e1.out.1, e1.out.2]; rfl, rfl⟩

/-- the errors of a message -/
def errOk (xs ms : List Int) : Bool := decide ((ms.length : Int) = (xs.length : Int) / 2 - 2) && allIn ms 0 1
def errC (xs ms : List Int) : Int := if recvOk xs = true then (if errOk xs ms = true then 0 else 2) else 1
def errR (xs ms : List Int) : Int := if recvOk xs = true ∧ errOk xs ms = true then errN xs ms else 0
set_option maxHeartbeats 1000000 in
theorem l28Errors_any (A : Option Addr) (n c : Nat) (xs : List Int) (B : Option Addr) (m d : Nat) (ms : List Int) (w : World) (hm : m ≤ 300) (hn : n = 2 * (m + 2)) (hr : Rd w A n (ints xs)) (hq : Rd w B m (ints ms)) (hb : allIn ms 0 1 = true) :
    Calls Try.prog 141 #[.slice A n c, .slice B m d] w fun e w' => e = .returned (.int .i64 (errN xs ms)) ∧ Below w.heap.size w w' := by
  have HM := Lib.hid hq.len
  have HB := Lib.hid hb
  clear hb
  go_enter Try.func141, Try.ntmps141
  go_wp2_with fail
  refine (l27Encode_any B m d ms _ (by omega) hq HB.out).mono ?_
  rintro e w1 ⟨v, rfl, hown, b1⟩
  obtain ⟨C, q, rfl, hrd, -, -, -⟩ := own_rd hown
  have hr1 := hr.below b1
  clear hown
  have HE : Hid (errN xs ms = diffs xs (enc ms) (2 * (m + 2))) := by unfold Hid errN; rw [HM.out]
  generalize enc ms = ys at *
  go_wp2
  go_loopw [6, 7] (fun o i wr => ∃ k u : Nat, k ≤ n ∧ i = .int .i64 k ∧ o = .int .i64 (diffs xs ys k) ∧ wr = w1.drewN u) (fun _ i _ => n - (intOf i).toNat)
  case atStart => exact ⟨0, 0, Nat.zero_le _, rfl, rfl, rfl⟩
  case round =>
    obtain ⟨k, u, hk, rfl, rfl, rfl⟩ := hrel
    by_cases hlt : k < n
    · have hlt2 : k < 2 * (m + 2) := by omega
      have hltI : (k : Int) < 2 * ((m : Int) + 2) := by omega
      obtain ⟨ad, rfl, hx⟩ := hr1.int hlt
      obtain ⟨bd, rfl, hy⟩ := hrd.int hlt2
      have HS := Lib.hid (diffs_succ xs ys k)
      have hd := diffs_bd xs ys k
      have hv := wrongB_bd (ys.getD k 0) (xs.getD k 0)
      generalize xs.getD k 0 = x at *
      generalize ys.getD k 0 = y at *
      generalize diffs xs ys k = t at *
      have m5 : IntKind.i64.wrap (t + wrongB y x) = t + wrongB y x := IntWalk.i64_in _ (by omega)
      have i0 : (0 : Int) ≤ (k : Int) := by omega
      have i1 : (k : Int) < (n : Int) := by omega
      go_wp2_with fail
      go_quiet ((first | (go_at_call 166; exact q_left ((l28Wrong_any _ _ _).mono fun _ _ h => ⟨h.1, h.2.symm⟩)) | (go_at_call 166; exact q_add_left ((l28Wrong_any _ _ _).mono fun _ _ h => ⟨h.1, h.2.symm⟩))))
      clear m5
      go_wp2
      go_roundw
      case rel => exact ⟨k + 1, _, by omega, by go_num, by rw [HS.out], rfl⟩
      case measure => simp [intOf]; omega
    · have hnl : ¬ (k : Int) < 2 * ((m : Int) + 2) := by omega
      have hkn : k = 2 * (m + 2) := by omega
      have HK := Lib.hid hkn
      clear hkn
      go_wp2
      go_ret
      exact ⟨ret_int (by rw [HE.out, HK.out]), Below.drewN b1 _⟩
set_option maxHeartbeats 1000000 in
theorem specErrorsOf_any (A : Option Addr) (n c : Nat) (xs : List Int) (B : Option Addr) (m d : Nat) (ms : List Int) (w : World) (hn : n ≤ 1048576) (hm : m ≤ 1048576) (hr : Rd w A n (ints xs)) (hq : Rd w B m (ints ms)) :
    Calls Try.prog 79 #[.slice A n c, .slice B m d] w fun e w' => e = .returned (.tuple #[.int .i64 (errR xs ms), .int .i64 (errC xs ms)]) ∧ Below w.heap.size w w' := by
  have HL := Lib.hid hr.len
  have HM := Lib.hid hq.len
  rcases Bool.eq_false_or_eq_true (recvOk xs) with h1 | h1
  case inr =>
    have e1 : Hid (errR xs ms = 0 ∧ errC xs ms = 1) := by unfold Hid errR errC; simp [h1]
    go_enter Try.func79, Try.ntmps79
    go_wp2_with (go_at_call 128; refine (l28Received_any _ _ _ xs _ (by omega) hr).mono ?_; rintro e w' ⟨rfl, rfl⟩)
    go_ret2
    exact ⟨by rw [e1.out.1, e1.out.2]; rfl, Below.refl _ _⟩
  have hrv := recvOk_true h1
  rw [HL.out] at hrv
  by_cases h2 : (m : Int) = (n : Int) / 2 - 2
  case neg =>
    have e1 : Hid (errR xs ms = 0 ∧ errC xs ms = 2) := by unfold Hid errR errC errOk; rw [HL.out, HM.out]; simp [h1, h2]
    have q1 : ((m : Int) == (n : Int) / 2 - 2) = false := by simpa using h2
    have q2 : ((m : Int) != (n : Int) / 2 - 2) = true := by simpa using h2
    clear h2
    rcases Bool.eq_false_or_eq_true (okList ms 300 0 1) with h3 | h3
    all_goals
      go_enter Try.func79, Try.ntmps79
      go_wp2_with (first | (go_at_call 128; refine (l28Received_any _ _ _ xs _ (by omega) hr).mono ?_; rintro e w' ⟨rfl, rfl⟩) | (go_at_call 130; refine (l27Message_any _ _ _ ms _ (by omega) hq).mono ?_; rintro e w' ⟨rfl, rfl⟩) | (go_at_call 138; refine (l28Size_any _ _ _ _ (by omega)).mono ?_; rintro e w' ⟨rfl, rfl⟩))
      go_ret2
      exact ⟨by rw [e1.out.1, e1.out.2]; rfl, Below.refl _ _⟩
  have q1 : ((m : Int) == (n : Int) / 2 - 2) = true := by simpa using h2
  have q2 : ((m : Int) != (n : Int) / 2 - 2) = false := by simpa using h2
  have hm3 : m ≤ 300 := by omega
  have hn2 : n = 2 * (m + 2) := by omega
  rcases Bool.eq_false_or_eq_true (allIn ms 0 1) with h3 | h3
  case inr =>
    have h4 : okList ms 300 0 1 = false := by unfold okList; rw [h3]; simp
    have e1 : Hid (errR xs ms = 0 ∧ errC xs ms = 2) := by unfold Hid errR errC errOk; simp [h1, h3]
    clear h2 hn2
    go_enter Try.func79, Try.ntmps79
    go_wp2_with (first | (go_at_call 128; refine (l28Received_any _ _ _ xs _ (by omega) hr).mono ?_; rintro e w' ⟨rfl, rfl⟩) | (go_at_call 130; refine (l27Message_any _ _ _ ms _ (by omega) hq).mono ?_; rintro e w' ⟨rfl, rfl⟩))
    go_ret2
    exact ⟨by rw [e1.out.1, e1.out.2]; rfl, Below.refl _ _⟩
  have h4 : okList ms 300 0 1 = true := by unfold okList; rw [h3, HM.out]; simp; omega
  have e1 : Hid (errR xs ms = errN xs ms ∧ errC xs ms = 0) := by unfold Hid errR errC errOk; rw [HL.out, HM.out]; simp [h1, h2, h3]
  have HB := Lib.hid h3
  have HN := Lib.hid hn2
  clear h2 hn2
  go_enter Try.func79, Try.ntmps79
  go_wp2_with (first | (go_at_call 128; refine (l28Received_any _ _ _ xs _ (by omega) hr).mono ?_; rintro e w' ⟨rfl, rfl⟩) | (go_at_call 130; refine (l27Message_any _ _ _ ms _ (by omega) hq).mono ?_; rintro e w' ⟨rfl, rfl⟩) | (go_at_call 138; refine (l28Size_any _ _ _ _ (by omega)).mono ?_; rintro e w' ⟨rfl, rfl⟩))
  refine (l28Errors_any A n c xs B m d ms _ hm3 HN.out hr hq HB.out).mono ?_
  rintro e w1 ⟨rfl, b1⟩
  go_wp2
  go_ret2
  exact ⟨by rw [e1.out.1, e1.out.2]; rfl, b1⟩
set_option maxHeartbeats 1000000 in
theorem implErrorsOf_any (A : Option Addr) (n c : Nat) (xs : List Int) (B : Option Addr) (m d : Nat) (ms : List Int) (w : World) (hn : n ≤ 1048576) (hm : m ≤ 1048576) (hr : Rd w A n (ints xs)) (hq : Rd w B m (ints ms)) :
    Calls Try.prog 78 #[.slice A n c, .slice B m d] w fun e w' => e = .returned (.tuple #[.int .i64 (errR xs ms), .int .i64 (errC xs ms)]) ∧ Below w.heap.size w w' := by
  have HL := Lib.hid hr.len
  have HM := Lib.hid hq.len
  rcases Bool.eq_false_or_eq_true (recvOk xs) with h1 | h1
  case inr =>
    have e1 : Hid (errR xs ms = 0 ∧ errC xs ms = 1) := by unfold Hid errR errC; simp [h1]
    go_enter Try.func78, Try.ntmps78
    go_wp2_with (go_at_call 126; refine (isReceived_any _ _ _ xs _ (by omega) hr).mono ?_; rintro e w' ⟨rfl, rfl⟩)
    go_ret2
    exact ⟨by rw [e1.out.1, e1.out.2]; rfl, Below.refl _ _⟩
  have hrv := recvOk_true h1
  rw [HL.out] at hrv
  by_cases h2 : (m : Int) = (n : Int) / 2 - 2
  case neg =>
    have e1 : Hid (errR xs ms = 0 ∧ errC xs ms = 2) := by unfold Hid errR errC errOk; rw [HL.out, HM.out]; simp [h1, h2]
    have q1 : ((m : Int) == (n : Int) / 2 - 2) = false := by simpa using h2
    have q2 : ((m : Int) != (n : Int) / 2 - 2) = true := by simpa using h2
    clear h2
    go_enter Try.func78, Try.ntmps78
    go_wp2_with (first | (go_at_call 126; refine (isReceived_any _ _ _ xs _ (by omega) hr).mono ?_; rintro e w' ⟨rfl, rfl⟩) | (go_at_call 100; refine (lengthInt_any _ _ _ _ (by omega)).mono ?_; rintro e w' ⟨rfl, rfl⟩) | (go_at_call 139; refine (messageSize_any _ _ _ _ (by omega)).mono ?_; rintro e w' ⟨rfl, rfl⟩))
    go_ret2
    exact ⟨by rw [e1.out.1, e1.out.2]; rfl, Below.refl _ _⟩
  have q1 : ((m : Int) == (n : Int) / 2 - 2) = true := by simpa using h2
  have q2 : ((m : Int) != (n : Int) / 2 - 2) = false := by simpa using h2
  have hm3 : m ≤ 300 := by omega
  have hn2 : n = 2 * (m + 2) := by omega
  rcases Bool.eq_false_or_eq_true (allIn ms 0 1) with h3 | h3
  case inr =>
    have e1 : Hid (errR xs ms = 0 ∧ errC xs ms = 2) := by unfold Hid errR errC errOk; simp [h1, h3]
    clear h2 hn2
    go_enter Try.func78, Try.ntmps78
    go_wp2_with (first | (go_at_call 126; refine (isReceived_any _ _ _ xs _ (by omega) hr).mono ?_; rintro e w' ⟨rfl, rfl⟩) | (go_at_call 100; refine (lengthInt_any _ _ _ _ (by omega)).mono ?_; rintro e w' ⟨rfl, rfl⟩) | (go_at_call 139; refine (messageSize_any _ _ _ _ (by omega)).mono ?_; rintro e w' ⟨rfl, rfl⟩) | (go_at_call 140; refine (areWithin_any _ _ _ ms _ _ _ (by omega) hq).mono ?_; rintro e w' ⟨rfl, rfl⟩))
    go_ret2
    exact ⟨by rw [e1.out.1, e1.out.2]; rfl, Below.refl _ _⟩
  have e1 : Hid (errR xs ms = errN xs ms ∧ errC xs ms = 0) := by unfold Hid errR errC errOk; rw [HL.out, HM.out]; simp [h1, h2, h3]
  have HB := Lib.hid h3
  have HN := Lib.hid hn2
  clear h2 hn2
  go_enter Try.func78, Try.ntmps78
  go_wp2_with (first | (go_at_call 126; refine (isReceived_any _ _ _ xs _ (by omega) hr).mono ?_; rintro e w' ⟨rfl, rfl⟩) | (go_at_call 100; refine (lengthInt_any _ _ _ _ (by omega)).mono ?_; rintro e w' ⟨rfl, rfl⟩) | (go_at_call 139; refine (messageSize_any _ _ _ _ (by omega)).mono ?_; rintro e w' ⟨rfl, rfl⟩) | (go_at_call 140; refine (areWithin_any _ _ _ ms _ _ _ (by omega) hq).mono ?_; rintro e w' ⟨rfl, rfl⟩))
  refine (encode_any B m d ms _ (by omega) hq HB.out).mono ?_
  rintro e w1 ⟨v, rfl, hown, b1⟩
  obtain ⟨C, q, rfl, hrd, -, -, -⟩ := own_rd hown
  have HE : Hid (errN xs ms = diffs xs (enc ms) (2 * (m + 2))) := by unfold Hid errN; rw [HM.out]
  go_wp2_with fail
  refine (differences_any A C n c (2 * (m + 2)) q xs (enc ms) _ (by omega) (hr.below b1) hrd (by have := HN.out; omega)).mono ?_
  rintro e w2 ⟨rfl, rfl⟩
  go_wp2
  go_ret2
  exact ⟨by rw [e1.out.1, e1.out.2, HE.out]; rfl, b1⟩
end Go.Proofs.Ytlgmdekhlcbhoaa
