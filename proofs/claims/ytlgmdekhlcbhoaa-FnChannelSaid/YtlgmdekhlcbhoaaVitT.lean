/- What the decoding functions answer: DecodeBits, LeastErrors, CountNearest, IsSingle, NearestCode, DecodePunctured. No condition but a list of at most 1048576 numbers. -/
import Derived.Test.YtlgmdekhlcbhoaaVitG
import Derived.Test.YtlgmdekhlcbhoaaEnc
import Derived.Test.YtlgmdekhlcbhoaaFill
namespace Go.Proofs.Ytlgmdekhlcbhoaa
open Go.RowKit

def mOf (xs : List Int) : Nat := xs.length / 2
def recvC (xs : List Int) : Int := if recvOk xs = true then 0 else 1
def decR (xs : List Int) : List Int := if recvOk xs = true then dec xs (mOf xs) (mOf xs - 2) else []
def decN (xs : List Int) : Int := if recvOk xs = true then (vit xs (mOf xs) (mOf xs) 0).1 else 0
def cntN (xs : List Int) : Int := if recvOk xs = true then (vit xs (mOf xs) (mOf xs) 0).2 else 0
def sglB (xs : List Int) : Bool := if recvOk xs = true then ((vit xs (mOf xs) (mOf xs) 0).2 == 1) else false
def ncodeR (xs : List Int) : List Int := if recvOk xs = true then enc (dec xs (mOf xs) (mOf xs - 2)) else []
theorem dec_bits (xs : List Int) (n k : Nat) : allIn (dec xs n k) 0 1 = true := by
  unfold allIn dec
  rw [List.all_eq_true]
  intro y hy
  rw [List.mem_map] at hy
  obtain ⟨i, _, rfl⟩ := hy
  have := decBit_bd xs n i (decSt xs n i)
  exact inR_mk (by omega) (by omega)
theorem dec_length (xs : List Int) (n k : Nat) : (dec xs n k).length = k := by unfold dec; simp
theorem recv_half {xs : List Int} {n : Nat} (h : recvOk xs = true) (hl : xs.length = n) : ∃ m, n = 2 * m ∧ 2 ≤ m ∧ m ≤ 302 ∧ mOf xs = m := by
  have := recvOk_true h
  exact ⟨n / 2, by omega, by omega, by omega, by unfold mOf; omega⟩

set_option maxHeartbeats 1000000 in
theorem specDecodeBits_any (A : Option Addr) (n c : Nat) (xs : List Int) (w : World) (hn : n ≤ 1048576) (hc : n ≤ c) (hr : Rd w A n (ints xs)) :
    Calls Try.prog 74 #[.slice A n c] w (RetIIC (decR xs) (decN xs) (recvC xs) w) := by
  rcases Bool.eq_false_or_eq_true (recvOk xs) with h | h
  · obtain ⟨m, rfl, hm, hm2, hmm⟩ := recv_half h hr.len
    have e1 : Hid (decR xs = dec xs m (m - 2) ∧ decN xs = (vit xs m m 0).1 ∧ recvC xs = 0) := by unfold Hid decR decN recvC; simp [h, hmm]
    clear hmm
    go_enter Try.func74, Try.ntmps74
    go_wp2_with (first | (go_at_call 128; refine (l28Received_any _ _ _ xs _ (by omega) hr).mono ?_; rintro e w' ⟨rfl, rfl⟩) | fail)
    refine (l28Decode_any A m c xs _ hm hm2 hr).mono ?_
    rintro e w1 ⟨B, k, d, rfl, hB, hwB, _, hk, hb1⟩
    go_wp2
    go_ret3
    exact ⟨B, k, d, by rw [e1.out.2.1, e1.out.2.2]; rfl, by rw [e1.out.1]; exact hB, hwB, hk, hb1⟩
  · have e1 : Hid (decR xs = [] ∧ decN xs = 0 ∧ recvC xs = 1) := by unfold Hid decR decN recvC; simp [h]
    go_enter Try.func74, Try.ntmps74
    go_wp2_with (first | (go_at_call 128; refine (l28Received_any _ _ _ xs _ (by omega) hr).mono ?_; rintro e w' ⟨rfl, rfl⟩) | fail)
    go_ret3
    rw [e1.out.1, e1.out.2.1, e1.out.2.2]; exact retIIC_nil (Below.refl _ _)

set_option maxHeartbeats 1000000 in
theorem implDecodeBits_any (A : Option Addr) (n c : Nat) (xs : List Int) (w : World) (hn : n ≤ 1048576) (hc : n ≤ c) (hr : Rd w A n (ints xs)) :
    Calls Try.prog 63 #[.slice A n c] w (RetIIC (decR xs) (decN xs) (recvC xs) w) := by
  rcases Bool.eq_false_or_eq_true (recvOk xs) with h | h
  · obtain ⟨m, rfl, hm, hm2, hmm⟩ := recv_half h hr.len
    have e1 : Hid (decR xs = dec xs m (m - 2) ∧ decN xs = (vit xs m m 0).1 ∧ recvC xs = 0) := by unfold Hid decR decN recvC; simp [h, hmm]
    clear hmm
    go_enter Try.func63, Try.ntmps63
    go_wp2_with (first | (go_at_call 126; refine (isReceived_any _ _ _ xs _ (by omega) hr).mono ?_; rintro e w' ⟨rfl, rfl⟩) | fail)
    refine (decode_any A m c xs _ hm hm2 hc hr).mono ?_
    rintro e w1 ⟨B, k, d, rfl, hB, hwB, _, hk, hb1⟩
    go_wp2
    go_ret3
    exact ⟨B, k, d, by rw [e1.out.2.1, e1.out.2.2]; rfl, by rw [e1.out.1]; exact hB, hwB, hk, hb1⟩
  · have e1 : Hid (decR xs = [] ∧ decN xs = 0 ∧ recvC xs = 1) := by unfold Hid decR decN recvC; simp [h]
    go_enter Try.func63, Try.ntmps63
    go_wp2_with (first | (go_at_call 126; refine (isReceived_any _ _ _ xs _ (by omega) hr).mono ?_; rintro e w' ⟨rfl, rfl⟩) | fail)
    go_ret3
    rw [e1.out.1, e1.out.2.1, e1.out.2.2]; exact retIIC_nil (Below.refl _ _)

set_option maxHeartbeats 1000000 in
theorem specLeastErrors_any (A : Option Addr) (n c : Nat) (xs : List Int) (w : World) (hn : n ≤ 1048576) (hc : n ≤ c) (hr : Rd w A n (ints xs)) :
    Calls Try.prog 76 #[.slice A n c] w (fun e w' => e = .returned (.tuple #[.int .i64 (decN xs), .int .i64 (recvC xs)]) ∧ Below w.heap.size w w') := by
  rcases Bool.eq_false_or_eq_true (recvOk xs) with h | h
  · obtain ⟨m, rfl, hm, hm2, hmm⟩ := recv_half h hr.len
    have e1 : Hid (decN xs = (vit xs m m 0).1 ∧ recvC xs = 0) := by unfold Hid decN recvC; simp [h, hmm]
    clear hmm
    go_enter Try.func76, Try.ntmps76
    go_wp2_with (first | (go_at_call 128; refine (l28Received_any _ _ _ xs _ (by omega) hr).mono ?_; rintro e w' ⟨rfl, rfl⟩) | fail)
    refine (l28Decode_any A m c xs _ hm hm2 hr).mono ?_
    rintro e w1 ⟨B, k, d, rfl, hB, hwB, _, hk, hb1⟩
    go_wp2
    go_ret2
    exact ⟨by rw [e1.out.1, e1.out.2]; rfl, hb1⟩
  · have e1 : Hid (decN xs = 0 ∧ recvC xs = 1) := by unfold Hid decN recvC; simp [h]
    go_enter Try.func76, Try.ntmps76
    go_wp2_with (first | (go_at_call 128; refine (l28Received_any _ _ _ xs _ (by omega) hr).mono ?_; rintro e w' ⟨rfl, rfl⟩) | fail)
    go_ret2
    exact ⟨by rw [e1.out.1, e1.out.2]; rfl, Below.refl _ _⟩

set_option maxHeartbeats 1000000 in
theorem implLeastErrors_any (A : Option Addr) (n c : Nat) (xs : List Int) (w : World) (hn : n ≤ 1048576) (hc : n ≤ c) (hr : Rd w A n (ints xs)) :
    Calls Try.prog 75 #[.slice A n c] w (fun e w' => e = .returned (.tuple #[.int .i64 (decN xs), .int .i64 (recvC xs)]) ∧ Below w.heap.size w w') := by
  rcases Bool.eq_false_or_eq_true (recvOk xs) with h | h
  · obtain ⟨m, rfl, hm, hm2, hmm⟩ := recv_half h hr.len
    have e1 : Hid (decN xs = (vit xs m m 0).1 ∧ recvC xs = 0) := by unfold Hid decN recvC; simp [h, hmm]
    clear hmm
    go_enter Try.func75, Try.ntmps75
    go_wp2_with (first | (go_at_call 126; refine (isReceived_any _ _ _ xs _ (by omega) hr).mono ?_; rintro e w' ⟨rfl, rfl⟩) | fail)
    refine (rests_any A m c xs _ hm hm2 hc hr).mono ?_
    rintro e w1 ⟨rfl, hT, hb1⟩
    have c0 := (hT.cell (t' := 0) (s := 0) (by omega) (by omega) (by omega)).1
    simp only [Nat.zero_mul, Nat.add_zero] at c0
    unfold vitT at c0
    clear hT
    go_wp2
    go_ret2
    exact ⟨by rw [e1.out.1, e1.out.2]; rfl, hb1⟩
  · have e1 : Hid (decN xs = 0 ∧ recvC xs = 1) := by unfold Hid decN recvC; simp [h]
    go_enter Try.func75, Try.ntmps75
    go_wp2_with (first | (go_at_call 126; refine (isReceived_any _ _ _ xs _ (by omega) hr).mono ?_; rintro e w' ⟨rfl, rfl⟩) | fail)
    go_ret2
    exact ⟨by rw [e1.out.1, e1.out.2]; rfl, Below.refl _ _⟩

set_option maxHeartbeats 1000000 in
theorem implCountNearest_any (A : Option Addr) (n c : Nat) (xs : List Int) (w : World) (hn : n ≤ 1048576) (hc : n ≤ c) (hr : Rd w A n (ints xs)) :
    Calls Try.prog 56 #[.slice A n c] w (fun e w' => e = .returned (.tuple #[.int .i64 (cntN xs), .int .i64 (recvC xs)]) ∧ Below w.heap.size w w') := by
  rcases Bool.eq_false_or_eq_true (recvOk xs) with h | h
  · obtain ⟨m, rfl, hm, hm2, hmm⟩ := recv_half h hr.len
    have e1 : Hid (cntN xs = (vit xs m m 0).2 ∧ recvC xs = 0) := by unfold Hid cntN recvC; simp [h, hmm]
    clear hmm
    go_enter Try.func56, Try.ntmps56
    go_wp2_with (first | (go_at_call 126; refine (isReceived_any _ _ _ xs _ (by omega) hr).mono ?_; rintro e w' ⟨rfl, rfl⟩) | fail)
    refine (rests_any A m c xs _ hm hm2 hc hr).mono ?_
    rintro e w1 ⟨rfl, hT, hb1⟩
    have c0 := (hT.cell (t' := 0) (s := 0) (by omega) (by omega) (by omega)).2
    simp only [Nat.zero_mul, Nat.zero_add, Nat.add_zero] at c0
    unfold vitT at c0
    clear hT
    go_wp2
    go_ret2
    exact ⟨by rw [e1.out.1, e1.out.2]; rfl, hb1⟩
  · have e1 : Hid (cntN xs = 0 ∧ recvC xs = 1) := by unfold Hid cntN recvC; simp [h]
    go_enter Try.func56, Try.ntmps56
    go_wp2_with (first | (go_at_call 126; refine (isReceived_any _ _ _ xs _ (by omega) hr).mono ?_; rintro e w' ⟨rfl, rfl⟩) | fail)
    go_ret2
    exact ⟨by rw [e1.out.1, e1.out.2]; rfl, Below.refl _ _⟩

set_option maxHeartbeats 1000000 in
theorem implIsSingle_any (A : Option Addr) (n c : Nat) (xs : List Int) (w : World) (hn : n ≤ 1048576) (hc : n ≤ c) (hr : Rd w A n (ints xs)) :
    Calls Try.prog 58 #[.slice A n c] w (fun e w' => e = .returned (.tuple #[.bool (sglB xs), .int .i64 (recvC xs)]) ∧ Below w.heap.size w w') := by
  rcases Bool.eq_false_or_eq_true (recvOk xs) with h | h
  · obtain ⟨m, rfl, hm, hm2, hmm⟩ := recv_half h hr.len
    have e1 : Hid (sglB xs = ((vit xs m m 0).2 == 1) ∧ recvC xs = 0) := by unfold Hid sglB recvC; simp [h, hmm]
    clear hmm
    go_enter Try.func58, Try.ntmps58
    go_wp2_with (first | (go_at_call 126; refine (isReceived_any _ _ _ xs _ (by omega) hr).mono ?_; rintro e w' ⟨rfl, rfl⟩) | fail)
    refine (rests_any A m c xs _ hm hm2 hc hr).mono ?_
    rintro e w1 ⟨rfl, hT, hb1⟩
    have c0 := (hT.cell (t' := 0) (s := 0) (by omega) (by omega) (by omega)).2
    simp only [Nat.zero_mul, Nat.zero_add, Nat.add_zero] at c0
    unfold vitT at c0
    clear hT
    go_wp2
    go_ret2
    exact ⟨by rw [e1.out.1, e1.out.2]; rfl, hb1⟩
  · have e1 : Hid (sglB xs = false ∧ recvC xs = 1) := by unfold Hid sglB recvC; simp [h]
    go_enter Try.func58, Try.ntmps58
    go_wp2_with (first | (go_at_call 126; refine (isReceived_any _ _ _ xs _ (by omega) hr).mono ?_; rintro e w' ⟨rfl, rfl⟩) | fail)
    go_ret2
    exact ⟨by rw [e1.out.1, e1.out.2]; rfl, Below.refl _ _⟩

set_option maxHeartbeats 1000000 in
theorem specCountNearest_any (A : Option Addr) (n c : Nat) (xs : List Int) (w : World) (hn : n ≤ 1048576) (hc : n ≤ c) (hr : Rd w A n (ints xs)) :
    Calls Try.prog 57 #[.slice A n c] w (fun e w' => e = .returned (.tuple #[.int .i64 (cntN xs), .int .i64 (recvC xs)]) ∧ Below w.heap.size w w') := by
  rcases Bool.eq_false_or_eq_true (recvOk xs) with h | h
  · obtain ⟨m, rfl, hm, hm2, hmm⟩ := recv_half h hr.len
    have e1 : Hid (cntN xs = (vit xs m m 0).2 ∧ recvC xs = 0) := by unfold Hid cntN recvC; simp [h, hmm]
    clear hmm
    go_enter Try.func57, Try.ntmps57
    go_wp2_with (first | (go_at_call 128; refine (l28Received_any _ _ _ xs _ (by omega) hr).mono ?_; rintro e w' ⟨rfl, rfl⟩) | fail)
    refine (l28Count_any A m c xs _ hm hm2 hr).mono ?_
    rintro e w1 ⟨rfl, hb1⟩
    go_wp2
    go_ret2
    exact ⟨by rw [e1.out.1, e1.out.2]; rfl, hb1⟩
  · have e1 : Hid (cntN xs = 0 ∧ recvC xs = 1) := by unfold Hid cntN recvC; simp [h]
    go_enter Try.func57, Try.ntmps57
    go_wp2_with (first | (go_at_call 128; refine (l28Received_any _ _ _ xs _ (by omega) hr).mono ?_; rintro e w' ⟨rfl, rfl⟩) | fail)
    go_ret2
    exact ⟨by rw [e1.out.1, e1.out.2]; rfl, Below.refl _ _⟩

set_option maxHeartbeats 1000000 in
theorem specIsSingle_any (A : Option Addr) (n c : Nat) (xs : List Int) (w : World) (hn : n ≤ 1048576) (hc : n ≤ c) (hr : Rd w A n (ints xs)) :
    Calls Try.prog 59 #[.slice A n c] w (fun e w' => e = .returned (.tuple #[.bool (sglB xs), .int .i64 (recvC xs)]) ∧ Below w.heap.size w w') := by
  rcases Bool.eq_false_or_eq_true (recvOk xs) with h | h
  · obtain ⟨m, rfl, hm, hm2, hmm⟩ := recv_half h hr.len
    have e1 : Hid (sglB xs = ((vit xs m m 0).2 == 1) ∧ recvC xs = 0) := by unfold Hid sglB recvC; simp [h, hmm]
    clear hmm
    go_enter Try.func59, Try.ntmps59
    go_wp2_with (first | (go_at_call 128; refine (l28Received_any _ _ _ xs _ (by omega) hr).mono ?_; rintro e w' ⟨rfl, rfl⟩) | fail)
    refine (l28Count_any A m c xs _ hm hm2 hr).mono ?_
    rintro e w1 ⟨rfl, hb1⟩
    go_wp2
    go_ret2
    exact ⟨by rw [e1.out.1, e1.out.2]; rfl, hb1⟩
  · have e1 : Hid (sglB xs = false ∧ recvC xs = 1) := by unfold Hid sglB recvC; simp [h]
    go_enter Try.func59, Try.ntmps59
    go_wp2_with (first | (go_at_call 128; refine (l28Received_any _ _ _ xs _ (by omega) hr).mono ?_; rintro e w' ⟨rfl, rfl⟩) | fail)
    go_ret2
    exact ⟨by rw [e1.out.1, e1.out.2]; rfl, Below.refl _ _⟩

set_option maxHeartbeats 1000000 in
theorem specNearestCode_any (A : Option Addr) (n c : Nat) (xs : List Int) (w : World) (hn : n ≤ 1048576) (hc : n ≤ c) (hr : Rd w A n (ints xs)) :
    Calls Try.prog 85 #[.slice A n c] w (RetIC (ncodeR xs) (recvC xs) w) := by
  rcases Bool.eq_false_or_eq_true (recvOk xs) with h | h
  · obtain ⟨m, rfl, hm, hm2, hmm⟩ := recv_half h hr.len
    have e1 : Hid (ncodeR xs = enc (dec xs m (m - 2)) ∧ recvC xs = 0) := by unfold Hid ncodeR recvC; simp [h, hmm]
    clear hmm
    go_enter Try.func85, Try.ntmps85
    go_wp2_with (first | (go_at_call 128; refine (l28Received_any _ _ _ xs _ (by omega) hr).mono ?_; rintro e w' ⟨rfl, rfl⟩) | fail)
    refine (l28Decode_any A m c xs _ hm hm2 hr).mono ?_
    rintro e w1 ⟨B, k, d, rfl, hB, hwB, _, hk, hb1⟩
    have hkl : k = m - 2 := by have := hB.len; rw [dec_length] at this; omega
    have HK := Lib.hid hkl
    clear hkl
    go_wp2_with fail
    refine (l27Encode_any B k d (dec xs m (m - 2)) _ (by have := HK.out; omega) hB (dec_bits _ _ _)).mono ?_
    rintro e w2 ⟨v, rfl, hown, hb2⟩
    obtain ⟨C, d2, rfl, hrd, hwr, _, _⟩ := own_rd hown
    go_wp2
    go_ret2
    exact ⟨C, _, d2, by rw [e1.out.2]; rfl, by rw [e1.out.1]; exact hrd, hwr.mono hb1.size, by have := HK.out; omega, bnext hb1 hb2⟩
  · have e1 : Hid (ncodeR xs = [] ∧ recvC xs = 1) := by unfold Hid ncodeR recvC; simp [h]
    go_enter Try.func85, Try.ntmps85
    go_wp2_with (first | (go_at_call 128; refine (l28Received_any _ _ _ xs _ (by omega) hr).mono ?_; rintro e w' ⟨rfl, rfl⟩) | fail)
    go_ret2
    rw [e1.out.1, e1.out.2]; exact retIC_nil (Below.refl _ _)

set_option maxHeartbeats 1000000 in
theorem implNearestCode_any (A : Option Addr) (n c : Nat) (xs : List Int) (w : World) (hn : n ≤ 1048576) (hc : n ≤ c) (hr : Rd w A n (ints xs)) :
    Calls Try.prog 80 #[.slice A n c] w (RetIC (ncodeR xs) (recvC xs) w) := by
  rcases Bool.eq_false_or_eq_true (recvOk xs) with h | h
  · obtain ⟨m, rfl, hm, hm2, hmm⟩ := recv_half h hr.len
    have e1 : Hid (ncodeR xs = enc (dec xs m (m - 2)) ∧ recvC xs = 0) := by unfold Hid ncodeR recvC; simp [h, hmm]
    clear hmm
    go_enter Try.func80, Try.ntmps80
    go_wp2_with (first | (go_at_call 126; refine (isReceived_any _ _ _ xs _ (by omega) hr).mono ?_; rintro e w' ⟨rfl, rfl⟩) | fail)
    refine (decode_any A m c xs _ hm hm2 hc hr).mono ?_
    rintro e w1 ⟨B, k, d, rfl, hB, hwB, _, hk, hb1⟩
    have hkl : k = m - 2 := by have := hB.len; rw [dec_length] at this; omega
    have HK := Lib.hid hkl
    clear hkl
    go_wp2_with fail
    refine (encode_any B k d (dec xs m (m - 2)) _ (by have := HK.out; omega) hB (dec_bits _ _ _)).mono ?_
    rintro e w2 ⟨v, rfl, hown, hb2⟩
    obtain ⟨C, d2, rfl, hrd, hwr, _, _⟩ := own_rd hown
    go_wp2
    go_ret2
    exact ⟨C, _, d2, by rw [e1.out.2]; rfl, by rw [e1.out.1]; exact hrd, hwr.mono hb1.size, by have := HK.out; omega, bnext hb1 hb2⟩
  · have e1 : Hid (ncodeR xs = [] ∧ recvC xs = 1) := by unfold Hid ncodeR recvC; simp [h]
    go_enter Try.func80, Try.ntmps80
    go_wp2_with (first | (go_at_call 126; refine (isReceived_any _ _ _ xs _ (by omega) hr).mono ?_; rintro e w' ⟨rfl, rfl⟩) | fail)
    go_ret2
    rw [e1.out.1, e1.out.2]; exact retIC_nil (Below.refl _ _)

def punOk (xs : List Int) (k : Int) : Bool := inR k 0 300 && (okList xs 604 0 1 && fillOk xs (2 * (k + 2)))
def punC (xs : List Int) (k : Int) : Int := if inR k 0 300 = true then fillC xs (2 * (k + 2)) else 2
def punR (xs : List Int) (k : Int) : List Int := if punOk xs k = true then dec (fillP xs (2 * (k + 2)).toNat) (k + 2).toNat k.toNat else []
def punN (xs : List Int) (k : Int) : Int := if punOk xs k = true then (vit (fillP xs (2 * (k + 2)).toNat) (k + 2).toNat (k + 2).toNat 0).1 else 0
theorem fillP_length (xs : List Int) (k : Nat) : (fillP xs k).length = k := by unfold fillP; simp

set_option maxHeartbeats 1000000 in
theorem specDecodePunctured_any (A : Option Addr) (n c : Nat) (xs : List Int) (k : Int) (w : World) (hn : n ≤ 1048576) (hr : Rd w A n (ints xs)) :
    Calls Try.prog 72 #[.slice A n c, .int .i64 k] w (RetIIC (punR xs k) (punN xs k) (punC xs k) w) := by
  rcases Bool.eq_false_or_eq_true (inR k 0 300) with h | h
  · have hb := inR_true h
    obtain ⟨K, rfl⟩ := Int.eq_ofNat_of_zero_le hb.1
    rcases Bool.eq_false_or_eq_true (okList xs 604 0 1 && fillOk xs (2 * ((K : Int) + 2))) with h3 | h3
    · have hp : punOk xs K = true := by unfold punOk; rw [h, h3]; rfl
      have h3' := h3
      rw [Bool.and_eq_true] at h3'
      have e1 : Hid (punR xs K = dec (fillP xs (2 * (K + 2))) (K + 2) K ∧ punN xs K = (vit (fillP xs (2 * (K + 2))) (K + 2) (K + 2) 0).1 ∧ punC xs K = 0) := by
        unfold Hid punR punN punC fillC
        rw [hp, h, h3'.1, h3'.2]
        simp only [if_true, Int.toNat_natCast]
        rw [show (2 * ((K : Int) + 2)).toNat = 2 * (K + 2) from by omega, show ((K : Int) + 2).toNat = K + 2 from by omega]
        exact ⟨rfl, rfl, trivial⟩
      have HF : Hid (fillR xs (2 * ((K : Int) + 2)) = fillP xs (2 * (K + 2)) ∧ fillC xs (2 * ((K : Int) + 2)) = 0) := by
        unfold Hid fillR fillC
        rw [h3'.1, h3'.2]
        simp only [if_true, and_self]
        rw [show (2 * ((K : Int) + 2)).toNat = 2 * (K + 2) from by omega]
        exact ⟨rfl, trivial⟩
      clear h3 h3' hp
      go_enter Try.func72, Try.ntmps72
      go_wp2_with (go_at_call 96; refine (l01In_any _ _ _ _).mono ?_; rintro e w' ⟨rfl, rfl⟩)
      refine (specFillPunctures_any A n c xs _ _ hn hr).mono ?_
      rintro e w1 ⟨B, q, d, rfl, hB, hwB, hq, hb1, hBd⟩
      rw [HF.out.2]
      rw [HF.out.1] at hB
      have hql : q = 2 * (K + 2) := by have := hB.len; rw [fillP_length] at this; omega
      subst hql
      go_wp2_with fail
      refine (l28Decode_any B (K + 2) d _ _ (by omega) (by omega) hB).mono ?_
      rintro e w2 ⟨C, k2, d2, rfl, hC, hwC, _, hk2, hb2⟩
      go_wp2
      go_ret3
      exact ⟨C, k2, d2, by rw [e1.out.2.1, e1.out.2.2]; rfl, by rw [e1.out.1]; exact hC, hwC.mono hb1.size, hk2, bnext hb1 hb2⟩
    · have hp : punOk xs K = false := by unfold punOk; rw [h, h3]; rfl
      have e1 : Hid (punR xs K = [] ∧ punN xs K = 0 ∧ punC xs K = fillC xs (2 * ((K : Int) + 2))) := by
        unfold Hid punR punN punC
        rw [hp, h]
        exact ⟨rfl, rfl, rfl⟩
      have hne : (fillC xs (2 * ((K : Int) + 2)) != 0) = true := by
        unfold fillC
        rcases Bool.eq_false_or_eq_true (okList xs 604 0 1) with h4 | h4
        · rw [h4, Bool.true_and] at h3
          rw [h4, h3]; rfl
        · rw [h4]; rfl
      clear h3 hp
      go_enter Try.func72, Try.ntmps72
      go_wp2_with (go_at_call 96; refine (l01In_any _ _ _ _).mono ?_; rintro e w' ⟨rfl, rfl⟩)
      refine (specFillPunctures_any A n c xs _ _ hn hr).mono ?_
      rintro e w1 ⟨B, q, d, rfl, hB, hwB, hq, hb1, hBd⟩
      go_wp2
      go_ret3
      rw [e1.out.1, e1.out.2.1, e1.out.2.2]; exact retIIC_nil hb1
  · have e1 : Hid (punR xs k = [] ∧ punN xs k = 0 ∧ punC xs k = 2) := by
      unfold Hid punR punN punC punOk
      rw [h]; exact ⟨rfl, rfl, rfl⟩
    go_enter Try.func72, Try.ntmps72
    go_wp2_with (go_at_call 96; refine (l01In_any _ _ _ _).mono ?_; rintro e w' ⟨rfl, rfl⟩)
    go_ret3
    rw [e1.out.1, e1.out.2.1, e1.out.2.2]; exact retIIC_nil (Below.refl _ _)

set_option maxHeartbeats 1000000 in
theorem implDecodePunctured_any (A : Option Addr) (n c : Nat) (xs : List Int) (k : Int) (w : World) (hn : n ≤ 1048576) (hr : Rd w A n (ints xs)) :
    Calls Try.prog 71 #[.slice A n c, .int .i64 k] w (RetIIC (punR xs k) (punN xs k) (punC xs k) w) := by
  rcases Bool.eq_false_or_eq_true (inR k 0 300) with h | h
  · have hb := inR_true h
    obtain ⟨K, rfl⟩ := Int.eq_ofNat_of_zero_le hb.1
    rcases Bool.eq_false_or_eq_true (okList xs 604 0 1 && fillOk xs (2 * ((K : Int) + 2))) with h3 | h3
    · have hp : punOk xs K = true := by unfold punOk; rw [h, h3]; rfl
      have h3' := h3
      rw [Bool.and_eq_true] at h3'
      have e1 : Hid (punR xs K = dec (fillP xs (2 * (K + 2))) (K + 2) K ∧ punN xs K = (vit (fillP xs (2 * (K + 2))) (K + 2) (K + 2) 0).1 ∧ punC xs K = 0) := by
        unfold Hid punR punN punC fillC
        rw [hp, h, h3'.1, h3'.2]
        simp only [if_true, Int.toNat_natCast]
        rw [show (2 * ((K : Int) + 2)).toNat = 2 * (K + 2) from by omega, show ((K : Int) + 2).toNat = K + 2 from by omega]
        exact ⟨rfl, rfl, trivial⟩
      have HF : Hid (fillR xs (2 * ((K : Int) + 2)) = fillP xs (2 * (K + 2)) ∧ fillC xs (2 * ((K : Int) + 2)) = 0) := by
        unfold Hid fillR fillC
        rw [h3'.1, h3'.2]
        simp only [if_true, and_self]
        rw [show (2 * ((K : Int) + 2)).toNat = 2 * (K + 2) from by omega]
        exact ⟨rfl, trivial⟩
      clear h3 h3' hp
      go_enter Try.func71, Try.ntmps71
      go_wp2_with (go_at_call 99; refine (within_any _ _ _ _).mono ?_; rintro e w' ⟨rfl, rfl⟩)
      refine (implFillPunctures_any A n c xs _ _ hn hr).mono ?_
      rintro e w1 ⟨B, q, d, rfl, hB, hwB, hq, hb1, hBd⟩
      rw [HF.out.2]
      rw [HF.out.1] at hB
      have hql : q = 2 * (K + 2) := by have := hB.len; rw [fillP_length] at this; omega
      subst hql
      go_wp2_with fail
      refine (decode_any B (K + 2) d _ _ (by omega) (by omega) hBd hB).mono ?_
      rintro e w2 ⟨C, k2, d2, rfl, hC, hwC, _, hk2, hb2⟩
      go_wp2
      go_ret3
      exact ⟨C, k2, d2, by rw [e1.out.2.1, e1.out.2.2]; rfl, by rw [e1.out.1]; exact hC, hwC.mono hb1.size, hk2, bnext hb1 hb2⟩
    · have hp : punOk xs K = false := by unfold punOk; rw [h, h3]; rfl
      have e1 : Hid (punR xs K = [] ∧ punN xs K = 0 ∧ punC xs K = fillC xs (2 * ((K : Int) + 2))) := by
        unfold Hid punR punN punC
        rw [hp, h]
        exact ⟨rfl, rfl, rfl⟩
      have hne : (fillC xs (2 * ((K : Int) + 2)) != 0) = true := by
        unfold fillC
        rcases Bool.eq_false_or_eq_true (okList xs 604 0 1) with h4 | h4
        · rw [h4, Bool.true_and] at h3
          rw [h4, h3]; rfl
        · rw [h4]; rfl
      clear h3 hp
      go_enter Try.func71, Try.ntmps71
      go_wp2_with (go_at_call 99; refine (within_any _ _ _ _).mono ?_; rintro e w' ⟨rfl, rfl⟩)
      refine (implFillPunctures_any A n c xs _ _ hn hr).mono ?_
      rintro e w1 ⟨B, q, d, rfl, hB, hwB, hq, hb1, hBd⟩
      go_wp2
      go_ret3
      rw [e1.out.1, e1.out.2.1, e1.out.2.2]; exact retIIC_nil hb1
  · have e1 : Hid (punR xs k = [] ∧ punN xs k = 0 ∧ punC xs k = 2) := by
      unfold Hid punR punN punC punOk
      rw [h]; exact ⟨rfl, rfl, rfl⟩
    go_enter Try.func71, Try.ntmps71
    go_wp2_with (go_at_call 99; refine (within_any _ _ _ _).mono ?_; rintro e w' ⟨rfl, rfl⟩)
    go_ret3
    rw [e1.out.1, e1.out.2.1, e1.out.2.2]; exact retIIC_nil (Below.refl _ _)
end Go.Proofs.Ytlgmdekhlcbhoaa
