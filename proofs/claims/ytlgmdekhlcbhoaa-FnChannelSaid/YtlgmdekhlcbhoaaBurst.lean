/- Bits of which some are inverted, and bursts: spec.BurstBits, impl.BurstBits and what they call. Condition: lists of at most 1048576 numbers. -/
import Derived.Test.YtlgmdekhlcbhoaaKern
namespace Go.Proofs.Ytlgmdekhlcbhoaa
open Go.RowKit

/-- The call has returned the list ys, in memory of its own. -/
def RetI (ys : List Int) (w : World) (e : Ending) (w' : World) : Prop :=
  ∃ B m d, e = .returned (.slice B m d) ∧ Rd w' B m (ints ys) ∧ Wr w' w.heap.size B m ∧ m ≤ 1048576 ∧ Below w.heap.size w w'
/-- .. and a bool. -/
def RetIB (ys : List Int) (b : Bool) (w : World) (e : Ending) (w' : World) : Prop :=
  ∃ B m d, e = .returned (.tuple #[.slice B m d, .bool b]) ∧ Rd w' B m (ints ys) ∧ Wr w' w.heap.size B m ∧ m ≤ 1048576 ∧ Below w.heap.size w w'

def damage (xs ps : List Int) : List Int := ps.foldl (fun a p => a.set p.toNat (1 - a.getD p.toNat 0)) xs
theorem damage_snoc (xs ps : List Int) (p : Int) : damage xs (ps ++ [p]) = (damage xs ps).set p.toNat (1 - (damage xs ps).getD p.toNat 0) := by
  unfold damage; rw [List.foldl_append]; rfl
theorem damage_take (xs ps : List Int) {k : Nat} (hk : k < ps.length) : damage xs (ps.take (k + 1)) = (damage xs (ps.take k)).set (ps.getD k 0).toNat (1 - (damage xs (ps.take k)).getD (ps.getD k 0).toNat 0) := by
  rw [List.take_succ_eq_append_getElem hk, damage_snoc, getD_at hk]
theorem damage_length (xs ps : List Int) : (damage xs ps).length = xs.length := by
  unfold damage
  induction ps generalizing xs with
  | nil => rfl
  | cons p r ih => rw [List.foldl_cons, ih, List.length_set]
theorem allIn_set {xs : List Int} (h : allIn xs 0 1 = true) (k : Nat) {x : Int} (h0 : 0 ≤ x) (h1 : x ≤ 1) : allIn (xs.set k x) 0 1 = true := by
  unfold allIn
  rw [List.all_eq_true]
  intro y hy
  rcases List.mem_or_eq_of_mem_set hy with hy | rfl
  · have := allIn_true h hy; exact inR_mk this.1 this.2
  · exact inR_mk h0 h1
theorem getD_bit {xs : List Int} (h : allIn xs 0 1 = true) (k : Nat) : 0 ≤ xs.getD k 0 ∧ xs.getD k 0 ≤ 1 := by
  rcases Nat.lt_or_ge k xs.length with hk | hk
  · exact allIn_getD h hk
  · simp [List.getElem?_eq_none hk]
theorem damage_bits {xs : List Int} (h : allIn xs 0 1 = true) (ps : List Int) : allIn (damage xs ps) 0 1 = true := by
  unfold damage
  induction ps generalizing xs with
  | nil => exact h
  | cons p r ih =>
    have := getD_bit h p.toNat
    exact ih (allIn_set h _ (by omega) (by omega))

set_option maxHeartbeats 1000000 in
theorem l25Damage_any (A P : Option Addr) (n c q d : Nat) (xs ps : List Int) (w : World) (hn : n ≤ 1048576) (hq : q ≤ 2097152) (hr : Rd w A n (ints xs)) (hp : Rd w P q (ints ps)) (hb : allIn xs 0 1 = true)
    (hin : ∀ p ∈ ps, 0 ≤ p ∧ p < (n : Int)) :
    Calls Try.prog 121 #[.slice A n c, .slice P q d] w (RetI (damage xs ps) w) := by
  have HL := Lib.hid hr.len
  have HQ := Lib.hid hp.len
  have HB := Lib.hid hb
  have HI := Lib.hid hin
  clear hb hin
  go_enter Try.func121, Try.ntmps121
  go_wp2_with (first | (go_at_call 163; refine (l01Own_any _ _ _ xs _ (by omega) hr).mono ?_; rintro e w1 ⟨v, rfl, hown, hb1⟩; obtain ⟨B, c1, rfl, hrd, hwr, _, _⟩ := own_rd hown))
  go_loopw [6] (fun i wr => ∃ k : Nat, k ≤ q ∧ i = .int .i64 k ∧ Rd wr B n (ints (damage xs (ps.take k))) ∧ Wr wr w.heap.size B n ∧ Below w.heap.size w wr)
    (fun i _ => q - (intOf i).toNat)
  case atStart => exact ⟨0, Nat.zero_le _, rfl, hrd, hwr, hb1⟩
  case round =>
    clear hown hrd hwr hb1
    obtain ⟨k, hk, rfl, hrd, hwr, hbel⟩ := hrel
    by_cases hlt : k < q
    · have hkl : k < ps.length := by rw [HQ.out]; exact hlt
      obtain ⟨pd, rfl, hx⟩ := (hp.below hbel).int hlt
      have hpin := HI.out (ps.getD k 0) (by rw [getD_at hkl]; exact List.getElem_mem hkl)
      have HM := Lib.hid (damage_take xs ps hkl)
      generalize ps.getD k 0 = p at *
      obtain ⟨j, rfl⟩ := Int.eq_ofNat_of_zero_le hpin.1
      have hj : j < n := by omega
      rw [Int.toNat_natCast] at HM
      obtain ⟨ad, rfl, hy⟩ := hrd.int hj
      have hbd := getD_bit (damage_bits HB.out (ps.take k)) j
      obtain ⟨_, ⟨⟩, hbase, hfr⟩ := hwr (by omega)
      have hf := hfr j hj
      have HF := Lib.hid hfr
      clear hfr hpin
      generalize (damage xs (ps.take k)).getD j 0 = y at *
      go_wp2
      go_region
      all_goals
        go_wp2
        go_roundw
        case rel => exact ⟨k + 1, by omega, by go_num, by rw [HM.out]; exact hrd.seti hj rfl, hwr.set_ _, Below.drew (hbel.setCell (by rw [block_of_add]; exact hbase) _)⟩
        case measure => simp [intOf]; omega
    · obtain rfl : k = q := by omega
      go_wp2
      go_ret
      exact ⟨B, n, c1, rfl, by rw [List.take_of_length_le (by rw [HQ.out]; exact Nat.le_refl _)] at hrd; exact hrd, hwr, hn, hbel⟩

/-- The places of a burst. -/
def bplaces (f : Int) (k : Nat) : List Int := (List.range k).map fun i : Nat => f + (i : Int)
def burstOk (n : Nat) (f s : Int) : Bool := inR s 0 n && inR f 0 ((n : Int) - s)
theorem burstOk_spec (n : Nat) (f s : Int) : (inR f 0 n && inR s 0 ((n : Int) - f)) = burstOk n f s := by
  unfold burstOk inR
  rw [Bool.eq_iff_iff]
  simp
  omega
def burstR (xs : List Int) (f s : Int) : List Int := if okList xs 1200 0 1 = true ∧ burstOk xs.length f s = true then damage xs (bplaces f s.toNat) else []
def burstC (xs : List Int) (f s : Int) : Int := if okList xs 1200 0 1 = true then (if burstOk xs.length f s = true then 0 else 2) else 1

set_option maxHeartbeats 1000000 in
theorem l30Burst_yes (n : Nat) (f s : Int) (w : World) (hn : n ≤ 1048576) (hok : burstOk n f s = true) :
    Calls Try.prog 103 #[.int .i64 n, .int .i64 f, .int .i64 s] w (RetIB (bplaces f s.toNat) true w) := by
  rw [← burstOk_spec, Bool.and_eq_true] at hok
  obtain ⟨h1, h2⟩ := hok
  have b1 := inR_true h1
  have b2 := inR_true h2
  obtain ⟨m, rfl⟩ := Int.eq_ofNat_of_zero_le b2.1
  rw [Int.toNat_natCast]
  go_enter Try.func103, Try.ntmps103
  go_wp2_with (first | (go_at_call 96; refine (l01In_any _ _ _ _).mono ?_; rintro e w' ⟨rfl, rfl⟩))
  go_loopw [8, 9] (fun o i wr => ∃ k : Nat, k ≤ m ∧ i = .int .i64 k ∧ wr.ownsRow w.heap.size 2 1 o k (ints (bplaces f k)) ∧ Below w.heap.size w wr)
    (fun _ i _ => m - (intOf i).toNat)
  case atStart => exact ⟨0, Nat.zero_le _, rfl, own_empty w _, (Below.refl _ _).alloc (Nat.le_refl _) _⟩
  case round =>
    obtain ⟨k, hk, rfl, hown, hbel⟩ := hrel
    by_cases hlt : k < m
    · have HM : Hid (bplaces f (k + 1) = bplaces f k ++ [f + (k : Int)]) := range_map_snoc _ k
      have hsz := hbel.size
      clear h1 h2
      go_wp2_with (at_builtin; refine wpList_append_int1 rfl _ _ rfl w.heap.size _ k (bplaces f k) rfl rfl hown (by omega) hsz ?_; intro v' w' hown' hbel' _ _)
      go_roundw
      case rel => exact ⟨k + 1, by omega, by go_num, by rw [HM.out]; exact hown', hbel.trans hbel'⟩
      case measure => simp [intOf]; omega
    · obtain rfl : k = m := by omega
      obtain ⟨B, d, rfl, hrd, hwr, _, _⟩ := own_rd hown
      clear h1 h2
      go_wp2
      go_ret2
      exact ⟨B, k, d, rfl, hrd, hwr, by omega, hbel⟩
set_option maxHeartbeats 1000000 in
theorem l30Burst_no (n : Nat) (f s : Int) (w : World) (hn : n ≤ 1048576) (hok : burstOk n f s = false) :
    Calls Try.prog 103 #[.int .i64 n, .int .i64 f, .int .i64 s] w fun e w' => e = .returned (.tuple #[.slice none 0 0, .bool false]) ∧ w = w' := by
  rw [← burstOk_spec] at hok
  rcases Bool.eq_false_or_eq_true (inR f 0 n) with h1 | h1
  · have b1 := inR_true h1
    rw [h1, Bool.true_and] at hok
    go_enter Try.func103, Try.ntmps103
    go_wp2_with (first | (go_at_call 96; refine (l01In_any _ _ _ _).mono ?_; rintro e w' ⟨rfl, rfl⟩))
    go_ret2
    exact ⟨rfl, rfl⟩
  · clear hok
    go_enter Try.func103, Try.ntmps103
    go_wp2_with (first | (go_at_call 96; refine (l01In_any _ _ _ _).mono ?_; rintro e w' ⟨rfl, rfl⟩))
    go_ret2
    exact ⟨rfl, rfl⟩

set_option maxHeartbeats 1000000 in
theorem isBurst_any (n : Nat) (f s : Int) (w : World) (hn : n ≤ 1048576) :
    Calls Try.prog 106 #[.int .i64 f, .int .i64 s, .int .i64 n] w fun e w' => e = .returned (.bool (burstOk n f s)) ∧ w = w' := by
  rcases Bool.eq_false_or_eq_true (inR s 0 n) with h1 | h1
  · have b1 := inR_true h1
    have HE : Hid (burstOk n f s = inR f 0 ((n : Int) - s)) := by unfold Hid burstOk; rw [h1, Bool.true_and]
    go_enter Try.func106, Try.ntmps106
    go_wp2_with (first | (go_at_call 99; refine (within_any _ _ _ _).mono ?_; rintro e w' ⟨rfl, rfl⟩))
    go_ret
    exact ⟨ret_bool (by rw [HE.out]), rfl⟩
  · have HE : Hid (burstOk n f s = false) := by unfold Hid burstOk; rw [h1, Bool.false_and]
    go_enter Try.func106, Try.ntmps106
    go_wp2_with (first | (go_at_call 99; refine (within_any _ _ _ _).mono ?_; rintro e w' ⟨rfl, rfl⟩))
    go_ret
    exact ⟨ret_bool (by rw [HE.out]), rfl⟩

set_option maxHeartbeats 1000000 in
theorem burst_any (A : Option Addr) (n c : Nat) (xs : List Int) (f s : Int) (w : World) (hn : n ≤ 1048576) (hr : Rd w A n (ints xs)) (hb : allIn xs 0 1 = true) (hok : burstOk n f s = true) :
    Calls Try.prog 107 #[.slice A n c, .int .i64 f, .int .i64 s] w (RetI (damage xs (bplaces f s.toNat)) w) := by
  have HL := Lib.hid hr.len
  have HB := Lib.hid hb
  clear hb
  unfold burstOk at hok
  rw [Bool.and_eq_true] at hok
  have b1 := inR_true hok.1
  have b2 := inR_true hok.2
  clear hok
  obtain ⟨m, rfl⟩ := Int.eq_ofNat_of_zero_le b1.1
  obtain ⟨p, rfl⟩ := Int.eq_ofNat_of_zero_le b2.1
  rw [Int.toNat_natCast]
  go_enter Try.func107, Try.ntmps107
  go_wp2_with (first | (go_at_call 120; refine (clone_any _ _ _ xs _ (by omega) hr).mono ?_; rintro e w1 ⟨v, rfl, hown, hb1⟩; obtain ⟨B, c1, rfl, hrd, hwr, _, _⟩ := own_rd hown))
  go_loopw [8] (fun i wr => ∃ k : Nat, k ≤ m ∧ i = .int .i64 ((p : Int) + (k : Int)) ∧ Rd wr B n (ints (damage xs (bplaces p k))) ∧ Wr wr w.heap.size B n ∧ Below w.heap.size w wr)
    (fun i _ => m + p - (intOf i).toNat)
  case atStart => exact ⟨0, Nat.zero_le _, by go_num, hrd, hwr, hb1⟩
  case round =>
    clear hown hrd hwr hb1
    obtain ⟨k, hk, rfl, hrd, hwr, hbel⟩ := hrel
    by_cases hlt : k < m
    · have HM : Hid (damage xs (bplaces p (k + 1)) = (damage xs (bplaces p k)).set (p + k) (1 - (damage xs (bplaces p k)).getD (p + k) 0)) := by
        unfold Hid bplaces
        rw [range_map_snoc, damage_snoc]
        rfl
      have hj : p + k < n := by omega
      obtain ⟨ad, rfl, hy⟩ := hrd.int hj
      have hbd := getD_bit (damage_bits HB.out (bplaces p k)) (p + k)
      obtain ⟨_, ⟨⟩, hbase, hfr⟩ := hwr (by omega)
      have hf := hfr (p + k) hj
      have HF := Lib.hid hfr
      clear hfr
      generalize (damage xs (bplaces p k)).getD (p + k) 0 = y at *
      go_wp2
      go_roundw
      case rel => exact ⟨k + 1, by omega, by go_num, by rw [HM.out]; exact hrd.seti hj rfl, hwr.set_ _, hbel.setCell (by rw [block_of_add]; exact hbase) _⟩
      case measure => simp [intOf]; omega
    · obtain rfl : k = m := by omega
      go_wp2
      go_ret
      exact ⟨B, n, c1, rfl, hrd, hwr, hn, hbel⟩

set_option maxHeartbeats 1000000 in
theorem specBurstBits_any (A : Option Addr) (n c : Nat) (xs : List Int) (f s : Int) (w : World) (hn : n ≤ 1048576) (hr : Rd w A n (ints xs)) :
    Calls Try.prog 51 #[.slice A n c, .int .i64 f, .int .i64 s] w (RetIC (burstR xs f s) (burstC xs f s) w) := by
  have HL := Lib.hid hr.len
  rcases Bool.eq_false_or_eq_true (okList xs 1200 0 1) with h1 | h1
  · rcases Bool.eq_false_or_eq_true (burstOk n f s) with h2 | h2
    · have e1 : Hid (burstR xs f s = damage xs (bplaces f s.toNat) ∧ burstC xs f s = 0) := by unfold Hid burstR burstC; rw [HL.out]; simp [h1, h2]
      have HB := Lib.hid (okList_true h1).2
      have HI : Hid (∀ p ∈ bplaces f s.toNat, 0 ≤ p ∧ p < (n : Int)) := by
        intro p hp
        unfold burstOk at h2
        rw [Bool.and_eq_true] at h2
        have b1 := inR_true h2.1
        have b2 := inR_true h2.2
        unfold bplaces at hp
        rw [List.mem_map] at hp
        obtain ⟨i, hi, rfl⟩ := hp
        rw [List.mem_range] at hi
        omega
      have H2 := Lib.hid h2
      clear h2
      go_enter Try.func51, Try.ntmps51
      go_wp2_with (first | (go_at_call 92; refine (l25Bits_any _ _ _ xs _ (by omega) hr).mono ?_; rintro e w' ⟨rfl, rfl⟩) | fail)
      refine (l30Burst_yes n f s _ hn H2.out).mono ?_
      rintro e w1 ⟨P, q, d, rfl, hP, hwP, hq, hb1⟩
      go_wp2_with fail
      refine (l25Damage_any A P n c q d xs _ _ hn (by omega) (hr.below hb1) hP HB.out HI.out).mono ?_
      rintro e w2 ⟨B, m, c2, rfl, hB, hwB, hm, hb2⟩
      go_wp2
      go_ret2
      exact ⟨B, m, c2, by rw [e1.out.2]; rfl, by rw [e1.out.1]; exact hB, hwB.mono hb1.size, hm, bnext hb1 hb2⟩
    · have e1 : Hid (burstR xs f s = [] ∧ burstC xs f s = 2) := by unfold Hid burstR burstC; rw [HL.out]; simp [h1, h2]
      have H2 := Lib.hid h2
      clear h2
      go_enter Try.func51, Try.ntmps51
      go_wp2_with (first | (go_at_call 92; refine (l25Bits_any _ _ _ xs _ (by omega) hr).mono ?_; rintro e w' ⟨rfl, rfl⟩) | fail)
      refine (l30Burst_no n f s _ hn H2.out).mono ?_
      rintro e w1 ⟨rfl, rfl⟩
      go_wp2
      go_ret2
      rw [e1.out.1, e1.out.2]; exact retIC_nil (Below.refl _ _)
  · have e1 : Hid (burstR xs f s = [] ∧ burstC xs f s = 1) := by unfold Hid burstR burstC; simp [h1]
    go_enter Try.func51, Try.ntmps51
    go_wp2_with (first | (go_at_call 92; refine (l25Bits_any _ _ _ xs _ (by omega) hr).mono ?_; rintro e w' ⟨rfl, rfl⟩))
    go_ret2
    rw [e1.out.1, e1.out.2]; exact retIC_nil (Below.refl _ _)

set_option maxHeartbeats 1000000 in
theorem implBurstBits_any (A : Option Addr) (n c : Nat) (xs : List Int) (f s : Int) (w : World) (hn : n ≤ 1048576) (hr : Rd w A n (ints xs)) :
    Calls Try.prog 50 #[.slice A n c, .int .i64 f, .int .i64 s] w (RetIC (burstR xs f s) (burstC xs f s) w) := by
  have HL := Lib.hid hr.len
  rcases Bool.eq_false_or_eq_true (okList xs 1200 0 1) with h1 | h1
  · rcases Bool.eq_false_or_eq_true (burstOk n f s) with h2 | h2
    · have e1 : Hid (burstR xs f s = damage xs (bplaces f s.toNat) ∧ burstC xs f s = 0) := by unfold Hid burstR burstC; rw [HL.out]; simp [h1, h2]
      have HB := Lib.hid (okList_true h1).2
      have H2 := Lib.hid h2
      go_enter Try.func50, Try.ntmps50
      go_wp2_with (first | (go_at_call 94; refine (isBits_any _ _ _ xs _ _ (by omega) hr).mono ?_; rintro e w' ⟨rfl, rfl⟩) | (go_at_call 106; refine (isBurst_any _ _ _ _ hn).mono ?_; rintro e w' ⟨rfl, rfl⟩) | (go_at_call 107; refine (burst_any _ _ _ xs _ _ _ hn hr HB.out H2.out).mono ?_; rintro e w2 ⟨B, m, c2, rfl, hB, hwB, hm, hb2⟩))
      go_ret2
      exact ⟨B, m, c2, by rw [e1.out.2]; rfl, by rw [e1.out.1]; exact hB, hwB, hm, hb2⟩
    · have e1 : Hid (burstR xs f s = [] ∧ burstC xs f s = 2) := by unfold Hid burstR burstC; rw [HL.out]; simp [h1, h2]
      go_enter Try.func50, Try.ntmps50
      go_wp2_with (first | (go_at_call 94; refine (isBits_any _ _ _ xs _ _ (by omega) hr).mono ?_; rintro e w' ⟨rfl, rfl⟩) | (go_at_call 106; refine (isBurst_any _ _ _ _ hn).mono ?_; rintro e w' ⟨rfl, rfl⟩))
      go_ret2
      rw [e1.out.1, e1.out.2]; exact retIC_nil (Below.refl _ _)
  · have e1 : Hid (burstR xs f s = [] ∧ burstC xs f s = 1) := by unfold Hid burstR burstC; simp [h1]
    go_enter Try.func50, Try.ntmps50
    go_wp2_with (first | (go_at_call 94; refine (isBits_any _ _ _ xs _ _ (by omega) hr).mono ?_; rintro e w' ⟨rfl, rfl⟩))
    go_ret2
    rw [e1.out.1, e1.out.2]; exact retIC_nil (Below.refl _ _)
end Go.Proofs.Ytlgmdekhlcbhoaa
