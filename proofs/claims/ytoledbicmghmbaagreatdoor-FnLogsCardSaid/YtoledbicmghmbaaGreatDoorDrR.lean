/- The draws of a log's text, and records compared. Existential: some text of at most 20002 bytes. Condition: a code of at most 4096 bytes. -/
import Derived.Test.YtoledbicmghmbaaGreatDoorDrT
import Derived.Test.YtoledbicmghmbaaGreatDoorLgT
namespace Go.Proofs.YtoledbicmghmbaaGreatDoor
open Go.RowKit

set_option maxHeartbeats 1000000 in
theorem drawLogText_any (A : Option Addr) (n c : Nat) (bs : List Int) (w : World) (r : Rd w A n (byteV bs)) (hx : ∀ x ∈ bs, 0 ≤ x ∧ x ≤ 255) (hn : n ≤ 4096) :
    Calls Tryz.prog 5 #[.slice A n c] w fun e w' => ∃ (h : Hd) (xs : List Int), e = .returned (.slice h.A h.n h.c) ∧ h.n ≤ 60 ∧ h.n ≤ h.c ∧ Rd w' h.A (h.n * 7) (ints xs) ∧ Below w.heap.size w w' := by
  go_enter Tryz.func5, Tryz.ntmps5
  go_wp2_with fail
  refine (l01From_any A n c bs _ r hx hn).mono ?_
  rintro e w1 ⟨g, rfl, S1, b1⟩
  go_wp2_with fail
  refine (l31Draw_any _ g _ S1).mono ?_
  rintro e w2 ⟨⟨HA, hN, hC⟩, xs, rfl, h60, hnc, R, D⟩
  have b2 := D.fin b1
  go_wp2
  go_ret
  exact ⟨⟨HA, hN, hC⟩, xs, rfl, h60, hnc, R, b2⟩
theorem made_zero1 (n i : Nat) (hi : i < n) : (madeCells #[.int .u8 0] n)[i]? = some (.int .u8 0) := by
  unfold madeCells
  simp [hi, Nat.mod_one]
theorem run_make_u8 (n : Nat) (hn : n ≤ 1048576) (W : World) :
    (Instr.makeSlice 22 (.int .i64 (n : Int)) (.int .i64 (n : Int))).run Tryz.prog W = .ok (.slice (some ⟨W.heap.size, 0, none⟩) n n) (W.alloc (.cells (madeCells #[.int .u8 0] n) 5)) := by
  obtain ⟨i, h1, h2, h3, h4⟩ := u8_some
  have hr := run_make_rowN (P := Tryz.prog) 22 5 i _ Tryz.underlying22 h1 h2 .i64 .i64 n n (Nat.le_refl _) (by rw [h4]; omega) (by omega) W
  rw [h3, Nat.mul_one] at hr
  exact hr
theorem conv_zero (n : Nat) (W : World) : (convert 22 9 (.slice (some ⟨W.heap.size, 0, none⟩) n n)).run Tryz.prog (W.alloc (.cells (madeCells #[.int .u8 0] n) 5)) = .ok (.string ⟨(List.replicate n (0 : UInt8)).toArray⟩) (W.alloc (.cells (madeCells #[.int .u8 0] n) 5)) := by
  have h := run_convert_bytes_back (P := Tryz.prog) (W.alloc (.cells (madeCells #[.int .u8 0] n) 5)) 22 9 5 ⟨W.heap.size, 0, none⟩ n (List.replicate n (0 : UInt8)) Tryz.underlying22 Tryz.underlying5 Tryz.underlying9 (fun j hj => by
    rw [add_lit, (Blk.new W 5 _).cell, made_zero1 n j (by simpa using hj)]
    simp)
  rw [List.length_replicate] at h
  exact h

set_option maxRecDepth 100000 in
set_option maxHeartbeats 2000000 in
theorem drawRecoverLog_any (A : Option Addr) (n c : Nat) (bs : List Int) (w : World) (r : Rd w A n (byteV bs)) (hx : ∀ x ∈ bs, 0 ≤ x ∧ x ≤ 255) (hn : n ≤ 4096) :
    Calls Tryz.prog 8 #[.slice A n c] w fun e w' => ∃ u : Bs, e = .returned (.string ⟨u.toArray⟩) ∧ u.length ≤ 70000 ∧ Below w.heap.size w w' := by
  go_enter Tryz.func8, Tryz.ntmps8
  go_wp2_with fail
  refine (l01From_any A n c bs _ r hx hn).mono ?_
  rintro e w1 ⟨g, rfl, S1, b1⟩
  go_wp2_with fail
  refine (l31Draw_any _ g _ S1).mono ?_
  rintro e w2 ⟨⟨HA, hN, hC⟩, xs, rfl, h60, hnc, R, D2⟩
  simp only at h60 R
  go_wp2_with fail
  refine (specLogText_any HA hN hC xs _ (by omega) R).mono ?_
  rintro e w3 ⟨rfl, b3⟩
  have D3 := D2.bel b3
  have hl : (lgS xs hN).length ≤ 60000 := by
    unfold lgS
    split
    · have := lgT_len (logB_true (by assumption)).1 hN (Nat.le_refl _); omega
    · exact Nat.zero_le _
  generalize lgS xs hN = LT at *
  generalize lgC xs hN = cd at *
  clear D2 b3 R hnc
  go_wp2_with fail
  refine (l01Next_any _ g 8 _ D3.src (by decide)).mono ?_
  rintro e w4 ⟨q, rfl, q0, q1, g4, S4⟩
  have D4 := D3.next g4 S4
  clear D3 g4 S4
  by_cases h0 : q = 0 ∨ q = 1 ∨ q = 2
  · rcases h0 with rfl | rfl | rfl
    all_goals
      go_wp2_with fail
      refine (l01Damage_any _ g LT _ D4.src (by omega)).mono ?_
      rintro e w5 ⟨u, rfl, hu, D5⟩
      have b5 := (D4.next D5.gr D5.src).fin b1
      go_wp2
      go_ret
      exact ⟨u, rfl, by omega, b5⟩
  have e0 : (q == 0) = false := by rw [beq_eq_false_iff_ne]; omega
  have e1 : (q == 1) = false := by rw [beq_eq_false_iff_ne]; omega
  have e2 : (q == 2) = false := by rw [beq_eq_false_iff_ne]; omega
  clear h0
  by_cases h3 : q = 3
  rotate_left
  · have e3 : (q == 3) = false := by rw [beq_eq_false_iff_ne]; exact h3
    have b5 := D4.fin b1
    go_wp2
    go_ret
    exact ⟨LT, rfl, by omega, b5⟩
  subst h3
  clear e0 e1 e2
  go_wp2_with fail
  refine (l01Next_any _ g 4 _ D4.src (by decide)).mono ?_
  rintro e w5 ⟨q, rfl, q0, q1, g5, S5⟩
  have D5 := D4.next g5 S5
  clear D4 g5 S5
  by_cases h0 : q = 0
  rotate_left
  · have e0 : (q == 0) = false := by rw [beq_eq_false_iff_ne]; exact h0
    have b5 := D5.fin b1
    go_wp2
    go_ret
    exact ⟨LT, rfl, by omega, b5⟩
  subst h0
  go_wp2_with fail
  refine (l01Next_any _ g 2 _ D5.src (by decide)).mono ?_
  rintro e w6 ⟨q, rfl, q0, q1, g6, S6⟩
  have D6 := D5.next g6 S6
  obtain ⟨q, rfl⟩ := Int.eq_ofNat_of_zero_le q0
  have hq : q ≤ 1 := by omega
  have hmk := run_make_u8 (20000 + q) (by omega)
  have hcv := conv_zero (20000 + q) w6
  have DM := D6.alloc (.cells (madeCells #[.int .u8 0] (20000 + q)) 5)
  have hlr : (List.replicate (20000 + q) (0 : UInt8)).length ≤ 70000 := by rw [List.length_replicate]; omega
  have u1 : IntKind.i64.wrap (20000 + (q : Int)) = ((20000 + q : Nat) : Int) := by rw [IntWalk.i64_in _ (by omega)]; omega
  generalize 20000 + q = m at *
  generalize List.replicate m (0 : UInt8) = LR at *
  generalize madeCells #[.int .u8 0] m = cs at *
  have b7 := DM.fin b1
  clear D5 D6 g6 S6 DM
  go_wp2
  go_ret
  exact ⟨LR, rfl, hlr, b7⟩

set_option maxHeartbeats 1000000 in
theorem likeRecs_same (A B : Option Addr) (n c d : Nat) (xs : List Int) (w : World) (hn : n ≤ 1048576) (ha : Rd w A (n * 7) (ints xs)) (hb : Rd w B (n * 7) (ints xs)) :
    Calls Tryz.prog 11 #[.slice A n c, .slice B n d] w fun e w' => e = .returned (.bool true) ∧ Below w.heap.size w w' := by
  go_enter Tryz.func11, Tryz.ntmps11
  go_wp2
  go_loopw [5] (fun i wr => ∃ k : Nat, k ≤ n ∧ i = .int .i64 k ∧ Below w.heap.size w wr) (fun i _ => n - (intOf i).toNat)
  case atStart => exact ⟨0, Nat.zero_le _, rfl, Below.refl _ _⟩
  case round =>
    obtain ⟨k, hk, rfl, b⟩ := hrel
    by_cases hlt : k < n
    · have hltI : (k : Int) < (n : Int) := by omega
      have hk0 : (0 : Int) ≤ (k : Int) := by omega
      obtain ⟨ad, rfl, a0, a1, a2, a3, a4, a5, a6⟩ := (ha.below b).seven hlt
      obtain ⟨bd, rfl, c0, c1, c2, c3, c4, c5, c6⟩ := (hb.below b).seven hlt
      generalize xs.getD (k * 7) 0 = x0 at *
      generalize xs.getD (k * 7 + 1) 0 = x1 at *
      generalize xs.getD (k * 7 + 2) 0 = x2 at *
      generalize xs.getD (k * 7 + 3) 0 = x3 at *
      generalize xs.getD (k * 7 + 4) 0 = x4 at *
      generalize xs.getD (k * 7 + 5) 0 = x5 at *
      generalize xs.getD (k * 7 + 6) 0 = x6 at *
      go_wp2_with fail
      go_quiet (fail)
      revert nq; intro nq1
      go_wp2_with fail
      go_roundw
      case rel => exact ⟨k + 1, by omega, by go_num, Below.drewN b _⟩
      case measure => simp [intOf]; omega
    · obtain rfl : k = n := by omega
      go_wp2
      go_ret
      exact ⟨rfl, b⟩
end Go.Proofs.YtoledbicmghmbaaGreatDoor
