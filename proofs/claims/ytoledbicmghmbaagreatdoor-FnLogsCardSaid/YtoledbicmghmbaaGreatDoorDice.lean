/- The laws' own dice: roll and below. Condition: a code of at most 4096 bytes; at least one side. -/
import Derived.Test.YtoledbicmghmbaaGreatDoorDrawK
namespace Go.Proofs.YtoledbicmghmbaaGreatDoor
open Go.RowKit

structure DiceAt (w : World) (L g : Nat) (A : Option Addr) (n c : Nat) (xs : List Int) (a : Nat) (sd : Int) : Prop where
  box : Blk w g 58 #[.slice A n c, .int .i64 (a : Int), .int .u64 sd]
  code : Rd w A n (byteV xs)
  byte : ∀ x ∈ xs, 0 ≤ x ∧ x ≤ 255
  low : ∀ ad, A = some ad → 0 < n → ad.block < L
  ge : L ≤ g
  n_ : n ≤ 4096
  a_ : a ≤ n
  s0 : 0 ≤ sd
  s1 : sd < 18446744073709551616
def Dice (w : World) (L g : Nat) : Prop := ∃ A n c xs a sd, DiceAt w L g A n c xs a sd
section
variable {w w' : World} {L g n c a : Nat} {A : Option Addr} {xs : List Int} {sd : Int}
theorem DiceAt.grown {row : Option Nat} (s : DiceAt w L g A n c xs a sd) (k : w.grownBy w' row) (hr : ∀ b, row = some b → L ≤ b ∧ b ≠ g) : DiceAt w' L g A n c xs a sd :=
  ⟨s.box.grown k (fun e => (hr g e).2 rfl), s.code.grown k (fun ad e hn c => by have := s.low ad e hn; have := (hr _ c).1; omega), s.byte, s.low, s.ge, s.n_, s.a_, s.s0, s.s1⟩
theorem DiceAt.drewN (s : DiceAt w L g A n c xs a sd) (m : Nat) : DiceAt (w.drewN m) L g A n c xs a sd := ⟨s.box, s.code, s.byte, s.low, s.ge, s.n_, s.a_, s.s0, s.s1⟩
theorem DiceAt.far_ (s : DiceAt w L g A n c xs a sd) (i : Nat) (u : Value) : Rd (w.setCell ⟨g, i, none⟩ u) A n (byteV xs) :=
  s.code.keep fun ad e hn => Below.heap_setCell _ _ _ _ (by have := s.low ad e hn; have := s.ge; simp only; omega)
theorem DiceAt.seed (s : DiceAt w L g A n c xs a sd) {x : Int} (h0 : 0 ≤ x) (h1 : x < 18446744073709551616) : DiceAt (w.setCell ⟨g, 2, none⟩ (.int .u64 x)) L g A n c xs a x :=
  ⟨s.box.set_ 2 _, s.far_ 2 _, s.byte, s.low, s.ge, s.n_, s.a_, h0, h1⟩
theorem DiceAt.step (s : DiceAt w L g A n c xs a sd) (h : a < n) : DiceAt (w.setCell ⟨g, 1, none⟩ (.int .i64 ((a : Int) + 1))) L g A n c xs (a + 1) sd :=
  ⟨s.box.set_ 1 _, s.far_ 1 _, s.byte, s.low, s.ge, s.n_, h, s.s0, s.s1⟩
theorem Dice.grown {row : Option Nat} (s : Dice w L g) (k : w.grownBy w' row) (hr : ∀ b, row = some b → L ≤ b ∧ b ≠ g) : Dice w' L g := by
  obtain ⟨A, n, c, xs, a, sd, s⟩ := s
  exact ⟨A, n, c, xs, a, sd, s.grown k hr⟩
theorem Dice.below (s : Dice w L g) (b : Below w.heap.size w w') : Dice w' L g := s.grown (row := none) ⟨b.os, b.tape, b.output, b.size, fun k hk _ => b.block k hk⟩ (fun _ h => by cases h)
theorem Dice.lt (s : Dice w L g) : g < w.heap.size ∧ L ≤ g := by obtain ⟨A, n, c, xs, a, sd, s⟩ := s; exact ⟨s.box.lt, s.ge⟩
end
theorem u64_bd (x : Int) : 0 ≤ IntKind.u64.wrap x ∧ IntKind.u64.wrap x < 18446744073709551616 := by rw [IntKind.wrap_u64]; omega
def RollPost (w : World) (e : Ending) (w' : World) : Prop := ∃ g, e = .returned (.pointer (some ⟨g, 0, none⟩)) ∧ Dice w' w.heap.size g ∧ Below w.heap.size w w'

set_option maxRecDepth 100000 in
set_option maxHeartbeats 4000000 in
theorem roll_any (A : Option Addr) (n c : Nat) (xs : List Int) (sd : Int) (w : World) (r : Rd w A n (byteV xs)) (hx : ∀ x ∈ xs, 0 ≤ x ∧ x ≤ 255) (hn : n ≤ 4096) (h0 : 0 ≤ sd) (h1 : sd ≤ 100000) :
    Calls Tryz.prog 12 #[.slice A n c, .int .u64 sd] w (RollPost w) := by
  go_enter Tryz.func12, Tryz.ntmps12
  go_wp2_with fail
  have hh : ∀ s, 0 ≤ s → s < 18446744073709551616 → DiceAt (w.alloc (.cells #[.slice A n c, .int .i64 0, .int .u64 s] 58)) w.heap.size w.heap.size A n c xs 0 s := fun s a b =>
    ⟨Blk.new _ _ _, r.below ((Below.refl _ _).alloc (Nat.le_refl _) _), hx, fun ad e hp => r.lt e hp, Nat.le_refl _, hn, Nat.zero_le _, a, b⟩
  go_loopw [6] (fun i wr => ∃ (k : Nat) (s : Int), k ≤ n ∧ i = .int .i64 k ∧ DiceAt wr w.heap.size w.heap.size A n c xs 0 s ∧ Below w.heap.size w wr) (fun i _ => n - (intOf i).toNat)
  case atStart => exact ⟨0, _, Nat.zero_le _, rfl, hh _ (by omega) (by omega), (Below.refl _ _).alloc (Nat.le_refl _) _⟩
  case round =>
    clear hh
    obtain ⟨k, s, hk, rfl, D, hbel⟩ := hrel
    have cS := fun o => D.box.cell o
    have fS := fun o => D.box.frozen o
    have gS := D.box.lt
    by_cases hlt : k < n
    · obtain ⟨ad, rfl, hmem, hb⟩ := D.code.byte hlt
      have hbd := hx _ hmem
      have D2 := fun x => D.seed (u64_bd x).1 (u64_bd x).2
      generalize xs.getD k 0 = y at *
      clear hmem
      go_wp2
      go_region
      all_goals
        go_wp2
        go_roundw
        case rel => exact ⟨k + 1, _, by omega, by go_num, (D2 _).drewN 1, Below.drew (hbel.setCell (Nat.le_refl _) _)⟩
        case measure => simp [intOf]; omega
    · go_wp2
      go_ret
      exact ⟨_, rfl, ⟨_, _, _, _, _, _, D⟩, hbel⟩
theorem and24 {x : Int} (h0 : 0 ≤ x) (h1 : x < 18446744073709551616) : bits .and .u64 x 16777215 = x % 16777216 := by
  obtain ⟨n, rfl⟩ := Int.eq_ofNat_of_zero_le h0
  have h := bits_and_u64_nat n 16777215 (by omega) (by decide)
  rw [show (16777215 : Int) = ((16777215 : Nat) : Int) from rfl, h, show n &&& 16777215 = n % 16777216 from Nat.and_two_pow_sub_one_eq_mod n 24]
  rfl
def BelowPost (L g : Nat) (n : Int) (w : World) (e : Ending) (w' : World) : Prop :=
  ∃ r : Int, e = .returned (.int .i64 r) ∧ 0 ≤ r ∧ r < n ∧ w.grownBy w' (some g) ∧ Dice w' L g
theorem below_mk {L g : Nat} {n r : Int} {w w' : World} {A : Option Addr} {m c a : Nat} {xs : List Int} {sd : Int} (h0 : 0 ≤ r) (h1 : r < n) (k : w.grownBy w' (some g)) (s : DiceAt w' L g A m c xs a sd) : BelowPost L g n w (.returned (.int .i64 r)) w' :=
  ⟨r, rfl, h0, h1, k, A, m, c, xs, a, sd, s⟩
set_option maxRecDepth 100000 in
set_option maxHeartbeats 4000000 in
theorem below_any (L g : Nat) (n : Int) (w : World) (S : Dice w L g) (hn1 : 1 ≤ n) (hn : n ≤ 4611686018427387904) :
    Calls Tryz.prog 13 #[.pointer (some ⟨g, 0, none⟩), .int .i64 n] w (BelowPost L g n w) := by
  obtain ⟨A, m, c, xs, a, sd, S⟩ := S
  have b0 := S.s0; have b1 := S.s1; have b2 := S.n_; have b3 := S.a_
  have S1 := S.seed (u64_bd (IntKind.u64.wrap (sd * 6364136223846793005) + 1442695040888963407)).1 (u64_bd (IntKind.u64.wrap (sd * 6364136223846793005) + 1442695040888963407)).2
  have g1 : w.grownBy (w.setCell ⟨g, 2, none⟩ (.int .u64 (IntKind.u64.wrap (IntKind.u64.wrap (sd * 6364136223846793005) + 1442695040888963407)))) (some g) := grown_cell _ _ _ _
  have cS := fun o => S.box.cell o
  have fS := fun o => S.box.frozen o
  have gS := S.box.lt
  go_enter Tryz.func13, Tryz.ntmps13
  go_upto_region 2 with fail
  generalize w.setCell ⟨g, 2, none⟩ (.int .u64 (IntKind.u64.wrap (IntKind.u64.wrap (sd * 6364136223846793005) + 1442695040888963407))) = w1 at S1 g1 ⊢
  generalize IntKind.u64.wrap (IntKind.u64.wrap (sd * 6364136223846793005) + 1442695040888963407) = s1 at *
  have c0 := S1.s0; have c1 := S1.s1
  clear cS fS gS S b0 b1
  have cS := fun o => S1.box.cell o
  have fS := fun o => S1.box.frozen o
  have gS := S1.box.lt
  have h24 := and24 (x := s1 / 8589934592) (by omega) (by omega)
  have hx0 : 0 ≤ s1 / 8589934592 % 16777216 ∧ s1 / 8589934592 % 16777216 ≤ 16777215 := by omega
  by_cases ha : a < m
  · obtain ⟨ad, rfl, hmem, hb⟩ := S1.code.byte ha
    have hbd := S1.byte _ hmem
    have i0 : (0 : Int) ≤ (a : Int) := by omega
    have i1 : (a : Int) < (m : Int) := by omega
    have i2 : (m : Int) ≤ 4096 := by omega
    generalize xs.getD a 0 = y at *
    clear hmem
    generalize s1 / 8589934592 % 16777216 = x at *
    go_wp2_with fail
    go_quiet (fail)
    obtain ⟨q1, rfl⟩ : ∃ q1 : Nat, q1 = nq := ⟨_, rfl⟩
    go_wp2_with fail
    go_quiet (fail)
    have S2 := (S1.drewN q1).drewN nq
    have g2 := grown_drewN (grown_drewN g1 q1) nq
    generalize (w1.drewN q1).drewN nq = w2 at S2 g2 ⊢
    clear S1 g1 hb cS fS gS
    have cS := fun o => S2.box.cell o
    have fS := fun o => S2.box.frozen o
    have gS := S2.box.lt
    have S3 := S2.step ha
    have g3 : w.grownBy (w2.setCell ⟨g, 1, none⟩ (.int .i64 ((a : Int) + 1))) (some g) := grown_setCell g2 (.inl rfl) _
    have hx2 : 0 ≤ x + y ∧ x + y ≤ 16777470 := by omega
    have hz : ¬ n = 0 := by omega
    have ex : (x + y).tmod n = (x + y) % n := Int.tmod_eq_emod_of_nonneg (by omega)
    have rx : 0 ≤ (x + y) % n ∧ (x + y) % n < n := ⟨Int.emod_nonneg _ (by omega), Int.emod_lt_of_pos _ (by omega)⟩
    have RX := Lib.hid rx
    clear rx
    generalize x + y = z at *
    go_wp2
    go_ret
    exact below_mk RX.out.1 RX.out.2 g3 S3
  · generalize s1 / 8589934592 % 16777216 = x at *
    have i2 : ¬ (a : Int) < (m : Int) := by omega
    go_wp2_with fail
    go_quiet (fail)
    have S2 := S1.drewN nq
    have g2 := grown_drewN g1 nq
    have ex : x.tmod n = x % n := Int.tmod_eq_emod_of_nonneg (by omega)
    have rx : 0 ≤ x % n ∧ x % n < n := ⟨Int.emod_nonneg _ (by omega), Int.emod_lt_of_pos _ (by omega)⟩
    have RX := Lib.hid rx
    clear rx
    go_wp2
    go_ret
    exact below_mk RX.out.1 RX.out.2 g2 S2
end Go.Proofs.YtoledbicmghmbaaGreatDoor
