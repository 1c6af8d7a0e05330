/- The draws of lists of bits. Existential: some list of at most 1201 numbers. -/
import Derived.Test.YtlgmdekhlcbhoaaDrawC
import Derived.Test.YtlgmdekhlcbhoaaFraA
import Derived.Test.YtlgmdekhlcbhoaaDrawP
namespace Go.Proofs.Ytlgmdekhlcbhoaa
open Go.RowKit

theorem rd_list (w : World) (xs : List Int) (e : TypeId) (n : Nat) (hn : xs.length = n) : Rd (w.alloc (.cells (ints xs).toArray e)) (some ⟨w.heap.size, 0, none⟩) n (ints xs) := by
  subst hn
  refine ⟨by simp [ints], fun _ => ⟨_, rfl, fun i hi => ?_⟩⟩
  rw [add_lit, (Blk.new w e (ints xs).toArray).cell]
  simp
set_option maxRecDepth 100000 in
set_option maxHeartbeats 2000000 in
theorem l25DrawBits_any (L g : Nat) (w : World) (S : Src w L g) :
    Calls Try.prog 119 #[.pointer (some ⟨g, 0, none⟩), .int .i64 30] w (DrawPost L g 1201 w) := by
  have L0 := Lst.start S 2
  go_enter Try.func119, Try.ntmps119
  go_wp2_with fail
  generalize w.alloc (.cells #[] 2) = w0 at L0 ⊢
  generalize hh0 : (⟨some ⟨w.heap.size, 0, none⟩, 0, 0⟩ : Hd) = h0 at L0
  refine (l01Next_any L g 30 _ L0.src (by decide)).mono ?_
  rintro e w1 ⟨q, rfl, q0, q1, g1, S1⟩
  have L1 := L0.next g1 S1
  obtain ⟨q, rfl⟩ := Int.eq_ofNat_of_zero_le q0
  subst hh0
  go_wp2_with fail
  go_loopw [5, 6] (fun v i wr => ∃ (h : Hd) (xs : List Int) (k : Nat), v = .slice h.A h.n h.c ∧ i = .int .i64 k ∧ h.n + k ≤ 29 ∧ Lst w wr L g h xs) (fun _ i _ => (intOf i).toNat)
  case atStart => exact ⟨_, [], q, rfl, rfl, by simp only; omega, L1⟩
  case round =>
    clear L0 L1 S1 g1 S
    obtain ⟨h, xs, k, rfl, rfl, hk, Lx⟩ := hrel
    by_cases hk0 : 0 < (k : Int)
    · go_wp2_with fail
      refine (l01Pick_any L g _ 4 4 [0, 1, 1, 1] _ (Lx.alloc _).src (rd_list _ _ _ _ rfl) (by decide) (by decide) (fun ad e => by cases e; have := Lx.src.lt; simp only; omega)).mono ?_
      rintro e w2 ⟨x, -, rfl, g2, S2⟩
      have L2 := (Lx.alloc (.cells #[.int .i64 0, .int .i64 1, .int .i64 1, .int .i64 1] 2)).next g2 S2
      clear Lx g2 S2
      go_wp2_with (at_builtin; refine wpList_push rfl _ _ rfl w L g h xs [x] (L2.alloc _) rfl _ 1 1 rfl (rd_one _ _ _) (by omega) ?_; intro G wg hGn LG)
      clear L2
      have hGn' := Lib.hid hGn
      clear hGn
      go_roundw
      case rel => exact ⟨G, xs ++ [x], k - 1, by rw [hGn'.out], by congr 1; omega, by have := hGn'.out; omega, LG⟩
      case measure => simp [intOf]; omega
    · go_wp2_with fail
      refine (l01Next_any L g 30 _ Lx.src (by decide)).mono ?_
      rintro e w2 ⟨r, rfl, -, -, g2, S2⟩
      have L2 := Lx.next g2 S2
      clear Lx g2 S2
      by_cases hr0 : r = 0
      · subst hr0
        go_wp2_with fail
        refine (l01Pick_any L g _ 2 2 [-1, 2] _ (L2.alloc _).src (rd_two' _ _ _ _) (by decide) (by decide) (fun ad e => by cases e; have := L2.src.lt; simp only; omega)).mono ?_
        rintro e w3 ⟨x, -, rfl, g3, S3⟩
        have L3 := (L2.alloc (.cells #[.int .i64 (-1), .int .i64 2] 2)).next g3 S3
        clear L2 g3 S3
        go_wp2_with (at_builtin; refine wpList_push rfl _ _ rfl w L g h xs [x] (L3.alloc _) rfl _ 1 1 rfl (rd_one _ _ _) (by omega) ?_; intro G wg hGn LG)
        have hGn' := Lib.hid hGn
        clear hGn
        go_ret
        exact ⟨G, xs ++ [x], by show Ending.returned (Value.slice G.A (h.n + 1) G.c) = _; rw [hGn'.out], by have := hGn'.out; omega, LG⟩
      · by_cases hr1 : r = 1
        · subst hr1
          go_wp2
          go_loopw [5] (fun v wr => ∃ (h : Hd) (xs : List Int), v = .slice h.A h.n h.c ∧ h.n ≤ 1201 ∧ Lst w wr L g h xs) (fun v _ => 1201 - lenOf v)
          case atStart => exact ⟨h, xs, rfl, by omega, L2⟩
          case round =>
            clear L2
            obtain ⟨h, xs, rfl, hk, Lx⟩ := hrel
            go_wp2_with fail
            refine (l01Next_any L g 2 _ Lx.src (by decide)).mono ?_
            rintro e w3 ⟨y, rfl, y0, y1, g3, S3⟩
            have L3 := Lx.next g3 S3
            clear Lx g3 S3
            by_cases hlt : (h.n : Int) < 1200 + y
            · go_wp2_with fail
              refine (l01Next_any L g 2 _ L3.src (by decide)).mono ?_
              rintro e w4 ⟨x, rfl, -, -, g4, S4⟩
              have L4 := L3.next g4 S4
              clear L3 g4 S4
              go_wp2_with (at_builtin; refine wpList_push rfl _ _ rfl w L g h xs [x] (L4.alloc _) rfl _ 1 1 rfl (rd_one _ _ _) (by omega) ?_; intro G wg hGn LG)
              have hGn' := Lib.hid hGn
              clear hGn L4
              go_roundw
              case rel => exact ⟨G, xs ++ [x], by rw [hGn'.out], by have := hGn'.out; omega, LG⟩
              case measure => have := hGn'.out; simp [lenOf]; omega
            · go_wp2
              go_ret
              exact ⟨h, xs, rfl, hk, L3⟩
        · have f0 : (r == 0) = false := by simpa using hr0
          have f1 : (r == 1) = false := by simpa using hr1
          clear hr0 hr1
          go_wp2
          go_ret
          exact ⟨h, xs, rfl, by omega, L2⟩

/-- A list and two numbers were drawn. -/
def DrawnL3 (most : Nat) (lo hi lo2 hi2 : Int) (w : World) (e : Ending) (w' : World) : Prop :=
  ∃ (h : Hd) (xs : List Int) (k k2 : Int), e = .returned (.tuple #[.slice h.A h.n h.c, .int .i64 k, .int .i64 k2]) ∧ h.n ≤ most ∧ lo ≤ k ∧ k ≤ hi ∧ lo2 ≤ k2 ∧ k2 ≤ hi2 ∧ Own w' w.heap.size 1 h (ints xs) ∧ Below w.heap.size w w'
set_option maxRecDepth 100000 in
set_option maxHeartbeats 2000000 in
theorem drawBurstBits_any (A : Option Addr) (n c : Nat) (bs : List Int) (w : World) (r : Rd w A n (byteV bs)) (hx : ∀ x ∈ bs, 0 ≤ x ∧ x ≤ 255) (hn : n ≤ 4096) :
    Calls Try.prog 49 #[.slice A n c] w (DrawnL3 1201 (-1) 1203 (-1) 8 w) := by
  go_enter Try.func49, Try.ntmps49
  go_wp2_with fail
  refine (l01From_any A n c bs _ r hx hn).mono ?_
  rintro e w1 ⟨g, rfl, S1, b1⟩
  go_wp2_with fail
  refine (l25DrawBits_any _ g _ S1).mono ?_
  rintro e w2 ⟨h, xs, rfl, hh, L2⟩
  go_wp2_with fail
  refine (l01Next_any _ g _ _ L2.src (by omega)).mono ?_
  rintro e w3 ⟨x, rfl, x0, x1, g3, S3⟩
  have L3 := L2.next g3 S3
  clear L2 g3 S3
  go_wp2_with fail
  refine (l01Next_any _ g 20 _ L3.src (by omega)).mono ?_
  rintro e w4 ⟨y, rfl, y0, y1, g4, S4⟩
  have L4 := L3.next g4 S4
  clear L3 g4 S4
  have q2 : y.tdiv 19 = y / 19 := Int.tdiv_eq_ediv_of_nonneg y0
  go_wp2_with fail
  refine (l01Next_any _ g 8 _ L4.src (by omega)).mono ?_
  rintro e w5 ⟨z, rfl, z0, z1, g5, S5⟩
  have L5 := L4.next g5 S5
  clear L4 g5 S5
  go_wp2_with fail
  refine (l01Next_any _ g 20 _ L5.src (by omega)).mono ?_
  rintro e w6 ⟨v, rfl, v0, v1, g6, S6⟩
  have L6 := L5.next g6 S6
  clear L5 g6 S6
  have q3 : v.tdiv 19 = v / 19 := Int.tdiv_eq_ediv_of_nonneg v0
  go_wp2
  go_ret3
  exact ⟨h, xs, _, _, rfl, hh, by omega, by omega, by omega, by omega, L6.ret b1 S1.lt.2⟩
/-- A list and two numbers were drawn, nothing known of the numbers. -/
def DrawnL0 (most : Nat) (w : World) (e : Ending) (w' : World) : Prop :=
  ∃ (h : Hd) (xs : List Int) (k k2 : Int), e = .returned (.tuple #[.slice h.A h.n h.c, .int .i64 k, .int .i64 k2]) ∧ h.n ≤ most ∧ Own w' w.heap.size 1 h (ints xs) ∧ Below w.heap.size w w'
set_option maxRecDepth 100000 in
set_option maxHeartbeats 2000000 in
theorem drawNoisyBits_any (A : Option Addr) (n c : Nat) (bs : List Int) (w : World) (r : Rd w A n (byteV bs)) (hx : ∀ x ∈ bs, 0 ≤ x ∧ x ≤ 255) (hn : n ≤ 4096) :
    Calls Try.prog 46 #[.slice A n c] w (DrawnL0 1201 w) := by
  go_enter Try.func46, Try.ntmps46
  go_wp2_with fail
  refine (l01From_any A n c bs _ r hx hn).mono ?_
  rintro e w1 ⟨g, rfl, S1, b1⟩
  go_wp2_with fail
  refine (l25DrawBits_any _ g _ S1).mono ?_
  rintro e w2 ⟨h, xs, rfl, hh, L2⟩
  go_wp2_with fail
  refine (l01Next_any _ g 1000000 _ L2.src (by omega)).mono ?_
  rintro e w3 ⟨x, rfl, x0, x1, g3, S3⟩
  have L3 := L2.next g3 S3
  clear L2 g3 S3
  go_wp2_with fail
  refine (l01Next_any _ g 1000000 _ L3.src (by omega)).mono ?_
  rintro e w4 ⟨y, rfl, y0, y1, g4, S4⟩
  have L4 := L3.next g4 S4
  clear L3 g4 S4
  go_wp2_with fail
  refine (l01Pick_any _ g _ 6 6 [1, 2147483646, 2147483647, 0, 1 + x, 1 + y] _ (L4.alloc (.cells (ints [1, 2147483646, 2147483647, 0, 1 + x, 1 + y]).toArray 2)).src (rd_list _ _ _ _ rfl) (by decide) (by decide) (fun ad e => by cases e; have := L4.src.lt; simp only; omega)).mono ?_
  rintro e w5 ⟨z, -, rfl, g5, S5⟩
  have L5 := (L4.alloc (.cells (ints [1, 2147483646, 2147483647, 0, 1 + x, 1 + y]).toArray 2)).next g5 S5
  clear L4 g5 S5
  go_wp2_with fail
  refine (l01Pick_any _ g _ 6 6 [0, 5, 30, 100, 101, -1] _ (L5.alloc (.cells (ints [0, 5, 30, 100, 101, -1]).toArray 2)).src (rd_list _ _ _ _ rfl) (by decide) (by decide) (fun ad e => by cases e; have := L5.src.lt; simp only; omega)).mono ?_
  rintro e w6 ⟨v, -, rfl, g6, S6⟩
  have L6 := (L5.alloc (.cells (ints [0, 5, 30, 100, 101, -1]).toArray 2)).next g6 S6
  clear L5 g6 S6
  go_wp2
  go_ret3
  exact ⟨h, xs, _, _, rfl, hh, L6.ret b1 S1.lt.2⟩
end Go.Proofs.Ytlgmdekhlcbhoaa
