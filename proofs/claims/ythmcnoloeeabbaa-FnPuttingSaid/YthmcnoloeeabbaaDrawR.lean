/- The draws of points, of lines and of sizes. Existential. Condition: a code of at most 4096 bytes. -/
import Derived.Test.YthmcnoloeeabbaaDr
namespace Go.Proofs.Ythmcnoloeeabbaa
open Go.RowKit

def PointPost (w : World) (L g : Nat) (e : Ending) (w' : World) : Prop := ∃ x y : Int, e = .returned (.agg #[.int .i64 x, .int .i64 y]) ∧ Dr w w' L g
set_option maxRecDepth 100000 in
set_option maxHeartbeats 2000000 in
theorem l12DrawPoint_any (L g : Nat) (w : World) (S : Src w L g) :
    Calls Try.prog 98 #[.pointer (some ⟨g, 0, none⟩), .int .i64 7, .int .i64 1000] w (PointPost w L g) := by
  have D0 := (Dr.start S).alloc (.cells #[.int .i64 0, .int .i64 0] 38)
  have B0 := Blk.new w 38 #[.int .i64 0, .int .i64 0]
  have gS := S.lt
  go_enter Try.func98, Try.ntmps98
  go_wp2_with fail
  generalize w.alloc (.cells #[.int .i64 0, .int .i64 0] 38) = w0 at D0 B0 ⊢
  refine (l01Next_any L g 15 _ D0.src (by decide)).mono ?_
  rintro e w1 ⟨x, rfl, x0, x1, g1, S1⟩
  have D1 := D0.next g1 S1
  have B1 := B0.nx g1 (by omega)
  clear g1 D0 B0 S1
  go_wp2_with fail
  refine (l01Next_any L g 15 _ D1.src (by decide)).mono ?_
  rintro e w2 ⟨y, rfl, y0, y1, g2, S2⟩
  have D2 := D1.next g2 S2
  have B2 := B1.nx g2 (by omega)
  clear g2 D1 B1 S2
  go_wp2_with fail
  have K2 := Blk.new w2 38 #[.int .i64 (x - 7), .int .i64 (y - 7)]
  have zz := B2.lt
  have B2 := B2.alloc (.cells #[.int .i64 (x - 7), .int .i64 (y - 7)] 38)
  have D2 := D2.alloc (.cells #[.int .i64 (x - 7), .int .i64 (y - 7)] 38)
  generalize w2.alloc (.cells #[.int .i64 (x - 7), .int .i64 (y - 7)] 38) = w3 at D2 B2 K2 ⊢
  generalize w2.heap.size = Q at K2 zz ⊢
  have hQ1 : Q ≠ w.heap.size := by omega
  have hQ2 : w.heap.size ≠ Q := by omega
  refine (l01Next_any L g 60 _ D2.src (by decide)).mono ?_
  rintro e w4 ⟨r, rfl, r0, r1, g4, S4⟩
  have D4 := D2.next g4 S4
  have B4 := B2.nx g4 (by omega)
  have K4 := K2.nx g4 (by omega)
  clear g4 D2 B2 K2 S4
  by_cases hr : r = 0
  · subst hr
    go_wp2_with fail
    refine (pick_any L g [1000, 1001, -1000, -1001] 4 _ D4.src rfl (by decide) (by decide)).mono ?_
    rintro e w5 ⟨z, -, rfl, g5, S5⟩
    have D5 := (D4.alloc _).next g5 S5
    have B5 := (B4.alloc _).nx g5 (by omega)
    have K5 := (K4.alloc _).nx g5 (by omega)
    clear g5 D4 B4 K4 S5
    have cK := fun o => K5.cell o
    have fK := fun o => K5.frozen o
    have qK := K5.lt
    have cB := fun o => B5.cell o
    have fB := fun o => B5.frozen o
    have qB := B5.lt
    go_wp2
    refine bodyPost_ret (v := .agg #[.int .i64 z, .int .i64 (y - 7)]) (by simp [results, Try.results98, go_sem, cB]) rfl ?_
    refine ⟨_, _, rfl, ?_⟩
    repeat (refine Dr.set_ ?_ (by simp only; omega) _)
    exact D5
  · have hr' : (r == 0) = false := by simpa using hr
    clear hr
    have cK := fun o => K4.cell o
    have fK := fun o => K4.frozen o
    have qK := K4.lt
    have cB := fun o => B4.cell o
    have fB := fun o => B4.frozen o
    have qB := B4.lt
    go_wp2
    refine bodyPost_ret (v := .agg #[.int .i64 (x - 7), .int .i64 (y - 7)]) (by simp [results, Try.results98, go_sem, cB]) rfl ?_
    refine ⟨_, _, rfl, ?_⟩
    repeat (refine Dr.set_ ?_ (by simp only; omega) _)
    exact D4

set_option maxRecDepth 100000 in
set_option maxHeartbeats 2000000 in
theorem l18DrawLine_any (L g : Nat) (w : World) (S : Src w L g) :
    Calls Try.prog 99 #[.pointer (some ⟨g, 0, none⟩)] w (DrawPost L g 201 w) := by
  have L0 := Lst.start S 2
  go_enter Try.func99, Try.ntmps99
  go_wp2_with fail
  generalize w.alloc (.cells #[] 2) = w0 at L0 ⊢
  generalize hh0 : (⟨some ⟨w.heap.size, 0, none⟩, 0, 0⟩ : Hd) = h0 at L0
  refine (l01Next_any L g 20 _ L0.src (by decide)).mono ?_
  rintro e w1 ⟨q, rfl, q0, q1, g1, S1⟩
  have L1 := L0.next g1 S1
  obtain ⟨q, rfl⟩ := Int.eq_ofNat_of_zero_le q0
  subst hh0
  go_wp2_with fail
  go_loopw [3, 4] (fun v i wr => ∃ (h : Hd) (xs : List Int) (k : Nat), v = .slice h.A h.n h.c ∧ i = .int .i64 k ∧ h.n + k ≤ 19 ∧ Lst w wr L g h xs) (fun _ i _ => (intOf i).toNat)
  case atStart => exact ⟨_, [], q, rfl, rfl, by simp only; omega, L1⟩
  case round =>
    clear L0 L1 S1 g1 S
    obtain ⟨h, xs, k, rfl, rfl, hk, Lx⟩ := hrel
    by_cases hk0 : 0 < (k : Int)
    · go_wp2_with fail
      refine (pick_any L g [10, 300, 1001] 3 _ Lx.src rfl (by decide) (by decide)).mono ?_
      rintro e w2 ⟨z, hz, rfl, g2, S2⟩
      have L2 := (Lx.alloc (.cells (ints [10, 300, 1001]).toArray 2)).next g2 S2
      have hzb : z ≤ 1001 := by simp at hz; omega
      clear Lx g2 S2 hz
      go_wp2_with fail
      refine (l01Next_any L g z _ L2.src (by omega)).mono ?_
      rintro e w3 ⟨x, rfl, -, -, g3, S3⟩
      have L3 := L2.next g3 S3
      clear L2 g3 S3
      go_wp2_with (at_builtin; refine wpList_push rfl _ _ rfl w L g h xs [x] (L3.alloc _) rfl _ 1 1 rfl (rd_one _ _ _) (by omega) ?_; intro G wg hGn LG)
      clear L3
      have hGn' := Lib.hid hGn
      clear hGn
      go_roundw
      case rel => exact ⟨G, xs ++ [x], k - 1, by rw [hGn'.out], by congr 1; omega, by have := hGn'.out; omega, LG⟩
      case measure => simp [intOf]; omega
    · go_wp2_with fail
      refine (l01Next_any L g 40 _ Lx.src (by decide)).mono ?_
      rintro e w2 ⟨r, rfl, -, -, g2, S2⟩
      have L2 := Lx.next g2 S2
      clear Lx g2 S2
      by_cases hr0 : r = 0
      · subst hr0
        go_wp2_with fail
        refine (pick_any L g [-1, 1000, 1001] 3 _ L2.src rfl (by decide) (by decide)).mono ?_
        rintro e w3 ⟨x, -, rfl, g3, S3⟩
        have L3 := (L2.alloc (.cells (ints [-1, 1000, 1001]).toArray 2)).next g3 S3
        clear L2 g3 S3
        go_wp2_with (at_builtin; refine wpList_push rfl _ _ rfl w L g h xs [x] (L3.alloc _) rfl _ 1 1 rfl (rd_one _ _ _) (by omega) ?_; intro G wg hGn LG)
        have hGn' := Lib.hid hGn
        clear hGn
        go_ret
        exact ⟨G, xs ++ [x], by show Ending.returned (Value.slice G.A (h.n + 1) G.c) = _; rw [hGn'.out], by have := hGn'.out; omega, LG⟩
      · by_cases hr1 : r = 1
        · subst hr1
          go_wp2_with fail
          refine (l01Next_any L g 2 _ L2.src (by decide)).mono ?_
          rintro e w3 ⟨y, rfl, y0, y1, g3, S3⟩
          have L3 := L2.next g3 S3
          clear L2 g3 S3
          obtain ⟨m, hm, hm2⟩ : ∃ m : Nat, (200 : Int) + y = (m : Int) ∧ m ≤ 201 := ⟨(200 + y).toNat, by omega, by omega⟩
          have hmk := fun W : World => run_make_int64 m (by omega) W
          have LM : Lst w (w3.alloc (.cells (madeCells #[.int .i64 0] m) 2)) L g ⟨some ⟨w3.heap.size, 0, none⟩, m, m⟩ (List.replicate m 0) := by
            have b : Below w3.heap.size w3 (w3.alloc (.cells (madeCells #[.int .i64 0] m) 2)) := (Below.refl _ _).alloc (Nat.le_refl _) _
            exact ⟨Own.made L3.gr.size (by omega) _, grown_trans L3.gr (grown_of_below b), L3.src.below b, L3.lt⟩
          go_wp2
          go_ret
          exact ⟨_, _, rfl, hm2, LM⟩
        · have f0 : (r == 0) = false := by simpa using hr0
          have f1 : (r == 1) = false := by simpa using hr1
          clear hr0 hr1
          go_wp2
          go_ret
          exact ⟨h, xs, rfl, by omega, L2⟩


set_option maxRecDepth 100000 in
set_option maxHeartbeats 2000000 in
theorem drawNewMosaic_any (A : Option Addr) (n c : Nat) (bs : List Int) (w : World) (r : Rd w A n (byteV bs)) (hx : ∀ x ∈ bs, 0 ≤ x ∧ x ≤ 255) (hn : n ≤ 4096) :
    Calls Try.prog 38 #[.slice A n c] w (fun e w' => ∃ x y : Int, e = .returned (.tuple #[.int .i64 x, .int .i64 y]) ∧ -1000 ≤ x ∧ x ≤ 1000 ∧ -1000 ≤ y ∧ y ≤ 1000 ∧ Below w.heap.size w w') := by
  go_enter Try.func38, Try.ntmps38
  go_wp2_with fail
  refine (l01From_any A n c bs _ r hx hn).mono ?_
  rintro e w1 ⟨g, rfl, S1, b1⟩
  have D1 := Dr.start S1
  clear S1
  go_wp2_with fail
  refine (l01Next_any _ g 8 _ D1.src (by omega)).mono ?_
  rintro e w2 ⟨q, rfl, q0, q1, g2, S2⟩
  have D2 := D1.next g2 S2
  clear D1 g2 S2
  by_cases hq : q = 0
  · subst hq
    go_wp2_with fail
    refine (pick_any _ g [0, 1, 40, 41] 4 _ D2.src rfl (by decide) (by decide)).mono ?_
    rintro e w3 ⟨x, hx, rfl, g3, S3⟩
    have D3 := (D2.alloc _).next g3 S3
    have hxb : 0 ≤ x ∧ x ≤ 41 := by simp at hx; omega
    clear D2 g3 S3 hx
    go_wp2_with fail
    refine (pick_any _ g [0, 1, 40, 41] 4 _ D3.src rfl (by decide) (by decide)).mono ?_
    rintro e w4 ⟨y, hy, rfl, g4, S4⟩
    have D4 := (D3.alloc _).next g4 S4
    have hyb : 0 ≤ y ∧ y ≤ 41 := by simp at hy; omega
    clear D3 g4 S4 hy
    go_wp2
    go_ret2
    exact ⟨x, y, rfl, by omega, by omega, by omega, by omega, D4.fin b1⟩
  · have hq' : (q == 0) = false := by simpa using hq
    clear hq
    go_wp2_with fail
    refine (l01Next_any _ g 9 _ D2.src (by omega)).mono ?_
    rintro e w3 ⟨x, rfl, x0, x1, g3, S3⟩
    have D3 := D2.next g3 S3
    clear D2 g3 S3
    go_wp2_with fail
    refine (l01Next_any _ g 9 _ D3.src (by omega)).mono ?_
    rintro e w4 ⟨y, rfl, y0, y1, g4, S4⟩
    have D4 := D3.next g4 S4
    clear D3 g4 S4
    go_wp2
    go_ret2
    exact ⟨_, _, rfl, by omega, by omega, by omega, by omega, D4.fin b1⟩
end Go.Proofs.Ythmcnoloeeabbaa
