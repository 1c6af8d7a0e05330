/- The draws of soundings, of records and of logs. Existential: some numbers; a list of at most 60 records. -/
import Derived.Test.YtoledbicmghmbaaDoorDr
import Derived.Test.YtoledbicmghmbaaDoorRec
import Derived.Test.YtoledbicmghmbaaDoorLog
namespace Go.Proofs.YtoledbicmghmbaaDoor
open Go.RowKit

set_option maxRecDepth 100000 in
set_option maxHeartbeats 4000000 in
theorem l21DrawOne_any (L g : Nat) (w : World) (S : Src w L g) :
    Calls Tryd.prog 148 #[.pointer (some ⟨g, 0, none⟩)] w fun e w' => ∃ x y d r : Int, e = .returned (.agg #[.int .i64 x, .int .i64 y, .int .i64 d, .int .i64 r]) ∧ Dr w w' L g := by
  have D0 := (Dr.start S).alloc (.cells #[.int .i64 0, .int .i64 0, .int .i64 0, .int .i64 0] 27)
  have K0 := Blk.new w 27 #[.int .i64 0, .int .i64 0, .int .i64 0, .int .i64 0]
  have gS := S.lt
  go_enter Tryd.func148, Tryd.ntmps148
  go_wp2_with fail
  generalize w.alloc (.cells #[.int .i64 0, .int .i64 0, .int .i64 0, .int .i64 0] 27) = w0 at D0 K0 ⊢
  refine (l01Next_any L g 60 _ D0.src (by decide)).mono ?_
  rintro e w1 ⟨x, rfl, x0, x1, g1, S1⟩
  have D1 := D0.next g1 S1
  have K1 := K0.nx g1 (by omega)
  clear g1 S1 D0 K0
  go_wp2_with fail
  refine (l01Next_any L g 60 _ D1.src (by decide)).mono ?_
  rintro e w2 ⟨y, rfl, y0, y1, g2, S2⟩
  have D2 := D1.next g2 S2
  have K2 := K1.nx g2 (by omega)
  clear g2 S2 D1 K1
  go_wp2_with fail
  refine (l01Next_any L g 90 _ D2.src (by decide)).mono ?_
  rintro e w3 ⟨d, rfl, d0, d1, g3, S3⟩
  have D3 := D2.next g3 S3
  have K3 := K2.nx g3 (by omega)
  clear g3 S3 D2 K2
  go_wp2_with fail
  refine (l01Next_any L g 20 _ D3.src (by decide)).mono ?_
  rintro e w4 ⟨r, rfl, r0, r1, g4, S4⟩
  have D4 := D3.next g4 S4
  have K4 := K3.nx g4 (by omega)
  clear g4 S4 D3 K3
  go_upto_region 2 with fail
  have B5 := Blk.new w4 27 #[.int .i64 x, .int .i64 y, .int .i64 (1000 + d), .int .i64 r]
  have D5 := D4.alloc (.cells #[.int .i64 x, .int .i64 y, .int .i64 (1000 + d), .int .i64 r] 27)
  have K5 := K4.alloc (.cells #[.int .i64 x, .int .i64 y, .int .i64 (1000 + d), .int .i64 r] 27)
  have hz4 : w.heap.size < w4.heap.size := K4.lt
  clear D4 K4
  generalize w4.alloc (.cells #[.int .i64 x, .int .i64 y, .int .i64 (1000 + d), .int .i64 r] 27) = w5 at B5 D5 K5 ⊢
  generalize w4.heap.size = Q at B5 hz4 ⊢
  have hlt5 := D5.lt
  have hle5 := D5.le
  have hQg : g ≠ Q := by omega
  have hQ1 : Q ≠ w.heap.size := by omega
  have hQ2 : w.heap.size ≠ Q := by omega
  generalize 1000 + d = d' at *
  go_wp2_with fail

  refine (l01Next_any L g 60 _ D5.src (by decide)).mono ?_
  rintro e w6 ⟨q, rfl, q0, q1, g6, S6⟩
  have D6 := D5.next g6 S6
  have K6 := K5.nx g6 (by omega)
  have B6 := B5.nx g6 hQg
  clear g6 S6 D5 K5 B5
  by_cases hq : q = 0 ∨ q = 1 ∨ q = 2
  case neg =>
    have q0' : (q == 0) = false := by rw [beq_eq_false_iff_ne]; omega
    have q1' : (q == 1) = false := by rw [beq_eq_false_iff_ne]; omega
    have q2' : (q == 2) = false := by rw [beq_eq_false_iff_ne]; omega
    clear hq
    have cB := fun o => B6.cell o
    have gB := B6.lt
    have cK := fun o => K6.cell o
    have fK := fun o => K6.frozen o
    have gK := K6.lt
    go_wp2
    refine bodyPost_ret (v := .agg #[.int .i64 x, .int .i64 y, .int .i64 d', .int .i64 r]) (by simp [results, Tryd.results148, go_sem, cK, gK]) rfl ⟨x, y, d', r, rfl, (((D6.set_ (p := ⟨w.heap.size, 0, none⟩) (Nat.le_refl _) _).set_ (p := ⟨w.heap.size, 1, none⟩) (Nat.le_refl _) _).set_ (p := ⟨w.heap.size, 2, none⟩) (Nat.le_refl _) _).set_ (p := ⟨w.heap.size, 3, none⟩) (Nat.le_refl _) _⟩
  rcases hq with rfl | rfl | rfl
  · go_wp2_with fail
    refine (pick_any L g [1000000, 1000001, -2000, -2001] 4 _ D6.src rfl (by decide) (by decide)).mono ?_
    rintro e w7 ⟨p, -, rfl, g7, S7⟩
    have D7 := (D6.alloc _).next g7 S7
    have K7 := (K6.alloc _).nx g7 (by omega)
    have B7 := (B6.alloc _).nx g7 hQg
    clear D6 K6 B6 g7 S7
    have cB := fun o => B7.cell o
    have fB := fun o => B7.frozen o
    have gB := B7.lt
    have cK := fun o => K7.cell o
    have fK := fun o => K7.frozen o
    have gK := K7.lt
    go_wp2
    refine bodyPost_ret (v := .agg #[.int .i64 x, .int .i64 y, .int .i64 p, .int .i64 r]) (by simp [results, Tryd.results148, go_sem, cK, gK]) rfl ⟨x, y, p, r, rfl, ((((D7.set_ (p := ⟨Q, 2, none⟩) (by simp only; omega) _).set_ (p := ⟨w.heap.size, 0, none⟩) (Nat.le_refl _) _).set_ (p := ⟨w.heap.size, 1, none⟩) (Nat.le_refl _) _).set_ (p := ⟨w.heap.size, 2, none⟩) (Nat.le_refl _) _).set_ (p := ⟨w.heap.size, 3, none⟩) (Nat.le_refl _) _⟩
  · go_wp2_with fail
    refine (pick_any L g [-1, 0, 5000, 5001] 4 _ D6.src rfl (by decide) (by decide)).mono ?_
    rintro e w7 ⟨p, -, rfl, g7, S7⟩
    have D7 := (D6.alloc _).next g7 S7
    have K7 := (K6.alloc _).nx g7 (by omega)
    have B7 := (B6.alloc _).nx g7 hQg
    clear D6 K6 B6 g7 S7
    have cB := fun o => B7.cell o
    have fB := fun o => B7.frozen o
    have gB := B7.lt
    have cK := fun o => K7.cell o
    have fK := fun o => K7.frozen o
    have gK := K7.lt
    go_wp2
    refine bodyPost_ret (v := .agg #[.int .i64 x, .int .i64 y, .int .i64 d', .int .i64 p]) (by simp [results, Tryd.results148, go_sem, cK, gK]) rfl ⟨x, y, d', p, rfl, ((((D7.set_ (p := ⟨Q, 3, none⟩) (by simp only; omega) _).set_ (p := ⟨w.heap.size, 0, none⟩) (Nat.le_refl _) _).set_ (p := ⟨w.heap.size, 1, none⟩) (Nat.le_refl _) _).set_ (p := ⟨w.heap.size, 2, none⟩) (Nat.le_refl _) _).set_ (p := ⟨w.heap.size, 3, none⟩) (Nat.le_refl _) _⟩
  · go_wp2_with fail
    refine (pick_any L g [-1, 10000, 10001] 3 _ D6.src rfl (by decide) (by decide)).mono ?_
    rintro e w7 ⟨p, -, rfl, g7, S7⟩
    have D7 := (D6.alloc _).next g7 S7
    have K7 := (K6.alloc _).nx g7 (by omega)
    have B7 := (B6.alloc _).nx g7 hQg
    clear D6 K6 B6 g7 S7
    have cB := fun o => B7.cell o
    have fB := fun o => B7.frozen o
    have gB := B7.lt
    have cK := fun o => K7.cell o
    have fK := fun o => K7.frozen o
    have gK := K7.lt
    go_wp2
    refine bodyPost_ret (v := .agg #[.int .i64 p, .int .i64 y, .int .i64 d', .int .i64 r]) (by simp [results, Tryd.results148, go_sem, cK, gK]) rfl ⟨p, y, d', r, rfl, ((((D7.set_ (p := ⟨Q, 0, none⟩) (by simp only; omega) _).set_ (p := ⟨w.heap.size, 0, none⟩) (Nat.le_refl _) _).set_ (p := ⟨w.heap.size, 1, none⟩) (Nat.le_refl _) _).set_ (p := ⟨w.heap.size, 2, none⟩) (Nat.le_refl _) _).set_ (p := ⟨w.heap.size, 3, none⟩) (Nat.le_refl _) _⟩

set_option maxRecDepth 100000 in
set_option maxHeartbeats 4000000 in
theorem l31DrawOne_any (L g : Nat) (w : World) (S : Src w L g) :
    Calls Tryd.prog 103 #[.pointer (some ⟨g, 0, none⟩)] w fun e w' => ∃ t k l x y d r : Int, e = .returned (.agg #[.int .i64 t, .int .i64 k, .int .i64 l, .int .i64 x, .int .i64 y, .int .i64 d, .int .i64 r]) ∧ Dr w w' L g := by
  have D0 := (Dr.start S).alloc (.cells #[.int .i64 0, .int .i64 0, .int .i64 0, .int .i64 0, .int .i64 0, .int .i64 0, .int .i64 0] 29)
  have K0 := Blk.new w 29 #[.int .i64 0, .int .i64 0, .int .i64 0, .int .i64 0, .int .i64 0, .int .i64 0, .int .i64 0]
  have gS := S.lt
  go_enter Tryd.func103, Tryd.ntmps103
  go_wp2_with fail
  generalize w.alloc (.cells #[.int .i64 0, .int .i64 0, .int .i64 0, .int .i64 0, .int .i64 0, .int .i64 0, .int .i64 0] 29) = w0 at D0 K0 ⊢
  refine (l01Next_any L g 200 _ D0.src (by decide)).mono ?_
  rintro e w1 ⟨t, rfl, t0, t1, g1, S1⟩
  have D1 := D0.next g1 S1
  have K1 := K0.nx g1 (by omega)
  clear g1 S1 D0 K0
  go_wp2_with fail
  refine (l01Next_any L g 3 _ D1.src (by decide)).mono ?_
  rintro e w2 ⟨k, rfl, k0, k1, g2, S2⟩
  have D2 := D1.next g2 S2
  have K2 := K1.nx g2 (by omega)
  clear g2 S2 D1 K1
  go_upto_region 2 with fail
  have B3 := Blk.new w2 29 #[.int .i64 t, .int .i64 (1 + k), .int .i64 0, .int .i64 0, .int .i64 0, .int .i64 0, .int .i64 0]
  have D3 := D2.alloc (.cells #[.int .i64 t, .int .i64 (1 + k), .int .i64 0, .int .i64 0, .int .i64 0, .int .i64 0, .int .i64 0] 29)
  have K3 := K2.alloc (.cells #[.int .i64 t, .int .i64 (1 + k), .int .i64 0, .int .i64 0, .int .i64 0, .int .i64 0, .int .i64 0] 29)
  have hz2 : w.heap.size < w2.heap.size := K2.lt
  clear D2 K2
  generalize w2.alloc (.cells #[.int .i64 t, .int .i64 (1 + k), .int .i64 0, .int .i64 0, .int .i64 0, .int .i64 0, .int .i64 0] 29) = w3 at B3 D3 K3 ⊢
  generalize w2.heap.size = Q at B3 hz2 ⊢
  have hlt3 := D3.lt
  have hle3 := D3.le
  have hQg : g ≠ Q := by omega
  have hQ1 : Q ≠ w.heap.size := by omega
  have hQ2 : w.heap.size ≠ Q := by omega
  generalize 1 + k = kd at *
  have cB := fun o => B3.cell o
  have fB := fun o => B3.frozen o
  have gB := B3.lt

  by_cases h1 : kd = 1
  · subst h1
    go_wp2_with fail
    refine (l01Next_any L g 400 _ D3.src (by decide)).mono ?_
    rintro e w4 ⟨v, rfl, v0, v1, g4, S4⟩
    have D4 := D3.next g4 S4
    have K4 := K3.nx g4 (by omega)
    have B4 := B3.nx g4 hQg
    clear g4 S4 cB fB gB B3 D3 K3
    have cB := fun o => B4.cell o
    have fB := fun o => B4.frozen o
    have gB := B4.lt
    have wv : IntKind.i64.wrap (v - 200) = v - 200 := IntWalk.i64_in _ (by omega)
    go_upto_region 7 with fail
    have B5 : Blk _ Q 29 #[.int .i64 t, .int .i64 1, .int .i64 (v - 200), .int .i64 0, .int .i64 0, .int .i64 0, .int .i64 0] := B4.set_ 2 (.int .i64 (v - 200))
    have K5 := K4.far (p := ⟨Q, 2, none⟩) (by simp only; omega) (.int .i64 (v - 200))
    have D5 := D4.set_ (p := ⟨Q, 2, none⟩) (by simp only; omega) (.int .i64 (v - 200))
    clear B4 K4 D4 cB fB gB wv
    generalize w4.setCell ⟨Q, 2, none⟩ (.int .i64 (v - 200)) = w5 at B5 K5 D5 ⊢
    generalize v - 200 = v' at *
    go_wp2_with fail
    refine (l01Next_any L g 60 _ D5.src (by decide)).mono ?_
    rintro e w6 ⟨q, rfl, q0, q1, g6, S6⟩
    have D6 := D5.next g6 S6
    have K6 := K5.nx g6 (by omega)
    have B6 := B5.nx g6 hQg
    clear g6 S6
    by_cases hq : q = 0 ∨ q = 1 ∨ q = 2
    case neg =>
      have q0' : (q == 0) = false := by rw [beq_eq_false_iff_ne]; omega
      have q1' : (q == 1) = false := by rw [beq_eq_false_iff_ne]; omega
      have q2' : (q == 2) = false := by rw [beq_eq_false_iff_ne]; omega
      clear hq
      have cB := fun o => B6.cell o
      have gB := B6.lt
      have cK := fun o => K6.cell o
      have fK := fun o => K6.frozen o
      have gK := K6.lt
      go_wp2
      refine bodyPost_ret (v := .agg #[.int .i64 t, .int .i64 1, .int .i64 v', .int .i64 0, .int .i64 0, .int .i64 0, .int .i64 0]) (by simp [results, Tryd.results103, go_sem, cK, gK]) rfl ⟨t, 1, v', 0, 0, 0, 0, rfl, (((((((D6.set_ (p := ⟨w.heap.size, 0, none⟩) (Nat.le_refl _) _).set_ (p := ⟨w.heap.size, 1, none⟩) (Nat.le_refl _) _).set_ (p := ⟨w.heap.size, 2, none⟩) (Nat.le_refl _) _).set_ (p := ⟨w.heap.size, 3, none⟩) (Nat.le_refl _) _).set_ (p := ⟨w.heap.size, 4, none⟩) (Nat.le_refl _) _).set_ (p := ⟨w.heap.size, 5, none⟩) (Nat.le_refl _) _).set_ (p := ⟨w.heap.size, 6, none⟩) (Nat.le_refl _) _)⟩
    rcases hq with rfl | rfl | rfl
    · go_wp2_with fail
      refine (pick_any L g [-1, 1000000, 1000001] 3 _ D6.src rfl (by decide) (by decide)).mono ?_
      rintro e w7 ⟨p, -, rfl, g7, S7⟩
      have D7 := (D6.alloc _).next g7 S7
      have K7 := (K6.alloc _).nx g7 (by omega)
      have B7 := (B6.alloc _).nx g7 hQg
      clear D6 K6 B6 g7 S7
      have cB := fun o => B7.cell o
      have fB := fun o => B7.frozen o
      have gB := B7.lt
      have cK := fun o => K7.cell o
      have fK := fun o => K7.frozen o
      have gK := K7.lt
      go_wp2
      refine bodyPost_ret (v := .agg #[.int .i64 p, .int .i64 1, .int .i64 v', .int .i64 0, .int .i64 0, .int .i64 0, .int .i64 0]) (by simp [results, Tryd.results103, go_sem, cK, gK]) rfl ⟨p, 1, v', 0, 0, 0, 0, rfl, ((((((((D7.set_ (p := ⟨Q, 0, none⟩) (by simp only; omega) _).set_ (p := ⟨w.heap.size, 0, none⟩) (Nat.le_refl _) _).set_ (p := ⟨w.heap.size, 1, none⟩) (Nat.le_refl _) _).set_ (p := ⟨w.heap.size, 2, none⟩) (Nat.le_refl _) _).set_ (p := ⟨w.heap.size, 3, none⟩) (Nat.le_refl _) _).set_ (p := ⟨w.heap.size, 4, none⟩) (Nat.le_refl _) _).set_ (p := ⟨w.heap.size, 5, none⟩) (Nat.le_refl _) _).set_ (p := ⟨w.heap.size, 6, none⟩) (Nat.le_refl _) _)⟩
    · go_wp2_with fail
      refine (pick_any L g [0, 4, 1, 2, 3] 5 _ D6.src rfl (by decide) (by decide)).mono ?_
      rintro e w7 ⟨p, -, rfl, g7, S7⟩
      have D7 := (D6.alloc _).next g7 S7
      have K7 := (K6.alloc _).nx g7 (by omega)
      have B7 := (B6.alloc _).nx g7 hQg
      clear D6 K6 B6 g7 S7
      have cB := fun o => B7.cell o
      have fB := fun o => B7.frozen o
      have gB := B7.lt
      have cK := fun o => K7.cell o
      have fK := fun o => K7.frozen o
      have gK := K7.lt
      go_wp2
      refine bodyPost_ret (v := .agg #[.int .i64 t, .int .i64 p, .int .i64 v', .int .i64 0, .int .i64 0, .int .i64 0, .int .i64 0]) (by simp [results, Tryd.results103, go_sem, cK, gK]) rfl ⟨t, p, v', 0, 0, 0, 0, rfl, ((((((((D7.set_ (p := ⟨Q, 1, none⟩) (by simp only; omega) _).set_ (p := ⟨w.heap.size, 0, none⟩) (Nat.le_refl _) _).set_ (p := ⟨w.heap.size, 1, none⟩) (Nat.le_refl _) _).set_ (p := ⟨w.heap.size, 2, none⟩) (Nat.le_refl _) _).set_ (p := ⟨w.heap.size, 3, none⟩) (Nat.le_refl _) _).set_ (p := ⟨w.heap.size, 4, none⟩) (Nat.le_refl _) _).set_ (p := ⟨w.heap.size, 5, none⟩) (Nat.le_refl _) _).set_ (p := ⟨w.heap.size, 6, none⟩) (Nat.le_refl _) _)⟩
    · go_wp2_with fail
      refine (pick_any L g [1, 2000, 2001] 3 _ D6.src rfl (by decide) (by decide)).mono ?_
      rintro e w7 ⟨p, -, rfl, g7, S7⟩
      have D7 := (D6.alloc _).next g7 S7
      have K7 := (K6.alloc _).nx g7 (by omega)
      have B7 := (B6.alloc _).nx g7 hQg
      clear D6 K6 B6 g7 S7
      have cB := fun o => B7.cell o
      have fB := fun o => B7.frozen o
      have gB := B7.lt
      have cK := fun o => K7.cell o
      have fK := fun o => K7.frozen o
      have gK := K7.lt
      go_wp2
      refine bodyPost_ret (v := .agg #[.int .i64 t, .int .i64 1, .int .i64 p, .int .i64 0, .int .i64 0, .int .i64 0, .int .i64 0]) (by simp [results, Tryd.results103, go_sem, cK, gK]) rfl ⟨t, 1, p, 0, 0, 0, 0, rfl, ((((((((D7.set_ (p := ⟨Q, 2, none⟩) (by simp only; omega) _).set_ (p := ⟨w.heap.size, 0, none⟩) (Nat.le_refl _) _).set_ (p := ⟨w.heap.size, 1, none⟩) (Nat.le_refl _) _).set_ (p := ⟨w.heap.size, 2, none⟩) (Nat.le_refl _) _).set_ (p := ⟨w.heap.size, 3, none⟩) (Nat.le_refl _) _).set_ (p := ⟨w.heap.size, 4, none⟩) (Nat.le_refl _) _).set_ (p := ⟨w.heap.size, 5, none⟩) (Nat.le_refl _) _).set_ (p := ⟨w.heap.size, 6, none⟩) (Nat.le_refl _) _)⟩
  have hk1 : (kd == 1) = false := by rw [beq_eq_false_iff_ne]; exact h1
  by_cases h2 : kd = 2
  · subst h2
    go_wp2_with fail
    refine (l21DrawOne_any L g _ D3.src).mono ?_
    rintro e w4 ⟨x, y, d, r, rfl, E4⟩
    have D4 := D3.next E4.gr E4.src
    have K4 := K3.nx E4.gr (by omega)
    have B4 := B3.nx E4.gr hQg
    clear E4 cB fB gB B3 D3 K3
    have cB := fun o => B4.cell o
    have fB := fun o => B4.frozen o
    have gB := B4.lt
    go_upto_region 7 with fail
    have B5 : Blk _ Q 29 #[.int .i64 t, .int .i64 2, .int .i64 0, .int .i64 x, .int .i64 y, .int .i64 d, .int .i64 r] := (((B4.set_ 3 (.int .i64 x)).set_ 4 (.int .i64 y)).set_ 5 (.int .i64 d)).set_ 6 (.int .i64 r)
    have K5 := (((K4.far (p := ⟨Q, 3, none⟩) (by simp only; omega) (.int .i64 x)).far (p := ⟨Q, 4, none⟩) (by simp only; omega) (.int .i64 y)).far (p := ⟨Q, 5, none⟩) (by simp only; omega) (.int .i64 d)).far (p := ⟨Q, 6, none⟩) (by simp only; omega) (.int .i64 r)
    have D5 := (((D4.set_ (p := ⟨Q, 3, none⟩) (by simp only; omega) (.int .i64 x)).set_ (p := ⟨Q, 4, none⟩) (by simp only; omega) (.int .i64 y)).set_ (p := ⟨Q, 5, none⟩) (by simp only; omega) (.int .i64 d)).set_ (p := ⟨Q, 6, none⟩) (by simp only; omega) (.int .i64 r)
    clear B4 K4 D4 cB fB gB
    generalize (((w4.setCell ⟨Q, 3, none⟩ (.int .i64 x)).setCell ⟨Q, 4, none⟩ (.int .i64 y)).setCell ⟨Q, 5, none⟩ (.int .i64 d)).setCell ⟨Q, 6, none⟩ (.int .i64 r) = w5 at B5 K5 D5 ⊢
    go_wp2_with fail
    refine (l01Next_any L g 60 _ D5.src (by decide)).mono ?_
    rintro e w6 ⟨q, rfl, q0, q1, g6, S6⟩
    have D6 := D5.next g6 S6
    have K6 := K5.nx g6 (by omega)
    have B6 := B5.nx g6 hQg
    clear g6 S6
    by_cases hq : q = 0 ∨ q = 1 ∨ q = 2
    case neg =>
      have q0' : (q == 0) = false := by rw [beq_eq_false_iff_ne]; omega
      have q1' : (q == 1) = false := by rw [beq_eq_false_iff_ne]; omega
      have q2' : (q == 2) = false := by rw [beq_eq_false_iff_ne]; omega
      clear hq
      have cB := fun o => B6.cell o
      have gB := B6.lt
      have cK := fun o => K6.cell o
      have fK := fun o => K6.frozen o
      have gK := K6.lt
      go_wp2
      refine bodyPost_ret (v := .agg #[.int .i64 t, .int .i64 2, .int .i64 0, .int .i64 x, .int .i64 y, .int .i64 d, .int .i64 r]) (by simp [results, Tryd.results103, go_sem, cK, gK]) rfl ⟨t, 2, 0, x, y, d, r, rfl, (((((((D6.set_ (p := ⟨w.heap.size, 0, none⟩) (Nat.le_refl _) _).set_ (p := ⟨w.heap.size, 1, none⟩) (Nat.le_refl _) _).set_ (p := ⟨w.heap.size, 2, none⟩) (Nat.le_refl _) _).set_ (p := ⟨w.heap.size, 3, none⟩) (Nat.le_refl _) _).set_ (p := ⟨w.heap.size, 4, none⟩) (Nat.le_refl _) _).set_ (p := ⟨w.heap.size, 5, none⟩) (Nat.le_refl _) _).set_ (p := ⟨w.heap.size, 6, none⟩) (Nat.le_refl _) _)⟩
    rcases hq with rfl | rfl | rfl
    · go_wp2_with fail
      refine (pick_any L g [-1, 1000000, 1000001] 3 _ D6.src rfl (by decide) (by decide)).mono ?_
      rintro e w7 ⟨p, -, rfl, g7, S7⟩
      have D7 := (D6.alloc _).next g7 S7
      have K7 := (K6.alloc _).nx g7 (by omega)
      have B7 := (B6.alloc _).nx g7 hQg
      clear D6 K6 B6 g7 S7
      have cB := fun o => B7.cell o
      have fB := fun o => B7.frozen o
      have gB := B7.lt
      have cK := fun o => K7.cell o
      have fK := fun o => K7.frozen o
      have gK := K7.lt
      go_wp2
      refine bodyPost_ret (v := .agg #[.int .i64 p, .int .i64 2, .int .i64 0, .int .i64 x, .int .i64 y, .int .i64 d, .int .i64 r]) (by simp [results, Tryd.results103, go_sem, cK, gK]) rfl ⟨p, 2, 0, x, y, d, r, rfl, ((((((((D7.set_ (p := ⟨Q, 0, none⟩) (by simp only; omega) _).set_ (p := ⟨w.heap.size, 0, none⟩) (Nat.le_refl _) _).set_ (p := ⟨w.heap.size, 1, none⟩) (Nat.le_refl _) _).set_ (p := ⟨w.heap.size, 2, none⟩) (Nat.le_refl _) _).set_ (p := ⟨w.heap.size, 3, none⟩) (Nat.le_refl _) _).set_ (p := ⟨w.heap.size, 4, none⟩) (Nat.le_refl _) _).set_ (p := ⟨w.heap.size, 5, none⟩) (Nat.le_refl _) _).set_ (p := ⟨w.heap.size, 6, none⟩) (Nat.le_refl _) _)⟩
    · go_wp2_with fail
      refine (pick_any L g [0, 4, 1, 2, 3] 5 _ D6.src rfl (by decide) (by decide)).mono ?_
      rintro e w7 ⟨p, -, rfl, g7, S7⟩
      have D7 := (D6.alloc _).next g7 S7
      have K7 := (K6.alloc _).nx g7 (by omega)
      have B7 := (B6.alloc _).nx g7 hQg
      clear D6 K6 B6 g7 S7
      have cB := fun o => B7.cell o
      have fB := fun o => B7.frozen o
      have gB := B7.lt
      have cK := fun o => K7.cell o
      have fK := fun o => K7.frozen o
      have gK := K7.lt
      go_wp2
      refine bodyPost_ret (v := .agg #[.int .i64 t, .int .i64 p, .int .i64 0, .int .i64 x, .int .i64 y, .int .i64 d, .int .i64 r]) (by simp [results, Tryd.results103, go_sem, cK, gK]) rfl ⟨t, p, 0, x, y, d, r, rfl, ((((((((D7.set_ (p := ⟨Q, 1, none⟩) (by simp only; omega) _).set_ (p := ⟨w.heap.size, 0, none⟩) (Nat.le_refl _) _).set_ (p := ⟨w.heap.size, 1, none⟩) (Nat.le_refl _) _).set_ (p := ⟨w.heap.size, 2, none⟩) (Nat.le_refl _) _).set_ (p := ⟨w.heap.size, 3, none⟩) (Nat.le_refl _) _).set_ (p := ⟨w.heap.size, 4, none⟩) (Nat.le_refl _) _).set_ (p := ⟨w.heap.size, 5, none⟩) (Nat.le_refl _) _).set_ (p := ⟨w.heap.size, 6, none⟩) (Nat.le_refl _) _)⟩
    · go_wp2_with fail
      refine (pick_any L g [1, 2000, 2001] 3 _ D6.src rfl (by decide) (by decide)).mono ?_
      rintro e w7 ⟨p, -, rfl, g7, S7⟩
      have D7 := (D6.alloc _).next g7 S7
      have K7 := (K6.alloc _).nx g7 (by omega)
      have B7 := (B6.alloc _).nx g7 hQg
      clear D6 K6 B6 g7 S7
      have cB := fun o => B7.cell o
      have fB := fun o => B7.frozen o
      have gB := B7.lt
      have cK := fun o => K7.cell o
      have fK := fun o => K7.frozen o
      have gK := K7.lt
      go_wp2
      refine bodyPost_ret (v := .agg #[.int .i64 t, .int .i64 2, .int .i64 p, .int .i64 x, .int .i64 y, .int .i64 d, .int .i64 r]) (by simp [results, Tryd.results103, go_sem, cK, gK]) rfl ⟨t, 2, p, x, y, d, r, rfl, ((((((((D7.set_ (p := ⟨Q, 2, none⟩) (by simp only; omega) _).set_ (p := ⟨w.heap.size, 0, none⟩) (Nat.le_refl _) _).set_ (p := ⟨w.heap.size, 1, none⟩) (Nat.le_refl _) _).set_ (p := ⟨w.heap.size, 2, none⟩) (Nat.le_refl _) _).set_ (p := ⟨w.heap.size, 3, none⟩) (Nat.le_refl _) _).set_ (p := ⟨w.heap.size, 4, none⟩) (Nat.le_refl _) _).set_ (p := ⟨w.heap.size, 5, none⟩) (Nat.le_refl _) _).set_ (p := ⟨w.heap.size, 6, none⟩) (Nat.le_refl _) _)⟩
  have hk2 : (kd == 2) = false := by rw [beq_eq_false_iff_ne]; exact h2
  clear cB fB gB
  have cB := fun o => B3.cell o
  have gB := B3.lt
  go_upto_region 7 with fail
  clear cB gB
  go_wp2_with fail
  refine (l01Next_any L g 60 _ D3.src (by decide)).mono ?_
  rintro e w6 ⟨q, rfl, q0, q1, g6, S6⟩
  have D6 := D3.next g6 S6
  have K6 := K3.nx g6 (by omega)
  have B6 := B3.nx g6 hQg
  clear g6 S6
  by_cases hq : q = 0 ∨ q = 1 ∨ q = 2
  case neg =>
    have q0' : (q == 0) = false := by rw [beq_eq_false_iff_ne]; omega
    have q1' : (q == 1) = false := by rw [beq_eq_false_iff_ne]; omega
    have q2' : (q == 2) = false := by rw [beq_eq_false_iff_ne]; omega
    clear hq
    have cB := fun o => B6.cell o
    have gB := B6.lt
    have cK := fun o => K6.cell o
    have fK := fun o => K6.frozen o
    have gK := K6.lt
    go_wp2
    refine bodyPost_ret (v := .agg #[.int .i64 t, .int .i64 kd, .int .i64 0, .int .i64 0, .int .i64 0, .int .i64 0, .int .i64 0]) (by simp [results, Tryd.results103, go_sem, cK, gK]) rfl ⟨t, kd, 0, 0, 0, 0, 0, rfl, (((((((D6.set_ (p := ⟨w.heap.size, 0, none⟩) (Nat.le_refl _) _).set_ (p := ⟨w.heap.size, 1, none⟩) (Nat.le_refl _) _).set_ (p := ⟨w.heap.size, 2, none⟩) (Nat.le_refl _) _).set_ (p := ⟨w.heap.size, 3, none⟩) (Nat.le_refl _) _).set_ (p := ⟨w.heap.size, 4, none⟩) (Nat.le_refl _) _).set_ (p := ⟨w.heap.size, 5, none⟩) (Nat.le_refl _) _).set_ (p := ⟨w.heap.size, 6, none⟩) (Nat.le_refl _) _)⟩
  rcases hq with rfl | rfl | rfl
  · go_wp2_with fail
    refine (pick_any L g [-1, 1000000, 1000001] 3 _ D6.src rfl (by decide) (by decide)).mono ?_
    rintro e w7 ⟨p, -, rfl, g7, S7⟩
    have D7 := (D6.alloc _).next g7 S7
    have K7 := (K6.alloc _).nx g7 (by omega)
    have B7 := (B6.alloc _).nx g7 hQg
    clear D6 K6 B6 g7 S7
    have cB := fun o => B7.cell o
    have fB := fun o => B7.frozen o
    have gB := B7.lt
    have cK := fun o => K7.cell o
    have fK := fun o => K7.frozen o
    have gK := K7.lt
    go_wp2
    refine bodyPost_ret (v := .agg #[.int .i64 p, .int .i64 kd, .int .i64 0, .int .i64 0, .int .i64 0, .int .i64 0, .int .i64 0]) (by simp [results, Tryd.results103, go_sem, cK, gK]) rfl ⟨p, kd, 0, 0, 0, 0, 0, rfl, ((((((((D7.set_ (p := ⟨Q, 0, none⟩) (by simp only; omega) _).set_ (p := ⟨w.heap.size, 0, none⟩) (Nat.le_refl _) _).set_ (p := ⟨w.heap.size, 1, none⟩) (Nat.le_refl _) _).set_ (p := ⟨w.heap.size, 2, none⟩) (Nat.le_refl _) _).set_ (p := ⟨w.heap.size, 3, none⟩) (Nat.le_refl _) _).set_ (p := ⟨w.heap.size, 4, none⟩) (Nat.le_refl _) _).set_ (p := ⟨w.heap.size, 5, none⟩) (Nat.le_refl _) _).set_ (p := ⟨w.heap.size, 6, none⟩) (Nat.le_refl _) _)⟩
  · go_wp2_with fail
    refine (pick_any L g [0, 4, 1, 2, 3] 5 _ D6.src rfl (by decide) (by decide)).mono ?_
    rintro e w7 ⟨p, -, rfl, g7, S7⟩
    have D7 := (D6.alloc _).next g7 S7
    have K7 := (K6.alloc _).nx g7 (by omega)
    have B7 := (B6.alloc _).nx g7 hQg
    clear D6 K6 B6 g7 S7
    have cB := fun o => B7.cell o
    have fB := fun o => B7.frozen o
    have gB := B7.lt
    have cK := fun o => K7.cell o
    have fK := fun o => K7.frozen o
    have gK := K7.lt
    go_wp2
    refine bodyPost_ret (v := .agg #[.int .i64 t, .int .i64 p, .int .i64 0, .int .i64 0, .int .i64 0, .int .i64 0, .int .i64 0]) (by simp [results, Tryd.results103, go_sem, cK, gK]) rfl ⟨t, p, 0, 0, 0, 0, 0, rfl, ((((((((D7.set_ (p := ⟨Q, 1, none⟩) (by simp only; omega) _).set_ (p := ⟨w.heap.size, 0, none⟩) (Nat.le_refl _) _).set_ (p := ⟨w.heap.size, 1, none⟩) (Nat.le_refl _) _).set_ (p := ⟨w.heap.size, 2, none⟩) (Nat.le_refl _) _).set_ (p := ⟨w.heap.size, 3, none⟩) (Nat.le_refl _) _).set_ (p := ⟨w.heap.size, 4, none⟩) (Nat.le_refl _) _).set_ (p := ⟨w.heap.size, 5, none⟩) (Nat.le_refl _) _).set_ (p := ⟨w.heap.size, 6, none⟩) (Nat.le_refl _) _)⟩
  · go_wp2_with fail
    refine (pick_any L g [1, 2000, 2001] 3 _ D6.src rfl (by decide) (by decide)).mono ?_
    rintro e w7 ⟨p, -, rfl, g7, S7⟩
    have D7 := (D6.alloc _).next g7 S7
    have K7 := (K6.alloc _).nx g7 (by omega)
    have B7 := (B6.alloc _).nx g7 hQg
    clear D6 K6 B6 g7 S7
    have cB := fun o => B7.cell o
    have fB := fun o => B7.frozen o
    have gB := B7.lt
    have cK := fun o => K7.cell o
    have fK := fun o => K7.frozen o
    have gK := K7.lt
    go_wp2
    refine bodyPost_ret (v := .agg #[.int .i64 t, .int .i64 kd, .int .i64 p, .int .i64 0, .int .i64 0, .int .i64 0, .int .i64 0]) (by simp [results, Tryd.results103, go_sem, cK, gK]) rfl ⟨t, kd, p, 0, 0, 0, 0, rfl, ((((((((D7.set_ (p := ⟨Q, 2, none⟩) (by simp only; omega) _).set_ (p := ⟨w.heap.size, 0, none⟩) (Nat.le_refl _) _).set_ (p := ⟨w.heap.size, 1, none⟩) (Nat.le_refl _) _).set_ (p := ⟨w.heap.size, 2, none⟩) (Nat.le_refl _) _).set_ (p := ⟨w.heap.size, 3, none⟩) (Nat.le_refl _) _).set_ (p := ⟨w.heap.size, 4, none⟩) (Nat.le_refl _) _).set_ (p := ⟨w.heap.size, 5, none⟩) (Nat.le_refl _) _).set_ (p := ⟨w.heap.size, 6, none⟩) (Nat.le_refl _) _)⟩


theorem rd_sevenA (w : World) (a b c d e f g : Int) (t : TypeId) : Rd (w.alloc (.cells #[.int .i64 a, .int .i64 b, .int .i64 c, .int .i64 d, .int .i64 e, .int .i64 f, .int .i64 g] t)) (some ⟨w.heap.size, 0, none⟩) (1 * 7) (ints [a, b, c, d, e, f, g]) := by
  refine ⟨rfl, fun _ => ⟨_, rfl, fun i hi => ?_⟩⟩
  rw [add_lit, (Blk.new w t #[.int .i64 a, .int .i64 b, .int .i64 c, .int .i64 d, .int .i64 e, .int .i64 f, .int .i64 g]).cell]
  simp [ints]
theorem Record_zero : (Tryd.prog.info? 29).map (fun i => (i.zero.map (·.cells), i.size, i.bytes)) = some (some #[.int .i64 0, .int .i64 0, .int .i64 0, .int .i64 0, .int .i64 0, .int .i64 0, .int .i64 0], 7, 56) := by kernel_rfl
theorem run_make_RecZ (n : Nat) (hn : n ≤ 1048576) (W : World) :
    (Instr.makeSlice 36 (.int .i64 (n : Int)) (.int .i64 (n : Int))).run Tryd.prog W = .ok (.slice (some ⟨W.heap.size, 0, none⟩) n n) (W.alloc (.cells (madeCells #[.int .i64 0, .int .i64 0, .int .i64 0, .int .i64 0, .int .i64 0, .int .i64 0, .int .i64 0] (n * 7)) 29)) := by
  have h := Record_zero
  cases hi : Tryd.prog.info? 29 with
  | none => rw [hi] at h; simp at h
  | some i =>
    rw [hi] at h
    simp only [Option.map_some, Option.some.injEq, Prod.mk.injEq] at h
    obtain ⟨hz, hs, hb⟩ := h
    cases hz0 : i.zero with
    | none => rw [hz0] at hz; simp at hz
    | some z =>
      have hr := run_make_rowN (P := Tryd.prog) 36 29 i z Tryd.underlying36 hi hz0 .i64 .i64 n n (Nat.le_refl _) (by rw [hb]; omega) (by omega) W
      rw [hz0] at hz
      simp only [Option.map_some, Option.some.injEq] at hz
      rw [hs, hz] at hr
      exact hr

def DrawnLog (w : World) (L g : Nat) (e : Ending) (w' : World) : Prop :=
  ∃ (h : Hd) (xs : List Int), e = .returned (.slice h.A h.n h.c) ∧ h.n ≤ 60 ∧ h.n ≤ h.c ∧ Rd w' h.A (h.n * 7) (ints xs) ∧ Dr w w' L g
end Go.Proofs.YtoledbicmghmbaaDoor
