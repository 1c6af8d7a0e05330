/- The draws of soundings, of records and of logs. Existential: some numbers; a list of at most 60 records. -/
import Derived.Test.YtoledbicmghmbaaGreatDoorDr
import Derived.Test.YtoledbicmghmbaaGreatDoorRec
import Derived.Test.YtoledbicmghmbaaGreatDoorLog
namespace Go.Proofs.YtoledbicmghmbaaGreatDoor
open Go.RowKit

theorem Own.farL {w : World} {B K : Nat} {h : Hd} {us : List Value} (o : Own w B K h us) {p : Addr} (hr : h.row ≠ some p.block) (u : Value) : Own (w.setCell p u) B K h us :=
  o.grown (grown_setCell (World.grownBy.refl _ _) (.inl rfl) _) (fun b e c => hr (e.trans (by rw [← c])))
set_option maxRecDepth 100000 in
set_option maxHeartbeats 4000000 in
theorem l21DrawOne_any (L g : Nat) (w : World) (S : Src w L g) :
    Calls Tryz.prog 43 #[.pointer (some ⟨g, 0, none⟩)] w fun e w' => ∃ x y d r : Int, e = .returned (.agg #[.int .i64 x, .int .i64 y, .int .i64 d, .int .i64 r]) ∧ Dr w w' L g := by
  have D0 := (Dr.start S).alloc (.cells #[.int .i64 0, .int .i64 0, .int .i64 0, .int .i64 0] 43)
  have K0 := Blk.new w 43 #[.int .i64 0, .int .i64 0, .int .i64 0, .int .i64 0]
  have gS := S.lt
  go_enter Tryz.func43, Tryz.ntmps43
  go_wp2_with fail
  generalize w.alloc (.cells #[.int .i64 0, .int .i64 0, .int .i64 0, .int .i64 0] 43) = w0 at D0 K0 ⊢
  refine (l01Next_any L g 60 _ D0.src (by decide)).mono ?_
  rintro e w1 ⟨x, rfl, x0, x1, g1, S1⟩
  have D1 := D0.next g1 S1
  have K1 := K0.nx g1 (by omega)
  clear g1 S1 D0 K0
  go_wp2_with fail
  refine (l01Next_any L g 60 _ D1.src (by decide)).mono ?_
  rintro e w2 ⟨y, rfl, y0, y1, g2, S2⟩
  have D2 := D1.next g2 S2
  have K2 := K1.nx g2 (by omega)
  clear g2 S2 D1 K1
  go_wp2_with fail
  refine (l01Next_any L g 90 _ D2.src (by decide)).mono ?_
  rintro e w3 ⟨d, rfl, d0, d1, g3, S3⟩
  have D3 := D2.next g3 S3
  have K3 := K2.nx g3 (by omega)
  clear g3 S3 D2 K2
  go_wp2_with fail
  refine (l01Next_any L g 20 _ D3.src (by decide)).mono ?_
  rintro e w4 ⟨r, rfl, r0, r1, g4, S4⟩
  have D4 := D3.next g4 S4
  have K4 := K3.nx g4 (by omega)
  clear g4 S4 D3 K3
  go_upto_region 2 with fail
  have B5 := Blk.new w4 43 #[.int .i64 x, .int .i64 y, .int .i64 (1000 + d), .int .i64 r]
  have D5 := D4.alloc (.cells #[.int .i64 x, .int .i64 y, .int .i64 (1000 + d), .int .i64 r] 43)
  have K5 := K4.alloc (.cells #[.int .i64 x, .int .i64 y, .int .i64 (1000 + d), .int .i64 r] 43)
  have hz4 : w.heap.size < w4.heap.size := K4.lt
  clear D4 K4
  generalize w4.alloc (.cells #[.int .i64 x, .int .i64 y, .int .i64 (1000 + d), .int .i64 r] 43) = w5 at B5 D5 K5 ⊢
  generalize w4.heap.size = Q at B5 hz4 ⊢
  have hlt5 := D5.lt
  have hle5 := D5.le
  have hQg : g ≠ Q := by omega
  have hQ1 : Q ≠ w.heap.size := by omega
  have hQ2 : w.heap.size ≠ Q := by omega
  generalize 1000 + d = d' at *
  go_wp2_with fail

  refine (l01Next_any L g 60 _ D5.src (by decide)).mono ?_
  rintro e w6 ⟨q, rfl, q0, q1, g6, S6⟩
  have D6 := D5.next g6 S6
  have K6 := K5.nx g6 (by omega)
  have B6 := B5.nx g6 hQg
  clear g6 S6 D5 K5 B5
  by_cases hq : q = 0 ∨ q = 1 ∨ q = 2
  case neg =>
    have q0' : (q == 0) = false := by rw [beq_eq_false_iff_ne]; omega
    have q1' : (q == 1) = false := by rw [beq_eq_false_iff_ne]; omega
    have q2' : (q == 2) = false := by rw [beq_eq_false_iff_ne]; omega
    clear hq
    have cB := fun o => B6.cell o
    have gB := B6.lt
    have cK := fun o => K6.cell o
    have fK := fun o => K6.frozen o
    have gK := K6.lt
    go_wp2
    refine bodyPost_ret (v := .agg #[.int .i64 x, .int .i64 y, .int .i64 d', .int .i64 r]) (by simp [results, Tryz.results43, go_sem, cK, gK]) rfl ⟨x, y, d', r, rfl, (((D6.set_ (p := ⟨w.heap.size, 0, none⟩) (Nat.le_refl _) _).set_ (p := ⟨w.heap.size, 1, none⟩) (Nat.le_refl _) _).set_ (p := ⟨w.heap.size, 2, none⟩) (Nat.le_refl _) _).set_ (p := ⟨w.heap.size, 3, none⟩) (Nat.le_refl _) _⟩
  rcases hq with rfl | rfl | rfl
  · go_wp2_with fail
    refine (pick_any L g [1000000, 1000001, -2000, -2001] 4 _ D6.src rfl (by decide) (by decide)).mono ?_
    rintro e w7 ⟨p, -, rfl, g7, S7⟩
    have D7 := (D6.alloc _).next g7 S7
    have K7 := (K6.alloc _).nx g7 (by omega)
    have B7 := (B6.alloc _).nx g7 hQg
    clear D6 K6 B6 g7 S7
    have cB := fun o => B7.cell o
    have fB := fun o => B7.frozen o
    have gB := B7.lt
    have cK := fun o => K7.cell o
    have fK := fun o => K7.frozen o
    have gK := K7.lt
    go_wp2
    refine bodyPost_ret (v := .agg #[.int .i64 x, .int .i64 y, .int .i64 p, .int .i64 r]) (by simp [results, Tryz.results43, go_sem, cK, gK]) rfl ⟨x, y, p, r, rfl, ((((D7.set_ (p := ⟨Q, 2, none⟩) (by simp only; omega) _).set_ (p := ⟨w.heap.size, 0, none⟩) (Nat.le_refl _) _).set_ (p := ⟨w.heap.size, 1, none⟩) (Nat.le_refl _) _).set_ (p := ⟨w.heap.size, 2, none⟩) (Nat.le_refl _) _).set_ (p := ⟨w.heap.size, 3, none⟩) (Nat.le_refl _) _⟩
  · go_wp2_with fail
    refine (pick_any L g [-1, 0, 5000, 5001] 4 _ D6.src rfl (by decide) (by decide)).mono ?_
    rintro e w7 ⟨p, -, rfl, g7, S7⟩
    have D7 := (D6.alloc _).next g7 S7
    have K7 := (K6.alloc _).nx g7 (by omega)
    have B7 := (B6.alloc _).nx g7 hQg
    clear D6 K6 B6 g7 S7
    have cB := fun o => B7.cell o
    have fB := fun o => B7.frozen o
    have gB := B7.lt
    have cK := fun o => K7.cell o
    have fK := fun o => K7.frozen o
    have gK := K7.lt
    go_wp2
    refine bodyPost_ret (v := .agg #[.int .i64 x, .int .i64 y, .int .i64 d', .int .i64 p]) (by simp [results, Tryz.results43, go_sem, cK, gK]) rfl ⟨x, y, d', p, rfl, ((((D7.set_ (p := ⟨Q, 3, none⟩) (by simp only; omega) _).set_ (p := ⟨w.heap.size, 0, none⟩) (Nat.le_refl _) _).set_ (p := ⟨w.heap.size, 1, none⟩) (Nat.le_refl _) _).set_ (p := ⟨w.heap.size, 2, none⟩) (Nat.le_refl _) _).set_ (p := ⟨w.heap.size, 3, none⟩) (Nat.le_refl _) _⟩
  · go_wp2_with fail
    refine (pick_any L g [-1, 10000, 10001] 3 _ D6.src rfl (by decide) (by decide)).mono ?_
    rintro e w7 ⟨p, -, rfl, g7, S7⟩
    have D7 := (D6.alloc _).next g7 S7
    have K7 := (K6.alloc _).nx g7 (by omega)
    have B7 := (B6.alloc _).nx g7 hQg
    clear D6 K6 B6 g7 S7
    have cB := fun o => B7.cell o
    have fB := fun o => B7.frozen o
    have gB := B7.lt
    have cK := fun o => K7.cell o
    have fK := fun o => K7.frozen o
    have gK := K7.lt
    go_wp2
    refine bodyPost_ret (v := .agg #[.int .i64 p, .int .i64 y, .int .i64 d', .int .i64 r]) (by simp [results, Tryz.results43, go_sem, cK, gK]) rfl ⟨p, y, d', r, rfl, ((((D7.set_ (p := ⟨Q, 0, none⟩) (by simp only; omega) _).set_ (p := ⟨w.heap.size, 0, none⟩) (Nat.le_refl _) _).set_ (p := ⟨w.heap.size, 1, none⟩) (Nat.le_refl _) _).set_ (p := ⟨w.heap.size, 2, none⟩) (Nat.le_refl _) _).set_ (p := ⟨w.heap.size, 3, none⟩) (Nat.le_refl _) _⟩

set_option maxRecDepth 100000 in
set_option maxHeartbeats 4000000 in
theorem l31DrawOne_any (L g : Nat) (w : World) (S : Src w L g) :
    Calls Tryz.prog 27 #[.pointer (some ⟨g, 0, none⟩)] w fun e w' => ∃ t k l x y d r : Int, e = .returned (.agg #[.int .i64 t, .int .i64 k, .int .i64 l, .int .i64 x, .int .i64 y, .int .i64 d, .int .i64 r]) ∧ Dr w w' L g := by
  have D0 := (Dr.start S).alloc (.cells #[.int .i64 0, .int .i64 0, .int .i64 0, .int .i64 0, .int .i64 0, .int .i64 0, .int .i64 0] 45)
  have K0 := Blk.new w 45 #[.int .i64 0, .int .i64 0, .int .i64 0, .int .i64 0, .int .i64 0, .int .i64 0, .int .i64 0]
  have gS := S.lt
  go_enter Tryz.func27, Tryz.ntmps27
  go_wp2_with fail
  generalize w.alloc (.cells #[.int .i64 0, .int .i64 0, .int .i64 0, .int .i64 0, .int .i64 0, .int .i64 0, .int .i64 0] 45) = w0 at D0 K0 ⊢
  refine (l01Next_any L g 200 _ D0.src (by decide)).mono ?_
  rintro e w1 ⟨t, rfl, t0, t1, g1, S1⟩
  have D1 := D0.next g1 S1
  have K1 := K0.nx g1 (by omega)
  clear g1 S1 D0 K0
  go_wp2_with fail
  refine (l01Next_any L g 3 _ D1.src (by decide)).mono ?_
  rintro e w2 ⟨k, rfl, k0, k1, g2, S2⟩
  have D2 := D1.next g2 S2
  have K2 := K1.nx g2 (by omega)
  clear g2 S2 D1 K1
  go_upto_region 2 with fail
  have B3 := Blk.new w2 45 #[.int .i64 t, .int .i64 (1 + k), .int .i64 0, .int .i64 0, .int .i64 0, .int .i64 0, .int .i64 0]
  have D3 := D2.alloc (.cells #[.int .i64 t, .int .i64 (1 + k), .int .i64 0, .int .i64 0, .int .i64 0, .int .i64 0, .int .i64 0] 45)
  have K3 := K2.alloc (.cells #[.int .i64 t, .int .i64 (1 + k), .int .i64 0, .int .i64 0, .int .i64 0, .int .i64 0, .int .i64 0] 45)
  have hz2 : w.heap.size < w2.heap.size := K2.lt
  clear D2 K2
  generalize w2.alloc (.cells #[.int .i64 t, .int .i64 (1 + k), .int .i64 0, .int .i64 0, .int .i64 0, .int .i64 0, .int .i64 0] 45) = w3 at B3 D3 K3 ⊢
  generalize w2.heap.size = Q at B3 hz2 ⊢
  have hlt3 := D3.lt
  have hle3 := D3.le
  have hQg : g ≠ Q := by omega
  have hQ1 : Q ≠ w.heap.size := by omega
  have hQ2 : w.heap.size ≠ Q := by omega
  generalize 1 + k = kd at *
  have cB := fun o => B3.cell o
  have fB := fun o => B3.frozen o
  have gB := B3.lt

  by_cases h1 : kd = 1
  · subst h1
    go_wp2_with fail
    refine (l01Next_any L g 400 _ D3.src (by decide)).mono ?_
    rintro e w4 ⟨v, rfl, v0, v1, g4, S4⟩
    have D4 := D3.next g4 S4
    have K4 := K3.nx g4 (by omega)
    have B4 := B3.nx g4 hQg
    clear g4 S4 cB fB gB B3 D3 K3
    have cB := fun o => B4.cell o
    have fB := fun o => B4.frozen o
    have gB := B4.lt
    have wv : IntKind.i64.wrap (v - 200) = v - 200 := IntWalk.i64_in _ (by omega)
    go_upto_region 7 with fail
    have B5 : Blk _ Q 45 #[.int .i64 t, .int .i64 1, .int .i64 (v - 200), .int .i64 0, .int .i64 0, .int .i64 0, .int .i64 0] := B4.set_ 2 (.int .i64 (v - 200))
    have K5 := K4.far (p := ⟨Q, 2, none⟩) (by simp only; omega) (.int .i64 (v - 200))
    have D5 := D4.set_ (p := ⟨Q, 2, none⟩) (by simp only; omega) (.int .i64 (v - 200))
    clear B4 K4 D4 cB fB gB wv
    generalize w4.setCell ⟨Q, 2, none⟩ (.int .i64 (v - 200)) = w5 at B5 K5 D5 ⊢
    generalize v - 200 = v' at *
    go_wp2_with fail
    refine (l01Next_any L g 60 _ D5.src (by decide)).mono ?_
    rintro e w6 ⟨q, rfl, q0, q1, g6, S6⟩
    have D6 := D5.next g6 S6
    have K6 := K5.nx g6 (by omega)
    have B6 := B5.nx g6 hQg
    clear g6 S6
    by_cases hq : q = 0 ∨ q = 1 ∨ q = 2
    case neg =>
      have q0' : (q == 0) = false := by rw [beq_eq_false_iff_ne]; omega
      have q1' : (q == 1) = false := by rw [beq_eq_false_iff_ne]; omega
      have q2' : (q == 2) = false := by rw [beq_eq_false_iff_ne]; omega
      clear hq
      have cB := fun o => B6.cell o
      have gB := B6.lt
      have cK := fun o => K6.cell o
      have fK := fun o => K6.frozen o
      have gK := K6.lt
      go_wp2
      refine bodyPost_ret (v := .agg #[.int .i64 t, .int .i64 1, .int .i64 v', .int .i64 0, .int .i64 0, .int .i64 0, .int .i64 0]) (by simp [results, Tryz.results27, go_sem, cK, gK]) rfl ⟨t, 1, v', 0, 0, 0, 0, rfl, (((((((D6.set_ (p := ⟨w.heap.size, 0, none⟩) (Nat.le_refl _) _).set_ (p := ⟨w.heap.size, 1, none⟩) (Nat.le_refl _) _).set_ (p := ⟨w.heap.size, 2, none⟩) (Nat.le_refl _) _).set_ (p := ⟨w.heap.size, 3, none⟩) (Nat.le_refl _) _).set_ (p := ⟨w.heap.size, 4, none⟩) (Nat.le_refl _) _).set_ (p := ⟨w.heap.size, 5, none⟩) (Nat.le_refl _) _).set_ (p := ⟨w.heap.size, 6, none⟩) (Nat.le_refl _) _)⟩
    rcases hq with rfl | rfl | rfl
    · go_wp2_with fail
      refine (pick_any L g [-1, 1000000, 1000001] 3 _ D6.src rfl (by decide) (by decide)).mono ?_
      rintro e w7 ⟨p, -, rfl, g7, S7⟩
      have D7 := (D6.alloc _).next g7 S7
      have K7 := (K6.alloc _).nx g7 (by omega)
      have B7 := (B6.alloc _).nx g7 hQg
      clear D6 K6 B6 g7 S7
      have cB := fun o => B7.cell o
      have fB := fun o => B7.frozen o
      have gB := B7.lt
      have cK := fun o => K7.cell o
      have fK := fun o => K7.frozen o
      have gK := K7.lt
      go_wp2
      refine bodyPost_ret (v := .agg #[.int .i64 p, .int .i64 1, .int .i64 v', .int .i64 0, .int .i64 0, .int .i64 0, .int .i64 0]) (by simp [results, Tryz.results27, go_sem, cK, gK]) rfl ⟨p, 1, v', 0, 0, 0, 0, rfl, ((((((((D7.set_ (p := ⟨Q, 0, none⟩) (by simp only; omega) _).set_ (p := ⟨w.heap.size, 0, none⟩) (Nat.le_refl _) _).set_ (p := ⟨w.heap.size, 1, none⟩) (Nat.le_refl _) _).set_ (p := ⟨w.heap.size, 2, none⟩) (Nat.le_refl _) _).set_ (p := ⟨w.heap.size, 3, none⟩) (Nat.le_refl _) _).set_ (p := ⟨w.heap.size, 4, none⟩) (Nat.le_refl _) _).set_ (p := ⟨w.heap.size, 5, none⟩) (Nat.le_refl _) _).set_ (p := ⟨w.heap.size, 6, none⟩) (Nat.le_refl _) _)⟩
    · go_wp2_with fail
      refine (pick_any L g [0, 4, 1, 2, 3] 5 _ D6.src rfl (by decide) (by decide)).mono ?_
      rintro e w7 ⟨p, -, rfl, g7, S7⟩
      have D7 := (D6.alloc _).next g7 S7
      have K7 := (K6.alloc _).nx g7 (by omega)
      have B7 := (B6.alloc _).nx g7 hQg
      clear D6 K6 B6 g7 S7
      have cB := fun o => B7.cell o
      have fB := fun o => B7.frozen o
      have gB := B7.lt
      have cK := fun o => K7.cell o
      have fK := fun o => K7.frozen o
      have gK := K7.lt
      go_wp2
      refine bodyPost_ret (v := .agg #[.int .i64 t, .int .i64 p, .int .i64 v', .int .i64 0, .int .i64 0, .int .i64 0, .int .i64 0]) (by simp [results, Tryz.results27, go_sem, cK, gK]) rfl ⟨t, p, v', 0, 0, 0, 0, rfl, ((((((((D7.set_ (p := ⟨Q, 1, none⟩) (by simp only; omega) _).set_ (p := ⟨w.heap.size, 0, none⟩) (Nat.le_refl _) _).set_ (p := ⟨w.heap.size, 1, none⟩) (Nat.le_refl _) _).set_ (p := ⟨w.heap.size, 2, none⟩) (Nat.le_refl _) _).set_ (p := ⟨w.heap.size, 3, none⟩) (Nat.le_refl _) _).set_ (p := ⟨w.heap.size, 4, none⟩) (Nat.le_refl _) _).set_ (p := ⟨w.heap.size, 5, none⟩) (Nat.le_refl _) _).set_ (p := ⟨w.heap.size, 6, none⟩) (Nat.le_refl _) _)⟩
    · go_wp2_with fail
      refine (pick_any L g [1, 2000, 2001] 3 _ D6.src rfl (by decide) (by decide)).mono ?_
      rintro e w7 ⟨p, -, rfl, g7, S7⟩
      have D7 := (D6.alloc _).next g7 S7
      have K7 := (K6.alloc _).nx g7 (by omega)
      have B7 := (B6.alloc _).nx g7 hQg
      clear D6 K6 B6 g7 S7
      have cB := fun o => B7.cell o
      have fB := fun o => B7.frozen o
      have gB := B7.lt
      have cK := fun o => K7.cell o
      have fK := fun o => K7.frozen o
      have gK := K7.lt
      go_wp2
      refine bodyPost_ret (v := .agg #[.int .i64 t, .int .i64 1, .int .i64 p, .int .i64 0, .int .i64 0, .int .i64 0, .int .i64 0]) (by simp [results, Tryz.results27, go_sem, cK, gK]) rfl ⟨t, 1, p, 0, 0, 0, 0, rfl, ((((((((D7.set_ (p := ⟨Q, 2, none⟩) (by simp only; omega) _).set_ (p := ⟨w.heap.size, 0, none⟩) (Nat.le_refl _) _).set_ (p := ⟨w.heap.size, 1, none⟩) (Nat.le_refl _) _).set_ (p := ⟨w.heap.size, 2, none⟩) (Nat.le_refl _) _).set_ (p := ⟨w.heap.size, 3, none⟩) (Nat.le_refl _) _).set_ (p := ⟨w.heap.size, 4, none⟩) (Nat.le_refl _) _).set_ (p := ⟨w.heap.size, 5, none⟩) (Nat.le_refl _) _).set_ (p := ⟨w.heap.size, 6, none⟩) (Nat.le_refl _) _)⟩
  have hk1 : (kd == 1) = false := by rw [beq_eq_false_iff_ne]; exact h1
  by_cases h2 : kd = 2
  · subst h2
    go_wp2_with fail
    refine (l21DrawOne_any L g _ D3.src).mono ?_
    rintro e w4 ⟨x, y, d, r, rfl, E4⟩
    have D4 := D3.next E4.gr E4.src
    have K4 := K3.nx E4.gr (by omega)
    have B4 := B3.nx E4.gr hQg
    clear E4 cB fB gB B3 D3 K3
    have cB := fun o => B4.cell o
    have fB := fun o => B4.frozen o
    have gB := B4.lt
    go_upto_region 7 with fail
    have B5 : Blk _ Q 45 #[.int .i64 t, .int .i64 2, .int .i64 0, .int .i64 x, .int .i64 y, .int .i64 d, .int .i64 r] := (((B4.set_ 3 (.int .i64 x)).set_ 4 (.int .i64 y)).set_ 5 (.int .i64 d)).set_ 6 (.int .i64 r)
    have K5 := (((K4.far (p := ⟨Q, 3, none⟩) (by simp only; omega) (.int .i64 x)).far (p := ⟨Q, 4, none⟩) (by simp only; omega) (.int .i64 y)).far (p := ⟨Q, 5, none⟩) (by simp only; omega) (.int .i64 d)).far (p := ⟨Q, 6, none⟩) (by simp only; omega) (.int .i64 r)
    have D5 := (((D4.set_ (p := ⟨Q, 3, none⟩) (by simp only; omega) (.int .i64 x)).set_ (p := ⟨Q, 4, none⟩) (by simp only; omega) (.int .i64 y)).set_ (p := ⟨Q, 5, none⟩) (by simp only; omega) (.int .i64 d)).set_ (p := ⟨Q, 6, none⟩) (by simp only; omega) (.int .i64 r)
    clear B4 K4 D4 cB fB gB
    generalize (((w4.setCell ⟨Q, 3, none⟩ (.int .i64 x)).setCell ⟨Q, 4, none⟩ (.int .i64 y)).setCell ⟨Q, 5, none⟩ (.int .i64 d)).setCell ⟨Q, 6, none⟩ (.int .i64 r) = w5 at B5 K5 D5 ⊢
    go_wp2_with fail
    refine (l01Next_any L g 60 _ D5.src (by decide)).mono ?_
    rintro e w6 ⟨q, rfl, q0, q1, g6, S6⟩
    have D6 := D5.next g6 S6
    have K6 := K5.nx g6 (by omega)
    have B6 := B5.nx g6 hQg
    clear g6 S6
    by_cases hq : q = 0 ∨ q = 1 ∨ q = 2
    case neg =>
      have q0' : (q == 0) = false := by rw [beq_eq_false_iff_ne]; omega
      have q1' : (q == 1) = false := by rw [beq_eq_false_iff_ne]; omega
      have q2' : (q == 2) = false := by rw [beq_eq_false_iff_ne]; omega
      clear hq
      have cB := fun o => B6.cell o
      have gB := B6.lt
      have cK := fun o => K6.cell o
      have fK := fun o => K6.frozen o
      have gK := K6.lt
      go_wp2
      refine bodyPost_ret (v := .agg #[.int .i64 t, .int .i64 2, .int .i64 0, .int .i64 x, .int .i64 y, .int .i64 d, .int .i64 r]) (by simp [results, Tryz.results27, go_sem, cK, gK]) rfl ⟨t, 2, 0, x, y, d, r, rfl, (((((((D6.set_ (p := ⟨w.heap.size, 0, none⟩) (Nat.le_refl _) _).set_ (p := ⟨w.heap.size, 1, none⟩) (Nat.le_refl _) _).set_ (p := ⟨w.heap.size, 2, none⟩) (Nat.le_refl _) _).set_ (p := ⟨w.heap.size, 3, none⟩) (Nat.le_refl _) _).set_ (p := ⟨w.heap.size, 4, none⟩) (Nat.le_refl _) _).set_ (p := ⟨w.heap.size, 5, none⟩) (Nat.le_refl _) _).set_ (p := ⟨w.heap.size, 6, none⟩) (Nat.le_refl _) _)⟩
    rcases hq with rfl | rfl | rfl
    · go_wp2_with fail
      refine (pick_any L g [-1, 1000000, 1000001] 3 _ D6.src rfl (by decide) (by decide)).mono ?_
      rintro e w7 ⟨p, -, rfl, g7, S7⟩
      have D7 := (D6.alloc _).next g7 S7
      have K7 := (K6.alloc _).nx g7 (by omega)
      have B7 := (B6.alloc _).nx g7 hQg
      clear D6 K6 B6 g7 S7
      have cB := fun o => B7.cell o
      have fB := fun o => B7.frozen o
      have gB := B7.lt
      have cK := fun o => K7.cell o
      have fK := fun o => K7.frozen o
      have gK := K7.lt
      go_wp2
      refine bodyPost_ret (v := .agg #[.int .i64 p, .int .i64 2, .int .i64 0, .int .i64 x, .int .i64 y, .int .i64 d, .int .i64 r]) (by simp [results, Tryz.results27, go_sem, cK, gK]) rfl ⟨p, 2, 0, x, y, d, r, rfl, ((((((((D7.set_ (p := ⟨Q, 0, none⟩) (by simp only; omega) _).set_ (p := ⟨w.heap.size, 0, none⟩) (Nat.le_refl _) _).set_ (p := ⟨w.heap.size, 1, none⟩) (Nat.le_refl _) _).set_ (p := ⟨w.heap.size, 2, none⟩) (Nat.le_refl _) _).set_ (p := ⟨w.heap.size, 3, none⟩) (Nat.le_refl _) _).set_ (p := ⟨w.heap.size, 4, none⟩) (Nat.le_refl _) _).set_ (p := ⟨w.heap.size, 5, none⟩) (Nat.le_refl _) _).set_ (p := ⟨w.heap.size, 6, none⟩) (Nat.le_refl _) _)⟩
    · go_wp2_with fail
      refine (pick_any L g [0, 4, 1, 2, 3] 5 _ D6.src rfl (by decide) (by decide)).mono ?_
      rintro e w7 ⟨p, -, rfl, g7, S7⟩
      have D7 := (D6.alloc _).next g7 S7
      have K7 := (K6.alloc _).nx g7 (by omega)
      have B7 := (B6.alloc _).nx g7 hQg
      clear D6 K6 B6 g7 S7
      have cB := fun o => B7.cell o
      have fB := fun o => B7.frozen o
      have gB := B7.lt
      have cK := fun o => K7.cell o
      have fK := fun o => K7.frozen o
      have gK := K7.lt
      go_wp2
      refine bodyPost_ret (v := .agg #[.int .i64 t, .int .i64 p, .int .i64 0, .int .i64 x, .int .i64 y, .int .i64 d, .int .i64 r]) (by simp [results, Tryz.results27, go_sem, cK, gK]) rfl ⟨t, p, 0, x, y, d, r, rfl, ((((((((D7.set_ (p := ⟨Q, 1, none⟩) (by simp only; omega) _).set_ (p := ⟨w.heap.size, 0, none⟩) (Nat.le_refl _) _).set_ (p := ⟨w.heap.size, 1, none⟩) (Nat.le_refl _) _).set_ (p := ⟨w.heap.size, 2, none⟩) (Nat.le_refl _) _).set_ (p := ⟨w.heap.size, 3, none⟩) (Nat.le_refl _) _).set_ (p := ⟨w.heap.size, 4, none⟩) (Nat.le_refl _) _).set_ (p := ⟨w.heap.size, 5, none⟩) (Nat.le_refl _) _).set_ (p := ⟨w.heap.size, 6, none⟩) (Nat.le_refl _) _)⟩
    · go_wp2_with fail
      refine (pick_any L g [1, 2000, 2001] 3 _ D6.src rfl (by decide) (by decide)).mono ?_
      rintro e w7 ⟨p, -, rfl, g7, S7⟩
      have D7 := (D6.alloc _).next g7 S7
      have K7 := (K6.alloc _).nx g7 (by omega)
      have B7 := (B6.alloc _).nx g7 hQg
      clear D6 K6 B6 g7 S7
      have cB := fun o => B7.cell o
      have fB := fun o => B7.frozen o
      have gB := B7.lt
      have cK := fun o => K7.cell o
      have fK := fun o => K7.frozen o
      have gK := K7.lt
      go_wp2
      refine bodyPost_ret (v := .agg #[.int .i64 t, .int .i64 2, .int .i64 p, .int .i64 x, .int .i64 y, .int .i64 d, .int .i64 r]) (by simp [results, Tryz.results27, go_sem, cK, gK]) rfl ⟨t, 2, p, x, y, d, r, rfl, ((((((((D7.set_ (p := ⟨Q, 2, none⟩) (by simp only; omega) _).set_ (p := ⟨w.heap.size, 0, none⟩) (Nat.le_refl _) _).set_ (p := ⟨w.heap.size, 1, none⟩) (Nat.le_refl _) _).set_ (p := ⟨w.heap.size, 2, none⟩) (Nat.le_refl _) _).set_ (p := ⟨w.heap.size, 3, none⟩) (Nat.le_refl _) _).set_ (p := ⟨w.heap.size, 4, none⟩) (Nat.le_refl _) _).set_ (p := ⟨w.heap.size, 5, none⟩) (Nat.le_refl _) _).set_ (p := ⟨w.heap.size, 6, none⟩) (Nat.le_refl _) _)⟩
  have hk2 : (kd == 2) = false := by rw [beq_eq_false_iff_ne]; exact h2
  clear cB fB gB
  have cB := fun o => B3.cell o
  have gB := B3.lt
  go_upto_region 7 with fail
  clear cB gB
  go_wp2_with fail
  refine (l01Next_any L g 60 _ D3.src (by decide)).mono ?_
  rintro e w6 ⟨q, rfl, q0, q1, g6, S6⟩
  have D6 := D3.next g6 S6
  have K6 := K3.nx g6 (by omega)
  have B6 := B3.nx g6 hQg
  clear g6 S6
  by_cases hq : q = 0 ∨ q = 1 ∨ q = 2
  case neg =>
    have q0' : (q == 0) = false := by rw [beq_eq_false_iff_ne]; omega
    have q1' : (q == 1) = false := by rw [beq_eq_false_iff_ne]; omega
    have q2' : (q == 2) = false := by rw [beq_eq_false_iff_ne]; omega
    clear hq
    have cB := fun o => B6.cell o
    have gB := B6.lt
    have cK := fun o => K6.cell o
    have fK := fun o => K6.frozen o
    have gK := K6.lt
    go_wp2
    refine bodyPost_ret (v := .agg #[.int .i64 t, .int .i64 kd, .int .i64 0, .int .i64 0, .int .i64 0, .int .i64 0, .int .i64 0]) (by simp [results, Tryz.results27, go_sem, cK, gK]) rfl ⟨t, kd, 0, 0, 0, 0, 0, rfl, (((((((D6.set_ (p := ⟨w.heap.size, 0, none⟩) (Nat.le_refl _) _).set_ (p := ⟨w.heap.size, 1, none⟩) (Nat.le_refl _) _).set_ (p := ⟨w.heap.size, 2, none⟩) (Nat.le_refl _) _).set_ (p := ⟨w.heap.size, 3, none⟩) (Nat.le_refl _) _).set_ (p := ⟨w.heap.size, 4, none⟩) (Nat.le_refl _) _).set_ (p := ⟨w.heap.size, 5, none⟩) (Nat.le_refl _) _).set_ (p := ⟨w.heap.size, 6, none⟩) (Nat.le_refl _) _)⟩
  rcases hq with rfl | rfl | rfl
  · go_wp2_with fail
    refine (pick_any L g [-1, 1000000, 1000001] 3 _ D6.src rfl (by decide) (by decide)).mono ?_
    rintro e w7 ⟨p, -, rfl, g7, S7⟩
    have D7 := (D6.alloc _).next g7 S7
    have K7 := (K6.alloc _).nx g7 (by omega)
    have B7 := (B6.alloc _).nx g7 hQg
    clear D6 K6 B6 g7 S7
    have cB := fun o => B7.cell o
    have fB := fun o => B7.frozen o
    have gB := B7.lt
    have cK := fun o => K7.cell o
    have fK := fun o => K7.frozen o
    have gK := K7.lt
    go_wp2
    refine bodyPost_ret (v := .agg #[.int .i64 p, .int .i64 kd, .int .i64 0, .int .i64 0, .int .i64 0, .int .i64 0, .int .i64 0]) (by simp [results, Tryz.results27, go_sem, cK, gK]) rfl ⟨p, kd, 0, 0, 0, 0, 0, rfl, ((((((((D7.set_ (p := ⟨Q, 0, none⟩) (by simp only; omega) _).set_ (p := ⟨w.heap.size, 0, none⟩) (Nat.le_refl _) _).set_ (p := ⟨w.heap.size, 1, none⟩) (Nat.le_refl _) _).set_ (p := ⟨w.heap.size, 2, none⟩) (Nat.le_refl _) _).set_ (p := ⟨w.heap.size, 3, none⟩) (Nat.le_refl _) _).set_ (p := ⟨w.heap.size, 4, none⟩) (Nat.le_refl _) _).set_ (p := ⟨w.heap.size, 5, none⟩) (Nat.le_refl _) _).set_ (p := ⟨w.heap.size, 6, none⟩) (Nat.le_refl _) _)⟩
  · go_wp2_with fail
    refine (pick_any L g [0, 4, 1, 2, 3] 5 _ D6.src rfl (by decide) (by decide)).mono ?_
    rintro e w7 ⟨p, -, rfl, g7, S7⟩
    have D7 := (D6.alloc _).next g7 S7
    have K7 := (K6.alloc _).nx g7 (by omega)
    have B7 := (B6.alloc _).nx g7 hQg
    clear D6 K6 B6 g7 S7
    have cB := fun o => B7.cell o
    have fB := fun o => B7.frozen o
    have gB := B7.lt
    have cK := fun o => K7.cell o
    have fK := fun o => K7.frozen o
    have gK := K7.lt
    go_wp2
    refine bodyPost_ret (v := .agg #[.int .i64 t, .int .i64 p, .int .i64 0, .int .i64 0, .int .i64 0, .int .i64 0, .int .i64 0]) (by simp [results, Tryz.results27, go_sem, cK, gK]) rfl ⟨t, p, 0, 0, 0, 0, 0, rfl, ((((((((D7.set_ (p := ⟨Q, 1, none⟩) (by simp only; omega) _).set_ (p := ⟨w.heap.size, 0, none⟩) (Nat.le_refl _) _).set_ (p := ⟨w.heap.size, 1, none⟩) (Nat.le_refl _) _).set_ (p := ⟨w.heap.size, 2, none⟩) (Nat.le_refl _) _).set_ (p := ⟨w.heap.size, 3, none⟩) (Nat.le_refl _) _).set_ (p := ⟨w.heap.size, 4, none⟩) (Nat.le_refl _) _).set_ (p := ⟨w.heap.size, 5, none⟩) (Nat.le_refl _) _).set_ (p := ⟨w.heap.size, 6, none⟩) (Nat.le_refl _) _)⟩
  · go_wp2_with fail
    refine (pick_any L g [1, 2000, 2001] 3 _ D6.src rfl (by decide) (by decide)).mono ?_
    rintro e w7 ⟨p, -, rfl, g7, S7⟩
    have D7 := (D6.alloc _).next g7 S7
    have K7 := (K6.alloc _).nx g7 (by omega)
    have B7 := (B6.alloc _).nx g7 hQg
    clear D6 K6 B6 g7 S7
    have cB := fun o => B7.cell o
    have fB := fun o => B7.frozen o
    have gB := B7.lt
    have cK := fun o => K7.cell o
    have fK := fun o => K7.frozen o
    have gK := K7.lt
    go_wp2
    refine bodyPost_ret (v := .agg #[.int .i64 t, .int .i64 kd, .int .i64 p, .int .i64 0, .int .i64 0, .int .i64 0, .int .i64 0]) (by simp [results, Tryz.results27, go_sem, cK, gK]) rfl ⟨t, kd, p, 0, 0, 0, 0, rfl, ((((((((D7.set_ (p := ⟨Q, 2, none⟩) (by simp only; omega) _).set_ (p := ⟨w.heap.size, 0, none⟩) (Nat.le_refl _) _).set_ (p := ⟨w.heap.size, 1, none⟩) (Nat.le_refl _) _).set_ (p := ⟨w.heap.size, 2, none⟩) (Nat.le_refl _) _).set_ (p := ⟨w.heap.size, 3, none⟩) (Nat.le_refl _) _).set_ (p := ⟨w.heap.size, 4, none⟩) (Nat.le_refl _) _).set_ (p := ⟨w.heap.size, 5, none⟩) (Nat.le_refl _) _).set_ (p := ⟨w.heap.size, 6, none⟩) (Nat.le_refl _) _)⟩


theorem rd_sevenA (w : World) (a b c d e f g : Int) (t : TypeId) : Rd (w.alloc (.cells #[.int .i64 a, .int .i64 b, .int .i64 c, .int .i64 d, .int .i64 e, .int .i64 f, .int .i64 g] t)) (some ⟨w.heap.size, 0, none⟩) (1 * 7) (ints [a, b, c, d, e, f, g]) := by
  refine ⟨rfl, fun _ => ⟨_, rfl, fun i hi => ?_⟩⟩
  rw [add_lit, (Blk.new w t #[.int .i64 a, .int .i64 b, .int .i64 c, .int .i64 d, .int .i64 e, .int .i64 f, .int .i64 g]).cell]
  simp [ints]
theorem Record_zero : (Tryz.prog.info? 45).map (fun i => (i.zero.map (·.cells), i.size, i.bytes)) = some (some #[.int .i64 0, .int .i64 0, .int .i64 0, .int .i64 0, .int .i64 0, .int .i64 0, .int .i64 0], 7, 56) := by kernel_rfl
theorem run_make_RecZ (n : Nat) (hn : n ≤ 1048576) (W : World) :
    (Instr.makeSlice 24 (.int .i64 (n : Int)) (.int .i64 (n : Int))).run Tryz.prog W = .ok (.slice (some ⟨W.heap.size, 0, none⟩) n n) (W.alloc (.cells (madeCells #[.int .i64 0, .int .i64 0, .int .i64 0, .int .i64 0, .int .i64 0, .int .i64 0, .int .i64 0] (n * 7)) 45)) := by
  have h := Record_zero
  cases hi : Tryz.prog.info? 45 with
  | none => rw [hi] at h; simp at h
  | some i =>
    rw [hi] at h
    simp only [Option.map_some, Option.some.injEq, Prod.mk.injEq] at h
    obtain ⟨hz, hs, hb⟩ := h
    cases hz0 : i.zero with
    | none => rw [hz0] at hz; simp at hz
    | some z =>
      have hr := run_make_rowN (P := Tryz.prog) 24 45 i z Tryz.underlying24 hi hz0 .i64 .i64 n n (Nat.le_refl _) (by rw [hb]; omega) (by omega) W
      rw [hz0] at hz
      simp only [Option.map_some, Option.some.injEq] at hz
      rw [hs, hz] at hr
      exact hr

def DrawnLog (w : World) (L g : Nat) (e : Ending) (w' : World) : Prop :=
  ∃ (h : Hd) (xs : List Int), e = .returned (.slice h.A h.n h.c) ∧ h.n ≤ 60 ∧ h.n ≤ h.c ∧ Rd w' h.A (h.n * 7) (ints xs) ∧ Dr w w' L g
set_option maxRecDepth 100000 in
set_option maxHeartbeats 4000000 in
theorem l31Draw_any (L g : Nat) (w : World) (S : Src w L g) :
    Calls Tryz.prog 14 #[.pointer (some ⟨g, 0, none⟩)] w (DrawnLog w L g) := by
  have D0 := (Dr.start S).alloc (.cells #[] 45)
  have gS := S.lt
  have O0 : Own (w.alloc (.cells #[] 45)) w.heap.size 7 ⟨some ⟨w.heap.size, 0, none⟩, 0, 0⟩ (ints []) := Own.empty _ _ _ _
  go_enter Tryz.func14, Tryz.ntmps14
  go_wp2_with fail
  generalize w.alloc (.cells #[] 45) = w0 at D0 O0 ⊢
  refine (l01Next_any L g 12 _ D0.src (by decide)).mono ?_
  rintro e w1 ⟨m, rfl, m0, m1, g1, S1⟩
  have D1 := D0.next g1 S1
  have O1 := O0.nx g1 gS.1
  clear D0 O0 g1 S1
  go_wp2_with fail
  go_loopw [3, 4] (fun v3 v4 wr => ∃ (v : Int) (h : Hd) (xs : List Int), 0 ≤ v ∧ v ≤ 11 ∧ v4 = .int .i64 v ∧ v3 = .slice h.A h.n h.c ∧ (h.n : Int) + v ≤ 11 ∧ Own wr w.heap.size 7 h (ints xs) ∧ Dr w wr L g)
    (fun _ v4 _ => (intOf v4).toNat)
  case atStart => exact ⟨m, ⟨some ⟨w.heap.size, 0, none⟩, 0, 0⟩, [], m0, by omega, rfl, rfl, by simp only; omega, O1, D1⟩
  case round =>
    obtain ⟨v, ⟨HA, hN, hC⟩, xs, hv0, hv1, rfl, rfl, hNv, o, D⟩ := hrel
    simp only at hNv
    clear D1 O1
    by_cases hv : 0 < v
    · have hwv : IntKind.i64.wrap (v - 1) = v - 1 := IntWalk.i64_in _ (by omega)
      go_wp2_with fail
      refine (l31DrawOne_any L g _ D.src).mono ?_
      rintro e w4 ⟨t, k, l, x, y, d, r, rfl, E4⟩
      have D4 := D.next E4.gr E4.src
      have o4 := o.nx E4.gr gS.1
      clear D o E4
      go_upto_region 6 with fail
      have B5 := Blk.new w4 45 #[.int .i64 t, .int .i64 k, .int .i64 l, .int .i64 x, .int .i64 y, .int .i64 d, .int .i64 r]
      have D5 := D4.alloc (.cells #[.int .i64 t, .int .i64 k, .int .i64 l, .int .i64 x, .int .i64 y, .int .i64 d, .int .i64 r] 45)
      have o5 := o4.below ((Below.refl _ _).alloc (Nat.le_refl _) (.cells #[.int .i64 t, .int .i64 k, .int .i64 l, .int .i64 x, .int .i64 y, .int .i64 d, .int .i64 r] 45))
      have hz4 : w.heap.size ≤ w4.heap.size := D4.size
      have hzg : g < w4.heap.size := D4.src.lt.1
      have hor : ∀ b, (⟨HA, hN, hC⟩ : Hd).row = some b → b < w4.heap.size := fun b e => (o4.rowlt b e).2
      clear D4 o4
      generalize w4.alloc (.cells #[.int .i64 t, .int .i64 k, .int .i64 l, .int .i64 x, .int .i64 y, .int .i64 d, .int .i64 r] 45) = w5 at B5 D5 o5 ⊢
      generalize w4.heap.size = Q at B5 hz4 hzg hor ⊢
      have c5 := fun o => B5.cell o
      have q5 := B5.lt
      go_wp2_with fail
      refine (specIsRecord_any t k l x y d r _).mono ?_
      rintro e w6 ⟨rfl, b6⟩
      have D6 := D5.bel b6
      have o6 := o5.below b6
      have B6 := B5.below b6 q5
      clear D5 o5 B5 b6 c5 q5
      cases recB t k l x y d r
      · have c6 := fun o => B6.cell o
        have f6 := fun o => B6.frozen o
        have q6 := B6.lt
        go_wp2_with fail
        refine (l01Next_any L g 4 _ D6.src (by decide)).mono ?_
        rintro e w7 ⟨z, rfl, z0, z1, g7, S7⟩
        have D7 := D6.next g7 S7
        have o7 := o6.nx g7 gS.1
        have B7 := B6.nx g7 (by omega)
        clear D6 o6 B6 g7 S7 c6 f6 q6
        by_cases hz : 0 < z
        · go_wp2_with fail
          refine (l01Next_any L g 200 _ D7.src (by decide)).mono ?_
          rintro e w8 ⟨t2, rfl, t0, t1, g8, S8⟩
          have D8 := D7.next g8 S8
          have o8 := o7.nx g8 gS.1
          have B8 := B7.nx g8 (by omega)
          clear D7 o7 B7 g8 S8
          have c8 := fun o => B8.cell o
          have f8 := fun o => B8.frozen o
          have q8 := B8.lt
          go_upto_region 8 with fail
          have B9 := ((((((B8.set_ 0 (.int .i64 t2)).set_ 1 (.int .i64 1)).set_ 2 (.int .i64 7)).set_ 3 (.int .i64 0)).set_ 4 (.int .i64 0)).set_ 5 (.int .i64 0)).set_ 6 (.int .i64 0)
          have D9 := ((((((D8.set_ (p := ⟨Q, 0, none⟩) hz4 (.int .i64 t2)).set_ (p := ⟨Q, 1, none⟩) hz4 (.int .i64 1)).set_ (p := ⟨Q, 2, none⟩) hz4 (.int .i64 7)).set_ (p := ⟨Q, 3, none⟩) hz4 (.int .i64 0)).set_ (p := ⟨Q, 4, none⟩) hz4 (.int .i64 0)).set_ (p := ⟨Q, 5, none⟩) hz4 (.int .i64 0)).set_ (p := ⟨Q, 6, none⟩) hz4 (.int .i64 0)
          have hfar : ∀ (W : World) (i : Nat) (u : Value), Own W w.heap.size 7 ⟨HA, hN, hC⟩ (ints xs) → Own (W.setCell ⟨Q, i, none⟩ u) w.heap.size 7 ⟨HA, hN, hC⟩ (ints xs) := fun W i u o => o.farL (fun e => by have := hor _ e; simp only at this; omega) u
          have o9 := hfar _ 6 (.int .i64 0) (hfar _ 5 (.int .i64 0) (hfar _ 4 (.int .i64 0) (hfar _ 3 (.int .i64 0) (hfar _ 2 (.int .i64 7) (hfar _ 1 (.int .i64 1) (hfar _ 0 (.int .i64 t2) o8))))))
          have B9' : Blk _ Q 45 #[.int .i64 t2, .int .i64 1, .int .i64 7, .int .i64 0, .int .i64 0, .int .i64 0, .int .i64 0] := B9
          clear B9 B8 D8 o8 c8 f8 q8 hfar
          generalize ((((((w8.setCell ⟨Q, 0, none⟩ (.int .i64 t2)).setCell ⟨Q, 1, none⟩ (.int .i64 1)).setCell ⟨Q, 2, none⟩ (.int .i64 7)).setCell ⟨Q, 3, none⟩ (.int .i64 0)).setCell ⟨Q, 4, none⟩ (.int .i64 0)).setCell ⟨Q, 5, none⟩ (.int .i64 0)).setCell ⟨Q, 6, none⟩ (.int .i64 0) = w9 at B9' D9 o9 ⊢
          have bz : Below w9.heap.size w9 (w9.alloc (.cells #[.int .i64 t2, .int .i64 1, .int .i64 7, .int .i64 0, .int .i64 0, .int .i64 0, .int .i64 0] 45)) := (Below.refl _ _).alloc (Nat.le_refl _) _
          have oz := o9.below bz
          have RE := rd_sevenA w9 t2 1 7 0 0 0 0 45
          have Dz := D9.alloc (.cells #[.int .i64 t2, .int .i64 1, .int .i64 7, .int .i64 0, .int .i64 0, .int .i64 0, .int .i64 0] 45)
          have hBz := Dz.size
          have h63 : hN + 1 ≤ 1099511627776 := by omega
          have cB := fun o => B9'.cell o
          have hrow : ∀ b, (⟨HA, hN, hC⟩ : Hd).row = some b → w.heap.size ≤ b := fun b e => (oz.rowlt b e).1
          go_wp2_with (at_builtin; refine wpList_append_Own rfl _ _ 24 rfl 45 7 56 Tryz.underlying24 Record_info (by decide) w.heap.size ⟨HA, hN, hC⟩ _ rfl oz _ 1 1 (ints [t2, 1, 7, 0, 0, 0, 0]) rfl RE (oneCell_ints _) h63 (by decide) hBz ?_; intro G wg hGn HG gg hat)
          have HGN := Lib.hid hGn
          have hGI : (G.n : Int) = (hN : Int) + 1 := by rw [hGn]; rfl
          have HGI := Lib.hid hGI
          clear hGn hat hGI
          go_roundw
          case rel => exact ⟨v - 1, G, xs ++ [t2, 1, 7, 0, 0, 0, 0], by omega, by omega, by first | rfl | go_num, by first | rfl | rw [HGN.out], by have := HGI.out; omega, by rw [ints_append]; exact HG, Dz.grown gg hrow⟩
          case measure => simp [intOf]; omega
        · have hz' : (z > 0) = False := by simpa using hz
          have bz : Below w7.heap.size w7 (w7.alloc (.cells #[.int .i64 t, .int .i64 k, .int .i64 l, .int .i64 x, .int .i64 y, .int .i64 d, .int .i64 r] 45)) := (Below.refl _ _).alloc (Nat.le_refl _) _
          have oz := o7.below bz
          have RE := rd_sevenA w7 t k l x y d r 45
          have Dz := D7.alloc (.cells #[.int .i64 t, .int .i64 k, .int .i64 l, .int .i64 x, .int .i64 y, .int .i64 d, .int .i64 r] 45)
          have hBz := Dz.size
          have h63 : hN + 1 ≤ 1099511627776 := by omega
          have cB := fun o => B7.cell o
          have hrow : ∀ b, (⟨HA, hN, hC⟩ : Hd).row = some b → w.heap.size ≤ b := fun b e => (oz.rowlt b e).1
          go_wp2_with (at_builtin; refine wpList_append_Own rfl _ _ 24 rfl 45 7 56 Tryz.underlying24 Record_info (by decide) w.heap.size ⟨HA, hN, hC⟩ _ rfl oz _ 1 1 (ints [t, k, l, x, y, d, r]) rfl RE (oneCell_ints _) h63 (by decide) hBz ?_; intro G wg hGn HG gg hat)
          have HGN := Lib.hid hGn
          have hGI : (G.n : Int) = (hN : Int) + 1 := by rw [hGn]; rfl
          have HGI := Lib.hid hGI
          clear hGn hat hGI
          go_roundw
          case rel => exact ⟨v - 1, G, xs ++ [t, k, l, x, y, d, r], by omega, by omega, by first | rfl | go_num, by first | rfl | rw [HGN.out], by have := HGI.out; omega, by rw [ints_append]; exact HG, Dz.grown gg hrow⟩
          case measure => simp [intOf]; omega
      · skip
        have bz : Below w6.heap.size w6 (w6.alloc (.cells #[.int .i64 t, .int .i64 k, .int .i64 l, .int .i64 x, .int .i64 y, .int .i64 d, .int .i64 r] 45)) := (Below.refl _ _).alloc (Nat.le_refl _) _
        have oz := o6.below bz
        have RE := rd_sevenA w6 t k l x y d r 45
        have Dz := D6.alloc (.cells #[.int .i64 t, .int .i64 k, .int .i64 l, .int .i64 x, .int .i64 y, .int .i64 d, .int .i64 r] 45)
        have hBz := Dz.size
        have h63 : hN + 1 ≤ 1099511627776 := by omega
        have cB := fun o => B6.cell o
        have hrow : ∀ b, (⟨HA, hN, hC⟩ : Hd).row = some b → w.heap.size ≤ b := fun b e => (oz.rowlt b e).1
        go_wp2_with (at_builtin; refine wpList_append_Own rfl _ _ 24 rfl 45 7 56 Tryz.underlying24 Record_info (by decide) w.heap.size ⟨HA, hN, hC⟩ _ rfl oz _ 1 1 (ints [t, k, l, x, y, d, r]) rfl RE (oneCell_ints _) h63 (by decide) hBz ?_; intro G wg hGn HG gg hat)
        have HGN := Lib.hid hGn
        have hGI : (G.n : Int) = (hN : Int) + 1 := by rw [hGn]; rfl
        have HGI := Lib.hid hGI
        clear hGn hat hGI
        go_roundw
        case rel => exact ⟨v - 1, G, xs ++ [t, k, l, x, y, d, r], by omega, by omega, by first | rfl | go_num, by first | rfl | rw [HGN.out], by have := HGI.out; omega, by rw [ints_append]; exact HG, Dz.grown gg hrow⟩
        case measure => simp [intOf]; omega
    · have hv' : v = 0 := by omega
      subst hv'
      go_wp2_with fail
      refine (l01Next_any L g 60 _ D.src (by decide)).mono ?_
      rintro e w2 ⟨q, rfl, q0, q1, g2, S2⟩
      have D2 := D.next g2 S2
      have o2 := o.nx g2 gS.1
      clear D o g2 S2
      by_cases h0 : q = 0
      · subst h0
        go_wp2_with fail
        refine (l01Next_any L g 2 _ D2.src (by decide)).mono ?_
        rintro e w3 ⟨y, rfl, y0, y1, g3, S3⟩
        have D3 := D2.next g3 S3
        obtain ⟨c, rfl⟩ : ∃ c : Nat, y = (c : Int) := ⟨y.toNat, by omega⟩
        have hc : c ≤ 1 := by omega
        have hmk := run_make_RecZ c (by omega)
        have DM := D3.alloc (.cells (madeCells #[.int .i64 0, .int .i64 0, .int .i64 0, .int .i64 0, .int .i64 0, .int .i64 0, .int .i64 0] (c * 7)) 45)
        have RM : Rd (w3.alloc (.cells (madeCells #[.int .i64 0, .int .i64 0, .int .i64 0, .int .i64 0, .int .i64 0, .int .i64 0, .int .i64 0] (c * 7)) 45)) (some ⟨w3.heap.size, 0, none⟩) (c * 7) (ints (List.replicate (c * 7) 0)) := by
          refine ⟨by simp [ints], fun _ => ⟨_, rfl, fun i hi => ?_⟩⟩
          rw [add_lit, (Blk.new w3 45 _).cell]
          rcases Nat.le_one_iff_eq_zero_or_eq_one.1 hc with rfl | rfl
          · omega
          · match i, hi with
            | 0, _ => simp [madeCells, ints]
            | 1, _ => simp [madeCells, ints]
            | 2, _ => simp [madeCells, ints]
            | 3, _ => simp [madeCells, ints]
            | 4, _ => simp [madeCells, ints]
            | 5, _ => simp [madeCells, ints]
            | 6, _ => simp [madeCells, ints]
        generalize madeCells #[.int .i64 0, .int .i64 0, .int .i64 0, .int .i64 0, .int .i64 0, .int .i64 0, .int .i64 0] (c * 7) = cs at hmk DM RM
        clear y1
        go_wp2
        go_ret
        exact ⟨⟨some ⟨w3.heap.size, 0, none⟩, c, c⟩, _, rfl, by simp only; omega, Nat.le_refl _, RM, DM⟩
      have hq0 : (q == 0) = false := by rw [beq_eq_false_iff_ne]; exact h0
      by_cases h1 : q = 1
      rotate_left
      · have hq1 : (q == 1) = false := by rw [beq_eq_false_iff_ne]; exact h1
        have nc := o2.nc
        have rr := o2.rd
        go_wp2
        go_ret
        exact ⟨⟨HA, hN, hC⟩, xs, rfl, by simp only; omega, nc, rr, D2⟩
      subst h1
      go_wp2_with fail
      go_loopw [3, 6] (fun v3 v6 wr => ∃ (k : Nat) (h : Hd) (ys : List Int), k ≤ 40 ∧ v6 = .int .i64 k ∧ v3 = .slice h.A h.n h.c ∧ h.n ≤ 11 + k ∧ Own wr w.heap.size 7 h (ints ys) ∧ Dr w wr L g)
        (fun _ v6 _ => 40 - (intOf v6).toNat)
      case atStart => exact ⟨0, ⟨HA, hN, hC⟩, xs, Nat.zero_le _, rfl, rfl, by simp only; omega, o2, D2⟩
      case round =>
        obtain ⟨k, ⟨HA, hN, hC⟩, ys, hk, rfl, rfl, hNk, o, D⟩ := hrel
        simp only at hNk
        clear o2 D2 hNv
        by_cases hlt : k < 40
        · have hltI : (k : Int) < 40 := by omega
          have uk : IntKind.i64.wrap (300 + (k : Int)) = 300 + (k : Int) := IntWalk.i64_in _ (by omega)
          generalize hkk : 300 + (k : Int) = kk at *
          have bz : Below wr.heap.size wr (wr.alloc (.cells #[.int .i64 kk, .int .i64 1, .int .i64 0, .int .i64 0, .int .i64 0, .int .i64 0, .int .i64 0] 45)) := (Below.refl _ _).alloc (Nat.le_refl _) _
          have oz := o.below bz
          have RE := rd_sevenA wr kk 1 0 0 0 0 0 45
          have Dz := D.alloc (.cells #[.int .i64 kk, .int .i64 1, .int .i64 0, .int .i64 0, .int .i64 0, .int .i64 0, .int .i64 0] 45)
          have hBz := Dz.size
          have h63 : hN + 1 ≤ 1099511627776 := by omega
          have hrow : ∀ b, (⟨HA, hN, hC⟩ : Hd).row = some b → w.heap.size ≤ b := fun b e => (oz.rowlt b e).1
          go_wp2_with (at_builtin; refine wpList_append_Own rfl _ _ 24 rfl 45 7 56 Tryz.underlying24 Record_info (by decide) w.heap.size ⟨HA, hN, hC⟩ _ rfl oz _ 1 1 (ints [kk, 1, 0, 0, 0, 0, 0]) rfl RE (oneCell_ints _) h63 (by decide) hBz ?_; intro G wg hGn HG gg hat)
          have HGN := Lib.hid hGn
          have hGI : G.n ≤ 11 + (k + 1) := by rw [hGn]; show hN + 1 ≤ _; omega
          have HGI := Lib.hid hGI
          clear hGn hat hGI
          go_roundw
          case rel => exact ⟨k + 1, G, ys ++ [kk, 1, 0, 0, 0, 0, 0], by omega, by go_num, by first | rfl | rw [HGN.out], HGI.out, by rw [ints_append]; exact HG, Dz.grown gg hrow⟩
          case measure => simp [intOf]; omega
        · obtain rfl : k = 40 := by omega
          have nc := o.nc
          have rr := o.rd
          go_wp2
          go_ret
          exact ⟨⟨HA, hN, hC⟩, ys, rfl, by simp only; omega, nc, rr, D⟩
end Go.Proofs.YtoledbicmghmbaaGreatDoor
