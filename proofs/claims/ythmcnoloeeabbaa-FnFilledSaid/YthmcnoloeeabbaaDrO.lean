/- A drawn sounding. Existential: some four numbers. -/
import Derived.Test.YthmcnoloeeabbaaDr
import Derived.Test.YthmcnoloeeabbaaRec
namespace Go.Proofs.Ythmcnoloeeabbaa
open Go.RowKit

set_option maxRecDepth 100000 in
set_option maxHeartbeats 4000000 in
theorem l21DrawOne_any (L g : Nat) (w : World) (S : Src w L g) :
    Calls Try.prog 132 #[.pointer (some ⟨g, 0, none⟩)] w fun e w' => ∃ x y d r : Int, e = .returned (.agg #[.int .i64 x, .int .i64 y, .int .i64 d, .int .i64 r]) ∧ Dr w w' L g := by
  have D0 := (Dr.start S).alloc (.cells #[.int .i64 0, .int .i64 0, .int .i64 0, .int .i64 0] 129)
  have K0 := Blk.new w 129 #[.int .i64 0, .int .i64 0, .int .i64 0, .int .i64 0]
  have gS := S.lt
  go_enter Try.func132, Try.ntmps132
  go_wp2_with fail
  generalize w.alloc (.cells #[.int .i64 0, .int .i64 0, .int .i64 0, .int .i64 0] 129) = w0 at D0 K0 ⊢
  refine (l01Next_any L g 60 _ D0.src (by decide)).mono ?_
  rintro e w1 ⟨x, rfl, x0, x1, g1, S1⟩
  have D1 := D0.next g1 S1
  have K1 := K0.nx g1 (by omega)
  clear g1 S1 D0 K0
  go_wp2_with fail
  refine (l01Next_any L g 60 _ D1.src (by decide)).mono ?_
  rintro e w2 ⟨y, rfl, y0, y1, g2, S2⟩
  have D2 := D1.next g2 S2
  have K2 := K1.nx g2 (by omega)
  clear g2 S2 D1 K1
  go_wp2_with fail
  refine (l01Next_any L g 90 _ D2.src (by decide)).mono ?_
  rintro e w3 ⟨d, rfl, d0, d1, g3, S3⟩
  have D3 := D2.next g3 S3
  have K3 := K2.nx g3 (by omega)
  clear g3 S3 D2 K2
  go_wp2_with fail
  refine (l01Next_any L g 20 _ D3.src (by decide)).mono ?_
  rintro e w4 ⟨r, rfl, r0, r1, g4, S4⟩
  have D4 := D3.next g4 S4
  have K4 := K3.nx g4 (by omega)
  clear g4 S4 D3 K3
  go_upto_region 2 with fail
  have B5 := Blk.new w4 129 #[.int .i64 x, .int .i64 y, .int .i64 (1000 + d), .int .i64 r]
  have D5 := D4.alloc (.cells #[.int .i64 x, .int .i64 y, .int .i64 (1000 + d), .int .i64 r] 129)
  have K5 := K4.alloc (.cells #[.int .i64 x, .int .i64 y, .int .i64 (1000 + d), .int .i64 r] 129)
  have hz4 : w.heap.size < w4.heap.size := K4.lt
  clear D4 K4
  generalize w4.alloc (.cells #[.int .i64 x, .int .i64 y, .int .i64 (1000 + d), .int .i64 r] 129) = w5 at B5 D5 K5 ⊢
  generalize w4.heap.size = Q at B5 hz4 ⊢
  have hlt5 := D5.lt
  have hle5 := D5.le
  have hQg : g ≠ Q := by omega
  have hQ1 : Q ≠ w.heap.size := by omega
  have hQ2 : w.heap.size ≠ Q := by omega
  generalize 1000 + d = d' at *
  go_wp2_with fail

  refine (l01Next_any L g 60 _ D5.src (by decide)).mono ?_
  rintro e w6 ⟨q, rfl, q0, q1, g6, S6⟩
  have D6 := D5.next g6 S6
  have K6 := K5.nx g6 (by omega)
  have B6 := B5.nx g6 hQg
  clear g6 S6 D5 K5 B5
  by_cases hq : q = 0 ∨ q = 1 ∨ q = 2
  case neg =>
    have q0' : (q == 0) = false := by rw [beq_eq_false_iff_ne]; omega
    have q1' : (q == 1) = false := by rw [beq_eq_false_iff_ne]; omega
    have q2' : (q == 2) = false := by rw [beq_eq_false_iff_ne]; omega
    clear hq
    have cB := fun o => B6.cell o
    have gB := B6.lt
    have cK := fun o => K6.cell o
    have fK := fun o => K6.frozen o
    have gK := K6.lt
    go_wp2
    refine bodyPost_ret (v := .agg #[.int .i64 x, .int .i64 y, .int .i64 d', .int .i64 r]) (by simp [results, Try.results132, go_sem, cK, gK]) rfl ⟨x, y, d', r, rfl, (((D6.set_ (p := ⟨w.heap.size, 0, none⟩) (Nat.le_refl _) _).set_ (p := ⟨w.heap.size, 1, none⟩) (Nat.le_refl _) _).set_ (p := ⟨w.heap.size, 2, none⟩) (Nat.le_refl _) _).set_ (p := ⟨w.heap.size, 3, none⟩) (Nat.le_refl _) _⟩
  rcases hq with rfl | rfl | rfl
  · go_wp2_with fail
    refine (pick_any L g [1000000, 1000001, -2000, -2001] 4 _ D6.src rfl (by decide) (by decide)).mono ?_
    rintro e w7 ⟨p, -, rfl, g7, S7⟩
    have D7 := (D6.alloc _).next g7 S7
    have K7 := (K6.alloc _).nx g7 (by omega)
    have B7 := (B6.alloc _).nx g7 hQg
    clear D6 K6 B6 g7 S7
    have cB := fun o => B7.cell o
    have fB := fun o => B7.frozen o
    have gB := B7.lt
    have cK := fun o => K7.cell o
    have fK := fun o => K7.frozen o
    have gK := K7.lt
    go_wp2
    refine bodyPost_ret (v := .agg #[.int .i64 x, .int .i64 y, .int .i64 p, .int .i64 r]) (by simp [results, Try.results132, go_sem, cK, gK]) rfl ⟨x, y, p, r, rfl, ((((D7.set_ (p := ⟨Q, 2, none⟩) (by simp only; omega) _).set_ (p := ⟨w.heap.size, 0, none⟩) (Nat.le_refl _) _).set_ (p := ⟨w.heap.size, 1, none⟩) (Nat.le_refl _) _).set_ (p := ⟨w.heap.size, 2, none⟩) (Nat.le_refl _) _).set_ (p := ⟨w.heap.size, 3, none⟩) (Nat.le_refl _) _⟩
  · go_wp2_with fail
    refine (pick_any L g [-1, 0, 5000, 5001] 4 _ D6.src rfl (by decide) (by decide)).mono ?_
    rintro e w7 ⟨p, -, rfl, g7, S7⟩
    have D7 := (D6.alloc _).next g7 S7
    have K7 := (K6.alloc _).nx g7 (by omega)
    have B7 := (B6.alloc _).nx g7 hQg
    clear D6 K6 B6 g7 S7
    have cB := fun o => B7.cell o
    have fB := fun o => B7.frozen o
    have gB := B7.lt
    have cK := fun o => K7.cell o
    have fK := fun o => K7.frozen o
    have gK := K7.lt
    go_wp2
    refine bodyPost_ret (v := .agg #[.int .i64 x, .int .i64 y, .int .i64 d', .int .i64 p]) (by simp [results, Try.results132, go_sem, cK, gK]) rfl ⟨x, y, d', p, rfl, ((((D7.set_ (p := ⟨Q, 3, none⟩) (by simp only; omega) _).set_ (p := ⟨w.heap.size, 0, none⟩) (Nat.le_refl _) _).set_ (p := ⟨w.heap.size, 1, none⟩) (Nat.le_refl _) _).set_ (p := ⟨w.heap.size, 2, none⟩) (Nat.le_refl _) _).set_ (p := ⟨w.heap.size, 3, none⟩) (Nat.le_refl _) _⟩
  · go_wp2_with fail
    refine (pick_any L g [-1, 10000, 10001] 3 _ D6.src rfl (by decide) (by decide)).mono ?_
    rintro e w7 ⟨p, -, rfl, g7, S7⟩
    have D7 := (D6.alloc _).next g7 S7
    have K7 := (K6.alloc _).nx g7 (by omega)
    have B7 := (B6.alloc _).nx g7 hQg
    clear D6 K6 B6 g7 S7
    have cB := fun o => B7.cell o
    have fB := fun o => B7.frozen o
    have gB := B7.lt
    have cK := fun o => K7.cell o
    have fK := fun o => K7.frozen o
    have gK := K7.lt
    go_wp2
    refine bodyPost_ret (v := .agg #[.int .i64 p, .int .i64 y, .int .i64 d', .int .i64 r]) (by simp [results, Try.results132, go_sem, cK, gK]) rfl ⟨p, y, d', r, rfl, ((((D7.set_ (p := ⟨Q, 0, none⟩) (by simp only; omega) _).set_ (p := ⟨w.heap.size, 0, none⟩) (Nat.le_refl _) _).set_ (p := ⟨w.heap.size, 1, none⟩) (Nat.le_refl _) _).set_ (p := ⟨w.heap.size, 2, none⟩) (Nat.le_refl _) _).set_ (p := ⟨w.heap.size, 3, none⟩) (Nat.le_refl _) _⟩
end Go.Proofs.Ythmcnoloeeabbaa
