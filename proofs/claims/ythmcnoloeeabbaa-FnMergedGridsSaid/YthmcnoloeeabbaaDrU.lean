/- spec.DrawGridSoundings. Existential: three numbers and a list of at most 201 soundings. -/
import Derived.Test.YthmcnoloeeabbaaDrS
namespace Go.Proofs.Ythmcnoloeeabbaa
open Go.RowKit

set_option maxRecDepth 100000 in
set_option maxHeartbeats 2000000 in
theorem drawGridSoundings_any (A : Option Addr) (n c : Nat) (bs : List Int) (w : World) (r : Rd w A n (byteV bs)) (hx : ∀ x ∈ bs, 0 ≤ x ∧ x ≤ 255) (hn : n ≤ 4096) :
    Calls Try.prog 47 #[.slice A n c] w fun e w' => ∃ (s wd hg : Int) (h : Hd) (xs : List Int), e = .returned (.tuple #[.int .i64 s, .int .i64 wd, .int .i64 hg, .slice h.A h.n h.c]) ∧ h.n ≤ 201 ∧ h.n ≤ h.c ∧ Rd w' h.A (h.n * 4) (ints xs) ∧ Below w.heap.size w w' := by
  go_enter Try.func47, Try.ntmps47
  go_wp2_with fail
  refine (l01From_any A n c bs _ r hx hn).mono ?_
  rintro e w1 ⟨g, rfl, S1, b1⟩
  have D1 := Dr.start S1
  clear S1
  go_wp2_with fail
  refine (l01Next_any _ g 16 _ D1.src (by decide)).mono ?_
  rintro e w2 ⟨q, rfl, q0, q1, g2, S2⟩
  have D2 := D1.next g2 S2
  clear D1 g2 S2
  by_cases h0 : q = 0
  · subst h0
    clear q0 q1
    go_wp2_with fail
    refine (pick_any _ g [0, 1, 10000, 10001] 4 _ D2.src rfl (by decide) (by decide)).mono ?_
    rintro e w3 ⟨s, -, rfl, g3, S3⟩
    have D3 := (D2.alloc _).next g3 S3
    clear D2 g3 S3
    go_wp2_with fail
    refine (pick_any _ g [0, 1, 30, 31] 4 _ D3.src rfl (by decide) (by decide)).mono ?_
    rintro e w4 ⟨wd, -, rfl, g4, S4⟩
    have D4 := (D3.alloc _).next g4 S4
    clear D3 g4 S4
    go_wp2_with fail
    refine (pick_any _ g [0, 1, 31] 3 _ D4.src rfl (by decide) (by decide)).mono ?_
    rintro e w5 ⟨hg, -, rfl, g5, S5⟩
    have D5 := (D4.alloc _).next g5 S5
    clear D4 g5 S5
    go_wp2_with fail
    refine (l21Draw_any _ g _ D5.src).mono ?_
    rintro e w6 ⟨h, xs, rfl, h201, hnc, R, -, E6⟩
    have b6 := (D5.next E6.gr E6.src).fin b1
    go_wp2
    refine bodyPost_ret (v := .tuple #[.int .i64 s, .int .i64 wd, .int .i64 hg, .slice h.A h.n h.c]) (by simp [results, Try.results47, go_sem]) rfl ?_
    exact ⟨s, wd, hg, h, xs, rfl, h201, hnc, R, b6⟩
  have hq0 : (q == 0) = false := by rw [beq_eq_false_iff_ne]; exact h0
  go_wp2_with fail
  refine (l01Next_any _ g 20 _ D2.src (by decide)).mono ?_
  rintro e w3 ⟨s, rfl, s0, s1, g3, S3⟩
  have D3 := D2.next g3 S3
  have u3 : IntKind.i64.wrap (5 + s) = 5 + s := IntWalk.i64_in _ (by omega)
  clear D2 g3 S3
  go_wp2_with fail
  refine (l01Next_any _ g 6 _ D3.src (by decide)).mono ?_
  rintro e w4 ⟨wd, rfl, wd0, wd1, g4, S4⟩
  have D4 := D3.next g4 S4
  have u4 : IntKind.i64.wrap (1 + wd) = 1 + wd := IntWalk.i64_in _ (by omega)
  clear D3 g4 S4
  go_wp2_with fail
  refine (l01Next_any _ g 6 _ D4.src (by decide)).mono ?_
  rintro e w5 ⟨hg, rfl, hg0, hg1, g5, S5⟩
  have D5 := D4.next g5 S5
  have u5 : IntKind.i64.wrap (1 + hg) = 1 + hg := IntWalk.i64_in _ (by omega)
  clear D4 g5 S5
  go_wp2_with fail
  refine (l21Draw_any _ g _ D5.src).mono ?_
  rintro e w6 ⟨h, xs, rfl, h201, hnc, R, -, E6⟩
  have b6 := (D5.next E6.gr E6.src).fin b1
  go_wp2
  refine bodyPost_ret (v := .tuple #[.int .i64 (5 + s), .int .i64 (1 + wd), .int .i64 (1 + hg), .slice h.A h.n h.c]) (by simp [results, Try.results47, go_sem]) rfl ?_
  exact ⟨_, _, _, h, xs, rfl, h201, hnc, R, b6⟩
end Go.Proofs.Ythmcnoloeeabbaa
