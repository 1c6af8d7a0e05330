/- impl.GridSoundings. Condition: a list of at most 1048576 soundings. -/
import Derived.Test.YthmcnoloeeabbaaGrsT
import Derived.Deep.Cut
import Derived.Deep.DeepCutAuto
import Derived.Deep.RegionHeld3
namespace Go.Proofs.Ythmcnoloeeabbaa
open Go.RowKit

set_option maxRecDepth 100000 in
set_option maxHeartbeats 4000000 in
theorem implGrids_any (s wd hg : Int) (LA : Option Addr) (n c : Nat) (ys : List Int) (w : World) (hn : n ≤ 1048576) (hr : Rd w LA (n * 4) (ints ys)) :
    Calls Try.prog 48 #[.int .i64 s, .int .i64 wd, .int .i64 hg, .slice LA n c] w (RetGrid (gsR s wd hg ys n) (gsC s wd hg ys n) w) := by
  have K8 := Blk.new w 50 #[.int .i64 0, .int .i64 0, .int .i64 0, .slice none 0 0, .slice none 0 0]
  have b0 : Below w.heap.size w (w.alloc (.cells #[.int .i64 0, .int .i64 0, .int .i64 0, .slice none 0 0, .slice none 0 0] 50)) := (Below.refl _ _).alloc (Nat.le_refl _) _
  go_enter Try.func48, Try.ntmps48
  go_upto_region 1 with fail
  generalize w.alloc (.cells #[.int .i64 0, .int .i64 0, .int .i64 0, .slice none 0 0, .slice none 0 0] 50) = w1 at K8 b0 ⊢
  have g8 := K8.lt
  go_wp2_with fail
  refine (implAreSoundings_any LA n c ys _ hn (hr.below b0)).mono ?_
  rintro e w2 ⟨rfl, b2⟩
  replace K8 := K8.below b2 g8
  replace b0 := b0.trans (b2.mono b0.size)
  replace g8 := K8.lt
  have e8 := fun o => K8.cell o
  have f8 := fun o => K8.frozen o
  clear b2
  rcases Bool.eq_false_or_eq_true (sndsB ys n) with hsn | hsn
  rotate_left
  · have HV : Hid (gsR s wd hg ys n = zeroGrid ∧ gsC s wd hg ys n = 1) := by unfold Hid gsR gsC; rw [hsn]; exact ⟨rfl, rfl⟩
    rw [hsn]
    go_wp2
    refine bodyPost_ret (v := .tuple #[.agg #[.int .i64 0, .int .i64 0, .int .i64 0, .slice none 0 0, .slice none 0 0], .int .i64 1]) (by simp [results, Try.results48, go_sem, e8]) rfl ?_
    rw [HV.out.1, HV.out.2]
    exact retGrid_zero (by repeat (first | with_reducible exact b0 | refine Below.setCell ?_ (by simp <;> omega) _))
  rw [hsn]
  go_wp2_with fail
  refine (isGridShape_any s wd hg _).mono ?_
  rintro e w3 ⟨rfl, hw3⟩
  subst hw3
  rcases Bool.eq_false_or_eq_true (gshape s wd hg) with hsh | hsh
  rotate_left
  · have HV : Hid (gsR s wd hg ys n = zeroGrid ∧ gsC s wd hg ys n = 2) := by unfold Hid gsR gsC; rw [hsn, hsh]; exact ⟨rfl, rfl⟩
    rw [hsh]
    go_wp2
    refine bodyPost_ret (v := .tuple #[.agg #[.int .i64 0, .int .i64 0, .int .i64 0, .slice none 0 0, .slice none 0 0], .int .i64 2]) (by simp [results, Try.results48, go_sem, e8]) rfl ?_
    rw [HV.out.1, HV.out.2]
    exact retGrid_zero (by repeat (first | with_reducible exact b0 | refine Below.setCell ?_ (by simp <;> omega) _))
  rw [hsh]
  obtain ⟨⟨s0, s1⟩, ⟨wd0, wd1⟩, hg0, hg1⟩ := gshape_true hsh
  obtain ⟨a, rfl⟩ : ∃ a : Nat, wd = (a : Int) := ⟨wd.toNat, by omega⟩
  obtain ⟨b, rfl⟩ : ∃ b : Nat, hg = (b : Int) := ⟨hg.toNat, by omega⟩
  have HV : Hid (gsR s a b ys n = gsTo s a b ys n ∧ gsC s a b ys n = 0) := by unfold Hid gsR gsC; rw [hsn, hsh]; exact ⟨rfl, rfl⟩
  have hsn' : sousB ys n = true ∧ n ≤ 200 := by
    have : sndsB ys n = (sousB ys n && decide ((n : Int) ≤ 200)) := rfl
    rw [this, Bool.and_eq_true, decide_eq_true_eq] at hsn
    exact ⟨hsn.1, by omega⟩
  have HSN := Lib.hid hsn'.1
  have hn2 := hsn'.2
  clear hsn hsn' hsh e8 f8
  have hab := ab_bd30 (a := a) (b := b) (by omega) (by omega)
  obtain ⟨N, hN⟩ : ∃ N, a * b = N := ⟨_, rfl⟩
  have hm : (a : Int) * (b : Int) = (N : Int) := by rw [← Int.natCast_mul, hN]
  have hN1 : 1 ≤ N := by rw [← hN]; exact Nat.mul_pos (by omega) (by omega)
  have hN2 : N ≤ 900 := by omega
  have HN : Hid (N = a * b) := hN.symm
  clear hN hab
  have hmk := fun W : World => run_make_int64 N (by omega) W
  have hmi := fun W : World => run_make_IvZ N (by omega) W
  have wn : IntKind.i64.wrap (N : Int) = N := IntWalk.i64_in _ (by omega)
  go_upto_region 5 with fail
  go_cut [10] (fun v10 wx => ∃ g10 b3 b4 : Nat, v10 = .pointer (some ⟨g10, 0, none⟩) ∧ Own wx w2.heap.size 1 ⟨some ⟨b3, 0, none⟩, N, N⟩ (ints (List.replicate N 0)) ∧ Own wx w2.heap.size 2 ⟨some ⟨b4, 0, none⟩, N, N⟩ (ints (List.replicate (N * 2) 0)) ∧ b3 ≠ b4 ∧ b3 ≠ g10 ∧ b4 ≠ g10 ∧ Blk wx g10 50 #[.int .i64 s, .int .i64 (a : Int), .int .i64 (b : Int), .slice (some ⟨b3, 0, none⟩) N N, .slice (some ⟨b4, 0, none⟩) N N] ∧ Below w2.heap.size w2 wx)
  case first =>
    go_region
    all_goals
      go_wp2_with fail
      go_meet
      clear hmk hmi
    · skip
      have oC := Own.made (W := w2) (B := w2.heap.size) (n := N) (by simp <;> omega) (by omega) 2
      have oC := oC.below ((Below.refl _ _).alloc (Nat.le_refl _) (.cells (madeCells #[.int .i64 0, .int .i64 0] (N * 2)) 82))
      have oC := oC.below ((Below.refl _ _).alloc (Nat.le_refl _) (.cells #[.int .i64 s, .int .i64 (a : Int), .int .i64 (b : Int), .slice (some ⟨w2.heap.size, 0, none⟩) N N, .slice (some ⟨w2.heap.size + 1, 0, none⟩) N N] 50))
      have oC := oC.below (Below.drew (Below.refl _ _))
      have oD := Own.made2 (W := (w2.alloc (.cells (madeCells #[.int .i64 0] N) 2))) (B := w2.heap.size) (n := N) (by simp <;> omega) (by omega) 82
      rw [size_alloc1] at oD
      have oD := oD.below ((Below.refl _ _).alloc (Nat.le_refl _) (.cells #[.int .i64 s, .int .i64 (a : Int), .int .i64 (b : Int), .slice (some ⟨w2.heap.size, 0, none⟩) N N, .slice (some ⟨w2.heap.size + 1, 0, none⟩) N N] 50))
      have oD := oD.below (Below.drew (Below.refl _ _))
      have kB := Blk.drew (Blk.newN (g := w2.heap.size + 1 + 1) ((w2.alloc (.cells (madeCells #[.int .i64 0] N) 2)).alloc (.cells (madeCells #[.int .i64 0, .int .i64 0] (N * 2)) 82)) 50 #[.int .i64 s, .int .i64 (a : Int), .int .i64 (b : Int), .slice (some ⟨w2.heap.size, 0, none⟩) N N, .slice (some ⟨w2.heap.size + 1, 0, none⟩) N N] (by simp))
      exact ⟨w2.heap.size + 1 + 1, w2.heap.size, w2.heap.size + 1, rfl, oC, oD, by omega, by omega, by omega, kB, Below.drew ((((Below.refl _ _).alloc (Nat.le_refl _) _).alloc (by simp) _).alloc (by simp <;> omega) _)⟩
    · skip
      have oC := Own.made (W := w2) (B := w2.heap.size) (n := N) (by simp <;> omega) (by omega) 2
      have oC := oC.below ((Below.refl _ _).alloc (Nat.le_refl _) (.cells #[.int .i64 s, .int .i64 (a : Int), .int .i64 (b : Int), .slice (some ⟨w2.heap.size, 0, none⟩) N N, .slice (some ⟨w2.heap.size + 1 + 1, 0, none⟩) N N] 50))
      have oC := oC.below ((Below.refl _ _).alloc (Nat.le_refl _) (.cells (madeCells #[.int .i64 0, .int .i64 0] (N * 2)) 82))
      have oC := oC.below (Below.drew (Below.refl _ _))
      have oD := Own.made2 (W := ((w2.alloc (.cells (madeCells #[.int .i64 0] N) 2)).alloc (.cells #[.int .i64 s, .int .i64 (a : Int), .int .i64 (b : Int), .slice (some ⟨w2.heap.size, 0, none⟩) N N, .slice (some ⟨w2.heap.size + 1 + 1, 0, none⟩) N N] 50))) (B := w2.heap.size) (n := N) (by simp <;> omega) (by omega) 82
      rw [size_alloc1, size_alloc1] at oD
      have oD := oD.below (Below.drew (Below.refl _ _))
      have kB := Blk.drew ((Blk.newN (g := w2.heap.size + 1) (w2.alloc (.cells (madeCells #[.int .i64 0] N) 2)) 50 #[.int .i64 s, .int .i64 (a : Int), .int .i64 (b : Int), .slice (some ⟨w2.heap.size, 0, none⟩) N N, .slice (some ⟨w2.heap.size + 1 + 1, 0, none⟩) N N] (by simp)).alloc (.cells (madeCells #[.int .i64 0, .int .i64 0] (N * 2)) 82))
      exact ⟨w2.heap.size + 1, w2.heap.size, w2.heap.size + 1 + 1, rfl, oC, oD, by omega, by omega, by omega, kB, Below.drew ((((Below.refl _ _).alloc (Nat.le_refl _) _).alloc (by simp) _).alloc (by simp <;> omega) _)⟩
    · skip
      have oC := Own.made (W := (w2.alloc (.cells (madeCells #[.int .i64 0, .int .i64 0] (N * 2)) 82))) (B := w2.heap.size) (n := N) (by simp <;> omega) (by omega) 2
      rw [size_alloc1] at oC
      have oC := oC.below ((Below.refl _ _).alloc (Nat.le_refl _) (.cells #[.int .i64 s, .int .i64 (a : Int), .int .i64 (b : Int), .slice (some ⟨w2.heap.size + 1, 0, none⟩) N N, .slice (some ⟨w2.heap.size, 0, none⟩) N N] 50))
      have oC := oC.below (Below.drew (Below.refl _ _))
      have oD := Own.made2 (W := w2) (B := w2.heap.size) (n := N) (by simp <;> omega) (by omega) 82
      have oD := oD.below ((Below.refl _ _).alloc (Nat.le_refl _) (.cells (madeCells #[.int .i64 0] N) 2))
      have oD := oD.below ((Below.refl _ _).alloc (Nat.le_refl _) (.cells #[.int .i64 s, .int .i64 (a : Int), .int .i64 (b : Int), .slice (some ⟨w2.heap.size + 1, 0, none⟩) N N, .slice (some ⟨w2.heap.size, 0, none⟩) N N] 50))
      have oD := oD.below (Below.drew (Below.refl _ _))
      have kB := Blk.drew (Blk.newN (g := w2.heap.size + 1 + 1) ((w2.alloc (.cells (madeCells #[.int .i64 0, .int .i64 0] (N * 2)) 82)).alloc (.cells (madeCells #[.int .i64 0] N) 2)) 50 #[.int .i64 s, .int .i64 (a : Int), .int .i64 (b : Int), .slice (some ⟨w2.heap.size + 1, 0, none⟩) N N, .slice (some ⟨w2.heap.size, 0, none⟩) N N] (by simp))
      exact ⟨w2.heap.size + 1 + 1, w2.heap.size + 1, w2.heap.size, rfl, oC, oD, by omega, by omega, by omega, kB, Below.drew ((((Below.refl _ _).alloc (Nat.le_refl _) _).alloc (by simp) _).alloc (by simp <;> omega) _)⟩
    · skip
      have oC := Own.made (W := ((w2.alloc (.cells (madeCells #[.int .i64 0, .int .i64 0] (N * 2)) 82)).alloc (.cells #[.int .i64 s, .int .i64 (a : Int), .int .i64 (b : Int), .slice (some ⟨w2.heap.size + 1 + 1, 0, none⟩) N N, .slice (some ⟨w2.heap.size, 0, none⟩) N N] 50))) (B := w2.heap.size) (n := N) (by simp <;> omega) (by omega) 2
      rw [size_alloc1, size_alloc1] at oC
      have oC := oC.below (Below.drew (Below.refl _ _))
      have oD := Own.made2 (W := w2) (B := w2.heap.size) (n := N) (by simp <;> omega) (by omega) 82
      have oD := oD.below ((Below.refl _ _).alloc (Nat.le_refl _) (.cells #[.int .i64 s, .int .i64 (a : Int), .int .i64 (b : Int), .slice (some ⟨w2.heap.size + 1 + 1, 0, none⟩) N N, .slice (some ⟨w2.heap.size, 0, none⟩) N N] 50))
      have oD := oD.below ((Below.refl _ _).alloc (Nat.le_refl _) (.cells (madeCells #[.int .i64 0] N) 2))
      have oD := oD.below (Below.drew (Below.refl _ _))
      have kB := Blk.drew ((Blk.newN (g := w2.heap.size + 1) (w2.alloc (.cells (madeCells #[.int .i64 0, .int .i64 0] (N * 2)) 82)) 50 #[.int .i64 s, .int .i64 (a : Int), .int .i64 (b : Int), .slice (some ⟨w2.heap.size + 1 + 1, 0, none⟩) N N, .slice (some ⟨w2.heap.size, 0, none⟩) N N] (by simp)).alloc (.cells (madeCells #[.int .i64 0] N) 2))
      exact ⟨w2.heap.size + 1, w2.heap.size + 1 + 1, w2.heap.size, rfl, oC, oD, by omega, by omega, by omega, kB, Below.drew ((((Below.refl _ _).alloc (Nat.le_refl _) _).alloc (by simp) _).alloc (by simp <;> omega) _)⟩
    · skip
      have oC := Own.made (W := (w2.alloc (.cells #[.int .i64 s, .int .i64 (a : Int), .int .i64 (b : Int), .slice (some ⟨w2.heap.size + 1, 0, none⟩) N N, .slice (some ⟨w2.heap.size + 1 + 1, 0, none⟩) N N] 50))) (B := w2.heap.size) (n := N) (by simp <;> omega) (by omega) 2
      rw [size_alloc1] at oC
      have oC := oC.below ((Below.refl _ _).alloc (Nat.le_refl _) (.cells (madeCells #[.int .i64 0, .int .i64 0] (N * 2)) 82))
      have oC := oC.below (Below.drew (Below.refl _ _))
      have oD := Own.made2 (W := ((w2.alloc (.cells #[.int .i64 s, .int .i64 (a : Int), .int .i64 (b : Int), .slice (some ⟨w2.heap.size + 1, 0, none⟩) N N, .slice (some ⟨w2.heap.size + 1 + 1, 0, none⟩) N N] 50)).alloc (.cells (madeCells #[.int .i64 0] N) 2))) (B := w2.heap.size) (n := N) (by simp <;> omega) (by omega) 82
      rw [size_alloc1, size_alloc1] at oD
      have oD := oD.below (Below.drew (Below.refl _ _))
      have kB := Blk.drew (((Blk.newN (g := w2.heap.size) w2 50 #[.int .i64 s, .int .i64 (a : Int), .int .i64 (b : Int), .slice (some ⟨w2.heap.size + 1, 0, none⟩) N N, .slice (some ⟨w2.heap.size + 1 + 1, 0, none⟩) N N] (by simp)).alloc (.cells (madeCells #[.int .i64 0] N) 2)).alloc (.cells (madeCells #[.int .i64 0, .int .i64 0] (N * 2)) 82))
      exact ⟨w2.heap.size, w2.heap.size + 1, w2.heap.size + 1 + 1, rfl, oC, oD, by omega, by omega, by omega, kB, Below.drew ((((Below.refl _ _).alloc (Nat.le_refl _) _).alloc (by simp) _).alloc (by simp <;> omega) _)⟩
    · skip
      have oC := Own.made (W := ((w2.alloc (.cells #[.int .i64 s, .int .i64 (a : Int), .int .i64 (b : Int), .slice (some ⟨w2.heap.size + 1 + 1, 0, none⟩) N N, .slice (some ⟨w2.heap.size + 1, 0, none⟩) N N] 50)).alloc (.cells (madeCells #[.int .i64 0, .int .i64 0] (N * 2)) 82))) (B := w2.heap.size) (n := N) (by simp <;> omega) (by omega) 2
      rw [size_alloc1, size_alloc1] at oC
      have oC := oC.below (Below.drew (Below.refl _ _))
      have oD := Own.made2 (W := (w2.alloc (.cells #[.int .i64 s, .int .i64 (a : Int), .int .i64 (b : Int), .slice (some ⟨w2.heap.size + 1 + 1, 0, none⟩) N N, .slice (some ⟨w2.heap.size + 1, 0, none⟩) N N] 50))) (B := w2.heap.size) (n := N) (by simp <;> omega) (by omega) 82
      rw [size_alloc1] at oD
      have oD := oD.below ((Below.refl _ _).alloc (Nat.le_refl _) (.cells (madeCells #[.int .i64 0] N) 2))
      have oD := oD.below (Below.drew (Below.refl _ _))
      have kB := Blk.drew (((Blk.newN (g := w2.heap.size) w2 50 #[.int .i64 s, .int .i64 (a : Int), .int .i64 (b : Int), .slice (some ⟨w2.heap.size + 1 + 1, 0, none⟩) N N, .slice (some ⟨w2.heap.size + 1, 0, none⟩) N N] (by simp)).alloc (.cells (madeCells #[.int .i64 0, .int .i64 0] (N * 2)) 82)).alloc (.cells (madeCells #[.int .i64 0] N) 2))
      exact ⟨w2.heap.size, w2.heap.size + 1 + 1, w2.heap.size + 1, rfl, oC, oD, by omega, by omega, by omega, kB, Below.drew ((((Below.refl _ _).alloc (Nat.le_refl _) _).alloc (by simp) _).alloc (by simp <;> omega) _)⟩
  case rest =>
  obtain ⟨g10, b3, b4, rfl, oC, oD, h34, h3g, h4g, K10, b5⟩ := hcut
  obtain ⟨w5, rfl⟩ : ∃ x : World, x = wc := ⟨_, rfl⟩
  have hz2 : w.heap.size < w2.heap.size := g8
  replace b0 := b0.trans (b5.mono b0.size)
  replace K8 := K8.below b5 g8
  clear b5 g8 hmk hmi hm
  obtain ⟨a3, ha3⟩ : ∃ a3 : Addr, a3 = ⟨b3, 0, none⟩ := ⟨_, rfl⟩
  obtain ⟨a4, ha4⟩ : ∃ a4 : Addr, a4 = ⟨b4, 0, none⟩ := ⟨_, rfl⟩
  have hk3 : a3.block = b3 := by rw [ha3]
  have hk4 : a4.block = b4 := by rw [ha4]
  rw [← ha3] at oC K10
  rw [← ha4] at oD K10
  clear ha3 ha4
  have ow : DepthGridOwn w5 w2.heap.size ⟨⟨some a3, N, N⟩, ⟨some a4, N, N⟩⟩ (newG s a b) := ⟨by unfold newG; rw [← HN.out]; exact oC, by unfold newG; rw [← HN.out]; exact oD, Sep.cons (fun x hx y hy bb e e2 => by
    rw [List.mem_singleton.1 hx] at e
    rw [List.mem_singleton.1 hy] at e2
    obtain ⟨_, u1, q1, q2⟩ := Hd.row_some e
    obtain ⟨_, u2, q3, q4⟩ := Hd.row_some e2
    cases q1
    cases q3
    omega) (Sep.one _)⟩
  have X5 := ow.rd
  have Y5 := ow.wr
  have SP := ow.sp
  have hne0 : ∀ x ∈ DepthGridR ⟨⟨some a3, N, N⟩, ⟨some a4, N, N⟩⟩, x ≠ some g10 := fun x hx e => by
    unfold DepthGridR at hx
    simp only [List.mem_cons, List.not_mem_nil, or_false] at hx
    rcases hx with rfl | rfl
    · obtain ⟨_, q1, _, q2⟩ := row_some e
      cases q1
      omega
    · obtain ⟨_, q1, _, q2⟩ := row_some e
      cases q1
      omega
  clear ow oC oD h3g h4g
  have RY := hr.below b0
  have hyl : ∀ bk, blkp LA (n * 4) = some bk → bk < w.heap.size := hr.rowlt
  obtain ⟨h, hh⟩ : ∃ h : DepthGridH, h = ⟨⟨some a3, N, N⟩, ⟨some a4, N, N⟩⟩ := ⟨_, rfl⟩
  have hne' : ∀ x ∈ DepthGridR h, x ≠ some g10 := by rw [hh]; exact hne0
  have X6 : RdAll w5 (DepthGridS h (gsTo s a b ys 0)) := by rw [hh]; exact X5
  have Y6 : WrAll w5 w2.heap.size (DepthGridS h (gsTo s a b ys 0)) := by rw [hh]; exact Y5
  have SP' : Sep (DepthGridR h) := by rw [hh]; exact SP
  have ok : DepthGridOk h := by rw [hh]; exact ⟨by simp only; omega, by simp only; omega⟩
  have HH := Lib.hid hh
  clear X5 Y5 SP hne0 hh hr
  go_wp2_with fail
  go_loopw [40] (fun v11 wr => ∃ k : Nat, k ≤ n ∧ v11 = .int .i64 k ∧ RdAll wr (DepthGridS h (gsTo s a b ys k)) ∧ WrAll wr w2.heap.size (DepthGridS h (gsTo s a b ys k)) ∧ Blk wr g10 50 #[.int .i64 s, .int .i64 (a : Int), .int .i64 (b : Int), .slice (some a3) N N, .slice (some a4) N N] ∧ Blk wr w.heap.size 50 #[.int .i64 0, .int .i64 0, .int .i64 0, .slice none 0 0, .slice none 0 0] ∧ Rd wr LA (n * 4) (ints ys) ∧ Below w.heap.size w wr)
    (fun v11 _ => n - (intOf v11).toNat)
  case atStart => exact ⟨0, Nat.zero_le _, rfl, X6, Y6, K10, K8, RY, b0⟩
  case round =>
    obtain ⟨k, hk, rfl, X, Y, KB, KR, R, hb⟩ := hrel
    clear X6 Y6 K10 K8 RY b0
    have GI := gsTo_inv s a b ys k
    have qB := KB.lt
    have qR := KR.lt
    have cB := fun o => KB.cell o
    by_cases hlt : k < n
    · obtain ⟨ad, rfl, d0, d1, d2, d3⟩ := R.fourS hlt
      have hltI : (k : Int) < (n : Int) := by omega
      have hlt0 : (0 : Int) ≤ (k : Int) := by omega
      have hadl : (ad.add (k * 4)).block < w.heap.size := by
        rw [block_of_add]
        exact hyl _ (by unfold blkp; rw [if_neg (by omega)]; rfl)
      have HST : Hid (gsTo s a b ys (k + 1) = gPut (gsTo s a b ys k) (ys.getD (k * 4) 0) (ys.getD (k * 4 + 1) 0) (ys.getD (k * 4 + 2) 0) (ys.getD (k * 4 + 3) 0)) := rfl
      have hso : souB (ys.getD (k * 4) 0) (ys.getD (k * 4 + 1) 0) (ys.getD (k * 4 + 2) 0) (ys.getD (k * 4 + 3) 0) = true := sousB_at HSN.out hlt
      generalize hx0 : ys.getD (k * 4) 0 = x0 at *
      generalize hx1 : ys.getD (k * 4 + 1) 0 = x1 at *
      generalize hx2 : ys.getD (k * 4 + 2) 0 = x2 at *
      generalize hx3 : ys.getD (k * 4 + 3) 0 = x3 at *
      have HX := Lib.hid (And.intro hx0 (And.intro hx1 (And.intro hx2 hx3)))
      clear hx0 hx1 hx2 hx3
      have hbd : ((0 ≤ x0 ∧ x0 ≤ 10000) ∧ (0 ≤ x1 ∧ x1 ≤ 10000)) ∧ (-2000 ≤ x2 ∧ x2 ≤ 1000000) ∧ 0 ≤ x3 ∧ x3 ≤ 5000 := by
        unfold souB at hso
        simp only [Bool.and_eq_true] at hso
        exact ⟨⟨inR_true hso.1.1.1, inR_true hso.1.1.2⟩, inR_true hso.1.2, inR_true hso.2⟩
      clear hso
      generalize gsTo s a b ys k = gg at *
      have HP : Hid (gPut gg x0 x1 x2 x3 = if 0 ≤ cellI s a b x0 x1 then addG gg (cellI s a b x0 x1).toNat (x2 - x3) (x2 + x3) 1 else gg) := by unfold Hid gPut; rw [GI.size, GI.wide, GI.high]
      have hcb := cellI_bd (s := s) (wd := a) (hg := b) hbd.1.1.1 hbd.1.2.1 s0 wd0
      have hcell := fun W => implCell_any s a b x0 x1 (.slice (some a3) N N) (.slice (some a4) N N) W s0 s1 wd0 wd1 hbd.1.1.1 hbd.1.1.2 hbd.1.2.1 hbd.1.2.2 ⟨_, _, _, rfl⟩ ⟨_, _, _, rfl⟩
      generalize hci : cellI s a b x0 x1 = ci at *
      clear hci
      have ST0 : GSt w w2.heap.size g10 h gg #[.int .i64 s, .int .i64 (a : Int), .int .i64 (b : Int), .slice (some a3) N N, .slice (some a4) N N] (some ad) n ys wr := ⟨X, Y, KB, KR, R, hb, hne', hz2, hyl⟩
      have hrs : ∀ x ∈ DepthGridR h, x ≠ some wr.heap.size := (X.lo).ne (Nat.le_refl _)
      clear X Y KB KR R hb
      go_upto_region 9 with fail
      have KS := Blk.new wr 129 #[.int .i64 x0, .int .i64 x1, .int .i64 x2, .int .i64 x3]
      have ST1 := ST0.bel ((Below.refl _ _).alloc (Nat.le_refl _) (.cells #[.int .i64 x0, .int .i64 x1, .int .i64 x2, .int .i64 x3] 129))
      clear ST0 d0 d1 d2 d3 cB qB qR
      generalize wr.alloc (.cells #[.int .i64 x0, .int .i64 x1, .int .i64 x2, .int .i64 x3] 129) = w6 at KS ST1 ⊢
      generalize wr.heap.size = gs at KS hrs ⊢
      have cB := fun o => ST1.KB.cell o
      have cS := fun o => KS.cell o
      go_wp2_with fail
      refine (hcell _).mono ?_
      rintro e w7 ⟨rfl, b7⟩
      have ST := ST1.bel b7
      replace KS := KS.below b7 KS.lt
      clear b7 ST1 hcell cB cS
      by_cases hci : 0 ≤ ci
      rotate_left
      · have HS2 : Hid (gsTo s a b ys (k + 1) = gg) := by show _ = _; rw [HST.out, HP.out, if_neg hci]
        have hcid : decide (0 ≤ ci) = false := decide_eq_false hci
        go_wp2_with fail
        go_roundw
        case rel => exact ⟨k + 1, by omega, by go_num, by rw [HS2.out]; exact ST.X, by rw [HS2.out]; exact ST.Y, ST.KB, ST.KR, ST.R, ST.hb⟩
        case measure => simp [intOf]; omega
      obtain ⟨q, rfl⟩ : ∃ q : Nat, ci = (q : Int) := ⟨ci.toNat, by omega⟩
      have hqN : q < N := by have h1 := hcb hci; rw [← Int.natCast_mul] at h1; have := HN.out; omega
      have HS2 : Hid (gsTo s a b ys (k + 1) = addG gg q (x2 - x3) (x2 + x3) 1) := by show _ = _; rw [HST.out, HP.out, if_pos hci, Int.toNat_natCast]
      have GB := GI.bd q
      have e5 : DepthGridV h gg = .agg #[.int .i64 s, .int .i64 (a : Int), .int .i64 (b : Int), .slice (some a3) N N, .slice (some a4) N N] := by unfold DepthGridV; rw [GI.size, GI.wide, GI.high, HH.out]
      have hadd : ∀ W, GSt w w2.heap.size g10 h gg #[.int .i64 s, .int .i64 (a : Int), .int .i64 (b : Int), .slice (some a3) N N, .slice (some a4) N N] (some ad) n ys W → Calls Try.prog 86 #[.agg #[.int .i64 s, .int .i64 (a : Int), .int .i64 (b : Int), .slice (some a3) N N, .slice (some a4) N N], .int .i64 (q : Int), .agg #[.int .i64 (x2 - x3), .int .i64 (x2 + x3)], .int .i64 1] W (GPost w2.heap.size h (addG gg q (x2 - x3) (x2 + x3) 1) W) := fun W s => by
        have := implAdd_any w2.heap.size h gg q (x2 - x3) (x2 + x3) 1 W ok (by rw [HH.out]) (by rw [HH.out]; exact hqN) s.X s.Y SP' (by omega) (by omega) (by decide) (by decide)
        rw [e5] at this
        exact this
      clear e5
      have SD := ST.bel (Below.drew (Below.refl _ _))
      have KSd := Blk.drew KS
      have hbo := implBounds_any x0 x1 x2 x3 w7.drew hbd.2.1.1 hbd.2.1.2 hbd.2.2.1 hbd.2.2.2
      go_upto_region 11 with fail
      have tb := fun o => ST.KB.cell o
      have ts := fun o => KS.cell o
      go_region_held3 (fun w' => (∀ o, w'.cell? ⟨g10, o, none⟩ = (#[.int .i64 s, .int .i64 (a : Int), .int .i64 (b : Int), .slice (some a3) N N, .slice (some a4) N N] : Array Value)[o]?) ∧ (∀ o, w'.cell? ⟨gs, o, none⟩ = (#[.int .i64 x0, .int .i64 x1, .int .i64 x2, .int .i64 x3] : Array Value)[o]?))
        (((with_reducible refine ⟨?_, ?_⟩) <;> (first | (with_reducible assumption) | (with_reducible exact tb) | (with_reducible exact ts) | (intro o; go_keep))))
        (first
          | (go_at_call 110; (with_reducible refine hbo.mono ?_); rintro e u ⟨rfl, b8⟩; have SU := SD.bel b8; have KU := KSd.below b8 KSd.lt; have yb := fun o => SU.KB.cell o; have ysn := fun o => KU.cell o)
          | (go_at_call 86; (with_reducible refine (hadd _ SU).mono ?_); rintro e v ⟨rfl, XV, YV, TV⟩; have SV := SU.tch TV XV YV; have KV := KU.touch TV hrs; have vb := fun o => SV.KB.cell o; have vs := fun o => KV.cell o))
      go_wp2_with fail
      go_roundw
      case rel => exact ⟨k + 1, by omega, by go_num, by rw [HS2.out]; exact SV.X, by rw [HS2.out]; exact SV.Y, SV.KB, SV.KR, SV.R, SV.hb⟩
      case measure => simp [intOf]; omega
    · obtain rfl : n = k := by omega
      have e8 := fun o => KR.cell o
      have f8 := fun o => KR.frozen o
      have g8 := qR
      rw [HH.out] at X Y SP'
      have hz3 : w.heap.size ≤ w2.heap.size := Nat.le_of_lt hz2
      have eqs := GI.size
      have eqw := GI.wide
      have eqh := GI.high
      have hrow := Y.hi
      go_wp2
      refine bodyPost_ret (v := .tuple #[.agg #[.int .i64 s, .int .i64 (a : Int), .int .i64 (b : Int), .slice (some a3) N N, .slice (some a4) N N], .int .i64 0]) (by simp [results, Try.results48, go_sem, e8]) rfl ?_
      rw [HV.out.1, HV.out.2]
      refine ⟨⟨⟨some a3, N, N⟩, ⟨some a4, N, N⟩⟩, by unfold DepthGridV; rw [eqs, eqw, eqh], ⟨by simp only; omega, by simp only; omega⟩, ?_, ?_, SP', ?_⟩
      · exact ((((X.cell_ (hrow.ne hz2)).cell_ (hrow.ne hz2)).cell_ (hrow.ne hz2)).cell_ (hrow.ne hz2)).cell_ (hrow.ne hz2)
      · exact (Y.lower hz3).cell_.cell_.cell_.cell_.cell_
      · repeat (first | with_reducible exact hb | refine Below.setCell ?_ (by simp <;> omega) _)
end Go.Proofs.Ythmcnoloeeabbaa
