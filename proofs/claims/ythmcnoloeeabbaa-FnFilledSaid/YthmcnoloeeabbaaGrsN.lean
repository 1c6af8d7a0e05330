/- Grids: a new one, the reference's side; gridding, plainly. Condition: sides of at most 30. -/
import Derived.Test.YthmcnoloeeabbaaGrsC
namespace Go.Proofs.Ythmcnoloeeabbaa
open Go.RowKit

def newG (s : Int) (a b : Nat) : DepthGridC := ⟨s, a, b, List.replicate (a * b) 0, List.replicate (a * b * 2) 0⟩
theorem Interval_zero : (Try.prog.info? 82).map (fun i => (i.zero.map (·.cells), i.size, i.bytes)) = some (some #[.int .i64 0, .int .i64 0], 2, 16) := by kernel_rfl
theorem run_make_IvZ (n : Nat) (hn : n ≤ 1048576) (W : World) :
    (Instr.makeSlice 48 (.int .i64 (n : Int)) (.int .i64 (n : Int))).run Try.prog W = .ok (.slice (some ⟨W.heap.size, 0, none⟩) n n) (W.alloc (.cells (madeCells #[.int .i64 0, .int .i64 0] (n * 2)) 82)) := by
  have h := Interval_zero
  cases hi : Try.prog.info? 82 with
  | none => rw [hi] at h; simp at h
  | some i =>
    rw [hi] at h
    simp only [Option.map_some, Option.some.injEq, Prod.mk.injEq] at h
    obtain ⟨hz, hs, hb⟩ := h
    cases hz0 : i.zero with
    | none => rw [hz0] at hz; simp at hz
    | some z =>
      have hr := run_make_rowN (P := Try.prog) 48 82 i z Try.underlying48 hi hz0 .i64 .i64 n n (Nat.le_refl _) (by rw [hb]; omega) (by omega) W
      rw [hz0] at hz
      simp only [Option.map_some, Option.some.injEq] at hz
      rw [hs, hz] at hr
      exact hr
theorem Own.made2 {W : World} {B n : Nat} (hB : B ≤ W.heap.size) (hn : n ≤ 1048576) (e : TypeId) : Own (W.alloc (.cells (madeCells #[.int .i64 0, .int .i64 0] (n * 2)) e)) B 2 ⟨some ⟨W.heap.size, 0, none⟩, n, n⟩ (ints (List.replicate (n * 2) 0)) := by
  have hb := Blk.new W e (madeCells #[.int .i64 0, .int .i64 0] (n * 2))
  refine ⟨by unfold ints; simp, Nat.le_refl _, by unfold maxLen; simp only; omega, (fun h => by cases h), fun ad ea _ => ?_⟩
  injection ea with ea
  subst ea
  refine ⟨hB, hb.lt, rfl, fun i hi => ⟨?_, by rw [add_lit]; exact hb.frozen i⟩⟩
  have hi2 : i < n * 2 := hi
  have hi' : i < (madeCells #[Value.int .i64 0, Value.int .i64 0] (n * 2)).size := by rw [madeCells_size]; exact hi2
  refine ⟨(madeCells #[Value.int .i64 0, Value.int .i64 0] (n * 2))[i], by rw [add_lit, hb.cell]; exact Array.getElem?_eq_getElem hi', fun u hu => ?_⟩
  rw [ints_getElem?] at hu
  simp [hi2] at hu
  subst hu
  simp only [madeCells, Array.getElem_map, Array.getElem_range]
  rcases Nat.mod_two_eq_zero_or_one i with e0 | e0
  · simp [e0]
  · simp [e0]
theorem ab_bd30 {a b : Nat} (ha : a ≤ 30) (hb : b ≤ 30) : a * b ≤ 900 := Nat.le_trans (Nat.mul_le_mul ha hb) (by decide)
set_option maxRecDepth 100000 in
set_option maxHeartbeats 4000000 in
theorem l22New_any (s : Int) (a b : Nat) (w : World) (ha : a ≤ 30) (hb : b ≤ 30) :
    Calls Try.prog 112 #[.int .i64 s, .int .i64 (a : Int), .int .i64 (b : Int)] w fun e w' => ∃ k : DepthGridH, e = .returned (DepthGridV k (newG s a b)) ∧ k.counts.n = a * b ∧ k.depths.n = a * b ∧ DepthGridOwn w' w.heap.size k (newG s a b) ∧ Below w.heap.size w w' := by
  have hab := ab_bd30 ha hb
  obtain ⟨n, hn⟩ : ∃ n, a * b = n := ⟨_, rfl⟩
  have hm : (a : Int) * (b : Int) = (n : Int) := by rw [← Int.natCast_mul, hn]
  rw [hn] at hab
  have HN := Lib.hid hn
  clear hn
  have hmk := fun W : World => run_make_int64 n (by omega) W
  have hmi := fun W : World => run_make_IvZ n (by omega) W
  have wn : IntKind.i64.wrap (n : Int) = n := IntWalk.i64_in _ (by omega)
  have K0 := Blk.new w 50 #[.int .i64 0, .int .i64 0, .int .i64 0, .slice none 0 0, .slice none 0 0]
  have b0 : Below w.heap.size w (w.alloc (.cells #[.int .i64 0, .int .i64 0, .int .i64 0, .slice none 0 0, .slice none 0 0] 50)) := (Below.refl _ _).alloc (Nat.le_refl _) _
  go_enter Try.func112, Try.ntmps112
  go_upto_region 1 with fail
  generalize w.alloc (.cells #[.int .i64 0, .int .i64 0, .int .i64 0, .slice none 0 0, .slice none 0 0] 50) = w1 at K0 b0 ⊢
  have e0 := fun o => K0.cell o
  have f0 := fun o => K0.frozen o
  have g0 := K0.lt
  go_region
  · have K5 : Blk (((((w1.setCell ⟨w.heap.size, 0, none⟩ (.int .i64 s)).setCell ⟨w.heap.size, 1, none⟩ (.int .i64 (a : Int))).setCell ⟨w.heap.size, 2, none⟩ (.int .i64 (b : Int))).setCell ⟨w.heap.size, 3, none⟩ (.slice (some ⟨w1.heap.size, 0, none⟩) n n)).setCell ⟨w.heap.size, 4, none⟩ (.slice (some ⟨w1.heap.size + 1, 0, none⟩) n n)) w.heap.size 50 #[.int .i64 s, .int .i64 (a : Int), .int .i64 (b : Int), .slice (some ⟨w1.heap.size, 0, none⟩) n n, .slice (some ⟨w1.heap.size + 1, 0, none⟩) n n] := ((((K0.set_ 0 _).set_ 1 _).set_ 2 _).set_ 3 _).set_ 4 _
    have b5 : Below w.heap.size w (((((w1.setCell ⟨w.heap.size, 0, none⟩ (.int .i64 s)).setCell ⟨w.heap.size, 1, none⟩ (.int .i64 (a : Int))).setCell ⟨w.heap.size, 2, none⟩ (.int .i64 (b : Int))).setCell ⟨w.heap.size, 3, none⟩ (.slice (some ⟨w1.heap.size, 0, none⟩) n n)).setCell ⟨w.heap.size, 4, none⟩ (.slice (some ⟨w1.heap.size + 1, 0, none⟩) n n)) := ((((b0.setCell (p := ⟨w.heap.size, 0, none⟩) (Nat.le_refl _) _).setCell (p := ⟨w.heap.size, 1, none⟩) (Nat.le_refl _) _).setCell (p := ⟨w.heap.size, 2, none⟩) (Nat.le_refl _) _).setCell (p := ⟨w.heap.size, 3, none⟩) (Nat.le_refl _) _).setCell (p := ⟨w.heap.size, 4, none⟩) (Nat.le_refl _) _
    have z5 : (((((w1.setCell ⟨w.heap.size, 0, none⟩ (.int .i64 s)).setCell ⟨w.heap.size, 1, none⟩ (.int .i64 (a : Int))).setCell ⟨w.heap.size, 2, none⟩ (.int .i64 (b : Int))).setCell ⟨w.heap.size, 3, none⟩ (.slice (some ⟨w1.heap.size, 0, none⟩) n n)).setCell ⟨w.heap.size, 4, none⟩ (.slice (some ⟨w1.heap.size + 1, 0, none⟩) n n)).heap.size = w1.heap.size := by simp
    clear K0 b0 e0 f0 hmk hmi
    generalize ((((w1.setCell ⟨w.heap.size, 0, none⟩ (.int .i64 s)).setCell ⟨w.heap.size, 1, none⟩ (.int .i64 (a : Int))).setCell ⟨w.heap.size, 2, none⟩ (.int .i64 (b : Int))).setCell ⟨w.heap.size, 3, none⟩ (.slice (some ⟨w1.heap.size, 0, none⟩) n n)).setCell ⟨w.heap.size, 4, none⟩ (.slice (some ⟨w1.heap.size + 1, 0, none⟩) n n) = w5 at K5 b5 z5 ⊢
    rw [← z5] at K5 g0 ⊢
    have oC := (Own.made (W := w5) (B := w.heap.size) (n := n) (by omega) (by omega) 2).below ((Below.refl _ _).alloc (Nat.le_refl _) (.cells (madeCells #[.int .i64 0, .int .i64 0] (n * 2)) 82))
    have oD := Own.made2 (W := w5.alloc (.cells (madeCells #[.int .i64 0] n) 2)) (B := w.heap.size) (n := n) (by simp; omega) (by omega) 82
    rw [show (w5.alloc (.cells (madeCells #[.int .i64 0] n) 2)).heap.size = w5.heap.size + 1 by simp] at oD
    have K6 := Blk.drew ((K5.alloc (.cells (madeCells #[.int .i64 0] n) 2)).alloc (.cells (madeCells #[.int .i64 0, .int .i64 0] (n * 2)) 82))
    have b6 : Below w.heap.size w ((w5.alloc (.cells (madeCells #[.int .i64 0] n) 2)).alloc (.cells (madeCells #[.int .i64 0, .int .i64 0] (n * 2)) 82)).drew := Below.drew ((b5.alloc (by omega) _).alloc (by simp; omega) _)
    have oC6 := oC.below (Below.drew (Below.refl _ _))
    have oD6 := oD.below (Below.drew (Below.refl _ _))
    generalize ((w5.alloc (.cells (madeCells #[.int .i64 0] n) 2)).alloc (.cells (madeCells #[.int .i64 0, .int .i64 0] (n * 2)) 82)).drew = w6 at K6 b6 oC6 oD6 ⊢
    clear oC oD K5 b5 z5
    have e6 := fun o => K6.cell o
    have g6 := K6.lt
    go_wp2
    refine bodyPost_ret (v := .agg #[.int .i64 s, .int .i64 (a : Int), .int .i64 (b : Int), .slice (some ⟨w5.heap.size, 0, none⟩) n n, .slice (some ⟨w5.heap.size + 1, 0, none⟩) n n]) (by simp [results, Try.results112, go_sem, e6, g6]) rfl ⟨⟨⟨some ⟨w5.heap.size, 0, none⟩, n, n⟩, ⟨some ⟨w5.heap.size + 1, 0, none⟩, n, n⟩⟩, rfl, HN.out.symm, HN.out.symm, ⟨by unfold newG; rw [HN.out]; exact oC6, by unfold newG; rw [HN.out]; exact oD6, ?_⟩, b6⟩
    refine Sep.cons (fun x hx y hy bb e e2 => ?_) (Sep.one _)
    rw [List.mem_singleton.1 hx] at e
    rw [List.mem_singleton.1 hy] at e2
    obtain ⟨_, a1, q1, q2⟩ := Hd.row_some e
    obtain ⟨_, a2, q3, q4⟩ := Hd.row_some e2
    cases q1
    cases q3
    simp only at q2 q4
    omega
  · have K5 : Blk (((((w1.setCell ⟨w.heap.size, 0, none⟩ (.int .i64 s)).setCell ⟨w.heap.size, 1, none⟩ (.int .i64 (a : Int))).setCell ⟨w.heap.size, 2, none⟩ (.int .i64 (b : Int))).setCell ⟨w.heap.size, 3, none⟩ (.slice (some ⟨w1.heap.size + 1, 0, none⟩) n n)).setCell ⟨w.heap.size, 4, none⟩ (.slice (some ⟨w1.heap.size, 0, none⟩) n n)) w.heap.size 50 #[.int .i64 s, .int .i64 (a : Int), .int .i64 (b : Int), .slice (some ⟨w1.heap.size + 1, 0, none⟩) n n, .slice (some ⟨w1.heap.size, 0, none⟩) n n] := ((((K0.set_ 0 _).set_ 1 _).set_ 2 _).set_ 3 _).set_ 4 _
    have b5 : Below w.heap.size w (((((w1.setCell ⟨w.heap.size, 0, none⟩ (.int .i64 s)).setCell ⟨w.heap.size, 1, none⟩ (.int .i64 (a : Int))).setCell ⟨w.heap.size, 2, none⟩ (.int .i64 (b : Int))).setCell ⟨w.heap.size, 3, none⟩ (.slice (some ⟨w1.heap.size + 1, 0, none⟩) n n)).setCell ⟨w.heap.size, 4, none⟩ (.slice (some ⟨w1.heap.size, 0, none⟩) n n)) := ((((b0.setCell (p := ⟨w.heap.size, 0, none⟩) (Nat.le_refl _) _).setCell (p := ⟨w.heap.size, 1, none⟩) (Nat.le_refl _) _).setCell (p := ⟨w.heap.size, 2, none⟩) (Nat.le_refl _) _).setCell (p := ⟨w.heap.size, 3, none⟩) (Nat.le_refl _) _).setCell (p := ⟨w.heap.size, 4, none⟩) (Nat.le_refl _) _
    have z5 : (((((w1.setCell ⟨w.heap.size, 0, none⟩ (.int .i64 s)).setCell ⟨w.heap.size, 1, none⟩ (.int .i64 (a : Int))).setCell ⟨w.heap.size, 2, none⟩ (.int .i64 (b : Int))).setCell ⟨w.heap.size, 3, none⟩ (.slice (some ⟨w1.heap.size + 1, 0, none⟩) n n)).setCell ⟨w.heap.size, 4, none⟩ (.slice (some ⟨w1.heap.size, 0, none⟩) n n)).heap.size = w1.heap.size := by simp
    clear K0 b0 e0 f0 hmk hmi
    generalize ((((w1.setCell ⟨w.heap.size, 0, none⟩ (.int .i64 s)).setCell ⟨w.heap.size, 1, none⟩ (.int .i64 (a : Int))).setCell ⟨w.heap.size, 2, none⟩ (.int .i64 (b : Int))).setCell ⟨w.heap.size, 3, none⟩ (.slice (some ⟨w1.heap.size + 1, 0, none⟩) n n)).setCell ⟨w.heap.size, 4, none⟩ (.slice (some ⟨w1.heap.size, 0, none⟩) n n) = w5 at K5 b5 z5 ⊢
    rw [← z5] at K5 g0 ⊢
    have oD := (Own.made2 (W := w5) (B := w.heap.size) (n := n) (by omega) (by omega) 82).below ((Below.refl _ _).alloc (Nat.le_refl _) (.cells (madeCells #[.int .i64 0] n) 2))
    have oC := Own.made (W := w5.alloc (.cells (madeCells #[.int .i64 0, .int .i64 0] (n * 2)) 82)) (B := w.heap.size) (n := n) (by simp; omega) (by omega) 2
    rw [show (w5.alloc (.cells (madeCells #[.int .i64 0, .int .i64 0] (n * 2)) 82)).heap.size = w5.heap.size + 1 by simp] at oC
    have K6 := Blk.drew ((K5.alloc (.cells (madeCells #[.int .i64 0, .int .i64 0] (n * 2)) 82)).alloc (.cells (madeCells #[.int .i64 0] n) 2))
    have b6 : Below w.heap.size w ((w5.alloc (.cells (madeCells #[.int .i64 0, .int .i64 0] (n * 2)) 82)).alloc (.cells (madeCells #[.int .i64 0] n) 2)).drew := Below.drew ((b5.alloc (by omega) _).alloc (by simp; omega) _)
    have oC6 := oC.below (Below.drew (Below.refl _ _))
    have oD6 := oD.below (Below.drew (Below.refl _ _))
    generalize ((w5.alloc (.cells (madeCells #[.int .i64 0, .int .i64 0] (n * 2)) 82)).alloc (.cells (madeCells #[.int .i64 0] n) 2)).drew = w6 at K6 b6 oC6 oD6 ⊢
    clear oC oD K5 b5 z5
    have e6 := fun o => K6.cell o
    have g6 := K6.lt
    go_wp2
    refine bodyPost_ret (v := .agg #[.int .i64 s, .int .i64 (a : Int), .int .i64 (b : Int), .slice (some ⟨w5.heap.size + 1, 0, none⟩) n n, .slice (some ⟨w5.heap.size, 0, none⟩) n n]) (by simp [results, Try.results112, go_sem, e6, g6]) rfl ⟨⟨⟨some ⟨w5.heap.size + 1, 0, none⟩, n, n⟩, ⟨some ⟨w5.heap.size, 0, none⟩, n, n⟩⟩, rfl, HN.out.symm, HN.out.symm, ⟨by unfold newG; rw [HN.out]; exact oC6, by unfold newG; rw [HN.out]; exact oD6, ?_⟩, b6⟩
    refine Sep.cons (fun x hx y hy bb e e2 => ?_) (Sep.one _)
    rw [List.mem_singleton.1 hx] at e
    rw [List.mem_singleton.1 hy] at e2
    obtain ⟨_, a1, q1, q2⟩ := Hd.row_some e
    obtain ⟨_, a2, q3, q4⟩ := Hd.row_some e2
    cases q1
    cases q3
    simp only at q2 q4
    omega
end Go.Proofs.Ythmcnoloeeabbaa
