/- The law FnExactPutLine, walked. No condition beyond what an argument of its type bears. -/
import Derived.Test.YthmcnoloeeabbaaOpenMosaic
import Derived.Test.YthmcnoloeeabbaaPutO
import Derived.Test.YthmcnoloeeabbaaReg
import Derived.Deep.RegionWith
import Derived.Deep.DeepCutAuto
namespace Go.Proofs.Ythmcnoloeeabbaa
open Go.RowKit

set_option maxRecDepth 100000 in
set_option maxHeartbeats 8000000 in
theorem lawPutLine_any (h0 : MosaicH) (l0 : MosaicC) (a1_0 a1_1 : Int) (a2_0 a2_1 : Int) (h3 : Hd) (l3 : List Int) (a4 : Int) (w : World) (mx0 : h0.values.n ≤ 9223372036854775807 ∧ h0.grades.n ≤ 9223372036854775807) (Ra00 : RdAll w (MosaicS h0 l0)) (mx3 : h3.n ≤ 9223372036854775807) (Ra30 : RdAll w (IntsS h3 l3)) :
    Calls Try.prog 5 #[MosaicV h0 l0, .agg #[.int .i64 a1_0, .int .i64 a1_1], .agg #[.int .i64 a2_0, .int .i64 a2_1], IntsV h3, .int .i64 a4] w fun e w' => e = .returned (.bool true) ∧ Below w.heap.size w w' := by
  have hw0 := Below.refl w.heap.size w
  have loa0 : Lo (MosaicR h0) w.heap.size := RdAll.lo Ra00
  have loa3 : Lo (IntsR h3) w.heap.size := RdAll.lo Ra30
  obtain ⟨A3, n3, c3⟩ := h3
  show Calls Try.prog 5 #[.agg #[.int .i64 l0.wide, .int .i64 l0.high, .slice h0.values.A h0.values.n h0.values.c, .slice h0.grades.A h0.grades.n h0.grades.c], .agg #[.int .i64 a1_0, .int .i64 a1_1], .agg #[.int .i64 a2_0, .int .i64 a2_1], .slice A3 n3 c3, .int .i64 a4] w _
  go_enter Try.func5, Try.ntmps5
  by_cases hn3 : (1048576 : Int) < (n3 : Int)
  · go_wp2_with fail
    go_ret
    exact ⟨rfl, (by (repeat (first | (with_reducible assumption) | (with_reducible exact Below.refl _ _) | (with_reducible refine Below.drew ?_) | (with_reducible refine Below.drewN ?_ _) | (with_reducible refine Below.setCell ?_ ?_ _) | (with_reducible refine Below.alloc ?_ ?_ _) | assumption)); all_goals (first | omega | (simp; done) | (simp; omega)))⟩
  have oka3 : IntsOk ⟨A3, n3, c3⟩ := by unfold IntsOk; simp only; omega
  go_wp2_with fail
  refine (szMosaic_any h0 l0 1048576 _ mx0 (by omega) (by omega) ).mono ?_
  rintro e w1 ⟨v0, rfl, hv0, b1⟩
  have hb1 : Below w.heap.size w w1 := (show Below w.heap.size w _ from (by (repeat (first | (with_reducible assumption) | (with_reducible exact Below.refl _ _) | (with_reducible refine Below.drew ?_) | (with_reducible refine Below.drewN ?_ _) | (with_reducible refine Below.setCell ?_ ?_ _) | (with_reducible refine Below.alloc ?_ ?_ _) | assumption)); all_goals (first | omega | (simp; done) | (simp; omega)))).trans (b1.mono (by first | omega | (simp; done) | (simp; omega)))
  have z1 : w.heap.size + 1 + 1 + 1 ≤ w1.heap.size := Nat.le_trans (by first | omega | (simp; done) | (simp; omega)) b1.size
  have Ka01 : Blk w1 (w.heap.size) 24 #[.int .i64 l0.wide, .int .i64 l0.high, .slice h0.values.A h0.values.n h0.values.c, .slice h0.grades.A h0.grades.n h0.grades.c] := Blk.below (by repeat (first | exact Blk.newN _ _ _ (by simp; done) | refine Blk.alloc ?_ _)) b1 (by first | omega | (simp; done) | (simp; omega))
  have Ka11 : Blk w1 (w.heap.size + 1) 36 #[.int .i64 a1_0, .int .i64 a1_1] := Blk.below (by repeat (first | exact Blk.newN _ _ _ (by simp; done) | refine Blk.alloc ?_ _)) b1 (by first | omega | (simp; done) | (simp; omega))
  have Ka21 : Blk w1 (w.heap.size + 1 + 1) 36 #[.int .i64 a2_0, .int .i64 a2_1] := Blk.below (by repeat (first | exact Blk.newN _ _ _ (by simp; done) | refine Blk.alloc ?_ _)) b1 (by first | omega | (simp; done) | (simp; omega))
  have Ra01 := Ra00.below hb1
  have Ra31 := Ra30.below hb1
  have hw1 : Below w.heap.size w w1 := hb1
  clear Ra00 Ra30 b1 hb1
  have ca01 := fun o => Ka01.cell o
  have qa01 := Ka01.lt
  have ca11 := fun o => Ka11.cell o
  have qa11 := Ka11.lt
  have ca21 := fun o => Ka21.cell o
  have qa21 := Ka21.lt
  rcases hv0 with hv0 | ⟨hv0, hu0, oka0⟩
  · go_wp2_with fail
    go_ret
    exact ⟨rfl, (by (repeat (first | (with_reducible assumption) | (with_reducible exact Below.refl _ _) | (with_reducible refine Below.drew ?_) | (with_reducible refine Below.drewN ?_ _) | (with_reducible refine Below.setCell ?_ ?_ _) | (with_reducible refine Below.alloc ?_ ?_ _) | assumption)); all_goals (first | omega | (simp; done) | (simp; omega)))⟩
  have nv0 : ¬ v0 < 0 := by omega
  go_upto_region 7 with fail
  go_cut [12, 13] (fun cb c1 wx => ∃ (gb : Nat) (kk : MosaicH), cb = .pointer (some ⟨gb, 0, none⟩) ∧ MosaicOk kk ∧ RdAll wx (MosaicS kk (plR l0 a1_0 a1_1 a2_0 a2_1 l3 a4)) ∧ WrAll wx w1.heap.size (MosaicS kk (plR l0 a1_0 a1_1 a2_0 a2_1 l3 a4)) ∧ Sep (MosaicR kk) ∧ Blk wx gb 26 #[.int .i64 (plR l0 a1_0 a1_1 a2_0 a2_1 l3 a4).wide, .int .i64 (plR l0 a1_0 a1_1 a2_0 a2_1 l3 a4).high, .slice kk.values.A kk.values.n kk.values.c, .slice kk.grades.A kk.grades.n kk.grades.c] ∧ w1.heap.size ≤ gb ∧ (∀ s ∈ MosaicR kk, s ≠ some gb) ∧ c1 = .int .i64 (plC l0 a1_0 a1_1 a2_0 a2_1 l3 a4) ∧ Below w1.heap.size w1 wx)
  case first =>
    have hs0 : ∀ o, w1.cell? ⟨w.heap.size, o, none⟩ = #[.int .i64 l0.wide, .int .i64 l0.high, .slice h0.values.A h0.values.n h0.values.c, .slice h0.grades.A h0.grades.n h0.grades.c][o]? := fun o => Ka01.cell o
    have hy0 : w.heap.size < w1.heap.size := Ka01.lt
    have hs1 : ∀ o, w1.cell? ⟨w.heap.size + 1, o, none⟩ = #[.int .i64 a1_0, .int .i64 a1_1][o]? := fun o => Ka11.cell o
    have hy1 : w.heap.size + 1 < w1.heap.size := Ka11.lt
    have hs2 : ∀ o, w1.cell? ⟨w.heap.size + 1 + 1, o, none⟩ = #[.int .i64 a2_0, .int .i64 a2_1][o]? := fun o => Ka21.cell o
    have hy2 : w.heap.size + 1 + 1 < w1.heap.size := Ka21.lt
    try clear ca01
    try clear qa01
    try clear ca11
    try clear qa11
    try clear ca21
    try clear qa21
    try clear hw1
    try clear z1
    try clear hq1
    try clear nq1
    try clear log0
    try clear log1
    try clear log2
    try clear log3
    try clear log4
    try clear log5
    try clear lox0
    try clear lox1
    try clear lox2
    try clear lox3
    try clear lox4
    try clear lox5
    try clear los0
    try clear los1
    try clear los2
    try clear los3
    try clear los4
    try clear los5
    try clear low0
    try clear low1
    try clear low2
    try clear low3
    try clear low4
    try clear low5
    try clear loy0
    try clear loy1
    try clear loy2
    try clear loy3
    try clear loy4
    try clear loy5
    try clear hig0
    try clear hig1
    try clear hig2
    try clear hig3
    try clear hig4
    try clear hig5
    try clear hix0
    try clear hix1
    try clear hix2
    try clear hix3
    try clear hix4
    try clear hix5
    try clear his0
    try clear his1
    try clear his2
    try clear his3
    try clear his4
    try clear his5
    try clear hiw0
    try clear hiw1
    try clear hiw2
    try clear hiw3
    try clear hiw4
    try clear hiw5
    try clear hiy0
    try clear hiy1
    try clear hiy2
    try clear hiy3
    try clear hiy4
    try clear hiy5
    try clear loG
    go_region_held3 (fun w' => (∀ o, w'.cell? ⟨w.heap.size, o, none⟩ = #[.int .i64 l0.wide, .int .i64 l0.high, .slice h0.values.A h0.values.n h0.values.c, .slice h0.grades.A h0.grades.n h0.grades.c][o]?) ∧ (∀ o, w'.cell? ⟨w.heap.size + 1, o, none⟩ = #[.int .i64 a1_0, .int .i64 a1_1][o]?) ∧ (∀ o, w'.cell? ⟨w.heap.size + 1 + 1, o, none⟩ = #[.int .i64 a2_0, .int .i64 a2_1][o]?))
      (((with_reducible refine ⟨?_, ?_, ?_⟩) <;> (first | (with_reducible assumption) | ((with_reducible refine cells_drew ?_); (with_reducible assumption)) | ((with_reducible refine cells_alloc ?_ ?_ _) <;> first | (with_reducible assumption) | omega | (simp; done) | (simp; omega)) | ((with_reducible refine cells_drew ?_); (with_reducible refine cells_alloc ?_ ?_ _) <;> first | (with_reducible assumption) | omega | (simp; done) | (simp; omega)) | ((with_reducible refine cells_set ?_ ?_) <;> first | omega | ((repeat (with_reducible refine cells_set ?_ (by omega))); (with_reducible assumption))))))
      (first
        | (go_at_call_of 13 (Value.agg #[.int .i64 l0.wide, .int .i64 l0.high, .slice h0.values.A h0.values.n h0.values.c, .slice h0.grades.A h0.grades.n h0.grades.c]); refine (toMosaic_any h0 l0 _ oka0 (Ra01.below (by (repeat (first | (with_reducible assumption) | (with_reducible exact Below.refl _ _) | (with_reducible refine Below.drew ?_) | (with_reducible refine Below.drewN ?_ _) | (with_reducible refine Below.setCell ?_ ?_ _) | (with_reducible refine Below.alloc ?_ ?_ _) | assumption)); all_goals (first | omega | (simp; done) | (simp; omega))))).mono ?_; rintro e u0 ⟨ks0, hes0, oks0, Rs0, Ws0, ss0, bs0⟩; unfold MosaicV at hes0; subst hes0; have hbu0 : Below w1.heap.size w1 u0 := (show Below w1.heap.size w1 _ from (by (repeat (first | (with_reducible assumption) | (with_reducible exact Below.refl _ _) | (with_reducible refine Below.drew ?_) | (with_reducible refine Below.drewN ?_ _) | (with_reducible refine Below.setCell ?_ ?_ _) | (with_reducible refine Below.alloc ?_ ?_ _) | assumption)); all_goals (first | omega | (simp; done) | (simp; omega)))).trans (bs0.mono (by first | omega | (simp; done) | (simp; omega))); have hzu0 := hbu0.size; have hxu0 := bs0.size; (try simp at hxu0); obtain ⟨hcu0, hfu0⟩ := bcell bs0; (try have hlw1u0 : w1.heap.size < u0.heap.size := by omega); have hs0u0 : ∀ o, u0.cell? ⟨w.heap.size, o, none⟩ = #[.int .i64 l0.wide, .int .i64 l0.high, .slice h0.values.A h0.values.n h0.values.c, .slice h0.grades.A h0.grades.n h0.grades.c][o]? := fun o => (Ka01.below hbu0 Ka01.lt).cell o; have hy0u0 : w.heap.size < u0.heap.size := (Ka01.below hbu0 Ka01.lt).lt; have hs1u0 : ∀ o, u0.cell? ⟨w.heap.size + 1, o, none⟩ = #[.int .i64 a1_0, .int .i64 a1_1][o]? := fun o => (Ka11.below hbu0 Ka11.lt).cell o; have hy1u0 : w.heap.size + 1 < u0.heap.size := (Ka11.below hbu0 Ka11.lt).lt; have hs2u0 : ∀ o, u0.cell? ⟨w.heap.size + 1 + 1, o, none⟩ = #[.int .i64 a2_0, .int .i64 a2_1][o]? := fun o => (Ka21.below hbu0 Ka21.lt).cell o; have hy2u0 : w.heap.size + 1 + 1 < u0.heap.size := (Ka21.below hbu0 Ka21.lt).lt)
        | (go_at_call_of 21 (Value.agg #[.int .i64 a1_0, .int .i64 a1_1]); refine (toPoint_bel a1_0 a1_1 _).mono ?_; rintro e u1 ⟨rfl, bs1⟩; have hbu1 : Below w1.heap.size w1 u1 := (show Below w1.heap.size w1 _ from (by (repeat (first | (with_reducible assumption) | (with_reducible exact Below.refl _ _) | (with_reducible refine Below.drew ?_) | (with_reducible refine Below.drewN ?_ _) | (with_reducible refine Below.setCell ?_ ?_ _) | (with_reducible refine Below.alloc ?_ ?_ _) | assumption)); all_goals (first | omega | (simp; done) | (simp; omega)))).trans (bs1.mono (by first | omega | (simp; done) | (simp; omega))); have hzu1 := hbu1.size; have hxu1 := bs1.size; (try simp at hxu1); obtain ⟨hcu1, hfu1⟩ := bcell bs1; have hbu0u1 : Below u0.heap.size u0 u1 := (show Below u0.heap.size u0 _ from (by (repeat (first | (with_reducible assumption) | (with_reducible exact Below.refl _ _) | (with_reducible refine Below.drew ?_) | (with_reducible refine Below.drewN ?_ _) | (with_reducible refine Below.setCell ?_ ?_ _) | (with_reducible refine Below.alloc ?_ ?_ _) | assumption)); all_goals (first | omega | (simp; done) | (simp; omega)))).trans (bs1.mono (by first | omega | (simp; done) | (simp; omega))); (try have hlw1u1 : w1.heap.size < u1.heap.size := by omega); (try have hlu0u1 : u0.heap.size < u1.heap.size := by omega); have hs0u1 : ∀ o, u1.cell? ⟨w.heap.size, o, none⟩ = #[.int .i64 l0.wide, .int .i64 l0.high, .slice h0.values.A h0.values.n h0.values.c, .slice h0.grades.A h0.grades.n h0.grades.c][o]? := fun o => (Ka01.below hbu1 Ka01.lt).cell o; have hy0u1 : w.heap.size < u1.heap.size := (Ka01.below hbu1 Ka01.lt).lt; have hs1u1 : ∀ o, u1.cell? ⟨w.heap.size + 1, o, none⟩ = #[.int .i64 a1_0, .int .i64 a1_1][o]? := fun o => (Ka11.below hbu1 Ka11.lt).cell o; have hy1u1 : w.heap.size + 1 < u1.heap.size := (Ka11.below hbu1 Ka11.lt).lt; have hs2u1 : ∀ o, u1.cell? ⟨w.heap.size + 1 + 1, o, none⟩ = #[.int .i64 a2_0, .int .i64 a2_1][o]? := fun o => (Ka21.below hbu1 Ka21.lt).cell o; have hy2u1 : w.heap.size + 1 + 1 < u1.heap.size := (Ka21.below hbu1 Ka21.lt).lt)
        | (go_at_call_of 21 (Value.agg #[.int .i64 a2_0, .int .i64 a2_1]); refine (toPoint_bel a2_0 a2_1 _).mono ?_; rintro e u2 ⟨rfl, bs2⟩; have hbu2 : Below w1.heap.size w1 u2 := (show Below w1.heap.size w1 _ from (by (repeat (first | (with_reducible assumption) | (with_reducible exact Below.refl _ _) | (with_reducible refine Below.drew ?_) | (with_reducible refine Below.drewN ?_ _) | (with_reducible refine Below.setCell ?_ ?_ _) | (with_reducible refine Below.alloc ?_ ?_ _) | assumption)); all_goals (first | omega | (simp; done) | (simp; omega)))).trans (bs2.mono (by first | omega | (simp; done) | (simp; omega))); have hzu2 := hbu2.size; have hxu2 := bs2.size; (try simp at hxu2); obtain ⟨hcu2, hfu2⟩ := bcell bs2; have hbu0u2 : Below u0.heap.size u0 u2 := (show Below u0.heap.size u0 _ from (by (repeat (first | (with_reducible assumption) | (with_reducible exact Below.refl _ _) | (with_reducible refine Below.drew ?_) | (with_reducible refine Below.drewN ?_ _) | (with_reducible refine Below.setCell ?_ ?_ _) | (with_reducible refine Below.alloc ?_ ?_ _) | assumption)); all_goals (first | omega | (simp; done) | (simp; omega)))).trans (bs2.mono (by first | omega | (simp; done) | (simp; omega))); have hbu1u2 : Below u1.heap.size u1 u2 := (show Below u1.heap.size u1 _ from (by (repeat (first | (with_reducible assumption) | (with_reducible exact Below.refl _ _) | (with_reducible refine Below.drew ?_) | (with_reducible refine Below.drewN ?_ _) | (with_reducible refine Below.setCell ?_ ?_ _) | (with_reducible refine Below.alloc ?_ ?_ _) | assumption)); all_goals (first | omega | (simp; done) | (simp; omega)))).trans (bs2.mono (by first | omega | (simp; done) | (simp; omega))); (try have hlw1u2 : w1.heap.size < u2.heap.size := by omega); (try have hlu0u2 : u0.heap.size < u2.heap.size := by omega); (try have hlu1u2 : u1.heap.size < u2.heap.size := by omega); have hs0u2 : ∀ o, u2.cell? ⟨w.heap.size, o, none⟩ = #[.int .i64 l0.wide, .int .i64 l0.high, .slice h0.values.A h0.values.n h0.values.c, .slice h0.grades.A h0.grades.n h0.grades.c][o]? := fun o => (Ka01.below hbu2 Ka01.lt).cell o; have hy0u2 : w.heap.size < u2.heap.size := (Ka01.below hbu2 Ka01.lt).lt; have hs1u2 : ∀ o, u2.cell? ⟨w.heap.size + 1, o, none⟩ = #[.int .i64 a1_0, .int .i64 a1_1][o]? := fun o => (Ka11.below hbu2 Ka11.lt).cell o; have hy1u2 : w.heap.size + 1 < u2.heap.size := (Ka11.below hbu2 Ka11.lt).lt; have hs2u2 : ∀ o, u2.cell? ⟨w.heap.size + 1 + 1, o, none⟩ = #[.int .i64 a2_0, .int .i64 a2_1][o]? := fun o => (Ka21.below hbu2 Ka21.lt).cell o; have hy2u2 : w.heap.size + 1 + 1 < u2.heap.size := (Ka21.below hbu2 Ka21.lt).lt)
        | (go_at_call_of 22 (Value.slice A3 n3 c3); refine (toInts_any ⟨A3, n3, c3⟩ l3 _ oka3 (Ra31.below (by (repeat (first | (with_reducible assumption) | (with_reducible exact Below.refl _ _) | (with_reducible refine Below.drew ?_) | (with_reducible refine Below.drewN ?_ _) | (with_reducible refine Below.setCell ?_ ?_ _) | (with_reducible refine Below.alloc ?_ ?_ _) | assumption)); all_goals (first | omega | (simp; done) | (simp; omega))))).mono ?_; rintro e u3 ⟨ks3, hes3, oks3, Rs3, Ws3, ss3, bs3⟩; unfold IntsV at hes3; subst hes3; have hbu3 : Below w1.heap.size w1 u3 := (show Below w1.heap.size w1 _ from (by (repeat (first | (with_reducible assumption) | (with_reducible exact Below.refl _ _) | (with_reducible refine Below.drew ?_) | (with_reducible refine Below.drewN ?_ _) | (with_reducible refine Below.setCell ?_ ?_ _) | (with_reducible refine Below.alloc ?_ ?_ _) | assumption)); all_goals (first | omega | (simp; done) | (simp; omega)))).trans (bs3.mono (by first | omega | (simp; done) | (simp; omega))); have hzu3 := hbu3.size; have hxu3 := bs3.size; (try simp at hxu3); obtain ⟨hcu3, hfu3⟩ := bcell bs3; have hbu0u3 : Below u0.heap.size u0 u3 := (show Below u0.heap.size u0 _ from (by (repeat (first | (with_reducible assumption) | (with_reducible exact Below.refl _ _) | (with_reducible refine Below.drew ?_) | (with_reducible refine Below.drewN ?_ _) | (with_reducible refine Below.setCell ?_ ?_ _) | (with_reducible refine Below.alloc ?_ ?_ _) | assumption)); all_goals (first | omega | (simp; done) | (simp; omega)))).trans (bs3.mono (by first | omega | (simp; done) | (simp; omega))); have hbu1u3 : Below u1.heap.size u1 u3 := (show Below u1.heap.size u1 _ from (by (repeat (first | (with_reducible assumption) | (with_reducible exact Below.refl _ _) | (with_reducible refine Below.drew ?_) | (with_reducible refine Below.drewN ?_ _) | (with_reducible refine Below.setCell ?_ ?_ _) | (with_reducible refine Below.alloc ?_ ?_ _) | assumption)); all_goals (first | omega | (simp; done) | (simp; omega)))).trans (bs3.mono (by first | omega | (simp; done) | (simp; omega))); have hbu2u3 : Below u2.heap.size u2 u3 := (show Below u2.heap.size u2 _ from (by (repeat (first | (with_reducible assumption) | (with_reducible exact Below.refl _ _) | (with_reducible refine Below.drew ?_) | (with_reducible refine Below.drewN ?_ _) | (with_reducible refine Below.setCell ?_ ?_ _) | (with_reducible refine Below.alloc ?_ ?_ _) | assumption)); all_goals (first | omega | (simp; done) | (simp; omega)))).trans (bs3.mono (by first | omega | (simp; done) | (simp; omega))); (try have hlw1u3 : w1.heap.size < u3.heap.size := by omega); (try have hlu0u3 : u0.heap.size < u3.heap.size := by omega); (try have hlu1u3 : u1.heap.size < u3.heap.size := by omega); (try have hlu2u3 : u2.heap.size < u3.heap.size := by omega); have hs0u3 : ∀ o, u3.cell? ⟨w.heap.size, o, none⟩ = #[.int .i64 l0.wide, .int .i64 l0.high, .slice h0.values.A h0.values.n h0.values.c, .slice h0.grades.A h0.grades.n h0.grades.c][o]? := fun o => (Ka01.below hbu3 Ka01.lt).cell o; have hy0u3 : w.heap.size < u3.heap.size := (Ka01.below hbu3 Ka01.lt).lt; have hs1u3 : ∀ o, u3.cell? ⟨w.heap.size + 1, o, none⟩ = #[.int .i64 a1_0, .int .i64 a1_1][o]? := fun o => (Ka11.below hbu3 Ka11.lt).cell o; have hy1u3 : w.heap.size + 1 < u3.heap.size := (Ka11.below hbu3 Ka11.lt).lt; have hs2u3 : ∀ o, u3.cell? ⟨w.heap.size + 1 + 1, o, none⟩ = #[.int .i64 a2_0, .int .i64 a2_1][o]? := fun o => (Ka21.below hbu3 Ka21.lt).cell o; have hy2u3 : w.heap.size + 1 + 1 < u3.heap.size := (Ka21.below hbu3 Ka21.lt).lt)
        | (go_at_call 20; refine (specPutLine'_any ks0 l0 a1_0 a1_1 a2_0 a2_1 ks3 l3 a4 _ oks0 (by first | exact Rs0 | exact Rs0.below (by (repeat (first | (with_reducible assumption) | (with_reducible exact Below.refl _ _) | (with_reducible refine Below.drew ?_) | (with_reducible refine Below.drewN ?_ _) | (with_reducible refine Below.setCell ?_ ?_ _) | (with_reducible refine Below.alloc ?_ ?_ _) | assumption)); all_goals (first | omega | (simp; done) | (simp; omega)))) oks3 (by first | exact Rs3 | exact Rs3.below (by (repeat (first | (with_reducible assumption) | (with_reducible exact Below.refl _ _) | (with_reducible refine Below.drew ?_) | (with_reducible refine Below.drewN ?_ _) | (with_reducible refine Below.setCell ?_ ?_ _) | (with_reducible refine Below.alloc ?_ ?_ _) | assumption)); all_goals (first | omega | (simp; done) | (simp; omega))))).mono ?_; rintro e uw ⟨kw, hew, okw, Rw, Ww, sw, bw⟩; unfold MosaicV at hew; subst hew; have hiw := WrAll.hi Ww; have low := RdAll.lo Rw; have Wwl := Ww.lower (show w1.heap.size ≤ _ from (by first | omega | (simp; done) | (simp; omega))); have hbuw : Below w1.heap.size w1 uw := (show Below w1.heap.size w1 _ from (by (repeat (first | (with_reducible assumption) | (with_reducible exact Below.refl _ _) | (with_reducible refine Below.drew ?_) | (with_reducible refine Below.drewN ?_ _) | (with_reducible refine Below.setCell ?_ ?_ _) | (with_reducible refine Below.alloc ?_ ?_ _) | assumption)); all_goals (first | omega | (simp; done) | (simp; omega)))).trans (bw.mono (by first | omega | (simp; done) | (simp; omega))); have hzuw := hbuw.size; have hxuw := bw.size; (try simp at hxuw); obtain ⟨hcuw, hfuw⟩ := bcell bw; have hbu0uw : Below u0.heap.size u0 uw := (show Below u0.heap.size u0 _ from (by (repeat (first | (with_reducible assumption) | (with_reducible exact Below.refl _ _) | (with_reducible refine Below.drew ?_) | (with_reducible refine Below.drewN ?_ _) | (with_reducible refine Below.setCell ?_ ?_ _) | (with_reducible refine Below.alloc ?_ ?_ _) | assumption)); all_goals (first | omega | (simp; done) | (simp; omega)))).trans (bw.mono (by first | omega | (simp; done) | (simp; omega))); have hbu1uw : Below u1.heap.size u1 uw := (show Below u1.heap.size u1 _ from (by (repeat (first | (with_reducible assumption) | (with_reducible exact Below.refl _ _) | (with_reducible refine Below.drew ?_) | (with_reducible refine Below.drewN ?_ _) | (with_reducible refine Below.setCell ?_ ?_ _) | (with_reducible refine Below.alloc ?_ ?_ _) | assumption)); all_goals (first | omega | (simp; done) | (simp; omega)))).trans (bw.mono (by first | omega | (simp; done) | (simp; omega))); have hbu2uw : Below u2.heap.size u2 uw := (show Below u2.heap.size u2 _ from (by (repeat (first | (with_reducible assumption) | (with_reducible exact Below.refl _ _) | (with_reducible refine Below.drew ?_) | (with_reducible refine Below.drewN ?_ _) | (with_reducible refine Below.setCell ?_ ?_ _) | (with_reducible refine Below.alloc ?_ ?_ _) | assumption)); all_goals (first | omega | (simp; done) | (simp; omega)))).trans (bw.mono (by first | omega | (simp; done) | (simp; omega))); have hbu3uw : Below u3.heap.size u3 uw := (show Below u3.heap.size u3 _ from (by (repeat (first | (with_reducible assumption) | (with_reducible exact Below.refl _ _) | (with_reducible refine Below.drew ?_) | (with_reducible refine Below.drewN ?_ _) | (with_reducible refine Below.setCell ?_ ?_ _) | (with_reducible refine Below.alloc ?_ ?_ _) | assumption)); all_goals (first | omega | (simp; done) | (simp; omega)))).trans (bw.mono (by first | omega | (simp; done) | (simp; omega))); (try have hlw1uw : w1.heap.size < uw.heap.size := by omega); (try have hlu0uw : u0.heap.size < uw.heap.size := by omega); (try have hlu1uw : u1.heap.size < uw.heap.size := by omega); (try have hlu2uw : u2.heap.size < uw.heap.size := by omega); (try have hlu3uw : u3.heap.size < uw.heap.size := by omega); have hs0uw : ∀ o, uw.cell? ⟨w.heap.size, o, none⟩ = #[.int .i64 l0.wide, .int .i64 l0.high, .slice h0.values.A h0.values.n h0.values.c, .slice h0.grades.A h0.grades.n h0.grades.c][o]? := fun o => (Ka01.below hbuw Ka01.lt).cell o; have hy0uw : w.heap.size < uw.heap.size := (Ka01.below hbuw Ka01.lt).lt; have hs1uw : ∀ o, uw.cell? ⟨w.heap.size + 1, o, none⟩ = #[.int .i64 a1_0, .int .i64 a1_1][o]? := fun o => (Ka11.below hbuw Ka11.lt).cell o; have hy1uw : w.heap.size + 1 < uw.heap.size := (Ka11.below hbuw Ka11.lt).lt; have hs2uw : ∀ o, uw.cell? ⟨w.heap.size + 1 + 1, o, none⟩ = #[.int .i64 a2_0, .int .i64 a2_1][o]? := fun o => (Ka21.below hbuw Ka21.lt).cell o; have hy2uw : w.heap.size + 1 + 1 < uw.heap.size := (Ka21.below hbuw Ka21.lt).lt))
    all_goals
      go_wp2_with fail
      go_meet
      refine ⟨_, kw, rfl, okw, ?_, ?_, sw, ?_, ?_, ?_, rfl, ?_⟩
      · repeat (first | (with_reducible exact Rw) | (with_reducible refine RdAll.drew_ ?_) | (with_reducible refine RdAll.alloc_ ?_ _) | ((with_reducible refine RdAll.cell_ ?_ ?_); rotate_left 1; (first | (refine low.ne ?_; (first | omega | (simp <;> omega))) | (refine hiw.ne ?_; (first | omega | (simp <;> omega))))))
      · repeat (first | (with_reducible exact Wwl) | (with_reducible refine WrAll.drew_ ?_) | (with_reducible refine WrAll.alloc_ ?_ Rw _) | (with_reducible refine WrAll.cell_ ?_))
      · repeat (first | (with_reducible refine Blk.drew ?_) | ((with_reducible refine Blk.newN _ _ _ ?_); (first | rfl | simp)) | (with_reducible refine Blk.set_all4 (a := .int .i64 0) (b := .int .i64 0) (c := .slice none 0 0) (d := .slice none 0 0) ?_) | ((with_reducible refine Blk.below ?_ bw ?_); rotate_left 1; (first | omega | (simp <;> omega))) | ((with_reducible refine Blk.below ?_ bs3 ?_); rotate_left 1; (first | omega | (simp <;> omega))) | ((with_reducible refine Blk.below ?_ bs2 ?_); rotate_left 1; (first | omega | (simp <;> omega))) | ((with_reducible refine Blk.below ?_ bs1 ?_); rotate_left 1; (first | omega | (simp <;> omega))) | ((with_reducible refine Blk.below ?_ bs0 ?_); rotate_left 1; (first | omega | (simp <;> omega))))
      · show w1.heap.size ≤ _
        exact (by first | omega | (simp; done) | (simp; omega))
      · (first | (refine low.ne ?_; (first | omega | (simp <;> omega))) | (refine hiw.ne ?_; (first | omega | (simp <;> omega))))
      · exact (by (repeat (first | (with_reducible assumption) | (with_reducible exact Below.refl _ _) | (with_reducible refine Below.drew ?_) | (with_reducible refine Below.drewN ?_ _) | (with_reducible refine Below.setCell ?_ ?_ _) | (with_reducible refine Below.alloc ?_ ?_ _) | assumption)); all_goals (first | omega | (simp; done) | (simp; omega)))
  case rest =>
    obtain ⟨gw0, kw0, rfl, okw0, Rw02, Ww02, sw0, Kw02, ggew0, nbgw0, rfl, b2⟩ := hcut
    obtain ⟨w2, rfl⟩ : ∃ x : World, x = wc := ⟨_, rfl⟩
    have hb2 : Below w1.heap.size w1 w2 := (show Below w1.heap.size w1 _ from (by (repeat (first | (with_reducible assumption) | (with_reducible exact Below.refl _ _) | (with_reducible refine Below.drew ?_) | (with_reducible refine Below.drewN ?_ _) | (with_reducible refine Below.setCell ?_ ?_ _) | (with_reducible refine Below.alloc ?_ ?_ _) | assumption)); all_goals (first | omega | (simp; done) | (simp; omega)))).trans (b2.mono (by first | omega | (simp; done) | (simp; omega)))
    have z2 : w1.heap.size ≤ w2.heap.size := Nat.le_trans (by first | omega | (simp; done) | (simp; omega)) b2.size
    have Ka02 := Ka01.below hb2 Ka01.lt
    have Ka12 := Ka11.below hb2 Ka11.lt
    have Ka22 := Ka21.below hb2 Ka21.lt
    have Ra02 := Ra01.below hb2
    have Ra32 := Ra31.below hb2
    have hw2 : Below w.heap.size w w2 := hw1.trans (hb2.mono hw1.size)
    clear ca01 qa01 Ka01 ca11 qa11 Ka11 ca21 qa21 Ka21 Ra01 Ra31 b2 hb2 hw1
    have ca02 := fun o => Ka02.cell o
    have qa02 := Ka02.lt
    have ca12 := fun o => Ka12.cell o
    have qa12 := Ka12.lt
    have ca22 := fun o => Ka22.cell o
    have qa22 := Ka22.lt
    have low0 : Lo (MosaicR kw0) w2.heap.size := RdAll.lo Rw02
    have hiw0 : Hi (MosaicR kw0) _ := WrAll.hi Ww02
    have cw02 := fun o => Kw02.cell o
    have qw02 := Kw02.lt
    have zgw0 : gw0 < w2.heap.size := Kw02.lt
    go_wp2_with fail
    refine (toMosaic_any h0 l0 _ oka0 (Ra02.below (by (repeat (first | (with_reducible assumption) | (with_reducible exact Below.refl _ _) | (with_reducible refine Below.drew ?_) | (with_reducible refine Below.drewN ?_ _) | (with_reducible refine Below.setCell ?_ ?_ _) | (with_reducible refine Below.alloc ?_ ?_ _) | assumption)); all_goals (first | omega | (simp; done) | (simp; omega))))).mono ?_
    rintro e w3 ⟨kx0, he3, okx0, Rx03, Wx03', sx0, b3⟩
    unfold MosaicV at he3
    subst he3
    have Wx03 := Wx03'.lower (show w2.heap.size ≤ _ from (by first | omega | (simp; done) | (simp; omega)))
    clear Wx03'
    have hb3 : Below w2.heap.size w2 w3 := (show Below w2.heap.size w2 _ from (by (repeat (first | (with_reducible assumption) | (with_reducible exact Below.refl _ _) | (with_reducible refine Below.drew ?_) | (with_reducible refine Below.drewN ?_ _) | (with_reducible refine Below.setCell ?_ ?_ _) | (with_reducible refine Below.alloc ?_ ?_ _) | assumption)); all_goals (first | omega | (simp; done) | (simp; omega)))).trans (b3.mono (by first | omega | (simp; done) | (simp; omega)))
    have z3 : w2.heap.size ≤ w3.heap.size := Nat.le_trans (by first | omega | (simp; done) | (simp; omega)) b3.size
    have Ka03 := Ka02.below hb3 Ka02.lt
    have Ka13 := Ka12.below hb3 Ka12.lt
    have Ka23 := Ka22.below hb3 Ka22.lt
    have Kw03 := Kw02.below hb3 Kw02.lt
    have Ra03 := Ra02.below hb3
    have Ra33 := Ra32.below hb3
    have Rw03 := Rw02.below hb3
    have Ww03 := Ww02.below Rw02 hb3
    have hw3 : Below w.heap.size w w3 := hw2.trans (hb3.mono hw2.size)
    clear Ww02 ca02 qa02 Ka02 ca12 qa12 Ka12 ca22 qa22 Ka22 cw02 qw02 Kw02 Ra02 Ra32 Rw02 b3 hb3 hw2
    have ca03 := fun o => Ka03.cell o
    have qa03 := Ka03.lt
    have ca13 := fun o => Ka13.cell o
    have qa13 := Ka13.lt
    have ca23 := fun o => Ka23.cell o
    have qa23 := Ka23.lt
    have cw03 := fun o => Kw03.cell o
    have qw03 := Kw03.lt
    have lox0 : Lo (MosaicR kx0) w3.heap.size := RdAll.lo Rx03
    have hix0 : Hi (MosaicR kx0) _ := WrAll.hi Wx03
    go_wp2_with fail
    refine (toInts_any ⟨A3, n3, c3⟩ l3 _ oka3 (Ra33.below (by (repeat (first | (with_reducible assumption) | (with_reducible exact Below.refl _ _) | (with_reducible refine Below.drew ?_) | (with_reducible refine Below.drewN ?_ _) | (with_reducible refine Below.setCell ?_ ?_ _) | (with_reducible refine Below.alloc ?_ ?_ _) | assumption)); all_goals (first | omega | (simp; done) | (simp; omega))))).mono ?_
    rintro e w4 ⟨kx3, he4, okx3, Rx34, Wx34', sx3, b4⟩
    unfold IntsV at he4
    subst he4
    have Wx34 := Wx34'.lower (show w3.heap.size + 1 ≤ _ from (by first | omega | (simp; done) | (simp; omega)))
    clear Wx34'
    have hb4 : Below w3.heap.size w3 w4 := (show Below w3.heap.size w3 _ from (by (repeat (first | (with_reducible assumption) | (with_reducible exact Below.refl _ _) | (with_reducible refine Below.drew ?_) | (with_reducible refine Below.drewN ?_ _) | (with_reducible refine Below.setCell ?_ ?_ _) | (with_reducible refine Below.alloc ?_ ?_ _) | assumption)); all_goals (first | omega | (simp; done) | (simp; omega)))).trans (b4.mono (by first | omega | (simp; done) | (simp; omega)))
    have z4 : w3.heap.size + 1 ≤ w4.heap.size := Nat.le_trans (by first | omega | (simp; done) | (simp; omega)) b4.size
    have Ka04 := Ka03.below hb4 Ka03.lt
    have Ka14 := Ka13.below hb4 Ka13.lt
    have Ka24 := Ka23.below hb4 Ka23.lt
    have Kw04 := Kw03.below hb4 Kw03.lt
    have Kx04 : Blk w4 (w3.heap.size) 26 #[.int .i64 l0.wide, .int .i64 l0.high, .slice kx0.values.A kx0.values.n kx0.values.c, .slice kx0.grades.A kx0.grades.n kx0.grades.c] := Blk.below (by repeat (first | exact Blk.newN _ _ _ (by simp; done) | refine Blk.alloc ?_ _)) b4 (by first | omega | (simp; done) | (simp; omega))
    have Ra04 := Ra03.below hb4
    have Ra34 := Ra33.below hb4
    have Rw04 := Rw03.below hb4
    have Ww04 := Ww03.below Rw03 hb4
    have Rx04 := Rx03.below hb4
    have Wx04 := Wx03.below Rx03 hb4
    have hw4 : Below w.heap.size w w4 := hw3.trans (hb4.mono hw3.size)
    clear Wx03 Ww03 ca03 qa03 Ka03 ca13 qa13 Ka13 ca23 qa23 Ka23 cw03 qw03 Kw03 Ra03 Ra33 Rw03 Rx03 b4 hb4 hw3
    have ca04 := fun o => Ka04.cell o
    have qa04 := Ka04.lt
    have ca14 := fun o => Ka14.cell o
    have qa14 := Ka14.lt
    have ca24 := fun o => Ka24.cell o
    have qa24 := Ka24.lt
    have cw04 := fun o => Kw04.cell o
    have qw04 := Kw04.lt
    have cx04 := fun o => Kx04.cell o
    have qx04 := Kx04.lt
    have lox3 : Lo (IntsR kx3) w4.heap.size := RdAll.lo Rx34
    have hix3 : Hi (IntsR kx3) _ := WrAll.hi Wx34
    go_upto_region 10 with fail
    go_cut [16, 17] (fun cb c1 wx => ∃ (gb : Nat) (kk : MosaicH), cb = .pointer (some ⟨gb, 0, none⟩) ∧ MosaicOk kk ∧ RdAll wx (MosaicS kk (plR l0 a1_0 a1_1 a2_0 a2_1 l3 a4)) ∧ WrAll wx w4.heap.size (MosaicS kk (plR l0 a1_0 a1_1 a2_0 a2_1 l3 a4)) ∧ Sep (MosaicR kk) ∧ Blk wx gb 26 #[.int .i64 (plR l0 a1_0 a1_1 a2_0 a2_1 l3 a4).wide, .int .i64 (plR l0 a1_0 a1_1 a2_0 a2_1 l3 a4).high, .slice kk.values.A kk.values.n kk.values.c, .slice kk.grades.A kk.grades.n kk.grades.c] ∧ w4.heap.size ≤ gb ∧ (∀ s ∈ MosaicR kk, s ≠ some gb) ∧ c1 = .int .i64 (plC l0 a1_0 a1_1 a2_0 a2_1 l3 a4) ∧ Below w4.heap.size w4 wx)
    case first =>
      have hs0 : ∀ o, w4.cell? ⟨w3.heap.size, o, none⟩ = #[.int .i64 l0.wide, .int .i64 l0.high, .slice kx0.values.A kx0.values.n kx0.values.c, .slice kx0.grades.A kx0.grades.n kx0.grades.c][o]? := fun o => Kx04.cell o
      have hy0 : w3.heap.size < w4.heap.size := Kx04.lt
      have hs1 : ∀ o, w4.cell? ⟨w.heap.size + 1, o, none⟩ = #[.int .i64 a1_0, .int .i64 a1_1][o]? := fun o => Ka14.cell o
      have hy1 : w.heap.size + 1 < w4.heap.size := Ka14.lt
      have hs2 : ∀ o, w4.cell? ⟨w.heap.size + 1 + 1, o, none⟩ = #[.int .i64 a2_0, .int .i64 a2_1][o]? := fun o => Ka24.cell o
      have hy2 : w.heap.size + 1 + 1 < w4.heap.size := Ka24.lt
      try clear ca04
      try clear qa04
      try clear Ka04
      try clear ca14
      try clear qa14
      try clear ca24
      try clear qa24
      try clear cw04
      try clear qw04
      try clear Kw04
      try clear cx04
      try clear qx04
      try clear Ww04
      try clear Rw04
      try clear low0
      try clear hiw0
      try clear sw0
      try clear hw4
      try clear z1
      try clear z2
      try clear z3
      try clear z4
      try clear hq1
      try clear hq2
      try clear hq3
      try clear hq4
      try clear nq1
      try clear nq2
      try clear nq3
      try clear nq4
      try clear log0
      try clear log1
      try clear log2
      try clear log3
      try clear log4
      try clear log5
      try clear lox0
      try clear lox1
      try clear lox2
      try clear lox3
      try clear lox4
      try clear lox5
      try clear los0
      try clear los1
      try clear los2
      try clear los3
      try clear los4
      try clear los5
      try clear low1
      try clear low2
      try clear low3
      try clear low4
      try clear low5
      try clear loy0
      try clear loy1
      try clear loy2
      try clear loy3
      try clear loy4
      try clear loy5
      try clear hig0
      try clear hig1
      try clear hig2
      try clear hig3
      try clear hig4
      try clear hig5
      try clear hix0
      try clear hix1
      try clear hix2
      try clear hix3
      try clear hix4
      try clear hix5
      try clear his0
      try clear his1
      try clear his2
      try clear his3
      try clear his4
      try clear his5
      try clear hiw1
      try clear hiw2
      try clear hiw3
      try clear hiw4
      try clear hiw5
      try clear hiy0
      try clear hiy1
      try clear hiy2
      try clear hiy3
      try clear hiy4
      try clear hiy5
      try clear loG
      go_region_held3 (fun w' => (∀ o, w'.cell? ⟨w3.heap.size, o, none⟩ = #[.int .i64 l0.wide, .int .i64 l0.high, .slice kx0.values.A kx0.values.n kx0.values.c, .slice kx0.grades.A kx0.grades.n kx0.grades.c][o]?) ∧ (∀ o, w'.cell? ⟨w.heap.size + 1, o, none⟩ = #[.int .i64 a1_0, .int .i64 a1_1][o]?) ∧ (∀ o, w'.cell? ⟨w.heap.size + 1 + 1, o, none⟩ = #[.int .i64 a2_0, .int .i64 a2_1][o]?))
        (((with_reducible refine ⟨?_, ?_, ?_⟩) <;> (first | (with_reducible assumption) | ((with_reducible refine cells_drew ?_); (with_reducible assumption)) | ((with_reducible refine cells_alloc ?_ ?_ _) <;> first | (with_reducible assumption) | omega | (simp; done) | (simp; omega)) | ((with_reducible refine cells_drew ?_); (with_reducible refine cells_alloc ?_ ?_ _) <;> first | (with_reducible assumption) | omega | (simp; done) | (simp; omega)) | ((with_reducible refine cells_set ?_ ?_) <;> first | omega | ((repeat (with_reducible refine cells_set ?_ (by omega))); (with_reducible assumption))))))
        (first
          | (go_at_call_of 21 (Value.agg #[.int .i64 a1_0, .int .i64 a1_1]); refine (toPoint_bel a1_0 a1_1 _).mono ?_; rintro e u1 ⟨rfl, bs1⟩; have hbu1 : Below w4.heap.size w4 u1 := (show Below w4.heap.size w4 _ from (by (repeat (first | (with_reducible assumption) | (with_reducible exact Below.refl _ _) | (with_reducible refine Below.drew ?_) | (with_reducible refine Below.drewN ?_ _) | (with_reducible refine Below.setCell ?_ ?_ _) | (with_reducible refine Below.alloc ?_ ?_ _) | assumption)); all_goals (first | omega | (simp; done) | (simp; omega)))).trans (bs1.mono (by first | omega | (simp; done) | (simp; omega))); have hzu1 := hbu1.size; have hxu1 := bs1.size; (try simp at hxu1); obtain ⟨hcu1, hfu1⟩ := bcell bs1; (try have hlw4u1 : w4.heap.size < u1.heap.size := by omega); have hs0u1 : ∀ o, u1.cell? ⟨w3.heap.size, o, none⟩ = #[.int .i64 l0.wide, .int .i64 l0.high, .slice kx0.values.A kx0.values.n kx0.values.c, .slice kx0.grades.A kx0.grades.n kx0.grades.c][o]? := fun o => (Kx04.below hbu1 Kx04.lt).cell o; have hy0u1 : w3.heap.size < u1.heap.size := (Kx04.below hbu1 Kx04.lt).lt; have hs1u1 : ∀ o, u1.cell? ⟨w.heap.size + 1, o, none⟩ = #[.int .i64 a1_0, .int .i64 a1_1][o]? := fun o => (Ka14.below hbu1 Ka14.lt).cell o; have hy1u1 : w.heap.size + 1 < u1.heap.size := (Ka14.below hbu1 Ka14.lt).lt; have hs2u1 : ∀ o, u1.cell? ⟨w.heap.size + 1 + 1, o, none⟩ = #[.int .i64 a2_0, .int .i64 a2_1][o]? := fun o => (Ka24.below hbu1 Ka24.lt).cell o; have hy2u1 : w.heap.size + 1 + 1 < u1.heap.size := (Ka24.below hbu1 Ka24.lt).lt)
          | (go_at_call_of 21 (Value.agg #[.int .i64 a2_0, .int .i64 a2_1]); refine (toPoint_bel a2_0 a2_1 _).mono ?_; rintro e u2 ⟨rfl, bs2⟩; have hbu2 : Below w4.heap.size w4 u2 := (show Below w4.heap.size w4 _ from (by (repeat (first | (with_reducible assumption) | (with_reducible exact Below.refl _ _) | (with_reducible refine Below.drew ?_) | (with_reducible refine Below.drewN ?_ _) | (with_reducible refine Below.setCell ?_ ?_ _) | (with_reducible refine Below.alloc ?_ ?_ _) | assumption)); all_goals (first | omega | (simp; done) | (simp; omega)))).trans (bs2.mono (by first | omega | (simp; done) | (simp; omega))); have hzu2 := hbu2.size; have hxu2 := bs2.size; (try simp at hxu2); obtain ⟨hcu2, hfu2⟩ := bcell bs2; have hbu1u2 : Below u1.heap.size u1 u2 := (show Below u1.heap.size u1 _ from (by (repeat (first | (with_reducible assumption) | (with_reducible exact Below.refl _ _) | (with_reducible refine Below.drew ?_) | (with_reducible refine Below.drewN ?_ _) | (with_reducible refine Below.setCell ?_ ?_ _) | (with_reducible refine Below.alloc ?_ ?_ _) | assumption)); all_goals (first | omega | (simp; done) | (simp; omega)))).trans (bs2.mono (by first | omega | (simp; done) | (simp; omega))); (try have hlw4u2 : w4.heap.size < u2.heap.size := by omega); (try have hlu1u2 : u1.heap.size < u2.heap.size := by omega); have hs0u2 : ∀ o, u2.cell? ⟨w3.heap.size, o, none⟩ = #[.int .i64 l0.wide, .int .i64 l0.high, .slice kx0.values.A kx0.values.n kx0.values.c, .slice kx0.grades.A kx0.grades.n kx0.grades.c][o]? := fun o => (Kx04.below hbu2 Kx04.lt).cell o; have hy0u2 : w3.heap.size < u2.heap.size := (Kx04.below hbu2 Kx04.lt).lt; have hs1u2 : ∀ o, u2.cell? ⟨w.heap.size + 1, o, none⟩ = #[.int .i64 a1_0, .int .i64 a1_1][o]? := fun o => (Ka14.below hbu2 Ka14.lt).cell o; have hy1u2 : w.heap.size + 1 < u2.heap.size := (Ka14.below hbu2 Ka14.lt).lt; have hs2u2 : ∀ o, u2.cell? ⟨w.heap.size + 1 + 1, o, none⟩ = #[.int .i64 a2_0, .int .i64 a2_1][o]? := fun o => (Ka24.below hbu2 Ka24.lt).cell o; have hy2u2 : w.heap.size + 1 + 1 < u2.heap.size := (Ka24.below hbu2 Ka24.lt).lt)
          | (go_at_call 23; refine (implPutLine'_any kx0 l0 a1_0 a1_1 a2_0 a2_1 kx3 l3 a4 _ okx0 (by first | exact Rx04 | exact Rx04.below (by (repeat (first | (with_reducible assumption) | (with_reducible exact Below.refl _ _) | (with_reducible refine Below.drew ?_) | (with_reducible refine Below.drewN ?_ _) | (with_reducible refine Below.setCell ?_ ?_ _) | (with_reducible refine Below.alloc ?_ ?_ _) | assumption)); all_goals (first | omega | (simp; done) | (simp; omega)))) okx3 (by first | exact Rx34 | exact Rx34.below (by (repeat (first | (with_reducible assumption) | (with_reducible exact Below.refl _ _) | (with_reducible refine Below.drew ?_) | (with_reducible refine Below.drewN ?_ _) | (with_reducible refine Below.setCell ?_ ?_ _) | (with_reducible refine Below.alloc ?_ ?_ _) | assumption)); all_goals (first | omega | (simp; done) | (simp; omega))))).mono ?_; rintro e uw ⟨kw, hew, okw, Rw, Ww, sw, bw⟩; unfold MosaicV at hew; subst hew; have hiw := WrAll.hi Ww; have low := RdAll.lo Rw; have Wwl := Ww.lower (show w4.heap.size ≤ _ from (by first | omega | (simp; done) | (simp; omega))); have hbuw : Below w4.heap.size w4 uw := (show Below w4.heap.size w4 _ from (by (repeat (first | (with_reducible assumption) | (with_reducible exact Below.refl _ _) | (with_reducible refine Below.drew ?_) | (with_reducible refine Below.drewN ?_ _) | (with_reducible refine Below.setCell ?_ ?_ _) | (with_reducible refine Below.alloc ?_ ?_ _) | assumption)); all_goals (first | omega | (simp; done) | (simp; omega)))).trans (bw.mono (by first | omega | (simp; done) | (simp; omega))); have hzuw := hbuw.size; have hxuw := bw.size; (try simp at hxuw); obtain ⟨hcuw, hfuw⟩ := bcell bw; have hbu1uw : Below u1.heap.size u1 uw := (show Below u1.heap.size u1 _ from (by (repeat (first | (with_reducible assumption) | (with_reducible exact Below.refl _ _) | (with_reducible refine Below.drew ?_) | (with_reducible refine Below.drewN ?_ _) | (with_reducible refine Below.setCell ?_ ?_ _) | (with_reducible refine Below.alloc ?_ ?_ _) | assumption)); all_goals (first | omega | (simp; done) | (simp; omega)))).trans (bw.mono (by first | omega | (simp; done) | (simp; omega))); have hbu2uw : Below u2.heap.size u2 uw := (show Below u2.heap.size u2 _ from (by (repeat (first | (with_reducible assumption) | (with_reducible exact Below.refl _ _) | (with_reducible refine Below.drew ?_) | (with_reducible refine Below.drewN ?_ _) | (with_reducible refine Below.setCell ?_ ?_ _) | (with_reducible refine Below.alloc ?_ ?_ _) | assumption)); all_goals (first | omega | (simp; done) | (simp; omega)))).trans (bw.mono (by first | omega | (simp; done) | (simp; omega))); (try have hlw4uw : w4.heap.size < uw.heap.size := by omega); (try have hlu1uw : u1.heap.size < uw.heap.size := by omega); (try have hlu2uw : u2.heap.size < uw.heap.size := by omega); have hs0uw : ∀ o, uw.cell? ⟨w3.heap.size, o, none⟩ = #[.int .i64 l0.wide, .int .i64 l0.high, .slice kx0.values.A kx0.values.n kx0.values.c, .slice kx0.grades.A kx0.grades.n kx0.grades.c][o]? := fun o => (Kx04.below hbuw Kx04.lt).cell o; have hy0uw : w3.heap.size < uw.heap.size := (Kx04.below hbuw Kx04.lt).lt; have hs1uw : ∀ o, uw.cell? ⟨w.heap.size + 1, o, none⟩ = #[.int .i64 a1_0, .int .i64 a1_1][o]? := fun o => (Ka14.below hbuw Ka14.lt).cell o; have hy1uw : w.heap.size + 1 < uw.heap.size := (Ka14.below hbuw Ka14.lt).lt; have hs2uw : ∀ o, uw.cell? ⟨w.heap.size + 1 + 1, o, none⟩ = #[.int .i64 a2_0, .int .i64 a2_1][o]? := fun o => (Ka24.below hbuw Ka24.lt).cell o; have hy2uw : w.heap.size + 1 + 1 < uw.heap.size := (Ka24.below hbuw Ka24.lt).lt))
      all_goals
        go_wp2_with fail
        go_meet
        refine ⟨_, kw, rfl, okw, ?_, ?_, sw, ?_, ?_, ?_, rfl, ?_⟩
        · repeat (first | (with_reducible exact Rw) | (with_reducible refine RdAll.drew_ ?_) | (with_reducible refine RdAll.alloc_ ?_ _) | ((with_reducible refine RdAll.cell_ ?_ ?_); rotate_left 1; (first | (refine low.ne ?_; (first | omega | (simp <;> omega))) | (refine hiw.ne ?_; (first | omega | (simp <;> omega))))))
        · repeat (first | (with_reducible exact Wwl) | (with_reducible refine WrAll.drew_ ?_) | (with_reducible refine WrAll.alloc_ ?_ Rw _) | (with_reducible refine WrAll.cell_ ?_))
        · repeat (first | (with_reducible refine Blk.drew ?_) | ((with_reducible refine Blk.newN _ _ _ ?_); (first | rfl | simp)) | (with_reducible refine Blk.set_all4 (a := .int .i64 0) (b := .int .i64 0) (c := .slice none 0 0) (d := .slice none 0 0) ?_) | ((with_reducible refine Blk.below ?_ bw ?_); rotate_left 1; (first | omega | (simp <;> omega))) | ((with_reducible refine Blk.below ?_ bs2 ?_); rotate_left 1; (first | omega | (simp <;> omega))) | ((with_reducible refine Blk.below ?_ bs1 ?_); rotate_left 1; (first | omega | (simp <;> omega))))
        · show w4.heap.size ≤ _
          exact (by first | omega | (simp; done) | (simp; omega))
        · (first | (refine low.ne ?_; (first | omega | (simp <;> omega))) | (refine hiw.ne ?_; (first | omega | (simp <;> omega))))
        · exact (by (repeat (first | (with_reducible assumption) | (with_reducible exact Below.refl _ _) | (with_reducible refine Below.drew ?_) | (with_reducible refine Below.drewN ?_ _) | (with_reducible refine Below.setCell ?_ ?_ _) | (with_reducible refine Below.alloc ?_ ?_ _) | assumption)); all_goals (first | omega | (simp; done) | (simp; omega)))
    case rest =>
      obtain ⟨gg0, kg0, rfl, okg0, Rg05, Wg05, sg0, Kg05, ggeg0, nbgg0, rfl, b5⟩ := hcut
      obtain ⟨w5, rfl⟩ : ∃ x : World, x = wc := ⟨_, rfl⟩
      have hb5 : Below w4.heap.size w4 w5 := (show Below w4.heap.size w4 _ from (by (repeat (first | (with_reducible assumption) | (with_reducible exact Below.refl _ _) | (with_reducible refine Below.drew ?_) | (with_reducible refine Below.drewN ?_ _) | (with_reducible refine Below.setCell ?_ ?_ _) | (with_reducible refine Below.alloc ?_ ?_ _) | assumption)); all_goals (first | omega | (simp; done) | (simp; omega)))).trans (b5.mono (by first | omega | (simp; done) | (simp; omega)))
      have z5 : w4.heap.size ≤ w5.heap.size := Nat.le_trans (by first | omega | (simp; done) | (simp; omega)) b5.size
      have Ka05 := Ka04.below hb5 Ka04.lt
      have Ka15 := Ka14.below hb5 Ka14.lt
      have Ka25 := Ka24.below hb5 Ka24.lt
      have Kw05 := Kw04.below hb5 Kw04.lt
      have Kx05 := Kx04.below hb5 Kx04.lt
      have Ra05 := Ra04.below hb5
      have Ra35 := Ra34.below hb5
      have Rw05 := Rw04.below hb5
      have Ww05 := Ww04.below Rw04 hb5
      have Rx05 := Rx04.below hb5
      have Wx05 := Wx04.below Rx04 hb5
      have Rx35 := Rx34.below hb5
      have Wx35 := Wx34.below Rx34 hb5
      have hw5 : Below w.heap.size w w5 := hw4.trans (hb5.mono hw4.size)
      clear Wx34 Wx04 Ww04 ca04 qa04 Ka04 ca14 qa14 Ka14 ca24 qa24 Ka24 cw04 qw04 Kw04 cx04 qx04 Kx04 Ra04 Ra34 Rw04 Rx04 Rx34 b5 hb5 hw4
      have ca05 := fun o => Ka05.cell o
      have qa05 := Ka05.lt
      have ca15 := fun o => Ka15.cell o
      have qa15 := Ka15.lt
      have ca25 := fun o => Ka25.cell o
      have qa25 := Ka25.lt
      have cw05 := fun o => Kw05.cell o
      have qw05 := Kw05.lt
      have cx05 := fun o => Kx05.cell o
      have qx05 := Kx05.lt
      have log0 : Lo (MosaicR kg0) w5.heap.size := RdAll.lo Rg05
      have hig0 : Hi (MosaicR kg0) _ := WrAll.hi Wg05
      have cg05 := fun o => Kg05.cell o
      have qg05 := Kg05.lt
      have zgg0 : gg0 < w5.heap.size := Kg05.lt
      go_wp2_with fail
      refine (eqMosaic_any kg0 kw0 (plR l0 a1_0 a1_1 a2_0 a2_1 l3 a4) _ okg0 (Rg05.below (by (repeat (first | (with_reducible assumption) | (with_reducible exact Below.refl _ _) | (with_reducible refine Below.drew ?_) | (with_reducible refine Below.drewN ?_ _) | (with_reducible refine Below.setCell ?_ ?_ _) | (with_reducible refine Below.alloc ?_ ?_ _) | assumption)); all_goals (first | omega | (simp; done) | (simp; omega)))) (Rw05.below (by (repeat (first | (with_reducible assumption) | (with_reducible exact Below.refl _ _) | (with_reducible refine Below.drew ?_) | (with_reducible refine Below.drewN ?_ _) | (with_reducible refine Below.setCell ?_ ?_ _) | (with_reducible refine Below.alloc ?_ ?_ _) | assumption)); all_goals (first | omega | (simp; done) | (simp; omega))))).mono ?_
      rintro e w6 ⟨rfl, b6⟩
      have hb6 : Below w5.heap.size w5 w6 := (show Below w5.heap.size w5 _ from (by (repeat (first | (with_reducible assumption) | (with_reducible exact Below.refl _ _) | (with_reducible refine Below.drew ?_) | (with_reducible refine Below.drewN ?_ _) | (with_reducible refine Below.setCell ?_ ?_ _) | (with_reducible refine Below.alloc ?_ ?_ _) | assumption)); all_goals (first | omega | (simp; done) | (simp; omega)))).trans (b6.mono (by first | omega | (simp; done) | (simp; omega)))
      have z6 : w5.heap.size ≤ w6.heap.size := Nat.le_trans (by first | omega | (simp; done) | (simp; omega)) b6.size
      have Ka06 := Ka05.below hb6 Ka05.lt
      have Ka16 := Ka15.below hb6 Ka15.lt
      have Ka26 := Ka25.below hb6 Ka25.lt
      have Kw06 := Kw05.below hb6 Kw05.lt
      have Kx06 := Kx05.below hb6 Kx05.lt
      have Kg06 := Kg05.below hb6 Kg05.lt
      have Ra06 := Ra05.below hb6
      have Ra36 := Ra35.below hb6
      have Rw06 := Rw05.below hb6
      have Ww06 := Ww05.below Rw05 hb6
      have Rx06 := Rx05.below hb6
      have Wx06 := Wx05.below Rx05 hb6
      have Rx36 := Rx35.below hb6
      have Wx36 := Wx35.below Rx35 hb6
      have Rg06 := Rg05.below hb6
      have Wg06 := Wg05.below Rg05 hb6
      have hw6 : Below w.heap.size w w6 := hw5.trans (hb6.mono hw5.size)
      clear Wg05 Wx35 Wx05 Ww05 ca05 qa05 Ka05 ca15 qa15 Ka15 ca25 qa25 Ka25 cw05 qw05 Kw05 cx05 qx05 Kx05 cg05 qg05 Kg05 Ra05 Ra35 Rw05 Rx05 Rx35 Rg05 b6 hb6 hw5
      have ca06 := fun o => Ka06.cell o
      have qa06 := Ka06.lt
      have ca16 := fun o => Ka16.cell o
      have qa16 := Ka16.lt
      have ca26 := fun o => Ka26.cell o
      have qa26 := Ka26.lt
      have cw06 := fun o => Kw06.cell o
      have qw06 := Kw06.lt
      have cx06 := fun o => Kx06.cell o
      have qx06 := Kx06.lt
      have cg06 := fun o => Kg06.cell o
      have qg06 := Kg06.lt
      go_upto_region 13 with fail
      go_cut [72] (fun c wx => c = .bool false ∧ Below w6.heap.size w6 wx)
      case first =>
        go_region_with (first | (go_at_call 13; refine (toMosaic_any h0 l0 _ oka0 (Ra06.below (by (repeat (first | (with_reducible assumption) | (with_reducible exact Below.refl _ _) | (with_reducible refine Below.drew ?_) | (with_reducible refine Below.drewN ?_ _) | (with_reducible refine Below.setCell ?_ ?_ _) | (with_reducible refine Below.alloc ?_ ?_ _) | assumption)); all_goals (first | omega | (simp; done) | (simp; omega))))).mono ?_; rintro e wa ⟨ka, hea, oka, Ra, Wa, sa, ba⟩; unfold MosaicV at hea; subst hea; have hba : Below w6.heap.size w6 wa := (show Below w6.heap.size w6 _ from (by (repeat (first | (with_reducible assumption) | (with_reducible exact Below.refl _ _) | (with_reducible refine Below.drew ?_) | (with_reducible refine Below.drewN ?_ _) | (with_reducible refine Below.setCell ?_ ?_ _) | (with_reducible refine Below.alloc ?_ ?_ _) | assumption)); all_goals (first | omega | (simp; done) | (simp; omega)))).trans (ba.mono (by first | omega | (simp; done) | (simp; omega))); clear ba; have hza := hba.size; have hcx := fun o => (Kx06.below hba Kx06.lt).cell o) | (go_at_call 15; refine (eqMosaic_any kx0 _ l0 _ okx0 (Rx06.below (by (repeat (first | (with_reducible assumption) | (with_reducible exact Below.refl _ _) | (with_reducible refine Below.drew ?_) | (with_reducible refine Below.drewN ?_ _) | (with_reducible refine Below.setCell ?_ ?_ _) | (with_reducible refine Below.alloc ?_ ?_ _) | assumption)); all_goals (first | omega | (simp; done) | (simp; omega)))) (by first | exact Ra | exact Ra.below (by (repeat (first | (with_reducible assumption) | (with_reducible exact Below.refl _ _) | (with_reducible refine Below.drew ?_) | (with_reducible refine Below.drewN ?_ _) | (with_reducible refine Below.setCell ?_ ?_ _) | (with_reducible refine Below.alloc ?_ ?_ _) | assumption)); all_goals (first | omega | (simp; done) | (simp; omega))))).mono ?_; rintro e wb ⟨rfl, bb⟩))
        all_goals (go_wp2_with fail; go_meet; exact ⟨rfl, (show Below w6.heap.size w6 _ from (by (repeat (first | (with_reducible assumption) | (with_reducible exact Below.refl _ _) | (with_reducible refine Below.drew ?_) | (with_reducible refine Below.drewN ?_ _) | (with_reducible refine Below.setCell ?_ ?_ _) | (with_reducible refine Below.alloc ?_ ?_ _) | assumption)); all_goals (first | omega | (simp; done) | (simp; omega)))).trans (bb.mono (by first | omega | (simp; done) | (simp; omega)))⟩)
      case rest =>
        obtain ⟨rfl, b7⟩ := hcut
        obtain ⟨w7, rfl⟩ : ∃ x : World, x = wc := ⟨_, rfl⟩
        have hb7 : Below w6.heap.size w6 w7 := (show Below w6.heap.size w6 _ from (by (repeat (first | (with_reducible assumption) | (with_reducible exact Below.refl _ _) | (with_reducible refine Below.drew ?_) | (with_reducible refine Below.drewN ?_ _) | (with_reducible refine Below.setCell ?_ ?_ _) | (with_reducible refine Below.alloc ?_ ?_ _) | assumption)); all_goals (first | omega | (simp; done) | (simp; omega)))).trans (b7.mono (by first | omega | (simp; done) | (simp; omega)))
        have z7 : w6.heap.size ≤ w7.heap.size := Nat.le_trans (by first | omega | (simp; done) | (simp; omega)) b7.size
        have Ka07 := Ka06.below hb7 Ka06.lt
        have Ka17 := Ka16.below hb7 Ka16.lt
        have Ka27 := Ka26.below hb7 Ka26.lt
        have Kw07 := Kw06.below hb7 Kw06.lt
        have Kx07 := Kx06.below hb7 Kx06.lt
        have Kg07 := Kg06.below hb7 Kg06.lt
        have Ra07 := Ra06.below hb7
        have Ra37 := Ra36.below hb7
        have Rw07 := Rw06.below hb7
        have Ww07 := Ww06.below Rw06 hb7
        have Rx07 := Rx06.below hb7
        have Wx07 := Wx06.below Rx06 hb7
        have Rx37 := Rx36.below hb7
        have Wx37 := Wx36.below Rx36 hb7
        have Rg07 := Rg06.below hb7
        have Wg07 := Wg06.below Rg06 hb7
        have hw7 : Below w.heap.size w w7 := hw6.trans (hb7.mono hw6.size)
        clear Wg06 Wx36 Wx06 Ww06 ca06 qa06 Ka06 ca16 qa16 Ka16 ca26 qa26 Ka26 cw06 qw06 Kw06 cx06 qx06 Kx06 cg06 qg06 Kg06 Ra06 Ra36 Rw06 Rx06 Rx36 Rg06 b7 hb7 hw6
        have ca07 := fun o => Ka07.cell o
        have qa07 := Ka07.lt
        have ca17 := fun o => Ka17.cell o
        have qa17 := Ka17.lt
        have ca27 := fun o => Ka27.cell o
        have qa27 := Ka27.lt
        have cw07 := fun o => Kw07.cell o
        have qw07 := Kw07.lt
        have cx07 := fun o => Kx07.cell o
        have qx07 := Kx07.lt
        have cg07 := fun o => Kg07.cell o
        have qg07 := Kg07.lt
        go_wp2_with fail
        refine (toInts_any ⟨A3, n3, c3⟩ l3 _ oka3 (Ra37.below (by (repeat (first | (with_reducible assumption) | (with_reducible exact Below.refl _ _) | (with_reducible refine Below.drew ?_) | (with_reducible refine Below.drewN ?_ _) | (with_reducible refine Below.setCell ?_ ?_ _) | (with_reducible refine Below.alloc ?_ ?_ _) | assumption)); all_goals (first | omega | (simp; done) | (simp; omega))))).mono ?_
        rintro e w8 ⟨ky3, he8, oky3, Ry38, Wy38', sy3, b8⟩
        unfold IntsV at he8
        subst he8
        have Wy38 := Wy38'.lower (show w7.heap.size ≤ _ from (by first | omega | (simp; done) | (simp; omega)))
        clear Wy38'
        have hb8 : Below w7.heap.size w7 w8 := (show Below w7.heap.size w7 _ from (by (repeat (first | (with_reducible assumption) | (with_reducible exact Below.refl _ _) | (with_reducible refine Below.drew ?_) | (with_reducible refine Below.drewN ?_ _) | (with_reducible refine Below.setCell ?_ ?_ _) | (with_reducible refine Below.alloc ?_ ?_ _) | assumption)); all_goals (first | omega | (simp; done) | (simp; omega)))).trans (b8.mono (by first | omega | (simp; done) | (simp; omega)))
        have z8 : w7.heap.size ≤ w8.heap.size := Nat.le_trans (by first | omega | (simp; done) | (simp; omega)) b8.size
        have Ka08 := Ka07.below hb8 Ka07.lt
        have Ka18 := Ka17.below hb8 Ka17.lt
        have Ka28 := Ka27.below hb8 Ka27.lt
        have Kw08 := Kw07.below hb8 Kw07.lt
        have Kx08 := Kx07.below hb8 Kx07.lt
        have Kg08 := Kg07.below hb8 Kg07.lt
        have Ra08 := Ra07.below hb8
        have Ra38 := Ra37.below hb8
        have Rw08 := Rw07.below hb8
        have Ww08 := Ww07.below Rw07 hb8
        have Rx08 := Rx07.below hb8
        have Wx08 := Wx07.below Rx07 hb8
        have Rx38 := Rx37.below hb8
        have Wx38 := Wx37.below Rx37 hb8
        have Rg08 := Rg07.below hb8
        have Wg08 := Wg07.below Rg07 hb8
        have hw8 : Below w.heap.size w w8 := hw7.trans (hb8.mono hw7.size)
        clear Wg07 Wx37 Wx07 Ww07 ca07 qa07 Ka07 ca17 qa17 Ka17 ca27 qa27 Ka27 cw07 qw07 Kw07 cx07 qx07 Kx07 cg07 qg07 Kg07 Ra07 Ra37 Rw07 Rx07 Rx37 Rg07 b8 hb8 hw7
        have ca08 := fun o => Ka08.cell o
        have qa08 := Ka08.lt
        have ca18 := fun o => Ka18.cell o
        have qa18 := Ka18.lt
        have ca28 := fun o => Ka28.cell o
        have qa28 := Ka28.lt
        have cw08 := fun o => Kw08.cell o
        have qw08 := Kw08.lt
        have cx08 := fun o => Kx08.cell o
        have qx08 := Kx08.lt
        have cg08 := fun o => Kg08.cell o
        have qg08 := Kg08.lt
        have loy3 : Lo (IntsR ky3) w8.heap.size := RdAll.lo Ry38
        have hiy3 : Hi (IntsR ky3) _ := WrAll.hi Wy38
        go_wp2_with fail
        refine (eqInts_any kx3 ky3 l3 _ okx3 (Rx38.below (by (repeat (first | (with_reducible assumption) | (with_reducible exact Below.refl _ _) | (with_reducible refine Below.drew ?_) | (with_reducible refine Below.drewN ?_ _) | (with_reducible refine Below.setCell ?_ ?_ _) | (with_reducible refine Below.alloc ?_ ?_ _) | assumption)); all_goals (first | omega | (simp; done) | (simp; omega)))) (Ry38.below (by (repeat (first | (with_reducible assumption) | (with_reducible exact Below.refl _ _) | (with_reducible refine Below.drew ?_) | (with_reducible refine Below.drewN ?_ _) | (with_reducible refine Below.setCell ?_ ?_ _) | (with_reducible refine Below.alloc ?_ ?_ _) | assumption)); all_goals (first | omega | (simp; done) | (simp; omega))))).mono ?_
        rintro e w9 ⟨rfl, b9⟩
        have hb9 : Below w8.heap.size w8 w9 := (show Below w8.heap.size w8 _ from (by (repeat (first | (with_reducible assumption) | (with_reducible exact Below.refl _ _) | (with_reducible refine Below.drew ?_) | (with_reducible refine Below.drewN ?_ _) | (with_reducible refine Below.setCell ?_ ?_ _) | (with_reducible refine Below.alloc ?_ ?_ _) | assumption)); all_goals (first | omega | (simp; done) | (simp; omega)))).trans (b9.mono (by first | omega | (simp; done) | (simp; omega)))
        have z9 : w8.heap.size ≤ w9.heap.size := Nat.le_trans (by first | omega | (simp; done) | (simp; omega)) b9.size
        have Ka09 := Ka08.below hb9 Ka08.lt
        have Ka19 := Ka18.below hb9 Ka18.lt
        have Ka29 := Ka28.below hb9 Ka28.lt
        have Kw09 := Kw08.below hb9 Kw08.lt
        have Kx09 := Kx08.below hb9 Kx08.lt
        have Kg09 := Kg08.below hb9 Kg08.lt
        have Ra09 := Ra08.below hb9
        have Ra39 := Ra38.below hb9
        have Rw09 := Rw08.below hb9
        have Ww09 := Ww08.below Rw08 hb9
        have Rx09 := Rx08.below hb9
        have Wx09 := Wx08.below Rx08 hb9
        have Rx39 := Rx38.below hb9
        have Wx39 := Wx38.below Rx38 hb9
        have Rg09 := Rg08.below hb9
        have Wg09 := Wg08.below Rg08 hb9
        have Ry39 := Ry38.below hb9
        have Wy39 := Wy38.below Ry38 hb9
        have hw9 : Below w.heap.size w w9 := hw8.trans (hb9.mono hw8.size)
        clear Wy38 Wg08 Wx38 Wx08 Ww08 ca08 qa08 Ka08 ca18 qa18 Ka18 ca28 qa28 Ka28 cw08 qw08 Kw08 cx08 qx08 Kx08 cg08 qg08 Kg08 Ra08 Ra38 Rw08 Rx08 Rx38 Rg08 Ry38 b9 hb9 hw8
        have ca09 := fun o => Ka09.cell o
        have qa09 := Ka09.lt
        have ca19 := fun o => Ka19.cell o
        have qa19 := Ka19.lt
        have ca29 := fun o => Ka29.cell o
        have qa29 := Ka29.lt
        have cw09 := fun o => Kw09.cell o
        have qw09 := Kw09.lt
        have cx09 := fun o => Kx09.cell o
        have qx09 := Kx09.lt
        have cg09 := fun o => Kg09.cell o
        have qg09 := Kg09.lt
        go_wp2_with fail
        refine (markMosaic_any kx0 l0 1 _ _ okx0 (by omega) (by omega) Rx09 Wx09 sx0).mono ?_
        rintro e w10 ⟨rfl, T10, Mx010, Xx010⟩
        have z10 := T10.size
        have Ka010 := Ka09.touch T10 (hix0.ne (by omega))
        have Ka110 := Ka19.touch T10 (hix0.ne (by omega))
        have Ka210 := Ka29.touch T10 (hix0.ne (by omega))
        have Kw010 := Kw09.touch T10 (hix0.ne (by omega))
        have Kx010 := Kx09.touch T10 (lox0.ne (by omega))
        have Kg010 := Kg09.touch T10 (lox0.ne (by omega))
        have oa010 : Off (MosaicR kx0) (MosaicR h0) := (Off.up (loa0.mono (by omega)) hix0)
        have Ra010 := Ra09.touch T10 oa010
        have oa310 : Off (MosaicR kx0) (IntsR ⟨A3, n3, c3⟩) := (Off.up (loa3.mono (by omega)) hix0)
        have Ra310 := Ra39.touch T10 oa310
        have ow010 : Off (MosaicR kx0) (MosaicR kw0) := (Off.up (low0.mono (by omega)) hix0)
        have Rw010 := Rw09.touch T10 ow010
        have Ww010 := Ww09.touch Rw09 T10 ow010
        have ox310 : Off (MosaicR kx0) (IntsR kx3) := (Off.dn hix3 (lox0.mono (by omega)))
        have Rx310 := Rx39.touch T10 ox310
        have Wx310 := Wx39.touch Rx39 T10 ox310
        have og010 : Off (MosaicR kx0) (MosaicR kg0) := (Off.dn hig0 (lox0.mono (by omega)))
        have Rg010 := Rg09.touch T10 og010
        have Wg010 := Wg09.touch Rg09 T10 og010
        have hw10 : Below w.heap.size w w10 := bstepT hw9 T10 (Nat.le_refl _) (hix0.mono (by omega))
        clear Wg09 Wx39 Ww09 Wx09 Rx09 ca09 qa09 Ka09 ca19 qa19 Ka19 ca29 qa29 Ka29 cw09 qw09 Kw09 cx09 qx09 Kx09 cg09 qg09 Kg09 Ra09 Ra39 Rw09 Rx39 Rg09 T10 hw9
        have ca010 := fun o => Ka010.cell o
        have qa010 := Ka010.lt
        have ca110 := fun o => Ka110.cell o
        have qa110 := Ka110.lt
        have ca210 := fun o => Ka210.cell o
        have qa210 := Ka210.lt
        have cw010 := fun o => Kw010.cell o
        have qw010 := Kw010.lt
        have cx010 := fun o => Kx010.cell o
        have qx010 := Kx010.lt
        have cg010 := fun o => Kg010.cell o
        have qg010 := Kg010.lt
        have hq10 := MosaicQ_bd okx0 1
        have nq10 : ¬ MosaicQ kx0 1 < 0 := by omega
        go_wp2_with fail
        refine (markInts_any kx3 l3 (MosaicQ kx0 1) _ _ okx3 (by omega) (by omega) Rx310 Wx310 sx3).mono ?_
        rintro e w11 ⟨rfl, T11, Mx311, Xx311⟩
        have z11 := T11.size
        have Ka011 := Ka010.touch T11 (hix3.ne (by omega))
        have Ka111 := Ka110.touch T11 (hix3.ne (by omega))
        have Ka211 := Ka210.touch T11 (hix3.ne (by omega))
        have Kw011 := Kw010.touch T11 (hix3.ne (by omega))
        have Kx011 := Kx010.touch T11 (hix3.ne (by omega))
        have Kg011 := Kg010.touch T11 (lox3.ne (by omega))
        have oa011 : Off (IntsR kx3) (MosaicR h0) := (Off.up (loa0.mono (by omega)) hix3)
        have Ra011 := Ra010.touch T11 oa011
        have oa311 : Off (IntsR kx3) (IntsR ⟨A3, n3, c3⟩) := (Off.up (loa3.mono (by omega)) hix3)
        have Ra311 := Ra310.touch T11 oa311
        have ow011 : Off (IntsR kx3) (MosaicR kw0) := (Off.up (low0.mono (by omega)) hix3)
        have Rw011 := Rw010.touch T11 ow011
        have Ww011 := Ww010.touch Rw010 T11 ow011
        have og011 : Off (IntsR kx3) (MosaicR kg0) := (Off.dn hig0 (lox3.mono (by omega)))
        have Rg011 := Rg010.touch T11 og011
        have Wg011 := Wg010.touch Rg010 T11 og011
        have hw11 : Below w.heap.size w w11 := bstepT hw10 T11 (Nat.le_refl _) (hix3.mono (by omega))
        clear Wg010 Ww010 Wx310 Rx310 ca010 qa010 Ka010 ca110 qa110 Ka110 ca210 qa210 Ka210 cw010 qw010 Kw010 cx010 qx010 Kx010 cg010 qg010 Kg010 Ra010 Ra310 Rw010 Rg010 T11 hw10
        have ca011 := fun o => Ka011.cell o
        have qa011 := Ka011.lt
        have ca111 := fun o => Ka111.cell o
        have qa111 := Ka111.lt
        have ca211 := fun o => Ka211.cell o
        have qa211 := Ka211.lt
        have cw011 := fun o => Kw011.cell o
        have qw011 := Kw011.lt
        have cx011 := fun o => Kx011.cell o
        have qx011 := Kx011.lt
        have cg011 := fun o => Kg011.cell o
        have qg011 := Kg011.lt
        have hq11 := IntsQ_bd okx3 (MosaicQ kx0 1)
        have nq11 : ¬ IntsQ kx3 (MosaicQ kx0 1) < 0 := by omega
        go_wp2_with fail
        refine (eqMosaic_any kg0 kw0 (plR l0 a1_0 a1_1 a2_0 a2_1 l3 a4) _ okg0 (Rg011.below (by (repeat (first | (with_reducible assumption) | (with_reducible exact Below.refl _ _) | (with_reducible refine Below.drew ?_) | (with_reducible refine Below.drewN ?_ _) | (with_reducible refine Below.setCell ?_ ?_ _) | (with_reducible refine Below.alloc ?_ ?_ _) | assumption)); all_goals (first | omega | (simp; done) | (simp; omega)))) (Rw011.below (by (repeat (first | (with_reducible assumption) | (with_reducible exact Below.refl _ _) | (with_reducible refine Below.drew ?_) | (with_reducible refine Below.drewN ?_ _) | (with_reducible refine Below.setCell ?_ ?_ _) | (with_reducible refine Below.alloc ?_ ?_ _) | assumption)); all_goals (first | omega | (simp; done) | (simp; omega))))).mono ?_
        rintro e w12 ⟨rfl, b12⟩
        have hb12 : Below w11.heap.size w11 w12 := (show Below w11.heap.size w11 _ from (by (repeat (first | (with_reducible assumption) | (with_reducible exact Below.refl _ _) | (with_reducible refine Below.drew ?_) | (with_reducible refine Below.drewN ?_ _) | (with_reducible refine Below.setCell ?_ ?_ _) | (with_reducible refine Below.alloc ?_ ?_ _) | assumption)); all_goals (first | omega | (simp; done) | (simp; omega)))).trans (b12.mono (by first | omega | (simp; done) | (simp; omega)))
        have z12 : w11.heap.size ≤ w12.heap.size := Nat.le_trans (by first | omega | (simp; done) | (simp; omega)) b12.size
        have Ka012 := Ka011.below hb12 Ka011.lt
        have Ka112 := Ka111.below hb12 Ka111.lt
        have Ka212 := Ka211.below hb12 Ka211.lt
        have Kw012 := Kw011.below hb12 Kw011.lt
        have Kx012 := Kx011.below hb12 Kx011.lt
        have Kg012 := Kg011.below hb12 Kg011.lt
        have Ra012 := Ra011.below hb12
        have Ra312 := Ra311.below hb12
        have Rw012 := Rw011.below hb12
        have Ww012 := Ww011.below Rw011 hb12
        have Rg012 := Rg011.below hb12
        have Wg012 := Wg011.below Rg011 hb12
        have hw12 : Below w.heap.size w w12 := hw11.trans (hb12.mono hw11.size)
        clear Wg011 Ww011 ca011 qa011 Ka011 ca111 qa111 Ka111 ca211 qa211 Ka211 cw011 qw011 Kw011 cx011 qx011 Kx011 cg011 qg011 Kg011 Ra011 Ra311 Rw011 Rg011 b12 hb12 hw11
        have ca012 := fun o => Ka012.cell o
        have qa012 := Ka012.lt
        have ca112 := fun o => Ka112.cell o
        have qa112 := Ka112.lt
        have ca212 := fun o => Ka212.cell o
        have qa212 := Ka212.lt
        have cw012 := fun o => Kw012.cell o
        have qw012 := Kw012.lt
        have cx012 := fun o => Kx012.cell o
        have qx012 := Kx012.lt
        have cg012 := fun o => Kg012.cell o
        have qg012 := Kg012.lt
        go_wp2_with fail
        refine (markMosaic_any kg0 (plR l0 a1_0 a1_1 a2_0 a2_1 l3 a4) 1 _ _ okg0 (by omega) (by omega) Rg012 Wg012 sg0).mono ?_
        rintro e w13 ⟨rfl, T13, Mg013, Xg013⟩
        have z13 := T13.size
        have Ka013 := Ka012.touch T13 (hig0.ne (by omega))
        have Ka113 := Ka112.touch T13 (hig0.ne (by omega))
        have Ka213 := Ka212.touch T13 (hig0.ne (by omega))
        have Kw013 := Kw012.touch T13 (hig0.ne (by omega))
        have Kx013 := Kx012.touch T13 (hig0.ne (by omega))
        have Kg013 := Kg012.touch T13 nbgg0
        have oa013 : Off (MosaicR kg0) (MosaicR h0) := (Off.up (loa0.mono (by omega)) hig0)
        have Ra013 := Ra012.touch T13 oa013
        have oa313 : Off (MosaicR kg0) (IntsR ⟨A3, n3, c3⟩) := (Off.up (loa3.mono (by omega)) hig0)
        have Ra313 := Ra312.touch T13 oa313
        have ow013 : Off (MosaicR kg0) (MosaicR kw0) := (Off.up (low0.mono (by omega)) hig0)
        have Rw013 := Rw012.touch T13 ow013
        have Ww013 := Ww012.touch Rw012 T13 ow013
        have hw13 : Below w.heap.size w w13 := bstepT hw12 T13 (Nat.le_refl _) (hig0.mono (by omega))
        clear Ww012 Wg012 Rg012 ca012 qa012 Ka012 ca112 qa112 Ka112 ca212 qa212 Ka212 cw012 qw012 Kw012 cx012 qx012 Kx012 cg012 qg012 Kg012 Ra012 Ra312 Rw012 T13 hw12
        have ca013 := fun o => Ka013.cell o
        have qa013 := Ka013.lt
        have ca113 := fun o => Ka113.cell o
        have qa113 := Ka113.lt
        have ca213 := fun o => Ka213.cell o
        have qa213 := Ka213.lt
        have cw013 := fun o => Kw013.cell o
        have qw013 := Kw013.lt
        have cx013 := fun o => Kx013.cell o
        have qx013 := Kx013.lt
        have cg013 := fun o => Kg013.cell o
        have qg013 := Kg013.lt
        have hq13 := MosaicQ_bd okg0 1
        have nq13 : ¬ MosaicQ kg0 1 < 0 := by omega
        have RG13 := Mg013
        have loG := log0
        go_wp2_with fail
        refine (heldMosaic_any kg0 (plR l0 a1_0 a1_1 a2_0 a2_1 l3 a4) 1 _ okg0 (by omega) (by omega) (RG13.below (by (repeat (first | (with_reducible assumption) | (with_reducible exact Below.refl _ _) | (with_reducible refine Below.drew ?_) | (with_reducible refine Below.drewN ?_ _) | (with_reducible refine Below.setCell ?_ ?_ _) | (with_reducible refine Below.alloc ?_ ?_ _) | assumption)); all_goals (first | omega | (simp; done) | (simp; omega))))).mono ?_
        rintro e w14 ⟨rfl, b14⟩
        have hb14 : Below w13.heap.size w13 w14 := (show Below w13.heap.size w13 _ from (by (repeat (first | (with_reducible assumption) | (with_reducible exact Below.refl _ _) | (with_reducible refine Below.drew ?_) | (with_reducible refine Below.drewN ?_ _) | (with_reducible refine Below.setCell ?_ ?_ _) | (with_reducible refine Below.alloc ?_ ?_ _) | assumption)); all_goals (first | omega | (simp; done) | (simp; omega)))).trans (b14.mono (by first | omega | (simp; done) | (simp; omega)))
        have z14 : w13.heap.size ≤ w14.heap.size := Nat.le_trans (by first | omega | (simp; done) | (simp; omega)) b14.size
        have Ka014 := Ka013.below hb14 Ka013.lt
        have Ka114 := Ka113.below hb14 Ka113.lt
        have Ka214 := Ka213.below hb14 Ka213.lt
        have Kw014 := Kw013.below hb14 Kw013.lt
        have Kx014 := Kx013.below hb14 Kx013.lt
        have Kg014 := Kg013.below hb14 Kg013.lt
        have Ra014 := Ra013.below hb14
        have Ra314 := Ra313.below hb14
        have Rw014 := Rw013.below hb14
        have Ww014 := Ww013.below Rw013 hb14
        have RG14 := RG13.below hb14
        have hw14 : Below w.heap.size w w14 := hw13.trans (hb14.mono hw13.size)
        clear Ww013 ca013 qa013 Ka013 ca113 qa113 Ka113 ca213 qa213 Ka213 cw013 qw013 Kw013 cx013 qx013 Kx013 cg013 qg013 Kg013 Ra013 Ra313 Rw013 RG13 b14 hb14 hw13
        have ca014 := fun o => Ka014.cell o
        have qa014 := Ka014.lt
        have ca114 := fun o => Ka114.cell o
        have qa114 := Ka114.lt
        have ca214 := fun o => Ka214.cell o
        have qa214 := Ka214.lt
        have cw014 := fun o => Kw014.cell o
        have qw014 := Kw014.lt
        have cx014 := fun o => Kx014.cell o
        have qx014 := Kx014.lt
        have cg014 := fun o => Kg014.cell o
        have qg014 := Kg014.lt
        go_upto_region 30 with fail
        go_cut [21, 22] (fun cb c1 wx => ∃ (gb : Nat) (kk : MosaicH), cb = .pointer (some ⟨gb, 0, none⟩) ∧ MosaicOk kk ∧ RdAll wx (MosaicS kk (plR l0 a1_0 a1_1 a2_0 a2_1 l3 a4)) ∧ WrAll wx w14.heap.size (MosaicS kk (plR l0 a1_0 a1_1 a2_0 a2_1 l3 a4)) ∧ Sep (MosaicR kk) ∧ Blk wx gb 26 #[.int .i64 (plR l0 a1_0 a1_1 a2_0 a2_1 l3 a4).wide, .int .i64 (plR l0 a1_0 a1_1 a2_0 a2_1 l3 a4).high, .slice kk.values.A kk.values.n kk.values.c, .slice kk.grades.A kk.grades.n kk.grades.c] ∧ w14.heap.size ≤ gb ∧ (∀ s ∈ MosaicR kk, s ≠ some gb) ∧ c1 = .int .i64 (plC l0 a1_0 a1_1 a2_0 a2_1 l3 a4) ∧ Below w14.heap.size w14 wx)
        case first =>
          have hs0 : ∀ o, w14.cell? ⟨w.heap.size, o, none⟩ = #[.int .i64 l0.wide, .int .i64 l0.high, .slice h0.values.A h0.values.n h0.values.c, .slice h0.grades.A h0.grades.n h0.grades.c][o]? := fun o => Ka014.cell o
          have hy0 : w.heap.size < w14.heap.size := Ka014.lt
          have hs1 : ∀ o, w14.cell? ⟨w.heap.size + 1, o, none⟩ = #[.int .i64 a1_0, .int .i64 a1_1][o]? := fun o => Ka114.cell o
          have hy1 : w.heap.size + 1 < w14.heap.size := Ka114.lt
          have hs2 : ∀ o, w14.cell? ⟨w.heap.size + 1 + 1, o, none⟩ = #[.int .i64 a2_0, .int .i64 a2_1][o]? := fun o => Ka214.cell o
          have hy2 : w.heap.size + 1 + 1 < w14.heap.size := Ka214.lt
          try clear ca014
          try clear qa014
          try clear ca114
          try clear qa114
          try clear ca214
          try clear qa214
          try clear cw014
          try clear qw014
          try clear Kw014
          try clear cx014
          try clear qx014
          try clear Kx014
          try clear cg014
          try clear qg014
          try clear Kg014
          try clear Ww014
          try clear Rw014
          try clear low0
          try clear hiw0
          try clear sw0
          try clear WG14
          try clear RG14
          try clear loG
          try clear hiG
          try clear sG
          try clear hw14
          try clear z1
          try clear z2
          try clear z3
          try clear z4
          try clear z5
          try clear z6
          try clear z7
          try clear z8
          try clear z9
          try clear z10
          try clear z11
          try clear z12
          try clear z13
          try clear z14
          try clear hq1
          try clear hq2
          try clear hq3
          try clear hq4
          try clear hq5
          try clear hq6
          try clear hq7
          try clear hq8
          try clear hq9
          try clear hq10
          try clear hq11
          try clear hq12
          try clear hq13
          try clear hq14
          try clear nq1
          try clear nq2
          try clear nq3
          try clear nq4
          try clear nq5
          try clear nq6
          try clear nq7
          try clear nq8
          try clear nq9
          try clear nq10
          try clear nq11
          try clear nq12
          try clear nq13
          try clear nq14
          try clear log0
          try clear log1
          try clear log2
          try clear log3
          try clear log4
          try clear log5
          try clear lox0
          try clear lox1
          try clear lox2
          try clear lox3
          try clear lox4
          try clear lox5
          try clear los0
          try clear los1
          try clear los2
          try clear los3
          try clear los4
          try clear los5
          try clear low1
          try clear low2
          try clear low3
          try clear low4
          try clear low5
          try clear loy0
          try clear loy1
          try clear loy2
          try clear loy3
          try clear loy4
          try clear loy5
          try clear hig0
          try clear hig1
          try clear hig2
          try clear hig3
          try clear hig4
          try clear hig5
          try clear hix0
          try clear hix1
          try clear hix2
          try clear hix3
          try clear hix4
          try clear hix5
          try clear his0
          try clear his1
          try clear his2
          try clear his3
          try clear his4
          try clear his5
          try clear hiw1
          try clear hiw2
          try clear hiw3
          try clear hiw4
          try clear hiw5
          try clear hiy0
          try clear hiy1
          try clear hiy2
          try clear hiy3
          try clear hiy4
          try clear hiy5
          go_region_held3 (fun w' => (∀ o, w'.cell? ⟨w.heap.size, o, none⟩ = #[.int .i64 l0.wide, .int .i64 l0.high, .slice h0.values.A h0.values.n h0.values.c, .slice h0.grades.A h0.grades.n h0.grades.c][o]?) ∧ (∀ o, w'.cell? ⟨w.heap.size + 1, o, none⟩ = #[.int .i64 a1_0, .int .i64 a1_1][o]?) ∧ (∀ o, w'.cell? ⟨w.heap.size + 1 + 1, o, none⟩ = #[.int .i64 a2_0, .int .i64 a2_1][o]?))
            (((with_reducible refine ⟨?_, ?_, ?_⟩) <;> (first | (with_reducible assumption) | ((with_reducible refine cells_drew ?_); (with_reducible assumption)) | ((with_reducible refine cells_alloc ?_ ?_ _) <;> first | (with_reducible assumption) | omega | (simp; done) | (simp; omega)) | ((with_reducible refine cells_drew ?_); (with_reducible refine cells_alloc ?_ ?_ _) <;> first | (with_reducible assumption) | omega | (simp; done) | (simp; omega)) | ((with_reducible refine cells_set ?_ ?_) <;> first | omega | ((repeat (with_reducible refine cells_set ?_ (by omega))); (with_reducible assumption))))))
            (first
              | (go_at_call_of 13 (Value.agg #[.int .i64 l0.wide, .int .i64 l0.high, .slice h0.values.A h0.values.n h0.values.c, .slice h0.grades.A h0.grades.n h0.grades.c]); refine (toMosaic_any h0 l0 _ oka0 (Ra014.below (by (repeat (first | (with_reducible assumption) | (with_reducible exact Below.refl _ _) | (with_reducible refine Below.drew ?_) | (with_reducible refine Below.drewN ?_ _) | (with_reducible refine Below.setCell ?_ ?_ _) | (with_reducible refine Below.alloc ?_ ?_ _) | assumption)); all_goals (first | omega | (simp; done) | (simp; omega))))).mono ?_; rintro e u0 ⟨ks0, hes0, oks0, Rs0, Ws0, ss0, bs0⟩; unfold MosaicV at hes0; subst hes0; have hbu0 : Below w14.heap.size w14 u0 := (show Below w14.heap.size w14 _ from (by (repeat (first | (with_reducible assumption) | (with_reducible exact Below.refl _ _) | (with_reducible refine Below.drew ?_) | (with_reducible refine Below.drewN ?_ _) | (with_reducible refine Below.setCell ?_ ?_ _) | (with_reducible refine Below.alloc ?_ ?_ _) | assumption)); all_goals (first | omega | (simp; done) | (simp; omega)))).trans (bs0.mono (by first | omega | (simp; done) | (simp; omega))); have hzu0 := hbu0.size; have hxu0 := bs0.size; (try simp at hxu0); obtain ⟨hcu0, hfu0⟩ := bcell bs0; (try have hlw14u0 : w14.heap.size < u0.heap.size := by omega); have hs0u0 : ∀ o, u0.cell? ⟨w.heap.size, o, none⟩ = #[.int .i64 l0.wide, .int .i64 l0.high, .slice h0.values.A h0.values.n h0.values.c, .slice h0.grades.A h0.grades.n h0.grades.c][o]? := fun o => (Ka014.below hbu0 Ka014.lt).cell o; have hy0u0 : w.heap.size < u0.heap.size := (Ka014.below hbu0 Ka014.lt).lt; have hs1u0 : ∀ o, u0.cell? ⟨w.heap.size + 1, o, none⟩ = #[.int .i64 a1_0, .int .i64 a1_1][o]? := fun o => (Ka114.below hbu0 Ka114.lt).cell o; have hy1u0 : w.heap.size + 1 < u0.heap.size := (Ka114.below hbu0 Ka114.lt).lt; have hs2u0 : ∀ o, u0.cell? ⟨w.heap.size + 1 + 1, o, none⟩ = #[.int .i64 a2_0, .int .i64 a2_1][o]? := fun o => (Ka214.below hbu0 Ka214.lt).cell o; have hy2u0 : w.heap.size + 1 + 1 < u0.heap.size := (Ka214.below hbu0 Ka214.lt).lt)
              | (go_at_call_of 21 (Value.agg #[.int .i64 a1_0, .int .i64 a1_1]); refine (toPoint_bel a1_0 a1_1 _).mono ?_; rintro e u1 ⟨rfl, bs1⟩; have hbu1 : Below w14.heap.size w14 u1 := (show Below w14.heap.size w14 _ from (by (repeat (first | (with_reducible assumption) | (with_reducible exact Below.refl _ _) | (with_reducible refine Below.drew ?_) | (with_reducible refine Below.drewN ?_ _) | (with_reducible refine Below.setCell ?_ ?_ _) | (with_reducible refine Below.alloc ?_ ?_ _) | assumption)); all_goals (first | omega | (simp; done) | (simp; omega)))).trans (bs1.mono (by first | omega | (simp; done) | (simp; omega))); have hzu1 := hbu1.size; have hxu1 := bs1.size; (try simp at hxu1); obtain ⟨hcu1, hfu1⟩ := bcell bs1; have hbu0u1 : Below u0.heap.size u0 u1 := (show Below u0.heap.size u0 _ from (by (repeat (first | (with_reducible assumption) | (with_reducible exact Below.refl _ _) | (with_reducible refine Below.drew ?_) | (with_reducible refine Below.drewN ?_ _) | (with_reducible refine Below.setCell ?_ ?_ _) | (with_reducible refine Below.alloc ?_ ?_ _) | assumption)); all_goals (first | omega | (simp; done) | (simp; omega)))).trans (bs1.mono (by first | omega | (simp; done) | (simp; omega))); (try have hlw14u1 : w14.heap.size < u1.heap.size := by omega); (try have hlu0u1 : u0.heap.size < u1.heap.size := by omega); have hs0u1 : ∀ o, u1.cell? ⟨w.heap.size, o, none⟩ = #[.int .i64 l0.wide, .int .i64 l0.high, .slice h0.values.A h0.values.n h0.values.c, .slice h0.grades.A h0.grades.n h0.grades.c][o]? := fun o => (Ka014.below hbu1 Ka014.lt).cell o; have hy0u1 : w.heap.size < u1.heap.size := (Ka014.below hbu1 Ka014.lt).lt; have hs1u1 : ∀ o, u1.cell? ⟨w.heap.size + 1, o, none⟩ = #[.int .i64 a1_0, .int .i64 a1_1][o]? := fun o => (Ka114.below hbu1 Ka114.lt).cell o; have hy1u1 : w.heap.size + 1 < u1.heap.size := (Ka114.below hbu1 Ka114.lt).lt; have hs2u1 : ∀ o, u1.cell? ⟨w.heap.size + 1 + 1, o, none⟩ = #[.int .i64 a2_0, .int .i64 a2_1][o]? := fun o => (Ka214.below hbu1 Ka214.lt).cell o; have hy2u1 : w.heap.size + 1 + 1 < u1.heap.size := (Ka214.below hbu1 Ka214.lt).lt)
              | (go_at_call_of 21 (Value.agg #[.int .i64 a2_0, .int .i64 a2_1]); refine (toPoint_bel a2_0 a2_1 _).mono ?_; rintro e u2 ⟨rfl, bs2⟩; have hbu2 : Below w14.heap.size w14 u2 := (show Below w14.heap.size w14 _ from (by (repeat (first | (with_reducible assumption) | (with_reducible exact Below.refl _ _) | (with_reducible refine Below.drew ?_) | (with_reducible refine Below.drewN ?_ _) | (with_reducible refine Below.setCell ?_ ?_ _) | (with_reducible refine Below.alloc ?_ ?_ _) | assumption)); all_goals (first | omega | (simp; done) | (simp; omega)))).trans (bs2.mono (by first | omega | (simp; done) | (simp; omega))); have hzu2 := hbu2.size; have hxu2 := bs2.size; (try simp at hxu2); obtain ⟨hcu2, hfu2⟩ := bcell bs2; have hbu0u2 : Below u0.heap.size u0 u2 := (show Below u0.heap.size u0 _ from (by (repeat (first | (with_reducible assumption) | (with_reducible exact Below.refl _ _) | (with_reducible refine Below.drew ?_) | (with_reducible refine Below.drewN ?_ _) | (with_reducible refine Below.setCell ?_ ?_ _) | (with_reducible refine Below.alloc ?_ ?_ _) | assumption)); all_goals (first | omega | (simp; done) | (simp; omega)))).trans (bs2.mono (by first | omega | (simp; done) | (simp; omega))); have hbu1u2 : Below u1.heap.size u1 u2 := (show Below u1.heap.size u1 _ from (by (repeat (first | (with_reducible assumption) | (with_reducible exact Below.refl _ _) | (with_reducible refine Below.drew ?_) | (with_reducible refine Below.drewN ?_ _) | (with_reducible refine Below.setCell ?_ ?_ _) | (with_reducible refine Below.alloc ?_ ?_ _) | assumption)); all_goals (first | omega | (simp; done) | (simp; omega)))).trans (bs2.mono (by first | omega | (simp; done) | (simp; omega))); (try have hlw14u2 : w14.heap.size < u2.heap.size := by omega); (try have hlu0u2 : u0.heap.size < u2.heap.size := by omega); (try have hlu1u2 : u1.heap.size < u2.heap.size := by omega); have hs0u2 : ∀ o, u2.cell? ⟨w.heap.size, o, none⟩ = #[.int .i64 l0.wide, .int .i64 l0.high, .slice h0.values.A h0.values.n h0.values.c, .slice h0.grades.A h0.grades.n h0.grades.c][o]? := fun o => (Ka014.below hbu2 Ka014.lt).cell o; have hy0u2 : w.heap.size < u2.heap.size := (Ka014.below hbu2 Ka014.lt).lt; have hs1u2 : ∀ o, u2.cell? ⟨w.heap.size + 1, o, none⟩ = #[.int .i64 a1_0, .int .i64 a1_1][o]? := fun o => (Ka114.below hbu2 Ka114.lt).cell o; have hy1u2 : w.heap.size + 1 < u2.heap.size := (Ka114.below hbu2 Ka114.lt).lt; have hs2u2 : ∀ o, u2.cell? ⟨w.heap.size + 1 + 1, o, none⟩ = #[.int .i64 a2_0, .int .i64 a2_1][o]? := fun o => (Ka214.below hbu2 Ka214.lt).cell o; have hy2u2 : w.heap.size + 1 + 1 < u2.heap.size := (Ka214.below hbu2 Ka214.lt).lt)
              | (go_at_call_of 22 (Value.slice A3 n3 c3); refine (toInts_any ⟨A3, n3, c3⟩ l3 _ oka3 (Ra314.below (by (repeat (first | (with_reducible assumption) | (with_reducible exact Below.refl _ _) | (with_reducible refine Below.drew ?_) | (with_reducible refine Below.drewN ?_ _) | (with_reducible refine Below.setCell ?_ ?_ _) | (with_reducible refine Below.alloc ?_ ?_ _) | assumption)); all_goals (first | omega | (simp; done) | (simp; omega))))).mono ?_; rintro e u3 ⟨ks3, hes3, oks3, Rs3, Ws3, ss3, bs3⟩; unfold IntsV at hes3; subst hes3; have hbu3 : Below w14.heap.size w14 u3 := (show Below w14.heap.size w14 _ from (by (repeat (first | (with_reducible assumption) | (with_reducible exact Below.refl _ _) | (with_reducible refine Below.drew ?_) | (with_reducible refine Below.drewN ?_ _) | (with_reducible refine Below.setCell ?_ ?_ _) | (with_reducible refine Below.alloc ?_ ?_ _) | assumption)); all_goals (first | omega | (simp; done) | (simp; omega)))).trans (bs3.mono (by first | omega | (simp; done) | (simp; omega))); have hzu3 := hbu3.size; have hxu3 := bs3.size; (try simp at hxu3); obtain ⟨hcu3, hfu3⟩ := bcell bs3; have hbu0u3 : Below u0.heap.size u0 u3 := (show Below u0.heap.size u0 _ from (by (repeat (first | (with_reducible assumption) | (with_reducible exact Below.refl _ _) | (with_reducible refine Below.drew ?_) | (with_reducible refine Below.drewN ?_ _) | (with_reducible refine Below.setCell ?_ ?_ _) | (with_reducible refine Below.alloc ?_ ?_ _) | assumption)); all_goals (first | omega | (simp; done) | (simp; omega)))).trans (bs3.mono (by first | omega | (simp; done) | (simp; omega))); have hbu1u3 : Below u1.heap.size u1 u3 := (show Below u1.heap.size u1 _ from (by (repeat (first | (with_reducible assumption) | (with_reducible exact Below.refl _ _) | (with_reducible refine Below.drew ?_) | (with_reducible refine Below.drewN ?_ _) | (with_reducible refine Below.setCell ?_ ?_ _) | (with_reducible refine Below.alloc ?_ ?_ _) | assumption)); all_goals (first | omega | (simp; done) | (simp; omega)))).trans (bs3.mono (by first | omega | (simp; done) | (simp; omega))); have hbu2u3 : Below u2.heap.size u2 u3 := (show Below u2.heap.size u2 _ from (by (repeat (first | (with_reducible assumption) | (with_reducible exact Below.refl _ _) | (with_reducible refine Below.drew ?_) | (with_reducible refine Below.drewN ?_ _) | (with_reducible refine Below.setCell ?_ ?_ _) | (with_reducible refine Below.alloc ?_ ?_ _) | assumption)); all_goals (first | omega | (simp; done) | (simp; omega)))).trans (bs3.mono (by first | omega | (simp; done) | (simp; omega))); (try have hlw14u3 : w14.heap.size < u3.heap.size := by omega); (try have hlu0u3 : u0.heap.size < u3.heap.size := by omega); (try have hlu1u3 : u1.heap.size < u3.heap.size := by omega); (try have hlu2u3 : u2.heap.size < u3.heap.size := by omega); have hs0u3 : ∀ o, u3.cell? ⟨w.heap.size, o, none⟩ = #[.int .i64 l0.wide, .int .i64 l0.high, .slice h0.values.A h0.values.n h0.values.c, .slice h0.grades.A h0.grades.n h0.grades.c][o]? := fun o => (Ka014.below hbu3 Ka014.lt).cell o; have hy0u3 : w.heap.size < u3.heap.size := (Ka014.below hbu3 Ka014.lt).lt; have hs1u3 : ∀ o, u3.cell? ⟨w.heap.size + 1, o, none⟩ = #[.int .i64 a1_0, .int .i64 a1_1][o]? := fun o => (Ka114.below hbu3 Ka114.lt).cell o; have hy1u3 : w.heap.size + 1 < u3.heap.size := (Ka114.below hbu3 Ka114.lt).lt; have hs2u3 : ∀ o, u3.cell? ⟨w.heap.size + 1 + 1, o, none⟩ = #[.int .i64 a2_0, .int .i64 a2_1][o]? := fun o => (Ka214.below hbu3 Ka214.lt).cell o; have hy2u3 : w.heap.size + 1 + 1 < u3.heap.size := (Ka214.below hbu3 Ka214.lt).lt)
              | (go_at_call 23; refine (implPutLine'_any ks0 l0 a1_0 a1_1 a2_0 a2_1 ks3 l3 a4 _ oks0 (by first | exact Rs0 | exact Rs0.below (by (repeat (first | (with_reducible assumption) | (with_reducible exact Below.refl _ _) | (with_reducible refine Below.drew ?_) | (with_reducible refine Below.drewN ?_ _) | (with_reducible refine Below.setCell ?_ ?_ _) | (with_reducible refine Below.alloc ?_ ?_ _) | assumption)); all_goals (first | omega | (simp; done) | (simp; omega)))) oks3 (by first | exact Rs3 | exact Rs3.below (by (repeat (first | (with_reducible assumption) | (with_reducible exact Below.refl _ _) | (with_reducible refine Below.drew ?_) | (with_reducible refine Below.drewN ?_ _) | (with_reducible refine Below.setCell ?_ ?_ _) | (with_reducible refine Below.alloc ?_ ?_ _) | assumption)); all_goals (first | omega | (simp; done) | (simp; omega))))).mono ?_; rintro e uw ⟨kw, hew, okw, Rw, Ww, sw, bw⟩; unfold MosaicV at hew; subst hew; have hiw := WrAll.hi Ww; have low := RdAll.lo Rw; have Wwl := Ww.lower (show w14.heap.size ≤ _ from (by first | omega | (simp; done) | (simp; omega))); have hbuw : Below w14.heap.size w14 uw := (show Below w14.heap.size w14 _ from (by (repeat (first | (with_reducible assumption) | (with_reducible exact Below.refl _ _) | (with_reducible refine Below.drew ?_) | (with_reducible refine Below.drewN ?_ _) | (with_reducible refine Below.setCell ?_ ?_ _) | (with_reducible refine Below.alloc ?_ ?_ _) | assumption)); all_goals (first | omega | (simp; done) | (simp; omega)))).trans (bw.mono (by first | omega | (simp; done) | (simp; omega))); have hzuw := hbuw.size; have hxuw := bw.size; (try simp at hxuw); obtain ⟨hcuw, hfuw⟩ := bcell bw; have hbu0uw : Below u0.heap.size u0 uw := (show Below u0.heap.size u0 _ from (by (repeat (first | (with_reducible assumption) | (with_reducible exact Below.refl _ _) | (with_reducible refine Below.drew ?_) | (with_reducible refine Below.drewN ?_ _) | (with_reducible refine Below.setCell ?_ ?_ _) | (with_reducible refine Below.alloc ?_ ?_ _) | assumption)); all_goals (first | omega | (simp; done) | (simp; omega)))).trans (bw.mono (by first | omega | (simp; done) | (simp; omega))); have hbu1uw : Below u1.heap.size u1 uw := (show Below u1.heap.size u1 _ from (by (repeat (first | (with_reducible assumption) | (with_reducible exact Below.refl _ _) | (with_reducible refine Below.drew ?_) | (with_reducible refine Below.drewN ?_ _) | (with_reducible refine Below.setCell ?_ ?_ _) | (with_reducible refine Below.alloc ?_ ?_ _) | assumption)); all_goals (first | omega | (simp; done) | (simp; omega)))).trans (bw.mono (by first | omega | (simp; done) | (simp; omega))); have hbu2uw : Below u2.heap.size u2 uw := (show Below u2.heap.size u2 _ from (by (repeat (first | (with_reducible assumption) | (with_reducible exact Below.refl _ _) | (with_reducible refine Below.drew ?_) | (with_reducible refine Below.drewN ?_ _) | (with_reducible refine Below.setCell ?_ ?_ _) | (with_reducible refine Below.alloc ?_ ?_ _) | assumption)); all_goals (first | omega | (simp; done) | (simp; omega)))).trans (bw.mono (by first | omega | (simp; done) | (simp; omega))); have hbu3uw : Below u3.heap.size u3 uw := (show Below u3.heap.size u3 _ from (by (repeat (first | (with_reducible assumption) | (with_reducible exact Below.refl _ _) | (with_reducible refine Below.drew ?_) | (with_reducible refine Below.drewN ?_ _) | (with_reducible refine Below.setCell ?_ ?_ _) | (with_reducible refine Below.alloc ?_ ?_ _) | assumption)); all_goals (first | omega | (simp; done) | (simp; omega)))).trans (bw.mono (by first | omega | (simp; done) | (simp; omega))); (try have hlw14uw : w14.heap.size < uw.heap.size := by omega); (try have hlu0uw : u0.heap.size < uw.heap.size := by omega); (try have hlu1uw : u1.heap.size < uw.heap.size := by omega); (try have hlu2uw : u2.heap.size < uw.heap.size := by omega); (try have hlu3uw : u3.heap.size < uw.heap.size := by omega); have hs0uw : ∀ o, uw.cell? ⟨w.heap.size, o, none⟩ = #[.int .i64 l0.wide, .int .i64 l0.high, .slice h0.values.A h0.values.n h0.values.c, .slice h0.grades.A h0.grades.n h0.grades.c][o]? := fun o => (Ka014.below hbuw Ka014.lt).cell o; have hy0uw : w.heap.size < uw.heap.size := (Ka014.below hbuw Ka014.lt).lt; have hs1uw : ∀ o, uw.cell? ⟨w.heap.size + 1, o, none⟩ = #[.int .i64 a1_0, .int .i64 a1_1][o]? := fun o => (Ka114.below hbuw Ka114.lt).cell o; have hy1uw : w.heap.size + 1 < uw.heap.size := (Ka114.below hbuw Ka114.lt).lt; have hs2uw : ∀ o, uw.cell? ⟨w.heap.size + 1 + 1, o, none⟩ = #[.int .i64 a2_0, .int .i64 a2_1][o]? := fun o => (Ka214.below hbuw Ka214.lt).cell o; have hy2uw : w.heap.size + 1 + 1 < uw.heap.size := (Ka214.below hbuw Ka214.lt).lt))
          all_goals
            go_wp2_with fail
            go_meet
            refine ⟨_, kw, rfl, okw, ?_, ?_, sw, ?_, ?_, ?_, rfl, ?_⟩
            · repeat (first | (with_reducible exact Rw) | (with_reducible refine RdAll.drew_ ?_) | (with_reducible refine RdAll.alloc_ ?_ _) | ((with_reducible refine RdAll.cell_ ?_ ?_); rotate_left 1; (first | (refine low.ne ?_; (first | omega | (simp <;> omega))) | (refine hiw.ne ?_; (first | omega | (simp <;> omega))))))
            · repeat (first | (with_reducible exact Wwl) | (with_reducible refine WrAll.drew_ ?_) | (with_reducible refine WrAll.alloc_ ?_ Rw _) | (with_reducible refine WrAll.cell_ ?_))
            · repeat (first | (with_reducible refine Blk.drew ?_) | ((with_reducible refine Blk.newN _ _ _ ?_); (first | rfl | simp)) | (with_reducible refine Blk.set_all4 (a := .int .i64 0) (b := .int .i64 0) (c := .slice none 0 0) (d := .slice none 0 0) ?_) | ((with_reducible refine Blk.below ?_ bw ?_); rotate_left 1; (first | omega | (simp <;> omega))) | ((with_reducible refine Blk.below ?_ bs3 ?_); rotate_left 1; (first | omega | (simp <;> omega))) | ((with_reducible refine Blk.below ?_ bs2 ?_); rotate_left 1; (first | omega | (simp <;> omega))) | ((with_reducible refine Blk.below ?_ bs1 ?_); rotate_left 1; (first | omega | (simp <;> omega))) | ((with_reducible refine Blk.below ?_ bs0 ?_); rotate_left 1; (first | omega | (simp <;> omega))))
            · show w14.heap.size ≤ _
              exact (by first | omega | (simp; done) | (simp; omega))
            · (first | (refine low.ne ?_; (first | omega | (simp <;> omega))) | (refine hiw.ne ?_; (first | omega | (simp <;> omega))))
            · exact (by (repeat (first | (with_reducible assumption) | (with_reducible exact Below.refl _ _) | (with_reducible refine Below.drew ?_) | (with_reducible refine Below.drewN ?_ _) | (with_reducible refine Below.setCell ?_ ?_ _) | (with_reducible refine Below.alloc ?_ ?_ _) | assumption)); all_goals (first | omega | (simp; done) | (simp; omega)))
        case rest =>
          obtain ⟨gh0, kh0, rfl, okh0, Rh015, Wh015, sh0, Kh015, ggeh0, nbgh0, rfl, b15⟩ := hcut
          obtain ⟨w15, rfl⟩ : ∃ x : World, x = wc := ⟨_, rfl⟩
          have hb15 : Below w14.heap.size w14 w15 := (show Below w14.heap.size w14 _ from (by (repeat (first | (with_reducible assumption) | (with_reducible exact Below.refl _ _) | (with_reducible refine Below.drew ?_) | (with_reducible refine Below.drewN ?_ _) | (with_reducible refine Below.setCell ?_ ?_ _) | (with_reducible refine Below.alloc ?_ ?_ _) | assumption)); all_goals (first | omega | (simp; done) | (simp; omega)))).trans (b15.mono (by first | omega | (simp; done) | (simp; omega)))
          have z15 : w14.heap.size ≤ w15.heap.size := Nat.le_trans (by first | omega | (simp; done) | (simp; omega)) b15.size
          have Ka015 := Ka014.below hb15 Ka014.lt
          have Ka115 := Ka114.below hb15 Ka114.lt
          have Ka215 := Ka214.below hb15 Ka214.lt
          have Kw015 := Kw014.below hb15 Kw014.lt
          have Kx015 := Kx014.below hb15 Kx014.lt
          have Kg015 := Kg014.below hb15 Kg014.lt
          have Ra015 := Ra014.below hb15
          have Ra315 := Ra314.below hb15
          have Rw015 := Rw014.below hb15
          have Ww015 := Ww014.below Rw014 hb15
          have RG15 := RG14.below hb15
          have hw15 : Below w.heap.size w w15 := hw14.trans (hb15.mono hw14.size)
          clear Ww014 ca014 qa014 Ka014 ca114 qa114 Ka114 ca214 qa214 Ka214 cw014 qw014 Kw014 cx014 qx014 Kx014 cg014 qg014 Kg014 Ra014 Ra314 Rw014 RG14 b15 hb15 hw14
          have ca015 := fun o => Ka015.cell o
          have qa015 := Ka015.lt
          have ca115 := fun o => Ka115.cell o
          have qa115 := Ka115.lt
          have ca215 := fun o => Ka215.cell o
          have qa215 := Ka215.lt
          have cw015 := fun o => Kw015.cell o
          have qw015 := Kw015.lt
          have cx015 := fun o => Kx015.cell o
          have qx015 := Kx015.lt
          have cg015 := fun o => Kg015.cell o
          have qg015 := Kg015.lt
          have loh0 : Lo (MosaicR kh0) w15.heap.size := RdAll.lo Rh015
          have hih0 : Hi (MosaicR kh0) _ := WrAll.hi Wh015
          have ch015 := fun o => Kh015.cell o
          have qh015 := Kh015.lt
          have zgh0 : gh0 < w15.heap.size := Kh015.lt
          go_wp2_with fail
          refine (eqMosaic_any kh0 kw0 (plR l0 a1_0 a1_1 a2_0 a2_1 l3 a4) _ okh0 (Rh015.below (by (repeat (first | (with_reducible assumption) | (with_reducible exact Below.refl _ _) | (with_reducible refine Below.drew ?_) | (with_reducible refine Below.drewN ?_ _) | (with_reducible refine Below.setCell ?_ ?_ _) | (with_reducible refine Below.alloc ?_ ?_ _) | assumption)); all_goals (first | omega | (simp; done) | (simp; omega)))) (Rw015.below (by (repeat (first | (with_reducible assumption) | (with_reducible exact Below.refl _ _) | (with_reducible refine Below.drew ?_) | (with_reducible refine Below.drewN ?_ _) | (with_reducible refine Below.setCell ?_ ?_ _) | (with_reducible refine Below.alloc ?_ ?_ _) | assumption)); all_goals (first | omega | (simp; done) | (simp; omega))))).mono ?_
          rintro e w16 ⟨rfl, b16⟩
          have hb16 : Below w15.heap.size w15 w16 := (show Below w15.heap.size w15 _ from (by (repeat (first | (with_reducible assumption) | (with_reducible exact Below.refl _ _) | (with_reducible refine Below.drew ?_) | (with_reducible refine Below.drewN ?_ _) | (with_reducible refine Below.setCell ?_ ?_ _) | (with_reducible refine Below.alloc ?_ ?_ _) | assumption)); all_goals (first | omega | (simp; done) | (simp; omega)))).trans (b16.mono (by first | omega | (simp; done) | (simp; omega)))
          have z16 : w15.heap.size ≤ w16.heap.size := Nat.le_trans (by first | omega | (simp; done) | (simp; omega)) b16.size
          have Ka016 := Ka015.below hb16 Ka015.lt
          have Ka116 := Ka115.below hb16 Ka115.lt
          have Ka216 := Ka215.below hb16 Ka215.lt
          have Kw016 := Kw015.below hb16 Kw015.lt
          have Kx016 := Kx015.below hb16 Kx015.lt
          have Kg016 := Kg015.below hb16 Kg015.lt
          have Kh016 := Kh015.below hb16 Kh015.lt
          have Ra016 := Ra015.below hb16
          have Ra316 := Ra315.below hb16
          have Rw016 := Rw015.below hb16
          have Ww016 := Ww015.below Rw015 hb16
          have RG16 := RG15.below hb16
          have Rh016 := Rh015.below hb16
          have Wh016 := Wh015.below Rh015 hb16
          have hw16 : Below w.heap.size w w16 := hw15.trans (hb16.mono hw15.size)
          clear Wh015 Ww015 ca015 qa015 Ka015 ca115 qa115 Ka115 ca215 qa215 Ka215 cw015 qw015 Kw015 cx015 qx015 Kx015 cg015 qg015 Kg015 ch015 qh015 Kh015 Ra015 Ra315 Rw015 RG15 Rh015 b16 hb16 hw15
          have ca016 := fun o => Ka016.cell o
          have qa016 := Ka016.lt
          have ca116 := fun o => Ka116.cell o
          have qa116 := Ka116.lt
          have ca216 := fun o => Ka216.cell o
          have qa216 := Ka216.lt
          have cw016 := fun o => Kw016.cell o
          have qw016 := Kw016.lt
          have cx016 := fun o => Kx016.cell o
          have qx016 := Kx016.lt
          have cg016 := fun o => Kg016.cell o
          have qg016 := Kg016.lt
          have ch016 := fun o => Kh016.cell o
          have qh016 := Kh016.lt
          go_wp2_with fail
          refine (heldMosaic_any kg0 (plR l0 a1_0 a1_1 a2_0 a2_1 l3 a4) 1 _ okg0 (by omega) (by omega) (RG16.below (by (repeat (first | (with_reducible assumption) | (with_reducible exact Below.refl _ _) | (with_reducible refine Below.drew ?_) | (with_reducible refine Below.drewN ?_ _) | (with_reducible refine Below.setCell ?_ ?_ _) | (with_reducible refine Below.alloc ?_ ?_ _) | assumption)); all_goals (first | omega | (simp; done) | (simp; omega))))).mono ?_
          rintro e w17 ⟨rfl, b17⟩
          have hb17 : Below w16.heap.size w16 w17 := (show Below w16.heap.size w16 _ from (by (repeat (first | (with_reducible assumption) | (with_reducible exact Below.refl _ _) | (with_reducible refine Below.drew ?_) | (with_reducible refine Below.drewN ?_ _) | (with_reducible refine Below.setCell ?_ ?_ _) | (with_reducible refine Below.alloc ?_ ?_ _) | assumption)); all_goals (first | omega | (simp; done) | (simp; omega)))).trans (b17.mono (by first | omega | (simp; done) | (simp; omega)))
          have z17 : w16.heap.size ≤ w17.heap.size := Nat.le_trans (by first | omega | (simp; done) | (simp; omega)) b17.size
          have Ka017 := Ka016.below hb17 Ka016.lt
          have Ka117 := Ka116.below hb17 Ka116.lt
          have Ka217 := Ka216.below hb17 Ka216.lt
          have Kw017 := Kw016.below hb17 Kw016.lt
          have Kx017 := Kx016.below hb17 Kx016.lt
          have Kg017 := Kg016.below hb17 Kg016.lt
          have Kh017 := Kh016.below hb17 Kh016.lt
          have Ra017 := Ra016.below hb17
          have Ra317 := Ra316.below hb17
          have Rw017 := Rw016.below hb17
          have Ww017 := Ww016.below Rw016 hb17
          have RG17 := RG16.below hb17
          have Rh017 := Rh016.below hb17
          have Wh017 := Wh016.below Rh016 hb17
          have hw17 : Below w.heap.size w w17 := hw16.trans (hb17.mono hw16.size)
          clear Wh016 Ww016 ca016 qa016 Ka016 ca116 qa116 Ka116 ca216 qa216 Ka216 cw016 qw016 Kw016 cx016 qx016 Kx016 cg016 qg016 Kg016 ch016 qh016 Kh016 Ra016 Ra316 Rw016 RG16 Rh016 b17 hb17 hw16
          have ca017 := fun o => Ka017.cell o
          have qa017 := Ka017.lt
          have ca117 := fun o => Ka117.cell o
          have qa117 := Ka117.lt
          have ca217 := fun o => Ka217.cell o
          have qa217 := Ka217.lt
          have cw017 := fun o => Kw017.cell o
          have qw017 := Kw017.lt
          have cx017 := fun o => Kx017.cell o
          have qx017 := Kx017.lt
          have cg017 := fun o => Kg017.cell o
          have qg017 := Kg017.lt
          have ch017 := fun o => Kh017.cell o
          have qh017 := Kh017.lt
          go_wp2_with fail
          go_ret
          exact ⟨rfl, hw17⟩

theorem FnExactPutLine_walk (w : World) (v0 : Value) (g0 : MosaicArg w v0) (v1 : Value) (g1 : ∃ a1_0 a1_1 : Int, v1 = .agg #[.int .i64 a1_0, .int .i64 a1_1]) (v2 : Value) (g2 : ∃ a2_0 a2_1 : Int, v2 = .agg #[.int .i64 a2_0, .int .i64 a2_1]) (A3 : Option Addr) (n3 c3 : Nat) (l3 : List Int) (g3 : ArgI w A3 n3 c3 l3) (a4 : Int) (_ : (Lit.int .i64 a4).wf = true) :
    Calls Try.prog 5 #[v0, v1, v2, .slice A3 n3 c3, .int .i64 a4] w fun e w' => e = .returned (.bool true) ∧ Below w.heap.size w w' := by
  obtain ⟨h0, l0, rfl, mx0, r0⟩ := g0
  obtain ⟨a1_0, a1_1, rfl⟩ := g1
  obtain ⟨a2_0, a2_1, rfl⟩ := g2
  exact lawPutLine_any h0 l0 a1_0 a1_1 a2_0 a2_1 ⟨A3, n3, c3⟩ l3 a4 w mx0 r0   g3.max (RdAll.cons (s := ⟨A3, n3, ints l3⟩) g3.rd (RdAll.nil _)) 
end Go.Proofs.Ythmcnoloeeabbaa
