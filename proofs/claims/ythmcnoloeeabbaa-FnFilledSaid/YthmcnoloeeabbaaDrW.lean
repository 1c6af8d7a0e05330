/- spec.DrawMergeGrids. Existential: two grids of at most 900 cells. -/
import Derived.Test.YthmcnoloeeabbaaDrV
import Derived.Test.YthmcnoloeeabbaaReg
namespace Go.Proofs.Ythmcnoloeeabbaa
open Go.RowKit

theorem l22Draw_agg (L g : Nat) (w : World) (S : Src w L g) :
    Calls Try.prog 103 #[.pointer (some ⟨g, 0, none⟩)] w fun e w' => ∃ (A : Option Addr) (n c : Nat) (A2 : Option Addr) (n2 c2 : Nat) (l : DepthGridC), e = .returned (.agg #[.int .i64 l.size, .int .i64 l.wide, .int .i64 l.high, .slice A n c, .slice A2 n2 c2]) ∧ GriW w' w.heap.size ⟨⟨A, n, c⟩, ⟨A2, n2, c2⟩⟩ l ∧ Dr w w' L g :=
  (l22Draw_any L g w S).mono fun _ _ ⟨⟨⟨A, n, c⟩, ⟨A2, n2, c2⟩⟩, l, he, X, D⟩ => ⟨A, n, c, A2, n2, c2, l, he, X, D⟩
def DrawMG (w : World) (e : Ending) (w' : World) : Prop := ∃ (A : Option Addr) (n c : Nat) (A2 : Option Addr) (n2 c2 : Nat) (l : DepthGridC) (B : Option Addr) (m d : Nat) (B2 : Option Addr) (m2 d2 : Nat) (k : DepthGridC),
  e = .returned (.tuple #[.agg #[.int .i64 l.size, .int .i64 l.wide, .int .i64 l.high, .slice A n c, .slice A2 n2 c2], .agg #[.int .i64 k.size, .int .i64 k.wide, .int .i64 k.high, .slice B m d, .slice B2 m2 d2]]) ∧
  DepthGridOk ⟨⟨A, n, c⟩, ⟨A2, n2, c2⟩⟩ ∧ RdAll w' (DepthGridS ⟨⟨A, n, c⟩, ⟨A2, n2, c2⟩⟩ l) ∧ DepthGridOk ⟨⟨B, m, d⟩, ⟨B2, m2, d2⟩⟩ ∧ RdAll w' (DepthGridS ⟨⟨B, m, d⟩, ⟨B2, m2, d2⟩⟩ k) ∧ Below w.heap.size w w'
set_option maxRecDepth 100000 in
set_option maxHeartbeats 8000000 in
theorem drawMergeGrids_any (A : Option Addr) (n c : Nat) (bs : List Int) (w : World) (r : Rd w A n (byteV bs)) (hx : ∀ x ∈ bs, 0 ≤ x ∧ x ≤ 255) (hn : n ≤ 4096) :
    Calls Try.prog 45 #[.slice A n c] w (DrawMG w) := by
  have hb0 : Below w.heap.size w ((w.alloc (.cells #[.int .i64 0, .int .i64 0, .int .i64 0, .slice none 0 0, .slice none 0 0] 50)).alloc (.cells #[.int .i64 0, .int .i64 0, .int .i64 0, .slice none 0 0, .slice none 0 0] 50)) := ((Below.refl _ _).alloc (Nat.le_refl _) _).alloc (by simp) _
  have r0 := r.below hb0
  have K0 := (Blk.new w 50 #[.int .i64 0, .int .i64 0, .int .i64 0, .slice none 0 0, .slice none 0 0]).alloc (.cells #[.int .i64 0, .int .i64 0, .int .i64 0, .slice none 0 0, .slice none 0 0] 50)
  have K1 := Blk.newN (g := w.heap.size + 1) (w.alloc (.cells #[.int .i64 0, .int .i64 0, .int .i64 0, .slice none 0 0, .slice none 0 0] 50)) 50 #[.int .i64 0, .int .i64 0, .int .i64 0, .slice none 0 0, .slice none 0 0] (by simp)
  go_enter Try.func45, Try.ntmps45
  go_wp2_with fail
  generalize (w.alloc (.cells #[.int .i64 0, .int .i64 0, .int .i64 0, .slice none 0 0, .slice none 0 0] 50)).alloc (.cells #[.int .i64 0, .int .i64 0, .int .i64 0, .slice none 0 0, .slice none 0 0] 50) = w0 at hb0 r0 K0 K1 ⊢
  refine (l01From_any A n c bs _ r0 hx hn).mono ?_
  rintro e w1 ⟨g, rfl, S1, b1⟩
  have hg := S1.lt
  have q0 := K0.lt
  have q1 := K1.lt
  have K0 := K0.below b1 q0
  have K1 := K1.below b1 q1
  have D1 := Dr.start S1
  have z1 := b1.size
  have FIN : ∀ W, Dr w1 W w0.heap.size g → Below w.heap.size w W := fun W D => hb0.trans ((D.fin b1).mono hb0.size)
  have HF := Lib.hid FIN
  clear S1 r r0 FIN
  go_wp2_with fail
  refine (l22Draw_agg _ g _ D1.src).mono ?_
  rintro e w2 ⟨A3, n3, c3, A4, n4, c4, l7, rfl, G2, E2⟩
  have D2 := D1.next E2.gr E2.src
  have K0 := K0.nx E2.gr (by omega)
  have K1 := K1.nx E2.gr (by omega)
  have z2 : w1.heap.size ≤ w2.heap.size := E2.size
  clear D1 E2
  go_upto_region 3 with fail
  have BQ := Blk.new w2 50 #[.int .i64 l7.size, .int .i64 l7.wide, .int .i64 l7.high, .slice A3 n3 c3, .slice A4 n4 c4]
  have D3 := D2.alloc (.cells #[.int .i64 l7.size, .int .i64 l7.wide, .int .i64 l7.high, .slice A3 n3 c3, .slice A4 n4 c4] 50)
  have K0 := K0.alloc (.cells #[.int .i64 l7.size, .int .i64 l7.wide, .int .i64 l7.high, .slice A3 n3 c3, .slice A4 n4 c4] 50)
  have K1 := K1.alloc (.cells #[.int .i64 l7.size, .int .i64 l7.wide, .int .i64 l7.high, .slice A3 n3 c3, .slice A4 n4 c4] 50)
  have hQ0 : ∀ s ∈ DepthGridR ⟨⟨A3, n3, c3⟩, ⟨A4, n4, c4⟩⟩, s ≠ some w2.heap.size := (G2.rd.lo).ne (Nat.le_refl _)
  have G3 := G2.alloc (.cells #[.int .i64 l7.size, .int .i64 l7.wide, .int .i64 l7.high, .slice A3 n3 c3, .slice A4 n4 c4] 50)
  generalize w2.alloc (.cells #[.int .i64 l7.size, .int .i64 l7.wide, .int .i64 l7.high, .slice A3 n3 c3, .slice A4 n4 c4] 50) = w3 at BQ D3 K0 K1 G3 ⊢
  obtain ⟨Q, hQ⟩ : ∃ Q, w2.heap.size = Q := ⟨_, rfl⟩
  rw [hQ] at BQ hQ0 z2 ⊢
  clear D2 G2 hQ
  have hQg : g ≠ Q := by omega
  have hQr0 : w.heap.size ≠ Q := by omega
  have hQr1 : w.heap.size + 1 ≠ Q := by omega
  go_wp2_with fail
  refine (l01Next_any _ g 5 _ D3.src (by decide)).mono ?_
  rintro e w4 ⟨q, rfl, qa, qb, g4, S4⟩
  have D4 := D3.next g4 S4
  have K0 := K0.nx g4 (by omega)
  have K1 := K1.nx g4 (by omega)
  have B4 := BQ.nx g4 hQg
  have G4 := G3.nx g4 (by omega)
  clear D3 BQ G3 g4 S4
  by_cases hq : q = 0
  · subst hq
    have hS6 := fun o => (Blk.drew B4).cell o
    have HP := l22Draw_agg _ g w4.drew (D4.drew).src
    have zk := (D4.drew).size
    have D6 := D4.drew
    have K06 := Blk.drew K0
    have K16 := Blk.drew K1
    have B6 := Blk.drew B4
    have G6 := G4.bel (Below.drew (Below.refl _ _))
    go_wp2_with fail
    go_region_held3 (fun w' => ∀ o, w'.cell? ⟨Q, o, none⟩ = (#[.int .i64 l7.size, .int .i64 l7.wide, .int .i64 l7.high, .slice A3 n3 c3, .slice A4 n4 c4] : Array Value)[o]?)
      (first | (with_reducible assumption) | (intro o; go_keep))
      (first
        | (go_at_call 103; (with_reducible refine HP.mono ?_); rintro e w17 ⟨A5, n5, c5, A6, n6, c6, l9, rfl, X9, E9⟩; have D7 := D6.next E9.gr E9.src; have K07 := K06.nx E9.gr (by omega); have K17 := K16.nx E9.gr (by omega); have B7 := B6.nx E9.gr hQg; have G7 := G6.nx E9.gr (by omega); have hS7 := fun o => B7.cell o; have c0 := fun o => K07.cell o; have f0 := fun o => K07.frozen o; have g0 := K07.lt; have c1 := fun o => K17.cell o; have f1 := fun o => K17.frozen o; have g1 := K17.lt))
    all_goals
      have HB := HF.out _ D7
      have N0 : Blk ((((((((((w17.setCell ⟨w.heap.size, 0, none⟩ (.int .i64 l7.size)).setCell ⟨w.heap.size, 1, none⟩ (.int .i64 l7.wide)).setCell ⟨w.heap.size, 2, none⟩ (.int .i64 l7.high)).setCell ⟨w.heap.size, 3, none⟩ (.slice A3 n3 c3)).setCell ⟨w.heap.size, 4, none⟩ (.slice A4 n4 c4)).setCell ⟨w.heap.size + 1, 0, none⟩ (.int .i64 l9.size)).setCell ⟨w.heap.size + 1, 1, none⟩ (.int .i64 l9.wide)).setCell ⟨w.heap.size + 1, 2, none⟩ (.int .i64 l9.high)).setCell ⟨w.heap.size + 1, 3, none⟩ (.slice A5 n5 c5)).setCell ⟨w.heap.size + 1, 4, none⟩ (.slice A6 n6 c6)) w.heap.size 50 #[.int .i64 l7.size, .int .i64 l7.wide, .int .i64 l7.high, .slice A3 n3 c3, .slice A4 n4 c4] := ((((((((((K07.set_ 0 (.int .i64 l7.size)).set_ 1 (.int .i64 l7.wide)).set_ 2 (.int .i64 l7.high)).set_ 3 (.slice A3 n3 c3)).set_ 4 (.slice A4 n4 c4)).far (p := ⟨w.heap.size + 1, 0, none⟩) (by simp only; omega) (.int .i64 l9.size)).far (p := ⟨w.heap.size + 1, 1, none⟩) (by simp only; omega) (.int .i64 l9.wide)).far (p := ⟨w.heap.size + 1, 2, none⟩) (by simp only; omega) (.int .i64 l9.high)).far (p := ⟨w.heap.size + 1, 3, none⟩) (by simp only; omega) (.slice A5 n5 c5)).far (p := ⟨w.heap.size + 1, 4, none⟩) (by simp only; omega) (.slice A6 n6 c6))
      have N1 : Blk ((((((((((w17.setCell ⟨w.heap.size, 0, none⟩ (.int .i64 l7.size)).setCell ⟨w.heap.size, 1, none⟩ (.int .i64 l7.wide)).setCell ⟨w.heap.size, 2, none⟩ (.int .i64 l7.high)).setCell ⟨w.heap.size, 3, none⟩ (.slice A3 n3 c3)).setCell ⟨w.heap.size, 4, none⟩ (.slice A4 n4 c4)).setCell ⟨w.heap.size + 1, 0, none⟩ (.int .i64 l9.size)).setCell ⟨w.heap.size + 1, 1, none⟩ (.int .i64 l9.wide)).setCell ⟨w.heap.size + 1, 2, none⟩ (.int .i64 l9.high)).setCell ⟨w.heap.size + 1, 3, none⟩ (.slice A5 n5 c5)).setCell ⟨w.heap.size + 1, 4, none⟩ (.slice A6 n6 c6)) (w.heap.size + 1) 50 #[.int .i64 l9.size, .int .i64 l9.wide, .int .i64 l9.high, .slice A5 n5 c5, .slice A6 n6 c6] := ((((((((((K17.far (p := ⟨w.heap.size, 0, none⟩) (by simp only; omega) (.int .i64 l7.size)).far (p := ⟨w.heap.size, 1, none⟩) (by simp only; omega) (.int .i64 l7.wide)).far (p := ⟨w.heap.size, 2, none⟩) (by simp only; omega) (.int .i64 l7.high)).far (p := ⟨w.heap.size, 3, none⟩) (by simp only; omega) (.slice A3 n3 c3)).far (p := ⟨w.heap.size, 4, none⟩) (by simp only; omega) (.slice A4 n4 c4)).set_ 0 (.int .i64 l9.size)).set_ 1 (.int .i64 l9.wide)).set_ 2 (.int .i64 l9.high)).set_ 3 (.slice A5 n5 c5)).set_ 4 (.slice A6 n6 c6))
      have NB : Below w.heap.size w ((((((((((w17.setCell ⟨w.heap.size, 0, none⟩ (.int .i64 l7.size)).setCell ⟨w.heap.size, 1, none⟩ (.int .i64 l7.wide)).setCell ⟨w.heap.size, 2, none⟩ (.int .i64 l7.high)).setCell ⟨w.heap.size, 3, none⟩ (.slice A3 n3 c3)).setCell ⟨w.heap.size, 4, none⟩ (.slice A4 n4 c4)).setCell ⟨w.heap.size + 1, 0, none⟩ (.int .i64 l9.size)).setCell ⟨w.heap.size + 1, 1, none⟩ (.int .i64 l9.wide)).setCell ⟨w.heap.size + 1, 2, none⟩ (.int .i64 l9.high)).setCell ⟨w.heap.size + 1, 3, none⟩ (.slice A5 n5 c5)).setCell ⟨w.heap.size + 1, 4, none⟩ (.slice A6 n6 c6)) := ((((((((((HB.setCell (p := ⟨w.heap.size, 0, none⟩) (Nat.le_refl _) (.int .i64 l7.size)).setCell (p := ⟨w.heap.size, 1, none⟩) (Nat.le_refl _) (.int .i64 l7.wide)).setCell (p := ⟨w.heap.size, 2, none⟩) (Nat.le_refl _) (.int .i64 l7.high)).setCell (p := ⟨w.heap.size, 3, none⟩) (Nat.le_refl _) (.slice A3 n3 c3)).setCell (p := ⟨w.heap.size, 4, none⟩) (Nat.le_refl _) (.slice A4 n4 c4)).setCell (p := ⟨w.heap.size + 1, 0, none⟩) (Nat.le_succ _) (.int .i64 l9.size)).setCell (p := ⟨w.heap.size + 1, 1, none⟩) (Nat.le_succ _) (.int .i64 l9.wide)).setCell (p := ⟨w.heap.size + 1, 2, none⟩) (Nat.le_succ _) (.int .i64 l9.high)).setCell (p := ⟨w.heap.size + 1, 3, none⟩) (Nat.le_succ _) (.slice A5 n5 c5)).setCell (p := ⟨w.heap.size + 1, 4, none⟩) (Nat.le_succ _) (.slice A6 n6 c6))
      have NX := ((((((((((G7.cell (b := w.heap.size) (i := 0) (by omega) (.int .i64 l7.size)).cell (b := w.heap.size) (i := 1) (by omega) (.int .i64 l7.wide)).cell (b := w.heap.size) (i := 2) (by omega) (.int .i64 l7.high)).cell (b := w.heap.size) (i := 3) (by omega) (.slice A3 n3 c3)).cell (b := w.heap.size) (i := 4) (by omega) (.slice A4 n4 c4)).cell (b := w.heap.size + 1) (i := 0) (by omega) (.int .i64 l9.size)).cell (b := w.heap.size + 1) (i := 1) (by omega) (.int .i64 l9.wide)).cell (b := w.heap.size + 1) (i := 2) (by omega) (.int .i64 l9.high)).cell (b := w.heap.size + 1) (i := 3) (by omega) (.slice A5 n5 c5)).cell (b := w.heap.size + 1) (i := 4) (by omega) (.slice A6 n6 c6))
      have NY := ((((((((((X9.cell (b := w.heap.size) (i := 0) (by omega) (.int .i64 l7.size)).cell (b := w.heap.size) (i := 1) (by omega) (.int .i64 l7.wide)).cell (b := w.heap.size) (i := 2) (by omega) (.int .i64 l7.high)).cell (b := w.heap.size) (i := 3) (by omega) (.slice A3 n3 c3)).cell (b := w.heap.size) (i := 4) (by omega) (.slice A4 n4 c4)).cell (b := w.heap.size + 1) (i := 0) (by omega) (.int .i64 l9.size)).cell (b := w.heap.size + 1) (i := 1) (by omega) (.int .i64 l9.wide)).cell (b := w.heap.size + 1) (i := 2) (by omega) (.int .i64 l9.high)).cell (b := w.heap.size + 1) (i := 3) (by omega) (.slice A5 n5 c5)).cell (b := w.heap.size + 1) (i := 4) (by omega) (.slice A6 n6 c6))
      generalize ((((((((((w17.setCell ⟨w.heap.size, 0, none⟩ (.int .i64 l7.size)).setCell ⟨w.heap.size, 1, none⟩ (.int .i64 l7.wide)).setCell ⟨w.heap.size, 2, none⟩ (.int .i64 l7.high)).setCell ⟨w.heap.size, 3, none⟩ (.slice A3 n3 c3)).setCell ⟨w.heap.size, 4, none⟩ (.slice A4 n4 c4)).setCell ⟨w.heap.size + 1, 0, none⟩ (.int .i64 l9.size)).setCell ⟨w.heap.size + 1, 1, none⟩ (.int .i64 l9.wide)).setCell ⟨w.heap.size + 1, 2, none⟩ (.int .i64 l9.high)).setCell ⟨w.heap.size + 1, 3, none⟩ (.slice A5 n5 c5)).setCell ⟨w.heap.size + 1, 4, none⟩ (.slice A6 n6 c6)) = wz at N0 N1 NB NX NY ⊢
      have y0 := fun o => N0.cell o
      have y1 := fun o => N1.cell o
      have p0 := N0.lt
      have p1 := N1.lt
      go_wp2
      refine bodyPost_ret (v := .tuple #[.agg #[.int .i64 l7.size, .int .i64 l7.wide, .int .i64 l7.high, .slice A3 n3 c3, .slice A4 n4 c4], .agg #[.int .i64 l9.size, .int .i64 l9.wide, .int .i64 l9.high, .slice A5 n5 c5, .slice A6 n6 c6]]) (by simp [results, Try.results45, go_sem, y0, y1, p0, p1]) rfl ?_
      exact ⟨A3, n3, c3, A4, n4, c4, l7, A5, n5, c5, A6, n6, c6, l9, rfl, NX.ok, NX.rd, NY.ok, NY.rd, NB⟩
  have hqb : (q == 0) = false := by rw [beq_eq_false_iff_ne]; exact hq
  have cB := fun o => B4.cell o
  have fB := fun o => B4.frozen o
  have gB := B4.lt
  go_wp2_with fail
  refine (specIsDepthGrid_any ⟨⟨A3, n3, c3⟩, ⟨A4, n4, c4⟩⟩ l7 _ G4.ok G4.rd).mono ?_
  rintro e w5 ⟨rfl, b5⟩
  have D5 := D4.bel b5
  have K0 := K0.below b5 K0.lt
  have K1 := K1.below b5 K1.lt
  have B5 := B4.below b5 gB
  have G5 := G4.bel b5
  clear D4 B4 G4 b5 cB fB gB
  rcases Bool.eq_false_or_eq_true (gridOk l7) with ho | ho
  case inr =>
    rw [ho]
    have hS6 := fun o => (Blk.drew B5).cell o
    have HP := l22Draw_agg _ g w5.drew (D5.drew).src
    have zk := (D5.drew).size
    have D6 := D5.drew
    have K06 := Blk.drew K0
    have K16 := Blk.drew K1
    have B6 := Blk.drew B5
    have G6 := G5.bel (Below.drew (Below.refl _ _))
    go_wp2_with fail
    go_region_held3 (fun w' => ∀ o, w'.cell? ⟨Q, o, none⟩ = (#[.int .i64 l7.size, .int .i64 l7.wide, .int .i64 l7.high, .slice A3 n3 c3, .slice A4 n4 c4] : Array Value)[o]?)
      (first | (with_reducible assumption) | (intro o; go_keep))
      (first
        | (go_at_call 103; (with_reducible refine HP.mono ?_); rintro e w17 ⟨A5, n5, c5, A6, n6, c6, l9, rfl, X9, E9⟩; have D7 := D6.next E9.gr E9.src; have K07 := K06.nx E9.gr (by omega); have K17 := K16.nx E9.gr (by omega); have B7 := B6.nx E9.gr hQg; have G7 := G6.nx E9.gr (by omega); have hS7 := fun o => B7.cell o; have c0 := fun o => K07.cell o; have f0 := fun o => K07.frozen o; have g0 := K07.lt; have c1 := fun o => K17.cell o; have f1 := fun o => K17.frozen o; have g1 := K17.lt))
    all_goals
      have HB := HF.out _ D7
      have N0 : Blk ((((((((((w17.setCell ⟨w.heap.size, 0, none⟩ (.int .i64 l7.size)).setCell ⟨w.heap.size, 1, none⟩ (.int .i64 l7.wide)).setCell ⟨w.heap.size, 2, none⟩ (.int .i64 l7.high)).setCell ⟨w.heap.size, 3, none⟩ (.slice A3 n3 c3)).setCell ⟨w.heap.size, 4, none⟩ (.slice A4 n4 c4)).setCell ⟨w.heap.size + 1, 0, none⟩ (.int .i64 l9.size)).setCell ⟨w.heap.size + 1, 1, none⟩ (.int .i64 l9.wide)).setCell ⟨w.heap.size + 1, 2, none⟩ (.int .i64 l9.high)).setCell ⟨w.heap.size + 1, 3, none⟩ (.slice A5 n5 c5)).setCell ⟨w.heap.size + 1, 4, none⟩ (.slice A6 n6 c6)) w.heap.size 50 #[.int .i64 l7.size, .int .i64 l7.wide, .int .i64 l7.high, .slice A3 n3 c3, .slice A4 n4 c4] := ((((((((((K07.set_ 0 (.int .i64 l7.size)).set_ 1 (.int .i64 l7.wide)).set_ 2 (.int .i64 l7.high)).set_ 3 (.slice A3 n3 c3)).set_ 4 (.slice A4 n4 c4)).far (p := ⟨w.heap.size + 1, 0, none⟩) (by simp only; omega) (.int .i64 l9.size)).far (p := ⟨w.heap.size + 1, 1, none⟩) (by simp only; omega) (.int .i64 l9.wide)).far (p := ⟨w.heap.size + 1, 2, none⟩) (by simp only; omega) (.int .i64 l9.high)).far (p := ⟨w.heap.size + 1, 3, none⟩) (by simp only; omega) (.slice A5 n5 c5)).far (p := ⟨w.heap.size + 1, 4, none⟩) (by simp only; omega) (.slice A6 n6 c6))
      have N1 : Blk ((((((((((w17.setCell ⟨w.heap.size, 0, none⟩ (.int .i64 l7.size)).setCell ⟨w.heap.size, 1, none⟩ (.int .i64 l7.wide)).setCell ⟨w.heap.size, 2, none⟩ (.int .i64 l7.high)).setCell ⟨w.heap.size, 3, none⟩ (.slice A3 n3 c3)).setCell ⟨w.heap.size, 4, none⟩ (.slice A4 n4 c4)).setCell ⟨w.heap.size + 1, 0, none⟩ (.int .i64 l9.size)).setCell ⟨w.heap.size + 1, 1, none⟩ (.int .i64 l9.wide)).setCell ⟨w.heap.size + 1, 2, none⟩ (.int .i64 l9.high)).setCell ⟨w.heap.size + 1, 3, none⟩ (.slice A5 n5 c5)).setCell ⟨w.heap.size + 1, 4, none⟩ (.slice A6 n6 c6)) (w.heap.size + 1) 50 #[.int .i64 l9.size, .int .i64 l9.wide, .int .i64 l9.high, .slice A5 n5 c5, .slice A6 n6 c6] := ((((((((((K17.far (p := ⟨w.heap.size, 0, none⟩) (by simp only; omega) (.int .i64 l7.size)).far (p := ⟨w.heap.size, 1, none⟩) (by simp only; omega) (.int .i64 l7.wide)).far (p := ⟨w.heap.size, 2, none⟩) (by simp only; omega) (.int .i64 l7.high)).far (p := ⟨w.heap.size, 3, none⟩) (by simp only; omega) (.slice A3 n3 c3)).far (p := ⟨w.heap.size, 4, none⟩) (by simp only; omega) (.slice A4 n4 c4)).set_ 0 (.int .i64 l9.size)).set_ 1 (.int .i64 l9.wide)).set_ 2 (.int .i64 l9.high)).set_ 3 (.slice A5 n5 c5)).set_ 4 (.slice A6 n6 c6))
      have NB : Below w.heap.size w ((((((((((w17.setCell ⟨w.heap.size, 0, none⟩ (.int .i64 l7.size)).setCell ⟨w.heap.size, 1, none⟩ (.int .i64 l7.wide)).setCell ⟨w.heap.size, 2, none⟩ (.int .i64 l7.high)).setCell ⟨w.heap.size, 3, none⟩ (.slice A3 n3 c3)).setCell ⟨w.heap.size, 4, none⟩ (.slice A4 n4 c4)).setCell ⟨w.heap.size + 1, 0, none⟩ (.int .i64 l9.size)).setCell ⟨w.heap.size + 1, 1, none⟩ (.int .i64 l9.wide)).setCell ⟨w.heap.size + 1, 2, none⟩ (.int .i64 l9.high)).setCell ⟨w.heap.size + 1, 3, none⟩ (.slice A5 n5 c5)).setCell ⟨w.heap.size + 1, 4, none⟩ (.slice A6 n6 c6)) := ((((((((((HB.setCell (p := ⟨w.heap.size, 0, none⟩) (Nat.le_refl _) (.int .i64 l7.size)).setCell (p := ⟨w.heap.size, 1, none⟩) (Nat.le_refl _) (.int .i64 l7.wide)).setCell (p := ⟨w.heap.size, 2, none⟩) (Nat.le_refl _) (.int .i64 l7.high)).setCell (p := ⟨w.heap.size, 3, none⟩) (Nat.le_refl _) (.slice A3 n3 c3)).setCell (p := ⟨w.heap.size, 4, none⟩) (Nat.le_refl _) (.slice A4 n4 c4)).setCell (p := ⟨w.heap.size + 1, 0, none⟩) (Nat.le_succ _) (.int .i64 l9.size)).setCell (p := ⟨w.heap.size + 1, 1, none⟩) (Nat.le_succ _) (.int .i64 l9.wide)).setCell (p := ⟨w.heap.size + 1, 2, none⟩) (Nat.le_succ _) (.int .i64 l9.high)).setCell (p := ⟨w.heap.size + 1, 3, none⟩) (Nat.le_succ _) (.slice A5 n5 c5)).setCell (p := ⟨w.heap.size + 1, 4, none⟩) (Nat.le_succ _) (.slice A6 n6 c6))
      have NX := ((((((((((G7.cell (b := w.heap.size) (i := 0) (by omega) (.int .i64 l7.size)).cell (b := w.heap.size) (i := 1) (by omega) (.int .i64 l7.wide)).cell (b := w.heap.size) (i := 2) (by omega) (.int .i64 l7.high)).cell (b := w.heap.size) (i := 3) (by omega) (.slice A3 n3 c3)).cell (b := w.heap.size) (i := 4) (by omega) (.slice A4 n4 c4)).cell (b := w.heap.size + 1) (i := 0) (by omega) (.int .i64 l9.size)).cell (b := w.heap.size + 1) (i := 1) (by omega) (.int .i64 l9.wide)).cell (b := w.heap.size + 1) (i := 2) (by omega) (.int .i64 l9.high)).cell (b := w.heap.size + 1) (i := 3) (by omega) (.slice A5 n5 c5)).cell (b := w.heap.size + 1) (i := 4) (by omega) (.slice A6 n6 c6))
      have NY := ((((((((((X9.cell (b := w.heap.size) (i := 0) (by omega) (.int .i64 l7.size)).cell (b := w.heap.size) (i := 1) (by omega) (.int .i64 l7.wide)).cell (b := w.heap.size) (i := 2) (by omega) (.int .i64 l7.high)).cell (b := w.heap.size) (i := 3) (by omega) (.slice A3 n3 c3)).cell (b := w.heap.size) (i := 4) (by omega) (.slice A4 n4 c4)).cell (b := w.heap.size + 1) (i := 0) (by omega) (.int .i64 l9.size)).cell (b := w.heap.size + 1) (i := 1) (by omega) (.int .i64 l9.wide)).cell (b := w.heap.size + 1) (i := 2) (by omega) (.int .i64 l9.high)).cell (b := w.heap.size + 1) (i := 3) (by omega) (.slice A5 n5 c5)).cell (b := w.heap.size + 1) (i := 4) (by omega) (.slice A6 n6 c6))
      generalize ((((((((((w17.setCell ⟨w.heap.size, 0, none⟩ (.int .i64 l7.size)).setCell ⟨w.heap.size, 1, none⟩ (.int .i64 l7.wide)).setCell ⟨w.heap.size, 2, none⟩ (.int .i64 l7.high)).setCell ⟨w.heap.size, 3, none⟩ (.slice A3 n3 c3)).setCell ⟨w.heap.size, 4, none⟩ (.slice A4 n4 c4)).setCell ⟨w.heap.size + 1, 0, none⟩ (.int .i64 l9.size)).setCell ⟨w.heap.size + 1, 1, none⟩ (.int .i64 l9.wide)).setCell ⟨w.heap.size + 1, 2, none⟩ (.int .i64 l9.high)).setCell ⟨w.heap.size + 1, 3, none⟩ (.slice A5 n5 c5)).setCell ⟨w.heap.size + 1, 4, none⟩ (.slice A6 n6 c6)) = wz at N0 N1 NB NX NY ⊢
      have y0 := fun o => N0.cell o
      have y1 := fun o => N1.cell o
      have p0 := N0.lt
      have p1 := N1.lt
      go_wp2
      refine bodyPost_ret (v := .tuple #[.agg #[.int .i64 l7.size, .int .i64 l7.wide, .int .i64 l7.high, .slice A3 n3 c3, .slice A4 n4 c4], .agg #[.int .i64 l9.size, .int .i64 l9.wide, .int .i64 l9.high, .slice A5 n5 c5, .slice A6 n6 c6]]) (by simp [results, Try.results45, go_sem, y0, y1, p0, p1]) rfl ?_
      exact ⟨A3, n3, c3, A4, n4, c4, l7, A5, n5, c5, A6, n6, c6, l9, rfl, NX.ok, NX.rd, NY.ok, NY.rd, NB⟩
  have M := GOk.of ho
  rw [ho]
  clear ho hq hqb qa qb
  have cB := fun o => B5.cell o
  have fB := fun o => B5.frozen o
  have gB := B5.lt
  go_wp2_with fail
  refine (l21Draw_any _ g _ D5.src).mono ?_
  rintro e w6 ⟨⟨HA, hN, hC⟩, xs, rfl, h201, hnc, R6, low6, E6⟩
  simp only at h201 hnc R6 low6
  have low0 : ∀ ad, HA = some ad → 0 < hN * 4 → some g ≠ some ad.block := fun ad e hn c => by
    have := low6 ad e hn; have := D5.size; injection c with c; omega
  have D6 := D5.next E6.gr E6.src
  have K0 := K0.nx E6.gr (by omega)
  have K1 := K1.nx E6.gr (by omega)
  have B6 := B5.nx E6.gr hQg
  have G6 := G5.nx E6.gr (by omega)
  clear D5 B5 G5 E6 cB fB gB
  go_upto_region 6 with fail
  go_wp2_with fail
  refine (specAreSoundings_any HA hN hC xs _ (by omega) R6).mono ?_
  rintro e w7 ⟨rfl, b7⟩
  have D7 := D6.bel b7
  have K0 := K0.below b7 K0.lt
  have K1 := K1.below b7 K1.lt
  have B7 := B6.below b7 B6.lt
  have G7 := G6.bel b7
  have R7 := R6.below b7
  clear D6 B6 G6 R6 b7 low6
  rcases Bool.eq_false_or_eq_true (sndsB xs hN) with hs | hs
  · rw [hs]
    have HS := Lib.hid hs
    clear hs
    have cB := fun o => B7.cell o
    have fB := fun o => B7.frozen o
    have gB := B7.lt
    have mw0 := M.w0; have mw1 := M.w1; have mh0 := M.h0; have mh1 := M.h1
    go_wp2_with fail
    refine (specGrids_any l7.size l7.wide l7.high (HA) (hN) (hC) (xs) _ (by omega) R7).mono ?_
    rintro e w8 ⟨⟨⟨A5, n5, c5⟩, ⟨A6, n6, c6⟩⟩, rfl, ok8, X8, Y8, P8, b8⟩
    have sh : gshape l7.size l7.wide l7.high = true := by unfold gshape; rw [inR_mk M.s0 M.s1, inR_mk M.w0 M.w1, inR_mk M.h0 M.h1]; rfl
    have c0e := gsC_mk HS.out sh
    have l8e : gsR l7.size l7.wide l7.high (xs) (hN) = gsTo l7.size l7.wide.toNat l7.high.toNat (xs) (hN) := by unfold gsR; rw [if_pos c0e]
    have k8 : GOk (gsR l7.size l7.wide l7.high (xs) (hN)) := by
      rw [l8e]
      refine GOk.of (gs_ok M.s0 M.s1 (by omega) (by omega) (by omega) (by omega) ?_ (by omega))
      have := HS.out; unfold sndsB at this; simp only [Bool.and_eq_true] at this; exact this.1
    have HX := GriW.of k8 X8 Y8 P8
    have hGlo : ∀ s ∈ DepthGridR ⟨⟨A3, n3, c3⟩, ⟨A4, n4, c4⟩⟩, ∀ b, s = some b → b < w7.heap.size := G7.rd.lo
    have z71 := D7.size
    have zr := K1.lt
    have zg := D7.src.lt
    obtain ⟨Z7, hZ7⟩ : ∃ z, w7.heap.size = z := ⟨_, rfl⟩
    have zb8 := b8.size
    have GX := G7.bel b8
    have D := D7.bel b8
    have K0 := K0.below b8 K0.lt
    have K1 := K1.below b8 K1.lt
    have BQ := B7.below b8 gB
    rw [hZ7] at HX hGlo z71 zr zg gB zb8
    rw [c0e]
    clear c0e l8e sh HS X8 Y8 P8 b8 ok8 D7 R7 G7 B7 cB fB mw0 mw1 mh0 mh1 hZ7
    generalize gsR l7.size l7.wide l7.high (xs) (hN) = l8 at k8 HX ⊢
    unfold DepthGridV
    simp only
    go_upto_region 9 with fail
    have BH := Blk.new w8 50 #[.int .i64 l8.size, .int .i64 l8.wide, .int .i64 l8.high, .slice A5 n5 c5, .slice A6 n6 c6]
    have hH0 : ∀ s ∈ DepthGridR ⟨⟨A5, n5, c5⟩, ⟨A6, n6, c6⟩⟩, s ≠ some w8.heap.size := (HX.rd.lo).ne (Nat.le_refl _)
    have hG0 : ∀ s ∈ DepthGridR ⟨⟨A3, n3, c3⟩, ⟨A4, n4, c4⟩⟩, s ≠ some w8.heap.size := (GX.rd.lo).ne (Nat.le_refl _)
    have GX := GX.alloc (.cells #[.int .i64 l8.size, .int .i64 l8.wide, .int .i64 l8.high, .slice A5 n5 c5, .slice A6 n6 c6] 50)
    have HX := HX.alloc (.cells #[.int .i64 l8.size, .int .i64 l8.wide, .int .i64 l8.high, .slice A5 n5 c5, .slice A6 n6 c6] 50)
    have D := D.alloc (.cells #[.int .i64 l8.size, .int .i64 l8.wide, .int .i64 l8.high, .slice A5 n5 c5, .slice A6 n6 c6] 50)
    have K0 := K0.alloc (.cells #[.int .i64 l8.size, .int .i64 l8.wide, .int .i64 l8.high, .slice A5 n5 c5, .slice A6 n6 c6] 50)
    have K1 := K1.alloc (.cells #[.int .i64 l8.size, .int .i64 l8.wide, .int .i64 l8.high, .slice A5 n5 c5, .slice A6 n6 c6] 50)
    have BQ := BQ.alloc (.cells #[.int .i64 l8.size, .int .i64 l8.wide, .int .i64 l8.high, .slice A5 n5 c5, .slice A6 n6 c6] 50)
    generalize w8.alloc (.cells #[.int .i64 l8.size, .int .i64 l8.wide, .int .i64 l8.high, .slice A5 n5 c5, .slice A6 n6 c6] 50) = w9 at BH GX HX D K0 K1 BQ ⊢
    obtain ⟨QH, hQH⟩ : ∃ q, w8.heap.size = q := ⟨_, rfl⟩
    rw [hQH] at BH hH0 hG0 zb8 ⊢
    clear hQH
    have hHg : g ≠ QH := by omega
    have hHQ : Q ≠ QH := by omega
    go_wp2_with fail
    refine (l01Next_any _ g 3 _ D.src (by decide)).mono ?_
    rintro e w10 ⟨p, rfl, pa, pb, g10, S10⟩
    have D := D.next g10 S10
    have K0 := K0.nx g10 (by omega)
    have K1 := K1.nx g10 (by omega)
    have BQ := BQ.nx g10 hQg
    have BH := BH.nx g10 hHg
    have GX := GX.nx g10 (by omega)
    have HX := HX.nx g10 (by omega)
    clear g10 S10
    by_cases hp : p = 0
    · subst hp
      have cH := fun o => BH.cell o
      have fH := fun o => BH.frozen o
      have gH := BH.lt
      have HF2 := specFillGaps'_any ⟨⟨A5, n5, c5⟩, ⟨A6, n6, c6⟩⟩ l8 w10 HX.ok HX.rd
      simp only [DepthGridV] at HF2
      go_wp2_with fail
      refine HF2.mono ?_
      rintro e w11 ⟨⟨⟨A7, n7, c7⟩, ⟨A8, n8, c8⟩⟩, rfl, ok11, X11, Y11, P11, b11⟩
      have HX := fg_side_ok k8 X11 Y11 P11
      have hH11 : ∀ s ∈ DepthGridR ⟨⟨A7, n7, c7⟩, ⟨A8, n8, c8⟩⟩, s ≠ some QH := HX.ne gH
      have HX := HX.lower (C := Z7) (by omega)
      have GX := GX.bel b11
      have D := D.bel b11
      have K0 := K0.below b11 K0.lt
      have K1 := K1.below b11 K1.lt
      have BQ := BQ.below b11 BQ.lt
      have BH := BH.below b11 gH
      clear cH fH gH HF2 X11 Y11 P11 b11 ok11 hH0 k8
      generalize fgR l8 = l11 at HX
      unfold DepthGridV
      simp only
      have cH := fun o => BH.cell o
      have fH := fun o => BH.frozen o
      have gH := BH.lt
      go_upto_region 11 with fail
      have HX := (((((HX.cellne (i := 0) hH11 (.int .i64 l11.size)).cellne (i := 1) hH11 (.int .i64 l11.wide)).cellne (i := 2) hH11 (.int .i64 l11.high)).cellne (i := 3) hH11 (.slice A7 n7 c7)).cellne (i := 4) hH11 (.slice A8 n8 c8))
      have GX := (((((GX.cellne (i := 0) hG0 (.int .i64 l11.size)).cellne (i := 1) hG0 (.int .i64 l11.wide)).cellne (i := 2) hG0 (.int .i64 l11.high)).cellne (i := 3) hG0 (.slice A7 n7 c7)).cellne (i := 4) hG0 (.slice A8 n8 c8))
      have K0 := (((((K0.far (p := ⟨QH, 0, none⟩) (by simp only; omega) (.int .i64 l11.size)).far (p := ⟨QH, 1, none⟩) (by simp only; omega) (.int .i64 l11.wide)).far (p := ⟨QH, 2, none⟩) (by simp only; omega) (.int .i64 l11.high)).far (p := ⟨QH, 3, none⟩) (by simp only; omega) (.slice A7 n7 c7)).far (p := ⟨QH, 4, none⟩) (by simp only; omega) (.slice A8 n8 c8))
      have K1 := (((((K1.far (p := ⟨QH, 0, none⟩) (by simp only; omega) (.int .i64 l11.size)).far (p := ⟨QH, 1, none⟩) (by simp only; omega) (.int .i64 l11.wide)).far (p := ⟨QH, 2, none⟩) (by simp only; omega) (.int .i64 l11.high)).far (p := ⟨QH, 3, none⟩) (by simp only; omega) (.slice A7 n7 c7)).far (p := ⟨QH, 4, none⟩) (by simp only; omega) (.slice A8 n8 c8))
      have BQ := (((((BQ.far (p := ⟨QH, 0, none⟩) hHQ (.int .i64 l11.size)).far (p := ⟨QH, 1, none⟩) hHQ (.int .i64 l11.wide)).far (p := ⟨QH, 2, none⟩) hHQ (.int .i64 l11.high)).far (p := ⟨QH, 3, none⟩) hHQ (.slice A7 n7 c7)).far (p := ⟨QH, 4, none⟩) hHQ (.slice A8 n8 c8))
      have D := (((((D.set_ (p := ⟨QH, 0, none⟩) (by simp only; omega) (.int .i64 l11.size)).set_ (p := ⟨QH, 1, none⟩) (by simp only; omega) (.int .i64 l11.wide)).set_ (p := ⟨QH, 2, none⟩) (by simp only; omega) (.int .i64 l11.high)).set_ (p := ⟨QH, 3, none⟩) (by simp only; omega) (.slice A7 n7 c7)).set_ (p := ⟨QH, 4, none⟩) (by simp only; omega) (.slice A8 n8 c8))
      have BH : Blk _ QH 50 #[.int .i64 l11.size, .int .i64 l11.wide, .int .i64 l11.high, .slice A7 n7 c7, .slice A8 n8 c8] := (((((BH.set_ 0 (.int .i64 l11.size)).set_ 1 (.int .i64 l11.wide)).set_ 2 (.int .i64 l11.high)).set_ 3 (.slice A7 n7 c7)).set_ 4 (.slice A8 n8 c8))
      clear cH fH gH
      generalize (((((w11.setCell ⟨QH, 0, none⟩ (.int .i64 l11.size)).setCell ⟨QH, 1, none⟩ (.int .i64 l11.wide)).setCell ⟨QH, 2, none⟩ (.int .i64 l11.high)).setCell ⟨QH, 3, none⟩ (.slice A7 n7 c7)).setCell ⟨QH, 4, none⟩ (.slice A8 n8 c8)) = w12 at HX GX K0 K1 BQ D BH ⊢
      go_wp2_with fail
      refine (l01Next_any _ g 30 _ D.src (by decide)).mono ?_
      rintro e w13 ⟨p2, rfl, pa2, pb2, g13, S13⟩
      have D := D.next g13 S13
      have K0 := K0.nx g13 (by omega)
      have K1 := K1.nx g13 (by omega)
      have BQ := BQ.nx g13 hQg
      have BH := BH.nx g13 hHg
      have GX := GX.nx g13 (by omega)
      have HX := HX.nx g13 (by omega)
      clear g13 S13
      by_cases h2 : p2 = 0
      · subst h2
        obtain ⟨a5, rfl, hv⟩ := HX.rd.head.int (show 0 < n7 from HX.pos)
        rw [Addr.add_zero'] at hv
        have hp0 : 0 < n7 := HX.pos
        have hnI : (0 : Int) < (n7 : Int) := by omega
        have hrow : blkp (some a5) n7 = some a5.block := by unfold blkp; rw [if_neg (by omega)]; rfl
        have ha5 : Z7 ≤ a5.block := HX.wr.hi _ (List.mem_cons_self ..) a5.block hrow
        have haH : a5.block ≠ QH := fun c => hH11 _ (List.mem_cons_self ..) (by rw [← c]; exact hrow)
        have cH := fun o => BH.cell o
        have gH := BH.lt
        by_cases hcv : l11.counts.getD 0 0 = 0
        · have hcb : (l11.counts.getD 0 0 != 0) = false := by simpa using hcv
          have hcc : (l11.counts.getD 0 0 == 0) = true := by simpa using hcv
          rw [hcv] at hv
          clear hcv hcb hcc
          go_upto_region 13 with fail
          clear cH hv
          have cB := fun o => BQ.cell o
          have cH := fun o => BH.cell o
          have c0 := fun o => K0.cell o
          have f0 := fun o => K0.frozen o
          have g0 := K0.lt
          have c1 := fun o => K1.cell o
          have f1 := fun o => K1.frozen o
          have g1 := K1.lt
          have zk := D.size
          go_wp2_with fail
          go_region_held3 (fun w' => (∀ o, w'.cell? ⟨Q, o, none⟩ = (#[.int .i64 l7.size, .int .i64 l7.wide, .int .i64 l7.high, .slice A3 n3 c3, .slice A4 n4 c4] : Array Value)[o]?) ∧ (∀ o, w'.cell? ⟨QH, o, none⟩ = (#[.int .i64 l11.size, .int .i64 l11.wide, .int .i64 l11.high, .slice (some a5) n7 c7, .slice A8 n8 c8] : Array Value)[o]?))
            (((with_reducible refine ⟨?_, ?_⟩) <;> (first | (with_reducible assumption) | ((with_reducible refine cells_drew ?_); (with_reducible assumption)) | ((try (with_reducible refine cells_drew ?_)); (repeat (with_reducible refine cells_set ?_ (by omega))); (first | (with_reducible assumption) | ((with_reducible refine cells_drew ?_); (with_reducible assumption)))))))
            (fail)
          all_goals
            have HB := HF.out _ D
            have N0 : Blk (((((((((((w13.setCell ⟨w.heap.size, 0, none⟩ (.int .i64 l7.size)).setCell ⟨w.heap.size, 1, none⟩ (.int .i64 l7.wide)).setCell ⟨w.heap.size, 2, none⟩ (.int .i64 l7.high)).setCell ⟨w.heap.size, 3, none⟩ (.slice A3 n3 c3)).setCell ⟨w.heap.size, 4, none⟩ (.slice A4 n4 c4)).setCell ⟨w.heap.size + 1, 0, none⟩ (.int .i64 l11.size)).setCell ⟨w.heap.size + 1, 1, none⟩ (.int .i64 l11.wide)).setCell ⟨w.heap.size + 1, 2, none⟩ (.int .i64 l11.high)).setCell ⟨w.heap.size + 1, 3, none⟩ (.slice (some a5) n7 c7)).setCell ⟨w.heap.size + 1, 4, none⟩ (.slice A8 n8 c8))).drew w.heap.size 50 #[.int .i64 l7.size, .int .i64 l7.wide, .int .i64 l7.high, .slice A3 n3 c3, .slice A4 n4 c4] := (Blk.drew ((((((((((K0.set_ 0 (.int .i64 l7.size)).set_ 1 (.int .i64 l7.wide)).set_ 2 (.int .i64 l7.high)).set_ 3 (.slice A3 n3 c3)).set_ 4 (.slice A4 n4 c4)).far (p := ⟨w.heap.size + 1, 0, none⟩) (by simp only; omega) (.int .i64 l11.size)).far (p := ⟨w.heap.size + 1, 1, none⟩) (by simp only; omega) (.int .i64 l11.wide)).far (p := ⟨w.heap.size + 1, 2, none⟩) (by simp only; omega) (.int .i64 l11.high)).far (p := ⟨w.heap.size + 1, 3, none⟩) (by simp only; omega) (.slice (some a5) n7 c7)).far (p := ⟨w.heap.size + 1, 4, none⟩) (by simp only; omega) (.slice A8 n8 c8)))
            have N1 : Blk (((((((((((w13.setCell ⟨w.heap.size, 0, none⟩ (.int .i64 l7.size)).setCell ⟨w.heap.size, 1, none⟩ (.int .i64 l7.wide)).setCell ⟨w.heap.size, 2, none⟩ (.int .i64 l7.high)).setCell ⟨w.heap.size, 3, none⟩ (.slice A3 n3 c3)).setCell ⟨w.heap.size, 4, none⟩ (.slice A4 n4 c4)).setCell ⟨w.heap.size + 1, 0, none⟩ (.int .i64 l11.size)).setCell ⟨w.heap.size + 1, 1, none⟩ (.int .i64 l11.wide)).setCell ⟨w.heap.size + 1, 2, none⟩ (.int .i64 l11.high)).setCell ⟨w.heap.size + 1, 3, none⟩ (.slice (some a5) n7 c7)).setCell ⟨w.heap.size + 1, 4, none⟩ (.slice A8 n8 c8))).drew (w.heap.size + 1) 50 #[.int .i64 l11.size, .int .i64 l11.wide, .int .i64 l11.high, .slice (some a5) n7 c7, .slice A8 n8 c8] := (Blk.drew ((((((((((K1.far (p := ⟨w.heap.size, 0, none⟩) (by simp only; omega) (.int .i64 l7.size)).far (p := ⟨w.heap.size, 1, none⟩) (by simp only; omega) (.int .i64 l7.wide)).far (p := ⟨w.heap.size, 2, none⟩) (by simp only; omega) (.int .i64 l7.high)).far (p := ⟨w.heap.size, 3, none⟩) (by simp only; omega) (.slice A3 n3 c3)).far (p := ⟨w.heap.size, 4, none⟩) (by simp only; omega) (.slice A4 n4 c4)).set_ 0 (.int .i64 l11.size)).set_ 1 (.int .i64 l11.wide)).set_ 2 (.int .i64 l11.high)).set_ 3 (.slice (some a5) n7 c7)).set_ 4 (.slice A8 n8 c8)))
            have NB : Below w.heap.size w (((((((((((w13.setCell ⟨w.heap.size, 0, none⟩ (.int .i64 l7.size)).setCell ⟨w.heap.size, 1, none⟩ (.int .i64 l7.wide)).setCell ⟨w.heap.size, 2, none⟩ (.int .i64 l7.high)).setCell ⟨w.heap.size, 3, none⟩ (.slice A3 n3 c3)).setCell ⟨w.heap.size, 4, none⟩ (.slice A4 n4 c4)).setCell ⟨w.heap.size + 1, 0, none⟩ (.int .i64 l11.size)).setCell ⟨w.heap.size + 1, 1, none⟩ (.int .i64 l11.wide)).setCell ⟨w.heap.size + 1, 2, none⟩ (.int .i64 l11.high)).setCell ⟨w.heap.size + 1, 3, none⟩ (.slice (some a5) n7 c7)).setCell ⟨w.heap.size + 1, 4, none⟩ (.slice A8 n8 c8))).drew := (Below.drew ((((((((((HB.setCell (p := ⟨w.heap.size, 0, none⟩) (Nat.le_refl _) (.int .i64 l7.size)).setCell (p := ⟨w.heap.size, 1, none⟩) (Nat.le_refl _) (.int .i64 l7.wide)).setCell (p := ⟨w.heap.size, 2, none⟩) (Nat.le_refl _) (.int .i64 l7.high)).setCell (p := ⟨w.heap.size, 3, none⟩) (Nat.le_refl _) (.slice A3 n3 c3)).setCell (p := ⟨w.heap.size, 4, none⟩) (Nat.le_refl _) (.slice A4 n4 c4)).setCell (p := ⟨w.heap.size + 1, 0, none⟩) (Nat.le_succ _) (.int .i64 l11.size)).setCell (p := ⟨w.heap.size + 1, 1, none⟩) (Nat.le_succ _) (.int .i64 l11.wide)).setCell (p := ⟨w.heap.size + 1, 2, none⟩) (Nat.le_succ _) (.int .i64 l11.high)).setCell (p := ⟨w.heap.size + 1, 3, none⟩) (Nat.le_succ _) (.slice (some a5) n7 c7)).setCell (p := ⟨w.heap.size + 1, 4, none⟩) (Nat.le_succ _) (.slice A8 n8 c8)))
            have NX := (((((((((((GX.cell (b := w.heap.size) (i := 0) (by omega) (.int .i64 l7.size)).cell (b := w.heap.size) (i := 1) (by omega) (.int .i64 l7.wide)).cell (b := w.heap.size) (i := 2) (by omega) (.int .i64 l7.high)).cell (b := w.heap.size) (i := 3) (by omega) (.slice A3 n3 c3)).cell (b := w.heap.size) (i := 4) (by omega) (.slice A4 n4 c4)).cell (b := w.heap.size + 1) (i := 0) (by omega) (.int .i64 l11.size)).cell (b := w.heap.size + 1) (i := 1) (by omega) (.int .i64 l11.wide)).cell (b := w.heap.size + 1) (i := 2) (by omega) (.int .i64 l11.high)).cell (b := w.heap.size + 1) (i := 3) (by omega) (.slice (some a5) n7 c7)).cell (b := w.heap.size + 1) (i := 4) (by omega) (.slice A8 n8 c8)).bel (Below.drew (Below.refl _ _)))
            have NY := (((((((((((HX.cell (b := w.heap.size) (i := 0) (by omega) (.int .i64 l7.size)).cell (b := w.heap.size) (i := 1) (by omega) (.int .i64 l7.wide)).cell (b := w.heap.size) (i := 2) (by omega) (.int .i64 l7.high)).cell (b := w.heap.size) (i := 3) (by omega) (.slice A3 n3 c3)).cell (b := w.heap.size) (i := 4) (by omega) (.slice A4 n4 c4)).cell (b := w.heap.size + 1) (i := 0) (by omega) (.int .i64 l11.size)).cell (b := w.heap.size + 1) (i := 1) (by omega) (.int .i64 l11.wide)).cell (b := w.heap.size + 1) (i := 2) (by omega) (.int .i64 l11.high)).cell (b := w.heap.size + 1) (i := 3) (by omega) (.slice (some a5) n7 c7)).cell (b := w.heap.size + 1) (i := 4) (by omega) (.slice A8 n8 c8)).bel (Below.drew (Below.refl _ _)))
            generalize (((((((((((w13.setCell ⟨w.heap.size, 0, none⟩ (.int .i64 l7.size)).setCell ⟨w.heap.size, 1, none⟩ (.int .i64 l7.wide)).setCell ⟨w.heap.size, 2, none⟩ (.int .i64 l7.high)).setCell ⟨w.heap.size, 3, none⟩ (.slice A3 n3 c3)).setCell ⟨w.heap.size, 4, none⟩ (.slice A4 n4 c4)).setCell ⟨w.heap.size + 1, 0, none⟩ (.int .i64 l11.size)).setCell ⟨w.heap.size + 1, 1, none⟩ (.int .i64 l11.wide)).setCell ⟨w.heap.size + 1, 2, none⟩ (.int .i64 l11.high)).setCell ⟨w.heap.size + 1, 3, none⟩ (.slice (some a5) n7 c7)).setCell ⟨w.heap.size + 1, 4, none⟩ (.slice A8 n8 c8))).drew = wz at N0 N1 NB NX NY ⊢
            have y0 := fun o => N0.cell o
            have y1 := fun o => N1.cell o
            have p0 := N0.lt
            have p1 := N1.lt
            go_wp2
            refine bodyPost_ret (v := .tuple #[.agg #[.int .i64 l7.size, .int .i64 l7.wide, .int .i64 l7.high, .slice A3 n3 c3, .slice A4 n4 c4], .agg #[.int .i64 l11.size, .int .i64 l11.wide, .int .i64 l11.high, .slice (some a5) n7 c7, .slice A8 n8 c8]]) (by simp [results, Try.results45, go_sem, y0, y1, p0, p1]) rfl ?_
            exact ⟨A3, n3, c3, A4, n4, c4, l7, (some a5), n7, c7, A8, n8, c8, l11, rfl, NX.ok, NX.rd, NY.ok, NY.rd, NB⟩
        · have hcb : (l11.counts.getD 0 0 != 0) = true := by simpa using hcv
          have hcc : (l11.counts.getD 0 0 == 0) = false := by rw [beq_eq_false_iff_ne]; exact hcv
          obtain ⟨_, ⟨⟩, -, hf⟩ := HX.wr.head hp0
          have hf := hf 0 hp0
          rw [Addr.add_zero'] at hf
          have HX := HX.set_c (ad := a5) rfl 1000000000000
          have GX := GX.setne (p := a5) (fun s hs c => by have := hGlo s hs _ c; omega) (.int .i64 1000000000000)
          have K0 := K0.far (p := a5) (by omega) (.int .i64 1000000000000)
          have K1 := K1.far (p := a5) (by omega) (.int .i64 1000000000000)
          have BQ := BQ.far (p := a5) (by omega) (.int .i64 1000000000000)
          have BH := BH.far (p := a5) haH.symm (.int .i64 1000000000000)
          have D := D.set_ (p := a5) (by omega) (.int .i64 1000000000000)
          obtain ⟨cv, hcve⟩ : ∃ v : Int, l11.counts.getD 0 0 = v := ⟨_, rfl⟩
          rw [hcve] at hv hcb hcc
          clear hcv hcve
          go_upto_region 13 with fail
          clear cH hv hf hcb hcc
          generalize w13.setCell a5 (.int .i64 1000000000000) = w14 at HX GX K0 K1 BQ BH D ⊢
          have cB := fun o => BQ.cell o
          have cH := fun o => BH.cell o
          have c0 := fun o => K0.cell o
          have f0 := fun o => K0.frozen o
          have g0 := K0.lt
          have c1 := fun o => K1.cell o
          have f1 := fun o => K1.frozen o
          have g1 := K1.lt
          have zk := D.size
          go_wp2_with fail
          go_region_held3 (fun w' => (∀ o, w'.cell? ⟨Q, o, none⟩ = (#[.int .i64 l7.size, .int .i64 l7.wide, .int .i64 l7.high, .slice A3 n3 c3, .slice A4 n4 c4] : Array Value)[o]?) ∧ (∀ o, w'.cell? ⟨QH, o, none⟩ = (#[.int .i64 (⟨l11.size, l11.wide, l11.high, l11.counts.set 0 1000000000000, l11.depths⟩ : DepthGridC).size, .int .i64 (⟨l11.size, l11.wide, l11.high, l11.counts.set 0 1000000000000, l11.depths⟩ : DepthGridC).wide, .int .i64 (⟨l11.size, l11.wide, l11.high, l11.counts.set 0 1000000000000, l11.depths⟩ : DepthGridC).high, .slice (some a5) n7 c7, .slice A8 n8 c8] : Array Value)[o]?))
            (((with_reducible refine ⟨?_, ?_⟩) <;> (first | (with_reducible assumption) | ((with_reducible refine cells_drew ?_); (with_reducible assumption)) | ((try (with_reducible refine cells_drew ?_)); (repeat (with_reducible refine cells_set ?_ (by omega))); (first | (with_reducible assumption) | ((with_reducible refine cells_drew ?_); (with_reducible assumption)))))))
            (fail)
          all_goals
            have HB := HF.out _ D
            have N0 : Blk (((((((((((w14.setCell ⟨w.heap.size, 0, none⟩ (.int .i64 l7.size)).setCell ⟨w.heap.size, 1, none⟩ (.int .i64 l7.wide)).setCell ⟨w.heap.size, 2, none⟩ (.int .i64 l7.high)).setCell ⟨w.heap.size, 3, none⟩ (.slice A3 n3 c3)).setCell ⟨w.heap.size, 4, none⟩ (.slice A4 n4 c4)).setCell ⟨w.heap.size + 1, 0, none⟩ (.int .i64 (⟨l11.size, l11.wide, l11.high, l11.counts.set 0 1000000000000, l11.depths⟩ : DepthGridC).size)).setCell ⟨w.heap.size + 1, 1, none⟩ (.int .i64 (⟨l11.size, l11.wide, l11.high, l11.counts.set 0 1000000000000, l11.depths⟩ : DepthGridC).wide)).setCell ⟨w.heap.size + 1, 2, none⟩ (.int .i64 (⟨l11.size, l11.wide, l11.high, l11.counts.set 0 1000000000000, l11.depths⟩ : DepthGridC).high)).setCell ⟨w.heap.size + 1, 3, none⟩ (.slice (some a5) n7 c7)).setCell ⟨w.heap.size + 1, 4, none⟩ (.slice A8 n8 c8))).drew w.heap.size 50 #[.int .i64 l7.size, .int .i64 l7.wide, .int .i64 l7.high, .slice A3 n3 c3, .slice A4 n4 c4] := (Blk.drew ((((((((((K0.set_ 0 (.int .i64 l7.size)).set_ 1 (.int .i64 l7.wide)).set_ 2 (.int .i64 l7.high)).set_ 3 (.slice A3 n3 c3)).set_ 4 (.slice A4 n4 c4)).far (p := ⟨w.heap.size + 1, 0, none⟩) (by simp only; omega) (.int .i64 (⟨l11.size, l11.wide, l11.high, l11.counts.set 0 1000000000000, l11.depths⟩ : DepthGridC).size)).far (p := ⟨w.heap.size + 1, 1, none⟩) (by simp only; omega) (.int .i64 (⟨l11.size, l11.wide, l11.high, l11.counts.set 0 1000000000000, l11.depths⟩ : DepthGridC).wide)).far (p := ⟨w.heap.size + 1, 2, none⟩) (by simp only; omega) (.int .i64 (⟨l11.size, l11.wide, l11.high, l11.counts.set 0 1000000000000, l11.depths⟩ : DepthGridC).high)).far (p := ⟨w.heap.size + 1, 3, none⟩) (by simp only; omega) (.slice (some a5) n7 c7)).far (p := ⟨w.heap.size + 1, 4, none⟩) (by simp only; omega) (.slice A8 n8 c8)))
            have N1 : Blk (((((((((((w14.setCell ⟨w.heap.size, 0, none⟩ (.int .i64 l7.size)).setCell ⟨w.heap.size, 1, none⟩ (.int .i64 l7.wide)).setCell ⟨w.heap.size, 2, none⟩ (.int .i64 l7.high)).setCell ⟨w.heap.size, 3, none⟩ (.slice A3 n3 c3)).setCell ⟨w.heap.size, 4, none⟩ (.slice A4 n4 c4)).setCell ⟨w.heap.size + 1, 0, none⟩ (.int .i64 (⟨l11.size, l11.wide, l11.high, l11.counts.set 0 1000000000000, l11.depths⟩ : DepthGridC).size)).setCell ⟨w.heap.size + 1, 1, none⟩ (.int .i64 (⟨l11.size, l11.wide, l11.high, l11.counts.set 0 1000000000000, l11.depths⟩ : DepthGridC).wide)).setCell ⟨w.heap.size + 1, 2, none⟩ (.int .i64 (⟨l11.size, l11.wide, l11.high, l11.counts.set 0 1000000000000, l11.depths⟩ : DepthGridC).high)).setCell ⟨w.heap.size + 1, 3, none⟩ (.slice (some a5) n7 c7)).setCell ⟨w.heap.size + 1, 4, none⟩ (.slice A8 n8 c8))).drew (w.heap.size + 1) 50 #[.int .i64 (⟨l11.size, l11.wide, l11.high, l11.counts.set 0 1000000000000, l11.depths⟩ : DepthGridC).size, .int .i64 (⟨l11.size, l11.wide, l11.high, l11.counts.set 0 1000000000000, l11.depths⟩ : DepthGridC).wide, .int .i64 (⟨l11.size, l11.wide, l11.high, l11.counts.set 0 1000000000000, l11.depths⟩ : DepthGridC).high, .slice (some a5) n7 c7, .slice A8 n8 c8] := (Blk.drew ((((((((((K1.far (p := ⟨w.heap.size, 0, none⟩) (by simp only; omega) (.int .i64 l7.size)).far (p := ⟨w.heap.size, 1, none⟩) (by simp only; omega) (.int .i64 l7.wide)).far (p := ⟨w.heap.size, 2, none⟩) (by simp only; omega) (.int .i64 l7.high)).far (p := ⟨w.heap.size, 3, none⟩) (by simp only; omega) (.slice A3 n3 c3)).far (p := ⟨w.heap.size, 4, none⟩) (by simp only; omega) (.slice A4 n4 c4)).set_ 0 (.int .i64 (⟨l11.size, l11.wide, l11.high, l11.counts.set 0 1000000000000, l11.depths⟩ : DepthGridC).size)).set_ 1 (.int .i64 (⟨l11.size, l11.wide, l11.high, l11.counts.set 0 1000000000000, l11.depths⟩ : DepthGridC).wide)).set_ 2 (.int .i64 (⟨l11.size, l11.wide, l11.high, l11.counts.set 0 1000000000000, l11.depths⟩ : DepthGridC).high)).set_ 3 (.slice (some a5) n7 c7)).set_ 4 (.slice A8 n8 c8)))
            have NB : Below w.heap.size w (((((((((((w14.setCell ⟨w.heap.size, 0, none⟩ (.int .i64 l7.size)).setCell ⟨w.heap.size, 1, none⟩ (.int .i64 l7.wide)).setCell ⟨w.heap.size, 2, none⟩ (.int .i64 l7.high)).setCell ⟨w.heap.size, 3, none⟩ (.slice A3 n3 c3)).setCell ⟨w.heap.size, 4, none⟩ (.slice A4 n4 c4)).setCell ⟨w.heap.size + 1, 0, none⟩ (.int .i64 (⟨l11.size, l11.wide, l11.high, l11.counts.set 0 1000000000000, l11.depths⟩ : DepthGridC).size)).setCell ⟨w.heap.size + 1, 1, none⟩ (.int .i64 (⟨l11.size, l11.wide, l11.high, l11.counts.set 0 1000000000000, l11.depths⟩ : DepthGridC).wide)).setCell ⟨w.heap.size + 1, 2, none⟩ (.int .i64 (⟨l11.size, l11.wide, l11.high, l11.counts.set 0 1000000000000, l11.depths⟩ : DepthGridC).high)).setCell ⟨w.heap.size + 1, 3, none⟩ (.slice (some a5) n7 c7)).setCell ⟨w.heap.size + 1, 4, none⟩ (.slice A8 n8 c8))).drew := (Below.drew ((((((((((HB.setCell (p := ⟨w.heap.size, 0, none⟩) (Nat.le_refl _) (.int .i64 l7.size)).setCell (p := ⟨w.heap.size, 1, none⟩) (Nat.le_refl _) (.int .i64 l7.wide)).setCell (p := ⟨w.heap.size, 2, none⟩) (Nat.le_refl _) (.int .i64 l7.high)).setCell (p := ⟨w.heap.size, 3, none⟩) (Nat.le_refl _) (.slice A3 n3 c3)).setCell (p := ⟨w.heap.size, 4, none⟩) (Nat.le_refl _) (.slice A4 n4 c4)).setCell (p := ⟨w.heap.size + 1, 0, none⟩) (Nat.le_succ _) (.int .i64 (⟨l11.size, l11.wide, l11.high, l11.counts.set 0 1000000000000, l11.depths⟩ : DepthGridC).size)).setCell (p := ⟨w.heap.size + 1, 1, none⟩) (Nat.le_succ _) (.int .i64 (⟨l11.size, l11.wide, l11.high, l11.counts.set 0 1000000000000, l11.depths⟩ : DepthGridC).wide)).setCell (p := ⟨w.heap.size + 1, 2, none⟩) (Nat.le_succ _) (.int .i64 (⟨l11.size, l11.wide, l11.high, l11.counts.set 0 1000000000000, l11.depths⟩ : DepthGridC).high)).setCell (p := ⟨w.heap.size + 1, 3, none⟩) (Nat.le_succ _) (.slice (some a5) n7 c7)).setCell (p := ⟨w.heap.size + 1, 4, none⟩) (Nat.le_succ _) (.slice A8 n8 c8)))
            have NX := (((((((((((GX.cell (b := w.heap.size) (i := 0) (by omega) (.int .i64 l7.size)).cell (b := w.heap.size) (i := 1) (by omega) (.int .i64 l7.wide)).cell (b := w.heap.size) (i := 2) (by omega) (.int .i64 l7.high)).cell (b := w.heap.size) (i := 3) (by omega) (.slice A3 n3 c3)).cell (b := w.heap.size) (i := 4) (by omega) (.slice A4 n4 c4)).cell (b := w.heap.size + 1) (i := 0) (by omega) (.int .i64 (⟨l11.size, l11.wide, l11.high, l11.counts.set 0 1000000000000, l11.depths⟩ : DepthGridC).size)).cell (b := w.heap.size + 1) (i := 1) (by omega) (.int .i64 (⟨l11.size, l11.wide, l11.high, l11.counts.set 0 1000000000000, l11.depths⟩ : DepthGridC).wide)).cell (b := w.heap.size + 1) (i := 2) (by omega) (.int .i64 (⟨l11.size, l11.wide, l11.high, l11.counts.set 0 1000000000000, l11.depths⟩ : DepthGridC).high)).cell (b := w.heap.size + 1) (i := 3) (by omega) (.slice (some a5) n7 c7)).cell (b := w.heap.size + 1) (i := 4) (by omega) (.slice A8 n8 c8)).bel (Below.drew (Below.refl _ _)))
            have NY := (((((((((((HX.cell (b := w.heap.size) (i := 0) (by omega) (.int .i64 l7.size)).cell (b := w.heap.size) (i := 1) (by omega) (.int .i64 l7.wide)).cell (b := w.heap.size) (i := 2) (by omega) (.int .i64 l7.high)).cell (b := w.heap.size) (i := 3) (by omega) (.slice A3 n3 c3)).cell (b := w.heap.size) (i := 4) (by omega) (.slice A4 n4 c4)).cell (b := w.heap.size + 1) (i := 0) (by omega) (.int .i64 (⟨l11.size, l11.wide, l11.high, l11.counts.set 0 1000000000000, l11.depths⟩ : DepthGridC).size)).cell (b := w.heap.size + 1) (i := 1) (by omega) (.int .i64 (⟨l11.size, l11.wide, l11.high, l11.counts.set 0 1000000000000, l11.depths⟩ : DepthGridC).wide)).cell (b := w.heap.size + 1) (i := 2) (by omega) (.int .i64 (⟨l11.size, l11.wide, l11.high, l11.counts.set 0 1000000000000, l11.depths⟩ : DepthGridC).high)).cell (b := w.heap.size + 1) (i := 3) (by omega) (.slice (some a5) n7 c7)).cell (b := w.heap.size + 1) (i := 4) (by omega) (.slice A8 n8 c8)).bel (Below.drew (Below.refl _ _)))
            generalize (((((((((((w14.setCell ⟨w.heap.size, 0, none⟩ (.int .i64 l7.size)).setCell ⟨w.heap.size, 1, none⟩ (.int .i64 l7.wide)).setCell ⟨w.heap.size, 2, none⟩ (.int .i64 l7.high)).setCell ⟨w.heap.size, 3, none⟩ (.slice A3 n3 c3)).setCell ⟨w.heap.size, 4, none⟩ (.slice A4 n4 c4)).setCell ⟨w.heap.size + 1, 0, none⟩ (.int .i64 (⟨l11.size, l11.wide, l11.high, l11.counts.set 0 1000000000000, l11.depths⟩ : DepthGridC).size)).setCell ⟨w.heap.size + 1, 1, none⟩ (.int .i64 (⟨l11.size, l11.wide, l11.high, l11.counts.set 0 1000000000000, l11.depths⟩ : DepthGridC).wide)).setCell ⟨w.heap.size + 1, 2, none⟩ (.int .i64 (⟨l11.size, l11.wide, l11.high, l11.counts.set 0 1000000000000, l11.depths⟩ : DepthGridC).high)).setCell ⟨w.heap.size + 1, 3, none⟩ (.slice (some a5) n7 c7)).setCell ⟨w.heap.size + 1, 4, none⟩ (.slice A8 n8 c8))).drew = wz at N0 N1 NB NX NY ⊢
            have y0 := fun o => N0.cell o
            have y1 := fun o => N1.cell o
            have p0 := N0.lt
            have p1 := N1.lt
            go_wp2
            refine bodyPost_ret (v := .tuple #[.agg #[.int .i64 l7.size, .int .i64 l7.wide, .int .i64 l7.high, .slice A3 n3 c3, .slice A4 n4 c4], .agg #[.int .i64 (⟨l11.size, l11.wide, l11.high, l11.counts.set 0 1000000000000, l11.depths⟩ : DepthGridC).size, .int .i64 (⟨l11.size, l11.wide, l11.high, l11.counts.set 0 1000000000000, l11.depths⟩ : DepthGridC).wide, .int .i64 (⟨l11.size, l11.wide, l11.high, l11.counts.set 0 1000000000000, l11.depths⟩ : DepthGridC).high, .slice (some a5) n7 c7, .slice A8 n8 c8]]) (by simp [results, Try.results45, go_sem, y0, y1, p0, p1]) rfl ?_
            exact ⟨A3, n3, c3, A4, n4, c4, l7, (some a5), n7, c7, A8, n8, c8, (⟨l11.size, l11.wide, l11.high, l11.counts.set 0 1000000000000, l11.depths⟩ : DepthGridC), rfl, NX.ok, NX.rd, NY.ok, NY.rd, NB⟩
      · have h2b : (p2 == 0) = false := by rw [beq_eq_false_iff_ne]; exact h2
        go_upto_region 13 with fail
        have cB := fun o => BQ.cell o
        have cH := fun o => BH.cell o
        have c0 := fun o => K0.cell o
        have f0 := fun o => K0.frozen o
        have g0 := K0.lt
        have c1 := fun o => K1.cell o
        have f1 := fun o => K1.frozen o
        have g1 := K1.lt
        have zk := D.size
        go_wp2_with fail
        go_region_held3 (fun w' => (∀ o, w'.cell? ⟨Q, o, none⟩ = (#[.int .i64 l7.size, .int .i64 l7.wide, .int .i64 l7.high, .slice A3 n3 c3, .slice A4 n4 c4] : Array Value)[o]?) ∧ (∀ o, w'.cell? ⟨QH, o, none⟩ = (#[.int .i64 l11.size, .int .i64 l11.wide, .int .i64 l11.high, .slice A7 n7 c7, .slice A8 n8 c8] : Array Value)[o]?))
          (((with_reducible refine ⟨?_, ?_⟩) <;> (first | (with_reducible assumption) | ((with_reducible refine cells_drew ?_); (with_reducible assumption)) | ((try (with_reducible refine cells_drew ?_)); (repeat (with_reducible refine cells_set ?_ (by omega))); (first | (with_reducible assumption) | ((with_reducible refine cells_drew ?_); (with_reducible assumption)))))))
          (fail)
        all_goals
          have HB := HF.out _ D
          have N0 : Blk (((((((((((w13.setCell ⟨w.heap.size, 0, none⟩ (.int .i64 l7.size)).setCell ⟨w.heap.size, 1, none⟩ (.int .i64 l7.wide)).setCell ⟨w.heap.size, 2, none⟩ (.int .i64 l7.high)).setCell ⟨w.heap.size, 3, none⟩ (.slice A3 n3 c3)).setCell ⟨w.heap.size, 4, none⟩ (.slice A4 n4 c4)).setCell ⟨w.heap.size + 1, 0, none⟩ (.int .i64 l11.size)).setCell ⟨w.heap.size + 1, 1, none⟩ (.int .i64 l11.wide)).setCell ⟨w.heap.size + 1, 2, none⟩ (.int .i64 l11.high)).setCell ⟨w.heap.size + 1, 3, none⟩ (.slice A7 n7 c7)).setCell ⟨w.heap.size + 1, 4, none⟩ (.slice A8 n8 c8))).drew w.heap.size 50 #[.int .i64 l7.size, .int .i64 l7.wide, .int .i64 l7.high, .slice A3 n3 c3, .slice A4 n4 c4] := (Blk.drew ((((((((((K0.set_ 0 (.int .i64 l7.size)).set_ 1 (.int .i64 l7.wide)).set_ 2 (.int .i64 l7.high)).set_ 3 (.slice A3 n3 c3)).set_ 4 (.slice A4 n4 c4)).far (p := ⟨w.heap.size + 1, 0, none⟩) (by simp only; omega) (.int .i64 l11.size)).far (p := ⟨w.heap.size + 1, 1, none⟩) (by simp only; omega) (.int .i64 l11.wide)).far (p := ⟨w.heap.size + 1, 2, none⟩) (by simp only; omega) (.int .i64 l11.high)).far (p := ⟨w.heap.size + 1, 3, none⟩) (by simp only; omega) (.slice A7 n7 c7)).far (p := ⟨w.heap.size + 1, 4, none⟩) (by simp only; omega) (.slice A8 n8 c8)))
          have N1 : Blk (((((((((((w13.setCell ⟨w.heap.size, 0, none⟩ (.int .i64 l7.size)).setCell ⟨w.heap.size, 1, none⟩ (.int .i64 l7.wide)).setCell ⟨w.heap.size, 2, none⟩ (.int .i64 l7.high)).setCell ⟨w.heap.size, 3, none⟩ (.slice A3 n3 c3)).setCell ⟨w.heap.size, 4, none⟩ (.slice A4 n4 c4)).setCell ⟨w.heap.size + 1, 0, none⟩ (.int .i64 l11.size)).setCell ⟨w.heap.size + 1, 1, none⟩ (.int .i64 l11.wide)).setCell ⟨w.heap.size + 1, 2, none⟩ (.int .i64 l11.high)).setCell ⟨w.heap.size + 1, 3, none⟩ (.slice A7 n7 c7)).setCell ⟨w.heap.size + 1, 4, none⟩ (.slice A8 n8 c8))).drew (w.heap.size + 1) 50 #[.int .i64 l11.size, .int .i64 l11.wide, .int .i64 l11.high, .slice A7 n7 c7, .slice A8 n8 c8] := (Blk.drew ((((((((((K1.far (p := ⟨w.heap.size, 0, none⟩) (by simp only; omega) (.int .i64 l7.size)).far (p := ⟨w.heap.size, 1, none⟩) (by simp only; omega) (.int .i64 l7.wide)).far (p := ⟨w.heap.size, 2, none⟩) (by simp only; omega) (.int .i64 l7.high)).far (p := ⟨w.heap.size, 3, none⟩) (by simp only; omega) (.slice A3 n3 c3)).far (p := ⟨w.heap.size, 4, none⟩) (by simp only; omega) (.slice A4 n4 c4)).set_ 0 (.int .i64 l11.size)).set_ 1 (.int .i64 l11.wide)).set_ 2 (.int .i64 l11.high)).set_ 3 (.slice A7 n7 c7)).set_ 4 (.slice A8 n8 c8)))
          have NB : Below w.heap.size w (((((((((((w13.setCell ⟨w.heap.size, 0, none⟩ (.int .i64 l7.size)).setCell ⟨w.heap.size, 1, none⟩ (.int .i64 l7.wide)).setCell ⟨w.heap.size, 2, none⟩ (.int .i64 l7.high)).setCell ⟨w.heap.size, 3, none⟩ (.slice A3 n3 c3)).setCell ⟨w.heap.size, 4, none⟩ (.slice A4 n4 c4)).setCell ⟨w.heap.size + 1, 0, none⟩ (.int .i64 l11.size)).setCell ⟨w.heap.size + 1, 1, none⟩ (.int .i64 l11.wide)).setCell ⟨w.heap.size + 1, 2, none⟩ (.int .i64 l11.high)).setCell ⟨w.heap.size + 1, 3, none⟩ (.slice A7 n7 c7)).setCell ⟨w.heap.size + 1, 4, none⟩ (.slice A8 n8 c8))).drew := (Below.drew ((((((((((HB.setCell (p := ⟨w.heap.size, 0, none⟩) (Nat.le_refl _) (.int .i64 l7.size)).setCell (p := ⟨w.heap.size, 1, none⟩) (Nat.le_refl _) (.int .i64 l7.wide)).setCell (p := ⟨w.heap.size, 2, none⟩) (Nat.le_refl _) (.int .i64 l7.high)).setCell (p := ⟨w.heap.size, 3, none⟩) (Nat.le_refl _) (.slice A3 n3 c3)).setCell (p := ⟨w.heap.size, 4, none⟩) (Nat.le_refl _) (.slice A4 n4 c4)).setCell (p := ⟨w.heap.size + 1, 0, none⟩) (Nat.le_succ _) (.int .i64 l11.size)).setCell (p := ⟨w.heap.size + 1, 1, none⟩) (Nat.le_succ _) (.int .i64 l11.wide)).setCell (p := ⟨w.heap.size + 1, 2, none⟩) (Nat.le_succ _) (.int .i64 l11.high)).setCell (p := ⟨w.heap.size + 1, 3, none⟩) (Nat.le_succ _) (.slice A7 n7 c7)).setCell (p := ⟨w.heap.size + 1, 4, none⟩) (Nat.le_succ _) (.slice A8 n8 c8)))
          have NX := (((((((((((GX.cell (b := w.heap.size) (i := 0) (by omega) (.int .i64 l7.size)).cell (b := w.heap.size) (i := 1) (by omega) (.int .i64 l7.wide)).cell (b := w.heap.size) (i := 2) (by omega) (.int .i64 l7.high)).cell (b := w.heap.size) (i := 3) (by omega) (.slice A3 n3 c3)).cell (b := w.heap.size) (i := 4) (by omega) (.slice A4 n4 c4)).cell (b := w.heap.size + 1) (i := 0) (by omega) (.int .i64 l11.size)).cell (b := w.heap.size + 1) (i := 1) (by omega) (.int .i64 l11.wide)).cell (b := w.heap.size + 1) (i := 2) (by omega) (.int .i64 l11.high)).cell (b := w.heap.size + 1) (i := 3) (by omega) (.slice A7 n7 c7)).cell (b := w.heap.size + 1) (i := 4) (by omega) (.slice A8 n8 c8)).bel (Below.drew (Below.refl _ _)))
          have NY := (((((((((((HX.cell (b := w.heap.size) (i := 0) (by omega) (.int .i64 l7.size)).cell (b := w.heap.size) (i := 1) (by omega) (.int .i64 l7.wide)).cell (b := w.heap.size) (i := 2) (by omega) (.int .i64 l7.high)).cell (b := w.heap.size) (i := 3) (by omega) (.slice A3 n3 c3)).cell (b := w.heap.size) (i := 4) (by omega) (.slice A4 n4 c4)).cell (b := w.heap.size + 1) (i := 0) (by omega) (.int .i64 l11.size)).cell (b := w.heap.size + 1) (i := 1) (by omega) (.int .i64 l11.wide)).cell (b := w.heap.size + 1) (i := 2) (by omega) (.int .i64 l11.high)).cell (b := w.heap.size + 1) (i := 3) (by omega) (.slice A7 n7 c7)).cell (b := w.heap.size + 1) (i := 4) (by omega) (.slice A8 n8 c8)).bel (Below.drew (Below.refl _ _)))
          generalize (((((((((((w13.setCell ⟨w.heap.size, 0, none⟩ (.int .i64 l7.size)).setCell ⟨w.heap.size, 1, none⟩ (.int .i64 l7.wide)).setCell ⟨w.heap.size, 2, none⟩ (.int .i64 l7.high)).setCell ⟨w.heap.size, 3, none⟩ (.slice A3 n3 c3)).setCell ⟨w.heap.size, 4, none⟩ (.slice A4 n4 c4)).setCell ⟨w.heap.size + 1, 0, none⟩ (.int .i64 l11.size)).setCell ⟨w.heap.size + 1, 1, none⟩ (.int .i64 l11.wide)).setCell ⟨w.heap.size + 1, 2, none⟩ (.int .i64 l11.high)).setCell ⟨w.heap.size + 1, 3, none⟩ (.slice A7 n7 c7)).setCell ⟨w.heap.size + 1, 4, none⟩ (.slice A8 n8 c8))).drew = wz at N0 N1 NB NX NY ⊢
          have y0 := fun o => N0.cell o
          have y1 := fun o => N1.cell o
          have p0 := N0.lt
          have p1 := N1.lt
          go_wp2
          refine bodyPost_ret (v := .tuple #[.agg #[.int .i64 l7.size, .int .i64 l7.wide, .int .i64 l7.high, .slice A3 n3 c3, .slice A4 n4 c4], .agg #[.int .i64 l11.size, .int .i64 l11.wide, .int .i64 l11.high, .slice A7 n7 c7, .slice A8 n8 c8]]) (by simp [results, Try.results45, go_sem, y0, y1, p0, p1]) rfl ?_
          exact ⟨A3, n3, c3, A4, n4, c4, l7, A7, n7, c7, A8, n8, c8, l11, rfl, NX.ok, NX.rd, NY.ok, NY.rd, NB⟩
    · have hpb : (p == 0) = false := by rw [beq_eq_false_iff_ne]; exact hp
      go_upto_region 11 with fail
      go_wp2_with fail
      refine (l01Next_any _ g 30 _ D.src (by decide)).mono ?_
      rintro e w13 ⟨p2, rfl, pa2, pb2, g13, S13⟩
      have D := D.next g13 S13
      have K0 := K0.nx g13 (by omega)
      have K1 := K1.nx g13 (by omega)
      have BQ := BQ.nx g13 hQg
      have BH := BH.nx g13 hHg
      have GX := GX.nx g13 (by omega)
      have HX := HX.nx g13 (by omega)
      clear g13 S13
      by_cases h2 : p2 = 0
      · subst h2
        obtain ⟨a5, rfl, hv⟩ := HX.rd.head.int (show 0 < n5 from HX.pos)
        rw [Addr.add_zero'] at hv
        have hp0 : 0 < n5 := HX.pos
        have hnI : (0 : Int) < (n5 : Int) := by omega
        have hrow : blkp (some a5) n5 = some a5.block := by unfold blkp; rw [if_neg (by omega)]; rfl
        have ha5 : Z7 ≤ a5.block := HX.wr.hi _ (List.mem_cons_self ..) a5.block hrow
        have haH : a5.block ≠ QH := fun c => hH0 _ (List.mem_cons_self ..) (by rw [← c]; exact hrow)
        have cH := fun o => BH.cell o
        have gH := BH.lt
        by_cases hcv : l8.counts.getD 0 0 = 0
        · have hcb : (l8.counts.getD 0 0 != 0) = false := by simpa using hcv
          have hcc : (l8.counts.getD 0 0 == 0) = true := by simpa using hcv
          rw [hcv] at hv
          clear hcv hcb hcc
          go_upto_region 13 with fail
          clear cH hv
          have cB := fun o => BQ.cell o
          have cH := fun o => BH.cell o
          have c0 := fun o => K0.cell o
          have f0 := fun o => K0.frozen o
          have g0 := K0.lt
          have c1 := fun o => K1.cell o
          have f1 := fun o => K1.frozen o
          have g1 := K1.lt
          have zk := D.size
          go_wp2_with fail
          go_region_held3 (fun w' => (∀ o, w'.cell? ⟨Q, o, none⟩ = (#[.int .i64 l7.size, .int .i64 l7.wide, .int .i64 l7.high, .slice A3 n3 c3, .slice A4 n4 c4] : Array Value)[o]?) ∧ (∀ o, w'.cell? ⟨QH, o, none⟩ = (#[.int .i64 l8.size, .int .i64 l8.wide, .int .i64 l8.high, .slice (some a5) n5 c5, .slice A6 n6 c6] : Array Value)[o]?))
            (((with_reducible refine ⟨?_, ?_⟩) <;> (first | (with_reducible assumption) | ((with_reducible refine cells_drew ?_); (with_reducible assumption)) | ((try (with_reducible refine cells_drew ?_)); (repeat (with_reducible refine cells_set ?_ (by omega))); (first | (with_reducible assumption) | ((with_reducible refine cells_drew ?_); (with_reducible assumption)))))))
            (fail)
          all_goals
            have HB := HF.out _ D
            have N0 : Blk (((((((((((w13.setCell ⟨w.heap.size, 0, none⟩ (.int .i64 l7.size)).setCell ⟨w.heap.size, 1, none⟩ (.int .i64 l7.wide)).setCell ⟨w.heap.size, 2, none⟩ (.int .i64 l7.high)).setCell ⟨w.heap.size, 3, none⟩ (.slice A3 n3 c3)).setCell ⟨w.heap.size, 4, none⟩ (.slice A4 n4 c4)).setCell ⟨w.heap.size + 1, 0, none⟩ (.int .i64 l8.size)).setCell ⟨w.heap.size + 1, 1, none⟩ (.int .i64 l8.wide)).setCell ⟨w.heap.size + 1, 2, none⟩ (.int .i64 l8.high)).setCell ⟨w.heap.size + 1, 3, none⟩ (.slice (some a5) n5 c5)).setCell ⟨w.heap.size + 1, 4, none⟩ (.slice A6 n6 c6))).drew w.heap.size 50 #[.int .i64 l7.size, .int .i64 l7.wide, .int .i64 l7.high, .slice A3 n3 c3, .slice A4 n4 c4] := (Blk.drew ((((((((((K0.set_ 0 (.int .i64 l7.size)).set_ 1 (.int .i64 l7.wide)).set_ 2 (.int .i64 l7.high)).set_ 3 (.slice A3 n3 c3)).set_ 4 (.slice A4 n4 c4)).far (p := ⟨w.heap.size + 1, 0, none⟩) (by simp only; omega) (.int .i64 l8.size)).far (p := ⟨w.heap.size + 1, 1, none⟩) (by simp only; omega) (.int .i64 l8.wide)).far (p := ⟨w.heap.size + 1, 2, none⟩) (by simp only; omega) (.int .i64 l8.high)).far (p := ⟨w.heap.size + 1, 3, none⟩) (by simp only; omega) (.slice (some a5) n5 c5)).far (p := ⟨w.heap.size + 1, 4, none⟩) (by simp only; omega) (.slice A6 n6 c6)))
            have N1 : Blk (((((((((((w13.setCell ⟨w.heap.size, 0, none⟩ (.int .i64 l7.size)).setCell ⟨w.heap.size, 1, none⟩ (.int .i64 l7.wide)).setCell ⟨w.heap.size, 2, none⟩ (.int .i64 l7.high)).setCell ⟨w.heap.size, 3, none⟩ (.slice A3 n3 c3)).setCell ⟨w.heap.size, 4, none⟩ (.slice A4 n4 c4)).setCell ⟨w.heap.size + 1, 0, none⟩ (.int .i64 l8.size)).setCell ⟨w.heap.size + 1, 1, none⟩ (.int .i64 l8.wide)).setCell ⟨w.heap.size + 1, 2, none⟩ (.int .i64 l8.high)).setCell ⟨w.heap.size + 1, 3, none⟩ (.slice (some a5) n5 c5)).setCell ⟨w.heap.size + 1, 4, none⟩ (.slice A6 n6 c6))).drew (w.heap.size + 1) 50 #[.int .i64 l8.size, .int .i64 l8.wide, .int .i64 l8.high, .slice (some a5) n5 c5, .slice A6 n6 c6] := (Blk.drew ((((((((((K1.far (p := ⟨w.heap.size, 0, none⟩) (by simp only; omega) (.int .i64 l7.size)).far (p := ⟨w.heap.size, 1, none⟩) (by simp only; omega) (.int .i64 l7.wide)).far (p := ⟨w.heap.size, 2, none⟩) (by simp only; omega) (.int .i64 l7.high)).far (p := ⟨w.heap.size, 3, none⟩) (by simp only; omega) (.slice A3 n3 c3)).far (p := ⟨w.heap.size, 4, none⟩) (by simp only; omega) (.slice A4 n4 c4)).set_ 0 (.int .i64 l8.size)).set_ 1 (.int .i64 l8.wide)).set_ 2 (.int .i64 l8.high)).set_ 3 (.slice (some a5) n5 c5)).set_ 4 (.slice A6 n6 c6)))
            have NB : Below w.heap.size w (((((((((((w13.setCell ⟨w.heap.size, 0, none⟩ (.int .i64 l7.size)).setCell ⟨w.heap.size, 1, none⟩ (.int .i64 l7.wide)).setCell ⟨w.heap.size, 2, none⟩ (.int .i64 l7.high)).setCell ⟨w.heap.size, 3, none⟩ (.slice A3 n3 c3)).setCell ⟨w.heap.size, 4, none⟩ (.slice A4 n4 c4)).setCell ⟨w.heap.size + 1, 0, none⟩ (.int .i64 l8.size)).setCell ⟨w.heap.size + 1, 1, none⟩ (.int .i64 l8.wide)).setCell ⟨w.heap.size + 1, 2, none⟩ (.int .i64 l8.high)).setCell ⟨w.heap.size + 1, 3, none⟩ (.slice (some a5) n5 c5)).setCell ⟨w.heap.size + 1, 4, none⟩ (.slice A6 n6 c6))).drew := (Below.drew ((((((((((HB.setCell (p := ⟨w.heap.size, 0, none⟩) (Nat.le_refl _) (.int .i64 l7.size)).setCell (p := ⟨w.heap.size, 1, none⟩) (Nat.le_refl _) (.int .i64 l7.wide)).setCell (p := ⟨w.heap.size, 2, none⟩) (Nat.le_refl _) (.int .i64 l7.high)).setCell (p := ⟨w.heap.size, 3, none⟩) (Nat.le_refl _) (.slice A3 n3 c3)).setCell (p := ⟨w.heap.size, 4, none⟩) (Nat.le_refl _) (.slice A4 n4 c4)).setCell (p := ⟨w.heap.size + 1, 0, none⟩) (Nat.le_succ _) (.int .i64 l8.size)).setCell (p := ⟨w.heap.size + 1, 1, none⟩) (Nat.le_succ _) (.int .i64 l8.wide)).setCell (p := ⟨w.heap.size + 1, 2, none⟩) (Nat.le_succ _) (.int .i64 l8.high)).setCell (p := ⟨w.heap.size + 1, 3, none⟩) (Nat.le_succ _) (.slice (some a5) n5 c5)).setCell (p := ⟨w.heap.size + 1, 4, none⟩) (Nat.le_succ _) (.slice A6 n6 c6)))
            have NX := (((((((((((GX.cell (b := w.heap.size) (i := 0) (by omega) (.int .i64 l7.size)).cell (b := w.heap.size) (i := 1) (by omega) (.int .i64 l7.wide)).cell (b := w.heap.size) (i := 2) (by omega) (.int .i64 l7.high)).cell (b := w.heap.size) (i := 3) (by omega) (.slice A3 n3 c3)).cell (b := w.heap.size) (i := 4) (by omega) (.slice A4 n4 c4)).cell (b := w.heap.size + 1) (i := 0) (by omega) (.int .i64 l8.size)).cell (b := w.heap.size + 1) (i := 1) (by omega) (.int .i64 l8.wide)).cell (b := w.heap.size + 1) (i := 2) (by omega) (.int .i64 l8.high)).cell (b := w.heap.size + 1) (i := 3) (by omega) (.slice (some a5) n5 c5)).cell (b := w.heap.size + 1) (i := 4) (by omega) (.slice A6 n6 c6)).bel (Below.drew (Below.refl _ _)))
            have NY := (((((((((((HX.cell (b := w.heap.size) (i := 0) (by omega) (.int .i64 l7.size)).cell (b := w.heap.size) (i := 1) (by omega) (.int .i64 l7.wide)).cell (b := w.heap.size) (i := 2) (by omega) (.int .i64 l7.high)).cell (b := w.heap.size) (i := 3) (by omega) (.slice A3 n3 c3)).cell (b := w.heap.size) (i := 4) (by omega) (.slice A4 n4 c4)).cell (b := w.heap.size + 1) (i := 0) (by omega) (.int .i64 l8.size)).cell (b := w.heap.size + 1) (i := 1) (by omega) (.int .i64 l8.wide)).cell (b := w.heap.size + 1) (i := 2) (by omega) (.int .i64 l8.high)).cell (b := w.heap.size + 1) (i := 3) (by omega) (.slice (some a5) n5 c5)).cell (b := w.heap.size + 1) (i := 4) (by omega) (.slice A6 n6 c6)).bel (Below.drew (Below.refl _ _)))
            generalize (((((((((((w13.setCell ⟨w.heap.size, 0, none⟩ (.int .i64 l7.size)).setCell ⟨w.heap.size, 1, none⟩ (.int .i64 l7.wide)).setCell ⟨w.heap.size, 2, none⟩ (.int .i64 l7.high)).setCell ⟨w.heap.size, 3, none⟩ (.slice A3 n3 c3)).setCell ⟨w.heap.size, 4, none⟩ (.slice A4 n4 c4)).setCell ⟨w.heap.size + 1, 0, none⟩ (.int .i64 l8.size)).setCell ⟨w.heap.size + 1, 1, none⟩ (.int .i64 l8.wide)).setCell ⟨w.heap.size + 1, 2, none⟩ (.int .i64 l8.high)).setCell ⟨w.heap.size + 1, 3, none⟩ (.slice (some a5) n5 c5)).setCell ⟨w.heap.size + 1, 4, none⟩ (.slice A6 n6 c6))).drew = wz at N0 N1 NB NX NY ⊢
            have y0 := fun o => N0.cell o
            have y1 := fun o => N1.cell o
            have p0 := N0.lt
            have p1 := N1.lt
            go_wp2
            refine bodyPost_ret (v := .tuple #[.agg #[.int .i64 l7.size, .int .i64 l7.wide, .int .i64 l7.high, .slice A3 n3 c3, .slice A4 n4 c4], .agg #[.int .i64 l8.size, .int .i64 l8.wide, .int .i64 l8.high, .slice (some a5) n5 c5, .slice A6 n6 c6]]) (by simp [results, Try.results45, go_sem, y0, y1, p0, p1]) rfl ?_
            exact ⟨A3, n3, c3, A4, n4, c4, l7, (some a5), n5, c5, A6, n6, c6, l8, rfl, NX.ok, NX.rd, NY.ok, NY.rd, NB⟩
        · have hcb : (l8.counts.getD 0 0 != 0) = true := by simpa using hcv
          have hcc : (l8.counts.getD 0 0 == 0) = false := by rw [beq_eq_false_iff_ne]; exact hcv
          obtain ⟨_, ⟨⟩, -, hf⟩ := HX.wr.head hp0
          have hf := hf 0 hp0
          rw [Addr.add_zero'] at hf
          have HX := HX.set_c (ad := a5) rfl 1000000000000
          have GX := GX.setne (p := a5) (fun s hs c => by have := hGlo s hs _ c; omega) (.int .i64 1000000000000)
          have K0 := K0.far (p := a5) (by omega) (.int .i64 1000000000000)
          have K1 := K1.far (p := a5) (by omega) (.int .i64 1000000000000)
          have BQ := BQ.far (p := a5) (by omega) (.int .i64 1000000000000)
          have BH := BH.far (p := a5) haH.symm (.int .i64 1000000000000)
          have D := D.set_ (p := a5) (by omega) (.int .i64 1000000000000)
          obtain ⟨cv, hcve⟩ : ∃ v : Int, l8.counts.getD 0 0 = v := ⟨_, rfl⟩
          rw [hcve] at hv hcb hcc
          clear hcv hcve
          go_upto_region 13 with fail
          clear cH hv hf hcb hcc
          generalize w13.setCell a5 (.int .i64 1000000000000) = w14 at HX GX K0 K1 BQ BH D ⊢
          have cB := fun o => BQ.cell o
          have cH := fun o => BH.cell o
          have c0 := fun o => K0.cell o
          have f0 := fun o => K0.frozen o
          have g0 := K0.lt
          have c1 := fun o => K1.cell o
          have f1 := fun o => K1.frozen o
          have g1 := K1.lt
          have zk := D.size
          go_wp2_with fail
          go_region_held3 (fun w' => (∀ o, w'.cell? ⟨Q, o, none⟩ = (#[.int .i64 l7.size, .int .i64 l7.wide, .int .i64 l7.high, .slice A3 n3 c3, .slice A4 n4 c4] : Array Value)[o]?) ∧ (∀ o, w'.cell? ⟨QH, o, none⟩ = (#[.int .i64 (⟨l8.size, l8.wide, l8.high, l8.counts.set 0 1000000000000, l8.depths⟩ : DepthGridC).size, .int .i64 (⟨l8.size, l8.wide, l8.high, l8.counts.set 0 1000000000000, l8.depths⟩ : DepthGridC).wide, .int .i64 (⟨l8.size, l8.wide, l8.high, l8.counts.set 0 1000000000000, l8.depths⟩ : DepthGridC).high, .slice (some a5) n5 c5, .slice A6 n6 c6] : Array Value)[o]?))
            (((with_reducible refine ⟨?_, ?_⟩) <;> (first | (with_reducible assumption) | ((with_reducible refine cells_drew ?_); (with_reducible assumption)) | ((try (with_reducible refine cells_drew ?_)); (repeat (with_reducible refine cells_set ?_ (by omega))); (first | (with_reducible assumption) | ((with_reducible refine cells_drew ?_); (with_reducible assumption)))))))
            (fail)
          all_goals
            have HB := HF.out _ D
            have N0 : Blk (((((((((((w14.setCell ⟨w.heap.size, 0, none⟩ (.int .i64 l7.size)).setCell ⟨w.heap.size, 1, none⟩ (.int .i64 l7.wide)).setCell ⟨w.heap.size, 2, none⟩ (.int .i64 l7.high)).setCell ⟨w.heap.size, 3, none⟩ (.slice A3 n3 c3)).setCell ⟨w.heap.size, 4, none⟩ (.slice A4 n4 c4)).setCell ⟨w.heap.size + 1, 0, none⟩ (.int .i64 (⟨l8.size, l8.wide, l8.high, l8.counts.set 0 1000000000000, l8.depths⟩ : DepthGridC).size)).setCell ⟨w.heap.size + 1, 1, none⟩ (.int .i64 (⟨l8.size, l8.wide, l8.high, l8.counts.set 0 1000000000000, l8.depths⟩ : DepthGridC).wide)).setCell ⟨w.heap.size + 1, 2, none⟩ (.int .i64 (⟨l8.size, l8.wide, l8.high, l8.counts.set 0 1000000000000, l8.depths⟩ : DepthGridC).high)).setCell ⟨w.heap.size + 1, 3, none⟩ (.slice (some a5) n5 c5)).setCell ⟨w.heap.size + 1, 4, none⟩ (.slice A6 n6 c6))).drew w.heap.size 50 #[.int .i64 l7.size, .int .i64 l7.wide, .int .i64 l7.high, .slice A3 n3 c3, .slice A4 n4 c4] := (Blk.drew ((((((((((K0.set_ 0 (.int .i64 l7.size)).set_ 1 (.int .i64 l7.wide)).set_ 2 (.int .i64 l7.high)).set_ 3 (.slice A3 n3 c3)).set_ 4 (.slice A4 n4 c4)).far (p := ⟨w.heap.size + 1, 0, none⟩) (by simp only; omega) (.int .i64 (⟨l8.size, l8.wide, l8.high, l8.counts.set 0 1000000000000, l8.depths⟩ : DepthGridC).size)).far (p := ⟨w.heap.size + 1, 1, none⟩) (by simp only; omega) (.int .i64 (⟨l8.size, l8.wide, l8.high, l8.counts.set 0 1000000000000, l8.depths⟩ : DepthGridC).wide)).far (p := ⟨w.heap.size + 1, 2, none⟩) (by simp only; omega) (.int .i64 (⟨l8.size, l8.wide, l8.high, l8.counts.set 0 1000000000000, l8.depths⟩ : DepthGridC).high)).far (p := ⟨w.heap.size + 1, 3, none⟩) (by simp only; omega) (.slice (some a5) n5 c5)).far (p := ⟨w.heap.size + 1, 4, none⟩) (by simp only; omega) (.slice A6 n6 c6)))
            have N1 : Blk (((((((((((w14.setCell ⟨w.heap.size, 0, none⟩ (.int .i64 l7.size)).setCell ⟨w.heap.size, 1, none⟩ (.int .i64 l7.wide)).setCell ⟨w.heap.size, 2, none⟩ (.int .i64 l7.high)).setCell ⟨w.heap.size, 3, none⟩ (.slice A3 n3 c3)).setCell ⟨w.heap.size, 4, none⟩ (.slice A4 n4 c4)).setCell ⟨w.heap.size + 1, 0, none⟩ (.int .i64 (⟨l8.size, l8.wide, l8.high, l8.counts.set 0 1000000000000, l8.depths⟩ : DepthGridC).size)).setCell ⟨w.heap.size + 1, 1, none⟩ (.int .i64 (⟨l8.size, l8.wide, l8.high, l8.counts.set 0 1000000000000, l8.depths⟩ : DepthGridC).wide)).setCell ⟨w.heap.size + 1, 2, none⟩ (.int .i64 (⟨l8.size, l8.wide, l8.high, l8.counts.set 0 1000000000000, l8.depths⟩ : DepthGridC).high)).setCell ⟨w.heap.size + 1, 3, none⟩ (.slice (some a5) n5 c5)).setCell ⟨w.heap.size + 1, 4, none⟩ (.slice A6 n6 c6))).drew (w.heap.size + 1) 50 #[.int .i64 (⟨l8.size, l8.wide, l8.high, l8.counts.set 0 1000000000000, l8.depths⟩ : DepthGridC).size, .int .i64 (⟨l8.size, l8.wide, l8.high, l8.counts.set 0 1000000000000, l8.depths⟩ : DepthGridC).wide, .int .i64 (⟨l8.size, l8.wide, l8.high, l8.counts.set 0 1000000000000, l8.depths⟩ : DepthGridC).high, .slice (some a5) n5 c5, .slice A6 n6 c6] := (Blk.drew ((((((((((K1.far (p := ⟨w.heap.size, 0, none⟩) (by simp only; omega) (.int .i64 l7.size)).far (p := ⟨w.heap.size, 1, none⟩) (by simp only; omega) (.int .i64 l7.wide)).far (p := ⟨w.heap.size, 2, none⟩) (by simp only; omega) (.int .i64 l7.high)).far (p := ⟨w.heap.size, 3, none⟩) (by simp only; omega) (.slice A3 n3 c3)).far (p := ⟨w.heap.size, 4, none⟩) (by simp only; omega) (.slice A4 n4 c4)).set_ 0 (.int .i64 (⟨l8.size, l8.wide, l8.high, l8.counts.set 0 1000000000000, l8.depths⟩ : DepthGridC).size)).set_ 1 (.int .i64 (⟨l8.size, l8.wide, l8.high, l8.counts.set 0 1000000000000, l8.depths⟩ : DepthGridC).wide)).set_ 2 (.int .i64 (⟨l8.size, l8.wide, l8.high, l8.counts.set 0 1000000000000, l8.depths⟩ : DepthGridC).high)).set_ 3 (.slice (some a5) n5 c5)).set_ 4 (.slice A6 n6 c6)))
            have NB : Below w.heap.size w (((((((((((w14.setCell ⟨w.heap.size, 0, none⟩ (.int .i64 l7.size)).setCell ⟨w.heap.size, 1, none⟩ (.int .i64 l7.wide)).setCell ⟨w.heap.size, 2, none⟩ (.int .i64 l7.high)).setCell ⟨w.heap.size, 3, none⟩ (.slice A3 n3 c3)).setCell ⟨w.heap.size, 4, none⟩ (.slice A4 n4 c4)).setCell ⟨w.heap.size + 1, 0, none⟩ (.int .i64 (⟨l8.size, l8.wide, l8.high, l8.counts.set 0 1000000000000, l8.depths⟩ : DepthGridC).size)).setCell ⟨w.heap.size + 1, 1, none⟩ (.int .i64 (⟨l8.size, l8.wide, l8.high, l8.counts.set 0 1000000000000, l8.depths⟩ : DepthGridC).wide)).setCell ⟨w.heap.size + 1, 2, none⟩ (.int .i64 (⟨l8.size, l8.wide, l8.high, l8.counts.set 0 1000000000000, l8.depths⟩ : DepthGridC).high)).setCell ⟨w.heap.size + 1, 3, none⟩ (.slice (some a5) n5 c5)).setCell ⟨w.heap.size + 1, 4, none⟩ (.slice A6 n6 c6))).drew := (Below.drew ((((((((((HB.setCell (p := ⟨w.heap.size, 0, none⟩) (Nat.le_refl _) (.int .i64 l7.size)).setCell (p := ⟨w.heap.size, 1, none⟩) (Nat.le_refl _) (.int .i64 l7.wide)).setCell (p := ⟨w.heap.size, 2, none⟩) (Nat.le_refl _) (.int .i64 l7.high)).setCell (p := ⟨w.heap.size, 3, none⟩) (Nat.le_refl _) (.slice A3 n3 c3)).setCell (p := ⟨w.heap.size, 4, none⟩) (Nat.le_refl _) (.slice A4 n4 c4)).setCell (p := ⟨w.heap.size + 1, 0, none⟩) (Nat.le_succ _) (.int .i64 (⟨l8.size, l8.wide, l8.high, l8.counts.set 0 1000000000000, l8.depths⟩ : DepthGridC).size)).setCell (p := ⟨w.heap.size + 1, 1, none⟩) (Nat.le_succ _) (.int .i64 (⟨l8.size, l8.wide, l8.high, l8.counts.set 0 1000000000000, l8.depths⟩ : DepthGridC).wide)).setCell (p := ⟨w.heap.size + 1, 2, none⟩) (Nat.le_succ _) (.int .i64 (⟨l8.size, l8.wide, l8.high, l8.counts.set 0 1000000000000, l8.depths⟩ : DepthGridC).high)).setCell (p := ⟨w.heap.size + 1, 3, none⟩) (Nat.le_succ _) (.slice (some a5) n5 c5)).setCell (p := ⟨w.heap.size + 1, 4, none⟩) (Nat.le_succ _) (.slice A6 n6 c6)))
            have NX := (((((((((((GX.cell (b := w.heap.size) (i := 0) (by omega) (.int .i64 l7.size)).cell (b := w.heap.size) (i := 1) (by omega) (.int .i64 l7.wide)).cell (b := w.heap.size) (i := 2) (by omega) (.int .i64 l7.high)).cell (b := w.heap.size) (i := 3) (by omega) (.slice A3 n3 c3)).cell (b := w.heap.size) (i := 4) (by omega) (.slice A4 n4 c4)).cell (b := w.heap.size + 1) (i := 0) (by omega) (.int .i64 (⟨l8.size, l8.wide, l8.high, l8.counts.set 0 1000000000000, l8.depths⟩ : DepthGridC).size)).cell (b := w.heap.size + 1) (i := 1) (by omega) (.int .i64 (⟨l8.size, l8.wide, l8.high, l8.counts.set 0 1000000000000, l8.depths⟩ : DepthGridC).wide)).cell (b := w.heap.size + 1) (i := 2) (by omega) (.int .i64 (⟨l8.size, l8.wide, l8.high, l8.counts.set 0 1000000000000, l8.depths⟩ : DepthGridC).high)).cell (b := w.heap.size + 1) (i := 3) (by omega) (.slice (some a5) n5 c5)).cell (b := w.heap.size + 1) (i := 4) (by omega) (.slice A6 n6 c6)).bel (Below.drew (Below.refl _ _)))
            have NY := (((((((((((HX.cell (b := w.heap.size) (i := 0) (by omega) (.int .i64 l7.size)).cell (b := w.heap.size) (i := 1) (by omega) (.int .i64 l7.wide)).cell (b := w.heap.size) (i := 2) (by omega) (.int .i64 l7.high)).cell (b := w.heap.size) (i := 3) (by omega) (.slice A3 n3 c3)).cell (b := w.heap.size) (i := 4) (by omega) (.slice A4 n4 c4)).cell (b := w.heap.size + 1) (i := 0) (by omega) (.int .i64 (⟨l8.size, l8.wide, l8.high, l8.counts.set 0 1000000000000, l8.depths⟩ : DepthGridC).size)).cell (b := w.heap.size + 1) (i := 1) (by omega) (.int .i64 (⟨l8.size, l8.wide, l8.high, l8.counts.set 0 1000000000000, l8.depths⟩ : DepthGridC).wide)).cell (b := w.heap.size + 1) (i := 2) (by omega) (.int .i64 (⟨l8.size, l8.wide, l8.high, l8.counts.set 0 1000000000000, l8.depths⟩ : DepthGridC).high)).cell (b := w.heap.size + 1) (i := 3) (by omega) (.slice (some a5) n5 c5)).cell (b := w.heap.size + 1) (i := 4) (by omega) (.slice A6 n6 c6)).bel (Below.drew (Below.refl _ _)))
            generalize (((((((((((w14.setCell ⟨w.heap.size, 0, none⟩ (.int .i64 l7.size)).setCell ⟨w.heap.size, 1, none⟩ (.int .i64 l7.wide)).setCell ⟨w.heap.size, 2, none⟩ (.int .i64 l7.high)).setCell ⟨w.heap.size, 3, none⟩ (.slice A3 n3 c3)).setCell ⟨w.heap.size, 4, none⟩ (.slice A4 n4 c4)).setCell ⟨w.heap.size + 1, 0, none⟩ (.int .i64 (⟨l8.size, l8.wide, l8.high, l8.counts.set 0 1000000000000, l8.depths⟩ : DepthGridC).size)).setCell ⟨w.heap.size + 1, 1, none⟩ (.int .i64 (⟨l8.size, l8.wide, l8.high, l8.counts.set 0 1000000000000, l8.depths⟩ : DepthGridC).wide)).setCell ⟨w.heap.size + 1, 2, none⟩ (.int .i64 (⟨l8.size, l8.wide, l8.high, l8.counts.set 0 1000000000000, l8.depths⟩ : DepthGridC).high)).setCell ⟨w.heap.size + 1, 3, none⟩ (.slice (some a5) n5 c5)).setCell ⟨w.heap.size + 1, 4, none⟩ (.slice A6 n6 c6))).drew = wz at N0 N1 NB NX NY ⊢
            have y0 := fun o => N0.cell o
            have y1 := fun o => N1.cell o
            have p0 := N0.lt
            have p1 := N1.lt
            go_wp2
            refine bodyPost_ret (v := .tuple #[.agg #[.int .i64 l7.size, .int .i64 l7.wide, .int .i64 l7.high, .slice A3 n3 c3, .slice A4 n4 c4], .agg #[.int .i64 (⟨l8.size, l8.wide, l8.high, l8.counts.set 0 1000000000000, l8.depths⟩ : DepthGridC).size, .int .i64 (⟨l8.size, l8.wide, l8.high, l8.counts.set 0 1000000000000, l8.depths⟩ : DepthGridC).wide, .int .i64 (⟨l8.size, l8.wide, l8.high, l8.counts.set 0 1000000000000, l8.depths⟩ : DepthGridC).high, .slice (some a5) n5 c5, .slice A6 n6 c6]]) (by simp [results, Try.results45, go_sem, y0, y1, p0, p1]) rfl ?_
            exact ⟨A3, n3, c3, A4, n4, c4, l7, (some a5), n5, c5, A6, n6, c6, (⟨l8.size, l8.wide, l8.high, l8.counts.set 0 1000000000000, l8.depths⟩ : DepthGridC), rfl, NX.ok, NX.rd, NY.ok, NY.rd, NB⟩
      · have h2b : (p2 == 0) = false := by rw [beq_eq_false_iff_ne]; exact h2
        go_upto_region 13 with fail
        have cB := fun o => BQ.cell o
        have cH := fun o => BH.cell o
        have c0 := fun o => K0.cell o
        have f0 := fun o => K0.frozen o
        have g0 := K0.lt
        have c1 := fun o => K1.cell o
        have f1 := fun o => K1.frozen o
        have g1 := K1.lt
        have zk := D.size
        go_wp2_with fail
        go_region_held3 (fun w' => (∀ o, w'.cell? ⟨Q, o, none⟩ = (#[.int .i64 l7.size, .int .i64 l7.wide, .int .i64 l7.high, .slice A3 n3 c3, .slice A4 n4 c4] : Array Value)[o]?) ∧ (∀ o, w'.cell? ⟨QH, o, none⟩ = (#[.int .i64 l8.size, .int .i64 l8.wide, .int .i64 l8.high, .slice A5 n5 c5, .slice A6 n6 c6] : Array Value)[o]?))
          (((with_reducible refine ⟨?_, ?_⟩) <;> (first | (with_reducible assumption) | ((with_reducible refine cells_drew ?_); (with_reducible assumption)) | ((try (with_reducible refine cells_drew ?_)); (repeat (with_reducible refine cells_set ?_ (by omega))); (first | (with_reducible assumption) | ((with_reducible refine cells_drew ?_); (with_reducible assumption)))))))
          (fail)
        all_goals
          have HB := HF.out _ D
          have N0 : Blk (((((((((((w13.setCell ⟨w.heap.size, 0, none⟩ (.int .i64 l7.size)).setCell ⟨w.heap.size, 1, none⟩ (.int .i64 l7.wide)).setCell ⟨w.heap.size, 2, none⟩ (.int .i64 l7.high)).setCell ⟨w.heap.size, 3, none⟩ (.slice A3 n3 c3)).setCell ⟨w.heap.size, 4, none⟩ (.slice A4 n4 c4)).setCell ⟨w.heap.size + 1, 0, none⟩ (.int .i64 l8.size)).setCell ⟨w.heap.size + 1, 1, none⟩ (.int .i64 l8.wide)).setCell ⟨w.heap.size + 1, 2, none⟩ (.int .i64 l8.high)).setCell ⟨w.heap.size + 1, 3, none⟩ (.slice A5 n5 c5)).setCell ⟨w.heap.size + 1, 4, none⟩ (.slice A6 n6 c6))).drew w.heap.size 50 #[.int .i64 l7.size, .int .i64 l7.wide, .int .i64 l7.high, .slice A3 n3 c3, .slice A4 n4 c4] := (Blk.drew ((((((((((K0.set_ 0 (.int .i64 l7.size)).set_ 1 (.int .i64 l7.wide)).set_ 2 (.int .i64 l7.high)).set_ 3 (.slice A3 n3 c3)).set_ 4 (.slice A4 n4 c4)).far (p := ⟨w.heap.size + 1, 0, none⟩) (by simp only; omega) (.int .i64 l8.size)).far (p := ⟨w.heap.size + 1, 1, none⟩) (by simp only; omega) (.int .i64 l8.wide)).far (p := ⟨w.heap.size + 1, 2, none⟩) (by simp only; omega) (.int .i64 l8.high)).far (p := ⟨w.heap.size + 1, 3, none⟩) (by simp only; omega) (.slice A5 n5 c5)).far (p := ⟨w.heap.size + 1, 4, none⟩) (by simp only; omega) (.slice A6 n6 c6)))
          have N1 : Blk (((((((((((w13.setCell ⟨w.heap.size, 0, none⟩ (.int .i64 l7.size)).setCell ⟨w.heap.size, 1, none⟩ (.int .i64 l7.wide)).setCell ⟨w.heap.size, 2, none⟩ (.int .i64 l7.high)).setCell ⟨w.heap.size, 3, none⟩ (.slice A3 n3 c3)).setCell ⟨w.heap.size, 4, none⟩ (.slice A4 n4 c4)).setCell ⟨w.heap.size + 1, 0, none⟩ (.int .i64 l8.size)).setCell ⟨w.heap.size + 1, 1, none⟩ (.int .i64 l8.wide)).setCell ⟨w.heap.size + 1, 2, none⟩ (.int .i64 l8.high)).setCell ⟨w.heap.size + 1, 3, none⟩ (.slice A5 n5 c5)).setCell ⟨w.heap.size + 1, 4, none⟩ (.slice A6 n6 c6))).drew (w.heap.size + 1) 50 #[.int .i64 l8.size, .int .i64 l8.wide, .int .i64 l8.high, .slice A5 n5 c5, .slice A6 n6 c6] := (Blk.drew ((((((((((K1.far (p := ⟨w.heap.size, 0, none⟩) (by simp only; omega) (.int .i64 l7.size)).far (p := ⟨w.heap.size, 1, none⟩) (by simp only; omega) (.int .i64 l7.wide)).far (p := ⟨w.heap.size, 2, none⟩) (by simp only; omega) (.int .i64 l7.high)).far (p := ⟨w.heap.size, 3, none⟩) (by simp only; omega) (.slice A3 n3 c3)).far (p := ⟨w.heap.size, 4, none⟩) (by simp only; omega) (.slice A4 n4 c4)).set_ 0 (.int .i64 l8.size)).set_ 1 (.int .i64 l8.wide)).set_ 2 (.int .i64 l8.high)).set_ 3 (.slice A5 n5 c5)).set_ 4 (.slice A6 n6 c6)))
          have NB : Below w.heap.size w (((((((((((w13.setCell ⟨w.heap.size, 0, none⟩ (.int .i64 l7.size)).setCell ⟨w.heap.size, 1, none⟩ (.int .i64 l7.wide)).setCell ⟨w.heap.size, 2, none⟩ (.int .i64 l7.high)).setCell ⟨w.heap.size, 3, none⟩ (.slice A3 n3 c3)).setCell ⟨w.heap.size, 4, none⟩ (.slice A4 n4 c4)).setCell ⟨w.heap.size + 1, 0, none⟩ (.int .i64 l8.size)).setCell ⟨w.heap.size + 1, 1, none⟩ (.int .i64 l8.wide)).setCell ⟨w.heap.size + 1, 2, none⟩ (.int .i64 l8.high)).setCell ⟨w.heap.size + 1, 3, none⟩ (.slice A5 n5 c5)).setCell ⟨w.heap.size + 1, 4, none⟩ (.slice A6 n6 c6))).drew := (Below.drew ((((((((((HB.setCell (p := ⟨w.heap.size, 0, none⟩) (Nat.le_refl _) (.int .i64 l7.size)).setCell (p := ⟨w.heap.size, 1, none⟩) (Nat.le_refl _) (.int .i64 l7.wide)).setCell (p := ⟨w.heap.size, 2, none⟩) (Nat.le_refl _) (.int .i64 l7.high)).setCell (p := ⟨w.heap.size, 3, none⟩) (Nat.le_refl _) (.slice A3 n3 c3)).setCell (p := ⟨w.heap.size, 4, none⟩) (Nat.le_refl _) (.slice A4 n4 c4)).setCell (p := ⟨w.heap.size + 1, 0, none⟩) (Nat.le_succ _) (.int .i64 l8.size)).setCell (p := ⟨w.heap.size + 1, 1, none⟩) (Nat.le_succ _) (.int .i64 l8.wide)).setCell (p := ⟨w.heap.size + 1, 2, none⟩) (Nat.le_succ _) (.int .i64 l8.high)).setCell (p := ⟨w.heap.size + 1, 3, none⟩) (Nat.le_succ _) (.slice A5 n5 c5)).setCell (p := ⟨w.heap.size + 1, 4, none⟩) (Nat.le_succ _) (.slice A6 n6 c6)))
          have NX := (((((((((((GX.cell (b := w.heap.size) (i := 0) (by omega) (.int .i64 l7.size)).cell (b := w.heap.size) (i := 1) (by omega) (.int .i64 l7.wide)).cell (b := w.heap.size) (i := 2) (by omega) (.int .i64 l7.high)).cell (b := w.heap.size) (i := 3) (by omega) (.slice A3 n3 c3)).cell (b := w.heap.size) (i := 4) (by omega) (.slice A4 n4 c4)).cell (b := w.heap.size + 1) (i := 0) (by omega) (.int .i64 l8.size)).cell (b := w.heap.size + 1) (i := 1) (by omega) (.int .i64 l8.wide)).cell (b := w.heap.size + 1) (i := 2) (by omega) (.int .i64 l8.high)).cell (b := w.heap.size + 1) (i := 3) (by omega) (.slice A5 n5 c5)).cell (b := w.heap.size + 1) (i := 4) (by omega) (.slice A6 n6 c6)).bel (Below.drew (Below.refl _ _)))
          have NY := (((((((((((HX.cell (b := w.heap.size) (i := 0) (by omega) (.int .i64 l7.size)).cell (b := w.heap.size) (i := 1) (by omega) (.int .i64 l7.wide)).cell (b := w.heap.size) (i := 2) (by omega) (.int .i64 l7.high)).cell (b := w.heap.size) (i := 3) (by omega) (.slice A3 n3 c3)).cell (b := w.heap.size) (i := 4) (by omega) (.slice A4 n4 c4)).cell (b := w.heap.size + 1) (i := 0) (by omega) (.int .i64 l8.size)).cell (b := w.heap.size + 1) (i := 1) (by omega) (.int .i64 l8.wide)).cell (b := w.heap.size + 1) (i := 2) (by omega) (.int .i64 l8.high)).cell (b := w.heap.size + 1) (i := 3) (by omega) (.slice A5 n5 c5)).cell (b := w.heap.size + 1) (i := 4) (by omega) (.slice A6 n6 c6)).bel (Below.drew (Below.refl _ _)))
          generalize (((((((((((w13.setCell ⟨w.heap.size, 0, none⟩ (.int .i64 l7.size)).setCell ⟨w.heap.size, 1, none⟩ (.int .i64 l7.wide)).setCell ⟨w.heap.size, 2, none⟩ (.int .i64 l7.high)).setCell ⟨w.heap.size, 3, none⟩ (.slice A3 n3 c3)).setCell ⟨w.heap.size, 4, none⟩ (.slice A4 n4 c4)).setCell ⟨w.heap.size + 1, 0, none⟩ (.int .i64 l8.size)).setCell ⟨w.heap.size + 1, 1, none⟩ (.int .i64 l8.wide)).setCell ⟨w.heap.size + 1, 2, none⟩ (.int .i64 l8.high)).setCell ⟨w.heap.size + 1, 3, none⟩ (.slice A5 n5 c5)).setCell ⟨w.heap.size + 1, 4, none⟩ (.slice A6 n6 c6))).drew = wz at N0 N1 NB NX NY ⊢
          have y0 := fun o => N0.cell o
          have y1 := fun o => N1.cell o
          have p0 := N0.lt
          have p1 := N1.lt
          go_wp2
          refine bodyPost_ret (v := .tuple #[.agg #[.int .i64 l7.size, .int .i64 l7.wide, .int .i64 l7.high, .slice A3 n3 c3, .slice A4 n4 c4], .agg #[.int .i64 l8.size, .int .i64 l8.wide, .int .i64 l8.high, .slice A5 n5 c5, .slice A6 n6 c6]]) (by simp [results, Try.results45, go_sem, y0, y1, p0, p1]) rfl ?_
          exact ⟨A3, n3, c3, A4, n4, c4, l7, A5, n5, c5, A6, n6, c6, l8, rfl, NX.ok, NX.rd, NY.ok, NY.rd, NB⟩
  · rw [hs]
    clear R7 hs h201 hnc low0
    have hs : sndsB [] 0 = true := rfl
    have R7 : Rd w7 none (0 * 4) (ints []) := Rd.nil _ _
    have HS := Lib.hid hs
    clear hs
    have cB := fun o => B7.cell o
    have fB := fun o => B7.frozen o
    have gB := B7.lt
    have mw0 := M.w0; have mw1 := M.w1; have mh0 := M.h0; have mh1 := M.h1
    go_wp2_with fail
    refine (specGrids_any l7.size l7.wide l7.high (none) (0) (0) ([]) _ (by omega) R7).mono ?_
    rintro e w8 ⟨⟨⟨A5, n5, c5⟩, ⟨A6, n6, c6⟩⟩, rfl, ok8, X8, Y8, P8, b8⟩
    have sh : gshape l7.size l7.wide l7.high = true := by unfold gshape; rw [inR_mk M.s0 M.s1, inR_mk M.w0 M.w1, inR_mk M.h0 M.h1]; rfl
    have c0e := gsC_mk HS.out sh
    have l8e : gsR l7.size l7.wide l7.high ([]) (0) = gsTo l7.size l7.wide.toNat l7.high.toNat ([]) (0) := by unfold gsR; rw [if_pos c0e]
    have k8 : GOk (gsR l7.size l7.wide l7.high ([]) (0)) := by
      rw [l8e]
      refine GOk.of (gs_ok M.s0 M.s1 (by omega) (by omega) (by omega) (by omega) ?_ (by omega))
      have := HS.out; unfold sndsB at this; simp only [Bool.and_eq_true] at this; exact this.1
    have HX := GriW.of k8 X8 Y8 P8
    have hGlo : ∀ s ∈ DepthGridR ⟨⟨A3, n3, c3⟩, ⟨A4, n4, c4⟩⟩, ∀ b, s = some b → b < w7.heap.size := G7.rd.lo
    have z71 := D7.size
    have zr := K1.lt
    have zg := D7.src.lt
    obtain ⟨Z7, hZ7⟩ : ∃ z, w7.heap.size = z := ⟨_, rfl⟩
    have zb8 := b8.size
    have GX := G7.bel b8
    have D := D7.bel b8
    have K0 := K0.below b8 K0.lt
    have K1 := K1.below b8 K1.lt
    have BQ := B7.below b8 gB
    rw [hZ7] at HX hGlo z71 zr zg gB zb8
    rw [c0e]
    clear c0e l8e sh HS X8 Y8 P8 b8 ok8 D7 R7 G7 B7 cB fB mw0 mw1 mh0 mh1 hZ7
    generalize gsR l7.size l7.wide l7.high ([]) (0) = l8 at k8 HX ⊢
    unfold DepthGridV
    simp only
    go_upto_region 9 with fail
    have BH := Blk.new w8 50 #[.int .i64 l8.size, .int .i64 l8.wide, .int .i64 l8.high, .slice A5 n5 c5, .slice A6 n6 c6]
    have hH0 : ∀ s ∈ DepthGridR ⟨⟨A5, n5, c5⟩, ⟨A6, n6, c6⟩⟩, s ≠ some w8.heap.size := (HX.rd.lo).ne (Nat.le_refl _)
    have hG0 : ∀ s ∈ DepthGridR ⟨⟨A3, n3, c3⟩, ⟨A4, n4, c4⟩⟩, s ≠ some w8.heap.size := (GX.rd.lo).ne (Nat.le_refl _)
    have GX := GX.alloc (.cells #[.int .i64 l8.size, .int .i64 l8.wide, .int .i64 l8.high, .slice A5 n5 c5, .slice A6 n6 c6] 50)
    have HX := HX.alloc (.cells #[.int .i64 l8.size, .int .i64 l8.wide, .int .i64 l8.high, .slice A5 n5 c5, .slice A6 n6 c6] 50)
    have D := D.alloc (.cells #[.int .i64 l8.size, .int .i64 l8.wide, .int .i64 l8.high, .slice A5 n5 c5, .slice A6 n6 c6] 50)
    have K0 := K0.alloc (.cells #[.int .i64 l8.size, .int .i64 l8.wide, .int .i64 l8.high, .slice A5 n5 c5, .slice A6 n6 c6] 50)
    have K1 := K1.alloc (.cells #[.int .i64 l8.size, .int .i64 l8.wide, .int .i64 l8.high, .slice A5 n5 c5, .slice A6 n6 c6] 50)
    have BQ := BQ.alloc (.cells #[.int .i64 l8.size, .int .i64 l8.wide, .int .i64 l8.high, .slice A5 n5 c5, .slice A6 n6 c6] 50)
    generalize w8.alloc (.cells #[.int .i64 l8.size, .int .i64 l8.wide, .int .i64 l8.high, .slice A5 n5 c5, .slice A6 n6 c6] 50) = w9 at BH GX HX D K0 K1 BQ ⊢
    obtain ⟨QH, hQH⟩ : ∃ q, w8.heap.size = q := ⟨_, rfl⟩
    rw [hQH] at BH hH0 hG0 zb8 ⊢
    clear hQH
    have hHg : g ≠ QH := by omega
    have hHQ : Q ≠ QH := by omega
    go_wp2_with fail
    refine (l01Next_any _ g 3 _ D.src (by decide)).mono ?_
    rintro e w10 ⟨p, rfl, pa, pb, g10, S10⟩
    have D := D.next g10 S10
    have K0 := K0.nx g10 (by omega)
    have K1 := K1.nx g10 (by omega)
    have BQ := BQ.nx g10 hQg
    have BH := BH.nx g10 hHg
    have GX := GX.nx g10 (by omega)
    have HX := HX.nx g10 (by omega)
    clear g10 S10
    by_cases hp : p = 0
    · subst hp
      have cH := fun o => BH.cell o
      have fH := fun o => BH.frozen o
      have gH := BH.lt
      have HF2 := specFillGaps'_any ⟨⟨A5, n5, c5⟩, ⟨A6, n6, c6⟩⟩ l8 w10 HX.ok HX.rd
      simp only [DepthGridV] at HF2
      go_wp2_with fail
      refine HF2.mono ?_
      rintro e w11 ⟨⟨⟨A7, n7, c7⟩, ⟨A8, n8, c8⟩⟩, rfl, ok11, X11, Y11, P11, b11⟩
      have HX := fg_side_ok k8 X11 Y11 P11
      have hH11 : ∀ s ∈ DepthGridR ⟨⟨A7, n7, c7⟩, ⟨A8, n8, c8⟩⟩, s ≠ some QH := HX.ne gH
      have HX := HX.lower (C := Z7) (by omega)
      have GX := GX.bel b11
      have D := D.bel b11
      have K0 := K0.below b11 K0.lt
      have K1 := K1.below b11 K1.lt
      have BQ := BQ.below b11 BQ.lt
      have BH := BH.below b11 gH
      clear cH fH gH HF2 X11 Y11 P11 b11 ok11 hH0 k8
      generalize fgR l8 = l11 at HX
      unfold DepthGridV
      simp only
      have cH := fun o => BH.cell o
      have fH := fun o => BH.frozen o
      have gH := BH.lt
      go_upto_region 11 with fail
      have HX := (((((HX.cellne (i := 0) hH11 (.int .i64 l11.size)).cellne (i := 1) hH11 (.int .i64 l11.wide)).cellne (i := 2) hH11 (.int .i64 l11.high)).cellne (i := 3) hH11 (.slice A7 n7 c7)).cellne (i := 4) hH11 (.slice A8 n8 c8))
      have GX := (((((GX.cellne (i := 0) hG0 (.int .i64 l11.size)).cellne (i := 1) hG0 (.int .i64 l11.wide)).cellne (i := 2) hG0 (.int .i64 l11.high)).cellne (i := 3) hG0 (.slice A7 n7 c7)).cellne (i := 4) hG0 (.slice A8 n8 c8))
      have K0 := (((((K0.far (p := ⟨QH, 0, none⟩) (by simp only; omega) (.int .i64 l11.size)).far (p := ⟨QH, 1, none⟩) (by simp only; omega) (.int .i64 l11.wide)).far (p := ⟨QH, 2, none⟩) (by simp only; omega) (.int .i64 l11.high)).far (p := ⟨QH, 3, none⟩) (by simp only; omega) (.slice A7 n7 c7)).far (p := ⟨QH, 4, none⟩) (by simp only; omega) (.slice A8 n8 c8))
      have K1 := (((((K1.far (p := ⟨QH, 0, none⟩) (by simp only; omega) (.int .i64 l11.size)).far (p := ⟨QH, 1, none⟩) (by simp only; omega) (.int .i64 l11.wide)).far (p := ⟨QH, 2, none⟩) (by simp only; omega) (.int .i64 l11.high)).far (p := ⟨QH, 3, none⟩) (by simp only; omega) (.slice A7 n7 c7)).far (p := ⟨QH, 4, none⟩) (by simp only; omega) (.slice A8 n8 c8))
      have BQ := (((((BQ.far (p := ⟨QH, 0, none⟩) hHQ (.int .i64 l11.size)).far (p := ⟨QH, 1, none⟩) hHQ (.int .i64 l11.wide)).far (p := ⟨QH, 2, none⟩) hHQ (.int .i64 l11.high)).far (p := ⟨QH, 3, none⟩) hHQ (.slice A7 n7 c7)).far (p := ⟨QH, 4, none⟩) hHQ (.slice A8 n8 c8))
      have D := (((((D.set_ (p := ⟨QH, 0, none⟩) (by simp only; omega) (.int .i64 l11.size)).set_ (p := ⟨QH, 1, none⟩) (by simp only; omega) (.int .i64 l11.wide)).set_ (p := ⟨QH, 2, none⟩) (by simp only; omega) (.int .i64 l11.high)).set_ (p := ⟨QH, 3, none⟩) (by simp only; omega) (.slice A7 n7 c7)).set_ (p := ⟨QH, 4, none⟩) (by simp only; omega) (.slice A8 n8 c8))
      have BH : Blk _ QH 50 #[.int .i64 l11.size, .int .i64 l11.wide, .int .i64 l11.high, .slice A7 n7 c7, .slice A8 n8 c8] := (((((BH.set_ 0 (.int .i64 l11.size)).set_ 1 (.int .i64 l11.wide)).set_ 2 (.int .i64 l11.high)).set_ 3 (.slice A7 n7 c7)).set_ 4 (.slice A8 n8 c8))
      clear cH fH gH
      generalize (((((w11.setCell ⟨QH, 0, none⟩ (.int .i64 l11.size)).setCell ⟨QH, 1, none⟩ (.int .i64 l11.wide)).setCell ⟨QH, 2, none⟩ (.int .i64 l11.high)).setCell ⟨QH, 3, none⟩ (.slice A7 n7 c7)).setCell ⟨QH, 4, none⟩ (.slice A8 n8 c8)) = w12 at HX GX K0 K1 BQ D BH ⊢
      go_wp2_with fail
      refine (l01Next_any _ g 30 _ D.src (by decide)).mono ?_
      rintro e w13 ⟨p2, rfl, pa2, pb2, g13, S13⟩
      have D := D.next g13 S13
      have K0 := K0.nx g13 (by omega)
      have K1 := K1.nx g13 (by omega)
      have BQ := BQ.nx g13 hQg
      have BH := BH.nx g13 hHg
      have GX := GX.nx g13 (by omega)
      have HX := HX.nx g13 (by omega)
      clear g13 S13
      by_cases h2 : p2 = 0
      · subst h2
        obtain ⟨a5, rfl, hv⟩ := HX.rd.head.int (show 0 < n7 from HX.pos)
        rw [Addr.add_zero'] at hv
        have hp0 : 0 < n7 := HX.pos
        have hnI : (0 : Int) < (n7 : Int) := by omega
        have hrow : blkp (some a5) n7 = some a5.block := by unfold blkp; rw [if_neg (by omega)]; rfl
        have ha5 : Z7 ≤ a5.block := HX.wr.hi _ (List.mem_cons_self ..) a5.block hrow
        have haH : a5.block ≠ QH := fun c => hH11 _ (List.mem_cons_self ..) (by rw [← c]; exact hrow)
        have cH := fun o => BH.cell o
        have gH := BH.lt
        by_cases hcv : l11.counts.getD 0 0 = 0
        · have hcb : (l11.counts.getD 0 0 != 0) = false := by simpa using hcv
          have hcc : (l11.counts.getD 0 0 == 0) = true := by simpa using hcv
          rw [hcv] at hv
          clear hcv hcb hcc
          go_upto_region 13 with fail
          clear cH hv
          have cB := fun o => BQ.cell o
          have cH := fun o => BH.cell o
          have c0 := fun o => K0.cell o
          have f0 := fun o => K0.frozen o
          have g0 := K0.lt
          have c1 := fun o => K1.cell o
          have f1 := fun o => K1.frozen o
          have g1 := K1.lt
          have zk := D.size
          go_wp2_with fail
          go_region_held3 (fun w' => (∀ o, w'.cell? ⟨Q, o, none⟩ = (#[.int .i64 l7.size, .int .i64 l7.wide, .int .i64 l7.high, .slice A3 n3 c3, .slice A4 n4 c4] : Array Value)[o]?) ∧ (∀ o, w'.cell? ⟨QH, o, none⟩ = (#[.int .i64 l11.size, .int .i64 l11.wide, .int .i64 l11.high, .slice (some a5) n7 c7, .slice A8 n8 c8] : Array Value)[o]?))
            (((with_reducible refine ⟨?_, ?_⟩) <;> (first | (with_reducible assumption) | ((with_reducible refine cells_drew ?_); (with_reducible assumption)) | ((try (with_reducible refine cells_drew ?_)); (repeat (with_reducible refine cells_set ?_ (by omega))); (first | (with_reducible assumption) | ((with_reducible refine cells_drew ?_); (with_reducible assumption)))))))
            (fail)
          all_goals
            have HB := HF.out _ D
            have N0 : Blk (((((((((((w13.setCell ⟨w.heap.size, 0, none⟩ (.int .i64 l7.size)).setCell ⟨w.heap.size, 1, none⟩ (.int .i64 l7.wide)).setCell ⟨w.heap.size, 2, none⟩ (.int .i64 l7.high)).setCell ⟨w.heap.size, 3, none⟩ (.slice A3 n3 c3)).setCell ⟨w.heap.size, 4, none⟩ (.slice A4 n4 c4)).setCell ⟨w.heap.size + 1, 0, none⟩ (.int .i64 l11.size)).setCell ⟨w.heap.size + 1, 1, none⟩ (.int .i64 l11.wide)).setCell ⟨w.heap.size + 1, 2, none⟩ (.int .i64 l11.high)).setCell ⟨w.heap.size + 1, 3, none⟩ (.slice (some a5) n7 c7)).setCell ⟨w.heap.size + 1, 4, none⟩ (.slice A8 n8 c8))).drew w.heap.size 50 #[.int .i64 l7.size, .int .i64 l7.wide, .int .i64 l7.high, .slice A3 n3 c3, .slice A4 n4 c4] := (Blk.drew ((((((((((K0.set_ 0 (.int .i64 l7.size)).set_ 1 (.int .i64 l7.wide)).set_ 2 (.int .i64 l7.high)).set_ 3 (.slice A3 n3 c3)).set_ 4 (.slice A4 n4 c4)).far (p := ⟨w.heap.size + 1, 0, none⟩) (by simp only; omega) (.int .i64 l11.size)).far (p := ⟨w.heap.size + 1, 1, none⟩) (by simp only; omega) (.int .i64 l11.wide)).far (p := ⟨w.heap.size + 1, 2, none⟩) (by simp only; omega) (.int .i64 l11.high)).far (p := ⟨w.heap.size + 1, 3, none⟩) (by simp only; omega) (.slice (some a5) n7 c7)).far (p := ⟨w.heap.size + 1, 4, none⟩) (by simp only; omega) (.slice A8 n8 c8)))
            have N1 : Blk (((((((((((w13.setCell ⟨w.heap.size, 0, none⟩ (.int .i64 l7.size)).setCell ⟨w.heap.size, 1, none⟩ (.int .i64 l7.wide)).setCell ⟨w.heap.size, 2, none⟩ (.int .i64 l7.high)).setCell ⟨w.heap.size, 3, none⟩ (.slice A3 n3 c3)).setCell ⟨w.heap.size, 4, none⟩ (.slice A4 n4 c4)).setCell ⟨w.heap.size + 1, 0, none⟩ (.int .i64 l11.size)).setCell ⟨w.heap.size + 1, 1, none⟩ (.int .i64 l11.wide)).setCell ⟨w.heap.size + 1, 2, none⟩ (.int .i64 l11.high)).setCell ⟨w.heap.size + 1, 3, none⟩ (.slice (some a5) n7 c7)).setCell ⟨w.heap.size + 1, 4, none⟩ (.slice A8 n8 c8))).drew (w.heap.size + 1) 50 #[.int .i64 l11.size, .int .i64 l11.wide, .int .i64 l11.high, .slice (some a5) n7 c7, .slice A8 n8 c8] := (Blk.drew ((((((((((K1.far (p := ⟨w.heap.size, 0, none⟩) (by simp only; omega) (.int .i64 l7.size)).far (p := ⟨w.heap.size, 1, none⟩) (by simp only; omega) (.int .i64 l7.wide)).far (p := ⟨w.heap.size, 2, none⟩) (by simp only; omega) (.int .i64 l7.high)).far (p := ⟨w.heap.size, 3, none⟩) (by simp only; omega) (.slice A3 n3 c3)).far (p := ⟨w.heap.size, 4, none⟩) (by simp only; omega) (.slice A4 n4 c4)).set_ 0 (.int .i64 l11.size)).set_ 1 (.int .i64 l11.wide)).set_ 2 (.int .i64 l11.high)).set_ 3 (.slice (some a5) n7 c7)).set_ 4 (.slice A8 n8 c8)))
            have NB : Below w.heap.size w (((((((((((w13.setCell ⟨w.heap.size, 0, none⟩ (.int .i64 l7.size)).setCell ⟨w.heap.size, 1, none⟩ (.int .i64 l7.wide)).setCell ⟨w.heap.size, 2, none⟩ (.int .i64 l7.high)).setCell ⟨w.heap.size, 3, none⟩ (.slice A3 n3 c3)).setCell ⟨w.heap.size, 4, none⟩ (.slice A4 n4 c4)).setCell ⟨w.heap.size + 1, 0, none⟩ (.int .i64 l11.size)).setCell ⟨w.heap.size + 1, 1, none⟩ (.int .i64 l11.wide)).setCell ⟨w.heap.size + 1, 2, none⟩ (.int .i64 l11.high)).setCell ⟨w.heap.size + 1, 3, none⟩ (.slice (some a5) n7 c7)).setCell ⟨w.heap.size + 1, 4, none⟩ (.slice A8 n8 c8))).drew := (Below.drew ((((((((((HB.setCell (p := ⟨w.heap.size, 0, none⟩) (Nat.le_refl _) (.int .i64 l7.size)).setCell (p := ⟨w.heap.size, 1, none⟩) (Nat.le_refl _) (.int .i64 l7.wide)).setCell (p := ⟨w.heap.size, 2, none⟩) (Nat.le_refl _) (.int .i64 l7.high)).setCell (p := ⟨w.heap.size, 3, none⟩) (Nat.le_refl _) (.slice A3 n3 c3)).setCell (p := ⟨w.heap.size, 4, none⟩) (Nat.le_refl _) (.slice A4 n4 c4)).setCell (p := ⟨w.heap.size + 1, 0, none⟩) (Nat.le_succ _) (.int .i64 l11.size)).setCell (p := ⟨w.heap.size + 1, 1, none⟩) (Nat.le_succ _) (.int .i64 l11.wide)).setCell (p := ⟨w.heap.size + 1, 2, none⟩) (Nat.le_succ _) (.int .i64 l11.high)).setCell (p := ⟨w.heap.size + 1, 3, none⟩) (Nat.le_succ _) (.slice (some a5) n7 c7)).setCell (p := ⟨w.heap.size + 1, 4, none⟩) (Nat.le_succ _) (.slice A8 n8 c8)))
            have NX := (((((((((((GX.cell (b := w.heap.size) (i := 0) (by omega) (.int .i64 l7.size)).cell (b := w.heap.size) (i := 1) (by omega) (.int .i64 l7.wide)).cell (b := w.heap.size) (i := 2) (by omega) (.int .i64 l7.high)).cell (b := w.heap.size) (i := 3) (by omega) (.slice A3 n3 c3)).cell (b := w.heap.size) (i := 4) (by omega) (.slice A4 n4 c4)).cell (b := w.heap.size + 1) (i := 0) (by omega) (.int .i64 l11.size)).cell (b := w.heap.size + 1) (i := 1) (by omega) (.int .i64 l11.wide)).cell (b := w.heap.size + 1) (i := 2) (by omega) (.int .i64 l11.high)).cell (b := w.heap.size + 1) (i := 3) (by omega) (.slice (some a5) n7 c7)).cell (b := w.heap.size + 1) (i := 4) (by omega) (.slice A8 n8 c8)).bel (Below.drew (Below.refl _ _)))
            have NY := (((((((((((HX.cell (b := w.heap.size) (i := 0) (by omega) (.int .i64 l7.size)).cell (b := w.heap.size) (i := 1) (by omega) (.int .i64 l7.wide)).cell (b := w.heap.size) (i := 2) (by omega) (.int .i64 l7.high)).cell (b := w.heap.size) (i := 3) (by omega) (.slice A3 n3 c3)).cell (b := w.heap.size) (i := 4) (by omega) (.slice A4 n4 c4)).cell (b := w.heap.size + 1) (i := 0) (by omega) (.int .i64 l11.size)).cell (b := w.heap.size + 1) (i := 1) (by omega) (.int .i64 l11.wide)).cell (b := w.heap.size + 1) (i := 2) (by omega) (.int .i64 l11.high)).cell (b := w.heap.size + 1) (i := 3) (by omega) (.slice (some a5) n7 c7)).cell (b := w.heap.size + 1) (i := 4) (by omega) (.slice A8 n8 c8)).bel (Below.drew (Below.refl _ _)))
            generalize (((((((((((w13.setCell ⟨w.heap.size, 0, none⟩ (.int .i64 l7.size)).setCell ⟨w.heap.size, 1, none⟩ (.int .i64 l7.wide)).setCell ⟨w.heap.size, 2, none⟩ (.int .i64 l7.high)).setCell ⟨w.heap.size, 3, none⟩ (.slice A3 n3 c3)).setCell ⟨w.heap.size, 4, none⟩ (.slice A4 n4 c4)).setCell ⟨w.heap.size + 1, 0, none⟩ (.int .i64 l11.size)).setCell ⟨w.heap.size + 1, 1, none⟩ (.int .i64 l11.wide)).setCell ⟨w.heap.size + 1, 2, none⟩ (.int .i64 l11.high)).setCell ⟨w.heap.size + 1, 3, none⟩ (.slice (some a5) n7 c7)).setCell ⟨w.heap.size + 1, 4, none⟩ (.slice A8 n8 c8))).drew = wz at N0 N1 NB NX NY ⊢
            have y0 := fun o => N0.cell o
            have y1 := fun o => N1.cell o
            have p0 := N0.lt
            have p1 := N1.lt
            go_wp2
            refine bodyPost_ret (v := .tuple #[.agg #[.int .i64 l7.size, .int .i64 l7.wide, .int .i64 l7.high, .slice A3 n3 c3, .slice A4 n4 c4], .agg #[.int .i64 l11.size, .int .i64 l11.wide, .int .i64 l11.high, .slice (some a5) n7 c7, .slice A8 n8 c8]]) (by simp [results, Try.results45, go_sem, y0, y1, p0, p1]) rfl ?_
            exact ⟨A3, n3, c3, A4, n4, c4, l7, (some a5), n7, c7, A8, n8, c8, l11, rfl, NX.ok, NX.rd, NY.ok, NY.rd, NB⟩
        · have hcb : (l11.counts.getD 0 0 != 0) = true := by simpa using hcv
          have hcc : (l11.counts.getD 0 0 == 0) = false := by rw [beq_eq_false_iff_ne]; exact hcv
          obtain ⟨_, ⟨⟩, -, hf⟩ := HX.wr.head hp0
          have hf := hf 0 hp0
          rw [Addr.add_zero'] at hf
          have HX := HX.set_c (ad := a5) rfl 1000000000000
          have GX := GX.setne (p := a5) (fun s hs c => by have := hGlo s hs _ c; omega) (.int .i64 1000000000000)
          have K0 := K0.far (p := a5) (by omega) (.int .i64 1000000000000)
          have K1 := K1.far (p := a5) (by omega) (.int .i64 1000000000000)
          have BQ := BQ.far (p := a5) (by omega) (.int .i64 1000000000000)
          have BH := BH.far (p := a5) haH.symm (.int .i64 1000000000000)
          have D := D.set_ (p := a5) (by omega) (.int .i64 1000000000000)
          obtain ⟨cv, hcve⟩ : ∃ v : Int, l11.counts.getD 0 0 = v := ⟨_, rfl⟩
          rw [hcve] at hv hcb hcc
          clear hcv hcve
          go_upto_region 13 with fail
          clear cH hv hf hcb hcc
          generalize w13.setCell a5 (.int .i64 1000000000000) = w14 at HX GX K0 K1 BQ BH D ⊢
          have cB := fun o => BQ.cell o
          have cH := fun o => BH.cell o
          have c0 := fun o => K0.cell o
          have f0 := fun o => K0.frozen o
          have g0 := K0.lt
          have c1 := fun o => K1.cell o
          have f1 := fun o => K1.frozen o
          have g1 := K1.lt
          have zk := D.size
          go_wp2_with fail
          go_region_held3 (fun w' => (∀ o, w'.cell? ⟨Q, o, none⟩ = (#[.int .i64 l7.size, .int .i64 l7.wide, .int .i64 l7.high, .slice A3 n3 c3, .slice A4 n4 c4] : Array Value)[o]?) ∧ (∀ o, w'.cell? ⟨QH, o, none⟩ = (#[.int .i64 (⟨l11.size, l11.wide, l11.high, l11.counts.set 0 1000000000000, l11.depths⟩ : DepthGridC).size, .int .i64 (⟨l11.size, l11.wide, l11.high, l11.counts.set 0 1000000000000, l11.depths⟩ : DepthGridC).wide, .int .i64 (⟨l11.size, l11.wide, l11.high, l11.counts.set 0 1000000000000, l11.depths⟩ : DepthGridC).high, .slice (some a5) n7 c7, .slice A8 n8 c8] : Array Value)[o]?))
            (((with_reducible refine ⟨?_, ?_⟩) <;> (first | (with_reducible assumption) | ((with_reducible refine cells_drew ?_); (with_reducible assumption)) | ((try (with_reducible refine cells_drew ?_)); (repeat (with_reducible refine cells_set ?_ (by omega))); (first | (with_reducible assumption) | ((with_reducible refine cells_drew ?_); (with_reducible assumption)))))))
            (fail)
          all_goals
            have HB := HF.out _ D
            have N0 : Blk (((((((((((w14.setCell ⟨w.heap.size, 0, none⟩ (.int .i64 l7.size)).setCell ⟨w.heap.size, 1, none⟩ (.int .i64 l7.wide)).setCell ⟨w.heap.size, 2, none⟩ (.int .i64 l7.high)).setCell ⟨w.heap.size, 3, none⟩ (.slice A3 n3 c3)).setCell ⟨w.heap.size, 4, none⟩ (.slice A4 n4 c4)).setCell ⟨w.heap.size + 1, 0, none⟩ (.int .i64 (⟨l11.size, l11.wide, l11.high, l11.counts.set 0 1000000000000, l11.depths⟩ : DepthGridC).size)).setCell ⟨w.heap.size + 1, 1, none⟩ (.int .i64 (⟨l11.size, l11.wide, l11.high, l11.counts.set 0 1000000000000, l11.depths⟩ : DepthGridC).wide)).setCell ⟨w.heap.size + 1, 2, none⟩ (.int .i64 (⟨l11.size, l11.wide, l11.high, l11.counts.set 0 1000000000000, l11.depths⟩ : DepthGridC).high)).setCell ⟨w.heap.size + 1, 3, none⟩ (.slice (some a5) n7 c7)).setCell ⟨w.heap.size + 1, 4, none⟩ (.slice A8 n8 c8))).drew w.heap.size 50 #[.int .i64 l7.size, .int .i64 l7.wide, .int .i64 l7.high, .slice A3 n3 c3, .slice A4 n4 c4] := (Blk.drew ((((((((((K0.set_ 0 (.int .i64 l7.size)).set_ 1 (.int .i64 l7.wide)).set_ 2 (.int .i64 l7.high)).set_ 3 (.slice A3 n3 c3)).set_ 4 (.slice A4 n4 c4)).far (p := ⟨w.heap.size + 1, 0, none⟩) (by simp only; omega) (.int .i64 (⟨l11.size, l11.wide, l11.high, l11.counts.set 0 1000000000000, l11.depths⟩ : DepthGridC).size)).far (p := ⟨w.heap.size + 1, 1, none⟩) (by simp only; omega) (.int .i64 (⟨l11.size, l11.wide, l11.high, l11.counts.set 0 1000000000000, l11.depths⟩ : DepthGridC).wide)).far (p := ⟨w.heap.size + 1, 2, none⟩) (by simp only; omega) (.int .i64 (⟨l11.size, l11.wide, l11.high, l11.counts.set 0 1000000000000, l11.depths⟩ : DepthGridC).high)).far (p := ⟨w.heap.size + 1, 3, none⟩) (by simp only; omega) (.slice (some a5) n7 c7)).far (p := ⟨w.heap.size + 1, 4, none⟩) (by simp only; omega) (.slice A8 n8 c8)))
            have N1 : Blk (((((((((((w14.setCell ⟨w.heap.size, 0, none⟩ (.int .i64 l7.size)).setCell ⟨w.heap.size, 1, none⟩ (.int .i64 l7.wide)).setCell ⟨w.heap.size, 2, none⟩ (.int .i64 l7.high)).setCell ⟨w.heap.size, 3, none⟩ (.slice A3 n3 c3)).setCell ⟨w.heap.size, 4, none⟩ (.slice A4 n4 c4)).setCell ⟨w.heap.size + 1, 0, none⟩ (.int .i64 (⟨l11.size, l11.wide, l11.high, l11.counts.set 0 1000000000000, l11.depths⟩ : DepthGridC).size)).setCell ⟨w.heap.size + 1, 1, none⟩ (.int .i64 (⟨l11.size, l11.wide, l11.high, l11.counts.set 0 1000000000000, l11.depths⟩ : DepthGridC).wide)).setCell ⟨w.heap.size + 1, 2, none⟩ (.int .i64 (⟨l11.size, l11.wide, l11.high, l11.counts.set 0 1000000000000, l11.depths⟩ : DepthGridC).high)).setCell ⟨w.heap.size + 1, 3, none⟩ (.slice (some a5) n7 c7)).setCell ⟨w.heap.size + 1, 4, none⟩ (.slice A8 n8 c8))).drew (w.heap.size + 1) 50 #[.int .i64 (⟨l11.size, l11.wide, l11.high, l11.counts.set 0 1000000000000, l11.depths⟩ : DepthGridC).size, .int .i64 (⟨l11.size, l11.wide, l11.high, l11.counts.set 0 1000000000000, l11.depths⟩ : DepthGridC).wide, .int .i64 (⟨l11.size, l11.wide, l11.high, l11.counts.set 0 1000000000000, l11.depths⟩ : DepthGridC).high, .slice (some a5) n7 c7, .slice A8 n8 c8] := (Blk.drew ((((((((((K1.far (p := ⟨w.heap.size, 0, none⟩) (by simp only; omega) (.int .i64 l7.size)).far (p := ⟨w.heap.size, 1, none⟩) (by simp only; omega) (.int .i64 l7.wide)).far (p := ⟨w.heap.size, 2, none⟩) (by simp only; omega) (.int .i64 l7.high)).far (p := ⟨w.heap.size, 3, none⟩) (by simp only; omega) (.slice A3 n3 c3)).far (p := ⟨w.heap.size, 4, none⟩) (by simp only; omega) (.slice A4 n4 c4)).set_ 0 (.int .i64 (⟨l11.size, l11.wide, l11.high, l11.counts.set 0 1000000000000, l11.depths⟩ : DepthGridC).size)).set_ 1 (.int .i64 (⟨l11.size, l11.wide, l11.high, l11.counts.set 0 1000000000000, l11.depths⟩ : DepthGridC).wide)).set_ 2 (.int .i64 (⟨l11.size, l11.wide, l11.high, l11.counts.set 0 1000000000000, l11.depths⟩ : DepthGridC).high)).set_ 3 (.slice (some a5) n7 c7)).set_ 4 (.slice A8 n8 c8)))
            have NB : Below w.heap.size w (((((((((((w14.setCell ⟨w.heap.size, 0, none⟩ (.int .i64 l7.size)).setCell ⟨w.heap.size, 1, none⟩ (.int .i64 l7.wide)).setCell ⟨w.heap.size, 2, none⟩ (.int .i64 l7.high)).setCell ⟨w.heap.size, 3, none⟩ (.slice A3 n3 c3)).setCell ⟨w.heap.size, 4, none⟩ (.slice A4 n4 c4)).setCell ⟨w.heap.size + 1, 0, none⟩ (.int .i64 (⟨l11.size, l11.wide, l11.high, l11.counts.set 0 1000000000000, l11.depths⟩ : DepthGridC).size)).setCell ⟨w.heap.size + 1, 1, none⟩ (.int .i64 (⟨l11.size, l11.wide, l11.high, l11.counts.set 0 1000000000000, l11.depths⟩ : DepthGridC).wide)).setCell ⟨w.heap.size + 1, 2, none⟩ (.int .i64 (⟨l11.size, l11.wide, l11.high, l11.counts.set 0 1000000000000, l11.depths⟩ : DepthGridC).high)).setCell ⟨w.heap.size + 1, 3, none⟩ (.slice (some a5) n7 c7)).setCell ⟨w.heap.size + 1, 4, none⟩ (.slice A8 n8 c8))).drew := (Below.drew ((((((((((HB.setCell (p := ⟨w.heap.size, 0, none⟩) (Nat.le_refl _) (.int .i64 l7.size)).setCell (p := ⟨w.heap.size, 1, none⟩) (Nat.le_refl _) (.int .i64 l7.wide)).setCell (p := ⟨w.heap.size, 2, none⟩) (Nat.le_refl _) (.int .i64 l7.high)).setCell (p := ⟨w.heap.size, 3, none⟩) (Nat.le_refl _) (.slice A3 n3 c3)).setCell (p := ⟨w.heap.size, 4, none⟩) (Nat.le_refl _) (.slice A4 n4 c4)).setCell (p := ⟨w.heap.size + 1, 0, none⟩) (Nat.le_succ _) (.int .i64 (⟨l11.size, l11.wide, l11.high, l11.counts.set 0 1000000000000, l11.depths⟩ : DepthGridC).size)).setCell (p := ⟨w.heap.size + 1, 1, none⟩) (Nat.le_succ _) (.int .i64 (⟨l11.size, l11.wide, l11.high, l11.counts.set 0 1000000000000, l11.depths⟩ : DepthGridC).wide)).setCell (p := ⟨w.heap.size + 1, 2, none⟩) (Nat.le_succ _) (.int .i64 (⟨l11.size, l11.wide, l11.high, l11.counts.set 0 1000000000000, l11.depths⟩ : DepthGridC).high)).setCell (p := ⟨w.heap.size + 1, 3, none⟩) (Nat.le_succ _) (.slice (some a5) n7 c7)).setCell (p := ⟨w.heap.size + 1, 4, none⟩) (Nat.le_succ _) (.slice A8 n8 c8)))
            have NX := (((((((((((GX.cell (b := w.heap.size) (i := 0) (by omega) (.int .i64 l7.size)).cell (b := w.heap.size) (i := 1) (by omega) (.int .i64 l7.wide)).cell (b := w.heap.size) (i := 2) (by omega) (.int .i64 l7.high)).cell (b := w.heap.size) (i := 3) (by omega) (.slice A3 n3 c3)).cell (b := w.heap.size) (i := 4) (by omega) (.slice A4 n4 c4)).cell (b := w.heap.size + 1) (i := 0) (by omega) (.int .i64 (⟨l11.size, l11.wide, l11.high, l11.counts.set 0 1000000000000, l11.depths⟩ : DepthGridC).size)).cell (b := w.heap.size + 1) (i := 1) (by omega) (.int .i64 (⟨l11.size, l11.wide, l11.high, l11.counts.set 0 1000000000000, l11.depths⟩ : DepthGridC).wide)).cell (b := w.heap.size + 1) (i := 2) (by omega) (.int .i64 (⟨l11.size, l11.wide, l11.high, l11.counts.set 0 1000000000000, l11.depths⟩ : DepthGridC).high)).cell (b := w.heap.size + 1) (i := 3) (by omega) (.slice (some a5) n7 c7)).cell (b := w.heap.size + 1) (i := 4) (by omega) (.slice A8 n8 c8)).bel (Below.drew (Below.refl _ _)))
            have NY := (((((((((((HX.cell (b := w.heap.size) (i := 0) (by omega) (.int .i64 l7.size)).cell (b := w.heap.size) (i := 1) (by omega) (.int .i64 l7.wide)).cell (b := w.heap.size) (i := 2) (by omega) (.int .i64 l7.high)).cell (b := w.heap.size) (i := 3) (by omega) (.slice A3 n3 c3)).cell (b := w.heap.size) (i := 4) (by omega) (.slice A4 n4 c4)).cell (b := w.heap.size + 1) (i := 0) (by omega) (.int .i64 (⟨l11.size, l11.wide, l11.high, l11.counts.set 0 1000000000000, l11.depths⟩ : DepthGridC).size)).cell (b := w.heap.size + 1) (i := 1) (by omega) (.int .i64 (⟨l11.size, l11.wide, l11.high, l11.counts.set 0 1000000000000, l11.depths⟩ : DepthGridC).wide)).cell (b := w.heap.size + 1) (i := 2) (by omega) (.int .i64 (⟨l11.size, l11.wide, l11.high, l11.counts.set 0 1000000000000, l11.depths⟩ : DepthGridC).high)).cell (b := w.heap.size + 1) (i := 3) (by omega) (.slice (some a5) n7 c7)).cell (b := w.heap.size + 1) (i := 4) (by omega) (.slice A8 n8 c8)).bel (Below.drew (Below.refl _ _)))
            generalize (((((((((((w14.setCell ⟨w.heap.size, 0, none⟩ (.int .i64 l7.size)).setCell ⟨w.heap.size, 1, none⟩ (.int .i64 l7.wide)).setCell ⟨w.heap.size, 2, none⟩ (.int .i64 l7.high)).setCell ⟨w.heap.size, 3, none⟩ (.slice A3 n3 c3)).setCell ⟨w.heap.size, 4, none⟩ (.slice A4 n4 c4)).setCell ⟨w.heap.size + 1, 0, none⟩ (.int .i64 (⟨l11.size, l11.wide, l11.high, l11.counts.set 0 1000000000000, l11.depths⟩ : DepthGridC).size)).setCell ⟨w.heap.size + 1, 1, none⟩ (.int .i64 (⟨l11.size, l11.wide, l11.high, l11.counts.set 0 1000000000000, l11.depths⟩ : DepthGridC).wide)).setCell ⟨w.heap.size + 1, 2, none⟩ (.int .i64 (⟨l11.size, l11.wide, l11.high, l11.counts.set 0 1000000000000, l11.depths⟩ : DepthGridC).high)).setCell ⟨w.heap.size + 1, 3, none⟩ (.slice (some a5) n7 c7)).setCell ⟨w.heap.size + 1, 4, none⟩ (.slice A8 n8 c8))).drew = wz at N0 N1 NB NX NY ⊢
            have y0 := fun o => N0.cell o
            have y1 := fun o => N1.cell o
            have p0 := N0.lt
            have p1 := N1.lt
            go_wp2
            refine bodyPost_ret (v := .tuple #[.agg #[.int .i64 l7.size, .int .i64 l7.wide, .int .i64 l7.high, .slice A3 n3 c3, .slice A4 n4 c4], .agg #[.int .i64 (⟨l11.size, l11.wide, l11.high, l11.counts.set 0 1000000000000, l11.depths⟩ : DepthGridC).size, .int .i64 (⟨l11.size, l11.wide, l11.high, l11.counts.set 0 1000000000000, l11.depths⟩ : DepthGridC).wide, .int .i64 (⟨l11.size, l11.wide, l11.high, l11.counts.set 0 1000000000000, l11.depths⟩ : DepthGridC).high, .slice (some a5) n7 c7, .slice A8 n8 c8]]) (by simp [results, Try.results45, go_sem, y0, y1, p0, p1]) rfl ?_
            exact ⟨A3, n3, c3, A4, n4, c4, l7, (some a5), n7, c7, A8, n8, c8, (⟨l11.size, l11.wide, l11.high, l11.counts.set 0 1000000000000, l11.depths⟩ : DepthGridC), rfl, NX.ok, NX.rd, NY.ok, NY.rd, NB⟩
      · have h2b : (p2 == 0) = false := by rw [beq_eq_false_iff_ne]; exact h2
        go_upto_region 13 with fail
        have cB := fun o => BQ.cell o
        have cH := fun o => BH.cell o
        have c0 := fun o => K0.cell o
        have f0 := fun o => K0.frozen o
        have g0 := K0.lt
        have c1 := fun o => K1.cell o
        have f1 := fun o => K1.frozen o
        have g1 := K1.lt
        have zk := D.size
        go_wp2_with fail
        go_region_held3 (fun w' => (∀ o, w'.cell? ⟨Q, o, none⟩ = (#[.int .i64 l7.size, .int .i64 l7.wide, .int .i64 l7.high, .slice A3 n3 c3, .slice A4 n4 c4] : Array Value)[o]?) ∧ (∀ o, w'.cell? ⟨QH, o, none⟩ = (#[.int .i64 l11.size, .int .i64 l11.wide, .int .i64 l11.high, .slice A7 n7 c7, .slice A8 n8 c8] : Array Value)[o]?))
          (((with_reducible refine ⟨?_, ?_⟩) <;> (first | (with_reducible assumption) | ((with_reducible refine cells_drew ?_); (with_reducible assumption)) | ((try (with_reducible refine cells_drew ?_)); (repeat (with_reducible refine cells_set ?_ (by omega))); (first | (with_reducible assumption) | ((with_reducible refine cells_drew ?_); (with_reducible assumption)))))))
          (fail)
        all_goals
          have HB := HF.out _ D
          have N0 : Blk (((((((((((w13.setCell ⟨w.heap.size, 0, none⟩ (.int .i64 l7.size)).setCell ⟨w.heap.size, 1, none⟩ (.int .i64 l7.wide)).setCell ⟨w.heap.size, 2, none⟩ (.int .i64 l7.high)).setCell ⟨w.heap.size, 3, none⟩ (.slice A3 n3 c3)).setCell ⟨w.heap.size, 4, none⟩ (.slice A4 n4 c4)).setCell ⟨w.heap.size + 1, 0, none⟩ (.int .i64 l11.size)).setCell ⟨w.heap.size + 1, 1, none⟩ (.int .i64 l11.wide)).setCell ⟨w.heap.size + 1, 2, none⟩ (.int .i64 l11.high)).setCell ⟨w.heap.size + 1, 3, none⟩ (.slice A7 n7 c7)).setCell ⟨w.heap.size + 1, 4, none⟩ (.slice A8 n8 c8))).drew w.heap.size 50 #[.int .i64 l7.size, .int .i64 l7.wide, .int .i64 l7.high, .slice A3 n3 c3, .slice A4 n4 c4] := (Blk.drew ((((((((((K0.set_ 0 (.int .i64 l7.size)).set_ 1 (.int .i64 l7.wide)).set_ 2 (.int .i64 l7.high)).set_ 3 (.slice A3 n3 c3)).set_ 4 (.slice A4 n4 c4)).far (p := ⟨w.heap.size + 1, 0, none⟩) (by simp only; omega) (.int .i64 l11.size)).far (p := ⟨w.heap.size + 1, 1, none⟩) (by simp only; omega) (.int .i64 l11.wide)).far (p := ⟨w.heap.size + 1, 2, none⟩) (by simp only; omega) (.int .i64 l11.high)).far (p := ⟨w.heap.size + 1, 3, none⟩) (by simp only; omega) (.slice A7 n7 c7)).far (p := ⟨w.heap.size + 1, 4, none⟩) (by simp only; omega) (.slice A8 n8 c8)))
          have N1 : Blk (((((((((((w13.setCell ⟨w.heap.size, 0, none⟩ (.int .i64 l7.size)).setCell ⟨w.heap.size, 1, none⟩ (.int .i64 l7.wide)).setCell ⟨w.heap.size, 2, none⟩ (.int .i64 l7.high)).setCell ⟨w.heap.size, 3, none⟩ (.slice A3 n3 c3)).setCell ⟨w.heap.size, 4, none⟩ (.slice A4 n4 c4)).setCell ⟨w.heap.size + 1, 0, none⟩ (.int .i64 l11.size)).setCell ⟨w.heap.size + 1, 1, none⟩ (.int .i64 l11.wide)).setCell ⟨w.heap.size + 1, 2, none⟩ (.int .i64 l11.high)).setCell ⟨w.heap.size + 1, 3, none⟩ (.slice A7 n7 c7)).setCell ⟨w.heap.size + 1, 4, none⟩ (.slice A8 n8 c8))).drew (w.heap.size + 1) 50 #[.int .i64 l11.size, .int .i64 l11.wide, .int .i64 l11.high, .slice A7 n7 c7, .slice A8 n8 c8] := (Blk.drew ((((((((((K1.far (p := ⟨w.heap.size, 0, none⟩) (by simp only; omega) (.int .i64 l7.size)).far (p := ⟨w.heap.size, 1, none⟩) (by simp only; omega) (.int .i64 l7.wide)).far (p := ⟨w.heap.size, 2, none⟩) (by simp only; omega) (.int .i64 l7.high)).far (p := ⟨w.heap.size, 3, none⟩) (by simp only; omega) (.slice A3 n3 c3)).far (p := ⟨w.heap.size, 4, none⟩) (by simp only; omega) (.slice A4 n4 c4)).set_ 0 (.int .i64 l11.size)).set_ 1 (.int .i64 l11.wide)).set_ 2 (.int .i64 l11.high)).set_ 3 (.slice A7 n7 c7)).set_ 4 (.slice A8 n8 c8)))
          have NB : Below w.heap.size w (((((((((((w13.setCell ⟨w.heap.size, 0, none⟩ (.int .i64 l7.size)).setCell ⟨w.heap.size, 1, none⟩ (.int .i64 l7.wide)).setCell ⟨w.heap.size, 2, none⟩ (.int .i64 l7.high)).setCell ⟨w.heap.size, 3, none⟩ (.slice A3 n3 c3)).setCell ⟨w.heap.size, 4, none⟩ (.slice A4 n4 c4)).setCell ⟨w.heap.size + 1, 0, none⟩ (.int .i64 l11.size)).setCell ⟨w.heap.size + 1, 1, none⟩ (.int .i64 l11.wide)).setCell ⟨w.heap.size + 1, 2, none⟩ (.int .i64 l11.high)).setCell ⟨w.heap.size + 1, 3, none⟩ (.slice A7 n7 c7)).setCell ⟨w.heap.size + 1, 4, none⟩ (.slice A8 n8 c8))).drew := (Below.drew ((((((((((HB.setCell (p := ⟨w.heap.size, 0, none⟩) (Nat.le_refl _) (.int .i64 l7.size)).setCell (p := ⟨w.heap.size, 1, none⟩) (Nat.le_refl _) (.int .i64 l7.wide)).setCell (p := ⟨w.heap.size, 2, none⟩) (Nat.le_refl _) (.int .i64 l7.high)).setCell (p := ⟨w.heap.size, 3, none⟩) (Nat.le_refl _) (.slice A3 n3 c3)).setCell (p := ⟨w.heap.size, 4, none⟩) (Nat.le_refl _) (.slice A4 n4 c4)).setCell (p := ⟨w.heap.size + 1, 0, none⟩) (Nat.le_succ _) (.int .i64 l11.size)).setCell (p := ⟨w.heap.size + 1, 1, none⟩) (Nat.le_succ _) (.int .i64 l11.wide)).setCell (p := ⟨w.heap.size + 1, 2, none⟩) (Nat.le_succ _) (.int .i64 l11.high)).setCell (p := ⟨w.heap.size + 1, 3, none⟩) (Nat.le_succ _) (.slice A7 n7 c7)).setCell (p := ⟨w.heap.size + 1, 4, none⟩) (Nat.le_succ _) (.slice A8 n8 c8)))
          have NX := (((((((((((GX.cell (b := w.heap.size) (i := 0) (by omega) (.int .i64 l7.size)).cell (b := w.heap.size) (i := 1) (by omega) (.int .i64 l7.wide)).cell (b := w.heap.size) (i := 2) (by omega) (.int .i64 l7.high)).cell (b := w.heap.size) (i := 3) (by omega) (.slice A3 n3 c3)).cell (b := w.heap.size) (i := 4) (by omega) (.slice A4 n4 c4)).cell (b := w.heap.size + 1) (i := 0) (by omega) (.int .i64 l11.size)).cell (b := w.heap.size + 1) (i := 1) (by omega) (.int .i64 l11.wide)).cell (b := w.heap.size + 1) (i := 2) (by omega) (.int .i64 l11.high)).cell (b := w.heap.size + 1) (i := 3) (by omega) (.slice A7 n7 c7)).cell (b := w.heap.size + 1) (i := 4) (by omega) (.slice A8 n8 c8)).bel (Below.drew (Below.refl _ _)))
          have NY := (((((((((((HX.cell (b := w.heap.size) (i := 0) (by omega) (.int .i64 l7.size)).cell (b := w.heap.size) (i := 1) (by omega) (.int .i64 l7.wide)).cell (b := w.heap.size) (i := 2) (by omega) (.int .i64 l7.high)).cell (b := w.heap.size) (i := 3) (by omega) (.slice A3 n3 c3)).cell (b := w.heap.size) (i := 4) (by omega) (.slice A4 n4 c4)).cell (b := w.heap.size + 1) (i := 0) (by omega) (.int .i64 l11.size)).cell (b := w.heap.size + 1) (i := 1) (by omega) (.int .i64 l11.wide)).cell (b := w.heap.size + 1) (i := 2) (by omega) (.int .i64 l11.high)).cell (b := w.heap.size + 1) (i := 3) (by omega) (.slice A7 n7 c7)).cell (b := w.heap.size + 1) (i := 4) (by omega) (.slice A8 n8 c8)).bel (Below.drew (Below.refl _ _)))
          generalize (((((((((((w13.setCell ⟨w.heap.size, 0, none⟩ (.int .i64 l7.size)).setCell ⟨w.heap.size, 1, none⟩ (.int .i64 l7.wide)).setCell ⟨w.heap.size, 2, none⟩ (.int .i64 l7.high)).setCell ⟨w.heap.size, 3, none⟩ (.slice A3 n3 c3)).setCell ⟨w.heap.size, 4, none⟩ (.slice A4 n4 c4)).setCell ⟨w.heap.size + 1, 0, none⟩ (.int .i64 l11.size)).setCell ⟨w.heap.size + 1, 1, none⟩ (.int .i64 l11.wide)).setCell ⟨w.heap.size + 1, 2, none⟩ (.int .i64 l11.high)).setCell ⟨w.heap.size + 1, 3, none⟩ (.slice A7 n7 c7)).setCell ⟨w.heap.size + 1, 4, none⟩ (.slice A8 n8 c8))).drew = wz at N0 N1 NB NX NY ⊢
          have y0 := fun o => N0.cell o
          have y1 := fun o => N1.cell o
          have p0 := N0.lt
          have p1 := N1.lt
          go_wp2
          refine bodyPost_ret (v := .tuple #[.agg #[.int .i64 l7.size, .int .i64 l7.wide, .int .i64 l7.high, .slice A3 n3 c3, .slice A4 n4 c4], .agg #[.int .i64 l11.size, .int .i64 l11.wide, .int .i64 l11.high, .slice A7 n7 c7, .slice A8 n8 c8]]) (by simp [results, Try.results45, go_sem, y0, y1, p0, p1]) rfl ?_
          exact ⟨A3, n3, c3, A4, n4, c4, l7, A7, n7, c7, A8, n8, c8, l11, rfl, NX.ok, NX.rd, NY.ok, NY.rd, NB⟩
    · have hpb : (p == 0) = false := by rw [beq_eq_false_iff_ne]; exact hp
      go_upto_region 11 with fail
      go_wp2_with fail
      refine (l01Next_any _ g 30 _ D.src (by decide)).mono ?_
      rintro e w13 ⟨p2, rfl, pa2, pb2, g13, S13⟩
      have D := D.next g13 S13
      have K0 := K0.nx g13 (by omega)
      have K1 := K1.nx g13 (by omega)
      have BQ := BQ.nx g13 hQg
      have BH := BH.nx g13 hHg
      have GX := GX.nx g13 (by omega)
      have HX := HX.nx g13 (by omega)
      clear g13 S13
      by_cases h2 : p2 = 0
      · subst h2
        obtain ⟨a5, rfl, hv⟩ := HX.rd.head.int (show 0 < n5 from HX.pos)
        rw [Addr.add_zero'] at hv
        have hp0 : 0 < n5 := HX.pos
        have hnI : (0 : Int) < (n5 : Int) := by omega
        have hrow : blkp (some a5) n5 = some a5.block := by unfold blkp; rw [if_neg (by omega)]; rfl
        have ha5 : Z7 ≤ a5.block := HX.wr.hi _ (List.mem_cons_self ..) a5.block hrow
        have haH : a5.block ≠ QH := fun c => hH0 _ (List.mem_cons_self ..) (by rw [← c]; exact hrow)
        have cH := fun o => BH.cell o
        have gH := BH.lt
        by_cases hcv : l8.counts.getD 0 0 = 0
        · have hcb : (l8.counts.getD 0 0 != 0) = false := by simpa using hcv
          have hcc : (l8.counts.getD 0 0 == 0) = true := by simpa using hcv
          rw [hcv] at hv
          clear hcv hcb hcc
          go_upto_region 13 with fail
          clear cH hv
          have cB := fun o => BQ.cell o
          have cH := fun o => BH.cell o
          have c0 := fun o => K0.cell o
          have f0 := fun o => K0.frozen o
          have g0 := K0.lt
          have c1 := fun o => K1.cell o
          have f1 := fun o => K1.frozen o
          have g1 := K1.lt
          have zk := D.size
          go_wp2_with fail
          go_region_held3 (fun w' => (∀ o, w'.cell? ⟨Q, o, none⟩ = (#[.int .i64 l7.size, .int .i64 l7.wide, .int .i64 l7.high, .slice A3 n3 c3, .slice A4 n4 c4] : Array Value)[o]?) ∧ (∀ o, w'.cell? ⟨QH, o, none⟩ = (#[.int .i64 l8.size, .int .i64 l8.wide, .int .i64 l8.high, .slice (some a5) n5 c5, .slice A6 n6 c6] : Array Value)[o]?))
            (((with_reducible refine ⟨?_, ?_⟩) <;> (first | (with_reducible assumption) | ((with_reducible refine cells_drew ?_); (with_reducible assumption)) | ((try (with_reducible refine cells_drew ?_)); (repeat (with_reducible refine cells_set ?_ (by omega))); (first | (with_reducible assumption) | ((with_reducible refine cells_drew ?_); (with_reducible assumption)))))))
            (fail)
          all_goals
            have HB := HF.out _ D
            have N0 : Blk (((((((((((w13.setCell ⟨w.heap.size, 0, none⟩ (.int .i64 l7.size)).setCell ⟨w.heap.size, 1, none⟩ (.int .i64 l7.wide)).setCell ⟨w.heap.size, 2, none⟩ (.int .i64 l7.high)).setCell ⟨w.heap.size, 3, none⟩ (.slice A3 n3 c3)).setCell ⟨w.heap.size, 4, none⟩ (.slice A4 n4 c4)).setCell ⟨w.heap.size + 1, 0, none⟩ (.int .i64 l8.size)).setCell ⟨w.heap.size + 1, 1, none⟩ (.int .i64 l8.wide)).setCell ⟨w.heap.size + 1, 2, none⟩ (.int .i64 l8.high)).setCell ⟨w.heap.size + 1, 3, none⟩ (.slice (some a5) n5 c5)).setCell ⟨w.heap.size + 1, 4, none⟩ (.slice A6 n6 c6))).drew w.heap.size 50 #[.int .i64 l7.size, .int .i64 l7.wide, .int .i64 l7.high, .slice A3 n3 c3, .slice A4 n4 c4] := (Blk.drew ((((((((((K0.set_ 0 (.int .i64 l7.size)).set_ 1 (.int .i64 l7.wide)).set_ 2 (.int .i64 l7.high)).set_ 3 (.slice A3 n3 c3)).set_ 4 (.slice A4 n4 c4)).far (p := ⟨w.heap.size + 1, 0, none⟩) (by simp only; omega) (.int .i64 l8.size)).far (p := ⟨w.heap.size + 1, 1, none⟩) (by simp only; omega) (.int .i64 l8.wide)).far (p := ⟨w.heap.size + 1, 2, none⟩) (by simp only; omega) (.int .i64 l8.high)).far (p := ⟨w.heap.size + 1, 3, none⟩) (by simp only; omega) (.slice (some a5) n5 c5)).far (p := ⟨w.heap.size + 1, 4, none⟩) (by simp only; omega) (.slice A6 n6 c6)))
            have N1 : Blk (((((((((((w13.setCell ⟨w.heap.size, 0, none⟩ (.int .i64 l7.size)).setCell ⟨w.heap.size, 1, none⟩ (.int .i64 l7.wide)).setCell ⟨w.heap.size, 2, none⟩ (.int .i64 l7.high)).setCell ⟨w.heap.size, 3, none⟩ (.slice A3 n3 c3)).setCell ⟨w.heap.size, 4, none⟩ (.slice A4 n4 c4)).setCell ⟨w.heap.size + 1, 0, none⟩ (.int .i64 l8.size)).setCell ⟨w.heap.size + 1, 1, none⟩ (.int .i64 l8.wide)).setCell ⟨w.heap.size + 1, 2, none⟩ (.int .i64 l8.high)).setCell ⟨w.heap.size + 1, 3, none⟩ (.slice (some a5) n5 c5)).setCell ⟨w.heap.size + 1, 4, none⟩ (.slice A6 n6 c6))).drew (w.heap.size + 1) 50 #[.int .i64 l8.size, .int .i64 l8.wide, .int .i64 l8.high, .slice (some a5) n5 c5, .slice A6 n6 c6] := (Blk.drew ((((((((((K1.far (p := ⟨w.heap.size, 0, none⟩) (by simp only; omega) (.int .i64 l7.size)).far (p := ⟨w.heap.size, 1, none⟩) (by simp only; omega) (.int .i64 l7.wide)).far (p := ⟨w.heap.size, 2, none⟩) (by simp only; omega) (.int .i64 l7.high)).far (p := ⟨w.heap.size, 3, none⟩) (by simp only; omega) (.slice A3 n3 c3)).far (p := ⟨w.heap.size, 4, none⟩) (by simp only; omega) (.slice A4 n4 c4)).set_ 0 (.int .i64 l8.size)).set_ 1 (.int .i64 l8.wide)).set_ 2 (.int .i64 l8.high)).set_ 3 (.slice (some a5) n5 c5)).set_ 4 (.slice A6 n6 c6)))
            have NB : Below w.heap.size w (((((((((((w13.setCell ⟨w.heap.size, 0, none⟩ (.int .i64 l7.size)).setCell ⟨w.heap.size, 1, none⟩ (.int .i64 l7.wide)).setCell ⟨w.heap.size, 2, none⟩ (.int .i64 l7.high)).setCell ⟨w.heap.size, 3, none⟩ (.slice A3 n3 c3)).setCell ⟨w.heap.size, 4, none⟩ (.slice A4 n4 c4)).setCell ⟨w.heap.size + 1, 0, none⟩ (.int .i64 l8.size)).setCell ⟨w.heap.size + 1, 1, none⟩ (.int .i64 l8.wide)).setCell ⟨w.heap.size + 1, 2, none⟩ (.int .i64 l8.high)).setCell ⟨w.heap.size + 1, 3, none⟩ (.slice (some a5) n5 c5)).setCell ⟨w.heap.size + 1, 4, none⟩ (.slice A6 n6 c6))).drew := (Below.drew ((((((((((HB.setCell (p := ⟨w.heap.size, 0, none⟩) (Nat.le_refl _) (.int .i64 l7.size)).setCell (p := ⟨w.heap.size, 1, none⟩) (Nat.le_refl _) (.int .i64 l7.wide)).setCell (p := ⟨w.heap.size, 2, none⟩) (Nat.le_refl _) (.int .i64 l7.high)).setCell (p := ⟨w.heap.size, 3, none⟩) (Nat.le_refl _) (.slice A3 n3 c3)).setCell (p := ⟨w.heap.size, 4, none⟩) (Nat.le_refl _) (.slice A4 n4 c4)).setCell (p := ⟨w.heap.size + 1, 0, none⟩) (Nat.le_succ _) (.int .i64 l8.size)).setCell (p := ⟨w.heap.size + 1, 1, none⟩) (Nat.le_succ _) (.int .i64 l8.wide)).setCell (p := ⟨w.heap.size + 1, 2, none⟩) (Nat.le_succ _) (.int .i64 l8.high)).setCell (p := ⟨w.heap.size + 1, 3, none⟩) (Nat.le_succ _) (.slice (some a5) n5 c5)).setCell (p := ⟨w.heap.size + 1, 4, none⟩) (Nat.le_succ _) (.slice A6 n6 c6)))
            have NX := (((((((((((GX.cell (b := w.heap.size) (i := 0) (by omega) (.int .i64 l7.size)).cell (b := w.heap.size) (i := 1) (by omega) (.int .i64 l7.wide)).cell (b := w.heap.size) (i := 2) (by omega) (.int .i64 l7.high)).cell (b := w.heap.size) (i := 3) (by omega) (.slice A3 n3 c3)).cell (b := w.heap.size) (i := 4) (by omega) (.slice A4 n4 c4)).cell (b := w.heap.size + 1) (i := 0) (by omega) (.int .i64 l8.size)).cell (b := w.heap.size + 1) (i := 1) (by omega) (.int .i64 l8.wide)).cell (b := w.heap.size + 1) (i := 2) (by omega) (.int .i64 l8.high)).cell (b := w.heap.size + 1) (i := 3) (by omega) (.slice (some a5) n5 c5)).cell (b := w.heap.size + 1) (i := 4) (by omega) (.slice A6 n6 c6)).bel (Below.drew (Below.refl _ _)))
            have NY := (((((((((((HX.cell (b := w.heap.size) (i := 0) (by omega) (.int .i64 l7.size)).cell (b := w.heap.size) (i := 1) (by omega) (.int .i64 l7.wide)).cell (b := w.heap.size) (i := 2) (by omega) (.int .i64 l7.high)).cell (b := w.heap.size) (i := 3) (by omega) (.slice A3 n3 c3)).cell (b := w.heap.size) (i := 4) (by omega) (.slice A4 n4 c4)).cell (b := w.heap.size + 1) (i := 0) (by omega) (.int .i64 l8.size)).cell (b := w.heap.size + 1) (i := 1) (by omega) (.int .i64 l8.wide)).cell (b := w.heap.size + 1) (i := 2) (by omega) (.int .i64 l8.high)).cell (b := w.heap.size + 1) (i := 3) (by omega) (.slice (some a5) n5 c5)).cell (b := w.heap.size + 1) (i := 4) (by omega) (.slice A6 n6 c6)).bel (Below.drew (Below.refl _ _)))
            generalize (((((((((((w13.setCell ⟨w.heap.size, 0, none⟩ (.int .i64 l7.size)).setCell ⟨w.heap.size, 1, none⟩ (.int .i64 l7.wide)).setCell ⟨w.heap.size, 2, none⟩ (.int .i64 l7.high)).setCell ⟨w.heap.size, 3, none⟩ (.slice A3 n3 c3)).setCell ⟨w.heap.size, 4, none⟩ (.slice A4 n4 c4)).setCell ⟨w.heap.size + 1, 0, none⟩ (.int .i64 l8.size)).setCell ⟨w.heap.size + 1, 1, none⟩ (.int .i64 l8.wide)).setCell ⟨w.heap.size + 1, 2, none⟩ (.int .i64 l8.high)).setCell ⟨w.heap.size + 1, 3, none⟩ (.slice (some a5) n5 c5)).setCell ⟨w.heap.size + 1, 4, none⟩ (.slice A6 n6 c6))).drew = wz at N0 N1 NB NX NY ⊢
            have y0 := fun o => N0.cell o
            have y1 := fun o => N1.cell o
            have p0 := N0.lt
            have p1 := N1.lt
            go_wp2
            refine bodyPost_ret (v := .tuple #[.agg #[.int .i64 l7.size, .int .i64 l7.wide, .int .i64 l7.high, .slice A3 n3 c3, .slice A4 n4 c4], .agg #[.int .i64 l8.size, .int .i64 l8.wide, .int .i64 l8.high, .slice (some a5) n5 c5, .slice A6 n6 c6]]) (by simp [results, Try.results45, go_sem, y0, y1, p0, p1]) rfl ?_
            exact ⟨A3, n3, c3, A4, n4, c4, l7, (some a5), n5, c5, A6, n6, c6, l8, rfl, NX.ok, NX.rd, NY.ok, NY.rd, NB⟩
        · have hcb : (l8.counts.getD 0 0 != 0) = true := by simpa using hcv
          have hcc : (l8.counts.getD 0 0 == 0) = false := by rw [beq_eq_false_iff_ne]; exact hcv
          obtain ⟨_, ⟨⟩, -, hf⟩ := HX.wr.head hp0
          have hf := hf 0 hp0
          rw [Addr.add_zero'] at hf
          have HX := HX.set_c (ad := a5) rfl 1000000000000
          have GX := GX.setne (p := a5) (fun s hs c => by have := hGlo s hs _ c; omega) (.int .i64 1000000000000)
          have K0 := K0.far (p := a5) (by omega) (.int .i64 1000000000000)
          have K1 := K1.far (p := a5) (by omega) (.int .i64 1000000000000)
          have BQ := BQ.far (p := a5) (by omega) (.int .i64 1000000000000)
          have BH := BH.far (p := a5) haH.symm (.int .i64 1000000000000)
          have D := D.set_ (p := a5) (by omega) (.int .i64 1000000000000)
          obtain ⟨cv, hcve⟩ : ∃ v : Int, l8.counts.getD 0 0 = v := ⟨_, rfl⟩
          rw [hcve] at hv hcb hcc
          clear hcv hcve
          go_upto_region 13 with fail
          clear cH hv hf hcb hcc
          generalize w13.setCell a5 (.int .i64 1000000000000) = w14 at HX GX K0 K1 BQ BH D ⊢
          have cB := fun o => BQ.cell o
          have cH := fun o => BH.cell o
          have c0 := fun o => K0.cell o
          have f0 := fun o => K0.frozen o
          have g0 := K0.lt
          have c1 := fun o => K1.cell o
          have f1 := fun o => K1.frozen o
          have g1 := K1.lt
          have zk := D.size
          go_wp2_with fail
          go_region_held3 (fun w' => (∀ o, w'.cell? ⟨Q, o, none⟩ = (#[.int .i64 l7.size, .int .i64 l7.wide, .int .i64 l7.high, .slice A3 n3 c3, .slice A4 n4 c4] : Array Value)[o]?) ∧ (∀ o, w'.cell? ⟨QH, o, none⟩ = (#[.int .i64 (⟨l8.size, l8.wide, l8.high, l8.counts.set 0 1000000000000, l8.depths⟩ : DepthGridC).size, .int .i64 (⟨l8.size, l8.wide, l8.high, l8.counts.set 0 1000000000000, l8.depths⟩ : DepthGridC).wide, .int .i64 (⟨l8.size, l8.wide, l8.high, l8.counts.set 0 1000000000000, l8.depths⟩ : DepthGridC).high, .slice (some a5) n5 c5, .slice A6 n6 c6] : Array Value)[o]?))
            (((with_reducible refine ⟨?_, ?_⟩) <;> (first | (with_reducible assumption) | ((with_reducible refine cells_drew ?_); (with_reducible assumption)) | ((try (with_reducible refine cells_drew ?_)); (repeat (with_reducible refine cells_set ?_ (by omega))); (first | (with_reducible assumption) | ((with_reducible refine cells_drew ?_); (with_reducible assumption)))))))
            (fail)
          all_goals
            have HB := HF.out _ D
            have N0 : Blk (((((((((((w14.setCell ⟨w.heap.size, 0, none⟩ (.int .i64 l7.size)).setCell ⟨w.heap.size, 1, none⟩ (.int .i64 l7.wide)).setCell ⟨w.heap.size, 2, none⟩ (.int .i64 l7.high)).setCell ⟨w.heap.size, 3, none⟩ (.slice A3 n3 c3)).setCell ⟨w.heap.size, 4, none⟩ (.slice A4 n4 c4)).setCell ⟨w.heap.size + 1, 0, none⟩ (.int .i64 (⟨l8.size, l8.wide, l8.high, l8.counts.set 0 1000000000000, l8.depths⟩ : DepthGridC).size)).setCell ⟨w.heap.size + 1, 1, none⟩ (.int .i64 (⟨l8.size, l8.wide, l8.high, l8.counts.set 0 1000000000000, l8.depths⟩ : DepthGridC).wide)).setCell ⟨w.heap.size + 1, 2, none⟩ (.int .i64 (⟨l8.size, l8.wide, l8.high, l8.counts.set 0 1000000000000, l8.depths⟩ : DepthGridC).high)).setCell ⟨w.heap.size + 1, 3, none⟩ (.slice (some a5) n5 c5)).setCell ⟨w.heap.size + 1, 4, none⟩ (.slice A6 n6 c6))).drew w.heap.size 50 #[.int .i64 l7.size, .int .i64 l7.wide, .int .i64 l7.high, .slice A3 n3 c3, .slice A4 n4 c4] := (Blk.drew ((((((((((K0.set_ 0 (.int .i64 l7.size)).set_ 1 (.int .i64 l7.wide)).set_ 2 (.int .i64 l7.high)).set_ 3 (.slice A3 n3 c3)).set_ 4 (.slice A4 n4 c4)).far (p := ⟨w.heap.size + 1, 0, none⟩) (by simp only; omega) (.int .i64 (⟨l8.size, l8.wide, l8.high, l8.counts.set 0 1000000000000, l8.depths⟩ : DepthGridC).size)).far (p := ⟨w.heap.size + 1, 1, none⟩) (by simp only; omega) (.int .i64 (⟨l8.size, l8.wide, l8.high, l8.counts.set 0 1000000000000, l8.depths⟩ : DepthGridC).wide)).far (p := ⟨w.heap.size + 1, 2, none⟩) (by simp only; omega) (.int .i64 (⟨l8.size, l8.wide, l8.high, l8.counts.set 0 1000000000000, l8.depths⟩ : DepthGridC).high)).far (p := ⟨w.heap.size + 1, 3, none⟩) (by simp only; omega) (.slice (some a5) n5 c5)).far (p := ⟨w.heap.size + 1, 4, none⟩) (by simp only; omega) (.slice A6 n6 c6)))
            have N1 : Blk (((((((((((w14.setCell ⟨w.heap.size, 0, none⟩ (.int .i64 l7.size)).setCell ⟨w.heap.size, 1, none⟩ (.int .i64 l7.wide)).setCell ⟨w.heap.size, 2, none⟩ (.int .i64 l7.high)).setCell ⟨w.heap.size, 3, none⟩ (.slice A3 n3 c3)).setCell ⟨w.heap.size, 4, none⟩ (.slice A4 n4 c4)).setCell ⟨w.heap.size + 1, 0, none⟩ (.int .i64 (⟨l8.size, l8.wide, l8.high, l8.counts.set 0 1000000000000, l8.depths⟩ : DepthGridC).size)).setCell ⟨w.heap.size + 1, 1, none⟩ (.int .i64 (⟨l8.size, l8.wide, l8.high, l8.counts.set 0 1000000000000, l8.depths⟩ : DepthGridC).wide)).setCell ⟨w.heap.size + 1, 2, none⟩ (.int .i64 (⟨l8.size, l8.wide, l8.high, l8.counts.set 0 1000000000000, l8.depths⟩ : DepthGridC).high)).setCell ⟨w.heap.size + 1, 3, none⟩ (.slice (some a5) n5 c5)).setCell ⟨w.heap.size + 1, 4, none⟩ (.slice A6 n6 c6))).drew (w.heap.size + 1) 50 #[.int .i64 (⟨l8.size, l8.wide, l8.high, l8.counts.set 0 1000000000000, l8.depths⟩ : DepthGridC).size, .int .i64 (⟨l8.size, l8.wide, l8.high, l8.counts.set 0 1000000000000, l8.depths⟩ : DepthGridC).wide, .int .i64 (⟨l8.size, l8.wide, l8.high, l8.counts.set 0 1000000000000, l8.depths⟩ : DepthGridC).high, .slice (some a5) n5 c5, .slice A6 n6 c6] := (Blk.drew ((((((((((K1.far (p := ⟨w.heap.size, 0, none⟩) (by simp only; omega) (.int .i64 l7.size)).far (p := ⟨w.heap.size, 1, none⟩) (by simp only; omega) (.int .i64 l7.wide)).far (p := ⟨w.heap.size, 2, none⟩) (by simp only; omega) (.int .i64 l7.high)).far (p := ⟨w.heap.size, 3, none⟩) (by simp only; omega) (.slice A3 n3 c3)).far (p := ⟨w.heap.size, 4, none⟩) (by simp only; omega) (.slice A4 n4 c4)).set_ 0 (.int .i64 (⟨l8.size, l8.wide, l8.high, l8.counts.set 0 1000000000000, l8.depths⟩ : DepthGridC).size)).set_ 1 (.int .i64 (⟨l8.size, l8.wide, l8.high, l8.counts.set 0 1000000000000, l8.depths⟩ : DepthGridC).wide)).set_ 2 (.int .i64 (⟨l8.size, l8.wide, l8.high, l8.counts.set 0 1000000000000, l8.depths⟩ : DepthGridC).high)).set_ 3 (.slice (some a5) n5 c5)).set_ 4 (.slice A6 n6 c6)))
            have NB : Below w.heap.size w (((((((((((w14.setCell ⟨w.heap.size, 0, none⟩ (.int .i64 l7.size)).setCell ⟨w.heap.size, 1, none⟩ (.int .i64 l7.wide)).setCell ⟨w.heap.size, 2, none⟩ (.int .i64 l7.high)).setCell ⟨w.heap.size, 3, none⟩ (.slice A3 n3 c3)).setCell ⟨w.heap.size, 4, none⟩ (.slice A4 n4 c4)).setCell ⟨w.heap.size + 1, 0, none⟩ (.int .i64 (⟨l8.size, l8.wide, l8.high, l8.counts.set 0 1000000000000, l8.depths⟩ : DepthGridC).size)).setCell ⟨w.heap.size + 1, 1, none⟩ (.int .i64 (⟨l8.size, l8.wide, l8.high, l8.counts.set 0 1000000000000, l8.depths⟩ : DepthGridC).wide)).setCell ⟨w.heap.size + 1, 2, none⟩ (.int .i64 (⟨l8.size, l8.wide, l8.high, l8.counts.set 0 1000000000000, l8.depths⟩ : DepthGridC).high)).setCell ⟨w.heap.size + 1, 3, none⟩ (.slice (some a5) n5 c5)).setCell ⟨w.heap.size + 1, 4, none⟩ (.slice A6 n6 c6))).drew := (Below.drew ((((((((((HB.setCell (p := ⟨w.heap.size, 0, none⟩) (Nat.le_refl _) (.int .i64 l7.size)).setCell (p := ⟨w.heap.size, 1, none⟩) (Nat.le_refl _) (.int .i64 l7.wide)).setCell (p := ⟨w.heap.size, 2, none⟩) (Nat.le_refl _) (.int .i64 l7.high)).setCell (p := ⟨w.heap.size, 3, none⟩) (Nat.le_refl _) (.slice A3 n3 c3)).setCell (p := ⟨w.heap.size, 4, none⟩) (Nat.le_refl _) (.slice A4 n4 c4)).setCell (p := ⟨w.heap.size + 1, 0, none⟩) (Nat.le_succ _) (.int .i64 (⟨l8.size, l8.wide, l8.high, l8.counts.set 0 1000000000000, l8.depths⟩ : DepthGridC).size)).setCell (p := ⟨w.heap.size + 1, 1, none⟩) (Nat.le_succ _) (.int .i64 (⟨l8.size, l8.wide, l8.high, l8.counts.set 0 1000000000000, l8.depths⟩ : DepthGridC).wide)).setCell (p := ⟨w.heap.size + 1, 2, none⟩) (Nat.le_succ _) (.int .i64 (⟨l8.size, l8.wide, l8.high, l8.counts.set 0 1000000000000, l8.depths⟩ : DepthGridC).high)).setCell (p := ⟨w.heap.size + 1, 3, none⟩) (Nat.le_succ _) (.slice (some a5) n5 c5)).setCell (p := ⟨w.heap.size + 1, 4, none⟩) (Nat.le_succ _) (.slice A6 n6 c6)))
            have NX := (((((((((((GX.cell (b := w.heap.size) (i := 0) (by omega) (.int .i64 l7.size)).cell (b := w.heap.size) (i := 1) (by omega) (.int .i64 l7.wide)).cell (b := w.heap.size) (i := 2) (by omega) (.int .i64 l7.high)).cell (b := w.heap.size) (i := 3) (by omega) (.slice A3 n3 c3)).cell (b := w.heap.size) (i := 4) (by omega) (.slice A4 n4 c4)).cell (b := w.heap.size + 1) (i := 0) (by omega) (.int .i64 (⟨l8.size, l8.wide, l8.high, l8.counts.set 0 1000000000000, l8.depths⟩ : DepthGridC).size)).cell (b := w.heap.size + 1) (i := 1) (by omega) (.int .i64 (⟨l8.size, l8.wide, l8.high, l8.counts.set 0 1000000000000, l8.depths⟩ : DepthGridC).wide)).cell (b := w.heap.size + 1) (i := 2) (by omega) (.int .i64 (⟨l8.size, l8.wide, l8.high, l8.counts.set 0 1000000000000, l8.depths⟩ : DepthGridC).high)).cell (b := w.heap.size + 1) (i := 3) (by omega) (.slice (some a5) n5 c5)).cell (b := w.heap.size + 1) (i := 4) (by omega) (.slice A6 n6 c6)).bel (Below.drew (Below.refl _ _)))
            have NY := (((((((((((HX.cell (b := w.heap.size) (i := 0) (by omega) (.int .i64 l7.size)).cell (b := w.heap.size) (i := 1) (by omega) (.int .i64 l7.wide)).cell (b := w.heap.size) (i := 2) (by omega) (.int .i64 l7.high)).cell (b := w.heap.size) (i := 3) (by omega) (.slice A3 n3 c3)).cell (b := w.heap.size) (i := 4) (by omega) (.slice A4 n4 c4)).cell (b := w.heap.size + 1) (i := 0) (by omega) (.int .i64 (⟨l8.size, l8.wide, l8.high, l8.counts.set 0 1000000000000, l8.depths⟩ : DepthGridC).size)).cell (b := w.heap.size + 1) (i := 1) (by omega) (.int .i64 (⟨l8.size, l8.wide, l8.high, l8.counts.set 0 1000000000000, l8.depths⟩ : DepthGridC).wide)).cell (b := w.heap.size + 1) (i := 2) (by omega) (.int .i64 (⟨l8.size, l8.wide, l8.high, l8.counts.set 0 1000000000000, l8.depths⟩ : DepthGridC).high)).cell (b := w.heap.size + 1) (i := 3) (by omega) (.slice (some a5) n5 c5)).cell (b := w.heap.size + 1) (i := 4) (by omega) (.slice A6 n6 c6)).bel (Below.drew (Below.refl _ _)))
            generalize (((((((((((w14.setCell ⟨w.heap.size, 0, none⟩ (.int .i64 l7.size)).setCell ⟨w.heap.size, 1, none⟩ (.int .i64 l7.wide)).setCell ⟨w.heap.size, 2, none⟩ (.int .i64 l7.high)).setCell ⟨w.heap.size, 3, none⟩ (.slice A3 n3 c3)).setCell ⟨w.heap.size, 4, none⟩ (.slice A4 n4 c4)).setCell ⟨w.heap.size + 1, 0, none⟩ (.int .i64 (⟨l8.size, l8.wide, l8.high, l8.counts.set 0 1000000000000, l8.depths⟩ : DepthGridC).size)).setCell ⟨w.heap.size + 1, 1, none⟩ (.int .i64 (⟨l8.size, l8.wide, l8.high, l8.counts.set 0 1000000000000, l8.depths⟩ : DepthGridC).wide)).setCell ⟨w.heap.size + 1, 2, none⟩ (.int .i64 (⟨l8.size, l8.wide, l8.high, l8.counts.set 0 1000000000000, l8.depths⟩ : DepthGridC).high)).setCell ⟨w.heap.size + 1, 3, none⟩ (.slice (some a5) n5 c5)).setCell ⟨w.heap.size + 1, 4, none⟩ (.slice A6 n6 c6))).drew = wz at N0 N1 NB NX NY ⊢
            have y0 := fun o => N0.cell o
            have y1 := fun o => N1.cell o
            have p0 := N0.lt
            have p1 := N1.lt
            go_wp2
            refine bodyPost_ret (v := .tuple #[.agg #[.int .i64 l7.size, .int .i64 l7.wide, .int .i64 l7.high, .slice A3 n3 c3, .slice A4 n4 c4], .agg #[.int .i64 (⟨l8.size, l8.wide, l8.high, l8.counts.set 0 1000000000000, l8.depths⟩ : DepthGridC).size, .int .i64 (⟨l8.size, l8.wide, l8.high, l8.counts.set 0 1000000000000, l8.depths⟩ : DepthGridC).wide, .int .i64 (⟨l8.size, l8.wide, l8.high, l8.counts.set 0 1000000000000, l8.depths⟩ : DepthGridC).high, .slice (some a5) n5 c5, .slice A6 n6 c6]]) (by simp [results, Try.results45, go_sem, y0, y1, p0, p1]) rfl ?_
            exact ⟨A3, n3, c3, A4, n4, c4, l7, (some a5), n5, c5, A6, n6, c6, (⟨l8.size, l8.wide, l8.high, l8.counts.set 0 1000000000000, l8.depths⟩ : DepthGridC), rfl, NX.ok, NX.rd, NY.ok, NY.rd, NB⟩
      · have h2b : (p2 == 0) = false := by rw [beq_eq_false_iff_ne]; exact h2
        go_upto_region 13 with fail
        have cB := fun o => BQ.cell o
        have cH := fun o => BH.cell o
        have c0 := fun o => K0.cell o
        have f0 := fun o => K0.frozen o
        have g0 := K0.lt
        have c1 := fun o => K1.cell o
        have f1 := fun o => K1.frozen o
        have g1 := K1.lt
        have zk := D.size
        go_wp2_with fail
        go_region_held3 (fun w' => (∀ o, w'.cell? ⟨Q, o, none⟩ = (#[.int .i64 l7.size, .int .i64 l7.wide, .int .i64 l7.high, .slice A3 n3 c3, .slice A4 n4 c4] : Array Value)[o]?) ∧ (∀ o, w'.cell? ⟨QH, o, none⟩ = (#[.int .i64 l8.size, .int .i64 l8.wide, .int .i64 l8.high, .slice A5 n5 c5, .slice A6 n6 c6] : Array Value)[o]?))
          (((with_reducible refine ⟨?_, ?_⟩) <;> (first | (with_reducible assumption) | ((with_reducible refine cells_drew ?_); (with_reducible assumption)) | ((try (with_reducible refine cells_drew ?_)); (repeat (with_reducible refine cells_set ?_ (by omega))); (first | (with_reducible assumption) | ((with_reducible refine cells_drew ?_); (with_reducible assumption)))))))
          (fail)
        all_goals
          have HB := HF.out _ D
          have N0 : Blk (((((((((((w13.setCell ⟨w.heap.size, 0, none⟩ (.int .i64 l7.size)).setCell ⟨w.heap.size, 1, none⟩ (.int .i64 l7.wide)).setCell ⟨w.heap.size, 2, none⟩ (.int .i64 l7.high)).setCell ⟨w.heap.size, 3, none⟩ (.slice A3 n3 c3)).setCell ⟨w.heap.size, 4, none⟩ (.slice A4 n4 c4)).setCell ⟨w.heap.size + 1, 0, none⟩ (.int .i64 l8.size)).setCell ⟨w.heap.size + 1, 1, none⟩ (.int .i64 l8.wide)).setCell ⟨w.heap.size + 1, 2, none⟩ (.int .i64 l8.high)).setCell ⟨w.heap.size + 1, 3, none⟩ (.slice A5 n5 c5)).setCell ⟨w.heap.size + 1, 4, none⟩ (.slice A6 n6 c6))).drew w.heap.size 50 #[.int .i64 l7.size, .int .i64 l7.wide, .int .i64 l7.high, .slice A3 n3 c3, .slice A4 n4 c4] := (Blk.drew ((((((((((K0.set_ 0 (.int .i64 l7.size)).set_ 1 (.int .i64 l7.wide)).set_ 2 (.int .i64 l7.high)).set_ 3 (.slice A3 n3 c3)).set_ 4 (.slice A4 n4 c4)).far (p := ⟨w.heap.size + 1, 0, none⟩) (by simp only; omega) (.int .i64 l8.size)).far (p := ⟨w.heap.size + 1, 1, none⟩) (by simp only; omega) (.int .i64 l8.wide)).far (p := ⟨w.heap.size + 1, 2, none⟩) (by simp only; omega) (.int .i64 l8.high)).far (p := ⟨w.heap.size + 1, 3, none⟩) (by simp only; omega) (.slice A5 n5 c5)).far (p := ⟨w.heap.size + 1, 4, none⟩) (by simp only; omega) (.slice A6 n6 c6)))
          have N1 : Blk (((((((((((w13.setCell ⟨w.heap.size, 0, none⟩ (.int .i64 l7.size)).setCell ⟨w.heap.size, 1, none⟩ (.int .i64 l7.wide)).setCell ⟨w.heap.size, 2, none⟩ (.int .i64 l7.high)).setCell ⟨w.heap.size, 3, none⟩ (.slice A3 n3 c3)).setCell ⟨w.heap.size, 4, none⟩ (.slice A4 n4 c4)).setCell ⟨w.heap.size + 1, 0, none⟩ (.int .i64 l8.size)).setCell ⟨w.heap.size + 1, 1, none⟩ (.int .i64 l8.wide)).setCell ⟨w.heap.size + 1, 2, none⟩ (.int .i64 l8.high)).setCell ⟨w.heap.size + 1, 3, none⟩ (.slice A5 n5 c5)).setCell ⟨w.heap.size + 1, 4, none⟩ (.slice A6 n6 c6))).drew (w.heap.size + 1) 50 #[.int .i64 l8.size, .int .i64 l8.wide, .int .i64 l8.high, .slice A5 n5 c5, .slice A6 n6 c6] := (Blk.drew ((((((((((K1.far (p := ⟨w.heap.size, 0, none⟩) (by simp only; omega) (.int .i64 l7.size)).far (p := ⟨w.heap.size, 1, none⟩) (by simp only; omega) (.int .i64 l7.wide)).far (p := ⟨w.heap.size, 2, none⟩) (by simp only; omega) (.int .i64 l7.high)).far (p := ⟨w.heap.size, 3, none⟩) (by simp only; omega) (.slice A3 n3 c3)).far (p := ⟨w.heap.size, 4, none⟩) (by simp only; omega) (.slice A4 n4 c4)).set_ 0 (.int .i64 l8.size)).set_ 1 (.int .i64 l8.wide)).set_ 2 (.int .i64 l8.high)).set_ 3 (.slice A5 n5 c5)).set_ 4 (.slice A6 n6 c6)))
          have NB : Below w.heap.size w (((((((((((w13.setCell ⟨w.heap.size, 0, none⟩ (.int .i64 l7.size)).setCell ⟨w.heap.size, 1, none⟩ (.int .i64 l7.wide)).setCell ⟨w.heap.size, 2, none⟩ (.int .i64 l7.high)).setCell ⟨w.heap.size, 3, none⟩ (.slice A3 n3 c3)).setCell ⟨w.heap.size, 4, none⟩ (.slice A4 n4 c4)).setCell ⟨w.heap.size + 1, 0, none⟩ (.int .i64 l8.size)).setCell ⟨w.heap.size + 1, 1, none⟩ (.int .i64 l8.wide)).setCell ⟨w.heap.size + 1, 2, none⟩ (.int .i64 l8.high)).setCell ⟨w.heap.size + 1, 3, none⟩ (.slice A5 n5 c5)).setCell ⟨w.heap.size + 1, 4, none⟩ (.slice A6 n6 c6))).drew := (Below.drew ((((((((((HB.setCell (p := ⟨w.heap.size, 0, none⟩) (Nat.le_refl _) (.int .i64 l7.size)).setCell (p := ⟨w.heap.size, 1, none⟩) (Nat.le_refl _) (.int .i64 l7.wide)).setCell (p := ⟨w.heap.size, 2, none⟩) (Nat.le_refl _) (.int .i64 l7.high)).setCell (p := ⟨w.heap.size, 3, none⟩) (Nat.le_refl _) (.slice A3 n3 c3)).setCell (p := ⟨w.heap.size, 4, none⟩) (Nat.le_refl _) (.slice A4 n4 c4)).setCell (p := ⟨w.heap.size + 1, 0, none⟩) (Nat.le_succ _) (.int .i64 l8.size)).setCell (p := ⟨w.heap.size + 1, 1, none⟩) (Nat.le_succ _) (.int .i64 l8.wide)).setCell (p := ⟨w.heap.size + 1, 2, none⟩) (Nat.le_succ _) (.int .i64 l8.high)).setCell (p := ⟨w.heap.size + 1, 3, none⟩) (Nat.le_succ _) (.slice A5 n5 c5)).setCell (p := ⟨w.heap.size + 1, 4, none⟩) (Nat.le_succ _) (.slice A6 n6 c6)))
          have NX := (((((((((((GX.cell (b := w.heap.size) (i := 0) (by omega) (.int .i64 l7.size)).cell (b := w.heap.size) (i := 1) (by omega) (.int .i64 l7.wide)).cell (b := w.heap.size) (i := 2) (by omega) (.int .i64 l7.high)).cell (b := w.heap.size) (i := 3) (by omega) (.slice A3 n3 c3)).cell (b := w.heap.size) (i := 4) (by omega) (.slice A4 n4 c4)).cell (b := w.heap.size + 1) (i := 0) (by omega) (.int .i64 l8.size)).cell (b := w.heap.size + 1) (i := 1) (by omega) (.int .i64 l8.wide)).cell (b := w.heap.size + 1) (i := 2) (by omega) (.int .i64 l8.high)).cell (b := w.heap.size + 1) (i := 3) (by omega) (.slice A5 n5 c5)).cell (b := w.heap.size + 1) (i := 4) (by omega) (.slice A6 n6 c6)).bel (Below.drew (Below.refl _ _)))
          have NY := (((((((((((HX.cell (b := w.heap.size) (i := 0) (by omega) (.int .i64 l7.size)).cell (b := w.heap.size) (i := 1) (by omega) (.int .i64 l7.wide)).cell (b := w.heap.size) (i := 2) (by omega) (.int .i64 l7.high)).cell (b := w.heap.size) (i := 3) (by omega) (.slice A3 n3 c3)).cell (b := w.heap.size) (i := 4) (by omega) (.slice A4 n4 c4)).cell (b := w.heap.size + 1) (i := 0) (by omega) (.int .i64 l8.size)).cell (b := w.heap.size + 1) (i := 1) (by omega) (.int .i64 l8.wide)).cell (b := w.heap.size + 1) (i := 2) (by omega) (.int .i64 l8.high)).cell (b := w.heap.size + 1) (i := 3) (by omega) (.slice A5 n5 c5)).cell (b := w.heap.size + 1) (i := 4) (by omega) (.slice A6 n6 c6)).bel (Below.drew (Below.refl _ _)))
          generalize (((((((((((w13.setCell ⟨w.heap.size, 0, none⟩ (.int .i64 l7.size)).setCell ⟨w.heap.size, 1, none⟩ (.int .i64 l7.wide)).setCell ⟨w.heap.size, 2, none⟩ (.int .i64 l7.high)).setCell ⟨w.heap.size, 3, none⟩ (.slice A3 n3 c3)).setCell ⟨w.heap.size, 4, none⟩ (.slice A4 n4 c4)).setCell ⟨w.heap.size + 1, 0, none⟩ (.int .i64 l8.size)).setCell ⟨w.heap.size + 1, 1, none⟩ (.int .i64 l8.wide)).setCell ⟨w.heap.size + 1, 2, none⟩ (.int .i64 l8.high)).setCell ⟨w.heap.size + 1, 3, none⟩ (.slice A5 n5 c5)).setCell ⟨w.heap.size + 1, 4, none⟩ (.slice A6 n6 c6))).drew = wz at N0 N1 NB NX NY ⊢
          have y0 := fun o => N0.cell o
          have y1 := fun o => N1.cell o
          have p0 := N0.lt
          have p1 := N1.lt
          go_wp2
          refine bodyPost_ret (v := .tuple #[.agg #[.int .i64 l7.size, .int .i64 l7.wide, .int .i64 l7.high, .slice A3 n3 c3, .slice A4 n4 c4], .agg #[.int .i64 l8.size, .int .i64 l8.wide, .int .i64 l8.high, .slice A5 n5 c5, .slice A6 n6 c6]]) (by simp [results, Try.results45, go_sem, y0, y1, p0, p1]) rfl ?_
          exact ⟨A3, n3, c3, A4, n4, c4, l7, A5, n5, c5, A6, n6, c6, l8, rfl, NX.ok, NX.rd, NY.ok, NY.rd, NB⟩
end Go.Proofs.Ythmcnoloeeabbaa
