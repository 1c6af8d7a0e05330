/- A drawn grid. Existential: some grid of at most 900 cells. -/
import Derived.Test.YthmcnoloeeabbaaGriW
namespace Go.Proofs.Ythmcnoloeeabbaa
open Go.RowKit


def DrawG (w : World) (L g : Nat) (e : Ending) (w' : World) : Prop := ∃ h l, e = .returned (DepthGridV h l) ∧ GriW w' w.heap.size h l ∧ Dr w w' L g
set_option maxRecDepth 100000 in
set_option maxHeartbeats 4000000 in
theorem l22Draw_any (L g : Nat) (w : World) (S : Src w L g) :
    Calls Try.prog 103 #[.pointer (some ⟨g, 0, none⟩)] w (DrawG w L g) := by
  have D0 := (Dr.start S).alloc (.cells #[.int .i64 0, .int .i64 0, .int .i64 0, .slice none 0 0, .slice none 0 0] 50)
  have K0 := Blk.new w 50 #[.int .i64 0, .int .i64 0, .int .i64 0, .slice none 0 0, .slice none 0 0]
  have gS := S.lt
  go_enter Try.func103, Try.ntmps103
  go_wp2_with fail
  generalize w.alloc (.cells #[.int .i64 0, .int .i64 0, .int .i64 0, .slice none 0 0, .slice none 0 0] 50) = w0 at D0 K0 ⊢
  refine (l21Draw_any L g _ D0.src).mono ?_
  rintro e w1 ⟨⟨HA, hN, hC⟩, xs, rfl, h201, hnc, R1, low1, E1⟩
  simp only at h201 hnc R1 low1
  have low0 : ∀ ad, HA = some ad → 0 < hN * 4 → some g ≠ some ad.block := fun ad e hn c => by
    have := low1 ad e hn; have := D0.size; injection c with c; have := gS.1; omega
  have D1 := D0.next E1.gr E1.src
  have K1 := K0.nx E1.gr (by omega)
  clear D0 K0 E1
  go_upto_region 2 with fail
  go_wp2_with fail
  refine (specAreSoundings_any HA hN hC xs _ (by omega) R1).mono ?_
  rintro e w3 ⟨rfl, b2⟩
  have D3 := D1.bel b2
  have K3 := K1.below b2 K1.lt
  have R3 := R1.below b2
  clear D1 K1 R1 b2
  rcases Bool.eq_false_or_eq_true (sndsB xs hN) with hs | hs
  · rw [hs]
    have HS := Lib.hid hs
    clear hs
    go_wp2_with fail
    refine (l01Next_any L g 14 _ D3.src (by decide)).mono ?_
    rintro e w4 ⟨s0, rfl, s1, s2, g4, S4⟩
    have D4 := D3.next g4 S4
    have K4 := K3.nx g4 (by omega)
    have u4 : IntKind.i64.wrap (8 + s0) = 8 + s0 := IntWalk.i64_in _ (by omega)
    go_wp2_with fail
    refine (l01Next_any L g 6 _ D4.src (by decide)).mono ?_
    rintro e w5 ⟨a0, rfl, a1, a2, g5, S5⟩
    have D5 := D4.next g5 S5
    have K5 := K4.nx g5 (by omega)
    have u5 : IntKind.i64.wrap (1 + a0) = 1 + a0 := IntWalk.i64_in _ (by omega)
    go_wp2_with fail
    refine (l01Next_any L g 5 _ D5.src (by decide)).mono ?_
    rintro e w6 ⟨c0, rfl, c1, c2, g6, S6⟩
    have D6 := D5.next g6 S6
    have K6 := K5.nx g6 (by omega)
    have u6 : IntKind.i64.wrap (1 + c0) = 1 + c0 := IntWalk.i64_in _ (by omega)
    have R6 : Rd w6 (HA) ((hN) * 4) (ints (xs)) := ((R3.grown g4 low0).grown g5 low0).grown g6 low0
    go_wp2_with fail
    refine (specGrids_any (8 + s0) (1 + a0) (1 + c0) (HA) (hN) (hC) (xs) _ (by omega) R6).mono ?_
    rintro e w7 ⟨⟨⟨A3, n3, c3⟩, ⟨A4, n4, c4⟩⟩, rfl, ok7, X7, Y7, P7, b7⟩
    have sh : gshape (8 + s0) (1 + a0) (1 + c0) = true := by unfold gshape; rw [inR_mk (by omega) (by omega), inR_mk (by omega) (by omega), inR_mk (by omega) (by omega)]; rfl
    have c0e := gsC_mk HS.out sh
    have l7 : gsR (8 + s0) (1 + a0) (1 + c0) (xs) (hN) = gsTo (8 + s0) (1 + a0).toNat (1 + c0).toNat (xs) (hN) := by unfold gsR; rw [if_pos c0e]
    have k7 : GOk (gsR (8 + s0) (1 + a0) (1 + c0) (xs) (hN)) := by
      rw [l7]
      refine GOk.of (gs_ok (by omega) (by omega) (by omega) (by omega) (by omega) (by omega) ?_ (by omega))
      have := HS.out; unfold sndsB at this; simp only [Bool.and_eq_true] at this; exact this.1
    have G7 := GriW.of k7 X7 Y7 P7
    have D7 := D6.bel b7
    have K7 := K6.below b7 K6.lt
    have K6z := K6.lt
    rw [c0e]
    clear c0e l7 sh HS X7 Y7 P7 b7 ok7 D3 D4 D5 D6 K3 K4 K5 K6 R3 R6 g4 g5 g6 S4 S5 S6 u4 u5 u6
    have hz6 : w.heap.size < w6.heap.size := K6z
    generalize gsR (8 + s0) (1 + a0) (1 + c0) (xs) (hN) = l7 at k7 G7 ⊢
    have G7 := G7.lower (C := w.heap.size + 1) hz6
    unfold DepthGridV
    simp only
    go_upto_region 5 with fail
    have BQ := Blk.new w7 50 #[.int .i64 l7.size, .int .i64 l7.wide, .int .i64 l7.high, .slice A3 n3 c3, .slice A4 n4 c4]
    have D8 := D7.alloc (.cells #[.int .i64 l7.size, .int .i64 l7.wide, .int .i64 l7.high, .slice A3 n3 c3, .slice A4 n4 c4] 50)
    have K8 := K7.alloc (.cells #[.int .i64 l7.size, .int .i64 l7.wide, .int .i64 l7.high, .slice A3 n3 c3, .slice A4 n4 c4] 50)
    have G8 := G7.alloc (.cells #[.int .i64 l7.size, .int .i64 l7.wide, .int .i64 l7.high, .slice A3 n3 c3, .slice A4 n4 c4] 50)
    have hQ0 : ∀ s ∈ DepthGridR ⟨⟨A3, n3, c3⟩, ⟨A4, n4, c4⟩⟩, s ≠ some w7.heap.size := (G7.rd.lo).ne (Nat.le_refl _)
    have hz7 : w.heap.size < w7.heap.size := K7.lt
    generalize w7.alloc (.cells #[.int .i64 l7.size, .int .i64 l7.wide, .int .i64 l7.high, .slice A3 n3 c3, .slice A4 n4 c4] 50) = w8 at BQ D8 K8 G8 ⊢
    generalize w7.heap.size = Q at BQ hz7 hQ0 ⊢
    clear D7 K7 G7
    have hQ1 : Q ≠ w.heap.size := by omega
    have hQ2 : w.heap.size ≠ Q := by omega
    have hQg : g ≠ Q := by omega
    go_wp2_with fail
    refine (l01Next_any L g 3 _ D8.src (by decide)).mono ?_
    rintro e w9 ⟨q, rfl, q0, q1, g9, S9⟩
    have D9 := D8.next g9 S9
    have K9 := K8.nx g9 (by omega)
    have B9 := BQ.nx g9 hQg
    have G9 := G8.nx g9 (by omega)
    clear D8 K8 BQ G8 g9 S9
    by_cases hq : q = 0
    · subst hq
      have cB := fun o => B9.cell o
      have fB := fun o => B9.frozen o
      have gB := B9.lt
      have HF := specFillGaps'_any ⟨⟨A3, n3, c3⟩, ⟨A4, n4, c4⟩⟩ l7 w9 G9.ok G9.rd
      simp only [DepthGridV] at HF
      go_wp2_with fail
      refine HF.mono ?_
      rintro e w10 ⟨⟨⟨A5, n5, c5⟩, ⟨A6, n6, c6⟩⟩, rfl, ok10, X10, Y10, P10, b10⟩
      have G10 := fg_side_ok k7 X10 Y10 P10
      have hQ10 : ∀ s ∈ DepthGridR ⟨⟨A5, n5, c5⟩, ⟨A6, n6, c6⟩⟩, s ≠ some Q := G10.ne gB
      have G10 := G10.lower (C := w.heap.size + 1) (by omega)
      have D10 := D9.bel b10
      have K10 := K9.below b10 K9.lt
      have B10 := B9.below b10 gB
      clear D9 K9 B9 G9 cB fB gB HF X10 Y10 P10 b10 ok10 hQ0 k7
      generalize fgR l7 = l10 at G10
      unfold DepthGridV
      simp only
      have cB := fun o => B10.cell o
      have fB := fun o => B10.frozen o
      have gB := B10.lt
      go_upto_region 7 with fail
      have G11 := (((((G10.cellne (i := 0) hQ10 (.int .i64 l10.size)).cellne (i := 1) hQ10 (.int .i64 l10.wide)).cellne (i := 2) hQ10 (.int .i64 l10.high)).cellne (i := 3) hQ10 (.slice A5 n5 c5)).cellne (i := 4) hQ10 (.slice A6 n6 c6))
      have K11 := (((((K10.far (p := ⟨Q, 0, none⟩) (by simp only; omega) (.int .i64 l10.size)).far (p := ⟨Q, 1, none⟩) (by simp only; omega) (.int .i64 l10.wide)).far (p := ⟨Q, 2, none⟩) (by simp only; omega) (.int .i64 l10.high)).far (p := ⟨Q, 3, none⟩) (by simp only; omega) (.slice A5 n5 c5)).far (p := ⟨Q, 4, none⟩) (by simp only; omega) (.slice A6 n6 c6))
      have D11 := (((((D10.set_ (p := ⟨Q, 0, none⟩) (by simp only; omega) (.int .i64 l10.size)).set_ (p := ⟨Q, 1, none⟩) (by simp only; omega) (.int .i64 l10.wide)).set_ (p := ⟨Q, 2, none⟩) (by simp only; omega) (.int .i64 l10.high)).set_ (p := ⟨Q, 3, none⟩) (by simp only; omega) (.slice A5 n5 c5)).set_ (p := ⟨Q, 4, none⟩) (by simp only; omega) (.slice A6 n6 c6))
      have B11 : Blk _ Q 50 #[.int .i64 l10.size, .int .i64 l10.wide, .int .i64 l10.high, .slice A5 n5 c5, .slice A6 n6 c6] := (((((B10.set_ 0 (.int .i64 l10.size)).set_ 1 (.int .i64 l10.wide)).set_ 2 (.int .i64 l10.high)).set_ 3 (.slice A5 n5 c5)).set_ 4 (.slice A6 n6 c6))
      clear G10 K10 D10 B10 cB fB gB
      generalize (((((w10.setCell ⟨Q, 0, none⟩ (.int .i64 l10.size)).setCell ⟨Q, 1, none⟩ (.int .i64 l10.wide)).setCell ⟨Q, 2, none⟩ (.int .i64 l10.high)).setCell ⟨Q, 3, none⟩ (.slice A5 n5 c5)).setCell ⟨Q, 4, none⟩ (.slice A6 n6 c6)) = w11 at G11 K11 D11 B11 ⊢
      go_wp2_with fail
      refine (l01Next_any L g 50 _ D11.src (by decide)).mono ?_
      rintro e w12 ⟨r, rfl, r0, r1, g12, S12⟩
      have D12 := D11.next g12 S12
      have K12 := K11.nx g12 (by omega)
      have B12 := B11.nx g12 hQg
      have G12 := G11.nx g12 (by omega)
      clear D11 K11 B11 G11 g12 S12
      by_cases hr : r = 0 ∨ r = 1 ∨ r = 2 ∨ r = 3
      case neg =>
        have e0 : (r == 0) = false := by rw [beq_eq_false_iff_ne]; omega
        have e1 : (r == 1) = false := by rw [beq_eq_false_iff_ne]; omega
        have e2 : (r == 2) = false := by rw [beq_eq_false_iff_ne]; omega
        have e3 : (r == 3) = false := by rw [beq_eq_false_iff_ne]; omega
        clear hr
        have cB := fun o => B12.cell o
        have fB := fun o => B12.frozen o
        have gB := B12.lt
        have cK := fun o => K12.cell o
        have fK := fun o => K12.frozen o
        have gK := K12.lt
        go_wp2
        refine bodyPost_ret (v := .agg #[.int .i64 l10.size, .int .i64 l10.wide, .int .i64 l10.high, .slice A5 n5 c5, .slice A6 n6 c6]) (by simp [results, Try.results103, go_sem, cK, gK]) rfl ?_
        exact ⟨⟨⟨A5, n5, c5⟩, ⟨A6, n6, c6⟩⟩, l10, rfl, (((((G12.cell (i := 0) (Nat.lt_succ_self _) _).cell (i := 1) (Nat.lt_succ_self _) _).cell (i := 2) (Nat.lt_succ_self _) _).cell (i := 3) (Nat.lt_succ_self _) _).cell (i := 4) (Nat.lt_succ_self _) _).lower (Nat.le_succ _), (((((D12.set_ (p := ⟨w.heap.size, 0, none⟩) (Nat.le_refl _) _).set_ (p := ⟨w.heap.size, 1, none⟩) (Nat.le_refl _) _).set_ (p := ⟨w.heap.size, 2, none⟩) (Nat.le_refl _) _).set_ (p := ⟨w.heap.size, 3, none⟩) (Nat.le_refl _) _).set_ (p := ⟨w.heap.size, 4, none⟩) (Nat.le_refl _) _)⟩
      rcases hr with rfl | rfl | rfl | rfl
      · go_wp2_with fail
        refine (pick_any L g [0, 10000, 10001] 3 _ D12.src rfl (by decide) (by decide)).mono ?_
        rintro e w13 ⟨p, -, rfl, g13, S13⟩
        have D13 := (D12.alloc _).next g13 S13
        have K13 := (K12.alloc _).nx g13 (by omega)
        have B13 := (B12.alloc _).nx g13 hQg
        have G13 := (G12.alloc _).nx g13 (by omega)
        clear D12 K12 B12 G12 g13 S13
        have X8 : GriW (w13.setCell ⟨Q, 0, none⟩ (.int .i64 p)) (w.heap.size + 1) ⟨⟨A5, n5, c5⟩, ⟨A6, n6, c6⟩⟩ ⟨p, l10.wide, l10.high, l10.counts, l10.depths⟩ := ⟨(G13.cellne hQ10 (.int .i64 p)).rd, (G13.cellne hQ10 (.int .i64 p)).wr, G13.sp, G13.le, G13.pos, G13.eq⟩
        have B8 : Blk (w13.setCell ⟨Q, 0, none⟩ (.int .i64 p)) Q 50 #[.int .i64 p, .int .i64 l10.wide, .int .i64 l10.high, .slice A5 n5 c5, .slice A6 n6 c6] := B13.set_ 0 (.int .i64 p)
        have K8 := K13.far (p := ⟨Q, 0, none⟩) hQ2 (.int .i64 p)
        have D8 := D13.set_ (p := ⟨Q, 0, none⟩) (by simp only; omega) (.int .i64 p)
        have cB7 := fun o => B13.cell o
        have fB7 := fun o => B13.frozen o
        have gB7 := B13.lt
        clear K13 D13 G13 B13
        go_upto_region 16 with fail
        generalize w13.setCell ⟨Q, 0, none⟩ (.int .i64 p) = w14 at X8 B8 K8 D8 ⊢
        clear cB7 fB7 gB7
        have cB := fun o => B8.cell o
        have fB := fun o => B8.frozen o
        have gB := B8.lt
        have cK := fun o => K8.cell o
        have fK := fun o => K8.frozen o
        have gK := K8.lt
        go_wp2
        refine bodyPost_ret (v := .agg #[.int .i64 p, .int .i64 l10.wide, .int .i64 l10.high, .slice A5 n5 c5, .slice A6 n6 c6]) (by simp [results, Try.results103, go_sem, cK, gK]) rfl ?_
        exact ⟨⟨⟨A5, n5, c5⟩, ⟨A6, n6, c6⟩⟩, ⟨p, l10.wide, l10.high, l10.counts, l10.depths⟩, rfl, (((((X8.cell (i := 0) (Nat.lt_succ_self _) _).cell (i := 1) (Nat.lt_succ_self _) _).cell (i := 2) (Nat.lt_succ_self _) _).cell (i := 3) (Nat.lt_succ_self _) _).cell (i := 4) (Nat.lt_succ_self _) _).lower (Nat.le_succ _), (((((D8.set_ (p := ⟨w.heap.size, 0, none⟩) (Nat.le_refl _) _).set_ (p := ⟨w.heap.size, 1, none⟩) (Nat.le_refl _) _).set_ (p := ⟨w.heap.size, 2, none⟩) (Nat.le_refl _) _).set_ (p := ⟨w.heap.size, 3, none⟩) (Nat.le_refl _) _).set_ (p := ⟨w.heap.size, 4, none⟩) (Nat.le_refl _) _)⟩
      · obtain ⟨a3, rfl, -⟩ := G12.rd.head.int (show 0 < n5 from G12.pos)
        have hp0 : 0 < n5 := G12.pos
        have hR : ∀ s ∈ DepthGridR ⟨⟨some a3, n5, c5⟩, ⟨A6, n6, c6⟩⟩, ∀ b, s = some b → w.heap.size + 1 ≤ b := fun s hs b e => G12.wr.hi s hs b e
        have ha3 : w.heap.size + 1 ≤ a3.block := hR _ (List.mem_cons_self ..) _ (by unfold blkp; rw [if_neg (by simp only; omega)]; rfl)
        have hq3 : a3.block ≠ Q := fun c => hQ10 _ (List.mem_cons_self ..) (by unfold blkp; rw [if_neg (by simp only; omega), ← c]; rfl)
        have kA : ∀ (W : World) (u : Value) (o : Nat), (W.setCell a3 u).cell? ⟨Q, o, none⟩ = W.cell? ⟨Q, o, none⟩ := fun W u o => set_farG hq3
        have kC : ∀ (W : World) (u : Value) (o : Nat), (W.setCell a3 u).cell? ⟨w.heap.size, o, none⟩ = W.cell? ⟨w.heap.size, o, none⟩ := fun W u o => set_farG (by simp only; omega)
        have hnI : (0 : Int) < (n5 : Int) := by omega
        go_wp2_with fail
        have hS6 := fun o => (Blk.drew B12).cell o
        have hP6 := pick_drew L g [-2, 0, 1, 1000000000000, 1000000000001] 5 w12 D12.src rfl (by decide) (by decide)
        have D6 := (D12.alloc (.cells #[.int .i64 (-2), .int .i64 0, .int .i64 1, .int .i64 1000000000000, .int .i64 1000000000001] 2)).drew
        have K6 := Blk.drew (K12.alloc (.cells #[.int .i64 (-2), .int .i64 0, .int .i64 1, .int .i64 1000000000000, .int .i64 1000000000001] 2))
        have B6 := Blk.drew (B12.alloc (.cells #[.int .i64 (-2), .int .i64 0, .int .i64 1, .int .i64 1000000000000, .int .i64 1000000000001] 2))
        have X6 := (G12.alloc (.cells #[.int .i64 (-2), .int .i64 0, .int .i64 1, .int .i64 1000000000000, .int .i64 1000000000001] 2)).bel (Below.drew (Below.refl _ _))
        have hT6 := fun o => B6.cell o
        clear D12 K12 B12 G12
        go_region_held3 (fun w' => ∀ o, w'.cell? ⟨Q, o, none⟩ = (#[.int .i64 l10.size, .int .i64 l10.wide, .int .i64 l10.high, .slice (some a3) n5 c5, .slice A6 n6 c6] : Array Value)[o]?)
          (first | (with_reducible assumption) | (intro o; go_keep))
          (first
            | (go_at_call 97; refine hP6.mono ?_; rintro e w17 ⟨v, -, rfl, g7, S7⟩; have D7 := D6.next g7 S7; have K7 := K6.nx g7 (by omega); have B7 := B6.nx g7 hQg; have X7 := X6.nx g7 (by omega); have hS7 := fun o => B7.cell o; obtain ⟨_, ⟨⟩, hc3⟩ := X7.rd.head.int hp0; obtain ⟨_, ⟨⟩, -, hf3⟩ := X7.wr.head hp0; have hf3 := hf3 0 hp0; rw [Addr.add_zero'] at hc3 hf3))
        all_goals
          have X8 := X7.set_c (ad := a3) rfl v
          have B8 := B7.far (p := a3) hq3.symm (.int .i64 v)
          have K8 := K7.far (p := a3) (by omega) (.int .i64 v)
          have D8 := D7.set_ (p := a3) (by omega) (.int .i64 v)
          clear D6 K6 B6 X6 hS6 hT6 hP6 D7 K7 B7 X7 hS7 hc3 hf3 S7 g7 kA kC
          generalize w17.setCell a3 (.int .i64 v) = w18 at X8 B8 K8 D8 ⊢
          have cB := fun o => B8.cell o
          have fB := fun o => B8.frozen o
          have gB := B8.lt
          have cK := fun o => K8.cell o
          have fK := fun o => K8.frozen o
          have gK := K8.lt
          go_wp2
          refine bodyPost_ret (v := .agg #[.int .i64 l10.size, .int .i64 l10.wide, .int .i64 l10.high, .slice (some a3) n5 c5, .slice A6 n6 c6]) (by simp [results, Try.results103, go_sem, cK, gK]) rfl ?_
          exact ⟨⟨⟨some a3, n5, c5⟩, ⟨A6, n6, c6⟩⟩, ⟨l10.size, l10.wide, l10.high, l10.counts.set 0 v, l10.depths⟩, rfl, (((((X8.cell (i := 0) (Nat.lt_succ_self _) _).cell (i := 1) (Nat.lt_succ_self _) _).cell (i := 2) (Nat.lt_succ_self _) _).cell (i := 3) (Nat.lt_succ_self _) _).cell (i := 4) (Nat.lt_succ_self _) _).lower (Nat.le_succ _), (((((D8.set_ (p := ⟨w.heap.size, 0, none⟩) (Nat.le_refl _) _).set_ (p := ⟨w.heap.size, 1, none⟩) (Nat.le_refl _) _).set_ (p := ⟨w.heap.size, 2, none⟩) (Nat.le_refl _) _).set_ (p := ⟨w.heap.size, 3, none⟩) (Nat.le_refl _) _).set_ (p := ⟨w.heap.size, 4, none⟩) (Nat.le_refl _) _)⟩
      · have hp0 : 0 < n6 := by have h1 := G12.pos; have h2 := G12.eq; simp only at h1 h2; omega
        have r4 : Rd w12 A6 (n6 * 2) (ints l10.depths) := G12.rd.tail.head
        obtain ⟨a4, rfl, -, -⟩ := r4.two hp0
        have hm4 : blkp (some a4) (n6 * 2) = some a4.block := by unfold blkp; rw [if_neg (by omega)]; rfl
        have ha4 : w.heap.size + 1 ≤ a4.block := G12.wr.hi _ (List.mem_cons_of_mem _ (List.mem_cons_self ..)) a4.block hm4
        have hq4 : a4.block ≠ Q := fun c => hQ10 _ (List.mem_cons_of_mem _ (List.mem_cons_self ..)) (by rw [← c]; exact hm4)
        have kE : ∀ (W : World) (u : Value), (W.setCell a4 u).cell? ⟨a4.block, a4.off + 1, none⟩ = W.cell? ⟨a4.block, a4.off + 1, none⟩ := fun W u => World.cell?_setCell_other _ _ _ _ (fun e => by have e2 := congrArg Addr.off e; first | omega | (simp only at e2; omega))
        have hnI : (0 : Int) < (n6 : Int) := by omega
        clear r4 hm4
        go_wp2_with fail
        have hz12 := D12.size
        have hS6 := fun o => (Blk.drew B12).cell o
        have hP6 : Calls Try.prog 97 #[.pointer (some ⟨g, 0, none⟩), .slice (some ⟨w12.heap.size, 0, none⟩) 3 3] (w12.alloc (.cells #[.int .i64 5, .int .i64 0, .int .i64 (-3)] 2)).drew (PickPost L g [5, 0, -3] (w12.alloc (.cells #[.int .i64 5, .int .i64 0, .int .i64 (-3)] 2)).drew) := pick_drew L g [5, 0, -3] 3 w12 D12.src rfl (by decide) (by decide)
        have D6 := (D12.alloc (.cells #[.int .i64 5, .int .i64 0, .int .i64 (-3)] 2)).drew
        have K6 := Blk.drew (K12.alloc (.cells #[.int .i64 5, .int .i64 0, .int .i64 (-3)] 2))
        have B6 := Blk.drew (B12.alloc (.cells #[.int .i64 5, .int .i64 0, .int .i64 (-3)] 2))
        have X6 := (G12.alloc (.cells #[.int .i64 5, .int .i64 0, .int .i64 (-3)] 2)).bel (Below.drew (Below.refl _ _))
        have hT6 := fun o => B6.cell o
        have Db := ((D12.alloc (.cells #[.int .i64 5, .int .i64 0, .int .i64 (-3)] 2)).alloc (.cells #[.int .i64 1, .int .i64 9] 2)).drew
        have Kb := Blk.drew ((K12.alloc (.cells #[.int .i64 5, .int .i64 0, .int .i64 (-3)] 2)).alloc (.cells #[.int .i64 1, .int .i64 9] 2))
        have Bb := Blk.drew ((B12.alloc (.cells #[.int .i64 5, .int .i64 0, .int .i64 (-3)] 2)).alloc (.cells #[.int .i64 1, .int .i64 9] 2))
        have Xb := ((G12.alloc (.cells #[.int .i64 5, .int .i64 0, .int .i64 (-3)] 2)).alloc (.cells #[.int .i64 1, .int .i64 9] 2)).bel (Below.drew (Below.refl _ _))
        have hTb := fun o => Bb.cell o
        have RAb : Rd ((w12.alloc (.cells #[.int .i64 5, .int .i64 0, .int .i64 (-3)] 2)).alloc (.cells #[.int .i64 1, .int .i64 9] 2)).drew (some ⟨w12.heap.size, 0, none⟩) 3 (ints [5, 0, -3]) := ((rd_lit w12 [5, 0, -3] 2 3 rfl).below ((Below.refl _ _).alloc (Nat.le_refl _) _)).below (Below.drew (Below.refl _ _))
        have RBb : Rd ((w12.alloc (.cells #[.int .i64 5, .int .i64 0, .int .i64 (-3)] 2)).alloc (.cells #[.int .i64 1, .int .i64 9] 2)).drew (some ⟨w12.heap.size + 1, 0, none⟩) 2 (ints [1, 9]) := by
          have h := rd_lit (w12.alloc (.cells #[.int .i64 5, .int .i64 0, .int .i64 (-3)] 2)) [1, 9] 2 2 rfl
          rw [size_alloc1] at h
          exact h.below (Below.drew (Below.refl _ _))
        have hPb : Calls Try.prog 97 #[.pointer (some ⟨g, 0, none⟩), .slice (some ⟨w12.heap.size, 0, none⟩) 3 3] ((w12.alloc (.cells #[.int .i64 5, .int .i64 0, .int .i64 (-3)] 2)).alloc (.cells #[.int .i64 1, .int .i64 9] 2)).drew (PickPost L g [5, 0, -3] ((w12.alloc (.cells #[.int .i64 5, .int .i64 0, .int .i64 (-3)] 2)).alloc (.cells #[.int .i64 1, .int .i64 9] 2)).drew) := l01Pick_any L g _ 3 3 _ _ Db.src RAb (by decide) (by decide) (fun ad e => by cases e; simp only; omega)
        have Bv := Blk.drew (B12.alloc (.cells #[.int .i64 1, .int .i64 9] 2))
        have hTv := fun o => Bv.cell o
        have Dc := ((D12.alloc (.cells #[.int .i64 1, .int .i64 9] 2)).alloc (.cells #[.int .i64 5, .int .i64 0, .int .i64 (-3)] 2)).drew
        have Kc := Blk.drew ((K12.alloc (.cells #[.int .i64 1, .int .i64 9] 2)).alloc (.cells #[.int .i64 5, .int .i64 0, .int .i64 (-3)] 2))
        have Bc := Blk.drew ((B12.alloc (.cells #[.int .i64 1, .int .i64 9] 2)).alloc (.cells #[.int .i64 5, .int .i64 0, .int .i64 (-3)] 2))
        have Xc := ((G12.alloc (.cells #[.int .i64 1, .int .i64 9] 2)).alloc (.cells #[.int .i64 5, .int .i64 0, .int .i64 (-3)] 2)).bel (Below.drew (Below.refl _ _))
        have hTc := fun o => Bc.cell o
        have RBc : Rd ((w12.alloc (.cells #[.int .i64 1, .int .i64 9] 2)).alloc (.cells #[.int .i64 5, .int .i64 0, .int .i64 (-3)] 2)).drew (some ⟨w12.heap.size, 0, none⟩) 2 (ints [1, 9]) := ((rd_lit w12 [1, 9] 2 2 rfl).below ((Below.refl _ _).alloc (Nat.le_refl _) _)).below (Below.drew (Below.refl _ _))
        have RAc : Rd ((w12.alloc (.cells #[.int .i64 1, .int .i64 9] 2)).alloc (.cells #[.int .i64 5, .int .i64 0, .int .i64 (-3)] 2)).drew (some ⟨w12.heap.size + 1, 0, none⟩) 3 (ints [5, 0, -3]) := by
          have h := rd_lit (w12.alloc (.cells #[.int .i64 1, .int .i64 9] 2)) [5, 0, -3] 2 3 rfl
          rw [size_alloc1] at h
          exact h.below (Below.drew (Below.refl _ _))
        have hPc : Calls Try.prog 97 #[.pointer (some ⟨g, 0, none⟩), .slice (some ⟨w12.heap.size + 1, 0, none⟩) 3 3] ((w12.alloc (.cells #[.int .i64 1, .int .i64 9] 2)).alloc (.cells #[.int .i64 5, .int .i64 0, .int .i64 (-3)] 2)).drew (PickPost L g [5, 0, -3] ((w12.alloc (.cells #[.int .i64 1, .int .i64 9] 2)).alloc (.cells #[.int .i64 5, .int .i64 0, .int .i64 (-3)] 2)).drew) := l01Pick_any L g _ 3 3 _ _ Dc.src RAc (by decide) (by decide) (fun ad e => by cases e; simp only; omega)
        clear D12 K12 B12 G12 RAb RAc Bv
        go_region_held3 (fun w' => ∀ o, w'.cell? ⟨Q, o, none⟩ = (#[.int .i64 l10.size, .int .i64 l10.wide, .int .i64 l10.high, .slice A5 n5 c5, .slice (some a4) n6 c6] : Array Value)[o]?)
          (first | (with_reducible assumption) | (intro o; go_keep))
          (first
            | (go_at_call 97; (with_reducible refine hP6.mono ?_); rintro e w17 ⟨u, -, rfl, g7, S7⟩; have D7 := (D6.next g7 S7); have K7 := K6.nx g7 (by omega); have B7 := B6.nx g7 hQg; have X7 := X6.nx g7 (by omega); have hP7 : Calls Try.prog 97 #[.pointer (some ⟨g, 0, none⟩), .slice (some ⟨w17.heap.size, 0, none⟩) 2 2] (w17.alloc (.cells #[.int .i64 1, .int .i64 9] 2)) (PickPost L g [1, 9] (w17.alloc (.cells #[.int .i64 1, .int .i64 9] 2))) := pick_any L g [1, 9] 2 w17 D7.src rfl (by decide) (by decide); have D7 := D7.alloc (.cells #[.int .i64 1, .int .i64 9] 2); have K7 := K7.alloc (.cells #[.int .i64 1, .int .i64 9] 2); have hS7 := fun o => B7.cell o; have B7 := B7.alloc (.cells #[.int .i64 1, .int .i64 9] 2); have X7 := X7.alloc (.cells #[.int .i64 1, .int .i64 9] 2); have hT7 := fun o => B7.cell o)
            | (go_at_call 97; (with_reducible refine hPb.mono ?_); rintro e w17 ⟨u, -, rfl, g7, S7⟩; have D7 := (Db.next g7 S7); have K7 := Kb.nx g7 (by omega); have B7 := Bb.nx g7 hQg; have X7 := Xb.nx g7 (by omega); have hP7 : Calls Try.prog 97 #[.pointer (some ⟨g, 0, none⟩), .slice (some ⟨w12.heap.size + 1, 0, none⟩) 2 2] w17 (PickPost L g [1, 9] w17) := l01Pick_any L g _ 2 2 _ _ D7.src (RBb.grown g7 (fun ad e _ c => by cases e; injection c with c; simp only at c; omega)) (by decide) (by decide) (fun ad e => by cases e; simp only; omega); have hS7 := fun o => B7.cell o)
            | (go_at_call 97; (with_reducible refine hPc.mono ?_); rintro e w17 ⟨u, -, rfl, g7, S7⟩; have D7 := (Dc.next g7 S7); have K7 := Kc.nx g7 (by omega); have B7 := Bc.nx g7 hQg; have X7 := Xc.nx g7 (by omega); have hP7 : Calls Try.prog 97 #[.pointer (some ⟨g, 0, none⟩), .slice (some ⟨w12.heap.size, 0, none⟩) 2 2] w17 (PickPost L g [1, 9] w17) := l01Pick_any L g _ 2 2 _ _ D7.src (RBc.grown g7 (fun ad e _ c => by cases e; injection c with c; simp only at c; omega)) (by decide) (by decide) (fun ad e => by cases e; simp only; omega); have hS7 := fun o => B7.cell o)
            | (go_at_call 97; (with_reducible refine hP7.mono ?_); rintro e w18 ⟨v, -, rfl, g8, S8⟩; have D8 := D7.next g8 S8; have K8 := K7.nx g8 (by omega); have B8 := B7.nx g8 hQg; have X8 := X7.nx g8 (by omega); have hS8 := fun o => B8.cell o; have r8 : Rd w18 (some a4) (n6 * 2) (ints l10.depths) := X8.rd.tail.head; have y8 : Wr w18 (w.heap.size + 1) (some a4) (n6 * 2) := X8.wr.tail.head; obtain ⟨_, ⟨⟩, hc3, hc4⟩ := r8.two hp0; obtain ⟨_, ⟨⟩, -, hf3⟩ := y8 (by omega); have hf4 := hf3 1 (by omega); have hf3 := hf3 0 (by omega); rw [Nat.zero_mul, Addr.add_zero'] at hc3 hc4; rw [Addr.add_zero'] at hf3; rw [field_add _ 1 (by decide)] at hf4))
        all_goals
          have X9 := X8.set_d (ad := a4) rfl u v
          have B9 : Blk ((w18.setCell a4 (.int .i64 u)).setCell ⟨a4.block, a4.off + 1, none⟩ (.int .i64 v)) Q _ _ := (B8.far (p := a4) hq4.symm (.int .i64 u)).far (p := ⟨a4.block, a4.off + 1, none⟩) hq4.symm (.int .i64 v)
          have K9 : Blk ((w18.setCell a4 (.int .i64 u)).setCell ⟨a4.block, a4.off + 1, none⟩ (.int .i64 v)) _ _ _ := (K8.far (p := a4) (by omega) (.int .i64 u)).far (p := ⟨a4.block, a4.off + 1, none⟩) (by simp only; omega) (.int .i64 v)
          have D9 : Dr w ((w18.setCell a4 (.int .i64 u)).setCell ⟨a4.block, a4.off + 1, none⟩ (.int .i64 v)) L g := (D8.set_ (p := a4) (by omega) (.int .i64 u)).set_ (p := ⟨a4.block, a4.off + 1, none⟩) (by simp only; omega) (.int .i64 v)
          clear D6 K6 B6 X6 hS6 hT6 hP6 Db Kb Bb Xb hTb hPb RBb Dc Kc Bc Xc hTc hPc RBc hTv D7 K7 B7 X7 D8 K8 B8 X8 hS8 r8 y8 hc3 hc4 hf3 hf4 kE
          generalize (w18.setCell a4 (.int .i64 u)).setCell ⟨a4.block, a4.off + 1, none⟩ (.int .i64 v) = w19 at X9 B9 K9 D9 ⊢
          have cB := fun o => B9.cell o
          have fB := fun o => B9.frozen o
          have gB := B9.lt
          have cK := fun o => K9.cell o
          have fK := fun o => K9.frozen o
          have gK := K9.lt
          go_wp2
          refine bodyPost_ret (v := .agg #[.int .i64 l10.size, .int .i64 l10.wide, .int .i64 l10.high, .slice A5 n5 c5, .slice (some a4) n6 c6]) (by simp [results, Try.results103, go_sem, cK, gK]) rfl ?_
          exact ⟨⟨⟨A5, n5, c5⟩, ⟨some a4, n6, c6⟩⟩, ⟨l10.size, l10.wide, l10.high, l10.counts, (l10.depths.set 0 u).set 1 v⟩, rfl, (((((X9.cell (i := 0) (Nat.lt_succ_self _) _).cell (i := 1) (Nat.lt_succ_self _) _).cell (i := 2) (Nat.lt_succ_self _) _).cell (i := 3) (Nat.lt_succ_self _) _).cell (i := 4) (Nat.lt_succ_self _) _).lower (Nat.le_succ _), (((((D9.set_ (p := ⟨w.heap.size, 0, none⟩) (Nat.le_refl _) _).set_ (p := ⟨w.heap.size, 1, none⟩) (Nat.le_refl _) _).set_ (p := ⟨w.heap.size, 2, none⟩) (Nat.le_refl _) _).set_ (p := ⟨w.heap.size, 3, none⟩) (Nat.le_refl _) _).set_ (p := ⟨w.heap.size, 4, none⟩) (Nat.le_refl _) _)⟩
      · obtain ⟨p, hp⟩ : ∃ p : Int, IntKind.i64.wrap (l10.high + 1) = p := ⟨_, rfl⟩
        have X8 : GriW (w12.setCell ⟨Q, 2, none⟩ (.int .i64 p)) (w.heap.size + 1) ⟨⟨A5, n5, c5⟩, ⟨A6, n6, c6⟩⟩ ⟨l10.size, l10.wide, p, l10.counts, l10.depths⟩ := ⟨(G12.cellne hQ10 (.int .i64 p)).rd, (G12.cellne hQ10 (.int .i64 p)).wr, G12.sp, G12.le, G12.pos, G12.eq⟩
        have B8 : Blk (w12.setCell ⟨Q, 2, none⟩ (.int .i64 p)) Q 50 #[.int .i64 l10.size, .int .i64 l10.wide, .int .i64 p, .slice A5 n5 c5, .slice A6 n6 c6] := B12.set_ 2 (.int .i64 p)
        have K8 := K12.far (p := ⟨Q, 2, none⟩) hQ2 (.int .i64 p)
        have D8 := D12.set_ (p := ⟨Q, 2, none⟩) (by simp only; omega) (.int .i64 p)
        have cB7 := fun o => B12.cell o
        have fB7 := fun o => B12.frozen o
        have gB7 := B12.lt
        clear K12 D12 G12 B12
        go_upto_region 16 with fail
        generalize w12.setCell ⟨Q, 2, none⟩ (.int .i64 p) = w14 at X8 B8 K8 D8 ⊢
        clear cB7 fB7 gB7
        have cB := fun o => B8.cell o
        have fB := fun o => B8.frozen o
        have gB := B8.lt
        have cK := fun o => K8.cell o
        have fK := fun o => K8.frozen o
        have gK := K8.lt
        go_wp2
        refine bodyPost_ret (v := .agg #[.int .i64 l10.size, .int .i64 l10.wide, .int .i64 p, .slice A5 n5 c5, .slice A6 n6 c6]) (by simp [results, Try.results103, go_sem, cK, gK]) rfl ?_
        exact ⟨⟨⟨A5, n5, c5⟩, ⟨A6, n6, c6⟩⟩, ⟨l10.size, l10.wide, p, l10.counts, l10.depths⟩, rfl, (((((X8.cell (i := 0) (Nat.lt_succ_self _) _).cell (i := 1) (Nat.lt_succ_self _) _).cell (i := 2) (Nat.lt_succ_self _) _).cell (i := 3) (Nat.lt_succ_self _) _).cell (i := 4) (Nat.lt_succ_self _) _).lower (Nat.le_succ _), (((((D8.set_ (p := ⟨w.heap.size, 0, none⟩) (Nat.le_refl _) _).set_ (p := ⟨w.heap.size, 1, none⟩) (Nat.le_refl _) _).set_ (p := ⟨w.heap.size, 2, none⟩) (Nat.le_refl _) _).set_ (p := ⟨w.heap.size, 3, none⟩) (Nat.le_refl _) _).set_ (p := ⟨w.heap.size, 4, none⟩) (Nat.le_refl _) _)⟩
    · have hq0 : (q == 0) = false := by rw [beq_eq_false_iff_ne]; exact hq
      go_upto_region 7 with fail
      go_wp2_with fail
      refine (l01Next_any L g 50 _ D9.src (by decide)).mono ?_
      rintro e w12 ⟨r, rfl, r0, r1, g12, S12⟩
      have D12 := D9.next g12 S12
      have K12 := K9.nx g12 (by omega)
      have B12 := B9.nx g12 hQg
      have G12 := G9.nx g12 (by omega)
      clear D9 K9 B9 G9 g12 S12
      by_cases hr : r = 0 ∨ r = 1 ∨ r = 2 ∨ r = 3
      case neg =>
        have e0 : (r == 0) = false := by rw [beq_eq_false_iff_ne]; omega
        have e1 : (r == 1) = false := by rw [beq_eq_false_iff_ne]; omega
        have e2 : (r == 2) = false := by rw [beq_eq_false_iff_ne]; omega
        have e3 : (r == 3) = false := by rw [beq_eq_false_iff_ne]; omega
        clear hr
        have cB := fun o => B12.cell o
        have fB := fun o => B12.frozen o
        have gB := B12.lt
        have cK := fun o => K12.cell o
        have fK := fun o => K12.frozen o
        have gK := K12.lt
        go_wp2
        refine bodyPost_ret (v := .agg #[.int .i64 l7.size, .int .i64 l7.wide, .int .i64 l7.high, .slice A3 n3 c3, .slice A4 n4 c4]) (by simp [results, Try.results103, go_sem, cK, gK]) rfl ?_
        exact ⟨⟨⟨A3, n3, c3⟩, ⟨A4, n4, c4⟩⟩, l7, rfl, (((((G12.cell (i := 0) (Nat.lt_succ_self _) _).cell (i := 1) (Nat.lt_succ_self _) _).cell (i := 2) (Nat.lt_succ_self _) _).cell (i := 3) (Nat.lt_succ_self _) _).cell (i := 4) (Nat.lt_succ_self _) _).lower (Nat.le_succ _), (((((D12.set_ (p := ⟨w.heap.size, 0, none⟩) (Nat.le_refl _) _).set_ (p := ⟨w.heap.size, 1, none⟩) (Nat.le_refl _) _).set_ (p := ⟨w.heap.size, 2, none⟩) (Nat.le_refl _) _).set_ (p := ⟨w.heap.size, 3, none⟩) (Nat.le_refl _) _).set_ (p := ⟨w.heap.size, 4, none⟩) (Nat.le_refl _) _)⟩
      rcases hr with rfl | rfl | rfl | rfl
      · go_wp2_with fail
        refine (pick_any L g [0, 10000, 10001] 3 _ D12.src rfl (by decide) (by decide)).mono ?_
        rintro e w13 ⟨p, -, rfl, g13, S13⟩
        have D13 := (D12.alloc _).next g13 S13
        have K13 := (K12.alloc _).nx g13 (by omega)
        have B13 := (B12.alloc _).nx g13 hQg
        have G13 := (G12.alloc _).nx g13 (by omega)
        clear D12 K12 B12 G12 g13 S13
        have X8 : GriW (w13.setCell ⟨Q, 0, none⟩ (.int .i64 p)) (w.heap.size + 1) ⟨⟨A3, n3, c3⟩, ⟨A4, n4, c4⟩⟩ ⟨p, l7.wide, l7.high, l7.counts, l7.depths⟩ := ⟨(G13.cellne hQ0 (.int .i64 p)).rd, (G13.cellne hQ0 (.int .i64 p)).wr, G13.sp, G13.le, G13.pos, G13.eq⟩
        have B8 : Blk (w13.setCell ⟨Q, 0, none⟩ (.int .i64 p)) Q 50 #[.int .i64 p, .int .i64 l7.wide, .int .i64 l7.high, .slice A3 n3 c3, .slice A4 n4 c4] := B13.set_ 0 (.int .i64 p)
        have K8 := K13.far (p := ⟨Q, 0, none⟩) hQ2 (.int .i64 p)
        have D8 := D13.set_ (p := ⟨Q, 0, none⟩) (by simp only; omega) (.int .i64 p)
        have cB7 := fun o => B13.cell o
        have fB7 := fun o => B13.frozen o
        have gB7 := B13.lt
        clear K13 D13 G13 B13
        go_upto_region 16 with fail
        generalize w13.setCell ⟨Q, 0, none⟩ (.int .i64 p) = w14 at X8 B8 K8 D8 ⊢
        clear cB7 fB7 gB7
        have cB := fun o => B8.cell o
        have fB := fun o => B8.frozen o
        have gB := B8.lt
        have cK := fun o => K8.cell o
        have fK := fun o => K8.frozen o
        have gK := K8.lt
        go_wp2
        refine bodyPost_ret (v := .agg #[.int .i64 p, .int .i64 l7.wide, .int .i64 l7.high, .slice A3 n3 c3, .slice A4 n4 c4]) (by simp [results, Try.results103, go_sem, cK, gK]) rfl ?_
        exact ⟨⟨⟨A3, n3, c3⟩, ⟨A4, n4, c4⟩⟩, ⟨p, l7.wide, l7.high, l7.counts, l7.depths⟩, rfl, (((((X8.cell (i := 0) (Nat.lt_succ_self _) _).cell (i := 1) (Nat.lt_succ_self _) _).cell (i := 2) (Nat.lt_succ_self _) _).cell (i := 3) (Nat.lt_succ_self _) _).cell (i := 4) (Nat.lt_succ_self _) _).lower (Nat.le_succ _), (((((D8.set_ (p := ⟨w.heap.size, 0, none⟩) (Nat.le_refl _) _).set_ (p := ⟨w.heap.size, 1, none⟩) (Nat.le_refl _) _).set_ (p := ⟨w.heap.size, 2, none⟩) (Nat.le_refl _) _).set_ (p := ⟨w.heap.size, 3, none⟩) (Nat.le_refl _) _).set_ (p := ⟨w.heap.size, 4, none⟩) (Nat.le_refl _) _)⟩
      · obtain ⟨a3, rfl, -⟩ := G12.rd.head.int (show 0 < n3 from G12.pos)
        have hp0 : 0 < n3 := G12.pos
        have hR : ∀ s ∈ DepthGridR ⟨⟨some a3, n3, c3⟩, ⟨A4, n4, c4⟩⟩, ∀ b, s = some b → w.heap.size + 1 ≤ b := fun s hs b e => G12.wr.hi s hs b e
        have ha3 : w.heap.size + 1 ≤ a3.block := hR _ (List.mem_cons_self ..) _ (by unfold blkp; rw [if_neg (by simp only; omega)]; rfl)
        have hq3 : a3.block ≠ Q := fun c => hQ0 _ (List.mem_cons_self ..) (by unfold blkp; rw [if_neg (by simp only; omega), ← c]; rfl)
        have kA : ∀ (W : World) (u : Value) (o : Nat), (W.setCell a3 u).cell? ⟨Q, o, none⟩ = W.cell? ⟨Q, o, none⟩ := fun W u o => set_farG hq3
        have kC : ∀ (W : World) (u : Value) (o : Nat), (W.setCell a3 u).cell? ⟨w.heap.size, o, none⟩ = W.cell? ⟨w.heap.size, o, none⟩ := fun W u o => set_farG (by simp only; omega)
        have hnI : (0 : Int) < (n3 : Int) := by omega
        go_wp2_with fail
        have hS6 := fun o => (Blk.drew B12).cell o
        have hP6 := pick_drew L g [-2, 0, 1, 1000000000000, 1000000000001] 5 w12 D12.src rfl (by decide) (by decide)
        have D6 := (D12.alloc (.cells #[.int .i64 (-2), .int .i64 0, .int .i64 1, .int .i64 1000000000000, .int .i64 1000000000001] 2)).drew
        have K6 := Blk.drew (K12.alloc (.cells #[.int .i64 (-2), .int .i64 0, .int .i64 1, .int .i64 1000000000000, .int .i64 1000000000001] 2))
        have B6 := Blk.drew (B12.alloc (.cells #[.int .i64 (-2), .int .i64 0, .int .i64 1, .int .i64 1000000000000, .int .i64 1000000000001] 2))
        have X6 := (G12.alloc (.cells #[.int .i64 (-2), .int .i64 0, .int .i64 1, .int .i64 1000000000000, .int .i64 1000000000001] 2)).bel (Below.drew (Below.refl _ _))
        have hT6 := fun o => B6.cell o
        clear D12 K12 B12 G12
        go_region_held3 (fun w' => ∀ o, w'.cell? ⟨Q, o, none⟩ = (#[.int .i64 l7.size, .int .i64 l7.wide, .int .i64 l7.high, .slice (some a3) n3 c3, .slice A4 n4 c4] : Array Value)[o]?)
          (first | (with_reducible assumption) | (intro o; go_keep))
          (first
            | (go_at_call 97; refine hP6.mono ?_; rintro e w17 ⟨v, -, rfl, g7, S7⟩; have D7 := D6.next g7 S7; have K7 := K6.nx g7 (by omega); have B7 := B6.nx g7 hQg; have X7 := X6.nx g7 (by omega); have hS7 := fun o => B7.cell o; obtain ⟨_, ⟨⟩, hc3⟩ := X7.rd.head.int hp0; obtain ⟨_, ⟨⟩, -, hf3⟩ := X7.wr.head hp0; have hf3 := hf3 0 hp0; rw [Addr.add_zero'] at hc3 hf3))
        all_goals
          have X8 := X7.set_c (ad := a3) rfl v
          have B8 := B7.far (p := a3) hq3.symm (.int .i64 v)
          have K8 := K7.far (p := a3) (by omega) (.int .i64 v)
          have D8 := D7.set_ (p := a3) (by omega) (.int .i64 v)
          clear D6 K6 B6 X6 hS6 hT6 hP6 D7 K7 B7 X7 hS7 hc3 hf3 S7 g7 kA kC
          generalize w17.setCell a3 (.int .i64 v) = w18 at X8 B8 K8 D8 ⊢
          have cB := fun o => B8.cell o
          have fB := fun o => B8.frozen o
          have gB := B8.lt
          have cK := fun o => K8.cell o
          have fK := fun o => K8.frozen o
          have gK := K8.lt
          go_wp2
          refine bodyPost_ret (v := .agg #[.int .i64 l7.size, .int .i64 l7.wide, .int .i64 l7.high, .slice (some a3) n3 c3, .slice A4 n4 c4]) (by simp [results, Try.results103, go_sem, cK, gK]) rfl ?_
          exact ⟨⟨⟨some a3, n3, c3⟩, ⟨A4, n4, c4⟩⟩, ⟨l7.size, l7.wide, l7.high, l7.counts.set 0 v, l7.depths⟩, rfl, (((((X8.cell (i := 0) (Nat.lt_succ_self _) _).cell (i := 1) (Nat.lt_succ_self _) _).cell (i := 2) (Nat.lt_succ_self _) _).cell (i := 3) (Nat.lt_succ_self _) _).cell (i := 4) (Nat.lt_succ_self _) _).lower (Nat.le_succ _), (((((D8.set_ (p := ⟨w.heap.size, 0, none⟩) (Nat.le_refl _) _).set_ (p := ⟨w.heap.size, 1, none⟩) (Nat.le_refl _) _).set_ (p := ⟨w.heap.size, 2, none⟩) (Nat.le_refl _) _).set_ (p := ⟨w.heap.size, 3, none⟩) (Nat.le_refl _) _).set_ (p := ⟨w.heap.size, 4, none⟩) (Nat.le_refl _) _)⟩
      · have hp0 : 0 < n4 := by have h1 := G12.pos; have h2 := G12.eq; simp only at h1 h2; omega
        have r4 : Rd w12 A4 (n4 * 2) (ints l7.depths) := G12.rd.tail.head
        obtain ⟨a4, rfl, -, -⟩ := r4.two hp0
        have hm4 : blkp (some a4) (n4 * 2) = some a4.block := by unfold blkp; rw [if_neg (by omega)]; rfl
        have ha4 : w.heap.size + 1 ≤ a4.block := G12.wr.hi _ (List.mem_cons_of_mem _ (List.mem_cons_self ..)) a4.block hm4
        have hq4 : a4.block ≠ Q := fun c => hQ0 _ (List.mem_cons_of_mem _ (List.mem_cons_self ..)) (by rw [← c]; exact hm4)
        have kE : ∀ (W : World) (u : Value), (W.setCell a4 u).cell? ⟨a4.block, a4.off + 1, none⟩ = W.cell? ⟨a4.block, a4.off + 1, none⟩ := fun W u => World.cell?_setCell_other _ _ _ _ (fun e => by have e2 := congrArg Addr.off e; first | omega | (simp only at e2; omega))
        have hnI : (0 : Int) < (n4 : Int) := by omega
        clear r4 hm4
        go_wp2_with fail
        have hz12 := D12.size
        have hS6 := fun o => (Blk.drew B12).cell o
        have hP6 : Calls Try.prog 97 #[.pointer (some ⟨g, 0, none⟩), .slice (some ⟨w12.heap.size, 0, none⟩) 3 3] (w12.alloc (.cells #[.int .i64 5, .int .i64 0, .int .i64 (-3)] 2)).drew (PickPost L g [5, 0, -3] (w12.alloc (.cells #[.int .i64 5, .int .i64 0, .int .i64 (-3)] 2)).drew) := pick_drew L g [5, 0, -3] 3 w12 D12.src rfl (by decide) (by decide)
        have D6 := (D12.alloc (.cells #[.int .i64 5, .int .i64 0, .int .i64 (-3)] 2)).drew
        have K6 := Blk.drew (K12.alloc (.cells #[.int .i64 5, .int .i64 0, .int .i64 (-3)] 2))
        have B6 := Blk.drew (B12.alloc (.cells #[.int .i64 5, .int .i64 0, .int .i64 (-3)] 2))
        have X6 := (G12.alloc (.cells #[.int .i64 5, .int .i64 0, .int .i64 (-3)] 2)).bel (Below.drew (Below.refl _ _))
        have hT6 := fun o => B6.cell o
        have Db := ((D12.alloc (.cells #[.int .i64 5, .int .i64 0, .int .i64 (-3)] 2)).alloc (.cells #[.int .i64 1, .int .i64 9] 2)).drew
        have Kb := Blk.drew ((K12.alloc (.cells #[.int .i64 5, .int .i64 0, .int .i64 (-3)] 2)).alloc (.cells #[.int .i64 1, .int .i64 9] 2))
        have Bb := Blk.drew ((B12.alloc (.cells #[.int .i64 5, .int .i64 0, .int .i64 (-3)] 2)).alloc (.cells #[.int .i64 1, .int .i64 9] 2))
        have Xb := ((G12.alloc (.cells #[.int .i64 5, .int .i64 0, .int .i64 (-3)] 2)).alloc (.cells #[.int .i64 1, .int .i64 9] 2)).bel (Below.drew (Below.refl _ _))
        have hTb := fun o => Bb.cell o
        have RAb : Rd ((w12.alloc (.cells #[.int .i64 5, .int .i64 0, .int .i64 (-3)] 2)).alloc (.cells #[.int .i64 1, .int .i64 9] 2)).drew (some ⟨w12.heap.size, 0, none⟩) 3 (ints [5, 0, -3]) := ((rd_lit w12 [5, 0, -3] 2 3 rfl).below ((Below.refl _ _).alloc (Nat.le_refl _) _)).below (Below.drew (Below.refl _ _))
        have RBb : Rd ((w12.alloc (.cells #[.int .i64 5, .int .i64 0, .int .i64 (-3)] 2)).alloc (.cells #[.int .i64 1, .int .i64 9] 2)).drew (some ⟨w12.heap.size + 1, 0, none⟩) 2 (ints [1, 9]) := by
          have h := rd_lit (w12.alloc (.cells #[.int .i64 5, .int .i64 0, .int .i64 (-3)] 2)) [1, 9] 2 2 rfl
          rw [size_alloc1] at h
          exact h.below (Below.drew (Below.refl _ _))
        have hPb : Calls Try.prog 97 #[.pointer (some ⟨g, 0, none⟩), .slice (some ⟨w12.heap.size, 0, none⟩) 3 3] ((w12.alloc (.cells #[.int .i64 5, .int .i64 0, .int .i64 (-3)] 2)).alloc (.cells #[.int .i64 1, .int .i64 9] 2)).drew (PickPost L g [5, 0, -3] ((w12.alloc (.cells #[.int .i64 5, .int .i64 0, .int .i64 (-3)] 2)).alloc (.cells #[.int .i64 1, .int .i64 9] 2)).drew) := l01Pick_any L g _ 3 3 _ _ Db.src RAb (by decide) (by decide) (fun ad e => by cases e; simp only; omega)
        have Bv := Blk.drew (B12.alloc (.cells #[.int .i64 1, .int .i64 9] 2))
        have hTv := fun o => Bv.cell o
        have Dc := ((D12.alloc (.cells #[.int .i64 1, .int .i64 9] 2)).alloc (.cells #[.int .i64 5, .int .i64 0, .int .i64 (-3)] 2)).drew
        have Kc := Blk.drew ((K12.alloc (.cells #[.int .i64 1, .int .i64 9] 2)).alloc (.cells #[.int .i64 5, .int .i64 0, .int .i64 (-3)] 2))
        have Bc := Blk.drew ((B12.alloc (.cells #[.int .i64 1, .int .i64 9] 2)).alloc (.cells #[.int .i64 5, .int .i64 0, .int .i64 (-3)] 2))
        have Xc := ((G12.alloc (.cells #[.int .i64 1, .int .i64 9] 2)).alloc (.cells #[.int .i64 5, .int .i64 0, .int .i64 (-3)] 2)).bel (Below.drew (Below.refl _ _))
        have hTc := fun o => Bc.cell o
        have RBc : Rd ((w12.alloc (.cells #[.int .i64 1, .int .i64 9] 2)).alloc (.cells #[.int .i64 5, .int .i64 0, .int .i64 (-3)] 2)).drew (some ⟨w12.heap.size, 0, none⟩) 2 (ints [1, 9]) := ((rd_lit w12 [1, 9] 2 2 rfl).below ((Below.refl _ _).alloc (Nat.le_refl _) _)).below (Below.drew (Below.refl _ _))
        have RAc : Rd ((w12.alloc (.cells #[.int .i64 1, .int .i64 9] 2)).alloc (.cells #[.int .i64 5, .int .i64 0, .int .i64 (-3)] 2)).drew (some ⟨w12.heap.size + 1, 0, none⟩) 3 (ints [5, 0, -3]) := by
          have h := rd_lit (w12.alloc (.cells #[.int .i64 1, .int .i64 9] 2)) [5, 0, -3] 2 3 rfl
          rw [size_alloc1] at h
          exact h.below (Below.drew (Below.refl _ _))
        have hPc : Calls Try.prog 97 #[.pointer (some ⟨g, 0, none⟩), .slice (some ⟨w12.heap.size + 1, 0, none⟩) 3 3] ((w12.alloc (.cells #[.int .i64 1, .int .i64 9] 2)).alloc (.cells #[.int .i64 5, .int .i64 0, .int .i64 (-3)] 2)).drew (PickPost L g [5, 0, -3] ((w12.alloc (.cells #[.int .i64 1, .int .i64 9] 2)).alloc (.cells #[.int .i64 5, .int .i64 0, .int .i64 (-3)] 2)).drew) := l01Pick_any L g _ 3 3 _ _ Dc.src RAc (by decide) (by decide) (fun ad e => by cases e; simp only; omega)
        clear D12 K12 B12 G12 RAb RAc Bv
        go_region_held3 (fun w' => ∀ o, w'.cell? ⟨Q, o, none⟩ = (#[.int .i64 l7.size, .int .i64 l7.wide, .int .i64 l7.high, .slice A3 n3 c3, .slice (some a4) n4 c4] : Array Value)[o]?)
          (first | (with_reducible assumption) | (intro o; go_keep))
          (first
            | (go_at_call 97; (with_reducible refine hP6.mono ?_); rintro e w17 ⟨u, -, rfl, g7, S7⟩; have D7 := (D6.next g7 S7); have K7 := K6.nx g7 (by omega); have B7 := B6.nx g7 hQg; have X7 := X6.nx g7 (by omega); have hP7 : Calls Try.prog 97 #[.pointer (some ⟨g, 0, none⟩), .slice (some ⟨w17.heap.size, 0, none⟩) 2 2] (w17.alloc (.cells #[.int .i64 1, .int .i64 9] 2)) (PickPost L g [1, 9] (w17.alloc (.cells #[.int .i64 1, .int .i64 9] 2))) := pick_any L g [1, 9] 2 w17 D7.src rfl (by decide) (by decide); have D7 := D7.alloc (.cells #[.int .i64 1, .int .i64 9] 2); have K7 := K7.alloc (.cells #[.int .i64 1, .int .i64 9] 2); have hS7 := fun o => B7.cell o; have B7 := B7.alloc (.cells #[.int .i64 1, .int .i64 9] 2); have X7 := X7.alloc (.cells #[.int .i64 1, .int .i64 9] 2); have hT7 := fun o => B7.cell o)
            | (go_at_call 97; (with_reducible refine hPb.mono ?_); rintro e w17 ⟨u, -, rfl, g7, S7⟩; have D7 := (Db.next g7 S7); have K7 := Kb.nx g7 (by omega); have B7 := Bb.nx g7 hQg; have X7 := Xb.nx g7 (by omega); have hP7 : Calls Try.prog 97 #[.pointer (some ⟨g, 0, none⟩), .slice (some ⟨w12.heap.size + 1, 0, none⟩) 2 2] w17 (PickPost L g [1, 9] w17) := l01Pick_any L g _ 2 2 _ _ D7.src (RBb.grown g7 (fun ad e _ c => by cases e; injection c with c; simp only at c; omega)) (by decide) (by decide) (fun ad e => by cases e; simp only; omega); have hS7 := fun o => B7.cell o)
            | (go_at_call 97; (with_reducible refine hPc.mono ?_); rintro e w17 ⟨u, -, rfl, g7, S7⟩; have D7 := (Dc.next g7 S7); have K7 := Kc.nx g7 (by omega); have B7 := Bc.nx g7 hQg; have X7 := Xc.nx g7 (by omega); have hP7 : Calls Try.prog 97 #[.pointer (some ⟨g, 0, none⟩), .slice (some ⟨w12.heap.size, 0, none⟩) 2 2] w17 (PickPost L g [1, 9] w17) := l01Pick_any L g _ 2 2 _ _ D7.src (RBc.grown g7 (fun ad e _ c => by cases e; injection c with c; simp only at c; omega)) (by decide) (by decide) (fun ad e => by cases e; simp only; omega); have hS7 := fun o => B7.cell o)
            | (go_at_call 97; (with_reducible refine hP7.mono ?_); rintro e w18 ⟨v, -, rfl, g8, S8⟩; have D8 := D7.next g8 S8; have K8 := K7.nx g8 (by omega); have B8 := B7.nx g8 hQg; have X8 := X7.nx g8 (by omega); have hS8 := fun o => B8.cell o; have r8 : Rd w18 (some a4) (n4 * 2) (ints l7.depths) := X8.rd.tail.head; have y8 : Wr w18 (w.heap.size + 1) (some a4) (n4 * 2) := X8.wr.tail.head; obtain ⟨_, ⟨⟩, hc3, hc4⟩ := r8.two hp0; obtain ⟨_, ⟨⟩, -, hf3⟩ := y8 (by omega); have hf4 := hf3 1 (by omega); have hf3 := hf3 0 (by omega); rw [Nat.zero_mul, Addr.add_zero'] at hc3 hc4; rw [Addr.add_zero'] at hf3; rw [field_add _ 1 (by decide)] at hf4))
        all_goals
          have X9 := X8.set_d (ad := a4) rfl u v
          have B9 : Blk ((w18.setCell a4 (.int .i64 u)).setCell ⟨a4.block, a4.off + 1, none⟩ (.int .i64 v)) Q _ _ := (B8.far (p := a4) hq4.symm (.int .i64 u)).far (p := ⟨a4.block, a4.off + 1, none⟩) hq4.symm (.int .i64 v)
          have K9 : Blk ((w18.setCell a4 (.int .i64 u)).setCell ⟨a4.block, a4.off + 1, none⟩ (.int .i64 v)) _ _ _ := (K8.far (p := a4) (by omega) (.int .i64 u)).far (p := ⟨a4.block, a4.off + 1, none⟩) (by simp only; omega) (.int .i64 v)
          have D9 : Dr w ((w18.setCell a4 (.int .i64 u)).setCell ⟨a4.block, a4.off + 1, none⟩ (.int .i64 v)) L g := (D8.set_ (p := a4) (by omega) (.int .i64 u)).set_ (p := ⟨a4.block, a4.off + 1, none⟩) (by simp only; omega) (.int .i64 v)
          clear D6 K6 B6 X6 hS6 hT6 hP6 Db Kb Bb Xb hTb hPb RBb Dc Kc Bc Xc hTc hPc RBc hTv D7 K7 B7 X7 D8 K8 B8 X8 hS8 r8 y8 hc3 hc4 hf3 hf4 kE
          generalize (w18.setCell a4 (.int .i64 u)).setCell ⟨a4.block, a4.off + 1, none⟩ (.int .i64 v) = w19 at X9 B9 K9 D9 ⊢
          have cB := fun o => B9.cell o
          have fB := fun o => B9.frozen o
          have gB := B9.lt
          have cK := fun o => K9.cell o
          have fK := fun o => K9.frozen o
          have gK := K9.lt
          go_wp2
          refine bodyPost_ret (v := .agg #[.int .i64 l7.size, .int .i64 l7.wide, .int .i64 l7.high, .slice A3 n3 c3, .slice (some a4) n4 c4]) (by simp [results, Try.results103, go_sem, cK, gK]) rfl ?_
          exact ⟨⟨⟨A3, n3, c3⟩, ⟨some a4, n4, c4⟩⟩, ⟨l7.size, l7.wide, l7.high, l7.counts, (l7.depths.set 0 u).set 1 v⟩, rfl, (((((X9.cell (i := 0) (Nat.lt_succ_self _) _).cell (i := 1) (Nat.lt_succ_self _) _).cell (i := 2) (Nat.lt_succ_self _) _).cell (i := 3) (Nat.lt_succ_self _) _).cell (i := 4) (Nat.lt_succ_self _) _).lower (Nat.le_succ _), (((((D9.set_ (p := ⟨w.heap.size, 0, none⟩) (Nat.le_refl _) _).set_ (p := ⟨w.heap.size, 1, none⟩) (Nat.le_refl _) _).set_ (p := ⟨w.heap.size, 2, none⟩) (Nat.le_refl _) _).set_ (p := ⟨w.heap.size, 3, none⟩) (Nat.le_refl _) _).set_ (p := ⟨w.heap.size, 4, none⟩) (Nat.le_refl _) _)⟩
      · obtain ⟨p, hp⟩ : ∃ p : Int, IntKind.i64.wrap (l7.high + 1) = p := ⟨_, rfl⟩
        have X8 : GriW (w12.setCell ⟨Q, 2, none⟩ (.int .i64 p)) (w.heap.size + 1) ⟨⟨A3, n3, c3⟩, ⟨A4, n4, c4⟩⟩ ⟨l7.size, l7.wide, p, l7.counts, l7.depths⟩ := ⟨(G12.cellne hQ0 (.int .i64 p)).rd, (G12.cellne hQ0 (.int .i64 p)).wr, G12.sp, G12.le, G12.pos, G12.eq⟩
        have B8 : Blk (w12.setCell ⟨Q, 2, none⟩ (.int .i64 p)) Q 50 #[.int .i64 l7.size, .int .i64 l7.wide, .int .i64 p, .slice A3 n3 c3, .slice A4 n4 c4] := B12.set_ 2 (.int .i64 p)
        have K8 := K12.far (p := ⟨Q, 2, none⟩) hQ2 (.int .i64 p)
        have D8 := D12.set_ (p := ⟨Q, 2, none⟩) (by simp only; omega) (.int .i64 p)
        have cB7 := fun o => B12.cell o
        have fB7 := fun o => B12.frozen o
        have gB7 := B12.lt
        clear K12 D12 G12 B12
        go_upto_region 16 with fail
        generalize w12.setCell ⟨Q, 2, none⟩ (.int .i64 p) = w14 at X8 B8 K8 D8 ⊢
        clear cB7 fB7 gB7
        have cB := fun o => B8.cell o
        have fB := fun o => B8.frozen o
        have gB := B8.lt
        have cK := fun o => K8.cell o
        have fK := fun o => K8.frozen o
        have gK := K8.lt
        go_wp2
        refine bodyPost_ret (v := .agg #[.int .i64 l7.size, .int .i64 l7.wide, .int .i64 p, .slice A3 n3 c3, .slice A4 n4 c4]) (by simp [results, Try.results103, go_sem, cK, gK]) rfl ?_
        exact ⟨⟨⟨A3, n3, c3⟩, ⟨A4, n4, c4⟩⟩, ⟨l7.size, l7.wide, p, l7.counts, l7.depths⟩, rfl, (((((X8.cell (i := 0) (Nat.lt_succ_self _) _).cell (i := 1) (Nat.lt_succ_self _) _).cell (i := 2) (Nat.lt_succ_self _) _).cell (i := 3) (Nat.lt_succ_self _) _).cell (i := 4) (Nat.lt_succ_self _) _).lower (Nat.le_succ _), (((((D8.set_ (p := ⟨w.heap.size, 0, none⟩) (Nat.le_refl _) _).set_ (p := ⟨w.heap.size, 1, none⟩) (Nat.le_refl _) _).set_ (p := ⟨w.heap.size, 2, none⟩) (Nat.le_refl _) _).set_ (p := ⟨w.heap.size, 3, none⟩) (Nat.le_refl _) _).set_ (p := ⟨w.heap.size, 4, none⟩) (Nat.le_refl _) _)⟩
  · rw [hs]
    clear R3 hs h201 hnc low0 low1
    have low0 : ∀ ad, (none : Option Addr) = some ad → 0 < 0 * 4 → some g ≠ some ad.block := fun ad e => by cases e
    have hs : sndsB [] 0 = true := rfl
    have R3 : Rd w3 none (0 * 4) (ints []) := Rd.nil _ _
    have HS := Lib.hid hs
    clear hs
    go_wp2_with fail
    refine (l01Next_any L g 14 _ D3.src (by decide)).mono ?_
    rintro e w4 ⟨s0, rfl, s1, s2, g4, S4⟩
    have D4 := D3.next g4 S4
    have K4 := K3.nx g4 (by omega)
    have u4 : IntKind.i64.wrap (8 + s0) = 8 + s0 := IntWalk.i64_in _ (by omega)
    go_wp2_with fail
    refine (l01Next_any L g 6 _ D4.src (by decide)).mono ?_
    rintro e w5 ⟨a0, rfl, a1, a2, g5, S5⟩
    have D5 := D4.next g5 S5
    have K5 := K4.nx g5 (by omega)
    have u5 : IntKind.i64.wrap (1 + a0) = 1 + a0 := IntWalk.i64_in _ (by omega)
    go_wp2_with fail
    refine (l01Next_any L g 5 _ D5.src (by decide)).mono ?_
    rintro e w6 ⟨c0, rfl, c1, c2, g6, S6⟩
    have D6 := D5.next g6 S6
    have K6 := K5.nx g6 (by omega)
    have u6 : IntKind.i64.wrap (1 + c0) = 1 + c0 := IntWalk.i64_in _ (by omega)
    have R6 : Rd w6 (none) ((0) * 4) (ints ([])) := ((R3.grown g4 low0).grown g5 low0).grown g6 low0
    go_wp2_with fail
    refine (specGrids_any (8 + s0) (1 + a0) (1 + c0) (none) (0) (0) ([]) _ (by omega) R6).mono ?_
    rintro e w7 ⟨⟨⟨A3, n3, c3⟩, ⟨A4, n4, c4⟩⟩, rfl, ok7, X7, Y7, P7, b7⟩
    have sh : gshape (8 + s0) (1 + a0) (1 + c0) = true := by unfold gshape; rw [inR_mk (by omega) (by omega), inR_mk (by omega) (by omega), inR_mk (by omega) (by omega)]; rfl
    have c0e := gsC_mk HS.out sh
    have l7 : gsR (8 + s0) (1 + a0) (1 + c0) ([]) (0) = gsTo (8 + s0) (1 + a0).toNat (1 + c0).toNat ([]) (0) := by unfold gsR; rw [if_pos c0e]
    have k7 : GOk (gsR (8 + s0) (1 + a0) (1 + c0) ([]) (0)) := by
      rw [l7]
      refine GOk.of (gs_ok (by omega) (by omega) (by omega) (by omega) (by omega) (by omega) ?_ (by omega))
      have := HS.out; unfold sndsB at this; simp only [Bool.and_eq_true] at this; exact this.1
    have G7 := GriW.of k7 X7 Y7 P7
    have D7 := D6.bel b7
    have K7 := K6.below b7 K6.lt
    have K6z := K6.lt
    rw [c0e]
    clear c0e l7 sh HS X7 Y7 P7 b7 ok7 D3 D4 D5 D6 K3 K4 K5 K6 R3 R6 g4 g5 g6 S4 S5 S6 u4 u5 u6
    have hz6 : w.heap.size < w6.heap.size := K6z
    generalize gsR (8 + s0) (1 + a0) (1 + c0) ([]) (0) = l7 at k7 G7 ⊢
    have G7 := G7.lower (C := w.heap.size + 1) hz6
    unfold DepthGridV
    simp only
    go_upto_region 5 with fail
    have BQ := Blk.new w7 50 #[.int .i64 l7.size, .int .i64 l7.wide, .int .i64 l7.high, .slice A3 n3 c3, .slice A4 n4 c4]
    have D8 := D7.alloc (.cells #[.int .i64 l7.size, .int .i64 l7.wide, .int .i64 l7.high, .slice A3 n3 c3, .slice A4 n4 c4] 50)
    have K8 := K7.alloc (.cells #[.int .i64 l7.size, .int .i64 l7.wide, .int .i64 l7.high, .slice A3 n3 c3, .slice A4 n4 c4] 50)
    have G8 := G7.alloc (.cells #[.int .i64 l7.size, .int .i64 l7.wide, .int .i64 l7.high, .slice A3 n3 c3, .slice A4 n4 c4] 50)
    have hQ0 : ∀ s ∈ DepthGridR ⟨⟨A3, n3, c3⟩, ⟨A4, n4, c4⟩⟩, s ≠ some w7.heap.size := (G7.rd.lo).ne (Nat.le_refl _)
    have hz7 : w.heap.size < w7.heap.size := K7.lt
    generalize w7.alloc (.cells #[.int .i64 l7.size, .int .i64 l7.wide, .int .i64 l7.high, .slice A3 n3 c3, .slice A4 n4 c4] 50) = w8 at BQ D8 K8 G8 ⊢
    generalize w7.heap.size = Q at BQ hz7 hQ0 ⊢
    clear D7 K7 G7
    have hQ1 : Q ≠ w.heap.size := by omega
    have hQ2 : w.heap.size ≠ Q := by omega
    have hQg : g ≠ Q := by omega
    go_wp2_with fail
    refine (l01Next_any L g 3 _ D8.src (by decide)).mono ?_
    rintro e w9 ⟨q, rfl, q0, q1, g9, S9⟩
    have D9 := D8.next g9 S9
    have K9 := K8.nx g9 (by omega)
    have B9 := BQ.nx g9 hQg
    have G9 := G8.nx g9 (by omega)
    clear D8 K8 BQ G8 g9 S9
    by_cases hq : q = 0
    · subst hq
      have cB := fun o => B9.cell o
      have fB := fun o => B9.frozen o
      have gB := B9.lt
      have HF := specFillGaps'_any ⟨⟨A3, n3, c3⟩, ⟨A4, n4, c4⟩⟩ l7 w9 G9.ok G9.rd
      simp only [DepthGridV] at HF
      go_wp2_with fail
      refine HF.mono ?_
      rintro e w10 ⟨⟨⟨A5, n5, c5⟩, ⟨A6, n6, c6⟩⟩, rfl, ok10, X10, Y10, P10, b10⟩
      have G10 := fg_side_ok k7 X10 Y10 P10
      have hQ10 : ∀ s ∈ DepthGridR ⟨⟨A5, n5, c5⟩, ⟨A6, n6, c6⟩⟩, s ≠ some Q := G10.ne gB
      have G10 := G10.lower (C := w.heap.size + 1) (by omega)
      have D10 := D9.bel b10
      have K10 := K9.below b10 K9.lt
      have B10 := B9.below b10 gB
      clear D9 K9 B9 G9 cB fB gB HF X10 Y10 P10 b10 ok10 hQ0 k7
      generalize fgR l7 = l10 at G10
      unfold DepthGridV
      simp only
      have cB := fun o => B10.cell o
      have fB := fun o => B10.frozen o
      have gB := B10.lt
      go_upto_region 7 with fail
      have G11 := (((((G10.cellne (i := 0) hQ10 (.int .i64 l10.size)).cellne (i := 1) hQ10 (.int .i64 l10.wide)).cellne (i := 2) hQ10 (.int .i64 l10.high)).cellne (i := 3) hQ10 (.slice A5 n5 c5)).cellne (i := 4) hQ10 (.slice A6 n6 c6))
      have K11 := (((((K10.far (p := ⟨Q, 0, none⟩) (by simp only; omega) (.int .i64 l10.size)).far (p := ⟨Q, 1, none⟩) (by simp only; omega) (.int .i64 l10.wide)).far (p := ⟨Q, 2, none⟩) (by simp only; omega) (.int .i64 l10.high)).far (p := ⟨Q, 3, none⟩) (by simp only; omega) (.slice A5 n5 c5)).far (p := ⟨Q, 4, none⟩) (by simp only; omega) (.slice A6 n6 c6))
      have D11 := (((((D10.set_ (p := ⟨Q, 0, none⟩) (by simp only; omega) (.int .i64 l10.size)).set_ (p := ⟨Q, 1, none⟩) (by simp only; omega) (.int .i64 l10.wide)).set_ (p := ⟨Q, 2, none⟩) (by simp only; omega) (.int .i64 l10.high)).set_ (p := ⟨Q, 3, none⟩) (by simp only; omega) (.slice A5 n5 c5)).set_ (p := ⟨Q, 4, none⟩) (by simp only; omega) (.slice A6 n6 c6))
      have B11 : Blk _ Q 50 #[.int .i64 l10.size, .int .i64 l10.wide, .int .i64 l10.high, .slice A5 n5 c5, .slice A6 n6 c6] := (((((B10.set_ 0 (.int .i64 l10.size)).set_ 1 (.int .i64 l10.wide)).set_ 2 (.int .i64 l10.high)).set_ 3 (.slice A5 n5 c5)).set_ 4 (.slice A6 n6 c6))
      clear G10 K10 D10 B10 cB fB gB
      generalize (((((w10.setCell ⟨Q, 0, none⟩ (.int .i64 l10.size)).setCell ⟨Q, 1, none⟩ (.int .i64 l10.wide)).setCell ⟨Q, 2, none⟩ (.int .i64 l10.high)).setCell ⟨Q, 3, none⟩ (.slice A5 n5 c5)).setCell ⟨Q, 4, none⟩ (.slice A6 n6 c6)) = w11 at G11 K11 D11 B11 ⊢
      go_wp2_with fail
      refine (l01Next_any L g 50 _ D11.src (by decide)).mono ?_
      rintro e w12 ⟨r, rfl, r0, r1, g12, S12⟩
      have D12 := D11.next g12 S12
      have K12 := K11.nx g12 (by omega)
      have B12 := B11.nx g12 hQg
      have G12 := G11.nx g12 (by omega)
      clear D11 K11 B11 G11 g12 S12
      by_cases hr : r = 0 ∨ r = 1 ∨ r = 2 ∨ r = 3
      case neg =>
        have e0 : (r == 0) = false := by rw [beq_eq_false_iff_ne]; omega
        have e1 : (r == 1) = false := by rw [beq_eq_false_iff_ne]; omega
        have e2 : (r == 2) = false := by rw [beq_eq_false_iff_ne]; omega
        have e3 : (r == 3) = false := by rw [beq_eq_false_iff_ne]; omega
        clear hr
        have cB := fun o => B12.cell o
        have fB := fun o => B12.frozen o
        have gB := B12.lt
        have cK := fun o => K12.cell o
        have fK := fun o => K12.frozen o
        have gK := K12.lt
        go_wp2
        refine bodyPost_ret (v := .agg #[.int .i64 l10.size, .int .i64 l10.wide, .int .i64 l10.high, .slice A5 n5 c5, .slice A6 n6 c6]) (by simp [results, Try.results103, go_sem, cK, gK]) rfl ?_
        exact ⟨⟨⟨A5, n5, c5⟩, ⟨A6, n6, c6⟩⟩, l10, rfl, (((((G12.cell (i := 0) (Nat.lt_succ_self _) _).cell (i := 1) (Nat.lt_succ_self _) _).cell (i := 2) (Nat.lt_succ_self _) _).cell (i := 3) (Nat.lt_succ_self _) _).cell (i := 4) (Nat.lt_succ_self _) _).lower (Nat.le_succ _), (((((D12.set_ (p := ⟨w.heap.size, 0, none⟩) (Nat.le_refl _) _).set_ (p := ⟨w.heap.size, 1, none⟩) (Nat.le_refl _) _).set_ (p := ⟨w.heap.size, 2, none⟩) (Nat.le_refl _) _).set_ (p := ⟨w.heap.size, 3, none⟩) (Nat.le_refl _) _).set_ (p := ⟨w.heap.size, 4, none⟩) (Nat.le_refl _) _)⟩
      rcases hr with rfl | rfl | rfl | rfl
      · go_wp2_with fail
        refine (pick_any L g [0, 10000, 10001] 3 _ D12.src rfl (by decide) (by decide)).mono ?_
        rintro e w13 ⟨p, -, rfl, g13, S13⟩
        have D13 := (D12.alloc _).next g13 S13
        have K13 := (K12.alloc _).nx g13 (by omega)
        have B13 := (B12.alloc _).nx g13 hQg
        have G13 := (G12.alloc _).nx g13 (by omega)
        clear D12 K12 B12 G12 g13 S13
        have X8 : GriW (w13.setCell ⟨Q, 0, none⟩ (.int .i64 p)) (w.heap.size + 1) ⟨⟨A5, n5, c5⟩, ⟨A6, n6, c6⟩⟩ ⟨p, l10.wide, l10.high, l10.counts, l10.depths⟩ := ⟨(G13.cellne hQ10 (.int .i64 p)).rd, (G13.cellne hQ10 (.int .i64 p)).wr, G13.sp, G13.le, G13.pos, G13.eq⟩
        have B8 : Blk (w13.setCell ⟨Q, 0, none⟩ (.int .i64 p)) Q 50 #[.int .i64 p, .int .i64 l10.wide, .int .i64 l10.high, .slice A5 n5 c5, .slice A6 n6 c6] := B13.set_ 0 (.int .i64 p)
        have K8 := K13.far (p := ⟨Q, 0, none⟩) hQ2 (.int .i64 p)
        have D8 := D13.set_ (p := ⟨Q, 0, none⟩) (by simp only; omega) (.int .i64 p)
        have cB7 := fun o => B13.cell o
        have fB7 := fun o => B13.frozen o
        have gB7 := B13.lt
        clear K13 D13 G13 B13
        go_upto_region 16 with fail
        generalize w13.setCell ⟨Q, 0, none⟩ (.int .i64 p) = w14 at X8 B8 K8 D8 ⊢
        clear cB7 fB7 gB7
        have cB := fun o => B8.cell o
        have fB := fun o => B8.frozen o
        have gB := B8.lt
        have cK := fun o => K8.cell o
        have fK := fun o => K8.frozen o
        have gK := K8.lt
        go_wp2
        refine bodyPost_ret (v := .agg #[.int .i64 p, .int .i64 l10.wide, .int .i64 l10.high, .slice A5 n5 c5, .slice A6 n6 c6]) (by simp [results, Try.results103, go_sem, cK, gK]) rfl ?_
        exact ⟨⟨⟨A5, n5, c5⟩, ⟨A6, n6, c6⟩⟩, ⟨p, l10.wide, l10.high, l10.counts, l10.depths⟩, rfl, (((((X8.cell (i := 0) (Nat.lt_succ_self _) _).cell (i := 1) (Nat.lt_succ_self _) _).cell (i := 2) (Nat.lt_succ_self _) _).cell (i := 3) (Nat.lt_succ_self _) _).cell (i := 4) (Nat.lt_succ_self _) _).lower (Nat.le_succ _), (((((D8.set_ (p := ⟨w.heap.size, 0, none⟩) (Nat.le_refl _) _).set_ (p := ⟨w.heap.size, 1, none⟩) (Nat.le_refl _) _).set_ (p := ⟨w.heap.size, 2, none⟩) (Nat.le_refl _) _).set_ (p := ⟨w.heap.size, 3, none⟩) (Nat.le_refl _) _).set_ (p := ⟨w.heap.size, 4, none⟩) (Nat.le_refl _) _)⟩
      · obtain ⟨a3, rfl, -⟩ := G12.rd.head.int (show 0 < n5 from G12.pos)
        have hp0 : 0 < n5 := G12.pos
        have hR : ∀ s ∈ DepthGridR ⟨⟨some a3, n5, c5⟩, ⟨A6, n6, c6⟩⟩, ∀ b, s = some b → w.heap.size + 1 ≤ b := fun s hs b e => G12.wr.hi s hs b e
        have ha3 : w.heap.size + 1 ≤ a3.block := hR _ (List.mem_cons_self ..) _ (by unfold blkp; rw [if_neg (by simp only; omega)]; rfl)
        have hq3 : a3.block ≠ Q := fun c => hQ10 _ (List.mem_cons_self ..) (by unfold blkp; rw [if_neg (by simp only; omega), ← c]; rfl)
        have kA : ∀ (W : World) (u : Value) (o : Nat), (W.setCell a3 u).cell? ⟨Q, o, none⟩ = W.cell? ⟨Q, o, none⟩ := fun W u o => set_farG hq3
        have kC : ∀ (W : World) (u : Value) (o : Nat), (W.setCell a3 u).cell? ⟨w.heap.size, o, none⟩ = W.cell? ⟨w.heap.size, o, none⟩ := fun W u o => set_farG (by simp only; omega)
        have hnI : (0 : Int) < (n5 : Int) := by omega
        go_wp2_with fail
        have hS6 := fun o => (Blk.drew B12).cell o
        have hP6 := pick_drew L g [-2, 0, 1, 1000000000000, 1000000000001] 5 w12 D12.src rfl (by decide) (by decide)
        have D6 := (D12.alloc (.cells #[.int .i64 (-2), .int .i64 0, .int .i64 1, .int .i64 1000000000000, .int .i64 1000000000001] 2)).drew
        have K6 := Blk.drew (K12.alloc (.cells #[.int .i64 (-2), .int .i64 0, .int .i64 1, .int .i64 1000000000000, .int .i64 1000000000001] 2))
        have B6 := Blk.drew (B12.alloc (.cells #[.int .i64 (-2), .int .i64 0, .int .i64 1, .int .i64 1000000000000, .int .i64 1000000000001] 2))
        have X6 := (G12.alloc (.cells #[.int .i64 (-2), .int .i64 0, .int .i64 1, .int .i64 1000000000000, .int .i64 1000000000001] 2)).bel (Below.drew (Below.refl _ _))
        have hT6 := fun o => B6.cell o
        clear D12 K12 B12 G12
        go_region_held3 (fun w' => ∀ o, w'.cell? ⟨Q, o, none⟩ = (#[.int .i64 l10.size, .int .i64 l10.wide, .int .i64 l10.high, .slice (some a3) n5 c5, .slice A6 n6 c6] : Array Value)[o]?)
          (first | (with_reducible assumption) | (intro o; go_keep))
          (first
            | (go_at_call 97; refine hP6.mono ?_; rintro e w17 ⟨v, -, rfl, g7, S7⟩; have D7 := D6.next g7 S7; have K7 := K6.nx g7 (by omega); have B7 := B6.nx g7 hQg; have X7 := X6.nx g7 (by omega); have hS7 := fun o => B7.cell o; obtain ⟨_, ⟨⟩, hc3⟩ := X7.rd.head.int hp0; obtain ⟨_, ⟨⟩, -, hf3⟩ := X7.wr.head hp0; have hf3 := hf3 0 hp0; rw [Addr.add_zero'] at hc3 hf3))
        all_goals
          have X8 := X7.set_c (ad := a3) rfl v
          have B8 := B7.far (p := a3) hq3.symm (.int .i64 v)
          have K8 := K7.far (p := a3) (by omega) (.int .i64 v)
          have D8 := D7.set_ (p := a3) (by omega) (.int .i64 v)
          clear D6 K6 B6 X6 hS6 hT6 hP6 D7 K7 B7 X7 hS7 hc3 hf3 S7 g7 kA kC
          generalize w17.setCell a3 (.int .i64 v) = w18 at X8 B8 K8 D8 ⊢
          have cB := fun o => B8.cell o
          have fB := fun o => B8.frozen o
          have gB := B8.lt
          have cK := fun o => K8.cell o
          have fK := fun o => K8.frozen o
          have gK := K8.lt
          go_wp2
          refine bodyPost_ret (v := .agg #[.int .i64 l10.size, .int .i64 l10.wide, .int .i64 l10.high, .slice (some a3) n5 c5, .slice A6 n6 c6]) (by simp [results, Try.results103, go_sem, cK, gK]) rfl ?_
          exact ⟨⟨⟨some a3, n5, c5⟩, ⟨A6, n6, c6⟩⟩, ⟨l10.size, l10.wide, l10.high, l10.counts.set 0 v, l10.depths⟩, rfl, (((((X8.cell (i := 0) (Nat.lt_succ_self _) _).cell (i := 1) (Nat.lt_succ_self _) _).cell (i := 2) (Nat.lt_succ_self _) _).cell (i := 3) (Nat.lt_succ_self _) _).cell (i := 4) (Nat.lt_succ_self _) _).lower (Nat.le_succ _), (((((D8.set_ (p := ⟨w.heap.size, 0, none⟩) (Nat.le_refl _) _).set_ (p := ⟨w.heap.size, 1, none⟩) (Nat.le_refl _) _).set_ (p := ⟨w.heap.size, 2, none⟩) (Nat.le_refl _) _).set_ (p := ⟨w.heap.size, 3, none⟩) (Nat.le_refl _) _).set_ (p := ⟨w.heap.size, 4, none⟩) (Nat.le_refl _) _)⟩
      · have hp0 : 0 < n6 := by have h1 := G12.pos; have h2 := G12.eq; simp only at h1 h2; omega
        have r4 : Rd w12 A6 (n6 * 2) (ints l10.depths) := G12.rd.tail.head
        obtain ⟨a4, rfl, -, -⟩ := r4.two hp0
        have hm4 : blkp (some a4) (n6 * 2) = some a4.block := by unfold blkp; rw [if_neg (by omega)]; rfl
        have ha4 : w.heap.size + 1 ≤ a4.block := G12.wr.hi _ (List.mem_cons_of_mem _ (List.mem_cons_self ..)) a4.block hm4
        have hq4 : a4.block ≠ Q := fun c => hQ10 _ (List.mem_cons_of_mem _ (List.mem_cons_self ..)) (by rw [← c]; exact hm4)
        have kE : ∀ (W : World) (u : Value), (W.setCell a4 u).cell? ⟨a4.block, a4.off + 1, none⟩ = W.cell? ⟨a4.block, a4.off + 1, none⟩ := fun W u => World.cell?_setCell_other _ _ _ _ (fun e => by have e2 := congrArg Addr.off e; first | omega | (simp only at e2; omega))
        have hnI : (0 : Int) < (n6 : Int) := by omega
        clear r4 hm4
        go_wp2_with fail
        have hz12 := D12.size
        have hS6 := fun o => (Blk.drew B12).cell o
        have hP6 : Calls Try.prog 97 #[.pointer (some ⟨g, 0, none⟩), .slice (some ⟨w12.heap.size, 0, none⟩) 3 3] (w12.alloc (.cells #[.int .i64 5, .int .i64 0, .int .i64 (-3)] 2)).drew (PickPost L g [5, 0, -3] (w12.alloc (.cells #[.int .i64 5, .int .i64 0, .int .i64 (-3)] 2)).drew) := pick_drew L g [5, 0, -3] 3 w12 D12.src rfl (by decide) (by decide)
        have D6 := (D12.alloc (.cells #[.int .i64 5, .int .i64 0, .int .i64 (-3)] 2)).drew
        have K6 := Blk.drew (K12.alloc (.cells #[.int .i64 5, .int .i64 0, .int .i64 (-3)] 2))
        have B6 := Blk.drew (B12.alloc (.cells #[.int .i64 5, .int .i64 0, .int .i64 (-3)] 2))
        have X6 := (G12.alloc (.cells #[.int .i64 5, .int .i64 0, .int .i64 (-3)] 2)).bel (Below.drew (Below.refl _ _))
        have hT6 := fun o => B6.cell o
        have Db := ((D12.alloc (.cells #[.int .i64 5, .int .i64 0, .int .i64 (-3)] 2)).alloc (.cells #[.int .i64 1, .int .i64 9] 2)).drew
        have Kb := Blk.drew ((K12.alloc (.cells #[.int .i64 5, .int .i64 0, .int .i64 (-3)] 2)).alloc (.cells #[.int .i64 1, .int .i64 9] 2))
        have Bb := Blk.drew ((B12.alloc (.cells #[.int .i64 5, .int .i64 0, .int .i64 (-3)] 2)).alloc (.cells #[.int .i64 1, .int .i64 9] 2))
        have Xb := ((G12.alloc (.cells #[.int .i64 5, .int .i64 0, .int .i64 (-3)] 2)).alloc (.cells #[.int .i64 1, .int .i64 9] 2)).bel (Below.drew (Below.refl _ _))
        have hTb := fun o => Bb.cell o
        have RAb : Rd ((w12.alloc (.cells #[.int .i64 5, .int .i64 0, .int .i64 (-3)] 2)).alloc (.cells #[.int .i64 1, .int .i64 9] 2)).drew (some ⟨w12.heap.size, 0, none⟩) 3 (ints [5, 0, -3]) := ((rd_lit w12 [5, 0, -3] 2 3 rfl).below ((Below.refl _ _).alloc (Nat.le_refl _) _)).below (Below.drew (Below.refl _ _))
        have RBb : Rd ((w12.alloc (.cells #[.int .i64 5, .int .i64 0, .int .i64 (-3)] 2)).alloc (.cells #[.int .i64 1, .int .i64 9] 2)).drew (some ⟨w12.heap.size + 1, 0, none⟩) 2 (ints [1, 9]) := by
          have h := rd_lit (w12.alloc (.cells #[.int .i64 5, .int .i64 0, .int .i64 (-3)] 2)) [1, 9] 2 2 rfl
          rw [size_alloc1] at h
          exact h.below (Below.drew (Below.refl _ _))
        have hPb : Calls Try.prog 97 #[.pointer (some ⟨g, 0, none⟩), .slice (some ⟨w12.heap.size, 0, none⟩) 3 3] ((w12.alloc (.cells #[.int .i64 5, .int .i64 0, .int .i64 (-3)] 2)).alloc (.cells #[.int .i64 1, .int .i64 9] 2)).drew (PickPost L g [5, 0, -3] ((w12.alloc (.cells #[.int .i64 5, .int .i64 0, .int .i64 (-3)] 2)).alloc (.cells #[.int .i64 1, .int .i64 9] 2)).drew) := l01Pick_any L g _ 3 3 _ _ Db.src RAb (by decide) (by decide) (fun ad e => by cases e; simp only; omega)
        have Bv := Blk.drew (B12.alloc (.cells #[.int .i64 1, .int .i64 9] 2))
        have hTv := fun o => Bv.cell o
        have Dc := ((D12.alloc (.cells #[.int .i64 1, .int .i64 9] 2)).alloc (.cells #[.int .i64 5, .int .i64 0, .int .i64 (-3)] 2)).drew
        have Kc := Blk.drew ((K12.alloc (.cells #[.int .i64 1, .int .i64 9] 2)).alloc (.cells #[.int .i64 5, .int .i64 0, .int .i64 (-3)] 2))
        have Bc := Blk.drew ((B12.alloc (.cells #[.int .i64 1, .int .i64 9] 2)).alloc (.cells #[.int .i64 5, .int .i64 0, .int .i64 (-3)] 2))
        have Xc := ((G12.alloc (.cells #[.int .i64 1, .int .i64 9] 2)).alloc (.cells #[.int .i64 5, .int .i64 0, .int .i64 (-3)] 2)).bel (Below.drew (Below.refl _ _))
        have hTc := fun o => Bc.cell o
        have RBc : Rd ((w12.alloc (.cells #[.int .i64 1, .int .i64 9] 2)).alloc (.cells #[.int .i64 5, .int .i64 0, .int .i64 (-3)] 2)).drew (some ⟨w12.heap.size, 0, none⟩) 2 (ints [1, 9]) := ((rd_lit w12 [1, 9] 2 2 rfl).below ((Below.refl _ _).alloc (Nat.le_refl _) _)).below (Below.drew (Below.refl _ _))
        have RAc : Rd ((w12.alloc (.cells #[.int .i64 1, .int .i64 9] 2)).alloc (.cells #[.int .i64 5, .int .i64 0, .int .i64 (-3)] 2)).drew (some ⟨w12.heap.size + 1, 0, none⟩) 3 (ints [5, 0, -3]) := by
          have h := rd_lit (w12.alloc (.cells #[.int .i64 1, .int .i64 9] 2)) [5, 0, -3] 2 3 rfl
          rw [size_alloc1] at h
          exact h.below (Below.drew (Below.refl _ _))
        have hPc : Calls Try.prog 97 #[.pointer (some ⟨g, 0, none⟩), .slice (some ⟨w12.heap.size + 1, 0, none⟩) 3 3] ((w12.alloc (.cells #[.int .i64 1, .int .i64 9] 2)).alloc (.cells #[.int .i64 5, .int .i64 0, .int .i64 (-3)] 2)).drew (PickPost L g [5, 0, -3] ((w12.alloc (.cells #[.int .i64 1, .int .i64 9] 2)).alloc (.cells #[.int .i64 5, .int .i64 0, .int .i64 (-3)] 2)).drew) := l01Pick_any L g _ 3 3 _ _ Dc.src RAc (by decide) (by decide) (fun ad e => by cases e; simp only; omega)
        clear D12 K12 B12 G12 RAb RAc Bv
        go_region_held3 (fun w' => ∀ o, w'.cell? ⟨Q, o, none⟩ = (#[.int .i64 l10.size, .int .i64 l10.wide, .int .i64 l10.high, .slice A5 n5 c5, .slice (some a4) n6 c6] : Array Value)[o]?)
          (first | (with_reducible assumption) | (intro o; go_keep))
          (first
            | (go_at_call 97; (with_reducible refine hP6.mono ?_); rintro e w17 ⟨u, -, rfl, g7, S7⟩; have D7 := (D6.next g7 S7); have K7 := K6.nx g7 (by omega); have B7 := B6.nx g7 hQg; have X7 := X6.nx g7 (by omega); have hP7 : Calls Try.prog 97 #[.pointer (some ⟨g, 0, none⟩), .slice (some ⟨w17.heap.size, 0, none⟩) 2 2] (w17.alloc (.cells #[.int .i64 1, .int .i64 9] 2)) (PickPost L g [1, 9] (w17.alloc (.cells #[.int .i64 1, .int .i64 9] 2))) := pick_any L g [1, 9] 2 w17 D7.src rfl (by decide) (by decide); have D7 := D7.alloc (.cells #[.int .i64 1, .int .i64 9] 2); have K7 := K7.alloc (.cells #[.int .i64 1, .int .i64 9] 2); have hS7 := fun o => B7.cell o; have B7 := B7.alloc (.cells #[.int .i64 1, .int .i64 9] 2); have X7 := X7.alloc (.cells #[.int .i64 1, .int .i64 9] 2); have hT7 := fun o => B7.cell o)
            | (go_at_call 97; (with_reducible refine hPb.mono ?_); rintro e w17 ⟨u, -, rfl, g7, S7⟩; have D7 := (Db.next g7 S7); have K7 := Kb.nx g7 (by omega); have B7 := Bb.nx g7 hQg; have X7 := Xb.nx g7 (by omega); have hP7 : Calls Try.prog 97 #[.pointer (some ⟨g, 0, none⟩), .slice (some ⟨w12.heap.size + 1, 0, none⟩) 2 2] w17 (PickPost L g [1, 9] w17) := l01Pick_any L g _ 2 2 _ _ D7.src (RBb.grown g7 (fun ad e _ c => by cases e; injection c with c; simp only at c; omega)) (by decide) (by decide) (fun ad e => by cases e; simp only; omega); have hS7 := fun o => B7.cell o)
            | (go_at_call 97; (with_reducible refine hPc.mono ?_); rintro e w17 ⟨u, -, rfl, g7, S7⟩; have D7 := (Dc.next g7 S7); have K7 := Kc.nx g7 (by omega); have B7 := Bc.nx g7 hQg; have X7 := Xc.nx g7 (by omega); have hP7 : Calls Try.prog 97 #[.pointer (some ⟨g, 0, none⟩), .slice (some ⟨w12.heap.size, 0, none⟩) 2 2] w17 (PickPost L g [1, 9] w17) := l01Pick_any L g _ 2 2 _ _ D7.src (RBc.grown g7 (fun ad e _ c => by cases e; injection c with c; simp only at c; omega)) (by decide) (by decide) (fun ad e => by cases e; simp only; omega); have hS7 := fun o => B7.cell o)
            | (go_at_call 97; (with_reducible refine hP7.mono ?_); rintro e w18 ⟨v, -, rfl, g8, S8⟩; have D8 := D7.next g8 S8; have K8 := K7.nx g8 (by omega); have B8 := B7.nx g8 hQg; have X8 := X7.nx g8 (by omega); have hS8 := fun o => B8.cell o; have r8 : Rd w18 (some a4) (n6 * 2) (ints l10.depths) := X8.rd.tail.head; have y8 : Wr w18 (w.heap.size + 1) (some a4) (n6 * 2) := X8.wr.tail.head; obtain ⟨_, ⟨⟩, hc3, hc4⟩ := r8.two hp0; obtain ⟨_, ⟨⟩, -, hf3⟩ := y8 (by omega); have hf4 := hf3 1 (by omega); have hf3 := hf3 0 (by omega); rw [Nat.zero_mul, Addr.add_zero'] at hc3 hc4; rw [Addr.add_zero'] at hf3; rw [field_add _ 1 (by decide)] at hf4))
        all_goals
          have X9 := X8.set_d (ad := a4) rfl u v
          have B9 : Blk ((w18.setCell a4 (.int .i64 u)).setCell ⟨a4.block, a4.off + 1, none⟩ (.int .i64 v)) Q _ _ := (B8.far (p := a4) hq4.symm (.int .i64 u)).far (p := ⟨a4.block, a4.off + 1, none⟩) hq4.symm (.int .i64 v)
          have K9 : Blk ((w18.setCell a4 (.int .i64 u)).setCell ⟨a4.block, a4.off + 1, none⟩ (.int .i64 v)) _ _ _ := (K8.far (p := a4) (by omega) (.int .i64 u)).far (p := ⟨a4.block, a4.off + 1, none⟩) (by simp only; omega) (.int .i64 v)
          have D9 : Dr w ((w18.setCell a4 (.int .i64 u)).setCell ⟨a4.block, a4.off + 1, none⟩ (.int .i64 v)) L g := (D8.set_ (p := a4) (by omega) (.int .i64 u)).set_ (p := ⟨a4.block, a4.off + 1, none⟩) (by simp only; omega) (.int .i64 v)
          clear D6 K6 B6 X6 hS6 hT6 hP6 Db Kb Bb Xb hTb hPb RBb Dc Kc Bc Xc hTc hPc RBc hTv D7 K7 B7 X7 D8 K8 B8 X8 hS8 r8 y8 hc3 hc4 hf3 hf4 kE
          generalize (w18.setCell a4 (.int .i64 u)).setCell ⟨a4.block, a4.off + 1, none⟩ (.int .i64 v) = w19 at X9 B9 K9 D9 ⊢
          have cB := fun o => B9.cell o
          have fB := fun o => B9.frozen o
          have gB := B9.lt
          have cK := fun o => K9.cell o
          have fK := fun o => K9.frozen o
          have gK := K9.lt
          go_wp2
          refine bodyPost_ret (v := .agg #[.int .i64 l10.size, .int .i64 l10.wide, .int .i64 l10.high, .slice A5 n5 c5, .slice (some a4) n6 c6]) (by simp [results, Try.results103, go_sem, cK, gK]) rfl ?_
          exact ⟨⟨⟨A5, n5, c5⟩, ⟨some a4, n6, c6⟩⟩, ⟨l10.size, l10.wide, l10.high, l10.counts, (l10.depths.set 0 u).set 1 v⟩, rfl, (((((X9.cell (i := 0) (Nat.lt_succ_self _) _).cell (i := 1) (Nat.lt_succ_self _) _).cell (i := 2) (Nat.lt_succ_self _) _).cell (i := 3) (Nat.lt_succ_self _) _).cell (i := 4) (Nat.lt_succ_self _) _).lower (Nat.le_succ _), (((((D9.set_ (p := ⟨w.heap.size, 0, none⟩) (Nat.le_refl _) _).set_ (p := ⟨w.heap.size, 1, none⟩) (Nat.le_refl _) _).set_ (p := ⟨w.heap.size, 2, none⟩) (Nat.le_refl _) _).set_ (p := ⟨w.heap.size, 3, none⟩) (Nat.le_refl _) _).set_ (p := ⟨w.heap.size, 4, none⟩) (Nat.le_refl _) _)⟩
      · obtain ⟨p, hp⟩ : ∃ p : Int, IntKind.i64.wrap (l10.high + 1) = p := ⟨_, rfl⟩
        have X8 : GriW (w12.setCell ⟨Q, 2, none⟩ (.int .i64 p)) (w.heap.size + 1) ⟨⟨A5, n5, c5⟩, ⟨A6, n6, c6⟩⟩ ⟨l10.size, l10.wide, p, l10.counts, l10.depths⟩ := ⟨(G12.cellne hQ10 (.int .i64 p)).rd, (G12.cellne hQ10 (.int .i64 p)).wr, G12.sp, G12.le, G12.pos, G12.eq⟩
        have B8 : Blk (w12.setCell ⟨Q, 2, none⟩ (.int .i64 p)) Q 50 #[.int .i64 l10.size, .int .i64 l10.wide, .int .i64 p, .slice A5 n5 c5, .slice A6 n6 c6] := B12.set_ 2 (.int .i64 p)
        have K8 := K12.far (p := ⟨Q, 2, none⟩) hQ2 (.int .i64 p)
        have D8 := D12.set_ (p := ⟨Q, 2, none⟩) (by simp only; omega) (.int .i64 p)
        have cB7 := fun o => B12.cell o
        have fB7 := fun o => B12.frozen o
        have gB7 := B12.lt
        clear K12 D12 G12 B12
        go_upto_region 16 with fail
        generalize w12.setCell ⟨Q, 2, none⟩ (.int .i64 p) = w14 at X8 B8 K8 D8 ⊢
        clear cB7 fB7 gB7
        have cB := fun o => B8.cell o
        have fB := fun o => B8.frozen o
        have gB := B8.lt
        have cK := fun o => K8.cell o
        have fK := fun o => K8.frozen o
        have gK := K8.lt
        go_wp2
        refine bodyPost_ret (v := .agg #[.int .i64 l10.size, .int .i64 l10.wide, .int .i64 p, .slice A5 n5 c5, .slice A6 n6 c6]) (by simp [results, Try.results103, go_sem, cK, gK]) rfl ?_
        exact ⟨⟨⟨A5, n5, c5⟩, ⟨A6, n6, c6⟩⟩, ⟨l10.size, l10.wide, p, l10.counts, l10.depths⟩, rfl, (((((X8.cell (i := 0) (Nat.lt_succ_self _) _).cell (i := 1) (Nat.lt_succ_self _) _).cell (i := 2) (Nat.lt_succ_self _) _).cell (i := 3) (Nat.lt_succ_self _) _).cell (i := 4) (Nat.lt_succ_self _) _).lower (Nat.le_succ _), (((((D8.set_ (p := ⟨w.heap.size, 0, none⟩) (Nat.le_refl _) _).set_ (p := ⟨w.heap.size, 1, none⟩) (Nat.le_refl _) _).set_ (p := ⟨w.heap.size, 2, none⟩) (Nat.le_refl _) _).set_ (p := ⟨w.heap.size, 3, none⟩) (Nat.le_refl _) _).set_ (p := ⟨w.heap.size, 4, none⟩) (Nat.le_refl _) _)⟩
    · have hq0 : (q == 0) = false := by rw [beq_eq_false_iff_ne]; exact hq
      go_upto_region 7 with fail
      go_wp2_with fail
      refine (l01Next_any L g 50 _ D9.src (by decide)).mono ?_
      rintro e w12 ⟨r, rfl, r0, r1, g12, S12⟩
      have D12 := D9.next g12 S12
      have K12 := K9.nx g12 (by omega)
      have B12 := B9.nx g12 hQg
      have G12 := G9.nx g12 (by omega)
      clear D9 K9 B9 G9 g12 S12
      by_cases hr : r = 0 ∨ r = 1 ∨ r = 2 ∨ r = 3
      case neg =>
        have e0 : (r == 0) = false := by rw [beq_eq_false_iff_ne]; omega
        have e1 : (r == 1) = false := by rw [beq_eq_false_iff_ne]; omega
        have e2 : (r == 2) = false := by rw [beq_eq_false_iff_ne]; omega
        have e3 : (r == 3) = false := by rw [beq_eq_false_iff_ne]; omega
        clear hr
        have cB := fun o => B12.cell o
        have fB := fun o => B12.frozen o
        have gB := B12.lt
        have cK := fun o => K12.cell o
        have fK := fun o => K12.frozen o
        have gK := K12.lt
        go_wp2
        refine bodyPost_ret (v := .agg #[.int .i64 l7.size, .int .i64 l7.wide, .int .i64 l7.high, .slice A3 n3 c3, .slice A4 n4 c4]) (by simp [results, Try.results103, go_sem, cK, gK]) rfl ?_
        exact ⟨⟨⟨A3, n3, c3⟩, ⟨A4, n4, c4⟩⟩, l7, rfl, (((((G12.cell (i := 0) (Nat.lt_succ_self _) _).cell (i := 1) (Nat.lt_succ_self _) _).cell (i := 2) (Nat.lt_succ_self _) _).cell (i := 3) (Nat.lt_succ_self _) _).cell (i := 4) (Nat.lt_succ_self _) _).lower (Nat.le_succ _), (((((D12.set_ (p := ⟨w.heap.size, 0, none⟩) (Nat.le_refl _) _).set_ (p := ⟨w.heap.size, 1, none⟩) (Nat.le_refl _) _).set_ (p := ⟨w.heap.size, 2, none⟩) (Nat.le_refl _) _).set_ (p := ⟨w.heap.size, 3, none⟩) (Nat.le_refl _) _).set_ (p := ⟨w.heap.size, 4, none⟩) (Nat.le_refl _) _)⟩
      rcases hr with rfl | rfl | rfl | rfl
      · go_wp2_with fail
        refine (pick_any L g [0, 10000, 10001] 3 _ D12.src rfl (by decide) (by decide)).mono ?_
        rintro e w13 ⟨p, -, rfl, g13, S13⟩
        have D13 := (D12.alloc _).next g13 S13
        have K13 := (K12.alloc _).nx g13 (by omega)
        have B13 := (B12.alloc _).nx g13 hQg
        have G13 := (G12.alloc _).nx g13 (by omega)
        clear D12 K12 B12 G12 g13 S13
        have X8 : GriW (w13.setCell ⟨Q, 0, none⟩ (.int .i64 p)) (w.heap.size + 1) ⟨⟨A3, n3, c3⟩, ⟨A4, n4, c4⟩⟩ ⟨p, l7.wide, l7.high, l7.counts, l7.depths⟩ := ⟨(G13.cellne hQ0 (.int .i64 p)).rd, (G13.cellne hQ0 (.int .i64 p)).wr, G13.sp, G13.le, G13.pos, G13.eq⟩
        have B8 : Blk (w13.setCell ⟨Q, 0, none⟩ (.int .i64 p)) Q 50 #[.int .i64 p, .int .i64 l7.wide, .int .i64 l7.high, .slice A3 n3 c3, .slice A4 n4 c4] := B13.set_ 0 (.int .i64 p)
        have K8 := K13.far (p := ⟨Q, 0, none⟩) hQ2 (.int .i64 p)
        have D8 := D13.set_ (p := ⟨Q, 0, none⟩) (by simp only; omega) (.int .i64 p)
        have cB7 := fun o => B13.cell o
        have fB7 := fun o => B13.frozen o
        have gB7 := B13.lt
        clear K13 D13 G13 B13
        go_upto_region 16 with fail
        generalize w13.setCell ⟨Q, 0, none⟩ (.int .i64 p) = w14 at X8 B8 K8 D8 ⊢
        clear cB7 fB7 gB7
        have cB := fun o => B8.cell o
        have fB := fun o => B8.frozen o
        have gB := B8.lt
        have cK := fun o => K8.cell o
        have fK := fun o => K8.frozen o
        have gK := K8.lt
        go_wp2
        refine bodyPost_ret (v := .agg #[.int .i64 p, .int .i64 l7.wide, .int .i64 l7.high, .slice A3 n3 c3, .slice A4 n4 c4]) (by simp [results, Try.results103, go_sem, cK, gK]) rfl ?_
        exact ⟨⟨⟨A3, n3, c3⟩, ⟨A4, n4, c4⟩⟩, ⟨p, l7.wide, l7.high, l7.counts, l7.depths⟩, rfl, (((((X8.cell (i := 0) (Nat.lt_succ_self _) _).cell (i := 1) (Nat.lt_succ_self _) _).cell (i := 2) (Nat.lt_succ_self _) _).cell (i := 3) (Nat.lt_succ_self _) _).cell (i := 4) (Nat.lt_succ_self _) _).lower (Nat.le_succ _), (((((D8.set_ (p := ⟨w.heap.size, 0, none⟩) (Nat.le_refl _) _).set_ (p := ⟨w.heap.size, 1, none⟩) (Nat.le_refl _) _).set_ (p := ⟨w.heap.size, 2, none⟩) (Nat.le_refl _) _).set_ (p := ⟨w.heap.size, 3, none⟩) (Nat.le_refl _) _).set_ (p := ⟨w.heap.size, 4, none⟩) (Nat.le_refl _) _)⟩
      · obtain ⟨a3, rfl, -⟩ := G12.rd.head.int (show 0 < n3 from G12.pos)
        have hp0 : 0 < n3 := G12.pos
        have hR : ∀ s ∈ DepthGridR ⟨⟨some a3, n3, c3⟩, ⟨A4, n4, c4⟩⟩, ∀ b, s = some b → w.heap.size + 1 ≤ b := fun s hs b e => G12.wr.hi s hs b e
        have ha3 : w.heap.size + 1 ≤ a3.block := hR _ (List.mem_cons_self ..) _ (by unfold blkp; rw [if_neg (by simp only; omega)]; rfl)
        have hq3 : a3.block ≠ Q := fun c => hQ0 _ (List.mem_cons_self ..) (by unfold blkp; rw [if_neg (by simp only; omega), ← c]; rfl)
        have kA : ∀ (W : World) (u : Value) (o : Nat), (W.setCell a3 u).cell? ⟨Q, o, none⟩ = W.cell? ⟨Q, o, none⟩ := fun W u o => set_farG hq3
        have kC : ∀ (W : World) (u : Value) (o : Nat), (W.setCell a3 u).cell? ⟨w.heap.size, o, none⟩ = W.cell? ⟨w.heap.size, o, none⟩ := fun W u o => set_farG (by simp only; omega)
        have hnI : (0 : Int) < (n3 : Int) := by omega
        go_wp2_with fail
        have hS6 := fun o => (Blk.drew B12).cell o
        have hP6 := pick_drew L g [-2, 0, 1, 1000000000000, 1000000000001] 5 w12 D12.src rfl (by decide) (by decide)
        have D6 := (D12.alloc (.cells #[.int .i64 (-2), .int .i64 0, .int .i64 1, .int .i64 1000000000000, .int .i64 1000000000001] 2)).drew
        have K6 := Blk.drew (K12.alloc (.cells #[.int .i64 (-2), .int .i64 0, .int .i64 1, .int .i64 1000000000000, .int .i64 1000000000001] 2))
        have B6 := Blk.drew (B12.alloc (.cells #[.int .i64 (-2), .int .i64 0, .int .i64 1, .int .i64 1000000000000, .int .i64 1000000000001] 2))
        have X6 := (G12.alloc (.cells #[.int .i64 (-2), .int .i64 0, .int .i64 1, .int .i64 1000000000000, .int .i64 1000000000001] 2)).bel (Below.drew (Below.refl _ _))
        have hT6 := fun o => B6.cell o
        clear D12 K12 B12 G12
        go_region_held3 (fun w' => ∀ o, w'.cell? ⟨Q, o, none⟩ = (#[.int .i64 l7.size, .int .i64 l7.wide, .int .i64 l7.high, .slice (some a3) n3 c3, .slice A4 n4 c4] : Array Value)[o]?)
          (first | (with_reducible assumption) | (intro o; go_keep))
          (first
            | (go_at_call 97; refine hP6.mono ?_; rintro e w17 ⟨v, -, rfl, g7, S7⟩; have D7 := D6.next g7 S7; have K7 := K6.nx g7 (by omega); have B7 := B6.nx g7 hQg; have X7 := X6.nx g7 (by omega); have hS7 := fun o => B7.cell o; obtain ⟨_, ⟨⟩, hc3⟩ := X7.rd.head.int hp0; obtain ⟨_, ⟨⟩, -, hf3⟩ := X7.wr.head hp0; have hf3 := hf3 0 hp0; rw [Addr.add_zero'] at hc3 hf3))
        all_goals
          have X8 := X7.set_c (ad := a3) rfl v
          have B8 := B7.far (p := a3) hq3.symm (.int .i64 v)
          have K8 := K7.far (p := a3) (by omega) (.int .i64 v)
          have D8 := D7.set_ (p := a3) (by omega) (.int .i64 v)
          clear D6 K6 B6 X6 hS6 hT6 hP6 D7 K7 B7 X7 hS7 hc3 hf3 S7 g7 kA kC
          generalize w17.setCell a3 (.int .i64 v) = w18 at X8 B8 K8 D8 ⊢
          have cB := fun o => B8.cell o
          have fB := fun o => B8.frozen o
          have gB := B8.lt
          have cK := fun o => K8.cell o
          have fK := fun o => K8.frozen o
          have gK := K8.lt
          go_wp2
          refine bodyPost_ret (v := .agg #[.int .i64 l7.size, .int .i64 l7.wide, .int .i64 l7.high, .slice (some a3) n3 c3, .slice A4 n4 c4]) (by simp [results, Try.results103, go_sem, cK, gK]) rfl ?_
          exact ⟨⟨⟨some a3, n3, c3⟩, ⟨A4, n4, c4⟩⟩, ⟨l7.size, l7.wide, l7.high, l7.counts.set 0 v, l7.depths⟩, rfl, (((((X8.cell (i := 0) (Nat.lt_succ_self _) _).cell (i := 1) (Nat.lt_succ_self _) _).cell (i := 2) (Nat.lt_succ_self _) _).cell (i := 3) (Nat.lt_succ_self _) _).cell (i := 4) (Nat.lt_succ_self _) _).lower (Nat.le_succ _), (((((D8.set_ (p := ⟨w.heap.size, 0, none⟩) (Nat.le_refl _) _).set_ (p := ⟨w.heap.size, 1, none⟩) (Nat.le_refl _) _).set_ (p := ⟨w.heap.size, 2, none⟩) (Nat.le_refl _) _).set_ (p := ⟨w.heap.size, 3, none⟩) (Nat.le_refl _) _).set_ (p := ⟨w.heap.size, 4, none⟩) (Nat.le_refl _) _)⟩
      · have hp0 : 0 < n4 := by have h1 := G12.pos; have h2 := G12.eq; simp only at h1 h2; omega
        have r4 : Rd w12 A4 (n4 * 2) (ints l7.depths) := G12.rd.tail.head
        obtain ⟨a4, rfl, -, -⟩ := r4.two hp0
        have hm4 : blkp (some a4) (n4 * 2) = some a4.block := by unfold blkp; rw [if_neg (by omega)]; rfl
        have ha4 : w.heap.size + 1 ≤ a4.block := G12.wr.hi _ (List.mem_cons_of_mem _ (List.mem_cons_self ..)) a4.block hm4
        have hq4 : a4.block ≠ Q := fun c => hQ0 _ (List.mem_cons_of_mem _ (List.mem_cons_self ..)) (by rw [← c]; exact hm4)
        have kE : ∀ (W : World) (u : Value), (W.setCell a4 u).cell? ⟨a4.block, a4.off + 1, none⟩ = W.cell? ⟨a4.block, a4.off + 1, none⟩ := fun W u => World.cell?_setCell_other _ _ _ _ (fun e => by have e2 := congrArg Addr.off e; first | omega | (simp only at e2; omega))
        have hnI : (0 : Int) < (n4 : Int) := by omega
        clear r4 hm4
        go_wp2_with fail
        have hz12 := D12.size
        have hS6 := fun o => (Blk.drew B12).cell o
        have hP6 : Calls Try.prog 97 #[.pointer (some ⟨g, 0, none⟩), .slice (some ⟨w12.heap.size, 0, none⟩) 3 3] (w12.alloc (.cells #[.int .i64 5, .int .i64 0, .int .i64 (-3)] 2)).drew (PickPost L g [5, 0, -3] (w12.alloc (.cells #[.int .i64 5, .int .i64 0, .int .i64 (-3)] 2)).drew) := pick_drew L g [5, 0, -3] 3 w12 D12.src rfl (by decide) (by decide)
        have D6 := (D12.alloc (.cells #[.int .i64 5, .int .i64 0, .int .i64 (-3)] 2)).drew
        have K6 := Blk.drew (K12.alloc (.cells #[.int .i64 5, .int .i64 0, .int .i64 (-3)] 2))
        have B6 := Blk.drew (B12.alloc (.cells #[.int .i64 5, .int .i64 0, .int .i64 (-3)] 2))
        have X6 := (G12.alloc (.cells #[.int .i64 5, .int .i64 0, .int .i64 (-3)] 2)).bel (Below.drew (Below.refl _ _))
        have hT6 := fun o => B6.cell o
        have Db := ((D12.alloc (.cells #[.int .i64 5, .int .i64 0, .int .i64 (-3)] 2)).alloc (.cells #[.int .i64 1, .int .i64 9] 2)).drew
        have Kb := Blk.drew ((K12.alloc (.cells #[.int .i64 5, .int .i64 0, .int .i64 (-3)] 2)).alloc (.cells #[.int .i64 1, .int .i64 9] 2))
        have Bb := Blk.drew ((B12.alloc (.cells #[.int .i64 5, .int .i64 0, .int .i64 (-3)] 2)).alloc (.cells #[.int .i64 1, .int .i64 9] 2))
        have Xb := ((G12.alloc (.cells #[.int .i64 5, .int .i64 0, .int .i64 (-3)] 2)).alloc (.cells #[.int .i64 1, .int .i64 9] 2)).bel (Below.drew (Below.refl _ _))
        have hTb := fun o => Bb.cell o
        have RAb : Rd ((w12.alloc (.cells #[.int .i64 5, .int .i64 0, .int .i64 (-3)] 2)).alloc (.cells #[.int .i64 1, .int .i64 9] 2)).drew (some ⟨w12.heap.size, 0, none⟩) 3 (ints [5, 0, -3]) := ((rd_lit w12 [5, 0, -3] 2 3 rfl).below ((Below.refl _ _).alloc (Nat.le_refl _) _)).below (Below.drew (Below.refl _ _))
        have RBb : Rd ((w12.alloc (.cells #[.int .i64 5, .int .i64 0, .int .i64 (-3)] 2)).alloc (.cells #[.int .i64 1, .int .i64 9] 2)).drew (some ⟨w12.heap.size + 1, 0, none⟩) 2 (ints [1, 9]) := by
          have h := rd_lit (w12.alloc (.cells #[.int .i64 5, .int .i64 0, .int .i64 (-3)] 2)) [1, 9] 2 2 rfl
          rw [size_alloc1] at h
          exact h.below (Below.drew (Below.refl _ _))
        have hPb : Calls Try.prog 97 #[.pointer (some ⟨g, 0, none⟩), .slice (some ⟨w12.heap.size, 0, none⟩) 3 3] ((w12.alloc (.cells #[.int .i64 5, .int .i64 0, .int .i64 (-3)] 2)).alloc (.cells #[.int .i64 1, .int .i64 9] 2)).drew (PickPost L g [5, 0, -3] ((w12.alloc (.cells #[.int .i64 5, .int .i64 0, .int .i64 (-3)] 2)).alloc (.cells #[.int .i64 1, .int .i64 9] 2)).drew) := l01Pick_any L g _ 3 3 _ _ Db.src RAb (by decide) (by decide) (fun ad e => by cases e; simp only; omega)
        have Bv := Blk.drew (B12.alloc (.cells #[.int .i64 1, .int .i64 9] 2))
        have hTv := fun o => Bv.cell o
        have Dc := ((D12.alloc (.cells #[.int .i64 1, .int .i64 9] 2)).alloc (.cells #[.int .i64 5, .int .i64 0, .int .i64 (-3)] 2)).drew
        have Kc := Blk.drew ((K12.alloc (.cells #[.int .i64 1, .int .i64 9] 2)).alloc (.cells #[.int .i64 5, .int .i64 0, .int .i64 (-3)] 2))
        have Bc := Blk.drew ((B12.alloc (.cells #[.int .i64 1, .int .i64 9] 2)).alloc (.cells #[.int .i64 5, .int .i64 0, .int .i64 (-3)] 2))
        have Xc := ((G12.alloc (.cells #[.int .i64 1, .int .i64 9] 2)).alloc (.cells #[.int .i64 5, .int .i64 0, .int .i64 (-3)] 2)).bel (Below.drew (Below.refl _ _))
        have hTc := fun o => Bc.cell o
        have RBc : Rd ((w12.alloc (.cells #[.int .i64 1, .int .i64 9] 2)).alloc (.cells #[.int .i64 5, .int .i64 0, .int .i64 (-3)] 2)).drew (some ⟨w12.heap.size, 0, none⟩) 2 (ints [1, 9]) := ((rd_lit w12 [1, 9] 2 2 rfl).below ((Below.refl _ _).alloc (Nat.le_refl _) _)).below (Below.drew (Below.refl _ _))
        have RAc : Rd ((w12.alloc (.cells #[.int .i64 1, .int .i64 9] 2)).alloc (.cells #[.int .i64 5, .int .i64 0, .int .i64 (-3)] 2)).drew (some ⟨w12.heap.size + 1, 0, none⟩) 3 (ints [5, 0, -3]) := by
          have h := rd_lit (w12.alloc (.cells #[.int .i64 1, .int .i64 9] 2)) [5, 0, -3] 2 3 rfl
          rw [size_alloc1] at h
          exact h.below (Below.drew (Below.refl _ _))
        have hPc : Calls Try.prog 97 #[.pointer (some ⟨g, 0, none⟩), .slice (some ⟨w12.heap.size + 1, 0, none⟩) 3 3] ((w12.alloc (.cells #[.int .i64 1, .int .i64 9] 2)).alloc (.cells #[.int .i64 5, .int .i64 0, .int .i64 (-3)] 2)).drew (PickPost L g [5, 0, -3] ((w12.alloc (.cells #[.int .i64 1, .int .i64 9] 2)).alloc (.cells #[.int .i64 5, .int .i64 0, .int .i64 (-3)] 2)).drew) := l01Pick_any L g _ 3 3 _ _ Dc.src RAc (by decide) (by decide) (fun ad e => by cases e; simp only; omega)
        clear D12 K12 B12 G12 RAb RAc Bv
        go_region_held3 (fun w' => ∀ o, w'.cell? ⟨Q, o, none⟩ = (#[.int .i64 l7.size, .int .i64 l7.wide, .int .i64 l7.high, .slice A3 n3 c3, .slice (some a4) n4 c4] : Array Value)[o]?)
          (first | (with_reducible assumption) | (intro o; go_keep))
          (first
            | (go_at_call 97; (with_reducible refine hP6.mono ?_); rintro e w17 ⟨u, -, rfl, g7, S7⟩; have D7 := (D6.next g7 S7); have K7 := K6.nx g7 (by omega); have B7 := B6.nx g7 hQg; have X7 := X6.nx g7 (by omega); have hP7 : Calls Try.prog 97 #[.pointer (some ⟨g, 0, none⟩), .slice (some ⟨w17.heap.size, 0, none⟩) 2 2] (w17.alloc (.cells #[.int .i64 1, .int .i64 9] 2)) (PickPost L g [1, 9] (w17.alloc (.cells #[.int .i64 1, .int .i64 9] 2))) := pick_any L g [1, 9] 2 w17 D7.src rfl (by decide) (by decide); have D7 := D7.alloc (.cells #[.int .i64 1, .int .i64 9] 2); have K7 := K7.alloc (.cells #[.int .i64 1, .int .i64 9] 2); have hS7 := fun o => B7.cell o; have B7 := B7.alloc (.cells #[.int .i64 1, .int .i64 9] 2); have X7 := X7.alloc (.cells #[.int .i64 1, .int .i64 9] 2); have hT7 := fun o => B7.cell o)
            | (go_at_call 97; (with_reducible refine hPb.mono ?_); rintro e w17 ⟨u, -, rfl, g7, S7⟩; have D7 := (Db.next g7 S7); have K7 := Kb.nx g7 (by omega); have B7 := Bb.nx g7 hQg; have X7 := Xb.nx g7 (by omega); have hP7 : Calls Try.prog 97 #[.pointer (some ⟨g, 0, none⟩), .slice (some ⟨w12.heap.size + 1, 0, none⟩) 2 2] w17 (PickPost L g [1, 9] w17) := l01Pick_any L g _ 2 2 _ _ D7.src (RBb.grown g7 (fun ad e _ c => by cases e; injection c with c; simp only at c; omega)) (by decide) (by decide) (fun ad e => by cases e; simp only; omega); have hS7 := fun o => B7.cell o)
            | (go_at_call 97; (with_reducible refine hPc.mono ?_); rintro e w17 ⟨u, -, rfl, g7, S7⟩; have D7 := (Dc.next g7 S7); have K7 := Kc.nx g7 (by omega); have B7 := Bc.nx g7 hQg; have X7 := Xc.nx g7 (by omega); have hP7 : Calls Try.prog 97 #[.pointer (some ⟨g, 0, none⟩), .slice (some ⟨w12.heap.size, 0, none⟩) 2 2] w17 (PickPost L g [1, 9] w17) := l01Pick_any L g _ 2 2 _ _ D7.src (RBc.grown g7 (fun ad e _ c => by cases e; injection c with c; simp only at c; omega)) (by decide) (by decide) (fun ad e => by cases e; simp only; omega); have hS7 := fun o => B7.cell o)
            | (go_at_call 97; (with_reducible refine hP7.mono ?_); rintro e w18 ⟨v, -, rfl, g8, S8⟩; have D8 := D7.next g8 S8; have K8 := K7.nx g8 (by omega); have B8 := B7.nx g8 hQg; have X8 := X7.nx g8 (by omega); have hS8 := fun o => B8.cell o; have r8 : Rd w18 (some a4) (n4 * 2) (ints l7.depths) := X8.rd.tail.head; have y8 : Wr w18 (w.heap.size + 1) (some a4) (n4 * 2) := X8.wr.tail.head; obtain ⟨_, ⟨⟩, hc3, hc4⟩ := r8.two hp0; obtain ⟨_, ⟨⟩, -, hf3⟩ := y8 (by omega); have hf4 := hf3 1 (by omega); have hf3 := hf3 0 (by omega); rw [Nat.zero_mul, Addr.add_zero'] at hc3 hc4; rw [Addr.add_zero'] at hf3; rw [field_add _ 1 (by decide)] at hf4))
        all_goals
          have X9 := X8.set_d (ad := a4) rfl u v
          have B9 : Blk ((w18.setCell a4 (.int .i64 u)).setCell ⟨a4.block, a4.off + 1, none⟩ (.int .i64 v)) Q _ _ := (B8.far (p := a4) hq4.symm (.int .i64 u)).far (p := ⟨a4.block, a4.off + 1, none⟩) hq4.symm (.int .i64 v)
          have K9 : Blk ((w18.setCell a4 (.int .i64 u)).setCell ⟨a4.block, a4.off + 1, none⟩ (.int .i64 v)) _ _ _ := (K8.far (p := a4) (by omega) (.int .i64 u)).far (p := ⟨a4.block, a4.off + 1, none⟩) (by simp only; omega) (.int .i64 v)
          have D9 : Dr w ((w18.setCell a4 (.int .i64 u)).setCell ⟨a4.block, a4.off + 1, none⟩ (.int .i64 v)) L g := (D8.set_ (p := a4) (by omega) (.int .i64 u)).set_ (p := ⟨a4.block, a4.off + 1, none⟩) (by simp only; omega) (.int .i64 v)
          clear D6 K6 B6 X6 hS6 hT6 hP6 Db Kb Bb Xb hTb hPb RBb Dc Kc Bc Xc hTc hPc RBc hTv D7 K7 B7 X7 D8 K8 B8 X8 hS8 r8 y8 hc3 hc4 hf3 hf4 kE
          generalize (w18.setCell a4 (.int .i64 u)).setCell ⟨a4.block, a4.off + 1, none⟩ (.int .i64 v) = w19 at X9 B9 K9 D9 ⊢
          have cB := fun o => B9.cell o
          have fB := fun o => B9.frozen o
          have gB := B9.lt
          have cK := fun o => K9.cell o
          have fK := fun o => K9.frozen o
          have gK := K9.lt
          go_wp2
          refine bodyPost_ret (v := .agg #[.int .i64 l7.size, .int .i64 l7.wide, .int .i64 l7.high, .slice A3 n3 c3, .slice (some a4) n4 c4]) (by simp [results, Try.results103, go_sem, cK, gK]) rfl ?_
          exact ⟨⟨⟨A3, n3, c3⟩, ⟨some a4, n4, c4⟩⟩, ⟨l7.size, l7.wide, l7.high, l7.counts, (l7.depths.set 0 u).set 1 v⟩, rfl, (((((X9.cell (i := 0) (Nat.lt_succ_self _) _).cell (i := 1) (Nat.lt_succ_self _) _).cell (i := 2) (Nat.lt_succ_self _) _).cell (i := 3) (Nat.lt_succ_self _) _).cell (i := 4) (Nat.lt_succ_self _) _).lower (Nat.le_succ _), (((((D9.set_ (p := ⟨w.heap.size, 0, none⟩) (Nat.le_refl _) _).set_ (p := ⟨w.heap.size, 1, none⟩) (Nat.le_refl _) _).set_ (p := ⟨w.heap.size, 2, none⟩) (Nat.le_refl _) _).set_ (p := ⟨w.heap.size, 3, none⟩) (Nat.le_refl _) _).set_ (p := ⟨w.heap.size, 4, none⟩) (Nat.le_refl _) _)⟩
      · obtain ⟨p, hp⟩ : ∃ p : Int, IntKind.i64.wrap (l7.high + 1) = p := ⟨_, rfl⟩
        have X8 : GriW (w12.setCell ⟨Q, 2, none⟩ (.int .i64 p)) (w.heap.size + 1) ⟨⟨A3, n3, c3⟩, ⟨A4, n4, c4⟩⟩ ⟨l7.size, l7.wide, p, l7.counts, l7.depths⟩ := ⟨(G12.cellne hQ0 (.int .i64 p)).rd, (G12.cellne hQ0 (.int .i64 p)).wr, G12.sp, G12.le, G12.pos, G12.eq⟩
        have B8 : Blk (w12.setCell ⟨Q, 2, none⟩ (.int .i64 p)) Q 50 #[.int .i64 l7.size, .int .i64 l7.wide, .int .i64 p, .slice A3 n3 c3, .slice A4 n4 c4] := B12.set_ 2 (.int .i64 p)
        have K8 := K12.far (p := ⟨Q, 2, none⟩) hQ2 (.int .i64 p)
        have D8 := D12.set_ (p := ⟨Q, 2, none⟩) (by simp only; omega) (.int .i64 p)
        have cB7 := fun o => B12.cell o
        have fB7 := fun o => B12.frozen o
        have gB7 := B12.lt
        clear K12 D12 G12 B12
        go_upto_region 16 with fail
        generalize w12.setCell ⟨Q, 2, none⟩ (.int .i64 p) = w14 at X8 B8 K8 D8 ⊢
        clear cB7 fB7 gB7
        have cB := fun o => B8.cell o
        have fB := fun o => B8.frozen o
        have gB := B8.lt
        have cK := fun o => K8.cell o
        have fK := fun o => K8.frozen o
        have gK := K8.lt
        go_wp2
        refine bodyPost_ret (v := .agg #[.int .i64 l7.size, .int .i64 l7.wide, .int .i64 p, .slice A3 n3 c3, .slice A4 n4 c4]) (by simp [results, Try.results103, go_sem, cK, gK]) rfl ?_
        exact ⟨⟨⟨A3, n3, c3⟩, ⟨A4, n4, c4⟩⟩, ⟨l7.size, l7.wide, p, l7.counts, l7.depths⟩, rfl, (((((X8.cell (i := 0) (Nat.lt_succ_self _) _).cell (i := 1) (Nat.lt_succ_self _) _).cell (i := 2) (Nat.lt_succ_self _) _).cell (i := 3) (Nat.lt_succ_self _) _).cell (i := 4) (Nat.lt_succ_self _) _).lower (Nat.le_succ _), (((((D8.set_ (p := ⟨w.heap.size, 0, none⟩) (Nat.le_refl _) _).set_ (p := ⟨w.heap.size, 1, none⟩) (Nat.le_refl _) _).set_ (p := ⟨w.heap.size, 2, none⟩) (Nat.le_refl _) _).set_ (p := ⟨w.heap.size, 3, none⟩) (Nat.le_refl _) _).set_ (p := ⟨w.heap.size, 4, none⟩) (Nat.le_refl _) _)⟩

end Go.Proofs.Ythmcnoloeeabbaa
