/- A drawn list of soundings. Existential: at most 201 soundings. -/
import Derived.Test.YthmcnoloeeabbaaDrO
import Derived.Test.YthmcnoloeeabbaaSoundingS
namespace Go.Proofs.Ythmcnoloeeabbaa
open Go.RowKit
theorem Own.farsD {w : World} {B K : Nat} {h : Hd} {us : List Value} (o : Own w B K h us) {p : Addr} (hr : h.row ≠ some p.block) (u : Value) : Own (w.setCell p u) B K h us :=
  o.keep (by simp) fun b e => Below.heap_setCell w p u b (fun c => hr (by rw [e, c]))
theorem rd_fourA (w : World) (a b c d : Int) (t : TypeId) : Rd (w.alloc (.cells #[.int .i64 a, .int .i64 b, .int .i64 c, .int .i64 d] t)) (some ⟨w.heap.size, 0, none⟩) (1 * 4) (ints [a, b, c, d]) := by
  refine ⟨rfl, fun _ => ⟨_, rfl, fun i hi => ?_⟩⟩
  rw [add_lit, (Blk.new w t #[.int .i64 a, .int .i64 b, .int .i64 c, .int .i64 d]).cell]
  simp [ints]
theorem Sounding_zero : (Try.prog.info? 129).map (fun i => (i.zero.map (·.cells), i.size, i.bytes)) = some (some #[.int .i64 0, .int .i64 0, .int .i64 0, .int .i64 0], 4, 32) := by kernel_rfl
theorem run_make_SouZ (n : Nat) (hn : n ≤ 1048576) (W : World) :
    (Instr.makeSlice 75 (.int .i64 (n : Int)) (.int .i64 (n : Int))).run Try.prog W = .ok (.slice (some ⟨W.heap.size, 0, none⟩) n n) (W.alloc (.cells (madeCells #[.int .i64 0, .int .i64 0, .int .i64 0, .int .i64 0] (n * 4)) 129)) := by
  have h := Sounding_zero
  cases hi : Try.prog.info? 129 with
  | none => rw [hi] at h; simp at h
  | some i =>
    rw [hi] at h
    simp only [Option.map_some, Option.some.injEq, Prod.mk.injEq] at h
    obtain ⟨hz, hs, hb⟩ := h
    cases hz0 : i.zero with
    | none => rw [hz0] at hz; simp at hz
    | some z =>
      have hr := run_make_rowN (P := Try.prog) 75 129 i z Try.underlying75 hi hz0 .i64 .i64 n n (Nat.le_refl _) (by rw [hb]; omega) (by omega) W
      rw [hz0] at hz
      simp only [Option.map_some, Option.some.injEq] at hz
      rw [hs, hz] at hr
      exact hr
theorem made_zero4 (n i : Nat) (hi : i < n * 4) : (madeCells #[.int .i64 0, .int .i64 0, .int .i64 0, .int .i64 0] (n * 4))[i]? = some (.int .i64 0) := by
  unfold madeCells
  have h : i % 4 = 0 ∨ i % 4 = 1 ∨ i % 4 = 2 ∨ i % 4 = 3 := by omega
  rcases h with h | h | h | h <;> simp [hi, h]

def DrawnSnds (w : World) (L g : Nat) (e : Ending) (w' : World) : Prop :=
  ∃ (h : Hd) (xs : List Int), e = .returned (.slice h.A h.n h.c) ∧ h.n ≤ 201 ∧ h.n ≤ h.c ∧ Rd w' h.A (h.n * 4) (ints xs) ∧ (∀ ad, h.A = some ad → 0 < h.n * 4 → w.heap.size ≤ ad.block) ∧ Dr w w' L g
set_option maxRecDepth 100000 in
set_option maxHeartbeats 4000000 in
theorem l21Draw_any (L g : Nat) (w : World) (S : Src w L g) :
    Calls Try.prog 104 #[.pointer (some ⟨g, 0, none⟩)] w (DrawnSnds w L g) := by
  have D0 := (Dr.start S).alloc (.cells #[] 129)
  have gS := S.lt
  have O0 : Own (w.alloc (.cells #[] 129)) w.heap.size 4 ⟨some ⟨w.heap.size, 0, none⟩, 0, 0⟩ (ints []) := Own.empty _ _ _ _
  go_enter Try.func104, Try.ntmps104
  go_wp2_with fail
  generalize w.alloc (.cells #[] 129) = w0 at D0 O0 ⊢
  refine (l01Next_any L g 12 _ D0.src (by decide)).mono ?_
  rintro e w1 ⟨m, rfl, m0, m1, g1, S1⟩
  have D1 := D0.next g1 S1
  have O1 := O0.nx g1 gS.1
  clear D0 O0 g1 S1
  go_wp2_with fail
  go_loopw [3, 4] (fun v3 v4 wr => ∃ (v : Int) (h : Hd) (xs : List Int), 0 ≤ v ∧ v ≤ 11 ∧ v4 = .int .i64 v ∧ v3 = .slice h.A h.n h.c ∧ (h.n : Int) + v ≤ 11 ∧ Own wr w.heap.size 4 h (ints xs) ∧ Dr w wr L g)
    (fun _ v4 _ => (intOf v4).toNat)
  case atStart => exact ⟨m, ⟨some ⟨w.heap.size, 0, none⟩, 0, 0⟩, [], m0, by omega, rfl, rfl, by simp only; omega, O1, D1⟩
  case round =>
    obtain ⟨v, ⟨HA, hN, hC⟩, xs, hv0, hv1, rfl, rfl, hNv, o, D⟩ := hrel
    simp only at hNv
    clear D1 O1
    by_cases hv : 0 < v
    · have hwv : IntKind.i64.wrap (v - 1) = v - 1 := IntWalk.i64_in _ (by omega)
      go_wp2_with fail
      refine (l21DrawOne_any L g _ D.src).mono ?_
      rintro e w4 ⟨x, y, d, r, rfl, E4⟩
      have D4 := D.next E4.gr E4.src
      have o4 := o.nx E4.gr gS.1
      clear D o E4
      go_upto_region 6 with fail
      have B5 := Blk.new w4 129 #[.int .i64 x, .int .i64 y, .int .i64 d, .int .i64 r]
      have D5 := D4.alloc (.cells #[.int .i64 x, .int .i64 y, .int .i64 d, .int .i64 r] 129)
      have o5 := o4.below ((Below.refl _ _).alloc (Nat.le_refl _) (.cells #[.int .i64 x, .int .i64 y, .int .i64 d, .int .i64 r] 129))
      have hz4 : w.heap.size ≤ w4.heap.size := D4.size
      have hzg : g < w4.heap.size := D4.src.lt.1
      have hor : ∀ b, (⟨HA, hN, hC⟩ : Hd).row = some b → b < w4.heap.size := fun b e => (o4.rowlt b e).2
      clear D4 o4
      generalize w4.alloc (.cells #[.int .i64 x, .int .i64 y, .int .i64 d, .int .i64 r] 129) = w5 at B5 D5 o5 ⊢
      generalize w4.heap.size = Q at B5 hz4 hzg hor ⊢
      have c5 := fun o => B5.cell o
      have q5 := B5.lt
      go_wp2_with fail
      refine (l21Is_any x y d r _).mono ?_
      rintro e w6 ⟨rfl, rfl⟩
      have b6 : Below w5.heap.size w5 (w5.alloc (.cells (souV x y d r) 129)) := (Below.refl _ _).alloc (Nat.le_refl _) _
      have D6 := D5.bel b6
      have o6 := o5.below b6
      have B6 := B5.below b6 q5
      clear D5 o5 B5 b6 c5 q5
      generalize w5.alloc (.cells (souV x y d r) 129) = w6 at D6 o6 B6 ⊢
      cases souB x y d r
      · have c6 := fun o => B6.cell o
        have f6 := fun o => B6.frozen o
        have q6 := B6.lt
        go_wp2_with fail
        refine (l01Next_any L g 4 _ D6.src (by decide)).mono ?_
        rintro e w7 ⟨z, rfl, z0, z1, g7, S7⟩
        have D7 := D6.next g7 S7
        have o7 := o6.nx g7 gS.1
        have B7 := B6.nx g7 (by omega)
        clear D6 o6 B6 g7 S7 c6 f6 q6
        by_cases hz : 0 < z
        · have c8 := fun o => B7.cell o
          have f8 := fun o => B7.frozen o
          have q8 := B7.lt
          go_upto_region 8 with fail
          have B9 := (((B7.set_ 0 (.int .i64 5)).set_ 1 (.int .i64 5)).set_ 2 (.int .i64 900)).set_ 3 (.int .i64 0)
          have D9 := (((D7.set_ (p := ⟨Q, 0, none⟩) hz4 (.int .i64 5)).set_ (p := ⟨Q, 1, none⟩) hz4 (.int .i64 5)).set_ (p := ⟨Q, 2, none⟩) hz4 (.int .i64 900)).set_ (p := ⟨Q, 3, none⟩) hz4 (.int .i64 0)
          have hfar : ∀ (W : World) (i : Nat) (u : Value), Own W w.heap.size 4 ⟨HA, hN, hC⟩ (ints xs) → Own (W.setCell ⟨Q, i, none⟩ u) w.heap.size 4 ⟨HA, hN, hC⟩ (ints xs) := fun W i u o => o.farsD (fun e => by have := hor _ e; simp only at this; omega) u
          have o9 := hfar _ 3 (.int .i64 0) (hfar _ 2 (.int .i64 900) (hfar _ 1 (.int .i64 5) (hfar _ 0 (.int .i64 5) o7)))
          have B9' : Blk _ Q 129 #[.int .i64 5, .int .i64 5, .int .i64 900, .int .i64 0] := B9
          clear B9 B7 D7 o7 c8 f8 q8 hfar
          generalize (((w7.setCell ⟨Q, 0, none⟩ (.int .i64 5)).setCell ⟨Q, 1, none⟩ (.int .i64 5)).setCell ⟨Q, 2, none⟩ (.int .i64 900)).setCell ⟨Q, 3, none⟩ (.int .i64 0) = w9 at B9' D9 o9 ⊢
          have bz : Below w9.heap.size w9 (w9.alloc (.cells #[.int .i64 5, .int .i64 5, .int .i64 900, .int .i64 0] 129)) := (Below.refl _ _).alloc (Nat.le_refl _) _
          have oz := o9.below bz
          have RE := rd_fourA w9 5 5 900 0 129
          have Dz := D9.alloc (.cells #[.int .i64 5, .int .i64 5, .int .i64 900, .int .i64 0] 129)
          have hBz := Dz.size
          have h63 : hN + 1 ≤ 1099511627776 := by omega
          have cB := fun o => B9'.cell o
          have hrow : ∀ b, (⟨HA, hN, hC⟩ : Hd).row = some b → w.heap.size ≤ b := fun b e => (oz.rowlt b e).1
          go_wp2_with (at_builtin; refine wpList_append_Own rfl _ _ 75 rfl 129 4 32 Try.underlying75 Sounding_info (by decide) w.heap.size ⟨HA, hN, hC⟩ _ rfl oz _ 1 1 (ints [5, 5, 900, 0]) rfl RE (oneCell_ints _) h63 (by decide) hBz ?_; intro G wg hGn HG gg hat)
          have HGN := Lib.hid hGn
          have hGI : (G.n : Int) = (hN : Int) + 1 := by rw [hGn]; rfl
          have HGI := Lib.hid hGI
          clear hGn hat hGI
          go_roundw
          case rel => exact ⟨v - 1, G, xs ++ [5, 5, 900, 0], by omega, by omega, by first | rfl | go_num, by first | rfl | rw [HGN.out], by have := HGI.out; omega, by rw [ints_append]; exact HG, Dz.grown gg hrow⟩
          case measure => simp [intOf]; omega
        · have hz' : (z > 0) = False := by simpa using hz
          have bz : Below w7.heap.size w7 (w7.alloc (.cells #[.int .i64 x, .int .i64 y, .int .i64 d, .int .i64 r] 129)) := (Below.refl _ _).alloc (Nat.le_refl _) _
          have oz := o7.below bz
          have RE := rd_fourA w7 x y d r 129
          have Dz := D7.alloc (.cells #[.int .i64 x, .int .i64 y, .int .i64 d, .int .i64 r] 129)
          have hBz := Dz.size
          have h63 : hN + 1 ≤ 1099511627776 := by omega
          have cB := fun o => B7.cell o
          have hrow : ∀ b, (⟨HA, hN, hC⟩ : Hd).row = some b → w.heap.size ≤ b := fun b e => (oz.rowlt b e).1
          go_wp2_with (at_builtin; refine wpList_append_Own rfl _ _ 75 rfl 129 4 32 Try.underlying75 Sounding_info (by decide) w.heap.size ⟨HA, hN, hC⟩ _ rfl oz _ 1 1 (ints [x, y, d, r]) rfl RE (oneCell_ints _) h63 (by decide) hBz ?_; intro G wg hGn HG gg hat)
          have HGN := Lib.hid hGn
          have hGI : (G.n : Int) = (hN : Int) + 1 := by rw [hGn]; rfl
          have HGI := Lib.hid hGI
          clear hGn hat hGI
          go_roundw
          case rel => exact ⟨v - 1, G, xs ++ [x, y, d, r], by omega, by omega, by first | rfl | go_num, by first | rfl | rw [HGN.out], by have := HGI.out; omega, by rw [ints_append]; exact HG, Dz.grown gg hrow⟩
          case measure => simp [intOf]; omega
      · skip
        have bz : Below w6.heap.size w6 (w6.alloc (.cells #[.int .i64 x, .int .i64 y, .int .i64 d, .int .i64 r] 129)) := (Below.refl _ _).alloc (Nat.le_refl _) _
        have oz := o6.below bz
        have RE := rd_fourA w6 x y d r 129
        have Dz := D6.alloc (.cells #[.int .i64 x, .int .i64 y, .int .i64 d, .int .i64 r] 129)
        have hBz := Dz.size
        have h63 : hN + 1 ≤ 1099511627776 := by omega
        have cB := fun o => B6.cell o
        have hrow : ∀ b, (⟨HA, hN, hC⟩ : Hd).row = some b → w.heap.size ≤ b := fun b e => (oz.rowlt b e).1
        go_wp2_with (at_builtin; refine wpList_append_Own rfl _ _ 75 rfl 129 4 32 Try.underlying75 Sounding_info (by decide) w.heap.size ⟨HA, hN, hC⟩ _ rfl oz _ 1 1 (ints [x, y, d, r]) rfl RE (oneCell_ints _) h63 (by decide) hBz ?_; intro G wg hGn HG gg hat)
        have HGN := Lib.hid hGn
        have hGI : (G.n : Int) = (hN : Int) + 1 := by rw [hGn]; rfl
        have HGI := Lib.hid hGI
        clear hGn hat hGI
        go_roundw
        case rel => exact ⟨v - 1, G, xs ++ [x, y, d, r], by omega, by omega, by first | rfl | go_num, by first | rfl | rw [HGN.out], by have := HGI.out; omega, by rw [ints_append]; exact HG, Dz.grown gg hrow⟩
        case measure => simp [intOf]; omega
    · have hv' : v = 0 := by omega
      subst hv'
      go_wp2_with fail
      refine (l01Next_any L g 60 _ D.src (by decide)).mono ?_
      rintro e w2 ⟨q, rfl, q0, q1, g2, S2⟩
      have D2 := D.next g2 S2
      have o2 := o.nx g2 gS.1
      clear D o g2 S2
      by_cases h0 : q = 0
      · subst h0
        go_wp2_with fail
        refine (l01Next_any L g 2 _ D2.src (by decide)).mono ?_
        rintro e w3 ⟨y, rfl, y0, y1, g3, S3⟩
        have D3 := D2.next g3 S3
        have wy : IntKind.i64.wrap (200 + y) = 200 + y := IntWalk.i64_in _ (by omega)
        obtain ⟨c, hcc⟩ : ∃ c : Nat, 200 + y = (c : Int) := ⟨(200 + y).toNat, by omega⟩
        rw [hcc] at wy
        have wy' : IntKind.i64.wrap (200 + y) = (c : Int) := by rw [hcc, wy]
        have hc : c ≤ 201 := by omega
        clear wy
        have hmk := run_make_SouZ c (by omega)
        have DM := D3.alloc (.cells (madeCells #[.int .i64 0, .int .i64 0, .int .i64 0, .int .i64 0] (c * 4)) 129)
        have RM : Rd (w3.alloc (.cells (madeCells #[.int .i64 0, .int .i64 0, .int .i64 0, .int .i64 0] (c * 4)) 129)) (some ⟨w3.heap.size, 0, none⟩) (c * 4) (ints (List.replicate (c * 4) 0)) := by
          refine ⟨by simp [ints], fun _ => ⟨_, rfl, fun i hi => ?_⟩⟩
          rw [add_lit, (Blk.new w3 129 _).cell, made_zero4 c i hi]
          simp [ints, hi]
        generalize madeCells #[.int .i64 0, .int .i64 0, .int .i64 0, .int .i64 0] (c * 4) = cs at hmk DM RM
        clear y1 hcc
        go_wp2
        go_ret
        exact ⟨⟨some ⟨w3.heap.size, 0, none⟩, c, c⟩, _, rfl, hc, Nat.le_refl _, RM, fun ad e _ => by cases e; exact D3.size, DM⟩
      have hq0 : (q == 0) = false := by rw [beq_eq_false_iff_ne]; exact h0
      have nc := o2.nc
      have rr := o2.rd
      go_wp2
      go_ret
      exact ⟨⟨HA, hN, hC⟩, xs, rfl, by simp only; omega, nc, rr, fun ad e hn => (o2.rowlt ad.block (by simp only at e hn; unfold Hd.row; simp only; first | (rw [if_neg (by omega), e]; rfl) | (rw [e]; rfl) | simp [e])).1, D2⟩
end Go.Proofs.Ythmcnoloeeabbaa
