/- The draw of a frame. Existential: some numbers, a list of at most 25. Condition: a source whose code has at most 4096 bytes. -/
import Derived.Test.YtlgmdekhlcbhoaaDrawN
import Derived.Test.YtlgmdekhlcbhoaaTFrame
namespace Go.Proofs.Ytlgmdekhlcbhoaa
open Go.RowKit

section
variable {w w0 wr : World} {L g : Nat} {h : Hd} {xs : List Int}
theorem Lst.down (s : Lst w0 wr L g h xs) (b : Below w.heap.size w w0) (hg : g < w.heap.size) : Lst w wr L g h xs :=
  ⟨s.own.mono b.size, ⟨s.gr.os.trans b.os, s.gr.tape.trans b.tape, s.gr.output.trans b.output, Nat.le_trans b.size s.gr.size, fun i hi hne => (s.gr.block i (Nat.lt_of_lt_of_le hi b.size) hne).trans (b.block i hi)⟩, s.src, hg⟩
theorem Lst.far (s : Lst w wr L g h xs) {p : Addr} (hp : w.heap.size ≤ p.block) (hr : h.row ≠ some p.block) (u : Value) : Lst w (wr.setCell p u) L g h xs :=
  have gg : wr.grownBy (wr.setCell p u) (some p.block) := grown_setCell (World.grownBy.refl _ _) (.inl rfl) _
  ⟨s.own.grown gg (fun b e c => hr (by injection c with c; rw [e, c])), grown_up s.gr gg (fun x c => by injection c with c; exact .inl (by omega)),
    s.src.grown gg (fun b c => by injection c with c; have := s.src.lt; have := s.lt; exact ⟨by omega, by omega⟩), s.lt⟩
theorem Lst.draw (s : Lst w wr L g h xs) (n : Nat) : Lst w (wr.drewN n) L g h xs :=
  have b : Below wr.heap.size wr (wr.drewN n) := below_drewN _ _
  ⟨s.own.below b, grown_trans s.gr (grown_of_below b), s.src.below b, s.lt⟩
theorem Lst.lit (s : Lst w wr L g h xs) (ys : List Int) (e : TypeId) (hn : ys.length ≤ 1000) : Lst w (wr.alloc (.cells (ints ys).toArray e)) L g ⟨some ⟨wr.heap.size, 0, none⟩, ys.length, ys.length⟩ ys :=
  have b : Below wr.heap.size wr (wr.alloc (.cells (ints ys).toArray e)) := (Below.refl _ _).alloc (Nat.le_refl _) _
  ⟨(lit_own wr ys e wr.heap.size (Nat.le_refl _) hn).mono s.gr.size, grown_trans s.gr (grown_of_below b), s.src.below b, s.lt⟩
theorem Lst.rowne (s : Lst w wr L g h xs) {b : Nat} (hb : b < w.heap.size) : h.row ≠ some b := fun e => by have := (s.own.rowlt b e).1; omega
end

/-- A frame was drawn. -/
def DrawFPost (L g : Nat) (w : World) (e : Ending) (w' : World) : Prop :=
  ∃ (h : Hd) (k n : Int) (xs : List Int), e = .returned (FrameV ⟨h⟩ ⟨k, n, xs⟩) ∧ h.n ≤ 25 ∧ Lst w w' L g h xs

set_option maxRecDepth 100000 in
set_option maxHeartbeats 4000000 in
theorem l25DrawFrame_any (L g : Nat) (w : World) (S : Src w L g) :
    Calls Try.prog 114 #[.pointer (some ⟨g, 0, none⟩)] w (DrawFPost L g w) := by
  have b0 : Below w.heap.size w (w.alloc (.cells #[.int .i64 0, .int .i64 0, .slice none 0 0] 28)) := (Below.refl _ _).alloc (Nat.le_refl _) _
  have B0 := Blk.new w 28 #[.int .i64 0, .int .i64 0, .slice none 0 0]
  have L0 := Lst.start (S.below b0) 2
  have hg : g < w.heap.size := S.lt.1
  rw [World.size_alloc] at L0
  have hz : (w.alloc (.cells #[.int .i64 0, .int .i64 0, .slice none 0 0] 28)).heap.size = w.heap.size + 1 := World.size_alloc _ _
  have hz2 : ((w.alloc (.cells #[.int .i64 0, .int .i64 0, .slice none 0 0] 28)).alloc (.cells #[] 2)).heap.size = w.heap.size + 1 + 1 := by rw [World.size_alloc, World.size_alloc]
  have HZ2 := Lib.hid hz2
  clear hz2
  go_enter Try.func114, Try.ntmps114
  go_wp2_with fail
  generalize hAA : (some ⟨w.heap.size + 1, 0, none⟩ : Option Addr) = AA at L0 ⊢
  clear hAA
  generalize w.alloc (.cells #[.int .i64 0, .int .i64 0, .slice none 0 0] 28) = w0 at L0 b0 B0 hz HZ2 ⊢
  generalize w0.alloc (.cells #[] 2) = wa at L0 HZ2 ⊢
  rw [← HZ2.out]
  clear HZ2
  refine (l01Pick_any L g _ 6 6 [0, 1, 2, 3, 5, 8] _ (L0.alloc (.cells (ints [0, 1, 2, 3, 5, 8]).toArray 2)).src (rd_list _ _ _ _ rfl) (by decide) (by decide) (fun ad e => by cases e; have := L0.src.lt; simp only; omega)).mono ?_
  rintro e w1 ⟨q, hq, rfl, g1, S1⟩
  have L1 := (L0.alloc (.cells (ints [0, 1, 2, 3, 5, 8]).toArray 2)).next g1 S1
  have hq8 : 0 ≤ q ∧ q ≤ 8 := by simp only [List.mem_cons, List.not_mem_nil, or_false] at hq; omega
  obtain ⟨q, rfl⟩ := Int.eq_ofNat_of_zero_le hq8.1
  have hq9 : q ≤ 8 := by omega
  clear L0 g1 S1 hq hq8 S
  go_wp2_with fail
  go_loopw [3, 4] (fun v i wr => ∃ (h : Hd) (xs : List Int) (k : Nat), v = .slice h.A h.n h.c ∧ i = .int .i64 k ∧ h.n + k ≤ 8 ∧ Lst w0 wr L g h xs) (fun _ i _ => (intOf i).toNat)
  case atStart => exact ⟨_, [], q, rfl, rfl, by simp only; omega, L1⟩
  case round =>
    clear L1
    obtain ⟨h, xs, k, rfl, rfl, hk, Lx⟩ := hrel
    by_cases hk0 : 0 < (k : Int)
    · go_wp2_with fail
      refine (l01Next_any L g 256 _ Lx.src (by decide)).mono ?_
      rintro e w2 ⟨a, rfl, a0, a1, g2, S2⟩
      have L2 := Lx.next g2 S2
      clear Lx g2 S2
      go_wp2_with fail
      refine (l01Next_any L g 256 _ L2.src (by decide)).mono ?_
      rintro e w3 ⟨b, rfl, b0, b1, g3, S3⟩
      have L3 := L2.next g3 S3
      clear L2 g3 S3
      go_wp2_with fail
      refine (l01Pick_any L g _ 7 7 [0, 255, 126, 31, 248, a, b] _ (L3.alloc (.cells (ints [0, 255, 126, 31, 248, a, b]).toArray 2)).src (rd_list _ _ _ _ rfl) (by decide) (by decide) (fun ad e => by cases e; have := L3.src.lt; simp only; omega)).mono ?_
      rintro e w4 ⟨x, -, rfl, g4, S4⟩
      have L4 := (L3.alloc (.cells (ints [0, 255, 126, 31, 248, a, b]).toArray 2)).next g4 S4
      clear L3 g4 S4
      go_wp2_with (at_builtin; refine wpList_push rfl _ _ rfl w0 L g h xs [x] (L4.alloc _) rfl _ 1 1 rfl (rd_one _ _ _) (by omega) ?_; intro G wg hGn LG)
      clear L4
      have hGn' := Lib.hid hGn
      clear hGn
      go_roundw
      case rel => exact ⟨G, xs ++ [x], k - 1, by rw [hGn'.out], by congr 1; omega, by have := hGn'.out; omega, LG⟩
      case measure => simp [intOf]; omega
    · have hn8 : h.n ≤ 8 := by omega
      clear hk
      go_wp2_with fail
      refine (l01Next_any L g 16 _ Lx.src (by decide)).mono ?_
      rintro e w2 ⟨x, rfl, x0, x1, g2, S2⟩
      have L2 := Lx.next g2 S2
      clear Lx g2 S2
      go_wp2_with fail
      refine (l01Next_any L g 256 _ L2.src (by decide)).mono ?_
      rintro e w3 ⟨y, rfl, y0, y1, g3, S3⟩
      have L3 := L2.next g3 S3
      clear L2 g3 S3
      go_wp2_with fail
      have K4 := Blk.new w3 28 #[.int .i64 x, .int .i64 y, .slice h.A h.n h.c]
      have L4 := L3.alloc (.cells #[.int .i64 x, .int .i64 y, .slice h.A h.n h.c] 28)
      have h3 : w0.heap.size ≤ w3.heap.size := L3.gr.size
      have hrow3 : ∀ b, h.row = some b → b < w3.heap.size ∧ w0.heap.size ≤ b := fun b e => ⟨(L3.own.rowlt b e).2, (L3.own.rowlt b e).1⟩
      generalize hQ : w3.heap.size = Q at *
      generalize w3.alloc (.cells #[.int .i64 x, .int .i64 y, .slice h.A h.n h.c] 28) = w4 at *
      clear L3
      refine (l01Next_any L g 30 _ L4.src (by decide)).mono ?_
      rintro e w5 ⟨r, rfl, -, -, g5, S5⟩
      have L5 := L4.next g5 S5
      have K5 := Blk.grown K4 g5 (fun c => by injection c with c; omega)
      clear L4 K4 g5 S5
      by_cases hr0 : r = 0
      · subst hr0
        go_wp2_with fail
        refine (l01Pick_any L g _ 3 3 [-1, 15, 16] _ (L5.alloc (.cells (ints [-1, 15, 16]).toArray 2)).src (rd_list _ _ _ _ rfl) (by decide) (by decide) (fun ad e => by cases e; have := L5.src.lt; simp only; omega)).mono ?_
        rintro e w6 ⟨v, -, rfl, g6, S6⟩
        have L6 := (L5.alloc (.cells (ints [-1, 15, 16]).toArray 2)).next g6 S6
        have K6 := Blk.grown (Blk.alloc K5 (.cells (ints [-1, 15, 16]).toArray 2)) g6 (fun c => by injection c with c; omega)
        have B6 : Blk w6 w.heap.size 28 #[.int .i64 0, .int .i64 0, .slice none 0 0] := Blk.grown B0 L6.gr (fun c => by injection c with c; omega)
        have hrow : ∀ b, h.row = some b → b ≠ Q ∧ b ≠ w.heap.size := fun b e => by have := hrow3 b e; omega
        have hQ2 : Q ≠ w.heap.size := by omega
        have hQ3 : w.heap.size ≤ Q := by omega
        clear L5 K5 g6 S6 hrow3
        have K7 := K6.set_ 0 (.int .i64 v)
        have L7 := (L6.down b0 hg).far (p := ⟨Q, 0, none⟩) hQ3 (fun e => (hrow _ e).1 rfl) (.int .i64 v)
        have B7 := B6.far (p := ⟨Q, 0, none⟩) (fun c => hQ2 c.symm) (.int .i64 v)
        have c6 := fun o => K6.cell o
        have f6 := fun o => K6.frozen o
        have q6 := K6.lt
        have c7 := fun o => K7.cell o
        have d7 := fun o => B7.cell o
        have e7 := fun o => B7.frozen o
        have p7 := B7.lt
        clear B6 L6 K6 K7
        go_wp2
        refine bodyPost_ret (v := .agg #[.int .i64 v, .int .i64 y, .slice h.A h.n h.c]) (by simp [results, Try.results114, go_sem, d7]) rfl ⟨h, v, y, xs, rfl, by omega, ?_⟩
        exact ((L7.far (p := ⟨w.heap.size, 0, none⟩) (Nat.le_refl _) (fun e => (hrow _ e).2 rfl) _).far (p := ⟨w.heap.size, 1, none⟩) (Nat.le_refl _) (fun e => (hrow _ e).2 rfl) _).far (p := ⟨w.heap.size, 2, none⟩) (Nat.le_refl _) (fun e => (hrow _ e).2 rfl) _
      · have f0 : (r == 0) = false := by simpa using hr0
        clear hr0
        by_cases hr1 : r = 1
        · subst hr1
          go_wp2_with fail
          refine (l01Pick_any L g _ 3 3 [-1, 255, 256] _ (L5.alloc (.cells (ints [-1, 255, 256]).toArray 2)).src (rd_list _ _ _ _ rfl) (by decide) (by decide) (fun ad e => by cases e; have := L5.src.lt; simp only; omega)).mono ?_
          rintro e w6 ⟨v, -, rfl, g6, S6⟩
          have L6 := (L5.alloc (.cells (ints [-1, 255, 256]).toArray 2)).next g6 S6
          have K6 := Blk.grown (Blk.alloc K5 (.cells (ints [-1, 255, 256]).toArray 2)) g6 (fun c => by injection c with c; omega)
          have B6 : Blk w6 w.heap.size 28 #[.int .i64 0, .int .i64 0, .slice none 0 0] := Blk.grown B0 L6.gr (fun c => by injection c with c; omega)
          have hrow : ∀ b, h.row = some b → b ≠ Q ∧ b ≠ w.heap.size := fun b e => by have := hrow3 b e; omega
          have hQ2 : Q ≠ w.heap.size := by omega
          have hQ3 : w.heap.size ≤ Q := by omega
          clear L5 K5 g6 S6 hrow3
          have K7 := K6.set_ 1 (.int .i64 v)
          have L7 := (L6.down b0 hg).far (p := ⟨Q, 1, none⟩) hQ3 (fun e => (hrow _ e).1 rfl) (.int .i64 v)
          have B7 := B6.far (p := ⟨Q, 1, none⟩) (fun c => hQ2 c.symm) (.int .i64 v)
          have c6 := fun o => K6.cell o
          have f6 := fun o => K6.frozen o
          have q6 := K6.lt
          have c7 := fun o => K7.cell o
          have d7 := fun o => B7.cell o
          have e7 := fun o => B7.frozen o
          have p7 := B7.lt
          clear B6 L6 K6 K7
          go_wp2
          refine bodyPost_ret (v := .agg #[.int .i64 x, .int .i64 v, .slice h.A h.n h.c]) (by simp [results, Try.results114, go_sem, d7]) rfl ⟨h, x, v, xs, rfl, by omega, ?_⟩
          exact ((L7.far (p := ⟨w.heap.size, 0, none⟩) (Nat.le_refl _) (fun e => (hrow _ e).2 rfl) _).far (p := ⟨w.heap.size, 1, none⟩) (Nat.le_refl _) (fun e => (hrow _ e).2 rfl) _).far (p := ⟨w.heap.size, 2, none⟩) (Nat.le_refl _) (fun e => (hrow _ e).2 rfl) _
        · have f1 : (r == 1) = false := by simpa using hr1
          clear hr1
          by_cases hr2 : r = 2
          · subst hr2
            clear K5 hrow3
            go_wp2
            go_loopw [3] (fun v wr => ∃ (h : Hd) (xs : List Int), v = .slice h.A h.n h.c ∧ h.n ≤ 25 ∧ Lst w0 wr L g h xs) (fun v _ => 25 - lenOf v)
            case atStart => exact ⟨h, xs, rfl, by omega, L5⟩
            case round =>
              clear L5 hn8
              obtain ⟨h, xs, rfl, hk, Lx⟩ := hrel
              go_wp2_with fail
              refine (l01Next_any L g 2 _ Lx.src (by decide)).mono ?_
              rintro e w6 ⟨z, rfl, z0, z1, g6, S6⟩
              have L6 := Lx.next g6 S6
              clear Lx g6 S6
              by_cases hlt : (h.n : Int) < 24 + z
              · go_wp2_with (at_builtin; refine wpList_push rfl _ _ rfl w0 L g h xs [255] (L6.alloc _) rfl _ 1 1 rfl (rd_one _ _ _) (by omega) ?_; intro G wg hGn LG)
                have hGn' := Lib.hid hGn
                clear hGn L6
                go_roundw
                case rel => exact ⟨G, xs ++ [255], by rw [hGn'.out], by have := hGn'.out; omega, LG⟩
                case measure => have := hGn'.out; simp [lenOf]; omega
              · have B6 : Blk w6 w.heap.size 28 #[.int .i64 0, .int .i64 0, .slice none 0 0] := Blk.grown B0 L6.gr (fun c => by injection c with c; omega)
                have hrow : ∀ b, h.row = some b → b ≠ w.heap.size := fun b e => by have := (L6.own.rowlt b e).1; omega
                have L7 := L6.down b0 hg
                have d7 := fun o => B6.cell o
                have e7 := fun o => B6.frozen o
                have p7 := B6.lt
                clear L6 B6
                go_wp2
                refine bodyPost_ret (v := .agg #[.int .i64 15, .int .i64 255, .slice h.A h.n h.c]) (by simp [results, Try.results114, go_sem, d7]) rfl ⟨h, 15, 255, xs, rfl, hk, ?_⟩
                exact ((L7.far (p := ⟨w.heap.size, 0, none⟩) (Nat.le_refl _) (fun e => hrow _ e rfl) _).far (p := ⟨w.heap.size, 1, none⟩) (Nat.le_refl _) (fun e => hrow _ e rfl) _).far (p := ⟨w.heap.size, 2, none⟩) (Nat.le_refl _) (fun e => hrow _ e rfl) _
          · have f2 : (r == 2) = false := by simpa using hr2
            clear hr2
            by_cases hr3 : r = 3
            · subst hr3
              clear K5 hrow3
              go_wp2_with fail
              refine (l01Pick_any L g _ 3 3 [-1, 256, 255] _ (L5.alloc (.cells (ints [-1, 256, 255]).toArray 2)).src (rd_list _ _ _ _ rfl) (by decide) (by decide) (fun ad e => by cases e; have := L5.src.lt; simp only; omega)).mono ?_
              rintro e w6 ⟨v, -, rfl, g6, S6⟩
              have L6 := (L5.alloc (.cells (ints [-1, 256, 255]).toArray 2)).next g6 S6
              clear L5 g6 S6
              have B6 : Blk w6 w.heap.size 28 #[.int .i64 0, .int .i64 0, .slice none 0 0] := Blk.grown B0 L6.gr (fun c => by injection c with c; omega)
              have hw6 : w.heap.size < w6.heap.size := B6.lt
              have hrow : ∀ b, h.row = some b → b ≠ w.heap.size := fun b e => by have := (L6.own.rowlt b e).1; omega
              have L7 := L6.down b0 hg
              have L8 := (((L7.far (p := ⟨w.heap.size, 0, none⟩) (Nat.le_refl _) (fun e => hrow _ e rfl) (.int .i64 0)).far (p := ⟨w.heap.size, 1, none⟩) (Nat.le_refl _) (fun e => hrow _ e rfl) (.int .i64 0)).far (p := ⟨w.heap.size, 2, none⟩) (Nat.le_refl _) (fun e => hrow _ e rfl) (.slice (some ⟨w6.heap.size, 0, none⟩) 1 1)).lit [v] 2 (by simp)
              have B8 := (((B6.set_ 0 (.int .i64 0)).set_ 1 (.int .i64 0)).set_ 2 (.slice (some ⟨w6.heap.size, 0, none⟩) 1 1)).alloc (.cells #[.int .i64 v] 2)
              have d8 := fun o => B8.cell o
              have d7 := fun o => B6.cell o
              have e7 := fun o => B6.frozen o
              have p7 := B6.lt
              have hsz : (((w6.setCell ⟨w.heap.size, 0, none⟩ (.int .i64 0)).setCell ⟨w.heap.size, 1, none⟩ (.int .i64 0)).setCell ⟨w.heap.size, 2, none⟩ (.slice (some ⟨w6.heap.size, 0, none⟩) 1 1)).heap.size = w6.heap.size := by simp [World.setCell]
              rw [hsz] at L8
              clear L6 B6 B8 L7 hsz
              go_wp2_with fail
              refine bodyPost_ret (v := .agg #[.int .i64 0, .int .i64 0, .slice (some ⟨w6.heap.size, 0, none⟩) 1 1]) (by simp [results, Try.results114, go_sem, d8]) rfl ?_
              refine ⟨⟨some ⟨w6.heap.size, 0, none⟩, 1, 1⟩, 0, 0, [v], rfl, by simp, ?_⟩
              exact L8
            · have f3 : (r == 3) = false := by simpa using hr3
              clear hr3
              have B6 : Blk w5 w.heap.size 28 #[.int .i64 0, .int .i64 0, .slice none 0 0] := Blk.grown B0 L5.gr (fun c => by injection c with c; omega)
              have hrow : ∀ b, h.row = some b → b ≠ w.heap.size := fun b e => by have := (L5.own.rowlt b e).1; omega
              have L7 := L5.down b0 hg
              have c6 := fun o => K5.cell o
              have f6 := fun o => K5.frozen o
              have q6 := K5.lt
              have d7 := fun o => B6.cell o
              have e7 := fun o => B6.frozen o
              have p7 := B6.lt
              clear L5 B6 K5 hrow3
              go_wp2
              refine bodyPost_ret (v := .agg #[.int .i64 x, .int .i64 y, .slice h.A h.n h.c]) (by simp [results, Try.results114, go_sem, d7]) rfl ⟨h, x, y, xs, rfl, by omega, ?_⟩
              exact ((L7.far (p := ⟨w.heap.size, 0, none⟩) (Nat.le_refl _) (fun e => hrow _ e rfl) _).far (p := ⟨w.heap.size, 1, none⟩) (Nat.le_refl _) (fun e => hrow _ e rfl) _).far (p := ⟨w.heap.size, 2, none⟩) (Nat.le_refl _) (fun e => hrow _ e rfl) _
end Go.Proofs.Ytlgmdekhlcbhoaa
