/- The draws of the laws on frames: frames, places, bits of a channel. Existential. Condition: a code of at most 4096 bytes. -/
import Derived.Test.YtlgmdekhlcbhoaaDrawF
import Derived.Test.YtlgmdekhlcbhoaaFraG
import Derived.Deep.RegionHeld3
namespace Go.Proofs.Ytlgmdekhlcbhoaa
open Go.RowKit

section
variable {w w0 w1 wr : World} {L g : Nat} {h : Hd} {xs : List Int}
theorem Lst.below (s : Lst w wr L g h xs) (b : Below wr.heap.size wr w1) : Lst w w1 L g h xs := ⟨s.own.below b, grown_trans s.gr (grown_of_below b), s.src.below b, s.lt⟩
theorem Lst.begin_ (S : Src w L g) (b : Below w.heap.size w w1) (o : Own w1 w.heap.size 1 h (ints xs)) : Lst w w1 L g h xs := ⟨o, grown_of_below b, S.below b, S.lt.1⟩
theorem grown_none {a b : World} (k : a.grownBy b none) : Below a.heap.size a b := ⟨k.os, k.tape, k.output, k.size, fun i hi => k.block i hi (by simp)⟩
end
theorem Own.drew {w : World} {B K : Nat} {h : Hd} {us : List Value} (o : Own w B K h us) : Own w.drew B K h us := o.below (Below.drew (Below.refl _ _))
theorem Own.farc {w : World} {B K : Nat} {h : Hd} {us : List Value} (o : Own w B K h us) {p : Addr} (hr : h.row ≠ some p.block) (u : Value) : Own (w.setCell p u) B K h us :=
  o.grown (row := some p.block) (grown_setCell (World.grownBy.refl _ _) (.inl rfl) _) (fun b e c => hr (by injection c with c; rw [e, c]))
theorem Lst.over {w w1 wr : World} {L g : Nat} {h h' : Hd} {xs ys : List Int} (s : Lst w w1 L g h xs) (m : Lst w1 wr L g h' ys) : Lst w wr L g h xs :=
  ⟨s.own.grown m.gr (fun b e c => by have := (s.own.rowlt b e).1; have := s.lt; injection c with c; omega), grown_trans s.gr m.gr, m.src, s.lt⟩
/-- A frame was drawn. -/
def DrawnF (w : World) (e : Ending) (w' : World) : Prop :=
  ∃ (h : Hd) (k m : Int) (xs : List Int), e = .returned (FrameV ⟨h⟩ ⟨k, m, xs⟩) ∧ h.n ≤ 25 ∧ Own w' w.heap.size 1 h (ints xs) ∧ Below w.heap.size w w'
/-- A frame and a list were drawn. -/
def DrawnFL (most : Nat) (w : World) (e : Ending) (w' : World) : Prop :=
  ∃ (h : Hd) (k m : Int) (xs : List Int) (h' : Hd) (ys : List Int), e = .returned (.tuple #[FrameV ⟨h⟩ ⟨k, m, xs⟩, .slice h'.A h'.n h'.c]) ∧ h.n ≤ 25 ∧ h'.n ≤ most ∧ Own w' w.heap.size 1 h (ints xs) ∧ Own w' w.heap.size 1 h' (ints ys) ∧ Below w.heap.size w w'
/-- A frame and two numbers were drawn. -/
def DrawnFII (w : World) (e : Ending) (w' : World) : Prop :=
  ∃ (h : Hd) (k m : Int) (xs : List Int) (x y : Int), e = .returned (.tuple #[FrameV ⟨h⟩ ⟨k, m, xs⟩, .int .i64 x, .int .i64 y]) ∧ h.n ≤ 25 ∧ -1 ≤ x ∧ x ≤ 120 ∧ -1 ≤ y ∧ y ≤ 14 ∧ Own w' w.heap.size 1 h (ints xs) ∧ Below w.heap.size w w'
/-- what a list drawn on a source of the call's own leaves behind -/
theorem Lst.fin {w w1 wr : World} {L g : Nat} {h : Hd} {xs : List Int} (s : Lst w1 wr L g h xs) (b : Below w.heap.size w w1) (hg : w.heap.size ≤ g) : Own wr w.heap.size 1 h (ints xs) ∧ Below w.heap.size w wr :=
  ⟨s.own.mono b.size, bstepg b s.gr (Nat.le_refl _) (fun k e => by injection e with e; omega)⟩

set_option maxRecDepth 100000 in
set_option maxHeartbeats 4000000 in
theorem drawSendFrame_any (A : Option Addr) (n c : Nat) (bs : List Int) (w : World) (r : Rd w A n (byteV bs)) (hx : ∀ x ∈ bs, 0 ≤ x ∧ x ≤ 255) (hn : n ≤ 4096) :
    Calls Try.prog 36 #[.slice A n c] w (DrawnF w) := by
  have b0 : Below w.heap.size w (w.alloc (.cells #[.int .i64 0, .int .i64 0, .slice none 0 0] 28)) := (Below.refl _ _).alloc (Nat.le_refl _) _
  have B0 := Blk.new w 28 #[.int .i64 0, .int .i64 0, .slice none 0 0]
  go_enter Try.func36, Try.ntmps36
  go_wp2_with fail
  generalize w.alloc (.cells #[.int .i64 0, .int .i64 0, .slice none 0 0] 28) = w0 at b0 B0 ⊢
  have p0 := B0.lt
  refine (l01From_any A n c bs _ (r.below b0) hx hn).mono ?_
  rintro e w1 ⟨g, rfl, S1, b1⟩
  have hg := S1.lt
  have B1 := B0.below b1 p0
  have bw := b0.trans (b1.mono b0.size)
  have hz1 : w.heap.size < w1.heap.size := B1.lt
  clear b0 b1 B0 r hx hn
  go_wp2_with fail
  refine (l25DrawFrame_any _ g _ S1).mono ?_
  rintro e w2 ⟨h, k, m, xs, rfl, hh, L2⟩
  clear S1
  have hrow : ∀ b, h.row = some b → b ≠ w.heap.size := fun b e => by have := (L2.own.rowlt b e).1; omega
  simp only [FrameV]
  have B2 : Blk w2 w.heap.size 28 #[.int .i64 0, .int .i64 0, .slice none 0 0] := Blk.grown B1 L2.gr (fun c => by injection c with c; omega)
  have d2 := fun o => B2.cell o
  have e2 := fun o => B2.frozen o
  have p2 := B2.lt
  have F2 := L2.fin bw (by omega)
  clear L2 B1 B2
  go_wp2
  refine bodyPost_ret (v := .agg #[.int .i64 k, .int .i64 m, .slice h.A h.n h.c]) (by simp [results, Try.results36, go_sem, d2]) rfl ⟨h, k, m, xs, rfl, hh, ?_, ?_⟩
  · exact ((F2.1.farc (p := ⟨w.heap.size, 0, none⟩) (fun e => hrow _ e rfl) _).farc (p := ⟨w.heap.size, 1, none⟩) (fun e => hrow _ e rfl) _).farc (p := ⟨w.heap.size, 2, none⟩) (fun e => hrow _ e rfl) _
  · exact ((F2.2.setCell (p := ⟨w.heap.size, 0, none⟩) (Nat.le_refl _) _).setCell (p := ⟨w.heap.size, 1, none⟩) (Nat.le_refl _) _).setCell (p := ⟨w.heap.size, 2, none⟩) (Nat.le_refl _) _

set_option maxRecDepth 100000 in
set_option maxHeartbeats 4000000 in
theorem drawSurvivesBurst_any (A : Option Addr) (n c : Nat) (bs : List Int) (w : World) (r : Rd w A n (byteV bs)) (hx : ∀ x ∈ bs, 0 ≤ x ∧ x ≤ 255) (hn : n ≤ 4096) :
    Calls Try.prog 35 #[.slice A n c] w (DrawnFII w) := by
  have b0 : Below w.heap.size w (w.alloc (.cells #[.int .i64 0, .int .i64 0, .slice none 0 0] 28)) := (Below.refl _ _).alloc (Nat.le_refl _) _
  have B0 := Blk.new w 28 #[.int .i64 0, .int .i64 0, .slice none 0 0]
  go_enter Try.func35, Try.ntmps35
  go_wp2_with fail
  generalize w.alloc (.cells #[.int .i64 0, .int .i64 0, .slice none 0 0] 28) = w0 at b0 B0 ⊢
  have p0 := B0.lt
  refine (l01From_any A n c bs _ (r.below b0) hx hn).mono ?_
  rintro e w1 ⟨g, rfl, S1, b1⟩
  have hg := S1.lt
  have B1 := B0.below b1 p0
  have bw := b0.trans (b1.mono b0.size)
  have hz1 : w.heap.size < w1.heap.size := B1.lt
  clear b0 b1 B0 r hx hn
  go_wp2_with fail
  refine (l25DrawFrame_any _ g _ S1).mono ?_
  rintro e w2 ⟨h, k, m, xs, rfl, hh, L2⟩
  clear S1
  have hrow : ∀ b, h.row = some b → b ≠ w.heap.size := fun b e => by have := (L2.own.rowlt b e).1; omega
  simp only [FrameV]
  go_wp2_with fail
  have K3 := Blk.new w2 28 #[.int .i64 k, .int .i64 m, .slice h.A h.n h.c]
  have L3 := L2.alloc (.cells #[.int .i64 k, .int .i64 m, .slice h.A h.n h.c] 28)
  have h2 : w1.heap.size ≤ w2.heap.size := L2.gr.size
  clear L2
  generalize w2.alloc (.cells #[.int .i64 k, .int .i64 m, .slice h.A h.n h.c] 28) = w3 at *
  generalize w2.heap.size = Q at *
  have q3 := K3.lt
  have L3 : Lst w1 w3.drew _ g h xs := L3.draw 1
  have B3 : Blk w3.drew w.heap.size 28 #[.int .i64 0, .int .i64 0, .slice none 0 0] := Blk.grown B1 L3.gr (fun c => by injection c with c; omega)
  have K3 : Blk w3.drew Q 28 #[.int .i64 k, .int .i64 m, .slice h.A h.n h.c] := K3
  have hS3 := fun o => K3.cell o
  have hQ1 : Q ≠ w.heap.size := by omega
  have hQ2 : w.heap.size ≠ Q := by omega
  have q2 : ∀ x : Int, 0 ≤ x → x.tdiv 19 = x / 19 := fun x h => Int.tdiv_eq_ediv_of_nonneg h
  have HQ2 := Lib.hid q2
  clear q2
  go_region_held3 (fun w' => ∀ o, w'.cell? ⟨Q, o, none⟩ = #[.int .i64 k, .int .i64 m, .slice h.A h.n h.c][o]?)
    (first | (with_reducible assumption) | (intro o; go_keep))
    (first
      | (go_at_call_of 115 (Value.int .i64 20); refine (l01Next_any _ g 20 _ L6.src (by decide)).mono ?_; rintro e w7 ⟨v, rfl, v0, v1, g7, S7⟩; have L7 := L6.next g7 S7; have q7 := HQ2.out v v0; have K7 := Blk.grown K6 g7 (fun c => by injection c with c; omega); have hS7 := fun o => K7.cell o; have B7 := Blk.grown B6 g7 (fun c => by injection c with c; omega); have d7 := fun o => B7.cell o; have e7 := fun o => B7.frozen o; have p7 := B7.lt; have q7 := K7.lt)
      | (go_at_call_of 115 (Value.int .i64 14); refine (l01Next_any _ g 14 _ L5.src (by decide)).mono ?_; rintro e w6 ⟨z, rfl, z0, z1, g6, S6⟩; have L6 := L5.next g6 S6; have K6 := Blk.grown K5 g6 (fun c => by injection c with c; omega); have hS6 := fun o => K6.cell o; have B6 := Blk.grown B5 g6 (fun c => by injection c with c; omega); have d6 := fun o => B6.cell o; have e6 := fun o => B6.frozen o; have p6 := B6.lt; have q6 := K6.lt)
      | (go_at_call_of 115 (Value.int .i64 20); refine (l01Next_any _ g 20 _ L4.src (by decide)).mono ?_; rintro e w5 ⟨y, rfl, y0, y1, g5, S5⟩; have L5 := L4.next g5 S5; have q5 := HQ2.out y y0; have K5 := Blk.grown K4 g5 (fun c => by injection c with c; omega); have hS5 := fun o => K5.cell o; have B5 := Blk.grown B4 g5 (fun c => by injection c with c; omega); have d5 := fun o => B5.cell o; have e5 := fun o => B5.frozen o; have p5 := B5.lt; have q5 := K5.lt)
      | (go_at_call_of 115 (Value.int .i64 120); refine (l01Next_any _ g 120 _ L3.src (by decide)).mono ?_; rintro e w4 ⟨x, rfl, x0, x1, g4, S4⟩; have L4 := L3.next g4 S4; have K4 := Blk.grown K3 g4 (fun c => by injection c with c; omega); have hS4 := fun o => K4.cell o; have B4 := Blk.grown B3 g4 (fun c => by injection c with c; omega); have d4 := fun o => B4.cell o; have e4 := fun o => B4.frozen o; have p4 := B4.lt; have q4 := K4.lt))
  all_goals
    clear K3 K4 K5 K6 K7 hS3 hS4 hS5 hS6 hS7
    have F7 := (L7.fin bw (by omega)).1
    have G7 := (L7.fin bw (by omega)).2
    clear L3 L4 L5 L6 L7 S4 S5 S6 S7 g4 g5 g6 g7 B3 B4 B5 B6
    have i1 : IntKind.i64.wrap (y / 19) = y / 19 := IntWalk.i64_in _ (by omega)
    have i2 : IntKind.i64.wrap (x - y / 19) = x - y / 19 := IntWalk.i64_in _ (by omega)
    have i3 : IntKind.i64.wrap (v / 19) = v / 19 := IntWalk.i64_in _ (by omega)
    have i4 : IntKind.i64.wrap (z - v / 19) = z - v / 19 := IntWalk.i64_in _ (by omega)
    go_wp2
    refine bodyPost_ret (v := .tuple #[.agg #[.int .i64 k, .int .i64 m, .slice h.A h.n h.c], .int .i64 (x - y / 19), .int .i64 (z - v / 19)]) (by simp [results, Try.results35, go_sem, d7, i1, i2, i3, i4]) rfl ⟨h, k, m, xs, _, _, rfl, hh, by omega, by omega, by omega, by omega, ?_, ?_⟩
    · exact ((F7.farc (p := ⟨w.heap.size, 0, none⟩) (fun e => hrow _ e rfl) _).farc (p := ⟨w.heap.size, 1, none⟩) (fun e => hrow _ e rfl) _).farc (p := ⟨w.heap.size, 2, none⟩) (fun e => hrow _ e rfl) _
    · exact ((G7.setCell (p := ⟨w.heap.size, 0, none⟩) (Nat.le_refl _) _).setCell (p := ⟨w.heap.size, 1, none⟩) (Nat.le_refl _) _).setCell (p := ⟨w.heap.size, 2, none⟩) (Nat.le_refl _) _

set_option maxRecDepth 100000 in
set_option maxHeartbeats 4000000 in
theorem drawCountWrong_any (A : Option Addr) (n c : Nat) (bs : List Int) (w : World) (r : Rd w A n (byteV bs)) (hx : ∀ x ∈ bs, 0 ≤ x ∧ x ≤ 255) (hn : n ≤ 4096) :
    Calls Try.prog 52 #[.slice A n c] w (DrawnFL 1201 w) := by
  have b0 : Below w.heap.size w (w.alloc (.cells #[.int .i64 0, .int .i64 0, .slice none 0 0] 28)) := (Below.refl _ _).alloc (Nat.le_refl _) _
  have B0 := Blk.new w 28 #[.int .i64 0, .int .i64 0, .slice none 0 0]
  go_enter Try.func52, Try.ntmps52
  go_wp2_with fail
  generalize w.alloc (.cells #[.int .i64 0, .int .i64 0, .slice none 0 0] 28) = w0 at b0 B0 ⊢
  have p0 := B0.lt
  refine (l01From_any A n c bs _ (r.below b0) hx hn).mono ?_
  rintro e w1 ⟨g, rfl, S1, b1⟩
  have hg := S1.lt
  have B1 := B0.below b1 p0
  have bw := b0.trans (b1.mono b0.size)
  have hz1 : w.heap.size < w1.heap.size := B1.lt
  clear b0 b1 B0 r hx hn
  go_wp2_with fail
  refine (l25DrawFrame_any _ g _ S1).mono ?_
  rintro e w2 ⟨h, k, m, xs, rfl, hh, L2⟩
  clear S1
  have hrow : ∀ b, h.row = some b → b ≠ w.heap.size := fun b e => by have := (L2.own.rowlt b e).1; omega
  simp only [FrameV]
  go_wp2_with fail
  have K3 := Blk.new w2 28 #[.int .i64 k, .int .i64 m, .slice h.A h.n h.c]
  have L3 := L2.alloc (.cells #[.int .i64 k, .int .i64 m, .slice h.A h.n h.c] 28)
  have h2 : w1.heap.size ≤ w2.heap.size := L2.gr.size
  clear L2
  generalize w2.alloc (.cells #[.int .i64 k, .int .i64 m, .slice h.A h.n h.c] 28) = w3 at *
  generalize w2.heap.size = Q at *
  have q3 := K3.lt
  refine (specIsFrame_any ⟨h⟩ ⟨k, m, xs⟩ _ (show h.n ≤ 1048576 by omega) (RdAll.cons (s := ⟨h.A, h.n, ints xs⟩) L3.own.rd1 (RdAll.nil _))).mono ?_
  rintro e w4 ⟨rfl, b4⟩
  have L4 := L3.below b4
  have K4 := K3.below b4 q3
  have h3 : w3.heap.size ≤ w4.heap.size := b4.size
  clear L3 K3 b4 q3
  have hrow3 : ∀ b, h.row = some b → b < w4.heap.size := fun b e => (L4.own.rowlt b e).2
  have hQ1 : Q ≠ w.heap.size := by omega
  have hQ2 : w.heap.size ≠ Q := by omega
  have hg1 : g ≠ Q := by omega
  have c4 := fun o => K4.cell o
  have q4 := K4.lt
  rcases Bool.eq_false_or_eq_true (frOkC ⟨k, m, xs⟩) with hc | hc
  · have HF := Lib.hid (FrO.of hc)
    rw [hc]
    clear hc
    go_wp2_with fail
    refine (l30Send_any ⟨h⟩ ⟨k, m, xs⟩ _ (RdAll.cons (s := ⟨h.A, h.n, ints xs⟩) L4.own.rd1 (RdAll.nil _)) HF.out).mono ?_
    rintro e w5 ⟨⟨BA, bn, bc⟩, rfl, O5, b5⟩
    have L5 := L4.below b5
    have M5 := Lst.begin_ L4.src b5 O5
    clear O5
    have HL : Hid (16 ≤ (sendL (frameC ⟨k, m, xs⟩)).length ∧ (sendL (frameC ⟨k, m, xs⟩)).length ≤ 1000 ∧ allIn (sendL (frameC ⟨k, m, xs⟩)) 0 1 = true) := by
      have h1 := frameL_length k m xs HF.out.len
      have h2 : (frameC ⟨k, m, xs⟩).length = (frameL k m xs).length := rfl
      refine ⟨?_, ?_, sendL_bits (frameL_bits _ _ _)⟩ <;> rw [sendL_length] <;> unfold rowsOf <;> omega
    generalize sendL (frameC ⟨k, m, xs⟩) = ys at *
    have hyn : ys.length = bn := M5.own.rd1.len
    have hb16 : 16 ≤ bn ∧ bn ≤ 1000 := by have := HL.out; omega
    have HB : Hid (allIn ys 0 1 = true) := HL.out.2.2
    clear HL HF hyn
    go_wp2_with fail
    refine (l01Next_any _ g 5 _ L5.src (by decide)).mono ?_
    rintro e w6 ⟨u, rfl, u0, u1, g6, S6⟩
    have L6 := L5.next g6 S6
    have M6 := M5.next g6 S6
    obtain ⟨u, rfl⟩ := Int.eq_ofNat_of_zero_le u0
    clear L5 M5 g6 S6
    go_wp2_with fail
    go_loopw [7, 8] (fun v _ wr => ∃ (j : Nat) (zs : List Int), v = .int .i64 j ∧ j ≤ 4 ∧ allIn zs 0 1 = true ∧ Lst w4 wr _ g ⟨BA, bn, bc⟩ zs ∧ Lst w1 wr _ g h xs) (fun v _ _ => (intOf v).toNat)
    case atStart => exact ⟨u, ys, rfl, by omega, HB.out, M6, L6⟩
    case round =>
      clear L6 M6 HB
      obtain ⟨j, zs, rfl, hj, hzb, M6, L6⟩ := hrel
      have HZ := Lib.hid hzb
      clear hzb
      by_cases hj0 : 0 < (j : Int)
      · go_wp2_with fail
        refine (l01Next_any _ g bn _ L6.src (by omega)).mono ?_
        rintro e w7 ⟨i, rfl, i0, i1, g7, S7⟩
        have L7 := L6.next g7 S7
        have M7 := M6.next g7 S7
        obtain ⟨i, rfl⟩ := Int.eq_ofNat_of_zero_le i0
        have hi : i < bn := by omega
        have hiI : (i : Int) < (bn : Int) := by omega
        clear L6 M6 g7 S7
        obtain ⟨ad, rfl, hy, hf⟩ := M7.own.cell hi
        have hbd := getD_bit HZ.out i
        generalize zs.getD i 0 = y at *
        have hrw := M7.own.rowlt ad.block (Hd.row_mk rfl (by have := M7.own.nc; simp only at this ⊢; omega))
        have hrA : h.row ≠ some (ad.add i).block := fun e => by rw [block_of_add] at e; have := hrow3 _ e; omega
        have hle : w1.heap.size ≤ (ad.add i).block := by rw [block_of_add]; omega
        have HM := Lib.hid (M7.set_ hi rfl (1 - y))
        have HLL := Lib.hid (L7.far (p := ad.add i) hle hrA (.int .i64 (1 - y)))
        clear L7 M7 hrw hrA hle
        go_wp2
        go_roundw
        case rel => exact ⟨j - 1, zs.set i (1 - y), by congr 1; omega, by omega, allIn_set HZ.out i (by omega) (by omega), HM.out, HLL.out⟩
        case measure => simp [intOf]; omega
      · have h8 : w4.heap.size ≤ w4.heap.size := Nat.le_refl _
        go_wp2_with fail
        refine (l01Next_any _ g 8 _ L6.src (by decide)).mono ?_
        rintro e w8 ⟨z, rfl, z0, z1, g8, S8⟩
        have L8 := L6.next g8 S8
        have M8 := M6.next g8 S8
        have K8 := Blk.grown K4 M8.gr (fun c => by injection c with c; omega)
        have B8 : Blk w8 w.heap.size 28 #[.int .i64 0, .int .i64 0, .slice none 0 0] := Blk.grown B1 L8.gr (fun c => by injection c with c; omega)
        have hrB : ∀ b, (⟨BA, bn, bc⟩ : Hd).row = some b → b ≠ w.heap.size := fun b e => by have := (M8.own.rowlt b e).1; omega
        have F8 := (L8.fin bw (by omega)).1
        have G8 := (L8.fin bw (by omega)).2
        have O8 := M8.own.mono (C := w.heap.size) (by omega)
        clear L6 M6 g8 S8 L8 M8 c4
        by_cases hz : z = 0
        · subst hz
          have O9 := O8.tl (by simp only; omega)
          have hrC : ∀ b, ((⟨BA, bn, bc⟩ : Hd).tl 1).row = some b → b ≠ w.heap.size := fun b e => hrB b (Own.tl_row _ _ b e)
          have hnc := O8.nc
          have hmx := O8.capm.2
          simp only at hnc hmx
          have c8' := fun o => K8.cell o
          have q8' := K8.lt
          have d8' := fun o => B8.cell o
          have e8' := fun o => B8.frozen o
          have p8' := B8.lt
          have K8 : Blk w8.drew Q 28 #[.int .i64 k, .int .i64 m, .slice h.A h.n h.c] := K8
          have B8 : Blk w8.drew w.heap.size 28 #[.int .i64 0, .int .i64 0, .slice none 0 0] := B8
          have c8 := fun o => K8.cell o
          have q8 := K8.lt
          have d8 := fun o => B8.cell o
          have e8 := fun o => B8.frozen o
          have p8 := B8.lt
          have hc1 : ¬ bc = 1 := by omega
          have hi1 : (1 : Int) ≤ (bn : Int) := by omega
          have hi2 : (bn : Int) ≤ (bc : Int) := by omega
          have hi3 : (0 : Int) ≤ (bn : Int) := by omega
          have hT : (⟨BA, bn, bc⟩ : Hd).tl 1 = ⟨BA.map (·.add 1), bn - 1, bc - 1⟩ := by unfold Hd.tl; rw [if_neg hc1]
          have HT := Lib.hid hT
          clear hT
          go_wp2_with fail
          go_region_held3 (fun w' => ∀ o, w'.cell? ⟨Q, o, none⟩ = #[.int .i64 k, .int .i64 m, .slice h.A h.n h.c][o]?)
            (first | (with_reducible assumption) | (intro o; go_keep))
            (first | fail)
          all_goals
            go_wp2
            refine bodyPost_ret (v := .tuple #[.agg #[.int .i64 k, .int .i64 m, .slice h.A h.n h.c], .slice (BA.map (fun x => ⟨x.block, x.off + 1, none⟩)) (bn - 1) (bc - 1)]) (by simp [results, Try.results52, go_sem, d8']) rfl ⟨h, k, m, xs, ⟨BA.map (·.add 1), bn - 1, bc - 1⟩, zs.drop 1, rfl, hh, by simp only; omega, ?_, ?_, ?_⟩
            · exact Own.drew (((F8.farc (p := ⟨w.heap.size, 0, none⟩) (fun e => hrow _ e rfl) _).farc (p := ⟨w.heap.size, 1, none⟩) (fun e => hrow _ e rfl) _).farc (p := ⟨w.heap.size, 2, none⟩) (fun e => hrow _ e rfl) _)
            · rw [← HT.out, ← ints_drop]; exact Own.drew (((O9.farc (p := ⟨w.heap.size, 0, none⟩) (fun e => hrC _ e rfl) _).farc (p := ⟨w.heap.size, 1, none⟩) (fun e => hrC _ e rfl) _).farc (p := ⟨w.heap.size, 2, none⟩) (fun e => hrC _ e rfl) _)
            · exact Below.drew (((G8.setCell (p := ⟨w.heap.size, 0, none⟩) (Nat.le_refl _) _).setCell (p := ⟨w.heap.size, 1, none⟩) (Nat.le_refl _) _).setCell (p := ⟨w.heap.size, 2, none⟩) (Nat.le_refl _) _)
        · have hz' : (z == 0) = false := by simpa using hz
          have c8 := fun o => K8.cell o
          have q8 := K8.lt
          have d8 := fun o => B8.cell o
          have e8 := fun o => B8.frozen o
          have p8 := B8.lt
          go_wp2
          refine bodyPost_ret (v := .tuple #[.agg #[.int .i64 k, .int .i64 m, .slice h.A h.n h.c], .slice BA bn bc]) (by simp [results, Try.results52, go_sem, d8]) rfl ⟨h, k, m, xs, ⟨BA, bn, bc⟩, zs, rfl, hh, by simp only; omega, ?_, ?_, ?_⟩
          · exact ((F8.farc (p := ⟨w.heap.size, 0, none⟩) (fun e => hrow _ e rfl) _).farc (p := ⟨w.heap.size, 1, none⟩) (fun e => hrow _ e rfl) _).farc (p := ⟨w.heap.size, 2, none⟩) (fun e => hrow _ e rfl) _
          · exact ((O8.farc (p := ⟨w.heap.size, 0, none⟩) (fun e => hrB _ e rfl) _).farc (p := ⟨w.heap.size, 1, none⟩) (fun e => hrB _ e rfl) _).farc (p := ⟨w.heap.size, 2, none⟩) (fun e => hrB _ e rfl) _
          · exact ((G8.setCell (p := ⟨w.heap.size, 0, none⟩) (Nat.le_refl _) _).setCell (p := ⟨w.heap.size, 1, none⟩) (Nat.le_refl _) _).setCell (p := ⟨w.heap.size, 2, none⟩) (Nat.le_refl _) _
  · rw [hc]
    clear hc
    have L4' : Lst w1 w4.drew _ g h xs := L4.draw 1
    have K4 : Blk w4.drew Q 28 #[.int .i64 k, .int .i64 m, .slice h.A h.n h.c] := K4
    have c4' := fun o => K4.cell o
    have q4' := K4.lt
    go_wp2_with fail
    go_region_held3 (fun w' => ∀ o, w'.cell? ⟨Q, o, none⟩ = #[.int .i64 k, .int .i64 m, .slice h.A h.n h.c][o]?)
      (first | (with_reducible assumption) | (intro o; go_keep))
      (first
        | (go_at_call 119; refine (l25DrawBits_any _ g _ L4'.src).mono ?_; rintro e w5 ⟨h5, ys, rfl, hy, M5⟩; have K5 := Blk.grown K4 M5.gr (fun c => by injection c with c; omega); have c5 := fun o => K5.cell o; have q5 := K5.lt; have L5 := L4'.next M5.gr M5.src; have B5 : Blk w5 w.heap.size 28 #[.int .i64 0, .int .i64 0, .slice none 0 0] := Blk.grown B1 L5.gr (fun c => by injection c with c; omega); have d5 := fun o => B5.cell o; have e5 := fun o => B5.frozen o; have p5 := B5.lt))
    all_goals
      have hrB : ∀ b, h5.row = some b → b ≠ w.heap.size := fun b e => by have := (M5.own.rowlt b e).1; have : w4.drew.heap.size = w4.heap.size := rfl; omega
      have F5 := (L5.fin bw (by omega)).1
      have G5 := (L5.fin bw (by omega)).2
      have O5 := M5.own.mono (C := w.heap.size) (by have : w4.drew.heap.size = w4.heap.size := rfl; omega)
      clear L4 L4' K4 K5 c4 c4' c5 M5 L5 B5
      go_wp2
      refine bodyPost_ret (v := .tuple #[.agg #[.int .i64 k, .int .i64 m, .slice h.A h.n h.c], .slice h5.A h5.n h5.c]) (by simp [results, Try.results52, go_sem, d5]) rfl ⟨h, k, m, xs, h5, ys, rfl, hh, hy, ?_, ?_, ?_⟩
      · exact ((F5.farc (p := ⟨w.heap.size, 0, none⟩) (fun e => hrow _ e rfl) _).farc (p := ⟨w.heap.size, 1, none⟩) (fun e => hrow _ e rfl) _).farc (p := ⟨w.heap.size, 2, none⟩) (fun e => hrow _ e rfl) _
      · exact ((O5.farc (p := ⟨w.heap.size, 0, none⟩) (fun e => hrB _ e rfl) _).farc (p := ⟨w.heap.size, 1, none⟩) (fun e => hrB _ e rfl) _).farc (p := ⟨w.heap.size, 2, none⟩) (fun e => hrB _ e rfl) _
      · exact ((G5.setCell (p := ⟨w.heap.size, 0, none⟩) (Nat.le_refl _) _).setCell (p := ⟨w.heap.size, 1, none⟩) (Nat.le_refl _) _).setCell (p := ⟨w.heap.size, 2, none⟩) (Nat.le_refl _) _

set_option maxRecDepth 100000 in
set_option maxHeartbeats 4000000 in
theorem drawTransferFrame_any (A : Option Addr) (n c : Nat) (bs : List Int) (w : World) (r : Rd w A n (byteV bs)) (hx : ∀ x ∈ bs, 0 ≤ x ∧ x ≤ 255) (hn : n ≤ 4096) :
    Calls Try.prog 40 #[.slice A n c] w (DrawnFL 6 w) := by
  have b0 : Below w.heap.size w (w.alloc (.cells #[.int .i64 0, .int .i64 0, .slice none 0 0] 28)) := (Below.refl _ _).alloc (Nat.le_refl _) _
  have B0 := Blk.new w 28 #[.int .i64 0, .int .i64 0, .slice none 0 0]
  go_enter Try.func40, Try.ntmps40
  go_wp2_with fail
  generalize w.alloc (.cells #[.int .i64 0, .int .i64 0, .slice none 0 0] 28) = w0 at b0 B0 ⊢
  have p0 := B0.lt
  refine (l01From_any A n c bs _ (r.below b0) hx hn).mono ?_
  rintro e w1 ⟨g, rfl, S1, b1⟩
  have hg := S1.lt
  have B1 := B0.below b1 p0
  have bw := b0.trans (b1.mono b0.size)
  have hz1 : w.heap.size < w1.heap.size := B1.lt
  clear b0 b1 B0 r hx hn
  go_wp2_with fail
  refine (l25DrawFrame_any _ g _ S1).mono ?_
  rintro e w2 ⟨h, k, m, xs, rfl, hh, L2⟩
  clear S1
  have hrow : ∀ b, h.row = some b → b ≠ w.heap.size := fun b e => by have := (L2.own.rowlt b e).1; omega
  simp only [FrameV]
  go_wp2_with fail
  have HQS := Lib.hid (show (w2.alloc (.cells #[.int .i64 k, .int .i64 m, .slice h.A h.n h.c] 28)).heap.size = w2.heap.size + 1 from World.size_alloc _ _)
  have K3 := Blk.new w2 28 #[.int .i64 k, .int .i64 m, .slice h.A h.n h.c]
  have L3 := L2.alloc (.cells #[.int .i64 k, .int .i64 m, .slice h.A h.n h.c] 28)
  have h2 : w1.heap.size ≤ w2.heap.size := L2.gr.size
  clear L2
  generalize w2.alloc (.cells #[.int .i64 k, .int .i64 m, .slice h.A h.n h.c] 28) = w3 at *
  have q3 := K3.lt
  rw [← HQS.out]
  have M3 := Lst.start L3.src 2
  have HMZ := Lib.hid (show (w3.alloc (.cells #[] 2)).heap.size = w3.heap.size + 1 from World.size_alloc _ _)
  generalize hAA : (some ⟨w3.heap.size, 0, none⟩ : Option Addr) = AA at M3 ⊢
  clear hAA HQS
  generalize w2.heap.size = Q at *
  generalize w3.alloc (.cells #[] 2) = w4 at *
  refine (l01Next_any _ g 5 _ M3.src (by decide)).mono ?_
  rintro e w5 ⟨u, rfl, u0, u1, g5, S5⟩
  have M5 := M3.next g5 S5
  obtain ⟨u, rfl⟩ := Int.eq_ofNat_of_zero_le u0
  have hQ1 : Q ≠ w.heap.size := by omega
  have hQ2 : w.heap.size ≠ Q := by omega
  have hg1 : g ≠ Q := by omega
  clear M3 g5 S5 HMZ
  go_wp2_with fail
  go_loopw [6, 7, 8] (fun v a i wr => ∃ (h' : Hd) (ys : List Int) (t : Int) (j : Nat), v = .slice h'.A h'.n h'.c ∧ a = .int .i64 t ∧ i = .int .i64 j ∧ h'.n + j ≤ 4 ∧ -1 ≤ t ∧ t + 31 * (j : Int) ≤ 130 ∧ Lst w3 wr _ g h' ys) (fun _ _ i _ => (intOf i).toNat)
  case atStart => exact ⟨_, [], -1, u, rfl, rfl, rfl, by simp only; omega, by omega, by omega, M5⟩
  case round =>
    clear M5
    obtain ⟨h', ys, t, j, rfl, rfl, rfl, hj, t0, t1, M6⟩ := hrel
    by_cases hj0 : 0 < (j : Int)
    · go_wp2_with fail
      refine (l01Next_any _ g 30 _ M6.src (by decide)).mono ?_
      rintro e w7 ⟨x, rfl, x0, x1, g7, S7⟩
      have M7 := M6.next g7 S7
      clear M6 g7 S7
      go_wp2_with (at_builtin; refine wpList_push rfl _ _ rfl w3 _ g h' ys [t + 1 + x] (M7.alloc _) rfl _ 1 1 rfl (rd_one _ _ _) (by omega) ?_; intro G wg hGn LG)
      clear M7
      have hGn' := Lib.hid hGn
      clear hGn
      go_roundw
      case rel => exact ⟨G, ys ++ [t + 1 + x], t + 1 + x, j - 1, by rw [hGn'.out], rfl, by congr 1; omega, by have := hGn'.out; omega, by omega, by omega, LG⟩
      case measure => simp [intOf]; omega
    · have hn4 : h'.n ≤ 4 := by omega
      clear hj
      go_wp2_with fail
      refine (l01Next_any _ g 16 _ M6.src (by decide)).mono ?_
      rintro e w7 ⟨x, rfl, -, -, g7, S7⟩
      have M7 := M6.next g7 S7
      clear M6 g7 S7
      by_cases hx0 : x = 0
      · subst hx0
        go_wp2_with fail
        refine (l01Pick_any _ g _ 2 2 [0, 5000] _ (M7.alloc (.cells (ints [0, 5000]).toArray 2)).src (rd_list _ _ _ _ rfl) (by decide) (by decide) (fun ad e => by cases e; have := M7.src.lt; simp only; omega)).mono ?_
        rintro e w8 ⟨y, -, rfl, g8, S8⟩
        have M8 := (M7.alloc (.cells (ints [0, 5000]).toArray 2)).next g8 S8
        clear M7 g8 S8
        go_wp2_with (at_builtin; refine wpList_push rfl _ _ rfl w3 _ g h' ys [y] (M8.alloc _) rfl _ 1 1 rfl (rd_one _ _ _) (by omega) ?_; intro G wg hGn LG; have hGn' := Lib.hid hGn; clear hGn M8; have hn5 : G.n ≤ 6 := (by have := hGn'.out; omega); have L9 := L3.over LG; have K9 := Blk.grown K3 LG.gr (fun c => by injection c with c; omega); have B9 : Blk wg w.heap.size 28 #[.int .i64 0, .int .i64 0, .slice none 0 0] := Blk.grown B1 L9.gr (fun c => by injection c with c; omega); have hrB : ∀ b, G.row = some b → b ≠ w.heap.size := (fun b e => by have := (LG.own.rowlt b e).1; omega); have F9 := (L9.fin bw (by omega)).1; have G9 := (L9.fin bw (by omega)).2; have O9 := LG.own.mono (C := w.heap.size) (by omega); have c9 := fun o => K9.cell o; have f9 := fun o => K9.frozen o; have q9 := K9.lt; have d9 := fun o => B9.cell o; have e9 := fun o => B9.frozen o; have p9 := B9.lt)
        clear LG L9 K9 B9 K3 L3
        refine bodyPost_ret (v := .tuple #[.agg #[.int .i64 k, .int .i64 m, .slice h.A h.n h.c], .slice G.A G.n G.c]) (by simp [results, Try.results40, go_sem, d9]) rfl ⟨h, k, m, xs, G, _, rfl, hh, hn5, ((F9.farc (p := ⟨w.heap.size, 0, none⟩) (fun e => hrow _ e rfl) _).farc (p := ⟨w.heap.size, 1, none⟩) (fun e => hrow _ e rfl) _).farc (p := ⟨w.heap.size, 2, none⟩) (fun e => hrow _ e rfl) _, ((O9.farc (p := ⟨w.heap.size, 0, none⟩) (fun e => hrB _ e rfl) _).farc (p := ⟨w.heap.size, 1, none⟩) (fun e => hrB _ e rfl) _).farc (p := ⟨w.heap.size, 2, none⟩) (fun e => hrB _ e rfl) _, ((G9.setCell (p := ⟨w.heap.size, 0, none⟩) (Nat.le_refl _) _).setCell (p := ⟨w.heap.size, 1, none⟩) (Nat.le_refl _) _).setCell (p := ⟨w.heap.size, 2, none⟩) (Nat.le_refl _) _⟩
      · have hx1 : (x == 0) = false := by simpa using hx0
        have L9 := L3.over M7
        have K9 := Blk.grown K3 M7.gr (fun c => by injection c with c; omega)
        have B9 : Blk w7 w.heap.size 28 #[.int .i64 0, .int .i64 0, .slice none 0 0] := Blk.grown B1 L9.gr (fun c => by injection c with c; omega)
        have hrB : ∀ b, h'.row = some b → b ≠ w.heap.size := fun b e => by have := (M7.own.rowlt b e).1; omega
        have F9 := (L9.fin bw (by omega)).1
        have G9 := (L9.fin bw (by omega)).2
        have O9 := M7.own.mono (C := w.heap.size) (by omega)
        have c9 := fun o => K9.cell o; have f9 := fun o => K9.frozen o; have q9 := K9.lt; have d9 := fun o => B9.cell o; have e9 := fun o => B9.frozen o; have p9 := B9.lt
        clear M7 L9 K9 B9 K3 L3
        go_wp2
        refine bodyPost_ret (v := .tuple #[.agg #[.int .i64 k, .int .i64 m, .slice h.A h.n h.c], .slice h'.A h'.n h'.c]) (by simp [results, Try.results40, go_sem, d9]) rfl ⟨h, k, m, xs, h', _, rfl, hh, by omega, ((F9.farc (p := ⟨w.heap.size, 0, none⟩) (fun e => hrow _ e rfl) _).farc (p := ⟨w.heap.size, 1, none⟩) (fun e => hrow _ e rfl) _).farc (p := ⟨w.heap.size, 2, none⟩) (fun e => hrow _ e rfl) _, ((O9.farc (p := ⟨w.heap.size, 0, none⟩) (fun e => hrB _ e rfl) _).farc (p := ⟨w.heap.size, 1, none⟩) (fun e => hrB _ e rfl) _).farc (p := ⟨w.heap.size, 2, none⟩) (fun e => hrB _ e rfl) _, ((G9.setCell (p := ⟨w.heap.size, 0, none⟩) (Nat.le_refl _) _).setCell (p := ⟨w.heap.size, 1, none⟩) (Nat.le_refl _) _).setCell (p := ⟨w.heap.size, 2, none⟩) (Nat.le_refl _) _⟩
end Go.Proofs.Ytlgmdekhlcbhoaa
