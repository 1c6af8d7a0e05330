/- The draws of received channel bits, and of a length. Existential. Condition: a code of at most 4096 bytes. -/
import Derived.Test.YtlgmdekhlcbhoaaDrawG
import Derived.Deep.RegionHeld3
namespace Go.Proofs.Ytlgmdekhlcbhoaa
open Go.RowKit

set_option maxRecDepth 100000 in
set_option maxHeartbeats 4000000 in
theorem drawReceiveFrame_any (A : Option Addr) (n c : Nat) (bs : List Int) (w : World) (r : Rd w A n (byteV bs)) (hx : ∀ x ∈ bs, 0 ≤ x ∧ x ≤ 255) (hn : n ≤ 4096) :
    Calls Try.prog 41 #[.slice A n c] w (DrawnII 1200 (-300) 400 w) := by
  go_enter Try.func41, Try.ntmps41
  go_wp2_with fail
  refine (l01From_any A n c bs _ r hx hn).mono ?_
  rintro e w1 ⟨g, rfl, S1, bw⟩
  have hg := S1.lt
  clear r hx hn
  go_wp2_with fail
  refine (l25DrawFrame_any _ g _ S1).mono ?_
  rintro e w2 ⟨h, k, m, xs, rfl, hh, L2⟩
  clear S1
  simp only [FrameV]
  go_wp2_with fail
  have K3 := Blk.new w2 28 #[.int .i64 k, .int .i64 m, .slice h.A h.n h.c]
  have L3 := L2.alloc (.cells #[.int .i64 k, .int .i64 m, .slice h.A h.n h.c] 28)
  have h2 : w1.heap.size ≤ w2.heap.size := L2.gr.size
  clear L2
  generalize w2.alloc (.cells #[.int .i64 k, .int .i64 m, .slice h.A h.n h.c] 28) = w3 at *
  generalize w2.heap.size = Q at *
  have q3 := K3.lt
  refine (specIsFrame_any ⟨h⟩ ⟨k, m, xs⟩ _ (show h.n ≤ 1048576 by omega) (RdAll.cons (s := ⟨h.A, h.n, ints xs⟩) L3.own.rd1 (RdAll.nil _))).mono ?_
  rintro e w4 ⟨rfl, b4⟩
  have L4 := L3.below b4
  have K4 := K3.below b4 q3
  have h3 : w3.heap.size ≤ w4.heap.size := b4.size
  clear L3 K3 b4 q3
  have hrow3 : ∀ b, h.row = some b → b < w4.heap.size := fun b e => (L4.own.rowlt b e).2
  have hg1 : g ≠ Q := by omega
  have c4 := fun o => K4.cell o
  have q4 := K4.lt
  rcases Bool.eq_false_or_eq_true (frOkC ⟨k, m, xs⟩) with hc | hc
  · have HF := Lib.hid (FrO.of hc)
    rw [hc]
    clear hc
    have L4' : Lst w1 w4.drew _ g h xs := L4.draw 1
    have K4' : Blk w4.drew Q 28 #[.int .i64 k, .int .i64 m, .slice h.A h.n h.c] := K4
    have c4' := fun o => K4'.cell o
    have q4' := K4'.lt
    have hs4 : w4.drew.heap.size = w4.heap.size := rfl
    go_wp2_with fail
    go_region_held3 (fun w' => ∀ o, w'.cell? ⟨Q, o, none⟩ = #[.int .i64 k, .int .i64 m, .slice h.A h.n h.c][o]?)
      (first | (with_reducible assumption) | (intro o; go_keep))
      (first
        | (go_at_call 90; refine (l30Send_any ⟨h⟩ ⟨k, m, xs⟩ _ (RdAll.cons (s := ⟨h.A, h.n, ints xs⟩) L4'.own.rd1 (RdAll.nil _)) HF.out).mono ?_; rintro e w5a ⟨⟨BA, bn, bc⟩, rfl, O5a, b5a⟩; have L5a := L4'.below b5a; have K5a := K4'.below b5a q4'; have c5a := fun o => K5a.cell o; have q5a := K5a.lt)
        | (go_at_call 117; refine (l25Frame_any ⟨h⟩ ⟨k, m, xs⟩ _ (RdAll.cons (s := ⟨h.A, h.n, ints xs⟩) L5a.own.rd1 (RdAll.nil _)) HF.out).mono ?_; rintro e w5 ⟨⟨CA, cn, cc⟩, rfl, O5c, b5⟩; have L5 := L5a.below b5; have M5 := (Lst.begin_ L4'.src b5a O5a).below b5; have K5 := K5a.below b5 q5a; have c5 := fun o => K5.cell o; have q5 := K5.lt; have hcn : (frameC ⟨k, m, xs⟩).length = cn := O5c.rd1.len))
    all_goals
      have hcn2 : (48 : Int) ≤ (cn : Int) ∧ (cn : Int) ≤ 284 := by
        have h1 := frameL_length k m xs HF.out.len
        have h2 : (frameC ⟨k, m, xs⟩).length = (frameL k m xs).length := rfl
        omega
      clear K4' c4' L5a K5a c5a O5a O5c K5 c5 hcn
      have HL : Hid (16 ≤ (sendL (frameC ⟨k, m, xs⟩)).length ∧ (sendL (frameC ⟨k, m, xs⟩)).length ≤ 1000 ∧ allIn (sendL (frameC ⟨k, m, xs⟩)) 0 1 = true) := by
        have h1 := frameL_length k m xs HF.out.len
        have h2 : (frameC ⟨k, m, xs⟩).length = (frameL k m xs).length := rfl
        refine ⟨?_, ?_, sendL_bits (frameL_bits _ _ _)⟩ <;> rw [sendL_length] <;> unfold rowsOf <;> omega
      generalize sendL (frameC ⟨k, m, xs⟩) = ys at *
      have hyn : ys.length = bn := M5.own.rd1.len
      have hb16 : 16 ≤ bn ∧ bn ≤ 1000 := by have := HL.out; omega
      have HB : Hid (allIn ys 0 1 = true) := HL.out.2.2
      clear HL HF hyn
      go_wp2_with fail
      refine (l01Next_any _ g 5 _ L5.src (by decide)).mono ?_
      rintro e w6 ⟨u, rfl, u0, u1, g6, S6⟩
      have L6 := L5.next g6 S6
      have M6 := M5.next g6 S6
      obtain ⟨u, rfl⟩ := Int.eq_ofNat_of_zero_le u0
      clear L5 M5 g6 S6
      go_wp2_with fail
      go_loopw [8, 9] (fun v _ wr => ∃ (j : Nat) (zs : List Int), v = .int .i64 j ∧ j ≤ 4 ∧ allIn zs 0 1 = true ∧ Lst w4.drew wr _ g ⟨BA, bn, bc⟩ zs ∧ Lst w1 wr _ g h xs) (fun v _ _ => (intOf v).toNat)
      case atStart => exact ⟨u, ys, rfl, by omega, HB.out, M6, L6⟩
      case round =>
        clear L6 M6 HB
        obtain ⟨j, zs, rfl, hj, hzb, M6, L6⟩ := hrel
        have HZ := Lib.hid hzb
        clear hzb
        by_cases hj0 : 0 < (j : Int)
        · go_wp2_with fail
          refine (l01Next_any _ g bn _ L6.src (by omega)).mono ?_
          rintro e w7 ⟨i, rfl, i0, i1, g7, S7⟩
          have L7 := L6.next g7 S7
          have M7 := M6.next g7 S7
          obtain ⟨i, rfl⟩ := Int.eq_ofNat_of_zero_le i0
          have hi : i < bn := by omega
          have hiI : (i : Int) < (bn : Int) := by omega
          clear L6 M6 g7 S7
          obtain ⟨ad, rfl, hy, hf⟩ := M7.own.cell hi
          have hbd := getD_bit HZ.out i
          generalize zs.getD i 0 = y at *
          have hrw := M7.own.rowlt ad.block (Hd.row_mk rfl (by have := M7.own.nc; simp only at this ⊢; omega))
          have hrA : h.row ≠ some (ad.add i).block := fun e => by rw [block_of_add] at e; have := hrow3 _ e; omega
          have hle : w1.heap.size ≤ (ad.add i).block := by rw [block_of_add]; omega
          have HM := Lib.hid (M7.set_ hi rfl (1 - y))
          have HLL := Lib.hid (L7.far (p := ad.add i) hle hrA (.int .i64 (1 - y)))
          clear L7 M7 hrw hrA hle
          go_wp2
          go_roundw
          case rel => exact ⟨j - 1, zs.set i (1 - y), by congr 1; omega, by omega, allIn_set HZ.out i (by omega) (by omega), HM.out, HLL.out⟩
          case measure => simp [intOf]; omega
        · have F6 := fun hb => (L6.fin bw hb).2
          go_wp2_with fail
          refine (l01Next_any _ g 16 _ M6.src (by decide)).mono ?_
          rintro e w8 ⟨z, rfl, z0, z1, g8, S8⟩
          have M8 := M6.next g8 S8
          have G8 := bstepg (L6.fin bw (by omega)).2 g8 (Nat.le_refl _) (fun k e => by injection e with e; omega)
          have hcn := hcn2
          clear L6 M6 g8 S8 F6
          obtain ⟨hcn0, hcn1⟩ := hcn2
          by_cases hz : z = 0
          · subst hz
            go_wp2_with fail
            refine (l01Pick_any _ g _ 4 4 [1, -1, 20, -300] _ (M8.alloc (.cells (ints [1, -1, 20, -300]).toArray 2)).src (rd_list _ _ _ _ rfl) (by decide) (by decide) (fun ad e => by cases e; have := M8.src.lt; simp only; omega)).mono ?_
            rintro e w9 ⟨y, hy, rfl, g9, S9⟩
            have hy2 : -300 ≤ y ∧ y ≤ 20 := by simp only [List.mem_cons, List.not_mem_nil, or_false] at hy; omega
            obtain ⟨hy3, hy4⟩ := hy2
            have M9 := (M8.alloc (.cells (ints [1, -1, 20, -300]).toArray 2)).next g9 S9
            have G9 := bstepg (G8.alloc (Below.size G8) (.cells (ints [1, -1, 20, -300]).toArray 2)) g9 (Nat.le_refl _) (fun k e => by injection e with e; omega)
            clear hy M8 G8 g9 S9
            go_wp2
            go_ret2
            exact ⟨⟨BA, bn, bc⟩, zs, _, rfl, by simp only; omega, by omega, by omega, M9.own.mono (by omega), G9⟩
          · have hz' : (z == 0) = false := by simpa using hz
            by_cases hz1 : z = 1
            · subst hz1
              obtain ⟨ad, rfl, hy, hf⟩ := M8.own.cell (show 0 < (⟨BA, bn, bc⟩ : Hd).n by simp only; omega)
              have hrw := M8.own.rowlt ad.block (Hd.row_mk rfl (by have := M8.own.nc; simp only at this ⊢; omega))
              have HM := Lib.hid (M8.set_ (show 0 < (⟨some ad, bn, bc⟩ : Hd).n by simp only; omega) rfl 2)
              rw [Addr.add_zero'] at hy hf HM
              have HG := Lib.hid (G8.setCell (p := ad) (show w.heap.size ≤ ad.block by omega) (.int .i64 2))
              have hbn0 : 0 < bn := by omega
              clear M8 G8
              go_wp2
              go_ret2
              exact ⟨⟨some ad, bn, bc⟩, zs.set 0 2, _, rfl, by simp only; omega, by omega, by omega, HM.out.own.mono (by omega), HG.out⟩
            · have hz1' : (z == 1) = false := by simpa using hz1
              clear hz hz1
              go_wp2
              go_ret2
              exact ⟨⟨BA, bn, bc⟩, zs, _, rfl, by simp only; omega, by omega, by omega, M8.own.mono (by omega), G8⟩
  · rw [hc]
    clear hc
    have L4' : Lst w1 w4.drew _ g h xs := L4.draw 1
    have hs4 : w4.drew.heap.size = w4.heap.size := rfl
    have hmk : ∀ W : World, (Instr.makeSlice 22 (.int .i64 16) (.int .i64 16)).run Try.prog W = .ok (.slice (some ⟨W.heap.size, 0, none⟩) 16 16) (W.alloc (.cells (madeCells #[.int .i64 0] 16) 2)) := fun W => run_make_int64 16 (by decide) W
    go_wp2_with fail
    have LM : Lst w1 (w4.alloc (.cells (madeCells #[.int .i64 0] 16) 2)).drew _ g ⟨some ⟨w4.heap.size, 0, none⟩, 16, 16⟩ (List.replicate 16 0) := (L4.made (n := 16) (by decide) 2).draw 1
    have hS0 := L4'.src
    have hS1 := LM.src
    go_region_held3 (fun w' => Hid (w'.heap.size = w'.heap.size))
      (first | exact (Lib.hid rfl) | exact trivial)
      (first
        | (go_at_call 115; (first | (with_reducible refine (l01Next_any _ g 9 _ hS0 (by decide)).mono ?_) | (with_reducible refine (l01Next_any _ g 9 _ hS1 (by decide)).mono ?_)); rintro e w5 ⟨x, rfl, x0, x1, g5, S5⟩))
    · have M5 := LM.next g5 S5
      clear L4 L4' LM K4 c4
      go_wp2
      go_ret2
      exact ⟨⟨_, 16, 16⟩, _, x, rfl, by simp, by omega, by omega, M5.own.mono (by omega), (M5.fin bw (by omega)).2⟩
    · have M5 := (L4'.next g5 S5).made (n := 16) (by decide) 2
      clear L4 L4' LM K4 c4
      go_wp2
      go_ret2
      exact ⟨⟨_, 16, 16⟩, _, x, rfl, by simp, by omega, by omega, M5.own.mono (by omega), (M5.fin bw (by omega)).2⟩

set_option maxRecDepth 100000 in
set_option maxHeartbeats 4000000 in
theorem drawChannelLength_any (A : Option Addr) (n c : Nat) (bs : List Int) (w : World) (r : Rd w A n (byteV bs)) (hx : ∀ x ∈ bs, 0 ≤ x ∧ x ≤ 255) (hn : n ≤ 4096) :
    Calls Try.prog 42 #[.slice A n c] w (fun e w' => ∃ k : Int, e = .returned (.int .i64 k) ∧ -1 ≤ k ∧ k ≤ 301 ∧ Below w.heap.size w w') := by
  go_enter Try.func42, Try.ntmps42
  go_wp2_with fail
  refine (l01From_any A n c bs _ r hx hn).mono ?_
  rintro e w1 ⟨g, rfl, S1, bw⟩
  have hg := S1.lt
  clear r hx hn
  go_wp2_with fail
  refine (l01Next_any _ g 300 _ S1 (by decide)).mono ?_
  rintro e w2 ⟨x, rfl, x0, x1, g2, S2⟩
  have b2 : Below w2.heap.size w2 (w2.alloc (.cells (ints [0, 1, x, 300, 301, -1]).toArray 2)) := (Below.refl _ _).alloc (Nat.le_refl _) _
  have hlt := S2.lt.1
  go_wp2_with fail
  refine (l01Pick_any _ g _ 6 6 [0, 1, x, 300, 301, -1] _ (S2.below b2) (rd_list _ _ _ _ rfl) (by decide) (by decide) (fun ad e => by cases e; simp only; omega)).mono ?_
  rintro e w3 ⟨y, hy, rfl, g3, S3⟩
  have hy2 : -1 ≤ y ∧ y ≤ 301 := by simp only [List.mem_cons, List.not_mem_nil, or_false] at hy; omega
  have G3 := bstepg (bnext (bstepg bw g2 (Nat.le_refl _) (fun k e => by injection e with e; omega)) b2) g3 (Nat.le_refl _) (fun k e => by injection e with e; omega)
  clear hy
  go_wp2
  go_ret
  exact ⟨y, rfl, hy2.1, hy2.2, G3⟩
end Go.Proofs.Ytlgmdekhlcbhoaa
