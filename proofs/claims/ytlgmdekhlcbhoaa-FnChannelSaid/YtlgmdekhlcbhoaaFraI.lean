/- Frames: interleaved bits sorted again, both sides. Condition: width 16, at most 40 rows. -/
import Derived.Test.YtlgmdekhlcbhoaaFraP
namespace Go.Proofs.Ytlgmdekhlcbhoaa
open Go.RowKit

def rowJ (j m k : Nat) : List Int := (List.range j).map fun (i : Nat) => (i : Int) * (m : Int) + (k : Int)
theorem rowJ_succ (j m k : Nat) : rowJ (j + 1) m k = rowJ j m k ++ [(j : Int) * (m : Int) + (k : Int)] := by unfold rowJ; rw [range_map_snoc]
theorem rowJ_all (m k : Nat) : rowJ 16 m k = rowL m k := rfl
theorem jm_bd {j m : Nat} (hj : j ≤ 16) (hm : m ≤ 40) : 0 ≤ (j : Int) * (m : Int) ∧ (j : Int) * (m : Int) ≤ 640 := by
  have h : j * m ≤ 16 * 40 := Nat.mul_le_mul hj hm
  rw [← Int.natCast_mul]; omega

set_option maxRecDepth 100000 in
set_option maxHeartbeats 2000000 in
theorem l26FromT_any (m : Nat) (w : World) (hm : m ≤ 40) :
    Calls Try.prog 167 #[.int .i64 16, .int .i64 m] w fun e w' => ∃ h : Hd, e = .returned (.slice h.A h.n h.c) ∧ Own w' w.heap.size 1 h (ints (plq m)) ∧ Below w.heap.size w w' := by
  go_enter Try.func167, Try.ntmps167
  go_wp2
  have hb0 : Below w.heap.size w (w.alloc (.cells #[] 2)) := (Below.refl _ _).alloc (Nat.le_refl _) _
  have O0 : Own (w.alloc (.cells #[] 2)) w.heap.size 1 ⟨some ⟨w.heap.size, 0, none⟩, 0, 0⟩ (ints []) := Own.empty _ _ _ _
  generalize hAA : (some ⟨w.heap.size, 0, none⟩ : Option Addr) = AA at O0 ⊢
  clear hAA
  generalize w.alloc (.cells #[] 2) = w1 at hb0 O0 ⊢
  go_loopw [5, 6] (fun v i wr => ∃ (k : Nat) (hb : Hd), k ≤ m ∧ i = .int .i64 k ∧ v = .slice hb.A hb.n hb.c ∧ hb.n ≤ 40 * k ∧ Own wr w.heap.size 1 hb (ints (catTo (rowL m) k)) ∧ Below w.heap.size w wr) (fun _ i _ => m - (intOf i).toNat)
  case atStart => exact ⟨0, ⟨AA, 0, 0⟩, Nat.zero_le _, rfl, rfl, Nat.zero_le _, O0, hb0⟩
  case round =>
    clear O0 hb0
    obtain ⟨k, hb, hk, rfl, rfl, hbn, OB, hbel⟩ := hrel
    have hsz := hbel.size
    by_cases hlt : k < m
    · have hltI : (k : Int) < (m : Int) := by omega
      have HM : Hid (catTo (rowL m) (k + 1) = catTo (rowL m) k ++ rowJ 16 m k) := catTo_succ (rowL m) k
      generalize catTo (rowL m) k = L at *
      go_wp2
      go_loopw [5, 7] (fun v i wq => ∃ (j : Nat) (hb : Hd), j ≤ 16 ∧ i = .int .i64 j ∧ v = .slice hb.A hb.n hb.c ∧ hb.n ≤ 40 * k + j ∧ Own wq w.heap.size 1 hb (ints (L ++ rowJ j m k)) ∧ Below w.heap.size w wq) (fun _ i _ => 16 - (intOf i).toNat)
      case atStart => exact ⟨0, hb, Nat.zero_le _, rfl, rfl, hbn, by rw [show rowJ 0 m k = [] from rfl, List.append_nil]; exact OB, hbel⟩
      case round =>
        clear OB hbel hsz hbn
        obtain ⟨j, hb, hj, rfl, rfl, hbn, OB, bi⟩ := hrel
        have hsz2 := bi.size
        have hsz0 : w.heap.size ≤ w.heap.size := Nat.le_refl _
        by_cases hjl : j < 16
        · have hjI : (j : Int) < 16 := by omega
          have hjm : 0 ≤ (j : Int) * (m : Int) ∧ (j : Int) * (m : Int) ≤ 640 := by
            obtain ⟨h1, h2⟩ := jm_bd (j := j) (m := m) (by omega) (by omega)
            exact ⟨h1, h2⟩
          obtain ⟨hjm0, hjm1⟩ := hjm
          have HT := Lib.hid (rowJ_succ j m k)
          go_wp2_with (at_builtin; refine wpList_append_Own rfl _ _ 22 rfl 2 1 8 Try.underlying22 Int64_info (by decide) w.heap.size hb _ rfl (OB.below ((Below.refl _ _).alloc (Nat.le_refl _) _)) _ 1 1 (ints [(j : Int) * (m : Int) + (k : Int)]) rfl (by rw [Nat.mul_one]; exact rd_one _ _ _) (oneCell_ints _) (by first | omega | (simp only; omega)) (by decide) (Nat.le_trans hsz2 (by simp)) ?_; intro k2 w2 hk2 hO2 gg hat)
          have HK2 := Lib.hid hk2
          clear hk2
          go_roundw
          case rel => exact ⟨j + 1, k2, by omega, by go_num, (by first | rfl | rw [HK2.out]), by rw [HK2.out]; omega, by rw [HT.out, ← List.append_assoc, ints_append]; exact hO2, bstepg (bi.trans (((Below.refl _ _).alloc (Nat.le_refl _) _).mono hsz2)) gg hsz0 (fun b e => (OB.rowlt b e).1)⟩
          case measure => simp [intOf]; omega
        · obtain rfl : j = 16 := by omega
          rw [← HM.out] at OB
          go_wp2
          go_roundw
          case rel => exact ⟨k + 1, hb, by omega, by go_num, rfl, by omega, OB, bi⟩
          case measure => simp [intOf]; omega
    · obtain rfl : k = m := by omega
      go_wp2
      go_ret
      exact ⟨hb, rfl, OB, hbel⟩

set_option maxRecDepth 100000 in
set_option maxHeartbeats 2000000 in
theorem l26Sort_any (A : Option Addr) (n c m : Nat) (xs : List Int) (w : World) (hm : m ≤ 40) (hn : n = 16 * m) (hr : Rd w A n (ints xs)) :
    Calls Try.prog 147 #[.slice A n c, .int .i64 16, .int .i64 m] w fun e w' => ∃ h : Hd, e = .returned (.slice h.A h.n h.c) ∧ Own w' w.heap.size 1 h (ints (sortL xs m)) ∧ Below w.heap.size w w' := by
  have HN := Lib.hid hn
  have HE : Hid (sortL xs m = sortTo xs m n) := by unfold Hid sortL; rw [hn]
  have hn6 : n ≤ 640 := by omega
  clear hn
  go_enter Try.func147, Try.ntmps147
  go_wp2_with fail
  refine (l26FromT_any m _ hm).mono ?_
  rintro e w0 ⟨⟨B, pn, pc⟩, rfl, OP, b0⟩
  have hs0 := b0.size
  have hpl : n = pn := by have := OP.rd1.len; rw [plq_length] at this; exact HN.out.trans this
  subst hpl
  go_wp2
  have b1 : Below w.heap.size w (w0.alloc (.cells #[] 2)) := bnext b0 ((Below.refl _ _).alloc (Nat.le_refl _) _)
  have RP := (OP.below ((Below.refl _ _).alloc (Nat.le_refl _) (.cells #[] 2))).rd1
  simp only at RP
  have O0 : Own (w0.alloc (.cells #[] 2)) (w0.alloc (.cells #[] 2)).heap.size 1 ⟨some ⟨w0.heap.size, 0, none⟩, 0, 0⟩ (ints []) := Own.empty _ _ _ _
  have hr1 := hr.below b1
  have hs1 := b1.size
  clear OP hr b0 hs0
  generalize hAA : (some ⟨w0.heap.size, 0, none⟩ : Option Addr) = AA at O0 ⊢
  clear hAA
  generalize w0.alloc (.cells #[] 2) = w1 at *
  go_loopw [8, 9] (fun v i wr => ∃ (k : Nat) (hb : Hd), k ≤ n ∧ i = .int .i64 k ∧ v = .slice hb.A hb.n hb.c ∧ hb.n = k ∧ Own wr w1.heap.size 1 hb (ints (sortTo xs m k)) ∧ Below w1.heap.size w1 wr) (fun _ i _ => n - (intOf i).toNat)
  case atStart => exact ⟨0, ⟨AA, 0, 0⟩, Nat.zero_le _, rfl, rfl, rfl, O0, Below.refl _ _⟩
  case round =>
    clear O0
    obtain ⟨k, ⟨bA, bn, bc⟩, hk, rfl, rfl, hbn, OB, hbel⟩ := hrel
    simp only at hbn
    subst hbn
    have hsz := hbel.size
    have hsz0 : w1.heap.size ≤ w1.heap.size := Nat.le_refl _
    by_cases hlt : bn < n
    · obtain ⟨ad, rfl, hx⟩ := (RP.below hbel).int hlt
      have hpb := plq_bd (m := m) (t := bn) (by rw [← HN.out]; exact hlt)
      obtain ⟨xd, rfl, hy⟩ := (hr1.below hbel).int (show ((plq m).getD bn 0).toNat < n by rw [HN.out]; omega)
      have HM := Lib.hid (sortTo_succ xs m bn)
      generalize (plq m).getD bn 0 = p at *
      generalize xs.getD p.toNat 0 = x at *
      obtain ⟨q, rfl⟩ : ∃ q : Nat, p = q := ⟨p.toNat, by omega⟩
      rw [Int.toNat_natCast] at hy
      have hqn : q < n := by rw [HN.out]; omega
      have hqI : (q : Int) < (n : Int) := by omega
      clear hpb
      generalize sortTo xs m bn = L at *
      go_wp2_with (at_builtin; refine wpList_append_Own rfl _ _ 22 rfl 2 1 8 Try.underlying22 Int64_info (by decide) w1.heap.size ⟨bA, bn, bc⟩ _ rfl (OB.below ((Below.refl _ _).alloc (Nat.le_refl _) _)) _ 1 1 (ints [x]) rfl (by rw [Nat.mul_one]; exact rd_one _ _ _) (oneCell_ints _) (by first | omega | (simp only; omega)) (by decide) (Nat.le_trans hsz (by simp)) ?_; intro k2 w2 hk2 hO2 gg hat)
      have HK2 := Lib.hid hk2
      clear hk2
      go_roundw
      case rel => exact ⟨bn + 1, k2, by omega, by go_num, (by first | rfl | rw [HK2.out]), HK2.out, by rw [HM.out, ints_append]; exact hO2, bstepg (hbel.trans (((Below.refl _ _).alloc (Nat.le_refl _) _).mono hsz)) gg hsz0 (fun b e => (OB.rowlt b e).1)⟩
      case measure => simp [intOf]; omega
    · obtain rfl : bn = n := by omega
      go_wp2
      go_ret
      exact ⟨⟨bA, _, bc⟩, rfl, by rw [HE.out]; exact OB.mono hs1, bnext b1 hbel⟩

set_option maxRecDepth 100000 in
set_option maxHeartbeats 2000000 in
theorem sortBits_any (A : Option Addr) (n c m : Nat) (xs : List Int) (w : World) (h1 : 1 ≤ m) (hm : m ≤ 40) (hn : n = 16 * m) (hr : Rd w A n (ints xs)) (hbits : allIn xs 0 1 = true) :
    Calls Try.prog 152 #[.slice A n c, .int .i64 m, .int .i64 16] w fun e w' => ∃ h : Hd, e = .returned (.tuple #[.slice h.A h.n h.c, .int .i64 0]) ∧ Own w' w.heap.size 1 h (ints (sortL xs m)) ∧ Below w.heap.size w w' := by
  have HN := Lib.hid hn
  have HE : Hid (sortL xs m = layTo xs m n) := by unfold Hid; rw [hn, layTo_sort]
  have hn6 : n ≤ 640 := by omega
  have HZ : Hid (layTo xs m 0 = List.replicate n 0) := by unfold Hid; rw [hn]; rfl
  have HLow : Hid (∀ ad, A = some ad → 0 < n → ad.block < w.heap.size) := fun ad e h => hr.lt e h
  have HL := Lib.hid hr.len
  clear hn
  go_enter Try.func152, Try.ntmps152
  go_wp2_with fail
  refine (tableCode_any A n c m xs _ h1 hm HN.out hr hbits).mono ?_
  rintro e w' ⟨rfl, rfl⟩
  have hmk := run_make_int64 n (by omega)
  go_wp2_with fail
  have OM := Own.made (W := w) (B := w.heap.size) (n := n) (Nat.le_refl _) (by omega) 2
  have bM : Below w.heap.size w (w.alloc (.cells (madeCells #[.int .i64 0] n) 2)) := (Below.refl _ _).alloc (Nat.le_refl _) _
  rw [← HZ.out] at OM
  generalize w.alloc (.cells (madeCells #[.int .i64 0] n) 2) = w0 at OM bM ⊢
  generalize hAA : (some ⟨w.heap.size, 0, none⟩ : Option Addr) = AA at OM ⊢
  clear hAA
  refine (places_any m _ hm).mono ?_
  rintro e w1 ⟨⟨B, pn, pc⟩, rfl, OP, b1⟩
  have bw := bnext bM b1
  have hr1 := hr.below bw
  have RP := OP.rd1
  have OM1 := OM.below b1
  have hpl : n = pn := by have := RP.len; rw [plc_length] at this; exact HN.out.trans this
  simp only at RP
  subst hpl
  have hsep : ∀ b, (⟨AA, n, n⟩ : Hd).row = some b → blkp B n ≠ some b := fun b e1 e2 => by
    have h3 := (OM.rowlt b e1).2
    obtain ⟨ad, rfl, h0, hb⟩ := row_some e2
    have h5 : w0.heap.size ≤ ad.block := OP.wr.base (ad := ad) rfl (by simp only; omega)
    omega
  clear OM bM b1 OP hr HZ
  go_wp2
  go_loopw [26] (fun i wr => ∃ (k : Nat), k ≤ n ∧ i = .int .i64 k ∧ Own wr w.heap.size 1 ⟨AA, n, n⟩ (ints (layTo xs m k)) ∧ Rd wr B n (ints (plc m)) ∧ Rd wr A n (ints xs) ∧ Below w.heap.size w wr) (fun i _ => n - (intOf i).toNat)
  case atStart => exact ⟨0, Nat.zero_le _, rfl, OM1, RP, hr1, bw⟩
  case round =>
    clear OM1 RP hr1 bw
    obtain ⟨k, hk, rfl, OB, RP, hrx, hbel⟩ := hrel
    by_cases hlt : k < n
    · obtain ⟨pd, rfl, hx⟩ := RP.int hlt
      obtain ⟨xd, rfl, hy⟩ := hrx.int hlt
      have hpb := plc_bd (m := m) (t := k) (by rw [← HN.out]; exact hlt)
      have HM : Hid (layTo xs m (k + 1) = (layTo xs m k).set ((plc m).getD k 0).toNat (xs.getD k 0)) := rfl
      generalize (plc m).getD k 0 = p at *
      generalize xs.getD k 0 = x at *
      obtain ⟨q, rfl⟩ : ∃ q : Nat, p = q := ⟨p.toNat, by omega⟩
      rw [Int.toNat_natCast] at HM
      have hqn : q < n := by rw [HN.out]; omega
      have hqI : (q : Int) < (n : Int) := by omega
      clear hpb
      obtain ⟨ad, rfl, hz, hfz⟩ := OB.cell hqn
      have h1 : pd.block ≠ (ad.add q).block := fun c => hsep ad.block (Hd.row_mk (h := ⟨some ad, n, n⟩) rfl (by simp only; omega)) (by unfold blkp; rw [if_neg (by omega)]; rw [block_of_add] at c; simp [blk, c])
      have h2 : xd.block ≠ (ad.add q).block := fun c => by
        have := (OB.rowlt ad.block (Hd.row_mk (h := ⟨some ad, n, n⟩) rfl (by simp only; omega))).1
        have := HLow.out xd rfl (by omega)
        rw [block_of_add] at c
        omega
      have h3 : w.heap.size ≤ (ad.add q).block := by
        have := (OB.rowlt ad.block (Hd.row_mk (h := ⟨some ad, n, n⟩) rfl (by simp only; omega))).1
        rw [block_of_add]; exact this
      have H1 := Lib.hid h1
      have H2 := Lib.hid h2
      have H3 := Lib.hid h3
      clear h1 h2 h3 hsep
      go_wp2
      go_roundw
      case rel => exact ⟨k + 1, by omega, by go_num, by rw [HM.out]; exact OB.set_ hqn rfl x, RP.keep (fun _ e _ => by cases e; exact Below.heap_setCell _ _ _ _ H1.out), hrx.keep (fun _ e _ => by cases e; exact Below.heap_setCell _ _ _ _ H2.out), hbel.setCell H3.out _⟩
      case measure => simp [intOf]; omega
    · obtain rfl : k = n := by omega
      go_wp2
      go_ret2
      exact ⟨⟨AA, k, k⟩, rfl, by rw [HE.out]; exact OB, hbel⟩
end Go.Proofs.Ytlgmdekhlcbhoaa
