/- Frames: the table of a channel: places, interleaving; zeros laid behind a slice. Condition: width 16, at most 40 rows. -/
import Derived.Test.YtlgmdekhlcbhoaaFraD
import Derived.Test.YtlgmdekhlcbhoaaChLen
import Derived.Test.YtlgmdekhlcbhoaaVit
import Derived.Lib.AppendZerosOnto
namespace Go.Proofs.Ytlgmdekhlcbhoaa
open Go.RowKit

theorem zeroCells_ints (n : Nat) : (Builtin.zeroCells (Value.int .i64 0).cells n).toList = ints (List.replicate n 0) := by
  unfold Builtin.zeroCells ints
  apply List.ext_getElem
  · simp [Value.cells]
  · intro i h1 h2
    simp [Value.cells, Nat.mod_one]
theorem run_append_zeros_Own {P : Program} (w : World) (t tn ty e : TypeId) (i : TypeInfo) (ht : P.underlying t = some (.slice e)) (htn : P.underlying tn = some (.int .i64)) (hi : P.info? e = some i) (hz : i.zero = some (.int .i64 0)) (hsize : i.size = 1) (hby : i.bytes = 8)
    (B : Nat) (h : Hd) (xs : List Int) (o : Own w B 1 h (ints xs)) (hp : 0 < h.n) (k : Nat) (hk : h.n + k ≤ 100000) (hB : B ≤ w.heap.size) :
    ∃ q w', (Builtin.append_ #[t, tn] ty #[.slice h.A h.n h.c, .int .i64 k]).run P w = .ok (.slice q.A q.n q.c) w' ∧ q.n = h.n + k ∧ Own w' B 1 q (ints (xs ++ List.replicate k 0)) ∧ w.grownBy w' h.row := by
  obtain ⟨hA, n, cap⟩ := h
  simp only at hp hk
  have hlen := o.len
  have hnc := o.nc
  simp only [Nat.mul_one] at hlen hnc
  rcases hA with _ | ⟨b, off, sp⟩
  · have := o.nil_ rfl; simp only at this; omega
  have hrow : Hd.row ⟨some ⟨b, off, sp⟩, n, cap⟩ = some b := Hd.row_mk (h := ⟨some ⟨b, off, sp⟩, n, cap⟩) rfl (by simp only; omega)
  rw [hrow]
  obtain ⟨hb1, hb2, hsp, hcell⟩ := o.at_ _ rfl (by simp only; omega)
  simp only at hsp hb1 hb2 hcell
  subst hsp
  simp only [Nat.mul_one] at hcell
  by_cases hroom : n + k ≤ cap
  · have hw : IntKind.i64.wrap (k : Int) = k := by rw [IntKind.wrap_i64]; omega
    have hneg : ¬ ((k : Int) < 0) := by omega
    have h48i : ¬ (281474976710656 < (k : Int) * (i.bytes : Int)) := by rw [hby]; omega
    have hc' : ∀ j, j < (ints (List.replicate k 0)).length → (w.cell? ⟨b, off + n + j, none⟩).isSome = true := fun j hj => by
      have hj' : j < k := by simpa [ints] using hj
      obtain ⟨⟨v, hv, _⟩, _⟩ := hcell (n + j) (by omega)
      rw [Addr.add_lit] at hv
      rw [Nat.add_assoc, hv]; rfl
    have hf' : ∀ j, j < (ints (List.replicate k 0)).length → w.frozen? ⟨b, off + n + j, none⟩ = false := fun j hj => by
      have hj' : j < k := by simpa [ints] using hj
      obtain ⟨_, hv⟩ := hcell (n + j) (by omega)
      rw [Addr.add_lit] at hv
      rw [Nat.add_assoc, hv]
    have hst := run_storeCells_cells (P := P) b (off + n) (ints (List.replicate k 0)) 0 w (by simpa using hc') (by simpa using hf') (oneCell_ints _)
    simp only [Nat.add_zero] at hst
    have hrun : (Builtin.append_ #[t, tn] ty #[.slice (some ⟨b, off, none⟩) n cap, .int .i64 k]).run P w = .ok (.slice (some ⟨b, off, none⟩) (n + k) cap) (w.setCells b (off + n) (ints (List.replicate k 0))) := by
      by_cases hk0 : k = 0
      · subst hk0
        simp [Builtin.append_, run_underlying ht, run_underlying htn, sizeOf, typeInfo, hi, asInt, asIntOf, (show IntKind.i64.wrap 0 = 0 by decide), hsize, hnc, storeCells, ints, World.setCells]
      · simp [Builtin.append_, run_underlying ht, run_underlying htn, sizeOf, typeInfo, zeroValue, hi, hz, asInt, asIntOf, hw, hneg, h48i, hsize, hroom, hk0, Addr.add_lit, zeroCells_ints, hst]
    refine ⟨⟨some ⟨b, off, none⟩, n + k, cap⟩, _, hrun, rfl, ⟨by rw [ints_append, List.length_append, hlen]; simp [ints], hroom, o.max, (fun h => by cases h), fun ad' e' _ => ?_⟩, grown_setCells _ _ _ (World.grownBy.refl _ _)⟩
    injection e' with e'
    subst e'
    refine ⟨hb1, by rw [size_setCells]; exact hb2, rfl, fun j hj => ?_⟩
    simp only [Nat.mul_one] at hj
    obtain ⟨⟨v, hv, hu⟩, hfr⟩ := hcell j hj
    refine ⟨?_, by rw [World.frozen?_setCells]; exact hfr⟩
    rw [Addr.add_lit] at hv ⊢
    have hkl : (ints (List.replicate k 0)).length = k := by simp [ints]
    rw [ints_append]
    by_cases hin : n ≤ j ∧ j < n + k
    · obtain ⟨q, rfl⟩ : ∃ q, j = n + q := ⟨j - n, by omega⟩
      have hq : q < (ints (List.replicate k 0)).length := by omega
      refine ⟨(ints (List.replicate k 0))[q], ?_, fun u hu' => ?_⟩
      · have := World.cell?_setCells_in b (ints (List.replicate k 0)) (off + n) w hc' q hq
        rw [Nat.add_assoc] at this
        exact this
      · rw [List.getElem?_append_right (by omega), hlen, Nat.add_sub_cancel_left, List.getElem?_eq_getElem hq] at hu'
        exact Option.some.inj hu'
    · refine ⟨v, by rw [World.cell?_setCells_out b _ _ w _ (fun _ _ => by simp only; omega)]; exact hv, fun u hu' => ?_⟩
      by_cases hj2 : j < (ints xs).length
      · rw [List.getElem?_append_left hj2] at hu'
        exact hu u hu'
      · rw [List.getElem?_append_right (by omega)] at hu'
        rw [List.getElem?_eq_none (by omega)] at hu'
        cases hu'
  · have hg : cap < n + k := by omega
    have hold : (Builtin.firstCells i.size n (.slice (some ⟨b, off, none⟩) n cap)).run P w.drew = .ok (ints xs).toArray w.drew := by
      refine run_firstCells_some (P := P) w.drew i.size n ⟨b, off, none⟩ n cap (ints xs) (by rw [hsize]; omega) (fun j u hj => ?_)
      have hjl : j < (ints xs).length := (List.getElem?_eq_some_iff.1 hj).1
      obtain ⟨⟨v, hv, hu⟩, _⟩ := hcell j (by omega)
      show w.cell? _ = _
      rw [hv, hu u hj]
    have hge := grownCap_ge w (n + k) cap e
    have hcm : grownCap w (n + k) cap e ≤ maxLen := grownCap_le_maxLen w (n + k) cap e (by unfold maxLen; omega)
    have hr := Lib.run_append_grow_zeros (P := P) w t tn ty e i _ .i64 .i64 ht htn hi hz (some ⟨b, off, none⟩) n cap (ints xs) hold k (by omega) (by rw [hsize]; decide) hg (by omega) (by rw [hby]; omega) (growslice_fits hg (by rw [hby]; omega))
    have hown : ((w.drew).alloc (.cells ((ints xs).toArray ++ Builtin.zeroCells (Value.int .i64 0).cells k ++ Builtin.zeroCells (Value.int .i64 0).cells (grownCap w (n + k) cap e - (n + k))) e)).ownsRow w.heap.size e 1 (.slice (some ⟨w.heap.size, 0, none⟩) (n + k) (grownCap w (n + k) cap e)) (n + k) (ints (xs ++ List.replicate k 0)) := by
      refine ⟨by rw [ints_append, List.length_append, hlen]; simp [ints], .inr ⟨w.heap.size, _, _, rfl, Nat.le_refl _, heap_alloc_new w.drew _, hge, hcm, ?_, ?_⟩⟩
      · simp only [Array.size_append, List.size_toArray, size_zeroCells, hlen, Nat.mul_one]
        show n + k * 1 + (grownCap w (n + k) cap e - (n + k)) * 1 = _
        omega
      · simp only [Array.toList_append, zeroCells_ints]
        rw [← ints_append]
        have : (n + k) * 1 = (ints (xs ++ List.replicate k 0)).length := by rw [ints_append, List.length_append, hlen]; simp [ints]
        rw [this]
        exact List.take_left
    obtain ⟨q, hq, hqn, ok, _⟩ := Own.of_row (by decide) hown
    refine ⟨q, _, hr.trans (by rw [hq]), hqn, ok.mono hB, ⟨rfl, rfl, rfl, by simp, fun k hk _ => by first | exact heap_alloc_old w.drew _ k hk | exact heap_alloc_old w.drew _ hk⟩⟩

def colL (m k : Nat) : List Int := (List.range m).map fun (j : Nat) => (j : Int) * 16 + (k : Int)
theorem colL_succ (m k : Nat) : colL (m + 1) k = colL m k ++ [(m : Int) * 16 + k] := by unfold colL; rw [range_map_snoc]
def plc (m : Nat) : List Int := catTo (colL m) 16
theorem catTo_len {X : Nat → List Int} {c : Nat} (h : ∀ k, (X k).length = c) : ∀ k, (catTo X k).length = k * c
  | 0 => by simp [catTo]
  | k + 1 => by rw [catTo_succ, List.length_append, catTo_len h k, h, Nat.succ_mul]
theorem plc_length (m : Nat) : (plc m).length = 16 * m := catTo_len (fun k => by unfold colL; simp) 16
theorem plc_mem {m : Nat} {p : Int} (h : p ∈ plc m) : 0 ≤ p ∧ p < 16 * m := by
  unfold plc catTo colL at h
  rw [List.mem_flatMap] at h
  obtain ⟨i, hi, h⟩ := h
  rw [List.mem_map] at h
  obtain ⟨j, hj, rfl⟩ := h
  rw [List.mem_range] at hi hj
  omega
theorem plc_bd {m t : Nat} (h : t < 16 * m) : 0 ≤ (plc m).getD t 0 ∧ (plc m).getD t 0 < 16 * m := by
  have hl : t < (plc m).length := by rw [plc_length]; exact h
  rw [getD_at hl]
  exact plc_mem (List.getElem_mem hl)
def ileavTo (xs : List Int) (m k : Nat) : List Int := (List.range k).map fun t => xs.getD ((plc m).getD t 0).toNat 0
theorem ileavTo_succ (xs : List Int) (m k : Nat) : ileavTo xs m (k + 1) = ileavTo xs m k ++ [xs.getD ((plc m).getD k 0).toNat 0] := by unfold ileavTo; rw [range_map_snoc]
def ileav (xs : List Int) (m : Nat) : List Int := ileavTo xs m (16 * m)
theorem ileav_length (xs : List Int) (m : Nat) : (ileav xs m).length = 16 * m := by unfold ileav ileavTo; simp
theorem ileav_bits {xs : List Int} {m : Nat} (h : allIn xs 0 1 = true) : allIn (ileav xs m) 0 1 = true := by
  unfold ileav ileavTo allIn
  rw [List.all_eq_true]
  intro x hx
  rw [List.mem_map] at hx
  obtain ⟨t, _, rfl⟩ := hx
  have := getD_bit h ((plc m).getD t 0).toNat
  exact inR_mk this.1 this.2

set_option maxRecDepth 100000 in
set_option maxHeartbeats 2000000 in
theorem places_any (m : Nat) (w : World) (hm : m ≤ 40) :
    Calls Try.prog 169 #[.int .i64 m, .int .i64 16] w fun e w' => ∃ h : Hd, e = .returned (.slice h.A h.n h.c) ∧ Own w' w.heap.size 1 h (ints (plc m)) ∧ Below w.heap.size w w' := by
  go_enter Try.func169, Try.ntmps169
  have O0 := Own.nil w w.heap.size 1
  go_wp2
  go_loopw [5, 9] (fun v i wr => ∃ (k : Nat) (hb : Hd), k ≤ 16 ∧ i = .int .i64 k ∧ v = .slice hb.A hb.n hb.c ∧ hb.n ≤ 40 * k ∧ Own wr w.heap.size 1 hb (ints (catTo (colL m) k)) ∧ Below w.heap.size w wr) (fun _ i _ => 16 - (intOf i).toNat)
  case atStart => exact ⟨0, ⟨none, 0, 0⟩, Nat.zero_le _, rfl, rfl, Nat.zero_le _, O0, Below.refl _ _⟩
  case round =>
    clear O0
    obtain ⟨k, hb, hk, rfl, rfl, hbn, OB, hbel⟩ := hrel
    have hsz := hbel.size
    by_cases hlt : k < 16
    · have hltI : (k : Int) < 16 := by omega
      have HM := Lib.hid (catTo_succ (colL m) k)
      generalize catTo (colL m) k = L at *
      go_wp2
      go_loopw [5, 13] (fun v i wq => ∃ (j : Nat) (hb : Hd), j ≤ m ∧ i = .int .i64 j ∧ v = .slice hb.A hb.n hb.c ∧ hb.n ≤ 40 * k + j ∧ Own wq w.heap.size 1 hb (ints (L ++ colL j k)) ∧ Below w.heap.size w wq) (fun _ i _ => m - (intOf i).toNat)
      case atStart => exact ⟨0, hb, Nat.zero_le _, rfl, rfl, hbn, by rw [show colL 0 k = [] from rfl, List.append_nil]; exact OB, hbel⟩
      case round =>
        clear OB hbel hsz hbn
        obtain ⟨j, hb, hj, rfl, rfl, hbn, OB, bi⟩ := hrel
        have hsz2 := bi.size
        have hsz0 : w.heap.size ≤ w.heap.size := Nat.le_refl _
        by_cases hjl : j < m
        · have HT := Lib.hid (colL_succ j k)
          go_wp2_with (at_builtin; refine wpList_append_Own rfl _ _ 22 rfl 2 1 8 Try.underlying22 Int64_info (by decide) w.heap.size hb _ rfl (OB.below ((Below.refl _ _).alloc (Nat.le_refl _) _)) _ 1 1 (ints [(j : Int) * 16 + (k : Int)]) rfl (by rw [Nat.mul_one]; exact rd_one _ _ _) (oneCell_ints _) (by first | omega | (simp only; omega)) (by decide) (Nat.le_trans hsz2 (by simp)) ?_; intro k2 w2 hk2 hO2 gg hat)
          have HK2 := Lib.hid hk2
          clear hk2
          go_roundw
          case rel => exact ⟨j + 1, k2, by omega, by go_num, (by first | rfl | rw [HK2.out]), by rw [HK2.out]; omega, by rw [HT.out, ← List.append_assoc, ints_append]; exact hO2, bstepg (bi.trans (((Below.refl _ _).alloc (Nat.le_refl _) _).mono hsz2)) gg hsz0 (fun b e => (OB.rowlt b e).1)⟩
          case measure => simp [intOf]; omega
        · obtain rfl : j = m := by omega
          rw [← HM.out] at OB
          go_wp2
          go_roundw
          case rel => exact ⟨k + 1, hb, by omega, by go_num, rfl, by omega, OB, bi⟩
          case measure => simp [intOf]; omega
    · obtain rfl : k = 16 := by omega
      go_wp2
      go_ret
      exact ⟨hb, rfl, OB, hbel⟩

set_option maxRecDepth 100000 in
set_option maxHeartbeats 2000000 in
theorem l26From_any (m : Nat) (w : World) (hm : m ≤ 40) :
    Calls Try.prog 167 #[.int .i64 m, .int .i64 16] w fun e w' => ∃ h : Hd, e = .returned (.slice h.A h.n h.c) ∧ Own w' w.heap.size 1 h (ints (plc m)) ∧ Below w.heap.size w w' := by
  go_enter Try.func167, Try.ntmps167
  go_wp2
  have hb0 : Below w.heap.size w (w.alloc (.cells #[] 2)) := (Below.refl _ _).alloc (Nat.le_refl _) _
  have O0 : Own (w.alloc (.cells #[] 2)) w.heap.size 1 ⟨some ⟨w.heap.size, 0, none⟩, 0, 0⟩ (ints []) := Own.empty _ _ _ _
  generalize hAA : (some ⟨w.heap.size, 0, none⟩ : Option Addr) = AA at O0 ⊢
  clear hAA
  generalize w.alloc (.cells #[] 2) = w1 at hb0 O0 ⊢
  go_loopw [5, 6] (fun v i wr => ∃ (k : Nat) (hb : Hd), k ≤ 16 ∧ i = .int .i64 k ∧ v = .slice hb.A hb.n hb.c ∧ hb.n ≤ 40 * k ∧ Own wr w.heap.size 1 hb (ints (catTo (colL m) k)) ∧ Below w.heap.size w wr) (fun _ i _ => 16 - (intOf i).toNat)
  case atStart => exact ⟨0, ⟨AA, 0, 0⟩, Nat.zero_le _, rfl, rfl, Nat.zero_le _, O0, hb0⟩
  case round =>
    clear O0 hb0
    obtain ⟨k, hb, hk, rfl, rfl, hbn, OB, hbel⟩ := hrel
    have hsz := hbel.size
    by_cases hlt : k < 16
    · have hltI : (k : Int) < 16 := by omega
      have HM := Lib.hid (catTo_succ (colL m) k)
      generalize catTo (colL m) k = L at *
      go_wp2
      go_loopw [5, 7] (fun v i wq => ∃ (j : Nat) (hb : Hd), j ≤ m ∧ i = .int .i64 j ∧ v = .slice hb.A hb.n hb.c ∧ hb.n ≤ 40 * k + j ∧ Own wq w.heap.size 1 hb (ints (L ++ colL j k)) ∧ Below w.heap.size w wq) (fun _ i _ => m - (intOf i).toNat)
      case atStart => exact ⟨0, hb, Nat.zero_le _, rfl, rfl, hbn, by rw [show colL 0 k = [] from rfl, List.append_nil]; exact OB, hbel⟩
      case round =>
        clear OB hbel hsz hbn
        obtain ⟨j, hb, hj, rfl, rfl, hbn, OB, bi⟩ := hrel
        have hsz2 := bi.size
        have hsz0 : w.heap.size ≤ w.heap.size := Nat.le_refl _
        by_cases hjl : j < m
        · have HT := Lib.hid (colL_succ j k)
          go_wp2_with (at_builtin; refine wpList_append_Own rfl _ _ 22 rfl 2 1 8 Try.underlying22 Int64_info (by decide) w.heap.size hb _ rfl (OB.below ((Below.refl _ _).alloc (Nat.le_refl _) _)) _ 1 1 (ints [(j : Int) * 16 + (k : Int)]) rfl (by rw [Nat.mul_one]; exact rd_one _ _ _) (oneCell_ints _) (by first | omega | (simp only; omega)) (by decide) (Nat.le_trans hsz2 (by simp)) ?_; intro k2 w2 hk2 hO2 gg hat)
          have HK2 := Lib.hid hk2
          clear hk2
          go_roundw
          case rel => exact ⟨j + 1, k2, by omega, by go_num, (by first | rfl | rw [HK2.out]), by rw [HK2.out]; omega, by rw [HT.out, ← List.append_assoc, ints_append]; exact hO2, bstepg (bi.trans (((Below.refl _ _).alloc (Nat.le_refl _) _).mono hsz2)) gg hsz0 (fun b e => (OB.rowlt b e).1)⟩
          case measure => simp [intOf]; omega
        · obtain rfl : j = m := by omega
          rw [← HM.out] at OB
          go_wp2
          go_roundw
          case rel => exact ⟨k + 1, hb, by omega, by go_num, rfl, by omega, OB, bi⟩
          case measure => simp [intOf]; omega
    · obtain rfl : k = 16 := by omega
      go_wp2
      go_ret
      exact ⟨hb, rfl, OB, hbel⟩

set_option maxHeartbeats 1000000 in
theorem isTable_any (m : Nat) (w : World) (h1 : 1 ≤ m) (hm : m ≤ 40) :
    Calls Try.prog 178 #[.int .i64 m, .int .i64 16] w fun e w' => e = .returned (.bool true) ∧ w = w' := by
  have e1 := inR_mk (x := (m : Int)) (lo := 1) (hi := 40) (by omega) (by omega)
  have e2 := inR_mk (x := 16) (lo := 1) (hi := 40) (by omega) (by omega)
  go_enter Try.func178, Try.ntmps178
  go_wp2_with (go_at_call 99; refine (within_any _ _ _ _).mono ?_; rintro e w' ⟨rfl, rfl⟩; first | rw [e1] | rw [e2])
  go_ret
  refine ⟨?_, rfl⟩
  show Ending.returned (.bool (decide ((m : Int) * 16 ≤ 1200))) = _
  rw [decide_eq_true (by omega)]
set_option maxHeartbeats 1000000 in
theorem tableCode_any (A : Option Addr) (n c m : Nat) (xs : List Int) (w : World) (h1 : 1 ≤ m) (hm : m ≤ 40) (hn : n = 16 * m) (hr : Rd w A n (ints xs)) (hb : allIn xs 0 1 = true) :
    Calls Try.prog 168 #[.slice A n c, .int .i64 m, .int .i64 16] w fun e w' => e = .returned (.int .i64 0) ∧ w = w' := by
  have e1 : okList xs 1200 0 1 = true := by
    have := hr.len
    unfold okList; rw [hb, decide_eq_true (by omega)]; rfl
  subst hn
  go_enter Try.func168, Try.ntmps168
  go_wp2_with (first | (go_at_call 94; refine (isBits_any _ _ _ xs _ _ (by omega) hr).mono ?_; rintro e w' ⟨rfl, rfl⟩; rw [e1]) | (go_at_call 178; refine (isTable_any _ _ h1 hm).mono ?_; rintro e w' ⟨rfl, rfl⟩) | (go_at_call 100; refine (lengthInt_any _ _ _ _ (by omega)).mono ?_; rintro e w' ⟨rfl, rfl⟩))
  go_ret
  exact ⟨rfl, rfl⟩

end Go.Proofs.Ytlgmdekhlcbhoaa
