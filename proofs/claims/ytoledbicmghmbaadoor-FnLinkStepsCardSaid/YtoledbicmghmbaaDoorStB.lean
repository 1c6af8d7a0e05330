/- Numbers put together, both sides. Condition: as in the text before. -/
import Derived.Test.YtoledbicmghmbaaDoorStA
namespace Go.Proofs.YtoledbicmghmbaaDoor
open Go.RowKit

set_option maxHeartbeats 1000000 in
theorem l01Number_any (n : Int) (w : World) (h0 : -9223372036854775808 < n) (h1 : n ≤ 9223372036854775807) :
    Calls Tryd.prog 123 #[.int .i64 n] w fun e w' => e = .returned (.string ⟨(Lib.itoa n).toArray⟩) ∧ Below w.heap.size w w' := by
  by_cases hn : n < 0
  · obtain ⟨m, hm⟩ : ∃ m : Nat, -n = (m : Int) := ⟨n.natAbs, by omega⟩
    have hmx : m ≤ 9223372036854775807 := by omega
    have HI : Hid (Lib.itoa n = 45 :: Lib.decDigits m) := by
      unfold Hid
      rw [itoa_neg' hn]
      have : n.natAbs = m := by omega
      rw [this]
    have hl : (Lib.decDigits m).length ≤ 20 := by rw [Lib.decDigits_length]; exact nDigits_le 20 m (by omega) (by decide)
    have u1 : IntKind.i64.wrap (-n) = -n := IntWalk.i64_in _ (by omega)
    go_enter Tryd.func123, Tryd.ntmps123
    go_wp2_with fail
    refine (l01Dec_any m _ hmx).mono ?_
    rintro e w' ⟨rfl, b⟩
    go_wp2_with fail
    go_ret
    exact ⟨by rw [HI.out]; exact congrArg Ending.returned (congrArg Value.string (str_add [45] (Lib.decDigits m))), b⟩
  · obtain ⟨m, rfl⟩ : ∃ m : Nat, n = (m : Int) := ⟨n.toNat, by omega⟩
    have hmx : m ≤ 9223372036854775807 := by omega
    have HI : Hid (Lib.itoa (m : Int) = Lib.decDigits m) := by
      unfold Hid
      rw [itoa_pos (by omega), Int.toNat_natCast]
    go_enter Tryd.func123, Tryd.ntmps123
    go_wp2_with fail
    refine (l01Dec_any m _ hmx).mono ?_
    rintro e w' ⟨rfl, b⟩
    go_wp2_with fail
    go_ret
    exact ⟨by rw [HI.out]; rfl, b⟩
theorem itoa_len (n : Int) (h0 : -9223372036854775808 ≤ n) (h1 : n ≤ 9223372036854775807) : (Lib.itoa n).length ≤ 21 := Lib.itoa_length_le n h0 h1
theorem joinI_len (sep : Bs) : ∀ (xs : List Int), (∀ x ∈ xs, -9223372036854775808 ≤ x ∧ x ≤ 9223372036854775807) → (joinI sep xs).length ≤ xs.length * (sep.length + 21)
  | [], _ => by simp [joinI, Lib.join_nil]
  | x :: r, h => by
    have h1 := h x (List.mem_cons_self ..)
    have h2 := itoa_len x h1.1 h1.2
    cases r with
    | nil =>
      unfold joinI
      rw [List.map_cons, List.map_nil, Lib.join_one]
      simp; omega
    | cons y r =>
      have ih := joinI_len sep (y :: r) (fun z hz => h z (List.mem_cons_of_mem _ hz))
      have e : joinI sep (x :: y :: r) = Lib.itoa x ++ (sep ++ joinI sep (y :: r)) := by
        unfold joinI
        simp only [List.map_cons]
        rw [Lib.join_cons, Lib.join_cons]
        unfold Lib.joinTail
        simp
      rw [e]
      simp only [List.length_append, List.length_cons] at ih ⊢
      rw [Nat.add_mul (r.length + 1) 1, Nat.one_mul]
      omega
set_option maxRecDepth 100000 in
set_option maxHeartbeats 2000000 in
theorem l01Join_any (A : Option Addr) (n c : Nat) (xs : List Int) (sep : Bs) (w : World) (hn : n ≤ 1048576) (hs : sep.length ≤ 100) (hr : Rd w A n (ints xs)) (hb : ∀ x ∈ xs, -9223372036854775808 < x ∧ x ≤ 9223372036854775807) :
    Calls Tryd.prog 62 #[.slice A n c, .string ⟨sep.toArray⟩] w fun e w' => e = .returned (.string ⟨(joinI sep xs).toArray⟩) ∧ Below w.heap.size w w' := by
  have HL := Lib.hid hr.len
  have HB := Lib.hid hb
  clear hb
  go_enter Tryd.func62, Tryd.ntmps62
  go_wp2_with fail
  go_loopw [5, 6] (fun s i wr => ∃ k : Nat, k ≤ n ∧ i = .int .i64 k ∧ s = .string ⟨(joinI sep (xs.take k)).toArray⟩ ∧ Below w.heap.size w wr) (fun _ i _ => n - (intOf i).toNat)
  case atStart => exact ⟨0, Nat.zero_le _, rfl, rfl, Below.refl _ _⟩
  case round =>
    obtain ⟨k, hk, rfl, rfl, b⟩ := hrel
    by_cases hlt : k < n
    · have hkx : k < xs.length := by have := HL.out; omega
      have hx0 := HB.out (xs.getD k 0) (by rw [getD_at hkx]; exact List.getElem_mem hkx)
      obtain ⟨ad, rfl, hx⟩ := (hr.below b).int hlt
      have HT : Hid (xs.take (k + 1) = xs.take k ++ [xs.getD k 0]) := by unfold Hid; rw [List.take_succ_eq_append_getElem hkx, getD_at hkx]
      have HJ : Hid (joinI sep (xs.take (k + 1)) = if xs.take k = [] then Lib.itoa (xs.getD k 0) else joinI sep (xs.take k) ++ (sep ++ Lib.itoa (xs.getD k 0))) := by unfold Hid; rw [HT.out, joinI_snoc]
      have hjl : (joinI sep (xs.take k)).length ≤ 1048576 * 121 := by
        have h1 := joinI_len sep (xs.take k) (fun x hx => by have := HB.out x (List.mem_of_mem_take hx); omega)
        have h2 : (xs.take k).length ≤ 1048576 := by rw [List.length_take]; omega
        have h3 := Nat.mul_le_mul h2 (show sep.length + 21 ≤ 121 by omega)
        omega
      have hil := itoa_len (xs.getD k 0) (by omega) (by omega)
      have hsz1 := str_size (joinI sep (xs.take k))
      have hsz2 := str_size sep
      have HK0 : Hid (k = 0 → xs.take k = []) := fun h => by rw [h]; rfl
      have HK1 : Hid (k ≠ 0 → xs.take k ≠ []) := fun h e => by have h1 := congrArg List.length e; rw [List.length_take, List.length_nil] at h1; omega
      generalize xs.getD k 0 = x at *
      have HJ0 : Hid (xs.take k = [] → joinI sep (xs.take k) = []) := fun h => by rw [h]; rfl
      obtain ⟨J, hJ⟩ : ∃ J, joinI sep (xs.take k) = J := ⟨_, rfl⟩
      rw [hJ] at hjl hsz1 HJ HJ0 ⊢
      clear hJ
      by_cases h0 : k = 0
      · have HJ2 : Hid (joinI sep (xs.take (k + 1)) = Lib.itoa x) := by have h1 := HJ.out; rw [if_pos (HK0.out h0)] at h1; exact h1
        have hz := b.size
        subst h0
        obtain rfl : J = [] := by have h1 := HK0.out rfl; exact HJ0.out h1
        rw [Addr.add_zero'] at hx
        have hltI : (0 : Int) < (n : Int) := by omega
        clear HJ HK0 HK1 HT HJ0
        go_wp2_with fail
        refine (l01Number_any x _ (by omega) (by omega)).mono ?_
        rintro e w1 ⟨rfl, b1⟩
        have b2 := b.trans (b1.mono hz)
        go_wp2_with fail
        go_roundw
        case rel => exact ⟨0 + 1, by omega, by go_num, by rw [HJ2.out]; exact congrArg Value.string (str_add [] (Lib.itoa x)), b2⟩
        case measure => simp [intOf]; omega
      · have HJ2 : Hid (joinI sep (xs.take (k + 1)) = J ++ (sep ++ Lib.itoa x)) := by have h1 := HJ.out; rw [if_neg (HK1.out h0)] at h1; exact h1
        have hkp : (0 : Int) < (k : Int) := by omega
        have hz := b.size
        have hA := str_add J sep
        have hlA : (J ++ sep).length ≤ 1048576 * 122 := by rw [List.length_append]; omega
        clear HJ HK0 HK1 HT HJ0
        go_wp2_with fail
        refine (l01Number_any x _ (by omega) (by omega)).mono ?_
        rintro e w1 ⟨rfl, b1⟩
        have b2 := b.trans (b1.mono hz)
        go_wp2_with fail
        go_roundw
        case rel => exact ⟨k + 1, by omega, by go_num, by rw [HJ2.out, ← List.append_assoc, ← str_add (J ++ sep) (Lib.itoa x)], b2⟩
        case measure => simp [intOf]; omega
    · obtain rfl : k = n := by omega
      have HT : Hid (xs.take k = xs) := List.take_of_length_le (by have := HL.out; omega)
      go_wp2_with fail
      go_ret
      exact ⟨by rw [HT.out]; rfl, b⟩
theorem string_info : (Tryd.prog.info? 9).map (fun i => (i.zero, i.size, i.bytes)) = some (some (.string ⟨#[]⟩), 1, 16) := by kernel_rfl
theorem run_make_str (n : Nat) (hn : n ≤ 2097152) (w : World) :
    (Instr.makeSlice 117 (.int .i64 (n : Int)) (.int .i64 (n : Int))).run Tryd.prog w = .ok (.slice (some ⟨w.heap.size, 0, none⟩) n n) (w.alloc (.cells (madeCells #[.string ⟨#[]⟩] n) 9)) := by
  obtain ⟨i0, hi0, hz0, hz1, hz2⟩ := info_parts string_info
  have h := run_make_rowN (P := Tryd.prog) 117 9 i0 _ Tryd.underlying117 hi0 hz0 .i64 .i64 n n (Nat.le_refl _) (by rw [hz2]; omega) (by omega) w
  rw [hz1, Nat.mul_one] at h
  exact h
theorem join_call (g n : Nat) (xs : List Bs) (sep : Bs) (w : World) (hl : xs.length = n) (hn : n ≤ 1048576) (hc : ∀ j, j < n → w.cell? ⟨g, j, none⟩ = some (.string ⟨(xs.getD j []).toArray⟩)) (hg : g < w.heap.size) (hlen : (Lib.join xs sep).length ≤ 140737488355328) :
    Calls Tryd.prog 115 #[.slice (some ⟨g, 0, none⟩) n n, .string ⟨sep.toArray⟩] w fun e w' => e = .returned (.string ⟨(Lib.join xs sep).toArray⟩) ∧ Below w.heap.size w w' := by
  subst hl
  have hm : (xs.map fun l => (⟨l.toArray⟩ : ByteArray)).map (·.data.toList) = xs := by
    rw [List.map_map]
    conv => rhs; rw [← List.map_id xs]
    exact List.map_congr_left fun x _ => rfl
  have h := strings_Join g 0 xs.length (xs.map fun l => (⟨l.toArray⟩ : ByteArray)) ⟨sep.toArray⟩ w (fun j x hx => by
      rw [List.getElem?_map, Option.map_eq_some_iff] at hx
      obtain ⟨y, hy, rfl⟩ := hx
      have hj : j < xs.length := (List.getElem?_eq_some_iff.1 hy).1
      rw [Nat.zero_add, hc j hj, List.getD_eq_getElem?_getD, hy]
      rfl) hg (by rw [List.length_map]; omega) (by rw [List.length_map]; exact Nat.le_refl _) (by rw [hm]; exact hlen)
  rw [hm, List.length_map] at h
  exact h
set_option maxRecDepth 100000 in
set_option maxHeartbeats 2000000 in
theorem join_any (A : Option Addr) (n c : Nat) (xs : List Int) (sep : Bs) (w : World) (hn : n ≤ 1048576) (hs : sep.length ≤ 100) (hr : Rd w A n (ints xs)) (hb : ∀ x ∈ xs, -9223372036854775808 < x ∧ x ≤ 9223372036854775807) (T : TabW w) :
    Calls Tryd.prog 74 #[.slice A n c, .string ⟨sep.toArray⟩] w fun e w' => e = .returned (.string ⟨(joinI sep xs).toArray⟩) ∧ Below w.heap.size w w' := by
  have HL := Lib.hid hr.len
  have HB := Lib.hid hb
  have hmk := run_make_str n (by omega)
  clear hb
  go_enter Tryd.func74, Tryd.ntmps74
  go_wp2_with fail
  have B0 := Blk.new w 9 (madeCells #[.string ⟨#[]⟩] n)
  have b0 : Below w.heap.size w (w.alloc (.cells (madeCells #[.string ⟨#[]⟩] n) 9)) := (Below.refl _ _).alloc (Nat.le_refl _) _
  clear hmk
  go_loopw [13] (fun i wr => ∃ (k : Nat) (cs : Array Value), k ≤ n ∧ i = .int .i64 k ∧ Blk wr w.heap.size 9 cs ∧ cs.size = n ∧ (∀ j, j < k → cs[j]? = some (.string ⟨(Lib.itoa (xs.getD j 0)).toArray⟩)) ∧ Below w.heap.size w wr) (fun i _ => n - (intOf i).toNat)
  case atStart => exact ⟨0, _, Nat.zero_le _, rfl, B0, madeCells_size _ _, fun j hj => absurd hj (by omega), b0⟩
  case round =>
    clear B0 b0
    obtain ⟨k, cs, hk, rfl, B, hcs, hpre, b⟩ := hrel
    have HC := Lib.hid hcs
    have HP := Lib.hid hpre
    clear hcs hpre
    by_cases hlt : k < n
    · have hkx : k < xs.length := by have := HL.out; omega
      have hx0 := HB.out (xs.getD k 0) (by rw [getD_at hkx]; exact List.getElem_mem hkx)
      obtain ⟨ad, rfl, hx⟩ := (hr.below b).int hlt
      obtain ⟨x, hxe⟩ : ∃ x, xs.getD k 0 = x := ⟨_, rfl⟩
      rw [hxe] at hx0 hx
      have HX := Lib.hid hxe
      clear hxe
      have hz := b.size
      have gB := B.lt
      go_wp2_with fail
      refine (decimal_any x _ (by omega) (by omega) (T.below b)).mono ?_
      rintro e w1 ⟨rfl, b1⟩
      have B1 := B.below b1 gB
      have b2 := b.trans (b1.mono hz)
      obtain ⟨old, hd⟩ : ∃ v, w1.cell? ⟨w.heap.size, k, none⟩ = some v := ⟨_, by rw [B1.cell]; exact Array.getElem?_eq_getElem (by have := HC.out; omega)⟩
      have hf : w1.frozen? ⟨w.heap.size, k, none⟩ = false := B1.frozen k
      go_wp2
      go_roundw
      case rel =>
        refine ⟨k + 1, _, by omega, by go_num, B1.set_ k _, by have := HC.out; simpa using this, ?_, b2.setCell (by simp) _⟩
        intro j hj
        have := HC.out
        by_cases e : j = k
        · subst e
          rw [Array.getElem?_setIfInBounds_self_of_lt (by omega), HX.out]
        · rw [Array.getElem?_setIfInBounds_ne (by omega)]
          exact HP.out j (by omega)
      case measure => simp [intOf]; omega
    · obtain rfl : k = n := by omega
      have hlen : (joinI sep xs).length ≤ 140737488355328 := by
        have h1 := joinI_len sep xs (fun x hx => by have := HB.out x hx; omega)
        have h3 := Nat.mul_le_mul (show xs.length ≤ 1048576 by have := HL.out; omega) (show sep.length + 21 ≤ 121 by omega)
        omega
      have HN := Lib.hid hlen
      clear hlen
      have gB := B.lt
      go_wp2_with fail
      refine (join_call w.heap.size k (xs.map Lib.itoa) sep _ (by rw [List.length_map]; exact HL.out) hn (fun j hj => ?_) gB HN.out).mono ?_
      · rw [B.cell, HP.out j hj]
        have hjx : j < xs.length := by have := HL.out; omega
        simp [List.getD_eq_getElem?_getD, List.getElem?_eq_getElem hjx]
      rintro e w1 ⟨rfl, b1⟩
      go_wp2
      go_ret
      exact ⟨rfl, b.trans (b1.mono b.size)⟩
end Go.Proofs.YtoledbicmghmbaaDoor
