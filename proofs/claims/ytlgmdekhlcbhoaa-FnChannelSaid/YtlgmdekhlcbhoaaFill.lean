/- Punctured bits filled in again: spec.FillPunctures and impl.FillPunctures. No condition but a list of at most 1048576 numbers. -/
import Derived.Test.YtlgmdekhlcbhoaaVit
import Derived.Test.YtlgmdekhlcbhoaaBurst
namespace Go.Proofs.Ytlgmdekhlcbhoaa
open Go.RowKit

/-- The call has returned the list ys, in memory of its own, with its capacity, and a code. -/
def RetICd (ys : List Int) (code : Int) (w : World) (e : Ending) (w' : World) : Prop :=
  ∃ B m d, e = .returned (.tuple #[.slice B m d, .int .i64 code]) ∧ Rd w' B m (ints ys) ∧ Wr w' w.heap.size B m ∧ m ≤ 1048576 ∧ Below w.heap.size w w' ∧ m ≤ d
theorem retICd_nil {w w' : World} {code : Int} (h : Below w.heap.size w w') : RetICd [] code w (.returned (.tuple #[.slice none 0 0, .int .i64 code])) w' :=
  ⟨none, 0, 0, rfl, Rd.nil _ _, fun h => absurd h (by omega), by omega, h, Nat.le_refl _⟩

def fillAt (xs : List Int) (j : Nat) : Int := if j % 4 = 3 then 2 else xs.getD (j - j / 4) 0
def fillP (xs : List Int) (k : Nat) : List Int := (List.range k).map (fillAt xs)
def fillOk (xs : List Int) (k : Int) : Bool := inR k 0 604 && ((xs.length : Int) == k - k / 4)
def fillR (xs : List Int) (k : Int) : List Int := if okList xs 604 0 1 = true ∧ fillOk xs k = true then fillP xs k.toNat else []
def fillC (xs : List Int) (k : Int) : Int := if okList xs 604 0 1 = true then (if fillOk xs k = true then 0 else 2) else 1

set_option maxHeartbeats 400000 in
theorem l27Code_any (A : Option Addr) (n c : Nat) (xs : List Int) (w : World) (hn : n ≤ 9223372036854775807) (hr : Rd w A n (ints xs)) :
    Calls Try.prog 136 #[.slice A n c] w fun e w' => e = .returned (.bool (okList xs 604 0 1)) ∧ w = w' := by
  go_enter Try.func136, Try.ntmps136
  go_wp2_with (go_at_call 146; refine (l01Within_any _ _ _ xs _ _ _ _ hn hr).mono ?_; rintro e w' ⟨rfl, rfl⟩)
  go_ret
  exact ⟨rfl, rfl⟩
set_option maxHeartbeats 400000 in
theorem isCode_any (A : Option Addr) (n c : Nat) (xs : List Int) (w : World) (hn : n ≤ 9223372036854775807) (hr : Rd w A n (ints xs)) :
    Calls Try.prog 134 #[.slice A n c] w fun e w' => e = .returned (.bool (okList xs 604 0 1)) ∧ w = w' := by
  go_enter Try.func134, Try.ntmps134
  go_wp2_with (go_at_call 94; refine (isBits_any _ _ _ xs _ _ hn hr).mono ?_; rintro e w' ⟨rfl, rfl⟩)
  go_ret
  exact ⟨rfl, rfl⟩
set_option maxHeartbeats 400000 in
theorem isPuncture_any (j : Nat) (w : World) (hj : j ≤ 1048576) :
    Calls Try.prog 135 #[.int .i64 j] w fun e w' => e = .returned (.bool ((j : Int) % 4 == 3)) ∧ w = w' := by
  go_enter Try.func135, Try.ntmps135
  go_wp2
  go_ret
  exact ⟨rfl, rfl⟩

set_option maxHeartbeats 1000000 in
theorem specFillPunctures_any (A : Option Addr) (n c : Nat) (xs : List Int) (k0 : Int) (w : World) (hn : n ≤ 1048576) (hr : Rd w A n (ints xs)) :
    Calls Try.prog 69 #[.slice A n c, .int .i64 k0] w (RetICd (fillR xs k0) (fillC xs k0) w) := by
  have HL := Lib.hid hr.len
  rcases Bool.eq_false_or_eq_true (okList xs 604 0 1) with h1 | h1
  · rcases Bool.eq_false_or_eq_true (inR k0 0 604) with h2 | h2
    · have hb := inR_true h2
      obtain ⟨K, rfl⟩ := Int.eq_ofNat_of_zero_le hb.1
      rcases Bool.eq_false_or_eq_true (((n : Int) == (K : Int) - (K : Int) / 4)) with h3 | h3
      · have e1 : Hid (fillR xs K = fillP xs K ∧ fillC xs K = 0) := by unfold Hid fillR fillC fillOk; rw [HL.out]; simp only [h1, h2, h3]; simp
        have hnk : n = K - K / 4 := by simp at h3; omega
        have h3' : ((n : Int) != (K : Int) - (K : Int) / 4) = false := by unfold bne; rw [h3]; rfl
        clear h3
        have HN := Lib.hid hnk
        clear hnk
        go_enter Try.func69, Try.ntmps69
        go_wp2_with (first | (go_at_call 136; refine (l27Code_any _ _ _ xs _ (by omega) hr).mono ?_; rintro e w' ⟨rfl, rfl⟩) | (go_at_call 96; refine (l01In_any _ _ _ _).mono ?_; rintro e w' ⟨rfl, rfl⟩))
        clear h1 h2 h3'
        go_loopw [6, 7, 8] (fun o a i wr => ∃ j q : Nat, j ≤ K ∧ q = j - j / 4 ∧ i = .int .i64 j ∧ a = .int .i64 q ∧ wr.ownsRow w.heap.size 2 1 o j (ints ((List.range j).map (fillAt xs))) ∧ Below w.heap.size w wr)
          (fun _ _ i _ => K - (intOf i).toNat)
        case atStart => exact ⟨0, 0, Nat.zero_le _, rfl, rfl, rfl, own_empty w _, (Below.refl _ _).alloc (Nat.le_refl _) _⟩
        case round =>
          obtain ⟨j, q, hj, hq, rfl, rfl, hown, hbel⟩ := hrel
          by_cases hlt : j < K
          · have HM : Hid ((List.range (j + 1)).map (fillAt xs) = (List.range j).map (fillAt xs) ++ [fillAt xs j]) := range_map_snoc _ j
            have hsz := hbel.size
            by_cases h4 : j % 4 = 3
            · have hV : Hid (fillAt xs j = 2) := if_pos h4
              have hq' : q = (j + 1) - (j + 1) / 4 := by omega
              have ht : ((j : Int) % 4 == 3) = true := by simp; omega
              have HQ := Lib.hid hq'
              clear hq hq' h4
              generalize (List.range j).map (fillAt xs) = L at *
              go_wp2_with (at_builtin; refine wpList_append_int1 rfl _ _ rfl w.heap.size _ j L rfl rfl hown (by omega) hsz ?_; intro v' w' hown' hbel' _ _)
              go_roundw
              case rel => exact ⟨j + 1, q, by omega, HQ.out, by go_num, rfl, by rw [HM.out, hV.out]; exact hown', hbel.trans hbel'⟩
              case measure => simp [intOf]; omega
            · have hV : Hid (fillAt xs j = xs.getD q 0) := by unfold Hid fillAt; rw [if_neg h4, hq]
              have hq' : q + 1 = (j + 1) - (j + 1) / 4 := by omega
              have hqn : q < n := by have := HN.out; omega
              have ht : ((j : Int) % 4 == 3) = false := by simp; omega
              have HQ := Lib.hid hq'
              obtain ⟨ad, rfl, hx⟩ := (hr.below hbel).int hqn
              clear hq hq' h4
              generalize xs.getD q 0 = x at *
              generalize (List.range j).map (fillAt xs) = L at *
              go_wp2_with (at_builtin; refine wpList_append_int1 rfl _ _ rfl w.heap.size _ j L rfl rfl hown (by omega) hsz ?_; intro v' w' hown' hbel' _ _)
              go_roundw
              case rel => exact ⟨j + 1, q + 1, by omega, HQ.out, by go_num, by go_num, by rw [HM.out, hV.out]; exact hown', hbel.trans hbel'⟩
              case measure => simp [intOf]; omega
          · obtain rfl : j = K := by omega
            obtain ⟨B, d, rfl, hrd, hwr, hBd, _⟩ := own_rd hown
            clear hq
            go_wp2
            go_ret2
            exact ⟨B, j, d, by rw [e1.out.2]; rfl, by rw [e1.out.1]; exact hrd, hwr, by omega, hbel, hBd⟩
      · have e1 : Hid (fillR xs K = [] ∧ fillC xs K = 2) := by unfold Hid fillR fillC fillOk; rw [HL.out]; simp only [h1, h2, h3]; simp
        have h3' : ((n : Int) != (K : Int) - (K : Int) / 4) = true := by unfold bne; rw [h3]; rfl
        clear h3
        go_enter Try.func69, Try.ntmps69
        go_wp2_with (first | (go_at_call 136; refine (l27Code_any _ _ _ xs _ (by omega) hr).mono ?_; rintro e w' ⟨rfl, rfl⟩) | (go_at_call 96; refine (l01In_any _ _ _ _).mono ?_; rintro e w' ⟨rfl, rfl⟩))
        go_ret2
        rw [e1.out.1, e1.out.2]; exact retICd_nil (Below.refl _ _)
    · have e1 : Hid (fillR xs k0 = [] ∧ fillC xs k0 = 2) := by unfold Hid fillR fillC fillOk; simp [h1, h2]
      go_enter Try.func69, Try.ntmps69
      go_wp2_with (first | (go_at_call 136; refine (l27Code_any _ _ _ xs _ (by omega) hr).mono ?_; rintro e w' ⟨rfl, rfl⟩) | (go_at_call 96; refine (l01In_any _ _ _ _).mono ?_; rintro e w' ⟨rfl, rfl⟩))
      go_ret2
      rw [e1.out.1, e1.out.2]; exact retICd_nil (Below.refl _ _)
  · have e1 : Hid (fillR xs k0 = [] ∧ fillC xs k0 = 1) := by unfold Hid fillR fillC; simp [h1]
    go_enter Try.func69, Try.ntmps69
    go_wp2_with (first | (go_at_call 136; refine (l27Code_any _ _ _ xs _ (by omega) hr).mono ?_; rintro e w' ⟨rfl, rfl⟩))
    go_ret2
    rw [e1.out.1, e1.out.2]; exact retICd_nil (Below.refl _ _)

set_option maxHeartbeats 1000000 in
theorem implFillPunctures_any (A : Option Addr) (n c : Nat) (xs : List Int) (k0 : Int) (w : World) (hn : n ≤ 1048576) (hr : Rd w A n (ints xs)) :
    Calls Try.prog 68 #[.slice A n c, .int .i64 k0] w (RetICd (fillR xs k0) (fillC xs k0) w) := by
  have HL := Lib.hid hr.len
  rcases Bool.eq_false_or_eq_true (okList xs 604 0 1) with h1 | h1
  · rcases Bool.eq_false_or_eq_true (inR k0 0 604) with h2 | h2
    · have hb := inR_true h2
      obtain ⟨K, rfl⟩ := Int.eq_ofNat_of_zero_le hb.1
      rcases Bool.eq_false_or_eq_true (((n : Int) == (K : Int) - (K : Int) / 4)) with h3 | h3
      · have e1 : Hid (fillR xs K = fillP xs K ∧ fillC xs K = 0) := by unfold Hid fillR fillC fillOk; rw [HL.out]; simp only [h1, h2, h3]; simp
        have hnk : n = K - K / 4 := by simp at h3; omega
        have h3' : ((n : Int) != (K : Int) - (K : Int) / 4) = false := by unfold bne; rw [h3]; rfl
        have hmk := run_make_int64 K (by omega)
        clear h3
        have HN := Lib.hid hnk
        clear hnk
        go_enter Try.func68, Try.ntmps68
        go_wp2_with (first | (go_at_call 134; refine (isCode_any _ _ _ xs _ (by omega) hr).mono ?_; rintro e w' ⟨rfl, rfl⟩) | (go_at_call 99; refine (within_any _ _ _ _).mono ?_; rintro e w' ⟨rfl, rfl⟩) | (go_at_call 100; refine (lengthInt_any _ _ _ _ (by omega)).mono ?_; rintro e w' ⟨rfl, rfl⟩))
        clear h1 h2 h3' hmk
        go_loopw [7, 30] (fun a i wr => ∃ j q : Nat, ∃ cs : Array Value, j ≤ K ∧ q = j - j / 4 ∧ i = .int .i64 j ∧ a = .int .i64 q ∧ Blk wr w.heap.size 2 cs ∧ cs.size = K ∧ (∀ i, i < j → cs[i]? = some (.int .i64 (fillAt xs i))) ∧ Below w.heap.size w wr)
          (fun _ i _ => K - (intOf i).toNat)
        case atStart => exact ⟨0, 0, _, Nat.zero_le _, rfl, rfl, rfl, Blk.new _ _ _, madeCells_size _ _, fun j hj => absurd hj (by omega), (Below.refl _ _).alloc (Nat.le_refl _) _⟩
        case round =>
          obtain ⟨j, q, cs, hj, hq, rfl, rfl, hB, hcs, hpre, hbel⟩ := hrel
          by_cases hlt : j < K
          · obtain ⟨old, hd⟩ : ∃ v, wr.cell? ⟨w.heap.size, j, none⟩ = some v := ⟨_, by rw [hB.cell]; exact Array.getElem?_eq_getElem (by omega)⟩
            have hf : wr.frozen? ⟨w.heap.size, j, none⟩ = false := hB.frozen j
            have HB := Lib.hid hB
            have HC := Lib.hid hcs
            have HP := Lib.hid hpre
            clear hB hcs hpre
            by_cases h4 : j % 4 = 3
            · have hV : Hid (fillAt xs j = 2) := if_pos h4
              have hq' : q = (j + 1) - (j + 1) / 4 := by omega
              have ht : ((j : Int) % 4 == 3) = true := by simp; omega
              have HQ := Lib.hid hq'
              clear hq hq' h4
              go_wp2_with (go_at_call 135; refine (isPuncture_any _ _ (by omega)).mono ?_; rintro e w' ⟨rfl, rfl⟩)
              go_roundw
              case rel =>
                refine ⟨j + 1, q, _, by omega, HQ.out, by go_num, rfl, HB.out.set_ j _, by have := HC.out; simpa using this, ?_, hbel.setCell (by simp) _⟩
                intro i hi
                have := HC.out
                by_cases e : i = j
                · subst e; rw [Array.getElem?_setIfInBounds_self_of_lt (by omega), hV.out]
                · rw [Array.getElem?_setIfInBounds_ne (by omega)]; exact HP.out i (by omega)
              case measure => simp [intOf]; omega
            · have hV : Hid (fillAt xs j = xs.getD q 0) := by unfold Hid fillAt; rw [if_neg h4, hq]
              have hq' : q + 1 = (j + 1) - (j + 1) / 4 := by omega
              have hqn : q < n := by have := HN.out; omega
              have ht : ((j : Int) % 4 == 3) = false := by simp; omega
              have HQ := Lib.hid hq'
              obtain ⟨ad, rfl, hx⟩ := (hr.below (hbel.setCell (p := ⟨w.heap.size, j, none⟩) (Nat.le_refl _) (.int .i64 2))).int hqn
              clear hq hq' h4
              generalize xs.getD q 0 = x at *
              go_wp2_with (go_at_call 135; refine (isPuncture_any _ _ (by omega)).mono ?_; rintro e w' ⟨rfl, rfl⟩)
              go_roundw
              case rel =>
                refine ⟨j + 1, q + 1, _, by omega, HQ.out, by go_num, by go_num, (HB.out.set_ j _).set_ j _, by have := HC.out; simpa using this, ?_, (hbel.setCell (by simp) _).setCell (by simp) _⟩
                intro i hi
                have := HC.out
                by_cases e : i = j
                · subst e; rw [Array.getElem?_setIfInBounds_self_of_lt (by simp; omega), hV.out]
                · rw [Array.getElem?_setIfInBounds_ne (by omega), Array.getElem?_setIfInBounds_ne (by omega)]; exact HP.out i (by omega)
              case measure => simp [intOf]; omega
          · obtain rfl : j = K := by omega
            have HC := Lib.hid hcs
            have HP := Lib.hid hpre
            clear hq hcs hpre
            go_wp2
            go_ret2
            exact ⟨_, j, j, by rw [e1.out.2]; rfl, by rw [e1.out.1]; exact hB.rd (by unfold ints fillP; simp) (fun i hi => by rw [HP.out i hi, ints_getElem?]; unfold fillP; simp [hi]), hB.wr (Nat.le_refl _) j, by omega, hbel, Nat.le_refl _⟩
      · have e1 : Hid (fillR xs K = [] ∧ fillC xs K = 2) := by unfold Hid fillR fillC fillOk; rw [HL.out]; simp only [h1, h2, h3]; simp
        have h3' : ((n : Int) != (K : Int) - (K : Int) / 4) = true := by unfold bne; rw [h3]; rfl
        clear h3
        go_enter Try.func68, Try.ntmps68
        go_wp2_with (first | (go_at_call 134; refine (isCode_any _ _ _ xs _ (by omega) hr).mono ?_; rintro e w' ⟨rfl, rfl⟩) | (go_at_call 99; refine (within_any _ _ _ _).mono ?_; rintro e w' ⟨rfl, rfl⟩) | (go_at_call 100; refine (lengthInt_any _ _ _ _ (by omega)).mono ?_; rintro e w' ⟨rfl, rfl⟩))
        go_ret2
        rw [e1.out.1, e1.out.2]; exact retICd_nil (Below.refl _ _)
    · have e1 : Hid (fillR xs k0 = [] ∧ fillC xs k0 = 2) := by unfold Hid fillR fillC fillOk; simp [h1, h2]
      go_enter Try.func68, Try.ntmps68
      go_wp2_with (first | (go_at_call 134; refine (isCode_any _ _ _ xs _ (by omega) hr).mono ?_; rintro e w' ⟨rfl, rfl⟩) | (go_at_call 99; refine (within_any _ _ _ _).mono ?_; rintro e w' ⟨rfl, rfl⟩))
      go_ret2
      rw [e1.out.1, e1.out.2]; exact retICd_nil (Below.refl _ _)
  · have e1 : Hid (fillR xs k0 = [] ∧ fillC xs k0 = 1) := by unfold Hid fillR fillC; simp [h1]
    go_enter Try.func68, Try.ntmps68
    go_wp2_with (first | (go_at_call 134; refine (isCode_any _ _ _ xs _ (by omega) hr).mono ?_; rintro e w' ⟨rfl, rfl⟩))
    go_ret2
    rw [e1.out.1, e1.out.2]; exact retICd_nil (Below.refl _ _)
end Go.Proofs.Ytlgmdekhlcbhoaa
