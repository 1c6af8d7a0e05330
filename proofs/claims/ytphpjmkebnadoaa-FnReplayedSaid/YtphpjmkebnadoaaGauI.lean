/- impl.gaugeOf, the parts: is there a later level record of the same time; how records are ordered. Condition: lengths. -/
import Derived.Test.YtphpjmkebnadoaaGauS
namespace Go.Proofs.Ytphpjmkebnadoaa
open Go.RowKit

def laterB (ys : List Int) (m : Nat) (t : Int) : Bool := (List.range m).any fun j => decide (recK ys j = 1) && decide (recT ys j = t)
theorem laterB_succ (ys : List Int) (m : Nat) (t : Int) : laterB ys (m + 1) t = (laterB ys m t || (decide (recK ys m = 1) && decide (recT ys m = t))) := by unfold laterB; rw [List.range_succ, List.any_append]; simp
theorem laterB_true {ys : List Int} {k m : Nat} {t : Int} (h : (decide (recK ys k = 1) && decide (recT ys k = t)) = true) (hk : k < m) : laterB ys m t = true := List.any_eq_true.2 ⟨k, List.mem_range.2 hk, h⟩
theorem rec_drop (xs : List Int) (i j : Nat) : recT (xs.drop ((i + 1) * 7)) j = recT xs (i + 1 + j) ∧ recK (xs.drop ((i + 1) * 7)) j = recK xs (i + 1 + j) := by
  unfold recT recK
  simp only [List.getD_eq_getElem?_getD, List.getElem?_drop]
  rw [show (i + 1) * 7 + j * 7 = (i + 1 + j) * 7 by omega, show (i + 1) * 7 + (j * 7 + 1) = (i + 1 + j) * 7 + 1 by omega]
  exact ⟨rfl, rfl⟩
theorem selB_later {xs : List Int} {n i : Nat} (hi : i < n) : selB xs n i = (decide (recK xs i = 1) && !(laterB (xs.drop ((i + 1) * 7)) (n - (i + 1)) (recT xs i))) := by
  unfold selB
  congr 2
  rw [Bool.eq_iff_iff]
  unfold laterB
  rw [List.any_eq_true, List.any_eq_true]
  constructor
  · rintro ⟨j, hj, hb⟩
    rw [Bool.and_eq_true, decide_eq_true_eq] at hb
    have hj' := List.mem_range.1 hj
    refine ⟨j - (i + 1), List.mem_range.2 (by omega), ?_⟩
    rw [(rec_drop xs i (j - (i + 1))).1, (rec_drop xs i (j - (i + 1))).2, show i + 1 + (j - (i + 1)) = j by omega]
    exact hb.2
  · rintro ⟨j, hj, hb⟩
    have hj' := List.mem_range.1 hj
    rw [(rec_drop xs i j).1, (rec_drop xs i j).2] at hb
    exact ⟨i + 1 + j, List.mem_range.2 (by omega), by rw [Bool.and_eq_true]; exact ⟨decide_eq_true (by omega), hb⟩⟩

set_option maxHeartbeats 1000000 in
theorem laterRec_any (t k l x y d r u : Int) (g : Nat) (w : World) (hg : g < w.heap.size) (hc : w.cell? ⟨g, 0, none⟩ = some (.int .i64 u)) :
    Calls Try.prog 77 #[.agg #[.int .i64 t, .int .i64 k, .int .i64 l, .int .i64 x, .int .i64 y, .int .i64 d, .int .i64 r], .pointer (some ⟨g, 0, none⟩)] w fun e w' => e = .returned (.bool (decide (k = 1) && decide (t = u))) ∧ Below w.heap.size w w' := by
  have b0 : Below w.heap.size w (w.alloc (.cells #[.int .i64 t, .int .i64 k, .int .i64 l, .int .i64 x, .int .i64 y, .int .i64 d, .int .i64 r] 47)) := (Below.refl _ _).alloc (Nat.le_refl _) _
  have hc1 : (w.alloc (.cells #[.int .i64 t, .int .i64 k, .int .i64 l, .int .i64 x, .int .i64 y, .int .i64 d, .int .i64 r] 47)).cell? ⟨g, 0, none⟩ = some (.int .i64 u) := (Below.cell b0 (p := ⟨g, 0, none⟩) hg).trans hc
  have K := Blk.new w 47 #[.int .i64 t, .int .i64 k, .int .i64 l, .int .i64 x, .int .i64 y, .int .i64 d, .int .i64 r]
  by_cases h : k = 1
  · subst h
    go_enter Try.func77, Try.ntmps77
    go_upto_region 1 with fail
    generalize w.alloc (.cells #[.int .i64 t, .int .i64 1, .int .i64 l, .int .i64 x, .int .i64 y, .int .i64 d, .int .i64 r] 47) = w1 at *
    have c := fun o => K.cell o
    go_wp2_with fail
    go_ret
    exact ⟨ret_bool (by rw [Bool.eq_iff_iff]; simp), b0⟩
  · have hd : decide (k = 1) = false := by simpa using h
    go_enter Try.func77, Try.ntmps77
    go_upto_region 1 with fail
    generalize w.alloc (.cells #[.int .i64 t, .int .i64 k, .int .i64 l, .int .i64 x, .int .i64 y, .int .i64 d, .int .i64 r] 47) = w1 at *
    have c := fun o => K.cell o
    go_wp2_with fail
    go_ret
    exact ⟨ret_bool (by rw [hd]; simp), b0⟩

set_option maxRecDepth 100000 in
set_option maxHeartbeats 2000000 in
theorem indexLater_any (A : Option Addr) (n c : Nat) (xs : List Int) (u : Int) (g : Nat) (w : World) (hn : n ≤ 1048576) (hr : Rd w A (n * 7) (ints xs)) (hg : g < w.heap.size) (hc : w.cell? ⟨g, 0, none⟩ = some (.int .i64 u)) :
    Calls Try.prog 101 #[.slice A n c, .func (.func 77) #[] #[.pointer (some ⟨g, 0, none⟩)]] w fun e w' => ∃ v : Int, e = .returned (.int .i64 v) ∧ (decide (v ≥ 0)) = laterB xs n u ∧ Below w.heap.size w w' := by
  go_enter Try.func101, Try.ntmps101
  go_wp2
  go_loopw [8] (fun i wr => ∃ k : Nat, k ≤ n ∧ i = .int .i64 k ∧ laterB xs k u = false ∧ Below w.heap.size w wr)
    (fun i _ => n - (intOf i).toNat)
  case atStart => exact ⟨0, Nat.zero_le _, rfl, rfl, Below.refl _ _⟩
  case round =>
    obtain ⟨k, hk, rfl, hall, hbel⟩ := hrel
    have HA := Lib.hid hall
    clear hall
    by_cases hlt : k < n
    · obtain ⟨ad, rfl, hx0, hx1, hx2, hx3, hx4, hx5, hx6⟩ := (hr.below hbel).seven hlt
      have hg1 : g < wr.heap.size := Nat.lt_of_lt_of_le hg hbel.size
      have hc1 : wr.cell? ⟨g, 0, none⟩ = some (.int .i64 u) := (Below.cell hbel (p := ⟨g, 0, none⟩) hg).trans hc
      have HS : Hid (laterB xs (k + 1) u = (laterB xs k u || (decide (recK xs k = 1) && decide (recT xs k = u)))) := laterB_succ xs k u
      have HF : Hid ((decide (recK xs k = 1) && decide (recT xs k = u)) = true → laterB xs n u = true) := fun h => laterB_true h hlt
      have HT : Hid (recT xs k = xs.getD (k * 7) 0 ∧ recK xs k = xs.getD (k * 7 + 1) 0) := ⟨rfl, rfl⟩
      have hi0 : (0 : Int) ≤ (k : Int) := by omega
      have hi1 : (k : Int) < (n : Int) := by omega
      generalize xs.getD (k * 7) 0 = x0 at *
      generalize xs.getD (k * 7 + 1) 0 = x1 at *
      generalize xs.getD (k * 7 + 2) 0 = x2 at *
      generalize xs.getD (k * 7 + 3) 0 = x3 at *
      generalize xs.getD (k * 7 + 4) 0 = x4 at *
      generalize xs.getD (k * 7 + 5) 0 = x5 at *
      generalize xs.getD (k * 7 + 6) 0 = x6 at *
      rcases Bool.eq_false_or_eq_true (decide (x1 = 1) && decide (x0 = u)) with h | h
      · have HH := Lib.hid h
        clear h
        go_wp2_with fail
        refine (laterRec_any x0 x1 x2 x3 x4 x5 x6 u g _ hg1 hc1).mono ?_
        rw [HH.out]
        rintro e w1 ⟨rfl, b1⟩
        have b2 := hbel.trans (b1.mono hbel.size)
        go_wp2
        go_ret
        exact ⟨k, rfl, by rw [HF.out (by rw [HT.out.1, HT.out.2]; exact HH.out)]; simp, b2⟩
      · have HH := Lib.hid h
        clear h
        go_wp2_with fail
        refine (laterRec_any x0 x1 x2 x3 x4 x5 x6 u g _ hg1 hc1).mono ?_
        rw [HH.out]
        rintro e w1 ⟨rfl, b1⟩
        have b2 := hbel.trans (b1.mono hbel.size)
        go_wp2
        go_roundw
        case rel => exact ⟨k + 1, by omega, by go_num, by rw [HS.out, HA.out, HT.out.1, HT.out.2, HH.out]; rfl, b2⟩
        case measure => simp [intOf]; omega
    · obtain rfl : k = n := by omega
      go_wp2
      go_ret
      exact ⟨-1, rfl, by rw [HA.out]; rfl, hbel⟩
set_option maxHeartbeats 1000000 in
theorem containsLater_any (A : Option Addr) (n c : Nat) (xs : List Int) (u : Int) (g : Nat) (w : World) (hn : n ≤ 1048576) (hr : Rd w A (n * 7) (ints xs)) (hg : g < w.heap.size) (hc : w.cell? ⟨g, 0, none⟩ = some (.int .i64 u)) :
    Calls Try.prog 74 #[.slice A n c, .func (.func 77) #[] #[.pointer (some ⟨g, 0, none⟩)]] w fun e w' => e = .returned (.bool (laterB xs n u)) ∧ Below w.heap.size w w' := by
  go_enter Try.func74, Try.ntmps74
  go_wp2_with (go_at_call 101; refine (indexLater_any _ _ _ xs u g _ hn hr hg hc).mono ?_; rintro e w' ⟨v, rfl, hv, hb⟩)
  go_ret
  exact ⟨ret_bool (by rw [← hv]), hb⟩
end Go.Proofs.Ytphpjmkebnadoaa
