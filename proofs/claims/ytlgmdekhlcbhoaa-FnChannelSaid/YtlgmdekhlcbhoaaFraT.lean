/- Frames: receiving, both sides. Condition: bits of a channel. -/
import Derived.Test.YtlgmdekhlcbhoaaFraK
import Derived.Test.YtlgmdekhlcbhoaaFraS
import Derived.Test.YtlgmdekhlcbhoaaVitT
import Derived.Test.YtlgmdekhlcbhoaaLike
namespace Go.Proofs.Ytlgmdekhlcbhoaa
open Go.RowKit

def rcvM (bits : List Int) (n : Nat) : List Int := recvL bits (rowsOf n) n
def rcvOk (bits : List Int) (n : Nat) : Bool := readOk (rcvM bits n)
def rcvF (bits : List Int) (n : Nat) : FrameC := if rcvOk bits n = true then readF (rcvM bits n) else ⟨0, 0, []⟩
def rcvC (bits : List Int) (n : Nat) : Int := if rcvOk bits n = true then 0 else 6
theorem rcvM_length (bits : List Int) (n : Nat) : (rcvM bits n).length = n := by unfold rcvM recvL; rw [dec_length]
theorem rcvM_bits (bits : List Int) (n : Nat) : allIn (rcvM bits n) 0 1 = true := dec_bits _ _ _
/-- A frame was received, or none; v says which. -/
def RcvI (bits : List Int) (n : Nat) (v : Value) (w : World) (e : Ending) (w' : World) : Prop :=
  ∃ h : Hd, e = .returned (.tuple #[FrameV ⟨h⟩ (rcvF bits n), v]) ∧ h.n ≤ 1000 ∧ Own w' w.heap.size 1 h (ints (rcvF bits n).payload) ∧ Below w.heap.size w w'

set_option maxRecDepth 100000 in
set_option maxHeartbeats 4000000 in
theorem receive_any (A : Option Addr) (N c n : Nat) (bits : List Int) (w : World) (hn : n ≤ 300) (hN : N = 16 * rowsOf n) (hr : Rd w A N (ints bits)) (hb : allIn bits 0 1 = true) :
    Calls Try.prog 102 #[.slice A N c, .int .i64 n] w (RcvI bits n (.int .i64 (rcvC bits n)) w) := by
  have HN := Lib.hid hN
  have HB := Lib.hid hb
  have HRM : Hid (rcvM bits n = dec ((sortL bits (rowsOf n)).take (2 * (n + 2))) (n + 2) (n + 2 - 2)) := rfl
  have HR : Hid (2 * (n + 2) ≤ 16 * rowsOf n ∧ 1 ≤ rowsOf n ∧ rowsOf n ≤ 40) := by unfold Hid rowsOf; omega
  have b0 : Below w.heap.size w (w.alloc (.cells #[.int .i64 0, .int .i64 0, .slice none 0 0] 28)) := (Below.refl _ _).alloc (Nat.le_refl _) _
  have B0 := Blk.new w 28 #[.int .i64 0, .int .i64 0, .slice none 0 0]
  have R0 := hr.below b0
  clear hb hN hr
  generalize rowsOf n = m at *
  obtain ⟨hR2, hm1, hm40⟩ := HR.out
  have hN6 : N ≤ 640 := by have := HN.out; omega
  have hNn : 2 * (n + 2) ≤ N := by have := HN.out; omega
  have hdiv : Int.tdiv (N : Int) 16 = (m : Int) := by rw [Int.tdiv_eq_ediv_of_nonneg (by omega)]; have := HN.out; omega
  clear hR2
  go_enter Try.func102, Try.ntmps102
  go_wp2_with (go_at_call 100; refine (lengthInt_any _ _ _ _ (by omega)).mono ?_; rintro e w' ⟨rfl, rfl⟩)
  refine (sortBits_any A N c m bits _ hm1 hm40 HN.out R0 HB.out).mono ?_
  rintro e w1 ⟨⟨SA, sn, sc⟩, rfl, OS, bb⟩
  have B1 := B0.below bb B0.lt
  have b1 := bnext b0 bb
  have hsn : sn = N := by have := OS.rd1.len; rw [sortL_length] at this; simp only at this; rw [← this]; exact HN.out.symm
  subst hsn
  have RT : Rd w1 SA (2 * (n + 2)) (ints ((sortL bits m).take (2 * (n + 2)))) := Rd.take (n := sn) OS.rd1 hNn
  have hnc := OS.nc
  have hmx := OS.capm.2
  simp only at hnc hmx
  have hw1 : IntKind.i64.wrap ((n : Int) + 2) = (n : Int) + 2 := IntWalk.i64_in _ (by omega)
  have hw2 : IntKind.i64.wrap (2 * ((n : Int) + 2)) = 2 * ((n : Int) + 2) := IntWalk.i64_in _ (by omega)
  have ht : (2 * ((n : Int) + 2)).toNat = 2 * (n + 2) := by omega
  have hi0 : (0 : Int) ≤ 2 * ((n : Int) + 2) := by omega
  have hi1 : 2 * ((n : Int) + 2) ≤ (sc : Int) := by omega
  clear bb b0 B0 R0 OS
  go_wp2_with fail
  refine (decode_any SA (n + 2) sc ((sortL bits m).take (2 * (n + 2))) _ (by omega) (by omega) (by omega) RT).mono ?_
  rintro e w2 ⟨MB, mn, md, rfl, RM, -, hmd, -, bb⟩
  rw [← HRM.out] at RM
  have hmn : mn = n := by have := RM.len; rw [rcvM_length] at this; exact this.symm
  subst hmn
  have B2 := B1.below bb B1.lt
  have b2 := bnext b1 bb
  clear bb b1 B1 RT hw1 hw2 ht hi0 hi1 HRM hdiv hNn hN6
  have HMB : Hid (allIn (rcvM bits mn) 0 1 = true) := rcvM_bits _ _
  go_wp2_with fail
  refine (readFrame_any MB mn md (rcvM bits mn) _ (by omega) hmd RM HMB.out).mono ?_
  rintro e w3 ⟨⟨KA, kn, kc⟩, ⟨x0, x1, ps⟩, rfl, hyes, hkn, OK, bb⟩
  have B3 := B2.below bb B2.lt
  have b3 := bnext b2 bb
  have OK0 := OK
  have OK := OK.mono (C := w.heap.size) b2.size
  simp only at hkn OK
  have hrow : ∀ b, (⟨KA, kn, kc⟩ : Hd).row = some b → b ≠ w.heap.size := fun b e => by have h1 := (OK0.rowlt b e).1; have := B2.lt; omega
  have HO : Hid (rcvOk bits mn = readOk (rcvM bits mn)) := rfl
  have HFY : Hid (readOk (rcvM bits mn) = true → rcvF bits mn = ⟨x0, x1, ps⟩) := fun h => by unfold rcvF rcvOk; rw [if_pos h]; exact (hyes h).symm
  have HFN : Hid (readOk (rcvM bits mn) = false → rcvF bits mn = ⟨0, 0, []⟩) := fun h => by unfold rcvF rcvOk; rw [if_neg (by rw [h]; exact Bool.false_ne_true)]
  clear hyes
  simp only [FrameV]
  rcases Bool.eq_false_or_eq_true (readOk (rcvM bits mn)) with h1 | h1
  · have HF := Lib.hid (HFY.out h1)
    have HV : Hid (rcvOk bits mn = true) := HO.out.trans h1
    rw [h1]
    clear h1 HFY HFN HO
    have BX := (((B3.set_ 0 (.int .i64 x0)).set_ 1 (.int .i64 x1)).set_ 2 (.slice KA kn kc)).alloc (.cells #[.int .i64 x0, .int .i64 x1, .slice KA kn kc] 28)
    have dx := fun o => BX.cell o
    have bx : Below w.heap.size w ((((w3.setCell ⟨w.heap.size, 0, none⟩ (.int .i64 x0)).setCell ⟨w.heap.size, 1, none⟩ (.int .i64 x1)).setCell ⟨w.heap.size, 2, none⟩ (.slice KA kn kc)).alloc (.cells #[.int .i64 x0, .int .i64 x1, .slice KA kn kc] 28)) := (((b3.setCell (p := ⟨w.heap.size, 0, none⟩) (Nat.le_refl _) (.int .i64 x0)).setCell (p := ⟨w.heap.size, 1, none⟩) (Nat.le_refl _) (.int .i64 x1)).setCell (p := ⟨w.heap.size, 2, none⟩) (Nat.le_refl _) (.slice KA kn kc)).alloc (by have := b3.size; simpa [World.setCell] using this) _
    have d3 := fun o => B3.cell o
    have e3 := fun o => B3.frozen o
    have p3 := B3.lt
    go_wp2
    refine bodyPost_ret (v := .tuple #[.agg #[.int .i64 x0, .int .i64 x1, .slice KA kn kc], .int .i64 0]) (by simp [results, Try.results102, go_sem, dx]) rfl ⟨⟨KA, kn, kc⟩, ?_, hkn, ?_, bx⟩
    · rw [HF.out]; rw [show rcvC bits mn = 0 from by unfold rcvC; rw [HV.out]; rfl]; rfl
    · rw [HF.out]; exact (((OK.far1 (p := ⟨w.heap.size, 0, none⟩) (fun e => hrow _ e rfl) (.int .i64 x0)).far1 (p := ⟨w.heap.size, 1, none⟩) (fun e => hrow _ e rfl) (.int .i64 x1)).far1 (p := ⟨w.heap.size, 2, none⟩) (fun e => hrow _ e rfl) (.slice KA kn kc)).below ((Below.refl _ _).alloc (Nat.le_refl _) _)
  · have HF := Lib.hid (HFN.out h1)
    have HV : Hid (rcvOk bits mn = false) := HO.out.trans h1
    rw [h1]
    clear h1 HFY HFN HO
    have BX := (((B3.set_ 0 (.int .i64 0)).set_ 1 (.int .i64 0)).set_ 2 (.slice none 0 0)).alloc (.cells #[.int .i64 x0, .int .i64 x1, .slice KA kn kc] 28)
    have dx := fun o => BX.cell o
    have bx : Below w.heap.size w ((((w3.setCell ⟨w.heap.size, 0, none⟩ (.int .i64 0)).setCell ⟨w.heap.size, 1, none⟩ (.int .i64 0)).setCell ⟨w.heap.size, 2, none⟩ (.slice none 0 0)).alloc (.cells #[.int .i64 x0, .int .i64 x1, .slice KA kn kc] 28)) := (((b3.setCell (p := ⟨w.heap.size, 0, none⟩) (Nat.le_refl _) (.int .i64 0)).setCell (p := ⟨w.heap.size, 1, none⟩) (Nat.le_refl _) (.int .i64 0)).setCell (p := ⟨w.heap.size, 2, none⟩) (Nat.le_refl _) (.slice none 0 0)).alloc (by have := b3.size; simpa [World.setCell] using this) _
    have d3 := fun o => B3.cell o
    have e3 := fun o => B3.frozen o
    have p3 := B3.lt
    go_wp2
    refine bodyPost_ret (v := .tuple #[.agg #[.int .i64 0, .int .i64 0, .slice none 0 0], .int .i64 6]) (by simp [results, Try.results102, go_sem, dx]) rfl ⟨⟨none, 0, 0⟩, ?_, Nat.zero_le _, ?_, bx⟩
    · rw [HF.out]; rw [show rcvC bits mn = 6 from by unfold rcvC; rw [HV.out]; rfl]; rfl
    · rw [HF.out]; exact Own.nil _ _ _

set_option maxRecDepth 100000 in
set_option maxHeartbeats 4000000 in
theorem l30Receive_any (A : Option Addr) (N c n : Nat) (bits : List Int) (w : World) (hn : n ≤ 300) (hN : N = 16 * rowsOf n) (hr : Rd w A N (ints bits)) (hb : allIn bits 0 1 = true) :
    Calls Try.prog 98 #[.slice A N c, .int .i64 n] w (RcvI bits n (.bool (rcvOk bits n)) w) := by
  have HN := Lib.hid hN
  have HB := Lib.hid hb
  have HRM : Hid (rcvM bits n = dec ((sortL bits (rowsOf n)).take (2 * (n + 2))) (n + 2) (n + 2 - 2)) := rfl
  have HR : Hid (2 * (n + 2) ≤ 16 * rowsOf n ∧ 1 ≤ rowsOf n ∧ rowsOf n ≤ 40) := by unfold Hid rowsOf; omega
  have b0 : Below w.heap.size w (w.alloc (.cells #[.int .i64 0, .int .i64 0, .slice none 0 0] 28)) := (Below.refl _ _).alloc (Nat.le_refl _) _
  have B0 := Blk.new w 28 #[.int .i64 0, .int .i64 0, .slice none 0 0]
  have R0 := hr.below b0
  clear hb hN hr
  generalize rowsOf n = m at *
  obtain ⟨hR2, hm1, hm40⟩ := HR.out
  have hN6 : N ≤ 640 := by have := HN.out; omega
  have hNn : 2 * (n + 2) ≤ N := by have := HN.out; omega
  have hdiv : Int.tdiv (N : Int) 16 = (m : Int) := by rw [Int.tdiv_eq_ediv_of_nonneg (by omega)]; have := HN.out; omega
  clear hR2
  go_enter Try.func98, Try.ntmps98
  go_wp2_with fail
  refine (l26Sort_any A N c m bits _ hm40 HN.out R0).mono ?_
  rintro e w1 ⟨⟨SA, sn, sc⟩, rfl, OS, bb⟩
  have B1 := B0.below bb B0.lt
  have b1 := bnext b0 bb
  have hsn : sn = N := by have := OS.rd1.len; rw [sortL_length] at this; simp only at this; rw [← this]; exact HN.out.symm
  subst hsn
  have RT : Rd w1 SA (2 * (n + 2)) (ints ((sortL bits m).take (2 * (n + 2)))) := Rd.take (n := sn) OS.rd1 hNn
  have hnc := OS.nc
  have hmx := OS.capm.2
  simp only at hnc hmx
  have hw1 : IntKind.i64.wrap ((n : Int) + 2) = (n : Int) + 2 := IntWalk.i64_in _ (by omega)
  have hw2 : IntKind.i64.wrap (2 * ((n : Int) + 2)) = 2 * ((n : Int) + 2) := IntWalk.i64_in _ (by omega)
  have ht : (2 * ((n : Int) + 2)).toNat = 2 * (n + 2) := by omega
  have hi0 : (0 : Int) ≤ 2 * ((n : Int) + 2) := by omega
  have hi1 : 2 * ((n : Int) + 2) ≤ (sc : Int) := by omega
  clear bb b0 B0 R0 OS
  go_wp2_with fail
  refine (l28Decode_any SA (n + 2) sc ((sortL bits m).take (2 * (n + 2))) _ (by omega) (by omega) RT).mono ?_
  rintro e w2 ⟨MB, mn, md, rfl, RM, -, hmd, -, bb⟩
  rw [← HRM.out] at RM
  have hmn : mn = n := by have := RM.len; rw [rcvM_length] at this; exact this.symm
  subst hmn
  have B2 := B1.below bb B1.lt
  have b2 := bnext b1 bb
  clear bb b1 B1 RT hw1 hw2 ht hi0 hi1 HRM hdiv hNn hN6
  have HMB : Hid (allIn (rcvM bits mn) 0 1 = true) := rcvM_bits _ _
  go_wp2_with fail
  refine (l25Read_any MB mn md (rcvM bits mn) _ (by omega) hmd RM HMB.out).mono ?_
  rintro e w3 ⟨⟨KA, kn, kc⟩, ⟨x0, x1, ps⟩, rfl, hyes, hkn, OK, bb⟩
  have B3 := B2.below bb B2.lt
  have b3 := bnext b2 bb
  have OK0 := OK
  have OK := OK.mono (C := w.heap.size) b2.size
  simp only at hkn OK
  have hrow : ∀ b, (⟨KA, kn, kc⟩ : Hd).row = some b → b ≠ w.heap.size := fun b e => by have h1 := (OK0.rowlt b e).1; have := B2.lt; omega
  have HO : Hid (rcvOk bits mn = readOk (rcvM bits mn)) := rfl
  have HFY : Hid (readOk (rcvM bits mn) = true → rcvF bits mn = ⟨x0, x1, ps⟩) := fun h => by unfold rcvF rcvOk; rw [if_pos h]; exact (hyes h).symm
  have HFN : Hid (readOk (rcvM bits mn) = false → rcvF bits mn = ⟨0, 0, []⟩) := fun h => by unfold rcvF rcvOk; rw [if_neg (by rw [h]; exact Bool.false_ne_true)]
  clear hyes
  simp only [FrameV]
  rcases Bool.eq_false_or_eq_true (readOk (rcvM bits mn)) with h1 | h1
  · have HF := Lib.hid (HFY.out h1)
    have HV : Hid (rcvOk bits mn = true) := HO.out.trans h1
    rw [h1]
    clear h1 HFY HFN HO
    have BX := (((B3.set_ 0 (.int .i64 x0)).set_ 1 (.int .i64 x1)).set_ 2 (.slice KA kn kc)).alloc (.cells #[.int .i64 x0, .int .i64 x1, .slice KA kn kc] 28)
    have dx := fun o => BX.cell o
    have bx : Below w.heap.size w ((((w3.setCell ⟨w.heap.size, 0, none⟩ (.int .i64 x0)).setCell ⟨w.heap.size, 1, none⟩ (.int .i64 x1)).setCell ⟨w.heap.size, 2, none⟩ (.slice KA kn kc)).alloc (.cells #[.int .i64 x0, .int .i64 x1, .slice KA kn kc] 28)) := (((b3.setCell (p := ⟨w.heap.size, 0, none⟩) (Nat.le_refl _) (.int .i64 x0)).setCell (p := ⟨w.heap.size, 1, none⟩) (Nat.le_refl _) (.int .i64 x1)).setCell (p := ⟨w.heap.size, 2, none⟩) (Nat.le_refl _) (.slice KA kn kc)).alloc (by have := b3.size; simpa [World.setCell] using this) _
    have d3 := fun o => B3.cell o
    have e3 := fun o => B3.frozen o
    have p3 := B3.lt
    go_wp2
    refine bodyPost_ret (v := .tuple #[.agg #[.int .i64 x0, .int .i64 x1, .slice KA kn kc], .bool true]) (by simp [results, Try.results98, go_sem, dx]) rfl ⟨⟨KA, kn, kc⟩, ?_, hkn, ?_, bx⟩
    · rw [HF.out]; rw [HV.out]; rfl
    · rw [HF.out]; exact (((OK.far1 (p := ⟨w.heap.size, 0, none⟩) (fun e => hrow _ e rfl) (.int .i64 x0)).far1 (p := ⟨w.heap.size, 1, none⟩) (fun e => hrow _ e rfl) (.int .i64 x1)).far1 (p := ⟨w.heap.size, 2, none⟩) (fun e => hrow _ e rfl) (.slice KA kn kc)).below ((Below.refl _ _).alloc (Nat.le_refl _) _)
  · have HF := Lib.hid (HFN.out h1)
    have HV : Hid (rcvOk bits mn = false) := HO.out.trans h1
    rw [h1]
    clear h1 HFY HFN HO
    have BX := (((B3.set_ 0 (.int .i64 0)).set_ 1 (.int .i64 0)).set_ 2 (.slice none 0 0)).alloc (.cells #[.int .i64 x0, .int .i64 x1, .slice KA kn kc] 28)
    have dx := fun o => BX.cell o
    have bx : Below w.heap.size w ((((w3.setCell ⟨w.heap.size, 0, none⟩ (.int .i64 0)).setCell ⟨w.heap.size, 1, none⟩ (.int .i64 0)).setCell ⟨w.heap.size, 2, none⟩ (.slice none 0 0)).alloc (.cells #[.int .i64 x0, .int .i64 x1, .slice KA kn kc] 28)) := (((b3.setCell (p := ⟨w.heap.size, 0, none⟩) (Nat.le_refl _) (.int .i64 0)).setCell (p := ⟨w.heap.size, 1, none⟩) (Nat.le_refl _) (.int .i64 0)).setCell (p := ⟨w.heap.size, 2, none⟩) (Nat.le_refl _) (.slice none 0 0)).alloc (by have := b3.size; simpa [World.setCell] using this) _
    have d3 := fun o => B3.cell o
    have e3 := fun o => B3.frozen o
    have p3 := B3.lt
    go_wp2
    refine bodyPost_ret (v := .tuple #[.agg #[.int .i64 0, .int .i64 0, .slice none 0 0], .bool false]) (by simp [results, Try.results98, go_sem, dx]) rfl ⟨⟨none, 0, 0⟩, ?_, Nat.zero_le _, ?_, bx⟩
    · rw [HF.out]; rw [HV.out]; rfl
    · rw [HF.out]; exact Own.nil _ _ _
end Go.Proofs.Ytlgmdekhlcbhoaa
