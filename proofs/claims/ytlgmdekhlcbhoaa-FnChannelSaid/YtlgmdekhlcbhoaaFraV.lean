/- Frames: ReceiveFrame, both sides. Condition: lists of at most 1048576 numbers. -/
import Derived.Test.YtlgmdekhlcbhoaaFraT
namespace Go.Proofs.Ytlgmdekhlcbhoaa
open Go.RowKit

/-- The call has returned a frame in memory of its own, and a code. -/
def RetF (l : FrameC) (code : Int) (w : World) (e : Ending) (w' : World) : Prop :=
  ∃ k : FrameH, e = .returned (.tuple #[FrameV k l, .int .i64 code]) ∧ FrameOk k ∧ RdAll w' (FrameS k l) ∧ WrAll w' w.heap.size (FrameS k l) ∧ Sep (FrameR k) ∧ Below w.heap.size w w'
theorem RetF.zero {w w' : World} {code : Int} (hb : Below w.heap.size w w') : RetF ⟨0, 0, []⟩ code w (.returned (.tuple #[.agg #[.int .i64 0, .int .i64 0, .slice none 0 0], .int .i64 code])) w' :=
  ⟨⟨⟨none, 0, 0⟩⟩, rfl, Nat.zero_le _, RdAll.cons (s := ⟨none, 0, []⟩) (Rd.nil _ _) (RdAll.nil _), WrAll.cons (s := ⟨none, 0, []⟩) (fun h => absurd h (by decide)) (WrAll.nil _ _), Sep.one _, hb⟩
theorem RetF.own {w w' : World} {code : Int} {l : FrameC} {h : Hd} {e : Ending} (he : e = .returned (.tuple #[FrameV ⟨h⟩ l, .int .i64 code])) (o : Own w' w.heap.size 1 h (ints l.payload)) (hn : h.n ≤ 1048576) (hb : Below w.heap.size w w') : RetF l code w e w' := by
  have hw := o.wr
  rw [Nat.mul_one] at hw
  exact ⟨⟨h⟩, he, hn, RdAll.cons (s := ⟨h.A, h.n, ints l.payload⟩) o.rd1 (RdAll.nil _), WrAll.cons (s := ⟨h.A, h.n, ints l.payload⟩) hw (WrAll.nil _ _), Sep.one _, hb⟩
def rfR (bits : List Int) (n : Int) : FrameC := if okList bits 1200 0 1 = true ∧ inR n 0 300 = true ∧ bits.length = 16 * rowsOf n.toNat then rcvF bits n.toNat else ⟨0, 0, []⟩
def rfC (bits : List Int) (n : Int) : Int := if okList bits 1200 0 1 = true then (if inR n 0 300 = true ∧ bits.length = 16 * rowsOf n.toNat then rcvC bits n.toNat else 2) else 1
theorem rf_a {bits : List Int} {n : Int} (h : okList bits 1200 0 1 = false) : rfR bits n = ⟨0, 0, []⟩ ∧ rfC bits n = 1 := by unfold rfR rfC; simp [h]
theorem rf_b {bits : List Int} {n : Int} (h : okList bits 1200 0 1 = true) (h2 : inR n 0 300 = false) : rfR bits n = ⟨0, 0, []⟩ ∧ rfC bits n = 2 := by unfold rfR rfC; simp [h, h2]
theorem rf_c {bits : List Int} {n : Int} (h : okList bits 1200 0 1 = true) (h2 : bits.length ≠ 16 * rowsOf n.toNat) : rfR bits n = ⟨0, 0, []⟩ ∧ rfC bits n = 2 := by unfold rfR rfC; simp [h, h2]
theorem rf_d {bits : List Int} {n : Int} (h : okList bits 1200 0 1 = true) (h2 : inR n 0 300 = true) (h3 : bits.length = 16 * rowsOf n.toNat) : rfR bits n = rcvF bits n.toNat ∧ rfC bits n = rcvC bits n.toNat := by unfold rfR rfC; simp [h, h2, h3]

set_option maxHeartbeats 2000000 in
theorem implReceiveFrame'_any (h' : Hd) (xs : List Int) (n : Int) (w : World) (ok' : IntsOk h') (hr' : RdAll w (IntsS h' xs)) :
    Calls Try.prog 28 #[IntsV h', .int .i64 n] w (RetF (rfR xs n) (rfC xs n) w) := by
  have R0 := hr'.head
  obtain ⟨A, N, c⟩ := h'
  unfold IntsV
  unfold IntsOk at ok'
  simp only at *
  clear hr'
  have HL := Lib.hid R0.len
  have b0 : Below w.heap.size w (w.alloc (.cells #[.int .i64 0, .int .i64 0, .slice none 0 0] 28)) := (Below.refl _ _).alloc (Nat.le_refl _) _
  have B0 := Blk.new w 28 #[.int .i64 0, .int .i64 0, .slice none 0 0]
  have R0 := R0.below b0
  rcases Bool.eq_false_or_eq_true (okList xs 1200 0 1) with ho | ho
  case inr =>
    rw [(rf_a ho).1, (rf_a ho).2]
    go_enter Try.func28, Try.ntmps28
    go_wp2_with (go_at_call 94; refine (isBits_any _ _ _ xs _ _ (by omega) R0).mono ?_; rintro e w' ⟨rfl, rfl⟩; rw [ho])
    refine bodyPost_ret (v := .tuple #[.agg #[.int .i64 0, .int .i64 0, .slice none 0 0], .int .i64 1]) (by simp [results, Try.results28, go_sem]) rfl (RetF.zero b0)
  rcases Bool.eq_false_or_eq_true (inR n 0 300) with hi | hi
  case inr =>
    rw [(rf_b ho hi).1, (rf_b ho hi).2]
    go_enter Try.func28, Try.ntmps28
    go_wp2_with (first | (go_at_call 94; refine (isBits_any _ _ _ xs _ _ (by omega) R0).mono ?_; rintro e w' ⟨rfl, rfl⟩; rw [ho]) | (go_at_call 99; refine (within_any _ _ _ _).mono ?_; rintro e w' ⟨rfl, rfl⟩; rw [hi]))
    refine bodyPost_ret (v := .tuple #[.agg #[.int .i64 0, .int .i64 0, .slice none 0 0], .int .i64 2]) (by simp [results, Try.results28, go_sem]) rfl (RetF.zero b0)
  have hnb := inR_true hi
  obtain ⟨n, rfl⟩ := Int.eq_ofNat_of_zero_le hnb.1
  have hch := chLen_rows n
  have hro : 16 * rowsOf n ≤ 640 := by unfold rowsOf; omega
  by_cases hNN : N = 16 * rowsOf n
  · have HN2 := Lib.hid hNN
    have hd := rf_d ho hi (by rw [HL.out, Int.toNat_natCast]; exact hNN)
    rw [hd.1, hd.2, Int.toNat_natCast]
    have hneq : (N : Int) = 16 * (rowsOf n : Int) := by omega
    have hch : chLen (n : Int) = (N : Int) := by rw [hch, ← hneq]
    clear hd hNN hro hneq
    have HI := Lib.hid hi
    go_enter Try.func28, Try.ntmps28
    go_wp2_with (first | (go_at_call 94; refine (isBits_any _ _ _ xs _ _ (by omega) R0).mono ?_; rintro e w' ⟨rfl, rfl⟩; rw [ho]) | (go_at_call 99; refine (within_any _ _ _ _).mono ?_; rintro e w' ⟨rfl, rfl⟩; rw [hi]) | (first | (go_at_call 100; refine (lengthInt_any _ _ _ _ (by omega)).mono ?_; rintro e w' ⟨rfl, rfl⟩) | (go_at_call 101; refine (channelLength_any _ _ (by omega) (by omega)).mono ?_; rintro e w' ⟨rfl, rfl⟩; rw [hch])))
    refine (receive_any A N c n xs _ (by omega) HN2.out R0 (okList_true ho).2).mono ?_
    rintro e w1 ⟨⟨KA, kn, kc⟩, rfl, hkn, OK, bb⟩
    have B1 := B0.below bb B0.lt
    have b1 := b0.trans (bb.mono b0.size)
    have hrow : ∀ b, (⟨KA, kn, kc⟩ : Hd).row = some b → b ≠ w.heap.size := fun b e => by have h1 := (OK.rowlt b e).1; have := B0.lt; omega
    have OK := OK.mono (C := w.heap.size) b0.size
    simp only at hkn
    generalize rcvF xs n = fr at *
    obtain ⟨x0, x1, ps⟩ := fr
    simp only [FrameV]
    have d1 := fun o => B1.cell o
    have e1 := fun o => B1.frozen o
    have p1 := B1.lt
    have DX := ((B1.set_ 0 (.int .i64 x0)).set_ 1 (.int .i64 x1)).set_ 2 (.slice KA kn kc)
    have dx := fun o => DX.cell o
    clear ho hi bb b0 B0 R0
    go_wp2
    refine bodyPost_ret (v := .tuple #[.agg #[.int .i64 x0, .int .i64 x1, .slice KA kn kc], .int .i64 (rcvC xs n)]) (by simp [results, Try.results28, go_sem, dx]) rfl ?_
    exact RetF.own rfl (((OK.far1 (p := ⟨w.heap.size, 0, none⟩) (fun e => hrow _ e rfl) (.int .i64 x0)).far1 (p := ⟨w.heap.size, 1, none⟩) (fun e => hrow _ e rfl) (.int .i64 x1)).far1 (p := ⟨w.heap.size, 2, none⟩) (fun e => hrow _ e rfl) (.slice KA kn kc)) (by simp only; omega) (((b1.setCell (p := ⟨w.heap.size, 0, none⟩) (Nat.le_refl _) (.int .i64 x0)).setCell (p := ⟨w.heap.size, 1, none⟩) (Nat.le_refl _) (.int .i64 x1)).setCell (p := ⟨w.heap.size, 2, none⟩) (Nat.le_refl _) (.slice KA kn kc))
  · have hc := rf_c (n := (n : Int)) ho (by rw [HL.out, Int.toNat_natCast]; exact hNN)
    rw [hc.1, hc.2]
    have hne : ¬ (N : Int) = 16 * (rowsOf n : Int) := by omega
    generalize rowsOf n = ro at *
    clear hc hNN
    go_enter Try.func28, Try.ntmps28
    go_wp2_with (first | (go_at_call 94; refine (isBits_any _ _ _ xs _ _ (by omega) R0).mono ?_; rintro e w' ⟨rfl, rfl⟩; rw [ho]) | (go_at_call 99; refine (within_any _ _ _ _).mono ?_; rintro e w' ⟨rfl, rfl⟩; rw [hi]) | (first | (go_at_call 100; refine (lengthInt_any _ _ _ _ (by omega)).mono ?_; rintro e w' ⟨rfl, rfl⟩) | (go_at_call 101; refine (channelLength_any _ _ (by omega) (by omega)).mono ?_; rintro e w' ⟨rfl, rfl⟩; rw [hch])))
    refine bodyPost_ret (v := .tuple #[.agg #[.int .i64 0, .int .i64 0, .slice none 0 0], .int .i64 2]) (by simp [results, Try.results28, go_sem]) rfl (RetF.zero b0)

set_option maxHeartbeats 2000000 in
theorem specReceiveFrame'_any (h' : Hd) (xs : List Int) (n : Int) (w : World) (ok' : IntsOk h') (hr' : RdAll w (IntsS h' xs)) :
    Calls Try.prog 27 #[IntsV h', .int .i64 n] w (RetF (rfR xs n) (rfC xs n) w) := by
  have R0 := hr'.head
  obtain ⟨A, N, c⟩ := h'
  unfold IntsV
  unfold IntsOk at ok'
  simp only at *
  clear hr'
  have HL := Lib.hid R0.len
  have b0 : Below w.heap.size w (w.alloc (.cells #[.int .i64 0, .int .i64 0, .slice none 0 0] 28)) := (Below.refl _ _).alloc (Nat.le_refl _) _
  have B0 := Blk.new w 28 #[.int .i64 0, .int .i64 0, .slice none 0 0]
  have R0 := R0.below b0
  rcases Bool.eq_false_or_eq_true (okList xs 1200 0 1) with ho | ho
  case inr =>
    rw [(rf_a ho).1, (rf_a ho).2]
    go_enter Try.func27, Try.ntmps27
    go_wp2_with (go_at_call 92; refine (l25Bits_any _ _ _ xs _ (by omega) R0).mono ?_; rintro e w' ⟨rfl, rfl⟩; rw [ho])
    refine bodyPost_ret (v := .tuple #[.agg #[.int .i64 0, .int .i64 0, .slice none 0 0], .int .i64 1]) (by simp [results, Try.results27, go_sem]) rfl (RetF.zero b0)
  rcases Bool.eq_false_or_eq_true (inR n 0 300) with hi | hi
  case inr =>
    rw [(rf_b ho hi).1, (rf_b ho hi).2]
    go_enter Try.func27, Try.ntmps27
    go_wp2_with (first | (go_at_call 92; refine (l25Bits_any _ _ _ xs _ (by omega) R0).mono ?_; rintro e w' ⟨rfl, rfl⟩; rw [ho]) | (go_at_call 96; refine (l01In_any _ _ _ _).mono ?_; rintro e w' ⟨rfl, rfl⟩; rw [hi]))
    refine bodyPost_ret (v := .tuple #[.agg #[.int .i64 0, .int .i64 0, .slice none 0 0], .int .i64 2]) (by simp [results, Try.results27, go_sem]) rfl (RetF.zero b0)
  have hnb := inR_true hi
  obtain ⟨n, rfl⟩ := Int.eq_ofNat_of_zero_le hnb.1
  have hch := chLen_rows n
  have hro : 16 * rowsOf n ≤ 640 := by unfold rowsOf; omega
  by_cases hNN : N = 16 * rowsOf n
  · have HN2 := Lib.hid hNN
    have hd := rf_d ho hi (by rw [HL.out, Int.toNat_natCast]; exact hNN)
    rw [hd.1, hd.2, Int.toNat_natCast]
    have hneq : (N : Int) = 16 * (rowsOf n : Int) := by omega
    have hch : chLen (n : Int) = (N : Int) := by rw [hch, ← hneq]
    clear hd hNN hro hneq
    have HI := Lib.hid hi
    go_enter Try.func27, Try.ntmps27
    go_wp2_with (first | (go_at_call 92; refine (l25Bits_any _ _ _ xs _ (by omega) R0).mono ?_; rintro e w' ⟨rfl, rfl⟩; rw [ho]) | (go_at_call 96; refine (l01In_any _ _ _ _).mono ?_; rintro e w' ⟨rfl, rfl⟩; rw [hi]) | (go_at_call 97; refine (l30Length_any _ _ (by omega) (by omega)).mono ?_; rintro e w' ⟨rfl, rfl⟩; rw [hch]))
    refine (l30Receive_any A N c n xs _ (by omega) HN2.out R0 (okList_true ho).2).mono ?_
    rintro e w1 ⟨⟨KA, kn, kc⟩, rfl, hkn, OK, bb⟩
    have B1 := B0.below bb B0.lt
    have b1 := b0.trans (bb.mono b0.size)
    have hrow : ∀ b, (⟨KA, kn, kc⟩ : Hd).row = some b → b ≠ w.heap.size := fun b e => by have h1 := (OK.rowlt b e).1; have := B0.lt; omega
    have OK := OK.mono (C := w.heap.size) b0.size
    simp only at hkn
    obtain ⟨fr, hfr⟩ : ∃ fr, rcvF xs n = fr := ⟨_, rfl⟩
    rw [hfr] at OK ⊢
    obtain ⟨x0, x1, ps⟩ := fr
    have HFR := Lib.hid hfr
    simp only [FrameV]
    clear ho hi bb b0 B0 R0 hfr
    rcases Bool.eq_false_or_eq_true (rcvOk xs n) with hok | hok
    · have HC : Hid (rcvC xs n = 0) := by unfold Hid rcvC; rw [hok]; rfl
      
      rw [hok]
      clear hok
      have BX := (((B1.set_ 0 (.int .i64 x0)).set_ 1 (.int .i64 x1)).set_ 2 (.slice KA kn kc)).alloc (.cells #[.int .i64 x0, .int .i64 x1, .slice KA kn kc] 28)
      have dx := fun o => BX.cell o
      have bx : Below w.heap.size w ((((w1.setCell ⟨w.heap.size, 0, none⟩ (.int .i64 x0)).setCell ⟨w.heap.size, 1, none⟩ (.int .i64 x1)).setCell ⟨w.heap.size, 2, none⟩ (.slice KA kn kc)).alloc (.cells #[.int .i64 x0, .int .i64 x1, .slice KA kn kc] 28)) := (((b1.setCell (p := ⟨w.heap.size, 0, none⟩) (Nat.le_refl _) (.int .i64 x0)).setCell (p := ⟨w.heap.size, 1, none⟩) (Nat.le_refl _) (.int .i64 x1)).setCell (p := ⟨w.heap.size, 2, none⟩) (Nat.le_refl _) (.slice KA kn kc)).alloc (by have := b1.size; simpa [World.setCell] using this) _
      have hkn2 : (⟨KA, kn, kc⟩ : Hd).n ≤ 1048576 := by simp only; omega
      have ox : Own ((((w1.setCell ⟨w.heap.size, 0, none⟩ (.int .i64 x0)).setCell ⟨w.heap.size, 1, none⟩ (.int .i64 x1)).setCell ⟨w.heap.size, 2, none⟩ (.slice KA kn kc)).alloc (.cells #[.int .i64 x0, .int .i64 x1, .slice KA kn kc] 28)) w.heap.size 1 ⟨KA, kn, kc⟩ (ints ps) := ((((OK.far1 (p := ⟨w.heap.size, 0, none⟩) (fun e => hrow _ e rfl) (.int .i64 x0)).far1 (p := ⟨w.heap.size, 1, none⟩) (fun e => hrow _ e rfl) (.int .i64 x1)).far1 (p := ⟨w.heap.size, 2, none⟩) (fun e => hrow _ e rfl) (.slice KA kn kc)).below ((Below.refl _ _).alloc (Nat.le_refl _) _))
      have d1 := fun o => B1.cell o
      have e1 := fun o => B1.frozen o
      have p1 := B1.lt
      go_wp2
      refine bodyPost_ret (v := .tuple #[.agg #[.int .i64 x0, .int .i64 x1, .slice KA kn kc], .int .i64 0]) (by simp [results, Try.results27, go_sem, dx]) rfl (by rw [HC.out, HFR.out]; exact RetF.own rfl ox hkn2 bx)
    · have HC : Hid (rcvC xs n = 6) := by unfold Hid rcvC; rw [hok]; rfl
      have HZ : Hid ((⟨x0, x1, ps⟩ : FrameC) = ⟨0, 0, []⟩) := by unfold Hid; rw [← HFR.out]; unfold rcvF; rw [hok]; rfl
      rw [hok]
      clear hok
      have BX := (((B1.set_ 0 (.int .i64 0)).set_ 1 (.int .i64 0)).set_ 2 (.slice none 0 0)).alloc (.cells #[.int .i64 x0, .int .i64 x1, .slice KA kn kc] 28)
      have dx := fun o => BX.cell o
      have bx : Below w.heap.size w ((((w1.setCell ⟨w.heap.size, 0, none⟩ (.int .i64 0)).setCell ⟨w.heap.size, 1, none⟩ (.int .i64 0)).setCell ⟨w.heap.size, 2, none⟩ (.slice none 0 0)).alloc (.cells #[.int .i64 x0, .int .i64 x1, .slice KA kn kc] 28)) := (((b1.setCell (p := ⟨w.heap.size, 0, none⟩) (Nat.le_refl _) (.int .i64 0)).setCell (p := ⟨w.heap.size, 1, none⟩) (Nat.le_refl _) (.int .i64 0)).setCell (p := ⟨w.heap.size, 2, none⟩) (Nat.le_refl _) (.slice none 0 0)).alloc (by have := b1.size; simpa [World.setCell] using this) _
      have d1 := fun o => B1.cell o
      have e1 := fun o => B1.frozen o
      have p1 := B1.lt
      go_wp2
      refine bodyPost_ret (v := .tuple #[.agg #[.int .i64 0, .int .i64 0, .slice none 0 0], .int .i64 6]) (by simp [results, Try.results27, go_sem, dx]) rfl (by rw [HC.out, HFR.out, HZ.out]; exact RetF.zero bx)
  · have hc := rf_c (n := (n : Int)) ho (by rw [HL.out, Int.toNat_natCast]; exact hNN)
    rw [hc.1, hc.2]
    have hne : ¬ (N : Int) = 16 * (rowsOf n : Int) := by omega
    generalize rowsOf n = ro at *
    clear hc hNN
    go_enter Try.func27, Try.ntmps27
    go_wp2_with (first | (go_at_call 92; refine (l25Bits_any _ _ _ xs _ (by omega) R0).mono ?_; rintro e w' ⟨rfl, rfl⟩; rw [ho]) | (go_at_call 96; refine (l01In_any _ _ _ _).mono ?_; rintro e w' ⟨rfl, rfl⟩; rw [hi]) | (go_at_call 97; refine (l30Length_any _ _ (by omega) (by omega)).mono ?_; rintro e w' ⟨rfl, rfl⟩; rw [hch]))
    refine bodyPost_ret (v := .tuple #[.agg #[.int .i64 0, .int .i64 0, .slice none 0 0], .int .i64 2]) (by simp [results, Try.results27, go_sem]) rfl (RetF.zero b0)
end Go.Proofs.Ytlgmdekhlcbhoaa
