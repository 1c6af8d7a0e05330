/- Frames: CountWrong, both sides. Condition: lists of at most 1048576 numbers. -/
import Derived.Test.YtlgmdekhlcbhoaaFraS
import Derived.Test.YtlgmdekhlcbhoaaVit
namespace Go.Proofs.Ytlgmdekhlcbhoaa
open Go.RowKit

set_option maxHeartbeats 1000000 in
theorem l27Distance_any (A : Option Addr) (n c : Nat) (s : List Int) (B : Option Addr) (d : Nat) (xs : List Int) (w : World) (hn : n ≤ 2000) (hr : Rd w A n (ints s)) (hq : Rd w B n (ints xs)) (hb : allIn xs 0 1 = true) :
    Calls Try.prog 93 #[.slice A n c, .slice B n d] w fun e w' => e = .returned (.int .i64 (diffs xs s n)) ∧ Below w.heap.size w w' := by
  have HL := Lib.hid hq.len
  have HB := Lib.hid hb
  clear hb
  go_enter Try.func93, Try.ntmps93
  go_wp2
  go_loopw [5, 6] (fun o i wr => ∃ k u : Nat, k ≤ n ∧ i = .int .i64 k ∧ o = .int .i64 (diffs xs s k) ∧ wr = w.drewN u) (fun _ i _ => n - (intOf i).toNat)
  case atStart => exact ⟨0, 0, Nat.zero_le _, rfl, rfl, rfl⟩
  case round =>
    obtain ⟨k, u, hk, rfl, rfl, rfl⟩ := hrel
    by_cases hlt : k < n
    · obtain ⟨ad, rfl, hx⟩ := hr.int hlt
      obtain ⟨bd, rfl, hy⟩ := hq.int hlt
      have HS := Lib.hid (diffs_succ xs s k)
      have hd := diffs_bd xs s k
      have hbx := allIn_getD HB.out (show k < xs.length by rw [HL.out]; exact hlt)
      have hltI : (k : Int) < (n : Int) := by omega
      generalize xs.getD k 0 = x at *
      generalize s.getD k 0 = y at *
      generalize diffs xs s k = t at *
      rcases Bool.eq_false_or_eq_true (y != x) with e2 | e2
      · have HE : Hid (wrongB y x = 1) := by unfold Hid wrongB; simp at e2; rw [if_neg]; rintro (h | h); omega; exact e2 h
        go_wp2_with fail
        go_quiet (fail)
        go_wp2
        go_roundw
        case rel => exact ⟨k + 1, _, by omega, by go_num, by rw [HS.out, HE.out], rfl⟩
        case measure => simp [intOf]; omega
      · have HE : Hid (wrongB y x = 0) := by unfold Hid wrongB; simp at e2; simp [e2]
        go_wp2_with fail
        go_quiet (fail)
        go_wp2
        go_roundw
        case rel => exact ⟨k + 1, _, by omega, by go_num, by rw [HS.out, HE.out, Int.add_zero], rfl⟩
        case measure => simp [intOf]; omega
    · obtain rfl : k = n := by omega
      go_wp2
      go_ret
      exact ⟨rfl, Below.drewN (Below.refl _ _) _⟩

def cwR (l : FrameC) (xs : List Int) : Int := if frOkC l = true ∧ okList xs 1200 0 1 = true ∧ xs.length = (sendL (frameC l)).length then diffs xs (sendL (frameC l)) xs.length else 0
def cwC (l : FrameC) (xs : List Int) : Int := if frOkC l = true ∧ okList xs 1200 0 1 = true then (if xs.length = (sendL (frameC l)).length then 0 else 5) else 1

set_option maxHeartbeats 2000000 in
theorem implCountWrong'_any (h : FrameH) (l : FrameC) (h' : Hd) (xs : List Int) (w : World) (ok : FrameOk h) (hr : RdAll w (FrameS h l)) (ok' : IntsOk h') (hr' : RdAll w (IntsS h' xs)) :
    Calls Try.prog 26 #[FrameV h l, IntsV h'] w fun e w' => e = .returned (.tuple #[.int .i64 (cwR l xs), .int .i64 (cwC l xs)]) ∧ Below w.heap.size w w' := by
  have HI := fun (W : World) (b : Below w.heap.size w W) => Lib.hid (implIsFrame_any h l W ok (hr.below b))
  have R0 := hr'.head
  obtain ⟨B, m, d⟩ := h'
  unfold IntsV
  unfold IntsOk at ok'
  simp only at *
  clear hr'
  rcases Bool.eq_false_or_eq_true (frOkC l) with hc | hc
  · have hs := fun (W : World) (b : Below w.heap.size w W) => Lib.hid (send_any h l W (hr.below b) (FrO.of hc))
    rcases Bool.eq_false_or_eq_true (okList xs 1200 0 1) with ho | ho
    · have HX := Lib.hid (okList_true ho).2
      have HL := Lib.hid R0.len
      have HLn := Lib.hid (frameL_length l.kind l.number l.payload (FrO.of hc).len)
      have HSL : Hid ((sendL (frameC l)).length ≤ 1000) := by
        unfold Hid; rw [sendL_length]; unfold rowsOf; have : (frameC l).length ≤ 284 := HLn.out.2; omega
      have E1 : Hid (xs.length = (sendL (frameC l)).length → cwR l xs = diffs xs (sendL (frameC l)) xs.length ∧ cwC l xs = 0) := by unfold Hid cwR cwC; intro h; simp [hc, ho, h]
      have E2 : Hid (xs.length ≠ (sendL (frameC l)).length → cwR l xs = 0 ∧ cwC l xs = 5) := by unfold Hid cwR cwC; intro h; simp [hc, ho, h]
      rw [hc] at HI
      generalize cwR l xs = rr at *
      generalize cwC l xs = cc at *
      clear hr ok HLn hc
      generalize sendL (frameC l) = s at *
      obtain ⟨⟨A2, n2, c2⟩⟩ := h
      obtain ⟨x0, x1, l2⟩ := l
      unfold FrameV at *
      simp only at *
      have hb0 : Below w.heap.size w (w.alloc (.cells #[.int .i64 x0, .int .i64 x1, .slice A2 n2 c2] 28)) := (Below.refl _ _).alloc (Nat.le_refl _) _
      have H1 := HI _ hb0
      clear HI
      go_enter Try.func26, Try.ntmps26
      go_wp2_with fail
      refine H1.out.mono ?_
      rintro e w1 ⟨rfl, b1⟩
      have K1 := (Blk.new w 28 #[.int .i64 x0, .int .i64 x1, .slice A2 n2 c2]).below b1 (by simp)
      have hc1 := fun o => K1.cell o
      have hq1 := K1.lt
      have b1 := hb0.trans (b1.mono hb0.size)
      have H2 := hs _ b1
      go_wp2_with (go_at_call 94; refine (isBits_any _ _ _ xs _ _ (by omega) (R0.below b1)).mono ?_; rintro e w' ⟨rfl, rfl⟩; rw [ho])
      refine H2.out.mono ?_
      rintro e w2 ⟨⟨AQ, n1, c1⟩, rfl, O1, b2⟩
      have bw := bnext b1 b2
      have R1 := O1.rd1
      simp only at R1
      have R2 := R0.below bw
      have HL1 := Lib.hid R1.len
      have hn1 : n1 ≤ 1000 := by rw [← HL1.out]; exact HSL.out
      clear O1 hs H1 H2 HSL
      by_cases hlen : n1 = m
      · subst hlen
        have e := E1.out (by rw [HL.out, HL1.out])
        rw [HL.out] at e
        have E := Lib.hid e
        clear E1 E2 e
        go_wp2_with fail
        refine (differences_any B AQ n1 d n1 c1 xs s _ (by omega) R2 R1 (Nat.le_refl _)).mono ?_
        rintro e w' ⟨rfl, rfl⟩
        go_wp2
        go_ret2
        exact ⟨(by rw [E.out.1, E.out.2]; rfl), bw⟩
      · have e := E2.out (by rw [HL.out, HL1.out]; exact fun h => hlen h.symm)
        have E := Lib.hid e
        have hlenI : ¬ ((m : Int) = (n1 : Int)) := by omega
        have hlenJ : ¬ ((n1 : Int) = (m : Int)) := by omega
        clear E1 E2 e
        go_wp2
        go_ret2
        exact ⟨(by rw [E.out.1, E.out.2]; rfl), bw⟩
    · have e : cwR l xs = 0 ∧ cwC l xs = 1 := by unfold cwR cwC; simp [ho]
      rw [e.1, e.2]
      rw [hc] at HI
      clear e hr ok hs hc
      obtain ⟨⟨A2, n2, c2⟩⟩ := h
      obtain ⟨x0, x1, l2⟩ := l
      unfold FrameV at *
      simp only at *
      have hb0 : Below w.heap.size w (w.alloc (.cells #[.int .i64 x0, .int .i64 x1, .slice A2 n2 c2] 28)) := (Below.refl _ _).alloc (Nat.le_refl _) _
      have H1 := HI _ hb0
      clear HI
      go_enter Try.func26, Try.ntmps26
      go_wp2_with fail
      refine H1.out.mono ?_
      rintro e w1 ⟨rfl, b1⟩
      have K1 := (Blk.new w 28 #[.int .i64 x0, .int .i64 x1, .slice A2 n2 c2]).below b1 (by simp)
      have hc1 := fun o => K1.cell o
      have hq1 := K1.lt
      have b1 := hb0.trans (b1.mono hb0.size)
      go_wp2_with (go_at_call 94; refine (isBits_any _ _ _ xs _ _ (by omega) (R0.below b1)).mono ?_; rintro e w' ⟨rfl, rfl⟩; rw [ho])
      go_ret2
      exact ⟨rfl, b1⟩
  · have e : cwR l xs = 0 ∧ cwC l xs = 1 := by unfold cwR cwC; simp [hc]
    rw [e.1, e.2]
    rw [hc] at HI
    clear e hr ok hc
    obtain ⟨⟨A2, n2, c2⟩⟩ := h
    obtain ⟨x0, x1, l2⟩ := l
    unfold FrameV at *
    simp only at *
    have hb0 : Below w.heap.size w (w.alloc (.cells #[.int .i64 x0, .int .i64 x1, .slice A2 n2 c2] 28)) := (Below.refl _ _).alloc (Nat.le_refl _) _
    have H1 := HI _ hb0
    clear HI
    go_enter Try.func26, Try.ntmps26
    go_wp2_with fail
    refine H1.out.mono ?_
    rintro e w1 ⟨rfl, b1⟩
    have K1 := (Blk.new w 28 #[.int .i64 x0, .int .i64 x1, .slice A2 n2 c2]).below b1 (by simp)
    have hc1 := fun o => K1.cell o
    have hq1 := K1.lt
    have b1 := hb0.trans (b1.mono hb0.size)
    go_wp2
    go_ret2
    exact ⟨rfl, b1⟩

set_option maxHeartbeats 2000000 in
theorem specCountWrong'_any (h : FrameH) (l : FrameC) (h' : Hd) (xs : List Int) (w : World) (ok : FrameOk h) (hr : RdAll w (FrameS h l)) (ok' : IntsOk h') (hr' : RdAll w (IntsS h' xs)) :
    Calls Try.prog 24 #[FrameV h l, IntsV h'] w fun e w' => e = .returned (.tuple #[.int .i64 (cwR l xs), .int .i64 (cwC l xs)]) ∧ Below w.heap.size w w' := by
  have HI := fun (W : World) (b : Below w.heap.size w W) => Lib.hid (specIsFrame_any h l W ok (hr.below b))
  have R0 := hr'.head
  obtain ⟨B, m, d⟩ := h'
  unfold IntsV
  unfold IntsOk at ok'
  simp only at *
  clear hr'
  rcases Bool.eq_false_or_eq_true (frOkC l) with hc | hc
  · have hs := fun (W : World) (b : Below w.heap.size w W) => Lib.hid (l30Send_any h l W (hr.below b) (FrO.of hc))
    rcases Bool.eq_false_or_eq_true (okList xs 1200 0 1) with ho | ho
    · have HX := Lib.hid (okList_true ho).2
      have HL := Lib.hid R0.len
      have HLn := Lib.hid (frameL_length l.kind l.number l.payload (FrO.of hc).len)
      have HSL : Hid ((sendL (frameC l)).length ≤ 1000) := by
        unfold Hid; rw [sendL_length]; unfold rowsOf; have : (frameC l).length ≤ 284 := HLn.out.2; omega
      have E1 : Hid (xs.length = (sendL (frameC l)).length → cwR l xs = diffs xs (sendL (frameC l)) xs.length ∧ cwC l xs = 0) := by unfold Hid cwR cwC; intro h; simp [hc, ho, h]
      have E2 : Hid (xs.length ≠ (sendL (frameC l)).length → cwR l xs = 0 ∧ cwC l xs = 5) := by unfold Hid cwR cwC; intro h; simp [hc, ho, h]
      rw [hc] at HI
      generalize cwR l xs = rr at *
      generalize cwC l xs = cc at *
      clear hr ok HLn hc
      generalize sendL (frameC l) = s at *
      obtain ⟨⟨A2, n2, c2⟩⟩ := h
      obtain ⟨x0, x1, l2⟩ := l
      unfold FrameV at *
      simp only at *
      have hb0 : Below w.heap.size w (w.alloc (.cells #[.int .i64 x0, .int .i64 x1, .slice A2 n2 c2] 28)) := (Below.refl _ _).alloc (Nat.le_refl _) _
      have H1 := HI _ hb0
      clear HI
      go_enter Try.func24, Try.ntmps24
      go_wp2_with fail
      refine H1.out.mono ?_
      rintro e w1 ⟨rfl, b1⟩
      have K1 := (Blk.new w 28 #[.int .i64 x0, .int .i64 x1, .slice A2 n2 c2]).below b1 (by simp)
      have hc1 := fun o => K1.cell o
      have hq1 := K1.lt
      have b1 := hb0.trans (b1.mono hb0.size)
      have H2 := hs _ b1
      go_wp2_with (go_at_call 92; refine (l25Bits_any _ _ _ xs _ (by omega) (R0.below b1)).mono ?_; rintro e w' ⟨rfl, rfl⟩; rw [ho])
      refine H2.out.mono ?_
      rintro e w2 ⟨⟨AQ, n1, c1⟩, rfl, O1, b2⟩
      have bw := bnext b1 b2
      have R1 := O1.rd1
      simp only at R1
      have R2 := R0.below bw
      have HL1 := Lib.hid R1.len
      have hn1 : n1 ≤ 1000 := by rw [← HL1.out]; exact HSL.out
      clear O1 hs H1 H2 HSL
      by_cases hlen : n1 = m
      · subst hlen
        have e := E1.out (by rw [HL.out, HL1.out])
        rw [HL.out] at e
        have E := Lib.hid e
        clear E1 E2 e
        go_wp2_with fail
        refine (l27Distance_any AQ n1 c1 s B d xs _ (by omega) R1 R2 HX.out).mono ?_
        rintro e w3 ⟨rfl, b3⟩
        go_wp2
        go_ret2
        exact ⟨(by rw [E.out.1, E.out.2]; rfl), bnext bw b3⟩
      · have e := E2.out (by rw [HL.out, HL1.out]; exact fun h => hlen h.symm)
        have E := Lib.hid e
        have hlenI : ¬ ((m : Int) = (n1 : Int)) := by omega
        have hlenJ : ¬ ((n1 : Int) = (m : Int)) := by omega
        clear E1 E2 e
        go_wp2
        go_ret2
        exact ⟨(by rw [E.out.1, E.out.2]; rfl), bw⟩
    · have e : cwR l xs = 0 ∧ cwC l xs = 1 := by unfold cwR cwC; simp [ho]
      rw [e.1, e.2]
      rw [hc] at HI
      clear e hr ok hs hc
      obtain ⟨⟨A2, n2, c2⟩⟩ := h
      obtain ⟨x0, x1, l2⟩ := l
      unfold FrameV at *
      simp only at *
      have hb0 : Below w.heap.size w (w.alloc (.cells #[.int .i64 x0, .int .i64 x1, .slice A2 n2 c2] 28)) := (Below.refl _ _).alloc (Nat.le_refl _) _
      have H1 := HI _ hb0
      clear HI
      go_enter Try.func24, Try.ntmps24
      go_wp2_with fail
      refine H1.out.mono ?_
      rintro e w1 ⟨rfl, b1⟩
      have K1 := (Blk.new w 28 #[.int .i64 x0, .int .i64 x1, .slice A2 n2 c2]).below b1 (by simp)
      have hc1 := fun o => K1.cell o
      have hq1 := K1.lt
      have b1 := hb0.trans (b1.mono hb0.size)
      go_wp2_with (go_at_call 92; refine (l25Bits_any _ _ _ xs _ (by omega) (R0.below b1)).mono ?_; rintro e w' ⟨rfl, rfl⟩; rw [ho])
      go_ret2
      exact ⟨rfl, b1⟩
  · have e : cwR l xs = 0 ∧ cwC l xs = 1 := by unfold cwR cwC; simp [hc]
    rw [e.1, e.2]
    rw [hc] at HI
    clear e hr ok hc
    obtain ⟨⟨A2, n2, c2⟩⟩ := h
    obtain ⟨x0, x1, l2⟩ := l
    unfold FrameV at *
    simp only at *
    have hb0 : Below w.heap.size w (w.alloc (.cells #[.int .i64 x0, .int .i64 x1, .slice A2 n2 c2] 28)) := (Below.refl _ _).alloc (Nat.le_refl _) _
    have H1 := HI _ hb0
    clear HI
    go_enter Try.func24, Try.ntmps24
    go_wp2_with fail
    refine H1.out.mono ?_
    rintro e w1 ⟨rfl, b1⟩
    have K1 := (Blk.new w 28 #[.int .i64 x0, .int .i64 x1, .slice A2 n2 c2]).below b1 (by simp)
    have hc1 := fun o => K1.cell o
    have hq1 := K1.lt
    have b1 := hb0.trans (b1.mono hb0.size)
    go_wp2
    go_ret2
    exact ⟨rfl, b1⟩
end Go.Proofs.Ytlgmdekhlcbhoaa
