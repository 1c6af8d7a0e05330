/- Frames: SendFrame, both sides. Condition: lists of at most 1048576 numbers. -/
import Derived.Test.YtlgmdekhlcbhoaaFraG
namespace Go.Proofs.Ytlgmdekhlcbhoaa
open Go.RowKit

def sendR (l : FrameC) : List Int := if frOkC l = true then sendL (frameC l) else []
def sendC (l : FrameC) : Int := if frOkC l = true then 0 else 1
/-- The call has returned the list ys, in memory of its own, and a code. -/
def RetL (ys : List Int) (code : Int) (w : World) (e : Ending) (w' : World) : Prop :=
  ∃ k : Hd, e = .returned (.tuple #[IntsV k, .int .i64 code]) ∧ IntsOk k ∧ RdAll w' (IntsS k ys) ∧ WrAll w' w.heap.size (IntsS k ys) ∧ Sep (IntsR k) ∧ Below w.heap.size w w'
theorem RetL.nil {w w' : World} {code : Int} (hb : Below w.heap.size w w') : RetL [] code w (.returned (.tuple #[.slice none 0 0, .int .i64 code])) w' :=
  ⟨⟨none, 0, 0⟩, rfl, Nat.zero_le _, RdAll.cons (s := ⟨none, 0, []⟩) (Rd.nil _ _) (RdAll.nil _), WrAll.cons (s := ⟨none, 0, []⟩) (fun h => absurd h (by decide)) (WrAll.nil _ _), Sep.one _, hb⟩
theorem RetL.own {w w' : World} {code : Int} {ys : List Int} {A : Option Addr} {n c : Nat} {e : Ending} (he : e = .returned (.tuple #[.slice A n c, .int .i64 code])) (o : Own w' w.heap.size 1 ⟨A, n, c⟩ (ints ys)) (hn : n ≤ 1048576) (hb : Below w.heap.size w w') : RetL ys code w e w' := by
  have hw := o.wr
  rw [Nat.mul_one] at hw
  exact ⟨⟨A, n, c⟩, he, hn, RdAll.cons (s := ⟨A, n, ints ys⟩) o.rd1 (RdAll.nil _), WrAll.cons (s := ⟨A, n, ints ys⟩) hw (WrAll.nil _ _), Sep.one _, hb⟩

set_option maxHeartbeats 1000000 in
theorem implSendFrame'_any (h : FrameH) (l : FrameC) (w : World) (ok : FrameOk h) (hr : RdAll w (FrameS h l)) :
    Calls Try.prog 18 #[FrameV h l] w (RetL (sendR l) (sendC l) w) := by
  have HI := fun (W : World) (b : Below w.heap.size w W) => Lib.hid (implIsFrame_any h l W ok (hr.below b))
  rcases Bool.eq_false_or_eq_true (frOkC l) with hc | hc
  · have hs := fun (W : World) (b : Below w.heap.size w W) => Lib.hid (send_any h l W (hr.below b) (FrO.of hc))
    have e1 : Hid (sendR l = sendL (frameC l) ∧ sendC l = 0) := by unfold Hid sendR sendC; simp [hc]
    have HLn := Lib.hid (frameL_length l.kind l.number l.payload (FrO.of hc).len)
    obtain ⟨⟨A2, n2, c2⟩⟩ := h
    obtain ⟨x0, x1, l2⟩ := l
    rw [e1.out.1, e1.out.2]
    have HSL : Hid ((sendL (frameC ⟨x0, x1, l2⟩)).length ≤ 1000) := by
      unfold Hid; rw [sendL_length]; unfold rowsOf; have : (frameC ⟨x0, x1, l2⟩).length ≤ 284 := HLn.out.2; omega
    clear e1 HLn ok hr
    rw [hc] at HI
    generalize frameC ⟨x0, x1, l2⟩ = q at *
    clear hc
    unfold FrameV at *
    simp only at *
    have hb0 : Below w.heap.size w (w.alloc (.cells #[.int .i64 x0, .int .i64 x1, .slice A2 n2 c2] 28)) := (Below.refl _ _).alloc (Nat.le_refl _) _
    have H1 := HI _ hb0
    clear HI
    go_enter Try.func18, Try.ntmps18
    go_wp2_with fail
    refine H1.out.mono ?_
    rintro e w1 ⟨rfl, b1⟩
    have K1 := (Blk.new w 28 #[.int .i64 x0, .int .i64 x1, .slice A2 n2 c2]).below b1 (by simp)
    have hc1 := fun o => K1.cell o
    have hq1 := K1.lt
    have b1 := hb0.trans (b1.mono hb0.size)
    have H2 := hs _ b1
    go_wp2_with fail
    refine H2.out.mono ?_
    rintro e w2 ⟨⟨AQ, n1, c1⟩, rfl, O1, b2⟩
    have bw := bnext b1 b2
    have O1 := O1.mono b1.size
    have hn : n1 ≤ 1048576 := by have := HSL.out; have := O1.rd1.len; simp only at this; omega
    clear hs H1 H2
    go_wp2
    go_ret2
    exact RetL.own rfl O1 hn bw
  · have e1 : Hid (sendR l = [] ∧ sendC l = 1) := by unfold Hid sendR sendC; simp [hc]
    rw [e1.out.1, e1.out.2]
    obtain ⟨⟨A2, n2, c2⟩⟩ := h
    obtain ⟨x0, x1, l2⟩ := l
    rw [hc] at HI
    clear e1 ok hr hc
    unfold FrameV at *
    simp only at *
    have hb0 : Below w.heap.size w (w.alloc (.cells #[.int .i64 x0, .int .i64 x1, .slice A2 n2 c2] 28)) := (Below.refl _ _).alloc (Nat.le_refl _) _
    have H1 := HI _ hb0
    clear HI
    go_enter Try.func18, Try.ntmps18
    go_wp2_with fail
    refine H1.out.mono ?_
    rintro e w1 ⟨rfl, b1⟩
    have b1 := hb0.trans (b1.mono hb0.size)
    go_wp2
    go_ret2
    exact RetL.nil b1

set_option maxHeartbeats 1000000 in
theorem specSendFrame'_any (h : FrameH) (l : FrameC) (w : World) (ok : FrameOk h) (hr : RdAll w (FrameS h l)) :
    Calls Try.prog 16 #[FrameV h l] w (RetL (sendR l) (sendC l) w) := by
  have HI := fun (W : World) (b : Below w.heap.size w W) => Lib.hid (specIsFrame_any h l W ok (hr.below b))
  rcases Bool.eq_false_or_eq_true (frOkC l) with hc | hc
  · have hs := fun (W : World) (b : Below w.heap.size w W) => Lib.hid (l30Send_any h l W (hr.below b) (FrO.of hc))
    have e1 : Hid (sendR l = sendL (frameC l) ∧ sendC l = 0) := by unfold Hid sendR sendC; simp [hc]
    have HLn := Lib.hid (frameL_length l.kind l.number l.payload (FrO.of hc).len)
    obtain ⟨⟨A2, n2, c2⟩⟩ := h
    obtain ⟨x0, x1, l2⟩ := l
    rw [e1.out.1, e1.out.2]
    have HSL : Hid ((sendL (frameC ⟨x0, x1, l2⟩)).length ≤ 1000) := by
      unfold Hid; rw [sendL_length]; unfold rowsOf; have : (frameC ⟨x0, x1, l2⟩).length ≤ 284 := HLn.out.2; omega
    clear e1 HLn ok hr
    rw [hc] at HI
    generalize frameC ⟨x0, x1, l2⟩ = q at *
    clear hc
    unfold FrameV at *
    simp only at *
    have hb0 : Below w.heap.size w (w.alloc (.cells #[.int .i64 x0, .int .i64 x1, .slice A2 n2 c2] 28)) := (Below.refl _ _).alloc (Nat.le_refl _) _
    have H1 := HI _ hb0
    clear HI
    go_enter Try.func16, Try.ntmps16
    go_wp2_with fail
    refine H1.out.mono ?_
    rintro e w1 ⟨rfl, b1⟩
    have K1 := (Blk.new w 28 #[.int .i64 x0, .int .i64 x1, .slice A2 n2 c2]).below b1 (by simp)
    have hc1 := fun o => K1.cell o
    have hq1 := K1.lt
    have b1 := hb0.trans (b1.mono hb0.size)
    have H2 := hs _ b1
    go_wp2_with fail
    refine H2.out.mono ?_
    rintro e w2 ⟨⟨AQ, n1, c1⟩, rfl, O1, b2⟩
    have bw := bnext b1 b2
    have O1 := O1.mono b1.size
    have hn : n1 ≤ 1048576 := by have := HSL.out; have := O1.rd1.len; simp only at this; omega
    clear hs H1 H2
    go_wp2
    go_ret2
    exact RetL.own rfl O1 hn bw
  · have e1 : Hid (sendR l = [] ∧ sendC l = 1) := by unfold Hid sendR sendC; simp [hc]
    rw [e1.out.1, e1.out.2]
    obtain ⟨⟨A2, n2, c2⟩⟩ := h
    obtain ⟨x0, x1, l2⟩ := l
    rw [hc] at HI
    clear e1 ok hr hc
    unfold FrameV at *
    simp only at *
    have hb0 : Below w.heap.size w (w.alloc (.cells #[.int .i64 x0, .int .i64 x1, .slice A2 n2 c2] 28)) := (Below.refl _ _).alloc (Nat.le_refl _) _
    have H1 := HI _ hb0
    clear HI
    go_enter Try.func16, Try.ntmps16
    go_wp2_with fail
    refine H1.out.mono ?_
    rintro e w1 ⟨rfl, b1⟩
    have b1 := hb0.trans (b1.mono hb0.size)
    go_wp2
    go_ret2
    exact RetL.nil b1
end Go.Proofs.Ytlgmdekhlcbhoaa
