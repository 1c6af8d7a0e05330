/- Frames, plain: what is received after two wrong bits or less. Condition: none. -/
import Derived.Test.YtlgmdekhlcbhoaaFraZ
import Derived.Test.YtlgmdekhlcbhoaaFraW
namespace Go.Proofs.Ytlgmdekhlcbhoaa
open Go.RowKit

theorem recv_dam {xs : List Int} (hb : allIn xs 0 1 = true) {ps : List Int} (hl : ps.length ≤ 2) (hin : ∀ p ∈ ps, 0 ≤ p ∧ p < ((16 * rowsOf xs.length : Nat) : Int)) : rcvM (damage (sendL xs) ps) xs.length = xs := by
  have hd := damage_bits (sendL_bits hb) ps
  unfold rcvM
  match ps, hl, hin, hd with
  | [], _, _, _ => exact recv_none hb
  | [p], _, hin, hd =>
    have h1 := hin p (by simp)
    exact recv_one hb (by omega) hd
  | [p, q], _, hin, hd =>
    have h1 := hin p (by simp)
    have h2 := hin q (by simp)
    exact recv_two hb (by omega) (by omega) hd
theorem rcv_frame {l : FrameC} (h : FrO l) {ps : List Int} (hl : ps.length ≤ 2) (hin : ∀ p ∈ ps, 0 ≤ p ∧ p < ((sendL (frameC l)).length : Int)) :
    rcvOk (damage (sendL (frameC l)) ps) (frameC l).length = true ∧ rcvF (damage (sendL (frameC l)) ps) (frameC l).length = l := by
  rw [sendL_length] at hin
  have e := recv_dam (frameL_bits l.kind l.number l.payload) hl hin
  have e : rcvM (damage (sendL (frameC l)) ps) (frameC l).length = frameC l := e
  have r := read_frame h
  have h1 : rcvOk (damage (sendL (frameC l)) ps) (frameC l).length = true := by unfold rcvOk; rw [e]; exact r.2
  refine ⟨h1, ?_⟩
  unfold rcvF
  rw [if_pos h1, e]
  exact r.1
theorem sb_two {l : FrameC} {f s : Int} (h : sbC l f s = 0) (hs : s ≤ 2) : sbR l f s = true := by
  unfold sbC at h
  by_cases h1 : frOkC l = true
  · rw [if_pos h1] at h
    by_cases h2 : burstOk (sendL (frameC l)).length f s = true
    · have r := rcv_frame (FrO.of h1) (ps := bplaces f s.toNat) (by unfold bplaces; rw [List.length_map, List.length_range]; omega) (bplaces_in h2)
      unfold sbR sbB
      rw [h1, h2, r.1, r.2, (frEq_iff l l).2 rfl]
      rfl
    · rw [if_neg h2] at h; omega
  · rw [if_neg h1] at h; omega
theorem tf_two {l : FrameC} {ps : List Int} (h : frOkC l = true) (hl : ps.length ≤ 2) : tfC l ps = 2 ∨ (tfC l ps = 0 ∧ tfR l ps = l) := by
  by_cases h2 : risB ps ((sendL (frameC l)).length : Int) = true
  · have r := rcv_frame (FrO.of h) hl (risB_in h2)
    refine .inr ⟨?_, ?_⟩
    · unfold tfC rcvC; rw [if_pos h, if_pos h2, if_pos r.1]
    · unfold tfR; rw [if_pos ⟨h, h2⟩]; exact r.2
  · refine .inl ?_
    unfold tfC; rw [if_pos h, if_neg h2]
theorem wrongB_self (a : Int) : wrongB a a = 0 := by unfold wrongB; simp
theorem diffs_self (xs : List Int) (k : Nat) : diffs xs xs k = 0 := by
  induction k with
  | zero => rfl
  | succ k ih => rw [diffs_succ, ih, wrongB_self]; rfl
theorem sent_ok {l : FrameC} (h : FrO l) : okList (sendL (frameC l)) 1200 0 1 = true := by
  have hl := frameL_length l.kind l.number l.payload h.len
  have hl : (frameC l).length ≤ 284 := hl.2
  have hb : allIn (sendL (frameC l)) 0 1 = true := sendL_bits (frameL_bits _ _ _)
  unfold okList
  rw [hb, sendL_length]
  unfold rowsOf
  simp
  omega
theorem cw_sent {l : FrameC} (h : frOkC l = true) : cwR l (sendL (frameC l)) = 0 ∧ cwC l (sendL (frameC l)) = 0 := by
  have ho := sent_ok (FrO.of h)
  unfold cwR cwC
  rw [if_pos ⟨h, ho, rfl⟩, if_pos ⟨h, ho⟩, if_pos rfl, diffs_self]
  exact ⟨rfl, rfl⟩
theorem rf_sent {l : FrameC} (h : frOkC l = true) : rfR (sendL (frameC l)) ((frameC l).length : Int) = l ∧ rfC (sendL (frameC l)) ((frameC l).length : Int) = 0 := by
  have ho := sent_ok (FrO.of h)
  have hl := frameL_length l.kind l.number l.payload (FrO.of h).len
  have hl : 48 ≤ (frameC l).length ∧ (frameC l).length ≤ 284 := hl
  have hi : inR ((frameC l).length : Int) 0 300 = true := by unfold inR; simp; omega
  have r := rcv_frame (FrO.of h) (ps := []) (by simp) (by simp)
  have r : rcvOk (sendL (frameC l)) (frameC l).length = true ∧ rcvF (sendL (frameC l)) (frameC l).length = l := r
  have d := rf_d ho hi (by rw [sendL_length, Int.toNat_natCast])
  rw [d.1, d.2, Int.toNat_natCast]
  refine ⟨r.2, ?_⟩
  unfold rcvC
  rw [if_pos r.1]
end Go.Proofs.Ytlgmdekhlcbhoaa
