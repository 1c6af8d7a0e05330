/- Mosaics: a value put into a cell of a copy. spec.PutSample and impl.PutSample compute the same. Condition: lists of at most 1048576 numbers. -/
import Derived.Test.YtilieonalmihaaaDoorMosD
namespace Go.Proofs.YtilieonalmihaaaDoor
open Go.RowKit

theorem rd_twoE (w : World) (x y : Int) (e : TypeId) (g : Nat) (hg : w.heap.size = g) : Rd (w.alloc (.cells #[.int .i64 x, .int .i64 y] e)) (some ⟨g, 0, none⟩) 2 (ints [x, y]) := by
  subst hg
  exact (Blk.new w e #[.int .i64 x, .int .i64 y]).rd rfl (fun i hi => by
    match i, hi with
    | 0, _ => rfl
    | 1, _ => rfl)
def inPix (x y : Int) : Bool := inR x (-1000) 1000 && inR y (-1000) 1000
theorem allIn_two (x y : Int) : allIn [x, y] (-1000) 1000 = inPix x y := by unfold allIn inPix; simp
def idxB (l : MosaicC) (x y : Int) : Int := if hasB l x y = true then y * l.wide + x else -1
theorem implPut_z (B : Nat) (h : MosaicH) (l : MosaicC) (z : Int) (i : Nat) (v g : Int) (w : World) (hz : (i : Int) = z) (ok : MosaicOk h) (hq : h.grades.n = h.values.n) (hi : i < h.values.n) (hr : RdAll w (MosaicS h l)) (hw : WrAll w B (MosaicS h l)) (hs : Sep (MosaicR h)) :
    Calls Tryd.prog 23 #[MosaicV h l, .int .i64 z, .int .i64 v, .int .i64 g] w (PutPost B h (putM l i v g) w) := by subst hz; exact implPut_any B h l i v g w ok hq hi hr hw hs
theorem specPut_z (B : Nat) (h : MosaicH) (l : MosaicC) (z : Int) (i : Nat) (v g : Int) (w : World) (hz : (i : Int) = z) (ok : MosaicOk h) (hq : h.grades.n = h.values.n) (hi : i < h.values.n) (hr : RdAll w (MosaicS h l)) (hw : WrAll w B (MosaicS h l)) (hs : Sep (MosaicR h)) :
    Calls Tryd.prog 21 #[MosaicV h l, .int .i64 z, .int .i64 v, .int .i64 g] w (PutPost B h (putM l i v g) w) := by subst hz; exact specPut_any B h l i v g w ok hq hi hr hw hs
theorem putSC_at (l : MosaicC) (x y v g : Int) : putSC l x y v g = if mosOk l = true then (if inPix x y = true ∧ pixB v g = true then (if hasB l x y = true then 0 else 4) else 2) else 1 := by
  unfold putSC inPix; simp only [Bool.and_eq_true, and_assoc]
theorem putS_bad {l : MosaicC} {x y v g : Int} (h : mosOk l = false) : Hid (putSC l x y v g = 1 ∧ putSR l x y v g = zeroMosaic) := by
  have e : putSC l x y v g = 1 := by rw [putSC_at, h]; rfl
  exact ⟨e, by unfold putSR; rw [e]; rfl⟩
theorem putS_range {l : MosaicC} {x y v g : Int} (h : mosOk l = true) (h2 : ¬ (inPix x y = true ∧ pixB v g = true)) : Hid (putSC l x y v g = 2 ∧ putSR l x y v g = zeroMosaic) := by
  have e : putSC l x y v g = 2 := by rw [putSC_at, h, if_pos rfl, if_neg h2]
  exact ⟨e, by unfold putSR; rw [e]; rfl⟩
theorem putS_none {l : MosaicC} {x y v g : Int} (h : mosOk l = true) (h2 : inPix x y = true ∧ pixB v g = true) (h3 : hasB l x y = false) : Hid (putSC l x y v g = 4 ∧ putSR l x y v g = zeroMosaic) := by
  have e : putSC l x y v g = 4 := by rw [putSC_at, h, if_pos rfl, if_pos h2, h3]; rfl
  exact ⟨e, by unfold putSR; rw [e]; rfl⟩
theorem putS_ok {l : MosaicC} {x y v g : Int} (h : mosOk l = true) (h2 : inPix x y = true ∧ pixB v g = true) (h3 : hasB l x y = true) : Hid (putSC l x y v g = 0 ∧ putSR l x y v g = putM l (y * l.wide + x).toNat v g) := by
  have e : putSC l x y v g = 0 := by rw [putSC_at, h, if_pos rfl, if_pos h2, h3]; rfl
  exact ⟨e, by unfold putSR; rw [e]; rfl⟩

end Go.Proofs.YtilieonalmihaaaDoor
