/- Mosaics: values put into the cells on a way, the plain model. Plain lemmas, no condition. -/
import Derived.Test.YtilieonalmihaaaDoorMosE
import Derived.Test.YtilieonalmihaaaDoorNear
namespace Go.Proofs.YtilieonalmihaaaDoor
open Go.RowKit

/-- the first k values are put -/
def lineTo (l : MosaicC) (x0 y0 x1 y1 : Int) (vs : List Int) (g : Int) : Nat → MosaicC
  | 0 => l
  | k + 1 => if hasB l (wayI x0 x1 k vs.length) (wayI y0 y1 k vs.length) = true then putM (lineTo l x0 y0 x1 y1 vs g k) (wayI y0 y1 k vs.length * l.wide + wayI x0 x1 k vs.length).toNat (vs.getD k 0) g else lineTo l x0 y0 x1 y1 vs g k
theorem lineTo_put {l : MosaicC} {x0 y0 x1 y1 : Int} {vs : List Int} {g : Int} {k : Nat} (h : hasB l (wayI x0 x1 k vs.length) (wayI y0 y1 k vs.length) = true) :
    lineTo l x0 y0 x1 y1 vs g (k + 1) = putM (lineTo l x0 y0 x1 y1 vs g k) (wayI y0 y1 k vs.length * l.wide + wayI x0 x1 k vs.length).toNat (vs.getD k 0) g := if_pos h
theorem lineTo_not {l : MosaicC} {x0 y0 x1 y1 : Int} {vs : List Int} {g : Int} {k : Nat} (h : hasB l (wayI x0 x1 k vs.length) (wayI y0 y1 k vs.length) = false) :
    lineTo l x0 y0 x1 y1 vs g (k + 1) = lineTo l x0 y0 x1 y1 vs g k := if_neg (by rw [h]; exact Bool.false_ne_true)
theorem lineTo_wh (l : MosaicC) (x0 y0 x1 y1 : Int) (vs : List Int) (g : Int) : ∀ k, (lineTo l x0 y0 x1 y1 vs g k).wide = l.wide ∧ (lineTo l x0 y0 x1 y1 vs g k).high = l.high
  | 0 => ⟨rfl, rfl⟩
  | k + 1 => by
    have ih := lineTo_wh l x0 y0 x1 y1 vs g k
    rcases Bool.eq_false_or_eq_true (hasB l (wayI x0 x1 k vs.length) (wayI y0 y1 k vs.length)) with h | h
    · rw [lineTo_put h]; exact ih
    · rw [lineTo_not h]; exact ih
def lineB (x0 y0 x1 y1 : Int) (vs : List Int) (g : Int) : Bool := inPix x0 y0 && (inPix x1 y1 && (okList vs 200 0 1000 && inR g 1 9))
def plC (l : MosaicC) (x0 y0 x1 y1 : Int) (vs : List Int) (g : Int) : Int := if mosOk l = true then (if lineB x0 y0 x1 y1 vs g = true then 0 else 2) else 1
def plR (l : MosaicC) (x0 y0 x1 y1 : Int) (vs : List Int) (g : Int) : MosaicC := if mosOk l = true ∧ lineB x0 y0 x1 y1 vs g = true then lineTo l x0 y0 x1 y1 vs g vs.length else zeroMosaic
theorem pl_a {l : MosaicC} {x0 y0 x1 y1 : Int} {vs : List Int} {g : Int} (h : mosOk l = false) : plR l x0 y0 x1 y1 vs g = zeroMosaic ∧ plC l x0 y0 x1 y1 vs g = 1 := by unfold plR plC; simp [h]
theorem pl_b {l : MosaicC} {x0 y0 x1 y1 : Int} {vs : List Int} {g : Int} (h : mosOk l = true) (h2 : lineB x0 y0 x1 y1 vs g = false) : plR l x0 y0 x1 y1 vs g = zeroMosaic ∧ plC l x0 y0 x1 y1 vs g = 2 := by unfold plR plC; simp [h, h2]
theorem pl_c {l : MosaicC} {x0 y0 x1 y1 : Int} {vs : List Int} {g : Int} (h : mosOk l = true) (h2 : lineB x0 y0 x1 y1 vs g = true) : plR l x0 y0 x1 y1 vs g = lineTo l x0 y0 x1 y1 vs g vs.length ∧ plC l x0 y0 x1 y1 vs g = 0 := by unfold plR plC; simp [h, h2]
end Go.Proofs.YtilieonalmihaaaDoor
