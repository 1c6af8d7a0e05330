/- The statements' own helpers for Mosaic: a copy, a comparison, marks laid and found, a size. No condition beyond lengths of at most 1048576 where memory is made. -/
import Derived.Test.YtilieonalmihaaaDoorTI
namespace Go.Proofs.YtilieonalmihaaaDoor
open Go.RowKit

/-- The heads of its slices. -/
structure MosaicH where
  values : Hd
  grades : Hd
/-- What it holds. -/
structure MosaicC where
  wide : Int
  high : Int
  values : List Int
  grades : List Int
def MosaicV (h : MosaicH) (l : MosaicC) : Value := .agg #[.int .i64 l.wide, .int .i64 l.high, .slice h.values.A h.values.n h.values.c, .slice h.grades.A h.grades.n h.grades.c]
def MosaicS (h : MosaicH) (l : MosaicC) : List Sl := [⟨h.values.A, h.values.n, ints l.values⟩, ⟨h.grades.A, h.grades.n, ints l.grades⟩]
def MosaicR (h : MosaicH) : List (Option Nat) := [blkp h.values.A h.values.n, blkp h.grades.A h.grades.n]
def MosaicM (h : MosaicH) (q : Int) : List Sl := [⟨h.values.A, h.values.n, ints (marks (q) h.values.n)⟩, ⟨h.grades.A, h.grades.n, ints (marks (q + (h.values.n : Nat)) h.grades.n)⟩]
def MosaicQ (h : MosaicH) (q : Int) : Int := q + (h.values.n : Nat) + (h.grades.n : Nat)
def MosaicOk (h : MosaicH) : Prop := h.values.n ≤ 1048576 ∧ h.grades.n ≤ 1048576
theorem MosaicQ_bd {h : MosaicH} (ok : MosaicOk h) (q : Int) : q ≤ MosaicQ h q ∧ MosaicQ h q ≤ q + 2097152 := by unfold MosaicQ; unfold MosaicOk at ok; omega

end Go.Proofs.YtilieonalmihaaaDoor
