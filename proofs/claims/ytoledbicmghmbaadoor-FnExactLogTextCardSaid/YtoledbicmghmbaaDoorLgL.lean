/- LogText, both sides, in the words of the laws. Condition: a list of at most 1048576 records; the library's table is as it is laid. -/
import Derived.Test.YtoledbicmghmbaaDoorLgT
namespace Go.Proofs.YtoledbicmghmbaaDoor
open Go.RowKit

theorem Rd.len7' {w : World} {A : Option Addr} {n : Nat} {xs : List Int} (r : Rd w A (n * 7) (ints xs)) : xs.length / 7 = n := by have := r.len; omega
def lgS' (xs : List Int) : ByteArray := ⟨(lgS xs (xs.length / 7)).toArray⟩
def lgC' (xs : List Int) : Int := lgC xs (xs.length / 7)
theorem specLogText'_any (h : Hd) (l : List Int) (w : World) (ok : RecsOk h) (hr : RdAll w (RecsS h l)) :
    Calls Tryd.prog 15 #[RecsV h] w fun e w' => e = .returned (.tuple #[.string (lgS' l), .int .i64 (lgC' l)]) ∧ Below w.heap.size w w' := by
  obtain ⟨A, n, c⟩ := h
  have r : Rd w A (n * 7) (ints l) := hr.head
  unfold lgS' lgC'
  rw [r.len7']
  exact specLogText_any A n c l w ok.1 r
theorem implLogText'_any (h : Hd) (l : List Int) (w : World) (ok : RecsOk h) (hr : RdAll w (RecsS h l)) (T : TabW w) :
    Calls Tryd.prog 17 #[RecsV h] w fun e w' => e = .returned (.tuple #[.string (lgS' l), .int .i64 (lgC' l)]) ∧ Below w.heap.size w w' := by
  obtain ⟨A, n, c⟩ := h
  have r : Rd w A (n * 7) (ints l) := hr.head
  unfold lgS' lgC'
  rw [r.len7']
  exact implLogText_any A n c l w ok.1 r T
end Go.Proofs.YtoledbicmghmbaaDoor
