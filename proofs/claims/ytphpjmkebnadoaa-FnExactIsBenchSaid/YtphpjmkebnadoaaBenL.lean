/- Whether a bench is valid, in the words of the laws' walks. Condition: sizes. -/
import Derived.Test.YtphpjmkebnadoaaBenB
import Derived.Test.YtphpjmkebnadoaaBenT
namespace Go.Proofs.Ytphpjmkebnadoaa
open Go.RowKit

def benchLB (l : BenchC) : Bool := profB l.depths.length l.speeds.length l.depths l.speeds && (inR l.source 0 ((l.depths.length : Int) - 1) && (dirB l.cos l.sin l.hyp && logB l.log (l.log.length / 7)))
theorem benchLB_eq {h : BenchH} {l : BenchC} {w : World} (hr : RdAll w (BenchS h l)) : benchB h l = benchLB l := by
  have a0 : l.depths.length = h.depths.n := Rd.len hr.head
  have a1 : l.speeds.length = h.speeds.n := Rd.len hr.tail.head
  have a6 : l.log.length = h.log.n * 7 := Rd.len hr.tail.tail.head
  unfold benchB benchLB
  rw [a0, a1, a6, Nat.mul_div_cancel _ (by decide)]
theorem implIsBench'_any (h : BenchH) (l : BenchC) (w : World) (ok : BenchOk h) (hr : RdAll w (BenchS h l)) :
    Calls Try.prog 37 #[BenchV h l] w fun e w' => e = .returned (.bool (benchLB l)) ∧ Below w.heap.size w w' := by
  obtain ⟨a, b, c⟩ := ok
  rw [← benchLB_eq hr]
  exact implIsBench_any h l w ⟨by omega, by omega, by omega⟩ hr
theorem specIsBench'_any (h : BenchH) (l : BenchC) (w : World) (ok : BenchOk h) (hr : RdAll w (BenchS h l)) :
    Calls Try.prog 35 #[BenchV h l] w fun e w' => e = .returned (.bool (benchLB l)) ∧ Below w.heap.size w w' := by
  obtain ⟨a, b, c⟩ := ok
  rw [← benchLB_eq hr]
  exact specIsBench_any h l w ⟨by omega, by omega, by omega⟩ hr
end Go.Proofs.Ytphpjmkebnadoaa
