/-
  No cell of these rows narrows 'for every input' (looked for: loops, veiled, ifaces, maps, wideKeys, modest, calm, conditions, laid).
  DERIVED. THE GIVEN ROWS OF THIS SEAT. 8 by the template 'for every input the law returns true; each argument reads behind the call as it read before'; 0 by the template 'total and deterministic' (their statements: YthmcnoloeeabbaaTotals.lean).
  GIVEN WITH THE SEED: the statements are not yours to turn. If you find one false, say at which input.
  Laid BY PROGRAM, IN A SANDBOX (cutbox-rows.mjs): the forced cells as the released guide's own fill.sh prints them over the translation ed04178b3004585d… (all of the seat's roots in one cut). By AI agents, Wed Nov 11 2026. No macro, syntax, notation, axiom, sorry.
-/
import Derived.Test.YthmcnoloeeabbaaChecked
import GoSem.Claim
import GoSem.ClaimJoined
import GoSem.ClaimMapViews
import Derived.JoinedTies
import Derived.KernelRfl
namespace Go.Proofs.Ythmcnoloeeabbaa
/- THE CELL 'sum', in the pinned program and in every row, IS THE sha256 OF THE DUMP (.gsa) THAT YthmcnoloeeabbaaProg.lean LOADS. Nothing in Lean hashes anything: it is a label: what it is worth is what the hold of that sum in a sandbox is worth. -/
noncomputable def Try.pinned : Pinned := { name := "ythmcnoloeeabbaa", sum := "ed04178b3004585d2c82c2f1a5c619e440058e25468d87aebfd648ab6c4de80b", checked := Try.checked }
namespace Rows
def none {H : Type} : Left H := { results := [], args := [] }

/-- 'laws.FnExactMergeMosaics': WHATEVER THE INPUT: true; the input reads as it did. -/
def fnExactMergeMosaicsSpec : ChangeSpec := { name := "fnExactMergeMosaics", fn := fun _ => fun
  | [d1, d2] => { results := [.lit (.bool true)], args := [d1, d2] }
  | _ => none }
def fnExactMergeMosaicsRow : OpenClaim := { program := "ythmcnoloeeabbaa", sum := "ed04178b3004585d2c82c2f1a5c619e440058e25468d87aebfd648ab6c4de80b", func := "loop.example/g00915/laws.FnExactMergeMosaics", spec := "fnExactMergeMosaics", apart := false }
def FnExactMergeMosaicsSaid : Prop := fnExactMergeMosaicsRow.holds Try.pinned (OpenSpec.ofChange fnExactMergeMosaicsSpec)

/-- ITS FALSE NEIGHBOUR: 'it returns false'. Refute it at one input. -/
def fnExactMergeMosaicsWrong : ChangeSpec := { name := "fnExactMergeMosaics", fn := fun _ => fun
  | [d1, d2] => { results := [.lit (.bool false)], args := [d1, d2] }
  | _ => none }
def FnExactMergeMosaicsWrongFalsely : Prop := fnExactMergeMosaicsRow.holds Try.pinned (OpenSpec.ofChange fnExactMergeMosaicsWrong)

/-- 'laws.FnExactPutSample': WHATEVER THE INPUT: true; the input reads as it did. -/
def fnExactPutSampleSpec : ChangeSpec := { name := "fnExactPutSample", fn := fun _ => fun
  | [d1, d2, d3, d4, d5] => { results := [.lit (.bool true)], args := [d1, d2, d3, d4, d5] }
  | _ => none }
def fnExactPutSampleRow : OpenClaim := { program := "ythmcnoloeeabbaa", sum := "ed04178b3004585d2c82c2f1a5c619e440058e25468d87aebfd648ab6c4de80b", func := "loop.example/g00915/laws.FnExactPutSample", spec := "fnExactPutSample", apart := false }
def FnExactPutSampleSaid : Prop := fnExactPutSampleRow.holds Try.pinned (OpenSpec.ofChange fnExactPutSampleSpec)

/-- ITS FALSE NEIGHBOUR: 'it returns false'. Refute it at one input. -/
def fnExactPutSampleWrong : ChangeSpec := { name := "fnExactPutSample", fn := fun _ => fun
  | [d1, d2, d3, d4, d5] => { results := [.lit (.bool false)], args := [d1, d2, d3, d4, d5] }
  | _ => none }
def FnExactPutSampleWrongFalsely : Prop := fnExactPutSampleRow.holds Try.pinned (OpenSpec.ofChange fnExactPutSampleWrong)

/-- 'laws.FnExactPutLine': WHATEVER THE INPUT: true; the input reads as it did. -/
def fnExactPutLineSpec : ChangeSpec := { name := "fnExactPutLine", fn := fun _ => fun
  | [d1, d2, d3, d4, d5] => { results := [.lit (.bool true)], args := [d1, d2, d3, d4, d5] }
  | _ => none }
def fnExactPutLineRow : OpenClaim := { program := "ythmcnoloeeabbaa", sum := "ed04178b3004585d2c82c2f1a5c619e440058e25468d87aebfd648ab6c4de80b", func := "loop.example/g00915/laws.FnExactPutLine", spec := "fnExactPutLine", apart := false }
def FnExactPutLineSaid : Prop := fnExactPutLineRow.holds Try.pinned (OpenSpec.ofChange fnExactPutLineSpec)

/-- ITS FALSE NEIGHBOUR: 'it returns false'. Refute it at one input. -/
def fnExactPutLineWrong : ChangeSpec := { name := "fnExactPutLine", fn := fun _ => fun
  | [d1, d2, d3, d4, d5] => { results := [.lit (.bool false)], args := [d1, d2, d3, d4, d5] }
  | _ => none }
def FnExactPutLineWrongFalsely : Prop := fnExactPutLineRow.holds Try.pinned (OpenSpec.ofChange fnExactPutLineWrong)

/-- 'laws.FnExactMergeGrids': WHATEVER THE INPUT: true; the input reads as it did. -/
def fnExactMergeGridsSpec : ChangeSpec := { name := "fnExactMergeGrids", fn := fun _ => fun
  | [d1, d2] => { results := [.lit (.bool true)], args := [d1, d2] }
  | _ => none }
def fnExactMergeGridsRow : OpenClaim := { program := "ythmcnoloeeabbaa", sum := "ed04178b3004585d2c82c2f1a5c619e440058e25468d87aebfd648ab6c4de80b", func := "loop.example/g00915/laws.FnExactMergeGrids", spec := "fnExactMergeGrids", apart := false }
def FnExactMergeGridsSaid : Prop := fnExactMergeGridsRow.holds Try.pinned (OpenSpec.ofChange fnExactMergeGridsSpec)

/-- ITS FALSE NEIGHBOUR: 'it returns false'. Refute it at one input. -/
def fnExactMergeGridsWrong : ChangeSpec := { name := "fnExactMergeGrids", fn := fun _ => fun
  | [d1, d2] => { results := [.lit (.bool false)], args := [d1, d2] }
  | _ => none }
def FnExactMergeGridsWrongFalsely : Prop := fnExactMergeGridsRow.holds Try.pinned (OpenSpec.ofChange fnExactMergeGridsWrong)

/-- 'laws.FnExactFillGaps': WHATEVER THE INPUT: true; the input reads as it did. -/
def fnExactFillGapsSpec : ChangeSpec := { name := "fnExactFillGaps", fn := fun _ => fun
  | [d] => { results := [.lit (.bool true)], args := [d] }
  | _ => none }
def fnExactFillGapsRow : OpenClaim := { program := "ythmcnoloeeabbaa", sum := "ed04178b3004585d2c82c2f1a5c619e440058e25468d87aebfd648ab6c4de80b", func := "loop.example/g00915/laws.FnExactFillGaps", spec := "fnExactFillGaps", apart := false }
def FnExactFillGapsSaid : Prop := fnExactFillGapsRow.holds Try.pinned (OpenSpec.ofChange fnExactFillGapsSpec)

/-- ITS FALSE NEIGHBOUR: 'it returns false'. Refute it at one input. -/
def fnExactFillGapsWrong : ChangeSpec := { name := "fnExactFillGaps", fn := fun _ => fun
  | [d] => { results := [.lit (.bool false)], args := [d] }
  | _ => none }
def FnExactFillGapsWrongFalsely : Prop := fnExactFillGapsRow.holds Try.pinned (OpenSpec.ofChange fnExactFillGapsWrong)

/-- 'laws.FnPutting': WHATEVER THE INPUT: true; the input reads as it did. -/
def fnPuttingSpec : ChangeSpec := { name := "fnPutting", fn := fun _ => fun
  | [d] => { results := [.lit (.bool true)], args := [d] }
  | _ => none }
def fnPuttingRow : OpenClaim := { program := "ythmcnoloeeabbaa", sum := "ed04178b3004585d2c82c2f1a5c619e440058e25468d87aebfd648ab6c4de80b", func := "loop.example/g00915/laws.FnPutting", spec := "fnPutting", apart := false }
def FnPuttingSaid : Prop := fnPuttingRow.holds Try.pinned (OpenSpec.ofChange fnPuttingSpec)

/-- ITS FALSE NEIGHBOUR: 'it returns false'. Refute it at one input. -/
def fnPuttingWrong : ChangeSpec := { name := "fnPutting", fn := fun _ => fun
  | [d] => { results := [.lit (.bool false)], args := [d] }
  | _ => none }
def FnPuttingWrongFalsely : Prop := fnPuttingRow.holds Try.pinned (OpenSpec.ofChange fnPuttingWrong)

/-- 'laws.FnMergedGrids': WHATEVER THE INPUT: true; the input reads as it did. -/
def fnMergedGridsSpec : ChangeSpec := { name := "fnMergedGrids", fn := fun _ => fun
  | [d] => { results := [.lit (.bool true)], args := [d] }
  | _ => none }
def fnMergedGridsRow : OpenClaim := { program := "ythmcnoloeeabbaa", sum := "ed04178b3004585d2c82c2f1a5c619e440058e25468d87aebfd648ab6c4de80b", func := "loop.example/g00915/laws.FnMergedGrids", spec := "fnMergedGrids", unfollowed := true, recurses := true, apart := false }
def FnMergedGridsSaid : Prop := fnMergedGridsRow.holds Try.pinned (OpenSpec.ofChange fnMergedGridsSpec)

/-- ITS FALSE NEIGHBOUR: 'it returns false'. Refute it at one input. -/
def fnMergedGridsWrong : ChangeSpec := { name := "fnMergedGrids", fn := fun _ => fun
  | [d] => { results := [.lit (.bool false)], args := [d] }
  | _ => none }
def FnMergedGridsWrongFalsely : Prop := fnMergedGridsRow.holds Try.pinned (OpenSpec.ofChange fnMergedGridsWrong)

/-- 'laws.FnFilled': WHATEVER THE INPUT: true; the input reads as it did. -/
def fnFilledSpec : ChangeSpec := { name := "fnFilled", fn := fun _ => fun
  | [d] => { results := [.lit (.bool true)], args := [d] }
  | _ => none }
def fnFilledRow : OpenClaim := { program := "ythmcnoloeeabbaa", sum := "ed04178b3004585d2c82c2f1a5c619e440058e25468d87aebfd648ab6c4de80b", func := "loop.example/g00915/laws.FnFilled", spec := "fnFilled", apart := false }
def FnFilledSaid : Prop := fnFilledRow.holds Try.pinned (OpenSpec.ofChange fnFilledSpec)

/-- ITS FALSE NEIGHBOUR: 'it returns false'. Refute it at one input. -/
def fnFilledWrong : ChangeSpec := { name := "fnFilled", fn := fun _ => fun
  | [d] => { results := [.lit (.bool false)], args := [d] }
  | _ => none }
def FnFilledWrongFalsely : Prop := fnFilledRow.holds Try.pinned (OpenSpec.ofChange fnFilledWrong)

/- THE SECOND FORM. 'bulk': how many values and letters a reading holds, each counted each time it is reached (what is shared counts as often as it is met; a slice's spare places count too). A statement '..UptoSaid' is the law's where the arguments, and the package variables that the reading takes, are together of bulk at most 1048576: NARROWER than '..Said'. Prove '..Said' where nothing that the law and all that it calls make is longer than what came in: it says more and counts as full. Else prove '..UptoSaid'. A law counts once. -/
mutual
def uptoBulk {H : Type} : DataW H → Nat
  | .lit (.string bytes) => bytes.length + 1
  | .lit _ => 1
  | .nil => 1
  | .ptr d => uptoBulk d + 1
  | .slice elems spare => uptoBulkAll elems + uptoBulkAll spare + 1
  | .agg parts => uptoBulkAll parts + 1
  | .iface _ d => uptoBulk d + 1
  | .map entries => uptoBulkEntries entries + 1
  | .held _ => 1
def uptoBulkAll {H : Type} : List (DataW H) → Nat
  | [] => 0
  | d :: r => uptoBulk d + uptoBulkAll r
def uptoBulkEntries {H : Type} : List (Lit × DataW H) → Nat
  | [] => 0
  | x :: r => uptoBulkEntry x + uptoBulkEntries r
def uptoBulkEntry {H : Type} : Lit × DataW H → Nat
  | (.string bytes, d) => bytes.length + uptoBulk d + 1
  | (_, d) => uptoBulk d + 1
 end
def uptoSmall : (H : Type) → List (DataW H) → Bool := fun _ ds => decide (uptoBulkAll ds ≤ 1048576)
def OpenSpec.upto (s : _root_.Go.ChangeSpec) : _root_.Go.OpenSpec := { _root_.Go.OpenSpec.ofChange s with cond := some uptoSmall }

/-- 'laws.FnExactMergeMosaics', WHERE WHAT IT READS IS OF BULK AT MOST 1048576: true; the input reads as it did. -/
def fnExactMergeMosaicsUptoRow : OpenClaim := { program := "ythmcnoloeeabbaa", sum := "ed04178b3004585d2c82c2f1a5c619e440058e25468d87aebfd648ab6c4de80b", func := "loop.example/g00915/laws.FnExactMergeMosaics", spec := "fnExactMergeMosaics", apart := false, narrowed := true }
def FnExactMergeMosaicsUptoSaid : Prop := fnExactMergeMosaicsUptoRow.holds Try.pinned (OpenSpec.upto fnExactMergeMosaicsSpec)

/-- 'laws.FnExactPutSample', WHERE WHAT IT READS IS OF BULK AT MOST 1048576: true; the input reads as it did. -/
def fnExactPutSampleUptoRow : OpenClaim := { program := "ythmcnoloeeabbaa", sum := "ed04178b3004585d2c82c2f1a5c619e440058e25468d87aebfd648ab6c4de80b", func := "loop.example/g00915/laws.FnExactPutSample", spec := "fnExactPutSample", apart := false, narrowed := true }
def FnExactPutSampleUptoSaid : Prop := fnExactPutSampleUptoRow.holds Try.pinned (OpenSpec.upto fnExactPutSampleSpec)

/-- 'laws.FnExactPutLine', WHERE WHAT IT READS IS OF BULK AT MOST 1048576: true; the input reads as it did. -/
def fnExactPutLineUptoRow : OpenClaim := { program := "ythmcnoloeeabbaa", sum := "ed04178b3004585d2c82c2f1a5c619e440058e25468d87aebfd648ab6c4de80b", func := "loop.example/g00915/laws.FnExactPutLine", spec := "fnExactPutLine", apart := false, narrowed := true }
def FnExactPutLineUptoSaid : Prop := fnExactPutLineUptoRow.holds Try.pinned (OpenSpec.upto fnExactPutLineSpec)

/-- 'laws.FnExactMergeGrids', WHERE WHAT IT READS IS OF BULK AT MOST 1048576: true; the input reads as it did. -/
def fnExactMergeGridsUptoRow : OpenClaim := { program := "ythmcnoloeeabbaa", sum := "ed04178b3004585d2c82c2f1a5c619e440058e25468d87aebfd648ab6c4de80b", func := "loop.example/g00915/laws.FnExactMergeGrids", spec := "fnExactMergeGrids", apart := false, narrowed := true }
def FnExactMergeGridsUptoSaid : Prop := fnExactMergeGridsUptoRow.holds Try.pinned (OpenSpec.upto fnExactMergeGridsSpec)

/-- 'laws.FnExactFillGaps', WHERE WHAT IT READS IS OF BULK AT MOST 1048576: true; the input reads as it did. -/
def fnExactFillGapsUptoRow : OpenClaim := { program := "ythmcnoloeeabbaa", sum := "ed04178b3004585d2c82c2f1a5c619e440058e25468d87aebfd648ab6c4de80b", func := "loop.example/g00915/laws.FnExactFillGaps", spec := "fnExactFillGaps", apart := false, narrowed := true }
def FnExactFillGapsUptoSaid : Prop := fnExactFillGapsUptoRow.holds Try.pinned (OpenSpec.upto fnExactFillGapsSpec)

/-- 'laws.FnPutting', WHERE WHAT IT READS IS OF BULK AT MOST 1048576: true; the input reads as it did. -/
def fnPuttingUptoRow : OpenClaim := { program := "ythmcnoloeeabbaa", sum := "ed04178b3004585d2c82c2f1a5c619e440058e25468d87aebfd648ab6c4de80b", func := "loop.example/g00915/laws.FnPutting", spec := "fnPutting", apart := false, narrowed := true }
def FnPuttingUptoSaid : Prop := fnPuttingUptoRow.holds Try.pinned (OpenSpec.upto fnPuttingSpec)

/-- 'laws.FnMergedGrids', WHERE WHAT IT READS IS OF BULK AT MOST 1048576: true; the input reads as it did. -/
def fnMergedGridsUptoRow : OpenClaim := { program := "ythmcnoloeeabbaa", sum := "ed04178b3004585d2c82c2f1a5c619e440058e25468d87aebfd648ab6c4de80b", func := "loop.example/g00915/laws.FnMergedGrids", spec := "fnMergedGrids", unfollowed := true, recurses := true, apart := false, narrowed := true }
def FnMergedGridsUptoSaid : Prop := fnMergedGridsUptoRow.holds Try.pinned (OpenSpec.upto fnMergedGridsSpec)

/-- 'laws.FnFilled', WHERE WHAT IT READS IS OF BULK AT MOST 1048576: true; the input reads as it did. -/
def fnFilledUptoRow : OpenClaim := { program := "ythmcnoloeeabbaa", sum := "ed04178b3004585d2c82c2f1a5c619e440058e25468d87aebfd648ab6c4de80b", func := "loop.example/g00915/laws.FnFilled", spec := "fnFilled", apart := false, narrowed := true }
def FnFilledUptoSaid : Prop := fnFilledUptoRow.holds Try.pinned (OpenSpec.upto fnFilledSpec)

end Rows
end Go.Proofs.Ythmcnoloeeabbaa
