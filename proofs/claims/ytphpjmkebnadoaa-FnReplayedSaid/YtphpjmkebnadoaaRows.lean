/-
  No cell of these rows narrows 'for every input' (looked for: loops, veiled, ifaces, maps, wideKeys, modest, calm, conditions, laid).
  DERIVED. THE GIVEN ROWS OF THIS SEAT. 5 by the template 'for every input the law returns true; each argument reads behind the call as it read before'; 0 by the template 'total and deterministic' (their statements: YtphpjmkebnadoaaTotals.lean).
  GIVEN WITH THE SEED: the statements are not yours to turn. If you find one false, say at which input.
  Laid BY PROGRAM, IN A SANDBOX (cutbox-rows.mjs): the forced cells as the released guide's own fill.sh prints them over the translation a60b21579139755f… (all of the seat's roots in one cut). By AI agents, Wed Nov 11 2026. No macro, syntax, notation, axiom, sorry.
-/
import Derived.Test.YtphpjmkebnadoaaChecked
import GoSem.Claim
import GoSem.ClaimJoined
import GoSem.ClaimMapViews
import Derived.JoinedTies
import Derived.KernelRfl
namespace Go.Proofs.Ytphpjmkebnadoaa
/- THE CELL 'sum', in the pinned program and in every row, IS THE sha256 OF THE DUMP (.gsa) THAT YtphpjmkebnadoaaProg.lean LOADS. Nothing in Lean hashes anything: it is a label: what it is worth is what the hold of that sum in a sandbox is worth. -/
noncomputable def Try.pinned : Pinned := { name := "ytphpjmkebnadoaa", sum := "a60b21579139755fbd6b92632f5c19fffbba9a2282fe7b164dc5f5036d036835", checked := Try.checked }
namespace Rows
def none {H : Type} : Left H := { results := [], args := [] }

/-- 'laws.FnExactGaugeOfLog': WHATEVER THE INPUT: true; the input reads as it did. -/
def fnExactGaugeOfLogSpec : ChangeSpec := { name := "fnExactGaugeOfLog", fn := fun _ => fun
  | [d] => { results := [.lit (.bool true)], args := [d] }
  | _ => none }
def fnExactGaugeOfLogRow : OpenClaim := { program := "ytphpjmkebnadoaa", sum := "a60b21579139755fbd6b92632f5c19fffbba9a2282fe7b164dc5f5036d036835", func := "loop.example/g00915/laws.FnExactGaugeOfLog", spec := "fnExactGaugeOfLog", unfollowed := true, recurses := true, apart := false }
def FnExactGaugeOfLogSaid : Prop := fnExactGaugeOfLogRow.holds Try.pinned (OpenSpec.ofChange fnExactGaugeOfLogSpec)

/-- ITS FALSE NEIGHBOUR: 'it returns false'. Refute it at one input. -/
def fnExactGaugeOfLogWrong : ChangeSpec := { name := "fnExactGaugeOfLog", fn := fun _ => fun
  | [d] => { results := [.lit (.bool false)], args := [d] }
  | _ => none }
def FnExactGaugeOfLogWrongFalsely : Prop := fnExactGaugeOfLogRow.holds Try.pinned (OpenSpec.ofChange fnExactGaugeOfLogWrong)

/-- 'laws.FnExactReplayLog': WHATEVER THE INPUT: true; the input reads as it did. -/
def fnExactReplayLogSpec : ChangeSpec := { name := "fnExactReplayLog", fn := fun _ => fun
  | [d] => { results := [.lit (.bool true)], args := [d] }
  | _ => none }
def fnExactReplayLogRow : OpenClaim := { program := "ytphpjmkebnadoaa", sum := "a60b21579139755fbd6b92632f5c19fffbba9a2282fe7b164dc5f5036d036835", func := "loop.example/g00915/laws.FnExactReplayLog", spec := "fnExactReplayLog", unfollowed := true, recurses := true, apart := false }
def FnExactReplayLogSaid : Prop := fnExactReplayLogRow.holds Try.pinned (OpenSpec.ofChange fnExactReplayLogSpec)

/-- ITS FALSE NEIGHBOUR: 'it returns false'. Refute it at one input. -/
def fnExactReplayLogWrong : ChangeSpec := { name := "fnExactReplayLog", fn := fun _ => fun
  | [d] => { results := [.lit (.bool false)], args := [d] }
  | _ => none }
def FnExactReplayLogWrongFalsely : Prop := fnExactReplayLogRow.holds Try.pinned (OpenSpec.ofChange fnExactReplayLogWrong)

/-- 'laws.FnReplayed': WHATEVER THE INPUT: true; the input reads as it did. -/
def fnReplayedSpec : ChangeSpec := { name := "fnReplayed", fn := fun _ => fun
  | [d] => { results := [.lit (.bool true)], args := [d] }
  | _ => none }
def fnReplayedRow : OpenClaim := { program := "ytphpjmkebnadoaa", sum := "a60b21579139755fbd6b92632f5c19fffbba9a2282fe7b164dc5f5036d036835", func := "loop.example/g00915/laws.FnReplayed", spec := "fnReplayed", unfollowed := true, recurses := true, apart := false }
def FnReplayedSaid : Prop := fnReplayedRow.holds Try.pinned (OpenSpec.ofChange fnReplayedSpec)

/-- ITS FALSE NEIGHBOUR: 'it returns false'. Refute it at one input. -/
def fnReplayedWrong : ChangeSpec := { name := "fnReplayed", fn := fun _ => fun
  | [d] => { results := [.lit (.bool false)], args := [d] }
  | _ => none }
def FnReplayedWrongFalsely : Prop := fnReplayedRow.holds Try.pinned (OpenSpec.ofChange fnReplayedWrong)

/-- 'laws.FnExactNewBench': WHATEVER THE INPUT: true; the input reads as it did. -/
def fnExactNewBenchSpec : ChangeSpec := { name := "fnExactNewBench", fn := fun _ => fun
  | [] => { results := [.lit (.bool true)], args := [] }
  | _ => none }
def fnExactNewBenchRow : OpenClaim := { program := "ytphpjmkebnadoaa", sum := "a60b21579139755fbd6b92632f5c19fffbba9a2282fe7b164dc5f5036d036835", func := "loop.example/g00915/laws.FnExactNewBench", spec := "fnExactNewBench", apart := false }
def FnExactNewBenchSaid : Prop := fnExactNewBenchRow.holds Try.pinned (OpenSpec.ofChange fnExactNewBenchSpec)

/-- ITS FALSE NEIGHBOUR: 'it returns false'. Refute it at one input. -/
def fnExactNewBenchWrong : ChangeSpec := { name := "fnExactNewBench", fn := fun _ => fun
  | [] => { results := [.lit (.bool false)], args := [] }
  | _ => none }
def FnExactNewBenchWrongFalsely : Prop := fnExactNewBenchRow.holds Try.pinned (OpenSpec.ofChange fnExactNewBenchWrong)

/-- 'laws.FnExactIsBench': WHATEVER THE INPUT: true; the input reads as it did. -/
def fnExactIsBenchSpec : ChangeSpec := { name := "fnExactIsBench", fn := fun _ => fun
  | [d] => { results := [.lit (.bool true)], args := [d] }
  | _ => none }
def fnExactIsBenchRow : OpenClaim := { program := "ytphpjmkebnadoaa", sum := "a60b21579139755fbd6b92632f5c19fffbba9a2282fe7b164dc5f5036d036835", func := "loop.example/g00915/laws.FnExactIsBench", spec := "fnExactIsBench", unfollowed := true, recurses := true, apart := false }
def FnExactIsBenchSaid : Prop := fnExactIsBenchRow.holds Try.pinned (OpenSpec.ofChange fnExactIsBenchSpec)

/-- ITS FALSE NEIGHBOUR: 'it returns false'. Refute it at one input. -/
def fnExactIsBenchWrong : ChangeSpec := { name := "fnExactIsBench", fn := fun _ => fun
  | [d] => { results := [.lit (.bool false)], args := [d] }
  | _ => none }
def FnExactIsBenchWrongFalsely : Prop := fnExactIsBenchRow.holds Try.pinned (OpenSpec.ofChange fnExactIsBenchWrong)

/- THE SECOND FORM. 'bulk': how many values and letters a reading holds, each counted each time it is reached (what is shared counts as often as it is met; a slice's spare places count too). A statement '..UptoSaid' is the law's where the arguments, and the package variables that the reading takes, are together of bulk at most 1048576: NARROWER than '..Said'. Prove '..Said' where nothing that the law and all that it calls make is longer than what came in: it says more and counts as full. Else prove '..UptoSaid'. A law counts once. -/
mutual
def uptoBulk {H : Type} : DataW H → Nat
  | .lit (.string bytes) => bytes.length + 1
  | .lit _ => 1
  | .nil => 1
  | .ptr d => uptoBulk d + 1
  | .slice elems spare => uptoBulkAll elems + uptoBulkAll spare + 1
  | .agg parts => uptoBulkAll parts + 1
  | .iface _ d => uptoBulk d + 1
  | .map entries => uptoBulkEntries entries + 1
  | .held _ => 1
def uptoBulkAll {H : Type} : List (DataW H) → Nat
  | [] => 0
  | d :: r => uptoBulk d + uptoBulkAll r
def uptoBulkEntries {H : Type} : List (Lit × DataW H) → Nat
  | [] => 0
  | x :: r => uptoBulkEntry x + uptoBulkEntries r
def uptoBulkEntry {H : Type} : Lit × DataW H → Nat
  | (.string bytes, d) => bytes.length + uptoBulk d + 1
  | (_, d) => uptoBulk d + 1
 end
def uptoSmall : (H : Type) → List (DataW H) → Bool := fun _ ds => decide (uptoBulkAll ds ≤ 1048576)
def OpenSpec.upto (s : _root_.Go.ChangeSpec) : _root_.Go.OpenSpec := { _root_.Go.OpenSpec.ofChange s with cond := some uptoSmall }

/-- 'laws.FnExactGaugeOfLog', WHERE WHAT IT READS IS OF BULK AT MOST 1048576: true; the input reads as it did. -/
def fnExactGaugeOfLogUptoRow : OpenClaim := { program := "ytphpjmkebnadoaa", sum := "a60b21579139755fbd6b92632f5c19fffbba9a2282fe7b164dc5f5036d036835", func := "loop.example/g00915/laws.FnExactGaugeOfLog", spec := "fnExactGaugeOfLog", unfollowed := true, recurses := true, apart := false, narrowed := true }
def FnExactGaugeOfLogUptoSaid : Prop := fnExactGaugeOfLogUptoRow.holds Try.pinned (OpenSpec.upto fnExactGaugeOfLogSpec)

/-- 'laws.FnExactReplayLog', WHERE WHAT IT READS IS OF BULK AT MOST 1048576: true; the input reads as it did. -/
def fnExactReplayLogUptoRow : OpenClaim := { program := "ytphpjmkebnadoaa", sum := "a60b21579139755fbd6b92632f5c19fffbba9a2282fe7b164dc5f5036d036835", func := "loop.example/g00915/laws.FnExactReplayLog", spec := "fnExactReplayLog", unfollowed := true, recurses := true, apart := false, narrowed := true }
def FnExactReplayLogUptoSaid : Prop := fnExactReplayLogUptoRow.holds Try.pinned (OpenSpec.upto fnExactReplayLogSpec)

/-- 'laws.FnReplayed', WHERE WHAT IT READS IS OF BULK AT MOST 1048576: true; the input reads as it did. -/
def fnReplayedUptoRow : OpenClaim := { program := "ytphpjmkebnadoaa", sum := "a60b21579139755fbd6b92632f5c19fffbba9a2282fe7b164dc5f5036d036835", func := "loop.example/g00915/laws.FnReplayed", spec := "fnReplayed", unfollowed := true, recurses := true, apart := false, narrowed := true }
def FnReplayedUptoSaid : Prop := fnReplayedUptoRow.holds Try.pinned (OpenSpec.upto fnReplayedSpec)

/-- 'laws.FnExactNewBench', WHERE WHAT IT READS IS OF BULK AT MOST 1048576: true; the input reads as it did. -/
def fnExactNewBenchUptoRow : OpenClaim := { program := "ytphpjmkebnadoaa", sum := "a60b21579139755fbd6b92632f5c19fffbba9a2282fe7b164dc5f5036d036835", func := "loop.example/g00915/laws.FnExactNewBench", spec := "fnExactNewBench", apart := false, narrowed := true }
def FnExactNewBenchUptoSaid : Prop := fnExactNewBenchUptoRow.holds Try.pinned (OpenSpec.upto fnExactNewBenchSpec)

/-- 'laws.FnExactIsBench', WHERE WHAT IT READS IS OF BULK AT MOST 1048576: true; the input reads as it did. -/
def fnExactIsBenchUptoRow : OpenClaim := { program := "ytphpjmkebnadoaa", sum := "a60b21579139755fbd6b92632f5c19fffbba9a2282fe7b164dc5f5036d036835", func := "loop.example/g00915/laws.FnExactIsBench", spec := "fnExactIsBench", unfollowed := true, recurses := true, apart := false, narrowed := true }
def FnExactIsBenchUptoSaid : Prop := fnExactIsBenchUptoRow.holds Try.pinned (OpenSpec.upto fnExactIsBenchSpec)

end Rows
end Go.Proofs.Ytphpjmkebnadoaa
