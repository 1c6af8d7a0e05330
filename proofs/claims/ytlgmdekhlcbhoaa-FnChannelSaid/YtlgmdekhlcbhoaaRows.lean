/-
  No cell of these rows narrows 'for every input' (looked for: loops, veiled, ifaces, maps, wideKeys, modest, calm, conditions, laid).
  DERIVED. THE GIVEN ROWS OF THIS SEAT. 12 by the template 'for every input the law returns true; each argument reads behind the call as it read before'; 0 by the template 'total and deterministic' (their statements: YtlgmdekhlcbhoaaTotals.lean).
  GIVEN WITH THE SEED: the statements are not yours to turn. If you find one false, say at which input.
  Laid BY PROGRAM, IN A SANDBOX (cutbox-rows.mjs): the forced cells as the released guide's own fill.sh prints them over the translation a6e51787f07f29d6… (all of the seat's roots in one cut). By AI agents, Wed Nov 11 2026. No macro, syntax, notation, axiom, sorry.
-/
import Derived.Test.YtlgmdekhlcbhoaaChecked
import GoSem.Claim
import GoSem.ClaimJoined
import GoSem.ClaimMapViews
import Derived.JoinedTies
import Derived.KernelRfl
namespace Go.Proofs.Ytlgmdekhlcbhoaa
/- THE CELL 'sum', in the pinned program and in every row, IS THE sha256 OF THE DUMP (.gsa) THAT YtlgmdekhlcbhoaaProg.lean LOADS. Nothing in Lean hashes anything: it is a label: what it is worth is what the hold of that sum in a sandbox is worth. -/
noncomputable def Try.pinned : Pinned := { name := "ytlgmdekhlcbhoaa", sum := "a6e51787f07f29d6a836fa6936394a18288f4f80c154bdc83bdefb7da35c2b28", checked := Try.checked }
namespace Rows
def none {H : Type} : Left H := { results := [], args := [] }

/-- 'laws.FnExactSendFrame': WHATEVER THE INPUT: true; the input reads as it did. -/
def fnExactSendFrameSpec : ChangeSpec := { name := "fnExactSendFrame", fn := fun _ => fun
  | [d] => { results := [.lit (.bool true)], args := [d] }
  | _ => none }
def fnExactSendFrameRow : OpenClaim := { program := "ytlgmdekhlcbhoaa", sum := "a6e51787f07f29d6a836fa6936394a18288f4f80c154bdc83bdefb7da35c2b28", func := "loop.example/g00915/laws.FnExactSendFrame", spec := "fnExactSendFrame", apart := false }
def FnExactSendFrameSaid : Prop := fnExactSendFrameRow.holds Try.pinned (OpenSpec.ofChange fnExactSendFrameSpec)

/-- ITS FALSE NEIGHBOUR: 'it returns false'. Refute it at one input. -/
def fnExactSendFrameWrong : ChangeSpec := { name := "fnExactSendFrame", fn := fun _ => fun
  | [d] => { results := [.lit (.bool false)], args := [d] }
  | _ => none }
def FnExactSendFrameWrongFalsely : Prop := fnExactSendFrameRow.holds Try.pinned (OpenSpec.ofChange fnExactSendFrameWrong)

/-- 'laws.FnExactCountWrong': WHATEVER THE INPUT: true; the input reads as it did. -/
def fnExactCountWrongSpec : ChangeSpec := { name := "fnExactCountWrong", fn := fun _ => fun
  | [d1, d2] => { results := [.lit (.bool true)], args := [d1, d2] }
  | _ => none }
def fnExactCountWrongRow : OpenClaim := { program := "ytlgmdekhlcbhoaa", sum := "a6e51787f07f29d6a836fa6936394a18288f4f80c154bdc83bdefb7da35c2b28", func := "loop.example/g00915/laws.FnExactCountWrong", spec := "fnExactCountWrong", apart := false }
def FnExactCountWrongSaid : Prop := fnExactCountWrongRow.holds Try.pinned (OpenSpec.ofChange fnExactCountWrongSpec)

/-- ITS FALSE NEIGHBOUR: 'it returns false'. Refute it at one input. -/
def fnExactCountWrongWrong : ChangeSpec := { name := "fnExactCountWrong", fn := fun _ => fun
  | [d1, d2] => { results := [.lit (.bool false)], args := [d1, d2] }
  | _ => none }
def FnExactCountWrongWrongFalsely : Prop := fnExactCountWrongRow.holds Try.pinned (OpenSpec.ofChange fnExactCountWrongWrong)

/-- 'laws.FnExactReceiveFrame': WHATEVER THE INPUT: true; the input reads as it did. -/
def fnExactReceiveFrameSpec : ChangeSpec := { name := "fnExactReceiveFrame", fn := fun _ => fun
  | [d1, d2] => { results := [.lit (.bool true)], args := [d1, d2] }
  | _ => none }
def fnExactReceiveFrameRow : OpenClaim := { program := "ytlgmdekhlcbhoaa", sum := "a6e51787f07f29d6a836fa6936394a18288f4f80c154bdc83bdefb7da35c2b28", func := "loop.example/g00915/laws.FnExactReceiveFrame", spec := "fnExactReceiveFrame", unfollowed := true, recurses := true, apart := false }
def FnExactReceiveFrameSaid : Prop := fnExactReceiveFrameRow.holds Try.pinned (OpenSpec.ofChange fnExactReceiveFrameSpec)

/-- ITS FALSE NEIGHBOUR: 'it returns false'. Refute it at one input. -/
def fnExactReceiveFrameWrong : ChangeSpec := { name := "fnExactReceiveFrame", fn := fun _ => fun
  | [d1, d2] => { results := [.lit (.bool false)], args := [d1, d2] }
  | _ => none }
def FnExactReceiveFrameWrongFalsely : Prop := fnExactReceiveFrameRow.holds Try.pinned (OpenSpec.ofChange fnExactReceiveFrameWrong)

/-- 'laws.FnExactSurvivesBurst': WHATEVER THE INPUT: true; the input reads as it did. -/
def fnExactSurvivesBurstSpec : ChangeSpec := { name := "fnExactSurvivesBurst", fn := fun _ => fun
  | [d1, d2, d3] => { results := [.lit (.bool true)], args := [d1, d2, d3] }
  | _ => none }
def fnExactSurvivesBurstRow : OpenClaim := { program := "ytlgmdekhlcbhoaa", sum := "a6e51787f07f29d6a836fa6936394a18288f4f80c154bdc83bdefb7da35c2b28", func := "loop.example/g00915/laws.FnExactSurvivesBurst", spec := "fnExactSurvivesBurst", unfollowed := true, recurses := true, apart := false }
def FnExactSurvivesBurstSaid : Prop := fnExactSurvivesBurstRow.holds Try.pinned (OpenSpec.ofChange fnExactSurvivesBurstSpec)

/-- ITS FALSE NEIGHBOUR: 'it returns false'. Refute it at one input. -/
def fnExactSurvivesBurstWrong : ChangeSpec := { name := "fnExactSurvivesBurst", fn := fun _ => fun
  | [d1, d2, d3] => { results := [.lit (.bool false)], args := [d1, d2, d3] }
  | _ => none }
def FnExactSurvivesBurstWrongFalsely : Prop := fnExactSurvivesBurstRow.holds Try.pinned (OpenSpec.ofChange fnExactSurvivesBurstWrong)

/-- 'laws.FnExactTransferFrame': WHATEVER THE INPUT: true; the input reads as it did. -/
def fnExactTransferFrameSpec : ChangeSpec := { name := "fnExactTransferFrame", fn := fun _ => fun
  | [d1, d2] => { results := [.lit (.bool true)], args := [d1, d2] }
  | _ => none }
def fnExactTransferFrameRow : OpenClaim := { program := "ytlgmdekhlcbhoaa", sum := "a6e51787f07f29d6a836fa6936394a18288f4f80c154bdc83bdefb7da35c2b28", func := "loop.example/g00915/laws.FnExactTransferFrame", spec := "fnExactTransferFrame", unfollowed := true, recurses := true, apart := false }
def FnExactTransferFrameSaid : Prop := fnExactTransferFrameRow.holds Try.pinned (OpenSpec.ofChange fnExactTransferFrameSpec)

/-- ITS FALSE NEIGHBOUR: 'it returns false'. Refute it at one input. -/
def fnExactTransferFrameWrong : ChangeSpec := { name := "fnExactTransferFrame", fn := fun _ => fun
  | [d1, d2] => { results := [.lit (.bool false)], args := [d1, d2] }
  | _ => none }
def FnExactTransferFrameWrongFalsely : Prop := fnExactTransferFrameRow.holds Try.pinned (OpenSpec.ofChange fnExactTransferFrameWrong)

/-- 'laws.FnSurvived': WHATEVER THE INPUT: true; the input reads as it did. -/
def fnSurvivedSpec : ChangeSpec := { name := "fnSurvived", fn := fun _ => fun
  | [d] => { results := [.lit (.bool true)], args := [d] }
  | _ => none }
def fnSurvivedRow : OpenClaim := { program := "ytlgmdekhlcbhoaa", sum := "a6e51787f07f29d6a836fa6936394a18288f4f80c154bdc83bdefb7da35c2b28", func := "loop.example/g00915/laws.FnSurvived", spec := "fnSurvived", unfollowed := true, recurses := true, apart := false }
def FnSurvivedSaid : Prop := fnSurvivedRow.holds Try.pinned (OpenSpec.ofChange fnSurvivedSpec)

/-- ITS FALSE NEIGHBOUR: 'it returns false'. Refute it at one input. -/
def fnSurvivedWrong : ChangeSpec := { name := "fnSurvived", fn := fun _ => fun
  | [d] => { results := [.lit (.bool false)], args := [d] }
  | _ => none }
def FnSurvivedWrongFalsely : Prop := fnSurvivedRow.holds Try.pinned (OpenSpec.ofChange fnSurvivedWrong)

/-- 'laws.FnChannel': WHATEVER THE INPUT: true; the input reads as it did. -/
def fnChannelSpec : ChangeSpec := { name := "fnChannel", fn := fun _ => fun
  | [d] => { results := [.lit (.bool true)], args := [d] }
  | _ => none }
def fnChannelRow : OpenClaim := { program := "ytlgmdekhlcbhoaa", sum := "a6e51787f07f29d6a836fa6936394a18288f4f80c154bdc83bdefb7da35c2b28", func := "loop.example/g00915/laws.FnChannel", spec := "fnChannel", unfollowed := true, recurses := true, apart := false }
def FnChannelSaid : Prop := fnChannelRow.holds Try.pinned (OpenSpec.ofChange fnChannelSpec)

/-- ITS FALSE NEIGHBOUR: 'it returns false'. Refute it at one input. -/
def fnChannelWrong : ChangeSpec := { name := "fnChannel", fn := fun _ => fun
  | [d] => { results := [.lit (.bool false)], args := [d] }
  | _ => none }
def FnChannelWrongFalsely : Prop := fnChannelRow.holds Try.pinned (OpenSpec.ofChange fnChannelWrong)

/-- 'laws.FnNoise': WHATEVER THE INPUT: true; the input reads as it did. -/
def fnNoiseSpec : ChangeSpec := { name := "fnNoise", fn := fun _ => fun
  | [d] => { results := [.lit (.bool true)], args := [d] }
  | _ => none }
def fnNoiseRow : OpenClaim := { program := "ytlgmdekhlcbhoaa", sum := "a6e51787f07f29d6a836fa6936394a18288f4f80c154bdc83bdefb7da35c2b28", func := "loop.example/g00915/laws.FnNoise", spec := "fnNoise", apart := false }
def FnNoiseSaid : Prop := fnNoiseRow.holds Try.pinned (OpenSpec.ofChange fnNoiseSpec)

/-- ITS FALSE NEIGHBOUR: 'it returns false'. Refute it at one input. -/
def fnNoiseWrong : ChangeSpec := { name := "fnNoise", fn := fun _ => fun
  | [d] => { results := [.lit (.bool false)], args := [d] }
  | _ => none }
def FnNoiseWrongFalsely : Prop := fnNoiseRow.holds Try.pinned (OpenSpec.ofChange fnNoiseWrong)

/-- 'laws.FnCorrected': WHATEVER THE INPUT: true; the input reads as it did. -/
def fnCorrectedSpec : ChangeSpec := { name := "fnCorrected", fn := fun _ => fun
  | [d] => { results := [.lit (.bool true)], args := [d] }
  | _ => none }
def fnCorrectedRow : OpenClaim := { program := "ytlgmdekhlcbhoaa", sum := "a6e51787f07f29d6a836fa6936394a18288f4f80c154bdc83bdefb7da35c2b28", func := "loop.example/g00915/laws.FnCorrected", spec := "fnCorrected", apart := false }
def FnCorrectedSaid : Prop := fnCorrectedRow.holds Try.pinned (OpenSpec.ofChange fnCorrectedSpec)

/-- ITS FALSE NEIGHBOUR: 'it returns false'. Refute it at one input. -/
def fnCorrectedWrong : ChangeSpec := { name := "fnCorrected", fn := fun _ => fun
  | [d] => { results := [.lit (.bool false)], args := [d] }
  | _ => none }
def FnCorrectedWrongFalsely : Prop := fnCorrectedRow.holds Try.pinned (OpenSpec.ofChange fnCorrectedWrong)

/-- 'laws.FnPunctured': WHATEVER THE INPUT: true; the input reads as it did. -/
def fnPuncturedSpec : ChangeSpec := { name := "fnPunctured", fn := fun _ => fun
  | [d] => { results := [.lit (.bool true)], args := [d] }
  | _ => none }
def fnPuncturedRow : OpenClaim := { program := "ytlgmdekhlcbhoaa", sum := "a6e51787f07f29d6a836fa6936394a18288f4f80c154bdc83bdefb7da35c2b28", func := "loop.example/g00915/laws.FnPunctured", spec := "fnPunctured", apart := false }
def FnPuncturedSaid : Prop := fnPuncturedRow.holds Try.pinned (OpenSpec.ofChange fnPuncturedSpec)

/-- ITS FALSE NEIGHBOUR: 'it returns false'. Refute it at one input. -/
def fnPuncturedWrong : ChangeSpec := { name := "fnPunctured", fn := fun _ => fun
  | [d] => { results := [.lit (.bool false)], args := [d] }
  | _ => none }
def FnPuncturedWrongFalsely : Prop := fnPuncturedRow.holds Try.pinned (OpenSpec.ofChange fnPuncturedWrong)

/-- 'laws.FnDecoded': WHATEVER THE INPUT: true; the input reads as it did. -/
def fnDecodedSpec : ChangeSpec := { name := "fnDecoded", fn := fun _ => fun
  | [d] => { results := [.lit (.bool true)], args := [d] }
  | _ => none }
def fnDecodedRow : OpenClaim := { program := "ytlgmdekhlcbhoaa", sum := "a6e51787f07f29d6a836fa6936394a18288f4f80c154bdc83bdefb7da35c2b28", func := "loop.example/g00915/laws.FnDecoded", spec := "fnDecoded", apart := false }
def FnDecodedSaid : Prop := fnDecodedRow.holds Try.pinned (OpenSpec.ofChange fnDecodedSpec)

/-- ITS FALSE NEIGHBOUR: 'it returns false'. Refute it at one input. -/
def fnDecodedWrong : ChangeSpec := { name := "fnDecoded", fn := fun _ => fun
  | [d] => { results := [.lit (.bool false)], args := [d] }
  | _ => none }
def FnDecodedWrongFalsely : Prop := fnDecodedRow.holds Try.pinned (OpenSpec.ofChange fnDecodedWrong)

/-- 'laws.FnStates': WHATEVER THE INPUT: true; the input reads as it did. -/
def fnStatesSpec : ChangeSpec := { name := "fnStates", fn := fun _ => fun
  | [d] => { results := [.lit (.bool true)], args := [d] }
  | _ => none }
def fnStatesRow : OpenClaim := { program := "ytlgmdekhlcbhoaa", sum := "a6e51787f07f29d6a836fa6936394a18288f4f80c154bdc83bdefb7da35c2b28", func := "loop.example/g00915/laws.FnStates", spec := "fnStates", apart := false }
def FnStatesSaid : Prop := fnStatesRow.holds Try.pinned (OpenSpec.ofChange fnStatesSpec)

/-- ITS FALSE NEIGHBOUR: 'it returns false'. Refute it at one input. -/
def fnStatesWrong : ChangeSpec := { name := "fnStates", fn := fun _ => fun
  | [d] => { results := [.lit (.bool false)], args := [d] }
  | _ => none }
def FnStatesWrongFalsely : Prop := fnStatesRow.holds Try.pinned (OpenSpec.ofChange fnStatesWrong)

/- THE SECOND FORM. 'bulk': how many values and letters a reading holds, each counted each time it is reached (what is shared counts as often as it is met; a slice's spare places count too). A statement '..UptoSaid' is the law's where the arguments, and the package variables that the reading takes, are together of bulk at most 1048576: NARROWER than '..Said'. Prove '..Said' where nothing that the law and all that it calls make is longer than what came in: it says more and counts as full. Else prove '..UptoSaid'. A law counts once. -/
mutual
def uptoBulk {H : Type} : DataW H → Nat
  | .lit (.string bytes) => bytes.length + 1
  | .lit _ => 1
  | .nil => 1
  | .ptr d => uptoBulk d + 1
  | .slice elems spare => uptoBulkAll elems + uptoBulkAll spare + 1
  | .agg parts => uptoBulkAll parts + 1
  | .iface _ d => uptoBulk d + 1
  | .map entries => uptoBulkEntries entries + 1
  | .held _ => 1
def uptoBulkAll {H : Type} : List (DataW H) → Nat
  | [] => 0
  | d :: r => uptoBulk d + uptoBulkAll r
def uptoBulkEntries {H : Type} : List (Lit × DataW H) → Nat
  | [] => 0
  | x :: r => uptoBulkEntry x + uptoBulkEntries r
def uptoBulkEntry {H : Type} : Lit × DataW H → Nat
  | (.string bytes, d) => bytes.length + uptoBulk d + 1
  | (_, d) => uptoBulk d + 1
 end
def uptoSmall : (H : Type) → List (DataW H) → Bool := fun _ ds => decide (uptoBulkAll ds ≤ 1048576)
def OpenSpec.upto (s : _root_.Go.ChangeSpec) : _root_.Go.OpenSpec := { _root_.Go.OpenSpec.ofChange s with cond := some uptoSmall }

/-- 'laws.FnExactSendFrame', WHERE WHAT IT READS IS OF BULK AT MOST 1048576: true; the input reads as it did. -/
def fnExactSendFrameUptoRow : OpenClaim := { program := "ytlgmdekhlcbhoaa", sum := "a6e51787f07f29d6a836fa6936394a18288f4f80c154bdc83bdefb7da35c2b28", func := "loop.example/g00915/laws.FnExactSendFrame", spec := "fnExactSendFrame", apart := false, narrowed := true }
def FnExactSendFrameUptoSaid : Prop := fnExactSendFrameUptoRow.holds Try.pinned (OpenSpec.upto fnExactSendFrameSpec)

/-- 'laws.FnExactCountWrong', WHERE WHAT IT READS IS OF BULK AT MOST 1048576: true; the input reads as it did. -/
def fnExactCountWrongUptoRow : OpenClaim := { program := "ytlgmdekhlcbhoaa", sum := "a6e51787f07f29d6a836fa6936394a18288f4f80c154bdc83bdefb7da35c2b28", func := "loop.example/g00915/laws.FnExactCountWrong", spec := "fnExactCountWrong", apart := false, narrowed := true }
def FnExactCountWrongUptoSaid : Prop := fnExactCountWrongUptoRow.holds Try.pinned (OpenSpec.upto fnExactCountWrongSpec)

/-- 'laws.FnExactReceiveFrame', WHERE WHAT IT READS IS OF BULK AT MOST 1048576: true; the input reads as it did. -/
def fnExactReceiveFrameUptoRow : OpenClaim := { program := "ytlgmdekhlcbhoaa", sum := "a6e51787f07f29d6a836fa6936394a18288f4f80c154bdc83bdefb7da35c2b28", func := "loop.example/g00915/laws.FnExactReceiveFrame", spec := "fnExactReceiveFrame", unfollowed := true, recurses := true, apart := false, narrowed := true }
def FnExactReceiveFrameUptoSaid : Prop := fnExactReceiveFrameUptoRow.holds Try.pinned (OpenSpec.upto fnExactReceiveFrameSpec)

/-- 'laws.FnExactSurvivesBurst', WHERE WHAT IT READS IS OF BULK AT MOST 1048576: true; the input reads as it did. -/
def fnExactSurvivesBurstUptoRow : OpenClaim := { program := "ytlgmdekhlcbhoaa", sum := "a6e51787f07f29d6a836fa6936394a18288f4f80c154bdc83bdefb7da35c2b28", func := "loop.example/g00915/laws.FnExactSurvivesBurst", spec := "fnExactSurvivesBurst", unfollowed := true, recurses := true, apart := false, narrowed := true }
def FnExactSurvivesBurstUptoSaid : Prop := fnExactSurvivesBurstUptoRow.holds Try.pinned (OpenSpec.upto fnExactSurvivesBurstSpec)

/-- 'laws.FnExactTransferFrame', WHERE WHAT IT READS IS OF BULK AT MOST 1048576: true; the input reads as it did. -/
def fnExactTransferFrameUptoRow : OpenClaim := { program := "ytlgmdekhlcbhoaa", sum := "a6e51787f07f29d6a836fa6936394a18288f4f80c154bdc83bdefb7da35c2b28", func := "loop.example/g00915/laws.FnExactTransferFrame", spec := "fnExactTransferFrame", unfollowed := true, recurses := true, apart := false, narrowed := true }
def FnExactTransferFrameUptoSaid : Prop := fnExactTransferFrameUptoRow.holds Try.pinned (OpenSpec.upto fnExactTransferFrameSpec)

/-- 'laws.FnSurvived', WHERE WHAT IT READS IS OF BULK AT MOST 1048576: true; the input reads as it did. -/
def fnSurvivedUptoRow : OpenClaim := { program := "ytlgmdekhlcbhoaa", sum := "a6e51787f07f29d6a836fa6936394a18288f4f80c154bdc83bdefb7da35c2b28", func := "loop.example/g00915/laws.FnSurvived", spec := "fnSurvived", unfollowed := true, recurses := true, apart := false, narrowed := true }
def FnSurvivedUptoSaid : Prop := fnSurvivedUptoRow.holds Try.pinned (OpenSpec.upto fnSurvivedSpec)

/-- 'laws.FnChannel', WHERE WHAT IT READS IS OF BULK AT MOST 1048576: true; the input reads as it did. -/
def fnChannelUptoRow : OpenClaim := { program := "ytlgmdekhlcbhoaa", sum := "a6e51787f07f29d6a836fa6936394a18288f4f80c154bdc83bdefb7da35c2b28", func := "loop.example/g00915/laws.FnChannel", spec := "fnChannel", unfollowed := true, recurses := true, apart := false, narrowed := true }
def FnChannelUptoSaid : Prop := fnChannelUptoRow.holds Try.pinned (OpenSpec.upto fnChannelSpec)

/-- 'laws.FnNoise', WHERE WHAT IT READS IS OF BULK AT MOST 1048576: true; the input reads as it did. -/
def fnNoiseUptoRow : OpenClaim := { program := "ytlgmdekhlcbhoaa", sum := "a6e51787f07f29d6a836fa6936394a18288f4f80c154bdc83bdefb7da35c2b28", func := "loop.example/g00915/laws.FnNoise", spec := "fnNoise", apart := false, narrowed := true }
def FnNoiseUptoSaid : Prop := fnNoiseUptoRow.holds Try.pinned (OpenSpec.upto fnNoiseSpec)

/-- 'laws.FnCorrected', WHERE WHAT IT READS IS OF BULK AT MOST 1048576: true; the input reads as it did. -/
def fnCorrectedUptoRow : OpenClaim := { program := "ytlgmdekhlcbhoaa", sum := "a6e51787f07f29d6a836fa6936394a18288f4f80c154bdc83bdefb7da35c2b28", func := "loop.example/g00915/laws.FnCorrected", spec := "fnCorrected", apart := false, narrowed := true }
def FnCorrectedUptoSaid : Prop := fnCorrectedUptoRow.holds Try.pinned (OpenSpec.upto fnCorrectedSpec)

/-- 'laws.FnPunctured', WHERE WHAT IT READS IS OF BULK AT MOST 1048576: true; the input reads as it did. -/
def fnPuncturedUptoRow : OpenClaim := { program := "ytlgmdekhlcbhoaa", sum := "a6e51787f07f29d6a836fa6936394a18288f4f80c154bdc83bdefb7da35c2b28", func := "loop.example/g00915/laws.FnPunctured", spec := "fnPunctured", apart := false, narrowed := true }
def FnPuncturedUptoSaid : Prop := fnPuncturedUptoRow.holds Try.pinned (OpenSpec.upto fnPuncturedSpec)

/-- 'laws.FnDecoded', WHERE WHAT IT READS IS OF BULK AT MOST 1048576: true; the input reads as it did. -/
def fnDecodedUptoRow : OpenClaim := { program := "ytlgmdekhlcbhoaa", sum := "a6e51787f07f29d6a836fa6936394a18288f4f80c154bdc83bdefb7da35c2b28", func := "loop.example/g00915/laws.FnDecoded", spec := "fnDecoded", apart := false, narrowed := true }
def FnDecodedUptoSaid : Prop := fnDecodedUptoRow.holds Try.pinned (OpenSpec.upto fnDecodedSpec)

/-- 'laws.FnStates', WHERE WHAT IT READS IS OF BULK AT MOST 1048576: true; the input reads as it did. -/
def fnStatesUptoRow : OpenClaim := { program := "ytlgmdekhlcbhoaa", sum := "a6e51787f07f29d6a836fa6936394a18288f4f80c154bdc83bdefb7da35c2b28", func := "loop.example/g00915/laws.FnStates", spec := "fnStates", apart := false, narrowed := true }
def FnStatesUptoSaid : Prop := fnStatesUptoRow.holds Try.pinned (OpenSpec.upto fnStatesSpec)

end Rows
end Go.Proofs.Ytlgmdekhlcbhoaa
