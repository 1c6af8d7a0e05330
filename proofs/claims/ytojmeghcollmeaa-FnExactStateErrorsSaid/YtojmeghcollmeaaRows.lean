/-
  No cell of these rows narrows 'for every input' (looked for: loops, veiled, ifaces, maps, wideKeys, modest, calm, conditions, laid).
  DERIVED. THE GIVEN ROWS OF THIS SEAT. 12 by the template 'for every input the law returns true; each argument reads behind the call as it read before'; 0 by the template 'total and deterministic' (their statements: YtojmeghcollmeaaTotals.lean).
  GIVEN WITH THE SEED: the statements are not yours to turn. If you find one false, say at which input.
  Laid BY PROGRAM, IN A SANDBOX (cutbox-rows.mjs): the forced cells as the released guide's own fill.sh prints them over the translation cba4223bf4c07d53… (all of the seat's roots in one cut). By AI agents, Wed Nov 11 2026. No macro, syntax, notation, axiom, sorry.
-/
import Derived.Test.YtojmeghcollmeaaChecked
import GoSem.Claim
import GoSem.ClaimJoined
import GoSem.ClaimMapViews
import Derived.JoinedTies
import Derived.KernelRfl
namespace Go.Proofs.Ytojmeghcollmeaa
/- THE CELL 'sum', in the pinned program and in every row, IS THE sha256 OF THE DUMP (.gsa) THAT YtojmeghcollmeaaProg.lean LOADS. Nothing in Lean hashes anything: it is a label: what it is worth is what the hold of that sum in a sandbox is worth. -/
noncomputable def Try.pinned : Pinned := { name := "ytojmeghcollmeaa", sum := "cba4223bf4c07d536ab8b3ef6a3a65df147ecda3216265f41d9fb1c11d749acd", checked := Try.checked }
namespace Rows
def none {H : Type} : Left H := { results := [], args := [] }

/-- 'laws.FnExactCheckNumber': WHATEVER THE INPUT: true; the input reads as it did. -/
def fnExactCheckNumberSpec : ChangeSpec := { name := "fnExactCheckNumber", fn := fun _ => fun
  | [d] => { results := [.lit (.bool true)], args := [d] }
  | _ => none }
def fnExactCheckNumberRow : OpenClaim := { program := "ytojmeghcollmeaa", sum := "cba4223bf4c07d536ab8b3ef6a3a65df147ecda3216265f41d9fb1c11d749acd", func := "loop.example/g00915/laws.FnExactCheckNumber", spec := "fnExactCheckNumber", apart := false }
def FnExactCheckNumberSaid : Prop := fnExactCheckNumberRow.holds Try.pinned (OpenSpec.ofChange fnExactCheckNumberSpec)

/-- ITS FALSE NEIGHBOUR: 'it returns false'. Refute it at one input. -/
def fnExactCheckNumberWrong : ChangeSpec := { name := "fnExactCheckNumber", fn := fun _ => fun
  | [d] => { results := [.lit (.bool false)], args := [d] }
  | _ => none }
def FnExactCheckNumberWrongFalsely : Prop := fnExactCheckNumberRow.holds Try.pinned (OpenSpec.ofChange fnExactCheckNumberWrong)

/-- 'laws.FnExactChannelLength': WHATEVER THE INPUT: true; the input reads as it did. -/
def fnExactChannelLengthSpec : ChangeSpec := { name := "fnExactChannelLength", fn := fun _ => fun
  | [d] => { results := [.lit (.bool true)], args := [d] }
  | _ => none }
def fnExactChannelLengthRow : OpenClaim := { program := "ytojmeghcollmeaa", sum := "cba4223bf4c07d536ab8b3ef6a3a65df147ecda3216265f41d9fb1c11d749acd", func := "loop.example/g00915/laws.FnExactChannelLength", spec := "fnExactChannelLength", apart := false }
def FnExactChannelLengthSaid : Prop := fnExactChannelLengthRow.holds Try.pinned (OpenSpec.ofChange fnExactChannelLengthSpec)

/-- ITS FALSE NEIGHBOUR: 'it returns false'. Refute it at one input. -/
def fnExactChannelLengthWrong : ChangeSpec := { name := "fnExactChannelLength", fn := fun _ => fun
  | [d] => { results := [.lit (.bool false)], args := [d] }
  | _ => none }
def FnExactChannelLengthWrongFalsely : Prop := fnExactChannelLengthRow.holds Try.pinned (OpenSpec.ofChange fnExactChannelLengthWrong)

/-- 'laws.FnExactIsRecord': WHATEVER THE INPUT: true; the input reads as it did. -/
def fnExactIsRecordSpec : ChangeSpec := { name := "fnExactIsRecord", fn := fun _ => fun
  | [d] => { results := [.lit (.bool true)], args := [d] }
  | _ => none }
def fnExactIsRecordRow : OpenClaim := { program := "ytojmeghcollmeaa", sum := "cba4223bf4c07d536ab8b3ef6a3a65df147ecda3216265f41d9fb1c11d749acd", func := "loop.example/g00915/laws.FnExactIsRecord", spec := "fnExactIsRecord", apart := false }
def FnExactIsRecordSaid : Prop := fnExactIsRecordRow.holds Try.pinned (OpenSpec.ofChange fnExactIsRecordSpec)

/-- ITS FALSE NEIGHBOUR: 'it returns false'. Refute it at one input. -/
def fnExactIsRecordWrong : ChangeSpec := { name := "fnExactIsRecord", fn := fun _ => fun
  | [d] => { results := [.lit (.bool false)], args := [d] }
  | _ => none }
def FnExactIsRecordWrongFalsely : Prop := fnExactIsRecordRow.holds Try.pinned (OpenSpec.ofChange fnExactIsRecordWrong)

/-- 'laws.FnExactNoisyBits': WHATEVER THE INPUT: true; the input reads as it did. -/
def fnExactNoisyBitsSpec : ChangeSpec := { name := "fnExactNoisyBits", fn := fun _ => fun
  | [d1, d2, d3] => { results := [.lit (.bool true)], args := [d1, d2, d3] }
  | _ => none }
def fnExactNoisyBitsRow : OpenClaim := { program := "ytojmeghcollmeaa", sum := "cba4223bf4c07d536ab8b3ef6a3a65df147ecda3216265f41d9fb1c11d749acd", func := "loop.example/g00915/laws.FnExactNoisyBits", spec := "fnExactNoisyBits", apart := false }
def FnExactNoisyBitsSaid : Prop := fnExactNoisyBitsRow.holds Try.pinned (OpenSpec.ofChange fnExactNoisyBitsSpec)

/-- ITS FALSE NEIGHBOUR: 'it returns false'. Refute it at one input. -/
def fnExactNoisyBitsWrong : ChangeSpec := { name := "fnExactNoisyBits", fn := fun _ => fun
  | [d1, d2, d3] => { results := [.lit (.bool false)], args := [d1, d2, d3] }
  | _ => none }
def FnExactNoisyBitsWrongFalsely : Prop := fnExactNoisyBitsRow.holds Try.pinned (OpenSpec.ofChange fnExactNoisyBitsWrong)

/-- 'laws.FnExactBurstBits': WHATEVER THE INPUT: true; the input reads as it did. -/
def fnExactBurstBitsSpec : ChangeSpec := { name := "fnExactBurstBits", fn := fun _ => fun
  | [d1, d2, d3] => { results := [.lit (.bool true)], args := [d1, d2, d3] }
  | _ => none }
def fnExactBurstBitsRow : OpenClaim := { program := "ytojmeghcollmeaa", sum := "cba4223bf4c07d536ab8b3ef6a3a65df147ecda3216265f41d9fb1c11d749acd", func := "loop.example/g00915/laws.FnExactBurstBits", spec := "fnExactBurstBits", apart := false }
def FnExactBurstBitsSaid : Prop := fnExactBurstBitsRow.holds Try.pinned (OpenSpec.ofChange fnExactBurstBitsSpec)

/-- ITS FALSE NEIGHBOUR: 'it returns false'. Refute it at one input. -/
def fnExactBurstBitsWrong : ChangeSpec := { name := "fnExactBurstBits", fn := fun _ => fun
  | [d1, d2, d3] => { results := [.lit (.bool false)], args := [d1, d2, d3] }
  | _ => none }
def FnExactBurstBitsWrongFalsely : Prop := fnExactBurstBitsRow.holds Try.pinned (OpenSpec.ofChange fnExactBurstBitsWrong)

/-- 'laws.FnExactStateErrors': WHATEVER THE INPUT: true; the input reads as it did. -/
def fnExactStateErrorsSpec : ChangeSpec := { name := "fnExactStateErrors", fn := fun _ => fun
  | [d1, d2] => { results := [.lit (.bool true)], args := [d1, d2] }
  | _ => none }
def fnExactStateErrorsRow : OpenClaim := { program := "ytojmeghcollmeaa", sum := "cba4223bf4c07d536ab8b3ef6a3a65df147ecda3216265f41d9fb1c11d749acd", func := "loop.example/g00915/laws.FnExactStateErrors", spec := "fnExactStateErrors", apart := false }
def FnExactStateErrorsSaid : Prop := fnExactStateErrorsRow.holds Try.pinned (OpenSpec.ofChange fnExactStateErrorsSpec)

/-- ITS FALSE NEIGHBOUR: 'it returns false'. Refute it at one input. -/
def fnExactStateErrorsWrong : ChangeSpec := { name := "fnExactStateErrors", fn := fun _ => fun
  | [d1, d2] => { results := [.lit (.bool false)], args := [d1, d2] }
  | _ => none }
def FnExactStateErrorsWrongFalsely : Prop := fnExactStateErrorsRow.holds Try.pinned (OpenSpec.ofChange fnExactStateErrorsWrong)

/-- 'laws.FnExactCountNearest': WHATEVER THE INPUT: true; the input reads as it did. -/
def fnExactCountNearestSpec : ChangeSpec := { name := "fnExactCountNearest", fn := fun _ => fun
  | [d] => { results := [.lit (.bool true)], args := [d] }
  | _ => none }
def fnExactCountNearestRow : OpenClaim := { program := "ytojmeghcollmeaa", sum := "cba4223bf4c07d536ab8b3ef6a3a65df147ecda3216265f41d9fb1c11d749acd", func := "loop.example/g00915/laws.FnExactCountNearest", spec := "fnExactCountNearest", apart := false }
def FnExactCountNearestSaid : Prop := fnExactCountNearestRow.holds Try.pinned (OpenSpec.ofChange fnExactCountNearestSpec)

/-- ITS FALSE NEIGHBOUR: 'it returns false'. Refute it at one input. -/
def fnExactCountNearestWrong : ChangeSpec := { name := "fnExactCountNearest", fn := fun _ => fun
  | [d] => { results := [.lit (.bool false)], args := [d] }
  | _ => none }
def FnExactCountNearestWrongFalsely : Prop := fnExactCountNearestRow.holds Try.pinned (OpenSpec.ofChange fnExactCountNearestWrong)

/-- 'laws.FnExactIsSingle': WHATEVER THE INPUT: true; the input reads as it did. -/
def fnExactIsSingleSpec : ChangeSpec := { name := "fnExactIsSingle", fn := fun _ => fun
  | [d] => { results := [.lit (.bool true)], args := [d] }
  | _ => none }
def fnExactIsSingleRow : OpenClaim := { program := "ytojmeghcollmeaa", sum := "cba4223bf4c07d536ab8b3ef6a3a65df147ecda3216265f41d9fb1c11d749acd", func := "loop.example/g00915/laws.FnExactIsSingle", spec := "fnExactIsSingle", apart := false }
def FnExactIsSingleSaid : Prop := fnExactIsSingleRow.holds Try.pinned (OpenSpec.ofChange fnExactIsSingleSpec)

/-- ITS FALSE NEIGHBOUR: 'it returns false'. Refute it at one input. -/
def fnExactIsSingleWrong : ChangeSpec := { name := "fnExactIsSingle", fn := fun _ => fun
  | [d] => { results := [.lit (.bool false)], args := [d] }
  | _ => none }
def FnExactIsSingleWrongFalsely : Prop := fnExactIsSingleRow.holds Try.pinned (OpenSpec.ofChange fnExactIsSingleWrong)

/-- 'laws.FnExactLeastErrors': WHATEVER THE INPUT: true; the input reads as it did. -/
def fnExactLeastErrorsSpec : ChangeSpec := { name := "fnExactLeastErrors", fn := fun _ => fun
  | [d] => { results := [.lit (.bool true)], args := [d] }
  | _ => none }
def fnExactLeastErrorsRow : OpenClaim := { program := "ytojmeghcollmeaa", sum := "cba4223bf4c07d536ab8b3ef6a3a65df147ecda3216265f41d9fb1c11d749acd", func := "loop.example/g00915/laws.FnExactLeastErrors", spec := "fnExactLeastErrors", apart := false }
def FnExactLeastErrorsSaid : Prop := fnExactLeastErrorsRow.holds Try.pinned (OpenSpec.ofChange fnExactLeastErrorsSpec)

/-- ITS FALSE NEIGHBOUR: 'it returns false'. Refute it at one input. -/
def fnExactLeastErrorsWrong : ChangeSpec := { name := "fnExactLeastErrors", fn := fun _ => fun
  | [d] => { results := [.lit (.bool false)], args := [d] }
  | _ => none }
def FnExactLeastErrorsWrongFalsely : Prop := fnExactLeastErrorsRow.holds Try.pinned (OpenSpec.ofChange fnExactLeastErrorsWrong)

/-- 'laws.FnExactDecodeBits': WHATEVER THE INPUT: true; the input reads as it did. -/
def fnExactDecodeBitsSpec : ChangeSpec := { name := "fnExactDecodeBits", fn := fun _ => fun
  | [d] => { results := [.lit (.bool true)], args := [d] }
  | _ => none }
def fnExactDecodeBitsRow : OpenClaim := { program := "ytojmeghcollmeaa", sum := "cba4223bf4c07d536ab8b3ef6a3a65df147ecda3216265f41d9fb1c11d749acd", func := "loop.example/g00915/laws.FnExactDecodeBits", spec := "fnExactDecodeBits", apart := false }
def FnExactDecodeBitsSaid : Prop := fnExactDecodeBitsRow.holds Try.pinned (OpenSpec.ofChange fnExactDecodeBitsSpec)

/-- ITS FALSE NEIGHBOUR: 'it returns false'. Refute it at one input. -/
def fnExactDecodeBitsWrong : ChangeSpec := { name := "fnExactDecodeBits", fn := fun _ => fun
  | [d] => { results := [.lit (.bool false)], args := [d] }
  | _ => none }
def FnExactDecodeBitsWrongFalsely : Prop := fnExactDecodeBitsRow.holds Try.pinned (OpenSpec.ofChange fnExactDecodeBitsWrong)

/-- 'laws.FnExactNearestCode': WHATEVER THE INPUT: true; the input reads as it did. -/
def fnExactNearestCodeSpec : ChangeSpec := { name := "fnExactNearestCode", fn := fun _ => fun
  | [d] => { results := [.lit (.bool true)], args := [d] }
  | _ => none }
def fnExactNearestCodeRow : OpenClaim := { program := "ytojmeghcollmeaa", sum := "cba4223bf4c07d536ab8b3ef6a3a65df147ecda3216265f41d9fb1c11d749acd", func := "loop.example/g00915/laws.FnExactNearestCode", spec := "fnExactNearestCode", apart := false }
def FnExactNearestCodeSaid : Prop := fnExactNearestCodeRow.holds Try.pinned (OpenSpec.ofChange fnExactNearestCodeSpec)

/-- ITS FALSE NEIGHBOUR: 'it returns false'. Refute it at one input. -/
def fnExactNearestCodeWrong : ChangeSpec := { name := "fnExactNearestCode", fn := fun _ => fun
  | [d] => { results := [.lit (.bool false)], args := [d] }
  | _ => none }
def FnExactNearestCodeWrongFalsely : Prop := fnExactNearestCodeRow.holds Try.pinned (OpenSpec.ofChange fnExactNearestCodeWrong)

/-- 'laws.FnExactDecodePunctured': WHATEVER THE INPUT: true; the input reads as it did. -/
def fnExactDecodePuncturedSpec : ChangeSpec := { name := "fnExactDecodePunctured", fn := fun _ => fun
  | [d1, d2] => { results := [.lit (.bool true)], args := [d1, d2] }
  | _ => none }
def fnExactDecodePuncturedRow : OpenClaim := { program := "ytojmeghcollmeaa", sum := "cba4223bf4c07d536ab8b3ef6a3a65df147ecda3216265f41d9fb1c11d749acd", func := "loop.example/g00915/laws.FnExactDecodePunctured", spec := "fnExactDecodePunctured", apart := false }
def FnExactDecodePuncturedSaid : Prop := fnExactDecodePuncturedRow.holds Try.pinned (OpenSpec.ofChange fnExactDecodePuncturedSpec)

/-- ITS FALSE NEIGHBOUR: 'it returns false'. Refute it at one input. -/
def fnExactDecodePuncturedWrong : ChangeSpec := { name := "fnExactDecodePunctured", fn := fun _ => fun
  | [d1, d2] => { results := [.lit (.bool false)], args := [d1, d2] }
  | _ => none }
def FnExactDecodePuncturedWrongFalsely : Prop := fnExactDecodePuncturedRow.holds Try.pinned (OpenSpec.ofChange fnExactDecodePuncturedWrong)

/- THE SECOND FORM. 'bulk': how many values and letters a reading holds, each counted each time it is reached (what is shared counts as often as it is met; a slice's spare places count too). A statement '..UptoSaid' is the law's where the arguments, and the package variables that the reading takes, are together of bulk at most 1048576: NARROWER than '..Said'. Prove '..Said' where nothing that the law and all that it calls make is longer than what came in: it says more and counts as full. Else prove '..UptoSaid'. A law counts once. -/
mutual
def uptoBulk {H : Type} : DataW H → Nat
  | .lit (.string bytes) => bytes.length + 1
  | .lit _ => 1
  | .nil => 1
  | .ptr d => uptoBulk d + 1
  | .slice elems spare => uptoBulkAll elems + uptoBulkAll spare + 1
  | .agg parts => uptoBulkAll parts + 1
  | .iface _ d => uptoBulk d + 1
  | .map entries => uptoBulkEntries entries + 1
  | .held _ => 1
def uptoBulkAll {H : Type} : List (DataW H) → Nat
  | [] => 0
  | d :: r => uptoBulk d + uptoBulkAll r
def uptoBulkEntries {H : Type} : List (Lit × DataW H) → Nat
  | [] => 0
  | x :: r => uptoBulkEntry x + uptoBulkEntries r
def uptoBulkEntry {H : Type} : Lit × DataW H → Nat
  | (.string bytes, d) => bytes.length + uptoBulk d + 1
  | (_, d) => uptoBulk d + 1
 end
def uptoSmall : (H : Type) → List (DataW H) → Bool := fun _ ds => decide (uptoBulkAll ds ≤ 1048576)
def OpenSpec.upto (s : _root_.Go.ChangeSpec) : _root_.Go.OpenSpec := { _root_.Go.OpenSpec.ofChange s with cond := some uptoSmall }

/-- 'laws.FnExactCheckNumber', WHERE WHAT IT READS IS OF BULK AT MOST 1048576: true; the input reads as it did. -/
def fnExactCheckNumberUptoRow : OpenClaim := { program := "ytojmeghcollmeaa", sum := "cba4223bf4c07d536ab8b3ef6a3a65df147ecda3216265f41d9fb1c11d749acd", func := "loop.example/g00915/laws.FnExactCheckNumber", spec := "fnExactCheckNumber", apart := false, narrowed := true }
def FnExactCheckNumberUptoSaid : Prop := fnExactCheckNumberUptoRow.holds Try.pinned (OpenSpec.upto fnExactCheckNumberSpec)

/-- 'laws.FnExactChannelLength', WHERE WHAT IT READS IS OF BULK AT MOST 1048576: true; the input reads as it did. -/
def fnExactChannelLengthUptoRow : OpenClaim := { program := "ytojmeghcollmeaa", sum := "cba4223bf4c07d536ab8b3ef6a3a65df147ecda3216265f41d9fb1c11d749acd", func := "loop.example/g00915/laws.FnExactChannelLength", spec := "fnExactChannelLength", apart := false, narrowed := true }
def FnExactChannelLengthUptoSaid : Prop := fnExactChannelLengthUptoRow.holds Try.pinned (OpenSpec.upto fnExactChannelLengthSpec)

/-- 'laws.FnExactIsRecord', WHERE WHAT IT READS IS OF BULK AT MOST 1048576: true; the input reads as it did. -/
def fnExactIsRecordUptoRow : OpenClaim := { program := "ytojmeghcollmeaa", sum := "cba4223bf4c07d536ab8b3ef6a3a65df147ecda3216265f41d9fb1c11d749acd", func := "loop.example/g00915/laws.FnExactIsRecord", spec := "fnExactIsRecord", apart := false, narrowed := true }
def FnExactIsRecordUptoSaid : Prop := fnExactIsRecordUptoRow.holds Try.pinned (OpenSpec.upto fnExactIsRecordSpec)

/-- 'laws.FnExactNoisyBits', WHERE WHAT IT READS IS OF BULK AT MOST 1048576: true; the input reads as it did. -/
def fnExactNoisyBitsUptoRow : OpenClaim := { program := "ytojmeghcollmeaa", sum := "cba4223bf4c07d536ab8b3ef6a3a65df147ecda3216265f41d9fb1c11d749acd", func := "loop.example/g00915/laws.FnExactNoisyBits", spec := "fnExactNoisyBits", apart := false, narrowed := true }
def FnExactNoisyBitsUptoSaid : Prop := fnExactNoisyBitsUptoRow.holds Try.pinned (OpenSpec.upto fnExactNoisyBitsSpec)

/-- 'laws.FnExactBurstBits', WHERE WHAT IT READS IS OF BULK AT MOST 1048576: true; the input reads as it did. -/
def fnExactBurstBitsUptoRow : OpenClaim := { program := "ytojmeghcollmeaa", sum := "cba4223bf4c07d536ab8b3ef6a3a65df147ecda3216265f41d9fb1c11d749acd", func := "loop.example/g00915/laws.FnExactBurstBits", spec := "fnExactBurstBits", apart := false, narrowed := true }
def FnExactBurstBitsUptoSaid : Prop := fnExactBurstBitsUptoRow.holds Try.pinned (OpenSpec.upto fnExactBurstBitsSpec)

/-- 'laws.FnExactStateErrors', WHERE WHAT IT READS IS OF BULK AT MOST 1048576: true; the input reads as it did. -/
def fnExactStateErrorsUptoRow : OpenClaim := { program := "ytojmeghcollmeaa", sum := "cba4223bf4c07d536ab8b3ef6a3a65df147ecda3216265f41d9fb1c11d749acd", func := "loop.example/g00915/laws.FnExactStateErrors", spec := "fnExactStateErrors", apart := false, narrowed := true }
def FnExactStateErrorsUptoSaid : Prop := fnExactStateErrorsUptoRow.holds Try.pinned (OpenSpec.upto fnExactStateErrorsSpec)

/-- 'laws.FnExactCountNearest', WHERE WHAT IT READS IS OF BULK AT MOST 1048576: true; the input reads as it did. -/
def fnExactCountNearestUptoRow : OpenClaim := { program := "ytojmeghcollmeaa", sum := "cba4223bf4c07d536ab8b3ef6a3a65df147ecda3216265f41d9fb1c11d749acd", func := "loop.example/g00915/laws.FnExactCountNearest", spec := "fnExactCountNearest", apart := false, narrowed := true }
def FnExactCountNearestUptoSaid : Prop := fnExactCountNearestUptoRow.holds Try.pinned (OpenSpec.upto fnExactCountNearestSpec)

/-- 'laws.FnExactIsSingle', WHERE WHAT IT READS IS OF BULK AT MOST 1048576: true; the input reads as it did. -/
def fnExactIsSingleUptoRow : OpenClaim := { program := "ytojmeghcollmeaa", sum := "cba4223bf4c07d536ab8b3ef6a3a65df147ecda3216265f41d9fb1c11d749acd", func := "loop.example/g00915/laws.FnExactIsSingle", spec := "fnExactIsSingle", apart := false, narrowed := true }
def FnExactIsSingleUptoSaid : Prop := fnExactIsSingleUptoRow.holds Try.pinned (OpenSpec.upto fnExactIsSingleSpec)

/-- 'laws.FnExactLeastErrors', WHERE WHAT IT READS IS OF BULK AT MOST 1048576: true; the input reads as it did. -/
def fnExactLeastErrorsUptoRow : OpenClaim := { program := "ytojmeghcollmeaa", sum := "cba4223bf4c07d536ab8b3ef6a3a65df147ecda3216265f41d9fb1c11d749acd", func := "loop.example/g00915/laws.FnExactLeastErrors", spec := "fnExactLeastErrors", apart := false, narrowed := true }
def FnExactLeastErrorsUptoSaid : Prop := fnExactLeastErrorsUptoRow.holds Try.pinned (OpenSpec.upto fnExactLeastErrorsSpec)

/-- 'laws.FnExactDecodeBits', WHERE WHAT IT READS IS OF BULK AT MOST 1048576: true; the input reads as it did. -/
def fnExactDecodeBitsUptoRow : OpenClaim := { program := "ytojmeghcollmeaa", sum := "cba4223bf4c07d536ab8b3ef6a3a65df147ecda3216265f41d9fb1c11d749acd", func := "loop.example/g00915/laws.FnExactDecodeBits", spec := "fnExactDecodeBits", apart := false, narrowed := true }
def FnExactDecodeBitsUptoSaid : Prop := fnExactDecodeBitsUptoRow.holds Try.pinned (OpenSpec.upto fnExactDecodeBitsSpec)

/-- 'laws.FnExactNearestCode', WHERE WHAT IT READS IS OF BULK AT MOST 1048576: true; the input reads as it did. -/
def fnExactNearestCodeUptoRow : OpenClaim := { program := "ytojmeghcollmeaa", sum := "cba4223bf4c07d536ab8b3ef6a3a65df147ecda3216265f41d9fb1c11d749acd", func := "loop.example/g00915/laws.FnExactNearestCode", spec := "fnExactNearestCode", apart := false, narrowed := true }
def FnExactNearestCodeUptoSaid : Prop := fnExactNearestCodeUptoRow.holds Try.pinned (OpenSpec.upto fnExactNearestCodeSpec)

/-- 'laws.FnExactDecodePunctured', WHERE WHAT IT READS IS OF BULK AT MOST 1048576: true; the input reads as it did. -/
def fnExactDecodePuncturedUptoRow : OpenClaim := { program := "ytojmeghcollmeaa", sum := "cba4223bf4c07d536ab8b3ef6a3a65df147ecda3216265f41d9fb1c11d749acd", func := "loop.example/g00915/laws.FnExactDecodePunctured", spec := "fnExactDecodePunctured", apart := false, narrowed := true }
def FnExactDecodePuncturedUptoSaid : Prop := fnExactDecodePuncturedUptoRow.holds Try.pinned (OpenSpec.upto fnExactDecodePuncturedSpec)

end Rows
end Go.Proofs.Ytojmeghcollmeaa
