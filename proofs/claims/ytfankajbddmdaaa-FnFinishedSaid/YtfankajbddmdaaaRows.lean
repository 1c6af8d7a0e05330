/-
  No cell of these rows narrows 'for every input' (looked for: loops, veiled, ifaces, maps, wideKeys, modest, calm, conditions, laid).
  DERIVED. THE GIVEN ROWS OF THIS SEAT. 9 by the template 'for every input the law returns true; each argument reads behind the call as it read before'; 0 by the template 'total and deterministic' (their statements: YtfankajbddmdaaaTotals.lean).
  GIVEN WITH THE SEED: the statements are not yours to turn. If you find one false, say at which input.
  Laid BY PROGRAM, IN A SANDBOX (cutbox-rows.mjs): the forced cells as the released guide's own fill.sh prints them over the translation fe1f52c6632120a4… (all of the seat's roots in one cut). By AI agents, Wed Nov 11 2026. No macro, syntax, notation, axiom, sorry.
-/
import Derived.Test.YtfankajbddmdaaaChecked
import GoSem.Claim
import GoSem.ClaimJoined
import GoSem.ClaimMapViews
import Derived.JoinedTies
import Derived.KernelRfl
namespace Go.Proofs.Ytfankajbddmdaaa
/- THE CELL 'sum', in the pinned program and in every row, IS THE sha256 OF THE DUMP (.gsa) THAT YtfankajbddmdaaaProg.lean LOADS. Nothing in Lean hashes anything: it is a label: what it is worth is what the hold of that sum in a sandbox is worth. -/
noncomputable def Try.pinned : Pinned := { name := "ytfankajbddmdaaa", sum := "fe1f52c6632120a4d021e748310555c5c06a711d41c1813155d0edad7c3991b2", checked := Try.checked }
namespace Rows
def none {H : Type} : Left H := { results := [], args := [] }

/-- 'laws.FnExactNewLink': WHATEVER THE INPUT: true; the input reads as it did. -/
def fnExactNewLinkSpec : ChangeSpec := { name := "fnExactNewLink", fn := fun _ => fun
  | [d] => { results := [.lit (.bool true)], args := [d] }
  | _ => none }
def fnExactNewLinkRow : OpenClaim := { program := "ytfankajbddmdaaa", sum := "fe1f52c6632120a4d021e748310555c5c06a711d41c1813155d0edad7c3991b2", func := "loop.example/g00915/laws.FnExactNewLink", spec := "fnExactNewLink", apart := false }
def FnExactNewLinkSaid : Prop := fnExactNewLinkRow.holds Try.pinned (OpenSpec.ofChange fnExactNewLinkSpec)

/-- ITS FALSE NEIGHBOUR: 'it returns false'. Refute it at one input. -/
def fnExactNewLinkWrong : ChangeSpec := { name := "fnExactNewLink", fn := fun _ => fun
  | [d] => { results := [.lit (.bool false)], args := [d] }
  | _ => none }
def FnExactNewLinkWrongFalsely : Prop := fnExactNewLinkRow.holds Try.pinned (OpenSpec.ofChange fnExactNewLinkWrong)

/-- 'laws.FnExactIsLink': WHATEVER THE INPUT: true; the input reads as it did. -/
def fnExactIsLinkSpec : ChangeSpec := { name := "fnExactIsLink", fn := fun _ => fun
  | [d] => { results := [.lit (.bool true)], args := [d] }
  | _ => none }
def fnExactIsLinkRow : OpenClaim := { program := "ytfankajbddmdaaa", sum := "fe1f52c6632120a4d021e748310555c5c06a711d41c1813155d0edad7c3991b2", func := "loop.example/g00915/laws.FnExactIsLink", spec := "fnExactIsLink", unfollowed := true, recurses := true, apart := false }
def FnExactIsLinkSaid : Prop := fnExactIsLinkRow.holds Try.pinned (OpenSpec.ofChange fnExactIsLinkSpec)

/-- ITS FALSE NEIGHBOUR: 'it returns false'. Refute it at one input. -/
def fnExactIsLinkWrong : ChangeSpec := { name := "fnExactIsLink", fn := fun _ => fun
  | [d] => { results := [.lit (.bool false)], args := [d] }
  | _ => none }
def FnExactIsLinkWrongFalsely : Prop := fnExactIsLinkRow.holds Try.pinned (OpenSpec.ofChange fnExactIsLinkWrong)

/-- 'laws.FnExactOpenItems': WHATEVER THE INPUT: true; the input reads as it did. -/
def fnExactOpenItemsSpec : ChangeSpec := { name := "fnExactOpenItems", fn := fun _ => fun
  | [d] => { results := [.lit (.bool true)], args := [d] }
  | _ => none }
def fnExactOpenItemsRow : OpenClaim := { program := "ytfankajbddmdaaa", sum := "fe1f52c6632120a4d021e748310555c5c06a711d41c1813155d0edad7c3991b2", func := "loop.example/g00915/laws.FnExactOpenItems", spec := "fnExactOpenItems", unfollowed := true, recurses := true, apart := false }
def FnExactOpenItemsSaid : Prop := fnExactOpenItemsRow.holds Try.pinned (OpenSpec.ofChange fnExactOpenItemsSpec)

/-- ITS FALSE NEIGHBOUR: 'it returns false'. Refute it at one input. -/
def fnExactOpenItemsWrong : ChangeSpec := { name := "fnExactOpenItems", fn := fun _ => fun
  | [d] => { results := [.lit (.bool false)], args := [d] }
  | _ => none }
def FnExactOpenItemsWrongFalsely : Prop := fnExactOpenItemsRow.holds Try.pinned (OpenSpec.ofChange fnExactOpenItemsWrong)

/-- 'laws.FnExactCanStep': WHATEVER THE INPUT: true; the input reads as it did. -/
def fnExactCanStepSpec : ChangeSpec := { name := "fnExactCanStep", fn := fun _ => fun
  | [d1, d2] => { results := [.lit (.bool true)], args := [d1, d2] }
  | _ => none }
def fnExactCanStepRow : OpenClaim := { program := "ytfankajbddmdaaa", sum := "fe1f52c6632120a4d021e748310555c5c06a711d41c1813155d0edad7c3991b2", func := "loop.example/g00915/laws.FnExactCanStep", spec := "fnExactCanStep", unfollowed := true, recurses := true, apart := false }
def FnExactCanStepSaid : Prop := fnExactCanStepRow.holds Try.pinned (OpenSpec.ofChange fnExactCanStepSpec)

/-- ITS FALSE NEIGHBOUR: 'it returns false'. Refute it at one input. -/
def fnExactCanStepWrong : ChangeSpec := { name := "fnExactCanStep", fn := fun _ => fun
  | [d1, d2] => { results := [.lit (.bool false)], args := [d1, d2] }
  | _ => none }
def FnExactCanStepWrongFalsely : Prop := fnExactCanStepRow.holds Try.pinned (OpenSpec.ofChange fnExactCanStepWrong)

/-- 'laws.FnExactRunLink': WHATEVER THE INPUT: true; the input reads as it did. -/
def fnExactRunLinkSpec : ChangeSpec := { name := "fnExactRunLink", fn := fun _ => fun
  | [d1, d2] => { results := [.lit (.bool true)], args := [d1, d2] }
  | _ => none }
def fnExactRunLinkRow : OpenClaim := { program := "ytfankajbddmdaaa", sum := "fe1f52c6632120a4d021e748310555c5c06a711d41c1813155d0edad7c3991b2", func := "loop.example/g00915/laws.FnExactRunLink", spec := "fnExactRunLink", apart := false }
def FnExactRunLinkSaid : Prop := fnExactRunLinkRow.holds Try.pinned (OpenSpec.ofChange fnExactRunLinkSpec)

/-- ITS FALSE NEIGHBOUR: 'it returns false'. Refute it at one input. -/
def fnExactRunLinkWrong : ChangeSpec := { name := "fnExactRunLink", fn := fun _ => fun
  | [d1, d2] => { results := [.lit (.bool false)], args := [d1, d2] }
  | _ => none }
def FnExactRunLinkWrongFalsely : Prop := fnExactRunLinkRow.holds Try.pinned (OpenSpec.ofChange fnExactRunLinkWrong)

/-- 'laws.FnExactFinishLink': WHATEVER THE INPUT: true; the input reads as it did. -/
def fnExactFinishLinkSpec : ChangeSpec := { name := "fnExactFinishLink", fn := fun _ => fun
  | [d1, d2] => { results := [.lit (.bool true)], args := [d1, d2] }
  | _ => none }
def fnExactFinishLinkRow : OpenClaim := { program := "ytfankajbddmdaaa", sum := "fe1f52c6632120a4d021e748310555c5c06a711d41c1813155d0edad7c3991b2", func := "loop.example/g00915/laws.FnExactFinishLink", spec := "fnExactFinishLink", unfollowed := true, recurses := true, apart := false }
def FnExactFinishLinkSaid : Prop := fnExactFinishLinkRow.holds Try.pinned (OpenSpec.ofChange fnExactFinishLinkSpec)

/-- ITS FALSE NEIGHBOUR: 'it returns false'. Refute it at one input. -/
def fnExactFinishLinkWrong : ChangeSpec := { name := "fnExactFinishLink", fn := fun _ => fun
  | [d1, d2] => { results := [.lit (.bool false)], args := [d1, d2] }
  | _ => none }
def FnExactFinishLinkWrongFalsely : Prop := fnExactFinishLinkRow.holds Try.pinned (OpenSpec.ofChange fnExactFinishLinkWrong)

/-- 'laws.FnExactStepLink': WHATEVER THE INPUT: true; the input reads as it did. -/
def fnExactStepLinkSpec : ChangeSpec := { name := "fnExactStepLink", fn := fun _ => fun
  | [d1, d2] => { results := [.lit (.bool true)], args := [d1, d2] }
  | _ => none }
def fnExactStepLinkRow : OpenClaim := { program := "ytfankajbddmdaaa", sum := "fe1f52c6632120a4d021e748310555c5c06a711d41c1813155d0edad7c3991b2", func := "loop.example/g00915/laws.FnExactStepLink", spec := "fnExactStepLink", unfollowed := true, recurses := true, apart := false }
def FnExactStepLinkSaid : Prop := fnExactStepLinkRow.holds Try.pinned (OpenSpec.ofChange fnExactStepLinkSpec)

/-- ITS FALSE NEIGHBOUR: 'it returns false'. Refute it at one input. -/
def fnExactStepLinkWrong : ChangeSpec := { name := "fnExactStepLink", fn := fun _ => fun
  | [d1, d2] => { results := [.lit (.bool false)], args := [d1, d2] }
  | _ => none }
def FnExactStepLinkWrongFalsely : Prop := fnExactStepLinkRow.holds Try.pinned (OpenSpec.ofChange fnExactStepLinkWrong)

/-- 'laws.FnLinks': WHATEVER THE INPUT: true; the input reads as it did. -/
def fnLinksSpec : ChangeSpec := { name := "fnLinks", fn := fun _ => fun
  | [d] => { results := [.lit (.bool true)], args := [d] }
  | _ => none }
def fnLinksRow : OpenClaim := { program := "ytfankajbddmdaaa", sum := "fe1f52c6632120a4d021e748310555c5c06a711d41c1813155d0edad7c3991b2", func := "loop.example/g00915/laws.FnLinks", spec := "fnLinks", unfollowed := true, recurses := true, apart := false }
def FnLinksSaid : Prop := fnLinksRow.holds Try.pinned (OpenSpec.ofChange fnLinksSpec)

/-- ITS FALSE NEIGHBOUR: 'it returns false'. Refute it at one input. -/
def fnLinksWrong : ChangeSpec := { name := "fnLinks", fn := fun _ => fun
  | [d] => { results := [.lit (.bool false)], args := [d] }
  | _ => none }
def FnLinksWrongFalsely : Prop := fnLinksRow.holds Try.pinned (OpenSpec.ofChange fnLinksWrong)

/-- 'laws.FnFinished': WHATEVER THE INPUT: true; the input reads as it did. -/
def fnFinishedSpec : ChangeSpec := { name := "fnFinished", fn := fun _ => fun
  | [d] => { results := [.lit (.bool true)], args := [d] }
  | _ => none }
def fnFinishedRow : OpenClaim := { program := "ytfankajbddmdaaa", sum := "fe1f52c6632120a4d021e748310555c5c06a711d41c1813155d0edad7c3991b2", func := "loop.example/g00915/laws.FnFinished", spec := "fnFinished", unfollowed := true, recurses := true, apart := false }
def FnFinishedSaid : Prop := fnFinishedRow.holds Try.pinned (OpenSpec.ofChange fnFinishedSpec)

/-- ITS FALSE NEIGHBOUR: 'it returns false'. Refute it at one input. -/
def fnFinishedWrong : ChangeSpec := { name := "fnFinished", fn := fun _ => fun
  | [d] => { results := [.lit (.bool false)], args := [d] }
  | _ => none }
def FnFinishedWrongFalsely : Prop := fnFinishedRow.holds Try.pinned (OpenSpec.ofChange fnFinishedWrong)

/- THE SECOND FORM. 'bulk': how many values and letters a reading holds, each counted each time it is reached (what is shared counts as often as it is met; a slice's spare places count too). A statement '..UptoSaid' is the law's where the arguments, and the package variables that the reading takes, are together of bulk at most 1048576: NARROWER than '..Said'. Prove '..Said' where nothing that the law and all that it calls make is longer than what came in: it says more and counts as full. Else prove '..UptoSaid'. A law counts once. -/
mutual
def uptoBulk {H : Type} : DataW H → Nat
  | .lit (.string bytes) => bytes.length + 1
  | .lit _ => 1
  | .nil => 1
  | .ptr d => uptoBulk d + 1
  | .slice elems spare => uptoBulkAll elems + uptoBulkAll spare + 1
  | .agg parts => uptoBulkAll parts + 1
  | .iface _ d => uptoBulk d + 1
  | .map entries => uptoBulkEntries entries + 1
  | .held _ => 1
def uptoBulkAll {H : Type} : List (DataW H) → Nat
  | [] => 0
  | d :: r => uptoBulk d + uptoBulkAll r
def uptoBulkEntries {H : Type} : List (Lit × DataW H) → Nat
  | [] => 0
  | x :: r => uptoBulkEntry x + uptoBulkEntries r
def uptoBulkEntry {H : Type} : Lit × DataW H → Nat
  | (.string bytes, d) => bytes.length + uptoBulk d + 1
  | (_, d) => uptoBulk d + 1
 end
def uptoSmall : (H : Type) → List (DataW H) → Bool := fun _ ds => decide (uptoBulkAll ds ≤ 1048576)
def OpenSpec.upto (s : _root_.Go.ChangeSpec) : _root_.Go.OpenSpec := { _root_.Go.OpenSpec.ofChange s with cond := some uptoSmall }

/-- 'laws.FnExactNewLink', WHERE WHAT IT READS IS OF BULK AT MOST 1048576: true; the input reads as it did. -/
def fnExactNewLinkUptoRow : OpenClaim := { program := "ytfankajbddmdaaa", sum := "fe1f52c6632120a4d021e748310555c5c06a711d41c1813155d0edad7c3991b2", func := "loop.example/g00915/laws.FnExactNewLink", spec := "fnExactNewLink", apart := false, narrowed := true }
def FnExactNewLinkUptoSaid : Prop := fnExactNewLinkUptoRow.holds Try.pinned (OpenSpec.upto fnExactNewLinkSpec)

/-- 'laws.FnExactIsLink', WHERE WHAT IT READS IS OF BULK AT MOST 1048576: true; the input reads as it did. -/
def fnExactIsLinkUptoRow : OpenClaim := { program := "ytfankajbddmdaaa", sum := "fe1f52c6632120a4d021e748310555c5c06a711d41c1813155d0edad7c3991b2", func := "loop.example/g00915/laws.FnExactIsLink", spec := "fnExactIsLink", unfollowed := true, recurses := true, apart := false, narrowed := true }
def FnExactIsLinkUptoSaid : Prop := fnExactIsLinkUptoRow.holds Try.pinned (OpenSpec.upto fnExactIsLinkSpec)

/-- 'laws.FnExactOpenItems', WHERE WHAT IT READS IS OF BULK AT MOST 1048576: true; the input reads as it did. -/
def fnExactOpenItemsUptoRow : OpenClaim := { program := "ytfankajbddmdaaa", sum := "fe1f52c6632120a4d021e748310555c5c06a711d41c1813155d0edad7c3991b2", func := "loop.example/g00915/laws.FnExactOpenItems", spec := "fnExactOpenItems", unfollowed := true, recurses := true, apart := false, narrowed := true }
def FnExactOpenItemsUptoSaid : Prop := fnExactOpenItemsUptoRow.holds Try.pinned (OpenSpec.upto fnExactOpenItemsSpec)

/-- 'laws.FnExactCanStep', WHERE WHAT IT READS IS OF BULK AT MOST 1048576: true; the input reads as it did. -/
def fnExactCanStepUptoRow : OpenClaim := { program := "ytfankajbddmdaaa", sum := "fe1f52c6632120a4d021e748310555c5c06a711d41c1813155d0edad7c3991b2", func := "loop.example/g00915/laws.FnExactCanStep", spec := "fnExactCanStep", unfollowed := true, recurses := true, apart := false, narrowed := true }
def FnExactCanStepUptoSaid : Prop := fnExactCanStepUptoRow.holds Try.pinned (OpenSpec.upto fnExactCanStepSpec)

/-- 'laws.FnExactRunLink', WHERE WHAT IT READS IS OF BULK AT MOST 1048576: true; the input reads as it did. -/
def fnExactRunLinkUptoRow : OpenClaim := { program := "ytfankajbddmdaaa", sum := "fe1f52c6632120a4d021e748310555c5c06a711d41c1813155d0edad7c3991b2", func := "loop.example/g00915/laws.FnExactRunLink", spec := "fnExactRunLink", apart := false, narrowed := true }
def FnExactRunLinkUptoSaid : Prop := fnExactRunLinkUptoRow.holds Try.pinned (OpenSpec.upto fnExactRunLinkSpec)

/-- 'laws.FnExactFinishLink', WHERE WHAT IT READS IS OF BULK AT MOST 1048576: true; the input reads as it did. -/
def fnExactFinishLinkUptoRow : OpenClaim := { program := "ytfankajbddmdaaa", sum := "fe1f52c6632120a4d021e748310555c5c06a711d41c1813155d0edad7c3991b2", func := "loop.example/g00915/laws.FnExactFinishLink", spec := "fnExactFinishLink", unfollowed := true, recurses := true, apart := false, narrowed := true }
def FnExactFinishLinkUptoSaid : Prop := fnExactFinishLinkUptoRow.holds Try.pinned (OpenSpec.upto fnExactFinishLinkSpec)

/-- 'laws.FnExactStepLink', WHERE WHAT IT READS IS OF BULK AT MOST 1048576: true; the input reads as it did. -/
def fnExactStepLinkUptoRow : OpenClaim := { program := "ytfankajbddmdaaa", sum := "fe1f52c6632120a4d021e748310555c5c06a711d41c1813155d0edad7c3991b2", func := "loop.example/g00915/laws.FnExactStepLink", spec := "fnExactStepLink", unfollowed := true, recurses := true, apart := false, narrowed := true }
def FnExactStepLinkUptoSaid : Prop := fnExactStepLinkUptoRow.holds Try.pinned (OpenSpec.upto fnExactStepLinkSpec)

/-- 'laws.FnLinks', WHERE WHAT IT READS IS OF BULK AT MOST 1048576: true; the input reads as it did. -/
def fnLinksUptoRow : OpenClaim := { program := "ytfankajbddmdaaa", sum := "fe1f52c6632120a4d021e748310555c5c06a711d41c1813155d0edad7c3991b2", func := "loop.example/g00915/laws.FnLinks", spec := "fnLinks", unfollowed := true, recurses := true, apart := false, narrowed := true }
def FnLinksUptoSaid : Prop := fnLinksUptoRow.holds Try.pinned (OpenSpec.upto fnLinksSpec)

/-- 'laws.FnFinished', WHERE WHAT IT READS IS OF BULK AT MOST 1048576: true; the input reads as it did. -/
def fnFinishedUptoRow : OpenClaim := { program := "ytfankajbddmdaaa", sum := "fe1f52c6632120a4d021e748310555c5c06a711d41c1813155d0edad7c3991b2", func := "loop.example/g00915/laws.FnFinished", spec := "fnFinished", unfollowed := true, recurses := true, apart := false, narrowed := true }
def FnFinishedUptoSaid : Prop := fnFinishedUptoRow.holds Try.pinned (OpenSpec.upto fnFinishedSpec)

end Rows
end Go.Proofs.Ytfankajbddmdaaa
