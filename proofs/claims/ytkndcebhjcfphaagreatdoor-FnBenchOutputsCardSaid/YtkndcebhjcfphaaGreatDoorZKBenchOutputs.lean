import Derived.Test.YtkndcebhjcfphaaGreatDoorCards
import Derived.Test.YtkndcebhjcfphaaGreatDoorTie
import Derived.ProofKit
import Derived.OpenShut
import Derived.ShutString
import Derived.ChangeOld
import Derived.LaidMore
import Derived.Stop.Joined
import Derived.Stop.LaidErr
import Derived.SevenTiedAt
import Derived.MakeChecks
import Derived.Lay
namespace Go.Proofs.YtkndcebhjcfphaaGreatDoor.fnBenchOutputs
open Go.ChangeShapes Go.WideShapes Go.ChangeAt Go.RowKit
open Go.ChangeMaps (open_string shut_string)
set_option linter.unusedVariables false
theorem own : ownKnob Tryz.prog.godebug = none := by kernel_rfl
theorem laidOut : laidOutB Tryz.prog = true := by kernel_rfl
theorem k0 : (Rows.fnBenchOutputsRow.wf (OpenSpec.ofChange Rows.fnBenchOutputsSpec)) = true := by kernel_rfl
theorem k2 : (mapsRowed Tryz.prog) = true := by kernel_rfl
theorem k3 : (Tryz.f6.params.all (Tryz.prog.readableRec ·)) = true := by kernel_rfl
theorem k4 : (namedTie Tryz.prog Rows.fnBenchOutputsRow.named Rows.fnBenchOutputsSpec.vars) = true := by kernel_rfl
theorem k5 : (Rows.fnBenchOutputsRow.stops == []) = true := by kernel_rfl
theorem k6 : (Tryz.prog.stops == []) = true := by kernel_rfl
theorem k7 : (Rows.fnBenchOutputsRow.knobs == []) = true := by kernel_rfl
theorem k8 : (Tryz.prog.stopKnobs == []) = true := by kernel_rfl
theorem k9 : (Rows.fnBenchOutputsRow.inPlace == Tryz.prog.inPlace 6) = true := by kernel_rfl
theorem k10 : (Rows.fnBenchOutputsRow.unfollowed == Tryz.prog.unfollowed 6) = true := by kernel_rfl
theorem k11 : (Rows.fnBenchOutputsRow.recurses == Tryz.prog.recurses 6) = true := by kernel_rfl
theorem k12 : (Rows.fnBenchOutputsRow.named == Tryz.prog.varsNamed 6) = true := by kernel_rfl
theorem k13 : (Rows.fnBenchOutputsRow.maps == (Tryz.f6.params.toList ++ Rows.fnBenchOutputsSpec.plain.varTypes Tryz.prog).any (Tryz.prog.mapsRec ·)) = true := by kernel_rfl
theorem k14 : (Rows.fnBenchOutputsRow.ifaces == (Tryz.f6.params.toList ++ Rows.fnBenchOutputsSpec.plain.varTypes Tryz.prog).any (Tryz.prog.ifacesRec ·)) = true := by kernel_rfl
theorem k15 : (Rows.fnBenchOutputsRow.mapsOut == Tryz.prog.mapsAmong Tryz.f6.resultTypes.toList) = true := by kernel_rfl
theorem k16 : (Rows.fnBenchOutputsRow.loops == (Tryz.f6.params.toList ++ Rows.fnBenchOutputsSpec.plain.varTypes Tryz.prog).any (Tryz.prog.loopsFrom ·)) = true := by kernel_rfl
theorem k17 : (Rows.fnBenchOutputsRow.wideKeys == (Tryz.f6.params.toList ++ Rows.fnBenchOutputsSpec.plain.varTypes Tryz.prog ++ Tryz.f6.resultTypes.toList).any (Tryz.prog.wideKeysFrom ·)) = true := by kernel_rfl
theorem k18 : (Rows.fnBenchOutputsSpec.vars.all (Tryz.prog.varReadable ·)) = true := by kernel_rfl
theorem k19 : (Tryz.f6.resultTypes.all (fun t => Tryz.prog.readableRec t && decide (t < Tryz.prog.types.size))) = true := by kernel_rfl
theorem k20 : (Rows.fnBenchOutputsRow.ifacesOut == Tryz.f6.resultTypes.toList.any (Tryz.prog.ifacesRec ·)) = true := by kernel_rfl
theorem k21 : (Rows.fnBenchOutputsRow.loopsOut == Tryz.f6.resultTypes.toList.any (Tryz.prog.loopsFrom ·)) = true := by kernel_rfl
theorem k22 : (Rows.fnBenchOutputsRow.plainKeys == Tryz.prog.plainKeys) = true := by kernel_rfl
theorem k23 : (Rows.fnBenchOutputsRow.shortTexts.isNone) = true := by kernel_rfl
theorem k24 : (Tryz.prog.stopsHeard) = true := by kernel_rfl
theorem k25 : (Tryz.prog.mayEnter) = true := by kernel_rfl
theorem k26 : (Rows.fnBenchOutputsRow.lifted == Tryz.prog.liftsFinal) = true := by kernel_rfl
theorem k27 : (Tryz.prog.make == some Rows.fnBenchOutputsRow.make) = true := by kernel_rfl
theorem k29 : (Rows.fnBenchOutputsRow.pinned == Rows.fnBenchOutputsRow.pinnedBy) = true := by kernel_rfl
theorem k30 : (Rows.fnBenchOutputsRow.veiled == (Tryz.f6.params.toList ++ Rows.fnBenchOutputsSpec.plain.varTypes Tryz.prog ++ Tryz.f6.resultTypes.toList).any (Tryz.prog.veiledRec ·)) = true := by kernel_rfl
theorem k31 : (Rows.fnBenchOutputsRow.veiledFits Tryz.prog Tryz.f6.params.toList (Tryz.f6.params.toList ++ Rows.fnBenchOutputsSpec.plain.varTypes Tryz.prog ++ Tryz.f6.resultTypes.toList)) = true := by kernel_rfl
theorem both {a b : Bool} (ha : a = true) (hb : b = true) : (a && b) = true := by rw [ha, hb]; rfl
theorem closed : joinedFacts Tryz.prog 6 Tryz.f6 Rows.fnBenchOutputsSpec Rows.fnBenchOutputsRow = true := by
  unfold joinedFacts
  exact (both (both (both (both (both (both (both (both (both (both (both (both (both (both (both (both (both (both (both (both (both (both (both (both (both (both (both (both (both (both (both k0 laidOut) k2) k3) k4) k5) k6) k7) k8) k9) k10) k11) k12) k13) k14) k15) k16) k17) k18) k19) k20) k21) k22) k23) k24) k25) k26) k27) (by kernel_rfl)) k29) k30) k31)
theorem inst : Tryz.f6.isInstance Tryz.prog Rows.fnBenchOutputsRow.origin Rows.fnBenchOutputsRow.targs := of_decide_eq_true (by kernel_rfl)
theorem found : Tryz.prog.funcNamed "loop.example/g00915/laws.FnBenchOutputs" = some 6 := by kernel_rfl
theorem byText : Rows.fnBenchOutputsRow.wfByText (OpenSpec.ofChange Rows.fnBenchOutputsSpec) = true := by kernel_rfl
theorem mains : Tryz.prog.mainIs = some ((true, "6cc2101c5a70649352208c7b185e6d491eb7533115767da363c8f08ea7627c3a").1, (true, "6cc2101c5a70649352208c7b185e6d491eb7533115767da363c8f08ea7627c3a").2.toList) := by kernel_rfl
theorem looked : true = Tryz.prog.looks [] := by kernel_rfl
theorem goes : false = Rows.fnBenchOutputsRow.goesBy Tryz.prog := by kernel_rfl
theorem standIns : ([40].all fun u => !Tryz.prog.wantsStandIn u) = true := by kernel_rfl
end Go.Proofs.YtkndcebhjcfphaaGreatDoor.fnBenchOutputs
