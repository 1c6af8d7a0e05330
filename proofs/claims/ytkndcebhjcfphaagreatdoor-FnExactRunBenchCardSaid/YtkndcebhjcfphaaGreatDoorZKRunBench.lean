import Derived.Test.YtkndcebhjcfphaaGreatDoorCards
import Derived.Test.YtkndcebhjcfphaaGreatDoorTie
import Derived.ProofKit
import Derived.OpenShut
import Derived.ShutString
import Derived.ChangeOld
import Derived.LaidMore
import Derived.Stop.Joined
import Derived.Stop.LaidErr
import Derived.SevenTiedAt
import Derived.MakeChecks
import Derived.Lay
namespace Go.Proofs.YtkndcebhjcfphaaGreatDoor.fnExactRunBench
open Go.ChangeShapes Go.WideShapes Go.ChangeAt Go.RowKit
open Go.ChangeMaps (open_string shut_string)
set_option linter.unusedVariables false
theorem own : ownKnob Tryz.prog.godebug = none := by kernel_rfl
theorem laidOut : laidOutB Tryz.prog = true := by kernel_rfl
theorem k0 : (Rows.fnExactRunBenchRow.wf (OpenSpec.ofChange Rows.fnExactRunBenchSpec)) = true := by kernel_rfl
theorem k2 : (mapsRowed Tryz.prog) = true := by kernel_rfl
theorem k3 : (Tryz.f3.params.all (Tryz.prog.readableRec ·)) = true := by kernel_rfl
theorem k4 : (namedTie Tryz.prog Rows.fnExactRunBenchRow.named Rows.fnExactRunBenchSpec.vars) = true := by kernel_rfl
theorem k5 : (Rows.fnExactRunBenchRow.stops == []) = true := by kernel_rfl
theorem k6 : (Tryz.prog.stops == []) = true := by kernel_rfl
theorem k7 : (Rows.fnExactRunBenchRow.knobs == []) = true := by kernel_rfl
theorem k8 : (Tryz.prog.stopKnobs == []) = true := by kernel_rfl
theorem k9 : (Rows.fnExactRunBenchRow.inPlace == Tryz.prog.inPlace 3) = true := by kernel_rfl
theorem k10 : (Rows.fnExactRunBenchRow.unfollowed == Tryz.prog.unfollowed 3) = true := by kernel_rfl
theorem k11 : (Rows.fnExactRunBenchRow.recurses == Tryz.prog.recurses 3) = true := by kernel_rfl
theorem k12 : (Rows.fnExactRunBenchRow.named == Tryz.prog.varsNamed 3) = true := by kernel_rfl
theorem k13 : (Rows.fnExactRunBenchRow.maps == (Tryz.f3.params.toList ++ Rows.fnExactRunBenchSpec.plain.varTypes Tryz.prog).any (Tryz.prog.mapsRec ·)) = true := by kernel_rfl
theorem k14 : (Rows.fnExactRunBenchRow.ifaces == (Tryz.f3.params.toList ++ Rows.fnExactRunBenchSpec.plain.varTypes Tryz.prog).any (Tryz.prog.ifacesRec ·)) = true := by kernel_rfl
theorem k15 : (Rows.fnExactRunBenchRow.mapsOut == Tryz.prog.mapsAmong Tryz.f3.resultTypes.toList) = true := by kernel_rfl
theorem k16 : (Rows.fnExactRunBenchRow.loops == (Tryz.f3.params.toList ++ Rows.fnExactRunBenchSpec.plain.varTypes Tryz.prog).any (Tryz.prog.loopsFrom ·)) = true := by kernel_rfl
theorem k17 : (Rows.fnExactRunBenchRow.wideKeys == (Tryz.f3.params.toList ++ Rows.fnExactRunBenchSpec.plain.varTypes Tryz.prog ++ Tryz.f3.resultTypes.toList).any (Tryz.prog.wideKeysFrom ·)) = true := by kernel_rfl
theorem k18 : (Rows.fnExactRunBenchSpec.vars.all (Tryz.prog.varReadable ·)) = true := by kernel_rfl
theorem k19 : (Tryz.f3.resultTypes.all (fun t => Tryz.prog.readableRec t && decide (t < Tryz.prog.types.size))) = true := by kernel_rfl
theorem k20 : (Rows.fnExactRunBenchRow.ifacesOut == Tryz.f3.resultTypes.toList.any (Tryz.prog.ifacesRec ·)) = true := by kernel_rfl
theorem k21 : (Rows.fnExactRunBenchRow.loopsOut == Tryz.f3.resultTypes.toList.any (Tryz.prog.loopsFrom ·)) = true := by kernel_rfl
theorem k22 : (Rows.fnExactRunBenchRow.plainKeys == Tryz.prog.plainKeys) = true := by kernel_rfl
theorem k23 : (Rows.fnExactRunBenchRow.shortTexts.isNone) = true := by kernel_rfl
theorem k24 : (Tryz.prog.stopsHeard) = true := by kernel_rfl
theorem k25 : (Tryz.prog.mayEnter) = true := by kernel_rfl
theorem k26 : (Rows.fnExactRunBenchRow.lifted == Tryz.prog.liftsFinal) = true := by kernel_rfl
theorem k27 : (Tryz.prog.make == some Rows.fnExactRunBenchRow.make) = true := by kernel_rfl
theorem k29 : (Rows.fnExactRunBenchRow.pinned == Rows.fnExactRunBenchRow.pinnedBy) = true := by kernel_rfl
theorem k30 : (Rows.fnExactRunBenchRow.veiled == (Tryz.f3.params.toList ++ Rows.fnExactRunBenchSpec.plain.varTypes Tryz.prog ++ Tryz.f3.resultTypes.toList).any (Tryz.prog.veiledRec ·)) = true := by kernel_rfl
theorem k31 : (Rows.fnExactRunBenchRow.veiledFits Tryz.prog Tryz.f3.params.toList (Tryz.f3.params.toList ++ Rows.fnExactRunBenchSpec.plain.varTypes Tryz.prog ++ Tryz.f3.resultTypes.toList)) = true := by kernel_rfl
theorem both {a b : Bool} (ha : a = true) (hb : b = true) : (a && b) = true := by rw [ha, hb]; rfl
theorem closed : joinedFacts Tryz.prog 3 Tryz.f3 Rows.fnExactRunBenchSpec Rows.fnExactRunBenchRow = true := by
  unfold joinedFacts
  exact (both (both (both (both (both (both (both (both (both (both (both (both (both (both (both (both (both (both (both (both (both (both (both (both (both (both (both (both (both (both (both k0 laidOut) k2) k3) k4) k5) k6) k7) k8) k9) k10) k11) k12) k13) k14) k15) k16) k17) k18) k19) k20) k21) k22) k23) k24) k25) k26) k27) (by kernel_rfl)) k29) k30) k31)
theorem inst : Tryz.f3.isInstance Tryz.prog Rows.fnExactRunBenchRow.origin Rows.fnExactRunBenchRow.targs := of_decide_eq_true (by kernel_rfl)
theorem found : Tryz.prog.funcNamed "loop.example/g00915/laws.FnExactRunBench" = some 3 := by kernel_rfl
theorem byText : Rows.fnExactRunBenchRow.wfByText (OpenSpec.ofChange Rows.fnExactRunBenchSpec) = true := by kernel_rfl
theorem mains : Tryz.prog.mainIs = some ((true, "6cc2101c5a70649352208c7b185e6d491eb7533115767da363c8f08ea7627c3a").1, (true, "6cc2101c5a70649352208c7b185e6d491eb7533115767da363c8f08ea7627c3a").2.toList) := by kernel_rfl
theorem looked : true = Tryz.prog.looks [] := by kernel_rfl
theorem goes : false = Rows.fnExactRunBenchRow.goesBy Tryz.prog := by kernel_rfl
theorem standIns : ([9].all fun u => !Tryz.prog.wantsStandIn u) = true := by kernel_rfl
end Go.Proofs.YtkndcebhjcfphaaGreatDoor.fnExactRunBench
