import Derived.Test.YtkndcebhjcfphaaGreatDoorCards
import Derived.Test.YtkndcebhjcfphaaGreatDoorTie
import Derived.ProofKit
import Derived.OpenShut
import Derived.ShutString
import Derived.ChangeOld
import Derived.LaidMore
import Derived.Stop.Joined
import Derived.Stop.LaidErr
import Derived.SevenTiedAt
import Derived.MakeChecks
import Derived.Lay
namespace Go.Proofs.YtkndcebhjcfphaaGreatDoor.fnBenches
set_option linter.all false
open Go.ChangeShapes Go.WideShapes Go.ChangeAt Go.RowKit Go.Proofs.Tryz
open Rows hiding none
open Go.ChangeMaps (open_string shut_string)
theorem own:ownKnob prog.godebug=none:=by kernel_rfl
theorem laidOut:laidOutB prog=true:=by kernel_rfl
theorem k0:(fnBenchesRow.wf (OpenSpec.ofChange fnBenchesSpec))=true:=by kernel_rfl
theorem k2:(mapsRowed prog)=true:=by kernel_rfl
theorem k3:(f5.params.all (prog.readableRec ·))=true:=by kernel_rfl
theorem k4:(namedTie prog fnBenchesRow.named fnBenchesSpec.vars)=true:=by kernel_rfl
theorem k5:(fnBenchesRow.stops== [])=true:=by kernel_rfl
theorem k6:(prog.stops== [])=true:=by kernel_rfl
theorem k7:(fnBenchesRow.knobs== [])=true:=by kernel_rfl
theorem k8:(prog.stopKnobs== [])=true:=by kernel_rfl
theorem k9:(fnBenchesRow.inPlace==prog.inPlace 5)=true:=by kernel_rfl
theorem k10:(fnBenchesRow.unfollowed==prog.unfollowed 5)=true:=by kernel_rfl
theorem k11:(fnBenchesRow.recurses==prog.recurses 5)=true:=by kernel_rfl
theorem k12:(fnBenchesRow.named==prog.varsNamed 5)=true:=by kernel_rfl
theorem k13:(fnBenchesRow.maps==(f5.params.toList++fnBenchesSpec.plain.varTypes prog).any (prog.mapsRec ·))=true:=by kernel_rfl
theorem k14:(fnBenchesRow.ifaces==(f5.params.toList++fnBenchesSpec.plain.varTypes prog).any (prog.ifacesRec ·))=true:=by kernel_rfl
theorem k15:(fnBenchesRow.mapsOut==prog.mapsAmong f5.resultTypes.toList)=true:=by kernel_rfl
theorem k16:(fnBenchesRow.loops==(f5.params.toList++fnBenchesSpec.plain.varTypes prog).any (prog.loopsFrom ·))=true:=by kernel_rfl
theorem k17:(fnBenchesRow.wideKeys==(f5.params.toList++fnBenchesSpec.plain.varTypes prog++f5.resultTypes.toList).any (prog.wideKeysFrom ·))=true:=by kernel_rfl
theorem k18:(fnBenchesSpec.vars.all (prog.varReadable ·))=true:=by kernel_rfl
theorem k19:(f5.resultTypes.all (λt=>prog.readableRec t && decide (t<prog.types.size)))=true:=by kernel_rfl
theorem k20:(fnBenchesRow.ifacesOut==f5.resultTypes.toList.any (prog.ifacesRec ·))=true:=by kernel_rfl
theorem k21:(fnBenchesRow.loopsOut==f5.resultTypes.toList.any (prog.loopsFrom ·))=true:=by kernel_rfl
theorem k22:(fnBenchesRow.plainKeys==prog.plainKeys)=true:=by kernel_rfl
theorem k23:(fnBenchesRow.shortTexts.isNone)=true:=by kernel_rfl
theorem k24:(prog.stopsHeard)=true:=by kernel_rfl
theorem k25:(prog.mayEnter)=true:=by kernel_rfl
theorem k26:(fnBenchesRow.lifted==prog.liftsFinal)=true:=by kernel_rfl
theorem k27:(prog.make==some fnBenchesRow.make)=true:=by kernel_rfl
theorem k29:(fnBenchesRow.pinned==fnBenchesRow.pinnedBy)=true:=by kernel_rfl
theorem k30:(fnBenchesRow.veiled==(f5.params.toList++fnBenchesSpec.plain.varTypes prog++f5.resultTypes.toList).any (prog.veiledRec ·))=true:=by kernel_rfl
theorem k31:(fnBenchesRow.veiledFits prog f5.params.toList (f5.params.toList++fnBenchesSpec.plain.varTypes prog++f5.resultTypes.toList))=true:=by kernel_rfl
theorem both {a b:Bool} (ha:a=true) (hb:b=true):(a && b)=true:=by rw[ha,hb];rfl
theorem closed:joinedFacts prog 5 f5 fnBenchesSpec fnBenchesRow=true:=by
 unfold joinedFacts
 exact(both (both (both (both (both (both (both (both (both (both (both (both (both (both (both (both (both (both (both (both (both (both (both (both (both (both (both (both (both (both (both k0 laidOut) k2) k3) k4) k5) k6) k7) k8) k9) k10) k11) k12) k13) k14) k15) k16) k17) k18) k19) k20) k21) k22) k23) k24) k25) k26) k27) (by kernel_rfl)) k29) k30) k31)
theorem inst:f5.isInstance prog fnBenchesRow.origin fnBenchesRow.targs:=of_decide_eq_true (by kernel_rfl)
theorem found:prog.funcNamed "loop.example/g00915/laws.FnBenches" =some 5:=by kernel_rfl
theorem byText:fnBenchesRow.wfByText (OpenSpec.ofChange fnBenchesSpec)=true:=by kernel_rfl
theorem mains:prog.mainIs=some ((true,"6cc2101c5a70649352208c7b185e6d491eb7533115767da363c8f08ea7627c3a").1,(true,"6cc2101c5a70649352208c7b185e6d491eb7533115767da363c8f08ea7627c3a").2.toList):=by kernel_rfl
theorem looked:true=prog.looks []:=by kernel_rfl
theorem goes:false=fnBenchesRow.goesBy prog:=by kernel_rfl
theorem standIns:([40].all λu=> !prog.wantsStandIn u)=true:=by kernel_rfl
end Go.Proofs.YtkndcebhjcfphaaGreatDoor.fnBenches
