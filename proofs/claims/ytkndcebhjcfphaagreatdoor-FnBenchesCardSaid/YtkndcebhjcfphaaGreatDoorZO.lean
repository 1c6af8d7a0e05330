import Derived.Test.YtkndcebhjcfphaaGreatDoorZ0
import Derived.Shelf.Small.Wraps
import Derived.Shelf.LaysC
namespace Go.Proofs.YtkndcebhjcfphaaGreatDoor
open Go.RowKit Go.Proofs.Tryz
set_option maxRecDepth 100000
set_option maxHeartbeats 4000000
set_option linter.all false
section
open Go.Shelf
def TS:Go.Shelf.Ren:=⟨fun|101=>119|208=>159|206=>177|n=>n,fun|9=>9|4=>4|3=>3|n=>n,fun|n=>n⟩
theorem cm:Go.Proofs.Lays.n101 prog TS:= {
 mixed:=We51ceQ
 f101:=func119.trans (AN some We51ceQ)
 f206:=func177.trans (AN some We51ceQ)
 f208:=func159.trans (AN some We51ceQ)
 t3:=underlying3
 a3:=Tryz.isAgg3
 z3:=Tryz.sizeOf3
 v3:=Tryz.zeroValue3
 t4:=underlying4
 a4:=Tryz.isAgg4
 z4:=Tryz.sizeOf4
 v4:=Tryz.zeroValue4
 t9:=underlying9
 a9:=Tryz.isAgg9
 z9:=Tryz.sizeOf9
 v9:=Tryz.zeroValue9}
open Go.RowKit Go.Lib in
theorem JM (s p:ByteArray) (w:World):
  Calls prog 119 #[.string s,.string p] w λe a=>e=.returned (.string ⟨(Lib.trimPrefix s.data.toList p.data.toList).toArray⟩)∧a=w:=Any.strings_TrimPrefix cm s p w
end
section
open Go.Shelf
def TW:Go.Shelf.Ren:=⟨fun|103=>101|210=>135|206=>177|n=>n,fun|9=>9|4=>4|24=>118|3=>3|n=>n,fun|n=>n⟩
theorem cu:Go.Proofs.Lays.n103 prog TW:= {
 mixed:=We51ceQ
 f103:=func101.trans (AN some We51ceQ)
 f206:=func177.trans (AN some We51ceQ)
 f210:=func135.trans (AN some We51ceQ)
 t3:=underlying3
 a3:=Tryz.isAgg3
 z3:=Tryz.sizeOf3
 v3:=Tryz.zeroValue3
 t4:=underlying4
 a4:=Tryz.isAgg4
 z4:=Tryz.sizeOf4
 v4:=Tryz.zeroValue4
 t9:=underlying9
 a9:=Tryz.isAgg9
 z9:=Tryz.sizeOf9
 v9:=Tryz.zeroValue9
 t24:=underlying118
 a24:=Tryz.isAgg118
 z24:=Tryz.sizeOf118
 v24:=Tryz.zeroValue118}
open Go.RowKit in
theorem Gn (s p:ByteArray) (w:World):
  Calls prog 101 #[.string s,.string p] w λe a=>e=.returned (.tuple #[.string ⟨(Lib.trimPrefix s.data.toList p.data.toList).toArray⟩,.bool (Lib.hasPrefix s.data.toList p.data.toList)])∧a=w:=Any.strings_CutPrefix cu s p w
def TU:Go.Shelf.Ren:=⟨fun|102=>64|209=>105|207=>152|n=>n,fun|9=>9|4=>4|3=>3|n=>n,fun|n=>n⟩
theorem co:Go.Proofs.Lays.n102 prog TU:= {
 mixed:=We51ceQ
 f102:=func64.trans (AN some We51ceQ)
 f207:=func152.trans (AN some We51ceQ)
 f209:=func105.trans (AN some We51ceQ)
 t3:=underlying3
 a3:=Tryz.isAgg3
 z3:=Tryz.sizeOf3
 v3:=Tryz.zeroValue3
 t4:=underlying4
 a4:=Tryz.isAgg4
 z4:=Tryz.sizeOf4
 v4:=Tryz.zeroValue4
 t9:=underlying9
 a9:=Tryz.isAgg9
 z9:=Tryz.sizeOf9
 v9:=Tryz.zeroValue9}
open Go.RowKit Go.Lib in
theorem JN (s p:ByteArray) (w:World) (hs:s.size<=9223372036854775807):
  Calls prog 64 #[.string s,.string p] w λe a=>e=.returned (.string ⟨(Lib.trimSuffix s.data.toList p.data.toList).toArray⟩)∧a=w:=Any.strings_TrimSuffix co s p w hs
end
