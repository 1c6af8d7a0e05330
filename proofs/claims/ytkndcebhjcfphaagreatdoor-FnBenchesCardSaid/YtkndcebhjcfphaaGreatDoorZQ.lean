import Derived.Test.YtkndcebhjcfphaaGreatDoorZ0
import Derived.Shelf.Small.Strs
namespace Go.Proofs.YtkndcebhjcfphaaGreatDoor
open Go.RowKit Go.Proofs.Tryz
set_option maxRecDepth 100000
set_option maxHeartbeats 4000000
set_option linter.all false
section
open Go.Shelf
def TY:Go.Shelf.Ren:=⟨fun|137=>99|217=>133|266=>175|n=>n,fun|9=>9|5=>5|3=>3|n=>n,fun|n=>n⟩
theorem cw:Go.Proofs.Lays.n137 prog TY:= {
 mixed:=We51ceQ
 f137:=func99.trans (AN some We51ceQ)
 f217:=func133.trans (AN some We51ceQ)
 f266:=func175.trans (AN some We51ceQ)
 t3:=underlying3
 a3:=Tryz.isAgg3
 z3:=Tryz.sizeOf3
 v3:=Tryz.zeroValue3
 t5:=underlying5
 a5:=Tryz.isAgg5
 z5:=Tryz.sizeOf5
 v5:=Tryz.zeroValue5
 t9:=underlying9
 a9:=Tryz.isAgg9
 z9:=Tryz.sizeOf9
 v9:=Tryz.zeroValue9}
open Go.RowKit in
theorem Gp (s:ByteArray) (c:Int) (w:World):
  Calls prog 99 #[.string s,.int .u8 c] w λe a=>e=.returned (ZI (Lib.indexByte s.data.toList c.toNat.toUInt8))∧a=w:=Any.strings_IndexByte cw s c w
end
