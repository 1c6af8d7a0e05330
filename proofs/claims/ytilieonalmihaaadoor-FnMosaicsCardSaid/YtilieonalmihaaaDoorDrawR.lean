/- The draws of points, of lines and of sizes. Existential. Condition: a code of at most 4096 bytes. -/
import Derived.Test.YtilieonalmihaaaDoorDr
namespace Go.Proofs.YtilieonalmihaaaDoor
open Go.RowKit

def PointPost (w : World) (L g : Nat) (e : Ending) (w' : World) : Prop := ∃ x y : Int, e = .returned (.agg #[.int .i64 x, .int .i64 y]) ∧ Dr w w' L g
end Go.Proofs.YtilieonalmihaaaDoor
