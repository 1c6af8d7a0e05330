/- Records and soundings: the statements' copies of them, and what IsRecord tells. No condition. -/
import Derived.Test.YtilieonalmihaaaDoorKern
import Derived.Laws.StructEq
namespace Go.Proofs.YtilieonalmihaaaDoor
open Go.RowKit

def souV (x y d r : Int) : Array Value := #[.int .i64 x, .int .i64 y, .int .i64 d, .int .i64 r]
def recV (t k l x y d r : Int) : Array Value := #[.int .i64 t, .int .i64 k, .int .i64 l, .int .i64 x, .int .i64 y, .int .i64 d, .int .i64 r]
/-- What a sounding's test tells. -/
def souB (x y d r : Int) : Bool := inR x 0 10000 && inR y 0 10000 && inR d (-2000) 1000000 && inR r 0 5000
def zeroB (x y d r : Int) : Bool := x == 0 && (y == 0 && (d == 0 && r == 0))
def recB (t k l x y d r : Int) : Bool :=
  inR t 0 1000000 && (if k = 1 then inR l (-2000) 2000 && zeroB x y d r else if k = 2 then l == 0 && souB x y d r else if k = 3 then l == 0 && zeroB x y d r else false)

theorem rd_two (w : World) (x y : Int) (e : TypeId) (g : Nat) (hg : w.heap.size = g) : Rd (w.alloc (.cells #[.int .i64 x, .int .i64 y] e)) (some ⟨g, 0, none⟩) 2 (ints [x, y]) := by
  subst hg
  exact (Blk.new w e #[.int .i64 x, .int .i64 y]).rd rfl (fun i hi => by
    match i, hi with
    | 0, _ => rfl
    | 1, _ => rfl)

end Go.Proofs.YtilieonalmihaaaDoor
