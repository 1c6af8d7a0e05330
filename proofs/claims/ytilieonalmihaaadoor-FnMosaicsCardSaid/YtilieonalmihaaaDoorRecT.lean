/- The statements' own helpers on slices of records: a copy, marks laid. Condition: at most 1048576 records. -/
import Derived.Test.YtilieonalmihaaaDoorRecordS
import Derived.Deep.DeepCutAuto
namespace Go.Proofs.YtilieonalmihaaaDoor
open Go.RowKit

theorem fld_add (a : Addr) (i j : Nat) (h : j ≠ 0) : (⟨(a.add i).block, (a.add i).off + j, none⟩ : Addr) = a.add (i + j) := by rw [← field_add _ j h, add_of_add]
end Go.Proofs.YtilieonalmihaaaDoor
