/- The statements' own helpers on a record: a copy, a comparison. No condition. -/
import Derived.Test.YtoledbicmghmbaaGreatDoorRec
import Derived.RegionTactic
import Derived.Deep.RegionWith
namespace Go.Proofs.YtoledbicmghmbaaGreatDoor
open Go.RowKit

end Go.Proofs.YtoledbicmghmbaaGreatDoor
