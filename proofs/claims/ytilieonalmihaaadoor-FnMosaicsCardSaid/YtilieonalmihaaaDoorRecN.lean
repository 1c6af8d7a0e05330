/- The statements' own helpers on a record: a copy, a comparison. No condition. -/
import Derived.Test.YtilieonalmihaaaDoorRec
import Derived.RegionTactic
import Derived.Deep.RegionWith
namespace Go.Proofs.YtilieonalmihaaaDoor
open Go.RowKit

end Go.Proofs.YtilieonalmihaaaDoor
