/- The statements' own helpers on a record: a copy, a comparison. No condition. -/
import Derived.Test.YthmcnoloeeabbaaRec
import Derived.RegionTactic
import Derived.Deep.RegionWith
namespace Go.Proofs.Ythmcnoloeeabbaa
open Go.RowKit

end Go.Proofs.Ythmcnoloeeabbaa
