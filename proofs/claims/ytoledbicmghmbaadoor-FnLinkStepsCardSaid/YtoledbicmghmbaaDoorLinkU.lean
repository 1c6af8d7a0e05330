/- Links: impl.FinishLink, walked. Condition: lists of at most 1048576 numbers. -/
import Derived.Test.YtoledbicmghmbaaDoorLinkT
namespace Go.Proofs.YtoledbicmghmbaaDoor
open Go.RowKit

end Go.Proofs.YtoledbicmghmbaaDoor
