/- Links: impl.RunLink, with its errors. Condition: lists of at most 1048576 numbers. -/
import Derived.Test.YtoledbicmghmbaaDoorLinkR
namespace Go.Proofs.YtoledbicmghmbaaDoor
open Go.RowKit

end Go.Proofs.YtoledbicmghmbaaDoor
