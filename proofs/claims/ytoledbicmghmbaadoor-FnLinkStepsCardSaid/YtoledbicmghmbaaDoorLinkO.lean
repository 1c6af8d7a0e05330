/- Links: the contracts in the words of the laws' generator. -/
import Derived.Test.YtoledbicmghmbaaDoorLinkC
import Derived.Test.YtoledbicmghmbaaDoorTI
namespace Go.Proofs.YtoledbicmghmbaaDoor
open Go.RowKit

theorem ok_max {h : LinkH} (ok : LinkOk h) : h.items.n ≤ 9223372036854775807 ∧ h.packets.n ≤ 9223372036854775807 ∧ h.acks.n ≤ 9223372036854775807 ∧ h.got.n ≤ 9223372036854775807 := by unfold LinkOk at ok; omega
theorem specIsLink'_any (h : LinkH) (l : LinkC) (w : World) (ok : LinkOk h) (hr : RdAll w (LinkS h l)) :
    Calls Tryd.prog 36 #[LinkV h l] w fun e w' => e = .returned (.bool (linkOk l)) ∧ Below w.heap.size w w' := specIsLink_any h l w (ok_max ok) hr
theorem implIsLink'_any (h : LinkH) (l : LinkC) (w : World) (ok : LinkOk h) (hr : RdAll w (LinkS h l)) :
    Calls Tryd.prog 35 #[LinkV h l] w fun e w' => e = .returned (.bool (linkOk l)) ∧ Below w.heap.size w w' := implIsLink_any h l w (ok_max ok) hr
end Go.Proofs.YtoledbicmghmbaaDoor
