/- A Link of one's own. Plain lemmas, no condition. -/
import Derived.Test.YtlgmdekhlcbhoaaTLink
import Derived.Test.YtlgmdekhlcbhoaaAppK
namespace Go.Proofs.Ytlgmdekhlcbhoaa
open Go.RowKit

def LinkB (h : LinkH) : List (Option Nat) := [h.items.row, h.packets.row, h.acks.row, h.got.row]
def LinkCells (h : LinkH) (l : LinkC) : Array Value := #[.slice h.items.A h.items.n h.items.c, .int .i64 l.base, .int .i64 l.next, .slice h.packets.A h.packets.n h.packets.c, .slice h.acks.A h.acks.n h.acks.c, .slice h.got.A h.got.n h.got.c]
structure LinkOwn (w : World) (B : Nat) (h : LinkH) (l : LinkC) : Prop where
  items : Own w B 1 h.items (ints l.items)
  packets : Own w B 2 h.packets (ints l.packets)
  acks : Own w B 1 h.acks (ints l.acks)
  got : Own w B 1 h.got (ints l.got)
  sep : Sep (LinkB h)
section
variable {w w' : World} {B C : Nat} {h : LinkH} {l : LinkC}
theorem LinkOwn.below (o : LinkOwn w B h l) (b : Below w.heap.size w w') : LinkOwn w' B h l := ⟨o.items.below b, o.packets.below b, o.acks.below b, o.got.below b, o.sep⟩
theorem LinkOwn.above {D : Nat} (o : LinkOwn w B h l) (b : Above D w w') (hD : D ≤ B) : LinkOwn w' B h l := ⟨o.items.above b hD, o.packets.above b hD, o.acks.above b hD, o.got.above b hD, o.sep⟩
theorem LinkOwn.mono (o : LinkOwn w B h l) (hC : C ≤ B) : LinkOwn w C h l := ⟨o.items.mono hC, o.packets.mono hC, o.acks.mono hC, o.got.mono hC, o.sep⟩
theorem LinkOwn.rd (o : LinkOwn w B h l) : RdAll w (LinkS h l) := RdAll.cons (s := ⟨h.items.A, h.items.n, ints l.items⟩) o.items.rd1 (RdAll.cons (s := ⟨h.packets.A, h.packets.n * 2, ints l.packets⟩) o.packets.rd (RdAll.cons (s := ⟨h.acks.A, h.acks.n, ints l.acks⟩) o.acks.rd1 (RdAll.cons (s := ⟨h.got.A, h.got.n, ints l.got⟩) o.got.rd1 (RdAll.nil _))))
theorem LinkOwn.wr (o : LinkOwn w B h l) : WrAll w B (LinkS h l) := WrAll.cons (s := ⟨h.items.A, h.items.n, ints l.items⟩) o.items.wr1 (WrAll.cons (s := ⟨h.packets.A, h.packets.n * 2, ints l.packets⟩) o.packets.wr (WrAll.cons (s := ⟨h.acks.A, h.acks.n, ints l.acks⟩) o.acks.wr1 (WrAll.cons (s := ⟨h.got.A, h.got.n, ints l.got⟩) o.got.wr1 (WrAll.nil _ _))))
theorem LinkOwn.sp (o : LinkOwn w B h l) : Sep (LinkR h) := Sep.ofRow [(h.items, h.items.n), (h.packets, h.packets.n * 2), (h.acks, h.acks.n), (h.got, h.got.n)] (fun p hp => by
  simp only [List.mem_cons, List.not_mem_nil, or_false] at hp
  rcases hp with rfl | rfl | rfl | rfl
  · exact o.items.npos (by simp)
  · exact o.packets.npos (by simp)
  · exact o.acks.npos (by simp)
  · exact o.got.npos (by simp)
  ) o.sep
theorem LinkOwn.blt (o : LinkOwn w B h l) : ∀ s ∈ LinkB h, ∀ b, s = some b → B ≤ b ∧ b < w.heap.size := fun s hs b e => by
  unfold LinkB at hs
  simp only [List.mem_cons, List.not_mem_nil, or_false] at hs
  rcases hs with rfl | rfl | rfl | rfl
  · exact o.items.rowlt b e
  · exact o.packets.rowlt b e
  · exact o.acks.rowlt b e
  · exact o.got.rowlt b e
end
end Go.Proofs.Ytlgmdekhlcbhoaa
