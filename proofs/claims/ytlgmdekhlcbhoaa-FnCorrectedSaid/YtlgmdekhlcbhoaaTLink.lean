/- The statements' own helpers for Link: a copy, a comparison, marks laid and found, a size. No condition beyond lengths of at most 1048576 where memory is made. -/
import Derived.Test.YtlgmdekhlcbhoaaPacketS
namespace Go.Proofs.Ytlgmdekhlcbhoaa
open Go.RowKit

/-- The heads of its slices. -/
structure LinkH where
  items : Hd
  packets : Hd
  acks : Hd
  got : Hd
/-- What it holds. -/
structure LinkC where
  items : List Int
  base : Int
  next : Int
  packets : List Int
  acks : List Int
  got : List Int
def LinkV (h : LinkH) (l : LinkC) : Value := .agg #[.slice h.items.A h.items.n h.items.c, .int .i64 l.base, .int .i64 l.next, .slice h.packets.A h.packets.n h.packets.c, .slice h.acks.A h.acks.n h.acks.c, .slice h.got.A h.got.n h.got.c]
def LinkS (h : LinkH) (l : LinkC) : List Sl := [⟨h.items.A, h.items.n, ints l.items⟩, ⟨h.packets.A, (h.packets.n * 2), ints l.packets⟩, ⟨h.acks.A, h.acks.n, ints l.acks⟩, ⟨h.got.A, h.got.n, ints l.got⟩]
def LinkR (h : LinkH) : List (Option Nat) := [blkp h.items.A h.items.n, blkp h.packets.A (h.packets.n * 2), blkp h.acks.A h.acks.n, blkp h.got.A h.got.n]
def LinkM (h : LinkH) (q : Int) : List Sl := [⟨h.items.A, h.items.n, ints (marks (q) h.items.n)⟩, ⟨h.packets.A, (h.packets.n * 2), ints (marks (q + (h.items.n : Nat)) (h.packets.n * 2))⟩, ⟨h.acks.A, h.acks.n, ints (marks (q + (h.items.n : Nat) + ((h.packets.n * 2) : Nat)) h.acks.n)⟩, ⟨h.got.A, h.got.n, ints (marks (q + (h.items.n : Nat) + ((h.packets.n * 2) : Nat) + (h.acks.n : Nat)) h.got.n)⟩]
def LinkQ (h : LinkH) (q : Int) : Int := q + (h.items.n : Nat) + ((h.packets.n * 2) : Nat) + (h.acks.n : Nat) + (h.got.n : Nat)
def LinkOk (h : LinkH) : Prop := h.items.n ≤ 1048576 ∧ h.packets.n ≤ 1048576 ∧ h.acks.n ≤ 1048576 ∧ h.got.n ≤ 1048576
theorem LinkQ_bd {h : LinkH} (ok : LinkOk h) (q : Int) : q ≤ LinkQ h q ∧ LinkQ h q ≤ q + 5242880 := by unfold LinkQ; unfold LinkOk at ok; omega

end Go.Proofs.Ytlgmdekhlcbhoaa
