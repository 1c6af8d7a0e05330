/- The reference's draws of links: items and steps. Condition: a source whose code has at most 4096 bytes. -/
import Derived.Test.YtlgmdekhlcbhoaaDraw
import Derived.Test.YtlgmdekhlcbhoaaOwnLink
namespace Go.Proofs.Ytlgmdekhlcbhoaa
open Go.RowKit

/-- A list of the call's own, while numbers are drawn. -/
structure Lst (w wr : World) (L g : Nat) (h : Hd) (xs : List Int) : Prop where
  own : Own wr w.heap.size 1 h (ints xs)
  gr : w.grownBy wr (some g)
  src : Src wr L g
  lt : g < w.heap.size
section
variable {w wr w1 : World} {L g : Nat} {h : Hd} {xs : List Int}
theorem Lst.next (s : Lst w wr L g h xs) (k : wr.grownBy w1 (some g)) (S1 : Src w1 L g) : Lst w w1 L g h xs :=
  ⟨s.own.grown k (fun b e c => by have := (s.own.rowlt b e).1; have := s.lt; injection c with c; omega), grown_trans s.gr k, S1, s.lt⟩
theorem Lst.alloc (s : Lst w wr L g h xs) (ob : Obj) : Lst w (wr.alloc ob) L g h xs :=
  have b : Below wr.heap.size wr (wr.alloc ob) := (Below.refl _ _).alloc (Nat.le_refl _) ob
  ⟨s.own.below b, grown_trans s.gr (grown_of_below b), s.src.below b, s.lt⟩
theorem Lst.app {G : Hd} {us : List Value} (s : Lst w wr L g h xs) {ys : List Int} (HG : Own w1 w.heap.size 1 G us) (hu : us = ints (xs ++ ys)) (gg : wr.grownBy w1 h.row) : Lst w w1 L g G (xs ++ ys) :=
  ⟨hu ▸ HG, grown_up s.gr gg (fun x e => .inl (s.own.rowlt x e).1), s.src.grown gg (fun b e => by
    have := (s.own.rowlt b e).1; have := s.lt; have := s.src.lt
    exact ⟨by omega, by omega⟩), s.lt⟩
theorem Lst.start (S : Src w L g) (e : TypeId) : Lst w (w.alloc (.cells #[] e)) L g ⟨some ⟨w.heap.size, 0, none⟩, 0, 0⟩ [] :=
  have b : Below w.heap.size w (w.alloc (.cells #[] e)) := (Below.refl _ _).alloc (Nat.le_refl _) _
  ⟨Own.empty _ _ _ _, grown_of_below b, S.below b, S.lt.1⟩
end
theorem wpList_push {ops : Array Oper} {rest : List Oper} {o : Oper} {a : Act} {Q : Exit → Act → World → Prop} {W : World} (hgd : o.guard = none) (s x : Operand)
    (ho : o.op = .call { callee := .builtin .append, args := #[s, x], argTypes := #[22, 22] })
    (w : World) (L g : Nat) (h : Hd) (xs ys : List Int) (Lx : Lst w W L g h xs) (hs : a.eval s = .slice h.A h.n h.c) (A : Option Addr) (m c : Nat) (hx : a.eval x = .slice A m c) (hr : Rd W A m (ints ys)) (hn : h.n + m ≤ 1099511627776)
    (K : ∀ G wg, G.n = h.n + m → Lst w wg L g G (xs ++ ys) → wpList Try.prog ops Q rest (a.put o.dst (.slice G.A G.n G.c)) wg) : wpList Try.prog ops Q (o :: rest) a W :=
  wpList_append_Own hgd s x 22 ho 2 1 8 Try.underlying22 Int64_info (by decide) w.heap.size h (ints xs) hs Lx.own A m c (ints ys) hx (by rw [Nat.mul_one]; exact hr) (oneCell_ints _) hn (by decide) (Nat.le_trans (Nat.le_refl _) Lx.gr.size) fun G wg hGn HG gg _ =>
    K G wg hGn (Lx.app HG (by rw [ints_append]) gg)
def DrawPost (L g most : Nat) (w : World) (e : Ending) (w' : World) : Prop :=
  ∃ (h : Hd) (xs : List Int), e = .returned (.slice h.A h.n h.c) ∧ h.n ≤ most ∧ Lst w w' L g h xs
def lenOf : Value → Nat
  | .slice _ n _ => n
  | _ => 0
theorem rd_two' (w : World) (x y : Int) (e : TypeId) : Rd (w.alloc (.cells #[.int .i64 x, .int .i64 y] e)) (some ⟨w.heap.size, 0, none⟩) 2 (ints [x, y]) :=
  (Blk.new w e #[.int .i64 x, .int .i64 y]).rd rfl (fun i hi => by
    match i, hi with
    | 0, _ => rfl
    | 1, _ => rfl)

theorem rd_cells (w : World) (xs : List Int) (e : TypeId) : Rd (w.alloc (.cells (ints xs).toArray e)) (some ⟨w.heap.size, 0, none⟩) xs.length (ints xs) :=
  (Blk.new w e (ints xs).toArray).rd (by unfold ints; simp) (fun i _ => by simp)
end Go.Proofs.Ytlgmdekhlcbhoaa
