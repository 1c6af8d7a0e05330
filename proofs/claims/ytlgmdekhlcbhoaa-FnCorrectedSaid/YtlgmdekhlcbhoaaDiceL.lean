/- A list of the law's own, while its dice are cast. No condition beyond a code of at most 4096 bytes. -/
import Derived.Test.YtlgmdekhlcbhoaaDice
import Derived.Test.YtlgmdekhlcbhoaaDrawC
namespace Go.Proofs.Ytlgmdekhlcbhoaa
open Go.RowKit

structure LstD (w wr : World) (L g : Nat) (h : Hd) (xs : List Int) : Prop where
  own : Own wr w.heap.size 1 h (ints xs)
  gr : w.grownBy wr (some g)
  dice : Dice wr L g
  lt : g < w.heap.size
section
variable {w wb wr w1 : World} {L g : Nat} {h : Hd} {xs : List Int}
theorem LstD.next (s : LstD w wr L g h xs) (k : wr.grownBy w1 (some g)) (S1 : Dice w1 L g) : LstD w w1 L g h xs :=
  ⟨s.own.grown k (fun b e c => by have := (s.own.rowlt b e).1; have := s.lt; injection c with c; omega), grown_trans s.gr k, S1, s.lt⟩
theorem LstD.alloc (s : LstD w wr L g h xs) (ob : Obj) : LstD w (wr.alloc ob) L g h xs :=
  have b : Below wr.heap.size wr (wr.alloc ob) := (Below.refl _ _).alloc (Nat.le_refl _) ob
  ⟨s.own.below b, grown_trans s.gr (grown_of_below b), s.dice.below b, s.lt⟩
theorem LstD.app {G : Hd} {us : List Value} (s : LstD w wr L g h xs) {ys : List Int} (HG : Own w1 w.heap.size 1 G us) (hu : us = ints (xs ++ ys)) (gg : wr.grownBy w1 h.row) : LstD w w1 L g G (xs ++ ys) :=
  ⟨hu ▸ HG, grown_up s.gr gg (fun x e => .inl (s.own.rowlt x e).1), s.dice.grown gg (fun b e => by
    have := (s.own.rowlt b e).1; have := s.lt; have := s.dice.lt
    exact ⟨by omega, by omega⟩), s.lt⟩
theorem LstD.start (S : Dice w L g) (e : TypeId) : LstD w (w.alloc (.cells #[] e)) L g ⟨some ⟨w.heap.size, 0, none⟩, 0, 0⟩ [] :=
  have b : Below w.heap.size w (w.alloc (.cells #[] e)) := (Below.refl _ _).alloc (Nat.le_refl _) _
  ⟨Own.empty _ _ _ _, grown_of_below b, S.below b, S.lt.1⟩
theorem LstD.of {h : Hd} (S : Dice w L g) (b : Below w.heap.size w w1) (o : Own w1 w.heap.size 1 h (ints xs)) : LstD w w1 L g h xs := ⟨o, grown_of_below b, S.below b, S.lt.1⟩
theorem LstD.set_ (s : LstD w wr L g h xs) {k : Nat} {ad : Addr} (hk : k < h.n) (e : h.A = some ad) (v : Int) : LstD w (wr.setCell (ad.add k) (.int .i64 v)) L g h (xs.set k v) := by
  have hnc := s.own.nc
  have hb := s.own.rowlt ad.block (Hd.row_mk e (by omega))
  have hlt := s.lt
  have hs := s.dice.lt
  have gg : wr.grownBy (wr.setCell (ad.add k) (.int .i64 v)) (some ad.block) := grown_setCell (World.grownBy.refl _ _) (.inl (by rw [block_of_add])) _
  exact ⟨s.own.set_ hk e v, grown_up s.gr gg (fun x c => by injection c with c; omega), s.dice.grown gg (fun b c => by injection c with c; omega), s.lt⟩
theorem LstD.cast (s : LstD w wr L g h xs) {m : Nat} (hm : h.n = m) : LstD w wr L g ⟨h.A, m, h.c⟩ xs := by subst hm; exact s
/-- what was there ahead of the dice -/
theorem LstD.keep (s : LstD w wr wb.heap.size g h xs) (b : Below wb.heap.size wb w) {A : Option Addr} {n : Nat} {us : List Value} (r : Rd wb A n us) : Rd wr A n us :=
  (r.below b).grown s.gr (fun ad e hn c => by have := r.lt e hn; have := s.dice.lt.2; injection c with c; omega)
theorem LstD.bel (s : LstD w wr wb.heap.size g h xs) (b : Below wb.heap.size wb w) : Below wb.heap.size wb wr := bstepg b s.gr (Nat.le_refl _) (fun k e => by injection e with e; have := s.dice.lt.2; omega)
end
theorem wpList_pushD {ops : Array Oper} {rest : List Oper} {o : Oper} {a : Act} {Q : Exit → Act → World → Prop} {W : World} (hgd : o.guard = none) (s x : Operand)
    (ho : o.op = .call { callee := .builtin .append, args := #[s, x], argTypes := #[22, 22] })
    (w : World) (L g : Nat) (h : Hd) (xs ys : List Int) (Lx : LstD w W L g h xs) (hs : a.eval s = .slice h.A h.n h.c) (A : Option Addr) (m c : Nat) (hx : a.eval x = .slice A m c) (hr : Rd W A m (ints ys)) (hn : h.n + m ≤ 1099511627776)
    (K : ∀ G wg, G.n = h.n + m → LstD w wg L g G (xs ++ ys) → wpList Try.prog ops Q rest (a.put o.dst (.slice G.A G.n G.c)) wg) : wpList Try.prog ops Q (o :: rest) a W :=
  wpList_append_Own hgd s x 22 ho 2 1 8 Try.underlying22 Int64_info (by decide) w.heap.size h (ints xs) hs Lx.own A m c (ints ys) hx (by rw [Nat.mul_one]; exact hr) (oneCell_ints _) hn (by decide) (Nat.le_trans (Nat.le_refl _) Lx.gr.size) fun G wg hGn HG gg _ =>
    K G wg hGn (Lx.app HG (by rw [ints_append]) gg)
end Go.Proofs.Ytlgmdekhlcbhoaa
