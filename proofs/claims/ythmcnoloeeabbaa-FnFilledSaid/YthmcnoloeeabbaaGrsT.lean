/- What stays while soundings are put into a grid of the call's own. Plain lemmas, no condition. -/
import Derived.Test.YthmcnoloeeabbaaGrsM
import Derived.Test.YthmcnoloeeabbaaReg
namespace Go.Proofs.Ythmcnoloeeabbaa
open Go.RowKit

theorem Touch.cell1 {w w' : World} {r : List (Option Nat)} (T : Touch w w' r) {p : Addr} (hlt : p.block < w.heap.size) (hne : ∀ s ∈ r, s ≠ some p.block) : w'.cell? p = w.cell? p := by
  have := T.block p.block hlt hne
  unfold World.cell?
  rw [this]
/-- the grid, its box, the result's box, the soundings -/
structure GSt (w0 : World) (B g10 : Nat) (h : DepthGridH) (gg : DepthGridC) (box : Array Value) (LA : Option Addr) (n : Nat) (ys : List Int) (W : World) : Prop where
  X : RdAll W (DepthGridS h gg)
  Y : WrAll W B (DepthGridS h gg)
  KB : Blk W g10 50 box
  KR : Blk W w0.heap.size 50 #[.int .i64 0, .int .i64 0, .int .i64 0, .slice none 0 0, .slice none 0 0]
  R : Rd W LA (n * 4) (ints ys)
  hb : Below w0.heap.size w0 W
  ne : ∀ x ∈ DepthGridR h, x ≠ some g10
  hB : w0.heap.size < B
  yl : ∀ bk, blkp LA (n * 4) = some bk → bk < w0.heap.size
section
variable {w0 : World} {B g10 n : Nat} {h : DepthGridH} {gg gg' : DepthGridC} {box : Array Value} {LA : Option Addr} {ys : List Int} {W W' : World}
theorem GSt.bel (s : GSt w0 B g10 h gg box LA n ys W) (b : Below W.heap.size W W') : GSt w0 B g10 h gg box LA n ys W' :=
  ⟨s.X.below b, s.Y.below s.X b, s.KB.below b s.KB.lt, s.KR.below b s.KR.lt, s.R.below b, s.hb.trans (b.mono s.hb.size), s.ne, s.hB, s.yl⟩
theorem GSt.hi (s : GSt w0 B g10 h gg box LA n ys W) : Hi (DepthGridR h) B := s.Y.hi
theorem GSt.tch (s : GSt w0 B g10 h gg box LA n ys W) (T : Touch W W' (DepthGridR h)) (X' : RdAll W' (DepthGridS h gg')) (Y' : WrAll W' B (DepthGridS h gg')) : GSt w0 B g10 h gg' box LA n ys W' :=
  ⟨X', Y', s.KB.touch T s.ne, s.KR.touch T (s.hi.ne s.hB), s.R.touch T (Off.up (B := B) (Lo.cons (fun b e => Nat.lt_trans (s.yl b e) s.hB) (Lo.nil _)) s.hi), bstepT s.hb T (Nat.le_refl _) (s.hi.mono (Nat.le_of_lt s.hB)), s.ne, s.hB, s.yl⟩
theorem GSt.cells {ad : Addr} {k : Nat} {x0 x1 x2 x3 : Int} (s : GSt w0 B g10 h gg box (some ad) n ys W) (hlt : k < n) (e : ys.getD (k * 4) 0 = x0 ∧ ys.getD (k * 4 + 1) 0 = x1 ∧ ys.getD (k * 4 + 2) 0 = x2 ∧ ys.getD (k * 4 + 3) 0 = x3) :
    W.cell? (ad.add (k * 4)) = some (.int .i64 x0) ∧ W.cell? ⟨(ad.add (k * 4)).block, (ad.add (k * 4)).off + 1, none⟩ = some (.int .i64 x1) ∧ W.cell? ⟨(ad.add (k * 4)).block, (ad.add (k * 4)).off + 2, none⟩ = some (.int .i64 x2) ∧ W.cell? ⟨(ad.add (k * 4)).block, (ad.add (k * 4)).off + 3, none⟩ = some (.int .i64 x3) := by
  obtain ⟨e0, e1, e2, e3⟩ := e
  subst e0 e1 e2 e3
  obtain ⟨_, ⟨⟩, d0, d1, d2, d3⟩ := s.R.fourS hlt
  exact ⟨d0, d1, d2, d3⟩
theorem GSt.cnt {a3 a4 : Addr} {N c3 c4 q : Nat} {cq : Int} (s : GSt w0 B g10 h gg box LA n ys W) (hh : h = ⟨⟨some a3, N, c3⟩, ⟨some a4, N, c4⟩⟩) (hq : q < N) (e : gg.counts.getD q 0 = cq) : W.cell? (a3.add q) = some (.int .i64 cq) := by
  subst e
  have r := s.X.head
  rw [hh] at r
  obtain ⟨_, ⟨⟩, hx⟩ := Rd.int (k := q) r hq
  exact hx
end

end Go.Proofs.Ythmcnoloeeabbaa
