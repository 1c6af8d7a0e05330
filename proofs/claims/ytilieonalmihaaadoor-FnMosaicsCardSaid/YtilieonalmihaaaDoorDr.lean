/- What stays while the reference's source hands out numbers. Plain lemmas, no condition. -/
import Derived.Test.YtilieonalmihaaaDoorDrawK
import Derived.Test.YtilieonalmihaaaDoorTI
namespace Go.Proofs.YtilieonalmihaaaDoor
open Go.RowKit

/-- From w to W a source at g has been turned; else only new memory was laid or written. -/
structure Dr (w W : World) (L g : Nat) : Prop where
  gr : w.grownBy W (some g)
  src : Src W L g
  lt : g < w.heap.size
  le : L ≤ g
section
variable {w W W' : World} {L g B K b : Nat} {h : Hd} {us : List Value} {t : TypeId} {cs : Array Value}
theorem Dr.start (S : Src w L g) : Dr w w L g := ⟨World.grownBy.refl _ _, S, S.lt.1, S.lt.2⟩
theorem Dr.next (D : Dr w W L g) (k : W.grownBy W' (some g)) (S : Src W' L g) : Dr w W' L g := ⟨grown_trans D.gr k, S, D.lt, D.le⟩
theorem Dr.bel (D : Dr w W L g) (k : Below W.heap.size W W') : Dr w W' L g := ⟨grown_trans D.gr (grown_of_below k), D.src.below k, D.lt, D.le⟩
theorem Dr.alloc (D : Dr w W L g) (o : Obj) : Dr w (W.alloc o) L g := D.bel ((Below.refl _ _).alloc (Nat.le_refl _) o)
theorem Dr.drew (D : Dr w W L g) : Dr w W.drew L g := D.bel (below_drewN W 1)
theorem Dr.drewN (D : Dr w W L g) (n : Nat) : Dr w (W.drewN n) L g := D.bel (below_drewN W n)
theorem Dr.grown (D : Dr w W L g) {row : Option Nat} (k : W.grownBy W' row) (hr : ∀ b, row = some b → w.heap.size ≤ b) : Dr w W' L g :=
  ⟨grown_up D.gr k (fun x e => .inl (hr x e)), D.src.grown k (fun b e => by have := hr b e; have := D.lt; have := D.le; exact ⟨by omega, by omega⟩), D.lt, D.le⟩
theorem Dr.set_ (D : Dr w W L g) {p : Addr} (hp : w.heap.size ≤ p.block) (u : Value) : Dr w (W.setCell p u) L g :=
  D.grown (row := some p.block) (grown_setCell (World.grownBy.refl _ _) (.inl rfl) _) (fun b e => by injection e with e; omega)
theorem Dr.fin {w1 : World} (D : Dr w1 W w.heap.size g) (k : Below w.heap.size w w1) : Below w.heap.size w W :=
  bstepg k D.gr (Nat.le_refl _) (fun x e => by injection e with e; have := D.le; omega)
theorem Dr.size (D : Dr w W L g) : w.heap.size ≤ W.heap.size := D.gr.size
theorem Dr.touch {r : List (Option Nat)} (D : Dr w W L g) (t : Touch W W' r) (hi : ∀ s ∈ r, ∀ b, s = some b → w.heap.size ≤ b) : Dr w W' L g := by
  have hlt := D.lt
  have hle := D.le
  have hz := D.gr.size
  refine ⟨⟨t.os.trans D.gr.os, t.tape.trans D.gr.tape, t.output.trans D.gr.output, Nat.le_trans hz t.size, fun k hk hne => (t.block k (by omega) (fun s hs c => by have := hi s hs k c; omega)).trans (D.gr.block k hk hne)⟩, ?_, hlt, hle⟩
  obtain ⟨A, n, c, xs, a, sd, s⟩ := D.src
  exact ⟨A, n, c, xs, a, sd, s.box.touch t (fun x hx c => by have := hi x hx g c; omega), s.code.keep (fun ad e hn => t.block _ (s.code.lt e hn) (fun x hx c => by have := s.low ad e hn; have := hi x hx _ c; omega)), s.byte, s.low, s.ge, s.n_, s.a_, s.s0, s.s1⟩
theorem Own.nx (o : Own W B K h us) (k : W.grownBy W' (some g)) (hg : g < B) : Own W' B K h us :=
  o.grown k (fun b e c => by have := (o.rowlt b e).1; injection c with c; omega)
theorem Blk.nx (o : Blk W b t cs) (k : W.grownBy W' (some g)) (hg : g ≠ b) : Blk W' b t cs := o.grown k (fun c => by injection c with c; exact hg c)
theorem RdAll.nx {l : List Sl} (r : RdAll W l) (k : W.grownBy W' (some g)) (o : ∀ s ∈ l.map Sl.row, s ≠ some g) : RdAll W' l :=
  r.touch (Touch.of_grown k) (fun s hs t ht b e c => by
    rcases List.mem_cons.1 hs with rfl | hs
    · exact o t ht (by rw [c, e])
    · cases hs)
theorem WrAll.nx {l : List Sl} {C : Nat} (q : WrAll W C l) (r : RdAll W l) (k : W.grownBy W' (some g)) (o : ∀ s ∈ l.map Sl.row, s ≠ some g) : WrAll W' C l :=
  q.touch r (Touch.of_grown k) (fun s hs t ht b e c => by
    rcases List.mem_cons.1 hs with rfl | hs
    · exact o t ht (by rw [c, e])
    · cases hs)
end
theorem rd_lit (w : World) (xs : List Int) (e : TypeId) (n : Nat) (hn : xs.length = n) : Rd (w.alloc (.cells (ints xs).toArray e)) (some ⟨w.heap.size, 0, none⟩) n (ints xs) := by
  subst hn
  refine ⟨by simp [ints], fun _ => ⟨_, rfl, fun i hi => ?_⟩⟩
  rw [add_lit, (Blk.new w e (ints xs).toArray).cell]
  simp
/-- one of some numbers, laid for the call -/
theorem pick_any (L g : Nat) (xs : List Int) (n : Nat) (W : World) (S : Src W L g) (hl : xs.length = n) (h0 : 0 < n) (h1 : n ≤ 1048576) :
    Calls Tryd.prog 38 #[.pointer (some ⟨g, 0, none⟩), .slice (some ⟨W.heap.size, 0, none⟩) n n] (W.alloc (.cells (ints xs).toArray 2)) (PickPost L g xs (W.alloc (.cells (ints xs).toArray 2))) :=
  l01Pick_any L g _ n n xs _ (S.below ((Below.refl _ _).alloc (Nat.le_refl _) _)) (rd_lit _ _ _ _ hl) h0 h1 (fun ad e => by cases e; have := S.lt; simp only; omega)
theorem pick_drew (L g : Nat) (xs : List Int) (n : Nat) (W : World) (S : Src W L g) (hl : xs.length = n) (h0 : 0 < n) (h1 : n ≤ 1048576) :
    Calls Tryd.prog 38 #[.pointer (some ⟨g, 0, none⟩), .slice (some ⟨W.heap.size, 0, none⟩) n n] (W.alloc (.cells (ints xs).toArray 2)).drew (PickPost L g xs (W.alloc (.cells (ints xs).toArray 2)).drew) :=
  l01Pick_any L g _ n n xs _ ((S.below ((Below.refl _ _).alloc (Nat.le_refl _) _)).below (Below.drew (Below.refl _ _))) ((rd_lit _ _ _ _ hl).below (Below.drew (Below.refl _ _))) h0 h1 (fun ad e => by cases e; have := S.lt; simp only; omega)
end Go.Proofs.YtilieonalmihaaaDoor
