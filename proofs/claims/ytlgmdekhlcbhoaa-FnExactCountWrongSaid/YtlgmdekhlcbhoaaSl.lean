/- Several slices at a time: reading, writing, apart from one another, touched or left alone. Plain lemmas, no condition. -/
import Derived.Test.YtlgmdekhlcbhoaaArgI
namespace Go.Proofs.Ytlgmdekhlcbhoaa
open Go.RowKit

/-- A slice: its address, its cells, what they hold. -/
structure Sl where
  A : Option Addr
  n : Nat
  us : List Value
def Sl.row (s : Sl) : Option Nat := blkp s.A s.n
def RdAll (w : World) (l : List Sl) : Prop := ∀ s ∈ l, Rd w s.A s.n s.us
def WrAll (w : World) (B : Nat) (l : List Sl) : Prop := ∀ s ∈ l, Wr w B s.A s.n
def Lo (r : List (Option Nat)) (B : Nat) : Prop := ∀ s ∈ r, ∀ b, s = some b → b < B
def Hi (r : List (Option Nat)) (B : Nat) : Prop := ∀ s ∈ r, ∀ b, s = some b → B ≤ b
def Off (r q : List (Option Nat)) : Prop := ∀ s ∈ r, ∀ t ∈ q, ∀ b, s = some b → t ≠ some b
def Sep (r : List (Option Nat)) : Prop := r.Pairwise fun s t => ∀ b, s = some b → t ≠ some b
structure Touch (w w' : World) (r : List (Option Nat)) : Prop where
  os : w'.os = w.os
  tape : w'.tape = w.tape
  output : w'.output = w.output
  size : w.heap.size ≤ w'.heap.size
  block : ∀ k, k < w.heap.size → (∀ s ∈ r, s ≠ some k) → w'.heap[k]? = w.heap[k]?

section
variable {w w' : World} {l m : List Sl} {r q : List (Option Nat)} {B C : Nat}
theorem RdAll.nil (w : World) : RdAll w [] := fun _ h => by cases h
theorem RdAll.cons {s : Sl} (h : Rd w s.A s.n s.us) (k : RdAll w l) : RdAll w (s :: l) := fun t ht => by
  rcases List.mem_cons.1 ht with rfl | ht
  · exact h
  · exact k t ht
theorem RdAll.head {s : Sl} (h : RdAll w (s :: l)) : Rd w s.A s.n s.us := h s (List.mem_cons_self ..)
theorem RdAll.tail {s : Sl} (h : RdAll w (s :: l)) : RdAll w l := fun t ht => h t (List.mem_cons_of_mem _ ht)
theorem WrAll.nil (w : World) (B : Nat) : WrAll w B [] := fun _ h => by cases h
theorem WrAll.cons {s : Sl} (h : Wr w B s.A s.n) (k : WrAll w B l) : WrAll w B (s :: l) := fun t ht => by
  rcases List.mem_cons.1 ht with rfl | ht
  · exact h
  · exact k t ht
theorem WrAll.head {s : Sl} (h : WrAll w B (s :: l)) : Wr w B s.A s.n := h s (List.mem_cons_self ..)
theorem WrAll.tail {s : Sl} (h : WrAll w B (s :: l)) : WrAll w B l := fun t ht => h t (List.mem_cons_of_mem _ ht)
theorem WrAll.lower (h : WrAll w B l) (hB : C ≤ B) : WrAll w C l := fun s hs hn => by
  obtain ⟨ad, e, hb, hc⟩ := h s hs hn
  exact ⟨ad, e, Nat.le_trans hB hb, hc⟩
theorem Wr.lower {A : Option Addr} {n : Nat} (h : Wr w B A n) (hB : C ≤ B) : Wr w C A n := fun hn => by
  obtain ⟨ad, e, hb, hc⟩ := h hn
  exact ⟨ad, e, Nat.le_trans hB hb, hc⟩
theorem RdAll.below (h : RdAll w l) (hb : Below w.heap.size w w') : RdAll w' l := fun s hs => (h s hs).below hb
theorem WrAll.below (h : WrAll w B l) (hr : RdAll w l) (hb : Below w.heap.size w w') : WrAll w' B l := fun s hs => (h s hs).below (hr s hs) hb
theorem row_some {A : Option Addr} {n b : Nat} (h : blkp A n = some b) : ∃ ad, A = some ad ∧ 0 < n ∧ ad.block = b := by
  unfold blkp at h
  split at h
  · cases h
  · rcases A with _ | ad
    · simp [blk] at h
    · exact ⟨ad, rfl, by omega, by simpa [blk] using h⟩
theorem RdAll.lo (h : RdAll w l) : Lo (l.map Sl.row) w.heap.size := fun s hs b e => by
  obtain ⟨t, ht, rfl⟩ := List.mem_map.1 hs
  obtain ⟨ad, e1, hn, rfl⟩ := row_some e
  exact (h t ht).lt e1 hn
theorem WrAll.hi (h : WrAll w B l) : Hi (l.map Sl.row) B := fun s hs b e => by
  obtain ⟨t, ht, rfl⟩ := List.mem_map.1 hs
  obtain ⟨ad, e1, hn, rfl⟩ := row_some e
  exact (h t ht).base e1 hn
theorem Lo.mono (h : Lo r B) (hB : B ≤ C) : Lo r C := fun s hs b e => Nat.lt_of_lt_of_le (h s hs b e) hB
theorem Hi.mono (h : Hi r B) (hB : C ≤ B) : Hi r C := fun s hs b e => Nat.le_trans hB (h s hs b e)
theorem Off.up (h : Lo q B) (k : Hi r B) : Off r q := fun s hs t ht b e c => by have := h t ht b c; have := k s hs b e; omega
theorem Off.dn (h : Hi q B) (k : Lo r B) : Off r q := fun s hs t ht b e c => by have := h t ht b c; have := k s hs b e; omega
theorem Touch.refl (w : World) (r : List (Option Nat)) : Touch w w r := ⟨rfl, rfl, rfl, Nat.le_refl _, fun _ _ _ => rfl⟩
theorem Touch.of_grown {row : Option Nat} (g : w.grownBy w' row) : Touch w w' [row] :=
  ⟨g.os, g.tape, g.output, g.size, fun k hk hne => g.block k hk (fun c => hne row (List.mem_cons_self ..) c.symm)⟩
theorem Touch.trans {w1 : World} (h : Touch w w1 r) (k : Touch w1 w' q) : Touch w w' (r ++ q) :=
  ⟨k.os.trans h.os, k.tape.trans h.tape, k.output.trans h.output, Nat.le_trans h.size k.size, fun i hi hne =>
    (k.block i (Nat.lt_of_lt_of_le hi h.size) fun s hs => hne s (List.mem_append_right _ hs)).trans (h.block i hi fun s hs => hne s (List.mem_append_left _ hs))⟩
theorem Rd.touch {A : Option Addr} {n : Nat} {us : List Value} (h : Rd w A n us) (t : Touch w w' r) (o : Off r [blkp A n]) : Rd w' A n us :=
  h.keep fun ad e hn => t.block _ (h.lt e hn) fun s hs c => o s hs _ (List.mem_cons_self ..) _ c (by unfold blkp; rw [if_neg (by omega), e]; rfl)
theorem Wr.touch {A : Option Addr} {n : Nat} {us : List Value} (hw : Wr w B A n) (h : Rd w A n us) (t : Touch w w' r) (o : Off r [blkp A n]) : Wr w' B A n :=
  hw.keep fun ad e hn => t.block _ (h.lt e hn) fun s hs c => o s hs _ (List.mem_cons_self ..) _ c (by unfold blkp; rw [if_neg (by omega), e]; rfl)
theorem RdAll.touch (h : RdAll w l) (t : Touch w w' r) (o : Off r (l.map Sl.row)) : RdAll w' l := fun s hs =>
  (h s hs).touch t fun x hx y hy b e => by
    rcases List.mem_cons.1 hy with rfl | hy
    · exact o x hx _ (List.mem_map_of_mem hs) b e
    · cases hy
theorem WrAll.touch (hw : WrAll w B l) (h : RdAll w l) (t : Touch w w' r) (o : Off r (l.map Sl.row)) : WrAll w' B l := fun s hs =>
  (hw s hs).touch (h s hs) t fun x hx y hy b e => by
    rcases List.mem_cons.1 hy with rfl | hy
    · exact o x hx _ (List.mem_map_of_mem hs) b e
    · cases hy
theorem bstepT {a b c : World} (h : Below B a b) (t : Touch b c r) (hB : B ≤ a.heap.size) (hi : Hi r B) : Below B a c :=
  ⟨t.os.trans h.os, t.tape.trans h.tape, t.output.trans h.output, Nat.le_trans h.size t.size, fun k hk =>
    (t.block k (Nat.lt_of_lt_of_le hk (Nat.le_trans hB h.size)) fun s hs c => by have := hi s hs k c; omega).trans (h.block k hk)⟩
theorem Off.cons {s : Option Nat} (h : ∀ t ∈ q, ∀ b, s = some b → t ≠ some b) (k : Off r q) : Off (s :: r) q := fun x hx => by
  rcases List.mem_cons.1 hx with rfl | hx
  · exact h
  · exact k x hx
theorem Off.swap (h : Off r q) : Off q r := fun s hs t ht b e c => h t ht s hs b c e
theorem Sep.tail {s : Option Nat} (h : Sep (s :: r)) : Sep r := (List.pairwise_cons.1 h).2
theorem Sep.off {s : Option Nat} (h : Sep (s :: r)) : Off [s] r := fun x hx t ht b e => by
  rcases List.mem_cons.1 hx with rfl | hx
  · exact (List.pairwise_cons.1 h).1 t ht b e
  · cases hx
theorem Sep.nil : Sep [] := List.Pairwise.nil
theorem Sep.cons {s : Option Nat} (o : Off [s] r) (h : Sep r) : Sep (s :: r) := List.pairwise_cons.2 ⟨fun t ht b e => o s (List.mem_cons_self ..) t ht b e, h⟩
theorem Sep.one (s : Option Nat) : Sep [s] := Sep.cons (fun _ _ _ h => by cases h) Sep.nil
theorem Hi.cons {s : Option Nat} (h : ∀ b, s = some b → B ≤ b) (k : Hi r B) : Hi (s :: r) B := fun x hx => by
  rcases List.mem_cons.1 hx with rfl | hx
  · exact h
  · exact k x hx
theorem Lo.cons {s : Option Nat} (h : ∀ b, s = some b → b < B) (k : Lo r B) : Lo (s :: r) B := fun x hx => by
  rcases List.mem_cons.1 hx with rfl | hx
  · exact h
  · exact k x hx
theorem Lo.nil (B : Nat) : Lo [] B := fun _ h => by cases h
theorem Hi.nil (B : Nat) : Hi [] B := fun _ h => by cases h
theorem Off.nil (r : List (Option Nat)) : Off r [] := fun _ _ _ h => by cases h
theorem Off.head {s : Option Nat} (h : Off r (s :: q)) : Off r [s] := fun x hx t ht => by
  rcases List.mem_cons.1 ht with rfl | ht
  · exact h x hx _ (List.mem_cons_self ..)
  · cases ht
theorem Off.tail {s : Option Nat} (h : Off r (s :: q)) : Off r q := fun x hx t ht => h x hx t (List.mem_cons_of_mem _ ht)
theorem Off.append {p : List (Option Nat)} (h : Off r q) (k : Off p q) : Off (r ++ p) q := fun x hx => by
  rcases List.mem_append.1 hx with hx | hx
  · exact h x hx
  · exact k x hx
end
theorem size_alloc1 (w : World) (a : Obj) : (w.alloc a).heap.size = w.heap.size + 1 := by simp
theorem Blk.new1 (w : World) (a : Obj) (t : TypeId) (cs : Array Value) : Blk ((w.alloc a).alloc (.cells cs t)) (w.heap.size + 1) t cs := by
  have := Blk.new (w.alloc a) t cs
  rwa [size_alloc1] at this
theorem Blk.new2 (w : World) (a b : Obj) (t : TypeId) (cs : Array Value) : Blk (((w.alloc a).alloc b).alloc (.cells cs t)) (w.heap.size + 1 + 1) t cs := by
  have := Blk.new ((w.alloc a).alloc b) t cs
  rwa [size_alloc1, size_alloc1] at this
/-- What lies from block B on is as it was. -/
structure Above (B : Nat) (a w : World) : Prop where
  size : a.heap.size ≤ w.heap.size
  block : ∀ k, B ≤ k → k < a.heap.size → w.heap[k]? = a.heap[k]?
section
variable {a w w' : World} {B C n : Nat} {A : Option Addr} {us : List Value}
theorem Above.refl (B : Nat) (w : World) : Above B w w := ⟨Nat.le_refl _, fun _ _ _ => rfl⟩
theorem Above.setCell (h : Above B a w) {p : Addr} (hp : p.block < B) (u : Value) : Above B a (w.setCell p u) :=
  ⟨by simpa [World.setCell] using h.size, fun k hk hl => (Below.heap_setCell w p u k (by omega)).trans (h.block k hk hl)⟩
theorem Above.alloc (h : Above B a w) (o : Obj) : Above B a (w.alloc o) :=
  ⟨by have := h.size; simp; omega, fun k hk hl => (Below.heap_alloc w o k (Nat.lt_of_lt_of_le hl h.size)).trans (h.block k hk hl)⟩
theorem Above.below (h : Above B a w) (b : Below w.heap.size w w') : Above B a w' :=
  ⟨Nat.le_trans h.size b.size, fun k hk hl => (b.block k (Nat.lt_of_lt_of_le hl h.size)).trans (h.block k hk hl)⟩
theorem Rd.above (h : Rd a A n us) (hw : Wr a C A n) (hB : B ≤ C) (k : Above B a w) : Rd w A n us :=
  h.keep fun _ e hn => k.block _ (Nat.le_trans hB (hw.base e hn)) (h.lt e hn)
theorem Wr.above (hw : Wr a C A n) (h : Rd a A n us) (hB : B ≤ C) (k : Above B a w) : Wr w C A n :=
  hw.keep fun _ e hn => k.block _ (Nat.le_trans hB (hw.base e hn)) (h.lt e hn)
theorem Rd.rowlt (h : Rd a A n us) : ∀ b, blkp A n = some b → b < a.heap.size := fun b e => by
  obtain ⟨ad, e1, hn, rfl⟩ := row_some e
  exact h.lt e1 hn
end
theorem Sep.step {s : Option Nat} {r : List (Option Nat)} {B : Nat} (h : ∀ b, s = some b → b < B) (k : Hi r B) (p : Sep r) : Sep (s :: r) :=
  Sep.cons (fun x hx t ht b e c => by
    rcases List.mem_cons.1 hx with rfl | hx
    · have := h b e
      have := k t ht b c
      omega
    · cases hx) p
theorem Blk.grown {w w' : World} {g : Nat} {t : TypeId} {cs : Array Value} {row : Option Nat} (h : Blk w g t cs) (k : w.grownBy w' row) (hne : row ≠ some g) : Blk w' g t cs :=
  (k.block g h.lt (fun c => hne c.symm)).trans h
theorem Touch.alloc (w : World) (o : Obj) : Touch w (w.alloc o) [] := ⟨rfl, rfl, rfl, by simp, fun k hk _ => Below.heap_alloc w o k hk⟩
end Go.Proofs.Ytlgmdekhlcbhoaa
