/- A drawn grid: what is known of it, and what stays. Plain lemmas, no condition. -/
import Derived.Test.YthmcnoloeeabbaaDrS
import Derived.Test.YthmcnoloeeabbaaSndB
import Derived.Test.YthmcnoloeeabbaaGrsS
import Derived.Test.YthmcnoloeeabbaaGrsQ
import Derived.Test.YthmcnoloeeabbaaFilD
namespace Go.Proofs.Ythmcnoloeeabbaa
open Go.RowKit

theorem set_farG {W : World} {p q : Addr} {u : Value} (h : p.block ≠ q.block) : (W.setCell p u).cell? q = W.cell? q := World.cell?_setCell_other _ _ _ _ (fun c => h (by rw [c]))
/-- A grid of the call's own, of at most 900 cells. -/
structure GriW (W : World) (B : Nat) (h : DepthGridH) (l : DepthGridC) : Prop where
  rd : RdAll W (DepthGridS h l)
  wr : WrAll W B (DepthGridS h l)
  sp : Sep (DepthGridR h)
  le : h.counts.n ≤ 900
  pos : 1 ≤ h.counts.n
  eq : h.depths.n = h.counts.n
section
variable {W W' : World} {B C g : Nat} {h : DepthGridH} {l : DepthGridC}
theorem GriW.nx (X : GriW W B h l) (k : W.grownBy W' (some g)) (hg : g < B) : GriW W' B h l :=
  have o : ∀ s ∈ (DepthGridS h l).map Sl.row, s ≠ some g := X.wr.hi.ne hg
  ⟨X.rd.nx k o, X.wr.nx X.rd k o, X.sp, X.le, X.pos, X.eq⟩
theorem GriW.bel (X : GriW W B h l) (b : Below W.heap.size W W') : GriW W' B h l := ⟨X.rd.below b, X.wr.below X.rd b, X.sp, X.le, X.pos, X.eq⟩
theorem GriW.alloc (X : GriW W B h l) (o : Obj) : GriW (W.alloc o) B h l := X.bel ((Below.refl _ _).alloc (Nat.le_refl _) o)
theorem GriW.lower (X : GriW W B h l) (hC : C ≤ B) : GriW W C h l := ⟨X.rd, X.wr.lower hC, X.sp, X.le, X.pos, X.eq⟩
theorem GriW.ok (X : GriW W B h l) : DepthGridOk h := ⟨by have := X.le; omega, by have := X.le; have := X.eq; omega⟩
theorem GriW.ne (X : GriW W B h l) {b : Nat} (hb : b < B) : ∀ s ∈ DepthGridR h, s ≠ some b := X.wr.hi.ne hb
theorem GriW.set_c (X : GriW W B h l) {ad : Addr} (e : h.counts.A = some ad) (v : Int) : GriW (W.setCell ad (.int .i64 v)) B h ⟨l.size, l.wide, l.high, l.counts.set 0 v, l.depths⟩ := by
  have r2 : Rd W h.counts.A h.counts.n (ints l.counts) := X.rd.head
  have r3 : Rd W h.depths.A (h.depths.n * 2) (ints l.depths) := X.rd.tail.head
  have o := X.sp.off
  have hp := X.pos; have he := X.eq
  have e2 := r2.seti (x := v) (k := 0) (by omega) e
  rw [Addr.add_zero'] at e2
  refine ⟨RdAll.cons (s := ⟨h.counts.A, h.counts.n, ints (l.counts.set 0 v)⟩) e2 (RdAll.cons (s := ⟨h.depths.A, h.depths.n * 2, ints l.depths⟩) (r3.keep fun ad' e' hn => Below.heap_setCell _ _ _ _ ?_) (RdAll.nil _)), ?_, X.sp, X.le, X.pos, X.eq⟩
  · intro c
    exact o _ (List.mem_cons_self ..) _ (List.mem_cons_self ..) ad.block (by unfold blkp; rw [if_neg (by omega), e]; rfl) (by unfold blkp; rw [if_neg (by omega), e', ← c]; rfl)
  · exact WrAll.cons (s := ⟨h.counts.A, h.counts.n, _⟩) (X.wr.head.set_ _) (WrAll.cons (s := ⟨h.depths.A, h.depths.n * 2, _⟩) (X.wr.tail.head.set_ _) (WrAll.nil _ _))
theorem GriW.set_d (X : GriW W B h l) {ad : Addr} (e : h.depths.A = some ad) (u v : Int) : GriW ((W.setCell ad (.int .i64 u)).setCell ⟨ad.block, ad.off + 1, none⟩ (.int .i64 v)) B h ⟨l.size, l.wide, l.high, l.counts, (l.depths.set 0 u).set 1 v⟩ := by
  have r2 : Rd W h.counts.A h.counts.n (ints l.counts) := X.rd.head
  have r3 : Rd W h.depths.A (h.depths.n * 2) (ints l.depths) := X.rd.tail.head
  have o := X.sp.off
  have hp := X.pos; have he := X.eq
  have e2 := (r3.seti (x := u) (k := 0) (by omega) e).seti (x := v) (k := 1) (by omega) e
  rw [Addr.add_zero', field_add _ 1 (by decide)] at e2
  have hne : ∀ ad', h.counts.A = some ad' → 0 < h.counts.n → ad'.block ≠ ad.block := fun ad' e' hn c =>
    o _ (List.mem_cons_self ..) _ (List.mem_cons_self ..) ad'.block (by unfold blkp; rw [if_neg (by omega), e']; rfl) (by unfold blkp; rw [if_neg (by omega), e, c]; rfl)
  refine ⟨RdAll.cons (s := ⟨h.counts.A, h.counts.n, ints l.counts⟩) (r2.keep fun ad' e' hn => (Below.heap_setCell (W.setCell ad (.int .i64 u)) ⟨ad.block, ad.off + 1, none⟩ (.int .i64 v) ad'.block (hne ad' e' hn)).trans (Below.heap_setCell W ad (.int .i64 u) ad'.block (hne ad' e' hn))) (RdAll.cons (s := ⟨h.depths.A, h.depths.n * 2, ints ((l.depths.set 0 u).set 1 v)⟩) e2 (RdAll.nil _)), ?_, X.sp, X.le, X.pos, X.eq⟩
  exact WrAll.cons (s := ⟨h.counts.A, h.counts.n, _⟩) ((X.wr.head.set_ _).set_ _) (WrAll.cons (s := ⟨h.depths.A, h.depths.n * 2, _⟩) ((X.wr.tail.head.set_ _).set_ _) (WrAll.nil _ _))
theorem GriW.setne (X : GriW W B h l) {p : Addr} (o : ∀ s ∈ DepthGridR h, s ≠ some p.block) (u : Value) : GriW (W.setCell p u) B h l :=
  have k : W.grownBy (W.setCell p u) (some p.block) := grown_setCell (World.grownBy.refl _ _) (.inl rfl) u
  ⟨X.rd.nx k o, X.wr.nx X.rd k o, X.sp, X.le, X.pos, X.eq⟩
theorem GriW.cellne (X : GriW W B h l) {b i : Nat} (hb : ∀ s ∈ DepthGridR h, s ≠ some b) (u : Value) : GriW (W.setCell ⟨b, i, none⟩ u) B h l := ⟨X.rd.cell_ hb, X.wr.cell_, X.sp, X.le, X.pos, X.eq⟩
theorem GriW.cell (X : GriW W B h l) {b i : Nat} (hb : b < B) (u : Value) : GriW (W.setCell ⟨b, i, none⟩ u) B h l := ⟨X.rd.cell_ (X.wr.hi.ne hb), X.wr.cell_, X.sp, X.le, X.pos, X.eq⟩
end
/-- A grid that is valid, as a call handed it out. -/
theorem GriW.of {W : World} {B : Nat} {h : DepthGridH} {l : DepthGridC} (hl : GOk l) (r : RdAll W (DepthGridS h l)) (q : WrAll W B (DepthGridS h l)) (s : Sep (DepthGridR h)) : GriW W B h l := by
  have h1 := GridS_c r; have h2 := GridS_d r
  have h3 := hl.bd; have h4 := hl.eq
  exact ⟨r, q, s, by omega, by omega, by omega⟩
theorem fg_side_ok {l : DepthGridC} {W : World} {B : Nat} {h : DepthGridH} (hl : GOk l) (r : RdAll W (DepthGridS h (fgR l))) (q : WrAll W B (DepthGridS h (fgR l))) (s : Sep (DepthGridR h)) : GriW W B h (fgR l) := by
  have h1 := GridS_c r; have h2 := GridS_d r
  have h3 := hl.bd; have h4 := hl.eq
  have e := (fg_ok hl.to).2
  have sd := fgTo_side l l.counts.length
  rw [e] at h1 h2
  exact ⟨r, q, s, by omega, by omega, by omega⟩
end Go.Proofs.Ythmcnoloeeabbaa
