/- Words for memory: a slice of numbers that reads as a list, places that may be written, what a call leaves alone. Plain lemmas, no condition. -/
import Derived.Test.YtlgmdekhlcbhoaaRows
import Derived.WalkKit
import Derived.WalkSpells
import Derived.WalkLawsBesides
import Derived.BigQuiet
import Derived.Deep.QuietTactic
import Derived.Deep.Draws
import Derived.Lib.Hide
namespace Go.Proofs.Ytlgmdekhlcbhoaa
open Go.RowKit

theorem ret_int {k : IntKind} {a b : Int} (h : a = b) : Ending.returned (.int k a) = .returned (.int k b) := by rw [h]
theorem ret_bool {a b : Bool} (h : a = b) : Ending.returned (.bool a) = .returned (.bool b) := by rw [h]
theorem block_of_add (a : Addr) (n : Nat) : (a.add n).block = a.block := by unfold Addr.add; split <;> rfl
theorem add_of_add (a : Addr) (i j : Nat) : (a.add i).add j = a.add (i + j) := by
  unfold Addr.add
  by_cases hi : i = 0 <;> by_cases hj : j = 0 <;> simp [hi, hj, Nat.add_assoc]
theorem add_lit (b i : Nat) : (⟨b, 0, none⟩ : Addr).add i = ⟨b, i, none⟩ := by unfold Addr.add; split <;> simp_all

/-- The numbers in the cells. -/
def ints (xs : List Int) : List Value := xs.map (.int .i64)
theorem ints_getElem? (xs : List Int) (i : Nat) : (ints xs)[i]? = xs[i]?.map (.int .i64) := by unfold ints; simp

/-- The slice at A of length n reads as the values us. -/
def Rd (w : World) (A : Option Addr) (n : Nat) (us : List Value) : Prop :=
  us.length = n ∧ (0 < n → ∃ ad, A = some ad ∧ ∀ i, i < n → w.cell? (ad.add i) = us[i]?)
/-- Its places may be written, and lie from block base on. -/
def Wr (w : World) (base : Nat) (A : Option Addr) (n : Nat) : Prop :=
  0 < n → ∃ ad, A = some ad ∧ base ≤ ad.block ∧ ∀ i, i < n → w.frozen? (ad.add i) = false
/-- The block of an address. -/
def blk (A : Option Addr) : Option Nat := A.map (·.block)

/-- .. of a slice of n places, if there are any. -/
def blkp (A : Option Addr) (n : Nat) : Option Nat := if n = 0 then none else blk A

/-- Same heap, whatever was drawn. -/
def Alk (w w' : World) : Prop := ∃ m, w' = w.drewN m

section
variable {w w' w1 : World} {A : Option Addr} {n B B' : Nat} {us : List Value}
theorem Rd.nil (w : World) (A : Option Addr) : Rd w A 0 [] := ⟨rfl, fun h => absurd h (by omega)⟩
theorem Rd.at_ {k : Nat} (h : Rd w A n us) (hk : k < n) : ∃ ad u, A = some ad ∧ us[k]? = some u ∧ w.cell? (ad.add k) = some u := by
  obtain ⟨ad, e, hc⟩ := h.2 (by omega)
  have hl : k < us.length := by have := h.1; omega
  exact ⟨ad, us[k], e, List.getElem?_eq_getElem hl, (hc k hk).trans (List.getElem?_eq_getElem hl)⟩
theorem Rd.lt (h : Rd w A n us) {ad : Addr} (e : A = some ad) (hn : 0 < n) : ad.block < w.heap.size := by
  obtain ⟨ad', u, e', _, hc⟩ := h.at_ hn
  rw [e] at e'
  cases e'
  have := World.block_lt_of_cell? w _ hc
  rwa [block_of_add] at this
theorem Rd.keep (h : Rd w A n us) (hk : ∀ ad, A = some ad → 0 < n → w'.heap[ad.block]? = w.heap[ad.block]?) : Rd w' A n us :=
  ⟨h.1, fun hn => by
    obtain ⟨ad, e, hc⟩ := h.2 hn
    exact ⟨ad, e, fun i hi => (World.cell?_of_block (by rw [block_of_add]; exact hk ad e hn)).trans (hc i hi)⟩⟩
theorem Rd.below (h : Rd w A n us) (hb : Below w.heap.size w w') : Rd w' A n us :=
  h.keep fun _ e hn => hb.block _ (h.lt e hn)
theorem Rd.below' (h : Rd w A n us) (hb : Below B w w') (hB : ∀ ad, A = some ad → 0 < n → ad.block < B) : Rd w' A n us :=
  h.keep fun ad e hn => hb.block _ (hB ad e hn)
theorem Rd.grown {row : Option Nat} (h : Rd w A n us) (hg : w.grownBy w' row) (hne : ∀ ad, A = some ad → 0 < n → row ≠ some ad.block) : Rd w' A n us :=
  h.keep fun ad e hn => hg.block _ (h.lt e hn) (fun c => hne ad e hn c.symm)
theorem Rd.drewN (h : Rd w A n us) (m : Nat) : Rd (w.drewN m) A n us := h
theorem Wr.keep (h : Wr w B A n) (hk : ∀ ad, A = some ad → 0 < n → w'.heap[ad.block]? = w.heap[ad.block]?) : Wr w' B A n := fun hn => by
    obtain ⟨ad, e, hb, hc⟩ := h hn
    exact ⟨ad, e, hb, fun i hi => (World.frozen?_of_block (by rw [block_of_add]; exact hk ad e hn)).trans (hc i hi)⟩
theorem Wr.below (h : Wr w B A n) (hr : Rd w A n us) (hb : Below w.heap.size w w') : Wr w' B A n :=
  h.keep fun _ e hn => hb.block _ (hr.lt e hn)
theorem Wr.grown {row : Option Nat} (h : Wr w B A n) (hr : Rd w A n us) (hg : w.grownBy w' row) (hne : ∀ ad, A = some ad → 0 < n → row ≠ some ad.block) : Wr w' B A n :=
  h.keep fun ad e hn => hg.block _ (hr.lt e hn) (fun c => hne ad e hn c.symm)
theorem Wr.mono (h : Wr w B A n) (hB : B' ≤ B) : Wr w B' A n := fun hn => by
    obtain ⟨ad, e, hb, hc⟩ := h hn
    exact ⟨ad, e, Nat.le_trans hB hb, hc⟩
theorem Wr.base (h : Wr w B A n) {ad : Addr} (e : A = some ad) (hn : 0 < n) : B ≤ ad.block := by
    obtain ⟨ad', e', hb, _⟩ := h hn
    rw [e] at e'
    cases e'
    exact hb
end

theorem Below.drewN {B : Nat} {a w : World} (h : Below B a w) (m : Nat) : Below B a (w.drewN m) := ⟨h.os, h.tape, h.output, h.size, h.block⟩
theorem Below.left {B m : Nat} {a w : World} (h : Below B (a.drewN m) w) : Below B a w := ⟨h.os, h.tape, h.output, h.size, h.block⟩
theorem below_drewN (w : World) (m : Nat) : Below w.heap.size w (w.drewN m) := ⟨rfl, rfl, rfl, Nat.le_refl _, fun _ _ => rfl⟩

theorem grown_setCell {a w : World} {row : Option Nat} (h : a.grownBy w row) {p : Addr} (hp : row = some p.block ∨ a.heap.size ≤ p.block) (u : Value) : a.grownBy (w.setCell p u) row :=
  ⟨h.os, h.tape, h.output, by simpa [World.setCell] using h.size, fun i hi hne => (Below.heap_setCell _ p u i (by
    rintro rfl
    rcases hp with hp | hp
    · exact hne hp.symm
    · omega)).trans (h.block i hi hne)⟩
theorem grown_trans {a b c : World} {row : Option Nat} (h : a.grownBy b row) (k : b.grownBy c row) : a.grownBy c row :=
  ⟨k.os.trans h.os, k.tape.trans h.tape, k.output.trans h.output, Nat.le_trans h.size k.size, fun i hi hne => (k.block i (Nat.lt_of_lt_of_le hi h.size) hne).trans (h.block i hi hne)⟩
theorem grown_drewN {a w : World} {row : Option Nat} (h : a.grownBy w row) (m : Nat) : a.grownBy (w.drewN m) row := ⟨h.os, h.tape, h.output, h.size, h.block⟩
theorem add_inj {a : Addr} {i j : Nat} (h : a.add i = a.add j) : i = j := by
  obtain ⟨b, o, s⟩ := a
  unfold Addr.add at h
  split at h <;> split at h <;> simp_all

theorem Wr.blockp {w : World} {B : Nat} {A : Option Addr} {n k : Nat} (h : Wr w B A n) (hk : blkp A n = some k) : B ≤ k := by
  unfold blkp at hk
  split at hk
  · cases hk
  · obtain ⟨ad, e, hb, _⟩ := h (by omega)
    subst e
    simp [blk] at hk
    omega
theorem blkp_ne {A : Option Addr} {n b : Nat} (h : ∀ ad, A = some ad → 0 < n → ad.block ≠ b) : blkp A n ≠ some b := by
  unfold blkp
  split
  · simp
  · intro c
    rcases A with _ | ad
    · simp [blk] at c
    · simp [blk] at c; exact h ad rfl (by omega) c
theorem bcell {W w1 : World} (hb : Below W.heap.size W w1) : (∀ b o, b < W.heap.size → w1.cell? ⟨b, o, none⟩ = W.cell? ⟨b, o, none⟩) ∧ (∀ b o, b < W.heap.size → w1.frozen? ⟨b, o, none⟩ = W.frozen? ⟨b, o, none⟩) :=
  ⟨fun b o h => hb.cell (p := ⟨b, o, none⟩) h, fun b o h => hb.frozen (p := ⟨b, o, none⟩) h⟩

/-- A block that is known whole. -/
def Blk (w : World) (g : Nat) (t : TypeId) (cs : Array Value) : Prop := w.heap[g]? = some (.cells cs t (0, 0))
section
variable {w w' : World} {g : Nat} {t : TypeId} {cs : Array Value}
theorem Blk.lt (h : Blk w g t cs) : g < w.heap.size := by
  rcases Nat.lt_or_ge g w.heap.size with hlt | hge
  · exact hlt
  · unfold Blk at h; rw [Array.getElem?_eq_none hge] at h; cases h
theorem Blk.cell (h : Blk w g t cs) (i : Nat) : w.cell? ⟨g, i, none⟩ = cs[i]? := cell_of_row w g i cs t (0, 0) h
theorem Blk.frozen (h : Blk w g t cs) (i : Nat) : w.frozen? ⟨g, i, none⟩ = false := by
  unfold Blk at h
  simp [World.frozen?, h]
theorem Blk.new (w : World) (t : TypeId) (cs : Array Value) : Blk (w.alloc (.cells cs t)) w.heap.size t cs := heap_alloc_new w _
theorem Blk.drewN (h : Blk w g t cs) (n : Nat) : Blk (w.drewN n) g t cs := h
theorem Blk.alloc (h : Blk w g t cs) (o : Obj) : Blk (w.alloc o) g t cs := (Below.heap_alloc w o g h.lt).trans h
theorem Blk.set_ (h : Blk w g t cs) (i : Nat) (u : Value) : Blk (w.setCell ⟨g, i, none⟩ u) g t (cs.setIfInBounds i u) := by
  unfold Blk at h ⊢
  simp [World.setCell, Array.getElem?_modify, h]
theorem Blk.far (h : Blk w g t cs) {p : Addr} (hp : g ≠ p.block) (u : Value) : Blk (w.setCell p u) g t cs := (Below.heap_setCell w p u g hp).trans h
theorem Blk.below {B : Nat} (h : Blk w g t cs) (hb : Below B w w') (hg : g < B) : Blk w' g t cs := (hb.block g hg).trans h
theorem Blk.rd {n : Nat} {us : List Value} (h : Blk w g t cs) (hl : us.length = n) (hc : ∀ i, i < n → cs[i]? = us[i]?) : Rd w (some ⟨g, 0, none⟩) n us :=
  ⟨hl, fun _ => ⟨_, rfl, fun i hi => by rw [add_lit, h.cell, hc i hi]⟩⟩
theorem Blk.wr (h : Blk w g t cs) {B : Nat} (hB : B ≤ g) (n : Nat) : Wr w B (some ⟨g, 0, none⟩) n :=
  fun _ => ⟨_, rfl, hB, fun i _ => by rw [add_lit]; exact h.frozen i⟩
end
theorem madeCells_size (z : Array Value) (n : Nat) : (madeCells z n).size = n := by unfold madeCells; simp

theorem run_make_rowN {P : Program} (t e : TypeId) (i : TypeInfo) (z : Value) (ht : P.underlying t = some (.slice e)) (hi : P.info? e = some i) (hz : i.zero = some z)
    (kl kc : IntKind) (n c : Nat) (hnc : n ≤ c) (hbytes : i.bytes * c ≤ 281474976710656) (h63 : c ≤ 9223372036854775807) (w : World) :
    (Instr.makeSlice t (.int kl (n : Int)) (.int kc (c : Int))).run P w = .ok (.slice (some ⟨w.heap.size, 0, none⟩) n c) (w.alloc (.cells (madeCells z.cells (c * i.size)) e)) := by
  have hb : (i.bytes : Int) * (c : Int) ≤ 281474976710656 := by
    have h : ((i.bytes * c : Nat) : Int) ≤ 281474976710656 := by omega
    rwa [Int.natCast_mul] at h
  have hr := run_make (P := P) w t e i z ht hi hz kl kc n c (by omega) (by omega) hb (by omega)
  simp only [Int.toNat_natCast] at hr
  exact hr
theorem int64_info : (Try.prog.info? 2).map (fun i => (i.zero, i.size, i.bytes)) = some (some (.int .i64 0), 1, 8) := by kernel_rfl
theorem run_make_int64 (n : Nat) (hn : n ≤ 2097152) (w : World) :
    (Instr.makeSlice 22 (.int .i64 (n : Int)) (.int .i64 (n : Int))).run Try.prog w = .ok (.slice (some ⟨w.heap.size, 0, none⟩) n n) (w.alloc (.cells (madeCells #[.int .i64 0] n) 2)) := by
  obtain ⟨i0, hi0, hz0, hz1, hz2⟩ := info_parts int64_info
  have h := run_make_rowN (P := Try.prog) 22 2 i0 _ Try.underlying22 hi0 hz0 .i64 .i64 n n (Nat.le_refl _) (by rw [hz2]; omega) (by omega) w
  rw [hz1, Nat.mul_one] at h
  exact h
end Go.Proofs.Ytlgmdekhlcbhoaa
