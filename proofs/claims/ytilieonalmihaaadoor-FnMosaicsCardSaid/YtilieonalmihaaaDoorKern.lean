/- Merged texts: Mem, IntS, Base, App, Res, ArgI, Sl, TInts, Own, AppK, OwnB, Quiet. What each says stands ahead of it. -/
import Derived.Test.YtilieonalmihaaaDoorRows
import Derived.WalkKit
import Derived.WalkSpells
import Derived.WalkLawsBesides
import Derived.BigQuiet
import Derived.Deep.QuietTactic
import Derived.Deep.Draws
import Derived.Lib.Hide
import Derived.Maps.AppendAt
import Derived.Deep.AppendLies
import Derived.OwnWalk
import Derived.ArgAppend

/- Words for memory: a slice of numbers that reads as a list, places that may be written, what a call leaves alone. Plain lemmas, no condition. -/
namespace Go.Proofs.YtilieonalmihaaaDoor
open Go.RowKit

theorem ret_int {k : IntKind} {a b : Int} (h : a = b) : Ending.returned (.int k a) = .returned (.int k b) := by rw [h]
theorem ret_bool {a b : Bool} (h : a = b) : Ending.returned (.bool a) = .returned (.bool b) := by rw [h]
theorem block_of_add (a : Addr) (n : Nat) : (a.add n).block = a.block := by unfold Addr.add; split <;> rfl
theorem add_of_add (a : Addr) (i j : Nat) : (a.add i).add j = a.add (i + j) := by
  unfold Addr.add
  by_cases hi : i = 0 <;> by_cases hj : j = 0 <;> simp [hi, hj, Nat.add_assoc]
theorem add_lit (b i : Nat) : (⟨b, 0, none⟩ : Addr).add i = ⟨b, i, none⟩ := by unfold Addr.add; split <;> simp_all

/-- The numbers in the cells. -/
def ints (xs : List Int) : List Value := xs.map (.int .i64)
theorem ints_getElem? (xs : List Int) (i : Nat) : (ints xs)[i]? = xs[i]?.map (.int .i64) := by unfold ints; simp

/-- The slice at A of length n reads as the values us. -/
def Rd (w : World) (A : Option Addr) (n : Nat) (us : List Value) : Prop :=
  us.length = n ∧ (0 < n → ∃ ad, A = some ad ∧ ∀ i, i < n → w.cell? (ad.add i) = us[i]?)
/-- Its places may be written, and lie from block base on. -/
def Wr (w : World) (base : Nat) (A : Option Addr) (n : Nat) : Prop :=
  0 < n → ∃ ad, A = some ad ∧ base ≤ ad.block ∧ ∀ i, i < n → w.frozen? (ad.add i) = false
/-- The block of an address. -/
def blk (A : Option Addr) : Option Nat := A.map (·.block)

/-- .. of a slice of n places, if there are any. -/
def blkp (A : Option Addr) (n : Nat) : Option Nat := if n = 0 then none else blk A

/-- Same heap, whatever was drawn. -/
def Alk (w w' : World) : Prop := ∃ m, w' = w.drewN m

section
variable {w w' w1 : World} {A : Option Addr} {n B B' : Nat} {us : List Value}
theorem Rd.nil (w : World) (A : Option Addr) : Rd w A 0 [] := ⟨rfl, fun h => absurd h (by omega)⟩
theorem Rd.at_ {k : Nat} (h : Rd w A n us) (hk : k < n) : ∃ ad u, A = some ad ∧ us[k]? = some u ∧ w.cell? (ad.add k) = some u := by
  obtain ⟨ad, e, hc⟩ := h.2 (by omega)
  have hl : k < us.length := by have := h.1; omega
  exact ⟨ad, us[k], e, List.getElem?_eq_getElem hl, (hc k hk).trans (List.getElem?_eq_getElem hl)⟩
theorem Rd.lt (h : Rd w A n us) {ad : Addr} (e : A = some ad) (hn : 0 < n) : ad.block < w.heap.size := by
  obtain ⟨ad', u, e', _, hc⟩ := h.at_ hn
  rw [e] at e'
  cases e'
  have := World.block_lt_of_cell? w _ hc
  rwa [block_of_add] at this
theorem Rd.keep (h : Rd w A n us) (hk : ∀ ad, A = some ad → 0 < n → w'.heap[ad.block]? = w.heap[ad.block]?) : Rd w' A n us :=
  ⟨h.1, fun hn => by
    obtain ⟨ad, e, hc⟩ := h.2 hn
    exact ⟨ad, e, fun i hi => (World.cell?_of_block (by rw [block_of_add]; exact hk ad e hn)).trans (hc i hi)⟩⟩
theorem Rd.below (h : Rd w A n us) (hb : Below w.heap.size w w') : Rd w' A n us :=
  h.keep fun _ e hn => hb.block _ (h.lt e hn)
theorem Rd.below' (h : Rd w A n us) (hb : Below B w w') (hB : ∀ ad, A = some ad → 0 < n → ad.block < B) : Rd w' A n us :=
  h.keep fun ad e hn => hb.block _ (hB ad e hn)
theorem Rd.grown {row : Option Nat} (h : Rd w A n us) (hg : w.grownBy w' row) (hne : ∀ ad, A = some ad → 0 < n → row ≠ some ad.block) : Rd w' A n us :=
  h.keep fun ad e hn => hg.block _ (h.lt e hn) (fun c => hne ad e hn c.symm)
theorem Rd.drewN (h : Rd w A n us) (m : Nat) : Rd (w.drewN m) A n us := h
theorem Wr.keep (h : Wr w B A n) (hk : ∀ ad, A = some ad → 0 < n → w'.heap[ad.block]? = w.heap[ad.block]?) : Wr w' B A n := fun hn => by
    obtain ⟨ad, e, hb, hc⟩ := h hn
    exact ⟨ad, e, hb, fun i hi => (World.frozen?_of_block (by rw [block_of_add]; exact hk ad e hn)).trans (hc i hi)⟩
theorem Wr.below (h : Wr w B A n) (hr : Rd w A n us) (hb : Below w.heap.size w w') : Wr w' B A n :=
  h.keep fun _ e hn => hb.block _ (hr.lt e hn)
theorem Wr.grown {row : Option Nat} (h : Wr w B A n) (hr : Rd w A n us) (hg : w.grownBy w' row) (hne : ∀ ad, A = some ad → 0 < n → row ≠ some ad.block) : Wr w' B A n :=
  h.keep fun ad e hn => hg.block _ (hr.lt e hn) (fun c => hne ad e hn c.symm)
theorem Wr.mono (h : Wr w B A n) (hB : B' ≤ B) : Wr w B' A n := fun hn => by
    obtain ⟨ad, e, hb, hc⟩ := h hn
    exact ⟨ad, e, Nat.le_trans hB hb, hc⟩
theorem Wr.base (h : Wr w B A n) {ad : Addr} (e : A = some ad) (hn : 0 < n) : B ≤ ad.block := by
    obtain ⟨ad', e', hb, _⟩ := h hn
    rw [e] at e'
    cases e'
    exact hb
end

theorem Below.drewN {B : Nat} {a w : World} (h : Below B a w) (m : Nat) : Below B a (w.drewN m) := ⟨h.os, h.tape, h.output, h.size, h.block⟩
theorem Below.left {B m : Nat} {a w : World} (h : Below B (a.drewN m) w) : Below B a w := ⟨h.os, h.tape, h.output, h.size, h.block⟩
theorem below_drewN (w : World) (m : Nat) : Below w.heap.size w (w.drewN m) := ⟨rfl, rfl, rfl, Nat.le_refl _, fun _ _ => rfl⟩

theorem grown_setCell {a w : World} {row : Option Nat} (h : a.grownBy w row) {p : Addr} (hp : row = some p.block ∨ a.heap.size ≤ p.block) (u : Value) : a.grownBy (w.setCell p u) row :=
  ⟨h.os, h.tape, h.output, by simpa [World.setCell] using h.size, fun i hi hne => (Below.heap_setCell _ p u i (by
    rintro rfl
    rcases hp with hp | hp
    · exact hne hp.symm
    · omega)).trans (h.block i hi hne)⟩
theorem grown_trans {a b c : World} {row : Option Nat} (h : a.grownBy b row) (k : b.grownBy c row) : a.grownBy c row :=
  ⟨k.os.trans h.os, k.tape.trans h.tape, k.output.trans h.output, Nat.le_trans h.size k.size, fun i hi hne => (k.block i (Nat.lt_of_lt_of_le hi h.size) hne).trans (h.block i hi hne)⟩
theorem grown_drewN {a w : World} {row : Option Nat} (h : a.grownBy w row) (m : Nat) : a.grownBy (w.drewN m) row := ⟨h.os, h.tape, h.output, h.size, h.block⟩
theorem add_inj {a : Addr} {i j : Nat} (h : a.add i = a.add j) : i = j := by
  obtain ⟨b, o, s⟩ := a
  unfold Addr.add at h
  split at h <;> split at h <;> simp_all

theorem Wr.blockp {w : World} {B : Nat} {A : Option Addr} {n k : Nat} (h : Wr w B A n) (hk : blkp A n = some k) : B ≤ k := by
  unfold blkp at hk
  split at hk
  · cases hk
  · obtain ⟨ad, e, hb, _⟩ := h (by omega)
    subst e
    simp [blk] at hk
    omega
theorem blkp_ne {A : Option Addr} {n b : Nat} (h : ∀ ad, A = some ad → 0 < n → ad.block ≠ b) : blkp A n ≠ some b := by
  unfold blkp
  split
  · simp
  · intro c
    rcases A with _ | ad
    · simp [blk] at c
    · simp [blk] at c; exact h ad rfl (by omega) c
theorem bcell {W w1 : World} (hb : Below W.heap.size W w1) : (∀ b o, b < W.heap.size → w1.cell? ⟨b, o, none⟩ = W.cell? ⟨b, o, none⟩) ∧ (∀ b o, b < W.heap.size → w1.frozen? ⟨b, o, none⟩ = W.frozen? ⟨b, o, none⟩) :=
  ⟨fun b o h => hb.cell (p := ⟨b, o, none⟩) h, fun b o h => hb.frozen (p := ⟨b, o, none⟩) h⟩

/-- A block that is known whole. -/
def Blk (w : World) (g : Nat) (t : TypeId) (cs : Array Value) : Prop := w.heap[g]? = some (.cells cs t (0, 0))
section
variable {w w' : World} {g : Nat} {t : TypeId} {cs : Array Value}
theorem Blk.lt (h : Blk w g t cs) : g < w.heap.size := by
  rcases Nat.lt_or_ge g w.heap.size with hlt | hge
  · exact hlt
  · unfold Blk at h; rw [Array.getElem?_eq_none hge] at h; cases h
theorem Blk.cell (h : Blk w g t cs) (i : Nat) : w.cell? ⟨g, i, none⟩ = cs[i]? := cell_of_row w g i cs t (0, 0) h
theorem Blk.frozen (h : Blk w g t cs) (i : Nat) : w.frozen? ⟨g, i, none⟩ = false := by
  unfold Blk at h
  simp [World.frozen?, h]
theorem Blk.new (w : World) (t : TypeId) (cs : Array Value) : Blk (w.alloc (.cells cs t)) w.heap.size t cs := heap_alloc_new w _
theorem Blk.drewN (h : Blk w g t cs) (n : Nat) : Blk (w.drewN n) g t cs := h
theorem Blk.alloc (h : Blk w g t cs) (o : Obj) : Blk (w.alloc o) g t cs := (Below.heap_alloc w o g h.lt).trans h
theorem Blk.set_ (h : Blk w g t cs) (i : Nat) (u : Value) : Blk (w.setCell ⟨g, i, none⟩ u) g t (cs.setIfInBounds i u) := by
  unfold Blk at h ⊢
  simp [World.setCell, Array.getElem?_modify, h]
theorem Blk.far (h : Blk w g t cs) {p : Addr} (hp : g ≠ p.block) (u : Value) : Blk (w.setCell p u) g t cs := (Below.heap_setCell w p u g hp).trans h
theorem Blk.below {B : Nat} (h : Blk w g t cs) (hb : Below B w w') (hg : g < B) : Blk w' g t cs := (hb.block g hg).trans h
theorem Blk.rd {n : Nat} {us : List Value} (h : Blk w g t cs) (hl : us.length = n) (hc : ∀ i, i < n → cs[i]? = us[i]?) : Rd w (some ⟨g, 0, none⟩) n us :=
  ⟨hl, fun _ => ⟨_, rfl, fun i hi => by rw [add_lit, h.cell, hc i hi]⟩⟩
theorem Blk.wr (h : Blk w g t cs) {B : Nat} (hB : B ≤ g) (n : Nat) : Wr w B (some ⟨g, 0, none⟩) n :=
  fun _ => ⟨_, rfl, hB, fun i _ => by rw [add_lit]; exact h.frozen i⟩
end
theorem madeCells_size (z : Array Value) (n : Nat) : (madeCells z n).size = n := by unfold madeCells; simp

theorem run_make_rowN {P : Program} (t e : TypeId) (i : TypeInfo) (z : Value) (ht : P.underlying t = some (.slice e)) (hi : P.info? e = some i) (hz : i.zero = some z)
    (kl kc : IntKind) (n c : Nat) (hnc : n ≤ c) (hbytes : i.bytes * c ≤ 281474976710656) (h63 : c ≤ 9223372036854775807) (w : World) :
    (Instr.makeSlice t (.int kl (n : Int)) (.int kc (c : Int))).run P w = .ok (.slice (some ⟨w.heap.size, 0, none⟩) n c) (w.alloc (.cells (madeCells z.cells (c * i.size)) e)) := by
  have hb : (i.bytes : Int) * (c : Int) ≤ 281474976710656 := by
    have h : ((i.bytes * c : Nat) : Int) ≤ 281474976710656 := by omega
    rwa [Int.natCast_mul] at h
  have hr := run_make (P := P) w t e i z ht hi hz kl kc n c (by omega) (by omega) hb (by omega)
  simp only [Int.toNat_natCast] at hr
  exact hr
theorem int64_info : (Tryd.prog.info? 2).map (fun i => (i.zero, i.size, i.bytes)) = some (some (.int .i64 0), 1, 8) := by kernel_rfl
theorem run_make_int64 (n : Nat) (hn : n ≤ 2097152) (w : World) :
    (Instr.makeSlice 24 (.int .i64 (n : Int)) (.int .i64 (n : Int))).run Tryd.prog w = .ok (.slice (some ⟨w.heap.size, 0, none⟩) n n) (w.alloc (.cells (madeCells #[.int .i64 0] n) 2)) := by
  obtain ⟨i0, hi0, hz0, hz1, hz2⟩ := info_parts int64_info
  have h := run_make_rowN (P := Tryd.prog) 24 2 i0 _ Tryd.underlying24 hi0 hz0 .i64 .i64 n n (Nat.le_refl _) (by rw [hz2]; omega) (by omega) w
  rw [hz1, Nat.mul_one] at h
  exact h
end Go.Proofs.YtilieonalmihaaaDoor

/- The statements' own helpers on lists of numbers: a copy, a comparison, marks laid and found. No condition beyond a length of at most 1048576 where memory is made. -/
namespace Go.Proofs.YtilieonalmihaaaDoor
open Go.RowKit

theorem Rd.int {w : World} {A : Option Addr} {n k : Nat} {xs : List Int} (h : Rd w A n (ints xs)) (hk : k < n) : ∃ ad, A = some ad ∧ w.cell? (ad.add k) = some (.int .i64 (xs.getD k 0)) := by
  obtain ⟨ad, u, rfl, hu, hc⟩ := h.at_ hk
  have hl : xs.length = n := by have := h.1; unfold ints at this; simpa using this
  refine ⟨ad, rfl, ?_⟩
  rw [hc, ← hu, ints_getElem?]
  simp [List.getElem?_eq_getElem (show k < xs.length by omega)]

/-- The numbers k, k + 1, .. -/
def marks (k : Int) (n : Nat) : List Int := (List.range n).map fun i : Nat => k + (i : Int)
theorem marks_length (k : Int) (n : Nat) : (marks k n).length = n := by unfold marks; simp
theorem marks_getD (k : Int) (n i : Nat) (h : i < n) : (marks k n).getD i 0 = k + (i : Int) := by
  unfold marks
  simp [h]

end Go.Proofs.YtilieonalmihaaaDoor

/- Small functions used everywhere: a number in a range, a list of numbers in a range and of at most a length, a copy of a list. No condition. -/
namespace Go.Proofs.YtilieonalmihaaaDoor
open Go.RowKit

theorem getD_at {xs : List Int} {k : Nat} (h : k < xs.length) : xs.getD k 0 = xs[k] := by simp [h]

def inR (x lo hi : Int) : Bool := decide (lo ≤ x) && decide (x ≤ hi)
theorem inR_true {x lo hi : Int} (h : inR x lo hi = true) : lo ≤ x ∧ x ≤ hi := by unfold inR at h; simpa using h
theorem inR_mk {x lo hi : Int} (h : lo ≤ x) (h' : x ≤ hi) : inR x lo hi = true := by unfold inR; simp [h, h']
theorem inR_false {x lo hi : Int} (h : inR x lo hi = false) : x < lo ∨ hi < x := by unfold inR at h; simp at h; omega
def allIn (xs : List Int) (lo hi : Int) : Bool := xs.all (fun x => inR x lo hi)
theorem allIn_true {xs : List Int} {lo hi : Int} (h : allIn xs lo hi = true) {x : Int} (hx : x ∈ xs) : lo ≤ x ∧ x ≤ hi := by
  unfold allIn at h; rw [List.all_eq_true] at h; exact inR_true (h x hx)
theorem allIn_getD {xs : List Int} {lo hi : Int} (h : allIn xs lo hi = true) {k : Nat} (hk : k < xs.length) : lo ≤ xs.getD k 0 ∧ xs.getD k 0 ≤ hi :=
  allIn_true h (by rw [getD_at hk]; exact List.getElem_mem hk)
theorem allIn_of_take {xs : List Int} {lo hi : Int} {k : Nat} (h : allIn (xs.take k) lo hi = true) (hk : xs.length ≤ k) : allIn xs lo hi = true := by rwa [List.take_of_length_le hk] at h
theorem allIn_take_succ {xs : List Int} {lo hi : Int} {k : Nat} (hk : k < xs.length) : allIn (xs.take (k + 1)) lo hi = (allIn (xs.take k) lo hi && inR (xs.getD k 0) lo hi) := by
  unfold allIn; rw [List.take_succ_eq_append_getElem hk, List.all_append, getD_at hk]; simp
theorem allIn_false_of {xs : List Int} {lo hi : Int} {k : Nat} (hk : k < xs.length) (h : inR (xs.getD k 0) lo hi = false) : allIn xs lo hi = false := by
  rw [Bool.eq_false_iff]; intro c
  have := allIn_getD c hk
  rw [inR_mk this.1 this.2] at h; cases h
/-- at most so many numbers, all in a range -/
def okList (xs : List Int) (most : Int) (lo hi : Int) : Bool := decide ((xs.length : Int) ≤ most) && allIn xs lo hi
theorem okList_true {xs : List Int} {most lo hi : Int} (h : okList xs most lo hi = true) : (xs.length : Int) ≤ most ∧ allIn xs lo hi = true := by unfold okList at h; simpa using h

theorem Rd.len {w : World} {A : Option Addr} {n : Nat} {xs : List Int} (h : Rd w A n (ints xs)) : xs.length = n := by have := h.1; unfold ints at this; simpa using this

theorem within_any (x lo hi : Int) (w : World) :
    Calls Tryd.prog 51 #[.int .i64 x, .int .i64 lo, .int .i64 hi] w fun e w' => e = .returned (.bool (inR x lo hi)) ∧ w = w' := by
  by_cases h1 : lo ≤ x
  · by_cases h2 : x ≤ hi
    · have e : inR x lo hi = true := inR_mk h1 h2
      go_enter Tryd.func51, Tryd.ntmps51
      go_wp2
      go_ret
      exact ⟨ret_bool (by first | rfl | rw [e]), rfl⟩
    · have e : inR x lo hi = false := by unfold inR; simp [h2]
      go_enter Tryd.func51, Tryd.ntmps51
      go_wp2
      go_ret
      exact ⟨ret_bool (by first | rfl | rw [e]), rfl⟩
  · have e : inR x lo hi = false := by unfold inR; simp [h1]
    go_enter Tryd.func51, Tryd.ntmps51
    go_wp2
    go_ret
    exact ⟨ret_bool (by first | rfl | rw [e]), rfl⟩

theorem l01In_any (x lo hi : Int) (w : World) :
    Calls Tryd.prog 39 #[.int .i64 x, .int .i64 lo, .int .i64 hi] w fun e w' => e = .returned (.bool (inR x lo hi)) ∧ w = w' := by
  by_cases h1 : lo ≤ x
  · by_cases h2 : x ≤ hi
    · have e : inR x lo hi = true := inR_mk h1 h2
      go_enter Tryd.func39, Tryd.ntmps39
      go_wp2
      go_ret
      exact ⟨ret_bool (by first | rfl | rw [e]), rfl⟩
    · have e : inR x lo hi = false := by unfold inR; simp [h2]
      go_enter Tryd.func39, Tryd.ntmps39
      go_wp2
      go_ret
      exact ⟨ret_bool (by first | rfl | rw [e]), rfl⟩
  · have e : inR x lo hi = false := by unfold inR; simp [h1]
    go_enter Tryd.func39, Tryd.ntmps39
    go_wp2
    go_ret
    exact ⟨ret_bool (by first | rfl | rw [e]), rfl⟩

end Go.Proofs.YtilieonalmihaaaDoor

/- Appending to a slice of the call's own: one number, or all that another slice holds; and what an owned row reads as. No condition. -/
namespace Go.Proofs.YtilieonalmihaaaDoor
open Go.RowKit

theorem run_append_of_nil {P : Program} (w : World) (base : Nat) (t ty e : TypeId) (i : TypeInfo) (size : Nat) (ht : P.underlying t = some (.slice e)) (hi : P.info? e = some i)
    (v : Value) (n : Nat) (xs : List Value) (hown : w.ownsRow base e size v n xs) (c : Nat) : (Builtin.append_ #[t, t] ty #[v, .slice none 0 c]).run P w = .ok v w := by
  rcases hown.2 with ⟨rfl, rfl⟩ | ⟨g, cap, cur, rfl, _, _, hnc, _⟩
  · simp [Builtin.append_, run_underlying ht, sizeOf, typeInfo, hi, Builtin.lenOf, Builtin.firstCells]
  · simp [Builtin.append_, run_underlying ht, sizeOf, typeInfo, hi, Builtin.lenOf, Builtin.firstCells, hnc, storeCells]

theorem oneCell_ints (xs : List Int) : ∀ u ∈ ints xs, u.oneCell' = true := by
  intro u hu; unfold ints at hu; rw [List.mem_map] at hu; obtain ⟨x, _, rfl⟩ := hu; rfl

theorem run_append_any {P : Program} (w : World) (base : Nat) (t ty e : TypeId) (i : TypeInfo) (z : Value) (size bytes : Nat) (ht : P.underlying t = some (.slice e)) (hi : P.info? e = some i) (hz : i.zero = some z)
    (hsize : i.size = size) (hby : i.bytes = bytes) (hzs : z.cells.size = size) (hsz : 0 < size)
    (v : Value) (n : Nat) (xs : List Value) (hown : w.ownsRow base e size v n xs)
    (A : Option Addr) (m c : Nat) (news : List Value) (hl : news.length = m * size) (hr : 0 < m → ∃ ad, A = some ad ∧ ∀ j u, news[j]? = some u → w.cell? (ad.add j) = some u) (h1 : ∀ u ∈ news, u.oneCell' = true)
    (h63 : n + m ≤ maxLen) (hbytes : (n + m) * bytes ≤ 140737488355328) (hbase : base ≤ w.heap.size) :
    ∃ v' w', (Builtin.append_ #[t, t] ty #[v, .slice A m c]).run P w = .ok v' w' ∧ w'.ownsRow base e size v' (n + m) (xs ++ news) ∧ w.grownBy w' v.ownBlock ∧
      (v'.ownBlock = v.ownBlock ∨ v'.ownBlock = some w.heap.size) := by
  rcases A with _ | ad
  · have hm : m = 0 := by
      rcases Nat.eq_zero_or_pos m with h0 | h0
      · exact h0
      · obtain ⟨ad, h, _⟩ := hr h0
        cases h
    subst hm
    have hn : news = [] := List.eq_nil_of_length_eq_zero (by simpa using hl)
    subst hn
    exact ⟨v, w, run_append_of_nil w base t ty e i size ht hi v n xs hown c, by simpa using hown, World.grownBy.refl w _, .inl rfl⟩
  · have hcells : ∀ j u, news[j]? = some u → w.cell? (ad.add j) = some u := by
      intro j u hu
      rcases Nat.eq_zero_or_pos m with h0 | h0
      · subst h0
        have hn : news = [] := List.eq_nil_of_length_eq_zero (by simpa using hl)
        subst hn
        simp at hu
      · obtain ⟨ad', h, hc⟩ := hr h0
        injection h with h
        subst h
        exact hc j u hu
    obtain ⟨v', w', hrun, h2, h3, _, h5⟩ := run_append_own_at (P := P) w base t ty e i z size bytes ht hi hz hsize hby hzs hsz v n xs hown ad m c news hl hcells h1 h63 hbytes hbase
    exact ⟨v', w', hrun, h2, h3, h5⟩

/-- A row of the call's own: its value's form, and what it reads as. -/
theorem own_rd {w : World} {base n : Nat} {e : TypeId} {v : Value} {us : List Value} (h : w.ownsRow base e 1 v n us) :
    ∃ B c, v = .slice B n c ∧ Rd w B n us ∧ Wr w base B n ∧ n ≤ c ∧ (B = none → n = 0) := by
  obtain ⟨hl, h2⟩ := h
  rcases h2 with ⟨rfl, rfl⟩ | ⟨g, cap, cur, rfl, hb, hh, hc, _, hs, ht⟩
  · obtain rfl : us = [] := List.eq_nil_of_length_eq_zero (by simpa using hl)
    exact ⟨none, 0, rfl, Rd.nil _ _, fun h => absurd h (by omega), Nat.le_refl _, fun _ => rfl⟩
  · refine ⟨some ⟨g, 0, none⟩, cap, rfl, Blk.rd (cs := cur) hh (by simpa using hl) (fun i hi => ?_), Blk.wr (cs := cur) hh hb n, hc, fun h => by cases h⟩
    rw [← ht, List.getElem?_take, if_pos (by simpa using hi)]
    simp
theorem own_below {w w' : World} {base n : Nat} {e : TypeId} {v : Value} {us : List Value} (h : w.ownsRow base e 1 v n us) (hb : Below w.heap.size w w') : w'.ownsRow base e 1 v n us :=
  h.kept (row := none) ⟨hb.os, hb.tape, hb.output, hb.size, fun k hk _ => hb.block k hk⟩ (by cases v.ownBlock <;> simp)
theorem own_drewN {w : World} {base n m : Nat} {e : TypeId} {v : Value} {us : List Value} (h : w.ownsRow base e 1 v n us) : (w.drewN m).ownsRow base e 1 v n us := h
theorem own_base {w : World} {base b n : Nat} {e : TypeId} {v : Value} {us : List Value} (h : w.ownsRow base e 1 v n us) (hb : b ≤ base) : w.ownsRow b e 1 v n us := by
  obtain ⟨hl, h2⟩ := h
  rcases h2 with h2 | ⟨g, cap, cur, rfl, hb', r⟩
  · exact ⟨hl, .inl h2⟩
  · exact ⟨hl, .inr ⟨g, cap, cur, rfl, Nat.le_trans hb hb', r⟩⟩
theorem own_empty (w : World) (e : TypeId) : (w.alloc (.cells #[] e)).ownsRow w.heap.size e 1 (.slice (some ⟨w.heap.size, 0, none⟩) 0 0) 0 [] :=
  World.ownsRow_made w #[] 0 (Nat.le_refl _) (Nat.zero_le _) rfl

theorem wp_append_ints {o : Oper} {a : Act} {K : Act → World → Prop} {Q : Exit → Act → World → Prop} {w : World} (s x : Operand)
    (ho : o.op = .call { callee := .builtin .append, args := #[s, x], argTypes := #[24, 24] })
    (base : Nat) (v : Value) (n : Nat) (xs ys : List Int) (A : Option Addr) (m c : Nat) (hs : a.eval s = v) (hx : a.eval x = .slice A m c)
    (hown : w.ownsRow base 2 1 v n (ints xs)) (hr : Rd w A m (ints ys)) (hn : n + m ≤ 1099511627776) (hbase : base ≤ w.heap.size)
    (h : ∀ v' w', w'.ownsRow base 2 1 v' (n + m) (ints (xs ++ ys)) → Below base w w' → w.grownBy w' v.ownBlock → (v'.ownBlock = v.ownBlock ∨ v'.ownBlock = some w.heap.size) → K (a.put o.dst v') w') : o.wp Tryd.prog a w K Q := by
  obtain ⟨i0, hi0, hz0, hz1, hz2⟩ := info_parts int64_info
  obtain ⟨v', w', hrun, h2, h3, h4⟩ := run_append_any (P := Tryd.prog) w base 24 o.type 2 i0 _ 1 8 Tryd.underlying24 hi0 hz0 hz1 hz2 rfl (by omega) v n (ints xs) hown A m c (ints ys)
    (by rw [hr.1, Nat.mul_one]) (fun hm => by
      obtain ⟨ad, e, hc⟩ := hr.2 hm
      exact ⟨ad, e, fun j u hu => by rw [hc j (by have := (List.getElem?_eq_some_iff.1 hu).1; rwa [hr.1] at this)]; exact hu⟩) (oneCell_ints ys) (by unfold maxLen; omega) (by omega) hbase
  unfold Oper.wp execOp
  simp only [ho, resolve, invoke, builtin, Sem.run_bind, Sem.run_pure, Result.andThen_ok, List.map_toArray, List.map_cons, List.map_nil, hs, hx, hrun]
  refine h v' w' (by unfold ints at h2 ⊢; simpa using h2) ((Below.refl _ _).grown h3 hbase (fun k hk => (hown.lt k hk).1)) h3 h4

theorem wpList_append_ints {ops : Array Oper} {rest : List Oper} {o : Oper} {a : Act} {Q : Exit → Act → World → Prop} {w : World} (hgd : o.guard = none) (s x : Operand)
    (ho : o.op = .call { callee := .builtin .append, args := #[s, x], argTypes := #[24, 24] })
    (base : Nat) (v : Value) (n : Nat) (xs ys : List Int) (A : Option Addr) (m c : Nat) (hs : a.eval s = v) (hx : a.eval x = .slice A m c)
    (hown : w.ownsRow base 2 1 v n (ints xs)) (hr : Rd w A m (ints ys)) (hn : n + m ≤ 1099511627776) (hbase : base ≤ w.heap.size)
    (h : ∀ v' w', w'.ownsRow base 2 1 v' (n + m) (ints (xs ++ ys)) → Below base w w' → w.grownBy w' v.ownBlock → (v'.ownBlock = v.ownBlock ∨ v'.ownBlock = some w.heap.size) → wpList Tryd.prog ops Q rest (a.put o.dst v') w') : wpList Tryd.prog ops Q (o :: rest) a w :=
  wpList_plain hgd fun _ hK => wp_append_ints s x ho base v n xs ys A m c hs hx hown hr hn hbase fun v' w' h2 h3 h4 h5 => hK _ _ (h v' w' h2 h3 h4 h5)

/-- One number: it stands in a new block of one cell. -/
theorem rd_one (w : World) (x : Int) (e : TypeId) : Rd (w.alloc (.cells #[.int .i64 x] e)) (some ⟨w.heap.size, 0, none⟩) 1 (ints [x]) :=
  (Blk.new w e #[.int .i64 x]).rd rfl (fun i hi => by obtain rfl : i = 0 := by omega
                                                      rfl)
theorem wpList_append_int1 {ops : Array Oper} {rest : List Oper} {o : Oper} {a : Act} {Q : Exit → Act → World → Prop} {w : World} {u : Int} {e : TypeId} (hgd : o.guard = none) (s x : Operand)
    (ho : o.op = .call { callee := .builtin .append, args := #[s, x], argTypes := #[24, 24] })
    (base : Nat) (v : Value) (n : Nat) (xs : List Int) (hs : a.eval s = v) (hx : a.eval x = .slice (some ⟨w.heap.size, 0, none⟩) 1 1)
    (hown : w.ownsRow base 2 1 v n (ints xs)) (hn : n + 1 ≤ 1099511627776) (hbase : base ≤ w.heap.size)
    (h : ∀ v' w', w'.ownsRow base 2 1 v' (n + 1) (ints (xs ++ [u])) → Below base w w' → w.grownBy w' v.ownBlock → (v'.ownBlock = v.ownBlock ∨ w.heap.size ≤ v'.ownBlock.getD 0) → wpList Tryd.prog ops Q rest (a.put o.dst v') w') :
    wpList Tryd.prog ops Q (o :: rest) a (w.alloc (.cells #[.int .i64 u] e)) :=
  wpList_append_ints hgd s x ho base v n xs [u] _ 1 1 hs hx (hown.alloc _) (rd_one w u e) hn (by simp; omega) fun v' w' h2 h3 h4 h5 =>
    h v' w' h2 (((Below.refl _ _).alloc hbase _).trans h3) (grown_trans (World.grownBy_alloc w _ _) h4) (h5.imp id fun h5 => by rw [h5]; simp)

theorem wpList_append_int1g {ops : Array Oper} {rest : List Oper} {o : Oper} {a : Act} {Q : Exit → Act → World → Prop} {w : World} {u : Int} {e : TypeId} (g : Nat) (hg : w.heap.size = g) (hgd : o.guard = none) (s x : Operand)
    (ho : o.op = .call { callee := .builtin .append, args := #[s, x], argTypes := #[24, 24] })
    (base : Nat) (v : Value) (n : Nat) (xs : List Int) (hs : a.eval s = v) (hx : a.eval x = .slice (some ⟨g, 0, none⟩) 1 1)
    (hown : w.ownsRow base 2 1 v n (ints xs)) (hn : n + 1 ≤ 1099511627776) (hbase : base ≤ w.heap.size)
    (h : ∀ v' w', w'.ownsRow base 2 1 v' (n + 1) (ints (xs ++ [u])) → Below base w w' → w.grownBy w' v.ownBlock → (v'.ownBlock = v.ownBlock ∨ w.heap.size ≤ v'.ownBlock.getD 0) → wpList Tryd.prog ops Q rest (a.put o.dst v') w') :
    wpList Tryd.prog ops Q (o :: rest) a (w.alloc (.cells #[.int .i64 u] e)) := by
  subst hg
  exact wpList_append_int1 hgd s x ho base v n xs hs hx hown hn hbase h
theorem rd_pair (w : World) (x y : Int) (e : TypeId) : Rd (w.alloc (.cells #[.int .i64 x, .int .i64 y] e)) (some ⟨w.heap.size, 0, none⟩) 2 (ints [x, y]) :=
  (Blk.new w e #[.int .i64 x, .int .i64 y]).rd rfl (fun i hi => by
    match i, hi with
    | 0, _ => rfl
    | 1, _ => rfl)
theorem wpList_append_int2 {ops : Array Oper} {rest : List Oper} {o : Oper} {a : Act} {Q : Exit → Act → World → Prop} {w : World} {u u' : Int} {e : TypeId} (hgd : o.guard = none) (s x : Operand)
    (ho : o.op = .call { callee := .builtin .append, args := #[s, x], argTypes := #[24, 24] })
    (base : Nat) (v : Value) (n : Nat) (xs : List Int) (hs : a.eval s = v) (hx : a.eval x = .slice (some ⟨w.heap.size, 0, none⟩) 2 2)
    (hown : w.ownsRow base 2 1 v n (ints xs)) (hn : n + 2 ≤ 1099511627776) (hbase : base ≤ w.heap.size)
    (h : ∀ v' w', w'.ownsRow base 2 1 v' (n + 2) (ints (xs ++ [u, u'])) → Below base w w' → w.grownBy w' v.ownBlock → (v'.ownBlock = v.ownBlock ∨ w.heap.size ≤ v'.ownBlock.getD 0) → wpList Tryd.prog ops Q rest (a.put o.dst v') w') :
    wpList Tryd.prog ops Q (o :: rest) a (w.alloc (.cells #[.int .i64 u, .int .i64 u'] e)) :=
  wpList_append_ints hgd s x ho base v n xs [u, u'] _ 2 2 hs hx (hown.alloc _) (rd_pair w u u' e) hn (by simp; omega) fun v' w' h2 h3 h4 h5 =>
    h v' w' h2 (((Below.refl _ _).alloc hbase _).trans h3) (grown_trans (World.grownBy_alloc w _ _) h4) (h5.imp id fun h5 => by rw [h5]; simp)

set_option maxHeartbeats 400000 in
theorem l01Own_any (A : Option Addr) (n c : Nat) (xs : List Int) (w : World) (hn : n ≤ 2097152) (hr : Rd w A n (ints xs)) :
    Calls Tryd.prog 42 #[.slice A n c] w fun e w' => ∃ v, e = .returned v ∧ w'.ownsRow w.heap.size 2 1 v n (ints xs) ∧ Below w.heap.size w w' := by
  go_enter Tryd.func42, Tryd.ntmps42
  go_wp2_with (at_builtin; refine wpList_append_ints rfl _ _ rfl w.heap.size (.slice (some ⟨w.heap.size, 0, none⟩) 0 0) 0 [] xs A n c rfl rfl (own_empty w _) ?_ (by omega) (by simp) ?_; exact hr.below ((Below.refl _ _).alloc (Nat.le_refl _) _); intro v' w' hown hbel _ _)
  go_ret
  exact ⟨_, rfl, by simpa using hown, ((Below.refl _ _).alloc (Nat.le_refl _) _).trans hbel⟩

set_option maxHeartbeats 400000 in
theorem clone_any (A : Option Addr) (n c : Nat) (xs : List Int) (w : World) (hn : n ≤ 2097152) (hr : Rd w A n (ints xs)) :
    Calls Tryd.prog 41 #[.slice A n c] w fun e w' => ∃ v, e = .returned v ∧ w'.ownsRow w.heap.size 2 1 v n (ints xs) ∧ Below w.heap.size w w' := by
  rcases A with _ | ad
  · have h0 : n = 0 := by
      rcases Nat.eq_zero_or_pos n with h | h
      · exact h
      · obtain ⟨ad, e, _⟩ := hr.2 h
        cases e
    subst h0
    obtain rfl : xs = [] := List.eq_nil_of_length_eq_zero hr.len
    have hnil := fun (W : World) => Lib.run_eql_slice_nil (P := Tryd.prog) W 24 2 none 0 c 0 0 Tryd.underlying24
    simp only [Option.isNone_none] at hnil
    go_enter Tryd.func41, Tryd.ntmps41
    go_wp2_with fail
    go_ret
    exact ⟨_, rfl, World.ownsRow_nil _ _ _ _, Below.refl _ _⟩
  · have hnil := fun (W : World) => Lib.run_eql_slice_nil (P := Tryd.prog) W 24 2 (some ad) n c 0 0 Tryd.underlying24
    simp only [Option.isNone_some] at hnil
    go_enter Tryd.func41, Tryd.ntmps41
    go_wp2_with (at_builtin; refine wpList_append_ints rfl _ _ rfl w.heap.size (.slice (some ⟨w.heap.size, 0, none⟩) 0 0) 0 [] xs (some ad) n c rfl rfl (own_empty w _) ?_ (by omega) (by simp) ?_; exact hr.below ((Below.refl _ _).alloc (Nat.le_refl _) _); intro v' w' hown hbel _ _)
    go_ret
    exact ⟨_, rfl, by simpa using hown, ((Below.refl _ _).alloc (Nat.le_refl _) _).trans hbel⟩
end Go.Proofs.YtilieonalmihaaaDoor

/- Words for results: a list of numbers in memory of the call's own, with a code; lists that are written in place. Plain lemmas, no condition. -/
namespace Go.Proofs.YtilieonalmihaaaDoor
open Go.RowKit

theorem bstep {B : Nat} {a b c : World} (h : Below B a b) (k : Below b.heap.size b c) (hB : B ≤ a.heap.size) : Below B a c := h.trans (k.mono (Nat.le_trans hB h.size))
theorem bnext {a b c : World} (h : Below a.heap.size a b) (k : Below b.heap.size b c) : Below a.heap.size a c := bstep h k (Nat.le_refl _)
theorem bstepg {B : Nat} {a b c : World} {row : Option Nat} (h : Below B a b) (g : b.grownBy c row) (hB : B ≤ a.heap.size) (hr : ∀ k, row = some k → B ≤ k) : Below B a c :=
  h.grown g (Nat.le_trans hB h.size) hr

/-- The call has returned the list ys, in memory of its own, and a code. -/
def RetIC (ys : List Int) (code : Int) (w : World) (e : Ending) (w' : World) : Prop :=
  ∃ B m d, e = .returned (.tuple #[.slice B m d, .int .i64 code]) ∧ Rd w' B m (ints ys) ∧ Wr w' w.heap.size B m ∧ m ≤ 1048576 ∧ Below w.heap.size w w'
/-- .. the list, a number and a code. -/
def RetIIC (ys : List Int) (k code : Int) (w : World) (e : Ending) (w' : World) : Prop :=
  ∃ B m d, e = .returned (.tuple #[.slice B m d, .int .i64 k, .int .i64 code]) ∧ Rd w' B m (ints ys) ∧ Wr w' w.heap.size B m ∧ m ≤ 1048576 ∧ Below w.heap.size w w'
theorem retIC_nil {w w' : World} {code : Int} (h : Below w.heap.size w w') : RetIC [] code w (.returned (.tuple #[.slice none 0 0, .int .i64 code])) w' :=
  ⟨none, 0, 0, rfl, Rd.nil _ _, fun h => absurd h (by omega), by omega, h⟩
theorem retIIC_nil {w w' : World} {k code : Int} (h : Below w.heap.size w w') : RetIIC [] k code w (.returned (.tuple #[.slice none 0 0, .int .i64 k, .int .i64 code])) w' :=
  ⟨none, 0, 0, rfl, Rd.nil _ _, fun h => absurd h (by omega), by omega, h⟩

theorem ints_set (xs : List Int) (k : Nat) (x : Int) : ints (xs.set k x) = (ints xs).set k (.int .i64 x) := by unfold ints; rw [List.map_set]
theorem ints_append (xs ys : List Int) : ints (xs ++ ys) = ints xs ++ ints ys := by unfold ints; simp
section
variable {w : World} {A : Option Addr} {n k B : Nat} {us : List Value} {u : Value} {ad : Addr}
theorem Rd.set_ (h : Rd w A n us) (hk : k < n) (e : A = some ad) : Rd (w.setCell (ad.add k) u) A n (us.set k u) := by
  refine ⟨by rw [List.length_set]; exact h.1, fun hn => ⟨ad, e, fun i hi => ?_⟩⟩
  obtain ⟨ad', e', hc⟩ := h.2 hn
  rw [e] at e'
  cases e'
  by_cases hik : i = k
  · subst hik
    obtain ⟨ad'', v, e'', hv, hcell⟩ := h.at_ hi
    rw [e] at e''
    cases e''
    rw [World.cell?_setCell_same _ _ _ hcell, List.getElem?_set_self (by rw [h.1]; exact hi)]
  · rw [World.cell?_setCell_other _ _ _ _ (fun c => hik (add_inj c).symm), hc i hi, List.getElem?_set_ne (fun c => hik c.symm)]
theorem Wr.set_ (h : Wr w B A n) (p : Addr) : Wr (w.setCell p u) B A n := fun hn => by
  obtain ⟨ad, e, hb, hf⟩ := h hn
  exact ⟨ad, e, hb, fun i hi => by rw [World.frozen?_setCell]; exact hf i hi⟩
theorem Rd.seti {xs : List Int} {x : Int} (h : Rd w A n (ints xs)) (hk : k < n) (e : A = some ad) : Rd (w.setCell (ad.add k) (.int .i64 x)) A n (ints (xs.set k x)) := by
  rw [ints_set]; exact h.set_ hk e
end

/-- The first k of L, then what xs has. -/
def mix (L xs : List Int) (k : Nat) : List Int := L.take k ++ xs.drop k
theorem mix_zero (L xs : List Int) : mix L xs 0 = xs := by unfold mix; simp
theorem mix_end (L xs : List Int) (h : L.length = xs.length) : mix L xs xs.length = L := by unfold mix; rw [← h, List.take_length, h, List.drop_length, List.append_nil]
theorem mix_getD (L xs : List Int) (h : L.length = xs.length) {k : Nat} (hk : k < xs.length) : (mix L xs k).getD k 0 = xs.getD k 0 := by
  unfold mix
  have : (L.take k).length = k := by simp; omega
  simp [List.getElem?_append_right, this]
theorem mix_set (L xs : List Int) (h : L.length = xs.length) {k : Nat} (hk : k < xs.length) : (mix L xs k).set k (L.getD k 0) = mix L xs (k + 1) := by
  unfold mix
  have h1 : (L.take k).length = k := by simp; omega
  rw [List.set_append_right _ _ (by omega), h1, Nat.sub_self, List.drop_eq_getElem_cons hk, List.set_cons_zero, List.take_succ_eq_append_getElem (by omega), getD_at (by omega), List.append_assoc]
  rfl
theorem range_map_snoc {α : Type} (f : Nat → α) (k : Nat) : (List.range (k + 1)).map f = (List.range k).map f ++ [f k] := by rw [List.range_succ, List.map_append]; rfl
theorem range_map_getD (f : Nat → Int) {n k : Nat} (h : k < n) : ((List.range n).map f).getD k 0 = f k := by simp [h]
end Go.Proofs.YtilieonalmihaaaDoor

/- A list of numbers that comes in as an argument, and a comparison that leaves memory as it was. No condition. -/
namespace Go.Proofs.YtilieonalmihaaaDoor
open Go.RowKit

/-- What is known of a list of numbers that came in. -/
structure ArgI (w : World) (A : Option Addr) (n c : Nat) (xs : List Int) : Prop where
  rd : Rd w A n (ints xs)
  cap : n ≤ c
  max : n ≤ 9223372036854775807
  wf : ∀ x ∈ xs, (Lit.int .i64 x).wf = true
theorem argI_nil (w : World) : ArgI w none 0 0 [] := ⟨Rd.nil _ _, Nat.le_refl _, by omega, fun _ h => by cases h⟩
theorem argI_mk {w : World} {x : Addr} {l c : Nat} {zs : List Int} (hl : l ≤ c) (hm : c ≤ maxLen) (hz : zs.length = c)
    (hcell : ∀ i, i < zs.length → w.cell? (x.add i) = some (.int .i64 (zs.getD i 0))) (hwz : ∀ n ∈ zs, (Lit.int .i64 n).wf = true) : ArgI w (some x) l c (zs.take l) := by
  refine ⟨⟨by unfold ints; simp; omega, fun _ => ⟨x, rfl, fun i hi => ?_⟩⟩, hl, by unfold maxLen at hm; omega, fun n hn => hwz n (List.mem_of_mem_take hn)⟩
  rw [hcell i (by omega), ints_getElem?]
  simp [hi, List.getElem?_eq_getElem (show i < zs.length by omega)]

end Go.Proofs.YtilieonalmihaaaDoor

/- Several slices at a time: reading, writing, apart from one another, touched or left alone. Plain lemmas, no condition. -/
namespace Go.Proofs.YtilieonalmihaaaDoor
open Go.RowKit

/-- A slice: its address, its cells, what they hold. -/
structure Sl where
  A : Option Addr
  n : Nat
  us : List Value
def Sl.row (s : Sl) : Option Nat := blkp s.A s.n
def RdAll (w : World) (l : List Sl) : Prop := ∀ s ∈ l, Rd w s.A s.n s.us
def WrAll (w : World) (B : Nat) (l : List Sl) : Prop := ∀ s ∈ l, Wr w B s.A s.n
def Lo (r : List (Option Nat)) (B : Nat) : Prop := ∀ s ∈ r, ∀ b, s = some b → b < B
def Hi (r : List (Option Nat)) (B : Nat) : Prop := ∀ s ∈ r, ∀ b, s = some b → B ≤ b
def Off (r q : List (Option Nat)) : Prop := ∀ s ∈ r, ∀ t ∈ q, ∀ b, s = some b → t ≠ some b
def Sep (r : List (Option Nat)) : Prop := r.Pairwise fun s t => ∀ b, s = some b → t ≠ some b
structure Touch (w w' : World) (r : List (Option Nat)) : Prop where
  os : w'.os = w.os
  tape : w'.tape = w.tape
  output : w'.output = w.output
  size : w.heap.size ≤ w'.heap.size
  block : ∀ k, k < w.heap.size → (∀ s ∈ r, s ≠ some k) → w'.heap[k]? = w.heap[k]?

section
variable {w w' : World} {l m : List Sl} {r q : List (Option Nat)} {B C : Nat}
theorem RdAll.nil (w : World) : RdAll w [] := fun _ h => by cases h
theorem RdAll.cons {s : Sl} (h : Rd w s.A s.n s.us) (k : RdAll w l) : RdAll w (s :: l) := fun t ht => by
  rcases List.mem_cons.1 ht with rfl | ht
  · exact h
  · exact k t ht
theorem RdAll.head {s : Sl} (h : RdAll w (s :: l)) : Rd w s.A s.n s.us := h s (List.mem_cons_self ..)
theorem RdAll.tail {s : Sl} (h : RdAll w (s :: l)) : RdAll w l := fun t ht => h t (List.mem_cons_of_mem _ ht)
theorem WrAll.nil (w : World) (B : Nat) : WrAll w B [] := fun _ h => by cases h
theorem WrAll.cons {s : Sl} (h : Wr w B s.A s.n) (k : WrAll w B l) : WrAll w B (s :: l) := fun t ht => by
  rcases List.mem_cons.1 ht with rfl | ht
  · exact h
  · exact k t ht
theorem WrAll.head {s : Sl} (h : WrAll w B (s :: l)) : Wr w B s.A s.n := h s (List.mem_cons_self ..)
theorem WrAll.tail {s : Sl} (h : WrAll w B (s :: l)) : WrAll w B l := fun t ht => h t (List.mem_cons_of_mem _ ht)
theorem WrAll.lower (h : WrAll w B l) (hB : C ≤ B) : WrAll w C l := fun s hs hn => by
  obtain ⟨ad, e, hb, hc⟩ := h s hs hn
  exact ⟨ad, e, Nat.le_trans hB hb, hc⟩
theorem Wr.lower {A : Option Addr} {n : Nat} (h : Wr w B A n) (hB : C ≤ B) : Wr w C A n := fun hn => by
  obtain ⟨ad, e, hb, hc⟩ := h hn
  exact ⟨ad, e, Nat.le_trans hB hb, hc⟩
theorem RdAll.below (h : RdAll w l) (hb : Below w.heap.size w w') : RdAll w' l := fun s hs => (h s hs).below hb
theorem WrAll.below (h : WrAll w B l) (hr : RdAll w l) (hb : Below w.heap.size w w') : WrAll w' B l := fun s hs => (h s hs).below (hr s hs) hb
theorem row_some {A : Option Addr} {n b : Nat} (h : blkp A n = some b) : ∃ ad, A = some ad ∧ 0 < n ∧ ad.block = b := by
  unfold blkp at h
  split at h
  · cases h
  · rcases A with _ | ad
    · simp [blk] at h
    · exact ⟨ad, rfl, by omega, by simpa [blk] using h⟩
theorem RdAll.lo (h : RdAll w l) : Lo (l.map Sl.row) w.heap.size := fun s hs b e => by
  obtain ⟨t, ht, rfl⟩ := List.mem_map.1 hs
  obtain ⟨ad, e1, hn, rfl⟩ := row_some e
  exact (h t ht).lt e1 hn
theorem WrAll.hi (h : WrAll w B l) : Hi (l.map Sl.row) B := fun s hs b e => by
  obtain ⟨t, ht, rfl⟩ := List.mem_map.1 hs
  obtain ⟨ad, e1, hn, rfl⟩ := row_some e
  exact (h t ht).base e1 hn
theorem Lo.mono (h : Lo r B) (hB : B ≤ C) : Lo r C := fun s hs b e => Nat.lt_of_lt_of_le (h s hs b e) hB
theorem Hi.mono (h : Hi r B) (hB : C ≤ B) : Hi r C := fun s hs b e => Nat.le_trans hB (h s hs b e)
theorem Off.up (h : Lo q B) (k : Hi r B) : Off r q := fun s hs t ht b e c => by have := h t ht b c; have := k s hs b e; omega
theorem Off.dn (h : Hi q B) (k : Lo r B) : Off r q := fun s hs t ht b e c => by have := h t ht b c; have := k s hs b e; omega
theorem Touch.refl (w : World) (r : List (Option Nat)) : Touch w w r := ⟨rfl, rfl, rfl, Nat.le_refl _, fun _ _ _ => rfl⟩
theorem Touch.of_grown {row : Option Nat} (g : w.grownBy w' row) : Touch w w' [row] :=
  ⟨g.os, g.tape, g.output, g.size, fun k hk hne => g.block k hk (fun c => hne row (List.mem_cons_self ..) c.symm)⟩
theorem Touch.trans {w1 : World} (h : Touch w w1 r) (k : Touch w1 w' q) : Touch w w' (r ++ q) :=
  ⟨k.os.trans h.os, k.tape.trans h.tape, k.output.trans h.output, Nat.le_trans h.size k.size, fun i hi hne =>
    (k.block i (Nat.lt_of_lt_of_le hi h.size) fun s hs => hne s (List.mem_append_right _ hs)).trans (h.block i hi fun s hs => hne s (List.mem_append_left _ hs))⟩
theorem Rd.touch {A : Option Addr} {n : Nat} {us : List Value} (h : Rd w A n us) (t : Touch w w' r) (o : Off r [blkp A n]) : Rd w' A n us :=
  h.keep fun ad e hn => t.block _ (h.lt e hn) fun s hs c => o s hs _ (List.mem_cons_self ..) _ c (by unfold blkp; rw [if_neg (by omega), e]; rfl)
theorem Wr.touch {A : Option Addr} {n : Nat} {us : List Value} (hw : Wr w B A n) (h : Rd w A n us) (t : Touch w w' r) (o : Off r [blkp A n]) : Wr w' B A n :=
  hw.keep fun ad e hn => t.block _ (h.lt e hn) fun s hs c => o s hs _ (List.mem_cons_self ..) _ c (by unfold blkp; rw [if_neg (by omega), e]; rfl)
theorem RdAll.touch (h : RdAll w l) (t : Touch w w' r) (o : Off r (l.map Sl.row)) : RdAll w' l := fun s hs =>
  (h s hs).touch t fun x hx y hy b e => by
    rcases List.mem_cons.1 hy with rfl | hy
    · exact o x hx _ (List.mem_map_of_mem hs) b e
    · cases hy
theorem WrAll.touch (hw : WrAll w B l) (h : RdAll w l) (t : Touch w w' r) (o : Off r (l.map Sl.row)) : WrAll w' B l := fun s hs =>
  (hw s hs).touch (h s hs) t fun x hx y hy b e => by
    rcases List.mem_cons.1 hy with rfl | hy
    · exact o x hx _ (List.mem_map_of_mem hs) b e
    · cases hy
theorem bstepT {a b c : World} (h : Below B a b) (t : Touch b c r) (hB : B ≤ a.heap.size) (hi : Hi r B) : Below B a c :=
  ⟨t.os.trans h.os, t.tape.trans h.tape, t.output.trans h.output, Nat.le_trans h.size t.size, fun k hk =>
    (t.block k (Nat.lt_of_lt_of_le hk (Nat.le_trans hB h.size)) fun s hs c => by have := hi s hs k c; omega).trans (h.block k hk)⟩
theorem Off.cons {s : Option Nat} (h : ∀ t ∈ q, ∀ b, s = some b → t ≠ some b) (k : Off r q) : Off (s :: r) q := fun x hx => by
  rcases List.mem_cons.1 hx with rfl | hx
  · exact h
  · exact k x hx
theorem Off.swap (h : Off r q) : Off q r := fun s hs t ht b e c => h t ht s hs b c e
theorem Sep.tail {s : Option Nat} (h : Sep (s :: r)) : Sep r := (List.pairwise_cons.1 h).2
theorem Sep.off {s : Option Nat} (h : Sep (s :: r)) : Off [s] r := fun x hx t ht b e => by
  rcases List.mem_cons.1 hx with rfl | hx
  · exact (List.pairwise_cons.1 h).1 t ht b e
  · cases hx
theorem Sep.nil : Sep [] := List.Pairwise.nil
theorem Sep.cons {s : Option Nat} (o : Off [s] r) (h : Sep r) : Sep (s :: r) := List.pairwise_cons.2 ⟨fun t ht b e => o s (List.mem_cons_self ..) t ht b e, h⟩
theorem Sep.one (s : Option Nat) : Sep [s] := Sep.cons (fun _ _ _ h => by cases h) Sep.nil
theorem Hi.cons {s : Option Nat} (h : ∀ b, s = some b → B ≤ b) (k : Hi r B) : Hi (s :: r) B := fun x hx => by
  rcases List.mem_cons.1 hx with rfl | hx
  · exact h
  · exact k x hx
theorem Lo.cons {s : Option Nat} (h : ∀ b, s = some b → b < B) (k : Lo r B) : Lo (s :: r) B := fun x hx => by
  rcases List.mem_cons.1 hx with rfl | hx
  · exact h
  · exact k x hx
theorem Lo.nil (B : Nat) : Lo [] B := fun _ h => by cases h
theorem Hi.nil (B : Nat) : Hi [] B := fun _ h => by cases h
theorem Off.nil (r : List (Option Nat)) : Off r [] := fun _ _ _ h => by cases h
theorem Off.head {s : Option Nat} (h : Off r (s :: q)) : Off r [s] := fun x hx t ht => by
  rcases List.mem_cons.1 ht with rfl | ht
  · exact h x hx _ (List.mem_cons_self ..)
  · cases ht
theorem Off.tail {s : Option Nat} (h : Off r (s :: q)) : Off r q := fun x hx t ht => h x hx t (List.mem_cons_of_mem _ ht)
theorem Off.append {p : List (Option Nat)} (h : Off r q) (k : Off p q) : Off (r ++ p) q := fun x hx => by
  rcases List.mem_append.1 hx with hx | hx
  · exact h x hx
  · exact k x hx
end
theorem size_alloc1 (w : World) (a : Obj) : (w.alloc a).heap.size = w.heap.size + 1 := by simp
theorem Blk.new1 (w : World) (a : Obj) (t : TypeId) (cs : Array Value) : Blk ((w.alloc a).alloc (.cells cs t)) (w.heap.size + 1) t cs := by
  have := Blk.new (w.alloc a) t cs
  rwa [size_alloc1] at this
theorem Blk.new2 (w : World) (a b : Obj) (t : TypeId) (cs : Array Value) : Blk (((w.alloc a).alloc b).alloc (.cells cs t)) (w.heap.size + 1 + 1) t cs := by
  have := Blk.new ((w.alloc a).alloc b) t cs
  rwa [size_alloc1, size_alloc1] at this
/-- What lies from block B on is as it was. -/
structure Above (B : Nat) (a w : World) : Prop where
  size : a.heap.size ≤ w.heap.size
  block : ∀ k, B ≤ k → k < a.heap.size → w.heap[k]? = a.heap[k]?
section
variable {a w w' : World} {B C n : Nat} {A : Option Addr} {us : List Value}
theorem Above.refl (B : Nat) (w : World) : Above B w w := ⟨Nat.le_refl _, fun _ _ _ => rfl⟩
theorem Above.setCell (h : Above B a w) {p : Addr} (hp : p.block < B) (u : Value) : Above B a (w.setCell p u) :=
  ⟨by simpa [World.setCell] using h.size, fun k hk hl => (Below.heap_setCell w p u k (by omega)).trans (h.block k hk hl)⟩
theorem Above.alloc (h : Above B a w) (o : Obj) : Above B a (w.alloc o) :=
  ⟨by have := h.size; simp; omega, fun k hk hl => (Below.heap_alloc w o k (Nat.lt_of_lt_of_le hl h.size)).trans (h.block k hk hl)⟩
theorem Above.below (h : Above B a w) (b : Below w.heap.size w w') : Above B a w' :=
  ⟨Nat.le_trans h.size b.size, fun k hk hl => (b.block k (Nat.lt_of_lt_of_le hl h.size)).trans (h.block k hk hl)⟩
theorem Rd.above (h : Rd a A n us) (hw : Wr a C A n) (hB : B ≤ C) (k : Above B a w) : Rd w A n us :=
  h.keep fun _ e hn => k.block _ (Nat.le_trans hB (hw.base e hn)) (h.lt e hn)
theorem Wr.above (hw : Wr a C A n) (h : Rd a A n us) (hB : B ≤ C) (k : Above B a w) : Wr w C A n :=
  hw.keep fun _ e hn => k.block _ (Nat.le_trans hB (hw.base e hn)) (h.lt e hn)
theorem Rd.rowlt (h : Rd a A n us) : ∀ b, blkp A n = some b → b < a.heap.size := fun b e => by
  obtain ⟨ad, e1, hn, rfl⟩ := row_some e
  exact h.lt e1 hn
end
theorem Sep.step {s : Option Nat} {r : List (Option Nat)} {B : Nat} (h : ∀ b, s = some b → b < B) (k : Hi r B) (p : Sep r) : Sep (s :: r) :=
  Sep.cons (fun x hx t ht b e c => by
    rcases List.mem_cons.1 hx with rfl | hx
    · have := h b e
      have := k t ht b c
      omega
    · cases hx) p
theorem Blk.grown {w w' : World} {g : Nat} {t : TypeId} {cs : Array Value} {row : Option Nat} (h : Blk w g t cs) (k : w.grownBy w' row) (hne : row ≠ some g) : Blk w' g t cs :=
  (k.block g h.lt (fun c => hne c.symm)).trans h
theorem Touch.alloc (w : World) (o : Obj) : Touch w (w.alloc o) [] := ⟨rfl, rfl, rfl, by simp, fun k hk _ => Below.heap_alloc w o k hk⟩
end Go.Proofs.YtilieonalmihaaaDoor

/- Lists of numbers, in the words of several slices: the statements' helpers. No condition beyond a length of at most 1048576 where memory is made. -/
namespace Go.Proofs.YtilieonalmihaaaDoor
open Go.RowKit

/-- A slice's head. -/
structure Hd where
  A : Option Addr
  n : Nat
  c : Nat
def IntsV (h : Hd) : Value := .slice h.A h.n h.c
def IntsS (h : Hd) (l : List Int) : List Sl := [⟨h.A, h.n, ints l⟩]
def IntsR (h : Hd) : List (Option Nat) := [blkp h.A h.n]
def IntsM (h : Hd) (q : Int) : List Sl := [⟨h.A, h.n, ints (marks q h.n)⟩]
def IntsOk (h : Hd) : Prop := h.n ≤ 1048576

end Go.Proofs.YtilieonalmihaaaDoor

/- A slice of the call's own, wherever it begins in its array: it may be read, written and appended to. Plain lemmas, no condition. -/
namespace Go.Proofs.YtilieonalmihaaaDoor
open Go.RowKit

/-- The array's block, if there is room in it. -/
def Hd.row (h : Hd) : Option Nat := if h.c = 0 then none else blk h.A
theorem Hd.row_some {h : Hd} {b : Nat} (e : h.row = some b) : 0 < h.c ∧ ∃ ad, h.A = some ad ∧ ad.block = b := by
  unfold Hd.row at e
  split at e
  · cases e
  · cases hA : h.A with
    | none => rw [hA] at e; cases e
    | some ad => rw [hA] at e; exact ⟨by omega, ad, rfl, by simpa [blk] using e⟩
theorem Hd.row_mk {h : Hd} {ad : Addr} (e : h.A = some ad) (hc : 0 < h.c) : h.row = some ad.block := by
  unfold Hd.row; rw [if_neg (by omega), e]; rfl
/-- The slice h, of elements of K cells, holds us; its array lies from block B on, and may be written up to its capacity. -/
structure Own (w : World) (B K : Nat) (h : Hd) (us : List Value) : Prop where
  len : us.length = h.n * K
  nc : h.n ≤ h.c
  max : h.c ≤ maxLen
  nil_ : h.A = none → h.c = 0
  at_ : ∀ ad, h.A = some ad → 0 < h.c → B ≤ ad.block ∧ ad.block < w.heap.size ∧ ad.spot = none ∧ ∀ i, i < h.c * K → (∃ v, w.cell? (ad.add i) = some v ∧ ∀ u, us[i]? = some u → v = u) ∧ w.frozen? (ad.add i) = false

section
variable {w w' : World} {B C K : Nat} {h : Hd} {us : List Value}
theorem Own.keep (o : Own w B K h us) (hz : w.heap.size ≤ w'.heap.size) (hk : ∀ b, h.row = some b → w'.heap[b]? = w.heap[b]?) : Own w' B K h us :=
  ⟨o.len, o.nc, o.max, o.nil_, fun ad e hc => by
    obtain ⟨h1, h2, h3, h4⟩ := o.at_ ad e hc
    have hr := hk _ (Hd.row_mk e hc)
    refine ⟨h1, by omega, h3, fun i hi => ?_⟩
    rw [World.cell?_of_block (w := w) (w' := w') (by rw [block_of_add]; exact hr), World.frozen?_of_block (w := w) (w' := w') (by rw [block_of_add]; exact hr)]
    exact h4 i hi⟩
theorem Own.rowlt (o : Own w B K h us) : ∀ b, h.row = some b → B ≤ b ∧ b < w.heap.size := fun b e => by
  obtain ⟨hc, ad, hA, rfl⟩ := Hd.row_some e
  obtain ⟨h1, h2, _⟩ := o.at_ ad hA hc
  exact ⟨h1, h2⟩
theorem Own.below (o : Own w B K h us) (b : Below w.heap.size w w') : Own w' B K h us :=
  o.keep b.size fun c e => b.block _ (o.rowlt c e).2
theorem Own.grown {row : Option Nat} (o : Own w B K h us) (g : w.grownBy w' row) (hne : ∀ b, h.row = some b → row ≠ some b) : Own w' B K h us :=
  o.keep g.size fun c e => g.block _ (o.rowlt c e).2 (fun x => hne c e x.symm)
theorem Own.touch {r : List (Option Nat)} (o : Own w B K h us) (t : Touch w w' r) (hne : ∀ s ∈ r, ∀ b, s = some b → h.row ≠ some b) : Own w' B K h us :=
  o.keep t.size fun c e => t.block _ (o.rowlt c e).2 (fun s hs x => hne s hs _ x e)
theorem Own.above (o : Own w B K h us) {D : Nat} (a : Above D w w') (hD : D ≤ B) : Own w' B K h us :=
  o.keep a.size fun c e => a.block _ (Nat.le_trans hD (o.rowlt c e).1) (o.rowlt c e).2
theorem Own.mono (o : Own w B K h us) (hC : C ≤ B) : Own w C K h us := ⟨o.len, o.nc, o.max, o.nil_, fun ad e hc => by
  obtain ⟨h1, h2⟩ := o.at_ ad e hc
  exact ⟨Nat.le_trans hC h1, h2⟩⟩
theorem Own.rd (o : Own w B K h us) : Rd w h.A (h.n * K) us := by
  refine ⟨o.len, fun hn => ?_⟩
  have hn0 : 0 < h.n := Nat.pos_of_mul_pos_right hn
  have hnc := o.nc
  cases hA : h.A with
  | none => have h1 := o.nil_ hA; omega
  | some ad =>
    obtain ⟨_, _, _, h4⟩ := o.at_ ad hA (by omega)
    refine ⟨ad, rfl, fun i hi => ?_⟩
    obtain ⟨⟨v, hv, hu⟩, _⟩ := h4 i (Nat.lt_of_lt_of_le hi (Nat.mul_le_mul_right K o.nc))
    have hl : i < us.length := by rw [o.len]; exact hi
    rw [hv, List.getElem?_eq_getElem hl, hu _ (List.getElem?_eq_getElem hl)]
theorem Own.wr (o : Own w B K h us) : Wr w B h.A (h.n * K) := fun hn => by
  have hn0 : 0 < h.n := Nat.pos_of_mul_pos_right hn
  have hnc := o.nc
  cases hA : h.A with
  | none => have h1 := o.nil_ hA; omega
  | some ad =>
    obtain ⟨h1, _, _, h4⟩ := o.at_ ad hA (by omega)
    exact ⟨ad, rfl, h1, fun i hi => (h4 i (Nat.lt_of_lt_of_le hi (Nat.mul_le_mul_right K o.nc))).2⟩
theorem Own.nil (w : World) (B K : Nat) : Own w B K ⟨none, 0, 0⟩ [] := ⟨by simp, Nat.le_refl _, Nat.zero_le _, fun _ => rfl, fun _ e => by cases e⟩
theorem Own.empty (w : World) (B K : Nat) (A : Option Addr) : Own w B K ⟨A, 0, 0⟩ [] := ⟨by simp, Nat.le_refl _, Nat.zero_le _, fun _ => rfl, fun _ _ h => absurd h (Nat.lt_irrefl 0)⟩
theorem Own.of_row {e : TypeId} {v : Value} {n : Nat} (_ : 0 < K) (o : w.ownsRow B e K v n us) : ∃ h : Hd, v = .slice h.A h.n h.c ∧ h.n = n ∧ Own w B K h us ∧ (∀ b, h.row = some b → v.ownBlock = some b) := by
  obtain ⟨hl, h2⟩ := o
  rcases h2 with ⟨rfl, rfl⟩ | ⟨g, cap, cur, rfl, hb, hh, hc, hm, hs, ht⟩
  · obtain rfl : us = [] := List.eq_nil_of_length_eq_zero (by simpa using hl)
    exact ⟨⟨none, 0, 0⟩, rfl, rfl, Own.nil _ _ _, fun b e => by cases e⟩
  · refine ⟨⟨some ⟨g, 0, none⟩, n, cap⟩, rfl, rfl, ⟨hl, hc, hm, (fun h => by cases h), fun ad e _ => ?_⟩, fun b e => by obtain ⟨_, ad, e1, rfl⟩ := Hd.row_some e; injection e1 with e1; subst e1; rfl⟩
    injection e with e
    subst e
    have hB : Blk w g _ cur := hh
    refine ⟨hb, hB.lt, rfl, fun i hi => ⟨⟨cur[i]'(by rw [hs]; exact hi), ?_, fun u hu => ?_⟩, ?_⟩⟩
    · rw [add_lit, hB.cell]; exact Array.getElem?_eq_getElem (by rw [hs]; exact hi)
    · rw [← ht, List.getElem?_take] at hu
      split at hu
      · rw [Array.getElem?_toList] at hu
        rw [Array.getElem?_eq_getElem (by rw [hs]; exact hi)] at hu
        exact Option.some.inj hu
      · cases hu
    · rw [add_lit]; exact hB.frozen i
end

theorem grown_weak {w w' : World} {row : Option Nat} (g : w.grownBy w' none) : w.grownBy w' row :=
  ⟨g.os, g.tape, g.output, g.size, fun k hk _ => g.block k hk (by simp)⟩

theorem below_setCells {B b : Nat} {a : World} (hb : B ≤ b) : ∀ (vs : List Value) (o : Nat) (w : World), Below B a w → Below B a (w.setCells b o vs)
  | [], _, _, h => h
  | _ :: r, o, _, h => below_setCells hb r (o + 1) _ (h.setCell hb _)
theorem size_setCells (b : Nat) : ∀ (vs : List Value) (o : Nat) (w : World), (w.setCells b o vs).heap.size = w.heap.size
  | [], _, _ => rfl
  | _ :: r, o, _ => (size_setCells b r (o + 1) _).trans (by simp [World.setCell])
theorem grown_setCells {a : World} {b : Nat} : ∀ (vs : List Value) (o : Nat) (w : World), a.grownBy w (some b) → a.grownBy (w.setCells b o vs) (some b)
  | [], _, _, h => h
  | _ :: r, o, _, h => grown_setCells r (o + 1) _ (grown_setCell h (.inl rfl) _)

theorem run_append_zero {P : Program} (w : World) (t ty e : TypeId) (i : TypeInfo) (ht : P.underlying t = some (.slice e)) (hi : P.info? e = some i) (h : Hd) (hnc : h.n ≤ h.c) (A : Option Addr) (c : Nat) :
    (Builtin.append_ #[t, t] ty #[.slice h.A h.n h.c, .slice A 0 c]).run P w = .ok (.slice h.A h.n h.c) w := by
  obtain ⟨A0, n, cap⟩ := h
  simp only at hnc
  cases A with
  | none => cases A0 <;> simp [Builtin.append_, run_underlying ht, sizeOf, typeInfo, hi, Builtin.lenOf, Builtin.firstCells, hnc, storeCells]
  | some ad =>
    have hf := run_firstCells_some (P := P) w i.size 0 ad 0 c [] (by simp) (by simp)
    cases A0 <;> simp [Builtin.append_, run_underlying ht, sizeOf, typeInfo, hi, Builtin.lenOf, hf, hnc, storeCells]

theorem run_append_Own {P : Program} (w : World) (t ty e : TypeId) (i : TypeInfo) (z : Value) (size bytes : Nat) (ht : P.underlying t = some (.slice e)) (hi : P.info? e = some i) (hz : i.zero = some z)
    (hsize : i.size = size) (hby : i.bytes = bytes) (hzs : z.cells.size = size) (hsz : 0 < size) (B : Nat) (h : Hd) (us : List Value) (o : Own w B size h us)
    (A : Option Addr) (m c : Nat) (news : List Value) (hr : Rd w A (m * size) news) (h1 : ∀ u ∈ news, u.oneCell' = true)
    (h63 : h.n + m ≤ maxLen) (hbytes : (h.n + m) * bytes ≤ 140737488355328) (hB : B ≤ w.heap.size) :
    ∃ k w', (Builtin.append_ #[t, t] ty #[.slice h.A h.n h.c, .slice A m c]).run P w = .ok (.slice k.A k.n k.c) w' ∧ k.n = h.n + m ∧ Own w' B size k (us ++ news) ∧ w.grownBy w' h.row ∧
      (k.row = h.row ∨ ∃ g, k.row = some g ∧ w.heap.size ≤ g) := by
  rcases Nat.eq_zero_or_pos m with rfl | hm
  · obtain rfl : news = [] := List.eq_nil_of_length_eq_zero (by have := hr.1; simpa using this)
    exact ⟨h, w, run_append_zero w t ty e i ht hi h o.nc A c, rfl, by simpa using o, World.grownBy.refl _ _, .inl rfl⟩
  obtain ⟨ad, rfl, hcell0⟩ := hr.2 (Nat.mul_pos hm hsz)
  have hl := hr.1
  have hnews : ∀ j u, news[j]? = some u → w.cell? (ad.add j) = some u := fun j u hj => by
    rw [hcell0 j (by have := (List.getElem?_eq_some_iff.1 hj).1; omega)]; exact hj
  clear hcell0 hr
  obtain ⟨hA, n, cap⟩ := h
  have hnew : ∀ {w' : World} {k : Hd}, w'.heap.size = w'.heap.size → k.n = n + m → Own w' w.heap.size size k (us ++ news) → ∃ g, k.row = some g ∧ w.heap.size ≤ g := fun {w' k} _ hkn ok => by
    have h3 := ok.nc
    cases hkA : k.A with
    | none => have := ok.nil_ hkA; omega
    | some a => exact ⟨a.block, Hd.row_mk hkA (by omega), (ok.rowlt _ (Hd.row_mk hkA (by omega))).1⟩
  rcases Nat.eq_zero_or_pos cap with hc0 | hcpos
  · have hn0 : n = 0 := by have := o.nc; simp only at this; omega
    subst hc0 hn0
    obtain rfl : us = [] := List.eq_nil_of_length_eq_zero (by simpa using o.len)
    cases hA with
    | none =>
      obtain ⟨v', w', hrun, r1, r2, _⟩ := run_append_own (P := P) w w.heap.size t ty e i z size bytes ht hi hz hsize hby hzs hsz (.slice none 0 0) 0 [] (World.ownsRow_nil w _ e size) ad m c news hl hnews h1 h63 hbytes (Nat.le_refl _)
      obtain ⟨k, rfl, hkn, ok, hbk⟩ := Own.of_row hsz r1
      exact ⟨k, w', hrun, hkn, ok.mono hB, r2, .inr (hnew rfl hkn ok)⟩
    | some a0 =>
      obtain ⟨v', w', hrun, r1, r2⟩ := run_append_arg_grows (P := P) w t ty e i z size bytes ht hi hz hsize hby hzs hsz a0 0 0 [] (by simp) (fun j u hj => by simp at hj) ad m c news hl hnews (by omega) h63 hbytes
      obtain ⟨k, rfl, hkn, ok, hbk⟩ := Own.of_row hsz r1
      exact ⟨k, w', hrun, hkn, ok.mono hB, r2, .inr (hnew rfl hkn ok)⟩
  rcases hA with _ | ⟨b, off, sp⟩
  · have := o.nil_ rfl; simp only at this; omega
  · have hrow : Hd.row ⟨some ⟨b, off, sp⟩, n, cap⟩ = some b := Hd.row_mk (h := ⟨some ⟨b, off, sp⟩, n, cap⟩) rfl hcpos
    rw [hrow]
    obtain ⟨hb1, hb2, hsp, hcell⟩ := o.at_ _ rfl hcpos
    simp only at hsp hb1 hb2
    subst hsp
    have hlen := o.len
    have hnc := o.nc
    simp only at hcell hlen hnc h63 hbytes
    by_cases hroom : n + m ≤ cap
    · have hbd : ∀ j, j < m * size → n * size + j < cap * size := fun j hj => by
        have : (n + m) * size ≤ cap * size := Nat.mul_le_mul_right _ hroom
        rw [Nat.add_mul] at this; omega
      have hc' : ∀ j, j < news.length → (w.cell? ⟨b, off + n * i.size + j, none⟩).isSome = true := fun j hj => by
        obtain ⟨⟨v, hv, _⟩, _⟩ := hcell (n * size + j) (hbd j (by omega))
        rw [Addr.add_lit] at hv
        rw [hsize, Nat.add_assoc, hv]; rfl
      have hf' : ∀ j, j < news.length → w.frozen? ⟨b, off + n * i.size + j, none⟩ = false := fun j hj => by
        obtain ⟨_, hv⟩ := hcell (n * size + j) (hbd j (by omega))
        rw [Addr.add_lit] at hv
        rw [hsize, Nat.add_assoc, hv]
      have hrun := run_append_room_cells (P := P) w t ty e i ht hi b off n cap ad m c news (by rw [hl, hsize]) hnews h1 hroom hc' hf'
      refine ⟨⟨some ⟨b, off, none⟩, n + m, cap⟩, _, hrun, rfl, ⟨by simp only [List.length_append, hlen, hl, Nat.add_mul], hroom, o.max, (fun h => by cases h), fun ad' e' _ => ?_⟩, grown_setCells _ _ _ (World.grownBy.refl _ _), .inl (Hd.row_mk (h := ⟨some ⟨b, off, none⟩, n + m, cap⟩) rfl hcpos)⟩
      injection e' with e'
      subst e'
      refine ⟨hb1, by rw [size_setCells]; exact hb2, rfl, fun j hj => ?_⟩
      obtain ⟨⟨v, hv, hu⟩, hfr⟩ := hcell j hj
      refine ⟨?_, by rw [World.frozen?_setCells]; exact hfr⟩
      rw [Addr.add_lit] at hv ⊢
      rw [hsize] at hc' ⊢
      by_cases hin : n * size ≤ j ∧ j < n * size + news.length
      · obtain ⟨q, rfl⟩ : ∃ q, j = n * size + q := ⟨j - n * size, by omega⟩
        have hq : q < news.length := by omega
        refine ⟨news[q], ?_, fun u hu' => ?_⟩
        · have := World.cell?_setCells_in b news (off + n * size) w hc' q hq
          rw [Nat.add_assoc] at this
          exact this
        · rw [List.getElem?_append_right (by omega), hlen, Nat.add_sub_cancel_left, List.getElem?_eq_getElem hq] at hu'
          exact Option.some.inj hu'
      · refine ⟨v, by rw [World.cell?_setCells_out b news _ w _ (fun _ _ => by simp only; omega)]; exact hv, fun u hu' => ?_⟩
        by_cases hj2 : j < us.length
        · rw [List.getElem?_append_left hj2] at hu'
          exact hu u hu'
        · rw [List.getElem?_append_right (by omega)] at hu'
          rw [List.getElem?_eq_none (by omega)] at hu'
          cases hu'
    · have holds : ∀ j u, us[j]? = some u → w.cell? ((⟨b, off, none⟩ : Addr).add j) = some u := fun j u hj => by
        have hjl : j < us.length := (List.getElem?_eq_some_iff.1 hj).1
        obtain ⟨⟨v, hv, hu⟩, _⟩ := hcell j (Nat.lt_of_lt_of_le (by omega) (Nat.mul_le_mul_right size hnc))
        rw [hv, hu u hj]
      obtain ⟨v', w', hrun, r1, r2⟩ := run_append_arg_grows (P := P) w t ty e i z size bytes ht hi hz hsize hby hzs hsz ⟨b, off, none⟩ n cap us hlen holds ad m c news hl hnews (by omega) h63 hbytes
      obtain ⟨k, rfl, hkn, ok, hbk⟩ := Own.of_row hsz r1
      exact ⟨k, w', hrun, hkn, ok.mono hB, grown_weak r2, .inr (hnew rfl hkn ok)⟩

/-- After an append: the row is apart from another slice's. -/
theorem Own.app_ne {w : World} {B K : Nat} {h k : Hd} {us : List Value} (o : Own w B K h us) {b : Option Nat} (hd : k.row = b ∨ ∃ g, k.row = some g ∧ w.heap.size ≤ g) (hne : ∀ c, h.row = some c → b ≠ some c) : ∀ c, h.row = some c → k.row ≠ some c := fun c e e2 => by
  rcases hd with hd | ⟨g, hg, hl⟩
  · rw [hd] at e2; exact hne c e e2
  · rw [hg] at e2
    have := (o.rowlt c e).2
    injection e2 with e2
    omega

theorem wp_append_Own {P : Program} {w : World} {op : Oper} {a : Act} {Kk : Act → World → Prop} {Q : Exit → Act → World → Prop} (s x : Operand) (t : TypeId)
    (hop : op.op = .call { callee := .builtin .append, args := #[s, x], argTypes := #[t, t] })
    (e : TypeId) (size bytes : Nat) (ht : P.underlying t = some (.slice e)) (hinf : (P.info? e).map (fun i => (i.zero.map (·.cells.size), i.size, i.bytes)) = some (some size, size, bytes)) (hsz : 0 < size)
    (B : Nat) (h : Hd) (us : List Value) (hs : a.eval s = .slice h.A h.n h.c) (o : Own w B size h us) (A : Option Addr) (m c : Nat) (news : List Value) (hx : a.eval x = .slice A m c)
    (hr : Rd w A (m * size) news) (h1 : ∀ u ∈ news, u.oneCell' = true) (h63 : h.n + m ≤ 1099511627776) (hbytes : bytes ≤ 64) (hB : B ≤ w.heap.size)
    (hK : ∀ k w', k.n = h.n + m → Own w' B size k (us ++ news) → w.grownBy w' h.row → (k.row = h.row ∨ ∃ g, k.row = some g ∧ w.heap.size ≤ g) → Kk (a.put op.dst (.slice k.A k.n k.c)) w') : op.wp P a w Kk Q := by
  cases hi : P.info? e with
  | none => rw [hi] at hinf; simp at hinf
  | some i =>
    rw [hi] at hinf
    simp only [Option.map_some, Option.some.injEq, Prod.mk.injEq] at hinf
    obtain ⟨hz, hsize, hby⟩ := hinf
    cases hz0 : i.zero with
    | none => rw [hz0] at hz; simp at hz
    | some z =>
      rw [hz0] at hz
      have hbb : (h.n + m) * bytes ≤ 140737488355328 := Nat.le_trans (Nat.mul_le_mul h63 hbytes) (by decide)
      obtain ⟨k, w', hrun, r1, r2, r3, r4⟩ := run_append_Own (P := P) w t op.type e i z size bytes ht hi hz0 hsize hby (by simpa using hz) hsz B h us o A m c news hr h1 (by unfold maxLen; omega) hbb hB
      unfold Oper.wp execOp
      simp only [hop, resolve, invoke, builtin, Sem.run_bind, Sem.run_pure, Result.andThen_ok, List.map_toArray, List.map_cons, List.map_nil, hs, hx, hrun]
      exact hK k w' r1 r2 r3 r4

theorem wpList_append_Own {P : Program} {w : World} {ops : Array Oper} {rest : List Oper} {op : Oper} {a : Act} {Q : Exit → Act → World → Prop} (hgd : op.guard = none) (s x : Operand) (t : TypeId)
    (hop : op.op = .call { callee := .builtin .append, args := #[s, x], argTypes := #[t, t] })
    (e : TypeId) (size bytes : Nat) (ht : P.underlying t = some (.slice e)) (hinf : (P.info? e).map (fun i => (i.zero.map (·.cells.size), i.size, i.bytes)) = some (some size, size, bytes)) (hsz : 0 < size)
    (B : Nat) (h : Hd) (us : List Value) (hs : a.eval s = .slice h.A h.n h.c) (o : Own w B size h us) (A : Option Addr) (m c : Nat) (news : List Value) (hx : a.eval x = .slice A m c)
    (hr : Rd w A (m * size) news) (h1 : ∀ u ∈ news, u.oneCell' = true) (h63 : h.n + m ≤ 1099511627776) (hbytes : bytes ≤ 64) (hB : B ≤ w.heap.size)
    (hK : ∀ k w', k.n = h.n + m → Own w' B size k (us ++ news) → w.grownBy w' h.row → (k.row = h.row ∨ ∃ g, k.row = some g ∧ w.heap.size ≤ g) → wpList P ops Q rest (a.put op.dst (.slice k.A k.n k.c)) w') : wpList P ops Q (op :: rest) a w :=
  wpList_plain hgd fun _ hK' => wp_append_Own s x t hop e size bytes ht hinf hsz B h us hs o A m c news hx hr h1 h63 hbytes hB fun k w' r1 r2 r3 r4 => hK' _ _ (hK k w' r1 r2 r3 r4)

theorem Int64_info : (Tryd.prog.info? 2).map (fun i => (i.zero.map (·.cells.size), i.size, i.bytes)) = some (some 1, 1, 8) := by kernel_rfl

/-- The head of s[1:], as the walk has it. -/
def Hd.tl (h : Hd) (K : Nat) : Hd := ⟨if h.c = 1 then h.A else h.A.map (·.add K), h.n - 1, h.c - 1⟩
theorem Own.tl {w : World} {B K : Nat} {h : Hd} {us : List Value} (o : Own w B K h us) (hn : 0 < h.n) : Own w B K (h.tl K) (us.drop K) := by
  have hnc := o.nc
  have hlen := o.len
  refine ⟨by simp only [Hd.tl, List.length_drop, hlen, Nat.sub_mul, Nat.one_mul], by simp only [Hd.tl]; omega, by have := o.max; simp only [Hd.tl]; omega, fun e => ?_, fun ad e hc => ?_⟩
  · cases hA : h.A with
    | none => have := o.nil_ hA; simp only [Hd.tl]; omega
    | some ad => rw [Hd.tl, hA] at e; simp only at e; split at e <;> cases e
  · simp only [Hd.tl] at hc
    cases hA : h.A with
    | none => rw [Hd.tl, hA] at e; simp only at e; split at e <;> cases e
    | some a0 =>
      obtain ⟨h1, h2, h3, h4⟩ := o.at_ a0 hA (by omega)
      rw [Hd.tl, hA] at e
      simp only at e
      rw [if_neg (by omega)] at e
      simp only [Option.map_some] at e
      injection e with e
      subst e
      refine ⟨by rw [block_of_add]; exact h1, by rw [block_of_add]; exact h2, by unfold Addr.add; split <;> simp [h3], fun i hi => ?_⟩
      simp only [Hd.tl] at hi
      rw [add_of_add]
      have hlt : K + i < h.c * K := by
        have : h.c * K = (h.c - 1) * K + K := by
          obtain ⟨q, hq⟩ : ∃ q, h.c = q + 1 := ⟨h.c - 1, by omega⟩
          rw [hq, Nat.add_sub_cancel, Nat.add_mul, Nat.one_mul]
        omega
      obtain ⟨⟨v, hv, hu⟩, hf⟩ := h4 (K + i) hlt
      exact ⟨⟨v, hv, fun u e => hu u (by rw [← e, List.getElem?_drop])⟩, hf⟩
theorem Own.tl_row (h : Hd) (K : Nat) : ∀ b, (h.tl K).row = some b → h.row = some b := fun b e => by
  obtain ⟨hc, ad, hA, rfl⟩ := Hd.row_some e
  simp only [Hd.tl] at hc hA
  rw [if_neg (by omega)] at hA
  cases hA0 : h.A with
  | none => rw [hA0] at hA; cases hA
  | some a0 =>
    rw [hA0] at hA
    simp only [Option.map_some] at hA
    injection hA with hA
    rw [← hA, block_of_add]
    exact Hd.row_mk hA0 (by omega)
end Go.Proofs.YtilieonalmihaaaDoor

/- Appending and slicing for elements of any size: laws of the walk. Plain lemmas, no condition. -/
namespace Go.Proofs.YtilieonalmihaaaDoor
open Go.RowKit

theorem own_emptyK (w : World) (e : TypeId) (K : Nat) : (w.alloc (.cells #[] e)).ownsRow w.heap.size e K (.slice (some ⟨w.heap.size, 0, none⟩) 0 0) 0 [] :=
  World.ownsRow_made w #[] 0 (Nat.le_refl _) (Nat.zero_le _) (by simp)
section
variable {P : Program} {w : World}
theorem wp_append_rows {op : Oper} {a : Act} {Kk : Act → World → Prop} {Q : Exit → Act → World → Prop} (s x : Operand) (t : TypeId)
    (hop : op.op = .call { callee := .builtin .append, args := #[s, x], argTypes := #[t, t] })
    (e : TypeId) (size bytes : Nat) (ht : P.underlying t = some (.slice e)) (hinf : (P.info? e).map (fun i => (i.zero.map (·.cells.size), i.size, i.bytes)) = some (some size, size, bytes)) (hsz : 0 < size)
    (base : Nat) (v : Value) (n : Nat) (xs : List Value) (hs : a.eval s = v) (hown : w.ownsRow base e size v n xs) (A : Option Addr) (m c : Nat) (news : List Value) (hx : a.eval x = .slice A m c)
    (hr : Rd w A (m * size) news) (h1 : ∀ u ∈ news, u.oneCell' = true) (h63 : n + m ≤ 1099511627776) (hbytes : bytes ≤ 64) (hB : base ≤ w.heap.size)
    (hK : ∀ v' w', w'.ownsRow base e size v' (n + m) (xs ++ news) → w.grownBy w' v.ownBlock → (v'.ownBlock = v.ownBlock ∨ v'.ownBlock = some w.heap.size) → Kk (a.put op.dst v') w') : op.wp P a w Kk Q := by
  cases hi : P.info? e with
  | none => rw [hi] at hinf; simp at hinf
  | some i =>
    rw [hi] at hinf
    simp only [Option.map_some, Option.some.injEq, Prod.mk.injEq] at hinf
    obtain ⟨hz, hsize, hby⟩ := hinf
    cases hz0 : i.zero with
    | none => rw [hz0] at hz; simp at hz
    | some z =>
      rw [hz0] at hz
      have hbb : (n + m) * bytes ≤ 140737488355328 := Nat.le_trans (Nat.mul_le_mul h63 hbytes) (by decide)
      obtain ⟨v', w', hrun, h2, h3, h4⟩ := run_append_any (P := P) w base t op.type e i z size bytes ht hi hz0 hsize hby (by simpa using hz) hsz v n xs hown A m c news hr.1
        (fun hm => by
          obtain ⟨ad, e, hc⟩ := hr.2 (Nat.mul_pos hm hsz)
          exact ⟨ad, e, fun j u hu => by rw [hc j (by have := (List.getElem?_eq_some_iff.1 hu).1; rwa [hr.1] at this)]; exact hu⟩) h1 (by unfold maxLen; omega) hbb hB
      unfold Oper.wp execOp
      simp only [hop, resolve, invoke, builtin, Sem.run_bind, Sem.run_pure, Result.andThen_ok, List.map_toArray, List.map_cons, List.map_nil, hs, hx, hrun]
      exact hK v' w' h2 h3 h4
theorem wpList_append_rows {ops : Array Oper} {rest : List Oper} {op : Oper} {a : Act} {Q : Exit → Act → World → Prop} (hgd : op.guard = none) (s x : Operand) (t : TypeId)
    (hop : op.op = .call { callee := .builtin .append, args := #[s, x], argTypes := #[t, t] })
    (e : TypeId) (size bytes : Nat) (ht : P.underlying t = some (.slice e)) (hinf : (P.info? e).map (fun i => (i.zero.map (·.cells.size), i.size, i.bytes)) = some (some size, size, bytes)) (hsz : 0 < size)
    (base : Nat) (v : Value) (n : Nat) (xs : List Value) (hs : a.eval s = v) (hown : w.ownsRow base e size v n xs) (A : Option Addr) (m c : Nat) (news : List Value) (hx : a.eval x = .slice A m c)
    (hr : Rd w A (m * size) news) (h1 : ∀ u ∈ news, u.oneCell' = true) (h63 : n + m ≤ 1099511627776) (hbytes : bytes ≤ 64) (hB : base ≤ w.heap.size)
    (hK : ∀ v' w', w'.ownsRow base e size v' (n + m) (xs ++ news) → w.grownBy w' v.ownBlock → (v'.ownBlock = v.ownBlock ∨ v'.ownBlock = some w.heap.size) → wpList P ops Q rest (a.put op.dst v') w') : wpList P ops Q (op :: rest) a w :=
  wpList_plain hgd fun _ hK' => wp_append_rows s x t hop e size bytes ht hinf hsz base v n xs hs hown A m c news hx hr h1 h63 hbytes hB fun v' w' r1 r2 r3 => hK' _ _ (hK v' w' r1 r2 r3)
theorem step_append_rows {ops : Array Oper} {op : Oper} {a : Act} {Kk : Act → World → Prop} {Q : Exit → Act → World → Prop} {E : Prop} (hgd : op.guard = none) (s x : Operand) (t : TypeId)
    (hop : op.op = .call { callee := .builtin .append, args := #[s, x], argTypes := #[t, t] })
    (e : TypeId) (size bytes : Nat) (ht : P.underlying t = some (.slice e)) (hinf : (P.info? e).map (fun i => (i.zero.map (·.cells.size), i.size, i.bytes)) = some (some size, size, bytes)) (hsz : 0 < size)
    (base : Nat) (v : Value) (n : Nat) (xs : List Value) (hs : a.eval s = v) (hown : w.ownsRow base e size v n xs) (A : Option Addr) (m c : Nat) (news : List Value) (hx : a.eval x = .slice A m c)
    (hr : Rd w A (m * size) news) (h1 : ∀ u ∈ news, u.oneCell' = true) (h63 : n + m ≤ 1099511627776) (hbytes : bytes ≤ 64) (hB : base ≤ w.heap.size)
    (hK : ∀ v' w', w'.ownsRow base e size v' (n + m) (xs ++ news) → w.grownBy w' v.ownBlock → (v'.ownBlock = v.ownBlock ∨ v'.ownBlock = some w.heap.size) → Kk (a.put op.dst v') w') :
    if Region.wanted op (yielded ops a.tmps) = true then Oper.wp P op a w Kk Q else E := by
  have hw : Region.wanted op (yielded ops a.tmps) = true := by simp [Region.wanted, hgd]
  rw [if_pos hw]
  exact wp_append_rows s x t hop e size bytes ht hinf hsz base v n xs hs hown A m c news hx hr h1 h63 hbytes hB hK
theorem step_append_Own {ops : Array Oper} {op : Oper} {a : Act} {Kk : Act → World → Prop} {Q : Exit → Act → World → Prop} {E : Prop} (hgd : op.guard = none) (s x : Operand) (t : TypeId)
    (hop : op.op = .call { callee := .builtin .append, args := #[s, x], argTypes := #[t, t] })
    (e : TypeId) (size bytes : Nat) (ht : P.underlying t = some (.slice e)) (hinf : (P.info? e).map (fun i => (i.zero.map (·.cells.size), i.size, i.bytes)) = some (some size, size, bytes)) (hsz : 0 < size)
    (B : Nat) (h : Hd) (us : List Value) (hs : a.eval s = .slice h.A h.n h.c) (o : Own w B size h us) (A : Option Addr) (m c : Nat) (news : List Value) (hx : a.eval x = .slice A m c)
    (hr : Rd w A (m * size) news) (h1 : ∀ u ∈ news, u.oneCell' = true) (h63 : h.n + m ≤ 1099511627776) (hbytes : bytes ≤ 64) (hB : B ≤ w.heap.size)
    (hK : ∀ k w', k.n = h.n + m → Own w' B size k (us ++ news) → w.grownBy w' h.row → (k.row = h.row ∨ ∃ g, k.row = some g ∧ w.heap.size ≤ g) → Kk (a.put op.dst (.slice k.A k.n k.c)) w') :
    if Region.wanted op (yielded ops a.tmps) = true then Oper.wp P op a w Kk Q else E := by
  have hw : Region.wanted op (yielded ops a.tmps) = true := by simp [Region.wanted, hgd]
  rw [if_pos hw]
  exact wp_append_Own s x t hop e size bytes ht hinf hsz B h us hs o A m c news hx hr h1 h63 hbytes hB hK
end

/-- s[1:] -/
theorem run_tail {P : Program} (w : World) (t e : TypeId) (K : Nat) (bytes : Nat) (ht : P.underlying t = some (.slice e)) (hinf : (P.info? e).map (fun i => (i.zero.map (·.cells.size), i.size, i.bytes)) = some (some K, K, bytes)) (h : Hd) (h1 : 1 ≤ h.n) :
    (Instr.sliceAt t (.slice h.A h.n h.c) (some (.int .i64 1)) none none).run P w = .ok (.slice (h.tl K).A (h.tl K).n (h.tl K).c) w := by
  have hel : P.elem t = e := by simp [Program.elem, ht]
  have ht' : P.underlying t = some (.slice (P.elem t)) := by rw [hel]; exact ht
  cases hi : P.info? e with
  | none => rw [hi] at hinf; simp at hinf
  | some i =>
    rw [hi] at hinf
    simp only [Option.map_some, Option.some.injEq, Prod.mk.injEq] at hinf
    rw [run_sliceAt_slice w t _ _ _ _ ht', run_slice_l w t h.A h.n h.c ht' .i64 1 (by omega) (by omega)]
    simp [sizeOf, typeInfo, hel, hi, sliced, Hd.tl, hinf.2.1]

theorem cells_below {w w' : World} {g : Nat} {cs : Array Value} {B : Nat} (h : ∀ o, w.cell? ⟨g, o, none⟩ = cs[o]?) (b : Below B w w') (hg : g < B) : ∀ o, w'.cell? ⟨g, o, none⟩ = cs[o]? := fun o => (b.cell (p := ⟨g, o, none⟩) hg).trans (h o)

theorem cells_alloc {w : World} {g : Nat} {cs : Array Value} (h : ∀ o, w.cell? ⟨g, o, none⟩ = cs[o]?) (hg : g < w.heap.size) (ob : Obj) : ∀ o, (w.alloc ob).cell? ⟨g, o, none⟩ = cs[o]? :=
  cells_below h ((Below.refl w.heap.size w).alloc (Nat.le_refl _) ob) hg
theorem own_drew1 {w : World} {base n K : Nat} {e : TypeId} {v : Value} {us : List Value} (h : w.ownsRow base e K v n us) : w.drew.ownsRow base e K v n us := h
theorem cells_drew {w : World} {g : Nat} {cs : Array Value} (h : ∀ o, w.cell? ⟨g, o, none⟩ = cs[o]?) : ∀ o, w.drew.cell? ⟨g, o, none⟩ = cs[o]? := h
theorem held_below {w w' : World} {g : Nat} {cs cr : Array Value} {B : Nat} (h : (∀ o, w.cell? ⟨g, o, none⟩ = cs[o]?) ∧ (∀ o, w.cell? ⟨g + 1, o, none⟩ = cr[o]?) ∧ (∀ o, w.frozen? ⟨g + 1, o, none⟩ = false) ∧ g + 1 < w.heap.size) (b : Below B w w') (hg : g + 1 < B) (hB : B ≤ w.heap.size) :
    (∀ o, w'.cell? ⟨g, o, none⟩ = cs[o]?) ∧ (∀ o, w'.cell? ⟨g + 1, o, none⟩ = cr[o]?) ∧ (∀ o, w'.frozen? ⟨g + 1, o, none⟩ = false) ∧ g + 1 < w'.heap.size :=
  ⟨cells_below h.1 b (by omega), cells_below h.2.1 b hg, fun o => (b.frozen (p := ⟨g + 1, o, none⟩) hg).trans (h.2.2.1 o), by have := b.size; omega⟩
theorem held_alloc {w : World} {g : Nat} {cs cr : Array Value} (h : (∀ o, w.cell? ⟨g, o, none⟩ = cs[o]?) ∧ (∀ o, w.cell? ⟨g + 1, o, none⟩ = cr[o]?) ∧ (∀ o, w.frozen? ⟨g + 1, o, none⟩ = false) ∧ g + 1 < w.heap.size) (ob : Obj) :
    (∀ o, (w.alloc ob).cell? ⟨g, o, none⟩ = cs[o]?) ∧ (∀ o, (w.alloc ob).cell? ⟨g + 1, o, none⟩ = cr[o]?) ∧ (∀ o, (w.alloc ob).frozen? ⟨g + 1, o, none⟩ = false) ∧ g + 1 < (w.alloc ob).heap.size :=
  held_below h ((Below.refl w.heap.size w).alloc (Nat.le_refl _) ob) h.2.2.2 (Nat.le_refl _)
/-- Slices apart: from their arrays to what they show. -/
theorem row_of_blkp {h : Hd} {n b : Nat} (hn : 0 < n → 0 < h.c) (e : blkp h.A n = some b) : h.row = some b := by
  obtain ⟨ad, e1, hp, rfl⟩ := row_some e
  exact Hd.row_mk e1 (hn hp)
theorem Sep.ofRow (l : List (Hd × Nat)) (hl : ∀ p ∈ l, 0 < p.2 → 0 < p.1.c) (h : Sep (l.map fun p => p.1.row)) : Sep (l.map fun p => blkp p.1.A p.2) := by
  unfold Sep at *
  rw [List.pairwise_map] at *
  exact h.imp_of_mem fun {p q} hp hq k b e e2 => k b (row_of_blkp (hl p hp) e) (row_of_blkp (hl q hq) e2)
theorem Own.npos {w : World} {B K : Nat} {h : Hd} {us : List Value} (o : Own w B K h us) {n : Nat} (hn : n = h.n * K) : 0 < n → 0 < h.c := fun h => by
  subst hn
  have := Nat.pos_of_mul_pos_right h
  have := o.nc
  omega
theorem Sep.replace {L : List (Option Nat)} (i : Nat) {q : Option Nat} (hS : Sep L) (hq : ∀ b, q = some b → L[i]? = some (some b) ∨ ∀ s ∈ L, s ≠ some b) : Sep (L.set i q) := by
  unfold Sep at *
  rw [List.pairwise_iff_getElem] at *
  intro x y hx hy hxy b e1 e2
  have hx' : x < L.length := by rw [List.length_set] at hx; exact hx
  have hy' : y < L.length := by rw [List.length_set] at hy; exact hy
  rw [List.getElem_set] at e1 e2
  split at e1
  · subst_vars
    rw [if_neg (by omega)] at e2
    rcases hq b rfl with h | h
    · rw [List.getElem?_eq_getElem (by omega)] at h
      exact hS _ _ _ hy' hxy b (Option.some.inj h) e2
    · exact h _ (List.getElem_mem hy') e2
  · split at e2
    · subst_vars
      rcases hq b rfl with h | h
      · rw [List.getElem?_eq_getElem (by omega)] at h
        exact hS _ _ hx' _ hxy b e1 (Option.some.inj h)
      · exact h _ (List.getElem_mem hx') e1
    · exact hS x y hx' hy' hxy b e1 e2
theorem Sep.nth {L : List (Option Nat)} (hS : Sep L) {i j : Nat} {p q : Option Nat} (hi : L[i]? = some p) (hj : L[j]? = some q) (hij : i ≠ j) : ∀ b, q = some b → p ≠ some b := fun b e1 e2 => by
  unfold Sep at hS
  rw [List.pairwise_iff_getElem] at hS
  obtain ⟨hil, hi⟩ := List.getElem?_eq_some_iff.1 hi
  obtain ⟨hjl, hj⟩ := List.getElem?_eq_some_iff.1 hj
  rcases Nat.lt_or_ge i j with h | h
  · exact hS i j hil hjl h b (hi.trans e2) (hj.trans e1)
  · exact hS j i hjl hil (by omega) b (hj.trans e1) (hi.trans e2)
theorem Ne.replace {L : List (Option Nat)} {g : Nat} (i : Nat) {q : Option Nat} (h : ∀ s ∈ L, s ≠ some g) (hq : q ≠ some g) : ∀ s ∈ L.set i q, s ≠ some g := fun s hs => by
  rcases List.mem_or_eq_of_mem_set hs with h1 | rfl
  · exact h s h1
  · exact hq
theorem grown_cell (w : World) (g i : Nat) (u : Value) : w.grownBy (w.setCell ⟨g, i, none⟩ u) (some g) := grown_setCell (World.grownBy.refl _ _) (.inl rfl) u
theorem ints_drop (xs : List Int) (k : Nat) : (ints xs).drop k = ints (xs.drop k) := by unfold ints; rw [List.map_drop]
theorem grown_of_below {w w' : World} {row : Option Nat} (b : Below w.heap.size w w') : w.grownBy w' row := ⟨b.os, b.tape, b.output, b.size, fun k hk _ => b.block k hk⟩
theorem app_q {G : Hd} {r : Option Nat} {n m : Nat} (hat : G.row = r ∨ ∃ g, G.row = some g ∧ m ≤ g) (hz : n ≤ m) : ∀ b, G.row = some b → r = some b ∨ n ≤ b := fun b e => by
  rcases hat with h | ⟨g, h, hl⟩
  · exact .inl (h ▸ e)
  · rw [h] at e; injection e with e; exact .inr (by omega)
theorem cells_grown {w w' : World} {g : Nat} {cs : Array Value} {row : Option Nat} (h : ∀ o, w.cell? ⟨g, o, none⟩ = cs[o]?) (hg : g < w.heap.size) (gg : w.grownBy w' row) (hne : row ≠ some g) : ∀ o, w'.cell? ⟨g, o, none⟩ = cs[o]? := fun o =>
  (World.cell?_of_block (w := w) (w' := w') (a := ⟨g, o, none⟩) (gg.block g hg (fun c => hne c.symm))).trans (h o)
theorem cells_new (W : World) (t : TypeId) (cs : Array Value) {g : Nat} (hg : W.heap.size = g) : ∀ o, (W.alloc (.cells cs t)).cell? ⟨g, o, none⟩ = cs[o]? := fun o => by subst hg; exact (Blk.new W t cs).cell o
theorem Above.drew {B : Nat} {a w : World} (h : Above B a w) : Above B a w.drew := ⟨h.size, h.block⟩
theorem Above.drewN {B : Nat} {a w : World} (h : Above B a w) (n : Nat) : Above B a (w.drewN n) := ⟨h.size, h.block⟩
theorem Own.cast {w : World} {B K n : Nat} {h : Hd} {us : List Value} (o : Own w B K h us) (hn : h.n = n) : Own w B K ⟨h.A, n, h.c⟩ us := by subst hn; exact o
theorem Own.rd1 {w : World} {B : Nat} {h : Hd} {us : List Value} (o : Own w B 1 h us) : Rd w h.A h.n us := by have := o.rd; rwa [Nat.mul_one] at this
theorem Own.wr1 {w : World} {B : Nat} {h : Hd} {us : List Value} (o : Own w B 1 h us) : Wr w B h.A h.n := by have := o.wr; rwa [Nat.mul_one] at this

set_option maxHeartbeats 400000 in
theorem cloneOwn_any (A : Option Addr) (n c : Nat) (xs : List Int) (w : World) (hn : n ≤ 2097152) (hr : Rd w A n (ints xs)) :
    Calls Tryd.prog 41 #[.slice A n c] w fun e w' => ∃ h : Hd, e = .returned (.slice h.A h.n h.c) ∧ h.n = n ∧ Own w' w.heap.size 1 h (ints xs) ∧ Below w.heap.size w w' :=
  (clone_any A n c xs w hn hr).mono fun e w' ⟨v, he, ho, hb⟩ => by
    obtain ⟨h, rfl, hn, o, _⟩ := Own.of_row (by decide) ho
    exact ⟨h, he, hn, o, hb⟩
set_option maxHeartbeats 400000 in
theorem l01OwnOwn_any (A : Option Addr) (n c : Nat) (xs : List Int) (w : World) (hn : n ≤ 2097152) (hr : Rd w A n (ints xs)) :
    Calls Tryd.prog 42 #[.slice A n c] w fun e w' => ∃ h : Hd, e = .returned (.slice h.A h.n h.c) ∧ h.n = n ∧ Own w' w.heap.size 1 h (ints xs) ∧ Below w.heap.size w w' :=
  (l01Own_any A n c xs w hn hr).mono fun e w' ⟨v, he, ho, hb⟩ => by
    obtain ⟨h, rfl, hn, o, _⟩ := Own.of_row (by decide) ho
    exact ⟨h, he, hn, o, hb⟩
end Go.Proofs.YtilieonalmihaaaDoor

/- Slices of the call's own: a part, one element, newly made ones. Plain lemmas, no condition. -/
namespace Go.Proofs.YtilieonalmihaaaDoor
open Go.RowKit

section
variable {w w' : World} {B K : Nat} {h : Hd} {xs : List Int} {us : List Value}
theorem Own.take (o : Own w B K h us) {k : Nat} (hk : k ≤ h.n) : Own w B K ⟨h.A, k, h.c⟩ (us.take (k * K)) := by
  have hl := o.len
  have hm : k * K ≤ h.n * K := Nat.mul_le_mul_right K hk
  refine ⟨by simp only [List.length_take]; omega, Nat.le_trans hk o.nc, o.max, o.nil_, fun ad e hc => ?_⟩
  obtain ⟨h1, h2, h3, h4⟩ := o.at_ ad e hc
  refine ⟨h1, h2, h3, fun i hi => ?_⟩
  obtain ⟨⟨v, hv, hu⟩, hf⟩ := h4 i hi
  refine ⟨⟨v, hv, fun u e => hu u ?_⟩, hf⟩
  rw [List.getElem?_take] at e
  split at e
  · exact e
  · cases e
theorem ints_take (xs : List Int) (k : Nat) : (ints xs).take k = ints (xs.take k) := by unfold ints; rw [List.map_take]
theorem Own.set_ (o : Own w B 1 h (ints xs)) {k : Nat} {ad : Addr} (hk : k < h.n) (e : h.A = some ad) (v : Int) : Own (w.setCell (ad.add k) (.int .i64 v)) B 1 h (ints (xs.set k v)) := by
  have hl := o.len
  have hnc := o.nc
  refine ⟨by rw [ints_set, List.length_set]; exact hl, o.nc, o.max, o.nil_, fun ad' e' hc => ?_⟩
  rw [e] at e'
  injection e' with e'
  subst e'
  obtain ⟨h1, h2, h3, h4⟩ := o.at_ ad e hc
  refine ⟨h1, by simpa [World.setCell] using h2, h3, fun i hi => ?_⟩
  obtain ⟨⟨u, hu, hq⟩, hf⟩ := h4 i hi
  obtain ⟨⟨u', hu', _⟩, hf'⟩ := h4 k (by omega)
  refine ⟨?_, by rw [World.frozen?_setCell]; exact hf⟩
  by_cases c : i = k
  · subst c
    refine ⟨.int .i64 v, World.cell?_setCell_same _ _ _ hu', fun z hz => ?_⟩
    rw [ints_set, List.getElem?_set_self (by rw [hl, Nat.mul_one]; exact hk)] at hz
    exact Option.some.inj hz
  · refine ⟨u, by rw [World.cell?_setCell_other _ _ _ _ (fun x => c (add_inj x).symm)]; exact hu, fun z hz => hq z ?_⟩
    rw [ints_set, List.getElem?_set_ne (fun x => c x.symm)] at hz
    exact hz
theorem Own.cell (o : Own w B 1 h (ints xs)) {k : Nat} (hk : k < h.n) : ∃ ad, h.A = some ad ∧ w.cell? (ad.add k) = some (.int .i64 (xs.getD k 0)) ∧ w.frozen? (ad.add k) = false := by
  obtain ⟨ad, e, hc⟩ := o.rd1.int hk
  have hnc := o.nc
  obtain ⟨_, _, _, h4⟩ := o.at_ ad e (by omega)
  exact ⟨ad, e, hc, (h4 k (by omega)).2⟩
end
theorem Own.capm {w : World} {B K : Nat} {h : Hd} {us : List Value} (o : Own w B K h us) : h.n ≤ h.c ∧ h.c ≤ 9223372036854775807 := ⟨o.nc, by have := o.max; unfold maxLen at this; omega⟩
theorem Own.made {W : World} {B n : Nat} (hB : B ≤ W.heap.size) (hn : n ≤ 1048576) (e : TypeId) : Own (W.alloc (.cells (madeCells #[.int .i64 0] n) e)) B 1 ⟨some ⟨W.heap.size, 0, none⟩, n, n⟩ (ints (List.replicate n 0)) := by
  have hb := Blk.new W e (madeCells #[.int .i64 0] n)
  refine ⟨by unfold ints; simp, Nat.le_refl _, by unfold maxLen; simp only; omega, (fun h => by cases h), fun ad ea _ => ?_⟩
  injection ea with ea
  subst ea
  refine ⟨hB, hb.lt, rfl, fun i hi => ⟨?_, by rw [add_lit]; exact hb.frozen i⟩⟩
  have hi' : i < (madeCells #[Value.int .i64 0] n).size := by rw [madeCells_size]; simpa using hi
  refine ⟨(madeCells #[Value.int .i64 0] n)[i], by rw [add_lit, hb.cell]; exact Array.getElem?_eq_getElem hi', fun u hu => ?_⟩
  have hin : i < n := by simpa using hi
  rw [ints_getElem?] at hu
  simp [hin] at hu
  subst hu
  simp [madeCells, Nat.mod_one]
end Go.Proofs.YtilieonalmihaaaDoor

/- Quiet calls in a region that only reads: contracts that leave the world alone. Plain lemmas. -/
namespace Go.Proofs.YtilieonalmihaaaDoor
open Go.RowKit
section
variable {P : Program} {f : FuncId} {args : Array Value} {w : World} {a n : Nat} {v : Value}
theorem q_left (h : Calls P f args (w.drewN n) fun e w' => e = .returned v ∧ w.drewN n = w') : Calls P f args (w.drewN n) fun e w' => e = .returned v ∧ ∃ m, w' = w.drewN m :=
  h.mono fun _ _ ⟨he, hm⟩ => ⟨he, n, hm.symm⟩
theorem q_add_left (h : Calls P f args (w.drewN (a + n)) fun e w' => e = .returned v ∧ w.drewN (a + n) = w') : Calls P f args (w.drewN (a + n)) fun e w'' => e = .returned v ∧ ∃ m, w'' = w.drewN (a + m) :=
  h.mono fun _ _ ⟨he, hm⟩ => ⟨he, n, hm.symm⟩
end
end Go.Proofs.YtilieonalmihaaaDoor
