/- A slice of the call's own, wherever it begins in its array: it may be read, written and appended to. Plain lemmas, no condition. -/
import Derived.Test.YtlgmdekhlcbhoaaTInts
import Derived.ArgAppend
namespace Go.Proofs.Ytlgmdekhlcbhoaa
open Go.RowKit

/-- The array's block, if there is room in it. -/
def Hd.row (h : Hd) : Option Nat := if h.c = 0 then none else blk h.A
theorem Hd.row_some {h : Hd} {b : Nat} (e : h.row = some b) : 0 < h.c ∧ ∃ ad, h.A = some ad ∧ ad.block = b := by
  unfold Hd.row at e
  split at e
  · cases e
  · cases hA : h.A with
    | none => rw [hA] at e; cases e
    | some ad => rw [hA] at e; exact ⟨by omega, ad, rfl, by simpa [blk] using e⟩
theorem Hd.row_mk {h : Hd} {ad : Addr} (e : h.A = some ad) (hc : 0 < h.c) : h.row = some ad.block := by
  unfold Hd.row; rw [if_neg (by omega), e]; rfl
/-- The slice h, of elements of K cells, holds us; its array lies from block B on, and may be written up to its capacity. -/
structure Own (w : World) (B K : Nat) (h : Hd) (us : List Value) : Prop where
  len : us.length = h.n * K
  nc : h.n ≤ h.c
  max : h.c ≤ maxLen
  nil_ : h.A = none → h.c = 0
  at_ : ∀ ad, h.A = some ad → 0 < h.c → B ≤ ad.block ∧ ad.block < w.heap.size ∧ ad.spot = none ∧ ∀ i, i < h.c * K → (∃ v, w.cell? (ad.add i) = some v ∧ ∀ u, us[i]? = some u → v = u) ∧ w.frozen? (ad.add i) = false

section
variable {w w' : World} {B C K : Nat} {h : Hd} {us : List Value}
theorem Own.keep (o : Own w B K h us) (hz : w.heap.size ≤ w'.heap.size) (hk : ∀ b, h.row = some b → w'.heap[b]? = w.heap[b]?) : Own w' B K h us :=
  ⟨o.len, o.nc, o.max, o.nil_, fun ad e hc => by
    obtain ⟨h1, h2, h3, h4⟩ := o.at_ ad e hc
    have hr := hk _ (Hd.row_mk e hc)
    refine ⟨h1, by omega, h3, fun i hi => ?_⟩
    rw [World.cell?_of_block (w := w) (w' := w') (by rw [block_of_add]; exact hr), World.frozen?_of_block (w := w) (w' := w') (by rw [block_of_add]; exact hr)]
    exact h4 i hi⟩
theorem Own.rowlt (o : Own w B K h us) : ∀ b, h.row = some b → B ≤ b ∧ b < w.heap.size := fun b e => by
  obtain ⟨hc, ad, hA, rfl⟩ := Hd.row_some e
  obtain ⟨h1, h2, _⟩ := o.at_ ad hA hc
  exact ⟨h1, h2⟩
theorem Own.below (o : Own w B K h us) (b : Below w.heap.size w w') : Own w' B K h us :=
  o.keep b.size fun c e => b.block _ (o.rowlt c e).2
theorem Own.grown {row : Option Nat} (o : Own w B K h us) (g : w.grownBy w' row) (hne : ∀ b, h.row = some b → row ≠ some b) : Own w' B K h us :=
  o.keep g.size fun c e => g.block _ (o.rowlt c e).2 (fun x => hne c e x.symm)
theorem Own.touch {r : List (Option Nat)} (o : Own w B K h us) (t : Touch w w' r) (hne : ∀ s ∈ r, ∀ b, s = some b → h.row ≠ some b) : Own w' B K h us :=
  o.keep t.size fun c e => t.block _ (o.rowlt c e).2 (fun s hs x => hne s hs _ x e)
theorem Own.above (o : Own w B K h us) {D : Nat} (a : Above D w w') (hD : D ≤ B) : Own w' B K h us :=
  o.keep a.size fun c e => a.block _ (Nat.le_trans hD (o.rowlt c e).1) (o.rowlt c e).2
theorem Own.mono (o : Own w B K h us) (hC : C ≤ B) : Own w C K h us := ⟨o.len, o.nc, o.max, o.nil_, fun ad e hc => by
  obtain ⟨h1, h2⟩ := o.at_ ad e hc
  exact ⟨Nat.le_trans hC h1, h2⟩⟩
theorem Own.rd (o : Own w B K h us) : Rd w h.A (h.n * K) us := by
  refine ⟨o.len, fun hn => ?_⟩
  have hn0 : 0 < h.n := Nat.pos_of_mul_pos_right hn
  have hnc := o.nc
  cases hA : h.A with
  | none => have h1 := o.nil_ hA; omega
  | some ad =>
    obtain ⟨_, _, _, h4⟩ := o.at_ ad hA (by omega)
    refine ⟨ad, rfl, fun i hi => ?_⟩
    obtain ⟨⟨v, hv, hu⟩, _⟩ := h4 i (Nat.lt_of_lt_of_le hi (Nat.mul_le_mul_right K o.nc))
    have hl : i < us.length := by rw [o.len]; exact hi
    rw [hv, List.getElem?_eq_getElem hl, hu _ (List.getElem?_eq_getElem hl)]
theorem Own.wr (o : Own w B K h us) : Wr w B h.A (h.n * K) := fun hn => by
  have hn0 : 0 < h.n := Nat.pos_of_mul_pos_right hn
  have hnc := o.nc
  cases hA : h.A with
  | none => have h1 := o.nil_ hA; omega
  | some ad =>
    obtain ⟨h1, _, _, h4⟩ := o.at_ ad hA (by omega)
    exact ⟨ad, rfl, h1, fun i hi => (h4 i (Nat.lt_of_lt_of_le hi (Nat.mul_le_mul_right K o.nc))).2⟩
theorem Own.nil (w : World) (B K : Nat) : Own w B K ⟨none, 0, 0⟩ [] := ⟨by simp, Nat.le_refl _, Nat.zero_le _, fun _ => rfl, fun _ e => by cases e⟩
theorem Own.empty (w : World) (B K : Nat) (A : Option Addr) : Own w B K ⟨A, 0, 0⟩ [] := ⟨by simp, Nat.le_refl _, Nat.zero_le _, fun _ => rfl, fun _ _ h => absurd h (Nat.lt_irrefl 0)⟩
theorem Own.of_row {e : TypeId} {v : Value} {n : Nat} (_ : 0 < K) (o : w.ownsRow B e K v n us) : ∃ h : Hd, v = .slice h.A h.n h.c ∧ h.n = n ∧ Own w B K h us ∧ (∀ b, h.row = some b → v.ownBlock = some b) := by
  obtain ⟨hl, h2⟩ := o
  rcases h2 with ⟨rfl, rfl⟩ | ⟨g, cap, cur, rfl, hb, hh, hc, hm, hs, ht⟩
  · obtain rfl : us = [] := List.eq_nil_of_length_eq_zero (by simpa using hl)
    exact ⟨⟨none, 0, 0⟩, rfl, rfl, Own.nil _ _ _, fun b e => by cases e⟩
  · refine ⟨⟨some ⟨g, 0, none⟩, n, cap⟩, rfl, rfl, ⟨hl, hc, hm, (fun h => by cases h), fun ad e _ => ?_⟩, fun b e => by obtain ⟨_, ad, e1, rfl⟩ := Hd.row_some e; injection e1 with e1; subst e1; rfl⟩
    injection e with e
    subst e
    have hB : Blk w g _ cur := hh
    refine ⟨hb, hB.lt, rfl, fun i hi => ⟨⟨cur[i]'(by rw [hs]; exact hi), ?_, fun u hu => ?_⟩, ?_⟩⟩
    · rw [add_lit, hB.cell]; exact Array.getElem?_eq_getElem (by rw [hs]; exact hi)
    · rw [← ht, List.getElem?_take] at hu
      split at hu
      · rw [Array.getElem?_toList] at hu
        rw [Array.getElem?_eq_getElem (by rw [hs]; exact hi)] at hu
        exact Option.some.inj hu
      · cases hu
    · rw [add_lit]; exact hB.frozen i
end

theorem grown_weak {w w' : World} {row : Option Nat} (g : w.grownBy w' none) : w.grownBy w' row :=
  ⟨g.os, g.tape, g.output, g.size, fun k hk _ => g.block k hk (by simp)⟩

theorem below_setCells {B b : Nat} {a : World} (hb : B ≤ b) : ∀ (vs : List Value) (o : Nat) (w : World), Below B a w → Below B a (w.setCells b o vs)
  | [], _, _, h => h
  | _ :: r, o, _, h => below_setCells hb r (o + 1) _ (h.setCell hb _)
theorem size_setCells (b : Nat) : ∀ (vs : List Value) (o : Nat) (w : World), (w.setCells b o vs).heap.size = w.heap.size
  | [], _, _ => rfl
  | _ :: r, o, _ => (size_setCells b r (o + 1) _).trans (by simp [World.setCell])
theorem grown_setCells {a : World} {b : Nat} : ∀ (vs : List Value) (o : Nat) (w : World), a.grownBy w (some b) → a.grownBy (w.setCells b o vs) (some b)
  | [], _, _, h => h
  | _ :: r, o, _, h => grown_setCells r (o + 1) _ (grown_setCell h (.inl rfl) _)

theorem run_append_zero {P : Program} (w : World) (t ty e : TypeId) (i : TypeInfo) (ht : P.underlying t = some (.slice e)) (hi : P.info? e = some i) (h : Hd) (hnc : h.n ≤ h.c) (A : Option Addr) (c : Nat) :
    (Builtin.append_ #[t, t] ty #[.slice h.A h.n h.c, .slice A 0 c]).run P w = .ok (.slice h.A h.n h.c) w := by
  obtain ⟨A0, n, cap⟩ := h
  simp only at hnc
  cases A with
  | none => cases A0 <;> simp [Builtin.append_, run_underlying ht, sizeOf, typeInfo, hi, Builtin.lenOf, Builtin.firstCells, hnc, storeCells]
  | some ad =>
    have hf := run_firstCells_some (P := P) w i.size 0 ad 0 c [] (by simp) (by simp)
    cases A0 <;> simp [Builtin.append_, run_underlying ht, sizeOf, typeInfo, hi, Builtin.lenOf, hf, hnc, storeCells]

theorem run_append_Own {P : Program} (w : World) (t ty e : TypeId) (i : TypeInfo) (z : Value) (size bytes : Nat) (ht : P.underlying t = some (.slice e)) (hi : P.info? e = some i) (hz : i.zero = some z)
    (hsize : i.size = size) (hby : i.bytes = bytes) (hzs : z.cells.size = size) (hsz : 0 < size) (B : Nat) (h : Hd) (us : List Value) (o : Own w B size h us)
    (A : Option Addr) (m c : Nat) (news : List Value) (hr : Rd w A (m * size) news) (h1 : ∀ u ∈ news, u.oneCell' = true)
    (h63 : h.n + m ≤ maxLen) (hbytes : (h.n + m) * bytes ≤ 140737488355328) (hB : B ≤ w.heap.size) :
    ∃ k w', (Builtin.append_ #[t, t] ty #[.slice h.A h.n h.c, .slice A m c]).run P w = .ok (.slice k.A k.n k.c) w' ∧ k.n = h.n + m ∧ Own w' B size k (us ++ news) ∧ w.grownBy w' h.row ∧
      (k.row = h.row ∨ ∃ g, k.row = some g ∧ w.heap.size ≤ g) := by
  rcases Nat.eq_zero_or_pos m with rfl | hm
  · obtain rfl : news = [] := List.eq_nil_of_length_eq_zero (by have := hr.1; simpa using this)
    exact ⟨h, w, run_append_zero w t ty e i ht hi h o.nc A c, rfl, by simpa using o, World.grownBy.refl _ _, .inl rfl⟩
  obtain ⟨ad, rfl, hcell0⟩ := hr.2 (Nat.mul_pos hm hsz)
  have hl := hr.1
  have hnews : ∀ j u, news[j]? = some u → w.cell? (ad.add j) = some u := fun j u hj => by
    rw [hcell0 j (by have := (List.getElem?_eq_some_iff.1 hj).1; omega)]; exact hj
  clear hcell0 hr
  obtain ⟨hA, n, cap⟩ := h
  have hnew : ∀ {w' : World} {k : Hd}, w'.heap.size = w'.heap.size → k.n = n + m → Own w' w.heap.size size k (us ++ news) → ∃ g, k.row = some g ∧ w.heap.size ≤ g := fun {w' k} _ hkn ok => by
    have h3 := ok.nc
    cases hkA : k.A with
    | none => have := ok.nil_ hkA; omega
    | some a => exact ⟨a.block, Hd.row_mk hkA (by omega), (ok.rowlt _ (Hd.row_mk hkA (by omega))).1⟩
  rcases Nat.eq_zero_or_pos cap with hc0 | hcpos
  · have hn0 : n = 0 := by have := o.nc; simp only at this; omega
    subst hc0 hn0
    obtain rfl : us = [] := List.eq_nil_of_length_eq_zero (by simpa using o.len)
    cases hA with
    | none =>
      obtain ⟨v', w', hrun, r1, r2, _⟩ := run_append_own (P := P) w w.heap.size t ty e i z size bytes ht hi hz hsize hby hzs hsz (.slice none 0 0) 0 [] (World.ownsRow_nil w _ e size) ad m c news hl hnews h1 h63 hbytes (Nat.le_refl _)
      obtain ⟨k, rfl, hkn, ok, hbk⟩ := Own.of_row hsz r1
      exact ⟨k, w', hrun, hkn, ok.mono hB, r2, .inr (hnew rfl hkn ok)⟩
    | some a0 =>
      obtain ⟨v', w', hrun, r1, r2⟩ := run_append_arg_grows (P := P) w t ty e i z size bytes ht hi hz hsize hby hzs hsz a0 0 0 [] (by simp) (fun j u hj => by simp at hj) ad m c news hl hnews (by omega) h63 hbytes
      obtain ⟨k, rfl, hkn, ok, hbk⟩ := Own.of_row hsz r1
      exact ⟨k, w', hrun, hkn, ok.mono hB, r2, .inr (hnew rfl hkn ok)⟩
  rcases hA with _ | ⟨b, off, sp⟩
  · have := o.nil_ rfl; simp only at this; omega
  · have hrow : Hd.row ⟨some ⟨b, off, sp⟩, n, cap⟩ = some b := Hd.row_mk (h := ⟨some ⟨b, off, sp⟩, n, cap⟩) rfl hcpos
    rw [hrow]
    obtain ⟨hb1, hb2, hsp, hcell⟩ := o.at_ _ rfl hcpos
    simp only at hsp hb1 hb2
    subst hsp
    have hlen := o.len
    have hnc := o.nc
    simp only at hcell hlen hnc h63 hbytes
    by_cases hroom : n + m ≤ cap
    · have hbd : ∀ j, j < m * size → n * size + j < cap * size := fun j hj => by
        have : (n + m) * size ≤ cap * size := Nat.mul_le_mul_right _ hroom
        rw [Nat.add_mul] at this; omega
      have hc' : ∀ j, j < news.length → (w.cell? ⟨b, off + n * i.size + j, none⟩).isSome = true := fun j hj => by
        obtain ⟨⟨v, hv, _⟩, _⟩ := hcell (n * size + j) (hbd j (by omega))
        rw [Addr.add_lit] at hv
        rw [hsize, Nat.add_assoc, hv]; rfl
      have hf' : ∀ j, j < news.length → w.frozen? ⟨b, off + n * i.size + j, none⟩ = false := fun j hj => by
        obtain ⟨_, hv⟩ := hcell (n * size + j) (hbd j (by omega))
        rw [Addr.add_lit] at hv
        rw [hsize, Nat.add_assoc, hv]
      have hrun := run_append_room_cells (P := P) w t ty e i ht hi b off n cap ad m c news (by rw [hl, hsize]) hnews h1 hroom hc' hf'
      refine ⟨⟨some ⟨b, off, none⟩, n + m, cap⟩, _, hrun, rfl, ⟨by simp only [List.length_append, hlen, hl, Nat.add_mul], hroom, o.max, (fun h => by cases h), fun ad' e' _ => ?_⟩, grown_setCells _ _ _ (World.grownBy.refl _ _), .inl (Hd.row_mk (h := ⟨some ⟨b, off, none⟩, n + m, cap⟩) rfl hcpos)⟩
      injection e' with e'
      subst e'
      refine ⟨hb1, by rw [size_setCells]; exact hb2, rfl, fun j hj => ?_⟩
      obtain ⟨⟨v, hv, hu⟩, hfr⟩ := hcell j hj
      refine ⟨?_, by rw [World.frozen?_setCells]; exact hfr⟩
      rw [Addr.add_lit] at hv ⊢
      rw [hsize] at hc' ⊢
      by_cases hin : n * size ≤ j ∧ j < n * size + news.length
      · obtain ⟨q, rfl⟩ : ∃ q, j = n * size + q := ⟨j - n * size, by omega⟩
        have hq : q < news.length := by omega
        refine ⟨news[q], ?_, fun u hu' => ?_⟩
        · have := World.cell?_setCells_in b news (off + n * size) w hc' q hq
          rw [Nat.add_assoc] at this
          exact this
        · rw [List.getElem?_append_right (by omega), hlen, Nat.add_sub_cancel_left, List.getElem?_eq_getElem hq] at hu'
          exact Option.some.inj hu'
      · refine ⟨v, by rw [World.cell?_setCells_out b news _ w _ (fun _ _ => by simp only; omega)]; exact hv, fun u hu' => ?_⟩
        by_cases hj2 : j < us.length
        · rw [List.getElem?_append_left hj2] at hu'
          exact hu u hu'
        · rw [List.getElem?_append_right (by omega)] at hu'
          rw [List.getElem?_eq_none (by omega)] at hu'
          cases hu'
    · have holds : ∀ j u, us[j]? = some u → w.cell? ((⟨b, off, none⟩ : Addr).add j) = some u := fun j u hj => by
        have hjl : j < us.length := (List.getElem?_eq_some_iff.1 hj).1
        obtain ⟨⟨v, hv, hu⟩, _⟩ := hcell j (Nat.lt_of_lt_of_le (by omega) (Nat.mul_le_mul_right size hnc))
        rw [hv, hu u hj]
      obtain ⟨v', w', hrun, r1, r2⟩ := run_append_arg_grows (P := P) w t ty e i z size bytes ht hi hz hsize hby hzs hsz ⟨b, off, none⟩ n cap us hlen holds ad m c news hl hnews (by omega) h63 hbytes
      obtain ⟨k, rfl, hkn, ok, hbk⟩ := Own.of_row hsz r1
      exact ⟨k, w', hrun, hkn, ok.mono hB, grown_weak r2, .inr (hnew rfl hkn ok)⟩

/-- After an append: the row is apart from another slice's. -/
theorem Own.app_ne {w : World} {B K : Nat} {h k : Hd} {us : List Value} (o : Own w B K h us) {b : Option Nat} (hd : k.row = b ∨ ∃ g, k.row = some g ∧ w.heap.size ≤ g) (hne : ∀ c, h.row = some c → b ≠ some c) : ∀ c, h.row = some c → k.row ≠ some c := fun c e e2 => by
  rcases hd with hd | ⟨g, hg, hl⟩
  · rw [hd] at e2; exact hne c e e2
  · rw [hg] at e2
    have := (o.rowlt c e).2
    injection e2 with e2
    omega

theorem wp_append_Own {P : Program} {w : World} {op : Oper} {a : Act} {Kk : Act → World → Prop} {Q : Exit → Act → World → Prop} (s x : Operand) (t : TypeId)
    (hop : op.op = .call { callee := .builtin .append, args := #[s, x], argTypes := #[t, t] })
    (e : TypeId) (size bytes : Nat) (ht : P.underlying t = some (.slice e)) (hinf : (P.info? e).map (fun i => (i.zero.map (·.cells.size), i.size, i.bytes)) = some (some size, size, bytes)) (hsz : 0 < size)
    (B : Nat) (h : Hd) (us : List Value) (hs : a.eval s = .slice h.A h.n h.c) (o : Own w B size h us) (A : Option Addr) (m c : Nat) (news : List Value) (hx : a.eval x = .slice A m c)
    (hr : Rd w A (m * size) news) (h1 : ∀ u ∈ news, u.oneCell' = true) (h63 : h.n + m ≤ 1099511627776) (hbytes : bytes ≤ 64) (hB : B ≤ w.heap.size)
    (hK : ∀ k w', k.n = h.n + m → Own w' B size k (us ++ news) → w.grownBy w' h.row → (k.row = h.row ∨ ∃ g, k.row = some g ∧ w.heap.size ≤ g) → Kk (a.put op.dst (.slice k.A k.n k.c)) w') : op.wp P a w Kk Q := by
  cases hi : P.info? e with
  | none => rw [hi] at hinf; simp at hinf
  | some i =>
    rw [hi] at hinf
    simp only [Option.map_some, Option.some.injEq, Prod.mk.injEq] at hinf
    obtain ⟨hz, hsize, hby⟩ := hinf
    cases hz0 : i.zero with
    | none => rw [hz0] at hz; simp at hz
    | some z =>
      rw [hz0] at hz
      have hbb : (h.n + m) * bytes ≤ 140737488355328 := Nat.le_trans (Nat.mul_le_mul h63 hbytes) (by decide)
      obtain ⟨k, w', hrun, r1, r2, r3, r4⟩ := run_append_Own (P := P) w t op.type e i z size bytes ht hi hz0 hsize hby (by simpa using hz) hsz B h us o A m c news hr h1 (by unfold maxLen; omega) hbb hB
      unfold Oper.wp execOp
      simp only [hop, resolve, invoke, builtin, Sem.run_bind, Sem.run_pure, Result.andThen_ok, List.map_toArray, List.map_cons, List.map_nil, hs, hx, hrun]
      exact hK k w' r1 r2 r3 r4

theorem wpList_append_Own {P : Program} {w : World} {ops : Array Oper} {rest : List Oper} {op : Oper} {a : Act} {Q : Exit → Act → World → Prop} (hgd : op.guard = none) (s x : Operand) (t : TypeId)
    (hop : op.op = .call { callee := .builtin .append, args := #[s, x], argTypes := #[t, t] })
    (e : TypeId) (size bytes : Nat) (ht : P.underlying t = some (.slice e)) (hinf : (P.info? e).map (fun i => (i.zero.map (·.cells.size), i.size, i.bytes)) = some (some size, size, bytes)) (hsz : 0 < size)
    (B : Nat) (h : Hd) (us : List Value) (hs : a.eval s = .slice h.A h.n h.c) (o : Own w B size h us) (A : Option Addr) (m c : Nat) (news : List Value) (hx : a.eval x = .slice A m c)
    (hr : Rd w A (m * size) news) (h1 : ∀ u ∈ news, u.oneCell' = true) (h63 : h.n + m ≤ 1099511627776) (hbytes : bytes ≤ 64) (hB : B ≤ w.heap.size)
    (hK : ∀ k w', k.n = h.n + m → Own w' B size k (us ++ news) → w.grownBy w' h.row → (k.row = h.row ∨ ∃ g, k.row = some g ∧ w.heap.size ≤ g) → wpList P ops Q rest (a.put op.dst (.slice k.A k.n k.c)) w') : wpList P ops Q (op :: rest) a w :=
  wpList_plain hgd fun _ hK' => wp_append_Own s x t hop e size bytes ht hinf hsz B h us hs o A m c news hx hr h1 h63 hbytes hB fun k w' r1 r2 r3 r4 => hK' _ _ (hK k w' r1 r2 r3 r4)

theorem Int64_info : (Try.prog.info? 2).map (fun i => (i.zero.map (·.cells.size), i.size, i.bytes)) = some (some 1, 1, 8) := by kernel_rfl

/-- The head of s[1:], as the walk has it. -/
def Hd.tl (h : Hd) (K : Nat) : Hd := ⟨if h.c = 1 then h.A else h.A.map (·.add K), h.n - 1, h.c - 1⟩
theorem Own.tl {w : World} {B K : Nat} {h : Hd} {us : List Value} (o : Own w B K h us) (hn : 0 < h.n) : Own w B K (h.tl K) (us.drop K) := by
  have hnc := o.nc
  have hlen := o.len
  refine ⟨by simp only [Hd.tl, List.length_drop, hlen, Nat.sub_mul, Nat.one_mul], by simp only [Hd.tl]; omega, by have := o.max; simp only [Hd.tl]; omega, fun e => ?_, fun ad e hc => ?_⟩
  · cases hA : h.A with
    | none => have := o.nil_ hA; simp only [Hd.tl]; omega
    | some ad => rw [Hd.tl, hA] at e; simp only at e; split at e <;> cases e
  · simp only [Hd.tl] at hc
    cases hA : h.A with
    | none => rw [Hd.tl, hA] at e; simp only at e; split at e <;> cases e
    | some a0 =>
      obtain ⟨h1, h2, h3, h4⟩ := o.at_ a0 hA (by omega)
      rw [Hd.tl, hA] at e
      simp only at e
      rw [if_neg (by omega)] at e
      simp only [Option.map_some] at e
      injection e with e
      subst e
      refine ⟨by rw [block_of_add]; exact h1, by rw [block_of_add]; exact h2, by unfold Addr.add; split <;> simp [h3], fun i hi => ?_⟩
      simp only [Hd.tl] at hi
      rw [add_of_add]
      have hlt : K + i < h.c * K := by
        have : h.c * K = (h.c - 1) * K + K := by
          obtain ⟨q, hq⟩ : ∃ q, h.c = q + 1 := ⟨h.c - 1, by omega⟩
          rw [hq, Nat.add_sub_cancel, Nat.add_mul, Nat.one_mul]
        omega
      obtain ⟨⟨v, hv, hu⟩, hf⟩ := h4 (K + i) hlt
      exact ⟨⟨v, hv, fun u e => hu u (by rw [← e, List.getElem?_drop])⟩, hf⟩
theorem Own.tl_row (h : Hd) (K : Nat) : ∀ b, (h.tl K).row = some b → h.row = some b := fun b e => by
  obtain ⟨hc, ad, hA, rfl⟩ := Hd.row_some e
  simp only [Hd.tl] at hc hA
  rw [if_neg (by omega)] at hA
  cases hA0 : h.A with
  | none => rw [hA0] at hA; cases hA
  | some a0 =>
    rw [hA0] at hA
    simp only [Option.map_some] at hA
    injection hA with hA
    rw [← hA, block_of_add]
    exact Hd.row_mk hA0 (by omega)
end Go.Proofs.Ytlgmdekhlcbhoaa
