/- Appending and slicing for elements of any size: laws of the walk. Plain lemmas, no condition. -/
import Derived.Test.YtlgmdekhlcbhoaaOwn
namespace Go.Proofs.Ytlgmdekhlcbhoaa
open Go.RowKit

theorem own_emptyK (w : World) (e : TypeId) (K : Nat) : (w.alloc (.cells #[] e)).ownsRow w.heap.size e K (.slice (some ⟨w.heap.size, 0, none⟩) 0 0) 0 [] :=
  World.ownsRow_made w #[] 0 (Nat.le_refl _) (Nat.zero_le _) (by simp)
section
variable {P : Program} {w : World}
theorem wp_append_rows {op : Oper} {a : Act} {Kk : Act → World → Prop} {Q : Exit → Act → World → Prop} (s x : Operand) (t : TypeId)
    (hop : op.op = .call { callee := .builtin .append, args := #[s, x], argTypes := #[t, t] })
    (e : TypeId) (size bytes : Nat) (ht : P.underlying t = some (.slice e)) (hinf : (P.info? e).map (fun i => (i.zero.map (·.cells.size), i.size, i.bytes)) = some (some size, size, bytes)) (hsz : 0 < size)
    (base : Nat) (v : Value) (n : Nat) (xs : List Value) (hs : a.eval s = v) (hown : w.ownsRow base e size v n xs) (A : Option Addr) (m c : Nat) (news : List Value) (hx : a.eval x = .slice A m c)
    (hr : Rd w A (m * size) news) (h1 : ∀ u ∈ news, u.oneCell' = true) (h63 : n + m ≤ 1099511627776) (hbytes : bytes ≤ 64) (hB : base ≤ w.heap.size)
    (hK : ∀ v' w', w'.ownsRow base e size v' (n + m) (xs ++ news) → w.grownBy w' v.ownBlock → (v'.ownBlock = v.ownBlock ∨ v'.ownBlock = some w.heap.size) → Kk (a.put op.dst v') w') : op.wp P a w Kk Q := by
  cases hi : P.info? e with
  | none => rw [hi] at hinf; simp at hinf
  | some i =>
    rw [hi] at hinf
    simp only [Option.map_some, Option.some.injEq, Prod.mk.injEq] at hinf
    obtain ⟨hz, hsize, hby⟩ := hinf
    cases hz0 : i.zero with
    | none => rw [hz0] at hz; simp at hz
    | some z =>
      rw [hz0] at hz
      have hbb : (n + m) * bytes ≤ 140737488355328 := Nat.le_trans (Nat.mul_le_mul h63 hbytes) (by decide)
      obtain ⟨v', w', hrun, h2, h3, h4⟩ := run_append_any (P := P) w base t op.type e i z size bytes ht hi hz0 hsize hby (by simpa using hz) hsz v n xs hown A m c news hr.1
        (fun hm => by
          obtain ⟨ad, e, hc⟩ := hr.2 (Nat.mul_pos hm hsz)
          exact ⟨ad, e, fun j u hu => by rw [hc j (by have := (List.getElem?_eq_some_iff.1 hu).1; rwa [hr.1] at this)]; exact hu⟩) h1 (by unfold maxLen; omega) hbb hB
      unfold Oper.wp execOp
      simp only [hop, resolve, invoke, builtin, Sem.run_bind, Sem.run_pure, Result.andThen_ok, List.map_toArray, List.map_cons, List.map_nil, hs, hx, hrun]
      exact hK v' w' h2 h3 h4
theorem wpList_append_rows {ops : Array Oper} {rest : List Oper} {op : Oper} {a : Act} {Q : Exit → Act → World → Prop} (hgd : op.guard = none) (s x : Operand) (t : TypeId)
    (hop : op.op = .call { callee := .builtin .append, args := #[s, x], argTypes := #[t, t] })
    (e : TypeId) (size bytes : Nat) (ht : P.underlying t = some (.slice e)) (hinf : (P.info? e).map (fun i => (i.zero.map (·.cells.size), i.size, i.bytes)) = some (some size, size, bytes)) (hsz : 0 < size)
    (base : Nat) (v : Value) (n : Nat) (xs : List Value) (hs : a.eval s = v) (hown : w.ownsRow base e size v n xs) (A : Option Addr) (m c : Nat) (news : List Value) (hx : a.eval x = .slice A m c)
    (hr : Rd w A (m * size) news) (h1 : ∀ u ∈ news, u.oneCell' = true) (h63 : n + m ≤ 1099511627776) (hbytes : bytes ≤ 64) (hB : base ≤ w.heap.size)
    (hK : ∀ v' w', w'.ownsRow base e size v' (n + m) (xs ++ news) → w.grownBy w' v.ownBlock → (v'.ownBlock = v.ownBlock ∨ v'.ownBlock = some w.heap.size) → wpList P ops Q rest (a.put op.dst v') w') : wpList P ops Q (op :: rest) a w :=
  wpList_plain hgd fun _ hK' => wp_append_rows s x t hop e size bytes ht hinf hsz base v n xs hs hown A m c news hx hr h1 h63 hbytes hB fun v' w' r1 r2 r3 => hK' _ _ (hK v' w' r1 r2 r3)
theorem step_append_rows {ops : Array Oper} {op : Oper} {a : Act} {Kk : Act → World → Prop} {Q : Exit → Act → World → Prop} {E : Prop} (hgd : op.guard = none) (s x : Operand) (t : TypeId)
    (hop : op.op = .call { callee := .builtin .append, args := #[s, x], argTypes := #[t, t] })
    (e : TypeId) (size bytes : Nat) (ht : P.underlying t = some (.slice e)) (hinf : (P.info? e).map (fun i => (i.zero.map (·.cells.size), i.size, i.bytes)) = some (some size, size, bytes)) (hsz : 0 < size)
    (base : Nat) (v : Value) (n : Nat) (xs : List Value) (hs : a.eval s = v) (hown : w.ownsRow base e size v n xs) (A : Option Addr) (m c : Nat) (news : List Value) (hx : a.eval x = .slice A m c)
    (hr : Rd w A (m * size) news) (h1 : ∀ u ∈ news, u.oneCell' = true) (h63 : n + m ≤ 1099511627776) (hbytes : bytes ≤ 64) (hB : base ≤ w.heap.size)
    (hK : ∀ v' w', w'.ownsRow base e size v' (n + m) (xs ++ news) → w.grownBy w' v.ownBlock → (v'.ownBlock = v.ownBlock ∨ v'.ownBlock = some w.heap.size) → Kk (a.put op.dst v') w') :
    if Region.wanted op (yielded ops a.tmps) = true then Oper.wp P op a w Kk Q else E := by
  have hw : Region.wanted op (yielded ops a.tmps) = true := by simp [Region.wanted, hgd]
  rw [if_pos hw]
  exact wp_append_rows s x t hop e size bytes ht hinf hsz base v n xs hs hown A m c news hx hr h1 h63 hbytes hB hK
theorem step_append_Own {ops : Array Oper} {op : Oper} {a : Act} {Kk : Act → World → Prop} {Q : Exit → Act → World → Prop} {E : Prop} (hgd : op.guard = none) (s x : Operand) (t : TypeId)
    (hop : op.op = .call { callee := .builtin .append, args := #[s, x], argTypes := #[t, t] })
    (e : TypeId) (size bytes : Nat) (ht : P.underlying t = some (.slice e)) (hinf : (P.info? e).map (fun i => (i.zero.map (·.cells.size), i.size, i.bytes)) = some (some size, size, bytes)) (hsz : 0 < size)
    (B : Nat) (h : Hd) (us : List Value) (hs : a.eval s = .slice h.A h.n h.c) (o : Own w B size h us) (A : Option Addr) (m c : Nat) (news : List Value) (hx : a.eval x = .slice A m c)
    (hr : Rd w A (m * size) news) (h1 : ∀ u ∈ news, u.oneCell' = true) (h63 : h.n + m ≤ 1099511627776) (hbytes : bytes ≤ 64) (hB : B ≤ w.heap.size)
    (hK : ∀ k w', k.n = h.n + m → Own w' B size k (us ++ news) → w.grownBy w' h.row → (k.row = h.row ∨ ∃ g, k.row = some g ∧ w.heap.size ≤ g) → Kk (a.put op.dst (.slice k.A k.n k.c)) w') :
    if Region.wanted op (yielded ops a.tmps) = true then Oper.wp P op a w Kk Q else E := by
  have hw : Region.wanted op (yielded ops a.tmps) = true := by simp [Region.wanted, hgd]
  rw [if_pos hw]
  exact wp_append_Own s x t hop e size bytes ht hinf hsz B h us hs o A m c news hx hr h1 h63 hbytes hB hK
end

/-- s[1:] -/
theorem run_tail {P : Program} (w : World) (t e : TypeId) (K : Nat) (bytes : Nat) (ht : P.underlying t = some (.slice e)) (hinf : (P.info? e).map (fun i => (i.zero.map (·.cells.size), i.size, i.bytes)) = some (some K, K, bytes)) (h : Hd) (h1 : 1 ≤ h.n) :
    (Instr.sliceAt t (.slice h.A h.n h.c) (some (.int .i64 1)) none none).run P w = .ok (.slice (h.tl K).A (h.tl K).n (h.tl K).c) w := by
  have hel : P.elem t = e := by simp [Program.elem, ht]
  have ht' : P.underlying t = some (.slice (P.elem t)) := by rw [hel]; exact ht
  cases hi : P.info? e with
  | none => rw [hi] at hinf; simp at hinf
  | some i =>
    rw [hi] at hinf
    simp only [Option.map_some, Option.some.injEq, Prod.mk.injEq] at hinf
    rw [run_sliceAt_slice w t _ _ _ _ ht', run_slice_l w t h.A h.n h.c ht' .i64 1 (by omega) (by omega)]
    simp [sizeOf, typeInfo, hel, hi, sliced, Hd.tl, hinf.2.1]

theorem cells_below {w w' : World} {g : Nat} {cs : Array Value} {B : Nat} (h : ∀ o, w.cell? ⟨g, o, none⟩ = cs[o]?) (b : Below B w w') (hg : g < B) : ∀ o, w'.cell? ⟨g, o, none⟩ = cs[o]? := fun o => (b.cell (p := ⟨g, o, none⟩) hg).trans (h o)

theorem cells_alloc {w : World} {g : Nat} {cs : Array Value} (h : ∀ o, w.cell? ⟨g, o, none⟩ = cs[o]?) (hg : g < w.heap.size) (ob : Obj) : ∀ o, (w.alloc ob).cell? ⟨g, o, none⟩ = cs[o]? :=
  cells_below h ((Below.refl w.heap.size w).alloc (Nat.le_refl _) ob) hg
theorem own_drew1 {w : World} {base n K : Nat} {e : TypeId} {v : Value} {us : List Value} (h : w.ownsRow base e K v n us) : w.drew.ownsRow base e K v n us := h
theorem cells_drew {w : World} {g : Nat} {cs : Array Value} (h : ∀ o, w.cell? ⟨g, o, none⟩ = cs[o]?) : ∀ o, w.drew.cell? ⟨g, o, none⟩ = cs[o]? := h
theorem held_below {w w' : World} {g : Nat} {cs cr : Array Value} {B : Nat} (h : (∀ o, w.cell? ⟨g, o, none⟩ = cs[o]?) ∧ (∀ o, w.cell? ⟨g + 1, o, none⟩ = cr[o]?) ∧ (∀ o, w.frozen? ⟨g + 1, o, none⟩ = false) ∧ g + 1 < w.heap.size) (b : Below B w w') (hg : g + 1 < B) (hB : B ≤ w.heap.size) :
    (∀ o, w'.cell? ⟨g, o, none⟩ = cs[o]?) ∧ (∀ o, w'.cell? ⟨g + 1, o, none⟩ = cr[o]?) ∧ (∀ o, w'.frozen? ⟨g + 1, o, none⟩ = false) ∧ g + 1 < w'.heap.size :=
  ⟨cells_below h.1 b (by omega), cells_below h.2.1 b hg, fun o => (b.frozen (p := ⟨g + 1, o, none⟩) hg).trans (h.2.2.1 o), by have := b.size; omega⟩
theorem held_alloc {w : World} {g : Nat} {cs cr : Array Value} (h : (∀ o, w.cell? ⟨g, o, none⟩ = cs[o]?) ∧ (∀ o, w.cell? ⟨g + 1, o, none⟩ = cr[o]?) ∧ (∀ o, w.frozen? ⟨g + 1, o, none⟩ = false) ∧ g + 1 < w.heap.size) (ob : Obj) :
    (∀ o, (w.alloc ob).cell? ⟨g, o, none⟩ = cs[o]?) ∧ (∀ o, (w.alloc ob).cell? ⟨g + 1, o, none⟩ = cr[o]?) ∧ (∀ o, (w.alloc ob).frozen? ⟨g + 1, o, none⟩ = false) ∧ g + 1 < (w.alloc ob).heap.size :=
  held_below h ((Below.refl w.heap.size w).alloc (Nat.le_refl _) ob) h.2.2.2 (Nat.le_refl _)
/-- Slices apart: from their arrays to what they show. -/
theorem row_of_blkp {h : Hd} {n b : Nat} (hn : 0 < n → 0 < h.c) (e : blkp h.A n = some b) : h.row = some b := by
  obtain ⟨ad, e1, hp, rfl⟩ := row_some e
  exact Hd.row_mk e1 (hn hp)
theorem Sep.ofRow (l : List (Hd × Nat)) (hl : ∀ p ∈ l, 0 < p.2 → 0 < p.1.c) (h : Sep (l.map fun p => p.1.row)) : Sep (l.map fun p => blkp p.1.A p.2) := by
  unfold Sep at *
  rw [List.pairwise_map] at *
  exact h.imp_of_mem fun {p q} hp hq k b e e2 => k b (row_of_blkp (hl p hp) e) (row_of_blkp (hl q hq) e2)
theorem Own.npos {w : World} {B K : Nat} {h : Hd} {us : List Value} (o : Own w B K h us) {n : Nat} (hn : n = h.n * K) : 0 < n → 0 < h.c := fun h => by
  subst hn
  have := Nat.pos_of_mul_pos_right h
  have := o.nc
  omega
theorem Sep.replace {L : List (Option Nat)} (i : Nat) {q : Option Nat} (hS : Sep L) (hq : ∀ b, q = some b → L[i]? = some (some b) ∨ ∀ s ∈ L, s ≠ some b) : Sep (L.set i q) := by
  unfold Sep at *
  rw [List.pairwise_iff_getElem] at *
  intro x y hx hy hxy b e1 e2
  have hx' : x < L.length := by rw [List.length_set] at hx; exact hx
  have hy' : y < L.length := by rw [List.length_set] at hy; exact hy
  rw [List.getElem_set] at e1 e2
  split at e1
  · subst_vars
    rw [if_neg (by omega)] at e2
    rcases hq b rfl with h | h
    · rw [List.getElem?_eq_getElem (by omega)] at h
      exact hS _ _ _ hy' hxy b (Option.some.inj h) e2
    · exact h _ (List.getElem_mem hy') e2
  · split at e2
    · subst_vars
      rcases hq b rfl with h | h
      · rw [List.getElem?_eq_getElem (by omega)] at h
        exact hS _ _ hx' _ hxy b e1 (Option.some.inj h)
      · exact h _ (List.getElem_mem hx') e1
    · exact hS x y hx' hy' hxy b e1 e2
theorem Sep.nth {L : List (Option Nat)} (hS : Sep L) {i j : Nat} {p q : Option Nat} (hi : L[i]? = some p) (hj : L[j]? = some q) (hij : i ≠ j) : ∀ b, q = some b → p ≠ some b := fun b e1 e2 => by
  unfold Sep at hS
  rw [List.pairwise_iff_getElem] at hS
  obtain ⟨hil, hi⟩ := List.getElem?_eq_some_iff.1 hi
  obtain ⟨hjl, hj⟩ := List.getElem?_eq_some_iff.1 hj
  rcases Nat.lt_or_ge i j with h | h
  · exact hS i j hil hjl h b (hi.trans e2) (hj.trans e1)
  · exact hS j i hjl hil (by omega) b (hj.trans e1) (hi.trans e2)
theorem Ne.replace {L : List (Option Nat)} {g : Nat} (i : Nat) {q : Option Nat} (h : ∀ s ∈ L, s ≠ some g) (hq : q ≠ some g) : ∀ s ∈ L.set i q, s ≠ some g := fun s hs => by
  rcases List.mem_or_eq_of_mem_set hs with h1 | rfl
  · exact h s h1
  · exact hq
theorem grown_cell (w : World) (g i : Nat) (u : Value) : w.grownBy (w.setCell ⟨g, i, none⟩ u) (some g) := grown_setCell (World.grownBy.refl _ _) (.inl rfl) u
theorem ints_drop (xs : List Int) (k : Nat) : (ints xs).drop k = ints (xs.drop k) := by unfold ints; rw [List.map_drop]
theorem grown_of_below {w w' : World} {row : Option Nat} (b : Below w.heap.size w w') : w.grownBy w' row := ⟨b.os, b.tape, b.output, b.size, fun k hk _ => b.block k hk⟩
theorem app_q {G : Hd} {r : Option Nat} {n m : Nat} (hat : G.row = r ∨ ∃ g, G.row = some g ∧ m ≤ g) (hz : n ≤ m) : ∀ b, G.row = some b → r = some b ∨ n ≤ b := fun b e => by
  rcases hat with h | ⟨g, h, hl⟩
  · exact .inl (h ▸ e)
  · rw [h] at e; injection e with e; exact .inr (by omega)
theorem cells_grown {w w' : World} {g : Nat} {cs : Array Value} {row : Option Nat} (h : ∀ o, w.cell? ⟨g, o, none⟩ = cs[o]?) (hg : g < w.heap.size) (gg : w.grownBy w' row) (hne : row ≠ some g) : ∀ o, w'.cell? ⟨g, o, none⟩ = cs[o]? := fun o =>
  (World.cell?_of_block (w := w) (w' := w') (a := ⟨g, o, none⟩) (gg.block g hg (fun c => hne c.symm))).trans (h o)
theorem cells_new (W : World) (t : TypeId) (cs : Array Value) {g : Nat} (hg : W.heap.size = g) : ∀ o, (W.alloc (.cells cs t)).cell? ⟨g, o, none⟩ = cs[o]? := fun o => by subst hg; exact (Blk.new W t cs).cell o
theorem Above.drew {B : Nat} {a w : World} (h : Above B a w) : Above B a w.drew := ⟨h.size, h.block⟩
theorem Above.drewN {B : Nat} {a w : World} (h : Above B a w) (n : Nat) : Above B a (w.drewN n) := ⟨h.size, h.block⟩
theorem Own.cast {w : World} {B K n : Nat} {h : Hd} {us : List Value} (o : Own w B K h us) (hn : h.n = n) : Own w B K ⟨h.A, n, h.c⟩ us := by subst hn; exact o
theorem Own.rd1 {w : World} {B : Nat} {h : Hd} {us : List Value} (o : Own w B 1 h us) : Rd w h.A h.n us := by have := o.rd; rwa [Nat.mul_one] at this
theorem Own.wr1 {w : World} {B : Nat} {h : Hd} {us : List Value} (o : Own w B 1 h us) : Wr w B h.A h.n := by have := o.wr; rwa [Nat.mul_one] at this

set_option maxHeartbeats 400000 in
theorem cloneOwn_any (A : Option Addr) (n c : Nat) (xs : List Int) (w : World) (hn : n ≤ 2097152) (hr : Rd w A n (ints xs)) :
    Calls Try.prog 120 #[.slice A n c] w fun e w' => ∃ h : Hd, e = .returned (.slice h.A h.n h.c) ∧ h.n = n ∧ Own w' w.heap.size 1 h (ints xs) ∧ Below w.heap.size w w' :=
  (clone_any A n c xs w hn hr).mono fun e w' ⟨v, he, ho, hb⟩ => by
    obtain ⟨h, rfl, hn, o, _⟩ := Own.of_row (by decide) ho
    exact ⟨h, he, hn, o, hb⟩
set_option maxHeartbeats 400000 in
theorem l01OwnOwn_any (A : Option Addr) (n c : Nat) (xs : List Int) (w : World) (hn : n ≤ 2097152) (hr : Rd w A n (ints xs)) :
    Calls Try.prog 163 #[.slice A n c] w fun e w' => ∃ h : Hd, e = .returned (.slice h.A h.n h.c) ∧ h.n = n ∧ Own w' w.heap.size 1 h (ints xs) ∧ Below w.heap.size w w' :=
  (l01Own_any A n c xs w hn hr).mono fun e w' ⟨v, he, ho, hb⟩ => by
    obtain ⟨h, rfl, hn, o, _⟩ := Own.of_row (by decide) ho
    exact ⟨h, he, hn, o, hb⟩
end Go.Proofs.Ytlgmdekhlcbhoaa
