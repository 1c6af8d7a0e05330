/- Bodies of loops over iterators: what stays, and an append within a round. Plain lemmas; no condition. -/
import Derived.Test.YtoledbicmghmbaaGreatDoorLines
namespace Go.Proofs.YtoledbicmghmbaaGreatDoor
open Go.RowKit Go.Shelf

section
variable {w w' W V : World} {B K : Nat} {h : Hd} {us : List Value}
/-- the block of an own list is cells -/
theorem Own.rowcells (o : Own w B K h us) (hK : 0 < K) : ∀ b, h.row = some b → ∃ o : Obj, w.heap[b]? = some o ∧ o.isCells = true := fun b e => by
  obtain ⟨hc0, ad, hA, rfl⟩ := Hd.row_some e
  obtain ⟨_, _, _, h4⟩ := o.at_ ad hA hc0
  obtain ⟨⟨u, hu, _⟩, _⟩ := h4 0 (by have := Nat.mul_pos hc0 hK; omega)
  obtain ⟨o', ho', hcc⟩ := cells_of_cell hu
  rw [block_of_add] at ho'
  exact ⟨o', ho', hcc⟩
theorem Own.stays (o : Own w B K h us) (hK : 0 < K) {row : Option Nat} {g C : Nat} (hg : w.grownBy w' row) (hr : ∀ r, row = some r → r = g ∨ (C ≤ r ∧ ∃ o : Obj, w.heap[r]? = some o ∧ o.isCells = false)) (hgB : g < B) : Own w' B K h us :=
  o.grown hg (fun b e c => by
    rcases hr b c with e1 | ⟨_, ob, h1, h2⟩
    · have := (o.rowlt b e).1; omega
    · obtain ⟨o2, h3, h4⟩ := o.rowcells hK b e
      rw [h1] at h3
      cases h3
      rw [h2] at h4
      cases h4)
theorem Blk.stays {g0 : Nat} {t : TypeId} {cs : Array Value} (b : Blk w g0 t cs) {row : Option Nat} {g C : Nat} (hg : w.grownBy w' row) (hr : ∀ r, row = some r → r = g ∨ (C ≤ r ∧ ∃ o : Obj, w.heap[r]? = some o ∧ o.isCells = false)) (h1 : g0 ≠ g) : Blk w' g0 t cs :=
  b.grown hg (fun c => by
    rcases hr g0 c with e1 | ⟨_, ob, h2, h3⟩
    · exact h1 e1
    · unfold Blk at b
      rw [b] at h2
      cases h2
      cases h3)
theorem below_stays {n : Nat} (b : Below n w W) {row : Option Nat} {g C : Nat} (hg : W.grownBy V row) (hr : ∀ r, row = some r → r = g ∨ (C ≤ r ∧ ∃ o : Obj, W.heap[r]? = some o ∧ o.isCells = false)) (hn : n ≤ w.heap.size) (h1 : n ≤ g) (h2 : n ≤ C) : Below n w V :=
  b.grown hg (Nat.le_trans hn b.size) (fun k e => by rcases hr k e with e1 | ⟨h3, _⟩ <;> omega)
theorem keeps_bel (b : Below w.heap.size w W) : KeepsOthers w W := ⟨b.size, fun k o hk _ => (b.block k (Array.getElem?_eq_some_iff.1 hk).1).trans hk⟩
theorem keeps_own (o : Own w B K h us) (hK : 0 < K) (g : w.grownBy w' h.row) : KeepsOthers w w' :=
  KeepsOthers.of_grownBy g (fun j ob e ho => by
    obtain ⟨o2, h3, h4⟩ := o.rowcells hK j e
    rw [ho] at h3
    cases h3
    exact h4)
theorem KpB.bel {gb n₀ : Nat} (b : Below w.heap.size w W) (h : n₀ ≤ w.heap.size) : KpB gb n₀ w W := ⟨b.size, fun k h1 _ => b.block k (by omega)⟩
theorem KpB.grown {gb n₀ : Nat} {row : Option Nat} (g : w.grownBy W row) (hr : ∀ b, row = some b → n₀ ≤ b) (h : n₀ ≤ w.heap.size) : KpB gb n₀ w W :=
  ⟨g.size, fun k h1 _ => g.block k (by omega) (fun e => by have := hr k e.symm; omega)⟩
theorem KpB.set {gb n₀ : Nat} (W : World) (v : Value) : KpB gb n₀ W (W.setCell ⟨gb, 0, none⟩ v) :=
  ⟨by simp [World.setCell], fun k _ h2 => Below.heap_setCell _ _ _ k h2⟩
end

theorem wpListIn_append_Own {F : Fence} {n : Nat} {P : Program} {w : World} {ops : Array Oper} {rest : List Oper} {op : Oper} {a : Act} {Q : Exit → Act → World → Prop} (hgd : op.guard = none) (s x : Operand) (t : TypeId)
    (hop : op.op = .call { callee := .builtin .append, args := #[s, x], argTypes := #[t, t] })
    (e : TypeId) (size bytes : Nat) (ht : P.underlying t = some (.slice e)) (hinf : (P.info? e).map (fun i => (i.zero.map (·.cells.size), i.size, i.bytes)) = some (some size, size, bytes)) (hsz : 0 < size)
    (B : Nat) (h : Hd) (us : List Value) (hs : a.eval s = .slice h.A h.n h.c) (o : Own w B size h us) (A : Option Addr) (m c : Nat) (news : List Value) (hx : a.eval x = .slice A m c)
    (hr : Rd w A (m * size) news) (h1 : ∀ u ∈ news, u.oneCell' = true) (h63 : h.n + m ≤ 1099511627776) (hbytes : bytes ≤ 64) (hB : B ≤ w.heap.size)
    (hK : ∀ k w', k.n = h.n + m → Own w' B size k (us ++ news) → w.grownBy w' h.row → wpListIn F n P ops Q rest (a.put op.dst (.slice k.A k.n k.c)) w') : wpListIn F n P ops Q (op :: rest) a w := by
  refine wpListIn_plain hgd fun Kk hK' => ?_
  cases hi : P.info? e with
  | none => rw [hi] at hinf; simp at hinf
  | some i =>
    rw [hi] at hinf
    simp only [Option.map_some, Option.some.injEq, Prod.mk.injEq] at hinf
    obtain ⟨hz, hsize, hby⟩ := hinf
    cases hz0 : i.zero with
    | none => rw [hz0] at hz; simp at hz
    | some z =>
      rw [hz0] at hz
      have hbb : (h.n + m) * bytes ≤ 140737488355328 := Nat.le_trans (Nat.mul_le_mul h63 hbytes) (by decide)
      obtain ⟨k, w', hrun, r1, r2, r3, _⟩ := run_append_Own (P := P) w t op.type e i z size bytes ht hi hz0 hsize hby (by simpa using hz) hsz B h us o A m c news hr h1 (by unfold maxLen; omega) hbb hB
      unfold Oper.wpIn
      refine ⟨?_, ?_⟩
      · simp [Oper.about, hop, resolve, Target.leads, Sem.run_pure]
      · rw [Oper.semAt_plain F _ _ (by rw [hop]; intro c hc'; cases hc')]
        simp [execOp, hop, resolve, invoke, builtin, hs, hx, hrun, Result.andThen]
        exact hK' _ _ (hK k w' r1 r2 r3)
theorem leaveB_nil {n : Nat} {P : Program} {fn : Func} {R : Ending → World → Prop} {tmps : Array Value} {w : World} {v : Value} (h : (results fn tmps).run P w = .ok v w) (hR : R (.returned v) w) :
    bodyPostM Fence.wide n P fn R .ret { tmps := tmps, defers := [] } w := ⟨v, h, hR⟩
theorem leaveB_mark {n : Nat} {P : Program} {fn : Func} {R : Ending → World → Prop} {tmps : Array Value} {w : World} {D : Nat} (hK : w.heap[D]? = some (.deferred (some []))) {v : Value} (h : (results fn tmps).run P (w.putObj D (.deferred none)) = .ok v (w.putObj D (.deferred none))) (hR : R (.returned v) (w.putObj D (.deferred none))) :
    bodyPostM Fence.wide n P fn R .ret { tmps := tmps, defers := [{ target := .collected D, args := #[] }] } w := ⟨by simp, .inl ⟨D, _, rfl, run_takeDeferred hK, v, h, hR⟩⟩
end Go.Proofs.YtoledbicmghmbaaGreatDoor
