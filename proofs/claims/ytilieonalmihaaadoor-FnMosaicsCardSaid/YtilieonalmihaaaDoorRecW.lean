/- The line of a record, both sides. Condition: the library's table of powers of ten is as it is laid. -/
import Derived.Test.YtilieonalmihaaaDoorRecP
import Derived.Test.YtilieonalmihaaaDoorStB
namespace Go.Proofs.YtilieonalmihaaaDoor
open Go.RowKit

theorem own_lit2 (w : World) (a b : Int) (e : TypeId) : (w.alloc (.cells #[.int .i64 a, .int .i64 b] e)).ownsRow w.heap.size e 1 (.slice (some ⟨w.heap.size, 0, none⟩) 2 2) 2 (ints [a, b]) :=
  ⟨rfl, .inr ⟨w.heap.size, 2, #[.int .i64 a, .int .i64 b], rfl, Nat.le_refl _, heap_alloc_new w _, Nat.le_refl _, by unfold maxLen; omega, rfl, rfl⟩⟩
theorem blk_drewS {w : World} {g : Nat} {t : TypeId} {cs : Array Value} (h : Blk w g t cs) : Blk w.drew g t cs := h
theorem rd_litS (w : World) (xs : List Int) (e : TypeId) (n : Nat) (hn : xs.length = n) : Rd (w.alloc (.cells (ints xs).toArray e)) (some ⟨w.heap.size, 0, none⟩) n (ints xs) := by
  subst hn
  refine ⟨by simp [ints], fun _ => ⟨_, rfl, fun i hi => ?_⟩⟩
  rw [add_lit, (Blk.new w e (ints xs).toArray).cell]
  simp
theorem tx_len {f : R7} (h : f.ok = true) : f.tx.length ≤ 200 := by
  have h1 := R7.of_ns h
  have h2 := joinI_len [32] f.ns (fun x hx => by have := h1.2.1 x hx; omega)
  have h3 : f.ns.length ≤ 6 := by
    unfold R7.ns
    split
    · simp
    · split <;> simp
  have h4 := Nat.mul_le_mul_right ([32].length + 21) h3
  unfold R7.tx
  simp at h4 h2 ⊢
  omega
theorem ln_len {f : R7} (h : f.ok = true) : f.ln.length ≤ 300 := by
  have h1 := tx_len h
  have h2 := chkFold_bd f.tx
  have h3 := itoa_len (chkFold f.tx) (by omega) (by omega)
  unfold R7.ln
  simp
  omega
def R7.V (f : R7) : Value := .agg #[.int .i64 f.t, .int .i64 f.k, .int .i64 f.l, .int .i64 f.x, .int .i64 f.y, .int .i64 f.d, .int .i64 f.r]

/-- the text of a record: its line, or nothing -/
def R7.t0 (f : R7) : Bs := if f.ok = true then f.ln else []
end Go.Proofs.YtilieonalmihaaaDoor
