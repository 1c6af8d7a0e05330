/- A list of numbers that comes in as an argument, and a comparison that leaves memory as it was. No condition. -/
import Derived.Test.YtlgmdekhlcbhoaaRes
namespace Go.Proofs.Ytlgmdekhlcbhoaa
open Go.RowKit

/-- What is known of a list of numbers that came in. -/
structure ArgI (w : World) (A : Option Addr) (n c : Nat) (xs : List Int) : Prop where
  rd : Rd w A n (ints xs)
  cap : n ≤ c
  max : n ≤ 9223372036854775807
  wf : ∀ x ∈ xs, (Lit.int .i64 x).wf = true
theorem argI_nil (w : World) : ArgI w none 0 0 [] := ⟨Rd.nil _ _, Nat.le_refl _, by omega, fun _ h => by cases h⟩
theorem argI_mk {w : World} {x : Addr} {l c : Nat} {zs : List Int} (hl : l ≤ c) (hm : c ≤ maxLen) (hz : zs.length = c)
    (hcell : ∀ i, i < zs.length → w.cell? (x.add i) = some (.int .i64 (zs.getD i 0))) (hwz : ∀ n ∈ zs, (Lit.int .i64 n).wf = true) : ArgI w (some x) l c (zs.take l) := by
  refine ⟨⟨by unfold ints; simp; omega, fun _ => ⟨x, rfl, fun i hi => ?_⟩⟩, hl, by unfold maxLen at hm; omega, fun n hn => hwz n (List.mem_of_mem_take hn)⟩
  rw [hcell i (by omega), ints_getElem?]
  simp [hi, List.getElem?_eq_getElem (show i < zs.length by omega)]

theorem eqInt64S_below (A B : Option Addr) (n c d : Nat) (xs : List Int) (w : World) (hn : n ≤ 9223372036854775807) (ha : Rd w A n (ints xs)) (hb : Rd w B n (ints xs)) :
    Calls Try.prog 19 #[.slice A n c, .slice B n d] w fun e w' => e = .returned (.bool true) ∧ Below w.heap.size w w' :=
  (eqInt64S_same A B n c d xs w hn ha hb).mono fun _ _ ⟨h, m, h'⟩ => ⟨h, by subst h'; exact below_drewN w m⟩
end Go.Proofs.Ytlgmdekhlcbhoaa
