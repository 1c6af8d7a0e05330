/- A list of bytes that comes in as an argument. No condition. -/
import Derived.Test.YtilieonalmihaaaDoorDrawK
namespace Go.Proofs.YtilieonalmihaaaDoor
open Go.RowKit

structure ArgB (w : World) (A : Option Addr) (n c : Nat) (xs : List Int) : Prop where
  rd : Rd w A n (byteV xs)
  cap : n ≤ c
  max : n ≤ 9223372036854775807
  wf : ∀ x ∈ xs, (Lit.int .u8 x).wf = true
theorem argB_nil (w : World) : ArgB w none 0 0 [] := ⟨Rd.nil _ _, Nat.le_refl _, by omega, fun _ h => by cases h⟩
theorem argB_mk {w : World} {x : Addr} {l c : Nat} {zs : List Int} (hl : l ≤ c) (hm : c ≤ maxLen) (hz : zs.length = c)
    (hcell : ∀ i, i < zs.length → w.cell? (x.add i) = some (.int .u8 (zs.getD i 0))) (hwz : ∀ n ∈ zs, (Lit.int .u8 n).wf = true) : ArgB w (some x) l c (zs.take l) := by
  refine ⟨⟨by unfold byteV; simp; omega, fun _ => ⟨x, rfl, fun i hi => ?_⟩⟩, hl, by unfold maxLen at hm; omega, fun n hn => hwz n (List.mem_of_mem_take hn)⟩
  rw [hcell i (by omega), byteV_getElem?]
  simp [hi, List.getElem?_eq_getElem (show i < zs.length by omega)]
theorem u8_bd {x : Int} (h : (Lit.int .u8 x).wf = true) : 0 ≤ x ∧ x ≤ 255 := by
  simp [Lit.wf, IntKind.min, IntKind.max, IntKind.bits, IntKind.signed] at h
  omega
theorem ArgB.byte {w : World} {A : Option Addr} {n c : Nat} {xs : List Int} (g : ArgB w A n c xs) : ∀ x ∈ xs, 0 ≤ x ∧ x ≤ 255 := fun x hx => u8_bd (g.wf x hx)
end Go.Proofs.YtilieonalmihaaaDoor
