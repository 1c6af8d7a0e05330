/- The draw of a text of a mosaic. Existential: some text. No condition. -/
import Derived.Test.YtilieonalmihaaaDoorMosRd
import Derived.Test.YtilieonalmihaaaDoorDrawS
import Derived.Test.YtilieonalmihaaaDoorDrT
namespace Go.Proofs.YtilieonalmihaaaDoor
open Go.RowKit

theorem mosTx_len (l : MosaicC) : (mosTx l).length ≤ 70440 := by
  unfold mosTx
  split
  · next h =>
    exact rows_len (MOk.of h) (Nat.le_refl _)
  · simp
set_option maxRecDepth 100000 in
set_option maxHeartbeats 1000000 in
theorem drawReadMosaic_any (A : Option Addr) (n c : Nat) (bs : List Int) (w : World) (r : Rd w A n (byteV bs)) (hx : ∀ x ∈ bs, 0 ≤ x ∧ x ≤ 255) (hn : n ≤ 4096) :
    Calls Tryd.prog 10 #[.slice A n c] w fun e w' => ∃ u : Bs, e = .returned (.string ⟨u.toArray⟩) ∧ u.length ≤ 100000 ∧ Below w.heap.size w w' := by
  go_enter Tryd.func10, Tryd.ntmps10
  go_wp2_with fail
  refine (l01From_any A n c bs _ r hx hn).mono ?_
  rintro e w1 ⟨g, rfl, S1, b1⟩
  go_wp2_with fail
  refine (l19Draw_any _ g _ S1).mono ?_
  rintro e w2 ⟨h, l, rfl, X, D2⟩
  have hle := X.le
  have heq := X.eq
  go_wp2_with fail
  refine (specMosaicText_any h l _ ⟨by omega, by omega⟩ X.rd).mono ?_
  rintro e w3 ⟨rfl, b3⟩
  have D3 := D2.bel b3
  have hl := mosTx_len l
  generalize mosTx l = LT at *
  clear D2 b3 X
  go_wp2_with fail
  refine (l01Next_any _ g 3 _ D3.src (by decide)).mono ?_
  rintro e w4 ⟨q, rfl, q0, q1, g4, S4⟩
  have D4 := D3.next g4 S4
  clear D3 g4 S4
  by_cases h0 : q = 0
  · subst h0
    go_wp2_with fail
    refine (l01Damage_any _ g LT _ D4.src (by omega)).mono ?_
    rintro e w5 ⟨u, rfl, hu, D5⟩
    have b5 := (D4.next D5.gr D5.src).fin b1
    go_wp2
    go_ret
    exact ⟨u, rfl, by omega, b5⟩
  · have q0' : (q == 0) = false := by rw [beq_eq_false_iff_ne]; exact h0
    have b5 := D4.fin b1
    go_wp2
    go_ret
    exact ⟨LT, rfl, by omega, b5⟩
end Go.Proofs.YtilieonalmihaaaDoor
