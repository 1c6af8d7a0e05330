/- The check number of a text: what spec.CheckNumber and impl.CheckNumber compute. No condition. -/
import Derived.Test.YtilieonalmihaaaDoorKern
namespace Go.Proofs.YtilieonalmihaaaDoor
open Go.RowKit

def chkStep (s : Int) (b : UInt8) : Int := (31 * s + (b.toNat : Int)) % 65521
def chkFold (l : List UInt8) : Int := l.foldl chkStep 1
theorem chkFold_bd (l : List UInt8) : 0 ≤ chkFold l ∧ chkFold l < 65521 := by
  unfold chkFold
  have : ∀ (l : List UInt8) (s : Int), 0 ≤ s → s < 65521 → 0 ≤ l.foldl chkStep s ∧ l.foldl chkStep s < 65521 := by
    intro l
    induction l with
    | nil => intro s h1 h2; exact ⟨h1, h2⟩
    | cons b r ih => intro s h1 h2; exact ih _ (by unfold chkStep; omega) (by unfold chkStep; omega)
  exact this l 1 (by omega) (by omega)
theorem chkFold_snoc (l : List UInt8) (b : UInt8) : chkFold (l ++ [b]) = (31 * chkFold l + (b.toNat : Int)) % 65521 := by
  unfold chkFold; rw [List.foldl_append]; rfl
theorem take_snoc_bytes (s : ByteArray) (k : Nat) (h : k < s.size) : s.data.toList.take (k + 1) = s.data.toList.take k ++ [s[k]] := by
  rw [List.take_succ_eq_append_getElem (by simpa using h)]; rfl

end Go.Proofs.YtilieonalmihaaaDoor
