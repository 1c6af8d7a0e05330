/- The check number of a text: what spec.CheckNumber and impl.CheckNumber compute. No condition. -/
import Derived.Test.YtoledbicmghmbaaDoorKern
namespace Go.Proofs.YtoledbicmghmbaaDoor
open Go.RowKit

def chkStep (s : Int) (b : UInt8) : Int := (31 * s + (b.toNat : Int)) % 65521
def chkFold (l : List UInt8) : Int := l.foldl chkStep 1
theorem chkFold_bd (l : List UInt8) : 0 ≤ chkFold l ∧ chkFold l < 65521 := by
  unfold chkFold
  have : ∀ (l : List UInt8) (s : Int), 0 ≤ s → s < 65521 → 0 ≤ l.foldl chkStep s ∧ l.foldl chkStep s < 65521 := by
    intro l
    induction l with
    | nil => intro s h1 h2; exact ⟨h1, h2⟩
    | cons b r ih => intro s h1 h2; exact ih _ (by unfold chkStep; omega) (by unfold chkStep; omega)
  exact this l 1 (by omega) (by omega)
theorem chkFold_snoc (l : List UInt8) (b : UInt8) : chkFold (l ++ [b]) = (31 * chkFold l + (b.toNat : Int)) % 65521 := by
  unfold chkFold; rw [List.foldl_append]; rfl
theorem take_snoc_bytes (s : ByteArray) (k : Nat) (h : k < s.size) : s.data.toList.take (k + 1) = s.data.toList.take k ++ [s[k]] := by
  rw [List.take_succ_eq_append_getElem (by simpa using h)]; rfl

set_option maxHeartbeats 400000 in
theorem specCheckNumber_any (s : ByteArray) (w : World) (hs : s.size ≤ maxLen) :
    Calls Tryd.prog 44 #[.string s] w fun e w' => e = .returned (.int .i64 (chkFold s.data.toList)) ∧ w = w' := by
  unfold maxLen at hs
  go_enter Tryd.func44, Tryd.ntmps44
  go_wp2
  go_loop [3, 4] (fun n i => ∃ k : Nat, k ≤ s.size ∧ i = .int .i64 k ∧ n = .int .i64 (chkFold (s.data.toList.take k))) (fun _ i => s.size - (intOf i).toNat)
  case atStart => exact ⟨0, Nat.zero_le _, rfl, rfl⟩
  case round =>
    obtain ⟨k, hk, rfl, rfl⟩ := hrel
    have hd := chkFold_bd (s.data.toList.take k)
    by_cases hlt : k < s.size
    · have HS : Hid (chkFold (s.data.toList.take (k + 1)) = (31 * chkFold (s.data.toList.take k) + (s[k].toNat : Int)) % 65521) := by
        rw [take_snoc_bytes s k hlt]; exact chkFold_snoc _ _
      generalize chkFold (s.data.toList.take k) = c at *
      have hb : s[k].toNat < 256 := s[k].toNat_lt
      go_wp2
      go_round
      case rel => exact ⟨k + 1, by omega, by go_num, by rw [HS.out]⟩
      case measure => simp [intOf]; omega
    · go_wp2
      go_ret
      exact ⟨ret_int (by rw [List.take_of_length_le (by simp; omega)]), rfl⟩

set_option maxHeartbeats 400000 in
theorem implCheckNumber_any (s : ByteArray) (w : World) (hs : s.size ≤ maxLen) :
    Calls Tryd.prog 43 #[.string s] w fun e w' => e = .returned (.int .i64 (chkFold s.data.toList)) ∧ w = w' := by
  unfold maxLen at hs
  go_enter Tryd.func43, Tryd.ntmps43
  go_wp2
  go_loop [3, 7] (fun n i => ∃ k : Nat, k ≤ s.size ∧ i = .int .i64 k ∧ n = .int .i64 (chkFold (s.data.toList.take k))) (fun _ i => s.size - (intOf i).toNat)
  case atStart => exact ⟨0, Nat.zero_le _, rfl, rfl⟩
  case round =>
    obtain ⟨k, hk, rfl, rfl⟩ := hrel
    have hd := chkFold_bd (s.data.toList.take k)
    by_cases hlt : k < s.size
    · have HS : Hid (chkFold (s.data.toList.take (k + 1)) = (31 * chkFold (s.data.toList.take k) + (s[k].toNat : Int)) % 65521) := by
        rw [take_snoc_bytes s k hlt]; exact chkFold_snoc _ _
      generalize chkFold (s.data.toList.take k) = c at *
      have hb : s[k].toNat < 256 := s[k].toNat_lt
      go_wp2
      go_round
      case rel => exact ⟨k + 1, by omega, by go_num, by rw [HS.out]⟩
      case measure => simp [intOf]; omega
    · go_wp2
      go_ret
      exact ⟨ret_int (by rw [List.take_of_length_le (by simp; omega)]), rfl⟩

end Go.Proofs.YtoledbicmghmbaaDoor
