/- The lines of a text, one by one, plainly. No program. -/
import Derived.Test.YtoledbicmghmbaaGreatDoorRvM
import Derived.Lib.Bytealg
namespace Go.Proofs.YtoledbicmghmbaaGreatDoor
open Go.RowKit

/-- the first word of a text and what stands behind it -/
theorem sp_cons {c : UInt8} : ∀ {r x : Bs} {t : List Bs}, splitC c r = x :: t → (t = [] ∧ r = x ∧ c ∉ r) ∨ ∃ r', r = x ++ c :: r' ∧ c ∉ x ∧ splitC c r' = t
  | [], x, t, h => by
    have h1 : ([[]] : List Bs) = x :: t := h
    simp only [List.cons.injEq] at h1
    obtain ⟨rfl, rfl⟩ := h1
    exact .inl ⟨rfl, rfl, by simp⟩
  | b :: r, x, t, h => by
    by_cases hb : b = c
    · subst hb
      rw [splitC_same] at h
      simp only [List.cons.injEq] at h
      obtain ⟨rfl, h⟩ := h
      exact .inr ⟨r, rfl, by simp, h⟩
    · obtain ⟨x', t', e⟩ : ∃ x' t', splitC c r = x' :: t' := by
        rcases e : splitC c r with _ | ⟨x', t'⟩
        · exact absurd e (splitC_ne c r)
        · exact ⟨x', t', rfl⟩
      rw [splitC_cons hb e] at h
      simp only [List.cons.injEq] at h
      obtain ⟨rfl, rfl⟩ := h
      have hbc : ¬ c = b := fun h => hb h.symm
      rcases sp_cons e with ⟨rfl, rfl, hn⟩ | ⟨r', rfl, hn, e2⟩
      · exact .inl ⟨rfl, rfl, by simp [hbc, hn]⟩
      · exact .inr ⟨r', rfl, by simp [hbc, hn], e2⟩
theorem ix_none {c : UInt8} : ∀ {p : Bs}, c ∉ p → Lib.indexByte p c = -1
  | [], _ => rfl
  | b :: p, h => by
    have h1 : ¬ b = c := fun e => h (by rw [e]; exact List.mem_cons_self ..)
    have h2 := ix_none (c := c) (p := p) fun m => h (List.mem_cons_of_mem _ m)
    unfold Lib.indexByte
    simp [h1, h2]
theorem ix_hit {c : UInt8} : ∀ {p : Bs} (r : Bs), c ∉ p → Lib.indexByte (p ++ c :: r) c = (p.length : Int)
  | [], r, _ => by unfold Lib.indexByte; simp
  | b :: p, r, h => by
    have h1 : ¬ b = c := fun e => h (by rw [e]; exact List.mem_cons_self ..)
    have h2 := ix_hit (c := c) (p := p) r fun m => h (List.mem_cons_of_mem _ m)
    rw [List.cons_append]
    unfold Lib.indexByte
    rw [h2]
    simp [h1]
end Go.Proofs.YtoledbicmghmbaaGreatDoor
