/- The errors of states, plain: a way to a state has at least as many errors as the state. No program. -/
import Derived.Test.YtlgmdekhlcbhoaaCor
import Derived.Test.YtlgmdekhlcbhoaaStE
namespace Go.Proofs.Ytlgmdekhlcbhoaa

def Good (a : List Int) (j : Nat) (B : Int) : Prop := 0 ≤ a.getD j 0 ∧ a.getD j 0 ≤ B
theorem getD_set (a : List Int) (k j : Nat) (v : Int) (hk : k < a.length) : (a.set k v).getD j 0 = if j = k then v else a.getD j 0 := by
  simp only [List.getD_eq_getElem?_getD]
  by_cases e : j = k
  · subst e; simp [hk]
  · rw [List.getElem?_set_ne (fun c => e c.symm), if_neg e]
theorem nxtN (s b : Nat) (hs : s < 4) (hb : b < 2) : (nxt s b).toNat < 4 := by unfold nxt; omega
theorem upd_keep {xs : List Int} {t : Nat} {now a : List Int} {s b j : Nat} {B : Int} (ha : a.length = 4) (hs : s < 4) (hb : b < 2) (h : Good a j B) : Good (upd xs t now a s b) j B := by
  have hn := nxtN s b hs hb
  have hw := stepW_bd xs t s b
  unfold Good at *
  unfold upd
  split
  · exact h
  · split
    · rw [getD_set _ _ _ _ (by rw [ha]; exact hn)]
      split
      · next e => subst e; omega
      · exact h
    · exact h
theorem upd_make {xs : List Int} {t : Nat} {now a : List Int} {s b : Nat} {E : Int} (ha : a.length = 4) (hs : s < 4) (hb : b < 2) (h : Good now s E) : Good (upd xs t now a s b) (nxt s b).toNat (E + stepW xs t s b) := by
  have hn := nxtN s b hs hb
  have hw := stepW_bd xs t s b
  unfold Good at *
  unfold upd
  rw [if_neg (by omega)]
  split
  · rw [getD_set _ _ _ _ (by rw [ha]; exact hn), if_pos rfl]; omega
  · omega
theorem updB_len {xs : List Int} {t : Nat} {now a : List Int} {s : Nat} (ha : a.length = 4) : ∀ j, (updB xs t now a s j).length = 4
  | 0 => ha
  | j + 1 => by
    have := updB_len (xs := xs) (t := t) (now := now) (s := s) ha j
    show (upd xs t now (updB xs t now a s j) s j).length = 4
    unfold upd
    split
    · exact this
    · split
      · rw [List.length_set]; exact this
      · exact this
theorem updS_len {xs : List Int} {t : Nat} {now : List Int} : ∀ s, (updS xs t now s).length = 4
  | 0 => rfl
  | s + 1 => updB_len (updS_len s) 2
theorem updB_keep {xs : List Int} {t : Nat} {now a : List Int} {s j : Nat} {B : Int} (ha : a.length = 4) (hs : s < 4) (h : Good a j B) : Good (updB xs t now a s 2) j B :=
  upd_keep (b := 1) (updB_len ha 1) hs (by decide) (upd_keep (b := 0) ha hs (by decide) h)
theorem updS_keep {xs : List Int} {t : Nat} {now : List Int} {j : Nat} {B : Int} : ∀ (d s : Nat), s + d ≤ 4 → Good (updS xs t now s) j B → Good (updS xs t now (s + d)) j B
  | 0, _, _, h => h
  | d + 1, s, hs, h => by
    show Good (updB xs t now (updS xs t now (s + d)) (s + d) 2) j B
    exact updB_keep (updS_len _) (by omega) (updS_keep d s (by omega) h)
theorem updS_make {xs : List Int} {t : Nat} {now : List Int} {s b : Nat} {E : Int} (hs : s < 4) (hb : b < 2) (h : Good now s E) : Good (updS xs t now 4) (nxt s b).toNat (E + stepW xs t s b) := by
  have h1 : Good (updS xs t now (s + 1)) (nxt s b).toNat (E + stepW xs t s b) := by
    show Good (upd xs t now (upd xs t now (updS xs t now s) s 0) s 1) _ _
    rcases (show b = 0 ∨ b = 1 by omega) with rfl | rfl
    · exact upd_keep (b := 1) (updB_len (updS_len s) 1) hs (by decide) (upd_make (b := 0) (updS_len s) hs (by decide) h)
    · exact upd_make (b := 1) (updB_len (updS_len s) 1) hs (by decide) h
  have := updS_keep (4 - (s + 1)) (s + 1) (by omega) h1
  rwa [show s + 1 + (4 - (s + 1)) = 4 by omega] at this
/-- the errors of a message up to a step -/
def pathE (xs ms : List Int) (k : Nat) : Int := ((List.range k).map fun i => stepW xs i (encSt ms i) (ms.getD i 0)).sum
theorem pathE_succ (xs ms : List Int) (k : Nat) : pathE xs ms (k + 1) = pathE xs ms k + stepW xs k (encSt ms k) (ms.getD k 0) := by
  unfold pathE; rw [range_map_snoc, List.sum_append]; simp
theorem stE_good (xs ms : List Int) (hb : allIn ms 0 1 = true) : ∀ t, Good (stE xs t) (encSt ms t).toNat (pathE xs ms t)
  | 0 => ⟨Int.le_refl _, Int.le_refl _⟩
  | t + 1 => by
    have h := stE_good xs ms hb t
    have hs := encSt_bd hb t
    have hx := getD_bit hb t
    have e1 : encSt ms (t + 1) = nxt (encSt ms t) (ms.getD t 0) := rfl
    rw [e1, pathE_succ]
    show Good (updS xs t (stE xs t) 4) _ _
    obtain ⟨s, e⟩ := Int.eq_ofNat_of_zero_le hs.1
    obtain ⟨b, f⟩ := Int.eq_ofNat_of_zero_le hx.1
    rw [e] at h ⊢
    rw [f]
    exact updS_make (by omega) (by omega) h
theorem codeTo_getD (ms : List Int) : ∀ K i, i < K → (codeTo ms K).getD (2 * i) 0 = outA (encSt ms i) (ms.getD i 0) ∧ (codeTo ms K).getD (2 * i + 1) 0 = outB (encSt ms i) (ms.getD i 0)
  | K + 1, i, h => by
    have hl := codeTo_length ms K
    rw [codeTo_succ]
    simp only [List.getD_eq_getElem?_getD]
    by_cases e : i < K
    · have := codeTo_getD ms K i e
      simp only [List.getD_eq_getElem?_getD] at this
      rw [List.getElem?_append_left (by omega), List.getElem?_append_left (by omega)]
      exact this
    · obtain rfl : i = K := by omega
      rw [List.getElem?_append_right (by omega), List.getElem?_append_right (by omega), hl, Nat.sub_self, show 2 * i + 1 - 2 * i = 1 by omega]
      exact ⟨rfl, rfl⟩
theorem diffs_path (xs ms : List Int) : ∀ k, k ≤ ms.length + 2 → diffs xs (enc ms) (2 * k) = pathE xs ms k
  | 0, _ => rfl
  | k + 1, h => by
    have g := codeTo_getD ms (ms.length + 2) k (by omega)
    rw [show 2 * (k + 1) = 2 * k + 1 + 1 by omega, diffs_succ, diffs_succ, diffs_path xs ms k (by omega), pathE_succ]
    unfold enc
    rw [g.1, g.2]
    unfold stepW
    omega
/-- a state's errors are at least 0 and at most those of a way to it -/
theorem state_least {xs ms : List Int} (hb : allIn ms 0 1 = true) : 0 ≤ (stE xs ms.length).getD (encSt ms ms.length).toNat 0 ∧ (stE xs ms.length).getD (encSt ms ms.length).toNat 0 ≤ diffs xs (enc ms) (2 * ms.length) := by
  rw [diffs_path xs ms _ (by omega)]
  exact stE_good xs ms hb ms.length
end Go.Proofs.Ytlgmdekhlcbhoaa
