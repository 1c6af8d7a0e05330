/- A list of records sorted by the library, in memory of the call's own: what stays, what is read. Plain lemmas; condition: a list that is not empty. -/
import Derived.Test.YtphpjmkebnadoaaGauC
namespace Go.Proofs.Ytphpjmkebnadoaa
open Go.RowKit Go.Shelf Go.Lib

def recsV (xs : List Int) (ks : List Nat) : List Value := ks.flatMap (encR xs)
theorem encR_len (xs : List Int) (i : Nat) : (encR xs i).length = 7 := rfl
theorem recsV_snoc (xs : List Int) (ks : List Nat) (k : Nat) : recsV xs (ks ++ [k]) = recsV xs ks ++ encR xs k := by unfold recsV; rw [List.flatMap_append]; simp
theorem recsV_len (xs : List Int) : ∀ ks : List Nat, (recsV xs ks).length = ks.length * 7
  | [] => rfl
  | k :: ks => by
    show (encR xs k ++ recsV xs ks).length = _
    rw [List.length_append, recsV_len xs ks, encR_len, List.length_cons]; omega
theorem recsV_at (xs : List Int) : ∀ (ks : List Nat) (t : Nat), t < ks.length * 7 → (recsV xs ks)[t]? = (encR xs (ks[t / 7]?.getD 0))[t % 7]?
  | [], t, h => absurd h (by simp)
  | k :: ks, t, h => by
    show (encR xs k ++ recsV xs ks)[t]? = _
    by_cases h7 : t < 7
    · rw [List.getElem?_append_left (by rw [encR_len]; exact h7), show t / 7 = 0 by omega, show t % 7 = t by omega]; rfl
    · rw [List.getElem?_append_right (by rw [encR_len]; omega), encR_len, recsV_at xs ks (t - 7) (by simp at h; omega), show (t - 7) % 7 = t % 7 by omega, show t / 7 = (t - 7) / 7 + 1 by omega, List.getElem?_cons_succ]
theorem oneCell_encR (xs : List Int) (i : Nat) : ∀ v ∈ encR xs i, v.oneCell' = true := by
  intro v hv
  simp [encR] at hv
  rcases hv with rfl | rfl | rfl | rfl | rfl | rfl | rfl <;> rfl
theorem flatK_at (xs : List Int) (ks : List Nat) {t : Nat} (h : t < ks.length * 7) : some ((Sort.flatK (encR xs) 7 ks.toArray)[t]!) = (recsV xs ks)[t]? := by
  rw [Sort.get_flatK _ _ _ _ (by simpa using h), recsV_at xs ks t h]
  have h1 : t / 7 < ks.length := by omega
  have e : (ks.toArray[t / 7]!) = ks[t / 7]?.getD 0 := by simp [h1]
  rw [e]
  have h2 : t % 7 < (encR xs (ks[t / 7]?.getD 0)).length := by rw [encR_len]; omega
  rw [List.getElem!_eq_getElem?_getD, List.getElem?_eq_getElem h2]; rfl
theorem holds_of_own {w : World} {B : Nat} {h : Hd} {xs : List Int} {ks : List Nat} (o : Own w B 7 h (recsV xs ks)) {ad : Addr} (e : h.A = some ad) (hn : 0 < h.n) :
    ad = ⟨ad.block, ad.off, none⟩ ∧ ad.block < w.heap.size ∧ Sort.HoldsK (encR xs) 7 w ad.block ad.off ks.toArray := by
  have hnc := o.nc
  obtain ⟨-, h2, h3, h4⟩ := o.at_ ad e (by omega)
  have hl := o.len
  rw [recsV_len] at hl
  have had : ad = ⟨ad.block, ad.off, none⟩ := by
    obtain ⟨b, f, s⟩ := ad
    simp only at h3
    rw [h3]
  refine ⟨had, h2, fun t ht => ?_⟩
  rw [Sort.size_flatK] at ht
  have ht' : t < ks.length * 7 := by simpa using ht
  obtain ⟨⟨v, hv, hu⟩, hf⟩ := h4 t (by have : h.n * 7 ≤ h.c * 7 := Nat.mul_le_mul_right 7 hnc; omega)
  have ea : ad.add t = ⟨ad.block, ad.off + t, none⟩ := by
    by_cases h0 : t = 0
    · subst h0; rw [Addr.add_zero']; exact had
    · rw [field_add ad t h0]
  rw [ea] at hv hf
  exact ⟨by rw [hv]; show some v = some (id _); rw [hu _ (flatK_at xs ks ht').symm]; rfl, hf⟩
theorem rd_of_holds {w : World} {b o : Nat} {xs : List Int} {ks : List Nat} {n : Nat} (hn : ks.length = n) (H : Sort.HoldsK (encR xs) 7 w b o ks.toArray) : Rd w (some ⟨b, o, none⟩) (n * 7) (recsV xs ks) := by
  subst hn
  refine ⟨recsV_len xs ks, fun _ => ⟨_, rfl, fun t ht => ?_⟩⟩
  have ea : (⟨b, o, none⟩ : Addr).add t = ⟨b, o + t, none⟩ := by
    by_cases h0 : t = 0
    · subst h0; rw [Addr.add_zero']; rfl
    · rw [field_add _ t h0]
  rw [ea, (H t (by rw [Sort.size_flatK]; simpa using ht)).1, ← flatK_at xs ks ht]
  rfl
theorem grown_sortK {α : Type} [Inhabited α] (enc : α → List Value) (k : Nat) {w : World} {b o n : Nat} {os : Array Obj} (d : Array α) : w.grownBy (sortWorldK enc k w b o n d os) (some b) := by
  unfold sortWorldK Sort.putRowK
  refine ⟨rfl, rfl, rfl, by simp, fun j hj hne => ?_⟩
  rw [Sort.heap_grow_old _ _ (by simpa using hj)]
  have : b ≠ j := fun e => hne (by rw [e])
  simp [Sort.putRow, Sort.mapBlock, Sort.ahead, Array.getElem?_modify, this]
theorem ltOf_cmpR (xs : List Int) (i j : Nat) : ltOf (cmpR xs) i j = decide (recT xs i < recT xs j) := by
  unfold ltOf cmpR cmpI
  by_cases h1 : recT xs i < recT xs j
  · simp [h1]
  · by_cases h2 : recT xs j < recT xs i <;> simp [h1, h2]
theorem swo_cmpR (xs : List Int) : Sort.SWO (ltOf (cmpR xs)) where
  irrefl x := by rw [ltOf_cmpR]; simp
  trans x y z h1 h2 := by rw [ltOf_cmpR] at *; simp at *; omega
  ntrans x y z h1 h2 := by rw [ltOf_cmpR] at *; simp at *; omega
theorem perm_of {d d' : Array Nat} (h : Sort.PermIn 0 d.size d d') : d'.toList.Perm d.toList := by
  have h3 := h.2.2
  have e1 : d'.extract 0 d.size = d' := by rw [← h.1]; simp
  rw [e1] at h3
  simpa using h3
theorem sorted_of {xs : List Int} {d d' : Array Nat} (hz : d'.size = d.size) (h : Sort.SortedIn (ltOf (cmpR xs)) 0 d.size d') : d'.toList.Pairwise fun i j => recT xs i ≤ recT xs j := by
  rw [List.pairwise_iff_getElem]
  intro i j hi hj hij
  have h1 := h i j (Nat.zero_le _) hij (by simp at hj; omega)
  rw [ltOf_cmpR, decide_eq_false_iff_not] at h1
  have hi' : i < d'.size := by simpa using hi
  have hj' : j < d'.size := by simpa using hj
  rw [getElem!_pos d' i hi', getElem!_pos d' j hj'] at h1
  simp only [Array.getElem_toList]
  omega
end Go.Proofs.Ytphpjmkebnadoaa
