/- Words for results: a list of numbers in memory of the call's own, with a code; lists that are written in place. Plain lemmas, no condition. -/
import Derived.Test.YtlgmdekhlcbhoaaApp
namespace Go.Proofs.Ytlgmdekhlcbhoaa
open Go.RowKit

theorem bstep {B : Nat} {a b c : World} (h : Below B a b) (k : Below b.heap.size b c) (hB : B ≤ a.heap.size) : Below B a c := h.trans (k.mono (Nat.le_trans hB h.size))
theorem bnext {a b c : World} (h : Below a.heap.size a b) (k : Below b.heap.size b c) : Below a.heap.size a c := bstep h k (Nat.le_refl _)
theorem bstepg {B : Nat} {a b c : World} {row : Option Nat} (h : Below B a b) (g : b.grownBy c row) (hB : B ≤ a.heap.size) (hr : ∀ k, row = some k → B ≤ k) : Below B a c :=
  h.grown g (Nat.le_trans hB h.size) hr

/-- The call has returned the list ys, in memory of its own, and a code. -/
def RetIC (ys : List Int) (code : Int) (w : World) (e : Ending) (w' : World) : Prop :=
  ∃ B m d, e = .returned (.tuple #[.slice B m d, .int .i64 code]) ∧ Rd w' B m (ints ys) ∧ Wr w' w.heap.size B m ∧ m ≤ 1048576 ∧ Below w.heap.size w w'
/-- .. the list, a number and a code. -/
def RetIIC (ys : List Int) (k code : Int) (w : World) (e : Ending) (w' : World) : Prop :=
  ∃ B m d, e = .returned (.tuple #[.slice B m d, .int .i64 k, .int .i64 code]) ∧ Rd w' B m (ints ys) ∧ Wr w' w.heap.size B m ∧ m ≤ 1048576 ∧ Below w.heap.size w w'
theorem retIC_nil {w w' : World} {code : Int} (h : Below w.heap.size w w') : RetIC [] code w (.returned (.tuple #[.slice none 0 0, .int .i64 code])) w' :=
  ⟨none, 0, 0, rfl, Rd.nil _ _, fun h => absurd h (by omega), by omega, h⟩
theorem retIIC_nil {w w' : World} {k code : Int} (h : Below w.heap.size w w') : RetIIC [] k code w (.returned (.tuple #[.slice none 0 0, .int .i64 k, .int .i64 code])) w' :=
  ⟨none, 0, 0, rfl, Rd.nil _ _, fun h => absurd h (by omega), by omega, h⟩

theorem ints_set (xs : List Int) (k : Nat) (x : Int) : ints (xs.set k x) = (ints xs).set k (.int .i64 x) := by unfold ints; rw [List.map_set]
theorem ints_append (xs ys : List Int) : ints (xs ++ ys) = ints xs ++ ints ys := by unfold ints; simp
section
variable {w : World} {A : Option Addr} {n k B : Nat} {us : List Value} {u : Value} {ad : Addr}
theorem Rd.set_ (h : Rd w A n us) (hk : k < n) (e : A = some ad) : Rd (w.setCell (ad.add k) u) A n (us.set k u) := by
  refine ⟨by rw [List.length_set]; exact h.1, fun hn => ⟨ad, e, fun i hi => ?_⟩⟩
  obtain ⟨ad', e', hc⟩ := h.2 hn
  rw [e] at e'
  cases e'
  by_cases hik : i = k
  · subst hik
    obtain ⟨ad'', v, e'', hv, hcell⟩ := h.at_ hi
    rw [e] at e''
    cases e''
    rw [World.cell?_setCell_same _ _ _ hcell, List.getElem?_set_self (by rw [h.1]; exact hi)]
  · rw [World.cell?_setCell_other _ _ _ _ (fun c => hik (add_inj c).symm), hc i hi, List.getElem?_set_ne (fun c => hik c.symm)]
theorem Wr.set_ (h : Wr w B A n) (p : Addr) : Wr (w.setCell p u) B A n := fun hn => by
  obtain ⟨ad, e, hb, hf⟩ := h hn
  exact ⟨ad, e, hb, fun i hi => by rw [World.frozen?_setCell]; exact hf i hi⟩
theorem Rd.seti {xs : List Int} {x : Int} (h : Rd w A n (ints xs)) (hk : k < n) (e : A = some ad) : Rd (w.setCell (ad.add k) (.int .i64 x)) A n (ints (xs.set k x)) := by
  rw [ints_set]; exact h.set_ hk e
end

/-- The first k of L, then what xs has. -/
def mix (L xs : List Int) (k : Nat) : List Int := L.take k ++ xs.drop k
theorem mix_zero (L xs : List Int) : mix L xs 0 = xs := by unfold mix; simp
theorem mix_end (L xs : List Int) (h : L.length = xs.length) : mix L xs xs.length = L := by unfold mix; rw [← h, List.take_length, h, List.drop_length, List.append_nil]
theorem mix_getD (L xs : List Int) (h : L.length = xs.length) {k : Nat} (hk : k < xs.length) : (mix L xs k).getD k 0 = xs.getD k 0 := by
  unfold mix
  have : (L.take k).length = k := by simp; omega
  simp [List.getElem?_append_right, this]
theorem mix_set (L xs : List Int) (h : L.length = xs.length) {k : Nat} (hk : k < xs.length) : (mix L xs k).set k (L.getD k 0) = mix L xs (k + 1) := by
  unfold mix
  have h1 : (L.take k).length = k := by simp; omega
  rw [List.set_append_right _ _ (by omega), h1, Nat.sub_self, List.drop_eq_getElem_cons hk, List.set_cons_zero, List.take_succ_eq_append_getElem (by omega), getD_at (by omega), List.append_assoc]
  rfl
theorem range_map_snoc {α : Type} (f : Nat → α) (k : Nat) : (List.range (k + 1)).map f = (List.range k).map f ++ [f k] := by rw [List.range_succ, List.map_append]; rfl
theorem range_map_getD (f : Nat → Int) {n k : Nat} (h : k < n) : ((List.range n).map f).getD k 0 = f k := by simp [h]
end Go.Proofs.Ytlgmdekhlcbhoaa
