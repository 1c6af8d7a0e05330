/- The text of a log, both sides. Conditions: a length; the library's table of powers of ten is as it is laid. -/
import Derived.Test.YtilieonalmihaaaDoorRecW
import Derived.Test.YtilieonalmihaaaDoorRecs
import Derived.Test.YtilieonalmihaaaDoorLog
import Derived.Lib.AppendStr
namespace Go.Proofs.YtilieonalmihaaaDoor
open Go.RowKit

def rc7 (xs : List Int) (k : Nat) : R7 := ⟨xs.getD (k * 7) 0, xs.getD (k * 7 + 1) 0, xs.getD (k * 7 + 2) 0, xs.getD (k * 7 + 3) 0, xs.getD (k * 7 + 4) 0, xs.getD (k * 7 + 5) 0, xs.getD (k * 7 + 6) 0⟩
theorem rc7_ok (xs : List Int) (k : Nat) : (rc7 xs k).ok = recAt xs k := rfl
/-- the lines of the records below n -/
def lgT (xs : List Int) (n : Nat) : Bs := (List.range n).flatMap fun k => (rc7 xs k).ln ++ [10]
theorem lgT_zero (xs : List Int) : lgT xs 0 = [] := rfl
theorem lgT_succ (xs : List Int) (n : Nat) : lgT xs (n + 1) = lgT xs n ++ ((rc7 xs n).ln ++ [10]) := by unfold lgT; rw [List.range_succ, List.flatMap_append]; simp
theorem lgT_len {xs : List Int} {n : Nat} (h : recsB xs n = true) : ∀ k, k ≤ n → (lgT xs k).length ≤ k * 301
  | 0, _ => Nat.zero_le _
  | k + 1, hk => by
    have h1 := lgT_len h k (by omega)
    have h2 := ln_len (f := rc7 xs k) (by rw [rc7_ok]; exact recsB_at h (by omega))
    rw [lgT_succ, List.length_append, List.length_append]
    simp only [List.length_cons, List.length_nil]
    omega
def lgC (xs : List Int) (n : Nat) : Int := if logB xs n = true then 0 else 1
def lgS (xs : List Int) (n : Nat) : Bs := if logB xs n = true then lgT xs n else []
theorem lg_yes {xs : List Int} {n : Nat} (h : logB xs n = true) : lgC xs n = 0 ∧ lgS xs n = lgT xs n := by unfold lgC lgS; simp [h]
theorem lg_no {xs : List Int} {n : Nat} (h : logB xs n = false) : lgC xs n = 1 ∧ lgS xs n = [] := by unfold lgC lgS; simp [h]
theorem logB_true {xs : List Int} {n : Nat} (h : logB xs n = true) : recsB xs n = true ∧ n ≤ 200 := by
  unfold logB at h
  rw [Bool.and_eq_true, decide_eq_true_eq] at h
  exact ⟨h.1, by omega⟩
/-- bytes in cells -/
def bcs (l : Bs) : List Value := l.map fun b => Value.int .u8 (b.toNat : Int)
theorem bcs_app (a b : Bs) : bcs (a ++ b) = bcs a ++ bcs b := List.map_append
theorem bcs_str (l : Bs) : Lib.strCells ⟨l.toArray⟩ = bcs l := rfl
theorem u8_some : ∃ i, Tryd.prog.info? 5 = some i ∧ i.zero = some (.int .u8 0) ∧ i.size = 1 ∧ i.bytes = 1 := by
  have h : (Tryd.prog.info? 5).map (fun i => (i.zero, i.size, i.bytes)) = some (some (.int .u8 0), 1, 1) := by kernel_rfl
  rcases h2 : Tryd.prog.info? 5 with _ | i
  · rw [h2] at h; cases h
  · rw [h2] at h
    simp only [Option.map_some, Option.some.injEq, Prod.mk.injEq] at h
    exact ⟨i, rfl, h.1, h.2.1, h.2.2⟩
theorem wp_append_str {ops : Array Oper} {rest : List Oper} {o : Oper} {a : Act} {Q : Exit → Act → World → Prop} {w : World} (hgd : o.guard = none) (sl x : Operand)
    (ho : o.op = .call { callee := .builtin .append, args := #[sl, x], argTypes := #[22, 9] })
    (base : Nat) (v : Value) (n : Nat) (l s : Bs) (hs : a.eval sl = v) (hown : w.ownsRow base 5 1 v n (bcs l)) (hv : v ≠ .slice none 0 0) (hx : a.eval x = .string ⟨s.toArray⟩)
    (hn : n + s.length ≤ 1099511627776) (hbase : base ≤ w.heap.size)
    (h : ∀ v' w', w'.ownsRow base 5 1 v' (n + s.length) (bcs (l ++ s)) → v' ≠ .slice none 0 0 → Below base w w' → wpList Tryd.prog ops Q rest (a.put o.dst v') w') : wpList Tryd.prog ops Q (o :: rest) a w := by
  obtain ⟨i, h1, h2, h3, h4⟩ := u8_some
  have hz := str_size s
  refine Lib.wpList_append_own_string w hgd sl x _ _ ho base 5 i Tryd.underlying22 Tryd.underlying9 h1 h2 h3 h4 v n (bcs l) hs hown ⟨s.toArray⟩ hx (by unfold maxLen; omega) (by omega) hbase ?_
  intro v' w' hown' hg hne
  rw [hz] at hown'
  rw [bcs_str, ← bcs_app] at hown'
  exact h v' w' hown' (fun c => hv (hne.1 c).1) ((Below.refl _ _).grown hg hbase (fun k hk => (hown.lt k hk).1))
theorem own_conv {w : World} {base n : Nat} {v : Value} {l : Bs} (h : w.ownsRow base 5 1 v n (bcs l)) (hv : v ≠ .slice none 0 0) (hn : l.length = n) :
    ∃ g c, v = .slice (some ⟨g, 0, none⟩) n c ∧ (convert 22 9 v).run Tryd.prog w = .ok (.string ⟨l.toArray⟩) w := by
  obtain ⟨B, c, rfl, hr, -, hc, -⟩ := own_rd h
  subst hn
  rcases h.2 with ⟨e, _⟩ | ⟨g, cap, cur, e, _⟩
  · exact absurd e hv
  · simp only [Value.slice.injEq] at e
    obtain ⟨rfl, -, rfl⟩ := e
    refine ⟨g, _, rfl, run_convert_bytes_back (P := Tryd.prog) w _ _ 5 ⟨g, 0, none⟩ _ l Tryd.underlying22 Tryd.underlying5 Tryd.underlying9 fun j hj => ?_⟩
    obtain ⟨ad, ea, hx⟩ := hr.2 (by omega)
    injection ea with ea
    subst ea
    rw [hx j hj]
    unfold bcs
    rw [List.getElem?_map, List.getElem?_eq_getElem hj]
    rfl
end Go.Proofs.YtilieonalmihaaaDoor
