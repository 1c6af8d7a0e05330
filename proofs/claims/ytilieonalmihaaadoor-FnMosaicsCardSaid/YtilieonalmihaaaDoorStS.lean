/- Texts cut at a byte and put together, plainly. No program. -/
import Derived.Test.YtilieonalmihaaaDoorStN
import Derived.Lib.Split
import Derived.Lib.CountLaws
import Derived.Lib.CutLaws
import Derived.Lib.Join
namespace Go.Proofs.YtilieonalmihaaaDoor
open Go.RowKit

/-- cut at every place of a byte -/
def splitC (c : UInt8) : Bs → List Bs
  | [] => [[]]
  | b :: r => if b = c then [] :: splitC c r else match splitC c r with
    | [] => [[b]]
    | h :: t => (b :: h) :: t
theorem splitC_ne (c : UInt8) : ∀ l, splitC c l ≠ []
  | [] => by simp [splitC]
  | b :: r => by
    unfold splitC
    split
    · simp
    · split <;> simp
theorem splitC_same (c : UInt8) (r : Bs) : splitC c (c :: r) = [] :: splitC c r := if_pos rfl
theorem splitC_cons {c b : UInt8} {r x : Bs} {t : List Bs} (h : ¬ b = c) (e : splitC c r = x :: t) : splitC c (b :: r) = (b :: x) :: t := by
  show (if b = c then _ else _) = _
  rw [if_neg h, e]
theorem splitC_none {c : UInt8} : ∀ {p : Bs}, c ∉ p → splitC c p = [p]
  | [], _ => rfl
  | b :: r, h => by
    have h1 : ¬ b = c := fun e => h (by rw [e]; exact List.mem_cons_self ..)
    have h2 := splitC_none (c := c) (p := r) (fun m => h (List.mem_cons_of_mem _ m))
    exact splitC_cons h1 h2
theorem splitC_hit {c : UInt8} : ∀ {p : Bs} (r : Bs), c ∉ p → splitC c (p ++ c :: r) = p :: splitC c r
  | [], r, _ => by
    exact splitC_same c r
  | b :: p, r, h => by
    have h1 : ¬ b = c := fun e => h (by rw [e]; exact List.mem_cons_self ..)
    have h2 := splitC_hit (c := c) (p := p) r (fun m => h (List.mem_cons_of_mem _ m))
    exact splitC_cons h1 h2
/-- a byte's first place -/
theorem idx1 (c : UInt8) : ∀ l : Bs, (Lib.index l [c] = -1 ∧ c ∉ l) ∨ ∃ p r, l = p ++ c :: r ∧ c ∉ p ∧ Lib.index l [c] = (p.length : Int)
  | [] => .inl ⟨rfl, by simp⟩
  | b :: l => by
    by_cases h : b = c
    · subst h
      refine .inr ⟨[], l, rfl, by simp, ?_⟩
      unfold Lib.index
      rw [if_pos (by simp [List.isPrefixOf])]
      rfl
    · have hp : ¬ ([c].isPrefixOf (b :: l) = true) := by
        simp [List.isPrefixOf]
        exact fun e => h e.symm
      rcases idx1 c l with ⟨h1, h2⟩ | ⟨p, r, h1, h2, h3⟩
      · refine .inl ⟨?_, ?_⟩
        · unfold Lib.index
          rw [if_neg hp, h1]
          rfl
        · simp only [List.mem_cons, not_or]
          exact ⟨fun e => h e.symm, h2⟩
      · refine .inr ⟨b :: p, r, by rw [h1]; rfl, ?_, ?_⟩
        · simp only [List.mem_cons, not_or]
          exact ⟨fun e => h e.symm, h2⟩
        · unfold Lib.index
          rw [if_neg hp, h3]
          have : ((p.length : Int) == -1) = false := by rw [beq_eq_false_iff_ne]; omega
          rw [this]
          simp
theorem splitK_eq (c : UInt8) : ∀ (n : Nat) (l : Bs), l.length < n → Lib.splitK [c] 0 (Lib.count l [c]) l = splitC c l ∧ (splitC c l).length = Lib.count l [c] + 1
  | 0, _, h => absurd h (by omega)
  | n + 1, l, h => by
    rcases idx1 c l with ⟨h1, h2⟩ | ⟨p, r, h1, h2, h3⟩
    · rw [Lib.count_miss h1, splitC_none h2]
      exact ⟨rfl, rfl⟩
    · have hd : l.drop (p.length + [c].length) = r := by rw [h1]; simp
      have ht : l.take p.length = p := by rw [h1]; simp
      have hc := Lib.count_hit (s := l) (sub := [c]) (i := p.length) (by simp) h3
      have hs : splitC c l = p :: splitC c r := by rw [h1]; exact splitC_hit r h2
      have ih := splitK_eq c n r (by rw [h1] at h; simp at h; omega)
      rw [hd] at hc
      rw [hc, hs, Nat.add_comm 1]
      refine ⟨?_, by rw [List.length_cons, ih.2]⟩
      have hm : ¬ ((Lib.index l [c] == -1) = true) := by rw [h3, beq_iff_eq]; omega
      rw [Lib.splitK, if_neg hm, h3, Int.toNat_natCast, Nat.add_zero, ht, hd, ih.1]
theorem split_eq (c : UInt8) (l : Bs) : Lib.split l [c] = splitC c l := (splitK_eq c (l.length + 1) l (by omega)).1
theorem count_eq (c : UInt8) (l : Bs) : Lib.count l [c] + 1 = (splitC c l).length := (splitK_eq c (l.length + 1) l (by omega)).2.symm
theorem splitC_len (c : UInt8) : ∀ l : Bs, (splitC c l).length ≤ l.length + 1
  | [] => by simp [splitC]
  | b :: r => by
    have := splitC_len c r
    unfold splitC
    split
    · simp; omega
    · split
      · simp
      · rename_i h
        rw [h] at this
        simp at this ⊢; omega
/-- the pieces hold no more bytes than the text -/
theorem splitC_piece (c : UInt8) : ∀ (l : Bs), ∀ x ∈ splitC c l, x.length ≤ l.length
  | [], x, hx => by simp [splitC] at hx; subst hx; simp
  | b :: r, x, hx => by
    have ih := splitC_piece c r
    unfold splitC at hx
    split at hx
    · rcases List.mem_cons.1 hx with rfl | hx
      · simp
      · have := ih x hx; simp; omega
    · split at hx
      · rename_i h; exact absurd h (splitC_ne c r)
      · rename_i hh tt he
        rw [he] at ih
        rcases List.mem_cons.1 hx with rfl | hx
        · have := ih hh (List.mem_cons_self ..); simp; omega
        · have := ih x (List.mem_cons_of_mem _ hx); simp; omega
theorem splitC_nomem (c : UInt8) : ∀ (l : Bs), ∀ x ∈ splitC c l, c ∉ x
  | [], x, hx => by simp [splitC] at hx; subst hx; simp
  | b :: r, x, hx => by
    have ih := splitC_nomem c r
    unfold splitC at hx
    split at hx
    · rcases List.mem_cons.1 hx with rfl | hx
      · simp
      · exact ih x hx
    · rename_i hb
      split at hx
      · rename_i h; exact absurd h (splitC_ne c r)
      · rename_i hh tt he
        rw [he] at ih
        rcases List.mem_cons.1 hx with rfl | hx
        · simp only [List.mem_cons, not_or]
          exact ⟨fun e => hb e.symm, ih hh (List.mem_cons_self ..)⟩
        · exact ih x (List.mem_cons_of_mem _ hx)
theorem splitC_join {c : UInt8} : ∀ {x : Bs} {r : List Bs}, (∀ y ∈ x :: r, c ∉ y) → splitC c (Lib.join (x :: r) [c]) = x :: r
  | x, [], h => by rw [Lib.join_one]; exact splitC_none (h x (List.mem_cons_self ..))
  | x, y :: r, h => by
    have h1 : Lib.join (x :: y :: r) [c] = x ++ c :: Lib.join (y :: r) [c] := by
      rw [Lib.join_cons, Lib.join_cons]
      unfold Lib.joinTail
      simp
    rw [h1, splitC_hit _ (h x (List.mem_cons_self ..)), splitC_join (x := y) (r := r) (fun z hz => h z (List.mem_cons_of_mem _ hz))]
/-- a text in front of two bytes of which it does not hold the second -/
theorem cut_at {a b : UInt8} (hab : a ≠ b) : ∀ (p r : Bs), b ∉ p → Lib.index (p ++ a :: b :: r) [a, b] = (p.length : Int)
  | [], r, _ => by
    show Lib.index (a :: b :: r) [a, b] = 0
    unfold Lib.index
    rw [if_pos (by simp [List.isPrefixOf])]
  | x :: p, r, h => by
    have h1 : b ∉ p := fun m => h (List.mem_cons_of_mem _ m)
    have ih := cut_at hab p r h1
    have hp : ¬ ([a, b].isPrefixOf (x :: (p ++ a :: b :: r)) = true) := by
      cases p with
      | nil => simp [List.isPrefixOf]; intro _ e; exact hab e.symm
      | cons y p => simp [List.isPrefixOf]; intro _ e; exact h1 (by rw [← e]; exact List.mem_cons_self ..)
    show Lib.index (x :: (p ++ a :: b :: r)) [a, b] = _
    unfold Lib.index
    rw [if_neg hp, ih]
    have : ((p.length : Int) == -1) = false := by rw [beq_eq_false_iff_ne]; omega
    rw [this]
    simp
theorem cut_first {a b : UInt8} (hab : a ≠ b) (p r : Bs) (h : b ∉ p) : (Lib.cut (p ++ a :: b :: r) [a, b]).1 = p := by
  unfold Lib.cut
  rw [cut_at hab p r h, if_pos (by omega)]
  simp
theorem join_snoc (xs : List Bs) (x : Bs) (sep : Bs) : Lib.join (xs ++ [x]) sep = if xs = [] then x else Lib.join xs sep ++ (sep ++ x) := by
  cases xs with
  | nil => simp [Lib.join_one]
  | cons y r =>
    rw [if_neg (by simp), List.cons_append, Lib.join_cons, Lib.join_cons]
    unfold Lib.joinTail
    simp
theorem join_mem {sep : Bs} {c : UInt8} : ∀ (xs : List Bs), c ∈ Lib.join xs sep → c ∈ sep ∨ ∃ x ∈ xs, c ∈ x
  | [], h => by rw [Lib.join_nil] at h; cases h
  | x :: r, h => by
    rw [Lib.join_cons, List.mem_append] at h
    rcases h with h | h
    · exact .inr ⟨x, List.mem_cons_self .., h⟩
    · unfold Lib.joinTail at h
      rw [List.mem_flatten] at h
      obtain ⟨l, hl, hc⟩ := h
      rw [List.mem_map] at hl
      obtain ⟨y, hy, rfl⟩ := hl
      rcases List.mem_append.1 hc with hc | hc
      · exact .inl hc
      · exact .inr ⟨y, List.mem_cons_of_mem _ hy, hc⟩
/-- numbers in decimal, with a text between them -/
def joinI (sep : Bs) (xs : List Int) : Bs := Lib.join (xs.map Lib.itoa) sep
theorem joinI_snoc (sep : Bs) (xs : List Int) (x : Int) : joinI sep (xs ++ [x]) = if xs = [] then Lib.itoa x else joinI sep xs ++ (sep ++ Lib.itoa x) := by
  unfold joinI
  rw [List.map_append, List.map_cons, List.map_nil, join_snoc]
  simp
theorem joinI_ne {sep : Bs} {xs : List Int} (h : xs ≠ []) : joinI sep xs ≠ [] := by
  cases xs with
  | nil => exact absurd rfl h
  | cons x r =>
    unfold joinI
    rw [List.map_cons, Lib.join_cons]
    intro e
    exact itoa_ne x (List.append_eq_nil_iff.1 e).1
theorem splitC_joinI {c : UInt8} (h1 : c.toNat < 45) {xs : List Int} (h : xs ≠ []) : splitC c (joinI [c] xs) = xs.map Lib.itoa := by
  cases xs with
  | nil => exact absurd rfl h
  | cons x r =>
    unfold joinI
    rw [List.map_cons]
    refine splitC_join fun y hy hc => ?_
    rw [← List.map_cons, List.mem_map] at hy
    obtain ⟨z, _, rfl⟩ := hy
    have := itoa_mem hc
    omega
theorem joinI_nomem {c s : UInt8} (h1 : c.toNat < 45) (h2 : c ≠ s) (xs : List Int) : c ∉ joinI [s] xs := fun h => by
  rcases join_mem _ h with h | ⟨x, hx, hc⟩
  · rw [List.mem_singleton] at h; exact h2 h
  · rw [List.mem_map] at hx
    obtain ⟨z, _, rfl⟩ := hx
    have := itoa_mem hc
    omega
end Go.Proofs.YtilieonalmihaaaDoor
