/- Links: a link is finished: spec.FinishLink and impl.FinishLink compute the same. Condition: lists of at most 1048576 numbers. -/
import Derived.Test.YtoledbicmghmbaaDoorLinkS
namespace Go.Proofs.YtoledbicmghmbaaDoor
open Go.RowKit

def ordL : List Int := [3, 1, 0, 5]
def finI (l : LinkC) : Nat := if canL l 3 = true then 0 else if canL l 1 = true then 1 else if canL l 0 = true then 2 else 3
theorem finI_le (l : LinkC) : finI l ≤ 3 := by unfold finI; (repeat' split) <;> omega
theorem finI_at (l : LinkC) : ordL.getD (finI l) 0 = finK l := by
  have e3 : canL l 3 = decide (0 < (l.acks.length : Int)) := by unfold canL; simp
  have e1 : canL l 1 = decide (0 < (l.packets.length : Int)) := by unfold canL; simp
  have e0 : canL l 0 = (decide (l.next < l.base + 3) && decide (l.next < (l.items.length : Int)) && decide ((l.packets.length : Int) < 24)) := by unfold canL; simp
  unfold finI finK
  rw [e3, e1, e0]
  by_cases h3 : 0 < l.acks.length
  · rw [if_pos (by simpa using h3), if_pos h3]; rfl
  · rw [if_neg (by simpa using h3), if_neg h3]
    by_cases h1 : 0 < l.packets.length
    · rw [if_pos (by simpa using h1), if_pos h1]; rfl
    · rw [if_neg (by simpa using h1), if_neg h1]
      have h24 : (l.packets.length : Int) < 24 := by omega
      by_cases h0 : l.next < l.base + 3 ∧ l.next < (l.items.length : Int)
      · rw [if_pos (by simp [h0.1, h0.2, h24]), if_pos h0]; rfl
      · rw [if_neg (by simp only [Bool.and_eq_true, decide_eq_true_eq]; exact fun c => h0 c.1), if_neg h0]; rfl
theorem finI_can (l : LinkC) : canL l (ordL.getD (finI l) 0) = true := by
  unfold finI
  split
  · assumption
  · split
    · assumption
    · split
      · assumption
      · rfl
theorem finI_not {l : LinkC} {j : Nat} (h : j < finI l) : canL l (ordL.getD j 0) = false := by
  rw [Bool.eq_false_iff]
  intro c
  unfold finI at h
  split at h
  · omega
  · rename_i h3
    split at h
    · obtain rfl : j = 0 := by omega
      exact h3 c
    · rename_i h1
      split at h
      · have : j = 0 ∨ j = 1 := by omega
        rcases this with rfl | rfl
        · exact h3 c
        · exact h1 c
      · rename_i h0
        have : j = 0 ∨ j = 1 ∨ j = 2 := by omega
        rcases this with rfl | rfl | rfl
        · exact h3 c
        · exact h1 c
        · exact h0 c
theorem ordL_in {j : Nat} (h : j < 4) : inR (ordL.getD j 0) 0 5 = true := by
  have : j = 0 ∨ j = 1 ∨ j = 2 ∨ j = 3 := by omega
  rcases this with rfl | rfl | rfl | rfl <;> rfl
theorem rd_ord (w : World) (e : TypeId) (g : Nat) (hg : w.heap.size = g) : Rd (w.alloc (.cells #[.int .i64 3, .int .i64 1, .int .i64 0, .int .i64 5] e)) (some ⟨g, 0, none⟩) 4 (ints ordL) := by
  subst hg
  exact (Blk.new w e #[.int .i64 3, .int .i64 1, .int .i64 0, .int .i64 5]).rd rfl (fun i hi => by
    match i, hi with
    | 0, _ => rfl
    | 1, _ => rfl
    | 2, _ => rfl
    | 3, _ => rfl)

def finL (xs ks : List Int) : LinkC × Nat := finF 5000 (runTo xs ks ks.length) 0
def finR (xs ks : List Int) : LinkC := if runC xs ks = 0 then (finL xs ks).1 else zeroLink
def finN (xs ks : List Int) : Int := if runC xs ks = 0 then ((finL xs ks).2 : Int) else 0
def RetLinkN (l : LinkC) (n code : Int) (w : World) (e : Ending) (w' : World) : Prop :=
  ∃ k, e = .returned (.tuple #[LinkV k l, .int .i64 n, .int .i64 code]) ∧ LinkOk k ∧ RdAll w' (LinkS k l) ∧ WrAll w' w.heap.size (LinkS k l) ∧ Sep (LinkR k) ∧ Below w.heap.size w w'
theorem retLinkN_own {w w' : World} {k : LinkH} {l : LinkC} {n code : Int} (o : LinkOwn w' w.heap.size k l) (K : LOk l) (b : Below w.heap.size w w') : RetLinkN l n code w (.returned (.tuple #[LinkV k l, .int .i64 n, .int .i64 code])) w' :=
  ⟨k, rfl, o.ok K, o.rd, o.wr, o.sp, b⟩
theorem retLinkN_zero {w w' : World} {code : Int} (b : Below w.heap.size w w') : RetLinkN zeroLink 0 code w (.returned (.tuple #[.agg #[.slice none 0 0, .int .i64 0, .int .i64 0, .slice none 0 0, .slice none 0 0, .slice none 0 0], .int .i64 0, .int .i64 code])) w' := by
  obtain ⟨k, he, h1, h2, h3, h4, h5⟩ := retLink_zero (code := code) b
  unfold LinkV at he
  injection he with he
  injection he with he
  have hk : Value.agg #[.slice none 0 0, .int .i64 0, .int .i64 0, .slice none 0 0, .slice none 0 0, .slice none 0 0] = LinkV k zeroLink := by
    have := congrArg (fun a : Array Value => a[0]?) he
    simpa [LinkV] using this
  exact ⟨k, by rw [← hk], h1, h2, h3, h4, h5⟩
/-- what holds of a link that is being finished -/
def FinX (l0 l : LinkC) (q : Nat) : Prop := FinAt l0 l q ∧ LOk l
theorem finX_step {l0 l : LinkC} {q : Nat} (h : FinX l0 l q) (hb : l.base < l.items.length) : canL l (ordL.getD (finI l) 0) = true ∧ FinX l0 (stepL l (ordL.getD (finI l) 0)) (q + 1) ∧ q < 5000 := by
  obtain ⟨h1, h2⟩ := h
  have := finAt_step h1 hb
  rw [← finI_at] at this
  exact ⟨this.1, ⟨this.2.1, stepL_ok h2 (ordL_in (by have := finI_le l; omega)) this.1⟩, this.2.2⟩
theorem finX_start {xs ks : List Int} (hx : okList xs 20 0 255 = true) (hk : allIn ks 0 5 = true) : FinX (runTo xs ks ks.length) (runTo xs ks ks.length) 0 := by
  have h := runTo_ok hx hk ks.length (Nat.le_refl _)
  exact ⟨finAt_start h.2.1 h.1.np h.1.na, h.1⟩
theorem runC_yes {xs ks : List Int} (h : runC xs ks = 0) : okList xs 20 0 255 = true ∧ allIn ks 0 5 = true := by
  unfold runC at h
  refine ⟨Decidable.byContradiction fun c => ?_, Decidable.byContradiction fun c => ?_⟩
  · rw [if_neg c] at h; cases h
  · by_cases h1 : okList xs 20 0 255 = true
    · rw [if_pos h1, if_neg c] at h; cases h
    · rw [if_neg h1] at h; cases h
theorem runC_no {xs ks : List Int} (h : ¬ runC xs ks = 0) : runC xs ks = 1 ∨ runC xs ks = 2 ∨ runC xs ks = 3 := by
  unfold runC at h ⊢
  (repeat' split) <;> simp_all

end Go.Proofs.YtoledbicmghmbaaDoor
