/- New links: spec.NewLink and impl.NewLink compute the same. Condition: a list of at most 1048576 numbers. -/
import Derived.Test.YtoledbicmghmbaaDoorLinkA
namespace Go.Proofs.YtoledbicmghmbaaDoor
open Go.RowKit

def zeroLink : LinkC := ⟨[], 0, 0, [], [], []⟩
def newLinkR (xs : List Int) : LinkC := if okList xs 20 0 255 = true then ⟨xs, 0, 0, [], [], []⟩ else zeroLink
def newLinkC (xs : List Int) : Int := if okList xs 20 0 255 = true then 0 else 1
/-- The call has returned a link, in memory of its own, and a code. -/
def RetLink (l : LinkC) (code : Int) (w : World) (e : Ending) (w' : World) : Prop :=
  ∃ k, e = .returned (.tuple #[LinkV k l, .int .i64 code]) ∧ LinkOk k ∧ RdAll w' (LinkS k l) ∧ WrAll w' w.heap.size (LinkS k l) ∧ Sep (LinkR k) ∧ Below w.heap.size w w'
theorem Wr.nil (w : World) (B : Nat) (A : Option Addr) : Wr w B A 0 := fun h => absurd h (by omega)
theorem Hi.nones (B : Nat) : ∀ r : List (Option Nat), (∀ s ∈ r, s = none) → Hi r B := fun r h s hs b e => by rw [h s hs] at e; cases e
theorem Sep.ofNone {r : List (Option Nat)} (h : ∀ s ∈ r, s = none) : Sep r := by
  induction r with
  | nil => exact Sep.nil
  | cons a t ih =>
    exact Sep.cons (fun x hx y hy b e => by
      rcases List.mem_cons.1 hx with rfl | hx
      · rw [h x (List.mem_cons_self ..)] at e; cases e
      · cases hx) (ih fun s hs => h s (List.mem_cons_of_mem _ hs))
theorem newLink_ret {w w' : World} {A : Option Addr} {n c : Nat} {xs : List Int} (code : Int) (hn : n ≤ 1048576) (hr : Rd w' A n (ints xs)) (hw : Wr w' w.heap.size A n) (hb : Below w.heap.size w w') :
    RetLink ⟨xs, 0, 0, [], [], []⟩ code w (.returned (.tuple #[.agg #[.slice A n c, .int .i64 0, .int .i64 0, .slice none 0 0, .slice none 0 0, .slice none 0 0], .int .i64 code])) w' :=
  ⟨⟨⟨A, n, c⟩, ⟨none, 0, 0⟩, ⟨none, 0, 0⟩, ⟨none, 0, 0⟩⟩, rfl, ⟨hn, Nat.zero_le _, Nat.zero_le _, Nat.zero_le _⟩,
    RdAll.cons (s := ⟨A, n, ints xs⟩) hr (RdAll.cons (s := ⟨none, 0, []⟩) (Rd.nil _ _) (RdAll.cons (s := ⟨none, 0, []⟩) (Rd.nil _ _) (RdAll.cons (s := ⟨none, 0, []⟩) (Rd.nil _ _) (RdAll.nil _)))),
    WrAll.cons (s := ⟨A, n, ints xs⟩) hw (WrAll.cons (s := ⟨none, 0, []⟩) (Wr.nil _ _ _) (WrAll.cons (s := ⟨none, 0, []⟩) (Wr.nil _ _ _) (WrAll.cons (s := ⟨none, 0, []⟩) (Wr.nil _ _ _) (WrAll.nil _ _)))),
    Sep.cons (fun x hx y hy b e => by rcases List.mem_cons.1 hy with rfl | hy; · simp [blkp]
                                      rcases List.mem_cons.1 hy with rfl | hy; · simp [blkp]
                                      rcases List.mem_cons.1 hy with rfl | hy; · simp [blkp]
                                      cases hy) (Sep.ofNone fun s hs => by
      rcases List.mem_cons.1 hs with rfl | hs; · rfl
      rcases List.mem_cons.1 hs with rfl | hs; · rfl
      rcases List.mem_cons.1 hs with rfl | hs; · rfl
      cases hs), hb⟩

end Go.Proofs.YtoledbicmghmbaaDoor
