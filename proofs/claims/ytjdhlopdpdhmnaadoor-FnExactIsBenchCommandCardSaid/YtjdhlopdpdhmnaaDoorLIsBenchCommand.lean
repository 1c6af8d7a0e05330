/- The law FnExactIsBenchCommand, walked. Condition: the library's variables are as they are laid. -/
import Derived.Test.YtjdhlopdpdhmnaaDoorCmdR
namespace Go.Proofs.YtjdhlopdpdhmnaaDoor
open Go.RowKit

theorem specIsBenchCommand_any (s : Bs) (w : World) (hs : s.length ≤ 1048576) :
    Calls Tryd.prog 4 #[.string ⟨s.toArray⟩] w fun e w' => e = .returned (.bool (cmB s)) ∧ Below w.heap.size w w' := by
  go_enter Tryd.func4, Tryd.ntmps4
  go_wp2_with fail
  refine (specParse_any s _ hs).mono ?_
  rintro e w1 ⟨u, A, n, c, rfl, -, b1⟩
  go_wp2
  go_ret
  exact ⟨rfl, b1⟩
theorem implIsBenchCommand_any (s : Bs) (w : World) (hs : s.length ≤ 1048576) (T : LibW w) :
    Calls Tryd.prog 5 #[.string ⟨s.toArray⟩] w fun e w' => e = .returned (.bool (cmB s)) ∧ Below w.heap.size w w' := by
  go_enter Tryd.func5, Tryd.ntmps5
  go_wp2_with fail
  refine (implParse_any s _ hs T).mono ?_
  rintro e w1 ⟨u, A, n, c, rfl, -, b1⟩
  go_wp2
  go_ret
  exact ⟨rfl, b1⟩
theorem lawIsBenchCommand_any (l : Bs) (w : World) (T : LibW w) :
    Calls Tryd.prog 3 #[.string ⟨l.toArray⟩] w fun e w' => e = .returned (.bool true) ∧ Below w.heap.size w w' := by
  have hz := str_size l
  by_cases h : (1048576 : Int) < (l.length : Int)
  · go_enter Tryd.func3, Tryd.ntmps3
    go_wp2_with fail
    go_ret
    exact ⟨rfl, Below.refl _ _⟩
  have HS := fun (W : World) => specIsBenchCommand_any l W (by omega)
  have HI := fun (W : World) (T : LibW W) => implIsBenchCommand_any l W (by omega) T
  generalize cmB l = b at HS HI
  go_enter Tryd.func3, Tryd.ntmps3
  go_wp2_with fail
  refine (HS _).mono ?_
  rintro e w1 ⟨rfl, b1⟩
  go_wp2_with fail
  refine (HI _ (T.below b1)).mono ?_
  rintro e w2 ⟨rfl, b2⟩
  have b3 := b1.trans (b2.mono b1.size)
  rcases b
  all_goals
    go_wp2
    go_ret
    exact ⟨rfl, b3⟩
theorem FnExactIsBenchCommand_walk (w : World) (s : ByteArray) (hs : s.size ≤ maxLen) (T : LibW w) :
    Calls Tryd.prog 3 #[.string s] w fun e w' => e = .returned (.bool true) ∧ Below w.heap.size w w' := by
  have h := lawIsBenchCommand_any s.data.toList w T
  rw [mk_list] at h
  exact h
end Go.Proofs.YtjdhlopdpdhmnaaDoor
