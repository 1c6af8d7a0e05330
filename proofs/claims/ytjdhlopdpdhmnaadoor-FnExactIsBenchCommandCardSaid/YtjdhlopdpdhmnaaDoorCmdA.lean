/- The table of commands, both sides. Total. -/
import Derived.Test.YtjdhlopdpdhmnaaDoorCmdM
import Derived.Test.YtjdhlopdpdhmnaaDoorStF
namespace Go.Proofs.YtjdhlopdpdhmnaaDoor
open Go.RowKit

theorem arI_none {l : Bs} (h0 : ¬ l = [115, 104, 111, 97, 108, 101, 115, 116]) (h1 : ¬ l = [108, 111, 103]) (h2 : ¬ l = [99, 104, 101, 99, 107]) (h3 : ¬ l = [115, 111, 117, 114, 99, 101]) (h4 : ¬ l = [109, 97, 114, 107]) (h5 : ¬ l = [116, 114, 97, 99, 101]) (h6 : ¬ l = [108, 101, 118, 101, 108]) (h7 : ¬ l = [114, 97, 121]) (h8 : ¬ l = [99, 108, 101, 97, 110]) (h9 : ¬ l = [103, 114, 105, 100]) (h10 : ¬ l = [99, 104, 97, 110, 99, 101]) (h11 : ¬ l = [112, 108, 97, 110]) (h12 : ¬ l = [115, 111, 117, 110, 100]) (h13 : ¬ l = [109, 101, 101, 116]) : arI l = -1 := by
  simp [arI, nmShoalest, nmLog, nmCheck, nmSource, nmMark, nmTrace, nmLevel, nmRay, nmClean, nmGrid, nmChance, nmPlan, nmSound, nmMeet, h0, h1, h2, h3, h4, h5, h6, h7, h8, h9, h10, h11, h12, h13]
set_option maxRecDepth 100000 in
set_option maxHeartbeats 4000000 in
theorem arity_any (l : Bs) (w : World) :
    Calls Tryd.prog 13 #[.string ⟨l.toArray⟩] w fun e w' => e = .returned (.int .i64 (arI l)) ∧ w' = w := by
  by_cases h0 : l = [115, 104, 111, 97, 108, 101, 115, 116]
  · have HA : Hid (arI [115, 104, 111, 97, 108, 101, 115, 116] = 0) := by unfold Hid; decide
    subst h0
    go_enter Tryd.func13, Tryd.ntmps13
    go_wp2_with fail
    go_ret
    rw [HA.out]
    exact ⟨rfl, rfl⟩
  by_cases h1 : l = [108, 111, 103]
  · have HA : Hid (arI [108, 111, 103] = 0) := by unfold Hid; decide
    subst h1
    clear h0
    go_enter Tryd.func13, Tryd.ntmps13
    go_wp2_with fail
    go_ret
    rw [HA.out]
    exact ⟨rfl, rfl⟩
  by_cases h2 : l = [99, 104, 101, 99, 107]
  · have HA : Hid (arI [99, 104, 101, 99, 107] = 0) := by unfold Hid; decide
    subst h2
    clear h0 h1
    go_enter Tryd.func13, Tryd.ntmps13
    go_wp2_with fail
    go_ret
    rw [HA.out]
    exact ⟨rfl, rfl⟩
  by_cases h3 : l = [115, 111, 117, 114, 99, 101]
  · have HA : Hid (arI [115, 111, 117, 114, 99, 101] = 1) := by unfold Hid; decide
    subst h3
    clear h0 h1 h2
    go_enter Tryd.func13, Tryd.ntmps13
    go_wp2_with fail
    go_ret
    rw [HA.out]
    exact ⟨rfl, rfl⟩
  by_cases h4 : l = [109, 97, 114, 107]
  · have HA : Hid (arI [109, 97, 114, 107] = 1) := by unfold Hid; decide
    subst h4
    clear h0 h1 h2 h3
    go_enter Tryd.func13, Tryd.ntmps13
    go_wp2_with fail
    go_ret
    rw [HA.out]
    exact ⟨rfl, rfl⟩
  by_cases h5 : l = [116, 114, 97, 99, 101]
  · have HA : Hid (arI [116, 114, 97, 99, 101] = 1) := by unfold Hid; decide
    subst h5
    clear h0 h1 h2 h3 h4
    go_enter Tryd.func13, Tryd.ntmps13
    go_wp2_with fail
    go_ret
    rw [HA.out]
    exact ⟨rfl, rfl⟩
  by_cases h6 : l = [108, 101, 118, 101, 108]
  · have HA : Hid (arI [108, 101, 118, 101, 108] = 2) := by unfold Hid; decide
    subst h6
    clear h0 h1 h2 h3 h4 h5
    go_enter Tryd.func13, Tryd.ntmps13
    go_wp2_with fail
    go_ret
    rw [HA.out]
    exact ⟨rfl, rfl⟩
  by_cases h7 : l = [114, 97, 121]
  · have HA : Hid (arI [114, 97, 121] = 3) := by unfold Hid; decide
    subst h7
    clear h0 h1 h2 h3 h4 h5 h6
    go_enter Tryd.func13, Tryd.ntmps13
    go_wp2_with fail
    go_ret
    rw [HA.out]
    exact ⟨rfl, rfl⟩
  by_cases h8 : l = [99, 108, 101, 97, 110]
  · have HA : Hid (arI [99, 108, 101, 97, 110] = 3) := by unfold Hid; decide
    subst h8
    clear h0 h1 h2 h3 h4 h5 h6 h7
    go_enter Tryd.func13, Tryd.ntmps13
    go_wp2_with fail
    go_ret
    rw [HA.out]
    exact ⟨rfl, rfl⟩
  by_cases h9 : l = [103, 114, 105, 100]
  · have HA : Hid (arI [103, 114, 105, 100] = 3) := by unfold Hid; decide
    subst h9
    clear h0 h1 h2 h3 h4 h5 h6 h7 h8
    go_enter Tryd.func13, Tryd.ntmps13
    go_wp2_with fail
    go_ret
    rw [HA.out]
    exact ⟨rfl, rfl⟩
  by_cases h10 : l = [99, 104, 97, 110, 99, 101]
  · have HA : Hid (arI [99, 104, 97, 110, 99, 101] = 3) := by unfold Hid; decide
    subst h10
    clear h0 h1 h2 h3 h4 h5 h6 h7 h8 h9
    go_enter Tryd.func13, Tryd.ntmps13
    go_wp2_with fail
    go_ret
    rw [HA.out]
    exact ⟨rfl, rfl⟩
  by_cases h11 : l = [112, 108, 97, 110]
  · have HA : Hid (arI [112, 108, 97, 110] = 3) := by unfold Hid; decide
    subst h11
    clear h0 h1 h2 h3 h4 h5 h6 h7 h8 h9 h10
    go_enter Tryd.func13, Tryd.ntmps13
    go_wp2_with fail
    go_ret
    rw [HA.out]
    exact ⟨rfl, rfl⟩
  by_cases h12 : l = [115, 111, 117, 110, 100]
  · have HA : Hid (arI [115, 111, 117, 110, 100] = 5) := by unfold Hid; decide
    subst h12
    clear h0 h1 h2 h3 h4 h5 h6 h7 h8 h9 h10 h11
    go_enter Tryd.func13, Tryd.ntmps13
    go_wp2_with fail
    go_ret
    rw [HA.out]
    exact ⟨rfl, rfl⟩
  by_cases h13 : l = [109, 101, 101, 116]
  · have HA : Hid (arI [109, 101, 101, 116] = 6) := by unfold Hid; decide
    subst h13
    clear h0 h1 h2 h3 h4 h5 h6 h7 h8 h9 h10 h11 h12
    go_enter Tryd.func13, Tryd.ntmps13
    go_wp2_with fail
    go_ret
    rw [HA.out]
    exact ⟨rfl, rfl⟩
  have HA := Lib.hid (arI_none h0 h1 h2 h3 h4 h5 h6 h7 h8 h9 h10 h11 h12 h13)
  have e0 : (l == [115, 104, 111, 97, 108, 101, 115, 116]) = false := by simpa using h0
  have e1 : (l == [108, 111, 103]) = false := by simpa using h1
  have e2 : (l == [99, 104, 101, 99, 107]) = false := by simpa using h2
  have e3 : (l == [115, 111, 117, 114, 99, 101]) = false := by simpa using h3
  have e4 : (l == [109, 97, 114, 107]) = false := by simpa using h4
  have e5 : (l == [116, 114, 97, 99, 101]) = false := by simpa using h5
  have e6 : (l == [108, 101, 118, 101, 108]) = false := by simpa using h6
  have e7 : (l == [114, 97, 121]) = false := by simpa using h7
  have e8 : (l == [99, 108, 101, 97, 110]) = false := by simpa using h8
  have e9 : (l == [103, 114, 105, 100]) = false := by simpa using h9
  have e10 : (l == [99, 104, 97, 110, 99, 101]) = false := by simpa using h10
  have e11 : (l == [112, 108, 97, 110]) = false := by simpa using h11
  have e12 : (l == [115, 111, 117, 110, 100]) = false := by simpa using h12
  have e13 : (l == [109, 101, 101, 116]) = false := by simpa using h13
  go_enter Tryd.func13, Tryd.ntmps13
  go_wp2_with fail
  go_ret
  rw [HA.out]
  exact ⟨rfl, rfl⟩
set_option maxRecDepth 100000 in
set_option maxHeartbeats 4000000 in
theorem l32Count_any (l : Bs) (w : World) :
    Calls Tryd.prog 10 #[.string ⟨l.toArray⟩] w fun e w' => e = .returned (.int .i64 (arI l)) ∧ w' = w := by
  by_cases h0 : l = [115, 104, 111, 97, 108, 101, 115, 116]
  · have HA : Hid (arI [115, 104, 111, 97, 108, 101, 115, 116] = 0) := by unfold Hid; decide
    subst h0
    go_enter Tryd.func10, Tryd.ntmps10
    go_wp2_with fail
    go_ret
    rw [HA.out]
    exact ⟨rfl, rfl⟩
  by_cases h1 : l = [108, 111, 103]
  · have HA : Hid (arI [108, 111, 103] = 0) := by unfold Hid; decide
    subst h1
    clear h0
    go_enter Tryd.func10, Tryd.ntmps10
    go_wp2_with fail
    go_ret
    rw [HA.out]
    exact ⟨rfl, rfl⟩
  by_cases h2 : l = [99, 104, 101, 99, 107]
  · have HA : Hid (arI [99, 104, 101, 99, 107] = 0) := by unfold Hid; decide
    subst h2
    clear h0 h1
    go_enter Tryd.func10, Tryd.ntmps10
    go_wp2_with fail
    go_ret
    rw [HA.out]
    exact ⟨rfl, rfl⟩
  by_cases h3 : l = [115, 111, 117, 114, 99, 101]
  · have HA : Hid (arI [115, 111, 117, 114, 99, 101] = 1) := by unfold Hid; decide
    subst h3
    clear h0 h1 h2
    go_enter Tryd.func10, Tryd.ntmps10
    go_wp2_with fail
    go_ret
    rw [HA.out]
    exact ⟨rfl, rfl⟩
  by_cases h4 : l = [109, 97, 114, 107]
  · have HA : Hid (arI [109, 97, 114, 107] = 1) := by unfold Hid; decide
    subst h4
    clear h0 h1 h2 h3
    go_enter Tryd.func10, Tryd.ntmps10
    go_wp2_with fail
    go_ret
    rw [HA.out]
    exact ⟨rfl, rfl⟩
  by_cases h5 : l = [116, 114, 97, 99, 101]
  · have HA : Hid (arI [116, 114, 97, 99, 101] = 1) := by unfold Hid; decide
    subst h5
    clear h0 h1 h2 h3 h4
    go_enter Tryd.func10, Tryd.ntmps10
    go_wp2_with fail
    go_ret
    rw [HA.out]
    exact ⟨rfl, rfl⟩
  by_cases h6 : l = [108, 101, 118, 101, 108]
  · have HA : Hid (arI [108, 101, 118, 101, 108] = 2) := by unfold Hid; decide
    subst h6
    clear h0 h1 h2 h3 h4 h5
    go_enter Tryd.func10, Tryd.ntmps10
    go_wp2_with fail
    go_ret
    rw [HA.out]
    exact ⟨rfl, rfl⟩
  by_cases h7 : l = [114, 97, 121]
  · have HA : Hid (arI [114, 97, 121] = 3) := by unfold Hid; decide
    subst h7
    clear h0 h1 h2 h3 h4 h5 h6
    go_enter Tryd.func10, Tryd.ntmps10
    go_wp2_with fail
    go_ret
    rw [HA.out]
    exact ⟨rfl, rfl⟩
  by_cases h8 : l = [99, 108, 101, 97, 110]
  · have HA : Hid (arI [99, 108, 101, 97, 110] = 3) := by unfold Hid; decide
    subst h8
    clear h0 h1 h2 h3 h4 h5 h6 h7
    go_enter Tryd.func10, Tryd.ntmps10
    go_wp2_with fail
    go_ret
    rw [HA.out]
    exact ⟨rfl, rfl⟩
  by_cases h9 : l = [103, 114, 105, 100]
  · have HA : Hid (arI [103, 114, 105, 100] = 3) := by unfold Hid; decide
    subst h9
    clear h0 h1 h2 h3 h4 h5 h6 h7 h8
    go_enter Tryd.func10, Tryd.ntmps10
    go_wp2_with fail
    go_ret
    rw [HA.out]
    exact ⟨rfl, rfl⟩
  by_cases h10 : l = [99, 104, 97, 110, 99, 101]
  · have HA : Hid (arI [99, 104, 97, 110, 99, 101] = 3) := by unfold Hid; decide
    subst h10
    clear h0 h1 h2 h3 h4 h5 h6 h7 h8 h9
    go_enter Tryd.func10, Tryd.ntmps10
    go_wp2_with fail
    go_ret
    rw [HA.out]
    exact ⟨rfl, rfl⟩
  by_cases h11 : l = [112, 108, 97, 110]
  · have HA : Hid (arI [112, 108, 97, 110] = 3) := by unfold Hid; decide
    subst h11
    clear h0 h1 h2 h3 h4 h5 h6 h7 h8 h9 h10
    go_enter Tryd.func10, Tryd.ntmps10
    go_wp2_with fail
    go_ret
    rw [HA.out]
    exact ⟨rfl, rfl⟩
  by_cases h12 : l = [115, 111, 117, 110, 100]
  · have HA : Hid (arI [115, 111, 117, 110, 100] = 5) := by unfold Hid; decide
    subst h12
    clear h0 h1 h2 h3 h4 h5 h6 h7 h8 h9 h10 h11
    go_enter Tryd.func10, Tryd.ntmps10
    go_wp2_with fail
    go_ret
    rw [HA.out]
    exact ⟨rfl, rfl⟩
  by_cases h13 : l = [109, 101, 101, 116]
  · have HA : Hid (arI [109, 101, 101, 116] = 6) := by unfold Hid; decide
    subst h13
    clear h0 h1 h2 h3 h4 h5 h6 h7 h8 h9 h10 h11 h12
    go_enter Tryd.func10, Tryd.ntmps10
    go_wp2_with fail
    go_ret
    rw [HA.out]
    exact ⟨rfl, rfl⟩
  have HA := Lib.hid (arI_none h0 h1 h2 h3 h4 h5 h6 h7 h8 h9 h10 h11 h12 h13)
  have e0 : (l == [115, 104, 111, 97, 108, 101, 115, 116]) = false := by simpa using h0
  have e1 : (l == [108, 111, 103]) = false := by simpa using h1
  have e2 : (l == [99, 104, 101, 99, 107]) = false := by simpa using h2
  have e3 : (l == [115, 111, 117, 114, 99, 101]) = false := by simpa using h3
  have e4 : (l == [109, 97, 114, 107]) = false := by simpa using h4
  have e5 : (l == [116, 114, 97, 99, 101]) = false := by simpa using h5
  have e6 : (l == [108, 101, 118, 101, 108]) = false := by simpa using h6
  have e7 : (l == [114, 97, 121]) = false := by simpa using h7
  have e8 : (l == [99, 108, 101, 97, 110]) = false := by simpa using h8
  have e9 : (l == [103, 114, 105, 100]) = false := by simpa using h9
  have e10 : (l == [99, 104, 97, 110, 99, 101]) = false := by simpa using h10
  have e11 : (l == [112, 108, 97, 110]) = false := by simpa using h11
  have e12 : (l == [115, 111, 117, 110, 100]) = false := by simpa using h12
  have e13 : (l == [109, 101, 101, 116]) = false := by simpa using h13
  go_enter Tryd.func10, Tryd.ntmps10
  go_wp2_with fail
  go_ret
  rw [HA.out]
  exact ⟨rfl, rfl⟩
end Go.Proofs.YtjdhlopdpdhmnaaDoor
