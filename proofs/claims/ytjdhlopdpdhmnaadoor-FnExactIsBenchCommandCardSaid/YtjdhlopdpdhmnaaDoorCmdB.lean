/- The number of a word of a command: the program's side. Conditions: a length; the library's variables are as they are laid. -/
import Derived.Test.YtjdhlopdpdhmnaaDoorCmdA
import Derived.Test.YtjdhlopdpdhmnaaDoorShelfR
namespace Go.Proofs.YtjdhlopdpdhmnaaDoor
open Go.RowKit

set_option maxRecDepth 100000 in
set_option maxHeartbeats 2000000 in
theorem benchNumber_any (s : Bs) (w : World) (hs : s.length ≤ 1048576) (T : LibW w) :
    Calls Tryd.prog 12 #[.string ⟨s.toArray⟩] w fun e w' => ∃ m : Int, e = .returned (.tuple #[.int .i64 m, .bool (bnB s)]) ∧ (bnB s = true → m = rdN s) ∧ Below w.heap.size w w' := by
  have hv := readNumber_any s w hs T
  have ht := strings_TrimPrefix ⟨s.toArray⟩ ⟨#[45]⟩
  have hd : (⟨s.toArray⟩ : ByteArray).data.toList = s := str_data s
  rw [hd] at ht
  have ht' : ∀ w, Calls Tryd.prog 17 #[.string ⟨s.toArray⟩, .string ⟨#[45]⟩] w fun e w' => e = .returned (.string ⟨(Lib.trimPrefix s [45]).toArray⟩) ∧ w' = w := ht
  clear ht hd
  have HB : Hid (bnB s = (rdB s && decide ((Lib.trimPrefix s [45]).length ≤ 12))) := rfl
  generalize Lib.trimPrefix s [45] = t at *
  have hz := str_size t
  rcases Bool.eq_false_or_eq_true (rdB s) with hb | hb
  · rw [hb] at hv
    by_cases h12 : (t.length : Int) ≤ 12
    · have HT : Hid (bnB s = true) := by unfold Hid; rw [HB.out, hb, decide_eq_true (by omega)]; rfl
      clear hb
      go_enter Tryd.func12, Tryd.ntmps12
      go_wp2_with fail
      refine hv.mono ?_
      rintro e w1 ⟨m, rfl, hm, b1⟩
      obtain rfl : m = rdN s := hm (by trivial)
      clear hm
      obtain ⟨m, hmm⟩ : ∃ m, rdN s = m := ⟨_, rfl⟩
      rw [hmm]
      have HM := Lib.hid hmm
      clear hmm
      go_wp2_with fail
      refine (ht' _).mono ?_
      rintro e w2 ⟨rfl, rfl⟩
      go_wp2
      refine bodyPost_ret (v := .tuple #[.int .i64 m, .bool true]) (by simp [results, Tryd.results12, go_sem]) rfl ?_
      rw [HT.out]
      exact ⟨m, rfl, (fun _ => HM.out.symm), b1⟩
    · have HT : Hid (bnB s = false) := by unfold Hid; rw [HB.out, hb, decide_eq_false (by omega)]; rfl
      clear hb
      go_enter Tryd.func12, Tryd.ntmps12
      go_wp2_with fail
      refine hv.mono ?_
      rintro e w1 ⟨m, rfl, hm, b1⟩
      obtain rfl : m = rdN s := hm (by trivial)
      clear hm
      obtain ⟨m, hmm⟩ : ∃ m, rdN s = m := ⟨_, rfl⟩
      rw [hmm]
      have HM := Lib.hid hmm
      clear hmm
      go_wp2_with fail
      refine (ht' _).mono ?_
      rintro e w2 ⟨rfl, rfl⟩
      go_wp2
      refine bodyPost_ret (v := .tuple #[.int .i64 m, .bool false]) (by simp [results, Tryd.results12, go_sem] <;> omega) rfl ?_
      rw [HT.out]
      exact ⟨m, rfl, (fun h => by cases h), b1⟩
  · have HT : Hid (bnB s = false) := by unfold Hid; rw [HB.out, hb]; rfl
    rw [hb] at hv
    clear hb
    go_enter Tryd.func12, Tryd.ntmps12
    go_wp2_with fail
    refine hv.mono ?_
    rintro e w1 ⟨m, rfl, hm, b1⟩
    go_wp2
    refine bodyPost_ret (v := .tuple #[.int .i64 m, .bool false]) (by simp [results, Tryd.results12, go_sem]) rfl ?_
    rw [HT.out]
    exact ⟨m, rfl, (fun h => by cases h), b1⟩
end Go.Proofs.YtjdhlopdpdhmnaaDoor
