/- Lines of the console, read as commands: the reference's side. Condition: a length. -/
import Derived.Test.YtjdhlopdpdhmnaaDoorCmdP
import Derived.Deep.QuietTactic
import Derived.BigQuiet
namespace Go.Proofs.YtjdhlopdpdhmnaaDoor
open Go.RowKit

theorem split32_any (s : Bs) (w : World) (hs : s.length ≤ 1048576) :
    Calls Tryd.prog 8 #[.string ⟨s.toArray⟩, .int .u8 32] w fun e w' => ∃ B d, e = .returned (.slice B (splitC 32 s).length d) ∧ Rd w' B (splitC 32 s).length (strs (splitC 32 s)) ∧ (splitC 32 s).length ≤ d ∧ Below w.heap.size w w' := l01Split_any ⟨s.toArray⟩ 32 w (by rw [str_size]; exact hs)
theorem add_nil0 (a : Addr) : a.add 0 = a := by
  obtain ⟨b, o, p⟩ := a
  unfold Addr.add
  split <;> simp_all
set_option maxRecDepth 100000 in
set_option maxHeartbeats 2000000 in
theorem specParse_any (s : Bs) (w : World) (hs : s.length ≤ 1048576) :
    Calls Tryd.prog 6 #[.string ⟨s.toArray⟩] w (CmdR s w) := by
  have hsp := split32_any s w hs
  have hlen := splitC_len 32 s
  have hpc := splitC_piece 32 s
  have hne := splitC_ne 32 s
  obtain ⟨ws, hw⟩ : ∃ ws, splitC 32 s = ws := ⟨_, rfl⟩
  have HCP := Lib.hid (@cm_prof' s ws hw)
  have HCO := Lib.hid (@cm_other' s ws hw)
  rw [hw] at hsp hlen hpc hne
  clear hw
  obtain ⟨n, hn⟩ : ∃ n, ws.length = n := ⟨_, rfl⟩
  have hn1 : 1 ≤ n := by
    rcases ws with _ | ⟨a, r⟩
    · exact absurd rfl hne
    · rw [← hn]; simp
  rw [hn] at hsp hlen
  have HP := Lib.hid hpc
  have HN := Lib.hid hn
  clear hpc hn hne
  have hn1I : (0 : Int) < (n : Int) := by omega
  go_enter Tryd.func6, Tryd.ntmps6
  go_wp2_with fail
  refine hsp.mono ?_
  rintro e w1 ⟨B, d, rfl, hr, hnd, b1⟩
  have hb1s := b1.size
  clear hsp
  obtain ⟨ad0, rfl, hx0⟩ := hr.str (k := 0) (by omega)
  rw [add_nil0] at hx0
  by_cases hp : ws.getD 0 [] = [112, 114, 111, 102, 105, 108, 101]
  · have HR := Lib.hid (HCP.out hp)
    clear HCP HCO
    rw [hp] at hx0
    clear hp
    by_cases h2 : n = 2
    · subst h2
      obtain ⟨ad1, hA1, hx1⟩ := hr.str (k := 1) (by omega)
      cases hA1
      rw [show ad0.add 1 = ⟨ad0.block, ad0.off + 1, none⟩ by simp [Addr.add]] at hx1
      by_cases hE : ws.getD 1 [] = []
      · have HB : Hid (cmB s = false) := by unfold Hid; rw [HR.out.2.1, hE]; simp
        rw [hE] at hx1
        clear hE
        go_wp2_with fail
        go_quiet (fail)
        go_wp2
        refine bodyPost_ret (v := .tuple #[.string ⟨#[112, 114, 111, 102, 105, 108, 101]⟩, .slice none 0 0, .bool false]) (by simp [results, Tryd.results6, go_sem]) rfl ?_
        exact ⟨[112, 114, 111, 102, 105, 108, 101], none, 0, 0, by rw [HB.out], (fun h => by rw [HB.out] at h; cases h), Below.drewN b1 _⟩
      · have HB : Hid (cmB s = true) := by unfold Hid; rw [HR.out.2.1, HN.out]; simpa using hE
        have hE2 : (ws.getD 1 []).isEmpty = false := by simpa using hE
        generalize ws.getD 1 [] = x at *
        go_wp2_with fail
        go_quiet (fail)
        go_wp2
        refine bodyPost_ret (v := .tuple #[.string ⟨#[112, 114, 111, 102, 105, 108, 101]⟩, .slice none 0 0, .bool true]) (by simp [results, Tryd.results6, go_sem]) rfl ?_
        exact ⟨[112, 114, 111, 102, 105, 108, 101], none, 0, 0, by rw [HB.out], (fun _ => ⟨HR.out.1.symm, Nat.le_refl _, by rw [HR.out.2.2]; rfl, by rw [HR.out.2.2]; exact Rd.nil _ _⟩), Below.drewN b1 _⟩
    · have HB : Hid (cmB s = false) := by unfold Hid; rw [HR.out.2.1, HN.out, decide_eq_false h2]; rfl
      have h2I : ¬ (n : Int) = 2 := by omega
      have h2b : ((n : Int) == 2) = false := by rw [beq_eq_false_iff_ne]; exact h2I
      have h2d : decide ((n : Int) = 2) = false := decide_eq_false h2I
      go_wp2_with fail
      go_quiet (fail)
      go_wp2
      refine bodyPost_ret (v := .tuple #[.string ⟨#[112, 114, 111, 102, 105, 108, 101]⟩, .slice none 0 0, .bool false]) (by simp [results, Tryd.results6, go_sem]) rfl ?_
      exact ⟨[112, 114, 111, 102, 105, 108, 101], none, 0, 0, by rw [HB.out], (fun h => by rw [HB.out] at h; cases h), Below.drewN b1 _⟩
  have HR := Lib.hid (HCO.out hp)
  have hpB : (ws.getD 0 [] == [112, 114, 111, 102, 105, 108, 101]) = false := by simpa using hp
  clear HCP HCO
  obtain ⟨X, hX⟩ : ∃ X, (if d = 1 then some ad0 else (some ad0).map (fun x => ⟨x.block, x.off + 1, none⟩)) = X := ⟨_, rfl⟩
  have hr1 := rd_tail1 hr hn1 hnd hX
  simp only [Option.map] at hX
  have HP1 : Hid (∀ x ∈ ws.drop 1, x.length ≤ 1048576) := fun x hx => Nat.le_trans (HP.out x (List.mem_of_mem_drop hx)) hs
  have hds : (strs ws).drop 1 = strs (ws.drop 1) := by unfold strs; rw [List.map_drop]
  rw [hds] at hr1
  have HN1 : Hid ((ws.drop 1).length = n - 1) := by unfold Hid; rw [List.length_drop, HN.out]
  have hi1 : (1 : Int) ≤ (n : Int) := by omega
  have hi2 : (n : Int) ≤ (d : Int) := by omega
  clear hds HP HN
  generalize ws.drop 1 = ts at *
  generalize ws.getD 0 [] = hdw at *
  have HNU := Lib.hid (l01Numbers_any X (n - 1) (d - 1) ts w1 (by omega) hr1 HP1.out)
  go_wp2_with fail
  refine HNU.out.mono ?_
  rintro e w2 ⟨hcase, b2⟩
  have b4 := b1.trans (b2.mono hb1s)
  have hx1 := (b2.cell (hr.lt rfl (by omega))).trans hx0
  rcases hcase with ⟨ha, B2, d2, rfl, hrd, hd2⟩ | ⟨ha, rfl⟩
  case inr =>
    have HB : Hid (cmB s = false) := by unfold Hid; rw [HR.out.2.1, ha]; rfl
    go_wp2_with fail
    go_quiet (fail)
    go_wp2
    refine bodyPost_ret (v := .tuple #[.string ⟨hdw.toArray⟩, .slice none 0 0, .bool false]) (by simp [results, Tryd.results6, go_sem]) rfl ?_
    exact ⟨hdw, none, 0, 0, by rw [HB.out], (fun h => by rw [HB.out] at h; cases h), Below.drewN b4 _⟩
  have HAR := fun W => l32Count_any hdw W
  have HQ : Hid (cmB s = decide (arI hdw = ((n - 1 : Nat) : Int))) := by unfold Hid; rw [HR.out.2.1, ha, HN1.out]; rfl
  have HK : Hid ((ts.map sgN).length = n - 1) := by unfold Hid; rw [List.length_map, HN1.out]
  generalize arI hdw = q at *
  by_cases hq : q = ((n - 1 : Nat) : Int)
  · subst hq
    have HB : Hid (cmB s = true) := by unfold Hid; rw [HQ.out]; simp
    go_wp2_with fail
    go_quiet ((go_at_call 10; exact Calls.quiet_of_same (HAR _)))
    go_wp2
    refine bodyPost_ret (v := .tuple #[.string ⟨hdw.toArray⟩, .slice B2 (n - 1) d2, .bool true]) (by simp [results, Tryd.results6, go_sem]) rfl ?_
    exact ⟨hdw, B2, n - 1, d2, by rw [HB.out], (fun _ => ⟨HR.out.1.symm, hd2, by rw [HR.out.2.2, HK.out], by rw [HR.out.2.2]; exact Rd.drewN hrd _⟩), Below.drewN b4 _⟩
  · have HB : Hid (cmB s = false) := by unfold Hid; rw [HQ.out, decide_eq_false hq]
    have hq2 : ¬ q = (n : Int) - 1 := by omega
    have hq3 : (q == ((n - 1 : Nat) : Int)) = false := by rw [beq_eq_false_iff_ne]; exact hq
    go_wp2_with fail
    go_quiet ((go_at_call 10; exact Calls.quiet_of_same (HAR _)))
    go_wp2
    refine bodyPost_ret (v := .tuple #[.string ⟨hdw.toArray⟩, .slice B2 (n - 1) d2, .bool false]) (by simp [results, Tryd.results6, go_sem] <;> omega) rfl ?_
    exact ⟨hdw, B2, n - 1, d2, by rw [HB.out], (fun h => by rw [HB.out] at h; cases h), Below.drewN b4 _⟩
end Go.Proofs.YtjdhlopdpdhmnaaDoor
