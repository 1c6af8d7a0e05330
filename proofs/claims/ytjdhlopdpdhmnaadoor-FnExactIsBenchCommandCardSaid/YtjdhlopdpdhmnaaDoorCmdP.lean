/- Lines of the console, read as commands: the program's side. Conditions: a length; the library's variables are as they are laid. -/
import Derived.Test.YtjdhlopdpdhmnaaDoorCmdB
import Derived.Deep.QuietTactic
import Derived.BigQuiet
namespace Go.Proofs.YtjdhlopdpdhmnaaDoor
open Go.RowKit

theorem benchNumber_sg (s : Bs) (w : World) (hs : s.length ≤ 1048576) (T : LibW w) :
    Calls Tryd.prog 12 #[.string ⟨s.toArray⟩] w fun e w' => ∃ m : Int, e = .returned (.tuple #[.int .i64 m, .bool (sgB s)]) ∧ (sgB s = true → m = sgN s) ∧ Below w.heap.size w w' := by
  refine (benchNumber_any s w hs T).mono ?_
  rintro e w' ⟨m, h, hm, b⟩
  have k := bn_sg s
  rw [k.1] at h
  exact ⟨m, h, (fun e => by rw [← k.1] at e; rw [hm e, k.2 e]), b⟩
theorem cm_prof' {s : Bs} {ws : List Bs} (hw : splitC 32 s = ws) (h : ws.getD 0 [] = [112, 114, 111, 102, 105, 108, 101]) : cmH s = [112, 114, 111, 102, 105, 108, 101] ∧ cmB s = (decide (ws.length = 2) && !(ws.getD 1 []).isEmpty) ∧ cmN s = [] := by
  subst hw
  exact ⟨h, (cmB_prof h).1, (cmB_prof h).2⟩
theorem cm_other' {s : Bs} {ws : List Bs} (hw : splitC 32 s = ws) (h : ¬ ws.getD 0 [] = [112, 114, 111, 102, 105, 108, 101]) : cmH s = ws.getD 0 [] ∧ cmB s = (sgAll (ws.drop 1) && decide (arI (ws.getD 0 []) = ((ws.drop 1).length : Int))) ∧ cmN s = (ws.drop 1).map sgN := by
  subst hw
  exact ⟨rfl, (cmB_other h).1, (cmB_other h).2⟩
def CmdR (s : Bs) (w : World) (e : Ending) (w' : World) : Prop := ∃ (u : Bs) (A : Option Addr) (n c : Nat), e = .returned (.tuple #[.string ⟨u.toArray⟩, .slice A n c, .bool (cmB s)]) ∧ (cmB s = true → u = cmH s ∧ n ≤ c ∧ n = (cmN s).length ∧ Rd w' A n (ints (cmN s))) ∧ Below w.heap.size w w'
theorem rd_tail1 {w : World} {A X : Option Addr} {n c : Nat} {us : List Value} (r : Rd w A n us) (hn : 1 ≤ n) (hc : n ≤ c) (hX : (if c = 1 then A else A.map (fun x => ⟨x.block, x.off + 1, none⟩)) = X) : Rd w X (n - 1) (us.drop 1) := by
  subst hX
  have hl := r.1
  refine ⟨by simp; omega, fun hn => ?_⟩
  obtain ⟨ad, rfl, hc⟩ := r.2 (by omega)
  refine ⟨ad.add 1, by rw [if_neg (by omega)]; rfl, fun i hi => ?_⟩
  rw [add_of_add, hc _ (by omega), List.getElem?_drop]

set_option maxRecDepth 100000 in
set_option maxHeartbeats 2000000 in
theorem implParse_any (s : Bs) (w : World) (hs : s.length ≤ 1048576) (T : LibW w) :
    Calls Tryd.prog 7 #[.string ⟨s.toArray⟩] w (CmdR s w) := by
  have hsp := split_any s 32 w hs T
  have hlen := splitC_len 32 s
  have hpc := splitC_piece 32 s
  have hne := splitC_ne 32 s
  obtain ⟨ws, hw⟩ : ∃ ws, splitC 32 s = ws := ⟨_, rfl⟩
  have HCP := Lib.hid (@cm_prof' s ws hw)
  have HCO := Lib.hid (@cm_other' s ws hw)
  rw [hw] at hsp hlen hpc hne
  clear hw
  obtain ⟨n, hn⟩ : ∃ n, ws.length = n := ⟨_, rfl⟩
  have hn1 : 1 ≤ n := by
    rcases ws with _ | ⟨a, r⟩
    · exact absurd rfl hne
    · rw [← hn]; simp
  rw [hn] at hsp hlen
  have HP := Lib.hid hpc
  have HN := Lib.hid hn
  clear hpc hn hne
  have hn1I : (0 : Int) < (n : Int) := by omega
  go_enter Tryd.func7, Tryd.ntmps7
  go_wp2_with fail
  refine hsp.mono ?_
  rintro e w1 ⟨rfl, hr, b1⟩
  have T1 := T.below b1
  have hb1s := b1.size
  clear hsp
  obtain ⟨g0, hg⟩ : ∃ g, w.heap.size = g := ⟨_, rfl⟩
  rw [hg] at hr b1 hb1s ⊢
  have HG := Lib.hid hg
  clear hg
  obtain ⟨ad0, hA0, hx0⟩ := hr.str (k := 0) (by omega)
  cases hA0
  rw [add_lit] at hx0
  by_cases hp : ws.getD 0 [] = [112, 114, 111, 102, 105, 108, 101]
  · have HR := Lib.hid (HCP.out hp)
    clear HCP HCO
    rw [hp] at hx0
    clear hp
    by_cases h2 : n = 2
    · subst h2
      obtain ⟨ad1, hA1, hx1⟩ := hr.str (k := 1) (by omega)
      cases hA1
      rw [add_lit] at hx1
      by_cases hE : ws.getD 1 [] = []
      · have HB : Hid (cmB s = false) := by unfold Hid; rw [HR.out.2.1, hE]; simp
        rw [hE] at hx1
        clear hE
        go_wp2_with fail
        go_quiet (fail)
        go_wp2
        refine bodyPost_ret (v := .tuple #[.string ⟨#[112, 114, 111, 102, 105, 108, 101]⟩, .slice none 0 0, .bool false]) (by simp [results, Tryd.results7, go_sem]) rfl ?_
        exact ⟨[112, 114, 111, 102, 105, 108, 101], none, 0, 0, by rw [HB.out], (fun h => by rw [HB.out] at h; cases h), by rw [HG.out]; exact Below.drewN b1 _⟩
      · have HB : Hid (cmB s = true) := by unfold Hid; rw [HR.out.2.1, HN.out]; simpa using hE
        have hE2 : (ws.getD 1 []).isEmpty = false := by simpa using hE
        generalize ws.getD 1 [] = x at *
        go_wp2_with fail
        go_quiet (fail)
        go_wp2
        refine bodyPost_ret (v := .tuple #[.string ⟨#[112, 114, 111, 102, 105, 108, 101]⟩, .slice none 0 0, .bool true]) (by simp [results, Tryd.results7, go_sem]) rfl ?_
        exact ⟨[112, 114, 111, 102, 105, 108, 101], none, 0, 0, by rw [HB.out], (fun _ => ⟨HR.out.1.symm, Nat.le_refl _, by rw [HR.out.2.2]; rfl, by rw [HR.out.2.2]; exact Rd.nil _ _⟩), by rw [HG.out]; exact Below.drewN b1 _⟩
    · have HB : Hid (cmB s = false) := by unfold Hid; rw [HR.out.2.1, HN.out, decide_eq_false h2]; rfl
      have h2I : ¬ (n : Int) = 2 := by omega
      have h2b : ((n : Int) == 2) = false := by rw [beq_eq_false_iff_ne]; exact h2I
      have h2d : decide ((n : Int) = 2) = false := decide_eq_false h2I
      go_wp2_with fail
      go_quiet (fail)
      go_wp2
      refine bodyPost_ret (v := .tuple #[.string ⟨#[112, 114, 111, 102, 105, 108, 101]⟩, .slice none 0 0, .bool false]) (by simp [results, Tryd.results7, go_sem]) rfl ?_
      exact ⟨[112, 114, 111, 102, 105, 108, 101], none, 0, 0, by rw [HB.out], (fun h => by rw [HB.out] at h; cases h), by rw [HG.out]; exact Below.drewN b1 _⟩
  have HR := Lib.hid (HCO.out hp)
  have hpB : (ws.getD 0 [] == [112, 114, 111, 102, 105, 108, 101]) = false := by simpa using hp
  clear HCP HCO
  obtain ⟨X, hX⟩ : ∃ X, (if n = 1 then some (⟨g0, 0, none⟩ : Addr) else (some (⟨g0, 0, none⟩ : Addr)).map (fun x => ⟨x.block, x.off + 1, none⟩)) = X := ⟨_, rfl⟩
  have hr1 := rd_tail1 hr hn1 (Nat.le_refl _) hX
  simp only [Option.map] at hX
  have HP1 : Hid (∀ x ∈ ws.drop 1, x.length ≤ s.length) := fun x hx => HP.out x (List.mem_of_mem_drop hx)
  have hds : (strs ws).drop 1 = strs (ws.drop 1) := by unfold strs; rw [List.map_drop]
  rw [hds] at hr1
  have HN1 : Hid ((ws.drop 1).length = n - 1) := by unfold Hid; rw [List.length_drop, HN.out]
  have hgl : g0 < w1.heap.size := hr.lt rfl (by omega)
  clear hds HP HN hr
  generalize ws.drop 1 = ts at *
  generalize ws.getD 0 [] = hdw at *
  have hi1 : (1 : Int) ≤ (n : Int) := by omega
  have hnI : ((n - 1 : Nat) : Int) = (n : Int) - 1 := by omega
  go_wp2_with fail
  go_loopw [6, 32] (fun v i wr => ∃ k : Nat, k ≤ n - 1 ∧ i = .int .i64 k ∧ sgAll (ts.take k) = true ∧ wr.ownsRow w1.heap.size 2 1 v k (ints ((ts.take k).map sgN)) ∧ Below w1.heap.size w1 wr) (fun _ i _ => n - (intOf i).toNat)
  case atStart => exact ⟨0, Nat.zero_le _, rfl, rfl, World.ownsRow_nil _ _ _ _, Below.refl _ _⟩
  case round =>
    obtain ⟨k, hk, rfl, ha, hown, b⟩ := hrel
    have hbs := b.size
    by_cases hlt : k < n - 1
    · have hltI : (k : Int) < ((n - 1 : Nat) : Int) := by omega
      have hk0 : (0 : Int) ≤ (k : Int) := by omega
      obtain ⟨ad, rfl, hx⟩ := (hr1.below b).str hlt
      have hkl : k < ts.length := by have := HN1.out; omega
      have hge : ts.getD k [] = ts[k] := by rw [List.getD_eq_getElem?_getD, List.getElem?_eq_getElem hkl]; rfl
      have hm := HP1.out (ts.getD k []) (by rw [hge]; exact List.getElem_mem hkl)
      have HA : Hid (sgAll (ts.take (k + 1)) = sgB (ts.getD k [])) := by
        unfold Hid sgAll at *
        rw [List.take_succ_eq_append_getElem hkl, List.all_append, ha, hge]
        simp
      have HM : Hid ((ts.take (k + 1)).map sgN = (ts.take k).map sgN ++ [sgN (ts.getD k [])]) := by
        unfold Hid
        rw [List.take_succ_eq_append_getElem hkl, List.map_append, hge]
        rfl
      have HF : Hid (sgB (ts.getD k []) = false → sgAll ts = false) := fun h => by
        unfold sgAll
        rw [Bool.eq_false_iff]; intro c
        have := List.all_eq_true.1 c _ (List.getElem_mem hkl)
        rw [← hge, h] at this
        cases this
      clear hge ha
      generalize ts.getD k [] = x at *
      have hv := benchNumber_sg x wr (by omega) (T1.below b)
      go_wp2_with fail
      refine hv.mono ?_
      rintro e w2 ⟨m, rfl, hmm, b2⟩
      have b3 := b.trans (b2.mono hbs)
      have hbs2 := b3.size
      have hown1 := own_below hown b2
      clear hown
      rcases Bool.eq_false_or_eq_true (sgB x) with hb | hb
      · have hm3 := hmm hb
        have HA2 : Hid (sgAll (ts.take (k + 1)) = true) := by unfold Hid; rw [HA.out, hb]
        rw [hb]
        clear hmm hb hv
        go_wp2_with (at_builtin; refine wpList_append_int1 rfl _ _ rfl w1.heap.size _ k ((ts.take k).map sgN) rfl rfl hown1 (by omega) hbs2 ?_; intro v' w' hown' hbel' _ _)
        go_roundw
        case rel => exact ⟨k + 1, by omega, by go_num, HA2.out, by rw [HM.out]; exact hown', b3.trans hbel'⟩
        case measure => simp [intOf]; omega
      · have HF2 := Lib.hid (HF.out hb)
        have HB : Hid (cmB s = false) := by unfold Hid; rw [HR.out.2.1, HF2.out]; rfl
        rw [hb]
        clear hmm hb hv
        go_wp2
        refine bodyPost_ret (v := .tuple #[.string ⟨#[]⟩, .slice none 0 0, .bool false]) (by simp [results, Tryd.results7, go_sem]) rfl ?_
        exact ⟨[], none, 0, 0, by rw [HB.out], (fun h => by rw [HB.out] at h; cases h), by rw [HG.out]; exact b1.trans (b3.mono hb1s)⟩
    · obtain rfl : k = n - 1 := by omega
      have ht : ts.take (n - 1) = ts := List.take_of_length_le (by have := HN1.out; omega)
      rw [ht] at ha hown
      obtain ⟨B, d, rfl, hrd, -, hd, -⟩ := own_rd hown
      have hx1 := (b.cell (p := ⟨g0, 0, none⟩) hgl).trans hx0
      have HAR := fun W => arity_any hdw W
      have HQ : Hid (cmB s = decide (arI hdw = ((n - 1 : Nat) : Int))) := by unfold Hid; rw [HR.out.2.1, ha, HN1.out]; rfl
      have HK : Hid ((ts.map sgN).length = n - 1) := by unfold Hid; rw [List.length_map, HN1.out]
      have b4 := b1.trans (b.mono hb1s)
      generalize arI hdw = q at *
      by_cases hq : q = ((n - 1 : Nat) : Int)
      · subst hq
        have HB : Hid (cmB s = true) := by unfold Hid; rw [HQ.out]; simp
        go_wp2_with fail
        go_quiet ((go_at_call 13; exact Calls.quiet_of_same (HAR _)))
        go_wp2
        refine bodyPost_ret (v := .tuple #[.string ⟨hdw.toArray⟩, .slice B (n - 1) d, .bool true]) (by simp [results, Tryd.results7, go_sem]) rfl ?_
        exact ⟨hdw, B, n - 1, d, by rw [HB.out], (fun _ => ⟨HR.out.1.symm, hd, by rw [HR.out.2.2, HK.out], by rw [HR.out.2.2]; exact Rd.drewN hrd _⟩), by rw [HG.out]; exact Below.drewN b4 _⟩
      · have HB : Hid (cmB s = false) := by unfold Hid; rw [HQ.out, decide_eq_false hq]
        have hq2 : ¬ ((n - 1 : Nat) : Int) = q := fun h => hq h.symm
        have hq4 : ¬ (n : Int) - 1 = q := fun h => hq2 (by omega)
        have hq3 : (((n - 1 : Nat) : Int) == q) = false := by rw [beq_eq_false_iff_ne]; exact hq2
        go_wp2_with fail
        go_quiet ((go_at_call 13; exact Calls.quiet_of_same (HAR _)))
        go_wp2
        refine bodyPost_ret (v := .tuple #[.string ⟨hdw.toArray⟩, .slice B (n - 1) d, .bool false]) (by simp [results, Tryd.results7, go_sem] <;> omega) rfl ?_
        exact ⟨hdw, B, n - 1, d, by rw [HB.out], (fun h => by rw [HB.out] at h; cases h), by rw [HG.out]; exact Below.drewN b4 _⟩
end Go.Proofs.YtjdhlopdpdhmnaaDoor
