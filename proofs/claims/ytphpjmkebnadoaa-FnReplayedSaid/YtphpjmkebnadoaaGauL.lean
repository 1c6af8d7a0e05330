/- GaugeOfLog, both sides, in the words of the laws. Condition: a list of at most 1048576 records. -/
import Derived.Test.YtphpjmkebnadoaaGauG
import Derived.Test.YtphpjmkebnadoaaRecs
import Derived.Test.YtphpjmkebnadoaaReg
namespace Go.Proofs.Ytphpjmkebnadoaa
open Go.RowKit

set_option maxRecDepth 100000 in
set_option maxHeartbeats 2000000 in
theorem implGauge_any (A : Option Addr) (n c : Nat) (xs : List Int) (w : World) (hn : n ≤ 1048576) (hnc : n ≤ c) (hr : Rd w A (n * 7) (ints xs)) :
    Calls Try.prog 11 #[.slice A n c] w fun e w' => ∃ k : GaugeH, e = .returned (.tuple #[GaugeV k (gaugeR xs n), .int .i64 (gaugeC xs n)]) ∧ GaugeOk k ∧ RdAll w' (GaugeS k (gaugeR xs n)) ∧ WrAll w' w.heap.size (GaugeS k (gaugeR xs n)) ∧ Sep (GaugeR k) ∧ Below w.heap.size w w' := by
  have K0 := Blk.new w 26 #[.slice none 0 0, .slice none 0 0]
  have b0 : Below w.heap.size w (w.alloc (.cells #[.slice none 0 0, .slice none 0 0] 26)) := (Below.refl _ _).alloc (Nat.le_refl _) _
  go_enter Try.func11, Try.ntmps11
  go_upto_region 1 with fail
  generalize w.alloc (.cells #[.slice none 0 0, .slice none 0 0] 26) = w1 at K0 b0 ⊢
  have g0 := K0.lt
  go_wp2_with fail
  refine (isLog_any A n c xs _ (by omega) (hr.below b0)).mono ?_
  rintro e w2 ⟨rfl, b2⟩
  replace K0 := K0.below b2 g0
  replace b0 := b0.trans (b2.mono b0.size)
  replace g0 := K0.lt
  have e0 := fun o => K0.cell o
  have f0 := fun o => K0.frozen o
  clear b2
  rcases Bool.eq_false_or_eq_true (logB xs n) with hlog | hlog
  rotate_left
  · have HP : Hid (gaugeP xs n = [] ∧ gaugeC xs n = 1) := by unfold Hid gaugeP gaugeC; rw [hlog]; exact ⟨rfl, rfl⟩
    go_wp2
    refine bodyPost_ret (v := .tuple #[.agg #[.slice none 0 0, .slice none 0 0], .int .i64 1]) (by simp [results, Try.results11, go_sem, e0]) rfl ⟨⟨⟨none, 0, 0⟩, ⟨none, 0, 0⟩⟩, ?_, ⟨Nat.zero_le _, Nat.zero_le _⟩, ?_, ?_, ?_, ?_⟩
    · rw [HP.out.2]; rfl
    · unfold gaugeR; rw [HP.out.1]; exact RdAll.cons (s := ⟨none, 0, []⟩) (Rd.nil _ _) (RdAll.cons (s := ⟨none, 0, []⟩) (Rd.nil _ _) (RdAll.nil _))
    · exact WrAll.cons (s := ⟨none, 0, _⟩) (fun h => absurd h (Nat.lt_irrefl 0)) (WrAll.cons (s := ⟨none, 0, _⟩) (fun h => absurd h (Nat.lt_irrefl 0)) (WrAll.nil _ _))
    · exact Sep.cons (fun s hs t ht b e => by rw [List.mem_singleton.1 hs] at e; cases e) (Sep.one _)
    · repeat (first | with_reducible exact b0 | refine Below.setCell ?_ (by simp <;> omega) _)
  have hn2 : n ≤ 200 := by
    have : logB xs n = (recsB xs n && decide ((n : Int) ≤ 200)) := rfl
    rw [this, Bool.and_eq_true, decide_eq_true_eq] at hlog
    omega
  have hcon := gaugeOf_any A n c xs w2 hn2 hnc (hr.below b0) hlog
  clear e0 f0
  go_wp2_with fail
  refine hcon.mono ?_
  rintro e w3 ⟨⟨⟨TA, tn, tc⟩, ⟨LA, ln, lc⟩⟩, rfl, ok, R, Y, SP, b3⟩
  replace K0 := K0.below b3 g0
  replace b0 := b0.trans (b3.mono b0.size)
  have e0 := fun o => K0.cell o
  have f0 := fun o => K0.frozen o
  clear hcon hr b3
  unfold GaugeV
  simp only
  go_wp2
  refine bodyPost_ret (v := .tuple #[.agg #[.slice TA tn tc, .slice LA ln lc], .int .i64 (gaugeC xs n)]) (by simp [results, Try.results11, go_sem, e0]) rfl ⟨⟨⟨TA, tn, tc⟩, ⟨LA, ln, lc⟩⟩, rfl, ok, ?_, ?_, SP, ?_⟩
  · exact (R.cell_ (Y.hi.ne g0)).cell_ (Y.hi.ne g0)
  · exact (Y.lower (Nat.le_of_lt g0)).cell_.cell_
  · repeat (first | with_reducible exact b0 | refine Below.setCell ?_ (by simp <;> omega) _)

def gaugeR' (xs : List Int) : GaugeC := gaugeR xs (xs.length / 7)
def gaugeC' (xs : List Int) : Int := gaugeC xs (xs.length / 7)
theorem Rd.len7 {w : World} {A : Option Addr} {n : Nat} {xs : List Int} (h : Rd w A (n * 7) (ints xs)) : xs.length / 7 = n := by rw [h.len]; omega
theorem specGaugeOfLog'_any (h : Hd) (l : List Int) (w : World) (ok : RecsOk h) (hr : RdAll w (RecsS h l)) :
    Calls Try.prog 9 #[RecsV h] w fun e w' => ∃ k : GaugeH, e = .returned (.tuple #[GaugeV k (gaugeR' l), .int .i64 (gaugeC' l)]) ∧ GaugeOk k ∧ RdAll w' (GaugeS k (gaugeR' l)) ∧ WrAll w' w.heap.size (GaugeS k (gaugeR' l)) ∧ Sep (GaugeR k) ∧ Below w.heap.size w w' := by
  obtain ⟨A, n, c⟩ := h
  have r : Rd w A (n * 7) (ints l) := hr.head
  unfold gaugeR' gaugeC'
  rw [r.len7]
  exact specGauge_any A n c l w ok.1 r
theorem implGaugeOfLog'_any (h : Hd) (l : List Int) (w : World) (ok : RecsOk h) (hr : RdAll w (RecsS h l)) :
    Calls Try.prog 11 #[RecsV h] w fun e w' => ∃ k : GaugeH, e = .returned (.tuple #[GaugeV k (gaugeR' l), .int .i64 (gaugeC' l)]) ∧ GaugeOk k ∧ RdAll w' (GaugeS k (gaugeR' l)) ∧ WrAll w' w.heap.size (GaugeS k (gaugeR' l)) ∧ Sep (GaugeR k) ∧ Below w.heap.size w w' := by
  obtain ⟨A, n, c⟩ := h
  have r : Rd w A (n * 7) (ints l) := hr.head
  unfold gaugeR' gaugeC'
  rw [r.len7]
  exact implGauge_any A n c l w ok.1 ok.2 r
end Go.Proofs.Ytphpjmkebnadoaa
