/- Known cells of a mosaic, counted: the program's side. Condition: lists of at most 1048576 numbers. -/
import Derived.Test.YtilieonalmihaaaDoorMosD
namespace Go.Proofs.YtilieonalmihaaaDoor
open Go.RowKit

def ckU (gs : List Int) : Nat → Nat
  | 0 => 0
  | n + 1 => ckU gs n + if 0 < gs.getD n 0 then 1 else 0
theorem ckU_le (gs : List Int) : ∀ n, ckU gs n ≤ n
  | 0 => Nat.le_refl _
  | n + 1 => by
    have := ckU_le gs n
    unfold ckU
    split <;> omega
def ckN (l : MosaicC) : Int := if mosOk l = true then (ckU l.grades l.grades.length : Int) else 0
def ckC (l : MosaicC) : Int := if mosOk l = true then 0 else 1
theorem ck_yes {l : MosaicC} (h : mosOk l = true) : ckN l = (ckU l.grades l.grades.length : Int) ∧ ckC l = 0 := by unfold ckN ckC; simp [h]
theorem ck_no {l : MosaicC} (h : mosOk l = false) : ckN l = 0 ∧ ckC l = 1 := by unfold ckN ckC; simp [h]
set_option maxRecDepth 100000 in
set_option maxHeartbeats 2000000 in
theorem implCountKnown_any (h : MosaicH) (l : MosaicC) (w : World) (ok : MosaicOk h) (hr : RdAll w (MosaicS h l)) :
    Calls Tryd.prog 15 #[MosaicV h l] w fun e w' => e = .returned (.tuple #[.int .i64 (ckN l), .int .i64 (ckC l)]) ∧ Below w.heap.size w w' := by
  have HIS := fun (W : World) (b : Below w.heap.size w W) => implIsMosaic_any h l W ok (hr.below b)
  have r3 := hr.tail.head
  obtain ⟨ok2, ok3⟩ := ok
  unfold MosaicV at HIS ⊢
  have HY := Lib.hid (@ck_yes l)
  have HN := Lib.hid (@ck_no l)
  obtain ⟨⟨A2, n2, c2⟩, ⟨A3, n3, c3⟩⟩ := h
  clear hr
  simp only at HIS r3 ok2 ok3 ⊢
  have e3 : l.grades.length = n3 := r3.len
  rw [e3] at HY
  have HL := Lib.hid (ckU_le l.grades)
  have K0 := Blk.new w 26 #[.int .i64 l.wide, .int .i64 l.high, .slice A2 n2 c2, .slice A3 n3 c3]
  have b0 : Below w.heap.size w (w.alloc (.cells #[.int .i64 l.wide, .int .i64 l.high, .slice A2 n2 c2, .slice A3 n3 c3] 26)) := (Below.refl _ _).alloc (Nat.le_refl _) _
  go_enter Tryd.func15, Tryd.ntmps15
  go_wp2_with fail
  generalize w.alloc (.cells #[.int .i64 l.wide, .int .i64 l.high, .slice A2 n2 c2, .slice A3 n3 c3] 26) = w1 at *
  have gb := K0.lt
  refine (HIS _ b0).mono ?_
  rintro e w2 ⟨rfl, b⟩
  replace K0 := K0.below b gb
  replace b0 := b0.trans (b.mono b0.size)
  clear b gb HIS
  have c0 := fun o => K0.cell o
  have gb := K0.lt
  have r4 := r3.below b0
  rcases Bool.eq_false_or_eq_true (mosOk l) with o0 | o0
  case inr =>
    have HM := Lib.hid (HN.out o0)
    rw [o0]
    clear o0
    go_wp2
    refine bodyPost_ret (v := .tuple #[.int .i64 0, .int .i64 1]) (by simp [results, Tryd.results15, go_sem]) rfl ?_
    rw [HM.out.1, HM.out.2]
    exact ⟨rfl, b0⟩
  have HM := Lib.hid (HY.out o0)
  rw [o0]
  clear o0
  go_wp2_with fail
  go_loop [4, 13] (fun v i => ∃ k : Nat, k ≤ n3 ∧ i = .int .i64 k ∧ v = .int .i64 (ckU l.grades k : Int)) (fun _ i => n3 - (intOf i).toNat)
  case atStart => exact ⟨0, Nat.zero_le _, rfl, rfl⟩
  case round =>
    obtain ⟨k, hk, rfl, rfl⟩ := hrel
    by_cases hlt : k < n3
    · have hltI : (k : Int) < (n3 : Int) := by omega
      have hk0 : (0 : Int) ≤ (k : Int) := by omega
      obtain ⟨ad, rfl, hx⟩ := r4.int hlt
      have hl := HL.out k
      have HS : Hid (ckU l.grades (k + 1) = ckU l.grades k + if 0 < l.grades.getD k 0 then 1 else 0) := rfl
      generalize l.grades.getD k 0 = x at *
      generalize ckU l.grades k = c at *
      have u9 : IntKind.i64.wrap ((c : Int) + 1) = (c : Int) + 1 := IntWalk.i64_in _ (by omega)
      by_cases hp : 0 < x
      · go_wp2_with fail
        go_round
        case rel => exact ⟨k + 1, by omega, by go_num, by rw [HS.out, if_pos hp]; exact congrArg (Value.int .i64) (by omega)⟩
        case measure => simp [intOf]; omega
      · go_wp2_with fail
        go_round
        case rel => exact ⟨k + 1, by omega, by go_num, by rw [HS.out, if_neg hp]; exact congrArg (Value.int .i64) (by omega)⟩
        case measure => simp [intOf]; omega
    · obtain rfl : k = n3 := by omega
      go_wp2
      refine bodyPost_ret (v := .tuple #[.int .i64 (ckU l.grades k : Int), .int .i64 0]) (by simp [results, Tryd.results15, go_sem]) rfl ?_
      rw [HM.out.1, HM.out.2]
      exact ⟨rfl, b0⟩
end Go.Proofs.YtilieonalmihaaaDoor
