/- Whether three numbers are a direction: impl.IsDirection and spec.IsDirection compute the same. No condition. -/
import Derived.Test.YtphpjmkebnadoaaDir
import Derived.Deep.Cut
namespace Go.Proofs.Ytphpjmkebnadoaa
open Go.RowKit

def dirS (c s h : Int) : Bool := inR h 1 1000 && (inR c 1 h && (inR s (-h) h && (!decide (s = 0) && (decide (c * c + s * s = h * h) && decide (((Int.gcd (Int.gcd c s : Int) h : Nat) : Int) = 1)))))
theorem sq_le {c h : Int} (h0 : 0 ≤ h) (hc : c * c ≤ h * h) : c ≤ h := by
  by_cases k : c ≤ h
  · exact k
  · exfalso
    have e : (h + 1) * (h + 1) ≤ c * c := Int.mul_le_mul (by omega) (by omega) (by omega) (by omega)
    rw [Int.add_mul, Int.mul_add] at e
    omega
theorem dirS_eq (c s h : Int) : dirS c s h = dirB c s h := by
  rw [Bool.eq_iff_iff]
  unfold dirS dirB inR
  simp only [Bool.and_eq_true, decide_eq_true_eq, Bool.not_eq_true', decide_eq_false_iff_not]
  constructor
  · rintro ⟨⟨a1, a2⟩, ⟨b1, b2⟩, ⟨c1, c2⟩, d, e, f⟩
    exact ⟨⟨a1, a2⟩, ⟨b1, by omega⟩, ⟨by omega, by omega⟩, d, e, f⟩
  · rintro ⟨⟨a1, a2⟩, ⟨b1, b2⟩, ⟨c1, c2⟩, d, e, f⟩
    have p1 : 0 ≤ c * c := Int.mul_nonneg (by omega) (by omega)
    have p2 : 0 ≤ s * s := by
      by_cases k : 0 ≤ s
      · exact Int.mul_nonneg k k
      · rw [← Int.neg_mul_neg]; exact Int.mul_nonneg (by omega) (by omega)
    have q1 : c ≤ h := sq_le (by omega) (by omega)
    have q2 : s ≤ h := sq_le (by omega) (by omega)
    have q3 : -s ≤ h := sq_le (by omega) (by rw [Int.neg_mul_neg]; omega)
    exact ⟨⟨a1, a2⟩, ⟨b1, q1⟩, ⟨by omega, q2⟩, d, e, f⟩
theorem sq_bd {x : Int} (h1 : -1000 ≤ x) (h2 : x ≤ 1000) : 0 ≤ x * x ∧ x * x ≤ 1000000 := by
  have key : ∀ y : Int, 0 ≤ y → y ≤ 1000 → 0 ≤ y * y ∧ y * y ≤ 1000000 := fun y a b => ⟨Int.mul_nonneg a a, Int.mul_le_mul b b a (by decide)⟩
  by_cases k : 0 ≤ x
  · exact key x k h2
  · have := key (-x) (by omega) (by omega)
    rw [Int.neg_mul_neg] at this
    exact this

set_option maxRecDepth 100000 in
set_option maxHeartbeats 4000000 in
theorem implIsDirection_any (c s h : Int) (w : World) :
    Calls Try.prog 71 #[.agg #[.int .i64 c, .int .i64 s, .int .i64 h]] w fun e w' => e = .returned (.bool (dirB c s h)) ∧ Below w.heap.size w w' := by
  have K0 := Blk.new w 54 #[.int .i64 c, .int .i64 s, .int .i64 h]
  have b0 : Below w.heap.size w (w.alloc (.cells #[.int .i64 c, .int .i64 s, .int .i64 h] 54)) := (Below.refl _ _).alloc (Nat.le_refl _) _
  have HB : Hid (dirB c s h = dirB c s h) := rfl
  go_enter Try.func71, Try.ntmps71
  go_upto_region 1 with fail
  generalize w.alloc (.cells #[.int .i64 c, .int .i64 s, .int .i64 h] 54) = w1 at K0 b0 ⊢
  have e0 := fun o => K0.cell o
  have g0 := K0.lt
  have e00 := e0 0
  have e01 := e0 1
  have e02 := e0 2
  simp at e00 e01 e02
  clear e0
  rcases Bool.eq_false_or_eq_true (inR h 1 1000) with r0 | r0
  rotate_left
  · skip
    have W0 : ∀ w : World, Calls Try.prog 53 #[.int .i64 h, .int .i64 1, .int .i64 1000] w fun e w' => e = .returned (.bool false) ∧ w = w' := fun w => by rw [← r0]; exact within_any _ _ _ _
    have HV : Hid (dirB c s h = false) := by rw [HB.out]; unfold Hid dirB; simp [r0]
    clear HB
    go_wp2_with fail
    go_quiet ((first | (with_reducible exact q_none (W0 _)) | (with_reducible exact q_none (W1 _)) | (with_reducible exact q_none (W2 _)) | (go_at_call 100; exact q_drew (gcd_any _ _ _ (by assumption) (by assumption)))))
    go_wp2
    go_ret
    exact ⟨ret_bool (by rw [HV.out]; done), Below.drewN b0 _⟩
  have W0 : ∀ w : World, Calls Try.prog 53 #[.int .i64 h, .int .i64 1, .int .i64 1000] w fun e w' => e = .returned (.bool true) ∧ w = w' := fun w => by rw [← r0]; exact within_any _ _ _ _
  rcases Bool.eq_false_or_eq_true (inR c 1 1000) with r1 | r1
  rotate_left
  · skip
    have W1 : ∀ w : World, Calls Try.prog 53 #[.int .i64 c, .int .i64 1, .int .i64 1000] w fun e w' => e = .returned (.bool false) ∧ w = w' := fun w => by rw [← r1]; exact within_any _ _ _ _
    have HV : Hid (dirB c s h = false) := by rw [HB.out]; unfold Hid dirB; simp [r0, r1]
    clear HB
    go_wp2_with fail
    go_quiet ((first | (with_reducible exact q_none (W0 _)) | (with_reducible exact q_none (W1 _)) | (with_reducible exact q_none (W2 _)) | (go_at_call 100; exact q_drew (gcd_any _ _ _ (by assumption) (by assumption)))))
    go_wp2
    go_ret
    exact ⟨ret_bool (by rw [HV.out]; done), Below.drewN b0 _⟩
  have W1 : ∀ w : World, Calls Try.prog 53 #[.int .i64 c, .int .i64 1, .int .i64 1000] w fun e w' => e = .returned (.bool true) ∧ w = w' := fun w => by rw [← r1]; exact within_any _ _ _ _
  rcases Bool.eq_false_or_eq_true (inR s (-1000) 1000) with r2 | r2
  rotate_left
  · skip
    have W2 : ∀ w : World, Calls Try.prog 53 #[.int .i64 s, .int .i64 (-1000), .int .i64 1000] w fun e w' => e = .returned (.bool false) ∧ w = w' := fun w => by rw [← r2]; exact within_any _ _ _ _
    have HV : Hid (dirB c s h = false) := by rw [HB.out]; unfold Hid dirB; simp [r0, r1, r2]
    clear HB
    go_wp2_with fail
    go_quiet ((first | (with_reducible exact q_none (W0 _)) | (with_reducible exact q_none (W1 _)) | (with_reducible exact q_none (W2 _)) | (go_at_call 100; exact q_drew (gcd_any _ _ _ (by assumption) (by assumption)))))
    go_wp2
    go_ret
    exact ⟨ret_bool (by rw [HV.out]; done), Below.drewN b0 _⟩
  have W2 : ∀ w : World, Calls Try.prog 53 #[.int .i64 s, .int .i64 (-1000), .int .i64 1000] w fun e w' => e = .returned (.bool true) ∧ w = w' := fun w => by rw [← r2]; exact within_any _ _ _ _
  have b1 := inR_true r0
  have b2 := inR_true r1
  have b3 := inR_true r2
  by_cases s0 : s = 0
  · subst s0
    clear b1 b2 b3
    have HV : Hid (dirB c 0 h = false) := by rw [HB.out]; unfold Hid dirB; simp
    clear HB
    go_wp2_with fail
    go_quiet ((first | (with_reducible exact q_none (W0 _)) | (with_reducible exact q_none (W1 _)) | (with_reducible exact q_none (W2 _)) | (go_at_call 100; exact q_drew (gcd_any _ _ _ (by assumption) (by assumption)))))
    go_wp2
    go_ret
    exact ⟨ret_bool (by rw [HV.out]; done), Below.drewN b0 _⟩
  have d0 : decide (s = 0) = false := by simpa using s0
  have qc := sq_bd (x := c) (by omega) (by omega)
  have qs := sq_bd (x := s) (by omega) (by omega)
  have qh := sq_bd (x := h) (by omega) (by omega)
  have w1 : IntKind.i64.wrap (c * c) = c * c := IntWalk.i64_in _ (by omega)
  have w2 : IntKind.i64.wrap (s * s) = s * s := IntWalk.i64_in _ (by omega)
  have w3 : IntKind.i64.wrap (c * c + s * s) = c * c + s * s := IntWalk.i64_in _ (by omega)
  have w4 : IntKind.i64.wrap (h * h) = h * h := IntWalk.i64_in _ (by omega)
  have nc : c.natAbs ≤ 1000000 := by omega
  have ns : s.natAbs ≤ 1000000 := by omega
  have nh : h.natAbs ≤ 1000000 := by omega
  have ng : ((Int.gcd c s : Nat) : Int).natAbs ≤ 1000000 := by have := gcd_le nc ns; omega
  clear b1 b2 b3 qc qs qh
  by_cases py : c * c + s * s = h * h
  rotate_left
  · have d1 : decide (c * c + s * s = h * h) = false := by simpa using py
    have HV : Hid (dirB c s h = false) := by rw [HB.out]; unfold Hid dirB; simp [r0, r1, r2, s0, py]
    clear HB
    go_wp2_with fail
    go_quiet ((first | (with_reducible exact q_none (W0 _)) | (with_reducible exact q_none (W1 _)) | (with_reducible exact q_none (W2 _)) | (go_at_call 100; exact q_drew (gcd_any _ _ _ (by assumption) (by assumption)))))
    go_wp2
    go_ret
    exact ⟨ret_bool (by rw [HV.out]; done), Below.drewN b0 _⟩
  have d1 : decide (c * c + s * s = h * h) = true := by simpa using py
  have HV : Hid (dirB c s h = decide (((Int.gcd (Int.gcd c s : Int) h : Nat) : Int) = 1)) := by rw [HB.out]; unfold Hid dirB; simp [r0, r1, r2, s0, py]
  clear HB
  go_wp2_with fail
  go_quiet ((first | (with_reducible exact q_none (W0 _)) | (with_reducible exact q_none (W1 _)) | (with_reducible exact q_none (W2 _)) | (go_at_call 100; exact q_drew (gcd_any _ _ _ (by assumption) (by assumption)))))
  go_wp2
  go_ret
  exact ⟨ret_bool (by rw [HV.out, Bool.eq_iff_iff]; simp [s0]), Below.drewN b0 _⟩

set_option maxRecDepth 100000 in
set_option maxHeartbeats 4000000 in
theorem specIsDirection_any (c s h : Int) (w : World) :
    Calls Try.prog 96 #[.agg #[.int .i64 c, .int .i64 s, .int .i64 h]] w fun e w' => e = .returned (.bool (dirB c s h)) ∧ Below w.heap.size w w' := by
  have K0 := Blk.new w 54 #[.int .i64 c, .int .i64 s, .int .i64 h]
  have b0 : Below w.heap.size w (w.alloc (.cells #[.int .i64 c, .int .i64 s, .int .i64 h] 54)) := (Below.refl _ _).alloc (Nat.le_refl _) _
  have HB : Hid (dirB c s h = dirS c s h) := (dirS_eq _ _ _).symm
  go_enter Try.func96, Try.ntmps96
  go_upto_region 1 with fail
  generalize w.alloc (.cells #[.int .i64 c, .int .i64 s, .int .i64 h] 54) = w1 at K0 b0 ⊢
  have e0 := fun o => K0.cell o
  have g0 := K0.lt
  have e00 := e0 0
  have e01 := e0 1
  have e02 := e0 2
  simp at e00 e01 e02
  clear e0
  rcases Bool.eq_false_or_eq_true (inR h 1 1000) with r0 | r0
  rotate_left
  · skip
    have W0 : ∀ w : World, Calls Try.prog 97 #[.int .i64 h, .int .i64 1, .int .i64 1000] w fun e w' => e = .returned (.bool false) ∧ w = w' := fun w => by rw [← r0]; exact l01In_any _ _ _ _
    have HV : Hid (dirB c s h = false) := by rw [HB.out]; unfold Hid dirS; simp [r0]
    clear HB
    go_wp2_with fail
    go_quiet ((first | (with_reducible exact q_none (W0 _)) | (with_reducible exact q_none (W1 _)) | (with_reducible exact q_none (W2 _)) | (go_at_call 112; exact q_drew (divisor_any _ _ _ (by assumption) (by assumption)))))
    go_wp2
    go_ret
    exact ⟨ret_bool (by rw [HV.out]; done), Below.drewN b0 _⟩
  have W0 : ∀ w : World, Calls Try.prog 97 #[.int .i64 h, .int .i64 1, .int .i64 1000] w fun e w' => e = .returned (.bool true) ∧ w = w' := fun w => by rw [← r0]; exact l01In_any _ _ _ _
  have wn : IntKind.i64.wrap (-h) = -h := IntWalk.i64_in _ (by have := inR_true r0; omega)
  rcases Bool.eq_false_or_eq_true (inR c 1 h) with r1 | r1
  rotate_left
  · skip
    have W1 : ∀ w : World, Calls Try.prog 97 #[.int .i64 c, .int .i64 1, .int .i64 h] w fun e w' => e = .returned (.bool false) ∧ w = w' := fun w => by rw [← r1]; exact l01In_any _ _ _ _
    have HV : Hid (dirB c s h = false) := by rw [HB.out]; unfold Hid dirS; simp [r0, r1]
    clear HB
    go_wp2_with fail
    go_quiet ((first | (with_reducible exact q_none (W0 _)) | (with_reducible exact q_none (W1 _)) | (with_reducible exact q_none (W2 _)) | (go_at_call 112; exact q_drew (divisor_any _ _ _ (by assumption) (by assumption)))))
    go_wp2
    go_ret
    exact ⟨ret_bool (by rw [HV.out]; done), Below.drewN b0 _⟩
  have W1 : ∀ w : World, Calls Try.prog 97 #[.int .i64 c, .int .i64 1, .int .i64 h] w fun e w' => e = .returned (.bool true) ∧ w = w' := fun w => by rw [← r1]; exact l01In_any _ _ _ _
  rcases Bool.eq_false_or_eq_true (inR s (-h) h) with r2 | r2
  rotate_left
  · skip
    have W2 : ∀ w : World, Calls Try.prog 97 #[.int .i64 s, .int .i64 (-h), .int .i64 h] w fun e w' => e = .returned (.bool false) ∧ w = w' := fun w => by rw [← r2]; exact l01In_any _ _ _ _
    have HV : Hid (dirB c s h = false) := by rw [HB.out]; unfold Hid dirS; simp [r0, r1, r2]
    clear HB
    go_wp2_with fail
    go_quiet ((first | (with_reducible exact q_none (W0 _)) | (with_reducible exact q_none (W1 _)) | (with_reducible exact q_none (W2 _)) | (go_at_call 112; exact q_drew (divisor_any _ _ _ (by assumption) (by assumption)))))
    go_wp2
    go_ret
    exact ⟨ret_bool (by rw [HV.out]; done), Below.drewN b0 _⟩
  have W2 : ∀ w : World, Calls Try.prog 97 #[.int .i64 s, .int .i64 (-h), .int .i64 h] w fun e w' => e = .returned (.bool true) ∧ w = w' := fun w => by rw [← r2]; exact l01In_any _ _ _ _
  have b1 := inR_true r0
  have b2 := inR_true r1
  have b3 := inR_true r2
  by_cases s0 : s = 0
  · subst s0
    clear b1 b2 b3
    have HV : Hid (dirB c 0 h = false) := by rw [HB.out]; unfold Hid dirS; simp
    clear HB
    go_wp2_with fail
    go_quiet ((first | (with_reducible exact q_none (W0 _)) | (with_reducible exact q_none (W1 _)) | (with_reducible exact q_none (W2 _)) | (go_at_call 112; exact q_drew (divisor_any _ _ _ (by assumption) (by assumption)))))
    go_wp2
    go_ret
    exact ⟨ret_bool (by rw [HV.out]; done), Below.drewN b0 _⟩
  have d0 : decide (s = 0) = false := by simpa using s0
  have qc := sq_bd (x := c) (by omega) (by omega)
  have qs := sq_bd (x := s) (by omega) (by omega)
  have qh := sq_bd (x := h) (by omega) (by omega)
  have w1 : IntKind.i64.wrap (c * c) = c * c := IntWalk.i64_in _ (by omega)
  have w2 : IntKind.i64.wrap (s * s) = s * s := IntWalk.i64_in _ (by omega)
  have w3 : IntKind.i64.wrap (c * c + s * s) = c * c + s * s := IntWalk.i64_in _ (by omega)
  have w4 : IntKind.i64.wrap (h * h) = h * h := IntWalk.i64_in _ (by omega)
  have nc : c.natAbs ≤ 1000000 := by omega
  have ns : s.natAbs ≤ 1000000 := by omega
  have nh : h.natAbs ≤ 1000000 := by omega
  have ng : ((Int.gcd c s : Nat) : Int).natAbs ≤ 1000000 := by have := gcd_le nc ns; omega
  clear b1 b2 b3 qc qs qh
  by_cases py : c * c + s * s = h * h
  rotate_left
  · have d1 : decide (c * c + s * s = h * h) = false := by simpa using py
    have HV : Hid (dirB c s h = false) := by rw [HB.out]; unfold Hid dirS; simp [r0, r1, r2, s0, py]
    clear HB
    go_wp2_with fail
    go_quiet ((first | (with_reducible exact q_none (W0 _)) | (with_reducible exact q_none (W1 _)) | (with_reducible exact q_none (W2 _)) | (go_at_call 112; exact q_drew (divisor_any _ _ _ (by assumption) (by assumption)))))
    go_wp2
    go_ret
    exact ⟨ret_bool (by rw [HV.out]; done), Below.drewN b0 _⟩
  have d1 : decide (c * c + s * s = h * h) = true := by simpa using py
  have HV : Hid (dirB c s h = decide (((Int.gcd (Int.gcd c s : Int) h : Nat) : Int) = 1)) := by rw [HB.out]; unfold Hid dirS; simp [r0, r1, r2, s0, py]
  clear HB
  go_wp2_with fail
  go_quiet ((first | (with_reducible exact q_none (W0 _)) | (with_reducible exact q_none (W1 _)) | (with_reducible exact q_none (W2 _)) | (go_at_call 112; exact q_drew (divisor_any _ _ _ (by assumption) (by assumption)))))
  go_wp2
  go_ret
  exact ⟨ret_bool (by rw [HV.out, Bool.eq_iff_iff]; simp [s0]), Below.drewN b0 _⟩

end Go.Proofs.Ytphpjmkebnadoaa
