/- The statements' copy of a bench and its size. Condition: lengths of at most 1048576 where memory is made. -/
import Derived.Test.YtphpjmkebnadoaaTBench
namespace Go.Proofs.Ytphpjmkebnadoaa
open Go.RowKit

set_option maxRecDepth 100000 in
set_option maxHeartbeats 2000000 in
theorem toBench_any (h : BenchH) (l : BenchC) (w : World) (ok : BenchOk h) (hr : RdAll w (BenchS h l)) :
    Calls Try.prog 36 #[BenchV h l] w fun e w' => ∃ k, e = .returned (BenchV k l) ∧ BenchOk k ∧ RdAll w' (BenchS k l) ∧ WrAll w' w.heap.size (BenchS k l) ∧ Sep (BenchR k) ∧ Below w.heap.size w w' := by
  obtain ⟨ok0, ok1, ok6⟩ := ok
  have r0 := hr.head
  have r1 := hr.tail.head
  have r6 := hr.tail.tail.head
  obtain ⟨⟨A0, n0, c0⟩, ⟨A1, n1, c1⟩, ⟨A6, n6, c6⟩⟩ := h
  obtain ⟨l0, l1, x2, x3, x4, x5, l6⟩ := l
  clear hr
  unfold BenchV
  simp only at *
  have BP := ((Blk.new w 64 #[.slice A0 n0 c0, .slice A1 n1 c1, .int .i64 x2, .int .i64 x3, .int .i64 x4, .int .i64 x5, .slice A6 n6 c6]).alloc (.cells #[.slice none 0 0, .slice none 0 0, .int .i64 0, .int .i64 0, .int .i64 0, .int .i64 0, .slice none 0 0] 56)).alloc (.cells #[.slice none 0 0, .slice none 0 0, .int .i64 0, .int .i64 0, .int .i64 0, .int .i64 0, .slice none 0 0] 56)
  have BV := (Blk.new1 w (.cells #[.slice A0 n0 c0, .slice A1 n1 c1, .int .i64 x2, .int .i64 x3, .int .i64 x4, .int .i64 x5, .slice A6 n6 c6] 64) 56 #[.slice none 0 0, .slice none 0 0, .int .i64 0, .int .i64 0, .int .i64 0, .int .i64 0, .slice none 0 0]).alloc (.cells #[.slice none 0 0, .slice none 0 0, .int .i64 0, .int .i64 0, .int .i64 0, .int .i64 0, .slice none 0 0] 56)
  have BO := Blk.new2 w (.cells #[.slice A0 n0 c0, .slice A1 n1 c1, .int .i64 x2, .int .i64 x3, .int .i64 x4, .int .i64 x5, .slice A6 n6 c6] 64) (.cells #[.slice none 0 0, .slice none 0 0, .int .i64 0, .int .i64 0, .int .i64 0, .int .i64 0, .slice none 0 0] 56) 56 #[.slice none 0 0, .slice none 0 0, .int .i64 0, .int .i64 0, .int .i64 0, .int .i64 0, .slice none 0 0]
  have b0 : Below w.heap.size w (((w.alloc (.cells #[.slice A0 n0 c0, .slice A1 n1 c1, .int .i64 x2, .int .i64 x3, .int .i64 x4, .int .i64 x5, .slice A6 n6 c6] 64)).alloc (.cells #[.slice none 0 0, .slice none 0 0, .int .i64 0, .int .i64 0, .int .i64 0, .int .i64 0, .slice none 0 0] 56)).alloc (.cells #[.slice none 0 0, .slice none 0 0, .int .i64 0, .int .i64 0, .int .i64 0, .int .i64 0, .slice none 0 0] 56)) := (by (repeat (first | (with_reducible assumption) | (with_reducible exact Below.refl _ _) | (with_reducible refine Below.drew ?_) | (with_reducible refine Below.drewN ?_ _) | (with_reducible refine Below.setCell ?_ ?_ _) | (with_reducible refine Below.alloc ?_ ?_ _) | assumption)); all_goals (first | omega | (simp; done) | (simp; omega)))
  go_enter Try.func36, Try.ntmps36
  go_upto_region 2 with fail
  generalize ((w.alloc (.cells #[.slice A0 n0 c0, .slice A1 n1 c1, .int .i64 x2, .int .i64 x3, .int .i64 x4, .int .i64 x5, .slice A6 n6 c6] 64)).alloc (.cells #[.slice none 0 0, .slice none 0 0, .int .i64 0, .int .i64 0, .int .i64 0, .int .i64 0, .slice none 0 0] 56)).alloc (.cells #[.slice none 0 0, .slice none 0 0, .int .i64 0, .int .i64 0, .int .i64 0, .int .i64 0, .slice none 0 0] 56) = w1 at BP BV BO b0 ⊢
  have g1 := b0.size
  have sz1 := BO.lt
  have eP := fun o => BP.cell o
  go_wp2_with fail
  refine (toProfile_any ⟨⟨A0, n0, c0⟩, ⟨A1, n1, c1⟩⟩ ⟨l0, l1⟩ _ ⟨ok0, ok1⟩ (RdAll.cons (s := ⟨A0, n0, ints l0⟩) (r0.below b0) (RdAll.cons (s := ⟨A1, n1, ints l1⟩) (r1.below b0) (RdAll.nil _)))).mono ?_
  rintro e w2 ⟨⟨⟨B0, m0, d0⟩, ⟨B1, m1, d1⟩⟩, rfl, ⟨k0, k1⟩, R2, W2, S2, b2⟩
  unfold ProfileV
  simp only
  replace BP := BP.below b2 (by omega)
  replace BV := BV.below b2 (by omega)
  replace BO := BO.below b2 (by omega)
  replace b0 := b0.trans (b2.mono b0.size)
  have sz2 := b2.size
  replace eP := fun o => BP.cell o
  have eO := fun o => BO.cell o
  have fO := fun o => BO.frozen o
  have s0 : Rd w2 B0 m0 (ints l0) := R2.head
  have s1 : Rd w2 B1 m1 (ints l1) := R2.tail.head
  have y0 : Wr w2 w1.heap.size B0 m0 := W2.head
  have y1 : Wr w2 w1.heap.size B1 m1 := W2.tail.head
  have so : Off [blkp B0 m0] [blkp B1 m1] := S2.off
  clear R2 W2 S2
  have ab2 := Above.refl w1.heap.size w2
  go_wp2_with fail
  replace BP := ((BP.far (p := ⟨w.heap.size + 1 + 1, 0, none⟩) (by simp; omega) (.slice B0 m0 d0)).far (p := ⟨w.heap.size + 1 + 1, 1, none⟩) (by simp; omega) (.slice B1 m1 d1)).far (p := ⟨w.heap.size + 1 + 1, 2, none⟩) (by simp; omega) (.int .i64 x2)
  replace BV := ((BV.far (p := ⟨w.heap.size + 1 + 1, 0, none⟩) (by simp) (.slice B0 m0 d0)).far (p := ⟨w.heap.size + 1 + 1, 1, none⟩) (by simp) (.slice B1 m1 d1)).far (p := ⟨w.heap.size + 1 + 1, 2, none⟩) (by simp) (.int .i64 x2)
  have BO2 : Blk (((w2.setCell ⟨w.heap.size + 1 + 1, 0, none⟩ (.slice B0 m0 d0)).setCell ⟨w.heap.size + 1 + 1, 1, none⟩ (.slice B1 m1 d1)).setCell ⟨w.heap.size + 1 + 1, 2, none⟩ (.int .i64 x2)) (w.heap.size + 1 + 1) 56 #[.slice B0 m0 d0, .slice B1 m1 d1, .int .i64 x2, .int .i64 0, .int .i64 0, .int .i64 0, .slice none 0 0] := ((BO.set_ 0 _).set_ 1 _).set_ 2 _
  replace ab2 := ((ab2.setCell (p := ⟨w.heap.size + 1 + 1, 0, none⟩) (by simp; omega) (.slice B0 m0 d0)).setCell (p := ⟨w.heap.size + 1 + 1, 1, none⟩) (by simp; omega) (.slice B1 m1 d1)).setCell (p := ⟨w.heap.size + 1 + 1, 2, none⟩) (by simp; omega) (.int .i64 x2)
  replace b0 := ((b0.setCell (p := ⟨w.heap.size + 1 + 1, 0, none⟩) (by simp; omega) (.slice B0 m0 d0)).setCell (p := ⟨w.heap.size + 1 + 1, 1, none⟩) (by simp; omega) (.slice B1 m1 d1)).setCell (p := ⟨w.heap.size + 1 + 1, 2, none⟩) (by simp; omega) (.int .i64 x2)
  have sz3 : w2.heap.size ≤ (((w2.setCell ⟨w.heap.size + 1 + 1, 0, none⟩ (.slice B0 m0 d0)).setCell ⟨w.heap.size + 1 + 1, 1, none⟩ (.slice B1 m1 d1)).setCell ⟨w.heap.size + 1 + 1, 2, none⟩ (.int .i64 x2)).heap.size := ab2.size
  clear BO
  generalize ((w2.setCell ⟨w.heap.size + 1 + 1, 0, none⟩ (.slice B0 m0 d0)).setCell ⟨w.heap.size + 1 + 1, 1, none⟩ (.slice B1 m1 d1)).setCell ⟨w.heap.size + 1 + 1, 2, none⟩ (.int .i64 x2) = w3 at BP BV BO2 ab2 b0 sz3 ⊢
  refine (toDirection_bel x3 x4 x5 _).mono ?_
  rintro e w4 ⟨rfl, b4⟩
  replace BP := BP.below b4 (by omega)
  replace BV := BV.below b4 (by omega)
  replace BO2 := BO2.below b4 (by omega)
  replace b0 := b0.trans (b4.mono b0.size)
  replace ab2 := ab2.below b4
  have sz4 := b4.size
  clear b4
  replace eP := fun o => BP.cell o
  replace eO := fun o => BO2.cell o
  replace fO := fun o => BO2.frozen o
  go_wp2_with fail
  replace BV := ((BV.far (p := ⟨w.heap.size + 1 + 1, 3, none⟩) (by simp) (.int .i64 x3)).far (p := ⟨w.heap.size + 1 + 1, 4, none⟩) (by simp) (.int .i64 x4)).far (p := ⟨w.heap.size + 1 + 1, 5, none⟩) (by simp) (.int .i64 x5)
  have BO3 : Blk (((w4.setCell ⟨w.heap.size + 1 + 1, 3, none⟩ (.int .i64 x3)).setCell ⟨w.heap.size + 1 + 1, 4, none⟩ (.int .i64 x4)).setCell ⟨w.heap.size + 1 + 1, 5, none⟩ (.int .i64 x5)) (w.heap.size + 1 + 1) 56 #[.slice B0 m0 d0, .slice B1 m1 d1, .int .i64 x2, .int .i64 x3, .int .i64 x4, .int .i64 x5, .slice none 0 0] := ((BO2.set_ 3 _).set_ 4 _).set_ 5 _
  replace ab2 := ((ab2.setCell (p := ⟨w.heap.size + 1 + 1, 3, none⟩) (by simp; omega) (.int .i64 x3)).setCell (p := ⟨w.heap.size + 1 + 1, 4, none⟩) (by simp; omega) (.int .i64 x4)).setCell (p := ⟨w.heap.size + 1 + 1, 5, none⟩) (by simp; omega) (.int .i64 x5)
  replace b0 := ((b0.setCell (p := ⟨w.heap.size + 1 + 1, 3, none⟩) (by simp; omega) (.int .i64 x3)).setCell (p := ⟨w.heap.size + 1 + 1, 4, none⟩) (by simp; omega) (.int .i64 x4)).setCell (p := ⟨w.heap.size + 1 + 1, 5, none⟩) (by simp; omega) (.int .i64 x5)
  have sz5 : w2.heap.size ≤ (((w4.setCell ⟨w.heap.size + 1 + 1, 3, none⟩ (.int .i64 x3)).setCell ⟨w.heap.size + 1 + 1, 4, none⟩ (.int .i64 x4)).setCell ⟨w.heap.size + 1 + 1, 5, none⟩ (.int .i64 x5)).heap.size := ab2.size
  clear BO2 BP eP eO fO
  generalize ((w4.setCell ⟨w.heap.size + 1 + 1, 3, none⟩ (.int .i64 x3)).setCell ⟨w.heap.size + 1 + 1, 4, none⟩ (.int .i64 x4)).setCell ⟨w.heap.size + 1 + 1, 5, none⟩ (.int .i64 x5) = w5 at BV BO3 ab2 b0 sz5 ⊢
  have lo0 := s0.rowlt
  have lo1 := s1.rowlt
  have b05 := b0
  refine (toRecordS_any A6 n6 c6 l6 _ ok6 (r6.below b05)).mono ?_
  rintro e w6 ⟨rfl, s6, y6, b6, z6⟩
  replace BV := BV.below b6 (by omega)
  replace BO3 := BO3.below b6 (by omega)
  replace b0 := b0.trans (b6.mono b0.size)
  replace ab2 := ab2.below b6
  have sz6 := b6.size
  clear b6
  have hi6 : ∀ b, blkp _ (n6 * 7) = some b → w5.heap.size ≤ b := fun b => y6.blockp
  have lo6 := s6.rowlt
  generalize (some (⟨w5.heap.size, 0, none⟩ : Addr)) = B6 at s6 y6 hi6 lo6 ⊢
  have eO := fun o => BO3.cell o
  have fO := fun o => BO3.frozen o
  have eV := fun o => BV.cell o
  have fV := fun o => BV.frozen o
  go_wp2
  refine bodyPost_ret (v := .agg #[.slice B0 m0 d0, .slice B1 m1 d1, .int .i64 x2, .int .i64 x3, .int .i64 x4, .int .i64 x5, .slice B6 n6 n6]) (by simp [results, Try.results36, go_sem, eV]) rfl ⟨⟨⟨B0, m0, d0⟩, ⟨B1, m1, d1⟩, ⟨B6, n6, n6⟩⟩, rfl, ⟨k0, k1, ok6⟩, ?_, ?_, ?_, ?_⟩
  all_goals clear eO fO eV fV BV BO3
  · have a0 := s0.above (B := w1.heap.size) y0 (Nat.le_refl _) ab2
    have a1 := s1.above (B := w1.heap.size) y1 (Nat.le_refl _) ab2
    have u0 := y0.above (B := w1.heap.size) s0 (Nat.le_refl _) ab2
    have u1 := y1.above (B := w1.heap.size) s1 (Nat.le_refl _) ab2
    show RdAll _ [⟨B0, m0, ints l0⟩, ⟨B1, m1, ints l1⟩, ⟨B6, n6 * 7, ints l6⟩]
    refine RdAll.cons (s := ⟨B0, m0, ints l0⟩) (a0.above (B := w1.heap.size) u0 (Nat.le_refl _) ?_) (RdAll.cons (s := ⟨B1, m1, ints l1⟩) (a1.above (B := w1.heap.size) u1 (Nat.le_refl _) ?_) (RdAll.cons (s := ⟨B6, n6 * 7, ints l6⟩) (s6.above (B := w1.heap.size) y6 (by omega) ?_) (RdAll.nil _)))
    all_goals repeat (first | refine Above.setCell ?_ (by simp; omega) _ | exact Above.refl _ _)
  · have a0 := s0.above (B := w1.heap.size) y0 (Nat.le_refl _) ab2
    have a1 := s1.above (B := w1.heap.size) y1 (Nat.le_refl _) ab2
    have u0 := y0.above (B := w1.heap.size) s0 (Nat.le_refl _) ab2
    have u1 := y1.above (B := w1.heap.size) s1 (Nat.le_refl _) ab2
    show WrAll _ _ [⟨B0, m0, ints l0⟩, ⟨B1, m1, ints l1⟩, ⟨B6, n6 * 7, ints l6⟩]
    refine WrAll.cons (s := ⟨B0, m0, ints l0⟩) ((u0.above (B := w1.heap.size) a0 (Nat.le_refl _) ?_).lower (by omega)) (WrAll.cons (s := ⟨B1, m1, ints l1⟩) ((u1.above (B := w1.heap.size) a1 (Nat.le_refl _) ?_).lower (by omega)) (WrAll.cons (s := ⟨B6, n6 * 7, ints l6⟩) ((y6.above (B := w1.heap.size) s6 (by omega) ?_).lower (by omega)) (WrAll.nil _ _)))
    all_goals repeat (first | refine Above.setCell ?_ (by simp; omega) _ | exact Above.refl _ _)
  · show Sep [blkp B0 m0, blkp B1 m1, blkp B6 (n6 * 7)]
    refine Sep.cons (fun s hs t ht b e => ?_) (Sep.step (B := w2.heap.size) lo1 (Hi.cons (fun b e => by have := hi6 b e; omega) (Hi.nil _)) (Sep.one _))
    rcases List.mem_cons.1 hs with rfl | hs
    · rcases List.mem_cons.1 ht with rfl | ht
      · exact so _ (List.mem_cons_self ..) _ (List.mem_cons_self ..) b e
      · rcases List.mem_cons.1 ht with rfl | ht
        · intro c
          have := hi6 b c
          have := lo0 b e
          omega
        · cases ht
    · cases hs
  · repeat (first | with_reducible exact b0 | refine Below.setCell ?_ (by simp <;> omega) _)

set_option maxRecDepth 100000 in
set_option maxHeartbeats 2000000 in
theorem szBench_any (h : BenchH) (l : BenchC) (q : Int) (w : World) (hm : h.depths.n ≤ 9223372036854775807 ∧ h.speeds.n ≤ 9223372036854775807 ∧ h.log.n ≤ 9223372036854775807) (h0 : 0 ≤ q) (hq : q ≤ 1048576) :
    Calls Try.prog 34 #[BenchV h l, .int .i64 q] w fun e w' => ∃ v : Int, e = .returned (.int .i64 v) ∧ (v < 0 ∨ 0 ≤ v ∧ v ≤ q ∧ BenchOk h) ∧ Below w.heap.size w w' := by
  obtain ⟨hm0, hm1, hm6⟩ := hm
  obtain ⟨⟨A0, n0, c0⟩, ⟨A1, n1, c1⟩, ⟨A6, n6, c6⟩⟩ := h
  obtain ⟨l0, l1, x2, x3, x4, x5, l6⟩ := l
  unfold BenchV
  simp only at *
  have K0 := Blk.new w 64 #[.slice A0 n0 c0, .slice A1 n1 c1, .int .i64 x2, .int .i64 x3, .int .i64 x4, .int .i64 x5, .slice A6 n6 c6]
  have b0 : Below w.heap.size w (w.alloc (.cells #[.slice A0 n0 c0, .slice A1 n1 c1, .int .i64 x2, .int .i64 x3, .int .i64 x4, .int .i64 x5, .slice A6 n6 c6] 64)) := (Below.refl _ _).alloc (Nat.le_refl _) _
  go_enter Try.func34, Try.ntmps34
  go_upto_region 1 with fail
  generalize w.alloc (.cells #[.slice A0 n0 c0, .slice A1 n1 c1, .int .i64 x2, .int .i64 x3, .int .i64 x4, .int .i64 x5, .slice A6 n6 c6] 64) = w1 at K0 b0 ⊢
  have e0 := fun o => K0.cell o
  have g0 := K0.lt
  go_wp2_with fail
  refine (szProfile_any ⟨⟨A0, n0, c0⟩, ⟨A1, n1, c1⟩⟩ ⟨l0, l1⟩ q _ ⟨hm0, hm1⟩ h0 hq).mono ?_
  rintro e w2 ⟨v, rfl, hv, b2⟩
  replace K0 := K0.below b2 g0
  replace b0 := b0.trans (b2.mono b0.size)
  replace e0 := fun o => K0.cell o
  replace g0 := K0.lt
  clear b2
  by_cases kv : v < 0
  · go_wp2
    go_ret
    exact ⟨-1, rfl, .inl (by decide), b0⟩
  · have ⟨v0, v1, vo⟩ : 0 ≤ v ∧ v ≤ q ∧ ProfileOk ⟨⟨A0, n0, c0⟩, ⟨A1, n1, c1⟩⟩ := by rcases hv with h | h; exact absurd h kv; exact h
    clear hv
    by_cases k6 : v < (n6 : Int)
    · have HS := Lib.hid (szRecordS_any A6 n6 c6 v w2 hm6 v0 (by omega))
      rw [if_pos k6] at HS
      go_wp2_with fail
      refine HS.out.mono ?_
      rintro e w' ⟨rfl, rfl⟩
      clear HS
      go_wp2
      go_ret
      exact ⟨-1, rfl, .inl (by decide), b0⟩
    · have HS := Lib.hid (szRecordS_any A6 n6 c6 v w2 hm6 v0 (by omega))
      rw [if_neg k6] at HS
      go_wp2_with fail
      refine HS.out.mono ?_
      rintro e w' ⟨rfl, rfl⟩
      clear HS
      have p1 : ¬ v - (n6 : Int) < 0 := by omega
      go_wp2
      go_ret
      exact ⟨_, rfl, .inr ⟨by omega, by omega, vo.1, vo.2, by show n6 ≤ 1048576; omega⟩, b0⟩
end Go.Proofs.Ytphpjmkebnadoaa
