/- The law FnSurvived, walked. No condition beyond what an argument of its type bears. -/
import Derived.Test.YtlgmdekhlcbhoaaDrawG
import Derived.Test.YtlgmdekhlcbhoaaFraO
namespace Go.Proofs.Ytlgmdekhlcbhoaa
open Go.RowKit

set_option maxRecDepth 100000 in
set_option maxHeartbeats 4000000 in
theorem FnSurvived_walk (w : World) (A : Option Addr) (n c : Nat) (zs : List Int) (G : ArgB w A n c zs) :
    Calls Try.prog 8 #[.slice A n c] w fun e w' => e = .returned (.bool true) ∧ Below w.heap.size w w' := by
  have hmx := G.max
  by_cases hb : (4096 : Int) < (n : Int)
  · go_enter Try.func8, Try.ntmps8
    go_wp2_with (go_at_call 34; refine (big_any _ _ _ _ (by omega)).mono ?_; rintro e w' ⟨rfl, rfl⟩)
    go_ret
    exact ⟨rfl, Below.refl _ _⟩
  have hbd : decide ((4096 : Int) < (n : Int)) = false := by simpa using hb
  have hn4 : n ≤ 4096 := by omega
  go_enter Try.func8, Try.ntmps8
  go_wp2_with fail
  refine (big_any _ _ _ _ (by omega)).mono ?_
  rintro e w' ⟨rfl, rfl⟩
  go_wp2_with fail
  refine (drawSurvivesBurst_any A n c zs _ G.rd G.byte hn4).mono ?_
  rintro e w1 ⟨⟨AF, nF, cF⟩, kF, mF, ps, f, s, rfl, hnF, f0, f1, s0, s1, OF, b1⟩
  have RF : Rd w1 AF nF (ints ps) := OF.rd1
  simp only at hnF
  clear hbd hb OF
  simp only [FrameV]
  go_wp2_with fail
  have K := Blk.new w1 28 #[.int .i64 kF, .int .i64 mF, .slice AF nF cF]
  have b2 : Below w1.heap.size w1 (w1.alloc (.cells #[.int .i64 kF, .int .i64 mF, .slice AF nF cF] 28)) := (Below.refl _ _).alloc (Nat.le_refl _) _
  generalize w1.alloc (.cells #[.int .i64 kF, .int .i64 mF, .slice AF nF cF] 28) = w2 at K b2 ⊢
  generalize w1.heap.size = QK at K ⊢
  have RF := RF.below b2
  have b2 := bnext b1 b2
  clear b1
  have qK := K.lt
  have cK := fun o => K.cell o
  go_wp2_with fail
  refine (implSurvivesBurst'_any ⟨⟨AF, nF, cF⟩⟩ ⟨kF, mF, ps⟩ f s _ (show nF ≤ 1048576 by omega) (RdAll.cons (s := ⟨AF, nF, ints ps⟩) RF (RdAll.nil _))).mono ?_
  rintro e w3 ⟨rfl, b3⟩
  have hb := b3
  have K := K.below hb qK
  have qK := K.lt
  have cK := fun o => K.cell o
  clear hb
  have RF := RF.below b3
  have b3 := bnext b2 b3
  clear b2
  go_wp2_with fail
  refine (specSurvivesBurst'_any ⟨⟨AF, nF, cF⟩⟩ ⟨kF, mF, ps⟩ f s _ (show nF ≤ 1048576 by omega) (RdAll.cons (s := ⟨AF, nF, ints ps⟩) RF (RdAll.nil _))).mono ?_
  rintro e w4 ⟨rfl, b4⟩
  have hb := b4
  have K := K.below hb qK
  have qK := K.lt
  have cK := fun o => K.cell o
  clear hb
  have RF := RF.below b4
  have b4 := bnext b3 b4
  clear b3
  have HSB : Hid (sbC ⟨kF, mF, ps⟩ f s = 0 → s ≤ 2 → sbR ⟨kF, mF, ps⟩ f s = true) := sb_two
  generalize sbC ⟨kF, mF, ps⟩ f s = bc at *
  generalize sbR ⟨kF, mF, ps⟩ f s = br at *
  clear K qK cK
  clear RF
  go_wp2_with fail
  refine (drawSendFrame_any A n c zs _ (G.rd.below b4) G.byte hn4).mono ?_
  rintro e w5 ⟨⟨AG, nG, cG⟩, kG, mG, gs, rfl, hnG, OG, b5⟩
  have RG : Rd w5 AG nG (ints gs) := OG.rd1
  have b5 := bnext b4 b5
  clear b4
  simp only at hnG
  clear OG
  simp only [FrameV]
  go_wp2_with fail
  have J := Blk.new w5 28 #[.int .i64 kG, .int .i64 mG, .slice AG nG cG]
  have b6 : Below w5.heap.size w5 (w5.alloc (.cells #[.int .i64 kG, .int .i64 mG, .slice AG nG cG] 28)) := (Below.refl _ _).alloc (Nat.le_refl _) _
  generalize w5.alloc (.cells #[.int .i64 kG, .int .i64 mG, .slice AG nG cG] 28) = w6 at J b6 ⊢
  generalize w5.heap.size = QJ at J ⊢
  have RG := RG.below b6
  have b6 := bnext b5 b6
  clear b5
  have qJ := J.lt
  have cJ := fun o => J.cell o
  go_wp2_with fail
  refine (implSendFrame'_any ⟨⟨AG, nG, cG⟩⟩ ⟨kG, mG, gs⟩ _ (show nG ≤ 1048576 by omega) (RdAll.cons (s := ⟨AG, nG, ints gs⟩) RG (RdAll.nil _))).mono ?_
  rintro e w7 ⟨⟨B1, m1, d1⟩, rfl, hm1, X1, -, -, b7⟩
  have hb := b7
  have J := J.below hb qJ
  have qJ := J.lt
  have cJ := fun o => J.cell o
  clear hb
  have RG := RG.below b7
  have R1 : Rd w7 B1 m1 (ints (sendR ⟨kG, mG, gs⟩)) := X1.head
  have b7 := bnext b6 b7
  clear b6
  clear X1
  simp only [IntsV]
  have hm1 : m1 ≤ 1048576 := hm1
  go_wp2_with fail
  refine (specSendFrame'_any ⟨⟨AG, nG, cG⟩⟩ ⟨kG, mG, gs⟩ _ (show nG ≤ 1048576 by omega) (RdAll.cons (s := ⟨AG, nG, ints gs⟩) RG (RdAll.nil _))).mono ?_
  rintro e w8 ⟨⟨B2, m2, d2⟩, rfl, hm2, X2, -, -, b8⟩
  have hb := b8
  have J := J.below hb qJ
  have qJ := J.lt
  have cJ := fun o => J.cell o
  clear hb
  have RG := RG.below b8
  have R1 := R1.below b8
  have R2 : Rd w8 B2 m2 (ints (sendR ⟨kG, mG, gs⟩)) := X2.head
  have b8 := bnext b7 b8
  clear b7
  clear X2
  simp only [IntsV]
  have hm2 : m2 ≤ 1048576 := hm2
  obtain rfl : m2 = m1 := R2.1.symm.trans R1.1
  have HG : Hid (frOkC ⟨kG, mG, gs⟩ = true → sendR ⟨kG, mG, gs⟩ = sendL (frameC ⟨kG, mG, gs⟩) ∧ sendC ⟨kG, mG, gs⟩ = 0) := fun h => by unfold sendR sendC; rw [if_pos h, if_pos h]; exact ⟨rfl, rfl⟩
  have HH : Hid (frOkC ⟨kG, mG, gs⟩ = false → sendC ⟨kG, mG, gs⟩ = 1) := fun h => by unfold sendC; rw [h]; rfl
  go_upto_region 9 with fail
  go_cut [73] (fun cv wx => cv = .bool false ∧ Below w8.heap.size w8 wx)
  case first =>
    go_wp2_with fail
    refine (likeInts_below _ _ _ _ _ _ _ (by omega) R1 R2).mono ?_
    rintro e wz ⟨rfl, bz⟩
    go_wp2_with fail
    go_meet
    exact ⟨rfl, bz⟩
  case rest =>
    obtain ⟨rfl, bx⟩ := hcut
    have J := J.below bx qJ
    have qJ := J.lt
    have cJ := fun o => J.cell o
    have RG := RG.below bx
    have R1 := R1.below bx
    have bx := bnext b8 bx
    clear b8 R2
    obtain ⟨wx, rfl⟩ : ∃ x : World, x = wc := ⟨_, rfl⟩
    rcases Bool.eq_false_or_eq_true (frOkC ⟨kG, mG, gs⟩) with hc | hc
    case inr =>
      have h1 := HH.out hc
      rw [h1]
      clear HH HG hc h1 R1
      by_cases hs : s ≤ 2
      · by_cases h2 : bc = 0
        · have h3 := HSB.out h2 hs
          subst h2
          subst h3
          clear HSB
          go_wp2
          go_ret
          exact ⟨rfl, bx⟩
        · have g1 : (bc == 0) = false := by simpa using h2
          have g2 : (bc != 0) = true := by simpa using h2
          clear HSB h2
          go_wp2
          go_ret
          exact ⟨rfl, bx⟩
      · have hs2 : (2 : Int) < s := by omega
        have g3 : decide ((2 : Int) < s) = true := decide_eq_true hs2
        clear HSB
        go_wp2
        all_goals
          go_ret
          exact ⟨rfl, bx⟩
    obtain ⟨h0, h1⟩ := HG.out hc
    rw [h1]
    rw [h0] at R1
    clear HG HH h0 h1
    have HRS := Lib.hid (rf_sent hc)
    have HCS := Lib.hid (cw_sent hc)
    have HOK := Lib.hid hc
    obtain ⟨nn, hnn⟩ : ∃ nn, (frameC ⟨kG, mG, gs⟩).length = nn := ⟨_, rfl⟩
    rw [hnn] at HRS
    have HNN := Lib.hid hnn
    clear hc hnn
    go_wp2_with fail
    refine (frameBits0_v AG nG cG kG mG gs nn _ (by omega) (RdAll.cons (s := ⟨AG, nG, ints gs⟩) RG (RdAll.nil _)) HOK.out HNN.out).mono ?_
    rintro e w20 ⟨B3, d3, rfl, -, b3⟩
    have J := J.below b3 qJ
    have qJ := J.lt
    have cJ := fun o => J.cell o
    have RG := RG.below b3
    have R1 := R1.below b3
    have bx := bnext bx b3
    clear b3
    go_wp2_with fail
    refine (implReceiveFrame'_any ⟨B1, m2, d1⟩ (sendL (frameC ⟨kG, mG, gs⟩)) (nn : Int) _ hm1 (RdAll.cons (s := ⟨B1, m2, ints _⟩) R1 (RdAll.nil _))).mono ?_
    rw [HRS.out.1, HRS.out.2]
    rintro e w21 ⟨⟨⟨B4, m4, d4⟩⟩, rfl, hm4, X4, -, -, b4⟩
    have J := J.below b4 qJ
    have qJ := J.lt
    have RG := RG.below b4
    have R1 := R1.below b4
    have R4 : Rd w21 B4 m4 (ints gs) := X4.head
    have bx := bnext bx b4
    obtain rfl : m4 = nG := R4.1.symm.trans RG.1
    have hm4 : m4 ≤ 1048576 := hm4
    clear X4 b4 HRS
    simp only [FrameV]
    have cJ := fun o => J.cell o
    have M := Blk.new w21 28 #[.int .i64 kG, .int .i64 mG, .slice B4 m4 d4]
    have bM : Below w21.heap.size w21 (w21.alloc (.cells #[.int .i64 kG, .int .i64 mG, .slice B4 m4 d4] 28)) := (Below.refl _ _).alloc (Nat.le_refl _) _
    have J2 := J.below bM qJ
    go_wp2_with fail
    generalize w21.alloc (.cells #[.int .i64 kG, .int .i64 mG, .slice B4 m4 d4] 28) = w22 at M bM J2 ⊢
    generalize w21.heap.size = QM at M ⊢
    have J := J2
    have qJ := J.lt
    have cJ := fun o => J.cell o
    have qM := M.lt
    have cM := fun o => M.cell o
    have RG := RG.below bM
    have R1 := R1.below bM
    have R4 := R4.below bM
    have bx := bnext bx bM
    clear bM J2
    refine (implCountWrong'_any ⟨⟨AG, m4, cG⟩⟩ ⟨kG, mG, gs⟩ ⟨B1, m2, d1⟩ (sendL (frameC ⟨kG, mG, gs⟩)) _ (show m4 ≤ 1048576 by omega) (RdAll.cons (s := ⟨AG, m4, ints gs⟩) RG (RdAll.nil _)) hm1 (RdAll.cons (s := ⟨B1, m2, ints _⟩) R1 (RdAll.nil _))).mono ?_
    rw [HCS.out.1, HCS.out.2]
    rintro e w23 ⟨rfl, b5⟩
    have J := J.below b5 qJ
    have qJ := J.lt
    have cJ := fun o => J.cell o
    have M := M.below b5 qM
    have qM := M.lt
    have cM := fun o => M.cell o
    have RG := RG.below b5
    have R4 := R4.below b5
    have bx := bnext bx b5
    clear b5 HCS R1
    go_wp2_with fail
    refine (likeFrames5_v B4 m4 d4 kG mG gs AG cG _ (by omega) R4 RG).mono ?_
    rintro e w24 ⟨rfl, b6⟩
    have bx := bnext bx b6
    clear b6 J M qJ qM cJ cM RG R4 HOK HNN
    by_cases hs : s ≤ 2
    · by_cases h2 : bc = 0
      · have h3 := HSB.out h2 hs
        subst h2
        subst h3
        clear HSB
        go_wp2
        go_ret
        exact ⟨rfl, bx⟩
      · have g1 : (bc == 0) = false := by simpa using h2
        have g2 : (bc != 0) = true := by simpa using h2
        clear HSB h2
        go_wp2
        go_ret
        exact ⟨rfl, bx⟩
    · have hs2 : (2 : Int) < s := by omega
      have g3 : decide ((2 : Int) < s) = true := decide_eq_true hs2
      clear HSB
      go_wp2
      all_goals
        go_ret
        exact ⟨rfl, bx⟩
  
end Go.Proofs.Ytlgmdekhlcbhoaa
