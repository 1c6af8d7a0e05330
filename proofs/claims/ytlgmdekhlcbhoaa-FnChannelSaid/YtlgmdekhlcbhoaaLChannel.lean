/- The law FnChannel, walked. No condition beyond what an argument of its type bears. -/
import Derived.Test.YtlgmdekhlcbhoaaDrawH
import Derived.Test.YtlgmdekhlcbhoaaFraO
import Derived.Test.YtlgmdekhlcbhoaaChImp
namespace Go.Proofs.Ytlgmdekhlcbhoaa
open Go.RowKit

set_option maxRecDepth 100000 in
set_option maxHeartbeats 4000000 in
theorem FnChannel_walk (w : World) (A : Option Addr) (n c : Nat) (zs : List Int) (G : ArgB w A n c zs) :
    Calls Try.prog 9 #[.slice A n c] w fun e w' => e = .returned (.bool true) ∧ Below w.heap.size w w' := by
  have hmx := G.max
  by_cases hb : (4096 : Int) < (n : Int)
  · go_enter Try.func9, Try.ntmps9
    go_wp2_with (go_at_call 34; refine (big_any _ _ _ _ (by omega)).mono ?_; rintro e w' ⟨rfl, rfl⟩)
    go_ret
    exact ⟨rfl, Below.refl _ _⟩
  have hbd : decide ((4096 : Int) < (n : Int)) = false := by simpa using hb
  have hn4 : n ≤ 4096 := by omega
  go_enter Try.func9, Try.ntmps9
  go_wp2_with fail
  refine (big_any _ _ _ _ (by omega)).mono ?_
  rintro e w' ⟨rfl, rfl⟩
  go_wp2_with fail
  refine (drawTransferFrame_any A n c zs _ G.rd G.byte hn4).mono ?_
  rintro e w1 ⟨⟨AF, nF, cF⟩, kF, mF, ps, ⟨AP, nP, cP⟩, pl, rfl, hnF, hnP, OF, OP, bk⟩
  have bx := bk
  clear bk
  have RF : Rd w1 AF nF (ints ps) := OF.rd1
  have RP : Rd w1 AP nP (ints pl) := OP.rd1
  simp only at hnF hnP
  clear hbd hb OF OP
  simp only [FrameV]
  have HLP := Lib.hid RP.len
  obtain ⟨⟨kT, mT, pT⟩, hT⟩ : ∃ fr, tfR ⟨kF, mF, ps⟩ pl = fr := ⟨_, rfl⟩
  obtain ⟨tc, htc⟩ : ∃ x, tfC ⟨kF, mF, ps⟩ pl = x := ⟨_, rfl⟩
  have HT := Lib.hid hT
  have HTC := Lib.hid htc
  clear hT htc
  go_wp2_with fail
  have K := Blk.new w1 28 #[.int .i64 kF, .int .i64 mF, .slice AF nF cF]
  have bk : Below w1.heap.size w1 (w1.alloc (.cells #[.int .i64 kF, .int .i64 mF, .slice AF nF cF] 28)) := (Below.refl _ _).alloc (Nat.le_refl _) _
  generalize w1.alloc (.cells #[.int .i64 kF, .int .i64 mF, .slice AF nF cF] 28) = w2 at K bk ⊢
  generalize w1.heap.size = QK at K ⊢
  have RF := RF.below bk
  have RP := RP.below bk
  have qK := K.lt
  have cK := fun o => K.cell o
  have bx := bnext bx bk
  clear bk
  go_wp2_with fail
  refine (implTransferFrame'_any ⟨⟨AF, nF, cF⟩⟩ ⟨kF, mF, ps⟩ ⟨AP, nP, cP⟩ pl _ (show nF ≤ 1048576 by omega) (RdAll.cons (s := ⟨AF, nF, ints ps⟩) RF (RdAll.nil _)) (show nP ≤ 1048576 by omega) (RdAll.cons (s := ⟨AP, nP, ints pl⟩) RP (RdAll.nil _))).mono ?_
  rw [HT.out, HTC.out]
  rintro e w3 ⟨⟨⟨B1, m1, d1⟩⟩, rfl, hm1, X1, -, -, bk⟩
  have K := K.below bk qK
  have qK := K.lt
  have cK := fun o => K.cell o
  have RF := RF.below bk
  have RP := RP.below bk
  have bx := bnext bx bk
  clear bk
  have R1 : Rd w3 B1 m1 (ints pT) := X1.head
  have hm1 : m1 ≤ 1048576 := hm1
  clear X1
  simp only [FrameV]
  go_wp2_with fail
  have L1 := Blk.new w3 28 #[.int .i64 kT, .int .i64 mT, .slice B1 m1 d1]
  have bk : Below w3.heap.size w3 (w3.alloc (.cells #[.int .i64 kT, .int .i64 mT, .slice B1 m1 d1] 28)) := (Below.refl _ _).alloc (Nat.le_refl _) _
  generalize w3.alloc (.cells #[.int .i64 kT, .int .i64 mT, .slice B1 m1 d1] 28) = w4 at L1 bk ⊢
  generalize w3.heap.size = QL1 at L1 ⊢
  have K := K.below bk qK
  have qK := K.lt
  have cK := fun o => K.cell o
  have RF := RF.below bk
  have RP := RP.below bk
  have R1 := R1.below bk
  have qL1 := L1.lt
  have cL1 := fun o => L1.cell o
  have bx := bnext bx bk
  clear bk
  go_wp2_with fail
  refine (specTransferFrame'_any ⟨⟨AF, nF, cF⟩⟩ ⟨kF, mF, ps⟩ ⟨AP, nP, cP⟩ pl _ (show nF ≤ 1048576 by omega) (RdAll.cons (s := ⟨AF, nF, ints ps⟩) RF (RdAll.nil _)) (show nP ≤ 1048576 by omega) (RdAll.cons (s := ⟨AP, nP, ints pl⟩) RP (RdAll.nil _))).mono ?_
  rw [HT.out, HTC.out]
  rintro e w5 ⟨⟨⟨B2, m2, d2⟩⟩, rfl, hm2, X2, -, -, bk⟩
  have K := K.below bk qK
  have qK := K.lt
  have cK := fun o => K.cell o
  have L1 := L1.below bk qL1
  have qL1 := L1.lt
  have cL1 := fun o => L1.cell o
  have RF := RF.below bk
  have RP := RP.below bk
  have R1 := R1.below bk
  have bx := bnext bx bk
  clear bk
  have R2 : Rd w5 B2 m2 (ints pT) := X2.head
  have hm2 : m2 ≤ 1048576 := hm2
  clear X2
  simp only [FrameV]
  obtain rfl : m2 = m1 := R2.1.symm.trans R1.1
  go_wp2_with fail
  have L2 := Blk.new w5 28 #[.int .i64 kT, .int .i64 mT, .slice B2 m2 d2]
  have bk : Below w5.heap.size w5 (w5.alloc (.cells #[.int .i64 kT, .int .i64 mT, .slice B2 m2 d2] 28)) := (Below.refl _ _).alloc (Nat.le_refl _) _
  generalize w5.alloc (.cells #[.int .i64 kT, .int .i64 mT, .slice B2 m2 d2] 28) = w6 at L2 bk ⊢
  generalize w5.heap.size = QL2 at L2 ⊢
  have K := K.below bk qK
  have qK := K.lt
  have cK := fun o => K.cell o
  have L1 := L1.below bk qL1
  have qL1 := L1.lt
  have cL1 := fun o => L1.cell o
  have RF := RF.below bk
  have RP := RP.below bk
  have R1 := R1.below bk
  have R2 := R2.below bk
  have qL2 := L2.lt
  have cL2 := fun o => L2.cell o
  have bx := bnext bx bk
  clear bk
  clear RP
  go_wp2_with fail
  refine (drawReceiveFrame_any A n c zs _ (G.rd.below bx) G.byte hn4).mono ?_
  rintro e w7 ⟨⟨AR, nR, cR⟩, us, kr, rfl, hnR, k0, k1, OR, bk⟩
  have K := K.below bk qK
  have qK := K.lt
  have cK := fun o => K.cell o
  have L1 := L1.below bk qL1
  have qL1 := L1.lt
  have cL1 := fun o => L1.cell o
  have L2 := L2.below bk qL2
  have qL2 := L2.lt
  have cL2 := fun o => L2.cell o
  have RF := RF.below bk
  have R1 := R1.below bk
  have R2 := R2.below bk
  have bx := bnext bx bk
  clear bk
  have RR : Rd w7 AR nR (ints us) := OR.rd1
  simp only at hnR
  clear OR
  obtain ⟨⟨kU, mU, pU⟩, hU⟩ : ∃ fr, rfR us kr = fr := ⟨_, rfl⟩
  obtain ⟨uc, huc⟩ : ∃ x, rfC us kr = x := ⟨_, rfl⟩
  have HU := Lib.hid hU
  have HUC := Lib.hid huc
  clear hU huc
  go_wp2_with fail
  refine (implReceiveFrame'_any ⟨AR, nR, cR⟩ us kr _ (show nR ≤ 1048576 by omega) (RdAll.cons (s := ⟨AR, nR, ints us⟩) RR (RdAll.nil _))).mono ?_
  rw [HU.out, HUC.out]
  rintro e w8 ⟨⟨⟨B3, m3, d3⟩⟩, rfl, hm3, X3, -, -, bk⟩
  have K := K.below bk qK
  have qK := K.lt
  have cK := fun o => K.cell o
  have L1 := L1.below bk qL1
  have qL1 := L1.lt
  have cL1 := fun o => L1.cell o
  have L2 := L2.below bk qL2
  have qL2 := L2.lt
  have cL2 := fun o => L2.cell o
  have RF := RF.below bk
  have R1 := R1.below bk
  have R2 := R2.below bk
  have RR := RR.below bk
  have bx := bnext bx bk
  clear bk
  have R3 : Rd w8 B3 m3 (ints pU) := X3.head
  have hm3 : m3 ≤ 1048576 := hm3
  clear X3
  simp only [FrameV]
  go_wp2_with fail
  have M3 := Blk.new w8 28 #[.int .i64 kU, .int .i64 mU, .slice B3 m3 d3]
  have bk : Below w8.heap.size w8 (w8.alloc (.cells #[.int .i64 kU, .int .i64 mU, .slice B3 m3 d3] 28)) := (Below.refl _ _).alloc (Nat.le_refl _) _
  generalize w8.alloc (.cells #[.int .i64 kU, .int .i64 mU, .slice B3 m3 d3] 28) = w9 at M3 bk ⊢
  generalize w8.heap.size = QM3 at M3 ⊢
  have K := K.below bk qK
  have qK := K.lt
  have cK := fun o => K.cell o
  have L1 := L1.below bk qL1
  have qL1 := L1.lt
  have cL1 := fun o => L1.cell o
  have L2 := L2.below bk qL2
  have qL2 := L2.lt
  have cL2 := fun o => L2.cell o
  have RF := RF.below bk
  have R1 := R1.below bk
  have R2 := R2.below bk
  have RR := RR.below bk
  have R3 := R3.below bk
  have qM3 := M3.lt
  have cM3 := fun o => M3.cell o
  have bx := bnext bx bk
  clear bk
  go_wp2_with fail
  refine (specReceiveFrame'_any ⟨AR, nR, cR⟩ us kr _ (show nR ≤ 1048576 by omega) (RdAll.cons (s := ⟨AR, nR, ints us⟩) RR (RdAll.nil _))).mono ?_
  rw [HU.out, HUC.out]
  rintro e w10 ⟨⟨⟨B4, m4, d4⟩⟩, rfl, hm4, X4, -, -, bk⟩
  have K := K.below bk qK
  have qK := K.lt
  have cK := fun o => K.cell o
  have L1 := L1.below bk qL1
  have qL1 := L1.lt
  have cL1 := fun o => L1.cell o
  have L2 := L2.below bk qL2
  have qL2 := L2.lt
  have cL2 := fun o => L2.cell o
  have M3 := M3.below bk qM3
  have qM3 := M3.lt
  have cM3 := fun o => M3.cell o
  have RF := RF.below bk
  have R1 := R1.below bk
  have R2 := R2.below bk
  have RR := RR.below bk
  have R3 := R3.below bk
  have bx := bnext bx bk
  clear bk
  have R4 : Rd w10 B4 m4 (ints pU) := X4.head
  have hm4 : m4 ≤ 1048576 := hm4
  clear X4
  simp only [FrameV]
  obtain rfl : m4 = m3 := R4.1.symm.trans R3.1
  go_wp2_with fail
  have M4 := Blk.new w10 28 #[.int .i64 kU, .int .i64 mU, .slice B4 m4 d4]
  have bk : Below w10.heap.size w10 (w10.alloc (.cells #[.int .i64 kU, .int .i64 mU, .slice B4 m4 d4] 28)) := (Below.refl _ _).alloc (Nat.le_refl _) _
  generalize w10.alloc (.cells #[.int .i64 kU, .int .i64 mU, .slice B4 m4 d4] 28) = w11 at M4 bk ⊢
  generalize w10.heap.size = QM4 at M4 ⊢
  have K := K.below bk qK
  have qK := K.lt
  have cK := fun o => K.cell o
  have L1 := L1.below bk qL1
  have qL1 := L1.lt
  have cL1 := fun o => L1.cell o
  have L2 := L2.below bk qL2
  have qL2 := L2.lt
  have cL2 := fun o => L2.cell o
  have M3 := M3.below bk qM3
  have qM3 := M3.lt
  have cM3 := fun o => M3.cell o
  have RF := RF.below bk
  have R1 := R1.below bk
  have R2 := R2.below bk
  have RR := RR.below bk
  have R3 := R3.below bk
  have R4 := R4.below bk
  have qM4 := M4.lt
  have cM4 := fun o => M4.cell o
  have bx := bnext bx bk
  clear bk
  clear RR
  go_wp2_with fail
  refine (drawChannelLength_any A n c zs _ (G.rd.below bx) G.byte hn4).mono ?_
  rintro e w12 ⟨kc, rfl, kc0, kc1, bk⟩
  have K := K.below bk qK
  have qK := K.lt
  have cK := fun o => K.cell o
  have L1 := L1.below bk qL1
  have qL1 := L1.lt
  have cL1 := fun o => L1.cell o
  have L2 := L2.below bk qL2
  have qL2 := L2.lt
  have cL2 := fun o => L2.cell o
  have M3 := M3.below bk qM3
  have qM3 := M3.lt
  have cM3 := fun o => M3.cell o
  have M4 := M4.below bk qM4
  have qM4 := M4.lt
  have cM4 := fun o => M4.cell o
  have RF := RF.below bk
  have R1 := R1.below bk
  have R2 := R2.below bk
  have R3 := R3.below bk
  have R4 := R4.below bk
  have bx := bnext bx bk
  clear bk
  go_wp2_with fail
  refine (implChLen_any kc _).mono ?_
  rintro e w13 ⟨rfl, rfl⟩
  go_wp2_with fail
  refine (specChannelLength_any kc _).mono ?_
  rintro e w13 ⟨rfl, rfl⟩
  generalize chLenR kc = cr at *
  generalize chLenC kc = cc at *
  go_upto_region 12 with fail
  go_cut [103] (fun cv wx => cv = .bool false ∧ Below w12.heap.size w12 wx)
  case first =>
    go_wp2_with fail
    refine (likeFrames5_v B1 m2 d1 kT mT pT B2 d2 _ (by omega) R1 R2).mono ?_
    rintro e wz ⟨rfl, bz⟩
    have M3 := M3.below bz qM3
    have M4 := M4.below bz qM4
    have qM3 := M3.lt
    have qM4 := M4.lt
    have cM3 := fun o => M3.cell o
    have cM4 := fun o => M4.cell o
    have R3 := R3.below bz
    have R4 := R4.below bz
    go_wp2_with fail
    refine (likeFrames5_v B3 m4 d3 kU mU pU B4 d4 _ (by omega) R3 R4).mono ?_
    rintro e wy ⟨rfl, by_⟩
    have bw := bnext bz by_
    go_wp2_with fail
    go_meet
    exact ⟨rfl, bw⟩
  case rest =>
    obtain ⟨rfl, bk⟩ := hcut
    clear M3 qM3 cM3 M4 qM4 cM4 R3 R4 R2 L2 qL2 cL2 hm3 hm4
    have K := K.below bk qK
    have qK := K.lt
    have cK := fun o => K.cell o
    have L1 := L1.below bk qL1
    have qL1 := L1.lt
    have cL1 := fun o => L1.cell o
    have RF := RF.below bk
    have R1 := R1.below bk
    have bx := bnext bx bk
    clear bk
    obtain ⟨wx, rfl⟩ : ∃ x : World, x = wc := ⟨_, rfl⟩
    go_wp2_with fail
    refine (implIsFrame_any ⟨⟨AF, nF, cF⟩⟩ ⟨kF, mF, ps⟩ _ (show nF ≤ 1048576 by omega) (RdAll.cons (s := ⟨AF, nF, ints ps⟩) RF (RdAll.nil _))).mono ?_
    rintro e w40 ⟨rfl, bk⟩
    have K := K.below bk qK
    have qK := K.lt
    have cK := fun o => K.cell o
    have L1 := L1.below bk qL1
    have qL1 := L1.lt
    have cL1 := fun o => L1.cell o
    have RF := RF.below bk
    have R1 := R1.below bk
    have bx := bnext bx bk
    clear bk
    rcases Bool.eq_false_or_eq_true (frOkC ⟨kF, mF, ps⟩) with hc | hc
    case inr =>
      have h1 : tc = 1 := HTC.out.symm.trans (tf_a hc).2
      subst h1
      rw [hc]
      clear hc HTC HT
      go_wp2
      go_ret
      exact ⟨rfl, bx⟩
    have HF2 : Hid (nP < 3 → tc = 2 ∨ (tc = 0 ∧ (⟨kT, mT, pT⟩ : FrameC) = ⟨kF, mF, ps⟩)) := fun h => by
      have h2 := tf_two hc (ps := pl) (by rw [HLP.out]; omega)
      rw [HT.out, HTC.out] at h2
      exact h2
    have HOK := Lib.hid hc
    rw [hc]
    clear hc HT HTC HLP
    go_upto_region 16 with fail
    go_cut [130] (fun cv wx => cv = .bool false ∧ Below w40.heap.size w40 wx)
    case first =>
      by_cases hp : nP < 3
      · have hpI : (nP : Int) < 3 := by omega
        rcases HF2.out hp with h2 | ⟨h2, h3⟩
        · subst h2
          clear HF2 HOK
          go_wp2_with fail
          go_meet
          exact ⟨rfl, Below.refl _ _⟩
        · subst h2
          cases h3
          obtain rfl : m2 = nF := R1.1.symm.trans RF.1
          clear HF2 HOK
          go_wp2_with fail
          refine (likeFrames5_v B1 m2 d1 kF mF ps AF cF _ (by omega) R1 RF).mono ?_
          rintro e wy ⟨rfl, by_⟩
          go_wp2_with fail
          go_meet
          exact ⟨rfl, by_⟩
      · have hpI : ¬ (nP : Int) < 3 := by omega
        have hpd : decide ((nP : Int) < 3) = false := decide_eq_false hpI
        clear HF2 HOK
        rcases Bool.eq_false_or_eq_true (tc == 0) with g0 | g0
        all_goals
          rcases Bool.eq_false_or_eq_true (tc == 6) with g6 | g6
          all_goals
            go_wp2_with fail
            go_meet
            exact ⟨rfl, Below.refl _ _⟩
    case rest =>
      obtain ⟨rfl, bk⟩ := hcut
      clear L1 qL1 cL1 R1 HF2
      have K := K.below bk qK
      have qK := K.lt
      have cK := fun o => K.cell o
      have RF := RF.below bk
      have bx := bnext bx bk
      clear bk
      obtain ⟨wy, rfl⟩ : ∃ x : World, x = wc := ⟨_, rfl⟩
      obtain ⟨nn, hnn⟩ : ∃ nn, (frameC ⟨kF, mF, ps⟩).length = nn := ⟨_, rfl⟩
      have HNN := Lib.hid hnn
      have HSE : Hid (sendR ⟨kF, mF, ps⟩ = sendL (frameC ⟨kF, mF, ps⟩) ∧ sendC ⟨kF, mF, ps⟩ = 0) := by unfold Hid sendR sendC; rw [if_pos HOK.out, if_pos HOK.out]; exact ⟨rfl, rfl⟩
      have hLn := frameL_length kF mF ps (FrO.of HOK.out).len
      have hLn : 48 ≤ nn ∧ nn ≤ 284 := by rw [← hnn]; exact hLn
      have HCR : Hid (chLenR (nn : Int) = ((16 * rowsOf nn : Nat) : Int) ∧ chLenC (nn : Int) = 0) := by
        have hi : inR (nn : Int) 0 300 = true := inR_mk (by omega) (by omega)
        unfold Hid chLenR chLenC
        rw [if_pos hi, if_pos hi, chLen_rows]
        exact ⟨by omega, rfl⟩
      clear hnn
      go_wp2_with fail
      refine (implSendFrame'_any ⟨⟨AF, nF, cF⟩⟩ ⟨kF, mF, ps⟩ _ (show nF ≤ 1048576 by omega) (RdAll.cons (s := ⟨AF, nF, ints ps⟩) RF (RdAll.nil _))).mono ?_
      rw [HSE.out.1, HSE.out.2]
      rintro e w41 ⟨⟨BS, mS, dS⟩, rfl, -, XS, -, -, bk⟩
      have hmS : mS = 16 * rowsOf nn := by have h := XS.head.len; rw [sendL_length, HNN.out] at h; exact h.symm
      clear XS HSE
      simp only [IntsV]
      have K := K.below bk qK
      have qK := K.lt
      have cK := fun o => K.cell o
      have RF := RF.below bk
      have bx := bnext bx bk
      clear bk
      go_wp2_with fail
      refine (frameBits0_v AF nF cF kF mF ps nn _ (by omega) (RdAll.cons (s := ⟨AF, nF, ints ps⟩) RF (RdAll.nil _)) HOK.out HNN.out).mono ?_
      rintro e w42 ⟨BB, dB, rfl, -, bk⟩
      have bx := bnext bx bk
      clear bk
      clear K qK cK RF HOK HNN
      go_wp2_with fail
      refine (implChLen_any (nn : Int) _).mono ?_
      rw [HCR.out.1, HCR.out.2, ← hmS]
      rintro e w43 ⟨rfl, rfl⟩
      clear hmS HCR
      go_wp2
      go_ret
      exact ⟨rfl, bx⟩
end Go.Proofs.Ytlgmdekhlcbhoaa
