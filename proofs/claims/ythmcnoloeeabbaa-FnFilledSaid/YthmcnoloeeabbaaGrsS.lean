/- spec.GridSoundings. Condition: a list of at most 1048576 soundings. -/
import Derived.Test.YthmcnoloeeabbaaGrsT
import Derived.StillTailTactics
import Derived.Deep.RegionHeld3
namespace Go.Proofs.Ythmcnoloeeabbaa
open Go.RowKit

set_option maxRecDepth 100000 in
set_option maxHeartbeats 4000000 in
theorem specGrids_any (s wd hg : Int) (LA : Option Addr) (n c : Nat) (ys : List Int) (w : World) (hn : n ≤ 1048576) (hr : Rd w LA (n * 4) (ints ys)) :
    Calls Try.prog 49 #[.int .i64 s, .int .i64 wd, .int .i64 hg, .slice LA n c] w (RetGrid (gsR s wd hg ys n) (gsC s wd hg ys n) w) := by
  have K8 := Blk.new w 50 #[.int .i64 0, .int .i64 0, .int .i64 0, .slice none 0 0, .slice none 0 0]
  have b0 : Below w.heap.size w (w.alloc (.cells #[.int .i64 0, .int .i64 0, .int .i64 0, .slice none 0 0, .slice none 0 0] 50)) := (Below.refl _ _).alloc (Nat.le_refl _) _
  go_enter Try.func49, Try.ntmps49
  go_upto_region 1 with fail
  generalize w.alloc (.cells #[.int .i64 0, .int .i64 0, .int .i64 0, .slice none 0 0, .slice none 0 0] 50) = w1 at K8 b0 ⊢
  have g8 := K8.lt
  go_wp2_with fail
  refine (specAreSoundings_any LA n c ys _ hn (hr.below b0)).mono ?_
  rintro e w2 ⟨rfl, b2⟩
  replace K8 := K8.below b2 g8
  replace b0 := b0.trans (b2.mono b0.size)
  replace g8 := K8.lt
  have e8 := fun o => K8.cell o
  have f8 := fun o => K8.frozen o
  clear b2
  rcases Bool.eq_false_or_eq_true (sndsB ys n) with hsn | hsn
  rotate_left
  · have HV : Hid (gsR s wd hg ys n = zeroGrid ∧ gsC s wd hg ys n = 1) := by unfold Hid gsR gsC; rw [hsn]; exact ⟨rfl, rfl⟩
    rw [hsn]
    go_wp2
    refine bodyPost_ret (v := .tuple #[.agg #[.int .i64 0, .int .i64 0, .int .i64 0, .slice none 0 0, .slice none 0 0], .int .i64 1]) (by simp [results, Try.results49, go_sem, e8]) rfl ?_
    rw [HV.out.1, HV.out.2]
    exact retGrid_zero (by repeat (first | with_reducible exact b0 | refine Below.setCell ?_ (by simp <;> omega) _))
  rw [hsn]
  go_wp2_with fail
  refine (l22Size_any s wd hg _).mono ?_
  rintro e w3 ⟨rfl, hw3⟩
  subst hw3
  rcases Bool.eq_false_or_eq_true (gshape s wd hg) with hsh | hsh
  rotate_left
  · have HV : Hid (gsR s wd hg ys n = zeroGrid ∧ gsC s wd hg ys n = 2) := by unfold Hid gsR gsC; rw [hsn, hsh]; exact ⟨rfl, rfl⟩
    rw [hsh]
    go_wp2
    refine bodyPost_ret (v := .tuple #[.agg #[.int .i64 0, .int .i64 0, .int .i64 0, .slice none 0 0, .slice none 0 0], .int .i64 2]) (by simp [results, Try.results49, go_sem, e8]) rfl ?_
    rw [HV.out.1, HV.out.2]
    exact retGrid_zero (by repeat (first | with_reducible exact b0 | refine Below.setCell ?_ (by simp <;> omega) _))
  rw [hsh]
  obtain ⟨⟨s0, s1⟩, ⟨wd0, wd1⟩, hg0, hg1⟩ := gshape_true hsh
  obtain ⟨a, rfl⟩ : ∃ a : Nat, wd = (a : Int) := ⟨wd.toNat, by omega⟩
  obtain ⟨b, rfl⟩ : ∃ b : Nat, hg = (b : Int) := ⟨hg.toNat, by omega⟩
  have HV : Hid (gsR s a b ys n = gsTo s a b ys n ∧ gsC s a b ys n = 0) := by unfold Hid gsR gsC; rw [hsn, hsh]; exact ⟨rfl, rfl⟩
  have hsn' : sousB ys n = true ∧ n ≤ 200 := by
    have : sndsB ys n = (sousB ys n && decide ((n : Int) ≤ 200)) := rfl
    rw [this, Bool.and_eq_true, decide_eq_true_eq] at hsn
    exact ⟨hsn.1, by omega⟩
  have HSN := Lib.hid hsn'.1
  have hn2 := hsn'.2
  clear hsn hsn' hsh e8 f8
  go_wp2_with fail
  refine (l22New_any s a b _ (by omega) (by omega)).mono ?_
  rintro e w4 ⟨⟨⟨A3, N, c3⟩, ⟨A4, N', c4⟩⟩, rfl, hN, hN', ow, b4⟩
  simp only at hN hN'
  obtain rfl : N = N' := by omega
  have hab := ab_bd30 (a := a) (b := b) (by omega) (by omega)
  have hN1 : 1 ≤ N := by rw [hN]; exact Nat.mul_pos (by omega) (by omega)
  have hN2 : N ≤ 900 := by omega
  have HN := Lib.hid hN
  clear hN hN' hab
  have X := ow.rd
  have Y := ow.wr
  have SP := ow.sp
  obtain ⟨a3, -, rfl, -, -⟩ := X.head.at_ (k := 0) (by simp only; omega)
  obtain ⟨a4, -, rfl, -, -⟩ := X.tail.head.at_ (k := 0) (by simp only; omega)
  have hz2 : w.heap.size < w2.heap.size := g8
  replace K8 := K8.below b4 g8
  replace b0 := b0.trans (b4.mono b0.size)
  replace g8 := K8.lt
  clear b4 ow
  unfold DepthGridV newG
  simp only
  go_upto_region 6 with fail
  have K10 := Blk.new w4 50 #[.int .i64 s, .int .i64 (a : Int), .int .i64 (b : Int), .slice (some a3) N c3, .slice (some a4) N c4]
  have b5 : Below w4.heap.size w4 (w4.alloc (.cells #[.int .i64 s, .int .i64 (a : Int), .int .i64 (b : Int), .slice (some a3) N c3, .slice (some a4) N c4] 50)) := (Below.refl _ _).alloc (Nat.le_refl _) _
  have hlo := (X.lo).mono (Nat.le_refl _)
  have X5 := X.below b5
  have Y5 := Y.below X b5
  replace b0 := b0.trans (b5.mono b0.size)
  replace K8 := K8.below b5 g8
  clear X Y b5 g8
  generalize w4.alloc (.cells #[.int .i64 s, .int .i64 (a : Int), .int .i64 (b : Int), .slice (some a3) N c3, .slice (some a4) N c4] 50) = w5 at K8 K10 X5 Y5 b0 ⊢
  have hg24 : w2.heap.size ≤ w4.heap.size := by
    have := hlo _ (List.mem_cons_self ..) a3.block (by unfold Sl.row blkp; rw [if_neg (by simp only; omega)]; rfl)
    have := Y5.hi _ (List.mem_cons_self ..) a3.block (by unfold Sl.row blkp; rw [if_neg (by simp only; omega)]; rfl)
    omega
  generalize w4.heap.size = g10 at *
  have RY := hr.below b0
  have hyl : ∀ bk, blkp LA (n * 4) = some bk → bk < w.heap.size := hr.rowlt
  obtain ⟨h, hh⟩ : ∃ h : DepthGridH, h = ⟨⟨some a3, N, c3⟩, ⟨some a4, N, c4⟩⟩ := ⟨_, rfl⟩
  have hlo' : Lo (DepthGridR h) g10 := by rw [hh]; exact hlo
  have X6 : RdAll w5 (DepthGridS h (gsTo s a b ys 0)) := by rw [hh]; exact X5
  have Y6 : WrAll w5 w2.heap.size (DepthGridS h (gsTo s a b ys 0)) := by rw [hh]; exact Y5
  have SP' : Sep (DepthGridR h) := by rw [hh]; exact SP
  have ok : DepthGridOk h := by rw [hh]; exact ⟨by simp only; omega, by simp only; omega⟩
  have HH := Lib.hid hh
  clear X5 Y5 SP hlo hh hr
  go_wp2_with fail
  go_loopw [11] (fun v11 wr => ∃ k : Nat, k ≤ n ∧ v11 = .int .i64 k ∧ RdAll wr (DepthGridS h (gsTo s a b ys k)) ∧ WrAll wr w2.heap.size (DepthGridS h (gsTo s a b ys k)) ∧ Blk wr g10 50 #[.int .i64 s, .int .i64 (a : Int), .int .i64 (b : Int), .slice (some a3) N c3, .slice (some a4) N c4] ∧ Blk wr w.heap.size 50 #[.int .i64 0, .int .i64 0, .int .i64 0, .slice none 0 0, .slice none 0 0] ∧ Rd wr LA (n * 4) (ints ys) ∧ Below w.heap.size w wr)
    (fun v11 _ => n - (intOf v11).toNat)
  case atStart => exact ⟨0, Nat.zero_le _, rfl, X6, Y6, K10, K8, RY, b0⟩
  case round =>
    obtain ⟨k, hk, rfl, X, Y, KB, KR, R, hb⟩ := hrel
    clear X6 Y6 K10 K8 RY b0
    have GI := gsTo_inv s a b ys k
    have qB := KB.lt
    have qR := KR.lt
    have cB := fun o => KB.cell o
    by_cases hlt : k < n
    · obtain ⟨ad, rfl, d0, d1, d2, d3⟩ := R.fourS hlt
      have hltI : (k : Int) < (n : Int) := by omega
      have hlt0 : (0 : Int) ≤ (k : Int) := by omega
      have hadl : (ad.add (k * 4)).block < w.heap.size := by
        rw [block_of_add]
        exact hyl _ (by unfold blkp; rw [if_neg (by omega)]; rfl)
      have HST : Hid (gsTo s a b ys (k + 1) = gPut (gsTo s a b ys k) (ys.getD (k * 4) 0) (ys.getD (k * 4 + 1) 0) (ys.getD (k * 4 + 2) 0) (ys.getD (k * 4 + 3) 0)) := rfl
      have hso : souB (ys.getD (k * 4) 0) (ys.getD (k * 4 + 1) 0) (ys.getD (k * 4 + 2) 0) (ys.getD (k * 4 + 3) 0) = true := sousB_at HSN.out hlt
      generalize hx0 : ys.getD (k * 4) 0 = x0 at *
      generalize hx1 : ys.getD (k * 4 + 1) 0 = x1 at *
      generalize hx2 : ys.getD (k * 4 + 2) 0 = x2 at *
      generalize hx3 : ys.getD (k * 4 + 3) 0 = x3 at *
      have HX := Lib.hid (And.intro hx0 (And.intro hx1 (And.intro hx2 hx3)))
      clear hx0 hx1 hx2 hx3
      have hbd : ((0 ≤ x0 ∧ x0 ≤ 10000) ∧ (0 ≤ x1 ∧ x1 ≤ 10000)) ∧ (-2000 ≤ x2 ∧ x2 ≤ 1000000) ∧ 0 ≤ x3 ∧ x3 ≤ 5000 := by
        unfold souB at hso
        simp only [Bool.and_eq_true] at hso
        exact ⟨⟨inR_true hso.1.1.1, inR_true hso.1.1.2⟩, inR_true hso.1.2, inR_true hso.2⟩
      clear hso
      generalize gsTo s a b ys k = gg at *
      have HP : Hid (gPut gg x0 x1 x2 x3 = if 0 ≤ cellI s a b x0 x1 then addG gg (cellI s a b x0 x1).toNat (x2 - x3) (x2 + x3) 1 else gg) := by unfold Hid gPut; rw [GI.size, GI.wide, GI.high]
      have hcb := cellI_bd (s := s) (wd := a) (hg := b) hbd.1.1.1 hbd.1.2.1 s0 wd0
      have hcell := fun W => specCell_any s a b x0 x1 (.slice (some a3) N c3) (.slice (some a4) N c4) W s0 s1 wd0 wd1 hbd.1.1.1 hbd.1.1.2 hbd.1.2.1 hbd.1.2.2 ⟨_, _, _, rfl⟩ ⟨_, _, _, rfl⟩
      generalize hci : cellI s a b x0 x1 = ci at *
      clear hci
      go_upto_region 9 with fail
      go_still_tail 11, (by kernel_rfl)
      have Xd : RdAll wr.drew (DepthGridS h gg) := X.below (Below.drew (Below.refl _ _))
      have Yd : WrAll wr.drew w2.heap.size (DepthGridS h gg) := Y.below X (Below.drew (Below.refl _ _))
      have KBd := Blk.drew KB
      have KRd := Blk.drew KR
      have Rdd : Rd wr.drew (some ad) (n * 4) (ints ys) := R.below (Below.drew (Below.refl _ _))
      have hbd' : Below w.heap.size w wr.drew := Below.drew hb
      have t0 : wr.drew.cell? (ad.add (k * 4)) = some (.int .i64 x0) := d0
      have t1 : wr.drew.cell? ⟨(ad.add (k * 4)).block, (ad.add (k * 4)).off + 1, none⟩ = some (.int .i64 x1) := d1
      have t2 : wr.drew.cell? ⟨(ad.add (k * 4)).block, (ad.add (k * 4)).off + 2, none⟩ = some (.int .i64 x2) := d2
      have t3 : wr.drew.cell? ⟨(ad.add (k * 4)).block, (ad.add (k * 4)).off + 3, none⟩ = some (.int .i64 x3) := d3
      change wpList _ _ _ _ _ wr.drew
      clear X Y KB KR R hb d0 d1 d2 d3 cB
      generalize wr.drew = w6 at Xd Yd KBd KRd Rdd hbd' t0 t1 t2 t3 ⊢
      have cB := fun o => KBd.cell o
      go_wp2_with fail
      refine (hcell _).mono ?_
      rintro e w7 ⟨rfl, b7⟩
      replace Yd := Yd.below Xd b7
      replace Xd := Xd.below b7
      replace KBd := KBd.below b7 KBd.lt
      replace KRd := KRd.below b7 KRd.lt
      replace Rdd := Rdd.below b7
      have hl6 : (ad.add (k * 4)).block < w6.heap.size := Nat.lt_of_lt_of_le hadl hbd'.size
      replace t0 := (Below.cell b7 (p := ad.add (k * 4)) hl6).trans t0
      replace t2 := (Below.cell b7 (p := ⟨(ad.add (k * 4)).block, (ad.add (k * 4)).off + 2, none⟩) hl6).trans t2
      replace t3 := (Below.cell b7 (p := ⟨(ad.add (k * 4)).block, (ad.add (k * 4)).off + 3, none⟩) hl6).trans t3
      replace t1 := (Below.cell b7 (p := ⟨(ad.add (k * 4)).block, (ad.add (k * 4)).off + 1, none⟩) hl6).trans t1
      replace hbd' := hbd'.trans (b7.mono hbd'.size)
      clear b7 hl6 hcell
      replace cB := fun o => KBd.cell o
      by_cases hci : 0 ≤ ci
      rotate_left
      · have HS2 : Hid (gsTo s a b ys (k + 1) = gg) := by show _ = _; rw [HST.out, HP.out, if_neg hci]
        have hcid : decide (0 ≤ ci) = false := decide_eq_false hci
        go_wp2_with fail
        go_roundw
        case rel => exact ⟨k + 1, by omega, by go_num, by rw [HS2.out]; exact Xd, by rw [HS2.out]; exact Yd, KBd, KRd, Rdd, hbd'⟩
        case measure => simp [intOf]; omega
      obtain ⟨q, rfl⟩ : ∃ q : Nat, ci = (q : Int) := ⟨ci.toNat, by omega⟩
      have hqN : q < N := by have h1 := hcb hci; rw [← Int.natCast_mul] at h1; have := HN.out; omega
      have HS2 : Hid (gsTo s a b ys (k + 1) = addG gg q (x2 - x3) (x2 + x3) 1) := by show _ = _; rw [HST.out, HP.out, if_pos hci, Int.toNat_natCast]
      have ST : GSt w w2.heap.size g10 h gg #[.int .i64 s, .int .i64 (a : Int), .int .i64 (b : Int), .slice (some a3) N c3, .slice (some a4) N c4] (some ad) n ys w7 := ⟨Xd, Yd, KBd, KRd, Rdd, hbd', hlo'.ne (Nat.le_refl _), hz2, hyl⟩
      clear t0 t1 t2 t3 cB
      have GB := GI.bd q
      obtain ⟨cq, hcq⟩ : ∃ cq, gg.counts.getD q 0 = cq := ⟨_, rfl⟩
      rw [hcq] at GB
      have HCQ := Lib.hid hcq
      clear hcq
      have e5 : DepthGridV h gg = .agg #[.int .i64 s, .int .i64 (a : Int), .int .i64 (b : Int), .slice (some a3) N c3, .slice (some a4) N c4] := by unfold DepthGridV; rw [GI.size, GI.wide, GI.high, HH.out]
      have hadd : ∀ W, GSt w w2.heap.size g10 h gg #[.int .i64 s, .int .i64 (a : Int), .int .i64 (b : Int), .slice (some a3) N c3, .slice (some a4) N c4] (some ad) n ys W → Calls Try.prog 83 #[.agg #[.int .i64 s, .int .i64 (a : Int), .int .i64 (b : Int), .slice (some a3) N c3, .slice (some a4) N c4], .int .i64 (q : Int), .bool (decide (0 < cq)), .agg #[.int .i64 (x2 - x3), .int .i64 (x2 + x3)]] W (GPost w2.heap.size h (addK (decide (0 < cq)) gg q (x2 - x3) (x2 + x3)) W) := fun W s => by
        have := l22Add_any w2.heap.size h gg q (decide (0 < cq)) (x2 - x3) (x2 + x3) W ok (by rw [HH.out]) (by rw [HH.out]; exact hqN) s.X s.Y SP'
        rw [e5] at this
        exact this
      clear e5
      have SD := ST.bel (Below.drew (Below.refl _ _))
      have hbo := specBounds_any x0 x1 x2 x3 w7.drew hbd.2.1.1 hbd.2.1.2 hbd.2.2.1 hbd.2.2.2
      have hqI : (q : Int) < (N : Int) := by omega
      have hq0 : (0 : Int) ≤ (q : Int) := by omega
      go_upto_region 11 with fail
      obtain ⟨t0, t1, t2, t3⟩ := ST.cells hlt HX.out
      have tc := ST.cnt HH.out hqN HCQ.out
      have tb := fun o => ST.KB.cell o
      go_region_held3 (fun w' => w'.cell? (ad.add (k * 4)) = some (.int .i64 x0) ∧ w'.cell? ⟨(ad.add (k * 4)).block, (ad.add (k * 4)).off + 1, none⟩ = some (.int .i64 x1) ∧ w'.cell? ⟨(ad.add (k * 4)).block, (ad.add (k * 4)).off + 2, none⟩ = some (.int .i64 x2) ∧ w'.cell? ⟨(ad.add (k * 4)).block, (ad.add (k * 4)).off + 3, none⟩ = some (.int .i64 x3) ∧ w'.cell? (a3.add q) = some (.int .i64 cq) ∧ (∀ o, w'.cell? ⟨g10, o, none⟩ = (#[.int .i64 s, .int .i64 (a : Int), .int .i64 (b : Int), .slice (some a3) N c3, .slice (some a4) N c4] : Array Value)[o]?))
        (((with_reducible refine ⟨?_, ?_, ?_, ?_, ?_, ?_⟩) <;> (first | (with_reducible assumption) | (with_reducible exact t0) | (with_reducible exact t1) | (with_reducible exact t2) | (with_reducible exact t3) | (with_reducible exact tc) | (with_reducible exact tb) | go_keep | (intro o; go_keep))))
        (first
          | (go_at_call 114; (with_reducible refine hbo.mono ?_); rintro e u ⟨rfl, b8⟩; have SU := SD.bel b8; obtain ⟨y0, y1, y2, y3⟩ := SU.cells hlt HX.out; have yc := SU.cnt HH.out hqN HCQ.out; have yb := fun o => SU.KB.cell o)
          | (go_at_call 83; (with_reducible refine (hadd _ SU).mono ?_); rintro e v ⟨rfl, XV, YV, TV⟩; have SV := SU.tch TV XV YV; obtain ⟨v0, v1, v2, v3⟩ := SV.cells hlt HX.out; have vc := SV.cnt (gg := addK (decide (0 < cq)) gg q (x2 - x3) (x2 + x3)) HH.out hqN HCQ.out; have vb := fun o => SV.KB.cell o))
      have u1 : IntKind.i64.wrap (cq + 1) = cq + 1 := IntWalk.i64_in _ (by omega)
      have hne : a4.block ≠ a3.block := fun e => by
        have := SP'
        rw [HH.out] at this
        exact this.off _ (List.mem_cons_self ..) _ (List.mem_cons_self ..) a3.block (by unfold blkp; rw [if_neg (by simp only; omega)]; rfl) (by unfold blkp; rw [if_neg (by simp only; omega)]; show some a4.block = some a3.block; rw [e])
      have SVd := SV.bel (Below.drew (Below.refl _ _))
      clear SU SD ST y0 y1 y2 y3 yc yb t0 t1 t2 t3 tc tb hbo hadd XV YV TV v0 v1 v2 v3
      go_upto_region 12 with fail
      go_still_tail 10, (by kernel_rfl)
      change wpList _ _ _ _ _ v.drew
      clear vb vc SV
      generalize v.drew = w9 at SVd ⊢
      have vb := fun o => SVd.KB.cell o
      have vc := SVd.cnt (gg := addK (decide (0 < cq)) gg q (x2 - x3) (x2 + x3)) HH.out hqN HCQ.out
      have X9 := SVd.X
      have Y9 := SVd.Y
      rw [HH.out] at X9 Y9
      have r3 : Rd w9 (some a3) N (ints gg.counts) := X9.head
      have r4 : Rd w9 (some a4) (N * 2) (ints (addK (decide (0 < cq)) gg q (x2 - x3) (x2 + x3)).depths) := X9.tail.head
      have y3 : Wr w9 w2.heap.size (some a3) N := Y9.head
      have y4 : Wr w9 w2.heap.size (some a4) (N * 2) := Y9.tail.head
      obtain ⟨_, ⟨⟩, -, hfz⟩ := y3 (by omega)
      have fq := hfz q hqN
      have GP := gputC (B := w2.heap.size) (c3 := c3) (c4 := c4) (x0 := gg.size) (x1 := gg.wide) (x2 := gg.high) (v := cq + 1) hqN r3 r4 y3 y4 (Touch.refl _ _) hne
      obtain ⟨-, XG, YG, TG⟩ := GP
      rw [← HH.out] at XG YG TG
      have SG := SVd.tch TG XG YG
      have HGG : Hid ((⟨gg.size, gg.wide, gg.high, gg.counts.set q (cq + 1), (addK (decide (0 < cq)) gg q (x2 - x3) (x2 + x3)).depths⟩ : DepthGridC) = addG gg q (x2 - x3) (x2 + x3) 1) := by
        have := addK_addG (l := gg) (i := q) (a := x2 - x3) (b := x2 + x3) (by rw [HCQ.out]; omega)
        rw [HCQ.out] at this
        exact this
      clear X9 Y9 r3 r4 y3 y4 hfz XG YG TG
      go_wp2_with fail
      go_roundw
      case rel => exact ⟨k + 1, by omega, by go_num, by rw [HS2.out, ← HGG.out]; exact SG.X, by rw [HS2.out, ← HGG.out]; exact SG.Y, SG.KB, SG.KR, SG.R, SG.hb⟩
      case measure => simp [intOf]; omega
    · obtain rfl : n = k := by omega
      have e8 := fun o => KR.cell o
      have f8 := fun o => KR.frozen o
      have g8 := qR
      rw [HH.out] at X Y SP'
      have hz3 : w.heap.size ≤ w2.heap.size := Nat.le_of_lt hz2
      have eqs := GI.size
      have eqw := GI.wide
      have eqh := GI.high
      have hrow := Y.hi
      go_wp2
      refine bodyPost_ret (v := .tuple #[.agg #[.int .i64 s, .int .i64 (a : Int), .int .i64 (b : Int), .slice (some a3) N c3, .slice (some a4) N c4], .int .i64 0]) (by simp [results, Try.results49, go_sem, e8]) rfl ?_
      rw [HV.out.1, HV.out.2]
      refine ⟨⟨⟨some a3, N, c3⟩, ⟨some a4, N, c4⟩⟩, by unfold DepthGridV; rw [eqs, eqw, eqh], ⟨by simp only; omega, by simp only; omega⟩, ?_, ?_, SP', ?_⟩
      · exact ((((X.cell_ (hrow.ne hz2)).cell_ (hrow.ne hz2)).cell_ (hrow.ne hz2)).cell_ (hrow.ne hz2)).cell_ (hrow.ne hz2)
      · exact (Y.lower hz3).cell_.cell_.cell_.cell_.cell_
      · repeat (first | with_reducible exact hb | refine Below.setCell ?_ (by simp <;> omega) _)
end Go.Proofs.Ythmcnoloeeabbaa
