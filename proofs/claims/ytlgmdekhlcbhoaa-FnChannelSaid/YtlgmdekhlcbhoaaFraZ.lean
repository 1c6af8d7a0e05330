/- Frames: SurvivesBurst, both sides. Condition: lists of at most 1048576 numbers. -/
import Derived.Test.YtlgmdekhlcbhoaaFraY
namespace Go.Proofs.Ytlgmdekhlcbhoaa
open Go.RowKit

def sbB (l : FrameC) (f s : Int) : Bool := rcvOk (damage (sendL (frameC l)) (bplaces f s.toNat)) (frameC l).length && frEq (rcvF (damage (sendL (frameC l)) (bplaces f s.toNat)) (frameC l).length) l
def sbR (l : FrameC) (f s : Int) : Bool := frOkC l && (burstOk (sendL (frameC l)).length f s && sbB l f s)
def sbC (l : FrameC) (f s : Int) : Int := if frOkC l = true then (if burstOk (sendL (frameC l)).length f s = true then 0 else 2) else 1
theorem sb_a {l : FrameC} {f s : Int} (h : frOkC l = false) : sbR l f s = false ∧ sbC l f s = 1 := by unfold sbR sbC; simp [h]
theorem sb_b {l : FrameC} {f s : Int} {N : Nat} (h : frOkC l = true) (hN : (sendL (frameC l)).length = N) (hb : burstOk N f s = false) : sbR l f s = false ∧ sbC l f s = 2 := by subst hN; unfold sbR sbC; simp [h, hb]
theorem sb_c {l : FrameC} {f s : Int} {nn N : Nat} (h : frOkC l = true) (hn : (frameC l).length = nn) (hN : (sendL (frameC l)).length = N) (hb : burstOk N f s = true) (hk : rcvOk (damage (sendL (frameC l)) (bplaces f s.toNat)) nn = false) : sbR l f s = false ∧ sbC l f s = 0 := by subst hN; subst hn; unfold sbR sbC sbB; simp [h, hb, hk]
theorem sb_d {l m : FrameC} {f s : Int} {nn N : Nat} (h : frOkC l = true) (hn : (frameC l).length = nn) (hN : (sendL (frameC l)).length = N) (hb : burstOk N f s = true) (hk : rcvOk (damage (sendL (frameC l)) (bplaces f s.toNat)) nn = true) (hm : rcvF (damage (sendL (frameC l)) (bplaces f s.toNat)) nn = m) : sbR l f s = frEq m l ∧ sbC l f s = 0 := by subst hN; subst hn; unfold sbR sbC sbB; simp [h, hb, hk, hm]
theorem bplaces_in {n : Nat} {f s : Int} (h2 : burstOk n f s = true) : ∀ p ∈ bplaces f s.toNat, 0 ≤ p ∧ p < (n : Int) := by
  intro p hp
  unfold burstOk at h2
  rw [Bool.and_eq_true] at h2
  have h3 := inR_true h2.1
  have h4 := inR_true h2.2
  unfold bplaces at hp
  rw [List.mem_map] at hp
  obtain ⟨i, hi, rfl⟩ := hp
  rw [List.mem_range] at hi
  omega
theorem store_rd {u v : World} {g : Nat} {KA : Option Addr} {kn kc : Nat} {ys : List Int} (BP : Blk u g 28 #[.int .i64 0, .int .i64 0, .slice none 0 0]) (b : Below u.heap.size u v) (O : Own v u.heap.size 1 ⟨KA, kn, kc⟩ (ints ys)) (y0 y1 : Int) :
    Rd (((v.setCell ⟨g, 0, none⟩ (.int .i64 y0)).setCell ⟨g, 1, none⟩ (.int .i64 y1)).setCell ⟨g, 2, none⟩ (.slice KA kn kc)) KA kn (ints ys) ∧ Blk (((v.setCell ⟨g, 0, none⟩ (.int .i64 y0)).setCell ⟨g, 1, none⟩ (.int .i64 y1)).setCell ⟨g, 2, none⟩ (.slice KA kn kc)) g 28 #[.int .i64 y0, .int .i64 y1, .slice KA kn kc] := by
  have hrow : ∀ b, (⟨KA, kn, kc⟩ : Hd).row = some b → b ≠ g := fun b e => by have h1 := (O.rowlt b e).1; have h2 := BP.lt; omega
  exact ⟨((((O.far1 (p := ⟨g, 0, none⟩) (fun e => hrow _ e rfl) (.int .i64 y0)).far1 (p := ⟨g, 1, none⟩) (fun e => hrow _ e rfl) (.int .i64 y1)).far1 (p := ⟨g, 2, none⟩) (fun e => hrow _ e rfl) (.slice KA kn kc))).rd1, (((BP.below b BP.lt).set_ 0 (.int .i64 y0)).set_ 1 (.int .i64 y1)).set_ 2 (.slice KA kn kc)⟩
theorem isSame_v (KA : Option Addr) (kn kc : Nat) (y0 y1 : Int) (ys : List Int) (A : Option Addr) (n c : Nat) (x0 x1 : Int) (xs : List Int) (u : World) (hk : kn ≤ 1048576) (hn : n ≤ 1048576) (hr : Rd u KA kn (ints ys)) (hq : RdAll u (FrameS ⟨⟨A, n, c⟩⟩ ⟨x0, x1, xs⟩)) :
    Calls Try.prog 109 #[.agg #[.int .i64 y0, .int .i64 y1, .slice KA kn kc], .agg #[.int .i64 x0, .int .i64 x1, .slice A n c]] u fun e w' => e = .returned (.bool (frEq ⟨y0, y1, ys⟩ ⟨x0, x1, xs⟩)) ∧ Below u.heap.size u w' :=
  isSame_any ⟨⟨KA, kn, kc⟩⟩ ⟨⟨A, n, c⟩⟩ ⟨y0, y1, ys⟩ ⟨x0, x1, xs⟩ u hk hn (RdAll.cons (s := ⟨KA, kn, ints ys⟩) hr (RdAll.nil _)) hq

set_option maxRecDepth 100000 in
set_option maxHeartbeats 4000000 in
theorem implSurvivesBurst'_any (h : FrameH) (l : FrameC) (f s : Int) (w : World) (ok : FrameOk h) (hr : RdAll w (FrameS h l)) :
    Calls Try.prog 31 #[FrameV h l, .int .i64 f, .int .i64 s] w fun e w' => e = .returned (.tuple #[.bool (sbR l f s), .int .i64 (sbC l f s)]) ∧ Below w.heap.size w w' := by
  have HI := fun (W : World) (b : RdAll W (FrameS h l)) => Lib.hid (implIsFrame_any h l W ok b)
  obtain ⟨⟨A, n, c⟩⟩ := h
  obtain ⟨x0, x1, xs⟩ := l
  have hn : n ≤ 1048576 := ok
  simp only [FrameV] at *
  have T0 := TrK.mk (Blk.new w 28 #[.int .i64 x0, .int .i64 x1, .slice A n c]) ((Below.refl _ _).alloc (Nat.le_refl _) _) hr (show Rd w none 0 (ints []) from Rd.nil w none)
  have H1 := HI _ T0.fr
  clear hr HI ok
  have go : ∀ b, frOkC ⟨x0, x1, xs⟩ = b → Calls Try.prog 31 #[.agg #[.int .i64 x0, .int .i64 x1, .slice A n c], .int .i64 f, .int .i64 s] w fun e w' => e = .returned (.tuple #[.bool (sbR ⟨x0, x1, xs⟩ f s), .int .i64 (sbC ⟨x0, x1, xs⟩ f s)]) ∧ Below w.heap.size w w' := by
    intro b hc
    cases b
    case false =>
      have HV := Lib.hid (sb_a (f := f) (s := s) hc)
      go_enter Try.func31, Try.ntmps31
      go_wp2_with fail
      generalize hw0 : (w.alloc (.cells #[.int .i64 x0, .int .i64 x1, .slice A n c] 28)) = w0 at T0 H1 ⊢
      clear hw0
      refine H1.out.mono ?_
      rintro e w1 ⟨rfl, c1⟩
      rw [hc]
      have T1 := T0.next c1
      go_wp2
      go_ret2
      exact ⟨(by rw [HV.out.1, HV.out.2]; rfl), T1.bel⟩
    have hok := FrO.of hc
    obtain ⟨nn, hnn⟩ : ∃ nn, (frameC ⟨x0, x1, xs⟩).length = nn := ⟨_, rfl⟩
    obtain ⟨N, hN⟩ : ∃ N, (sendL (frameC ⟨x0, x1, xs⟩)).length = N := ⟨_, rfl⟩
    have HLn : Hid (48 ≤ nn ∧ nn ≤ 284) := by rw [← hnn]; exact frameL_length x0 x1 xs hok.len
    have HN : Hid (N = 16 * rowsOf nn) := by unfold Hid; rw [← hN, sendL_length, hnn]
    have HO := Lib.hid hok
    have HNN := Lib.hid hnn
    have HNL := Lib.hid hN
    have HSB : Hid (allIn (sendL (frameC ⟨x0, x1, xs⟩)) 0 1 = true) := sendL_bits (frameL_bits _ _ _)
    have HDB : Hid (allIn (damage (sendL (frameC ⟨x0, x1, xs⟩)) (bplaces f s.toNat)) 0 1 = true) := damage_bits HSB.out _
    have hN6 : N ≤ 640 := by have h1 := HN.out; have h2 := HLn.out.2; rw [h1]; unfold rowsOf; omega
    have hnb := HLn.out.2
    have HTB := Lib.hid (fun h2 => sb_b (f := f) (s := s) hc hN h2)
    have HTC := Lib.hid (fun h2 h3 => sb_c (f := f) (s := s) hc hnn hN h2 h3)
    have HTD := Lib.hid (fun h2 h3 m h4 => sb_d (m := m) (f := f) (s := s) hc hnn hN h2 h3 h4)
    clear hok hnn hN
    go_enter Try.func31, Try.ntmps31
    go_wp2_with fail
    generalize hw0 : (w.alloc (.cells #[.int .i64 x0, .int .i64 x1, .slice A n c] 28)) = w0 at T0 H1 ⊢
    clear hw0
    refine H1.out.mono ?_
    rintro e w1 ⟨rfl, c1⟩
    rw [hc]
    clear hc
    have T1 := T0.next c1
    have hS1 := T1.S
    clear T0
    go_wp2_with fail
    refine (send_sl A n c x0 x1 xs N _ T1.fr HO.out HNL.out).mono ?_
    rintro e w2 ⟨SA, sc, rfl, RS, c2⟩
    have T2 := T1.next c2
    have hS2 := T2.S
    have l2 := T2.lt
    rcases Bool.eq_false_or_eq_true (burstOk N f s) with hb | hb
    case inr =>
      have HV := Lib.hid (HTB.out hb)
      clear HTB HTC HTD
      go_wp2_with (first | (go_at_call 100; refine (lengthInt_any _ _ _ _ (by omega)).mono ?_; rintro e w' ⟨rfl, rfl⟩) | (go_at_call 106; refine (isBurst_any N f s _ (by omega)).mono ?_; rintro e w' ⟨rfl, rfl⟩; rw [hb]))
      go_ret2
      exact ⟨(by rw [HV.out.1, HV.out.2]; rfl), T2.bel⟩
    have HBK := Lib.hid hb
    have HTC := Lib.hid (HTC.out hb)
    have HTD := Lib.hid (HTD.out hb)
    clear HTB
    go_upto_region 6 with (first | (go_at_call 100; refine (lengthInt_any _ _ _ _ (by omega)).mono ?_; rintro e w' ⟨rfl, rfl⟩) | (go_at_call 106; refine (isBurst_any N f s _ (by omega)).mono ?_; rintro e w' ⟨rfl, rfl⟩; rw [hb]))
    clear hb
    have T0 := T2.dr
    have RS : Rd w2.drew SA N (ints (sendL (frameC ⟨x0, x1, xs⟩))) := RS
    have l0 : w.heap.size < w2.drew.heap.size := T0.lt
    have l0' : w.heap.size < w2.heap.size := T2.lt
    have BZd : Blk (w2.alloc (.cells #[.int .i64 0, .int .i64 0, .slice none 0 0] 28)).drew w2.heap.size 28 #[.int .i64 0, .int .i64 0, .slice none 0 0] := Blk.new w2 28 #[.int .i64 0, .int .i64 0, .slice none 0 0]
    have Td : TrK w (w2.alloc (.cells #[.int .i64 0, .int .i64 0, .slice none 0 0] 28)).drew A n c x0 x1 xs none 0 [] := TrK.dr (TrK.al T2 _)
    have RSd : Rd (w2.alloc (.cells #[.int .i64 0, .int .i64 0, .slice none 0 0] 28)).drew SA N (ints (sendL (frameC ⟨x0, x1, xs⟩))) := Rd.al RS _
    have hSd := Td.S
    clear T1 T2 c1 c2 H1 hS1 hS2
    go_cut [9, 10] from 22 to 32 (fun v9 v10 wx => ∃ (g : Nat) (KA : Option Addr) (kn kc : Nat) (y0 y1 : Int) (ys : List Int), v9 = .pointer (some ⟨g, 0, none⟩) ∧ v10 = .int .i64 (rcvC (damage (sendL (frameC ⟨x0, x1, xs⟩)) (bplaces f s.toNat)) nn) ∧ Hid (rcvF (damage (sendL (frameC ⟨x0, x1, xs⟩)) (bplaces f s.toNat)) nn = ⟨y0, y1, ys⟩) ∧ kn ≤ 1000 ∧ Blk wx g 28 #[.int .i64 y0, .int .i64 y1, .slice KA kn kc] ∧ Rd wx KA kn (ints ys) ∧ TrK w wx A n c x0 x1 xs none 0 [])
    case first =>
      go_region_held3 (fun w' => ∀ o, w'.cell? ⟨w.heap.size, o, none⟩ = (#[.int .i64 x0, .int .i64 x1, .slice A n c] : Array Value)[o]?)
        (first | (with_reducible assumption) | (with_reducible exact TrK.S T0) | (with_reducible exact TrK.S T1) | (with_reducible exact TrK.S T2) | (with_reducible exact TrK.S T3) | (with_reducible exact TrK.S T4) | (with_reducible exact TrK.S (TrK.al T0 _)) | (with_reducible exact TrK.S (TrK.al T1 _)) | (with_reducible exact TrK.S (TrK.al T2 _)) | (with_reducible exact TrK.S (TrK.al T3 _)) | (with_reducible exact TrK.S (TrK.al T4 _)) | (with_reducible exact TrK.S (TrK.st3 T4 (by omega) _ _ _)) | (with_reducible exact TrK.S (TrK.st3 (TrK.al T4 _) (by omega) _ _ _)))
        (first
          | (go_at_call 107; (with_reducible refine (burst_sl SA N sc (sendL (frameC ⟨x0, x1, xs⟩)) f s _ (by omega) (by (repeat (first | (with_reducible assumption) | (with_reducible refine TrK.al ?_ _) | (with_reducible refine Rd.al ?_ _) | (with_reducible refine TrK.st3 ?_ (by omega) _ _ _)))) HSB.out HBK.out).mono ?_); rintro e u3 ⟨DA, dc, rfl, RD, c3⟩; have T3 : TrK w u3 A n c x0 x1 xs none 0 [] := TrK.next (by (repeat (first | (with_reducible assumption) | (with_reducible refine TrK.al ?_ _) | (with_reducible refine Rd.al ?_ _) | (with_reducible refine TrK.st3 ?_ (by omega) _ _ _)))) c3; have l3 := T3.lt; (try (have RS : Rd _ SA N (ints (sendL (frameC ⟨x0, x1, xs⟩))) := Rd.below (by (repeat (first | (with_reducible assumption) | (with_reducible refine TrK.al ?_ _) | (with_reducible refine Rd.al ?_ _) | (with_reducible refine TrK.st3 ?_ (by omega) _ _ _)))) c3)); (first | (have BZ := BZ.below c3 BZ.lt) | (have BZ := BZd.below c3 BZd.lt) | (have BZ := (Blk.new _ 28 #[.int .i64 0, .int .i64 0, .slice none 0 0]).below c3 (by simp)) | skip); (try (have cU3 := fun o => BZ.cell o)); (try (have fU3 := fun o => BZ.frozen o)); (try (have gU3 := BZ.lt)))
          | (go_at_call 108; (with_reducible refine (frameBits_sl A n c x0 x1 xs nn _ (TrK.fr (w := w) (P := none) (q := 0) (ps := []) (by (repeat (first | (with_reducible assumption) | (with_reducible refine TrK.al ?_ _) | (with_reducible refine Rd.al ?_ _) | (with_reducible refine TrK.st3 ?_ (by omega) _ _ _))))) HO.out HNN.out).mono ?_); rintro e u2 ⟨FA, fc, rfl, -, c2⟩; have T2 : TrK w u2 A n c x0 x1 xs none 0 [] := TrK.next (by (repeat (first | (with_reducible assumption) | (with_reducible refine TrK.al ?_ _) | (with_reducible refine Rd.al ?_ _) | (with_reducible refine TrK.st3 ?_ (by omega) _ _ _)))) c2; have l2 := T2.lt; (try (have RS : Rd _ SA N (ints (sendL (frameC ⟨x0, x1, xs⟩))) := Rd.below (by (repeat (first | (with_reducible assumption) | (with_reducible refine TrK.al ?_ _) | (with_reducible refine Rd.al ?_ _) | (with_reducible refine TrK.st3 ?_ (by omega) _ _ _)))) c2)); (try (have RD : Rd _ DA N (ints (damage (sendL (frameC ⟨x0, x1, xs⟩)) (bplaces f s.toNat))) := Rd.below (by (repeat (first | (with_reducible assumption) | (with_reducible refine TrK.al ?_ _) | (with_reducible refine Rd.al ?_ _) | (with_reducible refine TrK.st3 ?_ (by omega) _ _ _)))) c2)); (first | (have BZ := BZ.below c2 BZ.lt) | (have BZ := BZd.below c2 BZd.lt) | (have BZ := (Blk.new _ 28 #[.int .i64 0, .int .i64 0, .slice none 0 0]).below c2 (by simp)) | skip); (try (have cU2 := fun o => BZ.cell o)); (try (have fU2 := fun o => BZ.frozen o)); (try (have gU2 := BZ.lt)))
          | (go_at_call 100; (with_reducible refine (lengthInt_any _ _ _ _ (by omega)).mono ?_); rintro e u5 ⟨rfl, rfl⟩)
          | (go_at_call 102; (with_reducible refine (receive_p DA N dc nn (damage (sendL (frameC ⟨x0, x1, xs⟩)) (bplaces f s.toNat)) _ (by omega) HN.out (by (repeat (first | (with_reducible assumption) | (with_reducible refine TrK.al ?_ _) | (with_reducible refine Rd.al ?_ _) | (with_reducible refine TrK.st3 ?_ (by omega) _ _ _)))) HDB.out).mono ?_); rintro e u4 ⟨KA, kn, kc, y0, y1, ys, rfl, hfr, hkn, OK, c4⟩; have T4 : TrK w u4 A n c x0 x1 xs none 0 [] := TrK.next (by (repeat (first | (with_reducible assumption) | (with_reducible refine TrK.al ?_ _) | (with_reducible refine Rd.al ?_ _) | (with_reducible refine TrK.st3 ?_ (by omega) _ _ _)))) c4; have l4 := T4.lt; (try (have RS : Rd _ SA N (ints (sendL (frameC ⟨x0, x1, xs⟩))) := Rd.below (by (repeat (first | (with_reducible assumption) | (with_reducible refine TrK.al ?_ _) | (with_reducible refine Rd.al ?_ _) | (with_reducible refine TrK.st3 ?_ (by omega) _ _ _)))) c4)); (try (have RD : Rd _ DA N (ints (damage (sendL (frameC ⟨x0, x1, xs⟩)) (bplaces f s.toNat))) := Rd.below (by (repeat (first | (with_reducible assumption) | (with_reducible refine TrK.al ?_ _) | (with_reducible refine Rd.al ?_ _) | (with_reducible refine TrK.st3 ?_ (by omega) _ _ _)))) c4)); have HFR := Lib.hid hfr; clear hfr; (first | (have ST := store_rd BZ c4 OK y0 y1) | (have ST := store_rd BZd c4 OK y0 y1) | (have ST := store_rd (Blk.new _ 28 #[.int .i64 0, .int .i64 0, .slice none 0 0]) c4 OK y0 y1) | skip); (first | (have BZ := BZ.below c4 BZ.lt) | (have BZ := BZd.below c4 BZd.lt) | (have BZ := (Blk.new _ 28 #[.int .i64 0, .int .i64 0, .slice none 0 0]).below c4 (by simp)) | skip); (try (have cU4 := fun o => BZ.cell o)); (try (have fU4 := fun o => BZ.frozen o)); (try (have gU4 := BZ.lt))))
      all_goals
        go_wp2_with fail
        go_meet
        first
          | exact ⟨_, KA, kn, kc, y0, y1, ys, rfl, rfl, HFR, hkn, ST.2, ST.1, T4.st3 (by omega) _ _ _⟩
          | exact ⟨_, KA, kn, kc, y0, y1, ys, rfl, rfl, HFR, hkn, Blk.new _ _ _, Rd.al OK.rd1 _, T4.al _⟩
    case rest =>
      obtain ⟨g, KA, kn, kc, y0, y1, ys, rfl, rfl, HFR, hkn, BX, RX, TX⟩ := hcut
      have dX := fun o => BX.cell o
      have gX := BX.lt
      have hSX := TX.S
      have lX := TX.lt
      rcases Bool.eq_false_or_eq_true (rcvOk (damage (sendL (frameC ⟨x0, x1, xs⟩)) (bplaces f s.toNat)) nn) with hk | hk
      case inr =>
        have HV := Lib.hid (HTC.out hk)
        have hC : rcvC (damage (sendL (frameC ⟨x0, x1, xs⟩)) (bplaces f s.toNat)) nn = 6 := by unfold rcvC; rw [hk]; rfl
        rw [hC]
        clear HTC HTD hk hC
        go_wp2
        go_ret2
        exact ⟨(by rw [HV.out.1, HV.out.2]; rfl), TX.bel⟩
      have HV := Lib.hid (HTD.out hk _ HFR.out)
      have hC : rcvC (damage (sendL (frameC ⟨x0, x1, xs⟩)) (bplaces f s.toNat)) nn = 0 := by unfold rcvC; rw [hk]; rfl
      rw [hC]
      clear HTC HTD hk hC
      go_wp2_with fail
      refine (isSame_v KA kn kc y0 y1 ys A n c x0 x1 xs _ (by omega) hn RX TX.fr).mono ?_
      rintro e w7 ⟨rfl, c7⟩
      have T7 := TX.next c7
      go_wp2
      go_ret2
      exact ⟨(by rw [HV.out.1, HV.out.2]; rfl), T7.bel⟩
  exact go _ rfl

set_option maxRecDepth 100000 in
set_option maxHeartbeats 4000000 in
theorem specSurvivesBurst'_any (h : FrameH) (l : FrameC) (f s : Int) (w : World) (ok : FrameOk h) (hr : RdAll w (FrameS h l)) :
    Calls Try.prog 30 #[FrameV h l, .int .i64 f, .int .i64 s] w fun e w' => e = .returned (.tuple #[.bool (sbR l f s), .int .i64 (sbC l f s)]) ∧ Below w.heap.size w w' := by
  have HI := fun (W : World) (b : RdAll W (FrameS h l)) => Lib.hid (specIsFrame_any h l W ok b)
  obtain ⟨⟨A, n, c⟩⟩ := h
  obtain ⟨x0, x1, xs⟩ := l
  have hn : n ≤ 1048576 := ok
  simp only [FrameV] at *
  have T0 := TrK.mk (Blk.new w 28 #[.int .i64 x0, .int .i64 x1, .slice A n c]) ((Below.refl _ _).alloc (Nat.le_refl _) _) hr (show Rd w none 0 (ints []) from Rd.nil w none)
  have H1 := HI _ T0.fr
  clear hr HI ok
  have go : ∀ b, frOkC ⟨x0, x1, xs⟩ = b → Calls Try.prog 30 #[.agg #[.int .i64 x0, .int .i64 x1, .slice A n c], .int .i64 f, .int .i64 s] w fun e w' => e = .returned (.tuple #[.bool (sbR ⟨x0, x1, xs⟩ f s), .int .i64 (sbC ⟨x0, x1, xs⟩ f s)]) ∧ Below w.heap.size w w' := by
    intro b hc
    cases b
    case false =>
      have HV := Lib.hid (sb_a (f := f) (s := s) hc)
      go_enter Try.func30, Try.ntmps30
      go_wp2_with fail
      generalize hw0 : (w.alloc (.cells #[.int .i64 x0, .int .i64 x1, .slice A n c] 28)) = w0 at T0 H1 ⊢
      clear hw0
      refine H1.out.mono ?_
      rintro e w1 ⟨rfl, c1⟩
      rw [hc]
      have T1 := T0.next c1
      go_wp2
      go_ret2
      exact ⟨(by rw [HV.out.1, HV.out.2]; rfl), T1.bel⟩
    have hok := FrO.of hc
    obtain ⟨nn, hnn⟩ : ∃ nn, (frameC ⟨x0, x1, xs⟩).length = nn := ⟨_, rfl⟩
    obtain ⟨N, hN⟩ : ∃ N, (sendL (frameC ⟨x0, x1, xs⟩)).length = N := ⟨_, rfl⟩
    have HLn : Hid (48 ≤ nn ∧ nn ≤ 284) := by rw [← hnn]; exact frameL_length x0 x1 xs hok.len
    have HN : Hid (N = 16 * rowsOf nn) := by unfold Hid; rw [← hN, sendL_length, hnn]
    have HO := Lib.hid hok
    have HNN := Lib.hid hnn
    have HNL := Lib.hid hN
    have HSB : Hid (allIn (sendL (frameC ⟨x0, x1, xs⟩)) 0 1 = true) := sendL_bits (frameL_bits _ _ _)
    have HDB : Hid (allIn (damage (sendL (frameC ⟨x0, x1, xs⟩)) (bplaces f s.toNat)) 0 1 = true) := damage_bits HSB.out _
    have hN6 : N ≤ 640 := by have h1 := HN.out; have h2 := HLn.out.2; rw [h1]; unfold rowsOf; omega
    have hnb := HLn.out.2
    have HTB := Lib.hid (fun h2 => sb_b (f := f) (s := s) hc hN h2)
    have HTC := Lib.hid (fun h2 h3 => sb_c (f := f) (s := s) hc hnn hN h2 h3)
    have HTD := Lib.hid (fun h2 h3 m h4 => sb_d (m := m) (f := f) (s := s) hc hnn hN h2 h3 h4)
    clear hok hnn hN
    go_enter Try.func30, Try.ntmps30
    go_wp2_with fail
    generalize hw0 : (w.alloc (.cells #[.int .i64 x0, .int .i64 x1, .slice A n c] 28)) = w0 at T0 H1 ⊢
    clear hw0
    refine H1.out.mono ?_
    rintro e w1 ⟨rfl, c1⟩
    rw [hc]
    clear hc
    have T1 := T0.next c1
    have hS1 := T1.S
    clear T0
    go_wp2_with fail
    refine (l30Send_sl A n c x0 x1 xs N _ T1.fr HO.out HNL.out).mono ?_
    rintro e w2 ⟨SA, sc, rfl, RS, c2⟩
    have T2 := T1.next c2
    have hS2 := T2.S
    have l2 := T2.lt
    rcases Bool.eq_false_or_eq_true (burstOk N f s) with hb | hb
    case inr =>
      have HV := Lib.hid (HTB.out hb)
      clear HTB HTC HTD
      go_wp2_with fail
      refine (l30Burst_no N f s _ (by omega) hb).mono ?_
      rintro e w3 ⟨rfl, rfl⟩
      go_wp2
      go_ret2
      exact ⟨(by rw [HV.out.1, HV.out.2]; rfl), T2.bel⟩
    have HI := Lib.hid (bplaces_in hb)
    have HTC := Lib.hid (HTC.out hb)
    have HTD := Lib.hid (HTD.out hb)
    clear HTB
    go_wp2_with fail
    refine (l30Burst_yes N f s _ (by omega) hb).mono ?_
    rintro e w3 ⟨P, q, d, rfl, RP, -, hq, c3⟩
    have T3 := T2.next c3
    have hS3 := T3.S
    have l3 := T3.lt
    clear hb T1 T2 c1 c2 c3 H1 hS1 hS2 RS
    go_wp2_with fail
    refine (l30Transfer_p A n c x0 x1 xs P q d (bplaces f s.toNat) nn N _ T3.fr HO.out HNN.out HNL.out (by omega) RP HI.out).mono ?_
    rintro e w4 ⟨KA, kn, kc, y0, y1, ys, rfl, hfr, hkn, OK, c4⟩
    have T4 := T3.next c4
    have hS4 := T4.S
    have l4 := T4.lt
    have HFR := Lib.hid hfr
    have RX : Rd (w4.alloc (.cells #[.int .i64 y0, .int .i64 y1, .slice KA kn kc] 28)) KA kn (ints ys) := Rd.al OK.rd1 _
    have TX := T4.al (.cells #[.int .i64 y0, .int .i64 y1, .slice KA kn kc] 28)
    clear hfr T3 hS3 c4 OK l3
    rcases Bool.eq_false_or_eq_true (rcvOk (damage (sendL (frameC ⟨x0, x1, xs⟩)) (bplaces f s.toNat)) nn) with hk | hk
    case inr =>
      have HV := Lib.hid (HTC.out hk)
      rw [hk]
      clear HTC HTD hk
      go_wp2
      go_ret2
      exact ⟨(by rw [HV.out.1, HV.out.2]; rfl), TX.bel⟩
    have HV := Lib.hid (HTD.out hk _ HFR.out)
    rw [hk]
    clear HTC HTD hk
    rcases Bool.eq_false_or_eq_true (y0 == x0) with g1 | g1
    · rcases Bool.eq_false_or_eq_true (y1 == x1) with g2 | g2
      · have HE := Lib.hid (frEq_3 (xs := ys) (ys := xs) g1 g2)
        go_wp2_with fail
        refine (l01Same_any KA kn kc ys A n c xs _ (by omega) (by omega) RX TX.fr.head).mono ?_
        rintro e w7 ⟨rfl, c7⟩
        have T7 := TX.next c7
        go_wp2
        go_ret2
        exact ⟨(by rw [HV.out.1, HV.out.2, HE.out]; rfl), T7.bel⟩
      · have HE := Lib.hid (frEq_2 (x0 := y0) (y0 := x0) (xs := ys) (ys := xs) g2)
        go_wp2
        go_ret2
        exact ⟨(by rw [HV.out.1, HV.out.2, HE.out]; rfl), TX.bel⟩
    · have HE := Lib.hid (frEq_1 (x1 := y1) (y1 := x1) (xs := ys) (ys := xs) g1)
      go_wp2
      go_ret2
      exact ⟨(by rw [HV.out.1, HV.out.2, HE.out]; rfl), TX.bel⟩
  exact go _ rfl
end Go.Proofs.Ytlgmdekhlcbhoaa
