/- Mosaics: the order in which two values are put into a cell does not matter; what is put leaves a valid mosaic. Plain lemmas; and mosaics that are alike. No condition. -/
import Derived.Test.YtilieonalmihaaaDoorPutM
import Derived.Test.YtilieonalmihaaaDoorLike
import Derived.Test.YtilieonalmihaaaDoorMosN
namespace Go.Proofs.YtilieonalmihaaaDoor
open Go.RowKit

theorem celsB_of {vs gs : List Int} {n : Nat} (h : ∀ k, k < n → celB (vs.getD k 0) (gs.getD k 0) = true) : celsB vs gs n = true := by
  unfold celsB
  rw [List.all_eq_true]
  exact fun i hi => h i (List.mem_range.1 hi)
theorem inR_of {x a b : Int} (h1 : a ≤ x) (h2 : x ≤ b) : inR x a b = true := inR_mk h1 h2
theorem MOk.to {m : MosaicC} (K : MOk m) : mosOk m = true := by
  unfold mosOk mosSide
  rw [inR_of K.w0 K.w1, inR_of K.h0 K.h1, K.cel]
  simp [K.len, K.eq]
theorem celB_pix {v g : Int} (h : pixB v g = true) : celB v g = true := by unfold celB; rw [h]; rfl
theorem getD_set (l : List Int) (i k : Nat) (v : Int) : (l.set i v).getD k 0 = if i = k ∧ k < l.length then v else l.getD k 0 := by
  rw [List.getD_eq_getElem?_getD, List.getD_eq_getElem?_getD, List.getElem?_set]
  by_cases h : i = k
  · subst h
    by_cases h2 : i < l.length
    · simp [h2]
    · simp [h2]
  · simp [h]
theorem putM_ok {l : MosaicC} (K : MOk l) (i : Nat) {v g : Int} (hp : pixB v g = true) : MOk (putM l i v g) := by
  have hv := putV_len l.values l.grades i v g
  have hg := putG_len l.values l.grades i v g
  refine ⟨K.w0, K.w1, K.h0, K.h1, ?_, ?_, ?_⟩
  · show ((putV l.values l.grades i v g).length : Int) = _; rw [hv]; exact K.len
  · show (putG l.values l.grades i v g).length = (putV l.values l.grades i v g).length; rw [hv, hg]; exact K.eq
  · refine celsB_of fun k hk => ?_
    have hk' : k < l.values.length := by rw [show (putM l i v g).values.length = l.values.length from hv] at hk; exact hk
    have h0 := K.at_ hk'
    show celB ((putV l.values l.grades i v g).getD k 0) ((putG l.values l.grades i v g).getD k 0) = true
    unfold putV putG
    split
    · rw [getD_set, getD_set]
      have he := K.eq
      by_cases h : i = k
      · rw [if_pos ⟨h, hk'⟩, if_pos ⟨h, by omega⟩]; exact celB_pix hp
      · rw [if_neg (fun c => h c.1), if_neg (fun c => h c.1)]; exact h0
    · exact h0
theorem putS_zero {l : MosaicC} {x y v g : Int} (h : putSC l x y v g = 0) : mosOk l = true ∧ inPix x y = true ∧ pixB v g = true ∧ hasB l x y = true := by
  rw [putSC_at] at h
  split at h
  · split at h
    · split at h
      · exact ⟨‹_›, (‹inPix x y = true ∧ pixB v g = true›).1, (‹inPix x y = true ∧ pixB v g = true›).2, ‹_›⟩
      · cases h
    · cases h
  · cases h
theorem putS_val {l : MosaicC} {x y v g : Int} (h : putSC l x y v g = 0) : putSR l x y v g = putM l (y * l.wide + x).toNat v g := by unfold putSR; rw [if_pos h]
theorem putS_mk {l : MosaicC} {x y v g : Int} (h1 : mosOk l = true) (h2 : inPix x y = true) (h3 : pixB v g = true) (h4 : hasB l x y = true) : putSC l x y v g = 0 := by
  rw [putSC_at, if_pos h1, if_pos ⟨h2, h3⟩, if_pos h4]
def lx (a b v g : Int) : Int × Int := if b < g ∨ (b = g ∧ a < v) then (v, g) else (a, b)
theorem set_own {l : List Int} {i : Nat} (h : i < l.length) : l.set i (l.getD i 0) = l := by
  refine List.ext_getElem (by simp) fun k h1 h2 => ?_
  rw [List.getElem_set]
  split
  · subst_vars; rw [getD_at h]
  · rfl
theorem putM_lx {l : MosaicC} {i : Nat} (h1 : i < l.values.length) (h2 : i < l.grades.length) (v g : Int) :
    putM l i v g = ⟨l.wide, l.high, l.values.set i (lx (l.values.getD i 0) (l.grades.getD i 0) v g).1, l.grades.set i (lx (l.values.getD i 0) (l.grades.getD i 0) v g).2⟩ := by
  unfold putM putV putG putB lx
  by_cases h : l.grades.getD i 0 < g ∨ (l.grades.getD i 0 = g ∧ l.values.getD i 0 < v)
  · rw [if_pos (by simp; exact h), if_pos (by simp; exact h), if_pos h]
  · rw [if_neg (by simp only [Bool.or_eq_true, Bool.and_eq_true, decide_eq_true_eq]; exact h), if_neg (by simp only [Bool.or_eq_true, Bool.and_eq_true, decide_eq_true_eq]; exact h), if_neg h]
    simp only
    rw [set_own h1, set_own h2]
theorem lx_comm (a b v g u k : Int) : lx (lx a b v g).1 (lx a b v g).2 u k = lx (lx a b u k).1 (lx a b u k).2 v g := by
  unfold lx
  by_cases h1 : b < g ∨ (b = g ∧ a < v) <;> by_cases h2 : b < k ∨ (b = k ∧ a < u) <;> simp only [h1, h2, if_true, if_false]
  · by_cases h3 : g < k ∨ (g = k ∧ v < u) <;> by_cases h4 : k < g ∨ (k = g ∧ u < v) <;> simp only [h3, h4, if_true, if_false]
    · omega
    · have : v = u ∧ g = k := by omega
      rw [this.1, this.2]
  · rw [if_neg (by omega)]
  · rw [if_neg (by omega)]
theorem putM_comm {l : MosaicC} {i : Nat} (h1 : i < l.values.length) (h2 : i < l.grades.length) (v g u k : Int) : putM (putM l i v g) i u k = putM (putM l i u k) i v g := by
  have len : ∀ (v g : Int), i < (putM l i v g).values.length ∧ i < (putM l i v g).grades.length := fun v g => by
    unfold putM; simp only; rw [putV_len, putG_len]; exact ⟨h1, h2⟩
  rw [putM_lx (len v g).1 (len v g).2, putM_lx (len u k).1 (len u k).2, putM_lx h1 h2 v g, putM_lx h1 h2 u k]
  simp only [List.set_set, getD_set, h1, h2, and_self, if_true, lx_comm]
/-- what the law asks of a value that was put -/
structure PutFacts (l : MosaicC) (x y v g u k : Int) : Prop where
  b : putSC (putSR l x y v g) x y u k = 0
  c : putSC l x y u k = 0
  back : putSC (putSR l x y u k) x y v g = 0
  same : putSR (putSR l x y v g) x y u k = putSR (putSR l x y u k) x y v g
  ok : mosOk (putSR (putSR l x y v g) x y u k) = true
theorem put_facts {l : MosaicC} {x y v g u k : Int} (h : putSC l x y v g = 0) (hp : pixB u k = true) : PutFacts l x y v g u k := by
  obtain ⟨h1, h2, h3, h4⟩ := putS_zero h
  have K := MOk.of h1
  have hi := cell_bd K h4
  have hc : putSC l x y u k = 0 := putS_mk h1 h2 hp h4
  have e1 := putS_val h
  have e2 := putS_val hc
  have hb : putSC (putSR l x y v g) x y u k = 0 := by rw [e1]; exact putS_mk (putM_ok K _ h3).to h2 hp h4
  have hk : putSC (putSR l x y u k) x y v g = 0 := by rw [e2]; exact putS_mk (putM_ok K _ hp).to h2 h3 h4
  have hl : (y * l.wide + x).toNat < l.values.length := by omega
  have hs : putSR (putSR l x y v g) x y u k = putSR (putSR l x y u k) x y v g := by
    rw [putS_val hb, putS_val hk, e1, e2]
    show putM (putM l _ v g) (y * l.wide + x).toNat u k = putM (putM l _ u k) (y * l.wide + x).toNat v g
    exact putM_comm hl (by rw [K.eq]; exact hl) v g u k
  refine ⟨hb, hc, hk, hs, ?_⟩
  rw [putS_val hb, e1]
  exact (putM_ok (putM_ok K _ h3) _ hp).to
theorem lineTo_ok {l : MosaicC} (K : MOk l) {x0 y0 x1 y1 : Int} {vs : List Int} {g : Int} (hv : allIn vs 0 1000 = true) (hg : inR g 1 9 = true) : ∀ k, k ≤ vs.length → MOk (lineTo l x0 y0 x1 y1 vs g k)
  | 0, _ => K
  | k + 1, hk => by
    have ih := lineTo_ok K hv hg (x0 := x0) (y0 := y0) (x1 := x1) (y1 := y1) k (by omega)
    unfold lineTo
    split
    · refine putM_ok ih _ ?_
      unfold pixB
      have hm : vs.getD k 0 ∈ vs := by rw [getD_at (by omega)]; exact List.getElem_mem _
      unfold allIn at hv
      rw [List.all_eq_true] at hv
      rw [hv _ hm, hg]; rfl
    · exact ih
theorem line_ok {l : MosaicC} {x0 y0 x1 y1 : Int} {vs : List Int} {g : Int} (h : plC l x0 y0 x1 y1 vs g = 0) : mosOk (plR l x0 y0 x1 y1 vs g) = true := by
  unfold plC at h
  split at h
  · split at h
    · rename_i h1 h2
      rw [(pl_c h1 h2).1]
      unfold lineB okList at h2
      simp only [Bool.and_eq_true] at h2
      exact (lineTo_ok (MOk.of h1) h2.2.2.1.2 h2.2.2.2 _ (Nat.le_refl _)).to
    · cases h
  · cases h

set_option maxRecDepth 100000 in
set_option maxHeartbeats 1000000 in
theorem likeMosaics9_v (h k : MosaicH) (l : MosaicC) (w : World) (ok : MosaicOk h) (hr : RdAll w (MosaicS h l)) (kr : RdAll w (MosaicS k l)) :
    Calls Tryd.prog 12 #[MosaicV h l, MosaicV k l] w fun e w' => e = .returned (.bool true) ∧ Below w.heap.size w w' := by
  have h0 : Rd w h.values.A h.values.n (ints l.values) := hr.head
  have h1 : Rd w h.grades.A h.grades.n (ints l.grades) := hr.tail.head
  have k0 : Rd w k.values.A k.values.n (ints l.values) := kr.head
  have k1 : Rd w k.grades.A k.grades.n (ints l.grades) := kr.tail.head
  obtain ⟨m0, m1⟩ := ok
  obtain ⟨⟨A0, n0, c0⟩, ⟨A1, n1, c1⟩⟩ := h
  obtain ⟨⟨B0, q0, d0⟩, ⟨B1, q1, d1⟩⟩ := k
  simp only at *
  obtain rfl : n0 = q0 := h0.1.symm.trans k0.1
  obtain rfl : n1 = q1 := h1.1.symm.trans k1.1
  clear hr kr
  have K0 := (Blk.new w 26 #[.int .i64 l.wide, .int .i64 l.high, .slice A0 n0 c0, .slice A1 n1 c1]).alloc (.cells #[.int .i64 l.wide, .int .i64 l.high, .slice B0 n0 d0, .slice B1 n1 d1] 26)
  have K1 := Blk.newN (g := w.heap.size + 1) (w.alloc (.cells #[.int .i64 l.wide, .int .i64 l.high, .slice A0 n0 c0, .slice A1 n1 c1] 26)) 26 #[.int .i64 l.wide, .int .i64 l.high, .slice B0 n0 d0, .slice B1 n1 d1] (by simp)
  have b0 : Below w.heap.size w ((w.alloc (.cells #[.int .i64 l.wide, .int .i64 l.high, .slice A0 n0 c0, .slice A1 n1 c1] 26)).alloc (.cells #[.int .i64 l.wide, .int .i64 l.high, .slice B0 n0 d0, .slice B1 n1 d1] 26)) := (by (repeat (first | (with_reducible assumption) | (with_reducible exact Below.refl _ _) | (with_reducible refine Below.drew ?_) | (with_reducible refine Below.drewN ?_ _) | (with_reducible refine Below.setCell ?_ ?_ _) | (with_reducible refine Below.alloc ?_ ?_ _) | assumption)); all_goals (first | omega | (simp; done) | (simp; omega)))
  unfold MosaicV
  go_enter Tryd.func12, Tryd.ntmps12
  go_upto_region 1 with fail
  generalize (w.alloc (.cells #[.int .i64 l.wide, .int .i64 l.high, .slice A0 n0 c0, .slice A1 n1 c1] 26)).alloc (.cells #[.int .i64 l.wide, .int .i64 l.high, .slice B0 n0 d0, .slice B1 n1 d1] 26) = w1 at K0 K1 b0 ⊢
  have e0 := fun o => K0.cell o
  have e1 := fun o => K1.cell o
  have g0 := K0.lt
  have g1 := K1.lt
  go_wp2_with fail
  refine (likeInts_below _ _ _ _ _ l.values _ (by omega) (h0.below b0) (k0.below b0)).mono ?_
  rintro e w2 ⟨rfl, b2⟩
  have K0 := K0.below b2 g0
  have K1 := K1.below b2 g1
  have b3 := b0.trans (b2.mono b0.size)
  clear e0 e1 g0 g1 b2
  have e0 := fun o => K0.cell o
  have e1 := fun o => K1.cell o
  have g0 := K0.lt
  have g1 := K1.lt
  go_wp2_with fail
  refine (likeInts_below _ _ _ _ _ l.grades _ (by omega) (h1.below b3) (k1.below b3)).mono ?_
  rintro e w3 ⟨rfl, b4⟩
  go_wp2
  go_ret
  exact ⟨rfl, b3.trans (b4.mono b3.size)⟩
end Go.Proofs.YtilieonalmihaaaDoor
