/- Links: a link is finished: spec.FinishLink and impl.FinishLink compute the same. Condition: lists of at most 1048576 numbers. -/
import Derived.Test.YtfankajbddmdaaaLinkS
namespace Go.Proofs.Ytfankajbddmdaaa
open Go.RowKit

def ordL : List Int := [3, 1, 0, 5]
def finI (l : LinkC) : Nat := if canL l 3 = true then 0 else if canL l 1 = true then 1 else if canL l 0 = true then 2 else 3
theorem finI_le (l : LinkC) : finI l ≤ 3 := by unfold finI; (repeat' split) <;> omega
theorem finI_at (l : LinkC) : ordL.getD (finI l) 0 = finK l := by
  have e3 : canL l 3 = decide (0 < (l.acks.length : Int)) := by unfold canL; simp
  have e1 : canL l 1 = decide (0 < (l.packets.length : Int)) := by unfold canL; simp
  have e0 : canL l 0 = (decide (l.next < l.base + 3) && decide (l.next < (l.items.length : Int)) && decide ((l.packets.length : Int) < 24)) := by unfold canL; simp
  unfold finI finK
  rw [e3, e1, e0]
  by_cases h3 : 0 < l.acks.length
  · rw [if_pos (by simpa using h3), if_pos h3]; rfl
  · rw [if_neg (by simpa using h3), if_neg h3]
    by_cases h1 : 0 < l.packets.length
    · rw [if_pos (by simpa using h1), if_pos h1]; rfl
    · rw [if_neg (by simpa using h1), if_neg h1]
      have h24 : (l.packets.length : Int) < 24 := by omega
      by_cases h0 : l.next < l.base + 3 ∧ l.next < (l.items.length : Int)
      · rw [if_pos (by simp [h0.1, h0.2, h24]), if_pos h0]; rfl
      · rw [if_neg (by simp only [Bool.and_eq_true, decide_eq_true_eq]; exact fun c => h0 c.1), if_neg h0]; rfl
theorem finI_can (l : LinkC) : canL l (ordL.getD (finI l) 0) = true := by
  unfold finI
  split
  · assumption
  · split
    · assumption
    · split
      · assumption
      · rfl
theorem finI_not {l : LinkC} {j : Nat} (h : j < finI l) : canL l (ordL.getD j 0) = false := by
  rw [Bool.eq_false_iff]
  intro c
  unfold finI at h
  split at h
  · omega
  · rename_i h3
    split at h
    · obtain rfl : j = 0 := by omega
      exact h3 c
    · rename_i h1
      split at h
      · have : j = 0 ∨ j = 1 := by omega
        rcases this with rfl | rfl
        · exact h3 c
        · exact h1 c
      · rename_i h0
        have : j = 0 ∨ j = 1 ∨ j = 2 := by omega
        rcases this with rfl | rfl | rfl
        · exact h3 c
        · exact h1 c
        · exact h0 c
theorem ordL_in {j : Nat} (h : j < 4) : inR (ordL.getD j 0) 0 5 = true := by
  have : j = 0 ∨ j = 1 ∨ j = 2 ∨ j = 3 := by omega
  rcases this with rfl | rfl | rfl | rfl <;> rfl
theorem rd_ord (w : World) (e : TypeId) (g : Nat) (hg : w.heap.size = g) : Rd (w.alloc (.cells #[.int .i64 3, .int .i64 1, .int .i64 0, .int .i64 5] e)) (some ⟨g, 0, none⟩) 4 (ints ordL) := by
  subst hg
  exact (Blk.new w e #[.int .i64 3, .int .i64 1, .int .i64 0, .int .i64 5]).rd rfl (fun i hi => by
    match i, hi with
    | 0, _ => rfl
    | 1, _ => rfl
    | 2, _ => rfl
    | 3, _ => rfl)

set_option maxRecDepth 100000 in
set_option maxHeartbeats 1000000 in
theorem indexCan_any (A : Option Addr) (c : Nat) (h : LinkH) (l : LinkC) (w : World) (ok : LinkOk h) (K : LOk l) (hr : RdAll w (LinkS h l)) (s : Rd w A 4 (ints ordL)) :
    Calls Try.prog 65 #[.slice A 4 c, .func (.func 60) #[LinkV h l] #[]] w fun e w' => e = .returned (.int .i64 (finI l : Int)) ∧ Below w.heap.size w w' := by
  have HI := Lib.hid (finI_le l)
  have HC := Lib.hid (finI_can l)
  have HN : Hid (∀ j, j < finI l → canL l (ordL.getD j 0) = false) := fun j hj => finI_not hj
  unfold LinkV
  go_enter Try.func65, Try.ntmps65
  go_wp2
  go_loopw [8] (fun i wr => ∃ k : Nat, k ≤ finI l ∧ i = .int .i64 k ∧ Below w.heap.size w wr) (fun i _ => 4 - (intOf i).toNat)
  case atStart => exact ⟨0, Nat.zero_le _, rfl, Below.refl _ _⟩
  case round =>
    obtain ⟨k, hk, rfl, hb⟩ := hrel
    have hk4 : k < 4 := by have := HI.out; omega
    obtain ⟨ad, rfl, hx⟩ := (s.below hb).int hk4
    have hin := Lib.hid (ordL_in hk4)
    have i0 : (0 : Int) ≤ (k : Int) := by omega
    have i1 : (k : Int) < 4 := by omega
    by_cases hlt : k < finI l
    · have hcx := Lib.hid (HN.out k hlt)
      generalize ordL.getD k 0 = x at *
      go_wp2_with fail
      refine (can_any h l x _ ok K hin.out (hr.below hb)).mono ?_
      rintro e w2 ⟨rfl, b2⟩
      have hb2 := hb.trans (b2.mono hb.size)
      have hc := hcx.out
      clear b2 hb hx
      go_wp2
      go_roundw
      case rel => exact ⟨k + 1, by omega, by go_num, hb2⟩
      case measure => simp [intOf]; omega
    · obtain rfl : k = finI l := by omega
      generalize ordL.getD (finI l) 0 = x at *
      go_wp2_with fail
      refine (can_any h l x _ ok K hin.out (hr.below hb)).mono ?_
      rintro e w2 ⟨rfl, b2⟩
      have hb2 := hb.trans (b2.mono hb.size)
      have hc := HC.out
      clear b2 hb hx
      go_wp2
      go_ret
      exact ⟨rfl, hb2⟩

def finL (xs ks : List Int) : LinkC × Nat := finF 5000 (runTo xs ks ks.length) 0
def finR (xs ks : List Int) : LinkC := if runC xs ks = 0 then (finL xs ks).1 else zeroLink
def finN (xs ks : List Int) : Int := if runC xs ks = 0 then ((finL xs ks).2 : Int) else 0
def RetLinkN (l : LinkC) (n code : Int) (w : World) (e : Ending) (w' : World) : Prop :=
  ∃ k, e = .returned (.tuple #[LinkV k l, .int .i64 n, .int .i64 code]) ∧ LinkOk k ∧ RdAll w' (LinkS k l) ∧ WrAll w' w.heap.size (LinkS k l) ∧ Sep (LinkR k) ∧ Below w.heap.size w w'
theorem retLinkN_own {w w' : World} {k : LinkH} {l : LinkC} {n code : Int} (o : LinkOwn w' w.heap.size k l) (K : LOk l) (b : Below w.heap.size w w') : RetLinkN l n code w (.returned (.tuple #[LinkV k l, .int .i64 n, .int .i64 code])) w' :=
  ⟨k, rfl, o.ok K, o.rd, o.wr, o.sp, b⟩
theorem retLinkN_zero {w w' : World} {code : Int} (b : Below w.heap.size w w') : RetLinkN zeroLink 0 code w (.returned (.tuple #[.agg #[.slice none 0 0, .int .i64 0, .int .i64 0, .slice none 0 0, .slice none 0 0, .slice none 0 0], .int .i64 0, .int .i64 code])) w' := by
  obtain ⟨k, he, h1, h2, h3, h4, h5⟩ := retLink_zero (code := code) b
  unfold LinkV at he
  injection he with he
  injection he with he
  have hk : Value.agg #[.slice none 0 0, .int .i64 0, .int .i64 0, .slice none 0 0, .slice none 0 0, .slice none 0 0] = LinkV k zeroLink := by
    have := congrArg (fun a : Array Value => a[0]?) he
    simpa [LinkV] using this
  exact ⟨k, by rw [← hk], h1, h2, h3, h4, h5⟩
/-- what holds of a link that is being finished -/
def FinX (l0 l : LinkC) (q : Nat) : Prop := FinAt l0 l q ∧ LOk l
theorem finX_step {l0 l : LinkC} {q : Nat} (h : FinX l0 l q) (hb : l.base < l.items.length) : canL l (ordL.getD (finI l) 0) = true ∧ FinX l0 (stepL l (ordL.getD (finI l) 0)) (q + 1) ∧ q < 5000 := by
  obtain ⟨h1, h2⟩ := h
  have := finAt_step h1 hb
  rw [← finI_at] at this
  exact ⟨this.1, ⟨this.2.1, stepL_ok h2 (ordL_in (by have := finI_le l; omega)) this.1⟩, this.2.2⟩
theorem finX_start {xs ks : List Int} (hx : okList xs 20 0 255 = true) (hk : allIn ks 0 5 = true) : FinX (runTo xs ks ks.length) (runTo xs ks ks.length) 0 := by
  have h := runTo_ok hx hk ks.length (Nat.le_refl _)
  exact ⟨finAt_start h.2.1 h.1.np h.1.na, h.1⟩
theorem runC_yes {xs ks : List Int} (h : runC xs ks = 0) : okList xs 20 0 255 = true ∧ allIn ks 0 5 = true := by
  unfold runC at h
  refine ⟨Decidable.byContradiction fun c => ?_, Decidable.byContradiction fun c => ?_⟩
  · rw [if_neg c] at h; cases h
  · by_cases h1 : okList xs 20 0 255 = true
    · rw [if_pos h1, if_neg c] at h; cases h
    · rw [if_neg h1] at h; cases h
theorem runC_no {xs ks : List Int} (h : ¬ runC xs ks = 0) : runC xs ks = 1 ∨ runC xs ks = 2 ∨ runC xs ks = 3 := by
  unfold runC at h ⊢
  (repeat' split) <;> simp_all

set_option maxRecDepth 100000 in
set_option maxHeartbeats 4000000 in
theorem specFinishLink'_any (h : Hd) (xs : List Int) (h' : Hd) (ks : List Int) (w : World) (ok : IntsOk h) (hr : RdAll w (IntsS h xs)) (ok' : IntsOk h') (hr' : RdAll w (IntsS h' ks)) :
    Calls Try.prog 30 #[IntsV h, IntsV h'] w (RetLinkN (finR xs ks) (finN xs ks) (runC xs ks) w) := by
  have hb0 : Below w.heap.size w (w.alloc (.cells #[.slice none 0 0, .int .i64 0, .int .i64 0, .slice none 0 0, .slice none 0 0, .slice none 0 0] 25)) := (Below.refl _ _).alloc (Nat.le_refl _) _
  by_cases hno : runC xs ks = 0
  case neg =>
    have HZ : Hid (finR xs ks = zeroLink ∧ finN xs ks = 0) := by unfold Hid finR finN; rw [if_neg hno, if_neg hno]; exact ⟨rfl, rfl⟩
    have HV := runC_no hno
    clear hno
    rcases HV with e | e | e
    all_goals
      unfold IntsV
      go_enter Try.func30, Try.ntmps30
      go_wp2_with (go_at_call 61; refine (l29Code_any h h' xs ks _ ok ok' (hr.below hb0) (hr'.below hb0)).mono ?_; rintro e w' ⟨rfl, rfl⟩)
      first
        | (refine bodyPost_ret (v := .tuple #[.agg #[.slice none 0 0, .int .i64 0, .int .i64 0, .slice none 0 0, .slice none 0 0, .slice none 0 0], .int .i64 0, .int .i64 1]) (by simp [results, Try.results30, go_sem]) rfl ?_; rw [HZ.out.1, HZ.out.2, e]; exact retLinkN_zero hb0)
        | (refine bodyPost_ret (v := .tuple #[.agg #[.slice none 0 0, .int .i64 0, .int .i64 0, .slice none 0 0, .slice none 0 0, .slice none 0 0], .int .i64 0, .int .i64 2]) (by simp [results, Try.results30, go_sem]) rfl ?_; rw [HZ.out.1, HZ.out.2, e]; exact retLinkN_zero hb0)
        | (refine bodyPost_ret (v := .tuple #[.agg #[.slice none 0 0, .int .i64 0, .int .i64 0, .slice none 0 0, .slice none 0 0, .slice none 0 0], .int .i64 0, .int .i64 3]) (by simp [results, Try.results30, go_sem]) rfl ?_; rw [HZ.out.1, HZ.out.2, e]; exact retLinkN_zero hb0)
  have HY := Lib.hid (runC_yes hno)
  have HFR : Hid (finR xs ks = (finL xs ks).1 ∧ finN xs ks = ((finL xs ks).2 : Int) ∧ runC xs ks = 0) := by unfold Hid finR finN; rw [if_pos hno, if_pos hno]; exact ⟨rfl, rfl, hno⟩
  have HF0 := Lib.hid (finX_start HY.out.1 HY.out.2)
  unfold IntsV
  go_enter Try.func30, Try.ntmps30
  go_wp2_with (go_at_call 61; refine (l29Code_any h h' xs ks _ ok ok' (hr.below hb0) (hr'.below hb0)).mono ?_; rintro e w' ⟨rfl, rfl⟩)
  refine (l29Run_any h h' xs ks _ ok ok' (hr.below hb0) (hr'.below hb0) HY.out.1 HY.out.2).mono ?_
  rintro e w1 ⟨k, he, ow, b1⟩
  unfold LinkV at he
  subst he
  have KR : Blk w1 w.heap.size 25 #[.slice none 0 0, .int .i64 0, .int .i64 0, .slice none 0 0, .slice none 0 0, .slice none 0 0] := Blk.below (Blk.newN _ _ _ rfl) b1 (by first | omega | (simp; done) | (simp; omega))
  have hb1 : Below w.heap.size w w1 := hb0.trans (b1.mono (by first | omega | (simp; done) | (simp; omega)))
  have OW := ow.mono (show w.heap.size + 1 ≤ _ from (by first | omega | (simp; done) | (simp; omega)))
  have z1 : w.heap.size + 1 ≤ w1.heap.size := Nat.le_trans (by first | omega | (simp; done) | (simp; omega)) b1.size
  clear b1 ow hb0
  have HDef : Hid (∀ l q, FinX (runTo xs ks ks.length) l q → ¬ l.base < l.items.length → finL xs ks = (l, q)) := fun l q hq hb => finAt_end hq.1 hb
  generalize runTo xs ks ks.length = l0 at *
  go_wp2_with fail
  have BB : Below w1.heap.size w1 (w1.alloc (.cells #[.slice k.items.A k.items.n k.items.c, .int .i64 l0.base, .int .i64 l0.next, .slice k.packets.A k.packets.n k.packets.c, .slice k.acks.A k.acks.n k.acks.c, .slice k.got.A k.got.n k.got.c] 25)) := (Below.refl _ _).alloc (Nat.le_refl _) _
  have X0 : LinkBox (w1.alloc (.cells #[.slice k.items.A k.items.n k.items.c, .int .i64 l0.base, .int .i64 l0.next, .slice k.packets.A k.packets.n k.packets.c, .slice k.acks.A k.acks.n k.acks.c, .slice k.got.A k.got.n k.got.c] 25)) (w.heap.size + 1) w1.heap.size k l0 := ⟨Blk.newN _ _ _ rfl, OW.below BB, z1, fun s hs c => by have := (OW.blt s hs _ c).2; omega⟩
  have B2 : Below (w1.alloc (.cells #[.slice k.items.A k.items.n k.items.c, .int .i64 l0.base, .int .i64 l0.next, .slice k.packets.A k.packets.n k.packets.c, .slice k.acks.A k.acks.n k.acks.c, .slice k.got.A k.got.n k.got.c] 25)).heap.size (w1.alloc (.cells #[.slice k.items.A k.items.n k.items.c, .int .i64 l0.base, .int .i64 l0.next, .slice k.packets.A k.packets.n k.packets.c, .slice k.acks.A k.acks.n k.acks.c, .slice k.got.A k.got.n k.got.c] 25)) ((w1.alloc (.cells #[.slice k.items.A k.items.n k.items.c, .int .i64 l0.base, .int .i64 l0.next, .slice k.packets.A k.packets.n k.packets.c, .slice k.acks.A k.acks.n k.acks.c, .slice k.got.A k.got.n k.got.c] 25)).alloc (.cells #[.int .i64 3, .int .i64 1, .int .i64 0, .int .i64 5] 2)) := (Below.refl _ _).alloc (Nat.le_refl _) _
  have X1 := X0.below B2
  have S1 : Rd ((w1.alloc (.cells #[.slice k.items.A k.items.n k.items.c, .int .i64 l0.base, .int .i64 l0.next, .slice k.packets.A k.packets.n k.packets.c, .slice k.acks.A k.acks.n k.acks.c, .slice k.got.A k.got.n k.got.c] 25)).alloc (.cells #[.int .i64 3, .int .i64 1, .int .i64 0, .int .i64 5] 2)) (some ⟨w1.heap.size + 1, 0, none⟩) 4 (ints ordL) := rd_ord _ _ _ (by simp)
  have KR1 := (KR.below BB (by omega)).below B2 (by have := BB.size; omega)
  have hb2 := (hb1.trans (BB.mono hb1.size)).trans (B2.mono (by have := BB.size; have := hb1.size; omega))
  have hz2 : w1.heap.size + 1 < ((w1.alloc (.cells #[.slice k.items.A k.items.n k.items.c, .int .i64 l0.base, .int .i64 l0.next, .slice k.packets.A k.packets.n k.packets.c, .slice k.acks.A k.acks.n k.acks.c, .slice k.got.A k.got.n k.got.c] 25)).alloc (.cells #[.int .i64 3, .int .i64 1, .int .i64 0, .int .i64 5] 2)).heap.size := by simp
  clear KR hb1 OW BB X0 B2
  generalize (w1.alloc (.cells #[.slice k.items.A k.items.n k.items.c, .int .i64 l0.base, .int .i64 l0.next, .slice k.packets.A k.packets.n k.packets.c, .slice k.acks.A k.acks.n k.acks.c, .slice k.got.A k.got.n k.got.c] 25)).alloc (.cells #[.int .i64 3, .int .i64 1, .int .i64 0, .int .i64 5] 2) = w3 at X1 S1 KR1 hb2 hz2 ⊢
  go_loopw [10] (fun i wr => ∃ (q : Nat) (kk : LinkH) (l : LinkC), i = .int .i64 q ∧ FinX l0 l q ∧ LinkBox wr (w.heap.size + 1) w1.heap.size kk l ∧ Rd wr (some ⟨w1.heap.size + 1, 0, none⟩) 4 (ints ordL) ∧ Blk wr w.heap.size 25 #[.slice none 0 0, .int .i64 0, .int .i64 0, .slice none 0 0, .slice none 0 0, .slice none 0 0] ∧ Below w.heap.size w wr) (fun i _ => 5000 - (intOf i).toNat)
  case atStart => exact ⟨0, _, _, rfl, HF0.out, X1, S1, KR1, hb2⟩
  case round =>
    clear X1 S1 KR1 hb2 hz2
    obtain ⟨wo, rfl⟩ : ∃ wo : World, wo = wr := ⟨_, rfl⟩
    obtain ⟨q, kk, l, rfl, hF, X, S, KR, hb⟩ := hrel
    have cX := fun o => X.box.cell o
    have gX := X.box.lt
    have cR := fun o => KR.cell o
    have fR := fun o => KR.frozen o
    have gR := KR.lt
    unfold LinkCells at cX
    have hOK := Lib.hid (X.own.ok hF.2)
    have hLen : Hid (l.items.length = kk.items.n) := X.own.items.rd1.len
    have HF := Lib.hid hF
    have hq5 := hF.1.1
    clear hF
    by_cases hlt : l.base < (kk.items.n : Int)
    · have HST := Lib.hid (finX_step HF.out (by rw [hLen.out]; exact hlt))
      have hq4 : q < 5000 := HST.out.2.2
      have HI := Lib.hid (finI_le l)
      have HN : Hid (∀ j, j < finI l → canL l (ordL.getD j 0) = false) := fun j hj => finI_not hj
      go_wp2_with fail
      go_loopw [11] (fun i wr => ∃ j : Nat, j ≤ finI l ∧ i = .int .i64 j ∧ Below wo.heap.size wo wr) (fun i _ => 4 - (intOf i).toNat)
      case atStart => exact ⟨0, Nat.zero_le _, rfl, Below.refl _ _⟩
      case round =>
        clear cX gX cR fR gR
        obtain ⟨j, hj, rfl, hbo⟩ := hrel
        have hj4 : j < 4 := by have := HI.out; omega
        have Xi := X.below hbo
        have KRi := KR.below hbo KR.lt
        have Si := S.below hbo
        have hbi := hb.trans (hbo.mono hb.size)
        obtain ⟨_, ⟨⟩, hx⟩ := Si.int hj4
        rw [Addr.add_lit, Nat.zero_add] at hx
        have hin := Lib.hid (ordL_in hj4)
        have i0 : (0 : Int) ≤ (j : Int) := by omega
        have i1 : (j : Int) < 4 := by omega
        have cX := fun o => Xi.box.cell o
        have gX := Xi.box.lt
        unfold LinkCells at cX
        by_cases hjl : j < finI l
        · have hcx := Lib.hid (HN.out j hjl)
          generalize ordL.getD j 0 = x at *
          go_wp2_with fail
          go_still_tail 5, (by kernel_rfl)
          have D : LinkBox wr.drew (w.heap.size + 1) w1.heap.size kk l := Xi.drew
          have db : Below wo.heap.size wo wr.drew := Below.drew hbo
          change wpList _ _ _ _ _ wr.drew
          generalize wr.drew = w4 at D db ⊢
          clear Xi KRi Si hbi hx cX gX
          go_wp2_with fail
          refine (l29Can_any kk l x _ hOK.out HF.out.2 hin.out D.own.rd).mono ?_
          rintro e w5 ⟨rfl, b5⟩
          have hb5 := db.trans (b5.mono db.size)
          have hc := hcx.out
          clear b5 db D
          go_wp2
          go_roundw
          case rel => exact ⟨j + 1, by omega, by go_num, hb5⟩
          case measure => simp [intOf]; omega
        · obtain rfl : j = finI l := by omega
          generalize ordL.getD (finI l) 0 = x at *
          go_wp2_with fail
          go_still_tail 5, (by kernel_rfl)
          have D : LinkBox wr.drew (w.heap.size + 1) w1.heap.size kk l := Xi.drew
          have db : Below w.heap.size w wr.drew := Below.drew hbi
          have DR : Blk wr.drew w.heap.size _ _ := KRi
          have DS : Rd wr.drew (some ⟨w1.heap.size + 1, 0, none⟩) 4 (ints ordL) := Si
          have hx2 : wr.drew.cell? ⟨w1.heap.size + 1, finI l, none⟩ = some (.int .i64 x) := hx
          change wpList _ _ _ _ _ wr.drew
          generalize wr.drew = w4 at D db DR DS hx2 ⊢
          clear Xi KRi Si hbi hx cX gX
          go_wp2_with fail
          refine (l29Can_any kk l x _ hOK.out HF.out.2 hin.out D.own.rd).mono ?_
          rintro e w5 ⟨rfl, b5⟩
          have D5 := D.below b5
          have DR5 := DR.below b5 DR.lt
          have DS5 := DS.below b5
          have db5 := db.trans (b5.mono db.size)
          have hx5 : w5.cell? ⟨w1.heap.size + 1, finI l, none⟩ = some (.int .i64 x) := by
            rw [b5.cell (World.block_lt_of_cell? w4 _ hx2)]
            exact hx2
          have hc := HST.out.1
          clear b5 db D DR DS hx2
          have cX := fun o => D5.box.cell o
          have fX := fun o => D5.box.frozen o
          have gX := D5.box.lt
          unfold LinkCells at cX
          go_wp2_with fail
          go_still_tail 5, (by kernel_rfl)
          have E : LinkBox w5.drew (w.heap.size + 1) w1.heap.size kk l := D5.drew
          have eR : Blk w5.drew w.heap.size _ _ := DR5
          have eS : Rd w5.drew (some ⟨w1.heap.size + 1, 0, none⟩) 4 (ints ordL) := DS5
          have eb := Below.drew db5
          change wpList _ _ _ _ _ w5.drew
          generalize w5.drew = w6 at E eR eS eb ⊢
          clear D5 DR5 DS5 db5 cX fX gX hx5 hc
          go_wp2_with fail
          refine (l29Step_any kk l x _ hOK.out HF.out.2 hin.out HST.out.1 E.own.rd).mono ?_
          rintro e w7 ⟨k7, he, ow7, b7⟩
          unfold LinkV at he
          subst he
          have B7 := E.box.below b7 E.box.lt
          have f7 := fun o => B7.frozen o
          have c7 := fun o => B7.cell o
          have g7 := B7.lt
          have gE := E.box.lt
          have eR7 := eR.below b7 eR.lt
          have eS7 := eS.below b7
          have eb7 := eb.trans (b7.mono eb.size)
          unfold LinkCells at c7
          clear eR eb eS
          go_wp2
          go_roundw
          case rel =>
            refine ⟨q + 1, k7, stepL l x, by go_num, HST.out.2.1, ?_, ?_, ?_, ?_⟩
            · refine ⟨?_, ?_, z1, fun s hs c => by have := (ow7.blt s hs _ c).1; omega⟩
              · rw [LinkCells_eq] at B7 ⊢
                exact Blk.set6 B7
              · exact (ow7.above (D := w6.heap.size) (by repeat (first | (refine Above.setCell ?_ (by first | omega | (simp; done) | (simp; omega)) _) | exact Above.refl _ _)) (Nat.le_refl _)).mono (by have := eb7.size; omega)
            · refine eS7.keep fun ad e _ => ?_
              cases e
              (repeat (first | (refine (Below.heap_setCell _ _ _ _ (by simp)).trans ?_) | rfl))
            · repeat (refine Blk.far ?_ (by first | omega | (simp; done) | (simp; omega)) _)
              exact eR7
            · exact (by (repeat (first | (with_reducible assumption) | (with_reducible exact Below.refl _ _) | (with_reducible refine Below.drew ?_) | (with_reducible refine Below.drewN ?_ _) | (with_reducible refine Below.setCell ?_ ?_ _) | (with_reducible refine Below.alloc ?_ ?_ _) | assumption)); all_goals (first | omega | (simp; done) | (simp; omega)))
          case measure => simp [intOf]; omega
    · have HE := HDef.out l q HF.out (by rw [hLen.out]; omega)
      have HE1 := Lib.hid HE
      clear HE
      go_wp2
      rw [HFR.out.1, HFR.out.2.1, HE1.out]
      refine bodyPost_ret (v := .tuple #[.agg #[.slice kk.items.A kk.items.n kk.items.c, .int .i64 l.base, .int .i64 l.next, .slice kk.packets.A kk.packets.n kk.packets.c, .slice kk.acks.A kk.acks.n kk.acks.c, .slice kk.got.A kk.got.n kk.got.c], .int .i64 q, .int .i64 0]) (by simp [results, Try.results30, go_sem, cR]) rfl ?_
      exact retLinkN_own ((X.own.above (D := w.heap.size + 1) (by repeat (first | (refine Above.setCell ?_ (by first | omega | (simp; done) | (simp; omega)) _) | exact Above.refl _ _)) (Nat.le_refl _)).mono (by first | omega | (simp; done) | (simp; omega))) HF.out.2 (by (repeat (first | (with_reducible assumption) | (with_reducible exact Below.refl _ _) | (with_reducible refine Below.drew ?_) | (with_reducible refine Below.drewN ?_ _) | (with_reducible refine Below.setCell ?_ ?_ _) | (with_reducible refine Below.alloc ?_ ?_ _) | assumption)); all_goals (first | omega | (simp; done) | (simp; omega)))
end Go.Proofs.Ytfankajbddmdaaa
