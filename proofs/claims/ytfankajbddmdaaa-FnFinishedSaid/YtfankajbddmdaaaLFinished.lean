/- The law FnFinished, walked. No condition beyond what an argument of its type bears. -/
import Derived.Test.YtfankajbddmdaaaLLinks
namespace Go.Proofs.Ytfankajbddmdaaa
open Go.RowKit

set_option maxHeartbeats 1000000 in
theorem drawFinishLink_any (A : Option Addr) (n c : Nat) (bs : List Int) (w : World) (r : Rd w A n (byteV bs)) (hx : ∀ x ∈ bs, 0 ≤ x ∧ x ≤ 255) (hn : n ≤ 4096) :
    Calls Try.prog 38 #[.slice A n c] w (DrawLinkPost w) := by
  go_enter Try.func38, Try.ntmps38
  go_wp2_with fail
  refine (drawRunLink_any A n c bs _ r hx hn).mono ?_
  rintro e w1 ⟨h, xs, h', ks, rfl, h1, h2, h3, h4, h5, h6, h7⟩
  go_wp2
  go_ret2
  exact ⟨h, xs, h', ks, rfl, h1, h2, h3, h4, h5, h6, h7⟩
def DrawItemsPost (w : World) (e : Ending) (w' : World) : Prop :=
  ∃ (h : Hd) (xs : List Int), e = .returned (.slice h.A h.n h.c) ∧ h.n ≤ 21 ∧ RdAll w' (IntsS h xs) ∧ Below w.heap.size w w'
set_option maxHeartbeats 1000000 in
theorem drawNewLink_any (A : Option Addr) (n c : Nat) (bs : List Int) (w : World) (r : Rd w A n (byteV bs)) (hx : ∀ x ∈ bs, 0 ≤ x ∧ x ≤ 255) (hn : n ≤ 4096) :
    Calls Try.prog 39 #[.slice A n c] w (DrawItemsPost w) := by
  go_enter Try.func39, Try.ntmps39
  go_wp2_with fail
  refine (l01From_any A n c bs _ r hx hn).mono ?_
  rintro e w1 ⟨g, rfl, S1, b1⟩
  go_wp2_with fail
  refine (l29DrawItems_any _ g _ S1).mono ?_
  rintro e w2 ⟨h, xs, rfl, hh, L2⟩
  have hge := S1.lt.2
  have b2 : Below w.heap.size w w2 := bstepg b1 L2.gr (Nat.le_refl _) (fun k e => by injection e with e; omega)
  go_wp2
  go_ret
  exact ⟨h, xs, rfl, hh, RdAll.cons (s := ⟨h.A, h.n, ints xs⟩) L2.own.rd1 (RdAll.nil _), b2⟩
theorem stepL_items (l : LinkC) (k : Int) : (stepL l k).items = l.items := by unfold stepL; (repeat' split) <;> rfl
theorem finF_done : ∀ (f : Nat) (l : LinkC) (c : Nat) (r : Nat) (pk ak : List Nat), LInv l r pk ak → muL l r pk ak ≤ f →
    (∃ r' pk' ak', LInv (finF f l c).1 r' pk' ak') ∧ ¬ (finF f l c).1.base < (finF f l c).1.items.length ∧ (finF f l c).1.items = l.items
  | 0, l, c, r, pk, ak, h, hm => by
    have hb : ¬ l.base < l.items.length := fun hb => by
      obtain ⟨_, _, _, _, _, h2⟩ := fin_lower h hb
      omega
    exact ⟨⟨r, pk, ak, h⟩, hb, rfl⟩
  | f + 1, l, c, r, pk, ak, h, hm => by
    by_cases hb : l.base < l.items.length
    · obtain ⟨_, r', pk', ak', h1, h2⟩ := fin_lower h hb
      have ih := finF_done f (stepL l (finK l)) (c + 1) r' pk' ak' h1 (by omega)
      have e : finF (f + 1) l c = finF f (stepL l (finK l)) (c + 1) := by
        show (if l.base < l.items.length then _ else _) = _
        rw [if_pos hb]
      rw [e]
      exact ⟨ih.1, ih.2.1, ih.2.2.trans (stepL_items _ _)⟩
    · rw [finF_stop hb]
      exact ⟨⟨r, pk, ak, h⟩, hb, rfl⟩
structure FinFact (xs : List Int) (l : LinkC) (n : Int) : Prop where
  got : l.got = xs
  base : l.base = (xs.length : Int)
  n0 : 0 ≤ n
theorem fin_fact {xs ks : List Int} (h : runC xs ks = 0) : FinFact xs (finR xs ks) (finN xs ks) := by
  have hy := runC_yes h
  have e1 : finR xs ks = (finL xs ks).1 := by unfold finR; rw [if_pos h]
  have e2 : finN xs ks = ((finL xs ks).2 : Int) := by unfold finN; rw [if_pos h]
  obtain ⟨h1, h2, h3⟩ := runTo_ok hy.1 hy.2 ks.length (Nat.le_refl _)
  obtain ⟨_, _, r, pk, ak, I, hm⟩ := finAt_start h2 h1.np h1.na
  obtain ⟨⟨r', pk', ak', J⟩, hb, hi⟩ := finF_done 5000 _ 0 r pk ak I (by omega)
  have hL : finF 5000 (runTo xs ks ks.length) 0 = finL xs ks := rfl
  rw [hL] at J hb hi
  rw [e1, e2]
  generalize (finL xs ks).1 = l at *
  rw [h3] at hi
  subst hi
  have g1 := J.br
  have g2 := J.rn
  refine ⟨?_, by omega, by omega⟩
  rw [J.got, List.take_of_length_le (by omega)]

set_option maxRecDepth 100000 in
set_option maxHeartbeats 8000000 in
theorem FnFinished_walk (w : World) (A : Option Addr) (n c : Nat) (zs : List Int) (G : ArgB w A n c zs) :
    Calls Try.prog 11 #[.slice A n c] w fun e w' => e = .returned (.bool true) ∧ Below w.heap.size w w' := by
  have hmx := G.max
  by_cases hb : (4096 : Int) < (n : Int)
  · go_enter Try.func11, Try.ntmps11
    go_wp2_with (go_at_call 34; refine (big_any _ _ _ _ (by omega)).mono ?_; rintro e w' ⟨rfl, rfl⟩)
    go_ret
    exact ⟨rfl, Below.refl _ _⟩
  have hbd : decide ((4096 : Int) < (n : Int)) = false := by simpa using hb
  go_enter Try.func11, Try.ntmps11
  go_wp2_with fail
  refine (big_any _ _ _ _ (by omega)).mono ?_
  rintro e w' ⟨rfl, rfl⟩
  go_wp2_with fail
  refine (drawFinishLink_any A n c zs _ G.rd G.byte (by omega)).mono ?_
  rintro e w1 ⟨⟨A0, n0, c0⟩, xs, ⟨A1, n1, c1⟩, ks, rfl, hn0, hn1, hnc, hcm, R0, R1, b1⟩
  simp only at hn0 hn1 hnc hcm
  have n4 : n ≤ 4096 := by omega
  clear hbd hb
  have ok0 : IntsOk ⟨A0, n0, c0⟩ := by unfold IntsOk; simp only; omega
  have ok1 : IntsOk ⟨A1, n1, c1⟩ := by unfold IntsOk; simp only; omega
  have CI := fun W (h1 : RdAll W (IntsS ⟨A0, n0, c0⟩ xs)) (h2 : RdAll W (IntsS ⟨A1, n1, c1⟩ ks)) => implFinishLink'_any ⟨A0, n0, c0⟩ xs ⟨A1, n1, c1⟩ ks W ok0 h1 ok1 h2
  have CS := fun W (h1 : RdAll W (IntsS ⟨A0, n0, c0⟩ xs)) (h2 : RdAll W (IntsS ⟨A1, n1, c1⟩ ks)) => specFinishLink'_any ⟨A0, n0, c0⟩ xs ⟨A1, n1, c1⟩ ks W ok0 h1 ok1 h2
  have HF : Hid (runC xs ks = 0 → FinFact xs (finR xs ks) (finN xs ks)) := fun h => fin_fact h
  have HXL : Hid (xs.length = n0) := R0.head.len
  generalize finR xs ks = l at *
  generalize finN xs ks = nn at *
  generalize runC xs ks = cc at *
  go_wp2_with fail
  refine (CI _ R0 R1).mono ?_
  rintro e w2 ⟨k2, he2, ok2, R2, -, -, b2⟩
  unfold LinkV at he2
  subst he2
  have S0 := R0.below b2
  have S1 := R1.below b2
  have hb2 := b1.trans (b2.mono b1.size)
  clear R0 R1 b1 b2
  go_wp2_with fail
  have BB : Below w2.heap.size w2 (w2.alloc (.cells #[.slice k2.items.A k2.items.n k2.items.c, .int .i64 l.base, .int .i64 l.next, .slice k2.packets.A k2.packets.n k2.packets.c, .slice k2.acks.A k2.acks.n k2.acks.c, .slice k2.got.A k2.got.n k2.got.c] 25)) := (Below.refl _ _).alloc (Nat.le_refl _) _
  have K2 : Blk (w2.alloc (.cells #[.slice k2.items.A k2.items.n k2.items.c, .int .i64 l.base, .int .i64 l.next, .slice k2.packets.A k2.packets.n k2.packets.c, .slice k2.acks.A k2.acks.n k2.acks.c, .slice k2.got.A k2.got.n k2.got.c] 25)) w2.heap.size 25 #[.slice k2.items.A k2.items.n k2.items.c, .int .i64 l.base, .int .i64 l.next, .slice k2.packets.A k2.packets.n k2.packets.c, .slice k2.acks.A k2.acks.n k2.acks.c, .slice k2.got.A k2.got.n k2.got.c] := Blk.newN _ _ _ rfl
  refine (CS _ (S0.below BB) (S1.below BB)).mono ?_
  rintro e w3 ⟨k3, he3, ok3, R3, -, -, b3⟩
  unfold LinkV at he3
  subst he3
  have b23 := BB.trans (b3.mono BB.size)
  have hb3 := hb2.trans (b23.mono hb2.size)
  have T0 := S0.below b23
  have T2 := R2.below b23
  have K3 := K2.below b3 K2.lt
  clear S0 S1 R2 BB b3 b23 hb2 CI CS K2
  go_wp2_with fail
  have BB : Below w3.heap.size w3 (w3.alloc (.cells #[.slice k3.items.A k3.items.n k3.items.c, .int .i64 l.base, .int .i64 l.next, .slice k3.packets.A k3.packets.n k3.packets.c, .slice k3.acks.A k3.acks.n k3.acks.c, .slice k3.got.A k3.got.n k3.got.c] 25)) := (Below.refl _ _).alloc (Nat.le_refl _) _
  have M3 : Blk (w3.alloc (.cells #[.slice k3.items.A k3.items.n k3.items.c, .int .i64 l.base, .int .i64 l.next, .slice k3.packets.A k3.packets.n k3.packets.c, .slice k3.acks.A k3.acks.n k3.acks.c, .slice k3.got.A k3.got.n k3.got.c] 25)) w3.heap.size 25 #[.slice k3.items.A k3.items.n k3.items.c, .int .i64 l.base, .int .i64 l.next, .slice k3.packets.A k3.packets.n k3.packets.c, .slice k3.acks.A k3.acks.n k3.acks.c, .slice k3.got.A k3.got.n k3.got.c] := Blk.newN _ _ _ rfl
  have hb4 := hb3.trans (BB.mono hb3.size)
  refine (drawNewLink_any A n c zs _ (G.rd.below hb4) G.byte n4).mono ?_
  rintro e w4 ⟨⟨A2, n2, c2⟩, ys, rfl, hn2, Y0, b4⟩
  simp only at hn2
  have ok4 : IntsOk ⟨A2, n2, c2⟩ := by unfold IntsOk; simp only; omega
  have b34 := BB.trans (b4.mono BB.size)
  have hb5 := hb3.trans (b34.mono hb3.size)
  have U0 := T0.below b34
  have U2 := T2.below b34
  have U3 := R3.below b34
  have K4 := K3.below b34 K3.lt
  have M4 := M3.below b4 M3.lt
  clear T0 T2 R3 BB b4 b34 hb3 hb4 K3 M3
  have CI := fun W (h1 : RdAll W (IntsS ⟨A2, n2, c2⟩ ys)) => implNewLink'_any ⟨A2, n2, c2⟩ ys W ok4 h1
  have CS := fun W (h1 : RdAll W (IntsS ⟨A2, n2, c2⟩ ys)) => specNewLink'_any ⟨A2, n2, c2⟩ ys W ok4 h1
  generalize newLinkR ys = l2 at *
  generalize newLinkC ys = c9 at *
  go_wp2_with fail
  refine (CI _ Y0).mono ?_
  rintro e w5 ⟨k5, he5, ok5, R5, -, -, b5⟩
  unfold LinkV at he5
  subst he5
  have hb6 := hb5.trans (b5.mono hb5.size)
  have V0 := U0.below b5
  have V2 := U2.below b5
  have V3 := U3.below b5
  have K5 := K4.below b5 K4.lt
  have M5 := M4.below b5 M4.lt
  have Y1 := Y0.below b5
  clear U0 U2 U3 K4 M4 Y0 b5 hb5
  go_wp2_with fail
  have BB : Below w5.heap.size w5 (w5.alloc (.cells #[.slice k5.items.A k5.items.n k5.items.c, .int .i64 l2.base, .int .i64 l2.next, .slice k5.packets.A k5.packets.n k5.packets.c, .slice k5.acks.A k5.acks.n k5.acks.c, .slice k5.got.A k5.got.n k5.got.c] 25)) := (Below.refl _ _).alloc (Nat.le_refl _) _
  have N5 : Blk (w5.alloc (.cells #[.slice k5.items.A k5.items.n k5.items.c, .int .i64 l2.base, .int .i64 l2.next, .slice k5.packets.A k5.packets.n k5.packets.c, .slice k5.acks.A k5.acks.n k5.acks.c, .slice k5.got.A k5.got.n k5.got.c] 25)) w5.heap.size 25 #[.slice k5.items.A k5.items.n k5.items.c, .int .i64 l2.base, .int .i64 l2.next, .slice k5.packets.A k5.packets.n k5.packets.c, .slice k5.acks.A k5.acks.n k5.acks.c, .slice k5.got.A k5.got.n k5.got.c] := Blk.newN _ _ _ rfl
  refine (CS _ (Y1.below BB)).mono ?_
  rintro e w6 ⟨k6, he6, ok6, R6, -, -, b6⟩
  unfold LinkV at he6
  subst he6
  have b56 := BB.trans (b6.mono BB.size)
  have hb7 := hb6.trans (b56.mono hb6.size)
  have X0 := V0.below b56
  have X2 := V2.below b56
  have X3 := V3.below b56
  have X5 := R5.below b56
  have K6 := K5.below b56 K5.lt
  have M6 := M5.below b56 M5.lt
  have N6 := N5.below b6 N5.lt
  clear V0 V2 V3 R5 K5 M5 N5 Y1 BB b6 b56 hb6 CI CS
  have cK := fun o => K6.cell o
  have cM := fun o => M6.cell o
  have gK := K6.lt
  have gM := M6.lt
  go_wp2_with fail
  have BB : Below w6.heap.size w6 (w6.alloc (.cells #[.slice k6.items.A k6.items.n k6.items.c, .int .i64 l2.base, .int .i64 l2.next, .slice k6.packets.A k6.packets.n k6.packets.c, .slice k6.acks.A k6.acks.n k6.acks.c, .slice k6.got.A k6.got.n k6.got.c] 25)) := (Below.refl _ _).alloc (Nat.le_refl _) _
  have P6 : Blk (w6.alloc (.cells #[.slice k6.items.A k6.items.n k6.items.c, .int .i64 l2.base, .int .i64 l2.next, .slice k6.packets.A k6.packets.n k6.packets.c, .slice k6.acks.A k6.acks.n k6.acks.c, .slice k6.got.A k6.got.n k6.got.c] 25)) w6.heap.size 25 #[.slice k6.items.A k6.items.n k6.items.c, .int .i64 l2.base, .int .i64 l2.next, .slice k6.packets.A k6.packets.n k6.packets.c, .slice k6.acks.A k6.acks.n k6.acks.c, .slice k6.got.A k6.got.n k6.got.c] := Blk.newN _ _ _ rfl
  refine (likeLinks5_any k2 k3 l _ ok2 (X2.below BB) (X3.below BB)).mono ?_
  rintro e w7 ⟨rfl, b7⟩
  have b67 := BB.trans (b7.mono BB.size)
  have hb8 := hb7.trans (b67.mono hb7.size)
  have Z0 := X0.below b67
  have Z2 := X2.below b67
  have Z5 := X5.below b67
  have Z6 := R6.below b67
  have K7 := K6.below b67 K6.lt
  have N7 := N6.below b67 N6.lt
  have P7 := P6.below b7 P6.lt
  clear X0 X2 X3 X5 R6 K6 M6 N6 P6 BB b7 b67 hb7 cK cM gK gM
  have cK := fun o => K7.cell o
  have cN := fun o => N7.cell o
  have cP := fun o => P7.cell o
  have gK := K7.lt
  have gN := N7.lt
  have gP := P7.lt
  go_wp2_with fail
  refine (likeLinks5_any k5 k6 l2 _ ok5 Z5 Z6).mono ?_
  rintro e w8 ⟨rfl, b8⟩
  have hb9 := hb8.trans (b8.mono hb8.size)
  have Q0 := Z0.below b8
  have Q2 := Z2.below b8
  have K8 := K7.below b8 K7.lt
  clear Z0 Z2 Z5 Z6 K7 N7 P7 b8 hb8 cK cN cP gK gN gP
  have cK := fun o => K8.cell o
  have gK := K8.lt
  by_cases hcc : cc = 0
  case neg =>
    have f1 : (cc == 0) = false := by simpa using hcc
    have f2 : (cc != 0) = true := by simpa using hcc
    clear hcc
    go_wp2
    go_ret
    exact ⟨rfl, hb9⟩
  have F := Lib.hid (HF.out hcc)
  subst hcc
  clear HF
  have HG : Hid (l.got.length = k2.got.n) := LinkS_got Q2
  have hgn : k2.got.n = n0 := by have := HG.out; rw [F.out.got, HXL.out] at this; exact this.symm
  have RG : Rd w8 k2.got.A n0 (ints xs) := by
    have := Q2.tail.tail.tail.head
    simp only at this
    rw [F.out.got, hgn] at this
    exact this
  have hbase : l.base = (n0 : Int) := by have := F.out.base; rw [HXL.out] at this; exact this
  have hb0 : (l.base == (n0 : Int)) = true := by simpa using hbase
  have hn9 : 0 ≤ nn := F.out.n0
  have HB := Lib.hid hbase
  have HGN := Lib.hid hgn
  clear hbase
  rw [hgn] at cK
  clear hgn
  go_wp2_with fail
  refine (likeInts_below _ _ _ _ _ xs _ (by omega) RG Q0.head).mono ?_
  rintro e wf ⟨rfl, bf⟩
  have hbf := hb9.trans (bf.mono hb9.size)
  have K9 := K8.below bf K8.lt
  clear cK gK
  have cK := fun o => K9.cell o
  have gK := K9.lt
  go_wp2
  go_ret
  exact ⟨rfl, hbf⟩
end Go.Proofs.Ytfankajbddmdaaa
