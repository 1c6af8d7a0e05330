/- The law FnLinks, walked. No condition beyond what an argument of its type bears. -/
import Derived.Test.YtfankajbddmdaaaDrawM
import Derived.Test.YtfankajbddmdaaaArgB
namespace Go.Proofs.Ytfankajbddmdaaa
open Go.RowKit

theorem drewN_two (w : World) (n m : Nat) : (w.drewN n).drewN m = w.drewN (n + m) := by simp [World.drewN, Nat.add_assoc]
theorem q_like {P : Program} {f : FuncId} {args : Array Value} {w : World} {n : Nat} {v : Value} (h : Calls P f args (w.drewN n) fun e w' => e = .returned v ∧ ∃ m, w' = (w.drewN n).drewN m) : Calls P f args (w.drewN n) fun e w' => e = .returned v ∧ ∃ m, w' = w.drewN m :=
  h.mono fun _ _ ⟨he, m, hm⟩ => ⟨he, n + m, by rw [hm, drewN_two]⟩
structure LinksFact (xs : List Int) (l : LinkC) : Prop where
  ok : LOk l
  items : l.items = xs
  got : l.got = xs.take l.got.length
  gn : l.got.length ≤ xs.length
  base : l.base ≤ l.got.length
  link : linkOk l = true
  openR_ : openR l = (xs.length : Int) - l.base
  openC_ : openC l = 0
theorem links_fact {xs ks : List Int} (h : runC xs ks = 0) : LinksFact xs (runR xs ks) := by
  have hy := runC_yes h
  have e : runR xs ks = runTo xs ks ks.length := by unfold runR; rw [if_pos h]
  rw [e]
  obtain ⟨h1, ⟨r, pk, ak, I⟩, h3⟩ := runTo_ok hy.1 hy.2 ks.length (Nat.le_refl _)
  generalize runTo xs ks ks.length = l at *
  subst h3
  have hg := I.got
  have hl : l.got.length = r := by rw [hg, List.length_take]; have := I.rn; omega
  have hk := h1.to
  refine ⟨h1, rfl, by rw [hl]; exact hg, by rw [hl]; exact I.rn, by rw [hl]; exact I.br, hk, by unfold openR; rw [if_pos hk], by unfold openC; rw [if_pos hk]⟩

set_option maxRecDepth 100000 in
set_option maxHeartbeats 4000000 in
theorem FnLinks_walk (w : World) (A : Option Addr) (n c : Nat) (zs : List Int) (G : ArgB w A n c zs) :
    Calls Try.prog 10 #[.slice A n c] w fun e w' => e = .returned (.bool true) ∧ Below w.heap.size w w' := by
  have hmx := G.max
  by_cases hb : (4096 : Int) < (n : Int)
  · go_enter Try.func10, Try.ntmps10
    go_wp2_with (go_at_call 34; refine (big_any _ _ _ _ (by omega)).mono ?_; rintro e w' ⟨rfl, rfl⟩)
    go_ret
    exact ⟨rfl, Below.refl _ _⟩
  have hbd : decide ((4096 : Int) < (n : Int)) = false := by simpa using hb
  go_enter Try.func10, Try.ntmps10
  go_wp2_with fail
  refine (big_any _ _ _ _ (by omega)).mono ?_
  rintro e w' ⟨rfl, rfl⟩
  go_wp2_with fail
  refine (drawRunLink_any A n c zs _ G.rd G.byte (by omega)).mono ?_
  rintro e w1 ⟨⟨A0, n0, c0⟩, xs, ⟨A1, n1, c1⟩, ks, rfl, hn0, hn1, hnc, hcm, R0, R1, b1⟩
  simp only at hn0 hn1 hnc hcm
  clear hbd hb
  have ok0 : IntsOk ⟨A0, n0, c0⟩ := by unfold IntsOk; simp only; omega
  have ok1 : IntsOk ⟨A1, n1, c1⟩ := by unfold IntsOk; simp only; omega
  have CI := fun W (h1 : RdAll W (IntsS ⟨A0, n0, c0⟩ xs)) (h2 : RdAll W (IntsS ⟨A1, n1, c1⟩ ks)) => implRunLink'_any ⟨A0, n0, c0⟩ xs ⟨A1, n1, c1⟩ ks W ok0 h1 ok1 h2
  have CS := fun W (h1 : RdAll W (IntsS ⟨A0, n0, c0⟩ xs)) (h2 : RdAll W (IntsS ⟨A1, n1, c1⟩ ks)) => specRunLink'_any ⟨A0, n0, c0⟩ xs ⟨A1, n1, c1⟩ ks W ok0 h1 ok1 h2
  have HF : Hid (runC xs ks = 0 → LinksFact xs (runR xs ks)) := fun h => links_fact h
  have HXL : Hid (xs.length = n0) := R0.head.len
  generalize runR xs ks = l at *
  generalize runC xs ks = cc at *
  go_wp2_with fail
  refine (CI _ R0 R1).mono ?_
  rintro e w2 ⟨k2, he2, ok2, R2, -, -, b2⟩
  unfold LinkV at he2
  subst he2
  have S0 := R0.below b2
  have S1 := R1.below b2
  have hb2 := b1.trans (b2.mono b1.size)
  clear R0 R1 b1 b2
  go_wp2_with fail
  have BB : Below w2.heap.size w2 (w2.alloc (.cells #[.slice k2.items.A k2.items.n k2.items.c, .int .i64 l.base, .int .i64 l.next, .slice k2.packets.A k2.packets.n k2.packets.c, .slice k2.acks.A k2.acks.n k2.acks.c, .slice k2.got.A k2.got.n k2.got.c] 25)) := (Below.refl _ _).alloc (Nat.le_refl _) _
  have K2 : Blk (w2.alloc (.cells #[.slice k2.items.A k2.items.n k2.items.c, .int .i64 l.base, .int .i64 l.next, .slice k2.packets.A k2.packets.n k2.packets.c, .slice k2.acks.A k2.acks.n k2.acks.c, .slice k2.got.A k2.got.n k2.got.c] 25)) w2.heap.size 25 #[.slice k2.items.A k2.items.n k2.items.c, .int .i64 l.base, .int .i64 l.next, .slice k2.packets.A k2.packets.n k2.packets.c, .slice k2.acks.A k2.acks.n k2.acks.c, .slice k2.got.A k2.got.n k2.got.c] := Blk.newN _ _ _ rfl
  refine (CS _ (S0.below BB) (S1.below BB)).mono ?_
  rintro e w3 ⟨k3, he3, ok3, R3, -, -, b3⟩
  unfold LinkV at he3
  subst he3
  have b23 := BB.trans (b3.mono BB.size)
  have hb3 := hb2.trans (b23.mono hb2.size)
  have T0 := S0.below b23
  have T2 := R2.below b23
  have K3 := K2.below b3 K2.lt
  clear S0 S1 R2 BB b3 b23 hb2 CI CS K2
  have c3 := fun o => K3.cell o
  have g3 := K3.lt
  go_wp2_with fail
  have BB : Below w3.heap.size w3 (w3.alloc (.cells #[.slice k3.items.A k3.items.n k3.items.c, .int .i64 l.base, .int .i64 l.next, .slice k3.packets.A k3.packets.n k3.packets.c, .slice k3.acks.A k3.acks.n k3.acks.c, .slice k3.got.A k3.got.n k3.got.c] 25)) := (Below.refl _ _).alloc (Nat.le_refl _) _
  refine (likeLinks5_any k2 k3 l _ ok2 (T2.below BB) (R3.below BB)).mono ?_
  rintro e w4 ⟨rfl, b4⟩
  have b34 := BB.trans (b4.mono BB.size)
  have hb4 := hb3.trans (b34.mono hb3.size)
  have U0 := T0.below b34
  have U2 := T2.below b34
  have K4 := K3.below b34 K3.lt
  clear T0 T2 R3 BB b4 b34 hb3 K3 c3 g3
  have c4 := fun o => K4.cell o
  have g4 := K4.lt
  by_cases hcc : cc = 0
  case neg =>
    have f1 : (cc == 0) = false := by simpa using hcc
    have f2 : (cc != 0) = true := by simpa using hcc
    clear hcc
    go_wp2
    go_ret
    exact ⟨rfl, hb4⟩
  have F := Lib.hid (HF.out hcc)
  subst hcc
  clear HF
  have HG : Hid (l.got.length = k2.got.n) := LinkS_got U2
  have t1 : (k2.got.n : Int) ≤ (n0 : Int) := by have := F.out.gn; rw [HG.out, HXL.out] at this; omega
  have t2 : l.base ≤ (k2.got.n : Int) := by have := F.out.base; rw [HG.out] at this; exact this
  have t3 : l.next ≤ l.base + 3 := F.out.ok.next1
  have t4 := F.out.ok.base0
  have t5 : l.base ≤ 20 := by have := F.out.ok.base1; have := F.out.ok.n; omega
  have HLK := F.out.link
  go_wp2_with fail
  refine (implIsLink'_any k2 l _ ok2 U2).mono ?_
  rintro e w5 ⟨rfl, b5⟩
  have hb5 := hb4.trans (b5.mono hb4.size)
  have U0 := U0.below b5
  have U2 := U2.below b5
  have K5 := K4.below b5 K4.lt
  clear b5 hb4 K4 c4 g4
  have c5 := fun o => K5.cell o
  have g5 := K5.lt
  go_wp2_with fail
  refine (implOpenItems'_any k2 l _ ok2 U2).mono ?_
  rintro e w6 ⟨rfl, b6⟩
  have hb6 := hb5.trans (b6.mono hb5.size)
  have U0 := U0.below b6
  have U2 := U2.below b6
  have K6 := K5.below b6 K5.lt
  clear b6 hb5 K5 c5 g5 HLK
  have c6 := fun o => K6.cell o
  have g6 := K6.lt
  have HO := F.out.openR_
  rw [HXL.out] at HO
  have HOC := F.out.openC_
  have hwr : IntKind.i64.wrap ((n0 : Int) - l.base) = (n0 : Int) - l.base := IntWalk.i64_in _ (by omega)
  have RG : Rd w6 k2.got.A k2.got.n (ints (xs.take k2.got.n)) := by
    have := U2.tail.tail.tail.head
    simp only at this
    rw [F.out.got, HG.out] at this
    exact this
  have RI : Rd w6 A0 k2.got.n (ints (xs.take k2.got.n)) := U0.head.take (by omega)
  go_wp2_with fail
  go_quiet ((go_at_call 37; exact q_like (likeInts_same _ _ _ _ _ (xs.take k2.got.n) _ (by omega) RG RI)))
  go_wp2
  go_ret
  exact ⟨rfl, Below.drewN hb6 _⟩
end Go.Proofs.Ytfankajbddmdaaa
