/- Frames: the reference's transfer; TransferFrame, both sides. Condition: lists of at most 1048576 numbers. -/
import Derived.Test.YtlgmdekhlcbhoaaFraX
namespace Go.Proofs.Ytlgmdekhlcbhoaa
open Go.RowKit

/-- What stays while a frame is sent on: the boxed frame, the given memory. -/
structure TrK (w u : World) (A : Option Addr) (n c : Nat) (x0 x1 : Int) (xs : List Int) (P : Option Addr) (q : Nat) (ps : List Int) : Prop where
  box : Blk u w.heap.size 28 #[.int .i64 x0, .int .i64 x1, .slice A n c]
  bel : Below w.heap.size w u
  fr0 : RdAll w (FrameS ⟨⟨A, n, c⟩⟩ ⟨x0, x1, xs⟩)
  pl0 : Rd w P q (ints ps)
theorem TrK.lt {w u : World} {A : Option Addr} {n c : Nat} {x0 x1 : Int} {xs : List Int} {P : Option Addr} {q : Nat} {ps : List Int} (T : TrK w u A n c x0 x1 xs P q ps) : w.heap.size < u.heap.size := T.box.lt
theorem TrK.fr {w u : World} {A : Option Addr} {n c : Nat} {x0 x1 : Int} {xs : List Int} {P : Option Addr} {q : Nat} {ps : List Int} (T : TrK w u A n c x0 x1 xs P q ps) : RdAll u (FrameS ⟨⟨A, n, c⟩⟩ ⟨x0, x1, xs⟩) := T.fr0.below T.bel
theorem TrK.pl {w u : World} {A : Option Addr} {n c : Nat} {x0 x1 : Int} {xs : List Int} {P : Option Addr} {q : Nat} {ps : List Int} (T : TrK w u A n c x0 x1 xs P q ps) : Rd u P q (ints ps) := T.pl0.below T.bel
theorem TrK.S {w u : World} {A : Option Addr} {n c : Nat} {x0 x1 : Int} {xs : List Int} {P : Option Addr} {q : Nat} {ps : List Int} (T : TrK w u A n c x0 x1 xs P q ps) : ∀ o, u.cell? ⟨w.heap.size, o, none⟩ = (#[.int .i64 x0, .int .i64 x1, .slice A n c] : Array Value)[o]? := fun o => T.box.cell o
theorem TrK.next {w u v : World} {A : Option Addr} {n c : Nat} {x0 x1 : Int} {xs : List Int} {P : Option Addr} {q : Nat} {ps : List Int} (T : TrK w u A n c x0 x1 xs P q ps) (b : Below u.heap.size u v) : TrK w v A n c x0 x1 xs P q ps :=
  ⟨T.box.below b T.box.lt, T.bel.trans (b.mono T.bel.size), T.fr0, T.pl0⟩
theorem TrK.al {w u : World} {A : Option Addr} {n c : Nat} {x0 x1 : Int} {xs : List Int} {P : Option Addr} {q : Nat} {ps : List Int} (T : TrK w u A n c x0 x1 xs P q ps) (o : Obj) : TrK w (u.alloc o) A n c x0 x1 xs P q ps := T.next ((Below.refl _ _).alloc (Nat.le_refl _) o)
theorem TrK.dr {w u : World} {A : Option Addr} {n c : Nat} {x0 x1 : Int} {xs : List Int} {P : Option Addr} {q : Nat} {ps : List Int} (T : TrK w u A n c x0 x1 xs P q ps) : TrK w u.drew A n c x0 x1 xs P q ps := T.next (Below.drew (Below.refl _ _))
theorem TrK.st3 {w u : World} {A : Option Addr} {n c : Nat} {x0 x1 : Int} {xs : List Int} {P : Option Addr} {q : Nat} {ps : List Int} (T : TrK w u A n c x0 x1 xs P q ps) {g : Nat} (hg : w.heap.size < g) (a b d : Value) : TrK w (((u.setCell ⟨g, 0, none⟩ a).setCell ⟨g, 1, none⟩ b).setCell ⟨g, 2, none⟩ d) A n c x0 x1 xs P q ps := by
  have B : Below (w.heap.size + 1) u (((u.setCell ⟨g, 0, none⟩ a).setCell ⟨g, 1, none⟩ b).setCell ⟨g, 2, none⟩ d) := (((Below.refl _ _).setCell (p := ⟨g, 0, none⟩) hg a).setCell (p := ⟨g, 1, none⟩) hg b).setCell (p := ⟨g, 2, none⟩) hg d
  exact ⟨T.box.below B (Nat.lt_succ_self _), T.bel.trans (B.mono (Nat.le_succ _)), T.fr0, T.pl0⟩
theorem Rd.al {w : World} {A : Option Addr} {n : Nat} {us : List Value} (h : Rd w A n us) (o : Obj) : Rd (w.alloc o) A n us := h.below ((Below.refl _ _).alloc (Nat.le_refl _) o)
/-- The call has returned the list ys, readable. -/
def SlP (n : Nat) (ys : List Int) (w : World) (e : Ending) (w' : World) : Prop := ∃ B d, e = .returned (.slice B n d) ∧ Rd w' B n (ints ys) ∧ Below w.heap.size w w'
theorem SlP.own {n : Nat} {ys : List Int} {w : World} {e : Ending} {w' : World} (hn : ys.length = n) (h : ∃ k : Hd, e = .returned (.slice k.A k.n k.c) ∧ Own w' w.heap.size 1 k (ints ys) ∧ Below w.heap.size w w') : SlP n ys w e w' := by
  obtain ⟨⟨KA, kn, kc⟩, rfl, O, b⟩ := h
  have hl := O.rd1.len
  simp only at hl
  have hl : n = kn := hn.symm.trans hl
  subst hl
  exact ⟨KA, kc, rfl, O.rd1, b⟩
theorem SlP.ret {n : Nat} {ys : List Int} {w : World} {e : Ending} {w' : World} (hn : ys.length = n) (h : RetI ys w e w') : SlP n ys w e w' := by
  obtain ⟨KA, kn, kc, rfl, R, -, -, b⟩ := h
  have hl := R.len
  have hl : n = kn := hn.symm.trans hl
  subst hl
  exact ⟨KA, kc, rfl, R, b⟩
theorem send_sl (A : Option Addr) (n c : Nat) (x0 x1 : Int) (xs : List Int) (N : Nat) (u : World) (hr : RdAll u (FrameS ⟨⟨A, n, c⟩⟩ ⟨x0, x1, xs⟩)) (ho : FrO ⟨x0, x1, xs⟩) (hN : (sendL (frameC ⟨x0, x1, xs⟩)).length = N) : Calls Try.prog 91 #[.agg #[.int .i64 x0, .int .i64 x1, .slice A n c]] u (SlP N (sendL (frameC ⟨x0, x1, xs⟩)) u) :=
  (send_any ⟨⟨A, n, c⟩⟩ ⟨x0, x1, xs⟩ u hr ho).mono fun _ _ h => SlP.own hN h
theorem l30Send_sl (A : Option Addr) (n c : Nat) (x0 x1 : Int) (xs : List Int) (N : Nat) (u : World) (hr : RdAll u (FrameS ⟨⟨A, n, c⟩⟩ ⟨x0, x1, xs⟩)) (ho : FrO ⟨x0, x1, xs⟩) (hN : (sendL (frameC ⟨x0, x1, xs⟩)).length = N) : Calls Try.prog 90 #[.agg #[.int .i64 x0, .int .i64 x1, .slice A n c]] u (SlP N (sendL (frameC ⟨x0, x1, xs⟩)) u) :=
  (l30Send_any ⟨⟨A, n, c⟩⟩ ⟨x0, x1, xs⟩ u hr ho).mono fun _ _ h => SlP.own hN h
theorem frameBits_sl (A : Option Addr) (n c : Nat) (x0 x1 : Int) (xs : List Int) (N : Nat) (u : World) (hr : RdAll u (FrameS ⟨⟨A, n, c⟩⟩ ⟨x0, x1, xs⟩)) (ho : FrO ⟨x0, x1, xs⟩) (hN : (frameC ⟨x0, x1, xs⟩).length = N) : Calls Try.prog 108 #[.agg #[.int .i64 x0, .int .i64 x1, .slice A n c]] u (SlP N (frameC ⟨x0, x1, xs⟩) u) :=
  (frameBits_any ⟨⟨A, n, c⟩⟩ ⟨x0, x1, xs⟩ u hr ho).mono fun _ _ h => SlP.own hN h
theorem l25Frame_sl (A : Option Addr) (n c : Nat) (x0 x1 : Int) (xs : List Int) (N : Nat) (u : World) (hr : RdAll u (FrameS ⟨⟨A, n, c⟩⟩ ⟨x0, x1, xs⟩)) (ho : FrO ⟨x0, x1, xs⟩) (hN : (frameC ⟨x0, x1, xs⟩).length = N) : Calls Try.prog 117 #[.agg #[.int .i64 x0, .int .i64 x1, .slice A n c]] u (SlP N (frameC ⟨x0, x1, xs⟩) u) :=
  (l25Frame_any ⟨⟨A, n, c⟩⟩ ⟨x0, x1, xs⟩ u hr ho).mono fun _ _ h => SlP.own hN h
theorem damaged_sl (A P : Option Addr) (n c q d : Nat) (xs ps : List Int) (w : World) (hn : n ≤ 1048576) (hq : q ≤ 2097152) (hr : Rd w A n (ints xs)) (hp : Rd w P q (ints ps)) (hb : allIn xs 0 1 = true) (hin : ∀ p ∈ ps, 0 ≤ p ∧ p < (n : Int)) : Calls Try.prog 112 #[.slice A n c, .slice P q d] w (SlP n (damage xs ps) w) :=
  (damaged_any A P n c q d xs ps w hn hq hr hp hb hin).mono fun _ _ h => SlP.ret ((damage_length xs ps).trans hr.len) h
theorem l25Damage_sl (A P : Option Addr) (n c q d : Nat) (xs ps : List Int) (w : World) (hn : n ≤ 1048576) (hq : q ≤ 2097152) (hr : Rd w A n (ints xs)) (hp : Rd w P q (ints ps)) (hb : allIn xs 0 1 = true) (hin : ∀ p ∈ ps, 0 ≤ p ∧ p < (n : Int)) : Calls Try.prog 121 #[.slice A n c, .slice P q d] w (SlP n (damage xs ps) w) :=
  (l25Damage_any A P n c q d xs ps w hn hq hr hp hb hin).mono fun _ _ h => SlP.ret ((damage_length xs ps).trans hr.len) h
theorem burst_sl (A : Option Addr) (n c : Nat) (xs : List Int) (f s : Int) (w : World) (hn : n ≤ 1048576) (hr : Rd w A n (ints xs)) (hb : allIn xs 0 1 = true) (hok : burstOk n f s = true) : Calls Try.prog 107 #[.slice A n c, .int .i64 f, .int .i64 s] w (SlP n (damage xs (bplaces f s.toNat)) w) :=
  (burst_any A n c xs f s w hn hr hb hok).mono fun _ _ h => SlP.ret ((damage_length xs _).trans hr.len) h
/-- A frame was received, or none: the fields by name. -/
def RcvP (bits : List Int) (n : Nat) (v : Value) (w : World) (e : Ending) (w' : World) : Prop :=
  ∃ KA kn kc y0 y1 ys, e = .returned (.tuple #[.agg #[.int .i64 y0, .int .i64 y1, .slice KA kn kc], v]) ∧ rcvF bits n = ⟨y0, y1, ys⟩ ∧ kn ≤ 1000 ∧ Own w' w.heap.size 1 ⟨KA, kn, kc⟩ (ints ys) ∧ Below w.heap.size w w'
theorem RcvI.p {bits : List Int} {n : Nat} {v : Value} {w : World} {e : Ending} {w' : World} (h : RcvI bits n v w e w') : RcvP bits n v w e w' := by
  obtain ⟨⟨KA, kn, kc⟩, rfl, hk, O, b⟩ := h
  obtain ⟨fr, hfr⟩ : ∃ fr, rcvF bits n = fr := ⟨_, rfl⟩
  rw [hfr] at O ⊢
  obtain ⟨y0, y1, ys⟩ := fr
  exact ⟨KA, kn, kc, y0, y1, ys, rfl, hfr, hk, O, b⟩
theorem receive_p (A : Option Addr) (N c n : Nat) (bits : List Int) (w : World) (hn : n ≤ 300) (hN : N = 16 * rowsOf n) (hr : Rd w A N (ints bits)) (hb : allIn bits 0 1 = true) : Calls Try.prog 102 #[.slice A N c, .int .i64 n] w (RcvP bits n (.int .i64 (rcvC bits n)) w) :=
  (receive_any A N c n bits w hn hN hr hb).mono fun _ _ h => RcvI.p h
theorem l30Receive_p (A : Option Addr) (N c n : Nat) (bits : List Int) (w : World) (hn : n ≤ 300) (hN : N = 16 * rowsOf n) (hr : Rd w A N (ints bits)) (hb : allIn bits 0 1 = true) : Calls Try.prog 98 #[.slice A N c, .int .i64 n] w (RcvP bits n (.bool (rcvOk bits n)) w) :=
  (l30Receive_any A N c n bits w hn hN hr hb).mono fun _ _ h => RcvI.p h

theorem RcvP.to {bits : List Int} {n : Nat} {v : Value} {w w' : World} {KA : Option Addr} {kn kc : Nat} {y0 y1 : Int} {ys : List Int} (hfr : rcvF bits n = ⟨y0, y1, ys⟩) (hkn : kn ≤ 1000) (O : Own w' w.heap.size 1 ⟨KA, kn, kc⟩ (ints ys)) (b : Below w.heap.size w w') : RcvP bits n v w (.returned (.tuple #[.agg #[.int .i64 y0, .int .i64 y1, .slice KA kn kc], v])) w' :=
  ⟨KA, kn, kc, y0, y1, ys, rfl, hfr, hkn, O, b⟩
set_option maxRecDepth 100000 in
set_option maxHeartbeats 4000000 in
theorem l30Transfer_p (A : Option Addr) (n c : Nat) (x0 x1 : Int) (xs : List Int) (P : Option Addr) (q d : Nat) (ps : List Int) (nn N : Nat) (w : World) (hr : RdAll w (FrameS ⟨⟨A, n, c⟩⟩ ⟨x0, x1, xs⟩)) (hok : FrO ⟨x0, x1, xs⟩) (hnn : (frameC ⟨x0, x1, xs⟩).length = nn) (hN : (sendL (frameC ⟨x0, x1, xs⟩)).length = N) (hq : q ≤ 2097152) (hp : Rd w P q (ints ps)) (hin : ∀ p ∈ ps, 0 ≤ p ∧ p < (N : Int)) :
    Calls Try.prog 104 #[.agg #[.int .i64 x0, .int .i64 x1, .slice A n c], .slice P q d] w (RcvP (damage (sendL (frameC ⟨x0, x1, xs⟩)) ps) nn (.bool (rcvOk (damage (sendL (frameC ⟨x0, x1, xs⟩)) ps) nn)) w) := by
  have HLn : Hid (48 ≤ nn ∧ nn ≤ 284) := by rw [← hnn]; exact frameL_length x0 x1 xs hok.len
  have HN : Hid (N = 16 * rowsOf nn) := by unfold Hid; rw [← hN, sendL_length, hnn]
  have HO := Lib.hid hok
  have HI := Lib.hid hin
  have HNN := Lib.hid hnn
  have HNL := Lib.hid hN
  have HSB : Hid (allIn (sendL (frameC ⟨x0, x1, xs⟩)) 0 1 = true) := sendL_bits (frameL_bits _ _ _)
  have HDB : Hid (allIn (damage (sendL (frameC ⟨x0, x1, xs⟩)) ps) 0 1 = true) := damage_bits HSB.out ps
  have hN6 : N ≤ 640 := by have h1 := HN.out; have h2 := HLn.out.2; rw [h1]; unfold rowsOf; omega
  clear hok hin hnn hN
  have hnb := HLn.out.2
  have BZ := Blk.new1 w (.cells #[.int .i64 x0, .int .i64 x1, .slice A n c] 28) 28 #[.int .i64 0, .int .i64 0, .slice none 0 0]
  have T0 := TrK.dr (TrK.al (TrK.mk (Blk.new w 28 #[.int .i64 x0, .int .i64 x1, .slice A n c]) ((Below.refl _ _).alloc (Nat.le_refl _) _) hr hp) (.cells #[.int .i64 0, .int .i64 0, .slice none 0 0] 28))
  have lz : w.heap.size + 1 < ((w.alloc (.cells #[.int .i64 x0, .int .i64 x1, .slice A n c] 28)).alloc (.cells #[.int .i64 0, .int .i64 0, .slice none 0 0] 28)).heap.size := BZ.lt
  clear hr hp
  go_enter Try.func104, Try.ntmps104
  go_wp2_with fail
  generalize hw0 : ((w.alloc (.cells #[.int .i64 x0, .int .i64 x1, .slice A n c] 28)).alloc (.cells #[.int .i64 0, .int .i64 0, .slice none 0 0] 28)) = w0 at BZ T0 lz ⊢
  clear hw0
  have BZ : Blk w0.drew (w.heap.size + 1) 28 #[.int .i64 0, .int .i64 0, .slice none 0 0] := BZ
  go_region_held3 (fun w' => ∀ o, w'.cell? ⟨w.heap.size, o, none⟩ = (#[.int .i64 x0, .int .i64 x1, .slice A n c] : Array Value)[o]?)
    (first | (with_reducible assumption) | (with_reducible exact TrK.S T0) | (with_reducible exact TrK.S T1) | (with_reducible exact TrK.S T2) | (with_reducible exact TrK.S T3) | (with_reducible exact TrK.S T4) | (with_reducible exact TrK.S (TrK.st3 T4 (Nat.lt_succ_self _) _ _ _)))
    (first
      | (go_at_call 90; (with_reducible refine (l30Send_sl A n c x0 x1 xs N _ (TrK.fr (by (repeat (first | (with_reducible assumption) | (with_reducible refine TrK.al ?_ _) | (with_reducible refine Rd.al ?_ _) | (with_reducible refine TrK.st3 ?_ (by omega) _ _ _))))) HO.out HNL.out).mono ?_); rintro e u1 ⟨SA, sc, rfl, RS, c1⟩; have T1 := TrK.next (by (repeat (first | (with_reducible assumption) | (with_reducible refine TrK.al ?_ _) | (with_reducible refine Rd.al ?_ _) | (with_reducible refine TrK.st3 ?_ (by omega) _ _ _)))) c1; have l1 := T1.lt; (try (have BZ := BZ.below c1 BZ.lt)); (try (have z1 := BZ.lt)); (try (have RS : Rd _ SA N (ints _) := Rd.below (by (repeat (first | (with_reducible assumption) | (with_reducible refine TrK.al ?_ _) | (with_reducible refine Rd.al ?_ _) | (with_reducible refine TrK.st3 ?_ (by omega) _ _ _)))) c1)); (try (have RD : Rd _ DA N (ints _) := Rd.below (by (repeat (first | (with_reducible assumption) | (with_reducible refine TrK.al ?_ _) | (with_reducible refine Rd.al ?_ _) | (with_reducible refine TrK.st3 ?_ (by omega) _ _ _)))) c1)))
      | (go_at_call 121; (with_reducible refine (l25Damage_sl SA P N sc q d (sendL (frameC ⟨x0, x1, xs⟩)) ps _ (by omega) hq (by (repeat (first | (with_reducible assumption) | (with_reducible refine TrK.al ?_ _) | (with_reducible refine Rd.al ?_ _) | (with_reducible refine TrK.st3 ?_ (by omega) _ _ _)))) (TrK.pl (by (repeat (first | (with_reducible assumption) | (with_reducible refine TrK.al ?_ _) | (with_reducible refine Rd.al ?_ _) | (with_reducible refine TrK.st3 ?_ (by omega) _ _ _))))) HSB.out HI.out).mono ?_); rintro e u3 ⟨DA, dc, rfl, RD, c3⟩; have T3 := TrK.next (by (repeat (first | (with_reducible assumption) | (with_reducible refine TrK.al ?_ _) | (with_reducible refine Rd.al ?_ _) | (with_reducible refine TrK.st3 ?_ (by omega) _ _ _)))) c3; have l3 := T3.lt; (try (have BZ := BZ.below c3 BZ.lt)); (try (have z3 := BZ.lt)); (try (have RS : Rd _ SA N (ints _) := Rd.below (by (repeat (first | (with_reducible assumption) | (with_reducible refine TrK.al ?_ _) | (with_reducible refine Rd.al ?_ _) | (with_reducible refine TrK.st3 ?_ (by omega) _ _ _)))) c3)); (try (have RD : Rd _ DA N (ints _) := Rd.below (by (repeat (first | (with_reducible assumption) | (with_reducible refine TrK.al ?_ _) | (with_reducible refine Rd.al ?_ _) | (with_reducible refine TrK.st3 ?_ (by omega) _ _ _)))) c3)))
      | (go_at_call 117; (with_reducible refine (l25Frame_sl A n c x0 x1 xs nn _ (TrK.fr (by (repeat (first | (with_reducible assumption) | (with_reducible refine TrK.al ?_ _) | (with_reducible refine Rd.al ?_ _) | (with_reducible refine TrK.st3 ?_ (by omega) _ _ _))))) HO.out HNN.out).mono ?_); rintro e u2 ⟨FA, fc, rfl, -, c2⟩; have T2 := TrK.next (by (repeat (first | (with_reducible assumption) | (with_reducible refine TrK.al ?_ _) | (with_reducible refine Rd.al ?_ _) | (with_reducible refine TrK.st3 ?_ (by omega) _ _ _)))) c2; have l2 := T2.lt; (try (have BZ := BZ.below c2 BZ.lt)); (try (have z2 := BZ.lt)); (try (have RS : Rd _ SA N (ints _) := Rd.below (by (repeat (first | (with_reducible assumption) | (with_reducible refine TrK.al ?_ _) | (with_reducible refine Rd.al ?_ _) | (with_reducible refine TrK.st3 ?_ (by omega) _ _ _)))) c2)); (try (have RD : Rd _ DA N (ints _) := Rd.below (by (repeat (first | (with_reducible assumption) | (with_reducible refine TrK.al ?_ _) | (with_reducible refine Rd.al ?_ _) | (with_reducible refine TrK.st3 ?_ (by omega) _ _ _)))) c2)))
      | (go_at_call 98; (with_reducible refine (l30Receive_p DA N dc nn (damage (sendL (frameC ⟨x0, x1, xs⟩)) ps) _ (by omega) HN.out (by (repeat (first | (with_reducible assumption) | (with_reducible refine TrK.al ?_ _) | (with_reducible refine Rd.al ?_ _) | (with_reducible refine TrK.st3 ?_ (by omega) _ _ _)))) HDB.out).mono ?_); rintro e u4 ⟨KA, kn, kc, y0, y1, ys, rfl, hfr, hkn, OK, c4⟩; have T4 := TrK.next (by (repeat (first | (with_reducible assumption) | (with_reducible refine TrK.al ?_ _) | (with_reducible refine Rd.al ?_ _) | (with_reducible refine TrK.st3 ?_ (by omega) _ _ _)))) c4; have l4 := T4.lt; (try (have BZ := BZ.below c4 BZ.lt)); (try (have z4 := BZ.lt)); (try (have RS : Rd _ SA N (ints _) := Rd.below (by (repeat (first | (with_reducible assumption) | (with_reducible refine TrK.al ?_ _) | (with_reducible refine Rd.al ?_ _) | (with_reducible refine TrK.st3 ?_ (by omega) _ _ _)))) c4)); (try (have RD : Rd _ DA N (ints _) := Rd.below (by (repeat (first | (with_reducible assumption) | (with_reducible refine TrK.al ?_ _) | (with_reducible refine Rd.al ?_ _) | (with_reducible refine TrK.st3 ?_ (by omega) _ _ _)))) c4)); have HFR := Lib.hid hfr; clear hfr; have cU := fun o => BZ.cell o; have fU := fun o => BZ.frozen o; have gU := BZ.lt; have hrow : ∀ b, (⟨KA, kn, kc⟩ : Hd).row = some b → b ≠ w.heap.size + 1 := (fun b e => by have h1 := (OK.rowlt b e).1; have h2 := lz; omega); have OK := OK.mono (C := w.heap.size) (by omega)))
  all_goals go_wp2
  all_goals
    have dx := fun o => (((BZ.set_ 0 (.int .i64 y0)).set_ 1 (.int .i64 y1)).set_ 2 (.slice KA kn kc)).cell o
    refine bodyPost_ret (v := .tuple #[.agg #[.int .i64 y0, .int .i64 y1, .slice KA kn kc], .bool (rcvOk (damage (sendL (frameC ⟨x0, x1, xs⟩)) ps) nn)]) (by simp [results, Try.results104, go_sem, dx]) rfl ?_
    exact RcvP.to HFR.out hkn (((OK.far1 (p := ⟨w.heap.size + 1, 0, none⟩) (fun e => hrow _ e rfl) (.int .i64 y0)).far1 (p := ⟨w.heap.size + 1, 1, none⟩) (fun e => hrow _ e rfl) (.int .i64 y1)).far1 (p := ⟨w.heap.size + 1, 2, none⟩) (fun e => hrow _ e rfl) (.slice KA kn kc)) (T4.st3 (Nat.lt_succ_self _) _ _ _).bel

def tfR (l : FrameC) (ps : List Int) : FrameC := if frOkC l = true ∧ risB ps ((sendL (frameC l)).length : Int) = true then rcvF (damage (sendL (frameC l)) ps) (frameC l).length else ⟨0, 0, []⟩
def tfC (l : FrameC) (ps : List Int) : Int := if frOkC l = true then (if risB ps ((sendL (frameC l)).length : Int) = true then rcvC (damage (sendL (frameC l)) ps) (frameC l).length else 2) else 1
theorem tf_a {l : FrameC} {ps : List Int} (h : frOkC l = false) : tfR l ps = ⟨0, 0, []⟩ ∧ tfC l ps = 1 := by unfold tfR tfC; simp [h]
theorem tf_b {l : FrameC} {ps : List Int} {N : Nat} (h : frOkC l = true) (hN : (sendL (frameC l)).length = N) (h2 : risB ps (N : Int) = false) : tfR l ps = ⟨0, 0, []⟩ ∧ tfC l ps = 2 := by subst hN; unfold tfR tfC; simp [h, h2]
theorem tf_c {l : FrameC} {ps : List Int} {nn N : Nat} (h : frOkC l = true) (hn : (frameC l).length = nn) (hN : (sendL (frameC l)).length = N) (h2 : risB ps (N : Int) = true) : tfR l ps = rcvF (damage (sendL (frameC l)) ps) nn ∧ tfC l ps = rcvC (damage (sendL (frameC l)) ps) nn := by subst hN; subst hn; unfold tfR tfC; simp [h, h2]

set_option maxRecDepth 100000 in
set_option maxHeartbeats 4000000 in
theorem implTransferFrame'_any (h : FrameH) (l : FrameC) (h' : Hd) (ps : List Int) (w : World) (ok : FrameOk h) (hr : RdAll w (FrameS h l)) (ok' : IntsOk h') (hr' : RdAll w (IntsS h' ps)) :
    Calls Try.prog 33 #[FrameV h l, IntsV h'] w (RetF (tfR l ps) (tfC l ps) w) := by
  have hp := hr'.head
  have HI := fun (W : World) (b : RdAll W (FrameS h l)) => Lib.hid (implIsFrame_any h l W ok b)
  obtain ⟨P, q, d⟩ := h'
  obtain ⟨⟨A, n, c⟩⟩ := h
  obtain ⟨x0, x1, xs⟩ := l
  unfold IntsOk at ok'
  have hq : q ≤ 2097152 := Nat.le_trans ok' (by decide)
  simp only [IntsV, FrameV] at *
  have BZ := Blk.new1 w (.cells #[.int .i64 x0, .int .i64 x1, .slice A n c] 28) 28 #[.int .i64 0, .int .i64 0, .slice none 0 0]
  have T0 := TrK.al (TrK.mk (Blk.new w 28 #[.int .i64 x0, .int .i64 x1, .slice A n c]) ((Below.refl _ _).alloc (Nat.le_refl _) _) hr hp) (.cells #[.int .i64 0, .int .i64 0, .slice none 0 0] 28)
  have H1 := HI _ T0.fr
  clear hr hr' hp HI ok'
  have go : ∀ b, frOkC ⟨x0, x1, xs⟩ = b → Calls Try.prog 33 #[.agg #[.int .i64 x0, .int .i64 x1, .slice A n c], .slice P q d] w (RetF (tfR ⟨x0, x1, xs⟩ ps) (tfC ⟨x0, x1, xs⟩ ps) w) := by
    intro b hc
    cases b
    case false =>
      rw [(tf_a hc).1, (tf_a hc).2]
      go_enter Try.func33, Try.ntmps33
      go_wp2_with fail
      generalize hw0 : ((w.alloc (.cells #[.int .i64 x0, .int .i64 x1, .slice A n c] 28)).alloc (.cells #[.int .i64 0, .int .i64 0, .slice none 0 0] 28)) = w0 at BZ T0 H1 ⊢
      clear hw0
      refine H1.out.mono ?_
      rintro e w1 ⟨rfl, c1⟩
      rw [hc]
      have T1 := T0.next c1
      have BZ := BZ.below c1 BZ.lt
      have dx := fun o => (((BZ.set_ 0 (.int .i64 0)).set_ 1 (.int .i64 0)).set_ 2 (.slice none 0 0)).cell o
      have cU := fun o => BZ.cell o
      have fU := fun o => BZ.frozen o
      have gU := BZ.lt
      go_wp2
      refine bodyPost_ret (v := .tuple #[.agg #[.int .i64 0, .int .i64 0, .slice none 0 0], .int .i64 1]) (by simp [results, Try.results33, go_sem, dx]) rfl (RetF.zero (T1.st3 (Nat.lt_succ_self _) _ _ _).bel)
    have hok := FrO.of hc
    obtain ⟨nn, hnn⟩ : ∃ nn, (frameC ⟨x0, x1, xs⟩).length = nn := ⟨_, rfl⟩
    obtain ⟨N, hN⟩ : ∃ N, (sendL (frameC ⟨x0, x1, xs⟩)).length = N := ⟨_, rfl⟩
    have HLn : Hid (48 ≤ nn ∧ nn ≤ 284) := by rw [← hnn]; exact frameL_length x0 x1 xs hok.len
    have HN : Hid (N = 16 * rowsOf nn) := by unfold Hid; rw [← hN, sendL_length, hnn]
    have HO := Lib.hid hok
    have HNN := Lib.hid hnn
    have HNL := Lib.hid hN
    have HSB : Hid (allIn (sendL (frameC ⟨x0, x1, xs⟩)) 0 1 = true) := sendL_bits (frameL_bits _ _ _)
    have HDB : Hid (allIn (damage (sendL (frameC ⟨x0, x1, xs⟩)) ps) 0 1 = true) := damage_bits HSB.out ps
    have hN6 : N ≤ 640 := by have h1 := HN.out; have h2 := HLn.out.2; rw [h1]; unfold rowsOf; omega
    have hnb := HLn.out.2
    have HTB := Lib.hid (fun h2 => tf_b (ps := ps) hc hN h2)
    have HTC := Lib.hid (fun h2 => tf_c (ps := ps) hc hnn hN h2)
    clear hok hnn hN
    go_enter Try.func33, Try.ntmps33
    go_wp2_with fail
    generalize hw0 : ((w.alloc (.cells #[.int .i64 x0, .int .i64 x1, .slice A n c] 28)).alloc (.cells #[.int .i64 0, .int .i64 0, .slice none 0 0] 28)) = w0 at BZ T0 H1 ⊢
    clear hw0
    refine H1.out.mono ?_
    rintro e w1 ⟨rfl, c1⟩
    rw [hc]
    clear hc
    have T1 := T0.next c1
    have BZ := BZ.below c1 BZ.lt
    have z1 := BZ.lt
    have hS1 := T1.S
    clear T0
    go_wp2_with fail
    refine (send_sl A n c x0 x1 xs N _ T1.fr HO.out HNL.out).mono ?_
    rintro e w2 ⟨SA, sc, rfl, RS, c2⟩
    have T2 := T1.next c2
    have BZ := BZ.below c2 BZ.lt
    have z2 := BZ.lt
    have hS2 := T2.S
    go_wp2_with (go_at_call 100; refine (lengthInt_any _ _ _ _ (by omega)).mono ?_; rintro e w' ⟨rfl, rfl⟩)
    refine (isRising_any P q d ps (N : Int) _ (by omega) T2.pl).mono ?_
    rintro e w3 ⟨rfl, c3⟩
    have T3 := T2.next c3
    have BZ := BZ.below c3 BZ.lt
    have z3 := BZ.lt
    have hS3 := T3.S
    have RS := RS.below c3
    rcases Bool.eq_false_or_eq_true (risB ps (N : Int)) with hrs | hrs
    case inr =>
      have HV := Lib.hid (HTB.out hrs)
      rw [hrs]
      clear HTB HTC hrs
      have dx := fun o => (((BZ.set_ 0 (.int .i64 0)).set_ 1 (.int .i64 0)).set_ 2 (.slice none 0 0)).cell o
      have cU := fun o => BZ.cell o
      have fU := fun o => BZ.frozen o
      have gU := BZ.lt
      go_wp2
      rw [HV.out.1, HV.out.2]
      refine bodyPost_ret (v := .tuple #[.agg #[.int .i64 0, .int .i64 0, .slice none 0 0], .int .i64 2]) (by simp [results, Try.results33, go_sem, dx]) rfl (RetF.zero (T3.st3 (Nat.lt_succ_self _) _ _ _).bel)
    have HV := Lib.hid (HTC.out hrs)
    have HI := Lib.hid (risB_in hrs)
    rw [hrs]
    clear HTB HTC hrs
    go_wp2_with fail
    have T0 := T3.dr
    have BZ : Blk w3.drew (w.heap.size + 1) 28 #[.int .i64 0, .int .i64 0, .slice none 0 0] := BZ
    have RS : Rd w3.drew SA N (ints (sendL (frameC ⟨x0, x1, xs⟩))) := RS
    have lz : w.heap.size + 1 < w3.drew.heap.size := BZ.lt
    clear T1 T2 T3 c1 c2 c3 z1 z2 z3 H1
    go_region_held3 (fun w' => ∀ o, w'.cell? ⟨w.heap.size, o, none⟩ = (#[.int .i64 x0, .int .i64 x1, .slice A n c] : Array Value)[o]?)
      (first | (with_reducible assumption) | (with_reducible exact TrK.S T0) | (with_reducible exact TrK.S T1) | (with_reducible exact TrK.S T2) | (with_reducible exact TrK.S T3) | (with_reducible exact TrK.S T4) | (with_reducible exact TrK.S (TrK.st3 T4 (Nat.lt_succ_self _) _ _ _)))
      (first
      | (go_at_call 112; (with_reducible refine (damaged_sl SA P N sc q d (sendL (frameC ⟨x0, x1, xs⟩)) ps _ (by omega) hq (by (repeat (first | (with_reducible assumption) | (with_reducible refine TrK.al ?_ _) | (with_reducible refine Rd.al ?_ _) | (with_reducible refine TrK.st3 ?_ (by omega) _ _ _)))) (TrK.pl (by (repeat (first | (with_reducible assumption) | (with_reducible refine TrK.al ?_ _) | (with_reducible refine Rd.al ?_ _) | (with_reducible refine TrK.st3 ?_ (by omega) _ _ _))))) HSB.out HI.out).mono ?_); rintro e u3 ⟨DA, dc, rfl, RD, c3⟩; have T3 := TrK.next (by (repeat (first | (with_reducible assumption) | (with_reducible refine TrK.al ?_ _) | (with_reducible refine Rd.al ?_ _) | (with_reducible refine TrK.st3 ?_ (by omega) _ _ _)))) c3; have l3 := T3.lt; (try (have BZ := BZ.below c3 BZ.lt)); (try (have z3 := BZ.lt)); (try (have RS : Rd _ SA N (ints _) := Rd.below (by (repeat (first | (with_reducible assumption) | (with_reducible refine TrK.al ?_ _) | (with_reducible refine Rd.al ?_ _) | (with_reducible refine TrK.st3 ?_ (by omega) _ _ _)))) c3)); (try (have RD : Rd _ DA N (ints _) := Rd.below (by (repeat (first | (with_reducible assumption) | (with_reducible refine TrK.al ?_ _) | (with_reducible refine Rd.al ?_ _) | (with_reducible refine TrK.st3 ?_ (by omega) _ _ _)))) c3)))
      | (go_at_call 108; (with_reducible refine (frameBits_sl A n c x0 x1 xs nn _ (TrK.fr (by (repeat (first | (with_reducible assumption) | (with_reducible refine TrK.al ?_ _) | (with_reducible refine Rd.al ?_ _) | (with_reducible refine TrK.st3 ?_ (by omega) _ _ _))))) HO.out HNN.out).mono ?_); rintro e u2 ⟨FA, fc, rfl, -, c2⟩; have T2 := TrK.next (by (repeat (first | (with_reducible assumption) | (with_reducible refine TrK.al ?_ _) | (with_reducible refine Rd.al ?_ _) | (with_reducible refine TrK.st3 ?_ (by omega) _ _ _)))) c2; have l2 := T2.lt; (try (have BZ := BZ.below c2 BZ.lt)); (try (have z2 := BZ.lt)); (try (have RS : Rd _ SA N (ints _) := Rd.below (by (repeat (first | (with_reducible assumption) | (with_reducible refine TrK.al ?_ _) | (with_reducible refine Rd.al ?_ _) | (with_reducible refine TrK.st3 ?_ (by omega) _ _ _)))) c2)); (try (have RD : Rd _ DA N (ints _) := Rd.below (by (repeat (first | (with_reducible assumption) | (with_reducible refine TrK.al ?_ _) | (with_reducible refine Rd.al ?_ _) | (with_reducible refine TrK.st3 ?_ (by omega) _ _ _)))) c2)))
      | (go_at_call 100; (with_reducible refine (lengthInt_any _ _ _ _ (by omega)).mono ?_); rintro e u5 ⟨rfl, rfl⟩)
      | (go_at_call 102; (with_reducible refine (receive_p DA N dc nn (damage (sendL (frameC ⟨x0, x1, xs⟩)) ps) _ (by omega) HN.out (by (repeat (first | (with_reducible assumption) | (with_reducible refine TrK.al ?_ _) | (with_reducible refine Rd.al ?_ _) | (with_reducible refine TrK.st3 ?_ (by omega) _ _ _)))) HDB.out).mono ?_); rintro e u4 ⟨KA, kn, kc, y0, y1, ys, rfl, hfr, hkn, OK, c4⟩; have T4 := TrK.next (by (repeat (first | (with_reducible assumption) | (with_reducible refine TrK.al ?_ _) | (with_reducible refine Rd.al ?_ _) | (with_reducible refine TrK.st3 ?_ (by omega) _ _ _)))) c4; have l4 := T4.lt; (try (have BZ := BZ.below c4 BZ.lt)); (try (have z4 := BZ.lt)); (try (have RS : Rd _ SA N (ints _) := Rd.below (by (repeat (first | (with_reducible assumption) | (with_reducible refine TrK.al ?_ _) | (with_reducible refine Rd.al ?_ _) | (with_reducible refine TrK.st3 ?_ (by omega) _ _ _)))) c4)); (try (have RD : Rd _ DA N (ints _) := Rd.below (by (repeat (first | (with_reducible assumption) | (with_reducible refine TrK.al ?_ _) | (with_reducible refine Rd.al ?_ _) | (with_reducible refine TrK.st3 ?_ (by omega) _ _ _)))) c4)); have HFR := Lib.hid hfr; clear hfr; have cU := fun o => BZ.cell o; have fU := fun o => BZ.frozen o; have gU := BZ.lt; have hrow : ∀ b, (⟨KA, kn, kc⟩ : Hd).row = some b → b ≠ w.heap.size + 1 := (fun b e => by have h1 := (OK.rowlt b e).1; have h2 := lz; omega); have OK := OK.mono (C := w.heap.size) (by omega)))
    all_goals go_wp2
    all_goals
      have dx := fun o => (((BZ.set_ 0 (.int .i64 y0)).set_ 1 (.int .i64 y1)).set_ 2 (.slice KA kn kc)).cell o
      rw [HV.out.1, HV.out.2, HFR.out]
      refine bodyPost_ret (v := .tuple #[.agg #[.int .i64 y0, .int .i64 y1, .slice KA kn kc], .int .i64 (rcvC (damage (sendL (frameC ⟨x0, x1, xs⟩)) ps) nn)]) (by simp [results, Try.results33, go_sem, dx]) rfl ?_
      exact RetF.own (h := ⟨KA, kn, kc⟩) rfl (((OK.far1 (p := ⟨w.heap.size + 1, 0, none⟩) (fun e => hrow _ e rfl) (.int .i64 y0)).far1 (p := ⟨w.heap.size + 1, 1, none⟩) (fun e => hrow _ e rfl) (.int .i64 y1)).far1 (p := ⟨w.heap.size + 1, 2, none⟩) (fun e => hrow _ e rfl) (.slice KA kn kc)) (by simp only; omega) (T4.st3 (Nat.lt_succ_self _) _ _ _).bel
  exact go _ rfl

set_option maxRecDepth 100000 in
set_option maxHeartbeats 4000000 in
theorem specTransferFrame'_any (h : FrameH) (l : FrameC) (h' : Hd) (ps : List Int) (w : World) (ok : FrameOk h) (hr : RdAll w (FrameS h l)) (ok' : IntsOk h') (hr' : RdAll w (IntsS h' ps)) :
    Calls Try.prog 32 #[FrameV h l, IntsV h'] w (RetF (tfR l ps) (tfC l ps) w) := by
  have hp := hr'.head
  have HI := fun (W : World) (b : RdAll W (FrameS h l)) => Lib.hid (specIsFrame_any h l W ok b)
  obtain ⟨P, q, d⟩ := h'
  obtain ⟨⟨A, n, c⟩⟩ := h
  obtain ⟨x0, x1, xs⟩ := l
  unfold IntsOk at ok'
  have hq : q ≤ 2097152 := Nat.le_trans ok' (by decide)
  simp only [IntsV, FrameV] at *
  have BZ := Blk.new1 w (.cells #[.int .i64 x0, .int .i64 x1, .slice A n c] 28) 28 #[.int .i64 0, .int .i64 0, .slice none 0 0]
  have T0 := TrK.al (TrK.mk (Blk.new w 28 #[.int .i64 x0, .int .i64 x1, .slice A n c]) ((Below.refl _ _).alloc (Nat.le_refl _) _) hr hp) (.cells #[.int .i64 0, .int .i64 0, .slice none 0 0] 28)
  have H1 := HI _ T0.fr
  clear hr hr' hp HI ok'
  have go : ∀ b, frOkC ⟨x0, x1, xs⟩ = b → Calls Try.prog 32 #[.agg #[.int .i64 x0, .int .i64 x1, .slice A n c], .slice P q d] w (RetF (tfR ⟨x0, x1, xs⟩ ps) (tfC ⟨x0, x1, xs⟩ ps) w) := by
    intro b hc
    cases b
    case false =>
      rw [(tf_a hc).1, (tf_a hc).2]
      go_enter Try.func32, Try.ntmps32
      go_wp2_with fail
      generalize hw0 : ((w.alloc (.cells #[.int .i64 x0, .int .i64 x1, .slice A n c] 28)).alloc (.cells #[.int .i64 0, .int .i64 0, .slice none 0 0] 28)) = w0 at BZ T0 H1 ⊢
      clear hw0
      refine H1.out.mono ?_
      rintro e w1 ⟨rfl, c1⟩
      rw [hc]
      have T1 := T0.next c1
      have BZ := BZ.below c1 BZ.lt
      have dx := fun o => (((BZ.set_ 0 (.int .i64 0)).set_ 1 (.int .i64 0)).set_ 2 (.slice none 0 0)).cell o
      have cU := fun o => BZ.cell o
      have fU := fun o => BZ.frozen o
      have gU := BZ.lt
      go_wp2
      refine bodyPost_ret (v := .tuple #[.agg #[.int .i64 0, .int .i64 0, .slice none 0 0], .int .i64 1]) (by simp [results, Try.results32, go_sem, dx]) rfl (RetF.zero (T1.st3 (Nat.lt_succ_self _) _ _ _).bel)
    have hok := FrO.of hc
    obtain ⟨nn, hnn⟩ : ∃ nn, (frameC ⟨x0, x1, xs⟩).length = nn := ⟨_, rfl⟩
    obtain ⟨N, hN⟩ : ∃ N, (sendL (frameC ⟨x0, x1, xs⟩)).length = N := ⟨_, rfl⟩
    have HLn : Hid (48 ≤ nn ∧ nn ≤ 284) := by rw [← hnn]; exact frameL_length x0 x1 xs hok.len
    have HN : Hid (N = 16 * rowsOf nn) := by unfold Hid; rw [← hN, sendL_length, hnn]
    have HO := Lib.hid hok
    have HNN := Lib.hid hnn
    have HNL := Lib.hid hN
    have HSB : Hid (allIn (sendL (frameC ⟨x0, x1, xs⟩)) 0 1 = true) := sendL_bits (frameL_bits _ _ _)
    have HDB : Hid (allIn (damage (sendL (frameC ⟨x0, x1, xs⟩)) ps) 0 1 = true) := damage_bits HSB.out ps
    have hN6 : N ≤ 640 := by have h1 := HN.out; have h2 := HLn.out.2; rw [h1]; unfold rowsOf; omega
    have hnb := HLn.out.2
    have HTB := Lib.hid (fun h2 => tf_b (ps := ps) hc hN h2)
    have HTC := Lib.hid (fun h2 => tf_c (ps := ps) hc hnn hN h2)
    clear hok hnn hN
    go_enter Try.func32, Try.ntmps32
    go_wp2_with fail
    generalize hw0 : ((w.alloc (.cells #[.int .i64 x0, .int .i64 x1, .slice A n c] 28)).alloc (.cells #[.int .i64 0, .int .i64 0, .slice none 0 0] 28)) = w0 at BZ T0 H1 ⊢
    clear hw0
    refine H1.out.mono ?_
    rintro e w1 ⟨rfl, c1⟩
    rw [hc]
    clear hc
    have T1 := T0.next c1
    have BZ := BZ.below c1 BZ.lt
    have z1 := BZ.lt
    have hS1 := T1.S
    clear T0
    go_wp2_with fail
    refine (l30Send_sl A n c x0 x1 xs N _ T1.fr HO.out HNL.out).mono ?_
    rintro e w2 ⟨SA, sc, rfl, RS, c2⟩
    have T2 := T1.next c2
    have BZ := BZ.below c2 BZ.lt
    have z2 := BZ.lt
    have hS2 := T2.S
    go_wp2_with fail
    refine (l01Rises_any P q d ps (N : Int) _ (by omega) T2.pl).mono ?_
    rintro e w3 ⟨rfl, c3⟩
    have T3 := T2.next c3
    have BZ := BZ.below c3 BZ.lt
    have z3 := BZ.lt
    have hS3 := T3.S
    have RS := RS.below c3
    rcases Bool.eq_false_or_eq_true (risB ps (N : Int)) with hrs | hrs
    case inr =>
      have HV := Lib.hid (HTB.out hrs)
      rw [hrs]
      clear HTB HTC hrs
      have dx := fun o => (((BZ.set_ 0 (.int .i64 0)).set_ 1 (.int .i64 0)).set_ 2 (.slice none 0 0)).cell o
      have cU := fun o => BZ.cell o
      have fU := fun o => BZ.frozen o
      have gU := BZ.lt
      go_wp2
      rw [HV.out.1, HV.out.2]
      refine bodyPost_ret (v := .tuple #[.agg #[.int .i64 0, .int .i64 0, .slice none 0 0], .int .i64 2]) (by simp [results, Try.results32, go_sem, dx]) rfl (RetF.zero (T3.st3 (Nat.lt_succ_self _) _ _ _).bel)
    have HV := Lib.hid (HTC.out hrs)
    have HI := Lib.hid (risB_in hrs)
    rw [hrs]
    clear HTB HTC hrs
    go_wp2_with fail
    refine (l30Transfer_p A n c x0 x1 xs P q d ps nn N _ T3.fr HO.out HNN.out HNL.out hq T3.pl HI.out).mono ?_
    rintro e u4 ⟨KA, kn, kc, y0, y1, ys, rfl, hfr, hkn, OK, c4⟩
    have T4 := T3.next c4
    have BZ := BZ.below c4 BZ.lt
    have z4 := BZ.lt
    have HFR := Lib.hid hfr
    have hrow : ∀ b, (⟨KA, kn, kc⟩ : Hd).row = some b → b ≠ w.heap.size + 1 := fun b e => by have h1 := (OK.rowlt b e).1; omega
    have OK := OK.mono (C := w.heap.size) (by omega)
    have hS4 := T4.S
    clear hfr T1 T2 T3 c1 c2 c3 c4 z1 z2 z3 H1 RS hS1 hS2 hS3
    rcases Bool.eq_false_or_eq_true (rcvOk (damage (sendL (frameC ⟨x0, x1, xs⟩)) ps) nn) with hk | hk
    · have HC : Hid (rcvC (damage (sendL (frameC ⟨x0, x1, xs⟩)) ps) nn = 0) := by unfold Hid rcvC; rw [hk]; rfl
      rw [hk]
      clear hk
      have BB := (((BZ.set_ 0 (.int .i64 y0)).set_ 1 (.int .i64 y1)).set_ 2 (.slice KA kn kc)).alloc (.cells #[.int .i64 y0, .int .i64 y1, .slice KA kn kc] 28)
      have dx := fun o => BB.cell o
      have cU := fun o => BZ.cell o
      have fU := fun o => BZ.frozen o
      have gU := BZ.lt
      go_wp2
      rw [HV.out.1, HV.out.2, HC.out, HFR.out]
      refine bodyPost_ret (v := .tuple #[.agg #[.int .i64 y0, .int .i64 y1, .slice KA kn kc], .int .i64 0]) (by simp [results, Try.results32, go_sem, dx]) rfl ?_
      exact RetF.own (h := ⟨KA, kn, kc⟩) rfl ((((OK.far1 (p := ⟨w.heap.size + 1, 0, none⟩) (fun e => hrow _ e rfl) (.int .i64 y0)).far1 (p := ⟨w.heap.size + 1, 1, none⟩) (fun e => hrow _ e rfl) (.int .i64 y1)).far1 (p := ⟨w.heap.size + 1, 2, none⟩) (fun e => hrow _ e rfl) (.slice KA kn kc)).below ((Below.refl _ _).alloc (Nat.le_refl _) _)) (by simp only; omega) ((T4.st3 (Nat.lt_succ_self _) _ _ _).al _).bel
    · have HC : Hid (rcvC (damage (sendL (frameC ⟨x0, x1, xs⟩)) ps) nn = 6) := by unfold Hid rcvC; rw [hk]; rfl
      have HZ : Hid ((⟨y0, y1, ys⟩ : FrameC) = ⟨0, 0, []⟩) := by unfold Hid; rw [← HFR.out]; unfold rcvF; rw [hk]; rfl
      rw [hk]
      clear hk
      have BB := (((BZ.set_ 0 (.int .i64 0)).set_ 1 (.int .i64 0)).set_ 2 (.slice none 0 0)).alloc (.cells #[.int .i64 y0, .int .i64 y1, .slice KA kn kc] 28)
      have dx := fun o => BB.cell o
      have cU := fun o => BZ.cell o
      have fU := fun o => BZ.frozen o
      have gU := BZ.lt
      go_wp2
      rw [HV.out.1, HV.out.2, HC.out, HFR.out, HZ.out]
      refine bodyPost_ret (v := .tuple #[.agg #[.int .i64 0, .int .i64 0, .slice none 0 0], .int .i64 6]) (by simp [results, Try.results32, go_sem, dx]) rfl ?_
      exact RetF.zero ((T4.st3 (Nat.lt_succ_self _) _ _ _).al _).bel
  exact go _ rfl
end Go.Proofs.Ytlgmdekhlcbhoaa
