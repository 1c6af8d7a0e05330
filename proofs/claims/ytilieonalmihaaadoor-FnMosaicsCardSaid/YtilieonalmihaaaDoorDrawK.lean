/- Merged texts: Draw, DrawL. What each says stands ahead of it. -/
import Derived.Test.YtilieonalmihaaaDoorKern
import Derived.StillTailTactics
import Derived.Deep.DeepCutAuto
import Derived.IntWalk

/- The reference's draws: a source of numbers, the next number, one of some numbers. Condition: a code of at most 4096 bytes. -/
namespace Go.Proofs.YtilieonalmihaaaDoor
open Go.RowKit

def byteV (xs : List Int) : List Value := xs.map (.int .u8)
theorem byteV_getElem? (xs : List Int) (i : Nat) : (byteV xs)[i]? = xs[i]?.map (.int .u8) := by unfold byteV; simp
theorem Rd.byte {w : World} {A : Option Addr} {n k : Nat} {xs : List Int} (h : Rd w A n (byteV xs)) (hk : k < n) : ∃ ad, A = some ad ∧ xs.getD k 0 ∈ xs ∧ w.cell? (ad.add k) = some (.int .u8 (xs.getD k 0)) := by
  obtain ⟨ad, u, rfl, hu, hc⟩ := h.at_ hk
  have hl : xs.length = n := by have := h.1; unfold byteV at this; simpa using this
  refine ⟨ad, rfl, by rw [getD_at (by omega)]; exact List.getElem_mem _, ?_⟩
  rw [hc, ← hu, byteV_getElem?]
  simp [List.getElem?_eq_getElem (show k < xs.length by omega)]
/-- A source of draws at block g, whose code lies below block L. -/
structure SrcAt (w : World) (L g : Nat) (A : Option Addr) (n c : Nat) (xs : List Int) (a : Nat) (sd : Int) : Prop where
  box : Blk w g 64 #[.slice A n c, .int .i64 (a : Int), .int .i64 sd]
  code : Rd w A n (byteV xs)
  byte : ∀ x ∈ xs, 0 ≤ x ∧ x ≤ 255
  low : ∀ ad, A = some ad → 0 < n → ad.block < L
  ge : L ≤ g
  n_ : n ≤ 4096
  a_ : a ≤ n
  s0 : 0 ≤ sd
  s1 : sd < 2147483647
def Src (w : World) (L g : Nat) : Prop := ∃ A n c xs a sd, SrcAt w L g A n c xs a sd
section
variable {w w' : World} {L g n c a : Nat} {A : Option Addr} {xs : List Int} {sd : Int}
theorem SrcAt.grown {row : Option Nat} (s : SrcAt w L g A n c xs a sd) (k : w.grownBy w' row) (hr : ∀ b, row = some b → L ≤ b ∧ b ≠ g) : SrcAt w' L g A n c xs a sd :=
  ⟨s.box.grown k (fun e => (hr g e).2 rfl), s.code.grown k (fun ad e hn c => by have := s.low ad e hn; have := (hr _ c).1; omega), s.byte, s.low, s.ge, s.n_, s.a_, s.s0, s.s1⟩
theorem SrcAt.drewN (s : SrcAt w L g A n c xs a sd) (m : Nat) : SrcAt (w.drewN m) L g A n c xs a sd := ⟨s.box, s.code, s.byte, s.low, s.ge, s.n_, s.a_, s.s0, s.s1⟩
theorem SrcAt.far_ (s : SrcAt w L g A n c xs a sd) (i : Nat) (u : Value) : Rd (w.setCell ⟨g, i, none⟩ u) A n (byteV xs) :=
  s.code.keep fun ad e hn => Below.heap_setCell _ _ _ _ (by have := s.low ad e hn; have := s.ge; simp only; omega)
theorem SrcAt.seed (s : SrcAt w L g A n c xs a sd) {x : Int} (h0 : 0 ≤ x) (h1 : x < 2147483647) : SrcAt (w.setCell ⟨g, 2, none⟩ (.int .i64 x)) L g A n c xs a x :=
  ⟨s.box.set_ 2 _, s.far_ 2 _, s.byte, s.low, s.ge, s.n_, s.a_, h0, h1⟩
theorem SrcAt.step (s : SrcAt w L g A n c xs a sd) (h : a < n) : SrcAt (w.setCell ⟨g, 1, none⟩ (.int .i64 ((a : Int) + 1))) L g A n c xs (a + 1) sd :=
  ⟨s.box.set_ 1 _, s.far_ 1 _, s.byte, s.low, s.ge, s.n_, h, s.s0, s.s1⟩
theorem Src.grown {row : Option Nat} (s : Src w L g) (k : w.grownBy w' row) (hr : ∀ b, row = some b → L ≤ b ∧ b ≠ g) : Src w' L g := by
  obtain ⟨A, n, c, xs, a, sd, s⟩ := s
  exact ⟨A, n, c, xs, a, sd, s.grown k hr⟩
theorem Src.below (s : Src w L g) (b : Below w.heap.size w w') : Src w' L g := s.grown (row := none) ⟨b.os, b.tape, b.output, b.size, fun k hk _ => b.block k hk⟩ (fun _ h => by cases h)
theorem Src.lt (s : Src w L g) : g < w.heap.size ∧ L ≤ g := by obtain ⟨A, n, c, xs, a, sd, s⟩ := s; exact ⟨s.box.lt, s.ge⟩
end
theorem grown_up {w a b : World} {row : Option Nat} {g : Nat} (h : w.grownBy a (some g)) (k : a.grownBy b row) (hr : ∀ x, row = some x → w.heap.size ≤ x ∨ x = g) : w.grownBy b (some g) :=
  ⟨k.os.trans h.os, k.tape.trans h.tape, k.output.trans h.output, Nat.le_trans h.size k.size, fun i hi hne => (k.block i (Nat.lt_of_lt_of_le hi h.size) (fun c => by
    rcases hr i c.symm with h1 | h1
    · omega
    · exact hne (by rw [h1]))).trans (h.block i hi hne)⟩
def NextPost (L g : Nat) (n : Int) (w : World) (e : Ending) (w' : World) : Prop :=
  ∃ r : Int, e = .returned (.int .i64 r) ∧ 0 ≤ r ∧ (r < n ∨ r = 0) ∧ w.grownBy w' (some g) ∧ Src w' L g
theorem next_mk {L g : Nat} {n r : Int} {w w' : World} {A : Option Addr} {m c a : Nat} {xs : List Int} {sd : Int} (h0 : 0 ≤ r) (h1 : r < n ∨ r = 0) (k : w.grownBy w' (some g)) (s : SrcAt w' L g A m c xs a sd) : NextPost L g n w (.returned (.int .i64 r)) w' :=
  ⟨r, rfl, h0, h1, k, A, m, c, xs, a, sd, s⟩

set_option maxRecDepth 100000 in
set_option maxHeartbeats 4000000 in
theorem l01Next_any (L g : Nat) (n : Int) (w : World) (S : Src w L g) (hn : n ≤ 4611686018427387904) :
    Calls Tryd.prog 18 #[.pointer (some ⟨g, 0, none⟩), .int .i64 n] w (NextPost L g n w) := by
  obtain ⟨A, m, c, xs, a, sd, S⟩ := S
  by_cases hn1 : n ≤ 1
  · go_enter Tryd.func18, Tryd.ntmps18
    go_wp2
    go_ret
    exact next_mk (Int.le_refl _) (.inr rfl) (World.grownBy.refl _ _) S
  have hn2 : 1 < n := by omega
  have b0 := S.s0; have b1 := S.s1; have b2 := S.n_; have b3 := S.a_
  have hsd : 0 ≤ (sd * 48271 + 41) % 2147483647 ∧ (sd * 48271 + 41) % 2147483647 < 2147483647 := by omega
  have S1 := S.seed hsd.1 hsd.2
  have g1 : w.grownBy (w.setCell ⟨g, 2, none⟩ (.int .i64 ((sd * 48271 + 41) % 2147483647))) (some g) := grown_cell _ _ _ _
  have e1 : (sd * 48271 + 41).tmod 2147483647 = (sd * 48271 + 41) % 2147483647 := Int.tmod_eq_emod_of_nonneg (by omega)
  have cS := fun o => S.box.cell o
  have fS := fun o => S.box.frozen o
  have gS := S.box.lt
  go_enter Tryd.func18, Tryd.ntmps18
  go_upto_region 4 with fail
  generalize w.setCell ⟨g, 2, none⟩ (.int .i64 ((sd * 48271 + 41) % 2147483647)) = w1 at S1 g1 ⊢
  generalize (sd * 48271 + 41) % 2147483647 = s1 at *
  clear cS fS gS S e1
  have cS := fun o => S1.box.cell o
  have fS := fun o => S1.box.frozen o
  have gS := S1.box.lt
  have e2 : s1.tdiv 29 = s1 / 29 := Int.tdiv_eq_ediv_of_nonneg (by omega)
  have hx : 0 ≤ s1 / 29 ∧ s1 / 29 ≤ 74051161 := by omega
  by_cases ha : a < m
  · obtain ⟨ad, rfl, hmem, hb⟩ := S1.code.byte ha
    have hbd := S1.byte _ hmem
    have i0 : (0 : Int) ≤ (a : Int) := by omega
    have i1 : (a : Int) < (m : Int) := by omega
    have i2 : (m : Int) ≤ 4096 := by omega
    generalize xs.getD a 0 = y at *
    clear hmem
    go_wp2_with fail
    go_quiet (fail)
    obtain ⟨q1, rfl⟩ : ∃ q1 : Nat, q1 = nq := ⟨_, rfl⟩
    go_wp2_with fail
    go_quiet (fail)
    have S2 := (S1.drewN q1).drewN nq
    have g2 := grown_drewN (grown_drewN g1 q1) nq
    have hb2 : ((w1.drewN q1).drewN nq).cell? (ad.add a) = some (.int .u8 y) := hb
    generalize (w1.drewN q1).drewN nq = w2 at S2 g2 hb2 ⊢
    clear S1 g1 hb cS fS gS
    have cS := fun o => S2.box.cell o
    have fS := fun o => S2.box.frozen o
    have gS := S2.box.lt
    have hne : (ad.add a).block ≠ g := by rw [block_of_add]; have := S2.low ad rfl (by omega); have := S2.ge; omega
    have S3 := S2.step ha
    have g3 : w.grownBy (w2.setCell ⟨g, 1, none⟩ (.int .i64 ((a : Int) + 1))) (some g) := grown_setCell g2 (.inl rfl) _
    have hb3 : (w2.setCell ⟨g, 1, none⟩ (.int .i64 ((a : Int) + 1))).cell? (ad.add a) = some (.int .u8 y) := (World.cell?_setCell_other _ _ _ _ (fun c => hne (by rw [← c]))).trans hb2
    go_upto_region 8 with fail
    generalize w2.setCell ⟨g, 1, none⟩ (.int .i64 ((a : Int) + 1)) = w3 at S3 g3 hb3 ⊢
    clear S2 g2 hb2 cS fS gS
    have cS := fun o => S3.box.cell o
    have gS := S3.box.lt
    have hx2 : 0 ≤ s1 / 29 + y ∧ s1 / 29 + y ≤ 74051416 := by omega
    generalize s1 / 29 + y = x at *
    have ex : x.tmod n = x % n := Int.tmod_eq_emod_of_nonneg (by omega)
    have ey : y.tmod n = y % n := Int.tmod_eq_emod_of_nonneg (by omega)
    have rx : 0 ≤ x % n ∧ x % n < n := ⟨Int.emod_nonneg _ (by omega), Int.emod_lt_of_pos _ (by omega)⟩
    have ry : 0 ≤ y % n ∧ y % n < n := ⟨Int.emod_nonneg _ (by omega), Int.emod_lt_of_pos _ (by omega)⟩
    have RX := Lib.hid rx
    have RY := Lib.hid ry
    clear rx ry
    have et : ((a : Int) + 1).tmod 2 = ((a : Int) + 1) % 2 := Int.tmod_eq_emod_of_nonneg (by omega)
    by_cases h256 : n ≤ 256
    · by_cases h2 : ((a : Int) + 1) % 2 = 0
      · have h2b : (((a : Int) + 1) % 2 == 0) = true := by simpa using h2
        have HA := Lib.hid h2
        clear h2
        go_wp2_with fail
        go_quiet (fail)
        have S4 := S3.drewN nq
        have g4 := grown_drewN g3 nq
        clear cS S3 g3
        go_wp2
        go_ret
        exact next_mk RY.out.1 (.inl RY.out.2) g4 S4
      · have h2b : (((a : Int) + 1) % 2 == 0) = false := by simpa using h2
        have HA := Lib.hid h2
        clear h2
        go_wp2
        go_ret
        exact next_mk RX.out.1 (.inl RX.out.2) g3 S3
    · go_wp2
      go_ret
      exact next_mk RX.out.1 (.inl RX.out.2) g3 S3
  · go_wp2_with fail
    go_quiet (fail)
    have S2 := S1.drewN nq
    have g2 := grown_drewN g1 nq
    generalize s1 / 29 = x at *
    have ex : x.tmod n = x % n := Int.tmod_eq_emod_of_nonneg (by omega)
    have rx : 0 ≤ x % n ∧ x % n < n := ⟨Int.emod_nonneg _ (by omega), Int.emod_lt_of_pos _ (by omega)⟩
    have RX := Lib.hid rx
    clear rx
    go_wp2
    go_ret
    exact next_mk RX.out.1 (.inl RX.out.2) g2 S2

def FromPost (w : World) (e : Ending) (w' : World) : Prop := ∃ g, e = .returned (.pointer (some ⟨g, 0, none⟩)) ∧ Src w' w.heap.size g ∧ Below w.heap.size w w'
set_option maxRecDepth 100000 in
set_option maxHeartbeats 2000000 in
theorem l01From_any (A : Option Addr) (n c : Nat) (xs : List Int) (w : World) (r : Rd w A n (byteV xs)) (hx : ∀ x ∈ xs, 0 ≤ x ∧ x ≤ 255) (hn : n ≤ 4096) :
    Calls Tryd.prog 16 #[.slice A n c] w (FromPost w) := by
  have HLow : Hid (∀ ad, A = some ad → 0 < n → ad.block < w.heap.size) := fun ad e h => r.lt e h
  have HX := Lib.hid hx
  clear hx
  go_enter Tryd.func16, Tryd.ntmps16
  go_wp2_with fail
  go_loopw [4] (fun i wr => ∃ (k : Nat) (sd : Int), k ≤ n ∧ k ≤ 64 ∧ i = .int .i64 k ∧ 0 ≤ sd ∧ sd < 2147483647 ∧ Blk wr w.heap.size 64 #[.slice A n c, .int .i64 0, .int .i64 sd] ∧ Below w.heap.size w wr) (fun i _ => 64 - (intOf i).toNat)
  case atStart => exact ⟨0, 80051, Nat.zero_le _, Nat.zero_le _, rfl, by decide, by decide, Blk.new _ _ _, (Below.refl _ _).alloc (Nat.le_refl _) _⟩
  case round =>
    obtain ⟨k, sd, hk, hk2, rfl, h0, h1, K, hb⟩ := hrel
    have cS := fun o => K.cell o
    have fS := fun o => K.frozen o
    have gS := K.lt
    by_cases hlt : k < n ∧ k < 64
    · obtain ⟨hlt, hlt2⟩ := hlt
      obtain ⟨ad, rfl, hmem, hy⟩ := (r.below hb).byte hlt
      have hbd := HX.out _ hmem
      have i0 : (0 : Int) ≤ (k : Int) := by omega
      have i1 : (k : Int) < (n : Int) := by omega
      generalize xs.getD k 0 = y at *
      clear hmem
      have e1 : (sd * 61 + y).tmod 2147483647 = (sd * 61 + y) % 2147483647 := Int.tmod_eq_emod_of_nonneg (by omega)
      have hsd : 0 ≤ (sd * 61 + y) % 2147483647 ∧ (sd * 61 + y) % 2147483647 < 2147483647 := by omega
      have w1 : IntKind.i64.wrap (sd * 61) = sd * 61 := IntWalk.i64_in _ (by omega)
      have w2 : IntKind.i64.wrap (sd * 61 + y) = sd * 61 + y := IntWalk.i64_in _ (by omega)
      go_wp2_with fail
      go_still_tail 15, (by kernel_rfl)
      have K2 : Blk wr.drew w.heap.size _ _ := K
      have hb2 := Below.drew hb
      change wpList _ _ _ _ _ wr.drew
      generalize wr.drew = w5 at K2 hb2 ⊢
      clear K hb cS fS gS hy
      have fS := fun o => K2.frozen o
      have cS := fun o => K2.cell o
      have gS := K2.lt
      go_wp2
      go_roundw
      case rel => exact ⟨k + 1, (sd * 61 + y) % 2147483647, by omega, by omega, by go_num, hsd.1, hsd.2, K2.set_ 2 _, (by (repeat (first | (with_reducible assumption) | (with_reducible exact Below.refl _ _) | (with_reducible refine Below.drew ?_) | (with_reducible refine Below.drewN ?_ _) | (with_reducible refine Below.setCell ?_ ?_ _) | (with_reducible refine Below.alloc ?_ ?_ _) | assumption)); all_goals (first | omega | (simp; done) | (simp; omega)))⟩
      case measure => simp [intOf]; omega
    · by_cases hlt : k < n
      · have hlt2 : ¬ (k : Int) < 64 := by omega
        go_wp2
        go_ret
        exact ⟨_, rfl, ⟨A, n, c, xs, 0, sd, K, r.below hb, HX.out, HLow.out, Nat.le_refl _, hn, Nat.zero_le _, h0, h1⟩, hb⟩
      · go_wp2
        go_ret
        exact ⟨_, rfl, ⟨A, n, c, xs, 0, sd, K, r.below hb, HX.out, HLow.out, Nat.le_refl _, hn, Nat.zero_le _, h0, h1⟩, hb⟩
def PickPost (L g : Nat) (xs : List Int) (w : World) (e : Ending) (w' : World) : Prop := ∃ x, x ∈ xs ∧ e = .returned (.int .i64 x) ∧ w.grownBy w' (some g) ∧ Src w' L g
set_option maxHeartbeats 1000000 in
theorem l01Pick_any (L g : Nat) (A : Option Addr) (n c : Nat) (xs : List Int) (w : World) (S : Src w L g) (r : Rd w A n (ints xs)) (hn0 : 0 < n) (hn : n ≤ 1048576) (hne : ∀ ad, A = some ad → ad.block ≠ g) :
    Calls Tryd.prog 38 #[.pointer (some ⟨g, 0, none⟩), .slice A n c] w (PickPost L g xs w) := by
  have HL := Lib.hid r.len
  go_enter Tryd.func38, Tryd.ntmps38
  go_wp2_with fail
  refine (l01Next_any L g n _ S (by omega)).mono ?_
  rintro e w1 ⟨x, rfl, h0, h1, g1, S1⟩
  obtain ⟨j, rfl⟩ := Int.eq_ofNat_of_zero_le h0
  have hj : j < n := by omega
  have r1 : Rd w1 A n (ints xs) := r.grown g1 (fun ad e _ c => by injection c with c; exact hne ad e c.symm)
  obtain ⟨ad, rfl, hx⟩ := r1.int hj
  have hmem : Hid (xs.getD j 0 ∈ xs) := by unfold Hid; rw [getD_at (by rw [HL.out]; exact hj)]; exact List.getElem_mem _
  have i1 : (j : Int) < (n : Int) := by omega
  generalize xs.getD j 0 = y at *
  go_wp2
  go_ret
  exact ⟨y, hmem.out, rfl, g1, S1⟩
end Go.Proofs.YtilieonalmihaaaDoor

/- The reference's draws of links: items and steps. Condition: a source whose code has at most 4096 bytes. -/
namespace Go.Proofs.YtilieonalmihaaaDoor
open Go.RowKit

/-- A list of the call's own, while numbers are drawn. -/
structure Lst (w wr : World) (L g : Nat) (h : Hd) (xs : List Int) : Prop where
  own : Own wr w.heap.size 1 h (ints xs)
  gr : w.grownBy wr (some g)
  src : Src wr L g
  lt : g < w.heap.size
section
variable {w wr w1 : World} {L g : Nat} {h : Hd} {xs : List Int}
theorem Lst.next (s : Lst w wr L g h xs) (k : wr.grownBy w1 (some g)) (S1 : Src w1 L g) : Lst w w1 L g h xs :=
  ⟨s.own.grown k (fun b e c => by have := (s.own.rowlt b e).1; have := s.lt; injection c with c; omega), grown_trans s.gr k, S1, s.lt⟩
theorem Lst.alloc (s : Lst w wr L g h xs) (ob : Obj) : Lst w (wr.alloc ob) L g h xs :=
  have b : Below wr.heap.size wr (wr.alloc ob) := (Below.refl _ _).alloc (Nat.le_refl _) ob
  ⟨s.own.below b, grown_trans s.gr (grown_of_below b), s.src.below b, s.lt⟩
theorem Lst.app {G : Hd} {us : List Value} (s : Lst w wr L g h xs) {ys : List Int} (HG : Own w1 w.heap.size 1 G us) (hu : us = ints (xs ++ ys)) (gg : wr.grownBy w1 h.row) : Lst w w1 L g G (xs ++ ys) :=
  ⟨hu ▸ HG, grown_up s.gr gg (fun x e => .inl (s.own.rowlt x e).1), s.src.grown gg (fun b e => by
    have := (s.own.rowlt b e).1; have := s.lt; have := s.src.lt
    exact ⟨by omega, by omega⟩), s.lt⟩
theorem Lst.start (S : Src w L g) (e : TypeId) : Lst w (w.alloc (.cells #[] e)) L g ⟨some ⟨w.heap.size, 0, none⟩, 0, 0⟩ [] :=
  have b : Below w.heap.size w (w.alloc (.cells #[] e)) := (Below.refl _ _).alloc (Nat.le_refl _) _
  ⟨Own.empty _ _ _ _, grown_of_below b, S.below b, S.lt.1⟩
end
theorem wpList_push {ops : Array Oper} {rest : List Oper} {o : Oper} {a : Act} {Q : Exit → Act → World → Prop} {W : World} (hgd : o.guard = none) (s x : Operand)
    (ho : o.op = .call { callee := .builtin .append, args := #[s, x], argTypes := #[24, 24] })
    (w : World) (L g : Nat) (h : Hd) (xs ys : List Int) (Lx : Lst w W L g h xs) (hs : a.eval s = .slice h.A h.n h.c) (A : Option Addr) (m c : Nat) (hx : a.eval x = .slice A m c) (hr : Rd W A m (ints ys)) (hn : h.n + m ≤ 1099511627776)
    (K : ∀ G wg, G.n = h.n + m → Lst w wg L g G (xs ++ ys) → wpList Tryd.prog ops Q rest (a.put o.dst (.slice G.A G.n G.c)) wg) : wpList Tryd.prog ops Q (o :: rest) a W :=
  wpList_append_Own hgd s x 24 ho 2 1 8 Tryd.underlying24 Int64_info (by decide) w.heap.size h (ints xs) hs Lx.own A m c (ints ys) hx (by rw [Nat.mul_one]; exact hr) (oneCell_ints _) hn (by decide) (Nat.le_trans (Nat.le_refl _) Lx.gr.size) fun G wg hGn HG gg _ =>
    K G wg hGn (Lx.app HG (by rw [ints_append]) gg)
def DrawPost (L g most : Nat) (w : World) (e : Ending) (w' : World) : Prop :=
  ∃ (h : Hd) (xs : List Int), e = .returned (.slice h.A h.n h.c) ∧ h.n ≤ most ∧ Lst w w' L g h xs
def lenOf : Value → Nat
  | .slice _ n _ => n
  | _ => 0
theorem rd_two' (w : World) (x y : Int) (e : TypeId) : Rd (w.alloc (.cells #[.int .i64 x, .int .i64 y] e)) (some ⟨w.heap.size, 0, none⟩) 2 (ints [x, y]) :=
  (Blk.new w e #[.int .i64 x, .int .i64 y]).rd rfl (fun i hi => by
    match i, hi with
    | 0, _ => rfl
    | 1, _ => rfl)

theorem rd_cells (w : World) (xs : List Int) (e : TypeId) : Rd (w.alloc (.cells (ints xs).toArray e)) (some ⟨w.heap.size, 0, none⟩) xs.length (ints xs) :=
  (Blk.new w e (ints xs).toArray).rd (by unfold ints; simp) (fun i _ => by simp)
end Go.Proofs.YtilieonalmihaaaDoor
