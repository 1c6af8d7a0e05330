/- The draws of mosaics. Existential: some mosaic of at most 30 cells. Condition: a code of at most 4096 bytes. -/
import Derived.Test.YtilieonalmihaaaDoorDrawR
import Derived.Test.YtilieonalmihaaaDoorMosN
namespace Go.Proofs.YtilieonalmihaaaDoor
open Go.RowKit

/-- A mosaic of the call's own, of at most 30 cells. -/
structure MosW (W : World) (B : Nat) (h : MosaicH) (l : MosaicC) : Prop where
  rd : RdAll W (MosaicS h l)
  wr : WrAll W B (MosaicS h l)
  sp : Sep (MosaicR h)
  le : h.values.n ≤ 30
  pos : 1 ≤ h.values.n
  eq : h.grades.n = h.values.n
section
variable {W W' : World} {B C g : Nat} {h : MosaicH} {l : MosaicC}
theorem MosW.nx (X : MosW W B h l) (k : W.grownBy W' (some g)) (hg : g < B) : MosW W' B h l :=
  have o : ∀ s ∈ (MosaicS h l).map Sl.row, s ≠ some g := X.wr.hi.ne hg
  ⟨X.rd.nx k o, X.wr.nx X.rd k o, X.sp, X.le, X.pos, X.eq⟩
theorem MosW.bel (X : MosW W B h l) (b : Below W.heap.size W W') : MosW W' B h l := ⟨X.rd.below b, X.wr.below X.rd b, X.sp, X.le, X.pos, X.eq⟩
theorem MosW.alloc (X : MosW W B h l) (o : Obj) : MosW (W.alloc o) B h l := X.bel ((Below.refl _ _).alloc (Nat.le_refl _) o)
theorem MosW.lower (X : MosW W B h l) (hC : C ≤ B) : MosW W C h l := ⟨X.rd, X.wr.lower hC, X.sp, X.le, X.pos, X.eq⟩
theorem MosW.ok (X : MosW W B h l) : MosaicOk h := ⟨by have := X.le; omega, by have := X.le; have := X.eq; omega⟩
theorem MosW.ne (X : MosW W B h l) {b : Nat} (hb : b < B) : ∀ s ∈ MosaicR h, s ≠ some b := X.wr.hi.ne hb
theorem MosW.cell (X : MosW W B h l) {b i : Nat} (hb : b < B) (u : Value) : MosW (W.setCell ⟨b, i, none⟩ u) B h l := ⟨X.rd.cell_ (X.wr.hi.ne hb), X.wr.cell_, X.sp, X.le, X.pos, X.eq⟩
theorem MosW.of {n : Nat} (O : MosaicOwn W B h l) (hv : h.values.n = n) (hg : h.grades.n = n) (h1 : 1 ≤ n) (h2 : n ≤ 30) : MosW W B h l := ⟨O.rd, O.wr, O.sp, by omega, by omega, by omega⟩
theorem MosW.put {l' : MosaicC} {e : Ending} (X : MosW W B h l) (p : PutPost B h l' W e W') : MosW W' B h l' := ⟨p.2.1, p.2.2.1, X.sp, X.le, X.pos, X.eq⟩
/-- the first value is written -/
theorem MosW.set_v (X : MosW W B h l) {ad : Addr} (e : h.values.A = some ad) (v : Int) : MosW (W.setCell ad (.int .i64 v)) B h ⟨l.wide, l.high, l.values.set 0 v, l.grades⟩ := by
  have r2 : Rd W h.values.A h.values.n (ints l.values) := X.rd.head
  have r3 : Rd W h.grades.A h.grades.n (ints l.grades) := X.rd.tail.head
  have o := X.sp.off
  have hp := X.pos; have he := X.eq
  have e2 := r2.seti (x := v) (k := 0) (by omega) e
  rw [Addr.add_zero'] at e2
  refine ⟨RdAll.cons (s := ⟨h.values.A, h.values.n, ints (l.values.set 0 v)⟩) e2 (RdAll.cons (s := ⟨h.grades.A, h.grades.n, ints l.grades⟩) (r3.keep fun ad' e' hn => Below.heap_setCell _ _ _ _ ?_) (RdAll.nil _)), ?_, X.sp, X.le, X.pos, X.eq⟩
  · intro c
    exact o _ (List.mem_cons_self ..) _ (List.mem_cons_self ..) ad.block (by unfold blkp; rw [if_neg (by omega), e]; rfl) (by unfold blkp; rw [if_neg (by omega), e', ← c]; rfl)
  · exact WrAll.cons (s := ⟨h.values.A, h.values.n, _⟩) (X.wr.head.set_ _) (WrAll.cons (s := ⟨h.grades.A, h.grades.n, _⟩) (X.wr.tail.head.set_ _) (WrAll.nil _ _))
theorem MosW.set_g (X : MosW W B h l) {ad : Addr} (e : h.grades.A = some ad) (v : Int) : MosW (W.setCell ad (.int .i64 v)) B h ⟨l.wide, l.high, l.values, l.grades.set 0 v⟩ := by
  have r2 : Rd W h.values.A h.values.n (ints l.values) := X.rd.head
  have r3 : Rd W h.grades.A h.grades.n (ints l.grades) := X.rd.tail.head
  have o := X.sp.off
  have hp := X.pos; have he := X.eq
  have e2 := r3.seti (x := v) (k := 0) (by omega) e
  rw [Addr.add_zero'] at e2
  refine ⟨RdAll.cons (s := ⟨h.values.A, h.values.n, ints l.values⟩) (r2.keep fun ad' e' hn => Below.heap_setCell _ _ _ _ ?_) (RdAll.cons (s := ⟨h.grades.A, h.grades.n, ints (l.grades.set 0 v)⟩) e2 (RdAll.nil _)), ?_, X.sp, X.le, X.pos, X.eq⟩
  · intro c
    exact o _ (List.mem_cons_self ..) _ (List.mem_cons_self ..) ad'.block (by unfold blkp; rw [if_neg (by omega), e']; rfl) (by unfold blkp; rw [if_neg (by omega), e]; show some ad.block = some ad'.block; rw [← c])
  · exact WrAll.cons (s := ⟨h.values.A, h.values.n, _⟩) (X.wr.head.set_ _) (WrAll.cons (s := ⟨h.grades.A, h.grades.n, _⟩) (X.wr.tail.head.set_ _) (WrAll.nil _ _))
end
def DrawM (w : World) (L g : Nat) (e : Ending) (w' : World) : Prop := ∃ h l, e = .returned (MosaicV h l) ∧ MosW w' w.heap.size h l ∧ Dr w w' L g

set_option maxRecDepth 100000 in
set_option maxHeartbeats 4000000 in
theorem l19Draw_any (L g : Nat) (w : World) (S : Src w L g) :
    Calls Tryd.prog 17 #[.pointer (some ⟨g, 0, none⟩)] w (DrawM w L g) := by
  have D0 := (Dr.start S).alloc (.cells #[.int .i64 0, .int .i64 0, .slice none 0 0, .slice none 0 0] 26)
  have K0 := Blk.new w 26 #[.int .i64 0, .int .i64 0, .slice none 0 0, .slice none 0 0]
  have gS := S.lt
  go_enter Tryd.func17, Tryd.ntmps17
  go_wp2_with fail
  generalize w.alloc (.cells #[.int .i64 0, .int .i64 0, .slice none 0 0, .slice none 0 0] 26) = w0 at D0 K0 ⊢
  refine (l01Next_any L g 6 _ D0.src (by decide)).mono ?_
  rintro e w1 ⟨x, rfl, x0, x1, g1, S1⟩
  have D1 := D0.next g1 S1
  have K1 := K0.nx g1 (by omega)
  clear g1 D0 K0 S1
  go_wp2_with fail
  refine (l01Next_any L g 5 _ D1.src (by decide)).mono ?_
  rintro e w2 ⟨y, rfl, y0, y1, g2, S2⟩
  have D2 := D1.next g2 S2
  have K2 := K1.nx g2 (by omega)
  clear g2 D1 K1 S2
  obtain ⟨a, ha⟩ : ∃ a : Nat, 1 + x = (a : Int) := ⟨(1 + x).toNat, by omega⟩
  obtain ⟨b, hb⟩ : ∃ b : Nat, 1 + y = (b : Int) := ⟨(1 + y).toNat, by omega⟩
  have hab : 1 ≤ a ∧ a ≤ 6 ∧ 1 ≤ b ∧ b ≤ 5 := by omega
  have hn1 : 1 ≤ a * b := Nat.mul_pos hab.1 hab.2.2.1
  have hn2 : a * b ≤ 6 * 5 := Nat.mul_le_mul hab.2.1 hab.2.2.2
  go_wp2_with fail
  refine (l19New_any a b _ (by omega) (by omega)).mono ?_
  rintro e w3 ⟨h, rfl, hv, hg, O, b3⟩
  have D3 := D2.bel b3
  have K3 := K2.below b3 K2.lt
  have X3 : MosW w3 w2.heap.size h (newM a b) := MosW.of O hv hg hn1 hn2
  have hz2 : w.heap.size < w2.heap.size := K2.lt
  have X3 := X3.lower (C := w.heap.size + 1) (by omega)
  clear D2 K2 b3 O ha hb
  obtain ⟨⟨Av, nv, cv⟩, ⟨Ag, ng, cg⟩⟩ := h
  simp only at hv hg
  obtain ⟨n, hn⟩ : ∃ n, a * b = n := ⟨_, rfl⟩
  have hm : (a : Int) * (b : Int) = (n : Int) := by rw [← Int.natCast_mul, hn]
  rw [hn] at hv hg hn1 hn2
  subst hg
  subst hv
  have l0 : ∃ l : MosaicC, l = newM a b ∧ l.wide = (a : Int) ∧ l.high = (b : Int) := ⟨_, rfl, rfl, rfl⟩
  obtain ⟨l0, hl0, hlw, hlh⟩ := l0
  rw [← hl0] at X3
  unfold MosaicV newM
  simp only
  clear hn hl0
  go_wp2_with fail
  have BQ := Blk.new w3 26 #[.int .i64 (a : Int), .int .i64 (b : Int), .slice Av nv cv, .slice Ag nv cg]
  have hz3 : w.heap.size < w3.heap.size := K3.lt
  have D4 := D3.alloc (.cells #[.int .i64 (a : Int), .int .i64 (b : Int), .slice Av nv cv, .slice Ag nv cg] 26)
  have K4 := K3.alloc (.cells #[.int .i64 (a : Int), .int .i64 (b : Int), .slice Av nv cv, .slice Ag nv cg] 26)
  have X4 := X3.alloc (.cells #[.int .i64 (a : Int), .int .i64 (b : Int), .slice Av nv cv, .slice Ag nv cg] 26)
  have hQ0 : ∀ s ∈ MosaicR ⟨⟨Av, nv, cv⟩, ⟨Ag, nv, cg⟩⟩, s ≠ some w3.heap.size := (X3.rd.lo).ne (Nat.le_refl _)
  generalize w3.alloc (.cells #[.int .i64 (a : Int), .int .i64 (b : Int), .slice Av nv cv, .slice Ag nv cg] 26) = w4 at BQ D4 K4 X4 ⊢
  generalize w3.heap.size = Q at BQ hz3 hQ0 ⊢
  clear D3 K3 X3
  have hQ1 : Q ≠ w.heap.size := by omega
  have hQ2 : w.heap.size ≠ Q := by omega
  have hRb : Hid (∀ s ∈ MosaicR ⟨⟨Av, nv, cv⟩, ⟨Ag, nv, cg⟩⟩, ∀ b, s = some b → w.heap.size + 1 ≤ b) := fun s hs b e => X4.wr.hi s hs b e
  have HQ0 := Lib.hid hQ0
  clear hQ0
  go_loopw [4] (fun i wr => ∃ (k : Nat) (l : MosaicC), k ≤ nv ∧ i = .int .i64 k ∧ l.wide = (a : Int) ∧ l.high = (b : Int) ∧ MosW wr (w.heap.size + 1) ⟨⟨Av, nv, cv⟩, ⟨Ag, nv, cg⟩⟩ l ∧ Blk wr Q 26 #[.int .i64 (a : Int), .int .i64 (b : Int), .slice Av nv cv, .slice Ag nv cg] ∧ Blk wr w.heap.size 26 #[.int .i64 0, .int .i64 0, .slice none 0 0, .slice none 0 0] ∧ Dr w wr L g) (fun i _ => nv - (intOf i).toNat)
  case atStart => exact ⟨0, l0, Nat.zero_le _, rfl, hlw, hlh, X4, BQ, K4, D4⟩
  case round =>
    clear X4 BQ K4 D4 hlw hlh
    obtain ⟨k, l, hk, rfl, hlw, hlh, X, B, K, D⟩ := hrel
    have cQ := fun o => B.cell o
    have fQ := fun o => B.frozen o
    have gQ := B.lt
    by_cases hlt : k < nv
    · have hltI : (k : Int) < (nv : Int) := by omega
      go_wp2_with fail
      refine (l01Next_any L g 3 _ D.src (by decide)).mono ?_
      rintro e w5 ⟨r, rfl, r0, r1, g5, S5⟩
      have D5 := D.next g5 S5
      have K5 := K.nx g5 (by omega)
      have B5 := B.nx g5 (by omega)
      have X5 := X.nx g5 (by omega)
      clear D K B X cQ fQ gQ g5 S5
      have cQ := fun o => B5.cell o
      have gQ := B5.lt
      by_cases hr : 0 < r
      · have HP := fun (v z : Int) (W : World) (X : MosW W (w.heap.size + 1) ⟨⟨Av, nv, cv⟩, ⟨Ag, nv, cg⟩⟩ l) => specPut_any (w.heap.size + 1) ⟨⟨Av, nv, cv⟩, ⟨Ag, nv, cg⟩⟩ l k v z W X.ok rfl hlt X.rd X.wr X.sp
        simp only [MosaicV, hlw, hlh] at HP
        have HP' := Lib.hid HP
        have HLW := Lib.hid hlw
        have HLH := Lib.hid hlh
        clear HP
        clear hlw hlh
        go_wp2_with fail
        have D6 := D5.drew
        have K6 := Blk.drew K5
        have B6 := Blk.drew B5
        have X6 := X5.bel (Below.drew (Below.refl _ _))
        have hS6 := fun o => B6.cell o
        go_region_held3 (fun w' => ∀ o, w'.cell? ⟨Q, o, none⟩ = (#[.int .i64 (a : Int), .int .i64 (b : Int), .slice Av nv cv, .slice Ag nv cg] : Array Value)[o]?)
          (first | (with_reducible assumption) | (intro o; go_keep))
          (first
            | (go_at_call_of 18 (Value.int .i64 9); refine (l01Next_any L g 9 _ D7.src (by decide)).mono ?_; rintro e w8 ⟨z, rfl, z0, z1, g8, S8⟩; have D8 := D7.next g8 S8; have K8 := K7.nx g8 (by omega); have B8 := B7.nx g8 (by omega); have X8 := X7.nx g8 (by omega); have m8 : IntKind.i64.wrap (1 + z) = 1 + z := IntWalk.i64_in _ (by omega); have hS8 := fun o => B8.cell o)
            | (go_at_call_of 18 (Value.int .i64 1001); refine (l01Next_any L g 1001 _ D6.src (by decide)).mono ?_; rintro e w7 ⟨v, rfl, v0, v1, g7, S7⟩; have D7 := D6.next g7 S7; have K7 := K6.nx g7 (by omega); have B7 := B6.nx g7 (by omega); have X7 := X6.nx g7 (by omega); have hS7 := fun o => B7.cell o)
            | (go_at_call 21; (with_reducible refine (HP'.out v (1 + z) _ X8).mono ?_); rintro e w9 ⟨rfl, hp⟩; have B9 := B8.touch hp.2.2 HQ0.out; have hS9 := fun o => B9.cell o))
        all_goals
          have X9 : MosW w9 (w.heap.size + 1) ⟨⟨Av, nv, cv⟩, ⟨Ag, nv, cg⟩⟩ (putM l k v (1 + z)) := ⟨hp.1, hp.2.1, X8.sp, X8.le, X8.pos, X8.eq⟩
          have K9 := K8.touch hp.2.2 (X8.ne (Nat.lt_succ_self _))
          have D9 := D8.touch hp.2.2 (fun s hs b e => by have := hRb.out s hs b e; omega)
          clear hp X5 X6 X7 X8 B5 B6 B7 B8 K5 K6 K7 K8 D5 D6 D7 D8 hS6 hS7 hS8 hS9 S7 S8 g7 g8 HP' cQ gQ m8
          go_wp2
          go_roundw
          case rel => exact ⟨k + 1, putM l k v (1 + z), by omega, by go_num, HLW.out, HLH.out, X9, B9, K9, D9⟩
          case measure => simp [intOf]; omega
      · have hr0 : ¬ (0 : Int) < r := hr
        go_wp2
        go_roundw
        case rel => exact ⟨k + 1, l, by omega, by go_num, hlw, hlh, X5, B5, K5, D5⟩
        case measure => simp [intOf]; omega
    · obtain rfl : nv = k := by omega
      have hltI : ¬ (nv : Int) < (nv : Int) := by omega
      have HX := X
      clear X
      go_wp2_with fail
      refine (l01Next_any L g 60 _ D.src (by decide)).mono ?_
      rintro e w5 ⟨r, rfl, r0, r1, g5, S5⟩
      have D5 := D.next g5 S5
      have K5 := K.nx g5 (by omega)
      have B5 := B.nx g5 (by omega)
      have X5 := HX.nx g5 (by omega)
      clear D K B HX cQ fQ gQ g5 S5
      have XL : MosW w5 (w.heap.size + 1) ⟨⟨Av, nv, cv⟩, ⟨Ag, nv, cg⟩⟩ ⟨(a : Int), (b : Int), l.values, l.grades⟩ := by
        have e : (⟨(a : Int), (b : Int), l.values, l.grades⟩ : MosaicC) = l := by rw [← hlw, ← hlh]
        rw [e]; exact X5
      clear X5 hlw hlh
      by_cases hr3 : r = 0 ∨ r = 1 ∨ r = 2
      case neg =>
        have q0 : (r == 0) = false := by simp; omega
        have q1 : (r == 1) = false := by simp; omega
        have q2 : (r == 2) = false := by simp; omega
        clear hr3
        have fB := fun o => B5.frozen o
        have cB := fun o => B5.cell o
        have gB := B5.lt
        have cK := fun o => K5.cell o
        have fK := fun o => K5.frozen o
        have gK := K5.lt
        go_wp2
        refine bodyPost_ret (v := .agg #[.int .i64 (a : Int), .int .i64 (b : Int), .slice Av nv cv, .slice Ag nv cg]) (by simp [results, Tryd.results17, go_sem, cK, gK]) rfl ?_
        exact ⟨⟨⟨Av, nv, cv⟩, ⟨Ag, nv, cg⟩⟩, ⟨(a : Int), (b : Int), _, _⟩, rfl, (((((XL).cell (Nat.lt_succ_self _) _).cell (Nat.lt_succ_self _) _).cell (Nat.lt_succ_self _) _).cell (Nat.lt_succ_self _) _).lower (Nat.le_succ _), (((((D5).set_ (Nat.le_refl _) _).set_ (Nat.le_refl _) _).set_ (Nat.le_refl _) _).set_ (Nat.le_refl _) _)⟩
      obtain ⟨a2, rfl, -⟩ := XL.rd.head.int (show 0 < nv from hn1)
      obtain ⟨a3, rfl, -⟩ := XL.rd.tail.head.int (show 0 < nv from hn1)
      have hR := hRb.out
      have ha2 : w.heap.size + 1 ≤ a2.block := hR _ (List.mem_cons_self ..) _ (by unfold blkp; rw [if_neg (by simp only; omega)]; rfl)
      have ha3 : w.heap.size + 1 ≤ a3.block := hR _ (List.mem_cons_of_mem _ (List.mem_cons_self ..)) _ (by unfold blkp; rw [if_neg (by simp only; omega)]; rfl)
      have hq2 : a2.block ≠ Q := fun c => HQ0.out _ (List.mem_cons_self ..) (by unfold blkp; rw [if_neg (by simp only; omega), ← c]; rfl)
      have hq3 : a3.block ≠ Q := fun c => HQ0.out _ (List.mem_cons_of_mem _ (List.mem_cons_self ..)) (by unfold blkp; rw [if_neg (by simp only; omega), ← c]; rfl)
      have kA : ∀ (W : World) (u : Value) (o : Nat), (W.setCell a2 u).cell? ⟨Q, o, none⟩ = W.cell? ⟨Q, o, none⟩ := fun W u o => set_far hq2
      have kB : ∀ (W : World) (u : Value) (o : Nat), (W.setCell a3 u).cell? ⟨Q, o, none⟩ = W.cell? ⟨Q, o, none⟩ := fun W u o => set_far hq3
      have kC : ∀ (W : World) (u : Value) (o : Nat), (W.setCell a2 u).cell? ⟨w.heap.size, o, none⟩ = W.cell? ⟨w.heap.size, o, none⟩ := fun W u o => set_far (by simp only; omega)
      have kD : ∀ (W : World) (u : Value) (o : Nat), (W.setCell a3 u).cell? ⟨w.heap.size, o, none⟩ = W.cell? ⟨w.heap.size, o, none⟩ := fun W u o => set_far (by simp only; omega)
      have hn0 : 0 < nv := hn1
      have hnI : (0 : Int) < (nv : Int) := by omega
      have HR := Lib.hid hR
      clear hR
      rcases hr3 with rfl | rfl | rfl
      · go_wp2_with fail
        have hS6 := fun o => (Blk.drew B5).cell o
        have hP6 := pick_drew L g [-1, 1000, 1001] 3 w5 D5.src rfl (by decide) (by decide)
        have D6 := (D5.alloc (.cells #[.int .i64 (-1), .int .i64 1000, .int .i64 1001] 2)).drew
        have K6 := Blk.drew (K5.alloc (.cells #[.int .i64 (-1), .int .i64 1000, .int .i64 1001] 2))
        have B6 := Blk.drew (B5.alloc (.cells #[.int .i64 (-1), .int .i64 1000, .int .i64 1001] 2))
        have X6 := (XL.alloc (.cells #[.int .i64 (-1), .int .i64 1000, .int .i64 1001] 2)).bel (Below.drew (Below.refl _ _))
        have hT6 := fun o => B6.cell o
        clear D5 K5 B5 XL
        go_region_held3 (fun w' => ∀ o, w'.cell? ⟨Q, o, none⟩ = (#[.int .i64 (a : Int), .int .i64 (b : Int), .slice (some a2) nv cv, .slice (some a3) nv cg] : Array Value)[o]?)
          (first | (with_reducible assumption) | (intro o; go_keep))
          (first
            | (go_at_call 38; refine hP6.mono ?_; rintro e w7 ⟨v, -, rfl, g7, S7⟩; have D7 := D6.next g7 S7; have K7 := K6.nx g7 (by omega); have B7 := B6.nx g7 (by omega); have X7 := X6.nx g7 (by omega); have hS7 := fun o => B7.cell o; obtain ⟨_, ⟨⟩, hc2⟩ := X7.rd.head.int (show 0 < nv from hn1); obtain ⟨_, ⟨⟩, hc3⟩ := X7.rd.tail.head.int (show 0 < nv from hn1); obtain ⟨_, ⟨⟩, -, hf2⟩ := X7.wr.head (show 0 < nv from hn1); obtain ⟨_, ⟨⟩, -, hf3⟩ := X7.wr.tail.head (show 0 < nv from hn1); have hf2 := hf2 0 hn1; have hf3 := hf3 0 hn1; rw [Addr.add_zero'] at hc2 hc3 hf2 hf3))
        all_goals
          have X8 := X7.set_v (ad := a2) rfl v
          have B8 := B7.far (p := a2) hq2.symm (.int .i64 v)
          have K8 := K7.far (p := a2) (by omega) (.int .i64 v)
          have D8 := D7.set_ (p := a2) (by omega) (.int .i64 v)
          clear D6 K6 B6 X6 hS6 hT6 hP6 D7 K7 B7 X7 hS7 hc2 hc3 hf2 hf3 S7 g7 kA kB kC kD
          generalize w7.setCell a2 (.int .i64 v) = w8 at X8 B8 K8 D8 ⊢
          have cB := fun o => B8.cell o
          have fB := fun o => B8.frozen o
          have gB := B8.lt
          have cK := fun o => K8.cell o
          have fK := fun o => K8.frozen o
          have gK := K8.lt
          go_wp2
          refine bodyPost_ret (v := .agg #[.int .i64 (a : Int), .int .i64 (b : Int), .slice (some a2) nv cv, .slice (some a3) nv cg]) (by simp [results, Tryd.results17, go_sem, cK]) rfl ?_
          exact ⟨⟨⟨some a2, nv, cv⟩, ⟨some a3, nv, cg⟩⟩, ⟨(a : Int), (b : Int), _, _⟩, rfl, (((((X8).cell (Nat.lt_succ_self _) _).cell (Nat.lt_succ_self _) _).cell (Nat.lt_succ_self _) _).cell (Nat.lt_succ_self _) _).lower (Nat.le_succ _), (((((D8).set_ (Nat.le_refl _) _).set_ (Nat.le_refl _) _).set_ (Nat.le_refl _) _).set_ (Nat.le_refl _) _)⟩
      · go_wp2_with fail
        have hS6 := fun o => (Blk.drew B5).cell o
        have hP6 := pick_drew L g [0, 9, 10] 3 w5 D5.src rfl (by decide) (by decide)
        have D6 := (D5.alloc (.cells #[.int .i64 0, .int .i64 9, .int .i64 10] 2)).drew
        have K6 := Blk.drew (K5.alloc (.cells #[.int .i64 0, .int .i64 9, .int .i64 10] 2))
        have B6 := Blk.drew (B5.alloc (.cells #[.int .i64 0, .int .i64 9, .int .i64 10] 2))
        have X6 := (XL.alloc (.cells #[.int .i64 0, .int .i64 9, .int .i64 10] 2)).bel (Below.drew (Below.refl _ _))
        have hT6 := fun o => B6.cell o
        clear D5 K5 B5 XL
        go_region_held3 (fun w' => ∀ o, w'.cell? ⟨Q, o, none⟩ = (#[.int .i64 (a : Int), .int .i64 (b : Int), .slice (some a2) nv cv, .slice (some a3) nv cg] : Array Value)[o]?)
          (first | (with_reducible assumption) | (intro o; go_keep))
          (first
            | (go_at_call 38; refine hP6.mono ?_; rintro e w7 ⟨v, -, rfl, g7, S7⟩; have D7 := D6.next g7 S7; have K7 := K6.nx g7 (by omega); have B7 := B6.nx g7 (by omega); have X7 := X6.nx g7 (by omega); have hS7 := fun o => B7.cell o; obtain ⟨_, ⟨⟩, hc2⟩ := X7.rd.head.int (show 0 < nv from hn1); obtain ⟨_, ⟨⟩, hc3⟩ := X7.rd.tail.head.int (show 0 < nv from hn1); obtain ⟨_, ⟨⟩, -, hf2⟩ := X7.wr.head (show 0 < nv from hn1); obtain ⟨_, ⟨⟩, -, hf3⟩ := X7.wr.tail.head (show 0 < nv from hn1); have hf2 := hf2 0 hn1; have hf3 := hf3 0 hn1; rw [Addr.add_zero'] at hc2 hc3 hf2 hf3))
        all_goals
          have X8 := X7.set_g (ad := a3) rfl v
          have B8 := B7.far (p := a3) hq3.symm (.int .i64 v)
          have K8 := K7.far (p := a3) (by omega) (.int .i64 v)
          have D8 := D7.set_ (p := a3) (by omega) (.int .i64 v)
          clear D6 K6 B6 X6 hS6 hT6 hP6 D7 K7 B7 X7 hS7 hc2 hc3 hf2 hf3 S7 g7 kA kB kC kD
          generalize w7.setCell a3 (.int .i64 v) = w8 at X8 B8 K8 D8 ⊢
          have cB := fun o => B8.cell o
          have fB := fun o => B8.frozen o
          have gB := B8.lt
          have cK := fun o => K8.cell o
          have fK := fun o => K8.frozen o
          have gK := K8.lt
          go_wp2
          refine bodyPost_ret (v := .agg #[.int .i64 (a : Int), .int .i64 (b : Int), .slice (some a2) nv cv, .slice (some a3) nv cg]) (by simp [results, Tryd.results17, go_sem, cK]) rfl ?_
          exact ⟨⟨⟨some a2, nv, cv⟩, ⟨some a3, nv, cg⟩⟩, ⟨(a : Int), (b : Int), _, _⟩, rfl, (((((X8).cell (Nat.lt_succ_self _) _).cell (Nat.lt_succ_self _) _).cell (Nat.lt_succ_self _) _).cell (Nat.lt_succ_self _) _).lower (Nat.le_succ _), (((((D8).set_ (Nat.le_refl _) _).set_ (Nat.le_refl _) _).set_ (Nat.le_refl _) _).set_ (Nat.le_refl _) _)⟩
      · clear kA kB kC kD
        have cQ := fun o => B5.cell o
        have gQ := B5.lt
        go_wp2_with fail
        refine (pick_any L g [0, (a : Int) + 1] 2 _ D5.src rfl (by decide) (by decide)).mono ?_
        rintro e w7 ⟨v, -, rfl, g7, S7⟩
        have D7 := (D5.alloc _).next g7 S7
        have K7 := (K5.alloc _).nx g7 (by omega)
        have B7 := (B5.alloc _).nx g7 (by omega)
        have X7 := (XL.alloc _).nx g7 (by omega)
        clear D5 K5 B5 XL cQ gQ g7 S7
        have hQR : ∀ s ∈ (MosaicS ⟨⟨some a2, nv, cv⟩, ⟨some a3, nv, cg⟩⟩ ⟨(a : Int), (b : Int), l.values, l.grades⟩).map Sl.row, s ≠ some Q := HQ0.out
        have X8 : MosW (w7.setCell ⟨Q, 0, none⟩ (.int .i64 v)) (w.heap.size + 1) ⟨⟨some a2, nv, cv⟩, ⟨some a3, nv, cg⟩⟩ ⟨v, (b : Int), l.values, l.grades⟩ := ⟨RdAll.cell_ (l := MosaicS ⟨⟨some a2, nv, cv⟩, ⟨some a3, nv, cg⟩⟩ ⟨(a : Int), (b : Int), l.values, l.grades⟩) X7.rd hQR, WrAll.cell_ (l := MosaicS ⟨⟨some a2, nv, cv⟩, ⟨some a3, nv, cg⟩⟩ ⟨(a : Int), (b : Int), l.values, l.grades⟩) X7.wr, X7.sp, X7.le, X7.pos, X7.eq⟩
        have B8 : Blk (w7.setCell ⟨Q, 0, none⟩ (.int .i64 v)) Q 26 #[.int .i64 v, .int .i64 (b : Int), .slice (some a2) nv cv, .slice (some a3) nv cg] := B7.set_ 0 (.int .i64 v)
        have K8 := K7.far (p := ⟨Q, 0, none⟩) hQ2 (.int .i64 v)
        have D8 := D7.set_ (p := ⟨Q, 0, none⟩) (by simp only; omega) (.int .i64 v)
        have cB7 := fun o => B7.cell o
        have fB7 := fun o => B7.frozen o
        have gB7 := B7.lt
        clear K7 D7 X7 B7
        go_upto_region 14 with fail
        generalize w7.setCell ⟨Q, 0, none⟩ (.int .i64 v) = w8 at X8 B8 K8 D8 ⊢
        clear cB7 fB7 gB7
        have cB := fun o => B8.cell o
        have fB := fun o => B8.frozen o
        have gB := B8.lt
        have cK := fun o => K8.cell o
        have fK := fun o => K8.frozen o
        have gK := K8.lt
        go_wp2
        refine bodyPost_ret (v := .agg #[.int .i64 v, .int .i64 (b : Int), .slice (some a2) nv cv, .slice (some a3) nv cg]) (by simp [results, Tryd.results17, go_sem, cK]) rfl ?_
        exact ⟨⟨⟨some a2, nv, cv⟩, ⟨some a3, nv, cg⟩⟩, ⟨v, (b : Int), _, _⟩, rfl, (((((X8).cell (Nat.lt_succ_self _) _).cell (Nat.lt_succ_self _) _).cell (Nat.lt_succ_self _) _).cell (Nat.lt_succ_self _) _).lower (Nat.le_succ _), (((((D8).set_ (Nat.le_refl _) _).set_ (Nat.le_refl _) _).set_ (Nat.le_refl _) _).set_ (Nat.le_refl _) _)⟩
end Go.Proofs.YtilieonalmihaaaDoor
