/- Mosaics: a new one whose cells are all unknown, both sides. Condition: sides of at most 40. -/
import Derived.Test.YtilieonalmihaaaDoorMosE
import Derived.Test.YtilieonalmihaaaDoorReg
import Derived.Laws.CopyOwn
import Derived.Laws.Bits64
import Derived.Laws.Bits64b
import Derived.Deep.RegionHeld3
namespace Go.Proofs.YtilieonalmihaaaDoor
open Go.RowKit

theorem and32 {x : Int} (h0 : 0 ≤ x) (h1 : x < 18446744073709551616) : bits .and .u64 x 4294967295 = x % 4294967296 := by
  obtain ⟨n, rfl⟩ := Int.eq_ofNat_of_zero_le h0
  have h := bits_and_u64_nat n 4294967295 (by omega) (by decide)
  rw [show (4294967295 : Int) = ((4294967295 : Nat) : Int) from rfl, h, show n &&& 4294967295 = n % 4294967296 from Nat.and_two_pow_sub_one_eq_mod n 32]
  rfl
/-- a mosaic whose cells are all unknown -/
def newM (a b : Nat) : MosaicC := ⟨(a : Int), (b : Int), List.replicate (a * b) (-1), List.replicate (a * b) 0⟩
def NewPost (a b : Nat) (w : World) (e : Ending) (w' : World) : Prop :=
  ∃ h, e = .returned (MosaicV h (newM a b)) ∧ h.values.n = a * b ∧ h.grades.n = a * b ∧ MosaicOwn w' w.heap.size h (newM a b) ∧ Below w.heap.size w w'
theorem ab_bd {a b : Nat} (ha : a ≤ 40) (hb : b ≤ 40) : a * b ≤ 1600 := by have : a * b ≤ 40 * 40 := Nat.mul_le_mul ha hb; omega
set_option maxRecDepth 100000 in
set_option maxHeartbeats 2000000 in
theorem l19New_any (a b : Nat) (w : World) (ha : a ≤ 40) (hb : b ≤ 40) :
    Calls Tryd.prog 20 #[.int .i64 (a : Int), .int .i64 (b : Int)] w (NewPost a b w) := by
  have hab := ab_bd ha hb
  obtain ⟨n, hn⟩ : ∃ n, a * b = n := ⟨_, rfl⟩
  have hm : (a : Int) * (b : Int) = (n : Int) := by rw [← Int.natCast_mul, hn]
  rw [hn] at hab
  have HN := Lib.hid hn
  clear hn
  have hmk := fun W : World => run_make_int64 n (by omega) W
  have K0 := Blk.newN w 26 #[.int .i64 0, .int .i64 0, .slice none 0 0, .slice none 0 0] rfl
  have b0 : Below w.heap.size w (w.alloc (.cells #[.int .i64 0, .int .i64 0, .slice none 0 0, .slice none 0 0] 26)) := (Below.refl _ _).alloc (Nat.le_refl _) _
  go_enter Tryd.func20, Tryd.ntmps20
  go_upto_region 2 with fail
  have X0 : MosaicBox ((((w.alloc (.cells #[.int .i64 0, .int .i64 0, .slice none 0 0, .slice none 0 0] 26)).alloc (.cells #[] 2)).alloc (.cells (madeCells #[.int .i64 0] n) 2)).alloc (.cells #[.int .i64 (a : Int), .int .i64 (b : Int), .slice (some ⟨w.heap.size + 1, 0, none⟩) 0 0, .slice (some ⟨w.heap.size + 1 + 1, 0, none⟩) n n] 26)) (w.heap.size + 1) (w.heap.size + 1 + 1 + 1) ⟨⟨some ⟨w.heap.size + 1, 0, none⟩, 0, 0⟩, ⟨some ⟨w.heap.size + 1 + 1, 0, none⟩, n, n⟩⟩ ⟨(a : Int), (b : Int), List.replicate 0 (-1), List.replicate n 0⟩ := by
    have hO := Own.made (W := (w.alloc (.cells #[.int .i64 0, .int .i64 0, .slice none 0 0, .slice none 0 0] 26)).alloc (.cells #[] 2)) (B := w.heap.size + 1) (n := n) (by simp) (by omega) 2
    have hz : ((w.alloc (.cells #[.int .i64 0, .int .i64 0, .slice none 0 0, .slice none 0 0] 26)).alloc (.cells #[] 2)).heap.size = w.heap.size + 1 + 1 := by simp
    rw [hz] at hO
    have hr1 : (⟨some ⟨w.heap.size + 1, 0, none⟩, 0, 0⟩ : Hd).row = none := rfl
    refine ⟨Blk.newN _ _ _ (by simp), ⟨Own.empty _ _ _ _, hO.below ((Below.refl _ _).alloc (Nat.le_refl _) _), Sep.cons (fun s hs t ht b e => by
      rcases List.mem_cons.1 hs with rfl | hs
      · rw [hr1] at e; cases e
      · cases hs) (Sep.one _)⟩, by omega, fun s hs e => ?_⟩
    unfold MosaicB at hs
    simp only [List.mem_cons, List.not_mem_nil, or_false] at hs
    rcases hs with rfl | rfl
    · rw [hr1] at e; cases e
    · obtain ⟨_, ad, e1, e2⟩ := Hd.row_some e
      cases e1
      simp only at e2
      omega
  have K0 := ((K0.alloc (.cells #[] 2)).alloc (.cells (madeCells #[.int .i64 0] n) 2)).alloc (.cells #[.int .i64 (a : Int), .int .i64 (b : Int), .slice (some ⟨w.heap.size + 1, 0, none⟩) 0 0, .slice (some ⟨w.heap.size + 1 + 1, 0, none⟩) n n] 26)
  have b1 : Below w.heap.size w ((((w.alloc (.cells #[.int .i64 0, .int .i64 0, .slice none 0 0, .slice none 0 0] 26)).alloc (.cells #[] 2)).alloc (.cells (madeCells #[.int .i64 0] n) 2)).alloc (.cells #[.int .i64 (a : Int), .int .i64 (b : Int), .slice (some ⟨w.heap.size + 1, 0, none⟩) 0 0, .slice (some ⟨w.heap.size + 1 + 1, 0, none⟩) n n] 26)) := (by (repeat (first | (with_reducible assumption) | (with_reducible exact Below.refl _ _) | (with_reducible refine Below.drew ?_) | (with_reducible refine Below.drewN ?_ _) | (with_reducible refine Below.setCell ?_ ?_ _) | (with_reducible refine Below.alloc ?_ ?_ _) | assumption)); all_goals (first | omega | (simp; done) | (simp; omega)))
  generalize (((w.alloc (.cells #[.int .i64 0, .int .i64 0, .slice none 0 0, .slice none 0 0] 26)).alloc (.cells #[] 2)).alloc (.cells (madeCells #[.int .i64 0] n) 2)).alloc (.cells #[.int .i64 (a : Int), .int .i64 (b : Int), .slice (some ⟨w.heap.size + 1, 0, none⟩) 0 0, .slice (some ⟨w.heap.size + 1 + 1, 0, none⟩) n n] 26) = w1 at X0 K0 b1 ⊢
  clear b0 hmk
  obtain ⟨h0, hh0⟩ : ∃ h0 : MosaicH, h0 = ⟨⟨some ⟨w.heap.size + 1, 0, none⟩, 0, 0⟩, ⟨some ⟨w.heap.size + 1 + 1, 0, none⟩, n, n⟩⟩ := ⟨_, rfl⟩
  have hv0 : h0.values.n = 0 ∧ h0.grades.n = n := by rw [hh0]; exact ⟨rfl, rfl⟩
  rw [← hh0] at X0
  clear hh0
  generalize hg : w.heap.size + 1 + 1 + 1 = g at X0 ⊢
  go_wp2_with fail
  go_loopw [6] (fun i wr => ∃ (k : Nat) (h : MosaicH), k ≤ n ∧ i = .int .i64 k ∧ h.values.n = k ∧ h.grades.n = n ∧ MosaicBox wr (w.heap.size + 1) g h ⟨(a : Int), (b : Int), List.replicate k (-1), List.replicate n 0⟩ ∧ Blk wr w.heap.size 26 #[.int .i64 0, .int .i64 0, .slice none 0 0, .slice none 0 0] ∧ Below w.heap.size w wr) (fun i _ => n - (intOf i).toNat)
  case atStart => exact ⟨0, h0, Nat.zero_le _, rfl, hv0.1, hv0.2, X0, K0, b1⟩
  case round =>
    clear X0 K0 b1 hv0
    obtain ⟨k, h, hk, rfl, hv, hgr, X, K, hb⟩ := hrel
    have cX := fun o => X.box.cell o
    have fX := fun o => X.box.frozen o
    have gX := X.box.lt
    have cK := fun o => K.cell o
    have fK := fun o => K.frozen o
    have gK := K.lt
    have hne1 : g ≠ w.heap.size := by omega
    have hne2 : w.heap.size ≠ g := by omega
    unfold MosaicCells at cX
    simp only at cX
    have HV := Lib.hid hv
    have HG := Lib.hid hgr
    clear hv hgr
    by_cases hlt : k < n
    · have hltI : (k : Int) < (n : Int) := by omega
      have hvn : h.values.n ≤ 1600 := by have := HV.out; omega
      have hz9 : w.heap.size + 1 ≤ wr.heap.size := by omega
      have hrow : h.values.row ≠ some w.heap.size := fun e => by have := (X.own.values.rowlt _ e).1; omega
      go_wp2_with (at_builtin; refine wpList_append_Own rfl _ _ 24 rfl 2 1 8 Tryd.underlying24 Int64_info (by decide) (w.heap.size + 1) h.values _ rfl (X.own.values.below ((Below.refl _ _).alloc (Nat.le_refl _) _)) _ 1 1 (ints [-1]) rfl (by rw [Nat.mul_one]; exact rd_one _ _ _) (oneCell_ints _) (by omega) (by decide) (Nat.le_trans hz9 (by simp)) ?_; intro k2 w2 hk2 hO2 gg hat; have ga : wr.grownBy w2 h.values.row := grown_trans (grown_of_below ((Below.refl _ _).alloc (Nat.le_refl _) _)) gg; have Y2 := X.box.grown ga (X.ne _ (by simp [MosaicB])); have cY := fun o => Y2.cell o; have fY := fun o => Y2.frozen o; have gY := Y2.lt; unfold MosaicCells at cY; simp only at cY)
      have X2 := X.set_values (ps := List.replicate k (-1) ++ [-1]) ga (by rw [ints_append]; exact hO2) (app_q hat (by simp))
      rw [hk2] at X2
      have HK2 := Lib.hid hk2
      have hsn : List.replicate k (-1 : Int) ++ [-1] = List.replicate (k + 1) (-1) := by rw [List.replicate_succ']
      rw [hsn] at X2
      clear hk2 hO2 hat Y2 cY fY gY cX fX gX cK fK gK hsn
      go_roundw
      case rel => exact ⟨k + 1, ⟨k2, h.grades⟩, by omega, by go_num, by simp only; rw [HK2.out, HV.out], HG.out, X2, (K.grown ga hrow).far (by simp only; omega) _, (bstepg hb ga (Nat.le_refl _) (fun b e => by have := (X.own.values.rowlt b e).1; omega)).setCell (by simp only; omega) _⟩
      case measure => simp [intOf]; omega
    · obtain rfl : n = k := by omega
      have hltI : ¬ (n : Int) < (n : Int) := by omega
      have O := X.own.mono (C := w.heap.size) (Nat.le_succ _)
      have hne3 : ∀ s ∈ MosaicB h, s ≠ some w.heap.size := fun s hs e => by have := (X.own.blt s hs _ e).1; omega
      go_wp2
      refine bodyPost_ret (v := .agg #[.int .i64 (a : Int), .int .i64 (b : Int), .slice h.values.A h.values.n h.values.c, .slice h.grades.A h.grades.n h.grades.c]) (by simp [results, Tryd.results20, go_sem, cK]) rfl ?_
      have hO : ∀ (W : World) (i : Nat) (u : Value), MosaicOwn W w.heap.size h ⟨(a : Int), (b : Int), List.replicate n (-1), List.replicate n 0⟩ → MosaicOwn (W.setCell ⟨w.heap.size, i, none⟩ u) w.heap.size h ⟨(a : Int), (b : Int), List.replicate n (-1), List.replicate n 0⟩ := fun W i u o =>
        ⟨o.values.grown (grown_cell _ _ _ _) (fun b e c => hne3 _ (by simp [MosaicB]) (e.trans c.symm)), o.grades.grown (grown_cell _ _ _ _) (fun b e c => hne3 h.grades.row (by simp [MosaicB]) (e.trans c.symm)), o.sep⟩
      unfold NewPost newM
      rw [HN.out]
      refine ⟨h, rfl, HV.out, HG.out, ?_, (by (repeat (first | (with_reducible assumption) | (with_reducible exact Below.refl _ _) | (with_reducible refine Below.drew ?_) | (with_reducible refine Below.drewN ?_ _) | (with_reducible refine Below.setCell ?_ ?_ _) | (with_reducible refine Below.alloc ?_ ?_ _) | assumption)); all_goals (first | omega | (simp; done) | (simp; omega)))⟩
      exact hO _ _ _ (hO _ _ _ (hO _ _ _ (hO _ _ _ O)))
theorem rd_oneg (W : World) (x : Int) (e : TypeId) (g : Nat) (hg : W.heap.size = g) : Rd (W.alloc (.cells #[.int .i64 x] e)) (some ⟨g, 0, none⟩) 1 (ints [x]) := by subst hg; exact rd_one _ _ _
theorem rd_onegd (W : World) (x : Int) (e : TypeId) (g : Nat) (hg : W.heap.size = g) : Rd (W.alloc (.cells #[.int .i64 x] e)).drew (some ⟨g, 0, none⟩) 1 (ints [x]) := rd_oneg W x e g hg
theorem rd_onega (W : World) (x : Int) (e : TypeId) (o : Obj) (g : Nat) (hg : W.heap.size = g) : Rd ((W.alloc (.cells #[.int .i64 x] e)).alloc o).drew (some ⟨g, 0, none⟩) 1 (ints [x]) := ((rd_oneg W x e g hg).below ((Below.refl _ _).alloc (Nat.le_refl _) o) :)
theorem newPost_mk {a b n : Nat} (hn : a * b = n) {w W : World} {v g : Nat} (OV : Own W (w.heap.size + 1) 1 ⟨some ⟨v, 0, none⟩, n, n⟩ (ints (List.replicate n (-1)))) (OG : Own W (w.heap.size + 1) 1 ⟨some ⟨g, 0, none⟩, n, n⟩ (ints (List.replicate n 0))) (hne : v ≠ g) (hb : Below w.heap.size w W) :
    NewPost a b w (.returned (.agg #[.int .i64 (a : Int), .int .i64 (b : Int), .slice (some ⟨v, 0, none⟩) n n, .slice (some ⟨g, 0, none⟩) n n])) W := by
  subst hn
  refine ⟨⟨⟨some ⟨v, 0, none⟩, a * b, a * b⟩, ⟨some ⟨g, 0, none⟩, a * b, a * b⟩⟩, rfl, rfl, rfl, ⟨OV.mono (Nat.le_succ _), OG.mono (Nat.le_succ _), Sep.cons (fun s hs t ht e h1 h2 => ?_) (Sep.one _)⟩, hb⟩
  rcases List.mem_cons.1 hs with rfl | hs
  · rcases List.mem_cons.1 ht with rfl | ht
    · obtain ⟨_, ad, e1, e2⟩ := Hd.row_some h1
      obtain ⟨_, ad', e3, e4⟩ := Hd.row_some h2
      cases e1
      cases e3
      exact hne (e2.trans e4.symm)
    · cases ht
  · cases hs
theorem Own.setlo {w W : World} {h : Hd} {us : List Value} (o : Own W (w.heap.size + 1) 1 h us) (i : Nat) (u : Value) : Own (W.setCell ⟨w.heap.size, i, none⟩ u) (w.heap.size + 1) 1 h us :=
  o.grown (grown_cell _ _ _ _) (fun b e c => by have := (o.rowlt b e).1; injection c with c; omega)
/-- the sides of a mosaic -/
def sideB (x y : Int) : Bool := inR x 1 40 && inR y 1 40
def nmC (x y : Int) : Int := if sideB x y = true then 0 else 2
def nmR (x y : Int) : MosaicC := if sideB x y = true then newM x.toNat y.toNat else zeroMosaic
theorem nm_ok {x y : Int} (h : sideB x y = true) : nmC x y = 0 ∧ nmR x y = newM x.toNat y.toNat := by unfold nmC nmR; simp [h]
theorem nm_bad {x y : Int} (h : sideB x y = false) : nmC x y = 2 ∧ nmR x y = zeroMosaic := by unfold nmC nmR; simp [h]
theorem newPost_ret {a b : Nat} {w W : World} {h : MosaicH} (hb : Below w.heap.size w W) (hv : h.values.n = a * b) (hg : h.grades.n = a * b) (hab : a * b ≤ 1600) (o : MosaicOwn W w.heap.size h (newM a b)) :
    RetMosaic (newM a b) 0 w (.returned (.tuple #[MosaicV h (newM a b), .int .i64 0])) W :=
  ⟨h, rfl, ⟨by omega, by omega⟩, o.rd, o.wr, o.sp, hb⟩
end Go.Proofs.YtilieonalmihaaaDoor
