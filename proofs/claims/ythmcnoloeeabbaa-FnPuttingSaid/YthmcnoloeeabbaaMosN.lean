/- Mosaics: a new one whose cells are all unknown, both sides. Condition: sides of at most 40. -/
import Derived.Test.YthmcnoloeeabbaaMosE
import Derived.Test.YthmcnoloeeabbaaReg
import Derived.Laws.CopyOwn
import Derived.Laws.Bits64
import Derived.Laws.Bits64b
import Derived.Deep.RegionHeld3
namespace Go.Proofs.Ythmcnoloeeabbaa
open Go.RowKit

theorem and32 {x : Int} (h0 : 0 ≤ x) (h1 : x < 18446744073709551616) : bits .and .u64 x 4294967295 = x % 4294967296 := by
  obtain ⟨n, rfl⟩ := Int.eq_ofNat_of_zero_le h0
  have h := bits_and_u64_nat n 4294967295 (by omega) (by decide)
  rw [show (4294967295 : Int) = ((4294967295 : Nat) : Int) from rfl, h, show n &&& 4294967295 = n % 4294967296 from Nat.and_two_pow_sub_one_eq_mod n 32]
  rfl
set_option maxRecDepth 100000 in
set_option maxHeartbeats 1000000 in
theorem mul64_one (n : Int) (w : World) (h0 : 0 ≤ n) (h1 : n ≤ 1048576) :
    Calls Try.prog 143 #[.int .u64 1, .int .u64 n] w fun e w' => e = .returned (.tuple #[.int .u64 0, .int .u64 n]) ∧ w = w' := by
  have a1 : bits .and .u64 1 4294967295 = 1 := by rw [and32 (by decide) (by decide)]; rfl
  have a2 : bits .and .u64 n 4294967295 = n := by rw [and32 (by omega) (by omega)]; omega
  have a3 : bits .and .u64 0 4294967295 = 0 := by rw [and32 (by decide) (by decide)]; rfl
  have a4 : n / 4294967296 = 0 := by omega
  go_enter Try.func143, Try.ntmps143
  go_wp2
  go_ret2
  exact ⟨rfl, rfl⟩
set_option maxRecDepth 100000 in
set_option maxHeartbeats 1000000 in
theorem mul_one (n : Int) (w : World) (h0 : 0 ≤ n) (h1 : n ≤ 1048576) :
    Calls Try.prog 139 #[.int .u64 1, .int .u64 n] w fun e w' => e = .returned (.tuple #[.int .u64 0, .int .u64 n]) ∧ w = w' := by
  go_enter Try.func139, Try.ntmps139
  go_wp2_with (go_at_call 143; refine (mul64_one _ _ h0 h1).mono ?_; rintro e w' ⟨rfl, rfl⟩)
  go_ret2
  exact ⟨rfl, rfl⟩
set_option maxRecDepth 100000 in
set_option maxHeartbeats 2000000 in
theorem repeat_any (A : Option Addr) (c n : Nat) (w : World) (h1 : 1 ≤ n) (hn : n ≤ 1600) (hr : Rd w A 1 (ints [-1])) :
    Calls Try.prog 131 #[.slice A 1 c, .int .i64 (n : Int)] w fun e w' =>
      e = .returned (.slice (some ⟨w.heap.size, 0, none⟩) n n) ∧ Own w' w.heap.size 1 ⟨some ⟨w.heap.size, 0, none⟩, n, n⟩ (ints (List.replicate n (-1))) ∧ Below w.heap.size w w' := by
  have hmk := run_make_int64 n (by omega) w
  have hn0 : (0 : Int) ≤ (n : Int) := by omega
  obtain ⟨a0, rfl, ha0⟩ := hr.int (show 0 < 1 by decide)
  rw [Addr.add_zero'] at ha0
  have hbm : Below w.heap.size w (w.alloc (.cells (madeCells #[.int .i64 0] n) 2)) := (Below.refl _ _).alloc (Nat.le_refl _) _
  have hcm : (w.alloc (.cells (madeCells #[.int .i64 0] n) 2)).heap[w.heap.size]? = some (.cells (madeCells #[.int .i64 0] n).toList.toArray 2 (0, 0)) := by rw [Array.toArray_toList]; exact heap_alloc_new w _
  have hsrc : ∀ j v, [Value.int .i64 (-1)][j]? = some v → (w.alloc (.cells (madeCells #[.int .i64 0] n) 2)).cell? (a0.add j) = some v := fun j v hv => by
    obtain rfl : j = 0 := by
      rcases j with _ | j
      · rfl
      · cases hv
    rw [Addr.add_zero', hbm.cell (hr.lt rfl (by decide)), ha0]
    exact hv
  have hmn : Nat.min 1 n = 1 := Nat.min_eq_left h1
  have hcl : 0 + [Value.int .i64 (-1)].length ≤ (madeCells #[.int .i64 0] n).toList.length := by simp [madeCells_size]; omega
  have hoc : ∀ v ∈ [Value.int .i64 (-1)], v.oneCell' = true := by intro v hv; simp at hv; rw [hv]; rfl
  have HC := Lib.hid hcm
  have HS := Lib.hid hsrc
  have HB := Lib.hid hbm
  clear hcm hsrc hbm ha0 hr
  go_enter Try.func131, Try.ntmps131
  go_wp2_with (first
    | (go_at_call 139; refine (mul_one (n : Int) _ (by omega) (by omega)).mono ?_; rintro e w' ⟨rfl, rfl⟩)
    | (refine wpList_copy_splice rfl (.tmp 31) (.tmp 32) 22 22 rfl 2 Try.underlying22 (by kernel_rfl) _ _ _ _ _ _ rfl rfl w.heap.size 0 _ _ HC.out [.int .i64 (-1)] hmn.symm (fun _ => ⟨rfl, a0, rfl, HS.out⟩) hcl hoc w.heap.size w HB.out (Nat.le_refl _) ?_; intro w2 hg2 hb2))
  have hw2 : w2.heap[w.heap.size]? = some (.cells (splice (madeCells #[.int .i64 0] n).toList 0 [.int .i64 (-1)]).toArray 2 (0, 0)) := hg2
  have hl2 : (splice (madeCells #[.int .i64 0] n).toList 0 [Value.int .i64 (-1)]).length = n := by rw [length_splice _ _ _ hcl]; simp [madeCells_size]
  have ht2 : (splice (madeCells #[.int .i64 0] n).toList 0 [Value.int .i64 (-1)]).take 1 = List.replicate 1 (.int .i64 (-1)) := by unfold splice; simp
  generalize splice (madeCells #[.int .i64 0] n).toList 0 [Value.int .i64 (-1)] = cs2 at hw2 hl2 ht2
  clear hg2 HC HS HB hcl hmk
  go_loopw [8] (fun v wr => ∃ (m : Nat) (cs : List Value), 1 ≤ m ∧ m ≤ n ∧ v = .int .i64 m ∧ cs.length = n ∧ cs.take m = List.replicate m (.int .i64 (-1)) ∧ wr.heap[w.heap.size]? = some (.cells cs.toArray 2 (0, 0)) ∧ Below w.heap.size w wr) (fun v _ => n - (intOf v).toNat)
  case atStart => exact ⟨1, cs2, Nat.le_refl _, h1, rfl, hl2, ht2, hw2, hb2⟩
  case round =>
    clear hw2 hl2 ht2 hb2
    obtain ⟨m, cs, hm1, hmn', rfl, hl, ht, hh, hb⟩ := hrel
    by_cases hlt : m < n
    · have hm0 : (0 : Int) ≤ (m : Int) := by omega
      have hm2 : (m : Int) ≤ (n : Int) := by omega
      have hm3 : (m : Int) < (n : Int) := by omega
      obtain ⟨q, hq⟩ : ∃ q, q = Nat.min m (n - m) := ⟨_, rfl⟩
      have hq1 : 1 ≤ q ∧ q ≤ m ∧ m + q ≤ n := by have : Nat.min m (n - m) = min m (n - m) := rfl; omega
      have hcopy : (List.replicate q (Value.int .i64 (-1))).length = Nat.min m (n - m) := by rw [List.length_replicate, hq]
      have hone : ∀ v ∈ List.replicate q (Value.int .i64 (-1)), v.oneCell' = true := by intro v hv; rw [(List.mem_replicate.1 hv).2]; rfl
      have hsr : ∀ j v, (List.replicate q (Value.int .i64 (-1)))[j]? = some v → wr.cell? ((⟨w.heap.size, 0, none⟩ : Addr).add j) = some v := fun j v hv => by
        have hjq : j < q := by have := (List.getElem?_eq_some_iff.1 hv).1; rwa [List.length_replicate] at this
        rw [add_lit, cell_of_row _ _ _ _ _ _ hh, List.getElem?_toArray]
        have e := congrArg (fun l => l[j]?) ht
        simp only [List.getElem?_take] at e
        rw [if_pos (by omega)] at e
        rw [e, ← hv, List.getElem?_replicate, List.getElem?_replicate, if_pos (by omega), if_pos hjq]
      have hfit : m + (List.replicate q (Value.int .i64 (-1))).length ≤ cs.length := by rw [List.length_replicate]; omega
      have HQ := Lib.hid hq
      clear hq
      go_wp2_with fail
      obtain ⟨w4, hrun, hg4, hb4⟩ : ∃ w4, (Builtin.copy_ #[22, 22] 3 #[.slice (some ⟨w.heap.size, m, none⟩) (n - m) (n - m), .slice (some ⟨w.heap.size, 0, none⟩) m n]).run Try.prog wr.drew = .ok (.int .i64 (q : Int)) w4 ∧ Hid (w4.heap[w.heap.size]? = some (.cells (splice cs m (List.replicate q (.int .i64 (-1)))).toArray 2 (0, 0))) ∧ Below w.heap.size w w4 := by
        refine ⟨_, run_copy_row (P := Try.prog) wr.drew 22 22 3 2 w.heap.size m (n - m) (n - m) ⟨w.heap.size, 0, none⟩ m n cs.toArray 2 (List.replicate q (.int .i64 (-1))) Try.underlying22 (by kernel_rfl) hh hcopy hsr (by simpa using hfit) hone |>.trans (by rw [List.length_replicate]; rfl), ?_, ?_⟩
        · show _ = _
          simpa [splice] using setRow_heap wr.drew w.heap.size _ _ 2 _ hh
        · exact below_setRow (Below.drew hb) (Nat.le_refl _) _
      have hS0 : Hid (wr.heap.size = wr.heap.size) := rfl
      have hS1 : Hid True := trivial
      go_region_held3 (fun w' => Hid (w'.heap.size = w'.heap.size))
        (first | exact (Lib.hid rfl) | exact (Lib.hid trivial) | exact trivial)
        (first | fail)
      all_goals
        have hmq : IntKind.i64.wrap ((m : Int) + (q : Int)) = ((m + q : Nat) : Int) := by rw [IntWalk.i64_in _ (by omega)]; omega
        rw [hmq]
        have HT := Lib.hid ht
        have HL := Lib.hid hl
        clear hrun hcopy hsr hfit hone hh hb hS0 hS1 ht hl
        go_wp2
        go_roundw
        case rel =>
          refine ⟨m + q, _, by omega, hq1.2.2, rfl, ?_, ?_, hg4, hb4⟩
          · rw [length_splice _ _ _ (by rw [List.length_replicate, HL.out]; exact hq1.2.2)]; exact HL.out
          · unfold splice
            have e1 : (cs.take m ++ List.replicate q (Value.int .i64 (-1))).length = m + q := by rw [List.length_append, List.length_take, List.length_replicate, HL.out]; omega
            rw [← List.append_assoc, List.take_left' e1, HT.out, List.replicate_append_replicate]
        case measure => simp [intOf]; omega
    · obtain rfl : n = m := by omega
      go_wp2
      go_ret
      have hbk : Blk wr w.heap.size 2 cs.toArray := hh
      refine ⟨rfl, ⟨by unfold ints; simp, Nat.le_refl _, by unfold maxLen; simp only; omega, (fun h => by cases h), fun ad ea _ => ?_⟩, hb⟩
      injection ea with ea
      subst ea
      refine ⟨Nat.le_refl _, hbk.lt, rfl, fun i hi => ⟨?_, by rw [add_lit]; exact hbk.frozen i⟩⟩
      have hi' : i < n := by simpa using hi
      have e := congrArg (fun l => l[i]?) ht
      simp only [List.getElem?_take, if_pos hi', List.getElem?_replicate] at e
      refine ⟨.int .i64 (-1), by rw [add_lit, hbk.cell, List.getElem?_toArray]; exact e, fun u hu => ?_⟩
      rw [ints_getElem?, List.getElem?_replicate, if_pos hi'] at hu
      simpa using hu
/-- a mosaic whose cells are all unknown -/
def newM (a b : Nat) : MosaicC := ⟨(a : Int), (b : Int), List.replicate (a * b) (-1), List.replicate (a * b) 0⟩
def NewPost (a b : Nat) (w : World) (e : Ending) (w' : World) : Prop :=
  ∃ h, e = .returned (MosaicV h (newM a b)) ∧ h.values.n = a * b ∧ h.grades.n = a * b ∧ MosaicOwn w' w.heap.size h (newM a b) ∧ Below w.heap.size w w'
theorem ab_bd {a b : Nat} (ha : a ≤ 40) (hb : b ≤ 40) : a * b ≤ 1600 := by have : a * b ≤ 40 * 40 := Nat.mul_le_mul ha hb; omega
set_option maxRecDepth 100000 in
set_option maxHeartbeats 2000000 in
theorem l19New_any (a b : Nat) (w : World) (ha : a ≤ 40) (hb : b ≤ 40) :
    Calls Try.prog 102 #[.int .i64 (a : Int), .int .i64 (b : Int)] w (NewPost a b w) := by
  have hab := ab_bd ha hb
  obtain ⟨n, hn⟩ : ∃ n, a * b = n := ⟨_, rfl⟩
  have hm : (a : Int) * (b : Int) = (n : Int) := by rw [← Int.natCast_mul, hn]
  rw [hn] at hab
  have HN := Lib.hid hn
  clear hn
  have hmk := fun W : World => run_make_int64 n (by omega) W
  have K0 := Blk.newN w 26 #[.int .i64 0, .int .i64 0, .slice none 0 0, .slice none 0 0] rfl
  have b0 : Below w.heap.size w (w.alloc (.cells #[.int .i64 0, .int .i64 0, .slice none 0 0, .slice none 0 0] 26)) := (Below.refl _ _).alloc (Nat.le_refl _) _
  go_enter Try.func102, Try.ntmps102
  go_upto_region 2 with fail
  have X0 : MosaicBox ((((w.alloc (.cells #[.int .i64 0, .int .i64 0, .slice none 0 0, .slice none 0 0] 26)).alloc (.cells #[] 2)).alloc (.cells (madeCells #[.int .i64 0] n) 2)).alloc (.cells #[.int .i64 (a : Int), .int .i64 (b : Int), .slice (some ⟨w.heap.size + 1, 0, none⟩) 0 0, .slice (some ⟨w.heap.size + 1 + 1, 0, none⟩) n n] 26)) (w.heap.size + 1) (w.heap.size + 1 + 1 + 1) ⟨⟨some ⟨w.heap.size + 1, 0, none⟩, 0, 0⟩, ⟨some ⟨w.heap.size + 1 + 1, 0, none⟩, n, n⟩⟩ ⟨(a : Int), (b : Int), List.replicate 0 (-1), List.replicate n 0⟩ := by
    have hO := Own.made (W := (w.alloc (.cells #[.int .i64 0, .int .i64 0, .slice none 0 0, .slice none 0 0] 26)).alloc (.cells #[] 2)) (B := w.heap.size + 1) (n := n) (by simp) (by omega) 2
    have hz : ((w.alloc (.cells #[.int .i64 0, .int .i64 0, .slice none 0 0, .slice none 0 0] 26)).alloc (.cells #[] 2)).heap.size = w.heap.size + 1 + 1 := by simp
    rw [hz] at hO
    have hr1 : (⟨some ⟨w.heap.size + 1, 0, none⟩, 0, 0⟩ : Hd).row = none := rfl
    refine ⟨Blk.newN _ _ _ (by simp), ⟨Own.empty _ _ _ _, hO.below ((Below.refl _ _).alloc (Nat.le_refl _) _), Sep.cons (fun s hs t ht b e => by
      rcases List.mem_cons.1 hs with rfl | hs
      · rw [hr1] at e; cases e
      · cases hs) (Sep.one _)⟩, by omega, fun s hs e => ?_⟩
    unfold MosaicB at hs
    simp only [List.mem_cons, List.not_mem_nil, or_false] at hs
    rcases hs with rfl | rfl
    · rw [hr1] at e; cases e
    · obtain ⟨_, ad, e1, e2⟩ := Hd.row_some e
      cases e1
      simp only at e2
      omega
  have K0 := ((K0.alloc (.cells #[] 2)).alloc (.cells (madeCells #[.int .i64 0] n) 2)).alloc (.cells #[.int .i64 (a : Int), .int .i64 (b : Int), .slice (some ⟨w.heap.size + 1, 0, none⟩) 0 0, .slice (some ⟨w.heap.size + 1 + 1, 0, none⟩) n n] 26)
  have b1 : Below w.heap.size w ((((w.alloc (.cells #[.int .i64 0, .int .i64 0, .slice none 0 0, .slice none 0 0] 26)).alloc (.cells #[] 2)).alloc (.cells (madeCells #[.int .i64 0] n) 2)).alloc (.cells #[.int .i64 (a : Int), .int .i64 (b : Int), .slice (some ⟨w.heap.size + 1, 0, none⟩) 0 0, .slice (some ⟨w.heap.size + 1 + 1, 0, none⟩) n n] 26)) := (by (repeat (first | (with_reducible assumption) | (with_reducible exact Below.refl _ _) | (with_reducible refine Below.drew ?_) | (with_reducible refine Below.drewN ?_ _) | (with_reducible refine Below.setCell ?_ ?_ _) | (with_reducible refine Below.alloc ?_ ?_ _) | assumption)); all_goals (first | omega | (simp; done) | (simp; omega)))
  generalize (((w.alloc (.cells #[.int .i64 0, .int .i64 0, .slice none 0 0, .slice none 0 0] 26)).alloc (.cells #[] 2)).alloc (.cells (madeCells #[.int .i64 0] n) 2)).alloc (.cells #[.int .i64 (a : Int), .int .i64 (b : Int), .slice (some ⟨w.heap.size + 1, 0, none⟩) 0 0, .slice (some ⟨w.heap.size + 1 + 1, 0, none⟩) n n] 26) = w1 at X0 K0 b1 ⊢
  clear b0 hmk
  obtain ⟨h0, hh0⟩ : ∃ h0 : MosaicH, h0 = ⟨⟨some ⟨w.heap.size + 1, 0, none⟩, 0, 0⟩, ⟨some ⟨w.heap.size + 1 + 1, 0, none⟩, n, n⟩⟩ := ⟨_, rfl⟩
  have hv0 : h0.values.n = 0 ∧ h0.grades.n = n := by rw [hh0]; exact ⟨rfl, rfl⟩
  rw [← hh0] at X0
  clear hh0
  generalize hg : w.heap.size + 1 + 1 + 1 = g at X0 ⊢
  go_wp2_with fail
  go_loopw [6] (fun i wr => ∃ (k : Nat) (h : MosaicH), k ≤ n ∧ i = .int .i64 k ∧ h.values.n = k ∧ h.grades.n = n ∧ MosaicBox wr (w.heap.size + 1) g h ⟨(a : Int), (b : Int), List.replicate k (-1), List.replicate n 0⟩ ∧ Blk wr w.heap.size 26 #[.int .i64 0, .int .i64 0, .slice none 0 0, .slice none 0 0] ∧ Below w.heap.size w wr) (fun i _ => n - (intOf i).toNat)
  case atStart => exact ⟨0, h0, Nat.zero_le _, rfl, hv0.1, hv0.2, X0, K0, b1⟩
  case round =>
    clear X0 K0 b1 hv0
    obtain ⟨k, h, hk, rfl, hv, hgr, X, K, hb⟩ := hrel
    have cX := fun o => X.box.cell o
    have fX := fun o => X.box.frozen o
    have gX := X.box.lt
    have cK := fun o => K.cell o
    have fK := fun o => K.frozen o
    have gK := K.lt
    have hne1 : g ≠ w.heap.size := by omega
    have hne2 : w.heap.size ≠ g := by omega
    unfold MosaicCells at cX
    simp only at cX
    have HV := Lib.hid hv
    have HG := Lib.hid hgr
    clear hv hgr
    by_cases hlt : k < n
    · have hltI : (k : Int) < (n : Int) := by omega
      have hvn : h.values.n ≤ 1600 := by have := HV.out; omega
      have hz9 : w.heap.size + 1 ≤ wr.heap.size := by omega
      have hrow : h.values.row ≠ some w.heap.size := fun e => by have := (X.own.values.rowlt _ e).1; omega
      go_wp2_with (at_builtin; refine wpList_append_Own rfl _ _ 22 rfl 2 1 8 Try.underlying22 Int64_info (by decide) (w.heap.size + 1) h.values _ rfl (X.own.values.below ((Below.refl _ _).alloc (Nat.le_refl _) _)) _ 1 1 (ints [-1]) rfl (by rw [Nat.mul_one]; exact rd_one _ _ _) (oneCell_ints _) (by omega) (by decide) (Nat.le_trans hz9 (by simp)) ?_; intro k2 w2 hk2 hO2 gg hat; have ga : wr.grownBy w2 h.values.row := grown_trans (grown_of_below ((Below.refl _ _).alloc (Nat.le_refl _) _)) gg; have Y2 := X.box.grown ga (X.ne _ (by simp [MosaicB])); have cY := fun o => Y2.cell o; have fY := fun o => Y2.frozen o; have gY := Y2.lt; unfold MosaicCells at cY; simp only at cY)
      have X2 := X.set_values (ps := List.replicate k (-1) ++ [-1]) ga (by rw [ints_append]; exact hO2) (app_q hat (by simp))
      rw [hk2] at X2
      have HK2 := Lib.hid hk2
      have hsn : List.replicate k (-1 : Int) ++ [-1] = List.replicate (k + 1) (-1) := by rw [List.replicate_succ']
      rw [hsn] at X2
      clear hk2 hO2 hat Y2 cY fY gY cX fX gX cK fK gK hsn
      go_roundw
      case rel => exact ⟨k + 1, ⟨k2, h.grades⟩, by omega, by go_num, by simp only; rw [HK2.out, HV.out], HG.out, X2, (K.grown ga hrow).far (by simp only; omega) _, (bstepg hb ga (Nat.le_refl _) (fun b e => by have := (X.own.values.rowlt b e).1; omega)).setCell (by simp only; omega) _⟩
      case measure => simp [intOf]; omega
    · obtain rfl : n = k := by omega
      have hltI : ¬ (n : Int) < (n : Int) := by omega
      have O := X.own.mono (C := w.heap.size) (Nat.le_succ _)
      have hne3 : ∀ s ∈ MosaicB h, s ≠ some w.heap.size := fun s hs e => by have := (X.own.blt s hs _ e).1; omega
      go_wp2
      refine bodyPost_ret (v := .agg #[.int .i64 (a : Int), .int .i64 (b : Int), .slice h.values.A h.values.n h.values.c, .slice h.grades.A h.grades.n h.grades.c]) (by simp [results, Try.results102, go_sem, cK]) rfl ?_
      have hO : ∀ (W : World) (i : Nat) (u : Value), MosaicOwn W w.heap.size h ⟨(a : Int), (b : Int), List.replicate n (-1), List.replicate n 0⟩ → MosaicOwn (W.setCell ⟨w.heap.size, i, none⟩ u) w.heap.size h ⟨(a : Int), (b : Int), List.replicate n (-1), List.replicate n 0⟩ := fun W i u o =>
        ⟨o.values.grown (grown_cell _ _ _ _) (fun b e c => hne3 _ (by simp [MosaicB]) (e.trans c.symm)), o.grades.grown (grown_cell _ _ _ _) (fun b e c => hne3 h.grades.row (by simp [MosaicB]) (e.trans c.symm)), o.sep⟩
      unfold NewPost newM
      rw [HN.out]
      refine ⟨h, rfl, HV.out, HG.out, ?_, (by (repeat (first | (with_reducible assumption) | (with_reducible exact Below.refl _ _) | (with_reducible refine Below.drew ?_) | (with_reducible refine Below.drewN ?_ _) | (with_reducible refine Below.setCell ?_ ?_ _) | (with_reducible refine Below.alloc ?_ ?_ _) | assumption)); all_goals (first | omega | (simp; done) | (simp; omega)))⟩
      exact hO _ _ _ (hO _ _ _ (hO _ _ _ (hO _ _ _ O)))
theorem rd_oneg (W : World) (x : Int) (e : TypeId) (g : Nat) (hg : W.heap.size = g) : Rd (W.alloc (.cells #[.int .i64 x] e)) (some ⟨g, 0, none⟩) 1 (ints [x]) := by subst hg; exact rd_one _ _ _
theorem rd_onegd (W : World) (x : Int) (e : TypeId) (g : Nat) (hg : W.heap.size = g) : Rd (W.alloc (.cells #[.int .i64 x] e)).drew (some ⟨g, 0, none⟩) 1 (ints [x]) := rd_oneg W x e g hg
theorem rd_onega (W : World) (x : Int) (e : TypeId) (o : Obj) (g : Nat) (hg : W.heap.size = g) : Rd ((W.alloc (.cells #[.int .i64 x] e)).alloc o).drew (some ⟨g, 0, none⟩) 1 (ints [x]) := ((rd_oneg W x e g hg).below ((Below.refl _ _).alloc (Nat.le_refl _) o) :)
theorem newPost_mk {a b n : Nat} (hn : a * b = n) {w W : World} {v g : Nat} (OV : Own W (w.heap.size + 1) 1 ⟨some ⟨v, 0, none⟩, n, n⟩ (ints (List.replicate n (-1)))) (OG : Own W (w.heap.size + 1) 1 ⟨some ⟨g, 0, none⟩, n, n⟩ (ints (List.replicate n 0))) (hne : v ≠ g) (hb : Below w.heap.size w W) :
    NewPost a b w (.returned (.agg #[.int .i64 (a : Int), .int .i64 (b : Int), .slice (some ⟨v, 0, none⟩) n n, .slice (some ⟨g, 0, none⟩) n n])) W := by
  subst hn
  refine ⟨⟨⟨some ⟨v, 0, none⟩, a * b, a * b⟩, ⟨some ⟨g, 0, none⟩, a * b, a * b⟩⟩, rfl, rfl, rfl, ⟨OV.mono (Nat.le_succ _), OG.mono (Nat.le_succ _), Sep.cons (fun s hs t ht e h1 h2 => ?_) (Sep.one _)⟩, hb⟩
  rcases List.mem_cons.1 hs with rfl | hs
  · rcases List.mem_cons.1 ht with rfl | ht
    · obtain ⟨_, ad, e1, e2⟩ := Hd.row_some h1
      obtain ⟨_, ad', e3, e4⟩ := Hd.row_some h2
      cases e1
      cases e3
      exact hne (e2.trans e4.symm)
    · cases ht
  · cases hs
theorem Own.setlo {w W : World} {h : Hd} {us : List Value} (o : Own W (w.heap.size + 1) 1 h us) (i : Nat) (u : Value) : Own (W.setCell ⟨w.heap.size, i, none⟩ u) (w.heap.size + 1) 1 h us :=
  o.grown (grown_cell _ _ _ _) (fun b e c => by have := (o.rowlt b e).1; injection c with c; omega)
set_option maxRecDepth 100000 in
set_option maxHeartbeats 2000000 in
theorem newMosaic_any (a b : Nat) (w : World) (ha : a ≤ 40) (hb : b ≤ 40) (ha1 : 1 ≤ a) (hb1 : 1 ≤ b) :
    Calls Try.prog 101 #[.int .i64 (a : Int), .int .i64 (b : Int)] w (NewPost a b w) := by
  have hab := ab_bd ha hb
  have hab1 : 1 ≤ a * b := Nat.mul_pos ha1 hb1
  obtain ⟨n, hn⟩ : ∃ n, a * b = n := ⟨_, rfl⟩
  have hm : (a : Int) * (b : Int) = (n : Int) := by rw [← Int.natCast_mul, hn]
  rw [hn] at hab hab1
  have HN := Lib.hid hn
  clear hn
  have hmk := fun W : World => run_make_int64 n (by omega) W
  have K0 := Blk.newN w 26 #[.int .i64 0, .int .i64 0, .slice none 0 0, .slice none 0 0] rfl
  have b0 : Below w.heap.size w (w.alloc (.cells #[.int .i64 0, .int .i64 0, .slice none 0 0, .slice none 0 0] 26)) := (Below.refl _ _).alloc (Nat.le_refl _) _
  go_enter Try.func101, Try.ntmps101
  go_upto_region 1 with fail
  generalize w.alloc (.cells #[.int .i64 0, .int .i64 0, .slice none 0 0, .slice none 0 0] 26) = w0 at K0 b0 ⊢
  have cK := fun o => K0.cell o
  have fK := fun o => K0.frozen o
  have gK := K0.lt
  have hwn : IntKind.i64.wrap (n : Int) = (n : Int) := IntWalk.i64_in _ (by omega)
  have hS1 : Hid True := trivial
  go_region_held3 (fun w' => Hid (w'.heap.size = w'.heap.size))
    (first | exact (Lib.hid rfl) | exact (Lib.hid trivial) | exact trivial)
    (first
      | (go_at_call 131; first
          | (with_reducible refine (repeat_any _ _ n _ hab1 hab (rd_onegd _ _ _ _ rfl)).mono ?_; rintro e w5 ⟨rfl, OR, bR⟩; have K5 : Blk w5 w.heap.size 26 #[.int .i64 0, .int .i64 0, .slice none 0 0, .slice none 0 0] := Blk.below (by first | (with_reducible exact Blk.drew (K0.alloc _)) | (with_reducible exact Blk.drew ((K0.alloc _).alloc _))) bR (by simp; omega); have c5 := fun o => K5.cell o; have f5 := fun o => K5.frozen o; have g5 := K5.lt)
          | (with_reducible refine (repeat_any _ _ n _ hab1 hab (rd_onega _ _ _ _ _ rfl)).mono ?_; rintro e w5 ⟨rfl, OR, bR⟩; have K5 : Blk w5 w.heap.size 26 #[.int .i64 0, .int .i64 0, .slice none 0 0, .slice none 0 0] := Blk.below (by first | (with_reducible exact Blk.drew (K0.alloc _)) | (with_reducible exact Blk.drew ((K0.alloc _).alloc _))) bR (by simp; omega); have c5 := fun o => K5.cell o; have f5 := fun o => K5.frozen o; have g5 := K5.lt)
          | (with_reducible refine (repeat_any _ _ n _ hab1 hab (rd_onegd _ _ _ _ (by simp))).mono ?_; rintro e w5 ⟨rfl, OR, bR⟩; have K5 : Blk w5 w.heap.size 26 #[.int .i64 0, .int .i64 0, .slice none 0 0, .slice none 0 0] := Blk.below (by first | (with_reducible exact Blk.drew (K0.alloc _)) | (with_reducible exact Blk.drew ((K0.alloc _).alloc _))) bR (by simp; omega); have c5 := fun o => K5.cell o; have f5 := fun o => K5.frozen o; have g5 := K5.lt)))
  · have hz : (w0.alloc (.cells #[.int .i64 (-1)] 2)).drew.heap.size = w0.heap.size + 1 := by simp
    rw [hz] at OR
    have OV := OR.mono (C := w.heap.size + 1) (by omega)
    have z5 : w0.heap.size + 1 < w5.heap.size := (OR.at_ _ rfl (by simp only; omega)).2.1
    have b5 : Below w.heap.size w w5 := (show Below w.heap.size w (w0.alloc (.cells #[.int .i64 (-1)] 2)).drew from Below.drew (b0.alloc b0.size _)).trans (bR.mono (by rw [hz]; omega))
    go_wp2
    refine bodyPost_ret (v := .agg #[.int .i64 (a : Int), .int .i64 (b : Int), .slice (some ⟨w0.heap.size + 1, 0, none⟩) n n, .slice (some ⟨w5.heap.size, 0, none⟩) n n]) (by simp [results, Try.results101, go_sem, c5, g5]) rfl ?_
    have OV4 := (((OV.setlo 0 (.int .i64 (a : Int))).setlo 1 (.int .i64 (b : Int))).setlo 2 (.slice (some ⟨w0.heap.size + 1, 0, none⟩) n n)).setlo 3 (.slice (some ⟨w5.heap.size, 0, none⟩) n n)
    have b9 := (((b5.setCell (p := ⟨w.heap.size, 0, none⟩) (Nat.le_refl _) (.int .i64 (a : Int))).setCell (p := ⟨w.heap.size, 1, none⟩) (Nat.le_refl _) (.int .i64 (b : Int))).setCell (p := ⟨w.heap.size, 2, none⟩) (Nat.le_refl _) (.slice (some ⟨w0.heap.size + 1, 0, none⟩) n n)).setCell (p := ⟨w.heap.size, 3, none⟩) (Nat.le_refl _) (.slice (some ⟨w5.heap.size, 0, none⟩) n n)
    have hs9 : ((((w5.setCell ⟨w.heap.size, 0, none⟩ (.int .i64 (a : Int))).setCell ⟨w.heap.size, 1, none⟩ (.int .i64 (b : Int))).setCell ⟨w.heap.size, 2, none⟩ (.slice (some ⟨w0.heap.size + 1, 0, none⟩) n n)).setCell ⟨w.heap.size, 3, none⟩ (.slice (some ⟨w5.heap.size, 0, none⟩) n n)).heap.size = w5.heap.size := by simp
    generalize (((w5.setCell ⟨w.heap.size, 0, none⟩ (.int .i64 (a : Int))).setCell ⟨w.heap.size, 1, none⟩ (.int .i64 (b : Int))).setCell ⟨w.heap.size, 2, none⟩ (.slice (some ⟨w0.heap.size + 1, 0, none⟩) n n)).setCell ⟨w.heap.size, 3, none⟩ (.slice (some ⟨w5.heap.size, 0, none⟩) n n) = w9 at OV4 b9 hs9 ⊢
    have OG := Own.made (W := w9) (B := w.heap.size + 1) (n := n) (by omega) (by omega) 2
    rw [hs9] at OG
    exact newPost_mk HN.out (OV4.below ((Below.refl _ _).alloc (Nat.le_refl _) _)) OG (by omega) (b9.alloc (by omega) _)
  · have hz : ((w0.alloc (.cells #[.int .i64 (-1)] 2)).alloc (.cells (madeCells #[.int .i64 0] n) 2)).drew.heap.size = w0.heap.size + 1 + 1 := by simp
    have OG := Own.made (W := w0.alloc (.cells #[.int .i64 (-1)] 2)) (B := w.heap.size + 1) (n := n) (by simp; omega) (by omega) 2
    have OG := (OG.below (Below.drew (Below.refl _ _))).below bR
    have hz2 : (w0.alloc (.cells #[.int .i64 (-1)] 2)).heap.size = w0.heap.size + 1 := by simp
    rw [hz2] at OG
    rw [hz] at OR
    have OV := OR.mono (C := w.heap.size + 1) (by omega)
    have b5 : Below w.heap.size w w5 := (show Below w.heap.size w ((w0.alloc (.cells #[.int .i64 (-1)] 2)).alloc (.cells (madeCells #[.int .i64 0] n) 2)).drew from Below.drew ((b0.alloc b0.size _).alloc (by simp; omega) _)).trans (bR.mono (by rw [hz]; omega))
    go_wp2
    refine bodyPost_ret (v := .agg #[.int .i64 (a : Int), .int .i64 (b : Int), .slice (some ⟨w0.heap.size + 1 + 1, 0, none⟩) n n, .slice (some ⟨w0.heap.size + 1, 0, none⟩) n n]) (by simp [results, Try.results101, go_sem, c5, g5]) rfl ?_
    exact newPost_mk HN.out ((((OV.setlo _ _).setlo _ _).setlo _ _).setlo _ _) ((((OG.setlo _ _).setlo _ _).setlo _ _).setlo _ _) (by omega) ((((b5.setCell (Nat.le_refl _) _).setCell (Nat.le_refl _) _).setCell (Nat.le_refl _) _).setCell (Nat.le_refl _) _)
  · have hz : ((w0.alloc (.cells (madeCells #[.int .i64 0] n) 2)).alloc (.cells #[.int .i64 (-1)] 2)).drew.heap.size = w0.heap.size + 1 + 1 := by simp
    have OG := (Own.made (W := w0) (B := w.heap.size + 1) (n := n) (by omega) (by omega) 2).below ((Below.refl _ _).alloc (Nat.le_refl _) (.cells #[.int .i64 (-1)] 2))
    have OG := (OG.below (Below.drew (Below.refl _ _))).below bR
    rw [hz] at OR
    have OV := OR.mono (C := w.heap.size + 1) (by omega)
    have b5 : Below w.heap.size w w5 := (show Below w.heap.size w ((w0.alloc (.cells (madeCells #[.int .i64 0] n) 2)).alloc (.cells #[.int .i64 (-1)] 2)).drew from Below.drew ((b0.alloc b0.size _).alloc (by simp; omega) _)).trans (bR.mono (by rw [hz]; omega))
    go_wp2
    refine bodyPost_ret (v := .agg #[.int .i64 (a : Int), .int .i64 (b : Int), .slice (some ⟨w0.heap.size + 1 + 1, 0, none⟩) n n, .slice (some ⟨w0.heap.size, 0, none⟩) n n]) (by simp [results, Try.results101, go_sem, c5, g5]) rfl ?_
    exact newPost_mk HN.out ((((OV.setlo _ _).setlo _ _).setlo _ _).setlo _ _) ((((OG.setlo _ _).setlo _ _).setlo _ _).setlo _ _) (by omega) ((((b5.setCell (Nat.le_refl _) _).setCell (Nat.le_refl _) _).setCell (Nat.le_refl _) _).setCell (Nat.le_refl _) _)
/-- the sides of a mosaic -/
def sideB (x y : Int) : Bool := inR x 1 40 && inR y 1 40
def nmC (x y : Int) : Int := if sideB x y = true then 0 else 2
def nmR (x y : Int) : MosaicC := if sideB x y = true then newM x.toNat y.toNat else zeroMosaic
theorem nm_ok {x y : Int} (h : sideB x y = true) : nmC x y = 0 ∧ nmR x y = newM x.toNat y.toNat := by unfold nmC nmR; simp [h]
theorem nm_bad {x y : Int} (h : sideB x y = false) : nmC x y = 2 ∧ nmR x y = zeroMosaic := by unfold nmC nmR; simp [h]
theorem newPost_ret {a b : Nat} {w W : World} {h : MosaicH} (hb : Below w.heap.size w W) (hv : h.values.n = a * b) (hg : h.grades.n = a * b) (hab : a * b ≤ 1600) (o : MosaicOwn W w.heap.size h (newM a b)) :
    RetMosaic (newM a b) 0 w (.returned (.tuple #[MosaicV h (newM a b), .int .i64 0])) W :=
  ⟨h, rfl, ⟨by omega, by omega⟩, o.rd, o.wr, o.sp, hb⟩
set_option maxRecDepth 100000 in
set_option maxHeartbeats 2000000 in
theorem implNewMosaic_any (x y : Int) (w : World) :
    Calls Try.prog 39 #[.int .i64 x, .int .i64 y] w (RetMosaic (nmR x y) (nmC x y) w) := by
  have K0 := Blk.newN w 26 #[.int .i64 0, .int .i64 0, .slice none 0 0, .slice none 0 0] rfl
  have b0 : Below w.heap.size w (w.alloc (.cells #[.int .i64 0, .int .i64 0, .slice none 0 0, .slice none 0 0] 26)) := (Below.refl _ _).alloc (Nat.le_refl _) _
  go_enter Try.func39, Try.ntmps39
  go_upto_region 1 with fail
  generalize w.alloc (.cells #[.int .i64 0, .int .i64 0, .slice none 0 0, .slice none 0 0] 26) = w0 at K0 b0 ⊢
  have cK := fun o => K0.cell o
  have fK := fun o => K0.frozen o
  have gK := K0.lt
  rcases Bool.eq_false_or_eq_true (inR x 1 40) with h1 | h1
  case inr =>
    have HB := Lib.hid (nm_bad (x := x) (y := y) (by unfold sideB; rw [h1]; rfl))
    go_wp2_with (go_at_call 100; refine (isMosaicSide_any _ _).mono ?_; rintro e w' ⟨rfl, rfl⟩)
    refine bodyPost_ret (v := .tuple #[.agg #[.int .i64 0, .int .i64 0, .slice none 0 0, .slice none 0 0], .int .i64 2]) (by simp [results, Try.results39, go_sem, cK, gK]) rfl ?_
    rw [HB.out.1, HB.out.2]
    exact retMosaic_zero (by (repeat (first | (with_reducible assumption) | (with_reducible exact Below.refl _ _) | (with_reducible refine Below.drew ?_) | (with_reducible refine Below.drewN ?_ _) | (with_reducible refine Below.setCell ?_ ?_ _) | (with_reducible refine Below.alloc ?_ ?_ _) | assumption)); all_goals (first | omega | (simp; done) | (simp; omega)))
  rcases Bool.eq_false_or_eq_true (inR y 1 40) with h2 | h2
  case inr =>
    have HB := Lib.hid (nm_bad (x := x) (y := y) (by unfold sideB; rw [h1, h2]; rfl))
    go_wp2_with (go_at_call 100; refine (isMosaicSide_any _ _).mono ?_; rintro e w' ⟨rfl, rfl⟩)
    refine bodyPost_ret (v := .tuple #[.agg #[.int .i64 0, .int .i64 0, .slice none 0 0, .slice none 0 0], .int .i64 2]) (by simp [results, Try.results39, go_sem, cK, gK]) rfl ?_
    rw [HB.out.1, HB.out.2]
    exact retMosaic_zero (by (repeat (first | (with_reducible assumption) | (with_reducible exact Below.refl _ _) | (with_reducible refine Below.drew ?_) | (with_reducible refine Below.drewN ?_ _) | (with_reducible refine Below.setCell ?_ ?_ _) | (with_reducible refine Below.alloc ?_ ?_ _) | assumption)); all_goals (first | omega | (simp; done) | (simp; omega)))
  have HB := Lib.hid (nm_ok (x := x) (y := y) (by unfold sideB; rw [h1, h2]; rfl))
  have hx := inR_true h1
  have hy := inR_true h2
  obtain ⟨a, rfl⟩ := Int.eq_ofNat_of_zero_le (show 0 ≤ x by omega)
  obtain ⟨b, rfl⟩ := Int.eq_ofNat_of_zero_le (show 0 ≤ y by omega)
  go_wp2_with (go_at_call 100; refine (isMosaicSide_any _ _).mono ?_; rintro e w' ⟨rfl, rfl⟩)
  refine (newMosaic_any a b _ (by omega) (by omega) (by omega) (by omega)).mono ?_
  rintro e w1 ⟨h, rfl, hv, hg, O, b1⟩
  have hab := ab_bd (a := a) (b := b) (by omega) (by omega)
  have K1 := K0.below b1 gK
  have c1 := fun o => K1.cell o
  have f1 := fun o => K1.frozen o
  have g1 := K1.lt
  have hz := b0.size
  have O1 := O.mono (C := w.heap.size) hz
  have hb9 := bstep b0 b1 (Nat.le_refl _)
  have hne : ∀ s ∈ MosaicB h, s ≠ some w.heap.size := fun s hs e => by have := (O.blt s hs _ e).1; omega
  have hO : ∀ (W : World) (i : Nat) (u : Value), MosaicOwn W w.heap.size h (newM a b) → MosaicOwn (W.setCell ⟨w.heap.size, i, none⟩ u) w.heap.size h (newM a b) := fun W i u o =>
    ⟨o.values.grown (grown_cell _ _ _ _) (fun b e c => hne _ (by simp [MosaicB]) (e.trans c.symm)), o.grades.grown (grown_cell _ _ _ _) (fun b e c => hne h.grades.row (by simp [MosaicB]) (e.trans c.symm)), o.sep⟩
  have HO := Lib.hid hO
  have HV := Lib.hid hv
  have HG := Lib.hid hg
  have H1 := Lib.hid O1
  clear cK fK gK K0 O hO O1 hv hg hne h1 h2
  unfold MosaicV
  go_wp2
  refine bodyPost_ret (v := .tuple #[.agg #[.int .i64 (newM a b).wide, .int .i64 (newM a b).high, .slice h.values.A h.values.n h.values.c, .slice h.grades.A h.grades.n h.grades.c], .int .i64 0]) (by simp [results, Try.results39, go_sem, c1, g1]) rfl ?_
  rw [HB.out.1, HB.out.2]
  exact newPost_ret (by (repeat (first | (with_reducible assumption) | (with_reducible exact Below.refl _ _) | (with_reducible refine Below.drew ?_) | (with_reducible refine Below.drewN ?_ _) | (with_reducible refine Below.setCell ?_ ?_ _) | (with_reducible refine Below.alloc ?_ ?_ _) | assumption)); all_goals (first | omega | (simp; done) | (simp; omega))) HV.out HG.out hab (HO.out _ _ _ (HO.out _ _ _ (HO.out _ _ _ (HO.out _ _ _ H1.out))))
set_option maxRecDepth 100000 in
set_option maxHeartbeats 2000000 in
theorem specNewMosaic_any (x y : Int) (w : World) :
    Calls Try.prog 40 #[.int .i64 x, .int .i64 y] w (RetMosaic (nmR x y) (nmC x y) w) := by
  have K0 := Blk.newN w 26 #[.int .i64 0, .int .i64 0, .slice none 0 0, .slice none 0 0] rfl
  have b0 : Below w.heap.size w (w.alloc (.cells #[.int .i64 0, .int .i64 0, .slice none 0 0, .slice none 0 0] 26)) := (Below.refl _ _).alloc (Nat.le_refl _) _
  go_enter Try.func40, Try.ntmps40
  go_upto_region 1 with fail
  generalize w.alloc (.cells #[.int .i64 0, .int .i64 0, .slice none 0 0, .slice none 0 0] 26) = w0 at K0 b0 ⊢
  have cK := fun o => K0.cell o
  have fK := fun o => K0.frozen o
  have gK := K0.lt
  rcases Bool.eq_false_or_eq_true (inR x 1 40) with h1 | h1
  case inr =>
    have HB := Lib.hid (nm_bad (x := x) (y := y) (by unfold sideB; rw [h1]; rfl))
    go_wp2_with (go_at_call 74; refine (l01In_any _ _ _ _).mono ?_; rintro e w' ⟨rfl, rfl⟩)
    refine bodyPost_ret (v := .tuple #[.agg #[.int .i64 0, .int .i64 0, .slice none 0 0, .slice none 0 0], .int .i64 2]) (by simp [results, Try.results40, go_sem, cK, gK]) rfl ?_
    rw [HB.out.1, HB.out.2]
    exact retMosaic_zero (by (repeat (first | (with_reducible assumption) | (with_reducible exact Below.refl _ _) | (with_reducible refine Below.drew ?_) | (with_reducible refine Below.drewN ?_ _) | (with_reducible refine Below.setCell ?_ ?_ _) | (with_reducible refine Below.alloc ?_ ?_ _) | assumption)); all_goals (first | omega | (simp; done) | (simp; omega)))
  rcases Bool.eq_false_or_eq_true (inR y 1 40) with h2 | h2
  case inr =>
    have HB := Lib.hid (nm_bad (x := x) (y := y) (by unfold sideB; rw [h1, h2]; rfl))
    go_wp2_with (go_at_call 74; refine (l01In_any _ _ _ _).mono ?_; rintro e w' ⟨rfl, rfl⟩)
    refine bodyPost_ret (v := .tuple #[.agg #[.int .i64 0, .int .i64 0, .slice none 0 0, .slice none 0 0], .int .i64 2]) (by simp [results, Try.results40, go_sem, cK, gK]) rfl ?_
    rw [HB.out.1, HB.out.2]
    exact retMosaic_zero (by (repeat (first | (with_reducible assumption) | (with_reducible exact Below.refl _ _) | (with_reducible refine Below.drew ?_) | (with_reducible refine Below.drewN ?_ _) | (with_reducible refine Below.setCell ?_ ?_ _) | (with_reducible refine Below.alloc ?_ ?_ _) | assumption)); all_goals (first | omega | (simp; done) | (simp; omega)))
  have HB := Lib.hid (nm_ok (x := x) (y := y) (by unfold sideB; rw [h1, h2]; rfl))
  have hx := inR_true h1
  have hy := inR_true h2
  obtain ⟨a, rfl⟩ := Int.eq_ofNat_of_zero_le (show 0 ≤ x by omega)
  obtain ⟨b, rfl⟩ := Int.eq_ofNat_of_zero_le (show 0 ≤ y by omega)
  go_wp2_with (go_at_call 74; refine (l01In_any _ _ _ _).mono ?_; rintro e w' ⟨rfl, rfl⟩)
  refine (l19New_any a b _ (by omega) (by omega)).mono ?_
  rintro e w1 ⟨h, rfl, hv, hg, O, b1⟩
  have hab := ab_bd (a := a) (b := b) (by omega) (by omega)
  have K1 := K0.below b1 gK
  have c1 := fun o => K1.cell o
  have f1 := fun o => K1.frozen o
  have g1 := K1.lt
  have hz := b0.size
  have O1 := O.mono (C := w.heap.size) hz
  have hb9 := bstep b0 b1 (Nat.le_refl _)
  have hne : ∀ s ∈ MosaicB h, s ≠ some w.heap.size := fun s hs e => by have := (O.blt s hs _ e).1; omega
  have hO : ∀ (W : World) (i : Nat) (u : Value), MosaicOwn W w.heap.size h (newM a b) → MosaicOwn (W.setCell ⟨w.heap.size, i, none⟩ u) w.heap.size h (newM a b) := fun W i u o =>
    ⟨o.values.grown (grown_cell _ _ _ _) (fun b e c => hne _ (by simp [MosaicB]) (e.trans c.symm)), o.grades.grown (grown_cell _ _ _ _) (fun b e c => hne h.grades.row (by simp [MosaicB]) (e.trans c.symm)), o.sep⟩
  have HO := Lib.hid hO
  have HV := Lib.hid hv
  have HG := Lib.hid hg
  have H1 := Lib.hid O1
  clear cK fK gK K0 O hO O1 hv hg hne h1 h2
  unfold MosaicV
  go_wp2
  refine bodyPost_ret (v := .tuple #[.agg #[.int .i64 (newM a b).wide, .int .i64 (newM a b).high, .slice h.values.A h.values.n h.values.c, .slice h.grades.A h.grades.n h.grades.c], .int .i64 0]) (by simp [results, Try.results40, go_sem, c1, g1]) rfl ?_
  rw [HB.out.1, HB.out.2]
  exact newPost_ret (by (repeat (first | (with_reducible assumption) | (with_reducible exact Below.refl _ _) | (with_reducible refine Below.drew ?_) | (with_reducible refine Below.drewN ?_ _) | (with_reducible refine Below.setCell ?_ ?_ _) | (with_reducible refine Below.alloc ?_ ?_ _) | assumption)); all_goals (first | omega | (simp; done) | (simp; omega))) HV.out HG.out hab (HO.out _ _ _ (HO.out _ _ _ (HO.out _ _ _ (HO.out _ _ _ H1.out))))
end Go.Proofs.Ythmcnoloeeabbaa
