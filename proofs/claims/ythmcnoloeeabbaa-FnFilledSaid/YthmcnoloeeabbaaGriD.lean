/- Grids: an interval is put into a cell in place. Condition: the cell is one of the grid, whose lists lie apart. -/
import Derived.Test.YthmcnoloeeabbaaGriC
import Derived.Test.YthmcnoloeeabbaaTI
import Derived.StillTailTactics
import Derived.Outline
import Derived.Deep.DeepCutAuto
import Derived.RegionTactic
import Derived.BigRegion
namespace Go.Proofs.Ythmcnoloeeabbaa
open Go.RowKit

theorem far_set {W : World} {p q : Addr} {u : Value} (h : p.block ≠ q.block) : (W.setCell p u).cell? q = W.cell? q := World.cell?_setCell_other _ _ _ _ (fun c => h (by rw [c]))
/-- what a put leaves behind -/
def GPost (B : Nat) (h : DepthGridH) (l' : DepthGridC) (w : World) (e : Ending) (w' : World) : Prop :=
  e = .returned (.tuple #[]) ∧ RdAll w' (DepthGridS h l') ∧ WrAll w' B (DepthGridS h l') ∧ Touch w w' (DepthGridR h)
theorem Touch.bel {w w1 w' : World} {r : List (Option Nat)} (h : Touch w w1 r) (b : Below w1.heap.size w1 w') : Touch w w' r :=
  ⟨b.os.trans h.os, b.tape.trans h.tape, b.output.trans h.output, Nat.le_trans h.size b.size, fun k hk hne => (b.block k (Nat.lt_of_lt_of_le hk h.size)).trans (h.block k hk hne)⟩
theorem Touch.cell_ {w w1 : World} {r : List (Option Nat)} (h : Touch w w1 r) {p : Addr} (hp : some p.block ∈ r) (u : Value) : Touch w (w1.setCell p u) r :=
  ⟨h.os, h.tape, h.output, by simpa [World.setCell] using h.size, fun k hk hne => (Below.heap_setCell w1 p u k (fun c => hne _ hp (by rw [c]))).trans (h.block k hk hne)⟩
theorem snd_addr (ad : Addr) (k : Nat) : (⟨(ad.add k).block, (ad.add k).off + 1, none⟩ : Addr) = ad.add (k + 1) := by rw [← field_add _ 1 (by decide), add_of_add]
theorem Rd.set2 {W : World} {ad : Addr} {n i : Nat} {xs : List Int} {p q : Int} (r : Rd W (some ad) (n * 2) (ints xs)) (hi : i < n) :
    Rd ((W.setCell (ad.add (i * 2)) (.int .i64 p)).setCell ⟨(ad.add (i * 2)).block, (ad.add (i * 2)).off + 1, none⟩ (.int .i64 q)) (some ad) (n * 2) (ints (set2 xs i p q)) := by
  rw [snd_addr]
  exact (r.seti (x := p) (show i * 2 < n * 2 by omega) rfl).seti (x := q) (show i * 2 + 1 < n * 2 by omega) rfl
section
variable {B : Nat} {a3 a4 : Addr} {n c3 c4 : Nat} {x0 x1 x2 : Int} {l3 l4 : List Int} {w W : World} {i : Nat} {v p q : Int}
theorem gputD (hi : i < n) (r3 : Rd W (some a3) n (ints l3)) (r4 : Rd W (some a4) (n * 2) (ints l4)) (y3 : Wr W B (some a3) n) (y4 : Wr W B (some a4) (n * 2)) (t : Touch w W [blkp (some a3) n, blkp (some a4) (n * 2)]) (hne : a4.block ≠ a3.block) :
    GPost B ⟨⟨some a3, n, c3⟩, ⟨some a4, n, c4⟩⟩ ⟨x0, x1, x2, l3, set2 l4 i p q⟩ w (.returned (.tuple #[])) ((W.setCell (a4.add (i * 2)) (.int .i64 p)).setCell ⟨(a4.add (i * 2)).block, (a4.add (i * 2)).off + 1, none⟩ (.int .i64 q)) := by
  have b4 : blkp (some a4) (n * 2) = some a4.block := by unfold blkp; rw [if_neg (by omega)]; rfl
  refine ⟨rfl, ?_, ?_, ?_⟩
  · refine RdAll.cons (s := ⟨some a3, n, ints l3⟩) ?_ (RdAll.cons (s := ⟨some a4, n * 2, ints (set2 l4 i p q)⟩) (r4.set2 hi) (RdAll.nil _))
    refine r3.keep fun ad e _ => ?_
    cases e
    exact (Below.heap_setCell _ _ _ _ (by simp only [block_of_add]; exact hne.symm)).trans (Below.heap_setCell _ _ _ _ (by rw [block_of_add]; exact hne.symm))
  · exact WrAll.cons (s := ⟨some a3, n, ints l3⟩) ((y3.set_ _).set_ _) (WrAll.cons (s := ⟨some a4, n * 2, ints (set2 l4 i p q)⟩) ((y4.set_ _).set_ _) (WrAll.nil _ _))
  · show Touch w _ [blkp (some a3) n, blkp (some a4) (n * 2)]
    exact (t.cell_ (by rw [block_of_add, b4]; simp) _).cell_ (by simp only [block_of_add]; rw [b4]; simp) _
theorem gputC (hi : i < n) (r3 : Rd W (some a3) n (ints l3)) (r4 : Rd W (some a4) (n * 2) (ints l4)) (y3 : Wr W B (some a3) n) (y4 : Wr W B (some a4) (n * 2)) (t : Touch w W [blkp (some a3) n, blkp (some a4) (n * 2)]) (hne : a4.block ≠ a3.block) :
    GPost B ⟨⟨some a3, n, c3⟩, ⟨some a4, n, c4⟩⟩ ⟨x0, x1, x2, l3.set i v, l4⟩ w (.returned (.tuple #[])) (W.setCell (a3.add i) (.int .i64 v)) := by
  have b3 : blkp (some a3) n = some a3.block := by unfold blkp; rw [if_neg (by omega)]; rfl
  refine ⟨rfl, ?_, ?_, ?_⟩
  · refine RdAll.cons (s := ⟨some a3, n, ints (l3.set i v)⟩) (r3.seti hi rfl) (RdAll.cons (s := ⟨some a4, n * 2, ints l4⟩) ?_ (RdAll.nil _))
    refine r4.keep fun ad e _ => ?_
    cases e
    exact Below.heap_setCell _ _ _ _ (by rw [block_of_add]; exact hne)
  · exact WrAll.cons (s := ⟨some a3, n, ints (l3.set i v)⟩) (y3.set_ _) (WrAll.cons (s := ⟨some a4, n * 2, ints l4⟩) (y4.set_ _) (WrAll.nil _ _))
  · show Touch w _ [blkp (some a3) n, blkp (some a4) (n * 2)]
    exact t.cell_ (by rw [block_of_add, b3]; simp) _
end
theorem gput {B : Nat} {a3 a4 : Addr} {n c3 c4 : Nat} {x0 x1 x2 : Int} {l3 l4 : List Int} {w W : World} {i : Nat} {v p q : Int} (hi : i < n) (r3 : Rd W (some a3) n (ints l3)) (r4 : Rd W (some a4) (n * 2) (ints l4)) (y3 : Wr W B (some a3) n) (y4 : Wr W B (some a4) (n * 2)) (t : Touch w W [blkp (some a3) n, blkp (some a4) (n * 2)]) (hne : a4.block ≠ a3.block) :
    GPost B ⟨⟨some a3, n, c3⟩, ⟨some a4, n, c4⟩⟩ ⟨x0, x1, x2, l3.set i v, set2 l4 i p q⟩ w (.returned (.tuple #[])) (((W.setCell (a4.add (i * 2)) (.int .i64 p)).setCell ⟨(a4.add (i * 2)).block, (a4.add (i * 2)).off + 1, none⟩ (.int .i64 q)).setCell (a3.add i) (.int .i64 v)) := by
  have h := gputD (B := B) (c3 := c3) (c4 := c4) (x0 := x0) (x1 := x1) (x2 := x2) (p := p) (q := q) hi r3 r4 y3 y4 t hne
  exact gputC (x0 := x0) (x1 := x1) (x2 := x2) hi h.2.1.head h.2.1.tail.head h.2.2.1.head h.2.2.1.tail.head h.2.2.2 hne

def addG (l : DepthGridC) (i : Nat) (a b c : Int) : DepthGridC := ⟨l.size, l.wide, l.high, l.counts.set i (l.counts.getD i 0 + c), addD l.counts l.depths i a b⟩
set_option maxRecDepth 100000 in
set_option maxHeartbeats 4000000 in
theorem implAdd_any (B : Nat) (h : DepthGridH) (l : DepthGridC) (i : Nat) (a b c : Int) (w : World) (ok : DepthGridOk h) (hq : h.depths.n = h.counts.n) (hi : i < h.counts.n) (hr : RdAll w (DepthGridS h l)) (hw : WrAll w B (DepthGridS h l)) (hs : Sep (DepthGridR h))
    (hx0 : -1 ≤ l.counts.getD i 0) (hx1 : l.counts.getD i 0 ≤ 2000000000000) (hc0 : 0 ≤ c) (hc1 : c ≤ 1) :
    Calls Try.prog 86 #[DepthGridV h l, .int .i64 i, .agg #[.int .i64 a, .int .i64 b], .int .i64 c] w (GPost B h (addG l i a b c) w) := by
  obtain ⟨m3, m4⟩ := ok
  have r3 := hr.head
  have r4 := hr.tail.head
  have y3 := hw.head
  have y4 := hw.tail.head
  have o34 := hs.off
  obtain ⟨⟨A3, n3, c3⟩, ⟨A4, n4, c4⟩⟩ := h
  obtain ⟨x0, x1, x2, l3, l4⟩ := l
  simp only at hq hi
  subst hq
  clear hr hw hs
  unfold DepthGridV addG
  simp only at *
  have hb0 : Below w.heap.size w ((w.alloc (.cells #[.int .i64 x0, .int .i64 x1, .int .i64 x2, .slice A3 n4 c3, .slice A4 n4 c4] 50)).alloc (.cells #[.int .i64 a, .int .i64 b] 82)) := ((Below.refl _ _).alloc (Nat.le_refl _) _).alloc (by simp) _
  obtain ⟨a3, rfl, hx⟩ := (r3.below hb0).int hi
  obtain ⟨a4, rfl, hy0, hy1⟩ := (r4.below hb0).two hi
  have hne : a4.block ≠ a3.block := fun c => o34 _ (List.mem_cons_self ..) _ (List.mem_cons_self ..) a3.block (by unfold blkp; rw [if_neg (by omega)]; rfl) (by rw [← c]; unfold blkp; rw [if_neg (by omega)]; rfl)
  have lt3 := r3.lt rfl (by omega)
  have lt4 := r4.lt rfl (by omega)
  have hwr : IntKind.i64.wrap (l3.getD i 0 + c) = l3.getD i 0 + c := IntWalk.i64_in _ (by omega)
  have hi0 : (0 : Int) ≤ (i : Int) := by omega
  have hi1 : (i : Int) < (n4 : Int) := by omega
  have HY := fun (W : World) (p q : Int) (b' : Below w.heap.size w W) => Lib.hid (gput (B := B) (c3 := c3) (c4 := c4) (x0 := x0) (x1 := x1) (x2 := x2) (v := l3.getD i 0 + c) (p := p) (q := q) hi (r3.below b') (r4.below b') (y3.below r3 b') (y4.below r4 b') ((Touch.refl w _).bel b') hne)
  have K0 := (Blk.newN w 50 #[.int .i64 x0, .int .i64 x1, .int .i64 x2, .slice (some a3) n4 c3, .slice (some a4) n4 c4] rfl).alloc (.cells #[.int .i64 a, .int .i64 b] 82)
  have K1 := Blk.newN (g := w.heap.size + 1) (w.alloc (.cells #[.int .i64 x0, .int .i64 x1, .int .i64 x2, .slice (some a3) n4 c3, .slice (some a4) n4 c4] 50)) 82 #[.int .i64 a, .int .i64 b] (by simp)
  have HV := fun (W : World) (b' : Below w.heap.size w W) => (show (∃ ad, some a3 = some ad ∧ W.cell? (ad.add i) = some (.int .i64 (l3.getD i 0))) ∧ (∃ ad, some a4 = some ad ∧ W.cell? (ad.add (i * 2)) = some (.int .i64 (l4.getD (i * 2) 0)) ∧ W.cell? ⟨(ad.add (i * 2)).block, (ad.add (i * 2)).off + 1, none⟩ = some (.int .i64 (l4.getD (i * 2 + 1) 0))) ∧ W.frozen? (a3.add i) = false ∧ W.frozen? (a4.add (i * 2)) = false ∧ W.frozen? ⟨(a4.add (i * 2)).block, (a4.add (i * 2)).off + 1, none⟩ = false from by
    obtain ⟨_, ⟨⟩, _, f3⟩ := (y3.below r3 b') (by omega)
    obtain ⟨_, ⟨⟩, _, f4⟩ := (y4.below r4 b') (by omega)
    refine ⟨(r3.below b').int hi, (r4.below b').two hi, f3 i hi, f4 (i * 2) (by omega), ?_⟩
    rw [snd_addr]
    exact f4 (i * 2 + 1) (by omega))
  have HN3 : (a4.add (i * 2)).block ≠ (a3.add i).block := by rw [block_of_add, block_of_add]; exact hne
  have HN4 : (a4.add (i * 2)).block ≠ w.heap.size := by rw [block_of_add]; omega
  have kA : ∀ (W : World) (u : Value), (W.setCell (a4.add (i * 2)) u).cell? (a3.add i) = W.cell? (a3.add i) := fun W u => far_set HN3
  have kB : ∀ (W : World) (u : Value), (W.setCell ⟨(a4.add (i * 2)).block, (a4.add (i * 2)).off + 1, none⟩ u).cell? (a3.add i) = W.cell? (a3.add i) := fun W u => far_set HN3
  have kC : ∀ (W : World) (u : Value) (o : Nat), (W.setCell (a4.add (i * 2)) u).cell? ⟨w.heap.size, o, none⟩ = W.cell? ⟨w.heap.size, o, none⟩ := fun W u o => far_set HN4
  have kD : ∀ (W : World) (u : Value) (o : Nat), (W.setCell ⟨(a4.add (i * 2)).block, (a4.add (i * 2)).off + 1, none⟩ u).cell? ⟨w.heap.size, o, none⟩ = W.cell? ⟨w.heap.size, o, none⟩ := fun W u o => far_set HN4
  have kE : ∀ (W : World) (u : Value), (W.setCell (a4.add (i * 2)) u).cell? ⟨(a4.add (i * 2)).block, (a4.add (i * 2)).off + 1, none⟩ = W.cell? ⟨(a4.add (i * 2)).block, (a4.add (i * 2)).off + 1, none⟩ := fun W u => World.cell?_setCell_other _ _ _ _ (fun e => by have e2 := congrArg Addr.off e; first | omega | (simp only at e2; omega))
  clear hx hy0 hy1 HN3 HN4
  go_enter Try.func86, Try.ntmps86
  go_upto_region 1 with fail
  generalize (w.alloc (.cells #[.int .i64 x0, .int .i64 x1, .int .i64 x2, .slice (some a3) n4 c3, .slice (some a4) n4 c4] 50)).alloc (.cells #[.int .i64 a, .int .i64 b] 82) = w1 at hb0 K0 K1 ⊢
  have hV := HV _ hb0
  have c0 := fun o => K0.cell o
  have c1 := fun o => K1.cell o
  by_cases e1 : l3.getD i 0 = 0
  case pos =>
    have HM : Hid (addD l3 l4 i a b = set2 l4 i a b) := by unfold Hid addD; rw [if_pos e1]
    have hY := HY _ a b hb0
    clear HY HV
    obtain ⟨⟨_, ⟨⟩, hx⟩, ⟨_, ⟨⟩, hy0, hy1⟩, f3, f40, f41⟩ := hV
    have hE : Hid (l3.getD i 0 + c = c) := by unfold Hid; rw [e1, Int.zero_add]
    rw [hE.out] at hY hwr
    rw [e1] at hx
    clear e1
    go_wp2
    (go_end0; rw [HM.out, hE.out]; exact hY.out)
  case neg =>
    have HM : Hid (addD l3 l4 i a b = set2 l4 i (min (l4.getD (i * 2) 0) a) (max (l4.getD (i * 2 + 1) 0) b)) := by unfold Hid addD; rw [if_neg e1]
    obtain ⟨⟨_, ⟨⟩, hx⟩, ⟨_, ⟨⟩, hy0, hy1⟩, f3, f40, f41⟩ := hV
    have f1 := fun o => K1.frozen o
    have HX := Lib.hid (show l3.getD i 0 = l3.getD i 0 from rfl)
    have hz1 := K1.lt
    have HM2 : Hid (addD l3 l4 i a b = set2 l4 i (if a < l4.getD (i * 2) 0 then a else l4.getD (i * 2) 0) (if l4.getD (i * 2 + 1) 0 < b then b else l4.getD (i * 2 + 1) 0)) := by
      unfold Hid
      rw [HM.out]
      congr 1
      · split <;> omega
      · split <;> omega
    clear HM
    have HL := fun (p q : Int) => Lib.hid (show Below w.heap.size w ((w1.setCell ⟨w.heap.size + 1, 0, none⟩ (.int .i64 p)).setCell ⟨w.heap.size + 1, 1, none⟩ (.int .i64 q)).drew ∧ Blk ((w1.setCell ⟨w.heap.size + 1, 0, none⟩ (.int .i64 p)).setCell ⟨w.heap.size + 1, 1, none⟩ (.int .i64 q)).drew w.heap.size 50 #[.int .i64 x0, .int .i64 x1, .int .i64 x2, .slice (some a3) n4 c3, .slice (some a4) n4 c4] ∧ Blk ((w1.setCell ⟨w.heap.size + 1, 0, none⟩ (.int .i64 p)).setCell ⟨w.heap.size + 1, 1, none⟩ (.int .i64 q)).drew (w.heap.size + 1) 82 #[.int .i64 p, .int .i64 q] from
      ⟨Below.drew ((hb0.setCell (by simp only; omega) _).setCell (by simp only; omega) _), (K0.far (by simp only; omega) _).far (by simp only; omega) _, (K1.set_ 0 _).set_ 1 _⟩)
    generalize hxx : l3.getD i 0 = x at *
    generalize l4.getD (i * 2) 0 = y at *
    generalize l4.getD (i * 2 + 1) 0 = z at *
    have g1 : (x == 0) = false := by simpa using e1
    have g2 : (x != 0) = true := by simpa using e1
    clear e1 hxx
    go_wp2_with fail
    go_still_tail 19, (by kernel_rfl)
    change wpList _ _ _ _ _ w1.drew
    go_upto_region 3 with fail
    generalize (if a < y then a else y) = p at *
    generalize (if z < b then b else z) = q at *
    obtain ⟨B2, L0, L1⟩ := (HL p q).out
    generalize ((w1.setCell ⟨w.heap.size + 1, 0, none⟩ (.int .i64 p)).setCell ⟨w.heap.size + 1, 1, none⟩ (.int .i64 q)).drew = w2 at B2 L0 L1 ⊢
    have hV2 := HV _ B2
    have hY2 := HY _ p q B2
    clear HL HY HV hx hy0 hy1 f3 f40 f41 f1 c0 c1 K0 K1 hb0
    obtain ⟨⟨_, ⟨⟩, hx⟩, ⟨_, ⟨⟩, hy0, hy1⟩, f3, f40, f41⟩ := hV2
    have c0 := fun o => L0.cell o
    have c1 := fun o => L1.cell o
    go_wp2
    (go_end0; rw [HM2.out]; exact hY2.out)

theorem min_if (a y : Int) : (if a < y then a else y) = min y a := by split <;> omega
theorem max_if (b z : Int) : (if z < b then b else z) = max z b := by split <;> omega
set_option maxHeartbeats 1000000 in
theorem l02Hull_any (x y a b : Int) (w : World) :
    Calls Try.prog 126 #[.agg #[.int .i64 x, .int .i64 y], .agg #[.int .i64 a, .int .i64 b]] w fun e w' => e = .returned (.agg #[.int .i64 (min x a), .int .i64 (max y b)]) ∧ Below w.heap.size w w' := by
  have hc : ∀ o1 o2 : Obj, ∀ cs : Array Value, ∀ o, (((w.alloc o1).alloc o2).alloc (.cells cs 82)).cell? ⟨w.heap.size + 1 + 1, o, none⟩ = cs[o]? := fun o1 o2 cs o => (Blk.newN (g := w.heap.size + 1 + 1) ((w.alloc o1).alloc o2) 82 cs (by simp)).cell o
  by_cases g1 : a < x
  all_goals by_cases g2 : y < b
  all_goals
    first | (have M1 : min x a = a := by omega) | (have M1 : min x a = x := by omega)
    first | (have M2 : max y b = b := by omega) | (have M2 : max y b = y := by omega)
    rw [M1, M2]
    clear M1 M2
    go_enter Try.func126, Try.ntmps126
    go_wp2
    exact bodyPost_ret (by simp [results, Try.results126, go_sem]) rfl ⟨rfl, (by (repeat (first | (with_reducible assumption) | (with_reducible exact Below.refl _ _) | (with_reducible refine Below.drew ?_) | (with_reducible refine Below.drewN ?_ _) | (with_reducible refine Below.setCell ?_ ?_ _) | (with_reducible refine Below.alloc ?_ ?_ _) | assumption)); all_goals (first | omega | (simp; done) | (simp; omega)))⟩
/-- an interval is put into a cell that is known or not -/
def addK (k : Bool) (l : DepthGridC) (i : Nat) (a b : Int) : DepthGridC := ⟨l.size, l.wide, l.high, l.counts, if k = true then set2 l.depths i (min (l.depths.getD (i * 2) 0) a) (max (l.depths.getD (i * 2 + 1) 0) b) else set2 l.depths i a b⟩
set_option maxRecDepth 100000 in
set_option maxHeartbeats 4000000 in
theorem l22Add_any (B : Nat) (h : DepthGridH) (l : DepthGridC) (i : Nat) (kn : Bool) (a b : Int) (w : World) (ok : DepthGridOk h) (hq : h.depths.n = h.counts.n) (hi : i < h.counts.n) (hr : RdAll w (DepthGridS h l)) (hw : WrAll w B (DepthGridS h l)) (hs : Sep (DepthGridR h)) :
    Calls Try.prog 83 #[DepthGridV h l, .int .i64 i, .bool kn, .agg #[.int .i64 a, .int .i64 b]] w (GPost B h (addK kn l i a b) w) := by
  obtain ⟨m3, m4⟩ := ok
  have r3 := hr.head
  have r4 := hr.tail.head
  have y3 := hw.head
  have y4 := hw.tail.head
  have o34 := hs.off
  obtain ⟨⟨A3, n3, c3⟩, ⟨A4, n4, c4⟩⟩ := h
  obtain ⟨x0, x1, x2, l3, l4⟩ := l
  simp only at hq hi
  subst hq
  clear hr hw hs
  unfold DepthGridV addK
  simp only at *
  have hb0 : Below w.heap.size w ((w.alloc (.cells #[.int .i64 x0, .int .i64 x1, .int .i64 x2, .slice A3 n4 c3, .slice A4 n4 c4] 50)).alloc (.cells #[.int .i64 a, .int .i64 b] 82)) := ((Below.refl _ _).alloc (Nat.le_refl _) _).alloc (by simp) _
  obtain ⟨a3, rfl, hx⟩ := (r3.below hb0).int hi
  obtain ⟨a4, rfl, hy0, hy1⟩ := (r4.below hb0).two hi
  have hne : a4.block ≠ a3.block := fun c => o34 _ (List.mem_cons_self ..) _ (List.mem_cons_self ..) a3.block (by unfold blkp; rw [if_neg (by omega)]; rfl) (by rw [← c]; unfold blkp; rw [if_neg (by omega)]; rfl)
  have lt3 := r3.lt rfl (by omega)
  have lt4 := r4.lt rfl (by omega)
  have hi0 : (0 : Int) ≤ (i : Int) := by omega
  have hi1 : (i : Int) < (n4 : Int) := by omega
  have HY := fun (W : World) (p q : Int) (b' : Below w.heap.size w W) => Lib.hid (gputD (B := B) (c3 := c3) (c4 := c4) (x0 := x0) (x1 := x1) (x2 := x2) (p := p) (q := q) hi (r3.below b') (r4.below b') (y3.below r3 b') (y4.below r4 b') ((Touch.refl w _).bel b') hne)
  have K0 := (Blk.newN w 50 #[.int .i64 x0, .int .i64 x1, .int .i64 x2, .slice (some a3) n4 c3, .slice (some a4) n4 c4] rfl).alloc (.cells #[.int .i64 a, .int .i64 b] 82)
  have K1 := Blk.newN (g := w.heap.size + 1) (w.alloc (.cells #[.int .i64 x0, .int .i64 x1, .int .i64 x2, .slice (some a3) n4 c3, .slice (some a4) n4 c4] 50)) 82 #[.int .i64 a, .int .i64 b] (by simp)
  have HV := fun (W : World) (b' : Below w.heap.size w W) => (show (∃ ad, some a3 = some ad ∧ W.cell? (ad.add i) = some (.int .i64 (l3.getD i 0))) ∧ (∃ ad, some a4 = some ad ∧ W.cell? (ad.add (i * 2)) = some (.int .i64 (l4.getD (i * 2) 0)) ∧ W.cell? ⟨(ad.add (i * 2)).block, (ad.add (i * 2)).off + 1, none⟩ = some (.int .i64 (l4.getD (i * 2 + 1) 0))) ∧ W.frozen? (a3.add i) = false ∧ W.frozen? (a4.add (i * 2)) = false ∧ W.frozen? ⟨(a4.add (i * 2)).block, (a4.add (i * 2)).off + 1, none⟩ = false from by
    obtain ⟨_, ⟨⟩, _, f3⟩ := (y3.below r3 b') (by omega)
    obtain ⟨_, ⟨⟩, _, f4⟩ := (y4.below r4 b') (by omega)
    refine ⟨(r3.below b').int hi, (r4.below b').two hi, f3 i hi, f4 (i * 2) (by omega), ?_⟩
    rw [snd_addr]
    exact f4 (i * 2 + 1) (by omega))
  have HN3 : (a4.add (i * 2)).block ≠ (a3.add i).block := by rw [block_of_add, block_of_add]; exact hne
  have HN4 : (a4.add (i * 2)).block ≠ w.heap.size := by rw [block_of_add]; omega
  have kA : ∀ (W : World) (u : Value), (W.setCell (a4.add (i * 2)) u).cell? (a3.add i) = W.cell? (a3.add i) := fun W u => far_set HN3
  have kB : ∀ (W : World) (u : Value), (W.setCell ⟨(a4.add (i * 2)).block, (a4.add (i * 2)).off + 1, none⟩ u).cell? (a3.add i) = W.cell? (a3.add i) := fun W u => far_set HN3
  have kC : ∀ (W : World) (u : Value) (o : Nat), (W.setCell (a4.add (i * 2)) u).cell? ⟨w.heap.size, o, none⟩ = W.cell? ⟨w.heap.size, o, none⟩ := fun W u o => far_set HN4
  have kD : ∀ (W : World) (u : Value) (o : Nat), (W.setCell ⟨(a4.add (i * 2)).block, (a4.add (i * 2)).off + 1, none⟩ u).cell? ⟨w.heap.size, o, none⟩ = W.cell? ⟨w.heap.size, o, none⟩ := fun W u o => far_set HN4
  have kE : ∀ (W : World) (u : Value), (W.setCell (a4.add (i * 2)) u).cell? ⟨(a4.add (i * 2)).block, (a4.add (i * 2)).off + 1, none⟩ = W.cell? ⟨(a4.add (i * 2)).block, (a4.add (i * 2)).off + 1, none⟩ := fun W u => World.cell?_setCell_other _ _ _ _ (fun e => by have e2 := congrArg Addr.off e; first | omega | (simp only at e2; omega))
  clear hx hy0 hy1 HN3 HN4
  cases kn
  · go_enter Try.func83, Try.ntmps83
    go_upto_region 1 with fail
    generalize (w.alloc (.cells #[.int .i64 x0, .int .i64 x1, .int .i64 x2, .slice (some a3) n4 c3, .slice (some a4) n4 c4] 50)).alloc (.cells #[.int .i64 a, .int .i64 b] 82) = w1 at hb0 K0 K1 ⊢
    have hV := HV _ hb0
    have c0 := fun o => K0.cell o
    have c1 := fun o => K1.cell o
    have hY := HY _ a b hb0
    clear HY HV
    obtain ⟨⟨_, ⟨⟩, hx⟩, ⟨_, ⟨⟩, hy0, hy1⟩, f3, f40, f41⟩ := hV
    go_wp2
    (go_end0; exact hY.out)
  · go_enter Try.func83, Try.ntmps83
    go_upto_region 1 with fail
    generalize (w.alloc (.cells #[.int .i64 x0, .int .i64 x1, .int .i64 x2, .slice (some a3) n4 c3, .slice (some a4) n4 c4] 50)).alloc (.cells #[.int .i64 a, .int .i64 b] 82) = w1 at hb0 K0 K1 ⊢
    have hV := HV _ hb0
    have c0 := fun o => K0.cell o
    have c1 := fun o => K1.cell o
    obtain ⟨⟨_, ⟨⟩, hx⟩, ⟨_, ⟨⟩, hy0, hy1⟩, f3, f40, f41⟩ := hV
    have hz1 := K1.lt
    generalize l4.getD (i * 2) 0 = y at *
    generalize l4.getD (i * 2 + 1) 0 = z at *
    go_wp2_with fail
    go_still_tail 6, (by kernel_rfl)
    change wpList _ _ _ _ _ w1.drew
    have D0 : Blk w1.drew _ _ _ := K0
    have D1 : Blk w1.drew _ _ _ := K1
    have bd := Below.drew hb0
    generalize w1.drew = w2 at D0 D1 bd ⊢
    clear c0 c1 hx hy0 hy1 f3 f40 f41 K0 K1 hb0
    go_wp2_with fail
    refine (l02Hull_any y z a b _).mono ?_
    rintro e w3 ⟨rfl, b3⟩
    have E0 := D0.below b3 D0.lt
    have E1 := D1.below b3 D1.lt
    have bd3 := bnext bd b3
    have c1 := fun o => E1.cell o
    have f1 := fun o => E1.frozen o
    have hz3 := E1.lt
    have HL := Lib.hid (show Below w.heap.size w ((w3.setCell ⟨w.heap.size + 1, 0, none⟩ (.int .i64 (min y a))).setCell ⟨w.heap.size + 1, 1, none⟩ (.int .i64 (max z b))) ∧ Blk ((w3.setCell ⟨w.heap.size + 1, 0, none⟩ (.int .i64 (min y a))).setCell ⟨w.heap.size + 1, 1, none⟩ (.int .i64 (max z b))) w.heap.size 50 #[.int .i64 x0, .int .i64 x1, .int .i64 x2, .slice (some a3) n4 c3, .slice (some a4) n4 c4] ∧ Blk ((w3.setCell ⟨w.heap.size + 1, 0, none⟩ (.int .i64 (min y a))).setCell ⟨w.heap.size + 1, 1, none⟩ (.int .i64 (max z b))) (w.heap.size + 1) 82 #[.int .i64 (min y a), .int .i64 (max z b)] from
      ⟨(bd3.setCell (by simp only; omega) _).setCell (by simp only; omega) _, (E0.far (by simp only; omega) _).far (by simp only; omega) _, (E1.set_ 0 _).set_ 1 _⟩)
    clear D0 D1 bd b3 E0 E1 bd3
    generalize min y a = p at *
    generalize max z b = q at *
    go_upto_region 3 with fail
    obtain ⟨B2, L0, L1⟩ := HL.out
    generalize ((w3.setCell ⟨w.heap.size + 1, 0, none⟩ (.int .i64 p)).setCell ⟨w.heap.size + 1, 1, none⟩ (.int .i64 q)) = w4 at B2 L0 L1 ⊢
    have hV2 := HV _ B2
    have hY2 := HY _ p q B2
    clear HL HY HV c1 f1
    obtain ⟨⟨_, ⟨⟩, hx⟩, ⟨_, ⟨⟩, hy0, hy1⟩, f3, f40, f41⟩ := hV2
    have c0 := fun o => L0.cell o
    have c1 := fun o => L1.cell o
    go_wp2
    (go_end0; exact hY2.out)
end Go.Proofs.Ythmcnoloeeabbaa
