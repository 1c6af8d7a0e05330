/- Mosaics: a value is put into a cell in place. Condition: the cell is one of the mosaic, whose lists lie apart. -/
import Derived.Test.YtilieonalmihaaaDoorMosA
import Derived.RegionTactic
import Derived.BigRegion
namespace Go.Proofs.YtilieonalmihaaaDoor
open Go.RowKit

theorem set_far {W : World} {p q : Addr} {u : Value} (h : p.block ≠ q.block) : (W.setCell p u).cell? q = W.cell? q := World.cell?_setCell_other _ _ _ _ (fun c => h (by rw [c]))

/-- what a put leaves behind -/
def PutPost (B : Nat) (h : MosaicH) (l' : MosaicC) (w : World) (e : Ending) (w' : World) : Prop :=
  e = .returned (.tuple #[]) ∧ RdAll w' (MosaicS h l') ∧ WrAll w' B (MosaicS h l') ∧ Touch w w' (MosaicR h)

theorem put_no {B : Nat} {h : MosaicH} {l : MosaicC} {w w' : World} {i : Nat} {v g : Int} (hr : RdAll w (MosaicS h l)) (hw : WrAll w B (MosaicS h l)) (hb : Below w.heap.size w w') (hp : putB l.values l.grades i v g = false) :
    PutPost B h (putM l i v g) w (.returned (.tuple #[])) w' := by
  have e : putM l i v g = l := by unfold putM putV putG; simp [hp]
  rw [e]
  exact ⟨rfl, hr.below hb, hw.below hr hb, hb.os, hb.tape, hb.output, hb.size, fun k hk _ => hb.block k hk⟩
theorem Touch.below {w w1 w' : World} {r : List (Option Nat)} (h : Touch w w1 r) (b : Below w1.heap.size w1 w') : Touch w w' r :=
  ⟨b.os.trans h.os, b.tape.trans h.tape, b.output.trans h.output, Nat.le_trans h.size b.size, fun k hk hne => (b.block k (Nat.lt_of_lt_of_le hk h.size)).trans (h.block k hk hne)⟩
theorem Touch.setCell {w w1 : World} {r : List (Option Nat)} (h : Touch w w1 r) {p : Addr} (hp : some p.block ∈ r) (u : Value) : Touch w (w1.setCell p u) r :=
  ⟨h.os, h.tape, h.output, by simpa [World.setCell] using h.size, fun k hk hne => (Below.heap_setCell w1 p u k (fun c => hne _ hp (by rw [c]))).trans (h.block k hk hne)⟩
theorem put_yes {B : Nat} {a2 a3 : Addr} {n c2 c3 : Nat} {x0 x1 : Int} {l2 l3 : List Int} {w W : World} {i : Nat} {v g : Int} (hi : i < n)
    (r2 : Rd W (some a2) n (ints l2)) (r3 : Rd W (some a3) n (ints l3)) (y2 : Wr W B (some a2) n) (y3 : Wr W B (some a3) n) (t : Touch w W [blkp (some a2) n, blkp (some a3) n]) (hne : a2.block ≠ a3.block)
    (hp : putB l2 l3 i v g = true) :
    PutPost B ⟨⟨some a2, n, c2⟩, ⟨some a3, n, c3⟩⟩ (putM ⟨x0, x1, l2, l3⟩ i v g) w (.returned (.tuple #[])) ((W.setCell (a2.add i) (.int .i64 v)).setCell (a3.add i) (.int .i64 g)) := by
  have e : putM ⟨x0, x1, l2, l3⟩ i v g = ⟨x0, x1, l2.set i v, l3.set i g⟩ := by unfold putM putV putG; simp [hp]
  rw [e]
  have b2 : blkp (some a2) n = some a2.block := by unfold blkp; rw [if_neg (by omega)]; rfl
  have b3 : blkp (some a3) n = some a3.block := by unfold blkp; rw [if_neg (by omega)]; rfl
  refine ⟨rfl, ?_, ?_, ?_⟩
  · refine RdAll.cons (s := ⟨some a2, n, ints (l2.set i v)⟩) ?_ (RdAll.cons (s := ⟨some a3, n, ints (l3.set i g)⟩) ?_ (RdAll.nil _))
    · refine (r2.seti (x := v) hi rfl).keep fun ad e _ => ?_
      cases e
      exact Below.heap_setCell _ _ _ _ (by rw [block_of_add]; exact hne)
    · refine Rd.seti (x := g) (r3.keep fun ad e _ => ?_) hi rfl
      cases e
      exact Below.heap_setCell _ _ _ _ (by rw [block_of_add]; exact hne.symm)
  · exact WrAll.cons (s := ⟨some a2, n, ints (l2.set i v)⟩) ((y2.set_ _).set_ _) (WrAll.cons (s := ⟨some a3, n, ints (l3.set i g)⟩) ((y3.set_ _).set_ _) (WrAll.nil _ _))
  · show Touch w _ [blkp (some a2) n, blkp (some a3) n]
    exact (t.setCell (by rw [block_of_add, b2]; simp) _).setCell (by rw [block_of_add, b3]; simp) _

theorem PutPost.drew {B : Nat} {h : MosaicH} {l' : MosaicC} {w : World} {e : Ending} {w' : World} (p : PutPost B h l' w e w') : PutPost B h l' w e w'.drew :=
  ⟨p.1, p.2.1, p.2.2.1, p.2.2.2.os, p.2.2.2.tape, p.2.2.2.output, p.2.2.2.size, p.2.2.2.block⟩
theorem put_yes' {B : Nat} {a2 a3 : Addr} {n c2 c3 : Nat} {x0 x1 : Int} {l2 l3 : List Int} {w W : World} {i : Nat} {v g : Int} (hi : i < n)
    (r2 : Rd W (some a2) n (ints l2)) (r3 : Rd W (some a3) n (ints l3)) (y2 : Wr W B (some a2) n) (y3 : Wr W B (some a3) n) (t : Touch w W [blkp (some a2) n, blkp (some a3) n]) (hne : a2.block ≠ a3.block)
    (hp : putB l2 l3 i v g = true) :
    PutPost B ⟨⟨some a2, n, c2⟩, ⟨some a3, n, c3⟩⟩ (putM ⟨x0, x1, l2, l3⟩ i v g) w (.returned (.tuple #[])) ((W.setCell (a3.add i) (.int .i64 g)).setCell (a2.add i) (.int .i64 v)) := by
  have e : putM ⟨x0, x1, l2, l3⟩ i v g = ⟨x0, x1, l2.set i v, l3.set i g⟩ := by unfold putM putV putG; simp [hp]
  rw [e]
  have b2 : blkp (some a2) n = some a2.block := by unfold blkp; rw [if_neg (by omega)]; rfl
  have b3 : blkp (some a3) n = some a3.block := by unfold blkp; rw [if_neg (by omega)]; rfl
  refine ⟨rfl, ?_, ?_, ?_⟩
  · refine RdAll.cons (s := ⟨some a2, n, ints (l2.set i v)⟩) ?_ (RdAll.cons (s := ⟨some a3, n, ints (l3.set i g)⟩) ?_ (RdAll.nil _))
    · refine Rd.seti (x := v) (r2.keep fun ad e _ => ?_) hi rfl
      cases e
      exact Below.heap_setCell _ _ _ _ (by rw [block_of_add]; exact hne)
    · refine (r3.seti (x := g) hi rfl).keep fun ad e _ => ?_
      cases e
      exact Below.heap_setCell _ _ _ _ (by rw [block_of_add]; exact hne.symm)
  · exact WrAll.cons (s := ⟨some a2, n, ints (l2.set i v)⟩) ((y2.set_ _).set_ _) (WrAll.cons (s := ⟨some a3, n, ints (l3.set i g)⟩) ((y3.set_ _).set_ _) (WrAll.nil _ _))
  · show Touch w _ [blkp (some a2) n, blkp (some a3) n]
    exact (t.setCell (by rw [block_of_add, b3]; simp) _).setCell (by rw [block_of_add, b2]; simp) _

set_option maxHeartbeats 4000000 in
theorem specPut_any (B : Nat) (h : MosaicH) (l : MosaicC) (i : Nat) (v g : Int) (w : World) (ok : MosaicOk h) (hq : h.grades.n = h.values.n) (hi : i < h.values.n) (hr : RdAll w (MosaicS h l)) (hw : WrAll w B (MosaicS h l)) (hs : Sep (MosaicR h)) :
    Calls Tryd.prog 21 #[MosaicV h l, .int .i64 i, .int .i64 v, .int .i64 g] w (PutPost B h (putM l i v g) w) := by
  have hN := fun w' hb hp => put_no (B := B) (h := h) (l := l) (w := w) (w' := w') (i := i) (v := v) (g := g) hr hw hb hp
  obtain ⟨m2, m3⟩ := ok
  have r2 := hr.head
  have r3 := hr.tail.head
  have y2 := hw.head
  have y3 := hw.tail.head
  have o23 := hs.off
  obtain ⟨⟨A2, n2, c2⟩, ⟨A3, n3, c3⟩⟩ := h
  obtain ⟨x0, x1, l2, l3⟩ := l
  simp only at hq hi
  subst hq
  clear hr hw hs
  unfold MosaicV
  simp only at *
  have hb0 : Below w.heap.size w (w.alloc (.cells #[.int .i64 x0, .int .i64 x1, .slice A2 n3 c2, .slice A3 n3 c3] 26)) := (Below.refl _ _).alloc (Nat.le_refl _) _
  have q2 := r2.below hb0
  have q3 := r3.below hb0
  have z2 := y2.below r2 hb0
  have z3 := y3.below r3 hb0
  have hT : Touch w (w.alloc (.cells #[.int .i64 x0, .int .i64 x1, .slice A2 n3 c2, .slice A3 n3 c3] 26)) [blkp A2 n3, blkp A3 n3] := (Touch.refl w _).below hb0
  obtain ⟨a2, rfl, hx⟩ := q2.int hi
  obtain ⟨a3, rfl, hy⟩ := q3.int hi
  have hne : a2.block ≠ a3.block := fun c => o23 _ (List.mem_cons_self ..) _ (List.mem_cons_self ..) a2.block (by unfold blkp; rw [if_neg (by omega)]; rfl) (by rw [c]; unfold blkp; rw [if_neg (by omega)]; rfl)
  have lt2 := r2.lt rfl (by omega)
  have lt3 := r3.lt rfl (by omega)
  have hY := fun hp => Lib.hid (put_yes (B := B) (c2 := c2) (c3 := c3) (x0 := x0) (x1 := x1) (v := v) (g := g) hi q2 q3 z2 z3 hT hne hp)
  obtain ⟨_, ⟨⟩, _, f2⟩ := z2 (by omega)
  obtain ⟨_, ⟨⟩, _, f3⟩ := z3 (by omega)
  have g2 := f2 i hi
  have g3 := f3 i hi
  have k1 : ∀ (W : World) (u : Value), (W.setCell (a2.add i) u).cell? (a3.add i) = W.cell? (a3.add i) := fun W u => set_far (by rw [block_of_add, block_of_add]; exact hne)
  have k2 : ∀ (W : World) (u : Value) (o : Nat), (W.setCell (a2.add i) u).cell? ⟨w.heap.size, o, none⟩ = W.cell? ⟨w.heap.size, o, none⟩ := fun W u o => set_far (by rw [block_of_add]; simp only; omega)
  have HP : Hid (putB l2 l3 i v g = (decide (l3.getD i 0 < g) || (decide (l3.getD i 0 = g) && decide (l2.getD i 0 < v)))) := rfl
  clear f2 f3 q2 q3 z2 z3 r2 r3 y2 y3 hT o23 lt2 lt3
  generalize l2.getD i 0 = x at *
  generalize l3.getD i 0 = y at *
  generalize putB l2 l3 i v g = b at *
  by_cases e1 : y < g
  · have hb : b = true := by rw [HP.out]; simp [e1]
    have HB := Lib.hid hb
    clear hb
    go_enter Tryd.func21, Tryd.ntmps21
    go_wp2
    (go_end0; exact (hY HB.out).out)
  · by_cases e2 : y = g
    · subst e2
      by_cases e3 : x < v
      · have hb : b = true := by rw [HP.out]; simp [e3]
        have HB := Lib.hid hb
        clear hb
        go_enter Tryd.func21, Tryd.ntmps21
        go_wp2
        (go_end0; exact (hY HB.out).out)
      · have hb : b = false := by rw [HP.out]; simp; omega
        have HB := Lib.hid hb
        clear hb
        go_enter Tryd.func21, Tryd.ntmps21
        go_wp2
        (go_end0; exact (hN _ hb0 HB.out))
    · have hb : b = false := by rw [HP.out]; simp; omega
      have HB := Lib.hid hb
      clear hb
      have f1 : (y == g) = false := by simpa using e2
      have f2 : (g == y) = false := by simpa using Ne.symm e2
      clear e2
      go_enter Tryd.func21, Tryd.ntmps21
      go_wp2
      (go_end0; exact (hN _ hb0 HB.out))

set_option maxHeartbeats 4000000 in
theorem implPut_any (B : Nat) (h : MosaicH) (l : MosaicC) (i : Nat) (v g : Int) (w : World) (ok : MosaicOk h) (hq : h.grades.n = h.values.n) (hi : i < h.values.n) (hr : RdAll w (MosaicS h l)) (hw : WrAll w B (MosaicS h l)) (hs : Sep (MosaicR h)) :
    Calls Tryd.prog 23 #[MosaicV h l, .int .i64 i, .int .i64 v, .int .i64 g] w (PutPost B h (putM l i v g) w) := by
  have hN := fun w' hb hp => put_no (B := B) (h := h) (l := l) (w := w) (w' := w') (i := i) (v := v) (g := g) hr hw hb hp
  obtain ⟨m2, m3⟩ := ok
  have r2 := hr.head
  have r3 := hr.tail.head
  have y2 := hw.head
  have y3 := hw.tail.head
  have o23 := hs.off
  obtain ⟨⟨A2, n2, c2⟩, ⟨A3, n3, c3⟩⟩ := h
  obtain ⟨x0, x1, l2, l3⟩ := l
  simp only at hq hi
  subst hq
  clear hr hw hs
  unfold MosaicV
  simp only at *
  have hb0 : Below w.heap.size w (w.alloc (.cells #[.int .i64 x0, .int .i64 x1, .slice A2 n3 c2, .slice A3 n3 c3] 26)) := (Below.refl _ _).alloc (Nat.le_refl _) _
  have q2 := r2.below hb0
  have q3 := r3.below hb0
  have z2 := y2.below r2 hb0
  have z3 := y3.below r3 hb0
  have hT : Touch w (w.alloc (.cells #[.int .i64 x0, .int .i64 x1, .slice A2 n3 c2, .slice A3 n3 c3] 26)) [blkp A2 n3, blkp A3 n3] := (Touch.refl w _).below hb0
  obtain ⟨a2, rfl, hx⟩ := q2.int hi
  obtain ⟨a3, rfl, hy⟩ := q3.int hi
  have hne : a2.block ≠ a3.block := fun c => o23 _ (List.mem_cons_self ..) _ (List.mem_cons_self ..) a2.block (by unfold blkp; rw [if_neg (by omega)]; rfl) (by rw [c]; unfold blkp; rw [if_neg (by omega)]; rfl)
  have lt2 := r2.lt rfl (by omega)
  have lt3 := r3.lt rfl (by omega)
  have hY := fun hp => Lib.hid (put_yes (B := B) (c2 := c2) (c3 := c3) (x0 := x0) (x1 := x1) (v := v) (g := g) hi q2 q3 z2 z3 hT hne hp)
  have hZ := fun hp => Lib.hid (put_yes' (B := B) (c2 := c2) (c3 := c3) (x0 := x0) (x1 := x1) (v := v) (g := g) hi q2 q3 z2 z3 hT hne hp)
  obtain ⟨_, ⟨⟩, _, f2⟩ := z2 (by omega)
  obtain ⟨_, ⟨⟩, _, f3⟩ := z3 (by omega)
  have g2 := f2 i hi
  have g3 := f3 i hi
  have k1 : ∀ (W : World) (u : Value), (W.setCell (a2.add i) u).cell? (a3.add i) = W.cell? (a3.add i) := fun W u => set_far (by rw [block_of_add, block_of_add]; exact hne)
  have k3 : ∀ (W : World) (u : Value), (W.setCell (a3.add i) u).cell? (a2.add i) = W.cell? (a2.add i) := fun W u => set_far (by rw [block_of_add, block_of_add]; exact hne.symm)
  have k4 : ∀ (W : World) (u : Value) (o : Nat), (W.setCell (a3.add i) u).cell? ⟨w.heap.size, o, none⟩ = W.cell? ⟨w.heap.size, o, none⟩ := fun W u o => set_far (by rw [block_of_add]; simp only; omega)
  have k2 : ∀ (W : World) (u : Value) (o : Nat), (W.setCell (a2.add i) u).cell? ⟨w.heap.size, o, none⟩ = W.cell? ⟨w.heap.size, o, none⟩ := fun W u o => set_far (by rw [block_of_add]; simp only; omega)
  have HP : Hid (putB l2 l3 i v g = (decide (l3.getD i 0 < g) || (decide (l3.getD i 0 = g) && decide (l2.getD i 0 < v)))) := rfl
  clear f2 f3 q2 q3 z2 z3 r2 r3 y2 y3 hT o23 lt2 lt3
  generalize l2.getD i 0 = x at *
  generalize l3.getD i 0 = y at *
  generalize putB l2 l3 i v g = b at *
  by_cases e1 : y < g
  · have hb : b = true := by rw [HP.out]; simp [e1]
    have HB := Lib.hid hb
    clear hb
    go_enter Tryd.func23, Tryd.ntmps23
    go_wp2_with fail
    go_region
    all_goals
      go_wp2
      first
        | (go_end0; exact (hY HB.out).out)
        | (go_end0; exact (hY HB.out).out.drew)
        | (go_end0; exact (hZ HB.out).out.drew)
  · by_cases e2 : y = g
    · subst e2
      by_cases e3 : x < v
      · have hb : b = true := by rw [HP.out]; simp [e3]
        have HB := Lib.hid hb
        clear hb
        go_enter Tryd.func23, Tryd.ntmps23
        go_wp2_with fail
        go_region
        all_goals
          go_wp2
          first
            | (go_end0; exact (hY HB.out).out)
            | (go_end0; exact (hY HB.out).out.drew)
            | (go_end0; exact (hZ HB.out).out.drew)
      · have hb : b = false := by rw [HP.out]; simp; omega
        have HB := Lib.hid hb
        clear hb
        go_enter Tryd.func23, Tryd.ntmps23
        go_wp2
        (go_end0; exact (hN _ hb0 HB.out))
    · have hb : b = false := by rw [HP.out]; simp; omega
      have HB := Lib.hid hb
      clear hb
      have f1 : (y == g) = false := by simpa using e2
      have f2 : (g == y) = false := by simpa using Ne.symm e2
      clear e2
      go_enter Tryd.func23, Tryd.ntmps23
      go_wp2
      (go_end0; exact (hN _ hb0 HB.out))
end Go.Proofs.YtilieonalmihaaaDoor
