/- The reference's table: l28Rest. Condition: received bits (an even number of them, 4 to 604). -/
import Derived.Test.YtlgmdekhlcbhoaaVit
namespace Go.Proofs.Ytlgmdekhlcbhoaa
open Go.RowKit

theorem sl_info : (Try.prog.info? 22).map (fun i => (i.zero, i.size, i.bytes)) = some (some (.slice none 0 0), 1, 24) := by kernel_rfl
theorem run_make_slices (m : Nat) (hm : m ≤ 1048576) (W : World) :
    (Instr.makeSlice 118 (.int .i64 ((m : Int) + 1)) (.int .i64 ((m : Int) + 1))).run Try.prog W = .ok (.slice (some ⟨W.heap.size, 0, none⟩) (m + 1) (m + 1)) (W.alloc (.cells (madeCells #[.slice none 0 0] (m + 1)) 22)) := by
  obtain ⟨i0, hi0, hz0, hz1, hz2⟩ := info_parts sl_info
  have h := run_make_rowN (P := Try.prog) 118 22 i0 _ Try.underlying118 hi0 hz0 .i64 .i64 (m + 1) (m + 1) (Nat.le_refl _) (by rw [hz2]; omega) (by omega) W
  rw [hz1, Nat.mul_one] at h
  rw [Int.natCast_add] at h
  exact h

/-- A table whose rows from lo on are lists of four numbers, in blocks from B on. -/
def Rows4 (w : World) (G B m lo : Nat) (f : Nat → List Int) : Prop :=
  ∃ cs, Blk w G 22 cs ∧ cs.size = m + 1 ∧ ∀ t, lo ≤ t → t ≤ m → ∃ ad c, cs[t]? = some (.slice (some ad) 4 c) ∧ Rd w (some ad) 4 (ints (f t)) ∧ B ≤ ad.block
theorem Rows4.below {w w' : World} {G B m lo : Nat} {f : Nat → List Int} (h : Rows4 w G B m lo f) (hb : Below w.heap.size w w') : Rows4 w' G B m lo f := by
  obtain ⟨cs, h1, h2, h3⟩ := h
  refine ⟨cs, h1.below hb h1.lt, h2, fun t ht ht' => ?_⟩
  obtain ⟨ad, c, h4, h5, h6⟩ := h3 t ht ht'
  exact ⟨ad, c, h4, h5.below hb, h6⟩
theorem Rows4.at_ {w : World} {G B m lo t : Nat} {f : Nat → List Int} (h : Rows4 w G B m lo f) (h1 : lo ≤ t) (h2 : t ≤ m) :
    ∃ ad c, w.cell? ⟨G, t, none⟩ = some (.slice (some ad) 4 c) ∧ Rd w (some ad) 4 (ints (f t)) := by
  obtain ⟨cs, hb, _, h3⟩ := h
  obtain ⟨ad, c, h4, h5, _⟩ := h3 t h1 h2
  exact ⟨ad, c, by rw [hb.cell]; exact h4, h5⟩
theorem Rows4.old {w : World} {G B m lo t : Nat} {f : Nat → List Int} (h : Rows4 w G B m lo f) (h2 : t ≤ m) : (∃ v, w.cell? ⟨G, t, none⟩ = some v) ∧ w.frozen? ⟨G, t, none⟩ = false := by
  obtain ⟨cs, hb, hs, _⟩ := h
  exact ⟨⟨_, by rw [hb.cell]; exact Array.getElem?_eq_getElem (by omega)⟩, hb.frozen t⟩
/-- A store into another table. -/
theorem Rows4.far {w : World} {G B m lo G' t : Nat} {f : Nat → List Int} (h : Rows4 w G B m lo f) (hne : G ≠ G') (hB : G' < B) (v : Value) : Rows4 (w.setCell ⟨G', t, none⟩ v) G B m lo f := by
  obtain ⟨cs, h1, h2, h3⟩ := h
  refine ⟨cs, h1.far (p := ⟨G', t, none⟩) hne v, h2, fun t ht ht' => ?_⟩
  obtain ⟨ad, c, h4, h5, h6⟩ := h3 t ht ht'
  exact ⟨ad, c, h4, h5.keep (fun ad' e _ => by cases e; exact Below.heap_setCell _ _ _ _ (by simp; omega)), h6⟩
/-- A store of the row below. -/
theorem Rows4.set_ {w : World} {G B m j c : Nat} {ad : Addr} {f : Nat → List Int} (h : Rows4 w G B m (j + 1) f) (hj : j ≤ m) (hr : Rd w (some ad) 4 (ints (f j))) (hB : B ≤ ad.block) (hG : G < B) :
    Rows4 (w.setCell ⟨G, j, none⟩ (.slice (some ad) 4 c)) G B m j f := by
  obtain ⟨cs, h1, h2, h3⟩ := h
  refine ⟨_, h1.set_ j _, by simpa using h2, fun t ht ht' => ?_⟩
  by_cases e : t = j
  · subst e
    exact ⟨ad, c, Array.getElem?_setIfInBounds_self_of_lt (by omega), hr.keep (fun ad' e _ => by cases e; exact Below.heap_setCell _ _ _ _ (by simp; omega)), hB⟩
  · obtain ⟨ad', c', h4, h5, h6⟩ := h3 t (by omega) ht'
    exact ⟨ad', c', by rw [Array.getElem?_setIfInBounds_ne (by omega)]; exact h4, h5.keep (fun ad'' e' _ => by cases e'; exact Below.heap_setCell _ _ _ _ (by simp; omega)), h6⟩
theorem Rows4.start {w : World} {G B m : Nat} {cs : Array Value} {f : Nat → List Int} (h : Blk w G 22 cs) (hs : cs.size = m + 1) : Rows4 w G B m (m + 1) f :=
  ⟨cs, h, hs, fun t ht ht' => by omega⟩

theorem Blk.at_ (w : World) (t : TypeId) (cs : Array Value) (g : Nat) (hg : w.heap.size = g) : Blk (w.alloc (.cells cs t)) g t cs := by subst hg; exact Blk.new w t cs

theorem own_empty' (w : World) (e : TypeId) (g base : Nat) (hg : w.heap.size = g) (hb : base ≤ g) : (w.alloc (.cells #[] e)).ownsRow base e 1 (.slice (some ⟨g, 0, none⟩) 0 0) 0 [] := by
  subst hg; exact own_base (own_empty w e) hb

def lim2 (r : Nat) : Nat := if 2 ≤ r then 2 else 1
theorem lim2_two {r : Nat} (h : 2 ≤ r) : lim2 r = 2 := if_pos h
theorem lim2_one {r : Nat} (h : ¬ 2 ≤ r) : lim2 r = 1 := if_neg h
theorem lim2_bd (r : Nat) : 1 ≤ lim2 r ∧ lim2 r ≤ 2 := by unfold lim2; split <;> omega

def refE (xs : List Int) (m t k : Nat) : List Int := (List.range k).map fun s : Nat => (ref xs m (m - t) s).1
def refW (xs : List Int) (m t k : Nat) : List Int := (List.range k).map fun s : Nat => (ref xs m (m - t) s).2
/-- The bits taken in so far. -/
def accB (xs : List Int) (n r : Nat) (s : Int) : Nat → Int × Int
  | 0 => (2 * (n : Int) + 1, 0)
  | b + 1 => add1 (accB xs n r s b) (stepW xs (n - (r + 1)) s b + (ref xs n r (nxt s b)).1) (ref xs n r (nxt s b)).2
theorem ref_acc (xs : List Int) (n r : Nat) (s : Int) : ref xs n (r + 1) s = accB xs n r s (lim2 r) := by
  unfold lim2
  by_cases h : 2 ≤ r
  · rw [if_pos h]
    show (if 2 ≤ r then _ else _) = _
    rw [if_pos h]; rfl
  · rw [if_neg h]
    show (if 2 ≤ r then _ else _) = _
    rw [if_neg h]; rfl
theorem accB_bd (xs : List Int) (n r : Nat) (s : Int) : ∀ b, 0 ≤ (accB xs n r s b).1 ∧ (accB xs n r s b).1 ≤ 2 * (n : Int) + 1 ∧ 0 ≤ (accB xs n r s b).2 ∧ (accB xs n r s b).2 ≤ 1000000
  | 0 => by unfold accB; simp only; omega
  | b + 1 => by
    have h := accB_bd xs n r s b
    have h0 := ref_bd xs n r (nxt s b)
    have w0 := stepW_bd xs (n - (r + 1)) s b
    unfold accB add1
    simp only
    split <;> split <;> (try dsimp only at *) <;> omega
theorem own_ne {w : World} {base' n : Nat} {e' : TypeId} {v u : Value} {ys : List Value} (hu : w.ownsRow base' e' 1 u n ys) (hne : u.ownBlock ≠ v.ownBlock) {v' : Value}
    (h : v'.ownBlock = v.ownBlock ∨ w.heap.size ≤ v'.ownBlock.getD 0) (hsome : ∃ g, u.ownBlock = some g) : u.ownBlock ≠ v'.ownBlock := by
  obtain ⟨g, hg⟩ := hsome
  have := (hu.lt g hg).2
  rcases h with h | h
  · rw [h]; exact hne
  · intro c; rw [← c, hg] at h; simp at h; omega

theorem refE_end (xs : List Int) (m : Nat) : refE xs m m 4 = [0, 2 * (m : Int) + 1, 2 * (m : Int) + 1, 2 * (m : Int) + 1] := by
  unfold refE; rw [Nat.sub_self]; rfl
theorem refW_end (xs : List Int) (m : Nat) : refW xs m m 4 = [1, 0, 0, 0] := by
  unfold refW; rw [Nat.sub_self]; rfl
theorem Rows4.first {w : World} {G B m g c : Nat} {cs : Array Value} {f : Nat → List Int} {row : Array Value} {e : TypeId} (h : Blk w G 22 (cs.setIfInBounds m (.slice (some ⟨g, 0, none⟩) 4 c))) (hs : cs.size = m + 1) (hg : Blk w g e row)
    (hrow : ∀ i, i < 4 → row[i]? = (ints (f m))[i]?) (hl : (f m).length = 4) (hB : B ≤ g) : Rows4 w G B m m f :=
  ⟨_, h, by simpa using hs, fun t ht ht' => by
    obtain rfl : t = m := by omega
    exact ⟨⟨g, 0, none⟩, c, Array.getElem?_setIfInBounds_self_of_lt (by omega), hg.rd (by unfold ints; simpa using hl) hrow, hB⟩⟩

theorem own_some {w : World} {base n : Nat} {e : TypeId} {v : Value} {us : List Value} (h : w.ownsRow base e 1 v n us) (hn : 0 < n) : ∃ g, v.ownBlock = some g := by
  rcases h.2 with ⟨rfl, h0⟩ | ⟨g, cap, cur, rfl, _⟩
  · omega
  · exact ⟨g, rfl⟩
theorem own_rd4 {w : World} {base : Nat} {e : TypeId} {v : Value} {us : List Value} (h : w.ownsRow base e 1 v 4 us) : ∃ ad c, v = .slice (some ad) 4 c ∧ Rd w (some ad) 4 us ∧ base ≤ ad.block := by
  obtain ⟨B, c, rfl, hr, hw, _, _⟩ := own_rd h
  obtain ⟨ad, rfl, hb, _⟩ := hw (by omega)
  exact ⟨ad, c, rfl, hr, hb⟩

set_option maxRecDepth 100000 in
set_option maxHeartbeats 8000000 in
theorem l28Rest_any (A : Option Addr) (m c : Nat) (xs : List Int) (w : World) (hm : 2 ≤ m) (hm2 : m ≤ 302) (hr : Rd w A (2 * m) (ints xs)) :
    Calls Try.prog 165 #[.slice A (2 * m) c] w fun e w' => e = .returned (.tuple #[.slice (some ⟨w.heap.size, 0, none⟩) (m + 1) (m + 1), .slice (some ⟨w.heap.size + 1, 0, none⟩) (m + 1) (m + 1)]) ∧
      Rows4 w' w.heap.size (w.heap.size + 2) m 0 (fun t => refE xs m t 4) ∧ Rows4 w' (w.heap.size + 1) (w.heap.size + 2) m 0 (fun t => refW xs m t 4) ∧ Below w.heap.size w w' := by
  have hmk := fun W => run_make_slices m (by omega) W
  have h2 : (2 * (m : Int)) / 2 = (m : Int) := by omega
  obtain ⟨cs, hcs⟩ : ∃ cs, cs = madeCells #[.slice none 0 0] (m + 1) := ⟨_, rfl⟩
  rw [← hcs] at hmk
  have HZ : Hid (cs.size = m + 1) := by unfold Hid; rw [hcs]; exact madeCells_size _ _
  obtain ⟨v0, hgm⟩ : ∃ v, cs[m]? = some v := ⟨_, Array.getElem?_eq_getElem (by rw [HZ.out]; omega)⟩
  clear hcs
  go_enter Try.func165, Try.ntmps165
  go_wp2_with fail
  clear hmk hgm
  go_loopw [7] (fun i wr => ∃ k : Nat, ∃ z : Int, k ≤ m ∧ z = (k : Int) - 1 ∧ i = .int .i64 z ∧ Rows4 wr w.heap.size (w.heap.size + 2) m k (fun t => refE xs m t 4) ∧ Rows4 wr (w.heap.size + 1) (w.heap.size + 2) m k (fun t => refW xs m t 4) ∧ Below w.heap.size w wr ∧ w.heap.size + 2 ≤ wr.heap.size) (fun i _ => (intOf i + 1).toNat)
  case atStart =>
    refine ⟨m, _, Nat.le_refl _, rfl, rfl, Rows4.first (g := w.heap.size + 2) (c := 4) (e := 2) (row := #[.int .i64 0, .int .i64 (2 * (m : Int) + 1), .int .i64 (2 * (m : Int) + 1), .int .i64 (2 * (m : Int) + 1)]) (((Blk.new w _ _).alloc _).alloc _ |>.alloc _) HZ.out ?_ ?_ ?_ (by omega), Rows4.first (g := w.heap.size + 3) (c := 4) (e := 2) (row := #[.int .i64 1, .int .i64 0, .int .i64 0, .int .i64 0]) ?_ HZ.out ?_ ?_ ?_ (by omega), by (repeat (first | (with_reducible assumption) | (with_reducible exact Below.refl _ _) | (with_reducible refine Below.drew ?_) | (with_reducible refine Below.drewN ?_ _) | (with_reducible refine Below.setCell ?_ ?_ _) | (with_reducible refine Below.alloc ?_ ?_ _) | assumption)); all_goals (first | omega | (simp; done) | (simp; omega)), by simp⟩
    · exact (Blk.at_ _ _ _ _ (by simp)).alloc _
    · intro i hi
      show _ = (ints (refE xs m m 4))[i]?
      rw [refE_end]
      match i, hi with
      | 0, _ => rfl
      | 1, _ => rfl
      | 2, _ => rfl
      | 3, _ => rfl
    · show (refE xs m m 4).length = 4
      rw [refE_end]; rfl
    · exact ((Blk.at_ _ _ _ _ (by simp)).alloc _).alloc _
    · exact Blk.at_ _ _ _ _ (by simp)
    · intro i hi
      show _ = (ints (refW xs m m 4))[i]?
      rw [refW_end]
      match i, hi with
      | 0, _ => rfl
      | 1, _ => rfl
      | 2, _ => rfl
      | 3, _ => rfl
    · show (refW xs m m 4).length = 4
      rw [refW_end]; rfl
  case round =>
    obtain ⟨k, z, hk, hz, rfl, hE, hW, hbel, hsz⟩ := hrel
    by_cases h0 : k = 0
    · subst h0
      obtain rfl : z = -1 := by omega
      clear hz
      go_wp2
      go_ret2
      exact ⟨rfl, hE, hW, hbel⟩
    · obtain ⟨j, rfl⟩ : ∃ j, k = j + 1 := ⟨k - 1, by omega⟩
      obtain rfl : z = (j : Int) := by omega
      clear hz h0
      obtain ⟨⟨v1, hd1⟩, hf1⟩ := hE.old (t := j) (by omega)
      obtain ⟨⟨v2, hd2⟩, hf2⟩ := hW.old (t := j) (by omega)
      obtain ⟨ae, ce, he, hre⟩ := hE.at_ (t := j + 1) (by omega) hk
      obtain ⟨aw, cw, hw, hrw⟩ := hW.at_ (t := j + 1) (by omega) hk
      have HE := Lib.hid hE
      have HW := Lib.hid hW
      have HRE := Lib.hid hre
      have HRW := Lib.hid hrw
      clear hE hW hre hrw
      go_wp2_with fail
      obtain ⟨wo, rfl⟩ : ∃ wo : World, wo = wr := ⟨_, rfl⟩
      go_loopw [8, 9, 10] (fun e v i wr => ∃ s : Nat, s ≤ 4 ∧ i = .int .i64 s ∧ wr.ownsRow wo.heap.size 2 1 e s (ints (refE xs m j s)) ∧ wr.ownsRow wo.heap.size 2 1 v s (ints (refW xs m j s)) ∧ (∃ g, v.ownBlock = some g) ∧ v.ownBlock ≠ e.ownBlock ∧ Below wo.heap.size wo wr) (fun _ _ i _ => 4 - (intOf i).toNat)
      case atStart => exact ⟨0, by omega, rfl, (own_empty _ _).alloc _, own_empty' _ _ _ _ (by simp) (by omega), ⟨_, rfl⟩, by simp [Value.ownBlock], by (repeat (first | (with_reducible assumption) | (with_reducible exact Below.refl _ _) | (with_reducible refine Below.drew ?_) | (with_reducible refine Below.drewN ?_ _) | (with_reducible refine Below.setCell ?_ ?_ _) | (with_reducible refine Below.alloc ?_ ?_ _) | assumption)); all_goals (first | omega | (simp; done) | (simp; omega))⟩
      case round =>
        obtain ⟨s, hs, rfl, hoe, how, hsome, hne, hb2⟩ := hrel
        by_cases hlt : s < 4
        · have hs4 : decide ((s : Int) < 4) = true := by simp; omega
          go_wp2_with fail
          obtain ⟨wi, rfl⟩ : ∃ wi : World, wi = wr := ⟨_, rfl⟩
          go_loopw [11, 12, 13] (fun be co bi wr => ∃ b : Nat, b ≤ lim2 (m - (j + 1)) ∧ bi = .int .i64 b ∧ be = .int .i64 (accB xs m (m - (j + 1)) s b).1 ∧ co = .int .i64 (accB xs m (m - (j + 1)) s b).2 ∧ ∃ q, wr = wi.drewN q) (fun _ _ bi _ => 2 - (intOf bi).toNat)
          case atStart => exact ⟨0, Nat.zero_le _, rfl, rfl, rfl, 0, rfl⟩
          case round =>
            obtain ⟨b, hb, rfl, rfl, rfl, q0, rfl⟩ := hrel
            have hb3 : Below wo.heap.size wo (wi.drewN q0) := Below.drewN hb2 q0
            have hrr := hr.below (bstep hbel hb3 (Nat.le_refl _))
            have he3 := (hb2.cell (p := ⟨w.heap.size, j + 1, none⟩) (by simp; omega)).trans he
            have hw3 := (hb2.cell (p := ⟨w.heap.size + 1, j + 1, none⟩) (by simp; omega)).trans hw
            have hbc : b = 0 ∨ b = 1 ∨ b = 2 := by have := lim2_bd (m - (j + 1)); omega
            rcases hbc with rfl | rfl | rfl
            · clear hb
              have hM := stepW_bd xs j s 0
              have hR := ref_bd xs m (m - (j + 1)) (nxt s 0)
              have hA := accB_bd xs m (m - (j + 1)) s 0
              have hq := nxt_bd (s := (s : Int)) (b := 0) (by omega) (by omega) (by omega) (by omega)
              obtain ⟨q, hqq⟩ := Int.eq_ofNat_of_zero_le hq.1
              have hq4 : q < 4 := by omega
              have hxe := HRE.out.below hb2
              have hxw := HRW.out.below hb2
              obtain ⟨_, ⟨⟩, hxe⟩ := hxe.int hq4
              obtain ⟨_, ⟨⟩, hxw⟩ := hxw.int hq4
              have hxe' : (refE xs m (j + 1) 4).getD q 0 = (ref xs m (m - (j + 1)) q).1 := range_map_getD _ hq4
              have hxw' : (refW xs m (j + 1) 4).getD q 0 = (ref xs m (m - (j + 1)) q).2 := range_map_getD _ hq4
              rw [hxe'] at hxe
              rw [hxw'] at hxw
              clear hxe' hxw'
              rw [hqq] at hR
              have HS : Hid (accB xs m (m - (j + 1)) s (0 + 1) = add1 (accB xs m (m - (j + 1)) s 0) (stepW xs j s 0 + (ref xs m (m - (j + 1)) q).1) (ref xs m (m - (j + 1)) q).2) := by
                unfold Hid
                rw [← hqq]
                show add1 _ (stepW xs (m - (m - (j + 1) + 1)) s 0 + _) _ = _
                rw [show m - (m - (j + 1) + 1) = j from by omega]
                rfl
              generalize (ref xs m (m - (j + 1)) q).1 = E at *
              generalize (ref xs m (m - (j + 1)) q).2 = W at *
              generalize hacc : accB xs m (m - (j + 1)) s 0 = ac at *
              clear hacc
              obtain ⟨be, cn⟩ := ac
              simp only at hA
              unfold add1 at HS
              simp only at HS
              by_cases c1 : stepW xs j s 0 + E < be
              · by_cases c3 : W < 1000000
                · have HA : Hid (accB xs m (m - (j + 1)) s (0 + 1) = (stepW xs j s 0 + E, W)) := by
                    unfold Hid; rw [HS.out]; simp only [c1, if_true]; rw [Int.min_eq_right (by omega)]; simp
                  go_wp2_with (first | (go_at_call 138; refine (l28Size_any _ _ _ _ (by omega)).mono ?_; rintro e w' ⟨rfl, rfl⟩) | (go_at_call 143; refine (l28Step_any A (2 * m) c xs j s 0 _ (by omega) ?_ (by omega) (by omega) (by omega) (by omega) (by omega)).mono ?_; exact hrr; rintro e w' ⟨rfl, qq, rfl⟩; rw [hqq]))
                  go_roundw
                  case rel => exact ⟨0 + 1, by have := lim2_bd (m - (j + 1)); omega, by go_num, by rw [HA.out], by rw [HA.out], _, rfl⟩
                  case measure => simp [intOf]
                · have HA : Hid (accB xs m (m - (j + 1)) s (0 + 1) = (stepW xs j s 0 + E, 1000000)) := by
                    unfold Hid; rw [HS.out]; simp only [c1, if_true]; rw [Int.min_eq_left (by omega)]
                  go_wp2_with (first | (go_at_call 138; refine (l28Size_any _ _ _ _ (by omega)).mono ?_; rintro e w' ⟨rfl, rfl⟩) | (go_at_call 143; refine (l28Step_any A (2 * m) c xs j s 0 _ (by omega) ?_ (by omega) (by omega) (by omega) (by omega) (by omega)).mono ?_; exact hrr; rintro e w' ⟨rfl, qq, rfl⟩; rw [hqq]))
                  go_roundw
                  case rel => exact ⟨0 + 1, by have := lim2_bd (m - (j + 1)); omega, by go_num, by rw [HA.out], by rw [HA.out], _, rfl⟩
                  case measure => simp [intOf]
              · by_cases c2 : stepW xs j s 0 + E = be
                · have c2' : (stepW xs j s 0 + E == be) = true := by rw [c2]; simp
                  have C2 := Lib.hid c2
                  clear c2
                  by_cases c3 : cn + W < 1000000
                  · have HA : Hid (accB xs m (m - (j + 1)) s (0 + 1) = (be, cn + W)) := by
                      unfold Hid; rw [HS.out]; simp only [C2.out, Int.lt_irrefl, if_false, if_true]; rw [Int.min_eq_right (by omega)]
                    go_wp2_with (first | (go_at_call 138; refine (l28Size_any _ _ _ _ (by omega)).mono ?_; rintro e w' ⟨rfl, rfl⟩) | (go_at_call 143; refine (l28Step_any A (2 * m) c xs j s 0 _ (by omega) ?_ (by omega) (by omega) (by omega) (by omega) (by omega)).mono ?_; exact hrr; rintro e w' ⟨rfl, qq, rfl⟩; rw [hqq]))
                    go_roundw
                    case rel => exact ⟨0 + 1, by have := lim2_bd (m - (j + 1)); omega, by go_num, by rw [HA.out], by rw [HA.out], _, rfl⟩
                    case measure => simp [intOf]
                  · have HA : Hid (accB xs m (m - (j + 1)) s (0 + 1) = (be, 1000000)) := by
                      unfold Hid; rw [HS.out]; simp only [C2.out, Int.lt_irrefl, if_false, if_true]; rw [Int.min_eq_left (by omega)]
                    go_wp2_with (first | (go_at_call 138; refine (l28Size_any _ _ _ _ (by omega)).mono ?_; rintro e w' ⟨rfl, rfl⟩) | (go_at_call 143; refine (l28Step_any A (2 * m) c xs j s 0 _ (by omega) ?_ (by omega) (by omega) (by omega) (by omega) (by omega)).mono ?_; exact hrr; rintro e w' ⟨rfl, qq, rfl⟩; rw [hqq]))
                    go_roundw
                    case rel => exact ⟨0 + 1, by have := lim2_bd (m - (j + 1)); omega, by go_num, by rw [HA.out], by rw [HA.out], _, rfl⟩
                    case measure => simp [intOf]
                · have c2' : (stepW xs j s 0 + E == be) = false := by simp; omega
                  have HA : Hid (accB xs m (m - (j + 1)) s (0 + 1) = (be, cn)) := by
                    unfold Hid; rw [HS.out]; simp only [c1, c2, if_false]
                  clear c2
                  go_wp2_with (first | (go_at_call 138; refine (l28Size_any _ _ _ _ (by omega)).mono ?_; rintro e w' ⟨rfl, rfl⟩) | (go_at_call 143; refine (l28Step_any A (2 * m) c xs j s 0 _ (by omega) ?_ (by omega) (by omega) (by omega) (by omega) (by omega)).mono ?_; exact hrr; rintro e w' ⟨rfl, qq, rfl⟩; rw [hqq]))
                  go_roundw
                  case rel => exact ⟨0 + 1, by have := lim2_bd (m - (j + 1)); omega, by go_num, by rw [HA.out], by rw [HA.out], _, rfl⟩
                  case measure => simp [intOf]
            · by_cases hj2 : (j : Int) < (m : Int) - 2
              · clear hb
                have hM := stepW_bd xs j s 1
                have hR := ref_bd xs m (m - (j + 1)) (nxt s 1)
                have hA := accB_bd xs m (m - (j + 1)) s 1
                have hq := nxt_bd (s := (s : Int)) (b := 1) (by omega) (by omega) (by omega) (by omega)
                obtain ⟨q, hqq⟩ := Int.eq_ofNat_of_zero_le hq.1
                have hq4 : q < 4 := by omega
                have hxe := HRE.out.below hb2
                have hxw := HRW.out.below hb2
                obtain ⟨_, ⟨⟩, hxe⟩ := hxe.int hq4
                obtain ⟨_, ⟨⟩, hxw⟩ := hxw.int hq4
                have hxe' : (refE xs m (j + 1) 4).getD q 0 = (ref xs m (m - (j + 1)) q).1 := range_map_getD _ hq4
                have hxw' : (refW xs m (j + 1) 4).getD q 0 = (ref xs m (m - (j + 1)) q).2 := range_map_getD _ hq4
                rw [hxe'] at hxe
                rw [hxw'] at hxw
                clear hxe' hxw'
                rw [hqq] at hR
                have HS : Hid (accB xs m (m - (j + 1)) s (1 + 1) = add1 (accB xs m (m - (j + 1)) s 1) (stepW xs j s 1 + (ref xs m (m - (j + 1)) q).1) (ref xs m (m - (j + 1)) q).2) := by
                  unfold Hid
                  rw [← hqq]
                  show add1 _ (stepW xs (m - (m - (j + 1) + 1)) s 1 + _) _ = _
                  rw [show m - (m - (j + 1) + 1) = j from by omega]
                  rfl
                generalize (ref xs m (m - (j + 1)) q).1 = E at *
                generalize (ref xs m (m - (j + 1)) q).2 = W at *
                generalize hacc : accB xs m (m - (j + 1)) s 1 = ac at *
                clear hacc
                obtain ⟨be, cn⟩ := ac
                simp only at hA
                unfold add1 at HS
                simp only at HS
                by_cases c1 : stepW xs j s 1 + E < be
                · by_cases c3 : W < 1000000
                  · have HA : Hid (accB xs m (m - (j + 1)) s (1 + 1) = (stepW xs j s 1 + E, W)) := by
                      unfold Hid; rw [HS.out]; simp only [c1, if_true]; rw [Int.min_eq_right (by omega)]; simp
                    go_wp2_with (first | (go_at_call 138; refine (l28Size_any _ _ _ _ (by omega)).mono ?_; rintro e w' ⟨rfl, rfl⟩) | (go_at_call 143; refine (l28Step_any A (2 * m) c xs j s 1 _ (by omega) ?_ (by omega) (by omega) (by omega) (by omega) (by omega)).mono ?_; exact hrr; rintro e w' ⟨rfl, qq, rfl⟩; rw [hqq]))
                    go_roundw
                    case rel => exact ⟨1 + 1, by rw [lim2_two (by omega)]; omega, by go_num, by rw [HA.out], by rw [HA.out], _, rfl⟩
                    case measure => simp [intOf]
                  · have HA : Hid (accB xs m (m - (j + 1)) s (1 + 1) = (stepW xs j s 1 + E, 1000000)) := by
                      unfold Hid; rw [HS.out]; simp only [c1, if_true]; rw [Int.min_eq_left (by omega)]
                    go_wp2_with (first | (go_at_call 138; refine (l28Size_any _ _ _ _ (by omega)).mono ?_; rintro e w' ⟨rfl, rfl⟩) | (go_at_call 143; refine (l28Step_any A (2 * m) c xs j s 1 _ (by omega) ?_ (by omega) (by omega) (by omega) (by omega) (by omega)).mono ?_; exact hrr; rintro e w' ⟨rfl, qq, rfl⟩; rw [hqq]))
                    go_roundw
                    case rel => exact ⟨1 + 1, by rw [lim2_two (by omega)]; omega, by go_num, by rw [HA.out], by rw [HA.out], _, rfl⟩
                    case measure => simp [intOf]
                · by_cases c2 : stepW xs j s 1 + E = be
                  · have c2' : (stepW xs j s 1 + E == be) = true := by rw [c2]; simp
                    have C2 := Lib.hid c2
                    clear c2
                    by_cases c3 : cn + W < 1000000
                    · have HA : Hid (accB xs m (m - (j + 1)) s (1 + 1) = (be, cn + W)) := by
                        unfold Hid; rw [HS.out]; simp only [C2.out, Int.lt_irrefl, if_false, if_true]; rw [Int.min_eq_right (by omega)]
                      go_wp2_with (first | (go_at_call 138; refine (l28Size_any _ _ _ _ (by omega)).mono ?_; rintro e w' ⟨rfl, rfl⟩) | (go_at_call 143; refine (l28Step_any A (2 * m) c xs j s 1 _ (by omega) ?_ (by omega) (by omega) (by omega) (by omega) (by omega)).mono ?_; exact hrr; rintro e w' ⟨rfl, qq, rfl⟩; rw [hqq]))
                      go_roundw
                      case rel => exact ⟨1 + 1, by rw [lim2_two (by omega)]; omega, by go_num, by rw [HA.out], by rw [HA.out], _, rfl⟩
                      case measure => simp [intOf]
                    · have HA : Hid (accB xs m (m - (j + 1)) s (1 + 1) = (be, 1000000)) := by
                        unfold Hid; rw [HS.out]; simp only [C2.out, Int.lt_irrefl, if_false, if_true]; rw [Int.min_eq_left (by omega)]
                      go_wp2_with (first | (go_at_call 138; refine (l28Size_any _ _ _ _ (by omega)).mono ?_; rintro e w' ⟨rfl, rfl⟩) | (go_at_call 143; refine (l28Step_any A (2 * m) c xs j s 1 _ (by omega) ?_ (by omega) (by omega) (by omega) (by omega) (by omega)).mono ?_; exact hrr; rintro e w' ⟨rfl, qq, rfl⟩; rw [hqq]))
                      go_roundw
                      case rel => exact ⟨1 + 1, by rw [lim2_two (by omega)]; omega, by go_num, by rw [HA.out], by rw [HA.out], _, rfl⟩
                      case measure => simp [intOf]
                  · have c2' : (stepW xs j s 1 + E == be) = false := by simp; omega
                    have HA : Hid (accB xs m (m - (j + 1)) s (1 + 1) = (be, cn)) := by
                      unfold Hid; rw [HS.out]; simp only [c1, c2, if_false]
                    clear c2
                    go_wp2_with (first | (go_at_call 138; refine (l28Size_any _ _ _ _ (by omega)).mono ?_; rintro e w' ⟨rfl, rfl⟩) | (go_at_call 143; refine (l28Step_any A (2 * m) c xs j s 1 _ (by omega) ?_ (by omega) (by omega) (by omega) (by omega) (by omega)).mono ?_; exact hrr; rintro e w' ⟨rfl, qq, rfl⟩; rw [hqq]))
                    go_roundw
                    case rel => exact ⟨1 + 1, by rw [lim2_two (by omega)]; omega, by go_num, by rw [HA.out], by rw [HA.out], _, rfl⟩
                    case measure => simp [intOf]
              · have hl1 : m - (j + 1) < 2 := by omega
                have HX : Hid (accB xs m (m - (j + 1)) s 1 = ref xs m (m - j) s) := by
                  unfold Hid
                  rw [show m - j = (m - (j + 1)) + 1 from by omega, ref_acc, lim2_one (by omega)]
                have SE : Hid (refE xs m j (s + 1) = refE xs m j s ++ [(ref xs m (m - j) s).1]) := range_map_snoc _ s
                have SW : Hid (refW xs m j (s + 1) = refW xs m j s ++ [(ref xs m (m - j) s).2]) := range_map_snoc _ s
                have hoe' := own_drewN (m := q0) hoe
                have how' := own_drewN (m := q0) how
                clear he3 hw3 hrr
                go_wp2_with (first | (go_at_call 138; refine (l28Size_any _ _ _ _ (by omega)).mono ?_; rintro e w' ⟨rfl, rfl⟩) | (at_builtin; refine wpList_append_int1 rfl (.tmp 108) (.tmp 110) rfl wo.heap.size _ s (refE xs m j s) rfl rfl hoe' (by omega) hb3.size ?_; intro e' w1 hoe1 hbl1 hg1 hat1; have how1 := how'.kept hg1 (.inr hne); have hsz1 := (hb3.trans hbl1).size) | (at_builtin; refine wpList_append_int1 rfl (.tmp 112) (.tmp 114) rfl wo.heap.size _ s (refW xs m j s) rfl rfl how1 (by omega) hsz1 ?_; intro v' w2 how2 hbl2 hg2 hat2))
                have n1 := own_ne how' hne hat1 hsome
                have hoe2 := hoe1.kept hg2 (.inr n1.symm)
                have n2 := own_ne hoe1 n1.symm hat2 (own_some hoe1 (by omega))
                have hb4 := (hb3.trans hbl1).trans hbl2
                clear hg1 hg2 hat1 hat2 n1 hoe1 how1 hbl1 hbl2 hoe' how'
                go_roundw
                case rel => exact ⟨s + 1, by omega, by go_num, by rw [SE.out, ← HX.out]; exact hoe2, by rw [SW.out, ← HX.out]; exact how2, own_some how2 (by omega), n2.symm, hb4⟩
                case measure => simp [intOf]; omega
            · have hl2 : lim2 (m - (j + 1)) = 2 := by have := lim2_bd (m - (j + 1)); omega
              have HL2 := Lib.hid hl2
              clear hl2 hb
              have HX : Hid (accB xs m (m - (j + 1)) s 2 = ref xs m (m - j) s) := by
                unfold Hid
                rw [show m - j = (m - (j + 1)) + 1 from by omega, ref_acc, HL2.out]
              have SE : Hid (refE xs m j (s + 1) = refE xs m j s ++ [(ref xs m (m - j) s).1]) := range_map_snoc _ s
              have SW : Hid (refW xs m j (s + 1) = refW xs m j s ++ [(ref xs m (m - j) s).2]) := range_map_snoc _ s
              have hoe' := own_drewN (m := q0) hoe
              have how' := own_drewN (m := q0) how
              clear he3 hw3 hrr
              go_wp2_with (first | (go_at_call 138; refine (l28Size_any _ _ _ _ (by omega)).mono ?_; rintro e w' ⟨rfl, rfl⟩) | (at_builtin; refine wpList_append_int1 rfl (.tmp 108) (.tmp 110) rfl wo.heap.size _ s (refE xs m j s) rfl rfl hoe' (by omega) hb3.size ?_; intro e' w1 hoe1 hbl1 hg1 hat1; have how1 := how'.kept hg1 (.inr hne); have hsz1 := (hb3.trans hbl1).size) | (at_builtin; refine wpList_append_int1 rfl (.tmp 112) (.tmp 114) rfl wo.heap.size _ s (refW xs m j s) rfl rfl how1 (by omega) hsz1 ?_; intro v' w2 how2 hbl2 hg2 hat2))
              have n1 := own_ne how' hne hat1 hsome
              have hoe2 := hoe1.kept hg2 (.inr n1.symm)
              have n2 := own_ne hoe1 n1.symm hat2 (own_some hoe1 (by omega))
              have hb4 := (hb3.trans hbl1).trans hbl2
              clear hg1 hg2 hat1 hat2 n1 hoe1 how1 hbl1 hbl2 hoe' how'
              go_roundw
              case rel => exact ⟨s + 1, by omega, by go_num, by rw [SE.out, ← HX.out]; exact hoe2, by rw [SW.out, ← HX.out]; exact how2, own_some how2 (by omega), n2.symm, hb4⟩
              case measure => simp [intOf]; omega
        · obtain rfl : s = 4 := by omega
          obtain ⟨a1, k1, rfl, hr1, hB1⟩ := own_rd4 hoe
          obtain ⟨a2, k2, rfl, hr2, hB2⟩ := own_rd4 how
          have hd1' := (hb2.cell (p := ⟨w.heap.size, j, none⟩) (by simp; omega)).trans hd1
          have hd2' := (hb2.cell (p := ⟨w.heap.size + 1, j, none⟩) (by simp; omega)).trans hd2
          have hf1' := (hb2.frozen (p := ⟨w.heap.size, j, none⟩) (by simp; omega)).trans hf1
          have hf2' := (hb2.frozen (p := ⟨w.heap.size + 1, j, none⟩) (by simp; omega)).trans hf2
          have hE1 := ((HE.out.below hb2).set_ (c := k1) (by omega) hr1 (by omega) (by omega)).far (G' := w.heap.size + 1) (t := j) (by omega) (by omega) (.slice (some a2) 4 k2)
          have hr2' : Rd (wr.setCell ⟨w.heap.size, j, none⟩ (.slice (some a1) 4 k1)) (some a2) 4 (ints (refW xs m j 4)) := hr2.keep (fun ad' e _ => by cases e; exact Below.heap_setCell _ _ _ _ (by simp; omega))
          have hW1 := ((HW.out.below hb2).far (G' := w.heap.size) (t := j) (by omega) (by omega) (.slice (some a1) 4 k1)).set_ (c := k2) (by omega) hr2' (by omega) (by omega)
          have hbf := ((bstep hbel hb2 (Nat.le_refl _)).setCell (p := ⟨w.heap.size, j, none⟩) (Nat.le_refl _) (.slice (some a1) 4 k1)).setCell (p := ⟨w.heap.size + 1, j, none⟩) (by simp) (.slice (some a2) 4 k2)
          have hz2 := hb2.size
          clear hd1 hd2 hf1 hf2 hr1 hr2 hr2' hoe how hne hsome he hw
          go_wp2
          go_roundw
          case rel => exact ⟨j, _, by omega, rfl, by go_num, hE1, hW1, hbf, by simp; omega⟩
          case measure => simp [intOf]
end Go.Proofs.Ytlgmdekhlcbhoaa
