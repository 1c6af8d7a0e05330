/- strings.Lines and what it hands out, one line after the other. Condition: a text of at most 1048576 bytes. -/
import Derived.Test.YtoledbicmghmbaaGreatDoorRanB
import Derived.Test.YtoledbicmghmbaaGreatDoorLinM
import Derived.Test.YtoledbicmghmbaaGreatDoorShelfQ
import Derived.Test.YtoledbicmghmbaaGreatDoorStD
import Derived.Shelf.Abstract
import Derived.Shelf.RegionOpen
import Derived.OwnWalkIn
import Derived.TacticsInMore
import Derived.LoopNIn
import Derived.LoopIn
namespace Go.Proofs.YtoledbicmghmbaaGreatDoor
open Go.RowKit Go.Shelf

attribute [local go_sem] Oper.semAt_some

/-- What a round keeps: all blocks below n₀ but one. -/
structure KpB (gb n₀ : Nat) (W W' : World) : Prop where
  size : W.heap.size ≤ W'.heap.size
  block : ∀ b, b < n₀ → b ≠ gb → W'.heap[b]? = W.heap[b]?
section
variable {gb n₀ : Nat} {W W' W1 : World}
theorem KpB.refl (W : World) : KpB gb n₀ W W := ⟨Nat.le_refl _, fun _ _ _ => rfl⟩
theorem KpB.trans (h : KpB gb n₀ W W1) (k : KpB gb n₀ W1 W') : KpB gb n₀ W W' := ⟨Nat.le_trans h.size k.size, fun b h1 h2 => (k.block b h1 h2).trans (h.block b h1 h2)⟩
theorem KpB.put {w : World} (hn : n₀ ≤ w.heap.size) (W : World) (l : Nat) (o o' : Obj) (hl : w.heap.size ≤ l) (_ : W.heap[l]? = some o) (_ : o.isCells = false) (_ : o.isWalk = false) : KpB gb n₀ W (W.putObj l o') :=
  have g := grownBy_putObj' W l o'
  ⟨g.size, fun b h1 _ => by
    rcases Nat.lt_or_ge b W.heap.size with hb | hb
    · exact g.block b hb (fun c => by injection c with c; omega)
    · have h3 : (W.putObj l o').heap.size = W.heap.size := by simp [World.putObj]
      rw [Array.getElem?_eq_none hb, Array.getElem?_eq_none (by omega)]⟩
theorem KpB.blk (h : KpB gb n₀ W W') {g : Nat} {t : TypeId} {cs : Array Value} (b : Blk W g t cs) (h1 : g < n₀) (h2 : g ≠ gb) : Blk W' g t cs := (h.block g h1 h2).trans b
end

set_option maxHeartbeats 1000000 in
theorem lines_any (s : ByteArray) (w : World) :
    Calls Tryz.prog 22 #[.string s] w fun e w' => e = .returned (.func (.func 36) #[] #[.pointer (some ⟨w.heap.size, 0, none⟩)]) ∧ w' = w.alloc (.cells #[.string s] 9) := by
  go_enter Tryz.func22, Tryz.ntmps22
  go_wp2
  go_ret
  exact ⟨rfl, rfl⟩
theorem ext_first (x r : Bs) : (ByteArray.mk (x ++ 10 :: r).toArray).extract 0 (x.length + 1) = ⟨(x ++ [10]).toArray⟩ := by
  rw [ext_piece]
  have e : x ++ 10 :: r = (x ++ [10]) ++ r := by simp
  rw [e]
  congr 2
  have h : x.length + 1 - 0 = (x ++ [10]).length := by simp
  rw [h, List.drop_zero]
  exact List.take_left' rfl
theorem ext_rest (x r : Bs) (n : Nat) (hn : n = x.length + 1 + r.length) : (ByteArray.mk (x ++ 10 :: r).toArray).extract (x.length + 1) n = ⟨r.toArray⟩ := by
  rw [ext_piece]
  have e : x ++ 10 :: r = (x ++ [10]) ++ r := by simp
  rw [e]
  congr 2
  have h : (x ++ [10]).length = x.length + 1 := by simp
  rw [← h, List.drop_left' rfl]
  exact List.take_of_length_le (by simp; omega)

set_option maxRecDepth 100000 in
set_option maxHeartbeats 4000000 in
theorem lines1_in (l Bx gb n₀ : Nat) (s : Bs) (hs : s.length ≤ 1048576) (J Jx : List { j : Nat // j < (linesL s).length } → World → Prop) (hJd : ∀ pre W q, J pre W → J pre (W.drewN q)) (hJs : ∀ pre W v, J pre W → J pre (W.setCell ⟨Bx, 0, none⟩ v))
    (hY : ∀ pre x W, J pre W → pre.length < (linesL s).length → YieldAt Fence.wide 1 Tryz.prog l #[.string ⟨((linesL s)[x.1]'x.2).toArray⟩] W fun e W' =>
      (e = .returned (.bool true) ∧ J (pre ++ [x]) W' ∧ KpB gb n₀ W W') ∨ (e = .returned (.bool false) ∧ Jx (pre ++ [x]) W'))
    (W : World) (hBx : Blk W Bx 9 #[.string ⟨s.toArray⟩]) (hs1 : Bx < n₀) (hs2 : Bx ≠ gb) (h0 : J [] W) :
    CallsIn Fence.wide 2 Tryz.prog 36 #[.func (.yield l) #[] #[], .pointer (some ⟨Bx, 0, none⟩)] W fun e W' => (∃ v, e = .returned v) ∧
      ((∃ ys, ys.map (·.1) = List.range (linesL s).length ∧ J ys W') ∨ (∃ pre, (∃ k, pre.map (·.1) = List.range (k + 1)) ∧ Jx pre W')) := by
  refine callsIn_of_wp Tryz.func36 rfl trivial ?_ rfl
  simp only [Tryz.ntmps36, List.size_toArray, List.length_cons, List.length_nil, Nat.reduceAdd, Nat.reduceSub, Array.replicate_succ, Array.replicate_zero, List.push_toArray, List.append_toArray, List.nil_append, List.cons_append]
  gi_wp2
  gi_loopw [3, 4] (fun _ _ wr => ∃ (k : Nat) (pre : List { j : Nat // j < (linesL s).length }) (r : Bs), k ≤ (linesL s).length ∧ pre.map (·.1) = List.range k ∧ J pre wr ∧ Blk wr Bx 9 #[.string ⟨r.toArray⟩] ∧ (linesL s).drop k = linesL r ∧ r.length ≤ 1048576)
    (fun _ _ wr => match wr.cell? ⟨Bx, 0, none⟩ with | some (.string t) => t.size | _ => 0)
  case atStart => exact ⟨0, [], s, Nat.zero_le _, rfl, h0, hBx, rfl, hs⟩
  case round =>
    obtain ⟨k, pre, r, hk, hpre, hJr, hB, hdr, hrl⟩ := hrel
    have cB : wr.cell? ⟨Bx, 0, none⟩ = some (.string ⟨r.toArray⟩) := hB.cell 0
    have fB : wr.frozen? ⟨Bx, 0, none⟩ = false := hB.frozen 0
    have gB := hB.lt
    by_cases hr0 : r = []
    · subst hr0
      have hkn : k = (linesL s).length := by
        have h := congrArg List.length hdr
        rw [List.length_drop, linesL_nil] at h
        have h2 : ([] : List Bs).length = 0 := rfl
        omega
      have HP : Hid (pre.map (·.1) = List.range (linesL s).length) := hpre.trans (congrArg List.range hkn)
      clear hpre hdr hkn
      gi_wp2
      go_end0
      exact ⟨⟨_, rfl⟩, .inl ⟨_, HP.out, hJr⟩⟩
    · have hrp : 0 < r.length := List.length_pos_iff.2 hr0
      have hrI : (0 : Int) < (r.length : Int) := by omega
      have hpl : pre.length = k := by have := congrArg List.length hpre; simpa using this
      rcases linesL_step r with hn | ⟨x, r', rfl, hn, e⟩
      · have hl1 := linesL_last hn hr0
        rw [hl1] at hdr
        have hlen : k + 1 = (linesL s).length := by
          have h := congrArg List.length hdr
          rw [List.length_drop] at h
          have h2 : [r].length = 1 := rfl
          omega
        have hlt : k < (linesL s).length := by omega
        have hat : (linesL s)[k] = r := by
          have h := List.drop_eq_getElem_cons hlt
          rw [hdr] at h
          exact ((List.cons.inj h).1).symm
        have hix := fun (V : World) => strings_IndexByte ⟨r.toArray⟩ 10 V
        rw [show (ByteArray.mk r.toArray).data.toList = r from rfl, show ((10 : Int).toNat.toUInt8) = 10 from rfl, ix_none hn] at hix
        have HP : Hid ((pre ++ [(⟨k, hlt⟩ : { j : Nat // j < (linesL s).length })]).map (·.1) = List.range (k + 1)) := by show List.map _ _ = _; rw [List.map_append, hpre, List.range_succ]; rfl
        have HD : Hid ((linesL s).drop (k + 1) = linesL []) := by show List.drop _ _ = _; rw [hlen, linesL_nil]; exact List.drop_length
        have hB2 := hB.set_ 0 (.string ⟨#[]⟩)
        have hYk := hY pre ⟨k, hlt⟩ (wr.setCell ⟨Bx, 0, none⟩ (.string ⟨#[]⟩)) (hJs _ _ _ hJr) (by rw [hpl]; exact hlt)
        simp only [hat] at hYk
        obtain ⟨fn, tmps, assign, body, hy, hR⟩ := hYk
        clear hpre hdr hat hl1 hlen hrp hpl
        gi_wp2
        refine ⟨trivial, ?_⟩
        refine (callsIn_wide.2 (hix _)).mono ?_
        rintro e w' ⟨rfl, rfl⟩
        gi_wp2
        refine hR.mono ?_
        rintro e W3 (⟨rfl, hJ3, hk3⟩ | ⟨rfl, hJx3⟩)
        · have hB3 := hk3.blk hB2 hs1 hs2
          have cB3 : W3.cell? ⟨Bx, 0, none⟩ = some (.string ⟨#[]⟩) := hB3.cell 0
          gi_wp2
          go_roundw
          case rel => exact ⟨k + 1, _, [], by omega, HP.out, hJ3, hB3, HD.out, Nat.zero_le _⟩
          case measure => simp [cB3, cB, ByteArray.size]; omega
        · gi_wp2
          refine bodyPost_ret (results_none rfl _ _ _) rfl ?_
          exact ⟨⟨_, rfl⟩, .inr ⟨_, ⟨k, HP.out⟩, hJx3⟩⟩
      · rw [e] at hdr
        have hlt : k < (linesL s).length := by
          have h := congrArg List.length hdr
          rw [List.length_drop] at h
          simp at h
          omega
        have hcons := List.drop_eq_getElem_cons hlt
        rw [hdr] at hcons
        have hat : (linesL s)[k] = x ++ [10] := ((List.cons.inj hcons).1).symm
        have hix := fun (V : World) => strings_IndexByte ⟨(x ++ 10 :: r').toArray⟩ 10 V
        rw [show (ByteArray.mk (x ++ 10 :: r').toArray).data.toList = x ++ 10 :: r' from rfl, show ((10 : Int).toNat.toUInt8) = 10 from rfl, ix_hit r' hn] at hix
        have HP : Hid ((pre ++ [(⟨k, hlt⟩ : { j : Nat // j < (linesL s).length })]).map (·.1) = List.range (k + 1)) := by show List.map _ _ = _; rw [List.map_append, hpre, List.range_succ]; rfl
        have HD : Hid ((linesL s).drop (k + 1) = linesL r') := ((List.cons.inj hcons).2).symm
        have hsz : (x ++ 10 :: r').length = x.length + 1 + r'.length := by simp; omega
        have E1 := ext_first x r'
        have E2 := fun n hn => ext_rest x r' n hn
        have E2 := E2 _ hsz
        have hxl : x.length + 1 ≤ (x ++ 10 :: r').length := by omega
        have u1 : IntKind.i64.wrap ((x.length : Int) + 1) = (x.length : Int) + 1 := IntWalk.i64_in _ (by omega)
        have hxI : (x.length : Int) + 1 ≤ ((x ++ 10 :: r').length : Int) := by omega
        have hx0 : (0 : Int) ≤ (x.length : Int) := by omega
        have hx1 : (0 : Int) ≤ (x.length : Int) + 1 := by omega
        have htn : ((x.length : Int) + 1).toNat = x.length + 1 := by omega
        generalize hrr : x ++ 10 :: r' = rr at *
        have HSZ := Lib.hid hsz
        clear hpre hdr hcons e hrp hsz
        gi_wp2
        refine ⟨trivial, ?_⟩
        refine (callsIn_wide.2 (hix _)).mono ?_
        rintro e w' ⟨rfl, rfl⟩
        gi_wp2
        refine wpIn_wide.2 ?_
        go_region
        have hB2 : Blk (w'.setCell ⟨Bx, 0, none⟩ (.string ⟨r'.toArray⟩)).drew Bx 9 #[.string ⟨r'.toArray⟩] := hB.set_ 0 _
        have hYk := hY pre ⟨k, hlt⟩ (w'.setCell ⟨Bx, 0, none⟩ (.string ⟨r'.toArray⟩)).drew (hJd _ _ 1 (hJs _ _ _ hJr)) (by rw [hpl]; exact hlt)
        simp only [hat] at hYk
        obtain ⟨fn, tmps, assign, body, hy, hR⟩ := hYk
        gi_wp2
        refine hR.mono ?_
        rintro e W3 (⟨rfl, hJ3, hk3⟩ | ⟨rfl, hJx3⟩)
        · have hB3 := hk3.blk hB2 hs1 hs2
          have cB3 : W3.cell? ⟨Bx, 0, none⟩ = some (.string ⟨r'.toArray⟩) := hB3.cell 0
          gi_wp2
          go_roundw
          case rel => exact ⟨k + 1, _, r', by omega, HP.out, hJ3, hB3, HD.out, by have := HSZ.out; omega⟩
          case measure => have := HSZ.out; simp [cB3, cB, ByteArray.size]; omega
        · gi_wp2
          refine bodyPost_ret (results_none rfl _ _ _) rfl ?_
          exact ⟨⟨_, rfl⟩, .inr ⟨_, ⟨k, HP.out⟩, hJx3⟩⟩
end Go.Proofs.YtoledbicmghmbaaGreatDoor
