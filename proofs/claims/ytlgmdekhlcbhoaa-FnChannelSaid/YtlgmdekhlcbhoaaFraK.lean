/- Frames: reading, the program's side. Condition: at most 2000 bits. -/
import Derived.Test.YtlgmdekhlcbhoaaFraJ
import Derived.RangeFuncNested
import Derived.RangeFuncBound
import Derived.RangeFuncCalls
import Derived.RangeFuncLeaves
import Derived.RangeFuncFrom
import Derived.Shelf.Abstract
import Derived.Shelf.RegionOpen
import Derived.OwnWalkIn
import Derived.TacticsInMore
import Derived.LoopNIn
import Derived.LoopIn
namespace Go.Proofs.Ytlgmdekhlcbhoaa
open Go.RowKit Go.Shelf

attribute [local go_sem] Oper.semAt_some

set_option maxHeartbeats 1000000 in
theorem numberOf_any (A : Option Addr) (n c : Nat) (xs : List Int) (w : World) (hn : n ≤ 8) (hr : Rd w A n (ints xs)) (hb : allIn xs 0 1 = true) :
    Calls Try.prog 175 #[.slice A n c] w fun e w' => e = .returned (.int .i64 (numTo xs n)) ∧ w = w' := by
  have HL := Lib.hid hr.len
  have HB := Lib.hid hb
  have HX := Lib.hid (numTo_bd hb)
  clear hb
  go_enter Try.func175, Try.ntmps175
  go_wp2
  go_loop [3, 5, 8] (fun v _ i => ∃ k : Nat, k ≤ n ∧ i = .int .i64 k ∧ v = .int .i64 (numTo xs k)) (fun _ _ i => n - (intOf i).toNat)
  case atStart => exact ⟨0, Nat.zero_le _, rfl, rfl⟩
  case round =>
    obtain ⟨k, hk, rfl, rfl⟩ := hrel
    by_cases hlt : k < n
    · obtain ⟨ad, rfl, hx⟩ := hr.int hlt
      have hb1 := HX.out k
      have hb2 : ((2 ^ k : Nat) : Int) ≤ 128 := by
        match k, (show k < 8 by omega) with
        | 0, _ => decide
        | 1, _ => decide
        | 2, _ => decide
        | 3, _ => decide
        | 4, _ => decide
        | 5, _ => decide
        | 6, _ => decide
        | 7, _ => decide
      have hb3 := getD_bit HB.out k
      have HN : Hid (numTo xs (k + 1) = 2 * numTo xs k + xs.getD k 0) := rfl
      have hltI : (k : Int) < (n : Int) := by omega
      generalize xs.getD k 0 = x at *
      generalize numTo xs k = t at *
      go_wp2
      go_round
      case rel => exact ⟨k + 1, by omega, by go_num, by rw [HN.out]⟩
      case measure => simp [intOf]; omega
    · obtain rfl : k = n := by omega
      go_wp2
      go_ret
      exact ⟨rfl, rfl⟩

set_option maxHeartbeats 1000000 in
theorem chunk_any (A : Option Addr) (n c : Nat) (w : World) :
    Calls Try.prog 174 #[.slice A n c, .int .i64 8] w fun e w' => e = .returned (.func (.func 179) #[] #[.pointer (some ⟨w.heap.size, 0, none⟩), .pointer (some ⟨w.heap.size + 1, 0, none⟩)]) ∧ w' = (w.alloc (.cells #[.slice A n c] 22)).alloc (.cells #[.int .i64 8] 3) := by
  go_enter Try.func174, Try.ntmps174
  go_wp2
  go_ret
  exact ⟨rfl, rfl⟩

/-- What a round keeps: all blocks below n₀ but one. -/
structure KpC (gb n₀ : Nat) (W W' : World) : Prop where
  size : W.heap.size ≤ W'.heap.size
  block : ∀ b, b < n₀ → b ≠ gb → W'.heap[b]? = W.heap[b]?
section
variable {gb n₀ : Nat} {W W' W1 : World}
theorem KpC.refl (W : World) : KpC gb n₀ W W := ⟨Nat.le_refl _, fun _ _ _ => rfl⟩
theorem KpC.trans (h : KpC gb n₀ W W1) (k : KpC gb n₀ W1 W') : KpC gb n₀ W W' := ⟨Nat.le_trans h.size k.size, fun b h1 h2 => (k.block b h1 h2).trans (h.block b h1 h2)⟩
theorem KpC.cell (h : KpC gb n₀ W W') {b o : Nat} (h1 : b < n₀) (h2 : b ≠ gb) : W'.cell? ⟨b, o, none⟩ = W.cell? ⟨b, o, none⟩ := World.cell?_of_block (h.block b h1 h2)
theorem KpC.put {w : World} (hn : n₀ ≤ w.heap.size) (W : World) (l : Nat) (o o' : Obj) (hl : w.heap.size ≤ l) (_ : W.heap[l]? = some o) (_ : o.isCells = false) (_ : o.isWalk = false) : KpC gb n₀ W (W.putObj l o') :=
  have g := grownBy_putObj' W l o'
  ⟨g.size, fun b h1 _ => by
    rcases Nat.lt_or_ge b W.heap.size with hb | hb
    · exact g.block b hb (fun c => by injection c with c; omega)
    · have h2 := g.size
      have h3 : (W.putObj l o').heap.size = W.heap.size := by simp [World.putObj]
      rw [Array.getElem?_eq_none hb, Array.getElem?_eq_none (by omega)]⟩
theorem KpC.rd (h : KpC gb n₀ W W') {A : Option Addr} {n : Nat} {us : List Value} (r : Rd W A n us) (hb : ∀ ad, A = some ad → 0 < n → ad.block < n₀ ∧ ad.block ≠ gb) : Rd W' A n us :=
  r.keep fun ad e hn => h.block _ (hb ad e hn).1 (hb ad e hn).2
end

set_option maxRecDepth 100000 in
set_option maxHeartbeats 4000000 in
/-- The iterator's rounds: the k-th part of 8 of a slice of 8 * m. -/
theorem chunk1_in (l Bs Bn gb n₀ m c : Nat) (ad : Addr) (hm : m ≤ 250) (hc : 8 * m ≤ c) (J Jx : List { j : Nat // j < m } → World → Prop) (hJd : ∀ pre W q, J pre W → J pre (W.drewN q))
    (hY : ∀ pre x W, J pre W → pre.length < m → YieldAt Fence.wide 1 Try.prog l #[.slice (some (ad.add (8 * x.1))) 8 8] W fun e W' =>
      (e = .returned (.bool true) ∧ J (pre ++ [x]) W' ∧ KpC gb n₀ W W') ∨ (e = .returned (.bool false) ∧ Jx (pre ++ [x]) W'))
    (W : World) (hBs : W.cell? ⟨Bs, 0, none⟩ = some (.slice (some ad) (8 * m) c)) (hBn : W.cell? ⟨Bn, 0, none⟩ = some (.int .i64 8)) (hs : Bs < n₀ ∧ Bs ≠ gb) (hn : Bn < n₀ ∧ Bn ≠ gb) (h0 : J [] W) :
    CallsIn Fence.wide 2 Try.prog 179 #[.func (.yield l) #[] #[], .pointer (some ⟨Bs, 0, none⟩), .pointer (some ⟨Bn, 0, none⟩)] W fun e W' => (∃ v, e = .returned v) ∧
      ((∃ ys, ys.map (·.1) = List.range m ∧ J ys W') ∨ (∃ pre, True ∧ Jx pre W')) := by
  have HM := Lib.hid hm
  refine callsIn_of_wp Try.func179 rfl trivial ?_ rfl
  simp only [Try.ntmps179, List.size_toArray, List.length_cons, List.length_nil, Nat.reduceAdd, Nat.reduceSub, Array.replicate_succ, Array.replicate_zero, List.push_toArray, List.append_toArray, List.nil_append, List.cons_append]
  gi_wp2
  gi_loopw [4, 5] (fun i _ wr => ∃ (k : Nat) (pre : List { j : Nat // j < m }), k ≤ m ∧ i = .int .i64 (8 * (k : Int)) ∧ pre.map (·.1) = List.range k ∧ J pre wr ∧ KpC gb n₀ W wr)
    (fun i _ _ => 8 * m - (intOf i).toNat)
  case atStart => exact ⟨0, [], Nat.zero_le _, rfl, rfl, h0, KpC.refl _⟩
  case round =>
    obtain ⟨k, pre, hk, rfl, hpre, hJs, hnx⟩ := hrel
    have hcs := (hnx.cell hs.1 hs.2).trans hBs
    have hcn := (hnx.cell hn.1 hn.2).trans hBn
    have hpl : pre.length = k := by have := congrArg List.length hpre; simpa using this
    by_cases hlt : k < m
    · obtain ⟨fn, tmps, assign, body, hy, hR⟩ := hY _ ⟨k, hlt⟩ wr hJs (by rw [hpl]; exact hlt)
      dsimp only at hy
      have h1 : 8 * (k : Int) < ((8 * m : Nat) : Int) := by omega
      have h2 : (0 : Int) ≤ 8 * (k : Int) := by omega
      have h3 : 8 * (k : Int) ≤ ((8 * m : Nat) : Int) := by omega
      have h4 : (8 * (k : Int)).toNat = 8 * k := by omega
      have h5 : (8 * m - 8 * k : Nat) = 8 * (m - k) := by omega
      have h6 : ¬ ((8 * m : Nat) : Int) - 8 * (k : Int) < 8 := by omega
      gi_wp2
      refine wpIn_wide.2 ?_
      go_quiet (fail)
      obtain ⟨fn, tmps, assign, body, hy, hR⟩ := hY _ ⟨k, hlt⟩ (wr.drewN nq) (hJd _ _ _ hJs) (by rw [hpl]; exact hlt)
      dsimp only at hy
      clear hpl
      gi_wp2
      refine hR.mono ?_
      rintro e W3 (⟨rfl, hJ3, hk3⟩ | ⟨rfl, hJx3⟩)
      · have hk4 : KpC gb n₀ W W3 := hnx.trans ⟨hk3.size, hk3.block⟩
        have hcn3 := (hk4.cell hn.1 hn.2).trans hBn
        have i1 : IntKind.i64.wrap (8 * (k : Int) + 8) = 8 * (k : Int) + 8 := IntWalk.i64_in _ (by omega)
        gi_wp2
        go_roundw
        case rel => exact ⟨k + 1, pre ++ [⟨k, hlt⟩], by omega, (by first | (congr 1; done) | (congr 1; omega)), by rw [List.map_append, hpre, List.range_succ]; rfl, hJ3, hk4⟩
        case measure => simp [intOf]; omega
      · gi_wp2
        refine bodyPost_ret (results_none rfl _ _ _) rfl ?_
        exact ⟨⟨_, rfl⟩, .inr ⟨_, trivial, hJx3⟩⟩
    · obtain rfl : k = m := by omega
      have h1 : ¬ 8 * (k : Int) < ((8 * k : Nat) : Int) := by omega
      gi_wp2
      go_end0
      exact ⟨⟨_, rfl⟩, .inl ⟨_, hpre, hJs⟩⟩

theorem step_append_In {F : Fence} {n : Nat} {P : Program} {o : Oper} {a : Act} {w : World} {K : Act → World → Prop} {Q : Exit → Act → World → Prop} (s x : Operand) (t : TypeId)
    (hop : o.op = Op.call { callee := Callee.builtin Builtin.append, args := #[s, x], argTypes := #[t, t] }) (v u : Value) (hs : a.eval s = v) (hx : a.eval x = u) {v' : Value} {w' : World}
    (hrun : (Builtin.append_ #[t, t] o.type #[v, u]).run P w = .ok v' w') (h : K (a.put o.dst v') w') : Oper.wpIn F n P o a w K Q := by
  unfold Oper.wpIn
  refine ⟨?_, ?_⟩
  · simp [Oper.about, hop, resolve, Target.leads, Sem.run_pure]
  · rw [Oper.semAt_plain F _ _ (by rw [hop]; intro c hc'; cases hc')]
    simp [execOp, hop, resolve, invoke, builtin, hs, hx, hrun, Result.andThen]
    exact h
theorem leaveM_nil {n : Nat} {P : Program} {fn : Func} {R : Ending → World → Prop} {tmps : Array Value} {w : World} {v : Value} (h : (results fn tmps).run P w = .ok v w) (hR : R (.returned v) w) :
    bodyPostM Fence.wide n P fn R .ret { tmps := tmps, defers := [] } w := ⟨v, h, hR⟩

theorem leaveM_mark {n : Nat} {P : Program} {fn : Func} {R : Ending → World → Prop} {tmps : Array Value} {w : World} {D : Nat} (hK : w.heap[D]? = some (.deferred (some []))) {v : Value} (h : (results fn tmps).run P (w.putObj D (.deferred none)) = .ok v (w.putObj D (.deferred none))) (hR : R (.returned v) (w.putObj D (.deferred none))) :
    bodyPostM Fence.wide n P fn R .ret { tmps := tmps, defers := [{ target := .collected D, args := #[] }] } w := ⟨by simp, .inl ⟨D, _, rfl, run_takeDeferred hK, v, h, hR⟩⟩
theorem Blk.kept {w w' : World} {g : Nat} {t : TypeId} {cs : Array Value} {row : Option Nat} (h : Blk w g t cs) (hg : w.grownBy w' row) (hr : ∀ r, row = some r → ∃ o : Obj, w.heap[r]? = some o ∧ o.isCells = false) : Blk w' g t cs :=
  h.grown hg (fun e => by
    obtain ⟨o, ho, hc⟩ := hr _ e
    unfold Blk at h
    rw [h] at ho
    cases ho
    cases hc)
theorem Own.kept {w w' : World} {B K : Nat} {h : Hd} {us : List Value} {row : Option Nat} (o : Own w B K h us) (hg : w.grownBy w' row) (hr : ∀ r, row = some r → ∃ o : Obj, w.heap[r]? = some o ∧ o.isCells = false) : Own w' B K h us :=
  ⟨o.len, o.nc, o.max, o.nil_, fun ad e hc => by
    obtain ⟨h1, h2, h3, h4⟩ := o.at_ ad e hc
    refine ⟨h1, Nat.lt_of_lt_of_le h2 hg.size, h3, fun i hi => ?_⟩
    obtain ⟨⟨v, hv, hu⟩, hf⟩ := h4 i hi
    exact ⟨⟨v, cell_kept hv hg hr, hu⟩, (frozen_kept hv hg hr).trans hf⟩⟩
theorem numTo_take (xs : List Int) (j : Nat) : ∀ k, k ≤ j → numTo (xs.take j) k = numTo xs k
  | 0, _ => rfl
  | k + 1, h => by
    show 2 * numTo (xs.take j) k + (xs.take j).getD k 0 = 2 * numTo xs k + xs.getD k 0
    rw [numTo_take xs j k (by omega)]
    simp [List.getElem?_take, show k < j by omega]

set_option maxRecDepth 100000 in
set_option maxHeartbeats 8000000 in
theorem readFrame_any (A : Option Addr) (n c : Nat) (bits : List Int) (w : World) (hn : n ≤ 2000) (hc : n ≤ c) (hr : Rd w A n (ints bits)) (hb : allIn bits 0 1 = true) :
    Calls Try.prog 153 #[.slice A n c] w (ReadPost bits w) := by
  have HL := Lib.hid hr.len
  have HB := Lib.hid hb
  clear hb
  have b0 : Below w.heap.size w (w.alloc (.cells #[.int .i64 0, .int .i64 0, .slice none 0 0] 28)) := (Below.refl _ _).alloc (Nat.le_refl _) _
  have B0 := Blk.new w 28 #[.int .i64 0, .int .i64 0, .slice none 0 0]
  have R0 := hr.below b0
  clear hr
  by_cases h16 : n < 16
  · have HF : Hid (readOk bits = false) := readOk_short (by rw [HL.out]; exact h16)
    refine (callsIn_wide (n := 3)).1 ?_
    refine callsIn_of_wp_marks Try.func153 rfl trivial ?_ rfl
    simp only [Try.ntmps153, List.size_toArray, List.length_cons, List.length_nil, Nat.reduceAdd, Nat.reduceSub, Array.replicate_succ, Array.replicate_zero, List.push_toArray, List.append_toArray, List.nil_append, List.cons_append]
    refine wpIn_wide.2 ?_
    go_wp2
    refine leaveM_nil (v := .tuple #[.agg #[.int .i64 0, .int .i64 0, .slice none 0 0], .bool false]) (by simp [results, Try.results153, go_sem]) (ReadPost.no HF.out ?_)
    exact b0
  have h16b : 16 ≤ n := by omega
  have h16c : ¬ (n : Int) < 16 := by omega
  have w8 : IntKind.i64.wrap ((n : Int) - 8) = (n : Int) - 8 := IntWalk.i64_in _ (by omega)
  clear h16
  have h0 : (0 : Int) ≤ (n : Int) - 8 := by omega
  have h8 : (8 : Int) ≤ (n : Int) - 8 := by omega
  have h9 : (n : Int) - 8 ≤ (c : Int) := by omega
  have ht : ((n : Int) - 8).toNat = n - 8 := by omega
  have hc8 : ¬ c = 8 := by omega
  have HMB : Hid (allIn (midL bits) 0 1 = true) := midL_bits HB.out
  refine (callsIn_wide (n := 3)).1 ?_
  refine callsIn_of_wp_marks Try.func153 rfl trivial ?_ rfl
  simp only [Try.ntmps153, List.size_toArray, List.length_cons, List.length_nil, Nat.reduceAdd, Nat.reduceSub, Array.replicate_succ, Array.replicate_zero, List.push_toArray, List.append_toArray, List.nil_append, List.cons_append]
  refine wpIn_wide.2 ?_
  go_wp2_with fail
  generalize w.alloc (.cells #[.int .i64 0, .int .i64 0, .slice none 0 0] 28) = w0 at b0 B0 R0 ⊢
  have RM : Rd w0 (A.map (·.add 8)) (n - 16) (ints (midL bits)) := by
    have := R0.part (k := 8) (m := n - 16) (by omega)
    unfold midL; rw [HL.out]; exact this
  refine (unstuff_any (A.map (·.add 8)) (n - 16) (c - 8) (midL bits) _ (by omega) RM HMB.out).mono ?_
  rintro e w3 ⟨⟨UA, un, uc⟩, rfl, OU, bb⟩
  have B3 := B0.below bb B0.lt
  have R3 := R0.below bb
  have b3 := bnext b0 bb
  have RU := OU.rd1
  have hnc := OU.nc
  have hmx := OU.capm.2
  simp only at RU hnc hmx
  have HU1 : Hid (readG bits = groups (innU bits) ((innU bits).length / 8)) := rfl
  have HUL : Hid ((innU bits).length = un) := RU.len
  have HUB : Hid (allIn (innU bits) 0 1 = true) := unR_bits HMB.out
  have RU : Rd w3 UA un (ints (innU bits)) := RU
  have hun : un ≤ 2000 := by
    have h1 := unR_len (midL bits)
    have h2 : (innU bits).length = (unR (midL bits)).1.length := rfl
    have h3 := RM.len
    have := HUL.out; omega
  clear bb b0 B0 R0 OU RM HMB
  rcases Bool.eq_false_or_eq_true (unR (midL bits)).2 with f1 | f1
  case inr =>
    have HF : Hid (readOk bits = false) := readOk_un f1
    rw [f1]
    clear f1
    have d3 := fun o => B3.cell o
    have e3 := fun o => B3.frozen o
    have p3 := B3.lt
    go_wp2
    refine leaveM_nil (v := .tuple #[.agg #[.int .i64 0, .int .i64 0, .slice none 0 0], .bool false]) (by simp [results, Try.results153, go_sem, d3]) (ReadPost.no HF.out ?_)
    exact ((b3.setCell (p := ⟨w.heap.size, 0, none⟩) (Nat.le_refl _) _).setCell (p := ⟨w.heap.size, 1, none⟩) (Nat.le_refl _) _).setCell (p := ⟨w.heap.size, 2, none⟩) (Nat.le_refl _) _
  have HGO : Hid ((innU bits).length % 8 = 0 → 32 ≤ (innU bits).length → readOk bits = (frOkC (readF bits) && decide (frameC (readF bits) = bits))) := readOk_go (by rw [HL.out]; exact h16b) f1
  rw [f1]
  clear f1
  have hmod : Int.tmod (un : Int) 8 = ((un % 8 : Nat) : Int) := by rw [Int.tmod_eq_emod_of_nonneg (by omega)]; omega
  by_cases hm8 : un % 8 = 0
  case neg =>
    have HF : Hid (readOk bits = false) := readOk_mod (by rw [HUL.out]; exact hm8)
    generalize un % 8 = r8 at *
    have hr8 : ¬ (r8 : Int) = 0 := by omega
    have hr8b : ((r8 : Int) == 0) = false := by simpa using hm8
    have hr8c : ((r8 : Int) != 0) = true := by simpa using hm8
    have d3 := fun o => B3.cell o
    have e3 := fun o => B3.frozen o
    have p3 := B3.lt
    go_wp2
    refine leaveM_nil (v := .tuple #[.agg #[.int .i64 0, .int .i64 0, .slice none 0 0], .bool false]) (by simp [results, Try.results153, go_sem, d3]) (ReadPost.no HF.out ?_)
    exact ((b3.setCell (p := ⟨w.heap.size, 0, none⟩) (Nat.le_refl _) _).setCell (p := ⟨w.heap.size, 1, none⟩) (Nat.le_refl _) _).setCell (p := ⟨w.heap.size, 2, none⟩) (Nat.le_refl _) _
  rw [hm8] at hmod
  by_cases h32 : un < 32
  · have HF : Hid (readOk bits = false) := readOk_len (by rw [HUL.out]; exact h32)
    have h32I : (un : Int) < 32 := by omega
    have d3 := fun o => B3.cell o
    have e3 := fun o => B3.frozen o
    have p3 := B3.lt
    go_wp2
    refine leaveM_nil (v := .tuple #[.agg #[.int .i64 0, .int .i64 0, .slice none 0 0], .bool false]) (by simp [results, Try.results153, go_sem, d3]) (ReadPost.no HF.out ?_)
    exact ((b3.setCell (p := ⟨w.heap.size, 0, none⟩) (Nat.le_refl _) _).setCell (p := ⟨w.heap.size, 1, none⟩) (Nat.le_refl _) _).setCell (p := ⟨w.heap.size, 2, none⟩) (Nat.le_refl _) _
  have HOK := Lib.hid (HGO.out (by rw [HUL.out]; exact hm8) (by rw [HUL.out]; omega))
  have h32I : ¬ (un : Int) < 32 := by omega
  obtain ⟨m, rfl⟩ : ∃ m, un = 8 * m := ⟨un / 8, by omega⟩
  have HG : Hid (readG bits = groups (innU bits) m) := by unfold Hid; rw [HU1.out, HUL.out, Nat.mul_div_cancel_left _ (by decide)]
  have hm4 : 4 ≤ m ∧ m ≤ 250 := by omega
  clear hm8 HGO HU1 h32 hun
  generalize innU bits = us at *
  obtain ⟨ud, rfl, hu0⟩ := RU.int (show 0 < 8 * m by omega)
  clear hu0 h0 h8 h9 ht hc8 w8
  go_wp2_with fail
  have BG := Blk.new w3 22 #[.slice none 0 0]
  have hz4 : (w3.alloc (.cells #[.slice none 0 0] 22)).heap.size = w3.heap.size + 1 := World.size_alloc _ _
  have b4 : Below w3.heap.size w3 (w3.alloc (.cells #[.slice none 0 0] 22)) := (Below.refl _ _).alloc (Nat.le_refl _) _
  generalize w3.alloc (.cells #[.slice none 0 0] 22) = w4 at BG hz4 b4 ⊢
  refine (chunk_any (some ud) (8 * m) uc _).mono ?_
  rintro e w' ⟨rfl, rfl⟩
  have BS := (Blk.new w4 22 #[.slice (some ud) (8 * m) uc]).alloc (.cells #[.int .i64 8] 3)
  have BN := Blk.new (w4.alloc (.cells #[.slice (some ud) (8 * m) uc] 22)) 3 #[.int .i64 8]
  rw [World.size_alloc] at BN
  have BG2 := (BG.alloc (.cells #[.slice (some ud) (8 * m) uc] 22)).alloc (.cells #[.int .i64 8] 3)
  have b6 : Below w4.heap.size w4 ((w4.alloc (.cells #[.slice (some ud) (8 * m) uc] 22)).alloc (.cells #[.int .i64 8] 3)) := ((Below.refl _ _).alloc (Nat.le_refl _) _).alloc (by simp) _
  have hz6 : ((w4.alloc (.cells #[.slice (some ud) (8 * m) uc] 22)).alloc (.cells #[.int .i64 8] 3)).heap.size = w3.heap.size + 3 := by rw [World.size_alloc, World.size_alloc, hz4]
  go_wp2_with fail
  generalize (w4.alloc (.cells #[.slice (some ud) (8 * m) uc] 22)).alloc (.cells #[.int .i64 8] 3) = w6 at BS BN BG2 b6 hz6 ⊢
  have hub : ud.block < w3.heap.size := RU.lt rfl (by omega)
  have b36 : Below w3.heap.size w3 w6 := bnext b4 b6
  have RU6 : Rd w6 (some ud) (8 * m) (ints us) := RU.below b36
  have HBG : Hid (∀ ys : List { j : Nat // j < m }, ys.map (·.1) = List.range m → ys.map (fun x => groupN us x.1) = groups us m) := fun ys h => by
    unfold groups; rw [← h, List.map_map]; rfl
  rw [hz4] at BS BN
  refine (wpIn_wide (n := 3)).1 ?_
  refine' wpIn_rangeFunc_ownF (F := Fence.wide) (n := 3) rfl (by decide) (gf := 179) (lb := #[.pointer (some ⟨w3.heap.size + 1, 0, none⟩), .pointer (some ⟨w3.heap.size + 1 + 1, 0, none⟩)]) rfl trivial (enters_of Try.func179 (by kernel_rfl) rfl) (encs := fun x : { j : Nat // j < m } => #[.slice (some (ud.add (8 * x.1))) 8 8])
    (Kp := KpC w3.heap.size w6.heap.size) (S := fun ys => ys.map (·.1) = List.range m) (Sp := fun _ => True) (N := m) (w0 := w6) ?hseq (fun h k => h.trans k) (fun W l o o' => KpC.put (Nat.le_refl _) W l o o') (Below.refl _ _) (fun _ => rfl)
    (fun pre W => ((∃ hb : Hd, Blk W w3.heap.size 22 #[.slice hb.A hb.n hb.c] ∧ Own W w6.heap.size 1 hb (ints (pre.map fun x => groupN us x.1)) ∧ hb.n = pre.length) ∧ KpC w3.heap.size w6.heap.size w6 W) ∧ Below w3.heap.size w3 W)
    (fun _ _ _ => False) ?hI (fun _ _ _ _ _ hs _ _ => hs) ?h0 _ ?assign ?body ?done ?stop
  case hseq =>
    intro l J Jx W hW hJ _ hY h0
    refine chunk1_in l (w3.heap.size + 1) (w3.heap.size + 1 + 1) w3.heap.size w6.heap.size m uc ud hm4.2 hnc J Jx (fun pre V q h => hJ pre V (V.drewN q) none h ⟨rfl, rfl, rfl, Nat.le_refl _, fun _ _ _ => rfl⟩ (fun r e => by cases e)) hY W ?_ ?_ ⟨by omega, by omega⟩ ⟨by omega, by omega⟩ h0 |>.mono ?_
    · exact (BS.below hW (by omega)).cell 0
    · exact (BN.below hW (by omega)).cell 0
    · intro e W' h; exact h
  case hI =>
    rintro pre V V' row ⟨⟨⟨hb, BX, OX, e⟩, k⟩, b⟩ hg hr
    have hr' : ∀ r, row = some r → ∃ o : Obj, V.heap[r]? = some o ∧ o.isCells = false := fun r e => (hr r e).2
    exact ⟨⟨⟨hb, BX.kept hg hr', OX.kept hg hr', e⟩, k.trans ⟨hg.size, fun c h1 _ => hg.block c (Nat.lt_of_lt_of_le h1 k.size) (fun e => by have := (hr c e.symm).1; omega)⟩⟩, b.grown hg (Nat.le_trans b36.size k.size) (fun c e => by have := (hr c e).1; omega)⟩
  case h0 => exact ⟨⟨⟨⟨none, 0, 0⟩, BG2, Own.nil _ _ _, rfl⟩, KpC.refl _⟩, b36⟩
  case assign =>
    intro l x W K hK
    gi_wp2
    exact hK
  case body =>
    rintro l pre x W ⟨⟨⟨⟨bA, bn, bc⟩, BX, OX, hbn⟩, hK⟩, hB⟩ hlt
    simp only at BX hbn
    subst hbn
    have hgs := BX.lt
    have cX := BX.cell 0
    have fX := BX.frozen 0
    have RX : Rd W (some ud) (8 * m) (ints us) := hK.rd RU6 (fun ad e _ => by cases e; exact ⟨by omega, by omega⟩)
    have hx8 : 8 * x.1 + 8 ≤ 8 * m := by have := x.2; omega
    have RPX : Rd W.drew (some (ud.add (8 * x.1))) 8 (ints ((us.drop (8 * x.1)).take 8)) := RX.part (k := 8 * x.1) (m := 8) hx8
    have hbitx : allIn ((us.drop (8 * x.1)).take 8) 0 1 = true := by
      have h := drop_bits HUB.out (8 * x.1)
      unfold allIn at *
      rw [List.all_eq_true] at *
      exact fun y hy => h y (List.mem_of_mem_take hy)
    have HNU := numberOf_any (some (ud.add (8 * x.1))) 8 8 _ W.drew (Nat.le_refl _) RPX hbitx
    rw [numTo_take _ _ _ (Nat.le_refl _)] at HNU
    rw [show numTo (us.drop (8 * x.1)) 8 = groupN us x.1 from rfl] at HNU
    obtain ⟨v, hv⟩ : ∃ v, groupN us x.1 = v := ⟨_, rfl⟩
    rw [hv] at HNU
    have HVV := Lib.hid hv
    clear hv
    have cXa : ∀ o : Obj, (W.alloc o).cell? ⟨w3.heap.size, 0, none⟩ = some (.slice bA pre.length bc) := fun o => (BX.alloc o).cell 0
    have bW1 : Below W.heap.size W (W.alloc (.cells #[.int .i64 v] 2)).drew := Below.drew ((Below.refl _ _).alloc (Nat.le_refl _) _)
    have RW1 : Rd (W.alloc (.cells #[.int .i64 v] 2)).drew (some ⟨W.heap.size, 0, none⟩) (1 * 1) (ints [v]) := rd_one W v 2
    obtain ⟨i0, hi0, hz0, hz1, hz2⟩ := info_parts int64_info
    have hpm : pre.length < m := hlt
    obtain ⟨⟨kA, kn, kc⟩, w2, hrun, hk2, O2, gg, -⟩ := run_append_Own (P := Try.prog) (W.alloc (.cells #[.int .i64 v] 2)).drew 22 22 2 i0 _ 1 8 Try.underlying22 hi0 hz0 hz1 hz2 rfl (by decide) w6.heap.size ⟨bA, pre.length, bc⟩ _ (OX.below bW1) (some ⟨W.heap.size, 0, none⟩) 1 1 (ints [v]) RW1 (oneCell_ints _) (by unfold maxLen; simp only; omega) (by simp only; omega) (Nat.le_trans hK.size bW1.size)
    have hk2 : kn = pre.length + 1 := hk2
    subst hk2
    have hrowX : ∀ b, (⟨bA, pre.length, bc⟩ : Hd).row = some b → w6.heap.size ≤ b ∧ b < W.heap.size := fun b e => OX.rowlt b e
    have B2 := ((BX.alloc (.cells #[.int .i64 v] 2)).drewN 1).grown gg (fun e => by have := hrowX _ e; omega)
    have c2 := B2.cell 0
    have f2 := B2.frozen 0
    have HW2 : Hid (KeepsOthers W (w2.setCell ⟨w3.heap.size, 0, none⟩ (.slice kA (pre.length + 1) kc)) ∧ KpC w3.heap.size w6.heap.size W (w2.setCell ⟨w3.heap.size, 0, none⟩ (.slice kA (pre.length + 1) kc)) ∧
        (((∃ hb : Hd, Blk (w2.setCell ⟨w3.heap.size, 0, none⟩ (.slice kA (pre.length + 1) kc)) w3.heap.size 22 #[.slice hb.A hb.n hb.c] ∧ Own (w2.setCell ⟨w3.heap.size, 0, none⟩ (.slice kA (pre.length + 1) kc)) w6.heap.size 1 hb (ints ((pre ++ [x]).map fun x => groupN us x.1)) ∧ hb.n = (pre ++ [x]).length) ∧ KpC w3.heap.size w6.heap.size w6 (w2.setCell ⟨w3.heap.size, 0, none⟩ (.slice kA (pre.length + 1) kc))) ∧ Below w3.heap.size w3 (w2.setCell ⟨w3.heap.size, 0, none⟩ (.slice kA (pre.length + 1) kc)))) := by
      have hsz1 : W.heap.size ≤ w2.heap.size := Nat.le_trans bW1.size gg.size
      have kk : KpC w3.heap.size w6.heap.size W w2 := ⟨hsz1, fun b h1 h2 => (gg.block b (by have := bW1.size; have := hK.size; omega) (fun e => by have := hrowX _ e.symm; omega)).trans (bW1.block b (by have := hK.size; omega))⟩
      have kk2 : KpC w3.heap.size w6.heap.size W (w2.setCell ⟨w3.heap.size, 0, none⟩ (.slice kA (pre.length + 1) kc)) := ⟨by simpa [World.setCell] using hsz1, fun b h1 h2 => (Below.heap_setCell _ _ _ _ (by simp only; omega)).trans (kk.block b h1 h2)⟩
      refine ⟨?_, kk2, ⟨⟨⟨kA, pre.length + 1, kc⟩, B2.set_ 0 _, ?_, ?_⟩, hK.trans kk2⟩, ?_⟩
      · refine KeepsOthers.trans (KeepsOthers.trans (KeepsOthers.alloc W (.cells #[.int .i64 v] 2)) (KeepsOthers.of_grownBy (W := W.alloc (.cells #[.int .i64 v] 2)) ⟨gg.os, gg.tape, gg.output, gg.size, gg.block⟩ ?_)) (KeepsOthers.setCell _ _ _)
        intro j o e ho
        obtain ⟨hc0, ad, hA, rfl⟩ := Hd.row_some e
        obtain ⟨_, _, _, h4⟩ := (OX.below bW1).at_ ad hA hc0
        obtain ⟨⟨u, hu, _⟩, _⟩ := h4 0 (by omega)
        obtain ⟨o', ho', hcc⟩ := cells_of_cell hu
        rw [block_of_add] at ho'
        have : o = o' := Option.some.inj (ho.symm.trans ho')
        rw [this]; exact hcc
      · rw [List.map_append, ints_append, List.map_cons, List.map_nil, HVV.out]; exact O2.far1 (fun e => by have := (O2.rowlt _ e).1; simp only at this; omega) _
      · simp
      · exact ((bstepg ((hB.trans ((Below.drew ((Below.refl w3.heap.size W).alloc hB.size _)) : Below w3.heap.size W (W.alloc (.cells #[.int .i64 v] 2)).drew))) gg (Nat.le_refl _) (fun b e => by have := hrowX _ e; have := b36.size; omega))).setCell (Nat.le_refl _) _
    clear OX RX RPX hbitx O2 gg RW1 bW1 B2 BX
    gi_wp2
    refine wpIn_region_any (by kernel_rfl) ?_
    change wpAnyIn _ _ _ _ _ _ _ _ _ (World.drew _)
    refine wpAnyIn_ready (rs := [0, 1]) (by kernel_rfl) (by simp) ?_
    refine AllReadyIn.cons rfl (fun K hK => ?_) ?_
    · go_simp
      refine hK _ _ ?_
      clear hK K
      try simp only [Act.put, List.setIfInBounds_toArray, List.set_cons_zero, List.set_cons_succ]
      refine wpAnyIn_ready (rs := [1]) (by kernel_rfl) (by simp) ?_
      refine AllReadyIn.cons rfl (fun K hK => ?_) ?_
      · go_simp
        refine hK _ _ ?_
        clear hK K
        try simp only [Act.put, List.setIfInBounds_toArray, List.set_cons_zero, List.set_cons_succ]
        refine wpAnyIn_ready (rs := [2]) (by kernel_rfl) (by simp) ?_
        refine AllReadyIn.cons rfl (fun K hK => ?_) ?_
        · go_simp
          first
            | (refine ⟨trivial, ?_⟩; gi_at_call 175; refine (CallsIn.inRound l (callsIn_wide.2 HNU)).mono ?_; rintro e w' ⟨rfl, rfl⟩)
            | (refine ⟨trivial, fun _ => by omega, ?_⟩; gi_at_call 175; refine (CallsIn.inRound l (callsIn_wide.2 HNU)).mono ?_; rintro e w' ⟨rfl, rfl⟩)
          refine hK _ _ ?_
          clear hK K
          try simp only [Act.put, List.setIfInBounds_toArray, List.set_cons_zero, List.set_cons_succ]
          refine wpAnyIn_ready (rs := [3]) (by kernel_rfl) (by simp) ?_
          refine AllReadyIn.cons rfl (fun K hK => ?_) ?_
          · go_simp
            refine hK _ _ ?_
            clear hK K
            try simp only [Act.put, List.setIfInBounds_toArray, List.set_cons_zero, List.set_cons_succ]
            refine wpAnyIn_ready (rs := [4]) (by kernel_rfl) (by simp) ?_
            refine AllReadyIn.cons rfl (fun K hK => ?_) ?_
            · refine step_append_In _ _ 22 rfl _ _ (by rfl) (by rfl) hrun ?_
              refine hK _ _ ?_
              clear hK K
              try simp only [Act.put, List.setIfInBounds_toArray, List.set_cons_zero, List.set_cons_succ]
              refine wpAnyIn_ready (rs := [5]) (by kernel_rfl) (by simp) ?_
              refine AllReadyIn.cons rfl (fun K hK => ?_) ?_
              · go_simp
                refine hK _ _ ?_
                clear hK K
                try simp only [Act.put, List.setIfInBounds_toArray, List.set_cons_zero, List.set_cons_succ]
                refine wpAnyIn_done (by kernel_rfl) ?_ _
                gi_wp2
                exact HW2.out
              exact AllReadyIn.nil
            exact AllReadyIn.nil
          exact AllReadyIn.nil
        exact AllReadyIn.nil
      exact AllReadyIn.nil
    refine AllReadyIn.cons rfl (fun K hK => ?_) ?_
    · go_simp
      refine hK _ _ ?_
      clear hK K
      try simp only [Act.put, List.setIfInBounds_toArray, List.set_cons_zero, List.set_cons_succ]
      refine wpAnyIn_ready (rs := [0, 2]) (by kernel_rfl) (by simp) ?_
      refine AllReadyIn.cons rfl (fun K hK => ?_) ?_
      · go_simp
        refine hK _ _ ?_
        clear hK K
        try simp only [Act.put, List.setIfInBounds_toArray, List.set_cons_zero, List.set_cons_succ]
        refine wpAnyIn_ready (rs := [2]) (by kernel_rfl) (by simp) ?_
        refine AllReadyIn.cons rfl (fun K hK => ?_) ?_
        · go_simp
          first
            | (refine ⟨trivial, ?_⟩; gi_at_call 175; refine (CallsIn.inRound l (callsIn_wide.2 HNU)).mono ?_; rintro e w' ⟨rfl, rfl⟩)
            | (refine ⟨trivial, fun _ => by omega, ?_⟩; gi_at_call 175; refine (CallsIn.inRound l (callsIn_wide.2 HNU)).mono ?_; rintro e w' ⟨rfl, rfl⟩)
          refine hK _ _ ?_
          clear hK K
          try simp only [Act.put, List.setIfInBounds_toArray, List.set_cons_zero, List.set_cons_succ]
          refine wpAnyIn_ready (rs := [3]) (by kernel_rfl) (by simp) ?_
          refine AllReadyIn.cons rfl (fun K hK => ?_) ?_
          · go_simp
            refine hK _ _ ?_
            clear hK K
            try simp only [Act.put, List.setIfInBounds_toArray, List.set_cons_zero, List.set_cons_succ]
            refine wpAnyIn_ready (rs := [4]) (by kernel_rfl) (by simp) ?_
            refine AllReadyIn.cons rfl (fun K hK => ?_) ?_
            · refine step_append_In _ _ 22 rfl _ _ (by rfl) (by rfl) hrun ?_
              refine hK _ _ ?_
              clear hK K
              try simp only [Act.put, List.setIfInBounds_toArray, List.set_cons_zero, List.set_cons_succ]
              refine wpAnyIn_ready (rs := [5]) (by kernel_rfl) (by simp) ?_
              refine AllReadyIn.cons rfl (fun K hK => ?_) ?_
              · go_simp
                refine hK _ _ ?_
                clear hK K
                try simp only [Act.put, List.setIfInBounds_toArray, List.set_cons_zero, List.set_cons_succ]
                refine wpAnyIn_done (by kernel_rfl) ?_ _
                gi_wp2
                exact HW2.out
              exact AllReadyIn.nil
            exact AllReadyIn.nil
          exact AllReadyIn.nil
        exact AllReadyIn.nil
      refine AllReadyIn.cons rfl (fun K hK => ?_) ?_
      · go_simp
        first
          | (refine ⟨trivial, ?_⟩; gi_at_call 175; refine (CallsIn.inRound l (callsIn_wide.2 HNU)).mono ?_; rintro e w' ⟨rfl, rfl⟩)
          | (refine ⟨trivial, fun _ => by omega, ?_⟩; gi_at_call 175; refine (CallsIn.inRound l (callsIn_wide.2 HNU)).mono ?_; rintro e w' ⟨rfl, rfl⟩)
        refine hK _ _ ?_
        clear hK K
        try simp only [Act.put, List.setIfInBounds_toArray, List.set_cons_zero, List.set_cons_succ]
        refine wpAnyIn_ready (rs := [0, 3]) (by kernel_rfl) (by simp) ?_
        refine AllReadyIn.cons rfl (fun K hK => ?_) ?_
        · go_simp
          refine hK _ _ ?_
          clear hK K
          try simp only [Act.put, List.setIfInBounds_toArray, List.set_cons_zero, List.set_cons_succ]
          refine wpAnyIn_ready (rs := [3]) (by kernel_rfl) (by simp) ?_
          refine AllReadyIn.cons rfl (fun K hK => ?_) ?_
          · go_simp
            refine hK _ _ ?_
            clear hK K
            try simp only [Act.put, List.setIfInBounds_toArray, List.set_cons_zero, List.set_cons_succ]
            refine wpAnyIn_ready (rs := [4]) (by kernel_rfl) (by simp) ?_
            refine AllReadyIn.cons rfl (fun K hK => ?_) ?_
            · refine step_append_In _ _ 22 rfl _ _ (by rfl) (by rfl) hrun ?_
              refine hK _ _ ?_
              clear hK K
              try simp only [Act.put, List.setIfInBounds_toArray, List.set_cons_zero, List.set_cons_succ]
              refine wpAnyIn_ready (rs := [5]) (by kernel_rfl) (by simp) ?_
              refine AllReadyIn.cons rfl (fun K hK => ?_) ?_
              · go_simp
                refine hK _ _ ?_
                clear hK K
                try simp only [Act.put, List.setIfInBounds_toArray, List.set_cons_zero, List.set_cons_succ]
                refine wpAnyIn_done (by kernel_rfl) ?_ _
                gi_wp2
                exact HW2.out
              exact AllReadyIn.nil
            exact AllReadyIn.nil
          exact AllReadyIn.nil
        refine AllReadyIn.cons rfl (fun K hK => ?_) ?_
        · go_simp
          refine hK _ _ ?_
          clear hK K
          try simp only [Act.put, List.setIfInBounds_toArray, List.set_cons_zero, List.set_cons_succ]
          refine wpAnyIn_ready (rs := [0]) (by kernel_rfl) (by simp) ?_
          refine AllReadyIn.cons rfl (fun K hK => ?_) ?_
          · go_simp
            refine hK _ _ ?_
            clear hK K
            try simp only [Act.put, List.setIfInBounds_toArray, List.set_cons_zero, List.set_cons_succ]
            refine wpAnyIn_ready (rs := [4]) (by kernel_rfl) (by simp) ?_
            refine AllReadyIn.cons rfl (fun K hK => ?_) ?_
            · refine step_append_In _ _ 22 rfl _ _ (by rfl) (by rfl) hrun ?_
              refine hK _ _ ?_
              clear hK K
              try simp only [Act.put, List.setIfInBounds_toArray, List.set_cons_zero, List.set_cons_succ]
              refine wpAnyIn_ready (rs := [5]) (by kernel_rfl) (by simp) ?_
              refine AllReadyIn.cons rfl (fun K hK => ?_) ?_
              · go_simp
                refine hK _ _ ?_
                clear hK K
                try simp only [Act.put, List.setIfInBounds_toArray, List.set_cons_zero, List.set_cons_succ]
                refine wpAnyIn_done (by kernel_rfl) ?_ _
                gi_wp2
                exact HW2.out
              exact AllReadyIn.nil
            exact AllReadyIn.nil
          exact AllReadyIn.nil
        exact AllReadyIn.nil
      exact AllReadyIn.nil
    exact AllReadyIn.nil
  case done =>
    rintro D ys W hD hys ⟨⟨⟨⟨bA, bn, bc⟩, BX, OX, hbn⟩, hK⟩, hB⟩ hDK
    rw [HBG.out ys hys, ← HG.out] at OX
    have hbm : bn = m := by have h := congrArg List.length hys; simp at h; simp only at hbn; omega
    subst hbm
    have hDlt : D < W.heap.size := (Array.getElem?_eq_some_iff.1 hDK).1
    have hDw : w6.heap.size ≤ D := hD
    have hw36 : w3.heap.size < w6.heap.size := by omega
    have B5 := B3.below hB B3.lt
    have R5 := R3.below hB
    have b5 := bnext b3 hB
    have hw3 : w.heap.size < w3.heap.size := B3.lt
    simp only at BX
    clear hbn hys HBG BS BN BG2 b6 hz6 hz4 BG b4 hub b36 RU6 RU hK hB B3 R3 b3 HG HUL HUB
    have HYL : Hid ((readG bits).length = bn) := OX.rd1.len
    have hfY : Hid (readF bits = ⟨(readG bits).getD 0 0, (readG bits).getD 1 0, ((readG bits).drop 2).take (bn - 4)⟩) := by unfold Hid readF; rw [HYL.out]
    have RB := OX.rd1
    have hnc := OX.nc
    have hmx := OX.capm.2
    simp only at RB hnc hmx
    generalize readG bits = ys at *
    obtain ⟨ad, rfl, hy0⟩ := RB.int (show 0 < bn by omega)
    have hy1 : W.cell? (ad.add 1) = some (.int .i64 (ys.getD 1 0)) := by
      obtain ⟨_, ⟨⟩, h⟩ := RB.int (show 1 < bn by omega); exact h
    rw [Addr.add_zero'] at hy0
    have ha1 : ad.add 1 = ⟨ad.block, ad.off + 1, none⟩ := by simp [Addr.add]
    have ha2 : ad.add 2 = ⟨ad.block, ad.off + 2, none⟩ := by simp [Addr.add]
    rw [ha1] at hy1
    have RP : Rd W (some (ad.add 2)) (bn - 4) (ints ((ys.drop 2).take (bn - 4))) := RB.part (k := 2) (m := bn - 4) (by omega)
    rw [ha2] at RP
    have RP : Rd W.drew (some ⟨ad.block, ad.off + 2, none⟩) (bn - 4) (ints ((ys.drop 2).take (bn - 4))) := RP
    have hblt : ad.block < W.heap.size := RB.lt rfl (by omega)
    clear ha1 ha2 OX HYL
    have hN0 : 0 < bn := by omega
    have hI0 : (0 : Int) < (bn : Int) := by omega
    have hI1 : (1 : Int) < (bn : Int) := by omega
    have hI2 : (2 : Int) ≤ (bn : Int) - 2 := by omega
    have hI3 : (bn : Int) - 2 ≤ (bc : Int) := by omega
    have hI4 : (0 : Int) ≤ (bn : Int) - 2 := by omega
    have ht2 : ((bn : Int) - 2).toNat = bn - 2 := by omega
    have hw2 : IntKind.i64.wrap ((bn : Int) - 2) = (bn : Int) - 2 := IntWalk.i64_in _ (by omega)
    have hc2' : ¬ bc = 2 := by omega
    have hs4 : bn - 2 - 2 = bn - 4 := by omega
    generalize ys.getD 0 0 = y0 at *
    generalize ys.getD 1 0 = y1 at *
    have b0Z : Below W.heap.size W (W.alloc (.cells #[.int .i64 0, .int .i64 0, .slice none 0 0] 28)) := (Below.refl _ _).alloc (Nat.le_refl _) _
    have RPZ : Rd (W.alloc (.cells #[.int .i64 0, .int .i64 0, .slice none 0 0] 28)).drew (some ⟨ad.block, ad.off + 2, none⟩) (bn - 4) (ints ((ys.drop 2).take (bn - 4))) := Rd.below (w := W) RP (Below.drew b0Z)
    have BZ : Blk (W.alloc (.cells #[.int .i64 0, .int .i64 0, .slice none 0 0] 28)).drew W.heap.size 28 #[.int .i64 0, .int .i64 0, .slice none 0 0] := Blk.new _ _ _
    have hg3 : w3.heap.size < W.heap.size := BX.lt
    have hy2 := BX.cell 0
    have hk0 : W.drew.cell? ⟨w3.heap.size, 0, none⟩ = some (.slice (some ad) bn bc) ∧ W.drew.cell? ad = some (.int .i64 y0) ∧ W.drew.cell? ⟨ad.block, ad.off + 1, none⟩ = some (.int .i64 y1) := ⟨hy2, hy0, hy1⟩
    go_upto_region 10 with fail
    go_cut [8] from 44 to 56 (fun v wx => ∃ (g : Nat) (KA : Option Addr) (kc : Nat), v = .pointer (some ⟨g, 0, none⟩) ∧ W.heap.size ≤ g ∧ Blk wx g 28 #[.int .i64 y0, .int .i64 y1, .slice KA (bn - 4) kc] ∧ Own wx W.heap.size 1 ⟨KA, bn - 4, kc⟩ (ints ((ys.drop 2).take (bn - 4))) ∧ Below W.heap.size W wx)
    case first =>
      go_region_held3 (fun w' => w'.cell? ⟨w3.heap.size, 0, none⟩ = some (.slice (some ad) bn bc) ∧ w'.cell? ad = some (.int .i64 y0) ∧ w'.cell? ⟨ad.block, ad.off + 1, none⟩ = some (.int .i64 y1))
        (first | (with_reducible exact hk0) | (with_reducible exact hz) | (with_reducible exact hst _ _ _) | go_keep)
        (first
          | (go_at_call 120; (with_reducible refine (cloneOwn_any (some ⟨ad.block, ad.off + 2, none⟩) (bn - 4) (bc - 2) ((ys.drop 2).take (bn - 4)) _ (by omega) RP).mono ?_); rintro e u ⟨⟨KA, kn, kc⟩, rfl, hkn, OK, bk⟩; obtain rfl : kn = bn - 4 := hkn; have bk2 : Below W.heap.size W u := Below.left (m := 1) bk; have hz := And.intro ((Below.cell bk2 (p := ⟨w3.heap.size, 0, none⟩) hg3).trans hy2) (And.intro ((Below.cell bk2 (p := ad) hblt).trans hy0) ((Below.cell bk2 (p := ⟨ad.block, ad.off + 1, none⟩) hblt).trans hy1)))
          | (go_at_call 120; (with_reducible refine (cloneOwn_any (some ⟨ad.block, ad.off + 2, none⟩) (bn - 4) (bc - 2) ((ys.drop 2).take (bn - 4)) _ (by omega) RPZ).mono ?_); rintro e u ⟨⟨KA, kn, kc⟩, rfl, hkn, OK, bk⟩; obtain rfl : kn = bn - 4 := hkn; have hrowZ : ∀ b, (⟨KA, bn - 4, kc⟩ : Hd).row = some b → b ≠ W.heap.size := (fun b e c => by have h1 := (OK.rowlt b e).1; have h2 : (W.alloc (.cells #[.int .i64 0, .int .i64 0, .slice none 0 0] 28)).drew.heap.size = W.heap.size + 1 := World.size_alloc _ _; omega); have hle : W.heap.size ≤ (W.alloc (.cells #[.int .i64 0, .int .i64 0, .slice none 0 0] 28)).drew.heap.size := b0Z.size; have bk2 : Below W.heap.size W u := (Below.drew b0Z).trans (bk.mono hle); have BU := BZ.below bk BZ.lt; have cU := fun o => BU.cell o; have fU := fun o => BU.frozen o; have gU := BU.lt; have hz := And.intro ((Below.cell bk2 (p := ⟨w3.heap.size, 0, none⟩) hg3).trans hy2) (And.intro ((Below.cell bk2 (p := ad) hblt).trans hy0) ((Below.cell bk2 (p := ⟨ad.block, ad.off + 1, none⟩) hblt).trans hy1)); have hst := fun a b c => And.intro ((cell_far3 u W.heap.size a b c ⟨w3.heap.size, 0, none⟩ (Nat.ne_of_lt hg3)).trans hz.1) (And.intro ((cell_far3 u W.heap.size a b c ad (Nat.ne_of_lt hblt)).trans hz.2.1) ((cell_far3 u W.heap.size a b c ⟨ad.block, ad.off + 1, none⟩ (Nat.ne_of_lt hblt)).trans hz.2.2))))
      · have BY := Blk.new u 28 #[.int .i64 y0, .int .i64 y1, .slice KA (bn - 4) kc]
        have bx : Below u.heap.size u (u.alloc (.cells #[.int .i64 y0, .int .i64 y1, .slice KA (bn - 4) kc] 28)) := (Below.refl _ _).alloc (Nat.le_refl _) _
        go_wp2_with fail
        go_meet
        exact ⟨u.heap.size, KA, kc, rfl, bk2.size, BY, (OK.mono (Nat.le_refl _)).below bx, bnext bk2 bx⟩
      · have BY := ((BU.set_ 0 (.int .i64 y0)).set_ 1 (.int .i64 y1)).set_ 2 (.slice KA (bn - 4) kc)
        have bx := ((bk2.setCell (p := ⟨W.heap.size, 0, none⟩) (Nat.le_refl _) (.int .i64 y0)).setCell (p := ⟨W.heap.size, 1, none⟩) (Nat.le_refl _) (.int .i64 y1)).setCell (p := ⟨W.heap.size, 2, none⟩) (Nat.le_refl _) (.slice KA (bn - 4) kc)
        have ox := (((OK.mono hle).far1 (p := ⟨W.heap.size, 0, none⟩) (fun e => hrowZ _ e rfl) (.int .i64 y0)).far1 (p := ⟨W.heap.size, 1, none⟩) (fun e => hrowZ _ e rfl) (.int .i64 y1)).far1 (p := ⟨W.heap.size, 2, none⟩) (fun e => hrowZ _ e rfl) (.slice KA (bn - 4) kc)
        go_wp2_with fail
        go_meet
        exact ⟨W.heap.size, KA, kc, rfl, Nat.le_refl _, BY, ox, bx⟩
    case rest =>
      obtain ⟨g, KA, kc, rfl, hgw, K6, OK, bx⟩ := hcut
      obtain ⟨u6, rfl⟩ : ∃ x : World, x = wc := ⟨_, rfl⟩
      have hrD : ∀ b, (⟨KA, bn - 4, kc⟩ : Hd).row = some b → b ≠ D := fun b e => by have h1 := (OK.rowlt b e).1; omega
      have hrK : ∀ b, (⟨KA, bn - 4, kc⟩ : Hd).row = some b → b ≠ w.heap.size := fun b e => by have h1 := (OK.rowlt b e).1; omega
      have B6 := B5.below bx B5.lt
      have R6 := R5.below bx
      have b6 := bnext b5 bx
      have O6 := OK.mono (C := w.heap.size) (by omega)
      have hD6 : D < u6.heap.size := Nat.lt_of_lt_of_le hDlt bx.size
      have D6 : u6.heap[D]? = some (.deferred (some [])) := (bx.block D hDlt).trans hDK
      have hwD : w.heap.size < D := by omega
      clear OK hk0 BZ RPZ b0Z hblt RP hI0 hI1 hI2 hI3 hI4 ht2 hw2 hc2' hs4 hy0 hy1 hy2 RB B5 R5 b5 bx hN0 BX hDK hDlt hg3
      generalize (ys.drop 2).take (bn - 4) = ps at *
      have c6 := fun o => K6.cell o
      have q6 := K6.lt
      have hfk : FrameOk ⟨⟨KA, bn - 4, kc⟩⟩ := (show bn - 4 ≤ 1048576 by omega)
      rcases Bool.eq_false_or_eq_true (frOkC ⟨y0, y1, ps⟩) with hfo | hfo
      · have HFO := Lib.hid (FrO.of hfo)
        have HV0 : Hid (readOk bits = decide (frameC ⟨y0, y1, ps⟩ = bits)) := by unfold Hid; rw [HOK.out, hfY.out, hfo]; rfl
        have HQN := Lib.hid (frameL_length y0 y1 ps HFO.out.len)
        go_wp2_with fail
        refine (implIsFrame_any ⟨⟨KA, bn - 4, kc⟩⟩ ⟨y0, y1, ps⟩ _ hfk (RdAll.cons (s := ⟨KA, bn - 4, ints ps⟩) O6.rd1 (RdAll.nil _))).mono ?_
        rintro e u7 ⟨rfl, bb⟩
        rw [hfo]
        have K7 := K6.below bb K6.lt
        have c7 := fun o => K7.cell o
        have q7 := K7.lt
        have O7 := O6.below bb
        have R7 := R6.below bb
        have B7 := B6.below bb B6.lt
        have b7 := bnext b6 bb
        have hD7 : D < u7.heap.size := Nat.lt_of_lt_of_le hD6 bb.size
        have D7 : u7.heap[D]? = some (.deferred (some [])) := (bb.block D hD6).trans D6
        clear bb K6 c6 q6 O6 R6 B6 b6 hD6 D6
        go_wp2_with fail
        refine (frameBits_any ⟨⟨KA, bn - 4, kc⟩⟩ ⟨y0, y1, ps⟩ _ (RdAll.cons (s := ⟨KA, bn - 4, ints ps⟩) O7.rd1 (RdAll.nil _)) HFO.out).mono ?_
        rintro e u8 ⟨⟨QA, qn, qc⟩, rfl, OQ, bb⟩
        have RQ := OQ.rd1
        have hqn : qn ≤ 284 := by
          have h1 := RQ.len
          have h2 : (frameC ⟨y0, y1, ps⟩).length = (frameL y0 y1 ps).length := rfl
          have h3 := HQN.out
          simp only at h1; omega
        have K8 := K7.below bb K7.lt
        have c8 := fun o => K8.cell o
        have q8 := K8.lt
        have O8 := O7.below bb
        have R8 := R7.below bb
        have B8 := B7.below bb B7.lt
        have b8 := bnext b7 bb
        have hD8 : D < u8.heap.size := Nat.lt_of_lt_of_le hD7 bb.size
        have D8 : u8.heap[D]? = some (.deferred (some [])) := (bb.block D hD7).trans D7
        clear bb K7 c7 q7 O7 R7 B7 b7 hD7 D7 OQ
        go_wp2_with fail
        refine (equalL_any QA qn qc (frameC ⟨y0, y1, ps⟩) A n c bits _ (by omega) (by omega) RQ R8).mono ?_
        rintro e u9 ⟨rfl, bb⟩
        have K9 := K8.below bb K8.lt
        have c9 := fun o => K9.cell o
        have q9 := K9.lt
        have O9 := O8.below bb
        have B9 := B8.below bb B8.lt
        have b9 := bnext b8 bb
        have hD9 : D < u9.heap.size := Nat.lt_of_lt_of_le hD8 bb.size
        have D9 : u9.heap[D]? = some (.deferred (some [])) := (bb.block D hD8).trans D8
        clear bb K8 c8 q8 O8 R8 B8 b8 hD8 D8 RQ
        rcases Bool.eq_false_or_eq_true (decide (frameC ⟨y0, y1, ps⟩ = bits)) with hq | hq
        · have HV : Hid (readOk bits = true) := HV0.out.trans hq
          rw [hq]
          clear hq
          have dz := (((B9.set_ 0 (.int .i64 y0)).set_ 1 (.int .i64 y1)).set_ 2 (.slice KA (bn - 4) kc)).grown (grownBy_putObj' _ D (.deferred none)) (fun e => by injection e with e; omega)
          have cz := fun o => dz.cell o
          have hDZ : (((u9.setCell ⟨w.heap.size, 0, none⟩ (.int .i64 y0)).setCell ⟨w.heap.size, 1, none⟩ (.int .i64 y1)).setCell ⟨w.heap.size, 2, none⟩ (.slice KA (bn - 4) kc)).heap[D]? = some (.deferred (some [])) := (Below.heap_setCell _ _ _ _ (by simp only; omega)).trans ((Below.heap_setCell _ _ _ _ (by simp only; omega)).trans ((Below.heap_setCell _ _ _ _ (by simp only; omega)).trans D9))
          have bz := (((b9.setCell (p := ⟨w.heap.size, 0, none⟩) (Nat.le_refl _) (.int .i64 y0)).setCell (p := ⟨w.heap.size, 1, none⟩) (Nat.le_refl _) (.int .i64 y1)).setCell (p := ⟨w.heap.size, 2, none⟩) (Nat.le_refl _) (.slice KA (bn - 4) kc))
          have bz2 := bz.grown (grownBy_putObj' _ D (.deferred none)) bz.size (fun k e => by injection e with e; omega)
          have d9 := fun o => B9.cell o
          have e9 := fun o => B9.frozen o
          have p9 := B9.lt
          go_wp2
          refine leaveM_mark hDZ (v := .tuple #[.agg #[.int .i64 y0, .int .i64 y1, .slice KA (bn - 4) kc], .bool true]) (by simp [results, Try.results153, go_sem, cz]) ?_
          exact ⟨⟨KA, bn - 4, kc⟩, ⟨y0, y1, ps⟩, by rw [HV.out]; rfl, fun _ => hfY.out.symm, by simp only; omega, (((O9.far1 (p := ⟨w.heap.size, 0, none⟩) (fun e => hrK _ e rfl) _).far1 (p := ⟨w.heap.size, 1, none⟩) (fun e => hrK _ e rfl) _).far1 (p := ⟨w.heap.size, 2, none⟩) (fun e => hrK _ e rfl) _).grown (grownBy_putObj' _ D (.deferred none)) (fun b e c => by injection c with c; exact hrD _ e c.symm), bz2⟩
        · have HV : Hid (readOk bits = false) := HV0.out.trans hq
          rw [hq]
          clear hq
          have dz := (((B9.set_ 0 (.int .i64 0)).set_ 1 (.int .i64 0)).set_ 2 (.slice none 0 0)).grown (grownBy_putObj' _ D (.deferred none)) (fun e => by injection e with e; omega)
          have cz := fun o => dz.cell o
          have hDZ : (((u9.setCell ⟨w.heap.size, 0, none⟩ (.int .i64 0)).setCell ⟨w.heap.size, 1, none⟩ (.int .i64 0)).setCell ⟨w.heap.size, 2, none⟩ (.slice none 0 0)).heap[D]? = some (.deferred (some [])) := (Below.heap_setCell _ _ _ _ (by simp only; omega)).trans ((Below.heap_setCell _ _ _ _ (by simp only; omega)).trans ((Below.heap_setCell _ _ _ _ (by simp only; omega)).trans D9))
          have bz := (((b9.setCell (p := ⟨w.heap.size, 0, none⟩) (Nat.le_refl _) (.int .i64 0)).setCell (p := ⟨w.heap.size, 1, none⟩) (Nat.le_refl _) (.int .i64 0)).setCell (p := ⟨w.heap.size, 2, none⟩) (Nat.le_refl _) (.slice none 0 0))
          have bz2 := bz.grown (grownBy_putObj' _ D (.deferred none)) bz.size (fun k e => by injection e with e; omega)
          have d9 := fun o => B9.cell o
          have e9 := fun o => B9.frozen o
          have p9 := B9.lt
          go_wp2
          refine leaveM_mark hDZ (v := .tuple #[.agg #[.int .i64 0, .int .i64 0, .slice none 0 0], .bool false]) (by simp [results, Try.results153, go_sem, cz]) ?_
          exact ReadPost.no HV.out bz2
      · have HV : Hid (readOk bits = false) := by unfold Hid; rw [HOK.out, hfY.out, hfo]; rfl
        go_wp2_with fail
        refine (implIsFrame_any ⟨⟨KA, bn - 4, kc⟩⟩ ⟨y0, y1, ps⟩ _ hfk (RdAll.cons (s := ⟨KA, bn - 4, ints ps⟩) O6.rd1 (RdAll.nil _))).mono ?_
        rintro e u7 ⟨rfl, bb⟩
        rw [hfo]
        have B7 := B6.below bb B6.lt
        have b7 := bnext b6 bb
        have D7 : u7.heap[D]? = some (.deferred (some [])) := (bb.block D hD6).trans D6
        clear bb K6 c6 q6 O6 R6 B6 b6 hD6 D6
        have dz := (((B7.set_ 0 (.int .i64 0)).set_ 1 (.int .i64 0)).set_ 2 (.slice none 0 0)).grown (grownBy_putObj' _ D (.deferred none)) (fun e => by injection e with e; omega)
        have cz := fun o => dz.cell o
        have hDZ : (((u7.setCell ⟨w.heap.size, 0, none⟩ (.int .i64 0)).setCell ⟨w.heap.size, 1, none⟩ (.int .i64 0)).setCell ⟨w.heap.size, 2, none⟩ (.slice none 0 0)).heap[D]? = some (.deferred (some [])) := (Below.heap_setCell _ _ _ _ (by simp only; omega)).trans ((Below.heap_setCell _ _ _ _ (by simp only; omega)).trans ((Below.heap_setCell _ _ _ _ (by simp only; omega)).trans D7))
        have bz := (((b7.setCell (p := ⟨w.heap.size, 0, none⟩) (Nat.le_refl _) (.int .i64 0)).setCell (p := ⟨w.heap.size, 1, none⟩) (Nat.le_refl _) (.int .i64 0)).setCell (p := ⟨w.heap.size, 2, none⟩) (Nat.le_refl _) (.slice none 0 0))
        have bz2 := bz.grown (grownBy_putObj' _ D (.deferred none)) bz.size (fun k e => by injection e with e; omega)
        have d7 := fun o => B7.cell o
        have e7 := fun o => B7.frozen o
        have p7 := B7.lt
        go_wp2
        refine leaveM_mark hDZ (v := .tuple #[.agg #[.int .i64 0, .int .i64 0, .slice none 0 0], .bool false]) (by simp [results, Try.results153, go_sem, cz]) ?_
        exact ReadPost.no HV.out bz2
  case stop =>
    rintro D c pre W _ _ h _
    exact h.elim
end Go.Proofs.Ytlgmdekhlcbhoaa
