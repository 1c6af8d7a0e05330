/- RecoverLog, the program's side. Conditions: a length; the library's variables are as they are laid. -/
import Derived.Test.YtoledbicmghmbaaGreatDoorRanC
import Derived.Test.YtoledbicmghmbaaGreatDoorRdI
import Derived.Test.YtoledbicmghmbaaGreatDoorRvS
namespace Go.Proofs.YtoledbicmghmbaaGreatDoor
open Go.RowKit Go.Shelf

attribute [local go_sem] Oper.semAt_some

/-- What is carried from line to line: the lines at these places have been taken, all good. -/
structure RvJ (w w2 : World) (gb : Nat) (ws : List Bs) (pre : List Nat) (W : World) : Prop where
  list : ∃ h : Hd, Blk W gb 24 #[.slice h.A h.n h.c] ∧ Own W w2.heap.size 7 h (ints (rcL (pre.map fun j => ws.getD j []))) ∧ h.n = pre.length
  le : ∀ j ∈ pre, j < ws.length
  ok : (pre.map fun j => ws.getD j []).all rrB = true
  n2 : pre.length ≤ 200
  bel : Below w.heap.size w W
  sz : w2.heap.size ≤ W.heap.size
def RvX (w w2 : World) (gb : Nat) (ws : List Bs) (c : Code) (p : List Nat) (W : World) : Prop :=
  c = .exit 0 ∧ ∃ (pre : List Nat) (x : Nat), p = pre ++ [x] ∧ RvJ w w2 gb ws pre W ∧ (¬ x < ws.length ∨ rrB (ws.getD x []) = false ∨ pre.length = 200)
theorem RvJ.stays {w w2 : World} {gb g : Nat} {ws : List Bs} (h1 : gb ≠ g) (h2 : w.heap.size ≤ g) (h3 : g < w2.heap.size) (h4 : w.heap.size ≤ w2.heap.size) {α : Type} (f : α → List Nat) : StaysB g w2.heap.size (fun (s : α) W => RvJ w w2 gb ws (f s) W) := by
  rintro s W W' row ⟨⟨h, B, o, hn⟩, le, ok, n2, bel, sz⟩ hg hr
  exact ⟨⟨h, B.stays hg hr h1, o.stays (by decide) hg hr h3, hn⟩, le, ok, n2, below_stays bel hg hr (Nat.le_refl _) h2 h4, Nat.le_trans sz hg.size⟩
theorem RvX.stays {w w2 : World} {gb g : Nat} {ws : List Bs} (c : Code) (h1 : gb ≠ g) (h2 : w.heap.size ≤ g) (h3 : g < w2.heap.size) (h4 : w.heap.size ≤ w2.heap.size) {α : Type} (f : α → List Nat) : StaysB g w2.heap.size (fun (s : α) W => RvX w w2 gb ws c (f s) W) := by
  rintro s W W' row ⟨e, pre, x, hp, J, hx⟩ hg hr
  exact ⟨e, pre, x, hp, RvJ.stays h1 h2 h3 h4 (fun p : List Nat => p) pre W W' row J hg hr, hx⟩
theorem suf_yes (x : Bs) : Lib.hasSuffix (x ++ [10]) [10] = true ∧ Lib.trimSuffix (x ++ [10]) [10] = x := by
  have h : Lib.hasSuffix (x ++ [10]) [10] = true := by unfold Lib.hasSuffix; rw [List.isSuffixOf_iff_suffix]; exact ⟨x, rfl⟩
  refine ⟨h, ?_⟩
  unfold Lib.trimSuffix
  rw [if_pos h]
  simp
theorem suf_no {x : Bs} (hx : (10 : UInt8) ∉ x) : Lib.hasSuffix x [10] = false ∧ Lib.trimSuffix x [10] = x := by
  have h : ¬ Lib.hasSuffix x [10] = true := by
    unfold Lib.hasSuffix; rw [List.isSuffixOf_iff_suffix]
    rintro ⟨y, rfl⟩
    exact hx (by simp)
  refine ⟨by simpa using h, ?_⟩
  unfold Lib.trimSuffix
  rw [if_neg h]
theorem cutsuf_yes (u : Bs) (V : World) (h : u.length ≤ 1048576) : Calls Tryz.prog 23 #[.string ⟨(u ++ [10]).toArray⟩, .string ⟨#[10]⟩] V fun e w' => e = .returned (.tuple #[.string ⟨u.toArray⟩, .bool true]) ∧ V = w' := by
  have h := strings_CutSuffix ⟨(u ++ [10]).toArray⟩ ⟨#[10]⟩ V (by rw [str_size, List.length_append]; simp; omega)
  have e1 := (suf_yes u).1
  have e2 := (suf_yes u).2
  refine h.mono fun e w' ⟨a, b⟩ => ⟨?_, b.symm⟩
  have a2 : e = .returned (.tuple #[.string ⟨(Lib.trimSuffix (u ++ [10]) [10]).toArray⟩, .bool (Lib.hasSuffix (u ++ [10]) [10])]) := a
  rw [a2, e1, e2]
theorem cutsuf_no (u : Bs) (V : World) (h : u.length ≤ 1048576) (hu : (10 : UInt8) ∉ u) : Calls Tryz.prog 23 #[.string ⟨u.toArray⟩, .string ⟨#[10]⟩] V fun e w' => e = .returned (.tuple #[.string ⟨u.toArray⟩, .bool false]) ∧ V = w' := by
  have h := strings_CutSuffix ⟨u.toArray⟩ ⟨#[10]⟩ V (by rw [str_size]; omega)
  have e1 := (suf_no hu).1
  have e2 := (suf_no hu).2
  refine h.mono fun e w' ⟨a, b⟩ => ⟨?_, b.symm⟩
  have a2 : e = .returned (.tuple #[.string ⟨(Lib.trimSuffix u [10]).toArray⟩, .bool (Lib.hasSuffix u [10])]) := a
  rw [a2, e1, e2]
theorem map_range_getD (ws : List Bs) : ∀ k, k ≤ ws.length → (List.range k).map (fun j => ws.getD j []) = ws.take k
  | 0, _ => rfl
  | k + 1, h => by
    rw [List.range_succ, List.map_append, map_range_getD ws k (by omega), List.take_succ_eq_append_getElem (by omega)]
    simp [List.getElem?_eq_getElem (show k < ws.length by omega)]

set_option maxRecDepth 100000 in
set_option maxHeartbeats 8000000 in
theorem implRecoverLog_any (s : Bs) (w : World) (hs : s.length ≤ 1048576) (T : LibW w) :
    Calls Tryz.prog 9 #[.string ⟨s.toArray⟩] w (RetRcs (rvL s) (rvC s) w) := by
  have hz := str_size s
  by_cases h : 20000 < s.length
  · have HM := Lib.hid (rv_no h)
    have hI : (20000 : Int) < (s.length : Int) := by omega
    refine (callsIn_wide (n := 3)).1 ?_
    refine callsIn_of_wp_marks Tryz.func9 rfl trivial ?_ rfl
    simp only [Tryz.ntmps9, List.size_toArray, List.length_cons, List.length_nil, Nat.reduceAdd, Nat.reduceSub, Array.replicate_succ, Array.replicate_zero, List.push_toArray, List.append_toArray, List.nil_append, List.cons_append]
    refine wpIn_wide.2 ?_
    go_wp2
    refine leaveB_nil (v := .tuple #[.slice none 0 0, .int .i64 3]) (by simp [results, Tryz.results9, go_sem]) ?_
    rw [HM.out.1, HM.out.2]
    exact retRcs_nil (Below.refl _ _)
  have HM := Lib.hid (rv_yes h)
  have hI : ¬ (20000 : Int) < (s.length : Int) := by omega
  refine (callsIn_wide (n := 3)).1 ?_
  refine callsIn_of_wp_marks Tryz.func9 rfl trivial ?_ rfl
  simp only [Tryz.ntmps9, List.size_toArray, List.length_cons, List.length_nil, Nat.reduceAdd, Nat.reduceSub, Array.replicate_succ, Array.replicate_zero, List.push_toArray, List.append_toArray, List.nil_append, List.cons_append]
  refine wpIn_wide.2 ?_
  have BG := Blk.new w 24 #[.slice none 0 0]
  have b0 : Below w.heap.size w (w.alloc (.cells #[.slice none 0 0] 24)) := (Below.refl _ _).alloc (Nat.le_refl _) _
  have hz0 : (w.alloc (.cells #[.slice none 0 0] 24)).heap.size = w.heap.size + 1 := World.size_alloc _ _
  go_wp2_with fail
  generalize w.alloc (.cells #[.slice none 0 0] 24) = w1 at BG b0 hz0 ⊢
  refine (lines_any ⟨s.toArray⟩ _).mono ?_
  rintro e w' ⟨rfl, rfl⟩
  have BS := Blk.new w1 9 #[.string ⟨s.toArray⟩]
  have BG2 := BG.alloc (.cells #[.string ⟨s.toArray⟩] 9)
  have b2 : Below w1.heap.size w1 (w1.alloc (.cells #[.string ⟨s.toArray⟩] 9)) := (Below.refl _ _).alloc (Nat.le_refl _) _
  have hz2 : (w1.alloc (.cells #[.string ⟨s.toArray⟩] 9)).heap.size = w.heap.size + 2 := by rw [World.size_alloc, hz0]
  go_wp2_with fail
  generalize w1.alloc (.cells #[.string ⟨s.toArray⟩] 9) = w2 at BS BG2 b2 hz2 ⊢
  rw [hz0] at BS
  have b02 : Below w.heap.size w w2 := bnext b0 b2
  have T2 := T.below b02
  obtain ⟨ws, hws⟩ : ∃ ws, (splitC 10 s).dropLast = ws := ⟨_, rfl⟩
  have HWS := Lib.hid hws
  have HAT := Lib.hid (linesL_at s)
  rw [hws] at HAT
  have HPC := Lib.hid (linesL_piece s)
  have HW : Hid (∀ {k : Nat}, (ws.take k).all rrB = true → k ≤ 200 → k ≤ ws.length → (k = ws.length ∨ k = 200 ∨ ∃ h : k < ws.length, rrB ws[k] = false) → rvW s = ws.take k) := rvW_at hws
  have hge : ws.length ≤ (linesL s).length := by rw [← hws]; exact linesOf_ge _
  clear hws
  have hzz : w.heap.size + 2 ≤ w2.heap.size := by omega
  clear hz2 hz0
  refine (wpIn_wide (n := 3)).1 ?_
  refine' range_box (F := Fence.wide) (n := 3) (g := w.heap.size + 1) rfl (by decide) (gf := 36) (lb := #[.pointer (some ⟨w.heap.size + 1, 0, none⟩)]) rfl trivial (enters_of Tryz.func36 (by kernel_rfl) rfl)
    (encs := fun x : { j : Nat // j < (linesL s).length } => #[.string ⟨((linesL s)[x.1]'x.2).toArray⟩]) (Kp := KpB w.heap.size w2.heap.size) (S := fun ys => ys.map (·.1) = List.range (linesL s).length) (Sp := fun ys => ∃ k, ys.map (·.1) = List.range (k + 1)) (N := (linesL s).length) ?hseq (by omega)
    (fun h k => h.trans k) (fun W l o o' => KpB.put (Nat.le_refl _) W l o o') (fun _ => rfl)
    (fun pre W => RvJ w w2 w.heap.size ws (pre.map (·.1)) W) (fun c pre W => RvX w w2 w.heap.size ws c (pre.map (·.1)) W)
    (RvJ.stays (by omega) (by omega) (by omega) (by omega) _) (fun c => RvX.stays c (by omega) (by omega) (by omega) (by omega) _) ?h0 _ ?assign ?body ?done ?stop
  case hseq =>
    intro l J Jx W hW hJ _ hY h0
    exact lines1_in l (w.heap.size + 1) w.heap.size w2.heap.size s hs J Jx (fun pre V q h => hJ.drewN q h) (fun pre V v h => hJ.set v h) hY W (BS.below hW (by omega)) (by omega) (by omega) h0
  case h0 => exact ⟨⟨⟨none, 0, 0⟩, BG2, Own.nil _ _ _, rfl⟩, (fun j h => by cases h), rfl, Nat.zero_le _, b02, Nat.le_refl _⟩
  case assign =>
    intro l x W K hK
    gi_wp2
    exact hK
  case body =>
    rintro l pre ⟨x, hx⟩ W J hlt
    obtain ⟨⟨⟨HA, hN, hC⟩, BX, OX, hn⟩, hle, hok, h200, hbW, hzW⟩ := J
    simp only at hn BX
    have hpl : (pre.map (·.1)).length = pre.length := List.length_map ..
    rw [hpl] at hn h200
    subst hn
    have TW := T.below hbW
    have hp := HPC.out ((linesL s)[x]'hx) (List.getElem_mem hx)
    have hgs := BX.lt
    have hnc : pre.length ≤ hC := OX.nc
    -- the line, and what CutSuffix makes of it
    obtain ⟨ln, u, en, hcut, hlne, hln, hwhy⟩ : ∃ (ln u : Bs) (en : Bool), (∀ V, Calls Tryz.prog 23 #[.string ⟨ln.toArray⟩, .string ⟨#[10]⟩] V fun e w' => e = .returned (.tuple #[.string ⟨u.toArray⟩, .bool en]) ∧ V = w') ∧ (linesL s)[x]'hx = ln ∧ u.length ≤ 1048576 ∧ ((en = true ∧ x < ws.length ∧ u = ws.getD x []) ∨ (en = false ∧ ¬ x < ws.length)) := by
      rcases HAT.out x hx with ⟨h2, e⟩ | ⟨h2, e⟩
      · have e2 : ws[x] = ws.getD x [] := by rw [List.getD_eq_getElem?_getD, List.getElem?_eq_getElem h2]; rfl
        rw [e, e2] at hp ⊢
        rw [List.length_append] at hp
        exact ⟨ws.getD x [] ++ [10], ws.getD x [], true, fun V => cutsuf_yes _ V (by omega), rfl, by omega, .inl ⟨rfl, h2, rfl⟩⟩
      · exact ⟨(linesL s)[x]'hx, (linesL s)[x]'hx, false, fun V => cutsuf_no _ V (by omega) e, rfl, by omega, .inr ⟨rfl, by omega⟩⟩
    have HRD := fun (V : World) (T : LibW V) => implReadRecordLine_any u V hln T
    unfold R7.V at HRD
    have HB : Hid (en = true → rrB (ws.getD x []) = rrB u ∧ rrR (ws.getD x []) = rrR u) := fun h => by
      rcases hwhy with ⟨_, _, rfl⟩ | ⟨h2, _⟩
      · exact ⟨rfl, rfl⟩
      · rw [h2] at h; cases h
    have HL2 : Hid ((en = true ∧ x < ws.length) ∨ (en = false ∧ ¬ x < ws.length)) := hwhy.imp (fun h => ⟨h.1, h.2.1⟩) id
    generalize hrb : rrB u = rb at HRD HB
    generalize rrR u = f at HRD HB
    obtain ⟨t, kk, lv, rx, ry, rd, rr⟩ := f
    simp only at HRD
    clear hwhy hp hrb
    gi_wp2
    refine ⟨trivial, ?_⟩
    refine (CallsIn.inRound l (callsIn_wide.2 (hcut _))).mono ?_
    rintro e V ⟨rfl, rfl⟩
    clear hcut
    gi_wp2
    refine ⟨trivial, ?_⟩
    refine (CallsIn.inRound l (callsIn_wide.2 (HRD _ TW))).mono ?_
    rintro e W1 ⟨rfl, b1⟩
    have BX1 := BX.below b1 hgs
    have OX1 := OX.below b1
    have k1 := keeps_bel b1
    have bA : Below W1.heap.size W1 (W1.alloc (.cells #[.int .i64 t, .int .i64 kk, .int .i64 lv, .int .i64 rx, .int .i64 ry, .int .i64 rd, .int .i64 rr] 45)) := (Below.refl _ _).alloc (Nat.le_refl _) _
    have K2 := Blk.new W1 45 #[.int .i64 t, .int .i64 kk, .int .i64 lv, .int .i64 rx, .int .i64 ry, .int .i64 rd, .int .i64 rr]
    have BX2 := BX1.below bA BX1.lt
    have OX2 := OX1.below bA
    have k2 := KeepsOthers.trans k1 (keeps_bel bA)
    have b2 := b1.trans (bA.mono b1.size)
    have cX1 : W1.cell? ⟨w.heap.size, 0, none⟩ = some (.slice HA pre.length hC) := BX1.cell 0
    have fX1 : W1.frozen? ⟨w.heap.size, 0, none⟩ = false := BX1.frozen 0
    have gX1 := BX1.lt
    have hzW2 := Nat.le_trans hzW b2.size
    have HJ : Hid (RvJ w w2 w.heap.size ws (pre.map (·.1)) (W1.alloc (.cells #[.int .i64 t, .int .i64 kk, .int .i64 lv, .int .i64 rx, .int .i64 ry, .int .i64 rd, .int .i64 rr] 45))) :=
      ⟨⟨⟨HA, pre.length, hC⟩, BX2, OX2, hpl.symm⟩, hle, hok, by rw [hpl]; exact h200, bnext hbW b2, hzW2⟩
    have HE : Hid ((pre ++ [(⟨x, hx⟩ : { j : Nat // j < (linesL s).length })]).map (·.1) = pre.map (·.1) ++ [x]) := List.map_append
    have kp2 : KpB w.heap.size w2.heap.size W (W1.alloc (.cells #[.int .i64 t, .int .i64 kk, .int .i64 lv, .int .i64 rx, .int .i64 ry, .int .i64 rd, .int .i64 rr] 45)) := KpB.bel b2 hzW
    clear bA k1 b1 BX1 OX1 BX OX hle hok
    rcases Bool.eq_false_or_eq_true en with h1 | h1
    rotate_left
    · subst h1
      have HN : Hid (¬ x < ws.length) := by rcases HL2.out with ⟨h, _⟩ | ⟨_, h⟩; cases h; exact h
      gi_wp2
      exact ⟨k2, rfl, _, x, HE.out, HJ.out, .inl HN.out⟩
    subst h1
    have HX : Hid (x < ws.length) := by rcases HL2.out with ⟨_, h⟩ | ⟨h, _⟩; exact h; cases h
    have HRR := Lib.hid (HB.out rfl)
    rcases Bool.eq_false_or_eq_true rb with h1 | h1
    rotate_left
    · subst h1
      gi_wp2
      exact ⟨k2, rfl, _, x, HE.out, HJ.out, .inr (.inl HRR.out.1)⟩
    subst h1
    by_cases h2 : pre.length = 200
    · have h2I : (pre.length : Int) = 200 := by omega
      have h2b : ((pre.length : Int) == 200) = true := by rw [beq_iff_eq]; exact h2I
      have H2 : Hid ((pre.map (·.1)).length = 200) := hpl.trans h2
      clear h2 h2I
      gi_wp2
      exact ⟨k2, rfl, _, x, HE.out, HJ.out, .inr (.inr H2.out)⟩
    have h2b : ((pre.length : Int) == 200) = false := by rw [beq_eq_false_iff_ne]; omega
    have RE := rd_one7 (W1.alloc (.cells #[.int .i64 t, .int .i64 kk, .int .i64 lv, .int .i64 rx, .int .i64 ry, .int .i64 rd, .int .i64 rr] 45)) (⟨t, kk, lv, rx, ry, rd, rr⟩ : R7) 45
    rw [World.size_alloc] at RE
    have cK := fun o => K2.cell o
    have gK := K2.lt
    have bz : Below _ _ ((W1.alloc (.cells #[.int .i64 t, .int .i64 kk, .int .i64 lv, .int .i64 rx, .int .i64 ry, .int .i64 rd, .int .i64 rr] 45)).alloc (.cells #[.int .i64 t, .int .i64 kk, .int .i64 lv, .int .i64 rx, .int .i64 ry, .int .i64 rd, .int .i64 rr] 45)) := (Below.refl (W1.alloc (.cells #[.int .i64 t, .int .i64 kk, .int .i64 lv, .int .i64 rx, .int .i64 ry, .int .i64 rd, .int .i64 rr] 45)).heap.size _).alloc (Nat.le_refl _) _
    have oz := OX2.below bz
    have BXz := BX2.below bz BX2.lt
    have kz := KeepsOthers.trans k2 (keeps_bel bz)
    have kpz := KpB.trans kp2 (KpB.bel bz hzW2)
    have hBz := Nat.le_trans hzW2 bz.size
    have hbz := bnext (bnext hbW b2) bz
    have h63 : pre.length + 1 ≤ 1099511627776 := by omega
    have hle' := HJ.out.le
    have hok' := HJ.out.ok
    have HR : Hid (ints (rcL ((pre.map (·.1) ++ [x]).map fun j => ws.getD j [])) = ints (rcL ((pre.map (·.1)).map fun j => ws.getD j [])) ++ ints (⟨t, kk, lv, rx, ry, rd, rr⟩ : R7).L) := by
      unfold Hid
      rw [List.map_append, List.map_cons, List.map_nil, rcL_snoc, HRR.out.2]
      unfold ints
      rw [List.map_append]
    have HOK : Hid (((pre.map (·.1) ++ [x]).map fun j => ws.getD j []).all rrB = true) := by
      unfold Hid
      rw [List.map_append, List.all_append, hok', List.map_cons, List.map_nil, List.all_cons, HRR.out.1]
      rfl
    have HLE : Hid (∀ j ∈ pre.map (·.1) ++ [x], j < ws.length) := fun j hj => by
      rcases List.mem_append.1 hj with h | h
      · exact hle' j h
      · rw [List.mem_singleton.1 h]; exact HX.out
    have HPL := Lib.hid hpl
    have hrowz : ∀ b, (⟨HA, pre.length, hC⟩ : Hd).row = some b → w2.heap.size ≤ b := fun b e => (oz.rowlt b e).1
    clear hle' hok' OX2 BX2 bz b2 k2 kp2 HJ HRR hpl
    gi_wp2_with (gi_at_builtin; refine wpListIn_append_Own rfl _ _ 24 rfl 45 7 56 Tryz.underlying24 Record_info (by decide) w2.heap.size ⟨HA, pre.length, hC⟩ _ rfl oz _ 1 1 (ints (⟨t, kk, lv, rx, ry, rd, rr⟩ : R7).L) rfl RE (oneCell_ints _) h63 (by decide) hBz ?_; rintro ⟨GA, gn, gc⟩ wg hGn HG gg; have BXg := BXz.grown gg (fun e => by have := hrowz _ e; omega); have cXg := BXg.cell 0; have fXg := BXg.frozen 0; have gXg := BXg.lt; have HGN := Lib.hid hGn; clear hGn)
    have kg := KeepsOthers.trans kz (keeps_own oz (by decide) gg)
    have kpg := KpB.trans kpz (KpB.grown gg hrowz hBz)
    have hbg := hbz.grown gg (Nat.le_trans (by omega) hBz) (fun b e => by have := hrowz b e; omega)
    have HGn : gn = pre.length + 1 := HGN.out
    subst HGn
    have hJx : RvJ w w2 w.heap.size ws (pre.map (·.1) ++ [x]) (wg.setCell ⟨w.heap.size, 0, none⟩ (.slice GA (pre.length + 1) gc)) := by
      refine ⟨⟨⟨GA, pre.length + 1, gc⟩, BXg.set_ 0 _, ?_, ?_⟩, HLE.out, HOK.out, ?_, hbg.setCell (Nat.le_refl _) _, ?_⟩
      · rw [HR.out]
        exact HG.grown (grown_cell _ _ _ _) (fun b e c => by injection c with c; have := (HG.rowlt _ e).1; omega)
      · rw [List.length_append, HPL.out]; rfl
      · rw [List.length_append, HPL.out]; simp; omega
      · exact Nat.le_trans (Nat.le_trans hBz gg.size) (by simp [World.setCell])
    rw [← HE.out] at hJx
    exact ⟨KeepsOthers.trans kg (KeepsOthers.setCell _ _ _), KpB.trans kpg (KpB.set _ _), hJx⟩
  case done =>
    rintro D ys W hD hys J hDK
    obtain ⟨⟨⟨HA, hN, hC⟩, BX, OX, hn⟩, hle, hok, h200, hbW, hzW⟩ := J
    have hys' : ys.map (·.1) = List.range (linesL s).length := hys
    rw [hys'] at OX hle hok h200 hn
    rw [List.length_range] at h200 hn
    simp only at hn BX
    have hnl : (linesL s).length ≤ ws.length := by
      rcases Nat.eq_zero_or_pos (linesL s).length with h | h
      · omega
      · have := hle ((linesL s).length - 1) (List.mem_range.2 (by omega)); omega
    rw [map_range_getD ws _ hnl] at OX hok
    have hLE : (linesL s).length = ws.length := by omega
    rw [hLE] at OX hok hn h200
    have HF : Hid (rvW s = ws.take ws.length) := HW.out hok h200 (Nat.le_refl _) (.inl rfl)
    have cX : W.cell? ⟨w.heap.size, 0, none⟩ = some (.slice HA hN hC) := BX.cell 0
    have gX := BX.lt
    have hDW : D < W.heap.size := (Array.getElem?_eq_some_iff.1 hDK).1
    have hDg : D ≠ w.heap.size := by omega
    have nc := OX.nc
    have hn2 : hN ≤ 200 := by omega
    have OXD := OX.grown (grownBy_putObj' W D (.deferred none)) (fun b e c => by
      obtain ⟨o2, h3, h4⟩ := OX.rowcells (by decide) b e
      injection c with c
      subst c
      rw [hDK] at h3
      cases h3
      cases h4)
    have bD := hbW.grown (grownBy_putObj' W D (.deferred none)) hbW.size (fun k e => by injection e with e; omega)
    clear hys hys' hle hok hLE hnl hn
    go_wp2
    refine leaveB_mark hDK (v := .tuple #[.slice HA hN hC, .int .i64 0]) (by simp [results, Tryz.results9, go_sem]) ?_
    rw [HM.out.1, HM.out.2, HF.out]
    exact ⟨⟨HA, hN, hC⟩, rfl, hn2, nc, OXD.rd, OXD.wr.lower (by omega), bD⟩
  case stop =>
    rintro D c ys W hD ⟨k, hk⟩ ⟨rfl, pre, x, hp, J, hwhy⟩ hDK
    rw [hp, List.range_succ] at hk
    have hk1 : pre = List.range k ∧ x = k := by
      have h := List.append_inj' hk rfl
      exact ⟨h.1, (List.cons.inj h.2).1⟩
    obtain ⟨rfl, rfl⟩ := hk1
    obtain ⟨⟨⟨HA, hN, hC⟩, BX, OX, hn⟩, hle, hok, h200, hbW, hzW⟩ := J
    rw [List.length_range] at h200 hn hwhy
    simp only at hn BX
    have hnl : x ≤ ws.length := by
      rcases Nat.eq_zero_or_pos x with h | h
      · omega
      · have := hle (x - 1) (List.mem_range.2 (by omega)); omega
    rw [map_range_getD ws _ hnl] at OX hok
    have HF : Hid (rvW s = ws.take x) := HW.out hok h200 hnl (by
      rcases hwhy with h | h | h
      · exact .inl (by omega)
      · by_cases h2 : x < ws.length
        · refine .inr (.inr ⟨h2, ?_⟩)
          rw [← h, List.getD_eq_getElem?_getD, List.getElem?_eq_getElem h2]
          rfl
        · exact .inl (by omega)
      · exact .inr (.inl h))
    have cX : W.cell? ⟨w.heap.size, 0, none⟩ = some (.slice HA hN hC) := BX.cell 0
    have gX := BX.lt
    have hDg : D ≠ w.heap.size := by omega
    have nc := OX.nc
    have hn2 : hN ≤ 200 := by omega
    have OXD := OX.grown (grownBy_putObj' W D (.deferred none)) (fun b e c => by
      obtain ⟨o2, h3, h4⟩ := OX.rowcells (by decide) b e
      injection c with c
      subst c
      rw [hDK] at h3
      cases h3
      cases h4)
    have bD := hbW.grown (grownBy_putObj' W D (.deferred none)) hbW.size (fun k e => by injection e with e; omega)
    clear hp hk hle hok hnl hn hwhy
    refine wpIn_wide.2 ?_
    go_wp2
    refine leaveB_mark hDK (v := .tuple #[.slice HA hN hC, .int .i64 0]) (by simp [results, Tryz.results9, go_sem]) ?_
    rw [HM.out.1, HM.out.2, HF.out]
    exact ⟨⟨HA, hN, hC⟩, rfl, hn2, nc, OXD.rd, OXD.wr.lower (by omega), bD⟩
end Go.Proofs.YtoledbicmghmbaaGreatDoor
