/- Frames: reading, the reference's side. Condition: at most 2000 bits. -/
import Derived.Test.YtlgmdekhlcbhoaaFraI
import Derived.Test.YtlgmdekhlcbhoaaFraQ
import Derived.Test.YtlgmdekhlcbhoaaFraD
import Derived.Deep.RegionHeld3
import Derived.Deep.DeepCutAuto
import Derived.Deep.CutRange
namespace Go.Proofs.Ytlgmdekhlcbhoaa
open Go.RowKit

theorem Rd.part {w : World} {A : Option Addr} {n k m : Nat} {xs : List Int} (h : Rd w A n (ints xs)) (hk : k + m ≤ n) : Rd w (A.map (·.add k)) m (ints ((xs.drop k).take m)) := by
  have hl := h.len
  refine ⟨by simp [ints]; omega, fun hm => ?_⟩
  obtain ⟨ad, rfl, hc⟩ := h.2 (by omega)
  refine ⟨ad.add k, rfl, fun i hi => ?_⟩
  rw [add_of_add, hc _ (by omega), ints_getElem?, ints_getElem?, List.getElem?_take, if_pos hi, List.getElem?_drop]
set_option maxRecDepth 100000 in
set_option maxHeartbeats 2000000 in
theorem l25At_any (A : Option Addr) (n c k : Nat) (xs : List Int) (w : World) (hn : n ≤ 2000) (hc : n ≤ c) (hk : k + 8 ≤ n) (hr : Rd w A n (ints xs)) :
    Calls Try.prog 170 #[.slice A n c, .int .i64 k] w fun e w' => e = .returned (.bool (decide ((xs.drop k).take 8 = flagL))) ∧ Below w.heap.size w w' := by
  have hd : decide ((k : Int) + 8 ≤ (n : Int)) = true := decide_eq_true (by omega)
  have h1 : (0 : Int) ≤ (k : Int) := by omega
  have h2 : (k : Int) + 8 ≤ (c : Int) := by omega
  have h3 : (k : Int) ≤ (k : Int) + 8 := by omega
  have ht : ((k : Int) + 8).toNat = k + 8 := by omega
  have hck : ¬ c = k := by omega
  have hw : IntKind.i64.wrap ((k : Int) + 8) = (k : Int) + 8 := IntWalk.i64_in _ (by omega)
  have HRD : Hid (Rd w.drew A n (ints xs)) := hr
  go_enter Try.func170, Try.ntmps170
  go_wp2_with fail
  go_region_held3 (fun w' => Hid (Rd w' A n (ints xs)))
    (first | (with_reducible assumption) | exact HRD | exact hS3 | exact hS4)
    (first
      | (go_at_call 161; refine (l25Flag_any _).mono ?_; rintro e u3 ⟨⟨FA, fn, fc⟩, rfl, hfn, qf, b3⟩; obtain rfl : fn = 8 := hfn; have hS3 : Hid (Rd u3 A n (ints xs)) := Rd.below (w := w.drew) hr b3)
      | (go_at_call 105; refine (l01Same_any (A.map (·.add k)) 8 (c - k) ((xs.drop k).take 8) FA 8 fc flagL _ (by omega) (by omega) (hS3.out.part hk) qf.rd1).mono ?_; rintro e u4 ⟨rfl, b4⟩; have hS4 : Hid (Rd u4 A n (ints xs)) := Rd.below hS3.out b4))
  all_goals
    clear h1 h2 h3 hw hck hd HRD ht
    go_wp2
    go_ret
    exact ⟨rfl, bnext (Below.left (m := 1) b3) b4⟩
theorem l25At0_any (A : Option Addr) (n c : Nat) (xs : List Int) (w : World) (hn : n ≤ 2000) (hc : n ≤ c) (hk : 8 ≤ n) (hr : Rd w A n (ints xs)) :
    Calls Try.prog 170 #[.slice A n c, .int .i64 0] w fun e w' => e = .returned (.bool (decide (xs.take 8 = flagL))) ∧ Below w.heap.size w w' := by
  have h := l25At_any A n c 0 xs w hn hc (by omega) hr
  exact h
theorem l25AtE_any (A : Option Addr) (n c : Nat) (xs : List Int) (w : World) (hn : n ≤ 2000) (hc : n ≤ c) (hk : 8 ≤ n) (hr : Rd w A n (ints xs)) :
    Calls Try.prog 170 #[.slice A n c, .int .i64 ((n : Int) - 8)] w fun e w' => e = .returned (.bool (decide ((xs.drop (n - 8)).take 8 = flagL))) ∧ Below w.heap.size w w' := by
  have e : ((n - 8 : Nat) : Int) = (n : Int) - 8 := by omega
  rw [← e]
  exact l25At_any A n c (n - 8) xs w hn hc (by omega) hr

/-- A frame was read, or none. -/
def ReadPost (bits : List Int) (w : World) (e : Ending) (w' : World) : Prop :=
  ∃ (h : Hd) (l : FrameC), e = .returned (.tuple #[FrameV ⟨h⟩ l, .bool (readOk bits)]) ∧ (readOk bits = true → l = readF bits) ∧ h.n ≤ 1000 ∧ Own w' w.heap.size 1 h (ints l.payload) ∧ Below w.heap.size w w'
theorem ReadPost.no {bits : List Int} {w w' : World} (hf : readOk bits = false) (hb : Below w.heap.size w w') : ReadPost bits w (.returned (.tuple #[.agg #[.int .i64 0, .int .i64 0, .slice none 0 0], .bool false])) w' :=
  ⟨⟨none, 0, 0⟩, ⟨0, 0, []⟩, (by rw [hf]; rfl), (fun h => by rw [hf] at h; cases h), Nat.zero_le _, Own.nil _ _ _, hb⟩
theorem Own.far1 {w : World} {B K : Nat} {h : Hd} {us : List Value} (o : Own w B K h us) {p : Addr} (hr : h.row ≠ some p.block) (u : Value) : Own (w.setCell p u) B K h us :=
  o.grown (row := some p.block) (grown_setCell (World.grownBy.refl _ _) (.inl rfl) _) (fun b e c => hr (by injection c with c; rw [e, c]))
theorem cell_far3 (u : World) (g : Nat) (a b c : Value) (p : Addr) (h : p.block ≠ g) : (((u.setCell ⟨g, 0, none⟩ a).setCell ⟨g, 1, none⟩ b).setCell ⟨g, 2, none⟩ c).cell? p = u.cell? p := by
  rw [World.cell?_setCell_other _ _ _ _ (fun e => h (by rw [← e])), World.cell?_setCell_other _ _ _ _ (fun e => h (by rw [← e])), World.cell?_setCell_other _ _ _ _ (fun e => h (by rw [← e]))]
theorem readOk_pre {bits : List Int} (h : preOk bits = false) : readOk bits = false := by unfold readOk; rw [h]; rfl
theorem readOk_short {bits : List Int} (h : bits.length < 16) : readOk bits = false := readOk_pre (by unfold preOk; rw [decide_eq_false (by omega)]; rfl)
theorem readOk_un {bits : List Int} (h : (unR (midL bits)).2 = false) : readOk bits = false := readOk_pre (by unfold preOk; rw [h]; simp)
theorem readOk_mod {bits : List Int} (h : (innU bits).length % 8 ≠ 0) : readOk bits = false := readOk_pre (by unfold preOk; rw [decide_eq_false h]; simp)
theorem readOk_len {bits : List Int} (h : (innU bits).length < 32) : readOk bits = false := readOk_pre (by unfold preOk; rw [decide_eq_false (show ¬ 32 ≤ (innU bits).length by omega)]; simp)
theorem readOk_f1 {bits : List Int} (h : decide (bits.take 8 = flagL) = false) : readOk bits = false := by
  rw [Bool.eq_false_iff]; intro c; rw [decide_eq_true (readOk_flags c).1] at h; cases h
theorem readOk_f2 {bits : List Int} (h : decide ((bits.drop (bits.length - 8)).take 8 = flagL) = false) : readOk bits = false := by
  rw [Bool.eq_false_iff]; intro c; rw [decide_eq_true (readOk_flags c).2.1] at h; cases h
theorem readOk_go {bits : List Int} (h1 : 16 ≤ bits.length) (h2 : (unR (midL bits)).2 = true) (h3 : (innU bits).length % 8 = 0) (h4 : 32 ≤ (innU bits).length) : readOk bits = (frOkC (readF bits) && decide (frameC (readF bits) = bits)) := by
  unfold readOk preOk; rw [decide_eq_true h1, h2, decide_eq_true h3, decide_eq_true h4]; rfl
theorem readG_length (bits : List Int) : (readG bits).length = (innU bits).length / 8 := by unfold readG; rw [groups_length]
theorem unTo_len {xs : List Int} : ∀ {k s : Nat} {L : List Int}, unTo xs k = some (L, s) → L.length ≤ k
  | 0, s, L, h => by injection h with h; injection h with h _; subst h; exact Nat.le_refl _
  | k + 1, s, L, h => by
    cases hk : unTo xs k with
    | none => simp [unTo, hk] at h
    | some p =>
      obtain ⟨L0, s0⟩ := p
      have ih := unTo_len hk
      rw [unTo_succ hk] at h
      split at h
      · split at h
        · cases h
        · injection h with h; injection h with h _; subst h; omega
      · injection h with h; injection h with h _; subst h; simp; omega
theorem unR_len (xs : List Int) : (unR xs).1.length ≤ xs.length := by
  unfold unR
  cases h : unTo xs xs.length with
  | none => simp
  | some p => obtain ⟨L, s⟩ := p; exact unTo_len h
theorem unTo_bits {xs : List Int} (hb : allIn xs 0 1 = true) : ∀ {k s : Nat} {L : List Int}, unTo xs k = some (L, s) → allIn L 0 1 = true
  | 0, s, L, h => by injection h with h; injection h with h _; subst h; rfl
  | k + 1, s, L, h => by
    cases hk : unTo xs k with
    | none => simp [unTo, hk] at h
    | some p =>
      obtain ⟨L0, s0⟩ := p
      have ih := unTo_bits hb hk
      have hx := getD_bit hb k
      rw [unTo_succ hk] at h
      split at h
      · split at h
        · cases h
        · injection h with h; injection h with h _; subst h; exact ih
      · injection h with h; injection h with h _; subst h
        unfold allIn at ih ⊢
        rw [List.all_append, ih]; show (true && (inR (xs.getD k 0) 0 1 && true)) = true; rw [inR_mk hx.1 hx.2]; rfl
theorem unR_bits {xs : List Int} (hb : allIn xs 0 1 = true) : allIn (unR xs).1 0 1 = true := by
  unfold unR
  cases h : unTo xs xs.length with
  | none => rfl
  | some p => obtain ⟨L, s⟩ := p; exact unTo_bits hb h
theorem drop_bits {xs : List Int} (hb : allIn xs 0 1 = true) (k : Nat) : allIn (xs.drop k) 0 1 = true := by
  unfold allIn at *
  rw [List.all_eq_true] at *
  exact fun x hx => hb x (List.mem_of_mem_drop hx)
theorem midL_bits {xs : List Int} (hb : allIn xs 0 1 = true) : allIn (midL xs) 0 1 = true := by
  unfold midL allIn at *
  rw [List.all_eq_true] at *
  exact fun x hx => hb x (List.mem_of_mem_drop (List.mem_of_mem_take hx))

set_option maxRecDepth 100000 in
set_option maxHeartbeats 4000000 in
theorem l25Read_any (A : Option Addr) (n c : Nat) (bits : List Int) (w : World) (hn : n ≤ 2000) (hc : n ≤ c) (hr : Rd w A n (ints bits)) (hb : allIn bits 0 1 = true) :
    Calls Try.prog 150 #[.slice A n c] w (ReadPost bits w) := by
  have HL := Lib.hid hr.len
  have HB := Lib.hid hb
  clear hb
  have b0 : Below w.heap.size w (w.alloc (.cells #[.int .i64 0, .int .i64 0, .slice none 0 0] 28)) := (Below.refl _ _).alloc (Nat.le_refl _) _
  have B0 := Blk.new w 28 #[.int .i64 0, .int .i64 0, .slice none 0 0]
  have R0 := hr.below b0
  clear hr
  by_cases h16 : n < 16
  · have HF : Hid (readOk bits = false) := readOk_short (by rw [HL.out]; exact h16)
    go_enter Try.func150, Try.ntmps150
    go_wp2
    refine bodyPost_ret (v := .tuple #[.agg #[.int .i64 0, .int .i64 0, .slice none 0 0], .bool false]) (by simp [results, Try.results150, go_sem]) rfl (ReadPost.no HF.out ?_)
    exact b0
  have h16b : 16 ≤ n := by omega
  have h16c : ¬ (n : Int) < 16 := by omega
  have w8 : IntKind.i64.wrap ((n : Int) - 8) = (n : Int) - 8 := IntWalk.i64_in _ (by omega)
  clear h16
  go_enter Try.func150, Try.ntmps150
  go_wp2_with fail
  generalize w.alloc (.cells #[.int .i64 0, .int .i64 0, .slice none 0 0] 28) = w0 at b0 B0 R0 ⊢
  refine (l25At0_any A n c bits _ hn hc (by omega) R0).mono ?_
  rintro e w1 ⟨rfl, bb⟩
  have B1 := B0.below bb B0.lt
  have R1 := R0.below bb
  have b1 := bnext b0 bb
  clear bb b0 B0 R0
  rcases Bool.eq_false_or_eq_true (decide (bits.take 8 = flagL)) with f1 | f1
  case inr =>
    have HF : Hid (readOk bits = false) := readOk_f1 f1
    rw [f1]
    clear f1
    have d1 := fun o => B1.cell o
    have e1 := fun o => B1.frozen o
    have p1 := B1.lt
    go_wp2
    refine bodyPost_ret (v := .tuple #[.agg #[.int .i64 0, .int .i64 0, .slice none 0 0], .bool false]) (by simp [results, Try.results150, go_sem, d1]) rfl (ReadPost.no HF.out ?_)
    exact ((b1.setCell (p := ⟨w.heap.size, 0, none⟩) (Nat.le_refl _) _).setCell (p := ⟨w.heap.size, 1, none⟩) (Nat.le_refl _) _).setCell (p := ⟨w.heap.size, 2, none⟩) (Nat.le_refl _) _
  rw [f1]
  clear f1
  go_wp2_with fail
  refine (l25AtE_any A n c bits _ hn hc (by omega) R1).mono ?_
  rintro e w2 ⟨rfl, bb⟩
  have B2 := B1.below bb B1.lt
  have R2 := R1.below bb
  have b2 := bnext b1 bb
  clear bb b1 B1 R1
  rcases Bool.eq_false_or_eq_true (decide ((bits.drop (n - 8)).take 8 = flagL)) with f1 | f1
  case inr =>
    have HF : Hid (readOk bits = false) := readOk_f2 (by rw [HL.out]; exact f1)
    rw [f1]
    clear f1
    have d2 := fun o => B2.cell o
    have e2 := fun o => B2.frozen o
    have p2 := B2.lt
    go_wp2
    refine bodyPost_ret (v := .tuple #[.agg #[.int .i64 0, .int .i64 0, .slice none 0 0], .bool false]) (by simp [results, Try.results150, go_sem, d2]) rfl (ReadPost.no HF.out ?_)
    exact ((b2.setCell (p := ⟨w.heap.size, 0, none⟩) (Nat.le_refl _) _).setCell (p := ⟨w.heap.size, 1, none⟩) (Nat.le_refl _) _).setCell (p := ⟨w.heap.size, 2, none⟩) (Nat.le_refl _) _
  rw [f1]
  clear f1
  have h0 : (0 : Int) ≤ (n : Int) - 8 := by omega
  have h8 : (8 : Int) ≤ (n : Int) - 8 := by omega
  have h9 : (n : Int) - 8 ≤ (c : Int) := by omega
  have ht : ((n : Int) - 8).toNat = n - 8 := by omega
  have hc8 : ¬ c = 8 := by omega
  have RM : Rd w2 (A.map (·.add 8)) (n - 16) (ints (midL bits)) := by
    have := R2.part (k := 8) (m := n - 16) (by omega)
    unfold midL; rw [HL.out]; exact this
  have HMB : Hid (allIn (midL bits) 0 1 = true) := midL_bits HB.out
  go_wp2_with fail
  refine (l25Unstuff_any (A.map (·.add 8)) (n - 16) (c - 8) (midL bits) _ (by omega) RM HMB.out).mono ?_
  rintro e w3 ⟨⟨UA, un, uc⟩, rfl, OU, bb⟩
  have B3 := B2.below bb B2.lt
  have R3 := R2.below bb
  have b3 := bnext b2 bb
  have RU := OU.rd1
  simp only at RU
  have HU1 : Hid (readG bits = groups (innU bits) ((innU bits).length / 8)) := rfl
  have HUL : Hid ((innU bits).length = un) := RU.len
  have HUB : Hid (allIn (innU bits) 0 1 = true) := unR_bits HMB.out
  have RU : Rd w3 UA un (ints (innU bits)) := RU
  have hun : un ≤ 2000 := by
    have h1 := unR_len (midL bits)
    have h2 : (innU bits).length = (unR (midL bits)).1.length := rfl
    have h3 := RM.len
    have := HUL.out; omega
  clear bb b2 B2 OU RM HMB
  rcases Bool.eq_false_or_eq_true (unR (midL bits)).2 with f1 | f1
  case inr =>
    have HF : Hid (readOk bits = false) := readOk_un f1
    rw [f1]
    clear f1
    have d3 := fun o => B3.cell o
    have e3 := fun o => B3.frozen o
    have p3 := B3.lt
    go_wp2
    refine bodyPost_ret (v := .tuple #[.agg #[.int .i64 0, .int .i64 0, .slice none 0 0], .bool false]) (by simp [results, Try.results150, go_sem, d3]) rfl (ReadPost.no HF.out ?_)
    exact ((b3.setCell (p := ⟨w.heap.size, 0, none⟩) (Nat.le_refl _) _).setCell (p := ⟨w.heap.size, 1, none⟩) (Nat.le_refl _) _).setCell (p := ⟨w.heap.size, 2, none⟩) (Nat.le_refl _) _
  have HGO : Hid ((innU bits).length % 8 = 0 → 32 ≤ (innU bits).length → readOk bits = (frOkC (readF bits) && decide (frameC (readF bits) = bits))) := readOk_go (by rw [HL.out]; exact h16b) f1
  rw [f1]
  clear f1
  have hmod : Int.tmod (un : Int) 8 = ((un % 8 : Nat) : Int) := by rw [Int.tmod_eq_emod_of_nonneg (by omega)]; omega
  by_cases hm8 : un % 8 = 0
  case neg =>
    have HF : Hid (readOk bits = false) := readOk_mod (by rw [HUL.out]; exact hm8)
    generalize un % 8 = r8 at *
    have hr8 : ¬ (r8 : Int) = 0 := by omega
    have hr8b : ((r8 : Int) == 0) = false := by simpa using hm8
    have hr8c : ((r8 : Int) != 0) = true := by simpa using hm8
    have d3 := fun o => B3.cell o
    have e3 := fun o => B3.frozen o
    have p3 := B3.lt
    go_wp2
    refine bodyPost_ret (v := .tuple #[.agg #[.int .i64 0, .int .i64 0, .slice none 0 0], .bool false]) (by simp [results, Try.results150, go_sem, d3]) rfl (ReadPost.no HF.out ?_)
    exact ((b3.setCell (p := ⟨w.heap.size, 0, none⟩) (Nat.le_refl _) _).setCell (p := ⟨w.heap.size, 1, none⟩) (Nat.le_refl _) _).setCell (p := ⟨w.heap.size, 2, none⟩) (Nat.le_refl _) _
  rw [hm8] at hmod
  by_cases h32 : un < 32
  · have HF : Hid (readOk bits = false) := readOk_len (by rw [HUL.out]; exact h32)
    have h32I : (un : Int) < 32 := by omega
    have d3 := fun o => B3.cell o
    have e3 := fun o => B3.frozen o
    have p3 := B3.lt
    go_wp2
    refine bodyPost_ret (v := .tuple #[.agg #[.int .i64 0, .int .i64 0, .slice none 0 0], .bool false]) (by simp [results, Try.results150, go_sem, d3]) rfl (ReadPost.no HF.out ?_)
    exact ((b3.setCell (p := ⟨w.heap.size, 0, none⟩) (Nat.le_refl _) _).setCell (p := ⟨w.heap.size, 1, none⟩) (Nat.le_refl _) _).setCell (p := ⟨w.heap.size, 2, none⟩) (Nat.le_refl _) _
  have HOK := Lib.hid (HGO.out (by rw [HUL.out]; exact hm8) (by rw [HUL.out]; omega))
  have h32I : ¬ (un : Int) < 32 := by omega
  have HM : Hid (un = 8 * (un / 8) ∧ 4 ≤ un / 8) := by unfold Hid; omega
  have HG : Hid (readG bits = groups (innU bits) (un / 8)) := by unfold Hid; rw [HU1.out, HUL.out]
  clear hm8 HGO HU1 h32
  generalize un / 8 = m at *
  generalize innU bits = us at *
  go_wp2_with fail
  have OB0 : Own (w3.alloc (.cells #[] 2)) w3.heap.size 1 ⟨some ⟨w3.heap.size, 0, none⟩, 0, 0⟩ (ints []) := Own.empty _ _ _ _
  have bE : Below w3.heap.size w3 (w3.alloc (.cells #[] 2)) := (Below.refl _ _).alloc (Nat.le_refl _) _
  generalize hAA : (some ⟨w3.heap.size, 0, none⟩ : Option Addr) = AA at OB0 ⊢
  clear hAA
  generalize w3.alloc (.cells #[] 2) = w4 at OB0 bE ⊢
  have hsz00 : w3.heap.size ≤ w3.heap.size := Nat.le_refl _
  have hmm : 8 * m ≤ 2000 := by have := HM.out; omega
  clear h0 h8 h9 ht hc8 w8
  go_loopw [6, 7, 8, 9] (fun v i _ _ wr => ∃ (j : Nat) (hb : Hd), j ≤ m ∧ i = .int .i64 (8 * (j : Int)) ∧ v = .slice hb.A hb.n hb.c ∧ hb.n = j ∧ Own wr w3.heap.size 1 hb (ints (groups us j)) ∧ Below w3.heap.size w3 wr) (fun _ i _ _ _ => 8 * m - (intOf i).toNat)
  case atStart => exact ⟨0, ⟨AA, 0, 0⟩, Nat.zero_le _, rfl, rfl, rfl, OB0, bE⟩
  case round =>
    clear OB0 bE
    obtain ⟨j, ⟨bA, bn, bc⟩, hj, rfl, rfl, hbn, OB, hbel⟩ := hrel
    simp only at hbn
    subst hbn
    have RU4 := RU.below hbel
    have hsz := hbel.size
    by_cases hlt : bn < m
    · have hI : 8 * (bn : Int) < (un : Int) := by have := HM.out; omega
      have hun8 : 8 * bn + 8 ≤ un := by have := HM.out; omega
      have HS := Lib.hid (groups_succ us bn)
      have HGN : Hid (groupN us bn = numTo (us.drop (8 * bn)) 8) := rfl
      have HBX : Hid (∀ k, 0 ≤ numTo (us.drop (8 * bn)) k ∧ numTo (us.drop (8 * bn)) k < ((2 ^ k : Nat) : Int)) := numTo_bd (drop_bits HUB.out _)
      generalize groups us bn = GL at *
      go_wp2
      go_loop [8, 9] (fun v i => ∃ k : Nat, k ≤ 8 ∧ i = .int .i64 k ∧ v = .int .i64 (numTo (us.drop (8 * bn)) k)) (fun _ i => 8 - (intOf i).toNat)
      case atStart => exact ⟨0, Nat.zero_le _, rfl, rfl⟩
      case round =>
        obtain ⟨k, hk, rfl, rfl⟩ := hrel
        by_cases hk8 : k < 8
        · obtain ⟨ad, rfl, hx⟩ := RU4.int (show 8 * bn + k < un by omega)
          have hb1 := HBX.out k
          have hb2 : ((2 ^ k : Nat) : Int) ≤ 128 := by
            match k, hk8 with
            | 0, _ => decide
            | 1, _ => decide
            | 2, _ => decide
            | 3, _ => decide
            | 4, _ => decide
            | 5, _ => decide
            | 6, _ => decide
            | 7, _ => decide
          have hb3 := getD_bit HUB.out (8 * bn + k)
          have HN : Hid (numTo (us.drop (8 * bn)) (k + 1) = 2 * numTo (us.drop (8 * bn)) k + us.getD (8 * bn + k) 0) := by
            show 2 * numTo (us.drop (8 * bn)) k + (us.drop (8 * bn)).getD k 0 = _
            simp
          generalize us.getD (8 * bn + k) 0 = x at *
          generalize numTo (us.drop (8 * bn)) k = t at *
          have i1 : (0 : Int) ≤ 8 * (bn : Int) + (k : Int) := by omega
          have i2 : 8 * (bn : Int) + (k : Int) < (un : Int) := by omega
          have i3 : (8 * (bn : Int) + (k : Int)).toNat = 8 * bn + k := by omega
          have hkI : (k : Int) < 8 := by omega
          go_wp2
          go_round
          case rel => exact ⟨k + 1, by omega, by go_num, by rw [HN.out]⟩
          case measure => simp [intOf]; omega
        · obtain rfl : k = 8 := by omega
          rw [← HGN.out]
          clear HBX hk8 hk
          go_wp2_with (at_builtin; refine wpList_append_Own rfl _ _ 22 rfl 2 1 8 Try.underlying22 Int64_info (by decide) w3.heap.size ⟨bA, bn, bc⟩ _ rfl (OB.below ((Below.refl _ _).alloc (Nat.le_refl _) _)) _ 1 1 (ints [groupN us bn]) rfl (by rw [Nat.mul_one]; exact rd_one _ _ _) (oneCell_ints _) (by first | omega | (simp only; omega)) (by decide) (Nat.le_trans hsz (by simp)) ?_; intro k2 w5 hk2 hO2 gg hat)
          have HK2 := Lib.hid hk2
          clear hk2
          go_roundw
          case rel => exact ⟨bn + 1, k2, by omega, (by first | (congr 1; done) | (congr 1; omega)), (by first | rfl | rw [HK2.out]), HK2.out, by rw [HS.out, ints_append]; exact hO2, bstepg (hbel.trans (((Below.refl _ _).alloc (Nat.le_refl _) _).mono hsz)) gg hsz00 (fun b e => (OB.rowlt b e).1)⟩
          case measure => simp [intOf]; omega
    · obtain rfl : bn = m := by omega
      have hI : ¬ 8 * (bn : Int) < (un : Int) := by have := HM.out; omega
      rw [← HG.out] at OB
      have B5 := B3.below hbel B3.lt
      have R5 := R3.below hbel
      have b5 := bnext b3 hbel
      clear B3 R3 b3 RU RU4 hbel hlt hj HG
      have HYL : Hid ((readG bits).length = bn) := OB.rd1.len
      have hm4 : 4 ≤ bn := by have := HM.out; omega
      have hm5 : bn ≤ 250 := by omega
      have hfY : Hid (readF bits = ⟨(readG bits).getD 0 0, (readG bits).getD 1 0, ((readG bits).drop 2).take (bn - 4)⟩) := by unfold Hid readF; rw [HYL.out]
      have RB := OB.rd1
      have hnc := OB.nc
      have hmx := OB.capm.2
      simp only at RB hnc hmx
      generalize readG bits = ys at *
      obtain ⟨ad, rfl, hy0⟩ := RB.int (show 0 < bn by omega)
      have hy1 : wr.cell? (ad.add 1) = some (.int .i64 (ys.getD 1 0)) := by
        obtain ⟨_, ⟨⟩, h⟩ := RB.int (show 1 < bn by omega); exact h
      rw [Addr.add_zero'] at hy0
      have ha1 : ad.add 1 = ⟨ad.block, ad.off + 1, none⟩ := by simp [Addr.add]
      have ha2 : ad.add 2 = ⟨ad.block, ad.off + 2, none⟩ := by simp [Addr.add]
      rw [ha1] at hy1
      have HRB : Hid (Rd wr (some ad) bn (ints ys)) := RB
      have RP : Rd wr (some (ad.add 2)) (bn - 4) (ints ((ys.drop 2).take (bn - 4))) := RB.part (k := 2) (m := bn - 4) (by omega)
      rw [ha2] at RP
      have RP : Rd wr.drew (some ⟨ad.block, ad.off + 2, none⟩) (bn - 4) (ints ((ys.drop 2).take (bn - 4))) := RP
      have hblt : ad.block < wr.heap.size := RB.lt rfl (by omega)
      clear ha1 ha2
      have hN0 : 0 < bn := by omega
      have hI0 : (0 : Int) < (bn : Int) := by omega
      have hI1 : (1 : Int) < (bn : Int) := by omega
      have hI2 : (2 : Int) ≤ (bn : Int) - 2 := by omega
      have hI3 : (bn : Int) - 2 ≤ (bc : Int) := by omega
      have hI4 : (0 : Int) ≤ (bn : Int) - 2 := by omega
      have ht2 : ((bn : Int) - 2).toNat = bn - 2 := by omega
      have hw2 : IntKind.i64.wrap ((bn : Int) - 2) = (bn : Int) - 2 := IntWalk.i64_in _ (by omega)
      have hc2' : ¬ bc = 2 := by omega
      have hs4 : bn - 2 - 2 = bn - 4 := by omega
      clear OB
      generalize ys.getD 0 0 = y0 at *
      generalize ys.getD 1 0 = y1 at *
      have b0Z : Below wr.heap.size wr (wr.alloc (.cells #[.int .i64 0, .int .i64 0, .slice none 0 0] 28)) := (Below.refl _ _).alloc (Nat.le_refl _) _
      have RPZ : Rd (wr.alloc (.cells #[.int .i64 0, .int .i64 0, .slice none 0 0] 28)).drew (some ⟨ad.block, ad.off + 2, none⟩) (bn - 4) (ints ((ys.drop 2).take (bn - 4))) := Rd.below (w := wr) RP (Below.drew b0Z)
      have BZ : Blk (wr.alloc (.cells #[.int .i64 0, .int .i64 0, .slice none 0 0] 28)).drew wr.heap.size 28 #[.int .i64 0, .int .i64 0, .slice none 0 0] := Blk.new _ _ _
      have hk0 : wr.drew.cell? ad = some (.int .i64 y0) ∧ wr.drew.cell? ⟨ad.block, ad.off + 1, none⟩ = some (.int .i64 y1) := ⟨hy0, hy1⟩
      go_upto_region 16 with fail
      go_cut [10] from 75 to 87 (fun v wx => ∃ (g : Nat) (KA : Option Addr) (kc : Nat), v = .pointer (some ⟨g, 0, none⟩) ∧ wr.heap.size ≤ g ∧ Blk wx g 28 #[.int .i64 y0, .int .i64 y1, .slice KA (bn - 4) kc] ∧ Own wx wr.heap.size 1 ⟨KA, bn - 4, kc⟩ (ints ((ys.drop 2).take (bn - 4))) ∧ Below wr.heap.size wr wx)
      case first =>
        go_region_held3 (fun w' => w'.cell? ad = some (.int .i64 y0) ∧ w'.cell? ⟨ad.block, ad.off + 1, none⟩ = some (.int .i64 y1))
          (first | (with_reducible exact hk0) | (with_reducible exact hz) | (with_reducible exact hst _ _ _) | go_keep)
          (first
            | (go_at_call 163; (with_reducible refine (l01OwnOwn_any (some ⟨ad.block, ad.off + 2, none⟩) (bn - 4) (bc - 2) ((ys.drop 2).take (bn - 4)) _ (by omega) RP).mono ?_); rintro e u ⟨⟨KA, kn, kc⟩, rfl, hkn, OK, bk⟩; obtain rfl : kn = bn - 4 := hkn; have bk2 : Below wr.heap.size wr u := Below.left (m := 1) bk; have hz := And.intro ((Below.cell bk2 (p := ad) hblt).trans hy0) ((Below.cell bk2 (p := ⟨ad.block, ad.off + 1, none⟩) hblt).trans hy1))
            | (go_at_call 163; (with_reducible refine (l01OwnOwn_any (some ⟨ad.block, ad.off + 2, none⟩) (bn - 4) (bc - 2) ((ys.drop 2).take (bn - 4)) _ (by omega) RPZ).mono ?_); rintro e u ⟨⟨KA, kn, kc⟩, rfl, hkn, OK, bk⟩; obtain rfl : kn = bn - 4 := hkn; have hrowZ : ∀ b, (⟨KA, bn - 4, kc⟩ : Hd).row = some b → b ≠ wr.heap.size := (fun b e c => by have h1 := (OK.rowlt b e).1; have h2 : (wr.alloc (.cells #[.int .i64 0, .int .i64 0, .slice none 0 0] 28)).drew.heap.size = wr.heap.size + 1 := World.size_alloc _ _; omega); have hle : wr.heap.size ≤ (wr.alloc (.cells #[.int .i64 0, .int .i64 0, .slice none 0 0] 28)).drew.heap.size := b0Z.size; have bk2 : Below wr.heap.size wr u := (Below.drew b0Z).trans (bk.mono hle); have BU := BZ.below bk BZ.lt; have cU := fun o => BU.cell o; have fU := fun o => BU.frozen o; have gU := BU.lt; have hz := And.intro ((Below.cell bk2 (p := ad) hblt).trans hy0) ((Below.cell bk2 (p := ⟨ad.block, ad.off + 1, none⟩) hblt).trans hy1); have hst := fun a b c => And.intro ((cell_far3 u wr.heap.size a b c ad (Nat.ne_of_lt hblt)).trans hz.1) ((cell_far3 u wr.heap.size a b c ⟨ad.block, ad.off + 1, none⟩ (Nat.ne_of_lt hblt)).trans hz.2)))
        · have BX := Blk.new u 28 #[.int .i64 y0, .int .i64 y1, .slice KA (bn - 4) kc]
          have bx : Below u.heap.size u (u.alloc (.cells #[.int .i64 y0, .int .i64 y1, .slice KA (bn - 4) kc] 28)) := (Below.refl _ _).alloc (Nat.le_refl _) _
          go_wp2_with fail
          go_meet
          exact ⟨u.heap.size, KA, kc, rfl, bk2.size, BX, (OK.mono (Nat.le_refl _)).below bx, bnext bk2 bx⟩
        · have BX := ((BU.set_ 0 (.int .i64 y0)).set_ 1 (.int .i64 y1)).set_ 2 (.slice KA (bn - 4) kc)
          have bx := ((bk2.setCell (p := ⟨wr.heap.size, 0, none⟩) (Nat.le_refl _) (.int .i64 y0)).setCell (p := ⟨wr.heap.size, 1, none⟩) (Nat.le_refl _) (.int .i64 y1)).setCell (p := ⟨wr.heap.size, 2, none⟩) (Nat.le_refl _) (.slice KA (bn - 4) kc)
          have ox := (((OK.mono hle).far1 (p := ⟨wr.heap.size, 0, none⟩) (fun e => hrowZ _ e rfl) (.int .i64 y0)).far1 (p := ⟨wr.heap.size, 1, none⟩) (fun e => hrowZ _ e rfl) (.int .i64 y1)).far1 (p := ⟨wr.heap.size, 2, none⟩) (fun e => hrowZ _ e rfl) (.slice KA (bn - 4) kc)
          go_wp2_with fail
          go_meet
          exact ⟨wr.heap.size, KA, kc, rfl, Nat.le_refl _, BX, ox, bx⟩
      case rest =>
        obtain ⟨g, KA, kc, rfl, hgw, BK, OK, bx⟩ := hcut
        have B6 := B5.below bx B5.lt
        have R6 := R5.below bx
        have b6 := bnext b5 bx
        have OK0 := OK
        have OK := OK.mono (C := w.heap.size) b5.size
        have hgw : w.heap.size < g := by have := B5.lt; omega
        have hrowK : ∀ b, (⟨KA, bn - 4, kc⟩ : Hd).row = some b → b ≠ w.heap.size := fun b e => by have h1 := (OK0.rowlt b e).1; have := B5.lt; omega
        clear OK0 hk0 BZ RPZ b0Z hblt RP hI0 hI1 hI2 hI3 hI4 ht2 hw2 hc2' hs4 HRB hy0 hy1 RB B5 R5 b5 bx hN0
        obtain ⟨wx, rfl⟩ : ∃ x : World, x = wc := ⟨_, rfl⟩
        have hrK : ∀ b, (⟨KA, bn - 4, kc⟩ : Hd).row = some b → b ≠ w.heap.size := hrowK
        generalize (ys.drop 2).take (bn - 4) = ps at *
        have K6 : Blk wx.drew g 28 #[.int .i64 y0, .int .i64 y1, .slice KA (bn - 4) kc] := BK
        have B6 : Blk wx.drew w.heap.size 28 #[.int .i64 0, .int .i64 0, .slice none 0 0] := B6
        have O6 : Own wx.drew w.heap.size 1 ⟨KA, bn - 4, kc⟩ (ints ps) := OK.below (Below.drew (Below.refl _ _))
        have R6 : Rd wx.drew A n (ints bits) := R6
        have b6 : Below w.heap.size w wx.drew := Below.drew b6
        have c6 := fun o => K6.cell o
        have q6 := K6.lt
        have d6 := fun o => B6.cell o
        have e6 := fun o => B6.frozen o
        have p6 := B6.lt
        have hgn1 : g ≠ w.heap.size := by omega
        have hgn2 : w.heap.size ≠ g := by omega
        have hfk : FrameOk ⟨⟨KA, bn - 4, kc⟩⟩ := (show bn - 4 ≤ 1048576 by omega)
        rcases Bool.eq_false_or_eq_true (frOkC ⟨y0, y1, ps⟩) with hfo | hfo
        · have HFO := Lib.hid (FrO.of hfo)
          have HV : Hid (readOk bits = decide (frameC ⟨y0, y1, ps⟩ = bits)) := by unfold Hid; rw [HOK.out, hfY.out, hfo]; rfl
          have HQN := Lib.hid (frameL_length y0 y1 ps HFO.out.len)
          go_wp2_with fail
          go_region_held3 (fun w' => ∀ o, w'.cell? ⟨g, o, none⟩ = #[.int .i64 y0, .int .i64 y1, .slice KA (bn - 4) kc][o]?)
            (first | (with_reducible assumption) | (intro o; go_keep))
            (first
              | (go_at_call 89; refine (specIsFrame_any ⟨⟨KA, bn - 4, kc⟩⟩ ⟨y0, y1, ps⟩ _ hfk (RdAll.cons (s := ⟨KA, bn - 4, ints ps⟩) O6.rd1 (RdAll.nil _))).mono ?_; rintro e u7 ⟨rfl, bb⟩; have K7 := K6.below bb K6.lt; have c7 := fun o => K7.cell o; have q7 := K7.lt; have O7 := O6.below bb; have R7 := R6.below bb; have B7 := B6.below bb B6.lt; have d7 := fun o => B7.cell o; have e7 := fun o => B7.frozen o; have p7 := B7.lt; have b7 := bnext b6 bb; rw [hfo])
              | (go_at_call 117; refine (l25Frame_any ⟨⟨KA, bn - 4, kc⟩⟩ ⟨y0, y1, ps⟩ _ (RdAll.cons (s := ⟨KA, bn - 4, ints ps⟩) O7.rd1 (RdAll.nil _)) HFO.out).mono ?_; rintro e u8 ⟨⟨QA, qn, qc⟩, rfl, OQ, bb⟩; have K8 := K7.below bb K7.lt; have c8 := fun o => K8.cell o; have q8 := K8.lt; have O8 := O7.below bb; have R8 := R7.below bb; have B8 := B7.below bb B7.lt; have d8 := fun o => B8.cell o; have e8 := fun o => B8.frozen o; have p8 := B8.lt; have b8 := bnext b7 bb; have RQ := OQ.rd1; have hqn : qn ≤ 284 := (by have h1 := RQ.len; have h2 : (frameC ⟨y0, y1, ps⟩).length = (frameL y0 y1 ps).length := rfl; have h3 := HQN.out; simp only at h1; omega))
              | (go_at_call 105; refine (l01Same_any QA qn qc (frameC ⟨y0, y1, ps⟩) A n c bits _ (by omega) (by omega) RQ R8).mono ?_; rintro e u9 ⟨rfl, bb⟩; have K9 := K8.below bb K8.lt; have c9 := fun o => K9.cell o; have q9 := K9.lt; have O9 := O8.below bb; have R9 := R8.below bb; have B9 := B8.below bb B8.lt; have d9 := fun o => B9.cell o; have e9 := fun o => B9.frozen o; have p9 := B9.lt; have b9 := bnext b8 bb))
          all_goals
            go_wp2
            refine bodyPost_ret (v := .tuple #[.agg #[.int .i64 y0, .int .i64 y1, .slice KA (bn - 4) kc], .bool (decide (frameC ⟨y0, y1, ps⟩ = bits))]) (by simp [results, Try.results150, go_sem, d9]) rfl ⟨⟨KA, bn - 4, kc⟩, ⟨y0, y1, ps⟩, ?_, ?_, by simp only; omega, ?_, ?_⟩
            · rw [HV.out]; rfl
            · exact fun _ => hfY.out.symm
            · exact ((O9.far1 (p := ⟨w.heap.size, 0, none⟩) (fun e => hrK _ e rfl) _).far1 (p := ⟨w.heap.size, 1, none⟩) (fun e => hrK _ e rfl) _).far1 (p := ⟨w.heap.size, 2, none⟩) (fun e => hrK _ e rfl) _
            · exact ((b9.setCell (p := ⟨w.heap.size, 0, none⟩) (Nat.le_refl _) _).setCell (p := ⟨w.heap.size, 1, none⟩) (Nat.le_refl _) _).setCell (p := ⟨w.heap.size, 2, none⟩) (Nat.le_refl _) _
        · have HV : Hid (readOk bits = false) := by unfold Hid; rw [HOK.out, hfY.out, hfo]; rfl
          go_wp2_with fail
          refine wp_region_noPanic ?_
          refine wp_region_held_drew (S := (fun w' => ∀ o, w'.cell? ⟨g, o, none⟩ = #[.int .i64 y0, .int .i64 y1, .slice KA (bn - 4) kc][o]?)) (by kernel_rfl) ?_ (fun hHeld => ?_)
          · exact fun o => c6 o
          refine wpAnyH_take (i := 0) (v := ?v0) rfl (by kernel_rfl) (by kernel_rfl) (by kernel_rfl) (fun _ _ _ h => h) (Or.inl ⟨by rfl, ?hy0⟩) (by assumption) ?re0
          case hy0 => (intro w0 hSw; (try dsimp only at hSw); go_simp; (try (with_reducible rfl)))
          try simp only [Act.put, List.setIfInBounds_toArray, List.set_cons_zero, List.set_cons_succ]
          refine wpAnyH_take (i := 1) (v := ?v1) rfl (by kernel_rfl) (by kernel_rfl) (by kernel_rfl) (fun _ _ _ h => h) (Or.inl ⟨by rfl, ?hy1⟩) (by assumption) ?re1
          case hy1 => (intro w0 hSw; (try dsimp only at hSw); go_simp; (try (with_reducible rfl)))
          try simp only [Act.put, List.setIfInBounds_toArray, List.set_cons_zero, List.set_cons_succ]
          refine wpAnyH_ready (rs := [2]) (by kernel_rfl) (by simp) ?_
          refine AllReadyH.cons rfl (fun K hK => ?_) ?_
          · go_simp
            go_at_call 89
            refine (specIsFrame_any ⟨⟨KA, bn - 4, kc⟩⟩ ⟨y0, y1, ps⟩ _ hfk (RdAll.cons (s := ⟨KA, bn - 4, ints ps⟩) O6.rd1 (RdAll.nil _))).mono ?_; rintro e u7 ⟨rfl, bb⟩; have K7 := K6.below bb K6.lt; have c7 := fun o => K7.cell o; have q7 := K7.lt; have O7 := O6.below bb; have R7 := R6.below bb; have B7 := B6.below bb B6.lt; have d7 := fun o => B7.cell o; have e7 := fun o => B7.frozen o; have p7 := B7.lt; have b7 := bnext b6 bb
            rw [hfo]
            refine hK.out _ _ ?_ (fun hHeld => ?_)
            · exact fun o => c7 o
            clear hK K
            try simp only [Act.put, List.setIfInBounds_toArray, List.set_cons_zero, List.set_cons_succ]
            refine wpAnyH_take (i := 3) (v := ?v3) rfl (by kernel_rfl) (by kernel_rfl) (by kernel_rfl) (fun _ _ _ h => h) (Or.inl ⟨by rfl, ?hy3⟩) (by assumption) ?re3
            case hy3 => (intro w0 hSw; (try dsimp only at hSw); go_simp; (try (with_reducible rfl)))
            try simp only [Act.put, List.setIfInBounds_toArray, List.set_cons_zero, List.set_cons_succ]
            refine wpAnyH_take (i := 4) (v := undef) rfl (by kernel_rfl) (by kernel_rfl) (by kernel_rfl) (fun _ _ _ h => h) (Or.inr ⟨by rfl, rfl⟩) (by assumption) ?re4
            try simp only [Act.put, List.setIfInBounds_toArray, List.set_cons_zero, List.set_cons_succ]
            refine wpAnyH_take (i := 5) (v := undef) rfl (by kernel_rfl) (by kernel_rfl) (by kernel_rfl) (fun _ _ _ h => h) (Or.inr ⟨by rfl, rfl⟩) (by assumption) ?re5
            try simp only [Act.put, List.setIfInBounds_toArray, List.set_cons_zero, List.set_cons_succ]
            refine wpAnyH_take (i := 6) (v := undef) rfl (by kernel_rfl) (by kernel_rfl) (by kernel_rfl) (fun _ _ _ h => h) (Or.inr ⟨by rfl, rfl⟩) (by assumption) ?re6
            try simp only [Act.put, List.setIfInBounds_toArray, List.set_cons_zero, List.set_cons_succ]
            refine wpAnyH_take (i := 7) (v := undef) rfl (by kernel_rfl) (by kernel_rfl) (by kernel_rfl) (fun _ _ _ h => h) (Or.inr ⟨by rfl, rfl⟩) (by assumption) ?re7
            try simp only [Act.put, List.setIfInBounds_toArray, List.set_cons_zero, List.set_cons_succ]
            refine wpAnyH_take (i := 8) (v := ?v8) rfl (by kernel_rfl) (by kernel_rfl) (by kernel_rfl) (fun _ _ _ h => h) (Or.inl ⟨by rfl, ?hy8⟩) (by assumption) ?re8
            case hy8 => (intro w0 hSw; (try dsimp only at hSw); go_simp; (try (with_reducible rfl)))
            try simp only [Act.put, List.setIfInBounds_toArray, List.set_cons_zero, List.set_cons_succ]
            refine wpAnyH_ready (rs := [9]) (by kernel_rfl) (by simp) ?_
            refine AllReadyH.cons rfl (fun K hK => ?_) ?_
            · go_simp
              refine hK.out _ _ ?_ (fun hHeld => ?_)
              · (intro o; go_keep)
              clear hK K
              try simp only [Act.put, List.setIfInBounds_toArray, List.set_cons_zero, List.set_cons_succ]
              refine wpAnyH_ready (rs := [10]) (by kernel_rfl) (by simp) ?_
              refine AllReadyH.cons rfl (fun K hK => ?_) ?_
              · go_simp
                refine hK.out _ _ ?_ (fun hHeld => ?_)
                · first | exact hHeld | (intro o; go_keep)
                clear hK K
                try simp only [Act.put, List.setIfInBounds_toArray, List.set_cons_zero, List.set_cons_succ]
                refine wpAnyH_done (by kernel_rfl) ?_ _
                refine NoPanic.normal ?_
                go_wp2
                refine bodyPost_ret (v := .tuple #[.agg #[.int .i64 y0, .int .i64 y1, .slice KA (bn - 4) kc], .bool false]) (by simp [results, Try.results150, go_sem, d7]) rfl ⟨⟨KA, bn - 4, kc⟩, ⟨y0, y1, ps⟩, ?_, ?_, by simp only; omega, ?_, ?_⟩
                · rw [HV.out]; rfl
                · intro h; rw [HV.out] at h; cases h
                · exact ((O7.far1 (p := ⟨w.heap.size, 0, none⟩) (fun e => hrK _ e rfl) _).far1 (p := ⟨w.heap.size, 1, none⟩) (fun e => hrK _ e rfl) _).far1 (p := ⟨w.heap.size, 2, none⟩) (fun e => hrK _ e rfl) _
                · exact ((b7.setCell (p := ⟨w.heap.size, 0, none⟩) (Nat.le_refl _) _).setCell (p := ⟨w.heap.size, 1, none⟩) (Nat.le_refl _) _).setCell (p := ⟨w.heap.size, 2, none⟩) (Nat.le_refl _) _
              · exact AllReadyH.nil
            · exact AllReadyH.nil
          · exact AllReadyH.nil
end Go.Proofs.Ytlgmdekhlcbhoaa
