/- Ways through the code, plain: the least errors are those of a best way, two ways differ at five bits at least, at most two wrong bits are corrected. No program. -/
import Derived.Test.YtlgmdekhlcbhoaaVitT
namespace Go.Proofs.Ytlgmdekhlcbhoaa

/-- the errors of a way from step t and state s on -/
def way (xs : List Int) : Nat → Int → List Int → Int
  | _, _, [] => 0
  | t, s, b :: bs => stepW xs t s b + way xs (t + 1) (nxt s b) bs
/-- bits that may be taken: the last two are 0 -/
def okW : List Int → Prop
  | [] => True
  | b :: bs => (b = 0 ∨ (b = 1 ∧ 2 ≤ bs.length)) ∧ okW bs
theorem pick_left (z o : Int × Int) : (pick z o).1 ≤ z.1 := by unfold pick; split <;> (try split) <;> (try dsimp only) <;> omega
theorem pick_right (z o : Int × Int) : (pick z o).1 ≤ o.1 := by unfold pick; split <;> (try split) <;> (try dsimp only) <;> omega
theorem pick_or (z o : Int × Int) : (pick z o).1 = z.1 ∨ (pick z o).1 = o.1 := by unfold pick; split <;> (try split) <;> simp
theorem vit_le (xs : List Int) (n : Nat) : ∀ (r : Nat) (s : Int) (bs : List Int), okW bs → bs.length = r → r ≤ n → (vit xs n r s).1 ≤ way xs (n - r) s bs
  | 0, s, [], _, _, _ => by simp [vit, way]
  | r + 1, s, b :: bs, h, hl, hr => by
    have hl' : bs.length = r := by simpa using hl
    have e : n - (r + 1) + 1 = n - r := by omega
    have ih := vit_le xs n r (nxt s b) bs h.2 hl' (by omega)
    show (vit xs n (r + 1) s).1 ≤ stepW xs (n - (r + 1)) s b + way xs (n - (r + 1) + 1) (nxt s b) bs
    rw [e, vit_succ]
    rcases h.1 with rfl | ⟨rfl, h2⟩
    · split
      · have := pick_left (stepW xs (n - (r + 1)) s 0 + (vit xs n r (nxt s 0)).1, (vit xs n r (nxt s 0)).2) (stepW xs (n - (r + 1)) s 1 + (vit xs n r (nxt s 1)).1, (vit xs n r (nxt s 1)).2)
        simp only at this; omega
      · simp only; omega
    · rw [hl'] at h2
      rw [if_pos h2]
      have := pick_right (stepW xs (n - (r + 1)) s 0 + (vit xs n r (nxt s 0)).1, (vit xs n r (nxt s 0)).2) (stepW xs (n - (r + 1)) s 1 + (vit xs n r (nxt s 1)).1, (vit xs n r (nxt s 1)).2)
      simp only at this; omega
theorem vit_get (xs : List Int) (n : Nat) : ∀ (r : Nat) (s : Int), r ≤ n → ∃ bs, okW bs ∧ bs.length = r ∧ way xs (n - r) s bs = (vit xs n r s).1
  | 0, s, _ => ⟨[], trivial, rfl, rfl⟩
  | r + 1, s, hr => by
    obtain ⟨b0, h0, l0, e0⟩ := vit_get xs n r (nxt s 0) (by omega)
    obtain ⟨b1, h1, l1, e1⟩ := vit_get xs n r (nxt s 1) (by omega)
    have e : n - (r + 1) + 1 = n - r := by omega
    have w0 : way xs (n - (r + 1)) s (0 :: b0) = stepW xs (n - (r + 1)) s 0 + (vit xs n r (nxt s 0)).1 := by
      show stepW xs (n - (r + 1)) s 0 + way xs (n - (r + 1) + 1) (nxt s 0) b0 = _; rw [e, e0]
    have w1 : way xs (n - (r + 1)) s (1 :: b1) = stepW xs (n - (r + 1)) s 1 + (vit xs n r (nxt s 1)).1 := by
      show stepW xs (n - (r + 1)) s 1 + way xs (n - (r + 1) + 1) (nxt s 1) b1 = _; rw [e, e1]
    rw [vit_succ]
    by_cases h2 : 2 ≤ r
    · rw [if_pos h2]
      rcases pick_or (stepW xs (n - (r + 1)) s 0 + (vit xs n r (nxt s 0)).1, (vit xs n r (nxt s 0)).2) (stepW xs (n - (r + 1)) s 1 + (vit xs n r (nxt s 1)).1, (vit xs n r (nxt s 1)).2) with h | h
      · exact ⟨0 :: b0, ⟨.inl rfl, h0⟩, by simp [l0], by rw [w0, h]⟩
      · exact ⟨1 :: b1, ⟨.inr ⟨rfl, by omega⟩, h1⟩, by simp [l1], by rw [w1, h]⟩
    · rw [if_neg h2]
      exact ⟨0 :: b0, ⟨.inl rfl, h0⟩, by simp [l0], w0⟩
theorem vit_single (xs : List Int) (n : Nat) : ∀ (r : Nat) (s : Int) (bs : List Int), okW bs → bs.length = r → r ≤ n →
    (∀ cs, okW cs → cs.length = r → cs ≠ bs → way xs (n - r) s bs < way xs (n - r) s cs) → vit xs n r s = (way xs (n - r) s bs, 1)
  | 0, s, [], _, _, _, _ => rfl
  | r + 1, s, b :: bs, h, hl, hr, hu => by
    have hl' : bs.length = r := by simpa using hl
    have e : n - (r + 1) + 1 = n - r := by omega
    have hw : ∀ (d : Int) (cs : List Int), way xs (n - (r + 1)) s (d :: cs) = stepW xs (n - (r + 1)) s d + way xs (n - r) (nxt s d) cs := fun d cs => by
      show stepW xs (n - (r + 1)) s d + way xs (n - (r + 1) + 1) (nxt s d) cs = _; rw [e]
    have ih := vit_single xs n r (nxt s b) bs h.2 hl' (by omega) (fun cs hc lc ne => by
      have := hu (b :: cs) ⟨by rw [lc, ← hl']; exact h.1, hc⟩ (by simp [lc]) (fun c => ne (List.cons.inj c).2)
      rw [hw, hw] at this; omega)
    have ho : ∀ d : Int, d ≠ b → (d = 0 ∨ (d = 1 ∧ 2 ≤ r)) → stepW xs (n - (r + 1)) s b + way xs (n - r) (nxt s b) bs < stepW xs (n - (r + 1)) s d + (vit xs n r (nxt s d)).1 := fun d hd hk => by
      obtain ⟨q, hq, lq, eq⟩ := vit_get xs n r (nxt s d) (by omega)
      have := hu (d :: q) ⟨by rw [lq]; exact hk, hq⟩ (by simp [lq]) (fun c => hd (List.cons.inj c).1)
      rw [hw, hw, eq] at this
      exact this
    rw [vit_succ, hw]
    rcases h.1 with rfl | ⟨rfl, h2⟩
    · by_cases h2 : 2 ≤ r
      · have := ho 1 (by decide) (.inr ⟨rfl, h2⟩)
        rw [if_pos h2, ih]
        unfold pick
        simp only
        rw [if_neg (by omega), if_neg (by omega)]
      · rw [if_neg h2, ih]
    · rw [hl'] at h2
      have := ho 0 (by decide) (.inl rfl)
      rw [if_pos h2, ih]
      unfold pick
      simp only
      rw [if_pos (by omega)]

/-- at how many places a code differs from received bits -/
def errs : List Int → List Int → Int
  | x :: xs, y :: ys => wrongB y x + errs xs ys
  | _, _ => 0
theorem errs_nil (ys : List Int) : errs [] ys = 0 := by cases ys <;> rfl
theorem errs_bd : ∀ xs ys : List Int, 0 ≤ errs xs ys
  | [], ys => by rw [errs_nil]; exact Int.le_refl _
  | x :: xs, [] => Int.le_refl _
  | x :: xs, y :: ys => by have := errs_bd xs ys; have := wrongB_bd y x; show 0 ≤ wrongB y x + errs xs ys; omega
def cod : Int → List Int → List Int
  | _, [] => []
  | s, b :: bs => outA s b :: outB s b :: cod (nxt s b) bs
theorem cod_length : ∀ (bs : List Int) (s : Int), (cod s bs).length = 2 * bs.length
  | [], _ => rfl
  | b :: bs, s => by show (cod (nxt s b) bs).length + 1 + 1 = 2 * (bs.length + 1); rw [cod_length bs]; omega
theorem way_errs (xs : List Int) : ∀ (bs : List Int) (t : Nat) (s : Int), 2 * t + 2 * bs.length ≤ xs.length → way xs t s bs = errs (xs.drop (2 * t)) (cod s bs)
  | [], t, s, _ => by unfold way cod; cases xs.drop (2 * t) <;> rfl
  | b :: bs, t, s, h => by
    have h' : 2 * t + 2 * (bs.length + 1) ≤ xs.length := h
    have ih := way_errs xs bs (t + 1) (nxt s b) (by omega)
    rw [List.drop_eq_getElem_cons (show 2 * t < xs.length by omega), List.drop_eq_getElem_cons (show 2 * t + 1 < xs.length by omega)]
    show stepW xs t s b + way xs (t + 1) (nxt s b) bs = wrongB (outA s b) _ + (wrongB (outB s b) _ + errs (xs.drop (2 * t + 1 + 1)) (cod (nxt s b) bs))
    rw [ih, show 2 * (t + 1) = 2 * t + 1 + 1 by omega]
    unfold stepW
    rw [getD_at (show 2 * t < xs.length by omega), getD_at (show 2 * t + 1 < xs.length by omega)]
    omega
theorem wrongB_tri {x : Int} (hx : x ≠ 2) (c y : Int) : wrongB y c ≤ wrongB y x + wrongB c x := by
  unfold wrongB
  split <;> split <;> split <;> omega
theorem errs_tri : ∀ (xs cs ys : List Int), (∀ x ∈ xs, x ≠ 2) → xs.length = cs.length → cs.length = ys.length → errs cs ys ≤ errs xs ys + errs xs cs
  | [], [], ys, _, _, _ => by rw [errs_nil]; exact Int.le_refl _
  | x :: xs, c :: cs, y :: ys, hx, h1, h2 => by
    have ih := errs_tri xs cs ys (fun z hz => hx z (List.mem_cons_of_mem _ hz)) (by simpa using h1) (by simpa using h2)
    have := wrongB_tri (hx x (List.mem_cons_self ..)) c y
    show wrongB y c + errs cs ys ≤ wrongB y x + errs xs ys + (wrongB c x + errs xs cs)
    omega
theorem errs_self : ∀ xs : List Int, errs xs xs = 0
  | [] => rfl
  | x :: xs => by show wrongB x x + errs xs xs = 0; rw [errs_self xs]; unfold wrongB; simp
theorem errs_set : ∀ (xs cs : List Int) (k : Nat) (v : Int), errs (xs.set k v) cs ≤ errs xs cs + 1
  | [], cs, k, v => by simp only [List.set_nil, errs_nil]; decide
  | x :: xs, [], 0, v => by show (0 : Int) ≤ 0 + 1; decide
  | x :: xs, [], k + 1, v => by show (0 : Int) ≤ 0 + 1; decide
  | x :: xs, c :: cs, 0, v => by
    have := wrongB_bd c v; have := wrongB_bd c x
    show wrongB c v + errs xs cs ≤ wrongB c x + errs xs cs + 1; omega
  | x :: xs, c :: cs, k + 1, v => by
    have := errs_set xs cs k v
    show wrongB c x + errs (xs.set k v) cs ≤ wrongB c x + errs xs cs + 1; omega

/-- two ways from different states -/
def farS (s t : Int) : Int := if s = t then 0 else if s / 2 = t / 2 then 2 else 3
theorem far_step (s t b d : Int) (hs : s = 0 ∨ s = 1 ∨ s = 2 ∨ s = 3) (ht : t = 0 ∨ t = 1 ∨ t = 2 ∨ t = 3) (hb : b = 0 ∨ b = 1) (hd : d = 0 ∨ d = 1) :
    farS s t ≤ wrongB (outA t d) (outA s b) + wrongB (outB t d) (outB s b) + farS (nxt s b) (nxt t d) := by
  rcases hs with rfl | rfl | rfl | rfl <;> rcases ht with rfl | rfl | rfl | rfl <;> rcases hb with rfl | rfl <;> rcases hd with rfl | rfl <;> decide
theorem far_first (s b d : Int) (hs : s = 0 ∨ s = 1 ∨ s = 2 ∨ s = 3) (hb : b = 0 ∨ b = 1) (hd : d = 0 ∨ d = 1) (hne : b ≠ d) :
    5 ≤ wrongB (outA s d) (outA s b) + wrongB (outB s d) (outB s b) + farS (nxt s b) (nxt s d) := by
  rcases hs with rfl | rfl | rfl | rfl <;> rcases hb with rfl | rfl <;> rcases hd with rfl | rfl <;> revert hne <;> decide
theorem four_of {s : Int} (h : 0 ≤ s ∧ s ≤ 3) : s = 0 ∨ s = 1 ∨ s = 2 ∨ s = 3 := by omega
theorem okW_bit {b : Int} {bs : List Int} (h : okW (b :: bs)) : b = 0 ∨ b = 1 := by rcases h.1 with h | h; exact .inl h; exact .inr h.1
/-- a state that may stand r steps from the end -/
def stW (r : Nat) (s : Int) : Prop := 0 ≤ s ∧ s ≤ 3 ∧ (r = 1 → s ≤ 1) ∧ (r = 0 → s = 0)
theorem stW_next {s b : Int} {bs : List Int} (h : stW (b :: bs).length s) (k : okW (b :: bs)) : stW bs.length (nxt s b) := by
  have hb := okW_bit k
  obtain ⟨h0, h1, h2, _⟩ := h
  have n := nxt_bd h0 h1 (b := b) (by omega) (by omega)
  have hl : (b :: bs).length = bs.length + 1 := rfl
  rw [hl] at h2
  refine ⟨n.1, n.2, fun e => ?_, fun e => ?_⟩
  · rcases k.1 with rfl | ⟨_, h3⟩
    · unfold nxt; omega
    · omega
  · rcases k.1 with rfl | ⟨_, h3⟩
    · have := h2 (by omega); unfold nxt; omega
    · omega
theorem dist_ge : ∀ (bs cs : List Int) (s t : Int), bs.length = cs.length → okW bs → okW cs → stW bs.length s → stW cs.length t → farS s t ≤ errs (cod s bs) (cod t cs)
  | [], [], s, t, _, _, _, h1, h2 => by
    have := h1.2.2.2 rfl; have := h2.2.2.2 rfl
    subst s; subst t; decide
  | b :: bs, d :: cs, s, t, hl, k1, k2, h1, h2 => by
    have ih := dist_ge bs cs (nxt s b) (nxt t d) (by simpa using hl) k1.2 k2.2 (stW_next h1 k1) (stW_next h2 k2)
    have := far_step s t b d (four_of ⟨h1.1, h1.2.1⟩) (four_of ⟨h2.1, h2.2.1⟩) (okW_bit k1) (okW_bit k2)
    show farS s t ≤ wrongB (outA t d) (outA s b) + (wrongB (outB t d) (outB s b) + errs (cod (nxt s b) bs) (cod (nxt t d) cs))
    omega
theorem dist_five : ∀ (bs cs : List Int) (s : Int), bs.length = cs.length → okW bs → okW cs → stW bs.length s → bs ≠ cs → 5 ≤ errs (cod s bs) (cod s cs)
  | [], [], s, _, _, _, _, h => absurd rfl h
  | b :: bs, d :: cs, s, hl, k1, k2, h1, hne => by
    have hl' : bs.length = cs.length := by simpa using hl
    have h2 : stW (d :: cs).length s := by rw [← hl]; exact h1
    show 5 ≤ wrongB (outA s d) (outA s b) + (wrongB (outB s d) (outB s b) + errs (cod (nxt s b) bs) (cod (nxt s d) cs))
    by_cases e : b = d
    · subst e
      have := dist_five bs cs (nxt s b) hl' k1.2 k2.2 (stW_next h1 k1) (fun c => hne (by rw [c]))
      have := wrongB_bd (outA s b) (outA s b); have := wrongB_bd (outB s b) (outB s b)
      omega
    · have := dist_ge bs cs (nxt s b) (nxt s d) hl' k1.2 k2.2 (stW_next h1 k1) (stW_next h2 k2)
      have := far_first s b d (four_of ⟨h1.1, h1.2.1⟩) (okW_bit k1) (okW_bit k2) e
      omega

/-- the state behind bits -/
def stEnd (s : Int) (bs : List Int) : Int := bs.foldl nxt s
theorem cod_snoc : ∀ (bs : List Int) (s b : Int), cod s (bs ++ [b]) = cod s bs ++ [outA (stEnd s bs) b, outB (stEnd s bs) b]
  | [], s, b => rfl
  | d :: bs, s, b => by
    show outA s d :: outB s d :: cod (nxt s d) (bs ++ [b]) = outA s d :: outB s d :: (cod (nxt s d) bs ++ [outA (stEnd (nxt s d) bs) b, outB (stEnd (nxt s d) bs) b])
    rw [cod_snoc bs]
theorem way_append (xs : List Int) : ∀ (bs cs : List Int) (t : Nat) (s : Int), way xs t s (bs ++ cs) = way xs t s bs + way xs (t + bs.length) (stEnd s bs) cs
  | [], cs, t, s => by show way xs t s cs = 0 + way xs t s cs; omega
  | b :: bs, cs, t, s => by
    show stepW xs t s b + way xs (t + 1) (nxt s b) (bs ++ cs) = stepW xs t s b + way xs (t + 1) (nxt s b) bs + way xs (t + (bs.length + 1)) (stEnd (nxt s b) bs) cs
    rw [way_append xs bs cs (t + 1) (nxt s b), show t + 1 + bs.length = t + (bs.length + 1) by omega]
    omega
/-- the message with its two zeros -/
def msg0 (ms : List Int) : List Int := ms ++ [0, 0]
theorem msg0_length (ms : List Int) : (msg0 ms).length = ms.length + 2 := by unfold msg0; simp
theorem msg0_at (ms : List Int) {k : Nat} (h : k < (msg0 ms).length) : (msg0 ms)[k] = ms.getD k 0 := by
  rw [← getD_at h]; exact getD_zeros ms k
theorem encSt_end (ms : List Int) : ∀ k, k ≤ ms.length + 2 → stEnd 0 ((msg0 ms).take k) = encSt ms k
  | 0, _ => rfl
  | k + 1, h => by
    have hl : k < (msg0 ms).length := by rw [msg0_length]; omega
    rw [List.take_succ_eq_append_getElem hl, msg0_at]
    unfold stEnd
    rw [List.foldl_append]
    have := encSt_end ms k (by omega)
    unfold stEnd at this
    rw [this]; rfl
theorem codeTo_cod (ms : List Int) : ∀ k, k ≤ ms.length + 2 → codeTo ms k = cod 0 ((msg0 ms).take k)
  | 0, _ => rfl
  | k + 1, h => by
    have hl : k < (msg0 ms).length := by rw [msg0_length]; omega
    rw [codeTo_succ, List.take_succ_eq_append_getElem hl, msg0_at, cod_snoc, codeTo_cod ms k (by omega), encSt_end ms k (by omega)]
theorem enc_cod (ms : List Int) : enc ms = cod 0 (msg0 ms) := by
  unfold enc
  rw [codeTo_cod ms _ (Nat.le_refl _), List.take_of_length_le (by rw [msg0_length]; exact Nat.le_refl _)]
theorem okW_msg : ∀ ms : List Int, allIn ms 0 1 = true → okW (msg0 ms)
  | [], _ => ⟨.inl rfl, .inl rfl, trivial⟩
  | b :: ms, h => by
    have hb := allIn_true h (List.mem_cons_self ..)
    have h' : allIn ms 0 1 = true := by
      unfold allIn at h ⊢
      rw [List.all_cons, Bool.and_eq_true] at h
      exact h.2
    refine ⟨?_, okW_msg ms h'⟩
    have : (ms ++ [0, 0]).length = ms.length + 2 := by simp
    rcases (show b = 0 ∨ b = 1 by omega) with h | h
    · exact .inl h
    · exact .inr ⟨h, by show 2 ≤ (ms ++ [0, 0]).length; rw [this]; omega⟩

theorem decSt_end (xs : List Int) (n : Nat) : ∀ k, stEnd 0 (dec xs n k) = decSt xs n k
  | 0 => rfl
  | k + 1 => by
    have e : dec xs n (k + 1) = dec xs n k ++ [decBit xs n k (decSt xs n k)] := range_map_snoc _ k
    rw [e]
    unfold stEnd
    rw [List.foldl_append]
    have := decSt_end xs n k
    unfold stEnd at this
    rw [this]; rfl
theorem dec_way (xs : List Int) (n : Nat) : ∀ k, k + 2 ≤ n → way xs 0 0 (dec xs n k) + (vit xs n (n - k) (decSt xs n k)).1 = (vit xs n n 0).1
  | 0, _ => by show 0 + (vit xs n n 0).1 = _; omega
  | k + 1, h => by
    have e : dec xs n (k + 1) = dec xs n k ++ [decBit xs n k (decSt xs n k)] := range_map_snoc _ k
    have ih := dec_way xs n k (by omega)
    have hw : way xs 0 0 (dec xs n k ++ [decBit xs n k (decSt xs n k)]) = way xs 0 0 (dec xs n k) + (stepW xs k (decSt xs n k) (decBit xs n k (decSt xs n k)) + 0) := by
      rw [way_append, decSt_end, dec_length, Nat.zero_add]; rfl
    have hs : decSt xs n (k + 1) = nxt (decSt xs n k) (decBit xs n k (decSt xs n k)) := rfl
    rw [e, hw, hs]
    have hb : stepW xs k (decSt xs n k) (decBit xs n k (decSt xs n k)) + (vit xs n (n - (k + 1)) (nxt (decSt xs n k) (decBit xs n k (decSt xs n k)))).1 = (vit xs n (n - k) (decSt xs n k)).1 := by
      unfold decBit
      split
      · assumption
      · next hc => exact dec_one xs n k _ (by omega) hc
    omega
theorem dec_best (xs : List Int) (n : Nat) (h : 2 ≤ n) : way xs 0 0 (msg0 (dec xs n (n - 2))) = (vit xs n n 0).1 := by
  have := dec_way xs n (n - 2) (by omega)
  unfold msg0
  rw [way_append, decSt_end, dec_length, Nat.zero_add]
  rw [show n - (n - 2) = 2 by omega] at this
  rw [← this]
  have e1 : n - (1 + 1) = n - 2 := rfl
  have e2 : n - (0 + 1) = n - 2 + 1 := by omega
  rw [show (2 : Nat) = 1 + 1 from rfl, vit_succ, if_neg (by omega), vit_succ, if_neg (by omega)]
  simp only [way, vit, e2]
  try omega

/-- the errors of a message -/
def errN (xs ms : List Int) : Int := diffs xs (enc ms) (2 * (ms.length + 2))
theorem diffs_cons (x y : Int) (xs ys : List Int) (k : Nat) : diffs (x :: xs) (y :: ys) (k + 1) = wrongB y x + diffs xs ys k := by
  unfold diffs
  rw [List.range_succ_eq_map, List.map_cons, List.sum_cons, List.map_map]
  rfl
theorem errs_diffs : ∀ xs ys : List Int, ys.length ≤ xs.length → errs xs ys = diffs xs ys ys.length
  | xs, [], _ => by cases xs <;> rfl
  | x :: xs, y :: ys, h => by
    have := errs_diffs xs ys (by simpa using h)
    rw [List.length_cons, diffs_cons, ← this]
    rfl
theorem errN_way {xs ms : List Int} (h : xs.length = 2 * (ms.length + 2)) : errN xs ms = way xs 0 0 (msg0 ms) := by
  rw [way_errs xs _ 0 0 (by rw [msg0_length]; omega), ← enc_cod, Nat.mul_zero, List.drop_zero, errs_diffs _ _ (by rw [enc_length]; omega), enc_length]
  rfl
theorem errN_least {xs ms : List Int} {m : Nat} (h : xs.length = 2 * m) (hm : m = ms.length + 2) (hb : allIn ms 0 1 = true) : (vit xs m m 0).1 ≤ errN xs ms := by
  subst hm
  rw [errN_way h]
  have := vit_le xs (ms.length + 2) (ms.length + 2) 0 (msg0 ms) (okW_msg ms hb) (msg0_length ms) (Nat.le_refl _)
  rwa [Nat.sub_self] at this
theorem errN_dec {xs : List Int} {m : Nat} (h : xs.length = 2 * m) (hm : 2 ≤ m) : errN xs (dec xs m (m - 2)) = (vit xs m m 0).1 := by
  rw [errN_way (by rw [dec_length]; omega), dec_best xs m hm]

/-- at most two wrong bits -/
theorem corrected {xs ms : List Int} {m : Nat} (h : xs.length = 2 * m) (hm : m = ms.length + 2) (hb : allIn ms 0 1 = true) (hx : allIn xs 0 1 = true) (he : errs xs (enc ms) ≤ 2) :
    dec xs m (m - 2) = ms ∧ (vit xs m m 0).2 = 1 := by
  subst hm
  have hok := okW_msg ms hb
  have hx2 : ∀ x ∈ xs, x ≠ 2 := fun x hx' => by have := allIn_true hx hx'; omega
  have hst : ∀ k : Nat, stW k 0 := fun k => ⟨by decide, by decide, fun _ => by decide, fun _ => rfl⟩
  have hu : ∀ cs, okW cs → cs.length = ms.length + 2 → cs ≠ msg0 ms → way xs 0 0 (msg0 ms) < way xs 0 0 cs := fun cs hc lc ne => by
    rw [way_errs xs _ 0 0 (by rw [msg0_length]; omega), way_errs xs cs 0 0 (by omega), ← enc_cod, Nat.mul_zero, List.drop_zero]
    have h5 := dist_five (msg0 ms) cs 0 (by rw [msg0_length, lc]) hok hc (hst _) (fun c => ne c.symm)
    rw [← enc_cod] at h5
    have ht := errs_tri xs (enc ms) (cod 0 cs) hx2 (by rw [enc_length]; omega) (by rw [enc_length, cod_length]; omega)
    omega
  have hv := vit_single xs (ms.length + 2) (ms.length + 2) 0 (msg0 ms) hok (msg0_length ms) (Nat.le_refl _) (by rw [Nat.sub_self]; exact hu)
  rw [Nat.sub_self] at hv
  refine ⟨?_, by rw [hv]⟩
  have hd := dec_best xs (ms.length + 2) (by omega)
  rw [hv] at hd
  simp only at hd
  have hdb := okW_msg _ (dec_bits xs (ms.length + 2) (ms.length + 2 - 2))
  by_cases e : msg0 (dec xs (ms.length + 2) (ms.length + 2 - 2)) = msg0 ms
  · unfold msg0 at e
    exact List.append_cancel_right e
  · have := hu _ hdb (by rw [msg0_length, dec_length]; omega) e
    omega
end Go.Proofs.Ytlgmdekhlcbhoaa
