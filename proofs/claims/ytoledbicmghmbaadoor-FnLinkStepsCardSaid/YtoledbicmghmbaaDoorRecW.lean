/- The line of a record, both sides. Condition: the library's table of powers of ten is as it is laid. -/
import Derived.Test.YtoledbicmghmbaaDoorRecP
import Derived.Test.YtoledbicmghmbaaDoorStB
namespace Go.Proofs.YtoledbicmghmbaaDoor
open Go.RowKit

theorem own_lit2 (w : World) (a b : Int) (e : TypeId) : (w.alloc (.cells #[.int .i64 a, .int .i64 b] e)).ownsRow w.heap.size e 1 (.slice (some ⟨w.heap.size, 0, none⟩) 2 2) 2 (ints [a, b]) :=
  ⟨rfl, .inr ⟨w.heap.size, 2, #[.int .i64 a, .int .i64 b], rfl, Nat.le_refl _, heap_alloc_new w _, Nat.le_refl _, by unfold maxLen; omega, rfl, rfl⟩⟩
theorem blk_drewS {w : World} {g : Nat} {t : TypeId} {cs : Array Value} (h : Blk w g t cs) : Blk w.drew g t cs := h
theorem rd_litS (w : World) (xs : List Int) (e : TypeId) (n : Nat) (hn : xs.length = n) : Rd (w.alloc (.cells (ints xs).toArray e)) (some ⟨w.heap.size, 0, none⟩) n (ints xs) := by
  subst hn
  refine ⟨by simp [ints], fun _ => ⟨_, rfl, fun i hi => ?_⟩⟩
  rw [add_lit, (Blk.new w e (ints xs).toArray).cell]
  simp
theorem tx_len {f : R7} (h : f.ok = true) : f.tx.length ≤ 200 := by
  have h1 := R7.of_ns h
  have h2 := joinI_len [32] f.ns (fun x hx => by have := h1.2.1 x hx; omega)
  have h3 : f.ns.length ≤ 6 := by
    unfold R7.ns
    split
    · simp
    · split <;> simp
  have h4 := Nat.mul_le_mul_right ([32].length + 21) h3
  unfold R7.tx
  simp at h4 h2 ⊢
  omega
theorem ln_len {f : R7} (h : f.ok = true) : f.ln.length ≤ 300 := by
  have h1 := tx_len h
  have h2 := chkFold_bd f.tx
  have h3 := itoa_len (chkFold f.tx) (by omega) (by omega)
  unfold R7.ln
  simp
  omega
def R7.V (f : R7) : Value := .agg #[.int .i64 f.t, .int .i64 f.k, .int .i64 f.l, .int .i64 f.x, .int .i64 f.y, .int .i64 f.d, .int .i64 f.r]

set_option maxRecDepth 100000 in
set_option maxHeartbeats 4000000 in
theorem recordLine_any (f : R7) (w : World) (hf : f.ok = true) (T : TabW w) :
    Calls Tryd.prog 65 #[f.V] w fun e w' => e = .returned (.string ⟨f.ln.toArray⟩) ∧ Below w.heap.size w w' := by
  obtain ⟨-, hc⟩ := R7.cases hf
  obtain ⟨t, k, l, x, y, d, r⟩ := f
  unfold R7.V
  simp only at hc ⊢
  have hk : k = 1 ∨ k = 2 ∨ k = 3 := by omega
  clear hc
  rcases hk with rfl | rfl | rfl
  · have HNS : Hid ((⟨t, 1, l, x, y, d, r⟩ : R7).tx = joinI [32] [t, 1, l]) := rfl
    have HTL := Lib.hid (tx_len hf)
    have HLN : Hid ((⟨t, 1, l, x, y, d, r⟩ : R7).ln = (⟨t, 1, l, x, y, d, r⟩ : R7).tx ++ [32, 35] ++ Lib.itoa (chkFold (⟨t, 1, l, x, y, d, r⟩ : R7).tx)) := rfl
    have HBD : Hid (∀ z ∈ [t, 1, l], -9223372036854775808 < z ∧ z ≤ 9223372036854775807) := fun z hz => by
      have := (R7.of_ns hf).2.1 z hz
      omega
    generalize (⟨t, 1, l, x, y, d, r⟩ : R7).ln = LN at *
    generalize (⟨t, 1, l, x, y, d, r⟩ : R7).tx = TX at *
    have b0 : Below w.heap.size w (w.alloc (.cells #[.int .i64 t, .int .i64 1, .int .i64 l, .int .i64 x, .int .i64 y, .int .i64 d, .int .i64 r] 29)) := (Below.refl _ _).alloc (Nat.le_refl _) _
    have K0 := Blk.new w 29 #[.int .i64 t, .int .i64 1, .int .i64 l, .int .i64 x, .int .i64 y, .int .i64 d, .int .i64 r]
    clear hf
    go_enter Tryd.func65, Tryd.ntmps65
    go_upto_region 1 with fail
    generalize w.alloc (.cells #[.int .i64 t, .int .i64 1, .int .i64 l, .int .i64 x, .int .i64 y, .int .i64 d, .int .i64 r] 29) = w0 at b0 K0 ⊢
    have T0 := T.below b0
    have c0 := fun o => K0.cell o
    have g0 := K0.lt
    have z0 := b0.size
    have hown := own_lit2 w0 t 1 2
    have b1 : Below w.heap.size w (w0.alloc (.cells #[.int .i64 t, .int .i64 1] 2)) := b0.alloc z0 _
    have KZ := fun (z : Array Value) => blk_drewS (Blk.new2 w0 (.cells #[.int .i64 t, .int .i64 1] 2) (.cells #[.int .i64 l] 2) 2 (#[.int .i64 t, .int .i64 1, .int .i64 l] ++ z))
    have BZ := fun (z : Array Value) => (show Below w.heap.size w (((w0.alloc (.cells #[.int .i64 t, .int .i64 1] 2)).alloc (.cells #[.int .i64 l] 2)).alloc (.cells (#[.int .i64 t, .int .i64 1, .int .i64 l] ++ z) 2)).drew from (by (repeat (first | (with_reducible assumption) | (with_reducible exact Below.refl _ _) | (with_reducible refine Below.drew ?_) | (with_reducible refine Below.drewN ?_ _) | (with_reducible refine Below.setCell ?_ ?_ _) | (with_reducible refine Below.alloc ?_ ?_ _) | assumption)); all_goals (first | omega | (simp; done) | (simp; omega))))
    clear b1 hown
    go_wp2_with fail
    generalize (Question.appendCap 3 2 2).cut (w0.tape w0.drawn (Question.appendCap 3 2 2)) = cc
    generalize Builtin.zeroCells #[Value.int .i64 0] (cc - 3) = zz
    have hrd := Blk.rd (n := 3) (us := ints [t, 1, l]) (KZ zz) rfl (fun i hi => by
      rw [Array.getElem?_append_left (show i < (#[Value.int .i64 t, .int .i64 1, .int .i64 l] : Array Value).size from hi)]
      match i, hi with
      | 0, _ => rfl
      | 1, _ => rfl
      | 2, _ => rfl)
    have b2 := BZ zz
    clear KZ BZ
    refine (join_any _ 3 _ [t, 1, l] [32] _ (by omega) (by decide) hrd HBD.out (T.below b2)).mono ?_
    rw [← HNS.out]
    rintro e w2 ⟨rfl, b3⟩
    have b4 := b2.trans (b3.mono b2.size)
    have htl := HTL.out
    have hbd := chkFold_bd TX
    have hls := str_size TX
    go_wp2_with fail
    refine (implCheckNumber_any ⟨TX.toArray⟩ _ (by rw [hls]; unfold maxLen; omega)).mono ?_
    rintro e w3 ⟨rfl, rfl⟩
    go_wp2_with fail
    refine (decimal_any (chkFold TX) _ (by omega) (by omega) (T.below b4)).mono ?_
    rintro e w4 ⟨rfl, b5⟩
    have b6 := b4.trans (b5.mono b4.size)
    have hA := str_add TX [32, 35]
    have hil := itoa_len (chkFold TX) (by omega) (by omega)
    go_wp2_with fail
    go_ret
    exact ⟨by rw [HLN.out, ← str_add, ← str_add]; first | rfl | (rw [hA]), b6⟩
  · have HNS : Hid ((⟨t, 2, l, x, y, d, r⟩ : R7).tx = joinI [32] [t, 2, x, y, d, r]) := rfl
    have HTL := Lib.hid (tx_len hf)
    have HLN : Hid ((⟨t, 2, l, x, y, d, r⟩ : R7).ln = (⟨t, 2, l, x, y, d, r⟩ : R7).tx ++ [32, 35] ++ Lib.itoa (chkFold (⟨t, 2, l, x, y, d, r⟩ : R7).tx)) := rfl
    have HBD : Hid (∀ z ∈ [t, 2, x, y, d, r], -9223372036854775808 < z ∧ z ≤ 9223372036854775807) := fun z hz => by
      have := (R7.of_ns hf).2.1 z hz
      omega
    generalize (⟨t, 2, l, x, y, d, r⟩ : R7).ln = LN at *
    generalize (⟨t, 2, l, x, y, d, r⟩ : R7).tx = TX at *
    have b0 : Below w.heap.size w (w.alloc (.cells #[.int .i64 t, .int .i64 2, .int .i64 l, .int .i64 x, .int .i64 y, .int .i64 d, .int .i64 r] 29)) := (Below.refl _ _).alloc (Nat.le_refl _) _
    have K0 := Blk.new w 29 #[.int .i64 t, .int .i64 2, .int .i64 l, .int .i64 x, .int .i64 y, .int .i64 d, .int .i64 r]
    clear hf
    go_enter Tryd.func65, Tryd.ntmps65
    go_upto_region 1 with fail
    generalize w.alloc (.cells #[.int .i64 t, .int .i64 2, .int .i64 l, .int .i64 x, .int .i64 y, .int .i64 d, .int .i64 r] 29) = w0 at b0 K0 ⊢
    have T0 := T.below b0
    have c0 := fun o => K0.cell o
    have g0 := K0.lt
    have z0 := b0.size
    have hown := own_lit2 w0 t 2 2
    have b1 : Below w.heap.size w (w0.alloc (.cells #[.int .i64 t, .int .i64 2] 2)) := b0.alloc z0 _
    have hz1 : w0.heap.size ≤ (w0.alloc (.cells #[.int .i64 t, .int .i64 2] 2)).heap.size := by simp
    have hrd4 : Rd ((w0.alloc (.cells #[.int .i64 t, .int .i64 2] 2)).alloc (.cells #[.int .i64 x, .int .i64 y, .int .i64 d, .int .i64 r] 2)) (some ⟨w0.heap.size + 1, 0, none⟩) 4 (ints [x, y, d, r]) := by
      have h := rd_litS (w0.alloc (.cells #[.int .i64 t, .int .i64 2] 2)) [x, y, d, r] 2 4 rfl
      rw [size_alloc1] at h
      exact h
    go_wp2_with (at_builtin; refine wpList_append_ints rfl _ _ rfl w0.heap.size _ 2 [t, 2] [x, y, d, r] _ 4 4 rfl rfl (hown.alloc _) hrd4 (by omega) (by simp; omega) ?_; intro v1 w1 hown1 hbel1 _ _)
    obtain ⟨B, cc, rfl, hrd, -, -, -⟩ := own_rd hown1
    have b2 := b1.trans ((((Below.refl _ _).alloc hz1 _).trans hbel1).mono z0)
    go_wp2_with fail
    refine (join_any _ 6 _ [t, 2, x, y, d, r] [32] _ (by omega) (by decide) hrd HBD.out (T.below b2)).mono ?_
    rw [← HNS.out]
    rintro e w2 ⟨rfl, b3⟩
    have b4 := b2.trans (b3.mono b2.size)
    have htl := HTL.out
    have hbd := chkFold_bd TX
    have hls := str_size TX
    go_wp2_with fail
    refine (implCheckNumber_any ⟨TX.toArray⟩ _ (by rw [hls]; unfold maxLen; omega)).mono ?_
    rintro e w3 ⟨rfl, rfl⟩
    go_wp2_with fail
    refine (decimal_any (chkFold TX) _ (by omega) (by omega) (T.below b4)).mono ?_
    rintro e w4 ⟨rfl, b5⟩
    have b6 := b4.trans (b5.mono b4.size)
    have hA := str_add TX [32, 35]
    have hil := itoa_len (chkFold TX) (by omega) (by omega)
    go_wp2_with fail
    go_ret
    exact ⟨by rw [HLN.out, ← str_add, ← str_add]; first | rfl | (rw [hA]), b6⟩
  · have HNS : Hid ((⟨t, 3, l, x, y, d, r⟩ : R7).tx = joinI [32] [t, 3]) := rfl
    have HTL := Lib.hid (tx_len hf)
    have HLN : Hid ((⟨t, 3, l, x, y, d, r⟩ : R7).ln = (⟨t, 3, l, x, y, d, r⟩ : R7).tx ++ [32, 35] ++ Lib.itoa (chkFold (⟨t, 3, l, x, y, d, r⟩ : R7).tx)) := rfl
    have HBD : Hid (∀ z ∈ [t, 3], -9223372036854775808 < z ∧ z ≤ 9223372036854775807) := fun z hz => by
      have := (R7.of_ns hf).2.1 z hz
      omega
    generalize (⟨t, 3, l, x, y, d, r⟩ : R7).ln = LN at *
    generalize (⟨t, 3, l, x, y, d, r⟩ : R7).tx = TX at *
    have b0 : Below w.heap.size w (w.alloc (.cells #[.int .i64 t, .int .i64 3, .int .i64 l, .int .i64 x, .int .i64 y, .int .i64 d, .int .i64 r] 29)) := (Below.refl _ _).alloc (Nat.le_refl _) _
    have K0 := Blk.new w 29 #[.int .i64 t, .int .i64 3, .int .i64 l, .int .i64 x, .int .i64 y, .int .i64 d, .int .i64 r]
    clear hf
    go_enter Tryd.func65, Tryd.ntmps65
    go_upto_region 1 with fail
    generalize w.alloc (.cells #[.int .i64 t, .int .i64 3, .int .i64 l, .int .i64 x, .int .i64 y, .int .i64 d, .int .i64 r] 29) = w0 at b0 K0 ⊢
    have T0 := T.below b0
    have c0 := fun o => K0.cell o
    have g0 := K0.lt
    have z0 := b0.size
    have hown := own_lit2 w0 t 3 2
    have b1 : Below w.heap.size w (w0.alloc (.cells #[.int .i64 t, .int .i64 3] 2)) := b0.alloc z0 _
    obtain ⟨B, cc, hv, hrd, -, -, -⟩ := own_rd hown
    injection hv with hv1 hv2 hv3
    subst hv1 hv3
    have b2 := b1
    go_wp2_with fail
    refine (join_any _ 2 _ [t, 3] [32] _ (by omega) (by decide) hrd HBD.out (T.below b2)).mono ?_
    rw [← HNS.out]
    rintro e w2 ⟨rfl, b3⟩
    have b4 := b2.trans (b3.mono b2.size)
    have htl := HTL.out
    have hbd := chkFold_bd TX
    have hls := str_size TX
    go_wp2_with fail
    refine (implCheckNumber_any ⟨TX.toArray⟩ _ (by rw [hls]; unfold maxLen; omega)).mono ?_
    rintro e w3 ⟨rfl, rfl⟩
    go_wp2_with fail
    refine (decimal_any (chkFold TX) _ (by omega) (by omega) (T.below b4)).mono ?_
    rintro e w4 ⟨rfl, b5⟩
    have b6 := b4.trans (b5.mono b4.size)
    have hA := str_add TX [32, 35]
    have hil := itoa_len (chkFold TX) (by omega) (by omega)
    go_wp2_with fail
    go_ret
    exact ⟨by rw [HLN.out, ← str_add, ← str_add]; first | rfl | (rw [hA]), b6⟩
set_option maxRecDepth 100000 in
set_option maxHeartbeats 4000000 in
theorem specRecordLine_yes (f : R7) (w : World) (hf : f.ok = true) :
    Calls Tryd.prog 11 #[f.V] w fun e w' => e = .returned (.string ⟨f.ln.toArray⟩) ∧ Below w.heap.size w w' := by
  obtain ⟨-, hc⟩ := R7.cases hf
  obtain ⟨t, k, l, x, y, d, r⟩ := f
  unfold R7.V
  simp only at hc ⊢
  have hk : k = 1 ∨ k = 2 ∨ k = 3 := by omega
  have HOK : Hid (recB t k l x y d r = true) := hf
  clear hc
  have K0 := Blk.new w 29 #[.int .i64 t, .int .i64 k, .int .i64 l, .int .i64 x, .int .i64 y, .int .i64 d, .int .i64 r]
  have ba : Below w.heap.size w (w.alloc (.cells #[.int .i64 t, .int .i64 k, .int .i64 l, .int .i64 x, .int .i64 y, .int .i64 d, .int .i64 r] 29)) := (Below.refl _ _).alloc (Nat.le_refl _) _
  go_enter Tryd.func11, Tryd.ntmps11
  go_wp2_with fail
  refine (specIsRecord_any t k l x y d r _).mono ?_
  rw [HOK.out]
  rintro e w0 ⟨rfl, bb⟩
  have b0 := ba.trans (bb.mono ba.size)
  have K0 := K0.below bb K0.lt
  clear ba bb HOK
  rcases hk with rfl | rfl | rfl
  · have HNS : Hid ((⟨t, 1, l, x, y, d, r⟩ : R7).tx = joinI [32] [t, 1, l]) := rfl
    have HTL := Lib.hid (tx_len hf)
    have HLN : Hid ((⟨t, 1, l, x, y, d, r⟩ : R7).ln = (⟨t, 1, l, x, y, d, r⟩ : R7).tx ++ [32, 35] ++ Lib.itoa (chkFold (⟨t, 1, l, x, y, d, r⟩ : R7).tx)) := rfl
    have HBD : Hid (∀ z ∈ [t, 1, l], -9223372036854775808 < z ∧ z ≤ 9223372036854775807) := fun z hz => by
      have := (R7.of_ns hf).2.1 z hz
      omega
    generalize (⟨t, 1, l, x, y, d, r⟩ : R7).tx = TX at *
    have c0 := fun o => K0.cell o
    have g0 := K0.lt
    have z0 := b0.size
    have hown := own_lit2 w0 t 1 2
    have b1 : Below w.heap.size w (w0.alloc (.cells #[.int .i64 t, .int .i64 1] 2)) := b0.alloc z0 _
    have KZ := fun (z : Array Value) => blk_drewS (Blk.new2 w0 (.cells #[.int .i64 t, .int .i64 1] 2) (.cells #[.int .i64 l] 2) 2 (#[.int .i64 t, .int .i64 1, .int .i64 l] ++ z))
    have BZ := fun (z : Array Value) => (show Below w.heap.size w (((w0.alloc (.cells #[.int .i64 t, .int .i64 1] 2)).alloc (.cells #[.int .i64 l] 2)).alloc (.cells (#[.int .i64 t, .int .i64 1, .int .i64 l] ++ z) 2)).drew from (by (repeat (first | (with_reducible assumption) | (with_reducible exact Below.refl _ _) | (with_reducible refine Below.drew ?_) | (with_reducible refine Below.drewN ?_ _) | (with_reducible refine Below.setCell ?_ ?_ _) | (with_reducible refine Below.alloc ?_ ?_ _) | assumption)); all_goals (first | omega | (simp; done) | (simp; omega))))
    clear b1 hown
    go_wp2_with fail
    generalize (Question.appendCap 3 2 2).cut (w0.tape w0.drawn (Question.appendCap 3 2 2)) = cc
    generalize Builtin.zeroCells #[Value.int .i64 0] (cc - 3) = zz
    have hrd := Blk.rd (n := 3) (us := ints [t, 1, l]) (KZ zz) rfl (fun i hi => by
      rw [Array.getElem?_append_left (show i < (#[Value.int .i64 t, .int .i64 1, .int .i64 l] : Array Value).size from hi)]
      match i, hi with
      | 0, _ => rfl
      | 1, _ => rfl
      | 2, _ => rfl)
    have b2 := BZ zz
    clear KZ BZ
    refine (l01Join_any _ 3 _ [t, 1, l] [32] _ (by omega) (by decide) hrd HBD.out).mono ?_
    rw [← HNS.out]
    rintro e w2 ⟨rfl, b3⟩
    have b4 := b2.trans (b3.mono b2.size)
    have htl := HTL.out
    have hbd := chkFold_bd TX
    have hls := str_size TX
    go_wp2_with fail
    refine (specCheckNumber_any ⟨TX.toArray⟩ _ (by rw [hls]; unfold maxLen; omega)).mono ?_
    rintro e w3 ⟨rfl, rfl⟩
    have HDD : Hid (Lib.itoa (chkFold TX) = Lib.decDigits (chkFold TX).toNat) := itoa_pos hbd.1
    obtain ⟨m, hm⟩ : ∃ m : Nat, chkFold TX = (m : Int) := ⟨(chkFold TX).toNat, by omega⟩
    rw [hm] at HLN HDD hbd ⊢
    have HD2 := HDD.out
    rw [Int.toNat_natCast] at HD2
    have HDD := Lib.hid HD2
    clear HD2
    go_wp2_with fail
    refine (l01Dec_any m _ (by omega)).mono ?_
    rw [← HDD.out]
    rintro e w4 ⟨rfl, b5⟩
    have b6 := b4.trans (b5.mono b4.size)
    have hA := str_add TX [32, 35]
    have hil := itoa_len (m : Int) (by omega) (by omega)
    go_wp2_with fail
    go_ret
    exact ⟨by rw [HLN.out, ← str_add, ← str_add]; first | rfl | (rw [hA]), b6⟩
  · have HNS : Hid ((⟨t, 2, l, x, y, d, r⟩ : R7).tx = joinI [32] [t, 2, x, y, d, r]) := rfl
    have HTL := Lib.hid (tx_len hf)
    have HLN : Hid ((⟨t, 2, l, x, y, d, r⟩ : R7).ln = (⟨t, 2, l, x, y, d, r⟩ : R7).tx ++ [32, 35] ++ Lib.itoa (chkFold (⟨t, 2, l, x, y, d, r⟩ : R7).tx)) := rfl
    have HBD : Hid (∀ z ∈ [t, 2, x, y, d, r], -9223372036854775808 < z ∧ z ≤ 9223372036854775807) := fun z hz => by
      have := (R7.of_ns hf).2.1 z hz
      omega
    generalize (⟨t, 2, l, x, y, d, r⟩ : R7).tx = TX at *
    have c0 := fun o => K0.cell o
    have g0 := K0.lt
    have z0 := b0.size
    have hown := own_lit2 w0 t 2 2
    have b1 : Below w.heap.size w (w0.alloc (.cells #[.int .i64 t, .int .i64 2] 2)) := b0.alloc z0 _
    have hz1 : w0.heap.size ≤ (w0.alloc (.cells #[.int .i64 t, .int .i64 2] 2)).heap.size := by simp
    have hrd4 : Rd ((w0.alloc (.cells #[.int .i64 t, .int .i64 2] 2)).alloc (.cells #[.int .i64 x, .int .i64 y, .int .i64 d, .int .i64 r] 2)) (some ⟨w0.heap.size + 1, 0, none⟩) 4 (ints [x, y, d, r]) := by
      have h := rd_litS (w0.alloc (.cells #[.int .i64 t, .int .i64 2] 2)) [x, y, d, r] 2 4 rfl
      rw [size_alloc1] at h
      exact h
    go_wp2_with (at_builtin; refine wpList_append_ints rfl _ _ rfl w0.heap.size _ 2 [t, 2] [x, y, d, r] _ 4 4 rfl rfl (hown.alloc _) hrd4 (by omega) (by simp; omega) ?_; intro v1 w1 hown1 hbel1 _ _)
    obtain ⟨B, cc, rfl, hrd, -, -, -⟩ := own_rd hown1
    have b2 := b1.trans ((((Below.refl _ _).alloc hz1 _).trans hbel1).mono z0)
    go_wp2_with fail
    refine (l01Join_any _ 6 _ [t, 2, x, y, d, r] [32] _ (by omega) (by decide) hrd HBD.out).mono ?_
    rw [← HNS.out]
    rintro e w2 ⟨rfl, b3⟩
    have b4 := b2.trans (b3.mono b2.size)
    have htl := HTL.out
    have hbd := chkFold_bd TX
    have hls := str_size TX
    go_wp2_with fail
    refine (specCheckNumber_any ⟨TX.toArray⟩ _ (by rw [hls]; unfold maxLen; omega)).mono ?_
    rintro e w3 ⟨rfl, rfl⟩
    have HDD : Hid (Lib.itoa (chkFold TX) = Lib.decDigits (chkFold TX).toNat) := itoa_pos hbd.1
    obtain ⟨m, hm⟩ : ∃ m : Nat, chkFold TX = (m : Int) := ⟨(chkFold TX).toNat, by omega⟩
    rw [hm] at HLN HDD hbd ⊢
    have HD2 := HDD.out
    rw [Int.toNat_natCast] at HD2
    have HDD := Lib.hid HD2
    clear HD2
    go_wp2_with fail
    refine (l01Dec_any m _ (by omega)).mono ?_
    rw [← HDD.out]
    rintro e w4 ⟨rfl, b5⟩
    have b6 := b4.trans (b5.mono b4.size)
    have hA := str_add TX [32, 35]
    have hil := itoa_len (m : Int) (by omega) (by omega)
    go_wp2_with fail
    go_ret
    exact ⟨by rw [HLN.out, ← str_add, ← str_add]; first | rfl | (rw [hA]), b6⟩
  · have HNS : Hid ((⟨t, 3, l, x, y, d, r⟩ : R7).tx = joinI [32] [t, 3]) := rfl
    have HTL := Lib.hid (tx_len hf)
    have HLN : Hid ((⟨t, 3, l, x, y, d, r⟩ : R7).ln = (⟨t, 3, l, x, y, d, r⟩ : R7).tx ++ [32, 35] ++ Lib.itoa (chkFold (⟨t, 3, l, x, y, d, r⟩ : R7).tx)) := rfl
    have HBD : Hid (∀ z ∈ [t, 3], -9223372036854775808 < z ∧ z ≤ 9223372036854775807) := fun z hz => by
      have := (R7.of_ns hf).2.1 z hz
      omega
    generalize (⟨t, 3, l, x, y, d, r⟩ : R7).tx = TX at *
    have c0 := fun o => K0.cell o
    have g0 := K0.lt
    have z0 := b0.size
    have hown := own_lit2 w0 t 3 2
    have b1 : Below w.heap.size w (w0.alloc (.cells #[.int .i64 t, .int .i64 3] 2)) := b0.alloc z0 _
    obtain ⟨B, cc, hv, hrd, -, -, -⟩ := own_rd hown
    injection hv with hv1 hv2 hv3
    subst hv1 hv3
    have b2 := b1
    go_wp2_with fail
    refine (l01Join_any _ 2 _ [t, 3] [32] _ (by omega) (by decide) hrd HBD.out).mono ?_
    rw [← HNS.out]
    rintro e w2 ⟨rfl, b3⟩
    have b4 := b2.trans (b3.mono b2.size)
    have htl := HTL.out
    have hbd := chkFold_bd TX
    have hls := str_size TX
    go_wp2_with fail
    refine (specCheckNumber_any ⟨TX.toArray⟩ _ (by rw [hls]; unfold maxLen; omega)).mono ?_
    rintro e w3 ⟨rfl, rfl⟩
    have HDD : Hid (Lib.itoa (chkFold TX) = Lib.decDigits (chkFold TX).toNat) := itoa_pos hbd.1
    obtain ⟨m, hm⟩ : ∃ m : Nat, chkFold TX = (m : Int) := ⟨(chkFold TX).toNat, by omega⟩
    rw [hm] at HLN HDD hbd ⊢
    have HD2 := HDD.out
    rw [Int.toNat_natCast] at HD2
    have HDD := Lib.hid HD2
    clear HD2
    go_wp2_with fail
    refine (l01Dec_any m _ (by omega)).mono ?_
    rw [← HDD.out]
    rintro e w4 ⟨rfl, b5⟩
    have b6 := b4.trans (b5.mono b4.size)
    have hA := str_add TX [32, 35]
    have hil := itoa_len (m : Int) (by omega) (by omega)
    go_wp2_with fail
    go_ret
    exact ⟨by rw [HLN.out, ← str_add, ← str_add]; first | rfl | (rw [hA]), b6⟩
set_option maxHeartbeats 1000000 in
theorem specRecordLine_no (f : R7) (w : World) (hf : f.ok = false) :
    Calls Tryd.prog 11 #[f.V] w fun e w' => e = .returned (.string ⟨#[]⟩) ∧ Below w.heap.size w w' := by
  obtain ⟨t, k, l, x, y, d, r⟩ := f
  unfold R7.V
  simp only
  have HOK : Hid (recB t k l x y d r = false) := hf
  clear hf
  go_enter Tryd.func11, Tryd.ntmps11
  go_wp2_with fail
  refine (specIsRecord_any t k l x y d r _).mono ?_
  rw [HOK.out]
  rintro e w0 ⟨rfl, bb⟩
  have b0 := (show Below w.heap.size w _ from (by (repeat (first | (with_reducible assumption) | (with_reducible exact Below.refl _ _) | (with_reducible refine Below.drew ?_) | (with_reducible refine Below.drewN ?_ _) | (with_reducible refine Below.setCell ?_ ?_ _) | (with_reducible refine Below.alloc ?_ ?_ _) | assumption)); all_goals (first | omega | (simp; done) | (simp; omega)))).trans (bb.mono (by first | omega | (simp; done) | (simp; omega)))
  go_wp2
  go_ret
  exact ⟨rfl, b0⟩
/-- the text of a record: its line, or nothing -/
def R7.t0 (f : R7) : Bs := if f.ok = true then f.ln else []
theorem specRecordLine_any (f : R7) (w : World) :
    Calls Tryd.prog 11 #[f.V] w fun e w' => e = .returned (.string ⟨f.t0.toArray⟩) ∧ Below w.heap.size w w' := by
  unfold R7.t0
  rcases Bool.eq_false_or_eq_true f.ok with h | h
  · rw [if_pos h]; exact specRecordLine_yes f w h
  · rw [h, if_neg (by decide)]; exact specRecordLine_no f w h
set_option maxHeartbeats 1000000 in
theorem implRecordLine_any (f : R7) (w : World) (T : TabW w) :
    Calls Tryd.prog 13 #[f.V] w fun e w' => e = .returned (.string ⟨f.t0.toArray⟩) ∧ Below w.heap.size w w' := by
  rcases Bool.eq_false_or_eq_true f.ok with h | h
  · have HT : Hid (f.t0 = f.ln) := if_pos h
    have HL := fun (W : World) (T : TabW W) => recordLine_any f W h T
    obtain ⟨t, k, l, x, y, d, r⟩ := f
    unfold R7.V at HL ⊢
    simp only at HL ⊢
    have HOK : Hid (recB t k l x y d r = true) := h
    rw [HT.out]
    clear h
    generalize (⟨t, k, l, x, y, d, r⟩ : R7).ln = LN at *
    have K0 := Blk.new w 29 #[.int .i64 t, .int .i64 k, .int .i64 l, .int .i64 x, .int .i64 y, .int .i64 d, .int .i64 r]
    have ba : Below w.heap.size w (w.alloc (.cells #[.int .i64 t, .int .i64 k, .int .i64 l, .int .i64 x, .int .i64 y, .int .i64 d, .int .i64 r] 29)) := (Below.refl _ _).alloc (Nat.le_refl _) _
    go_enter Tryd.func13, Tryd.ntmps13
    go_wp2_with fail
    refine (implIsRecord_any t k l x y d r _).mono ?_
    rw [HOK.out]
    rintro e w0 ⟨rfl, bb⟩
    have b0 := ba.trans (bb.mono ba.size)
    have K0 := K0.below bb K0.lt
    have c0 := fun o => K0.cell o
    go_wp2_with fail
    refine (HL _ (T.below b0)).mono ?_
    rintro e w1 ⟨rfl, b1⟩
    go_wp2
    go_ret
    exact ⟨rfl, b0.trans (b1.mono b0.size)⟩
  · have HT : Hid (f.t0 = []) := by unfold Hid R7.t0; rw [h]; rfl
    obtain ⟨t, k, l, x, y, d, r⟩ := f
    unfold R7.V
    simp only
    have HOK : Hid (recB t k l x y d r = false) := h
    rw [HT.out]
    clear h
    go_enter Tryd.func13, Tryd.ntmps13
    go_wp2_with fail
    refine (implIsRecord_any t k l x y d r _).mono ?_
    rw [HOK.out]
    rintro e w0 ⟨rfl, bb⟩
    have b0 := (show Below w.heap.size w _ from (by (repeat (first | (with_reducible assumption) | (with_reducible exact Below.refl _ _) | (with_reducible refine Below.drew ?_) | (with_reducible refine Below.drewN ?_ _) | (with_reducible refine Below.setCell ?_ ?_ _) | (with_reducible refine Below.alloc ?_ ?_ _) | assumption)); all_goals (first | omega | (simp; done) | (simp; omega)))).trans (bb.mono (by first | omega | (simp; done) | (simp; omega)))
    go_wp2
    go_ret
    exact ⟨rfl, b0⟩
end Go.Proofs.YtoledbicmghmbaaDoor
