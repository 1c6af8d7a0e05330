/- The law FnRecords, walked. Condition: the library's variables are as they are laid. -/
import Derived.Test.YtoledbicmghmbaaDoorDrT
import Derived.Test.YtoledbicmghmbaaDoorRdI
import Derived.Test.YtoledbicmghmbaaDoorRdR
import Derived.Test.YtoledbicmghmbaaDoorLike
import Derived.Test.YtoledbicmghmbaaDoorArgB
namespace Go.Proofs.YtoledbicmghmbaaDoor
open Go.RowKit

theorem implRecLine_any (t k l x y d r : Int) (W : World) (T : TabW W) :
    Calls Tryd.prog 13 #[.agg #[.int .i64 t, .int .i64 k, .int .i64 l, .int .i64 x, .int .i64 y, .int .i64 d, .int .i64 r]] W fun e w' => e = .returned (.string ⟨(R7.t0 ⟨t, k, l, x, y, d, r⟩).toArray⟩) ∧ Below W.heap.size W w' := implRecordLine_any ⟨t, k, l, x, y, d, r⟩ W T
theorem rr_nil : rrB [] = false := rfl
theorem rr_t0 (f : R7) : rrB f.t0 = f.ok ∧ (f.ok = true → rrR f.t0 = f) ∧ rrB (f.t0 ++ [48]) = false ∧ (f.ok = true → f.t0 ≠ []) ∧ (f.ok = false → f.t0 = []) := by
  unfold R7.t0
  rcases Bool.eq_false_or_eq_true f.ok with h | h
  · rw [h, if_pos rfl]
    exact ⟨(rr_ln h).1, fun _ => (rr_ln h).2, rr_more f, fun _ => R7.ln_ne f, fun h => by cases h⟩
  · rw [h, if_neg (by decide)]
    refine ⟨rr_nil, (fun h => by cases h), ?_, (fun h => by cases h), fun _ => rfl⟩
    decide
theorem rr_back {s : Bs} (h : rrB s = true) : (rrR s).t0 = s := by
  obtain ⟨h1, h2⟩ := rr_of h
  unfold R7.t0
  rw [if_pos h1, h2]

set_option maxRecDepth 100000 in
set_option maxHeartbeats 8000000 in
theorem FnRecords_walk (w : World) (A : Option Addr) (n c : Nat) (zs : List Int) (G : ArgB w A n c zs) (T : LibW w) :
    Calls Tryd.prog 8 #[.slice A n c] w fun e w' => e = .returned (.bool true) ∧ Below w.heap.size w w' := by
  have hmx := G.max
  by_cases hb : (4096 : Int) < (n : Int)
  · go_enter Tryd.func8, Tryd.ntmps8
    go_wp2_with (go_at_call 24; refine (big_any _ _ _ _ (by omega)).mono ?_; rintro e w' ⟨rfl, rfl⟩)
    go_ret
    exact ⟨rfl, Below.refl _ _⟩
  have hbd : decide ((4096 : Int) < (n : Int)) = false := by simpa using hb
  have hn4 : n ≤ 4096 := by omega
  go_enter Tryd.func8, Tryd.ntmps8
  go_wp2_with fail
  refine (big_any _ _ _ _ (by omega)).mono ?_
  rintro e w' ⟨rfl, rfl⟩
  go_wp2_with fail
  refine (drawRecordLine_any A n c zs _ G.rd G.byte hn4).mono ?_
  rintro e w1 ⟨⟨at', ak, al, ax, ay, ad, ar⟩, rfl, b1⟩
  simp only
  clear hbd hb
  go_wp2_with fail
  have K1 := Blk.newN (g := w1.heap.size) w1 29 #[.int .i64 at', .int .i64 ak, .int .i64 al, .int .i64 ax, .int .i64 ay, .int .i64 ad, .int .i64 ar] (by simp)
  have b2 : Below w1.heap.size w1 (w1.alloc (.cells #[.int .i64 at', .int .i64 ak, .int .i64 al, .int .i64 ax, .int .i64 ay, .int .i64 ad, .int .i64 ar] 29)) := (by (repeat (first | (with_reducible assumption) | (with_reducible exact Below.refl _ _) | (with_reducible refine Below.drew ?_) | (with_reducible refine Below.drewN ?_ _) | (with_reducible refine Below.setCell ?_ ?_ _) | (with_reducible refine Below.alloc ?_ ?_ _) | assumption)); all_goals (first | omega | (simp; done) | (simp; omega)))
  replace b2 := bnext b1 b2
  clear b1
  generalize (w1.alloc (.cells #[.int .i64 at', .int .i64 ak, .int .i64 al, .int .i64 ax, .int .i64 ay, .int .i64 ad, .int .i64 ar] 29)) = w2 at K1  b2 ⊢
  generalize w1.heap.size = gK1 at K1 ⊢
  have qK1 := K1.lt
  have cK1 := fun o => K1.cell o
  go_wp2_with fail
  refine (implRecLine_any at' ak al ax ay ad ar _ (T.below b2).tab).mono ?_
  rintro e w3 ⟨rfl, b3⟩
  replace K1 := K1.below b3 qK1
  replace qK1 := K1.lt
  replace cK1 := fun o => K1.cell o
  replace b3 := bnext b2 b3
  clear b2
  have hok : R7.ok ⟨at', ak, al, ax, ay, ad, ar⟩ = recB at' ak al ax ay ad ar := rfl
  have HT := Lib.hid (rr_t0 ⟨at', ak, al, ax, ay, ad, ar⟩)
  have hl0 := t0_len ⟨at', ak, al, ax, ay, ad, ar⟩
  have HSL := fun (V : World) => recLine_any at' ak al ax ay ad ar V
  have HIS := fun (V : World) => implIsRecord_any at' ak al ax ay ad ar V
  rw [hok] at HT
  clear hok
  generalize recB at' ak al ax ay ad ar = ok at *
  generalize R7.t0 ⟨at', ak, al, ax, ay, ad, ar⟩ = LT at *
  have HRD := fun (V : World) (T : LibW V) => implReadRecordLine_any LT V (by omega) T
  rw [HT.out.1] at HRD
  have HX : Hid (ok = true → rrR LT = ⟨at', ak, al, ax, ay, ad, ar⟩) := HT.out.2.1
  unfold R7.V at HRD
  generalize rrR LT = f2 at HRD HX
  obtain ⟨bt, bk, bl, bx, by', bd, br⟩ := f2
  simp only at HRD
  go_wp2_with fail
  refine (HRD _ (T.below b3)).mono ?_
  rintro e w4 ⟨rfl, b4⟩
  replace K1 := K1.below b4 qK1
  replace qK1 := K1.lt
  replace cK1 := fun o => K1.cell o
  replace b4 := bnext b3 b4
  clear b3
  clear HRD
  go_wp2_with fail
  have K2 := Blk.newN (g := w4.heap.size) w4 29 #[.int .i64 bt, .int .i64 bk, .int .i64 bl, .int .i64 bx, .int .i64 by', .int .i64 bd, .int .i64 br] (by simp)
  have b5 : Below w4.heap.size w4 (w4.alloc (.cells #[.int .i64 bt, .int .i64 bk, .int .i64 bl, .int .i64 bx, .int .i64 by', .int .i64 bd, .int .i64 br] 29)) := (by (repeat (first | (with_reducible assumption) | (with_reducible exact Below.refl _ _) | (with_reducible refine Below.drew ?_) | (with_reducible refine Below.drewN ?_ _) | (with_reducible refine Below.setCell ?_ ?_ _) | (with_reducible refine Below.alloc ?_ ?_ _) | assumption)); all_goals (first | omega | (simp; done) | (simp; omega)))
  replace K1 := K1.below b5 qK1
  replace qK1 := K1.lt
  replace cK1 := fun o => K1.cell o
  replace b5 := bnext b4 b5
  clear b4
  generalize (w4.alloc (.cells #[.int .i64 bt, .int .i64 bk, .int .i64 bl, .int .i64 bx, .int .i64 by', .int .i64 bd, .int .i64 br] 29)) = w5 at K2 K1 qK1 cK1 b5 ⊢
  generalize w4.heap.size = gK2 at K2 ⊢
  have qK2 := K2.lt
  have cK2 := fun o => K2.cell o
  go_wp2_with fail
  refine (drawReadRecordLine_any A n c zs _ (G.rd.below b5) G.byte hn4).mono ?_
  rintro e w6 ⟨s, rfl, hs, b6⟩
  replace K1 := K1.below b6 qK1
  replace qK1 := K1.lt
  replace cK1 := fun o => K1.cell o
  replace K2 := K2.below b6 qK2
  replace qK2 := K2.lt
  replace cK2 := fun o => K2.cell o
  replace b6 := bnext b5 b6
  clear b5
  have HRI := fun (V : World) (T : LibW V) => implReadRecordLine_any s V (by omega) T
  have HRS := fun (V : World) => specReadRecordLine_any s V (by omega)
  have HBK := Lib.hid (@rr_back s)
  unfold R7.V at HRI HRS
  generalize rrR s = f3 at HRI HRS HBK
  generalize rrB s = one at HRI HRS HBK
  obtain ⟨ct, ck, cl, cx, cy, cd, cr⟩ := f3
  simp only at HRI HRS
  go_wp2_with fail
  refine (HRI _ (T.below b6)).mono ?_
  rintro e w7 ⟨rfl, b7⟩
  replace K1 := K1.below b7 qK1
  replace qK1 := K1.lt
  replace cK1 := fun o => K1.cell o
  replace K2 := K2.below b7 qK2
  replace qK2 := K2.lt
  replace cK2 := fun o => K2.cell o
  replace b7 := bnext b6 b7
  clear b6
  clear HRI
  go_wp2_with fail
  have K3 := Blk.newN (g := w7.heap.size) w7 29 #[.int .i64 ct, .int .i64 ck, .int .i64 cl, .int .i64 cx, .int .i64 cy, .int .i64 cd, .int .i64 cr] (by simp)
  have b8 : Below w7.heap.size w7 (w7.alloc (.cells #[.int .i64 ct, .int .i64 ck, .int .i64 cl, .int .i64 cx, .int .i64 cy, .int .i64 cd, .int .i64 cr] 29)) := (by (repeat (first | (with_reducible assumption) | (with_reducible exact Below.refl _ _) | (with_reducible refine Below.drew ?_) | (with_reducible refine Below.drewN ?_ _) | (with_reducible refine Below.setCell ?_ ?_ _) | (with_reducible refine Below.alloc ?_ ?_ _) | assumption)); all_goals (first | omega | (simp; done) | (simp; omega)))
  replace K1 := K1.below b8 qK1
  replace qK1 := K1.lt
  replace cK1 := fun o => K1.cell o
  replace K2 := K2.below b8 qK2
  replace qK2 := K2.lt
  replace cK2 := fun o => K2.cell o
  replace b8 := bnext b7 b8
  clear b7
  generalize (w7.alloc (.cells #[.int .i64 ct, .int .i64 ck, .int .i64 cl, .int .i64 cx, .int .i64 cy, .int .i64 cd, .int .i64 cr] 29)) = w8 at K3 K1 qK1 cK1 K2 qK2 cK2 b8 ⊢
  generalize w7.heap.size = gK3 at K3 ⊢
  have qK3 := K3.lt
  have cK3 := fun o => K3.cell o
  go_wp2_with fail
  refine (HRS _).mono ?_
  rintro e w9 ⟨rfl, b9⟩
  replace K1 := K1.below b9 qK1
  replace qK1 := K1.lt
  replace cK1 := fun o => K1.cell o
  replace K2 := K2.below b9 qK2
  replace qK2 := K2.lt
  replace cK2 := fun o => K2.cell o
  replace K3 := K3.below b9 qK3
  replace qK3 := K3.lt
  replace cK3 := fun o => K3.cell o
  replace b9 := bnext b8 b9
  clear b8
  clear HRS
  go_wp2_with fail
  have K4 := Blk.newN (g := w9.heap.size) w9 29 #[.int .i64 ct, .int .i64 ck, .int .i64 cl, .int .i64 cx, .int .i64 cy, .int .i64 cd, .int .i64 cr] (by simp)
  have b10 : Below w9.heap.size w9 (w9.alloc (.cells #[.int .i64 ct, .int .i64 ck, .int .i64 cl, .int .i64 cx, .int .i64 cy, .int .i64 cd, .int .i64 cr] 29)) := (by (repeat (first | (with_reducible assumption) | (with_reducible exact Below.refl _ _) | (with_reducible refine Below.drew ?_) | (with_reducible refine Below.drewN ?_ _) | (with_reducible refine Below.setCell ?_ ?_ _) | (with_reducible refine Below.alloc ?_ ?_ _) | assumption)); all_goals (first | omega | (simp; done) | (simp; omega)))
  replace K1 := K1.below b10 qK1
  replace qK1 := K1.lt
  replace cK1 := fun o => K1.cell o
  replace K2 := K2.below b10 qK2
  replace qK2 := K2.lt
  replace cK2 := fun o => K2.cell o
  replace K3 := K3.below b10 qK3
  replace qK3 := K3.lt
  replace cK3 := fun o => K3.cell o
  replace b10 := bnext b9 b10
  clear b9
  generalize (w9.alloc (.cells #[.int .i64 ct, .int .i64 ck, .int .i64 cl, .int .i64 cx, .int .i64 cy, .int .i64 cd, .int .i64 cr] 29)) = w10 at K4 K1 qK1 cK1 K2 qK2 cK2 K3 qK3 cK3 b10 ⊢
  generalize w9.heap.size = gK4 at K4 ⊢
  have qK4 := K4.lt
  have cK4 := fun o => K4.cell o
  go_wp2_with fail
  refine (drawCheckNumber_any A n c zs _ (G.rd.below b10) G.byte hn4).mono ?_
  rintro e w11 ⟨u, rfl, hu, b11⟩
  replace K1 := K1.below b11 qK1
  replace qK1 := K1.lt
  replace cK1 := fun o => K1.cell o
  replace K2 := K2.below b11 qK2
  replace qK2 := K2.lt
  replace cK2 := fun o => K2.cell o
  replace K3 := K3.below b11 qK3
  replace qK3 := K3.lt
  replace cK3 := fun o => K3.cell o
  replace K4 := K4.below b11 qK4
  replace qK4 := K4.lt
  replace cK4 := fun o => K4.cell o
  replace b11 := bnext b10 b11
  clear b10
  have hus := str_size u
  have HC1 := fun (V : World) => implCheckNumber_any ⟨u.toArray⟩ V (by rw [hus]; unfold maxLen; omega)
  have HC2 := fun (V : World) => specCheckNumber_any ⟨u.toArray⟩ V (by rw [hus]; unfold maxLen; omega)
  rw [show (ByteArray.mk u.toArray).data.toList = u from rfl] at HC1 HC2
  have hcb := chkFold_bd u
  generalize chkFold u = ck1 at *
  clear hus
  go_wp2_with fail
  refine (HC1 _).mono ?_
  rintro e w' ⟨rfl, rfl⟩
  clear HC1
  have HM := fun (V : World) (T : LibW V) => implReadRecordLine_any (LT ++ [48]) V (by rw [List.length_append]; simp; omega) T
  rw [HT.out.2.2.1] at HM
  unfold R7.V at HM
  generalize rrR (LT ++ [48]) = f4 at HM
  obtain ⟨dt, dk, dl, dx, dy, dd, dr⟩ := f4
  simp only at HM
  have E3 := str_add LT [48]
  have hll : ¬ 9223372036854775807 < LT.length + 1 := by omega
  rcases Bool.eq_false_or_eq_true ok with h | h <;> rcases Bool.eq_false_or_eq_true one with h' | h'
  all_goals subst h; subst h'
  · have HRL := fun (V : World) (T : TabW V) => implRecLine_any ct ck cl cx cy cd cr V T
    rw [HBK.out (by first | rfl | trivial)] at HRL
    have hx := HX.out rfl
    simp only [R7.mk.injEq] at hx
    obtain ⟨rfl, rfl, rfl, rfl, rfl, rfl, rfl⟩ := hx
    have he1 := HT.out.2.2.2.1 rfl
    have he2 : LT.isEmpty = false := by rw [List.isEmpty_eq_false_iff]; exact he1
    have he3 : (LT == []) = false := by rw [beq_eq_false_iff_ne]; exact he1
    go_wp2_with fail
    refine (HSL _).mono ?_
    rintro e w12 ⟨rfl, b12⟩
    replace K1 := K1.below b12 qK1
    replace qK1 := K1.lt
    replace cK1 := fun o => K1.cell o
    replace K2 := K2.below b12 qK2
    replace qK2 := K2.lt
    replace cK2 := fun o => K2.cell o
    replace K3 := K3.below b12 qK3
    replace qK3 := K3.lt
    replace cK3 := fun o => K3.cell o
    replace K4 := K4.below b12 qK4
    replace qK4 := K4.lt
    replace cK4 := fun o => K4.cell o
    replace b12 := bnext b11 b12
    clear b11
    clear HSL
    go_wp2_with fail
    refine (HC2 _).mono ?_
    rintro e w' ⟨rfl, rfl⟩
    go_wp2_with fail
    refine (HIS _).mono ?_
    rintro e w13 ⟨rfl, b13⟩
    replace K1 := K1.below b13 qK1
    replace qK1 := K1.lt
    replace cK1 := fun o => K1.cell o
    replace K2 := K2.below b13 qK2
    replace qK2 := K2.lt
    replace cK2 := fun o => K2.cell o
    replace K3 := K3.below b13 qK3
    replace qK3 := K3.lt
    replace cK3 := fun o => K3.cell o
    replace K4 := K4.below b13 qK4
    replace qK4 := K4.lt
    replace cK4 := fun o => K4.cell o
    replace b13 := bnext b12 b13
    clear b12
    have HRL := fun (V : World) (T : TabW V) => implRecLine_any ct ck cl cx cy cd cr V T
    rw [HBK.out (by first | rfl | trivial)] at HRL
    go_wp2_with fail
    refine (HRL _ (T.below b13).tab).mono ?_
    rintro e w14 ⟨rfl, b14⟩
    replace K1 := K1.below b14 qK1
    replace qK1 := K1.lt
    replace cK1 := fun o => K1.cell o
    replace K2 := K2.below b14 qK2
    replace qK2 := K2.lt
    replace cK2 := fun o => K2.cell o
    replace K3 := K3.below b14 qK3
    replace qK3 := K3.lt
    replace cK3 := fun o => K3.cell o
    replace K4 := K4.below b14 qK4
    replace qK4 := K4.lt
    replace cK4 := fun o => K4.cell o
    replace b14 := bnext b13 b14
    clear b13
    go_wp2_with fail
    refine (HM _ (T.below b14)).mono ?_
    rintro e w15 ⟨rfl, b15⟩
    replace K1 := K1.below b15 qK1
    replace qK1 := K1.lt
    replace cK1 := fun o => K1.cell o
    replace K2 := K2.below b15 qK2
    replace qK2 := K2.lt
    replace cK2 := fun o => K2.cell o
    replace K3 := K3.below b15 qK3
    replace qK3 := K3.lt
    replace cK3 := fun o => K3.cell o
    replace K4 := K4.below b15 qK4
    replace qK4 := K4.lt
    replace cK4 := fun o => K4.cell o
    replace b15 := bnext b14 b15
    clear b14
    have hfin := b15
    go_wp2
    go_ret
    exact ⟨rfl, bnext hfin ((Below.refl _ _).alloc (Nat.le_refl _) _)⟩
  · have hx := HX.out rfl
    simp only [R7.mk.injEq] at hx
    obtain ⟨rfl, rfl, rfl, rfl, rfl, rfl, rfl⟩ := hx
    have he1 := HT.out.2.2.2.1 rfl
    have he2 : LT.isEmpty = false := by rw [List.isEmpty_eq_false_iff]; exact he1
    have he3 : (LT == []) = false := by rw [beq_eq_false_iff_ne]; exact he1
    go_wp2_with fail
    refine (HSL _).mono ?_
    rintro e w12 ⟨rfl, b12⟩
    replace K1 := K1.below b12 qK1
    replace qK1 := K1.lt
    replace cK1 := fun o => K1.cell o
    replace K2 := K2.below b12 qK2
    replace qK2 := K2.lt
    replace cK2 := fun o => K2.cell o
    replace K3 := K3.below b12 qK3
    replace qK3 := K3.lt
    replace cK3 := fun o => K3.cell o
    replace K4 := K4.below b12 qK4
    replace qK4 := K4.lt
    replace cK4 := fun o => K4.cell o
    replace b12 := bnext b11 b12
    clear b11
    clear HSL
    go_wp2_with fail
    refine (HC2 _).mono ?_
    rintro e w' ⟨rfl, rfl⟩
    go_wp2_with fail
    refine (HIS _).mono ?_
    rintro e w13 ⟨rfl, b13⟩
    replace K1 := K1.below b13 qK1
    replace qK1 := K1.lt
    replace cK1 := fun o => K1.cell o
    replace K2 := K2.below b13 qK2
    replace qK2 := K2.lt
    replace cK2 := fun o => K2.cell o
    replace K3 := K3.below b13 qK3
    replace qK3 := K3.lt
    replace cK3 := fun o => K3.cell o
    replace K4 := K4.below b13 qK4
    replace qK4 := K4.lt
    replace cK4 := fun o => K4.cell o
    replace b13 := bnext b12 b13
    clear b12
    go_wp2_with fail
    refine (HM _ (T.below b13)).mono ?_
    rintro e w14 ⟨rfl, b14⟩
    replace K1 := K1.below b14 qK1
    replace qK1 := K1.lt
    replace cK1 := fun o => K1.cell o
    replace K2 := K2.below b14 qK2
    replace qK2 := K2.lt
    replace cK2 := fun o => K2.cell o
    replace K3 := K3.below b14 qK3
    replace qK3 := K3.lt
    replace cK3 := fun o => K3.cell o
    replace K4 := K4.below b14 qK4
    replace qK4 := K4.lt
    replace cK4 := fun o => K4.cell o
    replace b14 := bnext b13 b14
    clear b13
    have hfin := b14
    go_wp2
    go_ret
    exact ⟨rfl, bnext hfin ((Below.refl _ _).alloc (Nat.le_refl _) _)⟩
  · have HRL := fun (V : World) (T : TabW V) => implRecLine_any ct ck cl cx cy cd cr V T
    rw [HBK.out (by first | rfl | trivial)] at HRL
    obtain rfl := HT.out.2.2.2.2 rfl
    go_wp2_with fail
    refine (HSL _).mono ?_
    rintro e w12 ⟨rfl, b12⟩
    replace K1 := K1.below b12 qK1
    replace qK1 := K1.lt
    replace cK1 := fun o => K1.cell o
    replace K2 := K2.below b12 qK2
    replace qK2 := K2.lt
    replace cK2 := fun o => K2.cell o
    replace K3 := K3.below b12 qK3
    replace qK3 := K3.lt
    replace cK3 := fun o => K3.cell o
    replace K4 := K4.below b12 qK4
    replace qK4 := K4.lt
    replace cK4 := fun o => K4.cell o
    replace b12 := bnext b11 b12
    clear b11
    clear HSL
    go_wp2_with fail
    refine (HC2 _).mono ?_
    rintro e w' ⟨rfl, rfl⟩
    go_wp2_with fail
    refine (HIS _).mono ?_
    rintro e w13 ⟨rfl, b13⟩
    replace K1 := K1.below b13 qK1
    replace qK1 := K1.lt
    replace cK1 := fun o => K1.cell o
    replace K2 := K2.below b13 qK2
    replace qK2 := K2.lt
    replace cK2 := fun o => K2.cell o
    replace K3 := K3.below b13 qK3
    replace qK3 := K3.lt
    replace cK3 := fun o => K3.cell o
    replace K4 := K4.below b13 qK4
    replace qK4 := K4.lt
    replace cK4 := fun o => K4.cell o
    replace b13 := bnext b12 b13
    clear b12
    have HRL := fun (V : World) (T : TabW V) => implRecLine_any ct ck cl cx cy cd cr V T
    rw [HBK.out (by first | rfl | trivial)] at HRL
    go_wp2_with fail
    refine (HRL _ (T.below b13).tab).mono ?_
    rintro e w14 ⟨rfl, b14⟩
    replace K1 := K1.below b14 qK1
    replace qK1 := K1.lt
    replace cK1 := fun o => K1.cell o
    replace K2 := K2.below b14 qK2
    replace qK2 := K2.lt
    replace cK2 := fun o => K2.cell o
    replace K3 := K3.below b14 qK3
    replace qK3 := K3.lt
    replace cK3 := fun o => K3.cell o
    replace K4 := K4.below b14 qK4
    replace qK4 := K4.lt
    replace cK4 := fun o => K4.cell o
    replace b14 := bnext b13 b14
    clear b13
    go_wp2_with fail
    refine (HM _ (T.below b14)).mono ?_
    rintro e w15 ⟨rfl, b15⟩
    replace K1 := K1.below b15 qK1
    replace qK1 := K1.lt
    replace cK1 := fun o => K1.cell o
    replace K2 := K2.below b15 qK2
    replace qK2 := K2.lt
    replace cK2 := fun o => K2.cell o
    replace K3 := K3.below b15 qK3
    replace qK3 := K3.lt
    replace cK3 := fun o => K3.cell o
    replace K4 := K4.below b15 qK4
    replace qK4 := K4.lt
    replace cK4 := fun o => K4.cell o
    replace b15 := bnext b14 b15
    clear b14
    have hfin := b15
    go_wp2
    go_ret
    exact ⟨rfl, bnext hfin ((Below.refl _ _).alloc (Nat.le_refl _) _)⟩
  · obtain rfl := HT.out.2.2.2.2 rfl
    go_wp2_with fail
    refine (HSL _).mono ?_
    rintro e w12 ⟨rfl, b12⟩
    replace K1 := K1.below b12 qK1
    replace qK1 := K1.lt
    replace cK1 := fun o => K1.cell o
    replace K2 := K2.below b12 qK2
    replace qK2 := K2.lt
    replace cK2 := fun o => K2.cell o
    replace K3 := K3.below b12 qK3
    replace qK3 := K3.lt
    replace cK3 := fun o => K3.cell o
    replace K4 := K4.below b12 qK4
    replace qK4 := K4.lt
    replace cK4 := fun o => K4.cell o
    replace b12 := bnext b11 b12
    clear b11
    clear HSL
    go_wp2_with fail
    refine (HC2 _).mono ?_
    rintro e w' ⟨rfl, rfl⟩
    go_wp2_with fail
    refine (HIS _).mono ?_
    rintro e w13 ⟨rfl, b13⟩
    replace K1 := K1.below b13 qK1
    replace qK1 := K1.lt
    replace cK1 := fun o => K1.cell o
    replace K2 := K2.below b13 qK2
    replace qK2 := K2.lt
    replace cK2 := fun o => K2.cell o
    replace K3 := K3.below b13 qK3
    replace qK3 := K3.lt
    replace cK3 := fun o => K3.cell o
    replace K4 := K4.below b13 qK4
    replace qK4 := K4.lt
    replace cK4 := fun o => K4.cell o
    replace b13 := bnext b12 b13
    clear b12
    go_wp2_with fail
    refine (HM _ (T.below b13)).mono ?_
    rintro e w14 ⟨rfl, b14⟩
    replace K1 := K1.below b14 qK1
    replace qK1 := K1.lt
    replace cK1 := fun o => K1.cell o
    replace K2 := K2.below b14 qK2
    replace qK2 := K2.lt
    replace cK2 := fun o => K2.cell o
    replace K3 := K3.below b14 qK3
    replace qK3 := K3.lt
    replace cK3 := fun o => K3.cell o
    replace K4 := K4.below b14 qK4
    replace qK4 := K4.lt
    replace cK4 := fun o => K4.cell o
    replace b14 := bnext b13 b14
    clear b13
    have hfin := b14
    go_wp2
    go_ret
    exact ⟨rfl, bnext hfin ((Below.refl _ _).alloc (Nat.le_refl _) _)⟩
end Go.Proofs.YtoledbicmghmbaaDoor
