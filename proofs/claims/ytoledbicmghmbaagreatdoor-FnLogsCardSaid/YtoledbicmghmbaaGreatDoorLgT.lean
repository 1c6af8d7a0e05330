/- The text of a log, both sides. Conditions: a length; the library's table of powers of ten is as it is laid. -/
import Derived.Test.YtoledbicmghmbaaGreatDoorRecW
import Derived.Test.YtoledbicmghmbaaGreatDoorRecs
import Derived.Test.YtoledbicmghmbaaGreatDoorLog
import Derived.Lib.AppendStr
namespace Go.Proofs.YtoledbicmghmbaaGreatDoor
open Go.RowKit

def rc7 (xs : List Int) (k : Nat) : R7 := ⟨xs.getD (k * 7) 0, xs.getD (k * 7 + 1) 0, xs.getD (k * 7 + 2) 0, xs.getD (k * 7 + 3) 0, xs.getD (k * 7 + 4) 0, xs.getD (k * 7 + 5) 0, xs.getD (k * 7 + 6) 0⟩
theorem rc7_ok (xs : List Int) (k : Nat) : (rc7 xs k).ok = recAt xs k := rfl
/-- the lines of the records below n -/
def lgT (xs : List Int) (n : Nat) : Bs := (List.range n).flatMap fun k => (rc7 xs k).ln ++ [10]
theorem lgT_zero (xs : List Int) : lgT xs 0 = [] := rfl
theorem lgT_succ (xs : List Int) (n : Nat) : lgT xs (n + 1) = lgT xs n ++ ((rc7 xs n).ln ++ [10]) := by unfold lgT; rw [List.range_succ, List.flatMap_append]; simp
theorem lgT_len {xs : List Int} {n : Nat} (h : recsB xs n = true) : ∀ k, k ≤ n → (lgT xs k).length ≤ k * 301
  | 0, _ => Nat.zero_le _
  | k + 1, hk => by
    have h1 := lgT_len h k (by omega)
    have h2 := ln_len (f := rc7 xs k) (by rw [rc7_ok]; exact recsB_at h (by omega))
    rw [lgT_succ, List.length_append, List.length_append]
    simp only [List.length_cons, List.length_nil]
    omega
def lgC (xs : List Int) (n : Nat) : Int := if logB xs n = true then 0 else 1
def lgS (xs : List Int) (n : Nat) : Bs := if logB xs n = true then lgT xs n else []
theorem lg_yes {xs : List Int} {n : Nat} (h : logB xs n = true) : lgC xs n = 0 ∧ lgS xs n = lgT xs n := by unfold lgC lgS; simp [h]
theorem lg_no {xs : List Int} {n : Nat} (h : logB xs n = false) : lgC xs n = 1 ∧ lgS xs n = [] := by unfold lgC lgS; simp [h]
theorem logB_true {xs : List Int} {n : Nat} (h : logB xs n = true) : recsB xs n = true ∧ n ≤ 200 := by
  unfold logB at h
  rw [Bool.and_eq_true, decide_eq_true_eq] at h
  exact ⟨h.1, by omega⟩
/-- bytes in cells -/
def bcs (l : Bs) : List Value := l.map fun b => Value.int .u8 (b.toNat : Int)
theorem bcs_app (a b : Bs) : bcs (a ++ b) = bcs a ++ bcs b := List.map_append
theorem bcs_str (l : Bs) : Lib.strCells ⟨l.toArray⟩ = bcs l := rfl
theorem u8_some : ∃ i, Tryz.prog.info? 5 = some i ∧ i.zero = some (.int .u8 0) ∧ i.size = 1 ∧ i.bytes = 1 := by
  have h : (Tryz.prog.info? 5).map (fun i => (i.zero, i.size, i.bytes)) = some (some (.int .u8 0), 1, 1) := by kernel_rfl
  rcases h2 : Tryz.prog.info? 5 with _ | i
  · rw [h2] at h; cases h
  · rw [h2] at h
    simp only [Option.map_some, Option.some.injEq, Prod.mk.injEq] at h
    exact ⟨i, rfl, h.1, h.2.1, h.2.2⟩
theorem wp_append_str {ops : Array Oper} {rest : List Oper} {o : Oper} {a : Act} {Q : Exit → Act → World → Prop} {w : World} (hgd : o.guard = none) (sl x : Operand)
    (ho : o.op = .call { callee := .builtin .append, args := #[sl, x], argTypes := #[22, 9] })
    (base : Nat) (v : Value) (n : Nat) (l s : Bs) (hs : a.eval sl = v) (hown : w.ownsRow base 5 1 v n (bcs l)) (hv : v ≠ .slice none 0 0) (hx : a.eval x = .string ⟨s.toArray⟩)
    (hn : n + s.length ≤ 1099511627776) (hbase : base ≤ w.heap.size)
    (h : ∀ v' w', w'.ownsRow base 5 1 v' (n + s.length) (bcs (l ++ s)) → v' ≠ .slice none 0 0 → Below base w w' → wpList Tryz.prog ops Q rest (a.put o.dst v') w') : wpList Tryz.prog ops Q (o :: rest) a w := by
  obtain ⟨i, h1, h2, h3, h4⟩ := u8_some
  have hz := str_size s
  refine Lib.wpList_append_own_string w hgd sl x _ _ ho base 5 i Tryz.underlying22 Tryz.underlying9 h1 h2 h3 h4 v n (bcs l) hs hown ⟨s.toArray⟩ hx (by unfold maxLen; omega) (by omega) hbase ?_
  intro v' w' hown' hg hne
  rw [hz] at hown'
  rw [bcs_str, ← bcs_app] at hown'
  exact h v' w' hown' (fun c => hv (hne.1 c).1) ((Below.refl _ _).grown hg hbase (fun k hk => (hown.lt k hk).1))
theorem own_conv {w : World} {base n : Nat} {v : Value} {l : Bs} (h : w.ownsRow base 5 1 v n (bcs l)) (hv : v ≠ .slice none 0 0) (hn : l.length = n) :
    ∃ g c, v = .slice (some ⟨g, 0, none⟩) n c ∧ (convert 22 9 v).run Tryz.prog w = .ok (.string ⟨l.toArray⟩) w := by
  obtain ⟨B, c, rfl, hr, -, hc, -⟩ := own_rd h
  subst hn
  rcases h.2 with ⟨e, _⟩ | ⟨g, cap, cur, e, _⟩
  · exact absurd e hv
  · simp only [Value.slice.injEq] at e
    obtain ⟨rfl, -, rfl⟩ := e
    refine ⟨g, _, rfl, run_convert_bytes_back (P := Tryz.prog) w _ _ 5 ⟨g, 0, none⟩ _ l Tryz.underlying22 Tryz.underlying5 Tryz.underlying9 fun j hj => ?_⟩
    obtain ⟨ad, ea, hx⟩ := hr.2 (by omega)
    injection ea with ea
    subst ea
    rw [hx j hj]
    unfold bcs
    rw [List.getElem?_map, List.getElem?_eq_getElem hj]
    rfl
set_option maxRecDepth 100000 in
set_option maxHeartbeats 2000000 in
theorem logText_any (A : Option Addr) (n c : Nat) (xs : List Int) (w : World) (hn : n ≤ 200) (hok : recsB xs n = true) (hr : Rd w A (n * 7) (ints xs)) (T : TabW w) :
    Calls Tryz.prog 17 #[.slice A n c] w fun e w' => e = .returned (.string ⟨(lgT xs n).toArray⟩) ∧ Below w.heap.size w w' := by
  have HO := Lib.hid hok
  clear hok
  go_enter Tryz.func17, Tryz.ntmps17
  go_wp2_with fail
  go_loopw [3, 8] (fun s i wr => ∃ k : Nat, k ≤ n ∧ i = .int .i64 k ∧ s = .string ⟨(lgT xs k).toArray⟩ ∧ Below w.heap.size w wr) (fun _ i _ => n - (intOf i).toNat)
  case atStart => exact ⟨0, Nat.zero_le _, rfl, rfl, Below.refl _ _⟩
  case round =>
    obtain ⟨k, hk, rfl, rfl, b⟩ := hrel
    by_cases hlt : k < n
    · have hltI : (k : Int) < (n : Int) := by omega
      have hk0 : (0 : Int) ≤ (k : Int) := by omega
      obtain ⟨ad, rfl, h0, h1, h2, h3, h4, h5, h6⟩ := (hr.below b).seven hlt
      have hfo : (rc7 xs k).ok = true := recsB_at HO.out hlt
      have HL := fun (W : World) (T : TabW W) => recordLine_any (rc7 xs k) W hfo T
      have HS := Lib.hid (lgT_succ xs k)
      have hl1 := ln_len hfo
      have hl2 := lgT_len HO.out k hk
      have hT := T.below b
      have hz := b.size
      unfold R7.V at HL
      generalize hLN : (rc7 xs k).ln = LN at *
      unfold rc7 at HL
      simp only at HL
      clear hfo hLN
      generalize xs.getD (k * 7) 0 = x0 at *
      generalize xs.getD (k * 7 + 1) 0 = x1 at *
      generalize xs.getD (k * 7 + 2) 0 = x2 at *
      generalize xs.getD (k * 7 + 3) 0 = x3 at *
      generalize xs.getD (k * 7 + 4) 0 = x4 at *
      generalize xs.getD (k * 7 + 5) 0 = x5 at *
      generalize xs.getD (k * 7 + 6) 0 = x6 at *
      generalize lgT xs k = S at *
      have hsz0 := str_size LN
      have hsz1 := str_size S
      have hA : ((⟨LN.toArray⟩ : ByteArray) ++ ⟨#[10]⟩) = ⟨(LN ++ [10]).toArray⟩ := str_add LN [10]
      have hsz2 := str_size (LN ++ [10])
      have hl3 : (LN ++ [10]).length ≤ 301 := by rw [List.length_append]; simp only [List.length_cons, List.length_nil]; omega
      have K0 := Blk.new wr 45 #[.int .i64 x0, .int .i64 x1, .int .i64 x2, .int .i64 x3, .int .i64 x4, .int .i64 x5, .int .i64 x6]
      have ba : Below wr.heap.size wr (wr.alloc (.cells #[.int .i64 x0, .int .i64 x1, .int .i64 x2, .int .i64 x3, .int .i64 x4, .int .i64 x5, .int .i64 x6] 45)) := (Below.refl _ _).alloc (Nat.le_refl _) _
      have hT2 := T.below (b.trans (ba.mono hz))
      go_wp2_with fail
      refine (HL _ hT2).mono ?_
      rintro e w1 ⟨rfl, b1⟩
      have b2 := b.trans ((ba.trans (b1.mono ba.size)).mono hz)
      go_wp2_with fail
      go_roundw
      case rel => exact ⟨k + 1, by omega, by go_num, by rw [HS.out]; exact congrArg Value.string (str_add S (LN ++ [10])), b2⟩
      case measure => simp [intOf]; omega
    · obtain rfl : k = n := by omega
      go_wp2_with fail
      go_ret
      exact ⟨rfl, b⟩
set_option maxRecDepth 100000 in
set_option maxHeartbeats 2000000 in
theorem implLogText_any (A : Option Addr) (n c : Nat) (xs : List Int) (w : World) (hn : n ≤ 1048576) (hr : Rd w A (n * 7) (ints xs)) (T : TabW w) :
    Calls Tryz.prog 6 #[.slice A n c] w fun e w' => e = .returned (.tuple #[.string ⟨(lgS xs n).toArray⟩, .int .i64 (lgC xs n)]) ∧ Below w.heap.size w w' := by
  go_enter Tryz.func6, Tryz.ntmps6
  go_wp2_with fail
  refine (isLog_any A n c xs _ (by omega) hr).mono ?_
  rintro e w1 ⟨rfl, b1⟩
  rcases Bool.eq_false_or_eq_true (logB xs n) with o0 | o0
  case inr =>
    have HM := Lib.hid (lg_no o0)
    rw [o0]
    clear o0
    go_wp2
    refine bodyPost_ret (v := .tuple #[.string ⟨#[]⟩, .int .i64 1]) (by simp [results, Tryz.results6, go_sem]) rfl ?_
    rw [HM.out.1, HM.out.2]
    exact ⟨rfl, b1⟩
  have HM := Lib.hid (lg_yes o0)
  have HB := Lib.hid (logB_true o0)
  rw [o0]
  clear o0
  go_wp2_with fail
  refine (logText_any A n c xs _ HB.out.2 HB.out.1 (hr.below b1) (T.below b1)).mono ?_
  rintro e w2 ⟨rfl, b2⟩
  go_wp2
  refine bodyPost_ret (v := .tuple #[.string ⟨(lgT xs n).toArray⟩, .int .i64 0]) (by simp [results, Tryz.results6, go_sem]) rfl ?_
  rw [HM.out.1, HM.out.2]
  exact ⟨rfl, b1.trans (b2.mono b1.size)⟩
set_option maxRecDepth 100000 in
set_option maxHeartbeats 2000000 in
theorem specLogText_any (A : Option Addr) (n c : Nat) (xs : List Int) (w : World) (hn : n ≤ 1048576) (hr : Rd w A (n * 7) (ints xs)) :
    Calls Tryz.prog 7 #[.slice A n c] w fun e w' => e = .returned (.tuple #[.string ⟨(lgS xs n).toArray⟩, .int .i64 (lgC xs n)]) ∧ Below w.heap.size w w' := by
  go_enter Tryz.func7, Tryz.ntmps7
  go_wp2_with fail
  refine (l31Log_any A n c xs _ (by omega) hr).mono ?_
  rintro e w1 ⟨rfl, b1⟩
  rcases Bool.eq_false_or_eq_true (logB xs n) with o0 | o0
  case inr =>
    have HM := Lib.hid (lg_no o0)
    rw [o0]
    clear o0
    go_wp2
    refine bodyPost_ret (v := .tuple #[.string ⟨#[]⟩, .int .i64 1]) (by simp [results, Tryz.results7, go_sem]) rfl ?_
    rw [HM.out.1, HM.out.2]
    exact ⟨rfl, b1⟩
  have HM := Lib.hid (lg_yes o0)
  obtain ⟨hok, hn2⟩ := logB_true o0
  have HO := Lib.hid hok
  rw [o0]
  clear o0 hok
  replace hr := hr.below b1
  go_wp2_with fail
  go_loopw [4, 5] (fun v i wr => ∃ k j : Nat, k ≤ n ∧ i = .int .i64 k ∧ (lgT xs k).length = j ∧ wr.ownsRow w1.heap.size 5 1 v j (bcs (lgT xs k)) ∧ v ≠ .slice none 0 0 ∧ Below w1.heap.size w1 wr) (fun _ i _ => n - (intOf i).toNat)
  case atStart => exact ⟨0, 0, Nat.zero_le _, rfl, rfl, own_empty w1 _, (fun h => by cases h), (Below.refl _ _).alloc (Nat.le_refl _) _⟩
  case round =>
    obtain ⟨k, j, hk, rfl, hj, hown, hne, b⟩ := hrel
    by_cases hlt : k < n
    · have hltI : (k : Int) < (n : Int) := by omega
      have hk0 : (0 : Int) ≤ (k : Int) := by omega
      obtain ⟨ad, rfl, h0, h1, h2, h3, h4, h5, h6⟩ := (hr.below b).seven hlt
      have hfo : (rc7 xs k).ok = true := recsB_at HO.out hlt
      have HL := fun (W : World) => specRecordLine_any (rc7 xs k) W
      have HS := Lib.hid (lgT_succ xs k)
      have hl1 := ln_len hfo
      have hl2 := lgT_len HO.out k hk
      have hz := b.size
      have hb0 : (rc7 xs k).t0 = (rc7 xs k).ln := if_pos hfo
      rw [hb0] at HL
      unfold R7.V at HL
      generalize hLN : (rc7 xs k).ln = LN at *
      unfold rc7 at HL
      simp only at HL
      clear hfo hLN hb0
      generalize xs.getD (k * 7) 0 = x0 at *
      generalize xs.getD (k * 7 + 1) 0 = x1 at *
      generalize xs.getD (k * 7 + 2) 0 = x2 at *
      generalize xs.getD (k * 7 + 3) 0 = x3 at *
      generalize xs.getD (k * 7 + 4) 0 = x4 at *
      generalize xs.getD (k * 7 + 5) 0 = x5 at *
      generalize xs.getD (k * 7 + 6) 0 = x6 at *
      generalize lgT xs k = S at *
      have hsz0 := str_size LN
      have hA : ((⟨LN.toArray⟩ : ByteArray) ++ ⟨#[10]⟩) = ⟨(LN ++ [10]).toArray⟩ := str_add LN [10]
      have hl3 : (LN ++ [10]).length ≤ 301 := by rw [List.length_append]; simp only [List.length_cons, List.length_nil]; omega
      have hl4 : (S ++ (LN ++ [10])).length = j + (LN ++ [10]).length := by rw [List.length_append]; omega
      go_wp2_with fail
      refine (HL _).mono ?_
      rintro e w2 ⟨rfl, b2⟩
      have hown2 := own_below hown b2
      have b3 := b.trans (b2.mono hz)
      have hz3 := b3.size
      clear hown
      go_wp2_with (at_builtin; refine wp_append_str rfl _ _ rfl w1.heap.size _ j S (LN ++ [10]) rfl hown2 hne (by rw [← hA]; rfl) (by omega) hz3 ?_; intro v' w' hown' hne' hbel')
      go_roundw
      case rel => exact ⟨k + 1, j + (LN ++ [10]).length, by omega, by go_num, by rw [HS.out]; exact hl4, by rw [HS.out]; exact hown', hne', b3.trans hbel'⟩
      case measure => simp [intOf]; omega
    · obtain rfl : k = n := by omega
      obtain ⟨g, cp, rfl, hcv⟩ := own_conv hown hne hj
      go_wp2_with fail
      refine bodyPost_ret (v := .tuple #[.string ⟨(lgT xs k).toArray⟩, .int .i64 0]) (by simp [results, Tryz.results7, go_sem]) rfl ?_
      rw [HM.out.1, HM.out.2]
      exact ⟨rfl, b1.trans (b.mono b1.size)⟩
end Go.Proofs.YtoledbicmghmbaaGreatDoor
