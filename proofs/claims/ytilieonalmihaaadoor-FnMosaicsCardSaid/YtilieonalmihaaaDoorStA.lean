/- Numbers written in decimal, both sides; numbers put together. Condition: the library's table of powers of ten is as it is laid. -/
import Derived.Test.YtilieonalmihaaaDoorKern
import Derived.Test.YtilieonalmihaaaDoorShelf
import Derived.Test.YtilieonalmihaaaDoorStS
import Derived.IntWalk
import Derived.Outline
import Derived.Deep.RegionWith
import Derived.Deep.DeepCutAuto
import Derived.Laws.IdiomStrings
import Derived.Laws.Concat
namespace Go.Proofs.YtilieonalmihaaaDoor
open Go.RowKit

theorem str_data (l : Bs) : (⟨l.toArray⟩ : ByteArray).data.toList = l := rfl
theorem str_size (l : Bs) : (⟨l.toArray⟩ : ByteArray).size = l.length := by simp [ByteArray.size]
theorem str_add (x y : Bs) : ((⟨x.toArray⟩ : ByteArray) ++ ⟨y.toArray⟩) = ⟨(x ++ y).toArray⟩ := ByteArray.mk_append_mk x y
theorem mk_list (s : ByteArray) : (⟨s.data.toList.toArray⟩ : ByteArray) = s := Lib.mk_data s
theorem below_grow (w : World) (os : Array Obj) : Below w.heap.size w (Sort.grow w os) :=
  ⟨rfl, rfl, rfl, by simp [Sort.grow], fun k hk => by simp [Sort.grow, Array.getElem?_append_left hk]⟩
theorem var_keep {w w' : World} {n : String} {cs : Array Value} (b : Below w.heap.size w w') (h : w.var? Tryd.prog n = some cs) : w'.var? Tryd.prog n = some cs := by
  unfold World.var? at *
  cases hg : Program.globalNamed Tryd.prog n with
  | none => rw [hg] at h; cases h
  | some g =>
    rw [hg] at h
    simp only [Option.bind_some] at h ⊢
    have hl : g < w.heap.size := by
      rcases Nat.lt_or_ge g w.heap.size with hlt | hge
      · exact hlt
      · rw [Array.getElem?_eq_none hge] at h; cases h
    rw [b.block g hl]; exact h
/-- The library's table of powers of ten is as its text lays it. -/
def TabW (w : World) : Prop := Lib.TabIs Tryd.prog w "internal/strconv.uint64pow10" .u64 Lib.pow10Tab
theorem TabW.below {w w' : World} (h : TabW w) (b : Below w.heap.size w w') : TabW w' := var_keep b h
set_option maxHeartbeats 1000000 in
theorem decimal_any (n : Int) (w : World) (h0 : -9223372036854775808 ≤ n) (h1 : n ≤ 9223372036854775807) (T : TabW w) :
    Calls Tryd.prog 43 #[.int .i64 n] w fun e w' => e = .returned (.string ⟨(Lib.itoa n).toArray⟩) ∧ Below w.heap.size w w' := by
  go_enter Tryd.func43, Tryd.ntmps43
  go_wp2_with fail
  refine (strconv_FormatInt_10 n h0 h1 _ T).mono ?_
  rintro e w' ⟨rfl, k, os, rfl⟩
  go_wp2
  go_ret
  exact ⟨rfl, Below.left (below_grow (w.drewN k) os)⟩
/-- the byte of a digit -/
def dg1 (u : Nat) : UInt8 := UInt8.ofNat (48 + u)
theorem conv_at {u g : Nat} {W : World} (h : u < 10) (hc : W.cell? ⟨g, 0, none⟩ = some (.int .u8 (48 + (u : Int)))) : (convert 22 9 (.slice (some ⟨g, 0, none⟩) 1 1)).run Tryd.prog W = .ok (.string ⟨#[dg1 u]⟩) W :=
  run_convert_bytes_back (P := Tryd.prog) _ _ _ 5 ⟨g, 0, none⟩ 1 [dg1 u] Tryd.underlying22 Tryd.underlying5 Tryd.underlying9 (fun j hj => by
    obtain rfl : j = 0 := by simpa using hj
    rw [add_lit, hc]
    have : ((dg1 u).toNat : Int) = 48 + (u : Int) := by unfold dg1; rw [dig_nat h]; omega
    show _ = some (Value.int .u8 ((dg1 u).toNat : Int))
    rw [this])
theorem conv_one {u : Nat} (h : u < 10) (W : World) : (convert 22 9 (.slice (some ⟨W.heap.size, 0, none⟩) 1 1)).run Tryd.prog (W.alloc (.cells #[.int .u8 (48 + (u : Int))] 5)) = .ok (.string ⟨#[dg1 u]⟩) (W.alloc (.cells #[.int .u8 (48 + (u : Int))] 5)) :=
  conv_at h ((Blk.new W 5 #[.int .u8 (48 + (u : Int))]).cell 0)
theorem dec_lt' {u : Nat} (h : u < 10) : Lib.decDigits u = [dg1 u] := dec_lt h
theorem dec_ge' {u : Nat} (h : ¬ u < 10) : Lib.decDigits u = Lib.decDigits (u / 10) ++ [dg1 (u % 10)] := dec_ge h
set_option maxRecDepth 100000 in
set_option maxHeartbeats 2000000 in
theorem l01Dec_aux (k : Nat) : ∀ (n : Nat) (w : World), n ≤ k → n ≤ 9223372036854775807 →
    Calls Tryd.prog 34 #[.int .i64 (n : Int)] w fun e w' => e = .returned (.string ⟨(Lib.decDigits n).toArray⟩) ∧ Below w.heap.size w w' := by
  induction k with
  | zero =>
    intro n w hk hn
    have h10 : n < 10 := by omega
    have hI : (n : Int) < 10 := by omega
    have h0 : (0 : Int) ≤ (n : Int) := by omega
    have u1 : IntKind.i64.wrap (48 + (n : Int)) = 48 + (n : Int) := IntWalk.i64_in _ (by omega)
    have u2 : IntKind.u8.wrap (48 + (n : Int)) = 48 + (n : Int) := by rw [IntKind.wrap_u8]; omega
    have hc := conv_one h10
    have HD := Lib.hid (dec_lt' h10)
    clear hk
    go_enter Tryd.func34, Tryd.ntmps34
    go_wp2_with fail
    go_ret
    exact ⟨by rw [HD.out]; rfl, by (repeat (first | (with_reducible assumption) | (with_reducible exact Below.refl _ _) | (with_reducible refine Below.drew ?_) | (with_reducible refine Below.drewN ?_ _) | (with_reducible refine Below.setCell ?_ ?_ _) | (with_reducible refine Below.alloc ?_ ?_ _) | assumption)); all_goals (first | omega | (simp; done) | (simp; omega))⟩
  | succ k ih =>
    intro n w hk hn
    by_cases h10 : n < 10
    · have hI : (n : Int) < 10 := by omega
      have h0 : (0 : Int) ≤ (n : Int) := by omega
      have u1 : IntKind.i64.wrap (48 + (n : Int)) = 48 + (n : Int) := IntWalk.i64_in _ (by omega)
      have u2 : IntKind.u8.wrap (48 + (n : Int)) = 48 + (n : Int) := by rw [IntKind.wrap_u8]; omega
      have hc := conv_one h10
      have HD := Lib.hid (dec_lt' h10)
      clear hk ih
      go_enter Tryd.func34, Tryd.ntmps34
      go_wp2_with fail
      go_ret
      exact ⟨by rw [HD.out]; rfl, by (repeat (first | (with_reducible assumption) | (with_reducible exact Below.refl _ _) | (with_reducible refine Below.drew ?_) | (with_reducible refine Below.drewN ?_ _) | (with_reducible refine Below.setCell ?_ ?_ _) | (with_reducible refine Below.alloc ?_ ?_ _) | assumption)); all_goals (first | omega | (simp; done) | (simp; omega))⟩
    · have hI : ¬ (n : Int) < 10 := by omega
      have h0 : (0 : Int) ≤ (n : Int) := by omega
      have HD := Lib.hid (dec_ge' h10)
      have IH := fun W => ih (n / 10) W (by omega) (by omega)
      obtain ⟨q, hq⟩ : ∃ q : Nat, n / 10 = q := ⟨_, rfl⟩
      obtain ⟨r, hr⟩ : ∃ r : Nat, n % 10 = r := ⟨_, rfl⟩
      have hr10 : r < 10 := by omega
      have e1 : (n : Int) / 10 = (q : Int) := by omega
      have e2 : (n : Int) % 10 = (r : Int) := by omega
      have hc := conv_one hr10
      have u3 : IntKind.i64.wrap (q : Int) = (q : Int) := IntWalk.i64_in _ (by omega)
      have e3 : (n : Int).tmod 10 = (r : Int) := by rw [Int.tmod_eq_emod_of_nonneg h0]; omega
      have e4 : (n : Int).tdiv 10 = (q : Int) := by rw [Int.tdiv_eq_ediv_of_nonneg h0]; omega
      have u1 : IntKind.i64.wrap (48 + (r : Int)) = 48 + (r : Int) := IntWalk.i64_in _ (by omega)
      have u2 : IntKind.u8.wrap (48 + (r : Int)) = 48 + (r : Int) := by rw [IntKind.wrap_u8]; omega
      have HD2 := HD.out
      rw [hq, hr] at HD2
      rw [hq] at IH
      have HD := Lib.hid HD2
      have hcd := conv_at (W := (w.alloc (.cells #[.int .u8 (48 + (r : Int))] 5)).drew) (g := w.heap.size) hr10 ((Blk.new w 5 #[.int .u8 (48 + (r : Int))]).cell 0)
      have HB : ∀ w1, Below (w.alloc (.cells #[.int .u8 (48 + (r : Int))] 5)).drew.heap.size (w.alloc (.cells #[.int .u8 (48 + (r : Int))] 5)).drew w1 → (convert 22 9 (.slice (some ⟨w.heap.size, 0, none⟩) 1 1)).run Tryd.prog w1 = .ok (.string ⟨#[dg1 r]⟩) w1 := fun w1 b =>
        conv_at hr10 ((b.cell (p := ⟨w.heap.size, 0, none⟩) (by simp [World.drew])).trans ((Blk.new w 5 #[.int .u8 (48 + (r : Int))]).cell 0))
      have HB1 : ∀ w1, Below w.drew.heap.size w.drew w1 → Below w.heap.size w w1 := fun w1 b => Below.left (m := 1) b
      have HB2 : ∀ w1, Below (w.alloc (.cells #[.int .u8 (48 + (r : Int))] 5)).drew.heap.size (w.alloc (.cells #[.int .u8 (48 + (r : Int))] 5)).drew w1 → Below w.heap.size w w1 := fun w1 b => (show Below w.heap.size w (w.alloc (.cells #[.int .u8 (48 + (r : Int))] 5)).drew from (by (repeat (first | (with_reducible assumption) | (with_reducible exact Below.refl _ _) | (with_reducible refine Below.drew ?_) | (with_reducible refine Below.drewN ?_ _) | (with_reducible refine Below.setCell ?_ ?_ _) | (with_reducible refine Below.alloc ?_ ?_ _) | assumption)); all_goals (first | omega | (simp; done) | (simp; omega)))).trans (b.mono (by simp [World.drew]))
      have hl1 : (Lib.decDigits q).length ≤ 20 := by rw [Lib.decDigits_length]; exact nDigits_le 20 q (by omega) (by decide)
      clear hk ih HD2 hq hr h10
      go_enter Tryd.func34, Tryd.ntmps34
      go_wp2_with fail
      go_region_with (first | (go_at_call 34; (with_reducible refine (IH _).mono ?_); rintro e w1 ⟨rfl, b1⟩; (try (have hc2 := HB _ b1)); (first | (have hbw := HB1 _ b1) | (have hbw := HB2 _ b1))))
      all_goals
        have hz := hbw.size
        go_wp2_with fail
        go_ret
        exact ⟨by rw [HD.out, ← str_add]; rfl, by (repeat (first | (with_reducible assumption) | (with_reducible exact Below.refl _ _) | (with_reducible refine Below.drew ?_) | (with_reducible refine Below.drewN ?_ _) | (with_reducible refine Below.setCell ?_ ?_ _) | (with_reducible refine Below.alloc ?_ ?_ _) | assumption)); all_goals (first | omega | (simp; done) | (simp; omega))⟩
theorem l01Dec_any (n : Nat) (w : World) (hn : n ≤ 9223372036854775807) :
    Calls Tryd.prog 34 #[.int .i64 (n : Int)] w fun e w' => e = .returned (.string ⟨(Lib.decDigits n).toArray⟩) ∧ Below w.heap.size w w' := l01Dec_aux n n w (Nat.le_refl _) hn
end Go.Proofs.YtilieonalmihaaaDoor
