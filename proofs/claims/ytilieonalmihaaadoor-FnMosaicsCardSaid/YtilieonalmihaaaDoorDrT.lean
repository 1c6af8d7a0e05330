/- The draws of texts of records: damaged texts, lines. Existential: some text, hardly longer. Condition: a length. -/
import Derived.Test.YtilieonalmihaaaDoorDrL
import Derived.Test.YtilieonalmihaaaDoorRecW
import Derived.Test.YtilieonalmihaaaDoorStD
import Derived.Deep.RegionWith
namespace Go.Proofs.YtilieonalmihaaaDoor
open Go.RowKit

def DamPost (L g n : Nat) (w : World) (e : Ending) (w' : World) : Prop := ∃ u : Bs, e = .returned (.string ⟨u.toArray⟩) ∧ u.length ≤ n ∧ Dr w w' L g
theorem dam_mk {L g n : Nat} {w w' : World} {u : Bs} {s : ByteArray} (h : s = ⟨u.toArray⟩) (hn : u.length ≤ n) (D : Dr w w' L g) : DamPost L g n w (.returned (.string s)) w' := ⟨u, by rw [h], hn, D⟩
theorem ext_to (t : Bs) (k : Nat) : (ByteArray.mk t.toArray).extract 0 k = ⟨(t.take k).toArray⟩ := by
  rw [ext_piece]; rfl
theorem ext_from (t : Bs) (k n : Nat) (hn : n = t.length) : (ByteArray.mk t.toArray).extract k n = ⟨(t.drop k).toArray⟩ := by
  rw [ext_piece]
  congr 2
  exact List.take_of_length_le (by simp; omega)
/-- the eight bytes that are put in -/
def eightV : Array Value := #[.string ⟨#[48]⟩, .string ⟨#[49]⟩, .string ⟨#[32]⟩, .string ⟨#[45]⟩, .string ⟨#[46]⟩, .string ⟨#[97]⟩, .string ⟨#[10]⟩, .string ⟨#[44]⟩]
theorem eight_at (j : Nat) (h : j < 8) : ∃ x : Bs, eightV[j]? = some (.string ⟨x.toArray⟩) ∧ x.length = 1 := by
  match j, h with
  | 0, _ => exact ⟨[48], rfl, rfl⟩
  | 1, _ => exact ⟨[49], rfl, rfl⟩
  | 2, _ => exact ⟨[32], rfl, rfl⟩
  | 3, _ => exact ⟨[45], rfl, rfl⟩
  | 4, _ => exact ⟨[46], rfl, rfl⟩
  | 5, _ => exact ⟨[97], rfl, rfl⟩
  | 6, _ => exact ⟨[10], rfl, rfl⟩
  | 7, _ => exact ⟨[44], rfl, rfl⟩

set_option maxRecDepth 100000 in
set_option maxHeartbeats 4000000 in
theorem l01Damage_any (L g : Nat) (t : Bs) (w : World) (S : Src w L g) (ht : t.length ≤ 1048576) :
    Calls Tryd.prog 30 #[.pointer (some ⟨g, 0, none⟩), .string ⟨t.toArray⟩] w (DamPost L g (t.length + 1) w) := by
  have D0 := Dr.start S
  have hz := str_size t
  have u1 : IntKind.i64.wrap ((t.length : Int) + 1) = (t.length : Int) + 1 := IntWalk.i64_in _ (by omega)
  go_enter Tryd.func30, Tryd.ntmps30
  go_wp2_with fail
  refine (l01Next_any L g ((t.length : Int) + 1) _ S (by omega)).mono ?_
  rintro e w1 ⟨k, rfl, k0, k1, g1, S1⟩
  have D1 := D0.next g1 S1
  obtain ⟨k, rfl⟩ := Int.eq_ofNat_of_zero_le k0
  have hk : k ≤ t.length := by omega
  clear D0 g1 S1 u1 k1
  go_wp2_with fail
  refine (l01Next_any L g 8 _ D1.src (by decide)).mono ?_
  rintro e w2 ⟨q, rfl, q0, q1, g2, S2⟩
  have D2 := D1.next g2 S2
  clear D1 g2 S2
  have hkI : (k : Int) ≤ (t.length : Int) := by omega
  by_cases h0 : q = 0
  · subst h0
    have HE := Lib.hid (ext_to t k)
    go_wp2
    go_ret
    exact dam_mk HE.out (by rw [List.length_take]; omega) D2
  have q0' : (q == 0) = false := by rw [beq_eq_false_iff_ne]; exact h0
  by_cases h1 : q = 1
  · subst h1
    have E1 := ext_to t k
    have E2 := ext_from t k t.length rfl
    have hl1 : (t.take k).length + (t.drop k).length = t.length := by rw [List.length_take, List.length_drop]; omega
    generalize t.take k = a at *
    generalize t.drop k = b at *
    have hl2 : a.length ≤ 1048576 := by omega
    have hl3 : b.length ≤ 1048576 := by omega
    have HL := Lib.hid hl1
    clear hl1
    have N1 := l01Next_any L g 8 _ (D2.drew).src (by decide)
    have DA := (D2.alloc (.cells #[.string ⟨#[48]⟩, .string ⟨#[49]⟩, .string ⟨#[32]⟩, .string ⟨#[45]⟩, .string ⟨#[46]⟩, .string ⟨#[97]⟩, .string ⟨#[10]⟩, .string ⟨#[44]⟩] 9)).drew
    have BA := blk_drewS (Blk.new w2 9 #[.string ⟨#[48]⟩, .string ⟨#[49]⟩, .string ⟨#[32]⟩, .string ⟨#[45]⟩, .string ⟨#[46]⟩, .string ⟨#[97]⟩, .string ⟨#[10]⟩, .string ⟨#[44]⟩])
    have N2 := l01Next_any L g 8 _ DA.src (by decide)
    have hg2 := D2.src.lt.1
    go_wp2_with fail
    go_region_with
      (first
        | (go_at_call 18; (with_reducible refine N1.mono ?_); rintro e w3 ⟨j, rfl, j0, j1, g3, S3⟩; obtain ⟨j, rfl⟩ := Int.eq_ofNat_of_zero_le j0; have j2 : j < 8 := (by omega); have j1' : (j : Int) < 8 := (by omega); clear j1; have D3 := ((D2.drew).next g3 S3).alloc (.cells #[.string ⟨#[48]⟩, .string ⟨#[49]⟩, .string ⟨#[32]⟩, .string ⟨#[45]⟩, .string ⟨#[46]⟩, .string ⟨#[97]⟩, .string ⟨#[10]⟩, .string ⟨#[44]⟩] 9); have j3 : (j : Int) < 8 := j1'; obtain ⟨x, hx1, hx2⟩ := eight_at j j2; have hc3 : (w3.alloc (.cells #[.string ⟨#[48]⟩, .string ⟨#[49]⟩, .string ⟨#[32]⟩, .string ⟨#[45]⟩, .string ⟨#[46]⟩, .string ⟨#[97]⟩, .string ⟨#[10]⟩, .string ⟨#[44]⟩] 9)).cell? ⟨w3.heap.size, j, none⟩ = some (.string ⟨x.toArray⟩) := ((Blk.new w3 9 #[.string ⟨#[48]⟩, .string ⟨#[49]⟩, .string ⟨#[32]⟩, .string ⟨#[45]⟩, .string ⟨#[46]⟩, .string ⟨#[97]⟩, .string ⟨#[10]⟩, .string ⟨#[44]⟩]).cell j).trans hx1; have E3 := str_add a x; have E4 := str_add (a ++ x) b; have l1 : ¬ 9223372036854775807 < a.length + x.length := (by omega); have l2 : ¬ 9223372036854775807 < (a ++ x).length + b.length := (by rw [List.length_append]; omega); have l3 : ¬ 9223372036854775807 < a.length + x.length + b.length := (by omega))
        | (go_at_call 18; (with_reducible refine N2.mono ?_); rintro e w3 ⟨j, rfl, j0, j1, g3, S3⟩; obtain ⟨j, rfl⟩ := Int.eq_ofNat_of_zero_le j0; have j2 : j < 8 := (by omega); have j1' : (j : Int) < 8 := (by omega); clear j1; have D3 := DA.next g3 S3; have j3 : (j : Int) < 8 := j1'; obtain ⟨x, hx1, hx2⟩ := eight_at j j2; have hc3 : w3.cell? ⟨w2.heap.size, j, none⟩ = some (.string ⟨x.toArray⟩) := ((BA.nx g3 (by omega)).cell j).trans hx1; have E3 := str_add a x; have E4 := str_add (a ++ x) b; have l1 : ¬ 9223372036854775807 < a.length + x.length := (by omega); have l2 : ¬ 9223372036854775807 < (a ++ x).length + b.length := (by rw [List.length_append]; omega); have l3 : ¬ 9223372036854775807 < a.length + x.length + b.length := (by omega)))
    all_goals
      have HL2 : Hid ((a ++ (x ++ b)).length ≤ t.length + 1) := by have := HL.out; unfold Hid; rw [List.length_append, List.length_append, hx2]; omega
      go_wp2
      go_ret
      exact dam_mk rfl HL2.out D3
  have q1' : (q == 1) = false := by rw [beq_eq_false_iff_ne]; exact h1
  by_cases h2 : q = 2
  · subst h2
    by_cases hlt : k < t.length
    · have hltI : (k : Int) < (t.length : Int) := by omega
      have u2 : IntKind.i64.wrap ((k : Int) + 1) = (k : Int) + 1 := IntWalk.i64_in _ (by omega)
      have hk1 : (k : Int) + 1 ≤ (t.length : Int) := by omega
      have hk2 : (0 : Int) ≤ (k : Int) + 1 := by omega
      have htn : ((k : Int) + 1).toNat = k + 1 := by omega
      have E1 := ext_to t k
      have E2 := ext_from t (k + 1) t.length rfl
      have hl1 : (t.take k).length ≤ 1048576 := by rw [List.length_take]; omega
      have hl2 : (t.drop (k + 1)).length ≤ 1048576 := by rw [List.length_drop]; omega
      have hl3 : (t.take k).length + (t.drop (k + 1)).length ≤ t.length + 1 := by rw [List.length_take, List.length_drop]; omega
      generalize t.take k = a at *
      generalize t.drop (k + 1) = b at *
      have hbd : ¬ 9223372036854775807 < a.length + b.length := by omega
      have E3 := str_add a b
      have HL : Hid ((a ++ b).length ≤ t.length + 1) := by unfold Hid; rw [List.length_append]; exact hl3
      go_wp2_with fail
      go_region
      all_goals
        go_wp2
        go_ret
        exact dam_mk rfl HL.out D2.drew
    · have hltI : ¬ (k : Int) < (t.length : Int) := by omega
      go_wp2
      go_ret
      exact dam_mk rfl (by omega) D2
  · have q2' : (q == 2) = false := by rw [beq_eq_false_iff_ne]; exact h2
    go_wp2
    go_ret
    exact dam_mk rfl (by omega) D2
theorem t0_len (f : R7) : f.t0.length ≤ 300 := by
  unfold R7.t0
  split
  · exact ln_len (by assumption)
  · exact Nat.zero_le _
end Go.Proofs.YtilieonalmihaaaDoor
