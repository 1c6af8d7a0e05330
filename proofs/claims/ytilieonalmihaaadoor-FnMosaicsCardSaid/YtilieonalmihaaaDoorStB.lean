/- Numbers put together, both sides. Condition: as in the text before. -/
import Derived.Test.YtilieonalmihaaaDoorStA
namespace Go.Proofs.YtilieonalmihaaaDoor
open Go.RowKit

theorem itoa_len (n : Int) (h0 : -9223372036854775808 ≤ n) (h1 : n ≤ 9223372036854775807) : (Lib.itoa n).length ≤ 21 := Lib.itoa_length_le n h0 h1
theorem joinI_len (sep : Bs) : ∀ (xs : List Int), (∀ x ∈ xs, -9223372036854775808 ≤ x ∧ x ≤ 9223372036854775807) → (joinI sep xs).length ≤ xs.length * (sep.length + 21)
  | [], _ => by simp [joinI, Lib.join_nil]
  | x :: r, h => by
    have h1 := h x (List.mem_cons_self ..)
    have h2 := itoa_len x h1.1 h1.2
    cases r with
    | nil =>
      unfold joinI
      rw [List.map_cons, List.map_nil, Lib.join_one]
      simp; omega
    | cons y r =>
      have ih := joinI_len sep (y :: r) (fun z hz => h z (List.mem_cons_of_mem _ hz))
      have e : joinI sep (x :: y :: r) = Lib.itoa x ++ (sep ++ joinI sep (y :: r)) := by
        unfold joinI
        simp only [List.map_cons]
        rw [Lib.join_cons, Lib.join_cons]
        unfold Lib.joinTail
        simp
      rw [e]
      simp only [List.length_append, List.length_cons] at ih ⊢
      rw [Nat.add_mul (r.length + 1) 1, Nat.one_mul]
      omega
theorem string_info : (Tryd.prog.info? 9).map (fun i => (i.zero, i.size, i.bytes)) = some (some (.string ⟨#[]⟩), 1, 16) := by kernel_rfl
theorem run_make_str (n : Nat) (hn : n ≤ 2097152) (w : World) :
    (Instr.makeSlice 48 (.int .i64 (n : Int)) (.int .i64 (n : Int))).run Tryd.prog w = .ok (.slice (some ⟨w.heap.size, 0, none⟩) n n) (w.alloc (.cells (madeCells #[.string ⟨#[]⟩] n) 9)) := by
  obtain ⟨i0, hi0, hz0, hz1, hz2⟩ := info_parts string_info
  have h := run_make_rowN (P := Tryd.prog) 48 9 i0 _ Tryd.underlying48 hi0 hz0 .i64 .i64 n n (Nat.le_refl _) (by rw [hz2]; omega) (by omega) w
  rw [hz1, Nat.mul_one] at h
  exact h
theorem join_call (g n : Nat) (xs : List Bs) (sep : Bs) (w : World) (hl : xs.length = n) (hn : n ≤ 1048576) (hc : ∀ j, j < n → w.cell? ⟨g, j, none⟩ = some (.string ⟨(xs.getD j []).toArray⟩)) (hg : g < w.heap.size) (hlen : (Lib.join xs sep).length ≤ 140737488355328) :
    Calls Tryd.prog 26 #[.slice (some ⟨g, 0, none⟩) n n, .string ⟨sep.toArray⟩] w fun e w' => e = .returned (.string ⟨(Lib.join xs sep).toArray⟩) ∧ Below w.heap.size w w' := by
  subst hl
  have hm : (xs.map fun l => (⟨l.toArray⟩ : ByteArray)).map (·.data.toList) = xs := by
    rw [List.map_map]
    conv => rhs; rw [← List.map_id xs]
    exact List.map_congr_left fun x _ => rfl
  have h := strings_Join g 0 xs.length (xs.map fun l => (⟨l.toArray⟩ : ByteArray)) ⟨sep.toArray⟩ w (fun j x hx => by
      rw [List.getElem?_map, Option.map_eq_some_iff] at hx
      obtain ⟨y, hy, rfl⟩ := hx
      have hj : j < xs.length := (List.getElem?_eq_some_iff.1 hy).1
      rw [Nat.zero_add, hc j hj, List.getD_eq_getElem?_getD, hy]
      rfl) hg (by rw [List.length_map]; omega) (by rw [List.length_map]; exact Nat.le_refl _) (by rw [hm]; exact hlen)
  rw [hm, List.length_map] at h
  exact h
end Go.Proofs.YtilieonalmihaaaDoor
