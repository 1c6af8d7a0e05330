/- Numbers read from texts: the program's side. Conditions: lengths; the library's variables are as they are laid. -/
import Derived.Test.YtilieonalmihaaaDoorStE
import Derived.Test.YtilieonalmihaaaDoorShelfP
import Derived.Lib.SmallJoins
namespace Go.Proofs.YtilieonalmihaaaDoor
open Go.RowKit

/-- The library's variables are as its text lays them; its bound on lengths is some integer. -/
structure LibW (w : World) : Prop where
  tab : TabW w
  syn : ∃ tp p, w.var? Tryd.prog "strconv.ErrSyntax" = some #[.iface tp p]
  rng : ∃ tp p, w.var? Tryd.prog "strconv.ErrRange" = some #[.iface tp p]
  mx : ∃ m, w.cell? ⟨0, 0, none⟩ = some (.int .i64 m)
  pos : 0 < w.heap.size
theorem LibW.below {w w' : World} (h : LibW w) (b : Below w.heap.size w w') : LibW w' := by
  obtain ⟨h1, ⟨t2, p2, h2⟩, ⟨t3, p3, h3⟩, ⟨m, h4⟩, h5⟩ := h
  exact ⟨h1.below b, ⟨t2, p2, var_keep b h2⟩, ⟨t3, p3, var_keep b h3⟩, ⟨m, (b.cell (p := ⟨0, 0, none⟩) h5).trans h4⟩, Nat.lt_of_lt_of_le h5 b.size⟩
theorem rd_strs (w : World) (ws : List Bs) (e : TypeId) (n : Nat) (hn : ws.length = n) : Rd (w.alloc (.cells (strs ws).toArray e)) (some ⟨w.heap.size, 0, none⟩) n (strs ws) := by
  subst hn
  exact (Blk.new w e (strs ws).toArray).rd (by unfold strs; simp) (fun i _ => by simp)
theorem split_any (s : Bs) (c : UInt8) (w : World) (hs : s.length ≤ 1048576) (T : LibW w) :
    Calls Tryd.prog 27 #[.string ⟨s.toArray⟩, .string ⟨#[c]⟩] w fun e w' => e = .returned (.slice (some ⟨w.heap.size, 0, none⟩) (splitC c s).length (splitC c s).length) ∧ Rd w' (some ⟨w.heap.size, 0, none⟩) (splitC c s).length (strs (splitC c s)) ∧ Below w.heap.size w w' := by
  obtain ⟨m, hm⟩ := T.mx
  have hc : Lib.countB ⟨s.toArray⟩ ⟨[c].toArray⟩ + 1 = (splitC c s).length := count_eq c s
  have hd : (Lib.splitB ⟨[c].toArray⟩ 0 (Lib.countB ⟨s.toArray⟩ ⟨[c].toArray⟩) ⟨s.toArray⟩).map (·.data.toList) = splitC c s := by
    rw [Lib.splitB_data]; exact split_eq c s
  have hv : (Lib.splitB ⟨[c].toArray⟩ 0 (Lib.countB ⟨s.toArray⟩ ⟨[c].toArray⟩) ⟨s.toArray⟩).map Value.string = strs (splitC c s) := by
    rw [← hd]
    unfold strs
    rw [List.map_map]
    exact List.map_congr_left fun x _ => congrArg Value.string (mk_list x).symm
  have h := strings_Split ⟨s.toArray⟩ ⟨[c].toArray⟩ m w (by rw [str_size]; omega) hm (Nat.le_refl 1)
  rw [hc, hv] at h
  refine h.mono ?_
  rintro e w' ⟨rfl, rfl⟩
  exact ⟨rfl, rd_strs w _ _ _ rfl, (Below.refl _ _).alloc (Nat.le_refl _) _⟩
set_option maxRecDepth 100000 in
set_option maxHeartbeats 2000000 in
theorem readNumber_any (s : Bs) (w : World) (hs : s.length ≤ 1048576) (T : LibW w) :
    Calls Tryd.prog 49 #[.string ⟨s.toArray⟩] w fun e w' => ∃ m : Int, e = .returned (.tuple #[.int .i64 m, .bool (rdB s)]) ∧ (rdB s = true → m = rdN s) ∧ Below w.heap.size w w' := by
  have hz := str_size s
  have hbd := rdN_bd s
  rcases hp : Lib.parseIntB 64 s with v | _ | _
  · have hv : rdN s = v := by unfold rdN; rw [hp]
    rw [hv] at hbd
    have HB : Hid (rdB s = decide (Lib.itoa v = s)) := by unfold Hid rdB; rw [hp]
    have HV := Lib.hid hv
    have hc := strconv_ParseInt_10_at64_ok ⟨s.toArray⟩ (by rw [hz]; omega) v hp w
    clear hv hp
    by_cases hE : Lib.itoa v = s
    · have HT : Hid (rdB s = true) := by unfold Hid; rw [HB.out, decide_eq_true hE]
      go_enter Tryd.func49, Tryd.ntmps49
      go_wp2_with fail
      refine hc.mono ?_
      rintro e w1 ⟨rfl, hw⟩
      have b1 : Below w.heap.size w w1 := by
        rcases hw with rfl | ⟨t, rfl⟩
        · exact Below.refl _ _
        · exact Joins.below_bytesWorld _ _ _ _ (Nat.le_refl _)
      clear hw
      go_wp2_with fail
      refine (decimal_any v _ hbd.1 hbd.2 (T.below b1).tab).mono ?_
      rintro e w2 ⟨rfl, b2⟩
      rw [hE]
      go_wp2
      refine bodyPost_ret (v := .tuple #[.int .i64 v, .bool true]) (by simp [results, Tryd.results49, go_sem]) rfl ?_
      rw [HT.out]
      exact ⟨v, rfl, (fun _ => HV.out.symm), b1.trans (b2.mono b1.size)⟩
    · have HT : Hid (rdB s = false) := by unfold Hid; rw [HB.out, decide_eq_false hE]
      go_enter Tryd.func49, Tryd.ntmps49
      go_wp2_with fail
      refine hc.mono ?_
      rintro e w1 ⟨rfl, hw⟩
      have b1 : Below w.heap.size w w1 := by
        rcases hw with rfl | ⟨t, rfl⟩
        · exact Below.refl _ _
        · exact Joins.below_bytesWorld _ _ _ _ (Nat.le_refl _)
      clear hw
      go_wp2_with fail
      refine (decimal_any v _ hbd.1 hbd.2 (T.below b1).tab).mono ?_
      rintro e w2 ⟨rfl, b2⟩
      go_wp2
      refine bodyPost_ret (v := .tuple #[.int .i64 v, .bool false]) (by simp [results, Tryd.results49, go_sem, hE]) rfl ?_
      rw [HT.out]
      exact ⟨v, rfl, (fun h => by cases h), b1.trans (b2.mono b1.size)⟩
  · have HT : Hid (rdB s = false) := by unfold Hid rdB; rw [hp]
    obtain ⟨tp, p, hvar⟩ := T.syn
    have hc := strconv_ParseInt_10_at64_syntax_var ⟨s.toArray⟩ (by rw [hz]; omega) hp tp p w hvar
    clear hp
    go_enter Tryd.func49, Tryd.ntmps49
    go_wp2_with fail
    refine hc.mono ?_
    rintro e w1 ⟨N, rfl, -, -, b1⟩
    go_wp2
    refine bodyPost_ret (v := .tuple #[.int .i64 0, .bool false]) (by simp [results, Tryd.results49, go_sem]) rfl ?_
    rw [HT.out]
    exact ⟨0, rfl, (fun h => by cases h), b1⟩
  · have HT : Hid (rdB s = false) := by unfold Hid rdB; rw [hp]
    obtain ⟨tp, p, hvar⟩ := T.rng
    have hc := strconv_ParseInt_10_at64_range_var ⟨s.toArray⟩ (by rw [hz]; omega) hp tp p w hvar
    clear hp
    generalize Lib.intSat 64 (ByteArray.data ⟨s.toArray⟩).toList = v at hc
    go_enter Tryd.func49, Tryd.ntmps49
    go_wp2_with fail
    refine hc.mono ?_
    rintro e w1 ⟨N, rfl, -, -, b1⟩
    go_wp2
    refine bodyPost_ret (v := .tuple #[.int .i64 v, .bool false]) (by simp [results, Tryd.results49, go_sem]) rfl ?_
    rw [HT.out]
    exact ⟨v, rfl, (fun h => by cases h), b1⟩
end Go.Proofs.YtilieonalmihaaaDoor
