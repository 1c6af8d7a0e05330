/- Numbers read from texts: the program's side. Conditions: lengths; the library's variables are as they are laid. -/
import Derived.Test.YtoledbicmghmbaaGreatDoorStE
import Derived.Test.YtoledbicmghmbaaGreatDoorShelfP
import Derived.Lib.SmallJoins
namespace Go.Proofs.YtoledbicmghmbaaGreatDoor
open Go.RowKit

/-- The library's variables are as its text lays them; its bound on lengths is some integer. -/
structure LibW (w : World) : Prop where
  tab : TabW w
  syn : ∃ tp p, w.var? Tryz.prog "strconv.ErrSyntax" = some #[.iface tp p]
  rng : ∃ tp p, w.var? Tryz.prog "strconv.ErrRange" = some #[.iface tp p]
  mx : ∃ m, w.cell? ⟨0, 0, none⟩ = some (.int .i64 m)
  pos : 0 < w.heap.size
theorem LibW.below {w w' : World} (h : LibW w) (b : Below w.heap.size w w') : LibW w' := by
  obtain ⟨h1, ⟨t2, p2, h2⟩, ⟨t3, p3, h3⟩, ⟨m, h4⟩, h5⟩ := h
  exact ⟨h1.below b, ⟨t2, p2, var_keep b h2⟩, ⟨t3, p3, var_keep b h3⟩, ⟨m, (b.cell (p := ⟨0, 0, none⟩) h5).trans h4⟩, Nat.lt_of_lt_of_le h5 b.size⟩
theorem rd_strs (w : World) (ws : List Bs) (e : TypeId) (n : Nat) (hn : ws.length = n) : Rd (w.alloc (.cells (strs ws).toArray e)) (some ⟨w.heap.size, 0, none⟩) n (strs ws) := by
  subst hn
  exact (Blk.new w e (strs ws).toArray).rd (by unfold strs; simp) (fun i _ => by simp)
theorem split_any (s : Bs) (c : UInt8) (w : World) (hs : s.length ≤ 1048576) (T : LibW w) :
    Calls Tryz.prog 40 #[.string ⟨s.toArray⟩, .string ⟨#[c]⟩] w fun e w' => e = .returned (.slice (some ⟨w.heap.size, 0, none⟩) (splitC c s).length (splitC c s).length) ∧ Rd w' (some ⟨w.heap.size, 0, none⟩) (splitC c s).length (strs (splitC c s)) ∧ Below w.heap.size w w' := by
  obtain ⟨m, hm⟩ := T.mx
  have hc : Lib.countB ⟨s.toArray⟩ ⟨[c].toArray⟩ + 1 = (splitC c s).length := count_eq c s
  have hd : (Lib.splitB ⟨[c].toArray⟩ 0 (Lib.countB ⟨s.toArray⟩ ⟨[c].toArray⟩) ⟨s.toArray⟩).map (·.data.toList) = splitC c s := by
    rw [Lib.splitB_data]; exact split_eq c s
  have hv : (Lib.splitB ⟨[c].toArray⟩ 0 (Lib.countB ⟨s.toArray⟩ ⟨[c].toArray⟩) ⟨s.toArray⟩).map Value.string = strs (splitC c s) := by
    rw [← hd]
    unfold strs
    rw [List.map_map]
    exact List.map_congr_left fun x _ => congrArg Value.string (mk_list x).symm
  have h := strings_Split ⟨s.toArray⟩ ⟨[c].toArray⟩ m w (by rw [str_size]; omega) hm (Nat.le_refl 1)
  rw [hc, hv] at h
  refine h.mono ?_
  rintro e w' ⟨rfl, rfl⟩
  exact ⟨rfl, rd_strs w _ _ _ rfl, (Below.refl _ _).alloc (Nat.le_refl _) _⟩
set_option maxRecDepth 100000 in
set_option maxHeartbeats 2000000 in
theorem readNumber_any (s : Bs) (w : World) (hs : s.length ≤ 1048576) (T : LibW w) :
    Calls Tryz.prog 58 #[.string ⟨s.toArray⟩] w fun e w' => ∃ m : Int, e = .returned (.tuple #[.int .i64 m, .bool (rdB s)]) ∧ (rdB s = true → m = rdN s) ∧ Below w.heap.size w w' := by
  have hz := str_size s
  have hbd := rdN_bd s
  rcases hp : Lib.parseIntB 64 s with v | _ | _
  · have hv : rdN s = v := by unfold rdN; rw [hp]
    rw [hv] at hbd
    have HB : Hid (rdB s = decide (Lib.itoa v = s)) := by unfold Hid rdB; rw [hp]
    have HV := Lib.hid hv
    have hc := strconv_ParseInt_10_at64_ok ⟨s.toArray⟩ (by rw [hz]; omega) v hp w
    clear hv hp
    by_cases hE : Lib.itoa v = s
    · have HT : Hid (rdB s = true) := by unfold Hid; rw [HB.out, decide_eq_true hE]
      go_enter Tryz.func58, Tryz.ntmps58
      go_wp2_with fail
      refine hc.mono ?_
      rintro e w1 ⟨rfl, hw⟩
      have b1 : Below w.heap.size w w1 := by
        rcases hw with rfl | ⟨t, rfl⟩
        · exact Below.refl _ _
        · exact Joins.below_bytesWorld _ _ _ _ (Nat.le_refl _)
      clear hw
      go_wp2_with fail
      refine (decimal_any v _ hbd.1 hbd.2 (T.below b1).tab).mono ?_
      rintro e w2 ⟨rfl, b2⟩
      rw [hE]
      go_wp2
      refine bodyPost_ret (v := .tuple #[.int .i64 v, .bool true]) (by simp [results, Tryz.results58, go_sem]) rfl ?_
      rw [HT.out]
      exact ⟨v, rfl, (fun _ => HV.out.symm), b1.trans (b2.mono b1.size)⟩
    · have HT : Hid (rdB s = false) := by unfold Hid; rw [HB.out, decide_eq_false hE]
      go_enter Tryz.func58, Tryz.ntmps58
      go_wp2_with fail
      refine hc.mono ?_
      rintro e w1 ⟨rfl, hw⟩
      have b1 : Below w.heap.size w w1 := by
        rcases hw with rfl | ⟨t, rfl⟩
        · exact Below.refl _ _
        · exact Joins.below_bytesWorld _ _ _ _ (Nat.le_refl _)
      clear hw
      go_wp2_with fail
      refine (decimal_any v _ hbd.1 hbd.2 (T.below b1).tab).mono ?_
      rintro e w2 ⟨rfl, b2⟩
      go_wp2
      refine bodyPost_ret (v := .tuple #[.int .i64 v, .bool false]) (by simp [results, Tryz.results58, go_sem, hE]) rfl ?_
      rw [HT.out]
      exact ⟨v, rfl, (fun h => by cases h), b1.trans (b2.mono b1.size)⟩
  · have HT : Hid (rdB s = false) := by unfold Hid rdB; rw [hp]
    obtain ⟨tp, p, hvar⟩ := T.syn
    have hc := strconv_ParseInt_10_at64_syntax_var ⟨s.toArray⟩ (by rw [hz]; omega) hp tp p w hvar
    clear hp
    go_enter Tryz.func58, Tryz.ntmps58
    go_wp2_with fail
    refine hc.mono ?_
    rintro e w1 ⟨N, rfl, -, -, b1⟩
    go_wp2
    refine bodyPost_ret (v := .tuple #[.int .i64 0, .bool false]) (by simp [results, Tryz.results58, go_sem]) rfl ?_
    rw [HT.out]
    exact ⟨0, rfl, (fun h => by cases h), b1⟩
  · have HT : Hid (rdB s = false) := by unfold Hid rdB; rw [hp]
    obtain ⟨tp, p, hvar⟩ := T.rng
    have hc := strconv_ParseInt_10_at64_range_var ⟨s.toArray⟩ (by rw [hz]; omega) hp tp p w hvar
    clear hp
    generalize Lib.intSat 64 (ByteArray.data ⟨s.toArray⟩).toList = v at hc
    go_enter Tryz.func58, Tryz.ntmps58
    go_wp2_with fail
    refine hc.mono ?_
    rintro e w1 ⟨N, rfl, -, -, b1⟩
    go_wp2
    refine bodyPost_ret (v := .tuple #[.int .i64 v, .bool false]) (by simp [results, Tryz.results58, go_sem]) rfl ?_
    rw [HT.out]
    exact ⟨v, rfl, (fun h => by cases h), b1⟩
set_option maxRecDepth 100000 in
set_option maxHeartbeats 2000000 in
theorem readNumbers_any (s : Bs) (c : UInt8) (w : World) (hs : s.length ≤ 1048576) (T : LibW w) :
    Calls Tryz.prog 41 #[.string ⟨s.toArray⟩, .string ⟨#[c]⟩, .int .i64 ((splitC c s).length : Int)] w fun e w' => ((rdAll (splitC c s) = true ∧ ∃ B d, e = .returned (.tuple #[.slice B (splitC c s).length d, .bool true]) ∧ Rd w' B (splitC c s).length (ints ((splitC c s).map rdN)) ∧ (splitC c s).length ≤ d) ∨ (rdAll (splitC c s) = false ∧ e = .returned (.tuple #[.slice none 0 0, .bool false]))) ∧ Below w.heap.size w w' := by
  have hsp := split_any s c w (by omega) T
  have hlen := splitC_len c s
  have hpc := splitC_piece c s
  generalize splitC c s = ws at *
  obtain ⟨n, hn⟩ : ∃ n, ws.length = n := ⟨_, rfl⟩
  rw [hn] at hsp hlen ⊢
  have HP := Lib.hid hpc
  have HN := Lib.hid hn
  clear hpc hn
  go_enter Tryz.func41, Tryz.ntmps41
  go_wp2_with fail
  refine hsp.mono ?_
  rintro e w1 ⟨rfl, hr, b1⟩
  have T1 := T.below b1
  have hb1s := b1.size
  generalize w.heap.size = g0 at hr ⊢
  go_wp2_with fail
  go_loopw [9, 19] (fun v i wr => ∃ k : Nat, k ≤ n ∧ i = .int .i64 k ∧ rdAll (ws.take k) = true ∧ wr.ownsRow w1.heap.size 2 1 v k (ints ((ws.take k).map rdN)) ∧ Below w1.heap.size w1 wr) (fun _ i _ => n - (intOf i).toNat)
  case atStart => exact ⟨0, Nat.zero_le _, rfl, rfl, World.ownsRow_nil _ _ _ _, Below.refl _ _⟩
  case round =>
    obtain ⟨k, hk, rfl, ha, hown, b⟩ := hrel
    have hbs := b.size
    by_cases hlt : k < n
    · have hltI : (k : Int) < (n : Int) := by omega
      have hk0 : (0 : Int) ≤ (k : Int) := by omega
      obtain ⟨_, ⟨⟩, hx⟩ := (hr.below b).str hlt
      rw [add_lit] at hx
      have hkl : k < ws.length := by have := HN.out; omega
      have hge : ws.getD k [] = ws[k] := by rw [List.getD_eq_getElem?_getD, List.getElem?_eq_getElem hkl]; rfl
      have hm := HP.out (ws.getD k []) (by rw [hge]; exact List.getElem_mem hkl)
      have HA : Hid (rdAll (ws.take (k + 1)) = rdB (ws.getD k [])) := by
        unfold Hid rdAll at *
        rw [List.take_succ_eq_append_getElem hkl, List.all_append, ha, hge]
        simp
      have HM : Hid ((ws.take (k + 1)).map rdN = (ws.take k).map rdN ++ [rdN (ws.getD k [])]) := by
        unfold Hid
        rw [List.take_succ_eq_append_getElem hkl, List.map_append, hge]
        rfl
      have HF : Hid (rdB (ws.getD k []) = false → rdAll ws = false) := fun h => by
        unfold rdAll
        rw [Bool.eq_false_iff]; intro c
        have := List.all_eq_true.1 c _ (List.getElem_mem hkl)
        rw [← hge, h] at this
        cases this
      clear hge ha
      generalize ws.getD k [] = x at *
      have hv := readNumber_any x wr (by omega) (T1.below b)
      go_wp2_with fail
      refine hv.mono ?_
      rintro e w2 ⟨m, rfl, hmm, b2⟩
      have b3 := b.trans (b2.mono hbs)
      have hbs2 := b3.size
      have hown1 := own_below hown b2
      clear hown
      rcases Bool.eq_false_or_eq_true (rdB x) with hb | hb
      · have hm3 := hmm hb
        have HA2 : Hid (rdAll (ws.take (k + 1)) = true) := by unfold Hid; rw [HA.out, hb]
        rw [hb]
        clear hmm hb hv
        go_wp2_with (at_builtin; refine wpList_append_int1 rfl _ _ rfl w1.heap.size _ k ((ws.take k).map rdN) rfl rfl hown1 (by omega) hbs2 ?_; intro v' w' hown' hbel' _ _)
        go_roundw
        case rel => exact ⟨k + 1, by omega, by go_num, HA2.out, by rw [HM.out]; exact hown', b3.trans hbel'⟩
        case measure => simp [intOf]; omega
      · have HF2 := Lib.hid (HF.out hb)
        rw [hb]
        clear hmm hb hv
        go_wp2
        refine bodyPost_ret (v := .tuple #[.slice none 0 0, .bool false]) (by simp [results, Tryz.results41, go_sem]) rfl ?_
        exact ⟨.inr ⟨HF2.out, rfl⟩, b1.trans (b3.mono hb1s)⟩
    · obtain rfl : k = n := by omega
      have ht : ws.take k = ws := List.take_of_length_le (by have := HN.out; omega)
      rw [ht] at ha hown
      obtain ⟨B, d, rfl, hrd, -, hd, -⟩ := own_rd hown
      go_wp2
      refine bodyPost_ret (v := .tuple #[.slice B k d, .bool true]) (by simp [results, Tryz.results41, go_sem]) rfl ?_
      exact ⟨.inl ⟨ha, B, d, rfl, hrd, hd⟩, b1.trans (b.mono hb1s)⟩
end Go.Proofs.YtoledbicmghmbaaGreatDoor
