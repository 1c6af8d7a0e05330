/- Numbers read from texts: the reference's side. Conditions: lengths. -/
import Derived.Test.YtilieonalmihaaaDoorStD
namespace Go.Proofs.YtilieonalmihaaaDoor
open Go.RowKit

theorem isDig_not {c : UInt8} (h : ¬ isDig c = true) : (c.toNat : Int) < 48 ∨ ¬ (c.toNat : Int) < 48 ∧ 57 < (c.toNat : Int) := by
  have := isDig_false (Bool.eq_false_iff.2 h)
  omega
theorem valB_no {l : Bs} (h : l.length < 1 ∨ 12 < l.length) : valB l = false := by
  rw [Bool.eq_false_iff]; intro c
  unfold valB at c
  simp only [Bool.and_eq_true, decide_eq_true_eq] at c
  omega
theorem valB_nd {l : Bs} {k : Nat} (hk : k < l.length) (h : ¬ isDig l[k] = true) : valB l = false := by
  rw [Bool.eq_false_iff]; intro c
  unfold valB at c
  simp only [Bool.and_eq_true, decide_eq_true_eq, List.all_eq_true] at c
  exact h (c.2.1 _ (List.getElem_mem hk))
theorem valB_yes {l : Bs} (h1 : 1 ≤ l.length) (h2 : l.length ≤ 12) (h3 : l.all isDig = true) : valB l = decide (Lib.decDigits (valN l) = l) := by
  unfold valB
  rw [decide_eq_true h1, decide_eq_true h2, h3]
  simp
theorem str_inj {a b : Bs} (h : (⟨a.toArray⟩ : ByteArray) = ⟨b.toArray⟩) : a = b := by
  have := congrArg (fun s : ByteArray => s.data.toList) h
  simpa using this
set_option maxRecDepth 100000 in
set_option maxHeartbeats 2000000 in
theorem l01Value_any (s : ByteArray) (w : World) (hs : s.size ≤ 1048576) :
    Calls Tryd.prog 60 #[.string s] w fun e w' => ∃ m : Int, e = .returned (.tuple #[.int .i64 m, .bool (valB s.data.toList)]) ∧ (valB s.data.toList = true → m = (valN s.data.toList : Int)) ∧ (0 ≤ m ∧ m ≤ 1000000000000) ∧ Below w.heap.size w w' := by
  have hl : s.data.toList.length = s.size := by simp
  by_cases h1 : (s.size : Int) < 1
  · have HV := Lib.hid (valB_no (l := s.data.toList) (.inl (by omega)))
    go_enter Tryd.func60, Tryd.ntmps60
    go_wp2
    refine bodyPost_ret (v := .tuple #[.int .i64 0, .bool false]) (by simp [results, Tryd.results60, go_sem]) rfl ?_
    rw [HV.out]
    exact ⟨0, rfl, (fun h => by cases h), by omega, Below.refl _ _⟩
  by_cases h2 : (12 : Int) < (s.size : Int)
  · have HV := Lib.hid (valB_no (l := s.data.toList) (.inr (by omega)))
    go_enter Tryd.func60, Tryd.ntmps60
    go_wp2
    refine bodyPost_ret (v := .tuple #[.int .i64 0, .bool false]) (by simp [results, Tryd.results60, go_sem]) rfl ?_
    rw [HV.out]
    exact ⟨0, rfl, (fun h => by cases h), by omega, Below.refl _ _⟩
  go_enter Tryd.func60, Tryd.ntmps60
  go_wp2
  go_loop [4, 5] (fun n i => ∃ k : Nat, k ≤ s.size ∧ i = .int .i64 k ∧ n = .int .i64 (valN (s.data.toList.take k) : Int) ∧ (s.data.toList.take k).all isDig = true ∧ valN (s.data.toList.take k) < 10 ^ k) (fun _ i => s.size - (intOf i).toNat)
  case atStart => exact ⟨0, Nat.zero_le _, rfl, rfl, rfl, by simp [valN]⟩
  case round =>
    obtain ⟨k, hk, rfl, rfl, hd, hp⟩ := hrel
    have hk12 : 10 ^ k ≤ 10 ^ 12 := Nat.pow_le_pow_right (by decide) (by omega)
    have hv12 : valN (s.data.toList.take k) ≤ 1000000000000 := by omega
    by_cases hlt : k < s.size
    · have hltI : (k : Int) < (s.size : Int) := by omega
      have hb : s[k].toNat < 256 := s[k].toNat_lt
      by_cases hdg : isDig s[k] = true
      · obtain ⟨g1, g2⟩ := isDig_true hdg
        have hge : ¬ (s[k].toNat : Int) < 48 := by omega
        have hle : ¬ (57 : Int) < (s[k].toNat : Int) := by omega
        have HS : Hid (valN (s.data.toList.take (k + 1)) = valN (s.data.toList.take k) * 10 + (s[k].toNat - 48)) := by
          rw [take_snoc_bytes s k hlt]; exact valN_snoc _ _
        have HD : Hid ((s.data.toList.take (k + 1)).all isDig = true) := by
          unfold Hid
          rw [take_snoc_bytes s k hlt, List.all_append, hd]
          simp [hdg]
        have HP : Hid (valN (s.data.toList.take (k + 1)) < 10 ^ (k + 1)) := by
          unfold Hid
          rw [HS.out, Nat.pow_succ]; omega
        clear hdg hd hp hk12
        generalize valN (s.data.toList.take k) = c at *
        have u1 : IntKind.u8.wrap ((s[k].toNat : Int) - 48) = (s[k].toNat : Int) - 48 := IntWalk.u8_in _ (by omega)
        have u2 : IntKind.i64.wrap (10 * (c : Int)) = 10 * (c : Int) := IntWalk.i64_in _ (by omega)
        have u3 : IntKind.i64.wrap (10 * (c : Int) + ((s[k].toNat : Int) - 48)) = 10 * (c : Int) + ((s[k].toNat : Int) - 48) := IntWalk.i64_in _ (by omega)
        have u4 : IntKind.i64.wrap ((s[k].toNat : Int) - 48) = (s[k].toNat : Int) - 48 := IntWalk.i64_in _ (by omega)
        go_wp2
        go_round
        case rel => exact ⟨k + 1, by omega, by go_num, by rw [HS.out]; exact congrArg (Value.int .i64) (by omega), HD.out, HP.out⟩
        case measure => simp [intOf]; omega
      · have HV := Lib.hid (valB_nd (l := s.data.toList) (k := k) (by omega) hdg)
        clear hd hp hk12 hv12
        generalize valN (s.data.toList.take k) = c at *
        rcases isDig_not hdg with hx | ⟨hx, hy⟩
        all_goals
          clear hdg
          go_wp2
          refine bodyPost_ret (v := .tuple #[.int .i64 0, .bool false]) (by simp [results, Tryd.results60, go_sem]) rfl ?_
          rw [HV.out]
          exact ⟨0, rfl, (fun h => by cases h), by omega, Below.refl _ _⟩
    · obtain rfl : k = s.size := by omega
      have ht : s.data.toList.take s.size = s.data.toList := List.take_of_length_le (by omega)
      rw [ht] at hd hv12 ⊢
      have HV := Lib.hid (valB_yes (by omega) (by omega) hd)
      have HE := Lib.hid (mk_list s)
      clear hd hp hk12 ht
      generalize hu : valN s.data.toList = u at *
      have HU := Lib.hid hu
      clear hu
      by_cases hE : Lib.decDigits u = s.data.toList
      · have hE2 : (⟨(Lib.decDigits u).toArray⟩ : ByteArray) = s := by rw [hE, HE.out]
        have HT : Hid (valB s.data.toList = true) := by unfold Hid; rw [HV.out, decide_eq_true hE]
        clear hE
        go_wp2_with fail
        refine (l01Dec_any u _ (by omega)).mono ?_
        rintro e w1 ⟨rfl, b1⟩
        rw [hE2]
        go_wp2
        refine bodyPost_ret (v := .tuple #[.int .i64 (u : Int), .bool true]) (by simp [results, Tryd.results60, go_sem]) rfl ?_
        rw [HT.out]
        exact ⟨u, rfl, (fun _ => by rw [HU.out]), by omega, b1⟩
      · have hE2 : ¬ (⟨(Lib.decDigits u).toArray⟩ : ByteArray) = s := fun h => hE (by rw [← h])
        have hE5 : ¬ Lib.decDigits u = s.toList := by rw [ByteArray.toList_eq]; exact hE
        have HT : Hid (valB s.data.toList = false) := by unfold Hid; rw [HV.out, decide_eq_false hE]
        clear hE
        go_wp2_with fail
        refine (l01Dec_any u _ (by omega)).mono ?_
        rintro e w1 ⟨rfl, b1⟩
        go_wp2
        refine bodyPost_ret (v := .tuple #[.int .i64 (u : Int), .bool false]) (by simp [results, Tryd.results60, go_sem, hE5]) rfl ?_
        rw [HT.out]
        exact ⟨u, rfl, (fun h => by cases h), by omega, b1⟩
set_option maxRecDepth 100000 in
set_option maxHeartbeats 2000000 in
theorem l01Signed_any (s : ByteArray) (w : World) (hs : s.size ≤ 1048576) :
    Calls Tryd.prog 50 #[.string s] w fun e w' => ∃ m : Int, e = .returned (.tuple #[.int .i64 m, .bool (sgB s.data.toList)]) ∧ (sgB s.data.toList = true → m = sgN s.data.toList) ∧ Below w.heap.size w w' := by
  have hl : s.data.toList.length = s.size := by simp
  by_cases h1 : (0 : Int) < (s.size : Int)
  case neg =>
    have hnil : s.data.toList = [] := List.eq_nil_of_length_eq_zero (by omega)
    have hv := l01Value_any s w hs
    rw [hnil] at hv ⊢
    go_enter Tryd.func50, Tryd.ntmps50
    go_wp2_with fail
    refine hv.mono ?_
    rintro e w1 ⟨m, rfl, hm, -, b1⟩
    go_wp2
    refine bodyPost_ret (v := .tuple #[.int .i64 m, .bool false]) (by simp [results, Tryd.results50, go_sem]; rfl) rfl ?_
    exact ⟨m, rfl, (fun h => by cases h), b1⟩
  have h0 : 0 < s.size := by omega
  obtain ⟨c, r, hcr⟩ : ∃ c r, s.data.toList = c :: r := by
    rcases h : s.data.toList with _ | ⟨c, r⟩
    · rw [h] at hl; simp at hl; omega
    · exact ⟨c, r, rfl⟩
  have hc0 : s[0] = c := by
    show s.data.toList[0]'(by omega) = c
    simp [hcr]
  have hc8 := c.toNat_lt
  by_cases h45 : c.toNat = 45
  · have HB := Lib.hid (sgB_neg (r := r) h45)
    have HN := Lib.hid (sgN_neg (r := r) h45)
    have hX : s.extract 1 s.size = ⟨r.toArray⟩ := by
      rw [ext_piece, hcr]
      have : r.length = s.size - 1 := by rw [hcr] at hl; simp at hl; omega
      rw [List.drop_one, List.tail_cons, List.take_of_length_le (by omega)]
    have hsz := str_size r
    have hr : r.length ≤ 1048576 := by rw [hcr] at hl; simp at hl; omega
    have hv := l01Value_any ⟨r.toArray⟩ w (by rw [hsz]; exact hr)
    rw [str_data] at hv
    rw [hcr]
    have h45s : (s[0].toNat : Int) = 45 := by rw [hc0]; omega
    have h45n : s[0].toNat = 45 := by rw [hc0]; exact h45
    clear hcr hc0 h45
    go_enter Tryd.func50, Tryd.ntmps50
    go_wp2_with fail
    refine hv.mono ?_
    rintro e w1 ⟨m, rfl, hm, hmb, b1⟩
    have u1 : IntKind.i64.wrap (-m) = -m := IntWalk.i64_in _ (by omega)
    rcases Bool.eq_false_or_eq_true (valB r) with hb | hb
    · have hm2 := hm hb
      subst hm2
      by_cases hp : (0 : Int) < (valN r : Int)
      · have HB2 : Hid (sgB (c :: r) = true) := by unfold Hid; rw [HB.out, hb, decide_eq_true (by omega)]; rfl
        have hpn : 0 < valN r := by omega
        rw [hb]
        clear hm hb
        go_wp2
        refine bodyPost_ret (v := .tuple #[.int .i64 (-(valN r : Int)), .bool true]) (by simp [results, Tryd.results50, go_sem]) rfl ?_
        rw [HB2.out]
        exact ⟨-(valN r : Int), rfl, (fun _ => by rw [HN.out]), b1⟩
      · have HB2 : Hid (sgB (c :: r) = false) := by unfold Hid; rw [HB.out, hb, decide_eq_false (by omega)]; rfl
        have hpn : valN r = 0 := by omega
        rw [hb]
        clear hm hb
        go_wp2
        refine bodyPost_ret (v := .tuple #[.int .i64 (-(valN r : Int)), .bool false]) (by simp [results, Tryd.results50, go_sem, hpn]) rfl ?_
        rw [HB2.out]
        exact ⟨-(valN r : Int), rfl, (fun h => by cases h), b1⟩
    · have HB2 : Hid (sgB (c :: r) = false) := by unfold Hid; rw [HB.out, hb]; rfl
      rw [hb]
      clear hm hb
      go_wp2
      refine bodyPost_ret (v := .tuple #[.int .i64 (-m), .bool false]) (by simp [results, Tryd.results50, go_sem]) rfl ?_
      rw [HB2.out]
      exact ⟨-m, rfl, (fun h => by cases h), b1⟩
  · have HB := Lib.hid (sgB_pos (r := r) h45)
    have HN := Lib.hid (sgN_pos (r := r) h45)
    have hv := l01Value_any s w hs
    rw [hcr] at hv ⊢
    rw [HB.out, HN.out]
    generalize valB (c :: r) = vb at *
    have h45n : ¬ s[0].toNat = 45 := by rw [hc0]; exact h45
    have h45s : ¬ (s[0].toNat : Int) = 45 := by omega
    have h45b : ((s[0].toNat : Int) == 45) = false := by rw [beq_eq_false_iff_ne]; exact h45s
    clear hcr hc0 h45
    go_enter Tryd.func50, Tryd.ntmps50
    go_wp2_with fail
    refine hv.mono ?_
    rintro e w1 ⟨m, rfl, hm, hmb, b1⟩
    go_wp2
    refine bodyPost_ret (v := .tuple #[.int .i64 m, .bool vb]) (by simp [results, Tryd.results50, go_sem]) rfl ?_
    exact ⟨m, rfl, hm, b1⟩
set_option maxRecDepth 100000 in
set_option maxHeartbeats 2000000 in
theorem l01Numbers_any (A : Option Addr) (n c : Nat) (ws : List Bs) (w : World) (hn : n ≤ 1048576) (hr : Rd w A n (strs ws)) (hw : ∀ x ∈ ws, x.length ≤ 1048576) :
    Calls Tryd.prog 32 #[.slice A n c] w fun e w' => ((sgAll ws = true ∧ ∃ B d, e = .returned (.tuple #[.slice B n d, .bool true]) ∧ Rd w' B n (ints (ws.map sgN)) ∧ n ≤ d) ∨ (sgAll ws = false ∧ e = .returned (.tuple #[.slice none 0 0, .bool false]))) ∧ Below w.heap.size w w' := by
  have hl := hr.strl
  go_enter Tryd.func32, Tryd.ntmps32
  go_wp2_with fail
  go_loopw [4, 5] (fun v i wr => ∃ k : Nat, k ≤ n ∧ i = .int .i64 k ∧ sgAll (ws.take k) = true ∧ wr.ownsRow w.heap.size 2 1 v k (ints ((ws.take k).map sgN)) ∧ Below w.heap.size w wr) (fun _ i _ => n - (intOf i).toNat)
  case atStart => exact ⟨0, Nat.zero_le _, rfl, rfl, own_empty w _, (Below.refl _ _).alloc (Nat.le_refl _) _⟩
  case round =>
    obtain ⟨k, hk, rfl, ha, hown, b⟩ := hrel
    have hbs := b.size
    by_cases hlt : k < n
    · have hltI : (k : Int) < (n : Int) := by omega
      have hk0 : (0 : Int) ≤ (k : Int) := by omega
      obtain ⟨ad, rfl, hx⟩ := (hr.below b).str hlt
      have hkl : k < ws.length := by omega
      have hge : ws.getD k [] = ws[k] := by rw [List.getD_eq_getElem?_getD, List.getElem?_eq_getElem hkl]; rfl
      have hm := hw (ws.getD k []) (by rw [hge]; exact List.getElem_mem hkl)
      have HA : Hid (sgAll (ws.take (k + 1)) = sgB (ws.getD k [])) := by
        unfold Hid sgAll at *
        rw [List.take_succ_eq_append_getElem hkl, List.all_append, ha, hge]
        simp
      have HM : Hid ((ws.take (k + 1)).map sgN = (ws.take k).map sgN ++ [sgN (ws.getD k [])]) := by
        unfold Hid
        rw [List.take_succ_eq_append_getElem hkl, List.map_append, hge]
        rfl
      have HF : Hid (sgB (ws.getD k []) = false → sgAll ws = false) := fun h => by
        unfold sgAll
        rw [Bool.eq_false_iff]; intro c
        have := List.all_eq_true.1 c _ (List.getElem_mem hkl)
        rw [← hge, h] at this
        cases this
      clear hge ha
      generalize ws.getD k [] = x at *
      have hsx := str_size x
      have hv := l01Signed_any ⟨x.toArray⟩ wr (by rw [hsx]; exact hm)
      rw [str_data] at hv
      go_wp2_with fail
      refine hv.mono ?_
      rintro e w1 ⟨m, rfl, hmm, b1⟩
      have b2 := b.trans (b1.mono hbs)
      have hbs2 := b2.size
      have hown1 := own_below hown b1
      clear hown
      rcases Bool.eq_false_or_eq_true (sgB x) with hb | hb
      · have hm3 := hmm hb
        have HA2 : Hid (sgAll (ws.take (k + 1)) = true) := by unfold Hid; rw [HA.out, hb]
        rw [hb]
        clear hmm hb hv
        go_wp2_with (at_builtin; refine wpList_append_int1 rfl _ _ rfl w.heap.size _ k ((ws.take k).map sgN) rfl rfl hown1 (by omega) hbs2 ?_; intro v' w' hown' hbel' _ _)
        go_roundw
        case rel => exact ⟨k + 1, by omega, by go_num, HA2.out, by rw [HM.out]; exact hown', b2.trans hbel'⟩
        case measure => simp [intOf]; omega
      · have HF2 := Lib.hid (HF.out hb)
        rw [hb]
        clear hmm hb hv
        go_wp2
        refine bodyPost_ret (v := .tuple #[.slice none 0 0, .bool false]) (by simp [results, Tryd.results32, go_sem]) rfl ?_
        exact ⟨.inr ⟨HF2.out, rfl⟩, b2⟩
    · obtain rfl : k = n := by omega
      have ht : ws.take k = ws := List.take_of_length_le (by omega)
      rw [ht] at ha hown
      obtain ⟨B, d, rfl, hrd, -, hd, -⟩ := own_rd hown
      go_wp2
      refine bodyPost_ret (v := .tuple #[.slice B k d, .bool true]) (by simp [results, Tryd.results32, go_sem]) rfl ?_
      exact ⟨.inl ⟨ha, B, d, rfl, hrd, hd⟩, b⟩
end Go.Proofs.YtilieonalmihaaaDoor
