/- The law FnLogs, walked. Condition: the library's variables are as they are laid. -/
import Derived.Test.YtoledbicmghmbaaGreatDoorDrR
import Derived.Test.YtoledbicmghmbaaGreatDoorRvI
import Derived.Test.YtoledbicmghmbaaGreatDoorLogP
import Derived.Test.YtoledbicmghmbaaGreatDoorLike
import Derived.Test.YtoledbicmghmbaaGreatDoorDice
import Derived.Test.YtoledbicmghmbaaGreatDoorArgB
namespace Go.Proofs.YtoledbicmghmbaaGreatDoor
open Go.RowKit

theorem count_byte {s : ByteArray} {k : Nat} (h : k < s.size) : (s.data.toList.take (k + 1)).count 10 = (s.data.toList.take k).count 10 + if s[k].toNat = 10 then 1 else 0 := by
  rw [take_snoc_bytes s k h, List.count_append, List.count_singleton]
  congr 1
  by_cases h2 : s[k].toNat = 10
  · have e : s[k] = 10 := UInt8.toNat_inj.1 h2
    rw [if_pos h2, e]; rfl
  · have e : ¬ s[k] = 10 := fun c => h2 (by rw [c]; rfl)
    rw [if_neg h2]
    simp [e]

set_option maxRecDepth 100000 in
set_option maxHeartbeats 8000000 in
theorem FnLogs_walk (w : World) (A : Option Addr) (n c : Nat) (zs : List Int) (G : ArgB w A n c zs) (T : LibW w) :
    Calls Tryz.prog 3 #[.slice A n c] w fun e w' => e = .returned (.bool true) ∧ Below w.heap.size w w' := by
  have hmx := G.max
  by_cases hb : (4096 : Int) < (n : Int)
  · go_enter Tryz.func3, Tryz.ntmps3
    go_wp2_with (go_at_call 4; refine (big_any _ _ _ _ (by omega)).mono ?_; rintro e w' ⟨rfl, rfl⟩)
    go_ret
    exact ⟨rfl, Below.refl _ _⟩
  have hbd : decide ((4096 : Int) < (n : Int)) = false := by simpa using hb
  have hn4 : n ≤ 4096 := by omega
  go_enter Tryz.func3, Tryz.ntmps3
  go_wp2_with fail
  refine (big_any _ _ _ _ (by omega)).mono ?_
  rintro e w' ⟨rfl, rfl⟩
  go_wp2_with fail
  refine (drawLogText_any A n c zs _ G.rd G.byte hn4).mono ?_
  rintro e w1 ⟨⟨A0, n0, c0⟩, xs, rfl, h60, hnc, R0, b1⟩
  simp only at h60 hnc R0
  simp only
  clear hbd hb
  have HLI := fun (V : World) (R : Rd V A0 (n0 * 7) (ints xs)) (T : TabW V) => implLogText_any A0 n0 c0 xs V (by omega) R T
  have HLS := fun (V : World) (R : Rd V A0 (n0 * 7) (ints xs)) => specLogText_any A0 n0 c0 xs V (by omega) R
  have hl : (lgS xs n0).length ≤ 60000 := by
    unfold lgS
    split
    · have := lgT_len (logB_true (by assumption)).1 n0 (Nat.le_refl _); omega
    · exact Nat.zero_le _
  have HLB : Hid (lgC xs n0 = 0 → logB xs n0 = true ∧ lgS xs n0 = lgT xs n0) := fun h => by
    rcases Bool.eq_false_or_eq_true (logB xs n0) with o | o
    · exact ⟨o, (lg_yes o).2⟩
    · rw [(lg_no o).1] at h; cases h
  have hxl : xs.length = n0 * 7 := R0.len
  have HXL := Lib.hid hxl
  clear hxl
  obtain ⟨tb, htb⟩ : ∃ tb : ByteArray, (⟨(lgS xs n0).toArray⟩ : ByteArray) = tb := ⟨_, rfl⟩
  have HD : Hid (tb.data.toList = lgS xs n0) := by unfold Hid; rw [← htb]
  have hsz : tb.size = (lgS xs n0).length := by rw [← htb]; exact str_size _
  have hts : tb.size ≤ 60000 := by omega
  rw [htb] at HLI HLS
  clear htb hsz hl
  generalize hcd : lgC xs n0 = cd at *
  clear hcd
  go_wp2_with fail
  refine (HLI _ R0 (T.below b1).tab).mono ?_
  rintro e w2 ⟨rfl, b2⟩
  replace R0 := R0.below b2
  replace b2 := bnext b1 b2
  clear b1
  go_wp2_with fail
  refine (HLS _ R0).mono ?_
  rintro e w3 ⟨rfl, b3⟩
  replace R0 := R0.below b3
  replace b3 := bnext b2 b3
  clear b2
  clear HLI HLS
  go_wp2_with fail
  refine (drawRecoverLog_any A n c zs _ (G.rd.below b3) G.byte hn4).mono ?_
  rintro e w4 ⟨s, rfl, hs, b4⟩
  replace R0 := R0.below b4
  replace b4 := bnext b3 b4
  clear b3
  have HRI := fun (V : World) (T : LibW V) => implRecoverLog_any s V (by omega) T
  have HRS := fun (V : World) => specRecoverLog_any s V (by omega)
  generalize rvL s = ys at HRI HRS
  generalize rvC s = cs at HRI HRS
  go_wp2_with fail
  refine (HRI _ (T.below b4)).mono ?_
  rintro e w5 ⟨⟨A1, n1, c1⟩, rfl, h1, hc1, R1, -, b5⟩
  replace R0 := R0.below b5
  replace b5 := bnext b4 b5
  clear b4
  simp only at h1 hc1 R1
  go_wp2_with fail
  refine (HRS _).mono ?_
  rintro e w6 ⟨⟨A2, n2, c2⟩, rfl, h2, hc2, R2, -, b6⟩
  replace R0 := R0.below b6
  replace R1 := R1.below b6
  replace b6 := bnext b5 b6
  clear b5
  simp only at h2 hc2 R2
  obtain rfl : n2 = n1 := by
    have a1 : ys.length = n1 * 7 := R1.len
    have a2 : ys.length = n2 * 7 := R2.len
    omega
  clear HRI HRS
  go_wp2_with fail
  refine (likeRecs_same A1 A2 n2 c1 c2 ys _ (by omega) R1 R2).mono ?_
  rintro e w7 ⟨rfl, b7⟩
  replace R0 := R0.below b7
  replace R1 := R1.below b7
  replace R2 := R2.below b7
  replace b7 := bnext b6 b7
  clear b6
  clear R1 R2
  by_cases hcd : cd = 0
  rotate_left
  · have e0 : (cd == 0) = false := by rw [beq_eq_false_iff_ne]; exact hcd
    have e1 : (cd != 0) = true := by rw [bne_iff_ne]; exact hcd
    go_wp2
    go_ret
    exact ⟨rfl, b7⟩
  subst hcd
  have HLT := Lib.hid (HLB.out rfl)
  have lo0 : ∀ ad, A0 = some ad → 0 < n0 * 7 → ad.block < w7.heap.size := fun ad e hn => R0.lt e hn
  clear HLB
  go_wp2_with fail
  refine (roll_any A n c zs 3101 _ (G.rd.below b7) G.byte hn4 (by decide) (by decide)).mono ?_
  rintro e w8 ⟨g, rfl, D, b8'⟩
  replace R0 := R0.below b8'
  have hb0 := b7.size
  have b8 := bnext b7 b8'
  have hgl := D.lt.2
  have u1 : IntKind.i64.wrap ((tb.size : Int) + 1) = (tb.size : Int) + 1 := IntWalk.i64_in _ (by omega)
  go_wp2_with fail
  refine (below_any _ g ((tb.size : Int) + 1) _ D (by omega) (by omega)).mono ?_
  rintro e w9 ⟨p, rfl, p0, p1, gg, D1⟩
  replace R0 := R0.grown gg (fun ad e hn c => by have := lo0 ad e hn; injection c with c; omega)
  have b9 : Below w.heap.size w w9 := bstepg b8 gg (Nat.le_refl _) (fun x e => by injection e with e; omega)
  clear b8 b8' b7 gg D D1 lo0 hgl u1 hb0
  obtain ⟨q, rfl⟩ : ∃ q : Nat, p = (q : Int) := ⟨p.toNat, by omega⟩
  have hqn : q ≤ tb.size := by omega
  clear p0 p1
  go_wp2_with fail
  go_loop [14, 15] (fun v14 v15 => ∃ k : Nat, k ≤ q ∧ v15 = .int .i64 k ∧ v14 = .int .i64 ((tb.data.toList.take k).count 10 : Nat)) (fun _ v15 => q - (intOf v15).toNat)
  case atStart => exact ⟨0, Nat.zero_le _, rfl, rfl⟩
  case round =>
    obtain ⟨k, hk, rfl, rfl⟩ := hrel
    have hcl : (tb.data.toList.take k).count 10 ≤ k := Nat.le_trans List.count_le_length (by rw [List.length_take]; omega)
    by_cases hlt : k < q
    · have hltI : (k : Int) < (q : Int) := by omega
      have hkt : k < tb.size := by omega
      have hktI : (k : Int) < (tb.size : Int) := by omega
      have hk0 : (0 : Int) ≤ (k : Int) := by omega
      have hcn := count_byte hkt
      by_cases hb : tb[k].toNat = 10
      · rw [if_pos hb] at hcn
        have HC := Lib.hid hcn
        clear hcn
        have hbI : (tb[k].toNat : Int) = 10 := by omega
        generalize (tb.data.toList.take k).count 10 = cn at *
        have u2 : IntKind.i64.wrap ((cn : Int) + 1) = (cn : Int) + 1 := IntWalk.i64_in _ (by omega)
        go_wp2
        go_round
        case rel => exact ⟨k + 1, by omega, by go_num, by rw [HC.out]; go_num⟩
        case measure => simp [intOf]; omega
      · rw [if_neg hb] at hcn
        have HC := Lib.hid hcn
        clear hcn
        have hbI : ¬ (tb[k].toNat : Int) = 10 := by omega
        generalize (tb.data.toList.take k).count 10 = cn at *
        go_wp2
        go_round
        case rel => exact ⟨k + 1, by omega, by go_num, by rw [HC.out]; rfl⟩
        case measure => simp [intOf]; omega
    · obtain rfl : k = q := by omega
      obtain ⟨hlb, hlt2⟩ := HLT.out
      have hdt : tb.data.toList = lgT xs n0 := HD.out.trans hlt2
      have hc0 := rv_cut hlb HXL.out h60 (lgT xs n0).length
      have hc1' := rv_cut hlb HXL.out h60 k
      rw [List.take_length] at hc0
      have HI0 := fun (V : World) (T : LibW V) => implRecoverLog_any (lgT xs n0) V (by rw [← hdt]; have : tb.data.toList.length = tb.size := Array.length_toList; omega) T
      have HI1 := fun (V : World) (T : LibW V) => implRecoverLog_any ((lgT xs n0).take k) V (by rw [← hdt, List.length_take]; have : tb.data.toList.length = tb.size := Array.length_toList; omega) T
      rw [hc0.1, hc0.2.2] at HI0
      rw [hc1'.1, hc1'.2.2] at HI1
      rw [← hdt] at HI0 HI1 hc0 hc1'
      have hnn : tb.data.toList.count 10 = n0 := by rw [hdt]; exact lgT_count xs n0
      rw [hnn] at HI0
      have E1 := ext_to tb.data.toList k
      rw [mk_list] at HI0 E1
      have htk : xs.take (n0 * 7) = xs := List.take_of_length_le (by rw [HXL.out]; omega)
      rw [htk] at HI0
      rw [← E1] at HI1
      have hcn := hc1'.2.1
      have HC : Hid (∃ cn, (tb.data.toList.take k).count 10 = cn) := ⟨_, rfl⟩
      generalize (tb.data.toList.take k).count 10 = cn at *
      clear hc0 hc1' hnn htk hlb hlt2 hdt HLT HD E1
      have hkI : (k : Int) ≤ (tb.size : Int) := by omega
      have hk0 : (0 : Int) ≤ (k : Int) := by omega
      go_wp2_with fail
      refine (HI0 _ (T.below b9)).mono ?_
      rintro e w10 ⟨⟨A3, n3, c3⟩, rfl, h3, hc3, R3, -, b10⟩
      replace R0 := R0.below b10
      replace b10 := bnext b9 b10
      clear b9
      simp only at h3 hc3 R3
      go_wp2_with fail
      refine (HI1 _ (T.below b10)).mono ?_
      rintro e w11 ⟨⟨A4, n4, c4⟩, rfl, h4, hc4, R4, -, b11⟩
      replace R0 := R0.below b11
      replace R3 := R3.below b11
      replace b11 := bnext b10 b11
      clear b10
      simp only at h4 hc4 R4
      obtain rfl : n3 = n0 := by
        have a1 : xs.length = n3 * 7 := R3.len
        have a2 : xs.length = n0 * 7 := R0.len
        omega
      have RT := R0.take (k := cn * 7) (by omega)
      obtain rfl : n4 = cn := by
        have a1 : (xs.take (cn * 7)).length = n4 * 7 := R4.len
        rw [List.length_take, HXL.out] at a1
        omega
      go_wp2_with fail
      refine (likeRecs_same A3 A0 n3 c3 c0 xs _ (by omega) R3 R0).mono ?_
      rintro e w12 ⟨rfl, b12⟩
      replace R0 := R0.below b12
      replace R3 := R3.below b12
      replace R4 := R4.below b12
      replace RT := RT.below b12
      replace b12 := bnext b11 b12
      clear b11
      have hcI : (n4 : Int) ≤ (c0 : Int) := by omega
      have hcI0 : (0 : Int) ≤ (n4 : Int) := by omega
      go_wp2_with fail
      refine (likeRecs_same A4 A0 n4 c4 c0 (xs.take (n4 * 7)) _ (by omega) R4 RT).mono ?_
      rintro e w13 ⟨rfl, b13⟩
      replace R0 := R0.below b13
      replace R3 := R3.below b13
      replace R4 := R4.below b13
      replace RT := RT.below b13
      replace b13 := bnext b12 b13
      clear b12
      go_wp2
      go_ret
      exact ⟨rfl, b13⟩
end Go.Proofs.YtoledbicmghmbaaGreatDoor
