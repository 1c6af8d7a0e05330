/- The law FnExactRecoverLog, walked. Condition: the library's variables are as they are laid. -/
import Derived.Test.YtoledbicmghmbaaDoorRvI
import Derived.Test.YtoledbicmghmbaaDoorRecT
namespace Go.Proofs.YtoledbicmghmbaaDoor
open Go.RowKit

set_option maxRecDepth 100000 in
set_option maxHeartbeats 4000000 in
theorem lawRecoverLog_any (l : Bs) (w : World) (hs : l.length ≤ 9223372036854775807) (T : LibW w) :
    Calls Tryd.prog 10 #[.string ⟨l.toArray⟩] w fun e w' => e = .returned (.bool true) ∧ Below w.heap.size w w' := by
  have hz := str_size l
  by_cases h : (1048576 : Int) < (l.length : Int)
  · go_enter Tryd.func10, Tryd.ntmps10
    go_wp2_with fail
    go_ret
    exact ⟨rfl, Below.refl _ _⟩
  have HS := fun (W : World) => specRecoverLog_any l W (by omega)
  have HI := fun (W : World) (T : LibW W) => implRecoverLog_any l W (by omega) T
  generalize rvL l = xs at HS HI
  generalize rvC l = cd at HS HI
  go_enter Tryd.func10, Tryd.ntmps10
  go_wp2_with fail
  refine (HS _).mono ?_
  rintro e w1 ⟨⟨A1, n1, c1⟩, rfl, h1, hc1, R1, -, b1⟩
  simp only at h1 hc1 R1
  have T1 := T.below b1
  go_wp2_with fail
  refine (HI _ T1).mono ?_
  rintro e w2 ⟨⟨A2, n2, c2⟩, rfl, h2, hc2, R2, W2, b2⟩
  simp only at h2 hc2 R2 W2
  have T2 := T1.below b2
  have hb2 := bnext b1 b2
  have hA1 : ∀ ad, A1 = some ad → 0 < n1 * 7 → ad.block < w1.heap.size := fun ad e hn => R1.lt e hn
  have hz1 := b1.size
  replace R1 := R1.below b2
  obtain rfl : n2 = n1 := by
    have a1 : xs.length = n1 * 7 := R1.len
    have a2 : xs.length = n2 * 7 := R2.len
    omega
  clear b1 b2 T1
  go_wp2_with fail
  refine (eqRecordS_below A2 A1 n2 c2 c1 xs _ (by omega) R2 R1).mono ?_
  rintro e w3 ⟨rfl, b3⟩
  have T3 := T2.below b3
  have W3 := W2.below R2 b3
  replace R1 := R1.below b3
  replace R2 := R2.below b3
  replace hb2 := bnext hb2 b3
  clear b3 W2 T2
  go_wp2_with fail
  refine (markRecordS_any A2 n2 c2 (ints xs) 1 w1.heap.size _ (by omega) (by omega) (by omega) R2 W3).mono ?_
  rintro e w4 ⟨rfl, gg, hlo, R2m, W4⟩
  have TT : Touch w3 w4 [blkp A2 (n2 * 7)] := Touch.of_grown gg
  have hi : Hi [blkp A2 (n2 * 7)] w1.heap.size := WrAll.hi (l := [⟨A2, n2 * 7, ints xs⟩]) (WrAll.cons (s := ⟨A2, n2 * 7, ints xs⟩) W3 (WrAll.nil _ _))
  have hb4 : Below w.heap.size w w4 := bstepT hb2 TT (Nat.le_refl _) (hi.mono hz1)
  have R14 : Rd w4 A1 (n2 * 7) (ints xs) := R1.keep fun ad e hn => TT.block _ (R1.lt e hn) (fun s hs c => by have := hi s hs _ c; have := hA1 ad e hn; omega)
  have T4 := T.below hb4
  have hq : (0 : Int) ≤ 1 + ((n2 * 7 : Nat) : Int) := by omega
  have hq2 : ¬ 1 + ((n2 * 7 : Nat) : Int) < 0 := by omega
  clear W3 R1 R2 TT gg hlo T3 hb2 hA1
  go_wp2_with fail
  refine (heldRecordS_same A2 n2 c2 1 _ (by omega) (by omega) (by omega) R2m).mono ?_
  rintro e w5 ⟨rfl, rfl⟩
  go_wp2_with fail
  refine (HI _ T4).mono ?_
  rintro e w5 ⟨⟨A3, n3, c3⟩, rfl, h3, hc3, R3, -, b5⟩
  simp only at h3 hc3 R3
  replace R14 := R14.below b5
  replace R2m := R2m.below b5
  replace hb4 := bnext hb4 b5
  obtain rfl : n3 = n2 := by
    have a1 : xs.length = n2 * 7 := R14.len
    have a2 : xs.length = n3 * 7 := R3.len
    omega
  clear b5 T4
  go_wp2_with fail
  refine (eqRecordS_below A3 A1 n3 c3 c1 xs _ (by omega) R3 R14).mono ?_
  rintro e w6 ⟨rfl, b6⟩
  replace R2m := R2m.below b6
  replace hb4 := bnext hb4 b6
  clear b6 R3 R14
  go_wp2_with fail
  refine (heldRecordS_same A2 n3 c2 1 _ (by omega) (by omega) (by omega) R2m).mono ?_
  rintro e w7 ⟨rfl, rfl⟩
  go_wp2
  go_ret
  exact ⟨rfl, hb4⟩
theorem FnExactRecoverLog_walk (w : World) (s : ByteArray) (hs : s.size ≤ maxLen) (T : LibW w) :
    Calls Tryd.prog 10 #[.string s] w fun e w' => e = .returned (.bool true) ∧ Below w.heap.size w w' := by
  have h := lawRecoverLog_any s.data.toList w (by unfold maxLen at hs; simpa using hs) T
  rw [mk_list] at h
  exact h
end Go.Proofs.YtoledbicmghmbaaDoor
