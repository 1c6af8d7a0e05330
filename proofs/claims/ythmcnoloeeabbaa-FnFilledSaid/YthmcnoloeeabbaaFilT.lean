/- The means of a grid, both sides. Condition: lists of at most 1048576 elements. -/
import Derived.Test.YthmcnoloeeabbaaFilS
import Derived.Test.YthmcnoloeeabbaaArith
import Derived.Test.YthmcnoloeeabbaaNear
namespace Go.Proofs.Ythmcnoloeeabbaa
open Go.RowKit

set_option maxHeartbeats 1000000 in
theorem plus_any (a b c d : Int) (w : World) (h1 : -4611686018427387904 ≤ a + c) (h2 : a + c ≤ 4611686018427387904) (h3 : -4611686018427387904 ≤ b + d) (h4 : b + d ≤ 4611686018427387904) :
    Calls Try.prog 115 #[.agg #[.int .i64 a, .int .i64 b], .agg #[.int .i64 c, .int .i64 d]] w fun e w' => e = .returned (.agg #[.int .i64 (a + c), .int .i64 (b + d)]) ∧ Below w.heap.size w w' := by
  have u1 : IntKind.i64.wrap (a + c) = a + c := IntWalk.i64_in _ (by omega)
  have u2 : IntKind.i64.wrap (b + d) = b + d := IntWalk.i64_in _ (by omega)
  go_enter Try.func115, Try.ntmps115
  go_wp2
  refine bodyPost_ret (v := .agg #[.int .i64 (a + c), .int .i64 (b + d)]) (by simp [results, Try.results115, go_sem]) rfl ⟨rfl, by (repeat (first | (with_reducible assumption) | (with_reducible exact Below.refl _ _) | (with_reducible refine Below.drew ?_) | (with_reducible refine Below.drewN ?_ _) | (with_reducible refine Below.setCell ?_ ?_ _) | (with_reducible refine Below.alloc ?_ ?_ _) | assumption)); all_goals (first | omega | (simp; done) | (simp; omega))⟩

set_option maxRecDepth 100000 in
set_option maxHeartbeats 4000000 in
theorem implMeanDepth_any (h : DepthGridH) (l : DepthGridC) (w : World) (ok : DepthGridOk h) (hr : RdAll w (DepthGridS h l)) :
    Calls Try.prog 53 #[DepthGridV h l] w fun e w' => e = .returned (.tuple #[.agg #[.int .i64 (mdL l), .int .i64 (mdH l)], .int .i64 (mdC l)]) ∧ Below w.heap.size w w' := by
  unfold DepthGridV
  go_enter Try.func53, Try.ntmps53
  go_wp2_with fail
  refine (implIsDepthGrid_any h l _ ok (hr.below (by (repeat (first | (with_reducible assumption) | (with_reducible exact Below.refl _ _) | (with_reducible refine Below.drew ?_) | (with_reducible refine Below.drewN ?_ _) | (with_reducible refine Below.setCell ?_ ?_ _) | (with_reducible refine Below.alloc ?_ ?_ _) | assumption)); all_goals (first | omega | (simp; done) | (simp; omega))))).mono ?_
  rintro e w1 ⟨rfl, b1⟩
  have hb1 : Below w.heap.size w w1 := (show Below w.heap.size w _ from (by (repeat (first | (with_reducible assumption) | (with_reducible exact Below.refl _ _) | (with_reducible refine Below.drew ?_) | (with_reducible refine Below.drewN ?_ _) | (with_reducible refine Below.setCell ?_ ?_ _) | (with_reducible refine Below.alloc ?_ ?_ _) | assumption)); all_goals (first | omega | (simp; done) | (simp; omega)))).trans (b1.mono (by first | omega | (simp; done) | (simp; omega)))
  have K0 : Blk w1 w.heap.size 50 #[.int .i64 l.size, .int .i64 l.wide, .int .i64 l.high, .slice h.counts.A h.counts.n h.counts.c, .slice h.depths.A h.depths.n h.depths.c] := Blk.below ((Blk.new _ _ _).alloc _) b1 (by first | omega | (simp; done) | (simp; omega))
  have K1 : Blk w1 (w.heap.size + 1) 82 #[.int .i64 0, .int .i64 0] := Blk.below (Blk.newN _ _ _ (by simp)) b1 (by first | omega | (simp; done) | (simp; omega))
  clear b1
  have c0 := fun o => K0.cell o
  have c1 := fun o => K1.cell o
  have f1 := fun o => K1.frozen o
  have g1 := K1.lt
  rcases Bool.eq_false_or_eq_true (gridOk l) with o0 | o0
  case inr =>
    have HM := Lib.hid (md_bad o0)
    rw [o0]
    clear o0
    go_wp2
    refine bodyPost_ret (v := .tuple #[.agg #[.int .i64 0, .int .i64 0], .int .i64 1]) (by simp [results, Try.results53, go_sem, c1]) rfl ?_
    rw [HM.out.1, HM.out.2.1, HM.out.2.2]
    exact ⟨rfl, by (repeat (first | (with_reducible assumption) | (with_reducible exact Below.refl _ _) | (with_reducible refine Below.drew ?_) | (with_reducible refine Below.drewN ?_ _) | (with_reducible refine Below.setCell ?_ ?_ _) | (with_reducible refine Below.alloc ?_ ?_ _) | assumption)); all_goals (first | omega | (simp; done) | (simp; omega))⟩
  have M := GOk.of o0
  have HO := Lib.hid o0
  rw [o0]
  clear o0
  have r3 : Rd w1 h.counts.A h.counts.n (ints l.counts) := (hr.below hb1).head
  have r4 : Rd w1 h.depths.A (h.depths.n * 2) (ints l.depths) := (hr.below hb1).tail.head
  obtain ⟨⟨A3, n, c3⟩, ⟨A4, m, c4⟩⟩ := h
  have e3 : l.counts.length = n := r3.len
  have e4 : l.depths.length = m * 2 := r4.len
  have hbd := M.bd
  have hn9 : n ≤ 900 ∧ 1 ≤ n := by omega
  obtain rfl : n = m := by have := M.eq; omega
  have HE := Lib.hid e3
  have HM := Lib.hid M
  clear e3 e4 hbd M hr ok
  obtain ⟨a3, rfl, -⟩ := r3.int (show 0 < n by omega)
  obtain ⟨a4, rfl, -, -⟩ := r4.two (show 0 < n by omega)
  simp only at K0
  clear c0
  have c0 := fun o => K0.cell o
  have g0 := K0.lt
  go_upto_region 6 with fail
  have J0 := Blk.new w1 82 #[.int .i64 0, .int .i64 0]
  have b2 : Below w1.heap.size w1 (w1.alloc (.cells #[.int .i64 0, .int .i64 0] 82)) := (Below.refl _ _).alloc (Nat.le_refl _) _
  go_loopw [5, 15] (fun c i wr => ∃ k : Nat, k ≤ n ∧ i = .int .i64 k ∧ c = .int .i64 (knTo l k) ∧ Blk wr w1.heap.size 82 #[.int .i64 (loTo l k), .int .i64 (hiTo l k)] ∧ Below w1.heap.size w1 wr) (fun _ i _ => n - (intOf i).toNat)
  case atStart => exact ⟨0, Nat.zero_le _, rfl, rfl, J0, b2⟩
  case round =>
    clear J0 b2
    obtain ⟨k, hk, rfl, rfl, J, b⟩ := hrel
    have sb := sums_bd HM.out k (by rw [HE.out]; exact hk)
    have hk9 : (k : Int) ≤ 900 := by omega
    by_cases hlt : k < n
    · have hltI : (k : Int) < (n : Int) := by omega
      have hk0 : (0 : Int) ≤ (k : Int) := by omega
      have cb := gcellB_bd (HM.out.at_ (show k < l.counts.length by rw [HE.out]; exact hlt))
      have K := K0.below b g0
      clear c0
      have c0 := fun o => K.cell o
      have gK := K.lt
      have gJ := J.lt
      have cJ := fun o => J.cell o
      have fJ := fun o => J.frozen o
      obtain ⟨_, ⟨⟩, hd0, hd1⟩ := (r4.below b).two hlt
      obtain ⟨_, ⟨⟩, hx⟩ := (r3.below b).int hlt
      have HN : Hid (l.counts.getD k 0 = 0 → knTo l (k + 1) = knTo l k ∧ loTo l (k + 1) = loTo l k ∧ hiTo l (k + 1) = hiTo l k) := sums_no
      have HY : Hid (l.counts.getD k 0 ≠ 0 → knTo l (k + 1) = knTo l k + 1 ∧ loTo l (k + 1) = loTo l k + l.depths.getD (k * 2) 0 ∧ hiTo l (k + 1) = hiTo l k + l.depths.getD (k * 2 + 1) 0) := sums_yes
      generalize knTo l k = kn at *
      generalize loTo l k = lo at *
      generalize hiTo l k = hi at *
      generalize l.depths.getD (k * 2) 0 = dk at *
      generalize l.depths.getD (k * 2 + 1) 0 = ek at *
      generalize l.counts.getD k 0 = cv at *
      go_upto_region 8 with fail
      have b3 : Below w1.heap.size w1 (wr.alloc (.cells #[.int .i64 dk, .int .i64 ek] 82)) := b.alloc (by omega) _
      have K2 := K.alloc (.cells #[.int .i64 dk, .int .i64 ek] 82)
      have J2 := J.alloc (.cells #[.int .i64 dk, .int .i64 ek] 82)
      have T := Blk.new wr 82 #[.int .i64 dk, .int .i64 ek]
      obtain ⟨_, ⟨⟩, hx⟩ : ∃ ad, some a3 = some ad ∧ (wr.alloc (.cells #[.int .i64 dk, .int .i64 ek] 82)).cell? (ad.add k) = some (.int .i64 cv) := ⟨a3, rfl, by rw [((Below.refl wr.heap.size wr).alloc (Nat.le_refl _) _).cell (by rw [block_of_add]; have := (r3.below b).lt rfl (by omega); exact this)]; exact hx⟩
      generalize wr.alloc (.cells #[.int .i64 dk, .int .i64 ek] 82) = w2 at *
      generalize wr.heap.size = gt at *
      clear c0 cJ fJ hd0 hd1 K J b gK gJ
      have c0 := fun o => K2.cell o
      have cJ := fun o => J2.cell o
      have fJ := fun o => J2.frozen o
      have cT := fun o => T.cell o
      have gJ := J2.lt
      have gT := T.lt
      by_cases e1 : cv = 0
      · subst e1
        have HS := Lib.hid (HN.out rfl)
        clear HN HY
        go_wp2
        go_roundw
        case rel => exact ⟨k + 1, by omega, by go_num, by rw [HS.out.1], by rw [HS.out.2.1, HS.out.2.2]; exact J2, b3⟩
        case measure => simp [intOf]; omega
      · have e1b : (cv == 0) = false := by rw [beq_eq_false_iff_ne]; exact e1
        have e1c : (cv != 0) = true := by simpa using e1
        have HS := Lib.hid (HY.out e1)
        clear HN HY e1
        go_wp2_with fail
        refine (plus_any lo hi dk ek _ (by omega) (by omega) (by omega) (by omega)).mono ?_
        rintro e w3 ⟨rfl, b4⟩
        have J3 := J2.below b4 gJ
        have b5 := b3.trans (b4.mono b3.size)
        clear c0 cJ fJ cT T K2
        have cJ := fun o => J3.cell o
        have fJ := fun o => J3.frozen o
        have gJ := J3.lt
        have u1 : IntKind.i64.wrap (kn + 1) = kn + 1 := IntWalk.i64_in _ (by omega)
        clear b4 b3 J2
        go_wp2
        go_roundw
        case rel =>
          refine ⟨k + 1, by omega, by go_num, by rw [HS.out.1], ?_, (b5.setCell (by simp only; omega) _).setCell (by simp only; omega) _⟩
          rw [HS.out.2.1, HS.out.2.2]
          exact (J3.set_ 0 (.int .i64 (lo + dk))).set_ 1 (.int .i64 (hi + ek))
        case measure => simp [intOf]; omega
    · obtain rfl : k = n := by omega
      have H1 : Hid (knTo l k = 0 → mdC l = 4 ∧ mdL l = 0 ∧ mdH l = 0) := fun h => md_none HO.out (by rw [HE.out]; exact h)
      have H2 : Hid (knTo l k ≠ 0 → mdC l = 0 ∧ mdL l = loTo l k / knTo l k ∧ mdH l = -(-hiTo l k / knTo l k)) := fun h => by have := md_some HO.out (by rw [HE.out]; exact h); rwa [HE.out] at this
      have hb2 : Below w.heap.size w wr := hb1.trans (b.mono hb1.size)
      have K := K1.below b g1
      have gK := K.lt
      have gJ := J.lt
      clear c0
      clear c1 f1
      have c1 := fun o => K.cell o
      have f1 := fun o => K.frozen o
      generalize knTo l k = kn at *
      generalize loTo l k = lo at *
      generalize hiTo l k = hi at *
      by_cases e2 : kn = 0
      · subst e2
        have HR := Lib.hid (H1.out rfl)
        clear H1 H2
        go_wp2
        refine bodyPost_ret (v := .tuple #[.agg #[.int .i64 0, .int .i64 0], .int .i64 4]) (by simp [results, Try.results53, go_sem, c1]) rfl ?_
        rw [HR.out.1, HR.out.2.1, HR.out.2.2]
        exact ⟨rfl, by (repeat (first | (with_reducible assumption) | (with_reducible exact Below.refl _ _) | (with_reducible refine Below.drew ?_) | (with_reducible refine Below.drewN ?_ _) | (with_reducible refine Below.setCell ?_ ?_ _) | (with_reducible refine Below.alloc ?_ ?_ _) | assumption)); all_goals (first | omega | (simp; done) | (simp; omega))⟩
      have HR := Lib.hid (H2.out e2)
      have e2b : (kn == 0) = false := by rw [beq_eq_false_iff_ne]; exact e2
      have hkp : 0 < kn := by omega
      clear H1 H2 e2
      have hS : ∀ o, wr.cell? ⟨w1.heap.size, o, none⟩ = #[.int .i64 lo, .int .i64 hi][o]? := fun o => J.cell o
      have m1 : -4611686018427387904 ≤ lo ∧ lo ≤ 4611686018427387904 := by omega
      have m2 : -4611686018427387904 ≤ hi ∧ hi ≤ 4611686018427387904 := by omega
      have hne : w.heap.size + 1 ≠ w1.heap.size := by omega
      go_wp2_with fail
      go_region_held3 (fun w' => ∀ o, w'.cell? ⟨w1.heap.size, o, none⟩ = #[.int .i64 lo, .int .i64 hi][o]?)
        (first | (with_reducible assumption) | (intro o; go_keep))
        (first
          | (go_at_call 116; refine (floorDiv_any lo kn _ m1.1 m1.2 hkp (by omega)).mono ?_; rintro e w' ⟨rfl, rfl⟩)
          | (go_at_call 117; refine (ceilDiv_any hi kn _ m2.1 m2.2 hkp (by omega)).mono ?_; rintro e w' ⟨rfl, rfl⟩))
      all_goals
        go_wp2
        refine bodyPost_ret (v := .tuple #[.agg #[.int .i64 (lo / kn), .int .i64 (-(-hi / kn))], .int .i64 0]) (by simp [results, Try.results53, go_sem, c1]) rfl ?_
        rw [HR.out.1, HR.out.2.1, HR.out.2.2]
        exact ⟨rfl, by (repeat (first | (with_reducible assumption) | (with_reducible exact Below.refl _ _) | (with_reducible refine Below.drew ?_) | (with_reducible refine Below.drewN ?_ _) | (with_reducible refine Below.setCell ?_ ?_ _) | (with_reducible refine Below.alloc ?_ ?_ _) | assumption)); all_goals (first | omega | (simp; done) | (simp; omega))⟩

set_option maxRecDepth 100000 in
set_option maxHeartbeats 4000000 in
theorem specMeanDepth_any (h : DepthGridH) (l : DepthGridC) (w : World) (ok : DepthGridOk h) (hr : RdAll w (DepthGridS h l)) :
    Calls Try.prog 54 #[DepthGridV h l] w fun e w' => e = .returned (.tuple #[.agg #[.int .i64 (mdL l), .int .i64 (mdH l)], .int .i64 (mdC l)]) ∧ Below w.heap.size w w' := by
  unfold DepthGridV
  go_enter Try.func54, Try.ntmps54
  go_wp2_with fail
  refine (specIsDepthGrid_any h l _ ok (hr.below (by (repeat (first | (with_reducible assumption) | (with_reducible exact Below.refl _ _) | (with_reducible refine Below.drew ?_) | (with_reducible refine Below.drewN ?_ _) | (with_reducible refine Below.setCell ?_ ?_ _) | (with_reducible refine Below.alloc ?_ ?_ _) | assumption)); all_goals (first | omega | (simp; done) | (simp; omega))))).mono ?_
  rintro e w1 ⟨rfl, b1⟩
  have hb1 : Below w.heap.size w w1 := (show Below w.heap.size w _ from (by (repeat (first | (with_reducible assumption) | (with_reducible exact Below.refl _ _) | (with_reducible refine Below.drew ?_) | (with_reducible refine Below.drewN ?_ _) | (with_reducible refine Below.setCell ?_ ?_ _) | (with_reducible refine Below.alloc ?_ ?_ _) | assumption)); all_goals (first | omega | (simp; done) | (simp; omega)))).trans (b1.mono (by first | omega | (simp; done) | (simp; omega)))
  have K0 : Blk w1 w.heap.size 50 #[.int .i64 l.size, .int .i64 l.wide, .int .i64 l.high, .slice h.counts.A h.counts.n h.counts.c, .slice h.depths.A h.depths.n h.depths.c] := Blk.below ((Blk.new _ _ _).alloc _) b1 (by first | omega | (simp; done) | (simp; omega))
  have K1 : Blk w1 (w.heap.size + 1) 82 #[.int .i64 0, .int .i64 0] := Blk.below (Blk.newN _ _ _ (by simp)) b1 (by first | omega | (simp; done) | (simp; omega))
  clear b1
  have c0 := fun o => K0.cell o
  have c1 := fun o => K1.cell o
  have f1 := fun o => K1.frozen o
  have g1 := K1.lt
  rcases Bool.eq_false_or_eq_true (gridOk l) with o0 | o0
  case inr =>
    have HM := Lib.hid (md_bad o0)
    rw [o0]
    clear o0
    go_wp2
    refine bodyPost_ret (v := .tuple #[.agg #[.int .i64 0, .int .i64 0], .int .i64 1]) (by simp [results, Try.results54, go_sem, c1]) rfl ?_
    rw [HM.out.1, HM.out.2.1, HM.out.2.2]
    exact ⟨rfl, by (repeat (first | (with_reducible assumption) | (with_reducible exact Below.refl _ _) | (with_reducible refine Below.drew ?_) | (with_reducible refine Below.drewN ?_ _) | (with_reducible refine Below.setCell ?_ ?_ _) | (with_reducible refine Below.alloc ?_ ?_ _) | assumption)); all_goals (first | omega | (simp; done) | (simp; omega))⟩
  have M := GOk.of o0
  have HO := Lib.hid o0
  rw [o0]
  clear o0
  have r3 : Rd w1 h.counts.A h.counts.n (ints l.counts) := (hr.below hb1).head
  have r4 : Rd w1 h.depths.A (h.depths.n * 2) (ints l.depths) := (hr.below hb1).tail.head
  obtain ⟨⟨A3, n, c3⟩, ⟨A4, m, c4⟩⟩ := h
  have e3 : l.counts.length = n := r3.len
  have e4 : l.depths.length = m * 2 := r4.len
  have hbd := M.bd
  have hn9 : n ≤ 900 ∧ 1 ≤ n := by omega
  obtain rfl : n = m := by have := M.eq; omega
  have HE := Lib.hid e3
  have HM := Lib.hid M
  clear e3 e4 hbd M hr ok
  obtain ⟨a3, rfl, -⟩ := r3.int (show 0 < n by omega)
  obtain ⟨a4, rfl, -, -⟩ := r4.two (show 0 < n by omega)
  simp only at K0
  clear c0
  have c0 := fun o => K0.cell o
  have g0 := K0.lt
  go_upto_region 5 with fail
  go_loopw [4, 5, 6, 7] (fun lo hi c i wr => ∃ k m : Nat, k ≤ n ∧ i = .int .i64 k ∧ c = .int .i64 (knTo l k) ∧ lo = .int .i64 (loTo l k) ∧ hi = .int .i64 (hiTo l k) ∧ wr = w1.drewN m) (fun _ _ _ i _ => n - (intOf i).toNat)
  case atStart => exact ⟨0, 0, Nat.zero_le _, rfl, rfl, rfl, rfl, rfl⟩
  case round =>
    obtain ⟨k, m, hk, rfl, rfl, rfl, rfl, rfl⟩ := hrel
    have sb := sums_bd HM.out k (by rw [HE.out]; exact hk)
    have hk9 : (k : Int) ≤ 900 := by omega
    by_cases hlt : k < n
    · have hltI : (k : Int) < (n : Int) := by omega
      have hk0 : (0 : Int) ≤ (k : Int) := by omega
      have cb := gcellB_bd (HM.out.at_ (show k < l.counts.length by rw [HE.out]; exact hlt))
      obtain ⟨_, ⟨⟩, hd0, hd1⟩ := r4.two hlt
      obtain ⟨_, ⟨⟩, hx⟩ := r3.int hlt
      have HN : Hid (l.counts.getD k 0 = 0 → knTo l (k + 1) = knTo l k ∧ loTo l (k + 1) = loTo l k ∧ hiTo l (k + 1) = hiTo l k) := sums_no
      have HY : Hid (l.counts.getD k 0 ≠ 0 → knTo l (k + 1) = knTo l k + 1 ∧ loTo l (k + 1) = loTo l k + l.depths.getD (k * 2) 0 ∧ hiTo l (k + 1) = hiTo l k + l.depths.getD (k * 2 + 1) 0) := sums_yes
      generalize knTo l k = kn at *
      generalize loTo l k = lo at *
      generalize hiTo l k = hi at *
      generalize l.depths.getD (k * 2) 0 = dk at *
      generalize l.depths.getD (k * 2 + 1) 0 = ek at *
      generalize l.counts.getD k 0 = cv at *
      have u1 : IntKind.i64.wrap (kn + 1) = kn + 1 := IntWalk.i64_in _ (by omega)
      have u2 : IntKind.i64.wrap (lo + dk) = lo + dk := IntWalk.i64_in _ (by omega)
      have u3 : IntKind.i64.wrap (hi + ek) = hi + ek := IntWalk.i64_in _ (by omega)
      by_cases e1 : cv = 0
      · subst e1
        have HS := Lib.hid (HN.out rfl)
        clear HN HY
        go_wp2
        go_roundw
        case rel => exact ⟨k + 1, _, by omega, by go_num, by rw [HS.out.1], by rw [HS.out.2.1], by rw [HS.out.2.2], rfl⟩
        case measure => simp [intOf]; omega
      · have e1b : (cv == 0) = false := by rw [beq_eq_false_iff_ne]; exact e1
        have e1c : (cv != 0) = true := by simpa using e1
        have HS := Lib.hid (HY.out e1)
        clear HN HY e1
        go_wp2
        go_roundw
        case rel => exact ⟨k + 1, _, by omega, by go_num, by rw [HS.out.1], by rw [HS.out.2.1], by rw [HS.out.2.2], rfl⟩
        case measure => simp [intOf]; omega
    · obtain rfl : k = n := by omega
      have H1 : Hid (knTo l k = 0 → mdC l = 4 ∧ mdL l = 0 ∧ mdH l = 0) := fun h => md_none HO.out (by rw [HE.out]; exact h)
      have H2 : Hid (knTo l k ≠ 0 → mdC l = 0 ∧ mdL l = loTo l k / knTo l k ∧ mdH l = -(-hiTo l k / knTo l k)) := fun h => by have := md_some HO.out (by rw [HE.out]; exact h); rwa [HE.out] at this
      have hb2 : Below w.heap.size w (w1.drewN m) := Below.drewN hb1 m
      have K : Blk (w1.drewN m) (w.heap.size + 1) _ _ := K1
      have gK := K.lt
      have K00 : Blk (w1.drewN m) w.heap.size 50 #[.int .i64 l.size, .int .i64 l.wide, .int .i64 l.high, .slice (some a3) k c3, .slice (some a4) k c4] := K0
      have g00 := K00.lt
      clear c0
      have c0 := fun o => K00.cell o
      generalize w1.drewN m = wr at *
      clear c1 f1
      have c1 := fun o => K.cell o
      have f1 := fun o => K.frozen o
      generalize knTo l k = kn at *
      generalize loTo l k = lo at *
      generalize hiTo l k = hi at *
      by_cases e2 : kn = 0
      · subst e2
        have HR := Lib.hid (H1.out rfl)
        clear H1 H2
        go_wp2
        refine bodyPost_ret (v := .tuple #[.agg #[.int .i64 0, .int .i64 0], .int .i64 4]) (by simp [results, Try.results54, go_sem, c1]) rfl ?_
        rw [HR.out.1, HR.out.2.1, HR.out.2.2]
        exact ⟨rfl, by (repeat (first | (with_reducible assumption) | (with_reducible exact Below.refl _ _) | (with_reducible refine Below.drew ?_) | (with_reducible refine Below.drewN ?_ _) | (with_reducible refine Below.setCell ?_ ?_ _) | (with_reducible refine Below.alloc ?_ ?_ _) | assumption)); all_goals (first | omega | (simp; done) | (simp; omega))⟩
      have HR := Lib.hid (H2.out e2)
      have e2b : (kn == 0) = false := by rw [beq_eq_false_iff_ne]; exact e2
      have hkp : 0 < kn := by omega
      clear H1 H2 e2
      go_wp2_with fail
      refine (l01Floor_any lo kn _ (by omega) (by omega) hkp (by omega)).mono ?_
      rintro e w' ⟨rfl, rfl⟩
      go_wp2_with fail
      refine (l01Ceil_any hi kn _ (by omega) (by omega) hkp (by omega)).mono ?_
      rintro e w' ⟨rfl, rfl⟩
      go_wp2
      refine bodyPost_ret (v := .tuple #[.agg #[.int .i64 (lo / kn), .int .i64 (-(-hi / kn))], .int .i64 0]) (by simp [results, Try.results54, go_sem, c1]) rfl ?_
      rw [HR.out.1, HR.out.2.1, HR.out.2.2]
      exact ⟨rfl, by (repeat (first | (with_reducible assumption) | (with_reducible exact Below.refl _ _) | (with_reducible refine Below.drew ?_) | (with_reducible refine Below.drewN ?_ _) | (with_reducible refine Below.setCell ?_ ?_ _) | (with_reducible refine Below.alloc ?_ ?_ _) | assumption)); all_goals (first | omega | (simp; done) | (simp; omega))⟩

end Go.Proofs.Ythmcnoloeeabbaa
