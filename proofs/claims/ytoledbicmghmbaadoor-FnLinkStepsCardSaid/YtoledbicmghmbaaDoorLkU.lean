/- The text of a link, both sides. Conditions: lengths; the library's table of powers of ten is as it is laid. -/
import Derived.Test.YtoledbicmghmbaaDoorLkT
import Derived.Test.YtoledbicmghmbaaDoorRecW
import Derived.Deep.RegionHeld3
namespace Go.Proofs.YtoledbicmghmbaaDoor
open Go.RowKit

def lkT (l : LinkC) : Bs := joinI [44] [l.base, l.next, (l.got.length : Int)] ++ [32] ++ dashI (numsL l.packets (l.packets.length / 2)) ++ [32] ++ dashI l.acks
def lkC (l : LinkC) : Int := if linkOk l = true then 0 else 1
def lkS (l : LinkC) : Bs := if linkOk l = true then lkT l else []
theorem lk_yes {l : LinkC} (h : linkOk l = true) : lkC l = 0 ∧ lkS l = lkT l := by unfold lkC lkS; simp [h]
theorem lk_no {l : LinkC} (h : linkOk l = false) : lkC l = 1 ∧ lkS l = [] := by unfold lkC lkS; simp [h]
theorem lk_facts {l : LinkC} (h : linkOk l = true) : (0 ≤ l.base ∧ l.base ≤ 20) ∧ (0 ≤ l.next ∧ l.next ≤ 20) ∧ l.packets.length / 2 ≤ 12 ∧ (∀ k, k < l.packets.length / 2 → 0 ≤ l.packets.getD (k * 2) 0 ∧ l.packets.getD (k * 2) 0 ≤ 3) ∧ (∀ x ∈ l.acks, 0 ≤ x ∧ x ≤ 3) ∧ l.acks.length ≤ 12 ∧ l.got.length ≤ 20 := by
  unfold linkOk at h
  simp only [Bool.and_eq_true, decide_eq_true_eq] at h
  obtain ⟨⟨⟨⟨⟨h0, h1⟩, h2⟩, h3⟩, h4⟩, h5⟩ := h
  have i0 := okList_true h0
  have i1 := inR_true h1
  have i2 := inR_true h2
  have i4 := okList_true h4
  have i5 := okList_true h5
  refine ⟨⟨i1.1, by omega⟩, ⟨by omega, by omega⟩, by omega, fun k hk => ?_, fun x hx => allIn_true i4.2 hx, by omega, by omega⟩
  have h6 := List.all_eq_true.1 h3.2 k (List.mem_range.2 hk)
  unfold pktIn at h6
  rw [Bool.and_eq_true] at h6
  exact inR_true h6.1
theorem nums_bd {ps : List Int} {n : Nat} (h : ∀ k, k < n → 0 ≤ ps.getD (k * 2) 0 ∧ ps.getD (k * 2) 0 ≤ 3) : ∀ x ∈ numsL ps n, -9223372036854775808 < x ∧ x ≤ 9223372036854775807 := fun x hx => by
  unfold numsL at hx
  rw [List.mem_map] at hx
  obtain ⟨k, hk, rfl⟩ := hx
  have := h k (List.mem_range.1 hk)
  omega
theorem rd_two2 {w : World} {A : Option Addr} {n k : Nat} {xs : List Int} (h : Rd w A (n * 2) (ints xs)) (hk : k < n) : ∃ ad, A = some ad ∧ w.cell? (ad.add (k * 2)) = some (.int .i64 (xs.getD (k * 2) 0)) ∧ w.cell? ⟨(ad.add (k * 2)).block, (ad.add (k * 2)).off + 1, none⟩ = some (.int .i64 (xs.getD (k * 2 + 1) 0)) := by
  obtain ⟨ad, rfl, h0⟩ := h.int (show k * 2 < n * 2 by omega)
  obtain ⟨_, ⟨⟩, h1⟩ := h.int (show k * 2 + 1 < n * 2 by omega)
  refine ⟨ad, rfl, h0, ?_⟩
  have e : (⟨(ad.add (k * 2)).block, (ad.add (k * 2)).off + 1, none⟩ : Addr) = ad.add (k * 2 + 1) := by
    rw [← add_of_add]
    unfold Addr.add
    rw [if_neg (show ¬ (1 : Nat) = 0 by decide)]
  rw [e]
  exact h1
theorem dashI_len (xs : List Int) (h : ∀ x ∈ xs, -9223372036854775808 < x ∧ x ≤ 9223372036854775807) : (dashI xs).length ≤ xs.length * 22 + 1 := by
  unfold dashI
  split
  · simp
  · have := joinI_len [44] xs (fun x hx => by have := h x hx; omega)
    simp only [List.length_cons, List.length_nil] at this
    omega
theorem rd_int3 (w : World) (a b c : Int) (e : TypeId) : Rd (w.alloc (.cells #[.int .i64 a, .int .i64 b, .int .i64 c] e)) (some ⟨w.heap.size, 0, none⟩) 3 (ints [a, b, c]) :=
  (Blk.new w e #[.int .i64 a, .int .i64 b, .int .i64 c]).rd rfl (fun i hi => by
    match i, hi with
    | 0, _ => rfl
    | 1, _ => rfl
    | 2, _ => rfl)

set_option maxRecDepth 100000 in
set_option maxHeartbeats 4000000 in
theorem specLinkText'_any (h : LinkH) (l : LinkC) (w : World) (ok : LinkOk h) (hr : RdAll w (LinkS h l)) :
    Calls Tryd.prog 20 #[LinkV h l] w fun e w' => e = .returned (.tuple #[.string ⟨(lkS l).toArray⟩, .int .i64 (lkC l)]) ∧ Below w.heap.size w w' := by
  unfold LinkV
  go_enter Tryd.func20, Tryd.ntmps20
  go_wp2_with fail
  refine (specIsLink'_any h l _ ok (hr.below (by (repeat (first | (with_reducible assumption) | (with_reducible exact Below.refl _ _) | (with_reducible refine Below.drew ?_) | (with_reducible refine Below.drewN ?_ _) | (with_reducible refine Below.setCell ?_ ?_ _) | (with_reducible refine Below.alloc ?_ ?_ _) | assumption)); all_goals (first | omega | (simp; done) | (simp; omega))))).mono ?_
  rintro e w1 ⟨rfl, b1⟩
  have hb1 : Below w.heap.size w w1 := (show Below w.heap.size w _ from (by (repeat (first | (with_reducible assumption) | (with_reducible exact Below.refl _ _) | (with_reducible refine Below.drew ?_) | (with_reducible refine Below.drewN ?_ _) | (with_reducible refine Below.setCell ?_ ?_ _) | (with_reducible refine Below.alloc ?_ ?_ _) | assumption)); all_goals (first | omega | (simp; done) | (simp; omega)))).trans (b1.mono (by first | omega | (simp; done) | (simp; omega)))
  have K0 : Blk w1 w.heap.size 48 #[.slice h.items.A h.items.n h.items.c, .int .i64 l.base, .int .i64 l.next, .slice h.packets.A h.packets.n h.packets.c, .slice h.acks.A h.acks.n h.acks.c, .slice h.got.A h.got.n h.got.c] := Blk.below (Blk.new _ _ _) b1 (by first | omega | (simp; done) | (simp; omega))
  clear b1
  rcases Bool.eq_false_or_eq_true (linkOk l) with o0 | o0
  case inr =>
    have HM := Lib.hid (lk_no o0)
    rw [o0]
    clear o0
    go_wp2
    refine bodyPost_ret (v := .tuple #[.string ⟨#[]⟩, .int .i64 1]) (by simp [results, Tryd.results20, go_sem]) rfl ?_
    rw [HM.out.1, HM.out.2]
    exact ⟨rfl, hb1⟩
  obtain ⟨⟨f1, f1'⟩, ⟨f2, f2'⟩, f3, hnb, hab, f4, f5⟩ := lk_facts o0
  have HM := Lib.hid (lk_yes o0)
  rw [o0]
  clear o0
  have r3 : Rd w1 h.packets.A (h.packets.n * 2) (ints l.packets) := (hr.below hb1).tail.head
  have r4 : Rd w1 h.acks.A h.acks.n (ints l.acks) := (hr.below hb1).tail.tail.head
  have r5 : Rd w1 h.got.A h.got.n (ints l.got) := (hr.below hb1).tail.tail.tail.head
  obtain ⟨⟨A0, n0, c0⟩, ⟨A3, n, c3⟩, ⟨A4, n4, c4⟩, ⟨A5, n5, c5⟩⟩ := h
  simp only at r3 r4 r5 K0
  have e3 : l.packets.length = n * 2 := r3.len
  have e4 : l.acks.length = n4 := r4.len
  have e5 : l.got.length = n5 := r5.len
  have e6 : l.packets.length / 2 = n := by omega
  rw [e6] at hnb f3
  have HT : Hid (lkT l = joinI [44] [l.base, l.next, (n5 : Int)] ++ [32] ++ dashI (numsL l.packets n) ++ [32] ++ dashI l.acks) := by unfold Hid lkT; rw [e5, e6]
  have HN := Lib.hid (nums_bd hnb)
  have HA : Hid (∀ x ∈ l.acks, -9223372036854775808 < x ∧ x ≤ 9223372036854775807) := fun x hx => by have := hab x hx; omega
  have H3 : Hid (∀ x ∈ [l.base, l.next, (n5 : Int)], -9223372036854775808 < x ∧ x ≤ 9223372036854775807) := fun x hx => by
    simp at hx
    rcases hx with rfl | rfl | rfl <;> omega
  have hn12 : n ≤ 12 := f3
  have hn4 : n4 ≤ 12 := by omega
  have hn5 : n5 ≤ 20 := by omega
  clear hr ok hnb hab e3 e4 e5 e6 f3 f4 f5 r5
  obtain ⟨l0, x1, x2, ps, as_, l5⟩ := l
  simp only at *
  have c0' := fun o => K0.cell o
  have g0 := K0.lt
  have hz1 := hb1.size
  go_wp2_with fail
  go_loopw [4, 5] (fun v i wr => ∃ k : Nat, k ≤ n ∧ i = .int .i64 k ∧ wr.ownsRow w1.heap.size 2 1 v k (ints (numsL ps k)) ∧ Below w1.heap.size w1 wr) (fun _ i _ => n - (intOf i).toNat)
  case atStart => exact ⟨0, Nat.zero_le _, rfl, own_empty w1 _, (Below.refl _ _).alloc (Nat.le_refl _) _⟩
  case round =>
    obtain ⟨k, hk, rfl, hown, b⟩ := hrel
    have K := K0.below b g0
    have g1 := K.lt
    clear c0'
    have c0' := fun o => K.cell o
    have hsz := b.size
    by_cases hlt : k < n
    · have hltI : (k : Int) < (n : Int) := by omega
      have hk0 : (0 : Int) ≤ (k : Int) := by omega
      obtain ⟨a3, rfl, hx0, hx1⟩ := rd_two2 (r3.below b) hlt
      have HS := Lib.hid (numsL_succ ps k)
      generalize ps.getD (k * 2) 0 = y0 at *
      generalize ps.getD (k * 2 + 1) 0 = y1 at *
      go_wp2_with (at_builtin; refine wpList_append_int1 rfl _ _ rfl w1.heap.size _ k (numsL ps k) rfl rfl hown (by omega) hsz ?_; intro v' w' hown' hbel' _ _)
      go_roundw
      case rel => exact ⟨k + 1, by omega, by go_num, by rw [HS.out]; exact hown', b.trans hbel'⟩
      case measure => simp [intOf]; omega
    · obtain rfl : k = n := by omega
      obtain ⟨B, d, rfl, RN, -, hd, -⟩ := own_rd hown
      have RA := r4.below b
      have bb := hb1.trans (b.mono hz1)
      have l1 := joinI_len [44] [x1, x2, (n5 : Int)] (fun x hx => by have := H3.out x hx; omega)
      have l2 := dashI_len _ HN.out
      have l3 := dashI_len _ HA.out
      rw [numsL_len] at l2
      have l4 : as_.length = n4 := r4.len
      rw [l4] at l3
      simp only [List.length_cons, List.length_nil] at l1
      have RD3 := fun (W : World) => rd_int3 W x1 x2 (n5 : Int) 2
      have J3 := fun (W : World) (A : Option Addr) (r : Rd W A 3 (ints [x1, x2, (n5 : Int)])) => l01Join_any A 3 3 [x1, x2, (n5 : Int)] [44] W (by decide) (by decide) r H3.out
      have JN := fun (W : World) (r : Rd W B k (ints (numsL ps k))) => l29List_any B k d (numsL ps k) W (by omega) r HN.out
      have JA := fun (W : World) (r : Rd W A4 n4 (ints as_)) => l29List_any A4 n4 c4 as_ W (by omega) r HA.out
      generalize joinI [44] [x1, x2, (n5 : Int)] = J at *
      generalize hD1 : dashI (numsL ps k) = D1 at *
      generalize hD2 : dashI as_ = D2 at *
      obtain ⟨T1, hT1⟩ : ∃ T1, J ++ [32] = T1 := ⟨_, rfl⟩
      obtain ⟨T2, hT2⟩ : ∃ T2, T1 ++ D1 = T2 := ⟨_, rfl⟩
      obtain ⟨T3, hT3⟩ : ∃ T3, T2 ++ [32] = T3 := ⟨_, rfl⟩
      obtain ⟨T4, hT4⟩ : ∃ T4, T3 ++ D2 = T4 := ⟨_, rfl⟩
      have HT4 : Hid (lkT ⟨l0, x1, x2, ps, as_, l5⟩ = T4) := by unfold Hid; rw [HT.out, hT1, hT2, hT3, hT4]
      have q1 : T1.length = J.length + 1 := by rw [← hT1, List.length_append]; rfl
      have q2 : T2.length = T1.length + D1.length := by rw [← hT2, List.length_append]
      have q3 : T3.length = T2.length + 1 := by rw [← hT3, List.length_append]; rfl
      have p1 : ¬ 9223372036854775807 < J.length + 1 := by omega
      have p2 : ¬ 9223372036854775807 < T1.length + D1.length := by omega
      have p3 : ¬ 9223372036854775807 < T2.length + 1 := by omega
      have p4 : ¬ 9223372036854775807 < T3.length + D2.length := by omega
      clear q1 q2 q3 l1 l2 l3 l4
      have s1 : ((⟨J.toArray⟩ : ByteArray) ++ ⟨#[32]⟩) = ⟨T1.toArray⟩ := by rw [← hT1]; exact str_add J [32]
      have s2 : ((⟨T1.toArray⟩ : ByteArray) ++ ⟨D1.toArray⟩) = ⟨T2.toArray⟩ := by rw [← hT2]; exact str_add T1 D1
      have s3 : ((⟨T2.toArray⟩ : ByteArray) ++ ⟨#[32]⟩) = ⟨T3.toArray⟩ := by rw [← hT3]; exact str_add T2 [32]
      have s4 : ((⟨T3.toArray⟩ : ByteArray) ++ ⟨D2.toArray⟩) = ⟨T4.toArray⟩ := by rw [← hT4]; exact str_add T3 D2
      clear hT1 hT2 hT3 hT4 HT H3 HN HA hD1 hD2 hown r3 r4 hd
      go_upto_region 8 with fail
      have hS := c0'
      have bL : Below wr.heap.size wr (wr.alloc (.cells #[.int .i64 x1, .int .i64 x2, .int .i64 (n5 : Int)] 2)) := (Below.refl _ _).alloc (Nat.le_refl _) _
      have bLd := Below.drew bL
      have J3a := J3 (wr.alloc (.cells #[.int .i64 x1, .int .i64 x2, .int .i64 (n5 : Int)] 2)).drew (some ⟨wr.heap.size, 0, none⟩) (RD3 wr)
      have J3b := J3 (wr.alloc (.cells #[.int .i64 x1, .int .i64 x2, .int .i64 (n5 : Int)] 2)) (some ⟨wr.heap.size, 0, none⟩) (RD3 wr)
      clear J3
      go_region_held3 (fun w' => ∀ o, w'.cell? ⟨w.heap.size, o, none⟩ = #[.slice A0 n0 c0, .int .i64 x1, .int .i64 x2, .slice A3 k c3, .slice A4 n4 c4, .slice A5 n5 c5][o]?)
        (first | (with_reducible exact hS) | (with_reducible assumption) | ((with_reducible refine cells_alloc ?_ ?_ _) <;> first | (with_reducible assumption) | omega | (simp; done) | (simp; omega)) | ((with_reducible refine cells_drew ?_); (with_reducible refine cells_alloc ?_ ?_ _) <;> first | (with_reducible assumption) | omega | (simp; done) | (simp; omega)) | (intro o; go_keep))
        (first
          | (go_at_call 62; (with_reducible refine J3a.mono ?_); rintro e u1 ⟨rfl, b⟩; have bq : Below wr.heap.size wr u1 := bLd.trans (b.mono bLd.size); have RN := RN.below bq; have RA := RA.below bq; have bb := bb.trans (bq.mono bb.size); have hS1 := cells_below c0' bq g1; have gg := Nat.lt_of_lt_of_le g1 bq.size)
          | (go_at_call 62; (with_reducible refine J3b.mono ?_); rintro e u1 ⟨rfl, b⟩; have bq : Below wr.heap.size wr u1 := bL.trans (b.mono bL.size); have RN := RN.below bq; have RA := RA.below bq; have bb := bb.trans (bq.mono bb.size); have hS1 := cells_below c0' bq g1; have gg := Nat.lt_of_lt_of_le g1 bq.size)
          | (go_at_call 71; (with_reducible refine (JN _ RN).mono ?_); rintro e u2 ⟨rfl, b⟩; have RN := RN.below b; have RA := RA.below b; have bb := bb.trans (b.mono bb.size); have hS1 := cells_below hS1 b gg; have gg := Nat.lt_of_lt_of_le gg b.size)
          | (go_at_call 71; (with_reducible refine (JA _ RA).mono ?_); rintro e u3 ⟨rfl, b⟩; have RN := RN.below b; have RA := RA.below b; have bb := bb.trans (b.mono bb.size); have hS1 := cells_below hS1 b gg; have gg := Nat.lt_of_lt_of_le gg b.size))
      all_goals
        go_wp2
        refine bodyPost_ret (v := .tuple #[.string ⟨T4.toArray⟩, .int .i64 0]) (by simp [results, Tryd.results20, go_sem]) rfl ?_
        rw [HM.out.1, HM.out.2, HT4.out]
        exact ⟨rfl, bb⟩
end Go.Proofs.YtoledbicmghmbaaDoor
