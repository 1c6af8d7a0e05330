/- The reference's draws for the laws on codes: DrawPunctureCode, DrawFillPunctures, DrawDecodePunctured, and received bits. Condition: a code of at most 4096 bytes. -/
import Derived.Test.YtlgmdekhlcbhoaaCodes
import Derived.Test.YtlgmdekhlcbhoaaArgB
import Derived.Deep.DeepCutAuto
namespace Go.Proofs.Ytlgmdekhlcbhoaa
open Go.RowKit

/-- A list was drawn: in memory of its own. -/
def DrawnI (most : Nat) (w : World) (e : Ending) (w' : World) : Prop :=
  ∃ (h : Hd) (xs : List Int), e = .returned (.slice h.A h.n h.c) ∧ h.n ≤ most ∧ Own w' w.heap.size 1 h (ints xs) ∧ Below w.heap.size w w'
/-- .. and a number. -/
def DrawnII (most : Nat) (lo hi : Int) (w : World) (e : Ending) (w' : World) : Prop :=
  ∃ (h : Hd) (xs : List Int) (k : Int), e = .returned (.tuple #[.slice h.A h.n h.c, .int .i64 k]) ∧ h.n ≤ most ∧ lo ≤ k ∧ k ≤ hi ∧ Own w' w.heap.size 1 h (ints xs) ∧ Below w.heap.size w w'
/-- from a list drawn on a source of the call's own -/
theorem Lst.ret {w w1 wr : World} {g : Nat} {h : Hd} {xs : List Int} (s : Lst w1 wr w.heap.size g h xs) (b : Below w.heap.size w w1) (hg : w.heap.size ≤ g) : Own wr w.heap.size 1 h (ints xs) ∧ Below w.heap.size w wr :=
  ⟨s.own.mono b.size, bstepg b s.gr (Nat.le_refl _) (fun k e => by injection e with e; omega)⟩
theorem Lst.made {w wr : World} {L g : Nat} {h : Hd} {xs : List Int} (s : Lst w wr L g h xs) {n : Nat} (hn : n ≤ 1048576) (e : TypeId) :
    Lst w (wr.alloc (.cells (madeCells #[.int .i64 0] n) e)) L g ⟨some ⟨wr.heap.size, 0, none⟩, n, n⟩ (List.replicate n 0) :=
  have b : Below wr.heap.size wr (wr.alloc (.cells (madeCells #[.int .i64 0] n) e)) := (Below.refl _ _).alloc (Nat.le_refl _) _
  ⟨Own.made s.gr.size hn e, grown_trans s.gr (grown_of_below b), s.src.below b, s.lt⟩
theorem bits_zeros (n : Nat) : allIn (List.replicate n 0) 0 1 = true := by
  unfold allIn; rw [List.all_eq_true]; intro x hx; rw [List.mem_replicate] at hx; rw [hx.2]; rfl
theorem bits_snoc {xs : List Int} (h : allIn xs 0 1 = true) {x : Int} (h0 : 0 ≤ x) (h1 : x < 2 ∨ x = 0) : allIn (xs ++ [x]) 0 1 = true := by
  unfold allIn at h ⊢
  rw [List.all_append, h, List.all_cons, List.all_nil, inR_mk h0 (by omega)]; rfl

set_option maxHeartbeats 1000000 in
theorem drawPunctureCode_any (A : Option Addr) (n c : Nat) (bs : List Int) (w : World) (r : Rd w A n (byteV bs)) (hx : ∀ x ∈ bs, 0 ≤ x ∧ x ≤ 255) (hn : n ≤ 4096) :
    Calls Try.prog 64 #[.slice A n c] w (DrawnI 604 w) := by
  go_enter Try.func64, Try.ntmps64
  go_wp2_with fail
  refine (l01From_any A n c bs _ r hx hn).mono ?_
  rintro e w1 ⟨g, rfl, S1, b1⟩
  go_wp2_with fail
  refine (l27DrawCode_any _ g _ S1).mono ?_
  rintro e w2 ⟨h, xs, rfl, hh, L2⟩
  go_wp2
  go_ret
  exact ⟨h, xs, rfl, hh, L2.ret b1 S1.lt.2⟩
set_option maxHeartbeats 1000000 in
theorem drawEncodeBits_any (A : Option Addr) (n c : Nat) (bs : List Int) (w : World) (r : Rd w A n (byteV bs)) (hx : ∀ x ∈ bs, 0 ≤ x ∧ x ≤ 255) (hn : n ≤ 4096) :
    Calls Try.prog 53 #[.slice A n c] w (DrawnI 301 w) := by
  go_enter Try.func53, Try.ntmps53
  go_wp2_with fail
  refine (l01From_any A n c bs _ r hx hn).mono ?_
  rintro e w1 ⟨g, rfl, S1, b1⟩
  go_wp2_with fail
  refine (l27DrawMessage_any _ g _ S1).mono ?_
  rintro e w2 ⟨h, xs, rfl, hh, L2⟩
  go_wp2
  go_ret
  exact ⟨h, xs, rfl, hh, L2.ret b1 S1.lt.2⟩
set_option maxHeartbeats 2000000 in
theorem drawFillPunctures_any (A : Option Addr) (n c : Nat) (bs : List Int) (w : World) (r : Rd w A n (byteV bs)) (hx : ∀ x ∈ bs, 0 ≤ x ∧ x ≤ 255) (hn : n ≤ 4096) :
    Calls Try.prog 67 #[.slice A n c] w (DrawnII 1048576 (-1) 605 w) := by
  go_enter Try.func67, Try.ntmps67
  go_wp2_with fail
  refine (l01From_any A n c bs _ r hx hn).mono ?_
  rintro e w1 ⟨g, rfl, S1, b1⟩
  go_wp2_with fail
  refine (l27DrawCode_any _ g _ S1).mono ?_
  rintro e w2 ⟨h, xs, rfl, hh, L2⟩
  have hlo := L2.own.capm
  have hge := S1.lt.2
  go_wp2_with fail
  refine (specPunctureCodeO_any h.A h.n h.c xs _ (by omega) L2.own.rd1).mono ?_
  rintro e w3 ⟨k, rfl, O3, b3⟩
  have L3 : Lst w1 w3 w.heap.size g h xs := ⟨L2.own.below b3, grown_trans L2.gr (grown_of_below b3), L2.src.below b3, L2.lt⟩
  have O3' := O3.mono (Nat.le_trans b1.size L2.gr.size)
  have hlt3 := L2.lt
  have hrow := fun b e => (O3.rowlt b e).1
  have hsz := L2.gr.size
  clear L2 b3 O3
  by_cases hc : puncC xs = 0
  case neg =>
    have f1 : (puncC xs == 0) = false := by simpa using hc
    have f2 : (puncC xs != 0) = true := by simpa using hc
    clear hc
    go_wp2
    go_ret2
    exact ⟨h, xs, _, rfl, by omega, by omega, by omega, L3.ret b1 hge⟩
  have hk : k.n ≤ 1048576 := by have := O3'.rd1.len; have := puncR_len xs; have := L3.own.rd1.len; omega
  generalize puncC xs = cc at *
  subst hc
  go_wp2_with fail
  refine (l01Next_any _ g 16 _ L3.src (by decide)).mono ?_
  rintro e w4 ⟨x, rfl, x0, x1, g4, S4⟩
  have L4 := L3.next g4 S4
  have O4 := O3'.grown g4 (fun b e c => by have := hrow b e; injection c with c; omega)
  clear L3 g4 S4 O3'
  go_wp2_with fail
  refine (l01Next_any _ g 16 _ L4.src (by decide)).mono ?_
  rintro e w5 ⟨y, rfl, y0, y1, g5, S5⟩
  have L5 := L4.next g5 S5
  have O5 := O4.grown g5 (fun b e c => by have := hrow b e; injection c with c; omega)
  clear L4 g5 S5 O4
  have q1 : x.tdiv 15 = x / 15 := Int.tdiv_eq_ediv_of_nonneg x0
  have q2 : y.tdiv 15 = y / 15 := Int.tdiv_eq_ediv_of_nonneg y0
  go_wp2
  go_ret2
  exact ⟨k, _, _, rfl, hk, by omega, by omega, O5, (L5.ret b1 hge).2⟩
theorem rd_four' (w : World) (x y z u : Int) (e : TypeId) : Rd (w.alloc (.cells #[.int .i64 x, .int .i64 y, .int .i64 z, .int .i64 u] e)) (some ⟨w.heap.size, 0, none⟩) 4 (ints [x, y, z, u]) :=
  (Blk.new w e #[.int .i64 x, .int .i64 y, .int .i64 z, .int .i64 u]).rd rfl (fun i hi => by
    match i, hi with
    | 0, _ => rfl
    | 1, _ => rfl
    | 2, _ => rfl
    | 3, _ => rfl)
set_option maxRecDepth 100000 in
set_option maxHeartbeats 4000000 in
theorem drawDecodePunctured_any (A : Option Addr) (n c : Nat) (bs : List Int) (w : World) (r : Rd w A n (byteV bs)) (hx : ∀ x ∈ bs, 0 ≤ x ∧ x ≤ 255) (hn : n ≤ 4096) :
    Calls Try.prog 70 #[.slice A n c] w (DrawnII 1048576 (-1) 301 w) := by
  go_enter Try.func70, Try.ntmps70
  go_wp2_with fail
  refine (l01From_any A n c bs _ r hx hn).mono ?_
  rintro e w1 ⟨g, rfl, S1, b1⟩
  have hge := S1.lt.2
  have L0 := Lst.start S1 2
  go_wp2_with fail
  generalize w1.alloc (.cells #[] 2) = w2 at L0 ⊢
  generalize hh0 : (⟨some ⟨w1.heap.size, 0, none⟩, 0, 0⟩ : Hd) = h0 at L0
  refine (l01Next_any _ g 12 _ L0.src (by decide)).mono ?_
  rintro e w3 ⟨q, rfl, q0, q1, g3, S3⟩
  have L1 := L0.next g3 S3
  obtain ⟨q, rfl⟩ := Int.eq_ofNat_of_zero_le q0
  subst hh0
  clear L0 g3 S3 S1
  go_wp2_with fail
  go_loopw [5, 6] (fun v i wr => ∃ (h : Hd) (xs : List Int) (k : Nat), v = .slice h.A h.n h.c ∧ i = .int .i64 k ∧ h.n + k ≤ 11 ∧ allIn xs 0 1 = true ∧ Lst w1 wr w.heap.size g h xs) (fun _ i _ => (intOf i).toNat)
  case atStart => exact ⟨_, [], q, rfl, rfl, by simp only; omega, rfl, L1⟩
  case round =>
    clear L1
    obtain ⟨h, xs, k, rfl, rfl, hk, HB0, Lx⟩ := hrel
    have HB := Lib.hid HB0
    clear HB0
    by_cases hk0 : 0 < (k : Int)
    · go_wp2_with fail
      refine (l01Next_any _ g 2 _ Lx.src (by decide)).mono ?_
      rintro e w4 ⟨x, rfl, x0, x1, g4, S4⟩
      have L4 := Lx.next g4 S4
      clear Lx g4 S4
      have HX := Lib.hid (bits_snoc HB.out x0 x1)
      clear x0 x1
      go_wp2_with (at_builtin; refine wpList_push rfl _ _ rfl w1 _ g h xs [x] (L4.alloc _) rfl _ 1 1 rfl (rd_one _ _ _) (by omega) ?_; intro G wg hGn LG)
      clear L4
      have hGn' := Lib.hid hGn
      clear hGn
      go_roundw
      case rel => exact ⟨G, xs ++ [x], k - 1, by rw [hGn'.out], by congr 1; omega, by have := hGn'.out; omega, HX.out, LG⟩
      case measure => simp [intOf]; omega
    · have hn11 : h.n ≤ 11 := by omega
      clear hk
      go_wp2_with fail
      refine (l27Encode_any h.A h.n h.c xs _ (by omega) Lx.own.rd1 HB.out).mono ?_
      rintro e w4 ⟨v, rfl, hown, b4⟩
      have HE : Hid ((enc xs).length = 2 * (h.n + 2) ∧ allIn (enc xs) 0 1 = true) := ⟨by rw [enc_length, Lx.own.rd1.len], codeTo_bits HB.out _⟩
      obtain ⟨G, rfl, hG, L4⟩ := Lx.fresh b4 hown
      have HG := Lib.hid hG
      clear hown b4 Lx HB hG
      generalize enc xs = ys at *
      go_wp2_with fail
      refine (specPunctureCodeO_any G.A G.n G.c ys _ (by have := HG.out; omega) L4.own.rd1).mono ?_
      rintro e w5 ⟨k, rfl, O5, b5⟩
      have hkn : k.n = 2 * (h.n + 2) - 2 * (h.n + 2) / 4 := by
        have h1 := O5.rd1.len
        have h2 := okList_true (xs := ys) (most := 604) (lo := 0) (hi := 1)
        have h3 : okList ys 604 0 1 = true := by unfold okList; rw [HE.out.2, HE.out.1]; simp; omega
        unfold puncR at h1
        rw [if_pos h3, puncTo_length, HE.out.1] at h1
        exact h1.symm
      have L5 : Lst w1 w5 w.heap.size g k (puncR ys) := ⟨O5.mono L4.gr.size, grown_trans L4.gr (grown_of_below b5), L4.src.below b5, L4.lt⟩
      clear O5 b5 L4
      generalize puncR ys = zs at *
      have hk1 : 3 ≤ k.n ∧ k.n ≤ 20 := by omega
      clear hkn HE
      go_wp2_with fail
      refine (l01Next_any _ g 3 _ L5.src (by decide)).mono ?_
      rintro e w6 ⟨q2, rfl, q20, q21, g6, S6⟩
      have L6 := L5.next g6 S6
      clear L5 g6 S6
      obtain ⟨q2, rfl⟩ := Int.eq_ofNat_of_zero_le q20
      go_wp2_with fail
      go_loopw [9] (fun i wr => ∃ (xs : List Int) (j : Nat), i = .int .i64 j ∧ j ≤ 2 ∧ Lst w1 wr w.heap.size g k xs) (fun i _ => (intOf i).toNat)
      case atStart => exact ⟨_, q2, rfl, by omega, L6⟩
      case round =>
        clear L6 q20 q21
        obtain ⟨xs, j, rfl, hj2, Lx⟩ := hrel
        by_cases hj0 : 0 < (j : Int)
        · go_wp2_with fail
          refine (l01Next_any _ g _ _ Lx.src (by omega)).mono ?_
          rintro e w7 ⟨t, rfl, t0, t1, g7, S7⟩
          have L7 := Lx.next g7 S7
          clear Lx g7 S7
          obtain ⟨t, rfl⟩ := Int.eq_ofNat_of_zero_le t0
          have ht : t < k.n := by omega
          obtain ⟨ad, hA, hx, hf⟩ := L7.own.cell ht
          have hL := fun v => Lib.hid (L7.set_ ht hA v)
          obtain ⟨kA, kn, kc⟩ := k
          simp only at *
          subst hA
          clear L7 t0 t1
          generalize xs.getD t 0 = x at *
          go_wp2
          go_roundw
          case rel => exact ⟨_, j - 1, by congr 1; omega, by omega, (hL _).out⟩
          case measure => simp [intOf]; omega
        · go_wp2_with fail
          refine (l01Next_any _ g 16 _ Lx.src (by decide)).mono ?_
          rintro e w7 ⟨t, rfl, -, -, g7, S7⟩
          have L7 := Lx.next g7 S7
          clear Lx g7 S7
          by_cases ht0 : t = 0
          · subst ht0
            obtain ⟨ad, hA, hx, hf⟩ := L7.own.cell (show 0 < k.n by omega)
            have hL := fun v => Lib.hid (L7.set_ (show 0 < k.n by omega) hA v)
            obtain ⟨kA, kn, kc⟩ := k
            simp only at *
            subst hA
            clear L7
            have i1 : (0 : Int) < (kn : Int) := by omega
            have i2 : 0 < kn := by omega
            rw [Addr.add_zero'] at hx hf
            simp only [Addr.add_zero'] at hL
            generalize xs.getD 0 0 = x at *
            go_wp2
            go_ret2
            exact ⟨⟨some ad, kn, kc⟩, _, _, rfl, by simp only; omega, by omega, by omega, (hL _).out.ret b1 hge⟩
          · by_cases ht1 : t = 1
            · subst ht1
              go_wp2_with fail
              refine (l01Pick_any _ g _ 4 4 [-1, 300, 301, (h.n : Int) + 1] _ (L7.alloc _).src (rd_four' _ _ _ _ _ _) (by decide) (by decide) (fun ad e => by cases e; have := L7.src.lt; simp only; omega)).mono ?_
              rintro e w8 ⟨x, hxm, rfl, g8, S8⟩
              have L8 := (L7.alloc (.cells #[.int .i64 (-1), .int .i64 300, .int .i64 301, .int .i64 ((h.n : Int) + 1)] 2)).next g8 S8
              clear L7 g8 S8
              have hxb : -1 ≤ x ∧ x ≤ 301 := by
                simp only [List.mem_cons, List.not_mem_nil, or_false] at hxm
                omega
              clear hxm
              go_wp2
              go_ret2
              exact ⟨k, _, _, rfl, by omega, hxb.1, hxb.2, L8.ret b1 hge⟩
            · have f0 : (t == 0) = false := by simpa using ht0
              have f1 : (t == 1) = false := by simpa using ht1
              clear ht0 ht1
              go_wp2
              go_ret2
              exact ⟨k, _, _, rfl, by omega, by omega, by omega, L7.ret b1 hge⟩
end Go.Proofs.Ytlgmdekhlcbhoaa
