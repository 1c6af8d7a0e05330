/- The reference's draws of messages, codes and received bits. Condition: a source whose code has at most 4096 bytes. -/
import Derived.Test.YtlgmdekhlcbhoaaDrawK
import Derived.Test.YtlgmdekhlcbhoaaKern
import Derived.Test.YtlgmdekhlcbhoaaVitT
namespace Go.Proofs.Ytlgmdekhlcbhoaa
open Go.RowKit

section
variable {w w' wr w1 : World} {L g B K : Nat} {h : Hd} {xs : List Int} {us : List Value}
theorem Lst.take (s : Lst w wr L g h xs) {k : Nat} (hk : k ≤ h.n) : Lst w wr L g ⟨h.A, k, h.c⟩ (xs.take k) :=
  ⟨by have := s.own.take hk; rwa [Nat.mul_one, ints_take] at this, s.gr, s.src, s.lt⟩
theorem Lst.tl (s : Lst w wr L g h xs) (hn : 0 < h.n) : Lst w wr L g (h.tl 1) (xs.drop 1) :=
  ⟨by have := s.own.tl hn; rwa [ints_drop] at this, s.gr, s.src, s.lt⟩
theorem Lst.set_ (s : Lst w wr L g h xs) {k : Nat} {ad : Addr} (hk : k < h.n) (e : h.A = some ad) (v : Int) : Lst w (wr.setCell (ad.add k) (.int .i64 v)) L g h (xs.set k v) := by
  have hnc := s.own.nc
  have hb := s.own.rowlt ad.block (Hd.row_mk e (by omega))
  have hlt := s.lt
  have hs := s.src.lt
  have gg : wr.grownBy (wr.setCell (ad.add k) (.int .i64 v)) (some ad.block) := grown_setCell (World.grownBy.refl _ _) (.inl (by rw [block_of_add])) _
  exact ⟨s.own.set_ hk e v, grown_up s.gr gg (fun x c => by injection c with c; omega), s.src.grown gg (fun b c => by injection c with c; omega), s.lt⟩
theorem Lst.fresh (s : Lst w wr L g h xs) (b : Below wr.heap.size wr w1) {e : TypeId} {v : Value} {n : Nat} {ys : List Int} (o : w1.ownsRow wr.heap.size e 1 v n (ints ys)) :
    ∃ G : Hd, v = .slice G.A G.n G.c ∧ G.n = n ∧ Lst w w1 L g G ys := by
  obtain ⟨G, hv, hn, ho, _⟩ := Own.of_row (by decide) o
  exact ⟨G, hv, hn, ho.mono s.gr.size, grown_trans s.gr (grown_of_below b), s.src.below b, s.lt⟩
end

set_option maxHeartbeats 400000 in
theorem l27Message_any (A : Option Addr) (n c : Nat) (xs : List Int) (w : World) (hn : n ≤ 9223372036854775807) (hr : Rd w A n (ints xs)) :
    Calls Try.prog 130 #[.slice A n c] w fun e w' => e = .returned (.bool (okList xs 300 0 1)) ∧ w = w' := by
  go_enter Try.func130, Try.ntmps130
  go_wp2_with (go_at_call 146; refine (l01Within_any _ _ _ xs _ _ _ _ hn hr).mono ?_; rintro e w' ⟨rfl, rfl⟩)
  go_ret
  exact ⟨rfl, rfl⟩
set_option maxHeartbeats 400000 in
theorem isMessage_any (A : Option Addr) (n c : Nat) (xs : List Int) (w : World) (hn : n ≤ 9223372036854775807) (hr : Rd w A n (ints xs)) :
    Calls Try.prog 123 #[.slice A n c] w fun e w' => e = .returned (.bool (okList xs 300 0 1)) ∧ w = w' := by
  go_enter Try.func123, Try.ntmps123
  go_wp2_with (go_at_call 94; refine (isBits_any _ _ _ xs _ _ hn hr).mono ?_; rintro e w' ⟨rfl, rfl⟩)
  go_ret
  exact ⟨rfl, rfl⟩

set_option maxRecDepth 100000 in
set_option maxHeartbeats 2000000 in
theorem l27DrawMessage_any (L g : Nat) (w : World) (S : Src w L g) :
    Calls Try.prog 122 #[.pointer (some ⟨g, 0, none⟩)] w (DrawPost L g 301 w) := by
  have L0 := Lst.start S 2
  go_enter Try.func122, Try.ntmps122
  go_wp2_with fail
  generalize w.alloc (.cells #[] 2) = w0 at L0 ⊢
  generalize hh0 : (⟨some ⟨w.heap.size, 0, none⟩, 0, 0⟩ : Hd) = h0 at L0
  refine (l01Next_any L g 16 _ L0.src (by decide)).mono ?_
  rintro e w1 ⟨q, rfl, q0, q1, g1, S1⟩
  have L1 := L0.next g1 S1
  obtain ⟨q, rfl⟩ := Int.eq_ofNat_of_zero_le q0
  subst hh0
  go_wp2_with fail
  go_loopw [3, 4] (fun v i wr => ∃ (h : Hd) (xs : List Int) (k : Nat), v = .slice h.A h.n h.c ∧ i = .int .i64 k ∧ h.n + k ≤ 15 ∧ Lst w wr L g h xs) (fun _ i _ => (intOf i).toNat)
  case atStart => exact ⟨_, [], q, rfl, rfl, by simp only; omega, L1⟩
  case round =>
    clear L0 L1 S1 g1 S
    obtain ⟨h, xs, k, rfl, rfl, hk, Lx⟩ := hrel
    by_cases hk0 : 0 < (k : Int)
    · go_wp2_with fail
      refine (l01Next_any L g 2 _ Lx.src (by decide)).mono ?_
      rintro e w2 ⟨x, rfl, -, -, g2, S2⟩
      have L2 := Lx.next g2 S2
      clear Lx g2 S2
      go_wp2_with (at_builtin; refine wpList_push rfl _ _ rfl w L g h xs [x] (L2.alloc _) rfl _ 1 1 rfl (rd_one _ _ _) (by omega) ?_; intro G wg hGn LG)
      clear L2
      have hGn' := Lib.hid hGn
      clear hGn
      go_roundw
      case rel => exact ⟨G, xs ++ [x], k - 1, by rw [hGn'.out], by congr 1; omega, by have := hGn'.out; omega, LG⟩
      case measure => simp [intOf]; omega
    · go_wp2_with fail
      refine (l01Next_any L g 30 _ Lx.src (by decide)).mono ?_
      rintro e w2 ⟨r, rfl, -, -, g2, S2⟩
      have L2 := Lx.next g2 S2
      clear Lx g2 S2
      by_cases hr0 : r = 0
      · subst hr0
        go_wp2_with fail
        refine (l01Pick_any L g _ 2 2 [-1, 2] _ (L2.alloc _).src (rd_two' _ _ _ _) (by decide) (by decide) (fun ad e => by cases e; have := L2.src.lt; simp only; omega)).mono ?_
        rintro e w3 ⟨x, -, rfl, g3, S3⟩
        have L3 := (L2.alloc (.cells #[.int .i64 (-1), .int .i64 2] 2)).next g3 S3
        clear L2 g3 S3
        go_wp2_with (at_builtin; refine wpList_push rfl _ _ rfl w L g h xs [x] (L3.alloc _) rfl _ 1 1 rfl (rd_one _ _ _) (by omega) ?_; intro G wg hGn LG)
        have hGn' := Lib.hid hGn
        clear hGn
        go_ret
        exact ⟨G, xs ++ [x], by show Ending.returned (Value.slice G.A (h.n + 1) G.c) = _; rw [hGn'.out], by have := hGn'.out; omega, LG⟩
      · by_cases hr1 : r = 1
        · subst hr1
          go_wp2
          go_loopw [3] (fun v wr => ∃ (h : Hd) (xs : List Int), v = .slice h.A h.n h.c ∧ h.n ≤ 301 ∧ Lst w wr L g h xs) (fun v _ => 301 - lenOf v)
          case atStart => exact ⟨h, xs, rfl, by omega, L2⟩
          case round =>
            clear L2
            obtain ⟨h, xs, rfl, hk, Lx⟩ := hrel
            go_wp2_with fail
            refine (l01Next_any L g 2 _ Lx.src (by decide)).mono ?_
            rintro e w3 ⟨y, rfl, y0, y1, g3, S3⟩
            have L3 := Lx.next g3 S3
            clear Lx g3 S3
            by_cases hlt : (h.n : Int) < 300 + y
            · go_wp2_with fail
              refine (l01Next_any L g 2 _ L3.src (by decide)).mono ?_
              rintro e w4 ⟨x, rfl, -, -, g4, S4⟩
              have L4 := L3.next g4 S4
              clear L3 g4 S4
              go_wp2_with (at_builtin; refine wpList_push rfl _ _ rfl w L g h xs [x] (L4.alloc _) rfl _ 1 1 rfl (rd_one _ _ _) (by omega) ?_; intro G wg hGn LG)
              have hGn' := Lib.hid hGn
              clear hGn L4
              go_roundw
              case rel => exact ⟨G, xs ++ [x], by rw [hGn'.out], by have := hGn'.out; omega, LG⟩
              case measure => have := hGn'.out; simp [lenOf]; omega
            · go_wp2
              go_ret
              exact ⟨h, xs, rfl, hk, L3⟩
        · have f0 : (r == 0) = false := by simpa using hr0
          have f1 : (r == 1) = false := by simpa using hr1
          clear hr0 hr1
          go_wp2
          go_ret
          exact ⟨h, xs, rfl, by omega, L2⟩

set_option maxRecDepth 100000 in
set_option maxHeartbeats 2000000 in
theorem l27DrawCode_any (L g : Nat) (w : World) (S : Src w L g) :
    Calls Try.prog 133 #[.pointer (some ⟨g, 0, none⟩)] w (DrawPost L g 604 w) := by
  go_enter Try.func133, Try.ntmps133
  go_wp2_with fail
  refine (l27DrawMessage_any L g _ S).mono ?_
  rintro e w1 ⟨h, xs, rfl, hn, L1⟩
  rcases Bool.eq_false_or_eq_true (okList xs 300 0 1) with hok | hok
  case inr =>
    go_wp2_with (go_at_call 130; refine (l27Message_any _ _ _ xs _ (by omega) L1.own.rd1).mono ?_; rintro e w' ⟨rfl, rfl⟩)
    go_ret
    exact ⟨h, xs, rfl, by omega, L1⟩
  have ht := okList_true hok
  have hlen := L1.own.rd1.len
  have hn3 : h.n ≤ 300 := by omega
  have HB := Lib.hid ht.2
  clear ht hlen
  go_wp2_with (go_at_call 130; refine (l27Message_any _ _ _ xs _ (by omega) L1.own.rd1).mono ?_; rintro e w' ⟨rfl, rfl⟩)
  clear hok
  refine (l27Encode_any h.A h.n h.c xs _ (by omega) L1.own.rd1 HB.out).mono ?_
  rintro e w2 ⟨v, rfl, hown, b2⟩
  obtain ⟨G, rfl, hG, L2⟩ := L1.fresh b2 hown
  clear hown b2 L1 HB
  have hG4 : 4 ≤ G.n ∧ G.n ≤ 604 := by omega
  clear hG
  generalize enc xs = ys at L2
  go_wp2_with fail
  refine (l01Next_any L g 6 _ L2.src (by decide)).mono ?_
  rintro e w3 ⟨r, rfl, -, -, g3, S3⟩
  have L3 := L2.next g3 S3
  clear L2 g3 S3
  by_cases hr0 : r = 0
  · subst hr0
    go_wp2_with fail
    refine (l01Next_any L g _ _ L3.src (by omega)).mono ?_
    rintro e w4 ⟨k, rfl, k0, k1, g4, S4⟩
    have L4 := L3.next g4 S4
    clear L3 g4 S4
    obtain ⟨k, rfl⟩ := Int.eq_ofNat_of_zero_le k0
    have hk : k < G.n := by omega
    obtain ⟨ad, hA, hx, hf⟩ := L4.own.cell hk
    have hL := fun v => Lib.hid (L4.set_ hk hA v)
    obtain ⟨GA, Gn, Gc⟩ := G
    simp only at *
    subst hA
    clear L4 k0 k1
    generalize ys.getD k 0 = x at *
    go_wp2
    go_ret
    exact ⟨_, _, rfl, by simp only; omega, (hL _).out⟩
  · by_cases hr1 : r = 1
    · subst hr1
      go_wp2_with fail
      refine (l01Next_any L g _ _ L3.src (by omega)).mono ?_
      rintro e w4 ⟨k, rfl, k0, k1, g4, S4⟩
      have L4 := L3.next g4 S4
      clear L3 g4 S4
      obtain ⟨k, rfl⟩ := Int.eq_ofNat_of_zero_le k0
      have hk : k ≤ G.n := by omega
      have hnc := L4.own.nc
      have LT := L4.take hk
      clear L4 k0 k1
      go_wp2
      go_ret
      exact ⟨_, _, rfl, by simp only; omega, LT⟩
    · have f0 : (r == 0) = false := by simpa using hr0
      have f1 : (r == 1) = false := by simpa using hr1
      clear hr0 hr1
      go_wp2
      go_ret
      exact ⟨G, ys, rfl, by omega, L3⟩
end Go.Proofs.Ytlgmdekhlcbhoaa
