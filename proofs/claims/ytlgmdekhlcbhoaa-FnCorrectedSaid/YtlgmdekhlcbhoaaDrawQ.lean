/- The reference's draws of received bits, and of what the laws on decoding take. Condition: a code of at most 4096 bytes. -/
import Derived.Test.YtlgmdekhlcbhoaaDrawP
namespace Go.Proofs.Ytlgmdekhlcbhoaa
open Go.RowKit

theorem rd_three' (w : World) (x y z : Int) (e : TypeId) : Rd (w.alloc (.cells #[.int .i64 x, .int .i64 y, .int .i64 z] e)) (some ⟨w.heap.size, 0, none⟩) 3 (ints [x, y, z]) :=
  (Blk.new w e #[.int .i64 x, .int .i64 y, .int .i64 z]).rd rfl (fun i hi => by
    match i, hi with
    | 0, _ => rfl
    | 1, _ => rfl
    | 2, _ => rfl)
set_option maxRecDepth 100000 in
set_option maxHeartbeats 4000000 in
theorem l28Draw_any (L g : Nat) (w : World) (S : Src w L g) :
    Calls Try.prog 125 #[.pointer (some ⟨g, 0, none⟩)] w (DrawPost L g 606 w) := by
  have L0 := Lst.start S 2
  have hmk : ∀ W : World, (Instr.makeSlice 22 (.int .i64 300) (.int .i64 300)).run Try.prog W = .ok (.slice (some ⟨W.heap.size, 0, none⟩) 300 300) (W.alloc (.cells (madeCells #[.int .i64 0] 300) 2)) := fun W => run_make_int64 300 (by decide) W
  have hmk4 : ∀ W : World, (Instr.makeSlice 22 (.int .i64 604) (.int .i64 604)).run Try.prog W = .ok (.slice (some ⟨W.heap.size, 0, none⟩) 604 604) (W.alloc (.cells (madeCells #[.int .i64 0] 604) 2)) := fun W => run_make_int64 604 (by decide) W
  have hmk6 : ∀ W : World, (Instr.makeSlice 22 (.int .i64 606) (.int .i64 606)).run Try.prog W = .ok (.slice (some ⟨W.heap.size, 0, none⟩) 606 606) (W.alloc (.cells (madeCells #[.int .i64 0] 606) 2)) := fun W => run_make_int64 606 (by decide) W
  have HK := Lib.hid hmk
  have HK4 := Lib.hid hmk4
  have HK6 := Lib.hid hmk6
  clear hmk hmk4 hmk6
  go_enter Try.func125, Try.ntmps125
  go_wp2_with fail
  generalize w.alloc (.cells #[] 2) = w0 at L0 ⊢
  generalize hh0 : (⟨some ⟨w.heap.size, 0, none⟩, 0, 0⟩ : Hd) = h0 at L0
  refine (l01Next_any L g 14 _ L0.src (by decide)).mono ?_
  rintro e w1 ⟨q, rfl, q0, q1, g1, S1⟩
  have L1 := L0.next g1 S1
  obtain ⟨q, rfl⟩ := Int.eq_ofNat_of_zero_le q0
  subst hh0
  go_wp2_with fail
  go_loopw [3, 4] (fun v i wr => ∃ (h : Hd) (xs : List Int) (k : Nat), v = .slice h.A h.n h.c ∧ i = .int .i64 k ∧ h.n + k ≤ 13 ∧ allIn xs 0 1 = true ∧ Lst w wr L g h xs) (fun _ i _ => (intOf i).toNat)
  case atStart => exact ⟨_, [], q, rfl, rfl, by simp only; omega, rfl, L1⟩
  case round =>
    clear L0 L1 S1 g1 S
    obtain ⟨h, xs, k, rfl, rfl, hk, HB0, Lx⟩ := hrel
    have HB := Lib.hid HB0
    clear HB0
    by_cases hk0 : 0 < (k : Int)
    · go_wp2_with fail
      refine (l01Next_any L g 2 _ Lx.src (by decide)).mono ?_
      rintro e w2 ⟨x, rfl, x0, x1, g2, S2⟩
      have L2 := Lx.next g2 S2
      clear Lx g2 S2
      have HX := Lib.hid (bits_snoc HB.out x0 x1)
      clear x0 x1
      go_wp2_with (at_builtin; refine wpList_push rfl _ _ rfl w L g h xs [x] (L2.alloc _) rfl _ 1 1 rfl (rd_one _ _ _) (by omega) ?_; intro G wg hGn LG)
      clear L2
      have hGn' := Lib.hid hGn
      clear hGn
      go_roundw
      case rel => exact ⟨G, xs ++ [x], k - 1, by rw [hGn'.out], by congr 1; omega, by have := hGn'.out; omega, HX.out, LG⟩
      case measure => simp [intOf]; omega
    · have hn13 : h.n ≤ 13 := by omega
      clear hk
      go_wp2_with fail
      refine (l01Next_any L g 40 _ Lx.src (by decide)).mono ?_
      rintro e w2 ⟨r, rfl, -, -, g2, S2⟩
      have L2 := Lx.next g2 S2
      clear Lx g2 S2
      go_upto_if 22 with fail
      go_cut [3] (fun v wx => ∃ (h : Hd) (xs : List Int), v = .slice h.A h.n h.c ∧ h.n ≤ 300 ∧ allIn xs 0 1 = true ∧ Lst w wx L g h xs)
      case first =>
        have hmk := HK.out
        by_cases hr0 : r = 0
        · subst hr0
          have LM := L2.made (n := 300) (by decide) 2
          go_wp2_with fail
          go_meet
          exact ⟨⟨some ⟨w2.heap.size, 0, none⟩, 300, 300⟩, _, rfl, Nat.le_refl _, bits_zeros 300, LM⟩
        · have f0 : (r == 0) = false := by simpa using hr0
          clear hr0
          go_wp2_with fail
          go_meet
          exact ⟨h, xs, rfl, by omega, HB.out, L2⟩
      case rest =>
        clear L2 hn13 hk0 HB
        obtain ⟨h, xs, rfl, hn3, HB0, L2⟩ := hcut
        obtain ⟨w3, rfl⟩ : ∃ x : World, x = wc := ⟨_, rfl⟩
        have HB := Lib.hid HB0
        clear HB0
        go_wp2_with fail
        refine (l27Encode_any h.A h.n h.c xs _ (by omega) L2.own.rd1 HB.out).mono ?_
        rintro e w4 ⟨v, rfl, hown, b4⟩
        obtain ⟨G, rfl, hG, L4⟩ := L2.fresh b4 hown
        have hG4 : 4 ≤ G.n ∧ G.n ≤ 604 := by omega
        clear hown b4 L2 HB hG
        generalize enc xs = ys at *
        go_wp2_with fail
        refine (l01Next_any L g 6 _ L4.src (by decide)).mono ?_
        rintro e w5 ⟨q2, rfl, q20, q21, g5, S5⟩
        have L5 := L4.next g5 S5
        clear L4 g5 S5
        obtain ⟨q2, rfl⟩ := Int.eq_ofNat_of_zero_le q20
        go_wp2_with fail
        go_loopw [6] (fun i wr => ∃ (xs : List Int) (j : Nat), i = .int .i64 j ∧ j ≤ 5 ∧ Lst w wr L g G xs) (fun i _ => (intOf i).toNat)
        case atStart => exact ⟨_, q2, rfl, by omega, L5⟩
        case round =>
          clear L5 q20 q21
          obtain ⟨xs, j, rfl, hj5, Lx⟩ := hrel
          by_cases hj0 : 0 < (j : Int)
          · go_wp2_with fail
            refine (l01Next_any L g _ _ Lx.src (by omega)).mono ?_
            rintro e w6 ⟨t, rfl, t0, t1, g6, S6⟩
            have L6 := Lx.next g6 S6
            clear Lx g6 S6
            obtain ⟨t, rfl⟩ := Int.eq_ofNat_of_zero_le t0
            have ht : t < G.n := by omega
            clear t0 t1
            go_wp2_with fail
            refine (l01Next_any L g 3 _ L6.src (by decide)).mono ?_
            rintro e w7 ⟨x, rfl, -, -, g7, S7⟩
            have L7 := L6.next g7 S7
            clear L6 g7 S7
            obtain ⟨ad, hA, hx, hf⟩ := L7.own.cell ht
            have hL := fun v => Lib.hid (L7.set_ ht hA v)
            obtain ⟨GA, Gn, Gc⟩ := G
            simp only at *
            subst hA
            clear L7
            generalize xs.getD t 0 = y at *
            go_wp2
            go_roundw
            case rel => exact ⟨_, j - 1, by congr 1; omega, by omega, (hL _).out⟩
            case measure => simp [intOf]; omega
          · clear hj5
            go_wp2_with fail
            refine (l01Next_any L g 12 _ Lx.src (by decide)).mono ?_
            rintro e w6 ⟨r, rfl, -, -, g6, S6⟩
            have L6 := Lx.next g6 S6
            clear Lx g6 S6
            go_upto_if 42 with fail
            go_cut [] (fun wx => ∃ xs : List Int, Lst w wx L g G xs)
            case first =>
              by_cases hr0 : r = 0
              · subst hr0
                go_wp2_with fail
                go_loopw [7] (fun i wr => ∃ (xs : List Int) (j : Nat), i = .int .i64 j ∧ j ≤ G.n ∧ Lst w wr L g G xs) (fun i _ => G.n - (intOf i).toNat)
                case atStart => exact ⟨_, 0, rfl, Nat.zero_le _, L6⟩
                case round =>
                  clear L6
                  obtain ⟨xs, j, rfl, hjn, Lx⟩ := hrel
                  by_cases hlt : j < G.n
                  · go_wp2_with fail
                    refine (l01Pick_any L g _ 3 3 [0, 1, 2] _ (Lx.alloc _).src (rd_three' _ _ _ _ _) (by decide) (by decide) (fun ad e => by cases e; have := Lx.src.lt; simp only; omega)).mono ?_
                    rintro e w7 ⟨x, -, rfl, g7, S7⟩
                    have L7 := (Lx.alloc (.cells #[.int .i64 0, .int .i64 1, .int .i64 2] 2)).next g7 S7
                    clear Lx g7 S7
                    obtain ⟨ad, hA, hx, hf⟩ := L7.own.cell hlt
                    have hL := fun v => Lib.hid (L7.set_ hlt hA v)
                    obtain ⟨GA, Gn, Gc⟩ := G
                    simp only at *
                    subst hA
                    clear L7
                    generalize xs.getD j 0 = y at *
                    go_wp2
                    go_roundw
                    case rel => exact ⟨_, j + 1, by go_num, by omega, (hL _).out⟩
                    case measure => simp [intOf]; omega
                  · obtain rfl : j = G.n := by omega
                    go_wp2_with fail
                    go_meet
                    exact ⟨xs, Lx⟩
              · have f0 : (r == 0) = false := by simpa using hr0
                clear hr0
                go_wp2_with fail
                go_meet
                exact ⟨_, L6⟩
            case rest =>
              clear L6 hj0
              obtain ⟨xs, L6⟩ := hcut
              obtain ⟨w7, rfl⟩ : ∃ x : World, x = wc := ⟨_, rfl⟩
              have hnc := L6.own.nc
              go_wp2_with fail
              refine (l01Next_any L g 24 _ L6.src (by decide)).mono ?_
              rintro e w8 ⟨r, rfl, -, -, g8, S8⟩
              have L8 := L6.next g8 S8
              clear L6 g8 S8
              by_cases hr0 : r = 0
              · subst hr0
                have LT := L8.tl (by omega)
                have HT : Hid (G.tl 1 = ⟨G.A.map (·.add 1), G.n - 1, G.c - 1⟩) := by unfold Hid Hd.tl; rw [if_neg (by omega)]
                obtain ⟨ad, hA, -, -⟩ := L8.own.cell (show 0 < G.n by omega)
                obtain ⟨GA, Gn, Gc⟩ := G
                simp only at *
                subst hA
                rw [HT.out] at LT
                simp only [Option.map_some] at LT
                clear L8 HT
                have i1 : (1 : Int) ≤ (Gn : Int) := by omega
                have i2 : (1 : Int) ≤ (Gc : Int) := by omega
                go_wp2
                go_ret
                exact ⟨_, _, rfl, by simp only; omega, LT⟩
              · by_cases hr1 : r = 1
                · subst hr1
                  go_wp2_with fail
                  refine (l01Pick_any L g _ 2 2 [-1, 3] _ (L8.alloc _).src (rd_two' _ _ _ _) (by decide) (by decide) (fun ad e => by cases e; have := L8.src.lt; simp only; omega)).mono ?_
                  rintro e w9 ⟨x, -, rfl, g9, S9⟩
                  have L9 := (L8.alloc (.cells #[.int .i64 (-1), .int .i64 3] 2)).next g9 S9
                  clear L8 g9 S9
                  obtain ⟨ad, hA, hx, hf⟩ := L9.own.cell (show 0 < G.n by omega)
                  have hL := fun v => Lib.hid (L9.set_ (show 0 < G.n by omega) hA v)
                  obtain ⟨GA, Gn, Gc⟩ := G
                  simp only at *
                  subst hA
                  clear L9
                  have i1 : (0 : Int) < (Gn : Int) := by omega
                  have i2 : 0 < Gn := by omega
                  rw [Addr.add_zero'] at hx hf
                  simp only [Addr.add_zero'] at hL
                  generalize xs.getD 0 0 = y at *
                  go_wp2
                  go_ret
                  exact ⟨⟨some ad, Gn, Gc⟩, _, rfl, by simp only; omega, (hL _).out⟩
                · by_cases hr2 : r = 2
                  · subst hr2
                    go_wp2_with fail
                    refine (l01Next_any L g 5 _ L8.src (by decide)).mono ?_
                    rintro e w9 ⟨k, rfl, k0, k1, g9, S9⟩
                    have L9 := L8.next g9 S9
                    clear L8 g9 S9
                    obtain ⟨k, rfl⟩ := Int.eq_ofNat_of_zero_le k0
                    have hk : k ≤ G.n := by omega
                    have LT := L9.take hk
                    clear L9 k0 k1
                    go_wp2
                    go_ret
                    exact ⟨_, _, rfl, by simp only; omega, LT⟩
                  · by_cases hr3 : r = 3
                    · subst hr3
                      go_wp2_with fail
                      refine (l01Next_any L g 2 _ L8.src (by decide)).mono ?_
                      rintro e w9 ⟨y, rfl, y0, y1, g9, S9⟩
                      have L9 := L8.next g9 S9
                      clear L8 g9 S9
                      rcases (show y = 0 ∨ y = 1 by omega) with rfl | rfl
                      · have hmk4 := HK4.out
                        have LM := L9.made (n := 604) (by decide) 2
                        go_wp2
                        go_ret
                        exact ⟨⟨some ⟨w9.heap.size, 0, none⟩, 604, 604⟩, _, rfl, by show 604 ≤ 606; decide, LM⟩
                      · have hmk6 := HK6.out
                        have LM := L9.made (n := 606) (by decide) 2
                        go_wp2
                        go_ret
                        exact ⟨⟨some ⟨w9.heap.size, 0, none⟩, 606, 606⟩, _, rfl, Nat.le_refl _, LM⟩
                    · have f0 : (r == 0) = false := by simpa using hr0
                      have f1 : (r == 1) = false := by simpa using hr1
                      have f2 : (r == 2) = false := by simpa using hr2
                      have f3 : (r == 3) = false := by simpa using hr3
                      clear hr0 hr1 hr2 hr3
                      go_wp2
                      go_ret
                      exact ⟨G, xs, rfl, by omega, L8⟩
set_option maxHeartbeats 1000000 in
theorem drawDecodeBits_any (A : Option Addr) (n c : Nat) (bs : List Int) (w : World) (r : Rd w A n (byteV bs)) (hx : ∀ x ∈ bs, 0 ≤ x ∧ x ≤ 255) (hn : n ≤ 4096) :
    Calls Try.prog 73 #[.slice A n c] w (DrawnI 606 w) := by
  go_enter Try.func73, Try.ntmps73
  go_wp2_with fail
  refine (l01From_any A n c bs _ r hx hn).mono ?_
  rintro e w1 ⟨g, rfl, S1, b1⟩
  go_wp2_with fail
  refine (l28Draw_any _ g _ S1).mono ?_
  rintro e w2 ⟨h, xs, rfl, hh, L2⟩
  go_wp2
  go_ret
  exact ⟨h, xs, rfl, hh, L2.ret b1 S1.lt.2⟩
set_option maxHeartbeats 1000000 in
theorem drawNearestCode_any (A : Option Addr) (n c : Nat) (bs : List Int) (w : World) (r : Rd w A n (byteV bs)) (hx : ∀ x ∈ bs, 0 ≤ x ∧ x ≤ 255) (hn : n ≤ 4096) :
    Calls Try.prog 84 #[.slice A n c] w (DrawnI 606 w) := by
  go_enter Try.func84, Try.ntmps84
  go_wp2_with fail
  refine (l01From_any A n c bs _ r hx hn).mono ?_
  rintro e w1 ⟨g, rfl, S1, b1⟩
  go_wp2_with fail
  refine (l28Draw_any _ g _ S1).mono ?_
  rintro e w2 ⟨h, xs, rfl, hh, L2⟩
  go_wp2
  go_ret
  exact ⟨h, xs, rfl, hh, L2.ret b1 S1.lt.2⟩
set_option maxHeartbeats 1000000 in
theorem drawCountNearest_any (A : Option Addr) (n c : Nat) (bs : List Int) (w : World) (r : Rd w A n (byteV bs)) (hx : ∀ x ∈ bs, 0 ≤ x ∧ x ≤ 255) (hn : n ≤ 4096) :
    Calls Try.prog 55 #[.slice A n c] w (DrawnI 606 w) := by
  go_enter Try.func55, Try.ntmps55
  go_wp2_with fail
  refine (l01From_any A n c bs _ r hx hn).mono ?_
  rintro e w1 ⟨g, rfl, S1, b1⟩
  go_wp2_with fail
  refine (l28Draw_any _ g _ S1).mono ?_
  rintro e w2 ⟨h, xs, rfl, hh, L2⟩
  go_wp2
  go_ret
  exact ⟨h, xs, rfl, hh, L2.ret b1 S1.lt.2⟩
set_option maxHeartbeats 1000000 in
theorem drawStateErrors_any (A : Option Addr) (n c : Nat) (bs : List Int) (w : World) (r : Rd w A n (byteV bs)) (hx : ∀ x ∈ bs, 0 ≤ x ∧ x ≤ 255) (hn : n ≤ 4096) :
    Calls Try.prog 81 #[.slice A n c] w (DrawnII 606 (-1) 606 w) := by
  go_enter Try.func81, Try.ntmps81
  go_wp2_with fail
  refine (l01From_any A n c bs _ r hx hn).mono ?_
  rintro e w1 ⟨g, rfl, S1, b1⟩
  go_wp2_with fail
  refine (l28Draw_any _ g _ S1).mono ?_
  rintro e w2 ⟨h, xs, rfl, hh, L2⟩
  have q0 : ((h.n : Int)).tdiv 2 = (h.n : Int) / 2 := Int.tdiv_eq_ediv_of_nonneg (by omega)
  have hmm : 1 ≤ (if 1 < (h.n : Int) / 2 then (h.n : Int) / 2 else 1) ∧ (if 1 < (h.n : Int) / 2 then (h.n : Int) / 2 else 1) ≤ 303 := by split <;> omega
  by_cases hmx : 1 < (h.n : Int) / 2
  all_goals
    go_wp2_with fail
    refine (l01Next_any _ g _ _ L2.src (by omega)).mono ?_
    rintro e w4 ⟨x, rfl, x0, x1, g4, S4⟩
    have L4 := L2.next g4 S4
    clear L2 g4 S4
    go_wp2_with fail
    refine (l01Next_any _ g 20 _ L4.src (by decide)).mono ?_
    rintro e w5 ⟨y, rfl, y0, y1, g5, S5⟩
    have L5 := L4.next g5 S5
    clear L4 g5 S5
    have q2 : y.tdiv 19 = y / 19 := Int.tdiv_eq_ediv_of_nonneg y0
    go_wp2
    go_ret2
    exact ⟨h, xs, _, rfl, hh, by omega, by omega, L5.ret b1 S1.lt.2⟩
/-- Two lists were drawn. -/
def DrawnLL (most most2 : Nat) (w : World) (e : Ending) (w' : World) : Prop :=
  ∃ (h : Hd) (xs : List Int) (k : Hd) (ys : List Int), e = .returned (.tuple #[.slice h.A h.n h.c, .slice k.A k.n k.c]) ∧ h.n ≤ most ∧ k.n ≤ most2 ∧ Own w' w.heap.size 1 h (ints xs) ∧ Own w' w.heap.size 1 k (ints ys) ∧ Below w.heap.size w w'
set_option maxRecDepth 100000 in
set_option maxHeartbeats 2000000 in
theorem drawErrorsOf_any (A : Option Addr) (n c : Nat) (bs : List Int) (w : World) (r : Rd w A n (byteV bs)) (hx : ∀ x ∈ bs, 0 ≤ x ∧ x ≤ 255) (hn : n ≤ 4096) :
    Calls Try.prog 77 #[.slice A n c] w (DrawnLL 606 301 w) := by
  go_enter Try.func77, Try.ntmps77
  go_wp2_with fail
  refine (l01From_any A n c bs _ r hx hn).mono ?_
  rintro e w1 ⟨g, rfl, S1, b1⟩
  have hge := S1.lt.2
  go_wp2_with fail
  refine (l28Draw_any _ g _ S1).mono ?_
  rintro e w2 ⟨h, xs, rfl, hh, L2⟩
  have fin : ∀ (wr : World) (W : World) (k : Hd) (ys : List Int), Lst w1 wr w.heap.size g h xs → Lst wr W w.heap.size g k ys → Own W w.heap.size 1 h (ints xs) ∧ Own W w.heap.size 1 k (ints ys) ∧ Below w.heap.size w W := fun wr W k ys a b => by
    have hsz := b1.size
    have h1 := a.own.grown b.gr (fun x e c => by have := (a.own.rowlt x e).1; have := a.lt; injection c with c; omega)
    have hb := bstepg (a.ret b1 hge).2 b.gr (Nat.le_refl _) (fun k e => by injection e with e; omega)
    exact ⟨h1.mono hsz, b.own.mono (Nat.le_trans hsz a.gr.size), hb⟩
  have other : ∀ (wr : World), Lst w1 wr w.heap.size g h xs → Calls Try.prog 122 #[.pointer (some ⟨g, 0, none⟩)] wr (DrawPost w.heap.size g 301 wr) := fun wr a => l27DrawMessage_any _ g _ a.src
  rcases Bool.eq_false_or_eq_true (recvOk xs) with hrc | hrc
  case inr =>
    go_wp2_with (go_at_call 128; refine (l28Received_any _ _ _ xs _ (by omega) L2.own.rd1).mono ?_; rintro e w' ⟨rfl, rfl⟩)
    refine (other _ L2).mono ?_
    rintro e w3 ⟨k, ys, rfl, hk, L3⟩
    go_wp2
    go_ret2
    exact ⟨h, xs, k, ys, rfl, hh, hk, fin _ _ _ _ L2 L3⟩
  have hrt := recvOk_true hrc
  have hln := L2.own.rd1.len
  have hh4 : 4 ≤ h.n ∧ h.n ≤ 604 := by omega
  clear hrt hln
  go_wp2_with (go_at_call 128; refine (l28Received_any _ _ _ xs _ (by omega) L2.own.rd1).mono ?_; rintro e w' ⟨rfl, rfl⟩)
  refine (l01Next_any _ g 12 _ L2.src (by decide)).mono ?_
  rintro e w3 ⟨x, rfl, x0, x1, g3, S3⟩
  have L3 := L2.next g3 S3
  clear L2 g3 S3
  by_cases hx0 : 0 < x
  case neg =>
    go_wp2_with fail
    refine (other _ L3).mono ?_
    rintro e w4 ⟨k, ys, rfl, hk, L4⟩
    go_wp2
    go_ret2
    exact ⟨h, xs, k, ys, rfl, hh, hk, fin _ _ _ _ L3 L4⟩
  have M0 := Lst.start L3.src 2
  go_wp2_with fail
  generalize w3.alloc (.cells #[] 2) = w4 at M0 ⊢
  generalize hh0 : (⟨some ⟨w3.heap.size, 0, none⟩, 0, 0⟩ : Hd) = h0 at M0
  obtain ⟨hA0, hn0, hc0⟩ := h0
  injection hh0 with e1 e2 e3
  subst e1 e2 e3
  go_loopw [6, 7] (fun v i wr => ∃ (k : Hd) (ys : List Int) (j : Nat), v = .slice k.A k.n k.c ∧ i = .int .i64 j ∧ k.n = j ∧ (j : Int) ≤ (h.n : Int) / 2 - 2 ∧ Lst w3 wr w.heap.size g k ys) (fun _ i _ => h.n - (intOf i).toNat)
  case atStart => exact ⟨_, [], 0, rfl, rfl, rfl, by omega, M0⟩
  case round =>
    clear M0
    obtain ⟨k, ys, j, rfl, rfl, hkj, hjn, Lx⟩ := hrel
    have HJ := Lib.hid hkj
    clear hkj
    by_cases hlt : (j : Int) < (h.n : Int) / 2 - 2
    · go_wp2_with (go_at_call 138; refine (l28Size_any _ _ _ _ (by omega)).mono ?_; rintro e w' ⟨rfl, rfl⟩)
      refine (l01Next_any _ g 2 _ Lx.src (by decide)).mono ?_
      rintro e w5 ⟨x, rfl, -, -, g5, S5⟩
      have L5 := Lx.next g5 S5
      clear Lx g5 S5
      go_wp2_with (at_builtin; refine wpList_push rfl _ _ rfl w3 _ g k ys [x] (L5.alloc _) rfl _ 1 1 rfl (rd_one _ _ _) (by have := HJ.out; omega) ?_; intro G wg hGn LG)
      clear L5
      have hGn' := Lib.hid hGn
      clear hGn
      go_roundw
      case rel => exact ⟨G, ys ++ [x], j + 1, by rw [hGn'.out], by go_num, by rw [hGn'.out, HJ.out], by omega, LG⟩
      case measure => simp [intOf]; omega
    · go_wp2_with (go_at_call 138; refine (l28Size_any _ _ _ _ (by omega)).mono ?_; rintro e w' ⟨rfl, rfl⟩)
      go_ret2
      exact ⟨h, xs, k, ys, rfl, hh, by have := HJ.out; omega, fin _ _ _ _ L3 Lx⟩
end Go.Proofs.Ytlgmdekhlcbhoaa
