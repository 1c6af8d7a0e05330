/- The reference's draws of links: items and steps. Condition: a source whose code has at most 4096 bytes. -/
import Derived.Test.YtfankajbddmdaaaDraw
import Derived.Test.YtfankajbddmdaaaOwnLink
namespace Go.Proofs.Ytfankajbddmdaaa
open Go.RowKit

/-- A list of the call's own, while numbers are drawn. -/
structure Lst (w wr : World) (L g : Nat) (h : Hd) (xs : List Int) : Prop where
  own : Own wr w.heap.size 1 h (ints xs)
  gr : w.grownBy wr (some g)
  src : Src wr L g
  lt : g < w.heap.size
section
variable {w wr w1 : World} {L g : Nat} {h : Hd} {xs : List Int}
theorem Lst.next (s : Lst w wr L g h xs) (k : wr.grownBy w1 (some g)) (S1 : Src w1 L g) : Lst w w1 L g h xs :=
  ⟨s.own.grown k (fun b e c => by have := (s.own.rowlt b e).1; have := s.lt; injection c with c; omega), grown_trans s.gr k, S1, s.lt⟩
theorem Lst.alloc (s : Lst w wr L g h xs) (ob : Obj) : Lst w (wr.alloc ob) L g h xs :=
  have b : Below wr.heap.size wr (wr.alloc ob) := (Below.refl _ _).alloc (Nat.le_refl _) ob
  ⟨s.own.below b, grown_trans s.gr (grown_of_below b), s.src.below b, s.lt⟩
theorem Lst.app {G : Hd} {us : List Value} (s : Lst w wr L g h xs) {ys : List Int} (HG : Own w1 w.heap.size 1 G us) (hu : us = ints (xs ++ ys)) (gg : wr.grownBy w1 h.row) : Lst w w1 L g G (xs ++ ys) :=
  ⟨hu ▸ HG, grown_up s.gr gg (fun x e => .inl (s.own.rowlt x e).1), s.src.grown gg (fun b e => by
    have := (s.own.rowlt b e).1; have := s.lt; have := s.src.lt
    exact ⟨by omega, by omega⟩), s.lt⟩
theorem Lst.start (S : Src w L g) (e : TypeId) : Lst w (w.alloc (.cells #[] e)) L g ⟨some ⟨w.heap.size, 0, none⟩, 0, 0⟩ [] :=
  have b : Below w.heap.size w (w.alloc (.cells #[] e)) := (Below.refl _ _).alloc (Nat.le_refl _) _
  ⟨Own.empty _ _ _ _, grown_of_below b, S.below b, S.lt.1⟩
end
theorem wpList_push {ops : Array Oper} {rest : List Oper} {o : Oper} {a : Act} {Q : Exit → Act → World → Prop} {W : World} (hgd : o.guard = none) (s x : Operand)
    (ho : o.op = .call { callee := .builtin .append, args := #[s, x], argTypes := #[22, 22] })
    (w : World) (L g : Nat) (h : Hd) (xs ys : List Int) (Lx : Lst w W L g h xs) (hs : a.eval s = .slice h.A h.n h.c) (A : Option Addr) (m c : Nat) (hx : a.eval x = .slice A m c) (hr : Rd W A m (ints ys)) (hn : h.n + m ≤ 1099511627776)
    (K : ∀ G wg, G.n = h.n + m → Lst w wg L g G (xs ++ ys) → wpList Try.prog ops Q rest (a.put o.dst (.slice G.A G.n G.c)) wg) : wpList Try.prog ops Q (o :: rest) a W :=
  wpList_append_Own hgd s x 22 ho 2 1 8 Try.underlying22 Int64_info (by decide) w.heap.size h (ints xs) hs Lx.own A m c (ints ys) hx (by rw [Nat.mul_one]; exact hr) (oneCell_ints _) hn (by decide) (Nat.le_trans (Nat.le_refl _) Lx.gr.size) fun G wg hGn HG gg _ =>
    K G wg hGn (Lx.app HG (by rw [ints_append]) gg)
def DrawPost (L g most : Nat) (w : World) (e : Ending) (w' : World) : Prop :=
  ∃ (h : Hd) (xs : List Int), e = .returned (.slice h.A h.n h.c) ∧ h.n ≤ most ∧ Lst w w' L g h xs
def lenOf : Value → Nat
  | .slice _ n _ => n
  | _ => 0
theorem rd_two' (w : World) (x y : Int) (e : TypeId) : Rd (w.alloc (.cells #[.int .i64 x, .int .i64 y] e)) (some ⟨w.heap.size, 0, none⟩) 2 (ints [x, y]) :=
  (Blk.new w e #[.int .i64 x, .int .i64 y]).rd rfl (fun i hi => by
    match i, hi with
    | 0, _ => rfl
    | 1, _ => rfl)

set_option maxRecDepth 100000 in
set_option maxHeartbeats 2000000 in
theorem l29DrawItems_any (L g : Nat) (w : World) (S : Src w L g) :
    Calls Try.prog 68 #[.pointer (some ⟨g, 0, none⟩)] w (DrawPost L g 21 w) := by
  have L0 := Lst.start S 2
  go_enter Try.func68, Try.ntmps68
  go_wp2_with fail
  generalize w.alloc (.cells #[] 2) = w0 at L0 ⊢
  generalize hh0 : (⟨some ⟨w.heap.size, 0, none⟩, 0, 0⟩ : Hd) = h0 at L0
  refine (l01Next_any L g 9 _ L0.src (by decide)).mono ?_
  rintro e w1 ⟨q, rfl, q0, q1, g1, S1⟩
  have L1 := L0.next g1 S1
  obtain ⟨q, rfl⟩ := Int.eq_ofNat_of_zero_le q0
  subst hh0
  go_wp2_with fail
  go_loopw [3, 4] (fun v i wr => ∃ (h : Hd) (xs : List Int) (k : Nat), v = .slice h.A h.n h.c ∧ i = .int .i64 k ∧ h.n + k ≤ 8 ∧ Lst w wr L g h xs) (fun _ i _ => (intOf i).toNat)
  case atStart => exact ⟨_, [], q, rfl, rfl, by simp only; omega, L1⟩
  case round =>
    clear L0 L1 S1 g1 S
    obtain ⟨h, xs, k, rfl, rfl, hk, Lx⟩ := hrel
    by_cases hk0 : 0 < (k : Int)
    · go_wp2_with fail
      refine (l01Next_any L g 256 _ Lx.src (by decide)).mono ?_
      rintro e w2 ⟨x, rfl, -, -, g2, S2⟩
      have L2 := Lx.next g2 S2
      clear Lx g2 S2
      go_wp2_with (at_builtin; refine wpList_push rfl _ _ rfl w L g h xs [x] (L2.alloc _) rfl _ 1 1 rfl (rd_one _ _ _) (by omega) ?_; intro G wg hGn LG)
      clear L2
      have hGn' := Lib.hid hGn
      clear hGn
      go_roundw
      case rel => exact ⟨G, xs ++ [x], k - 1, by rw [hGn'.out], by congr 1; omega, by have := hGn'.out; omega, LG⟩
      case measure => simp [intOf]; omega
    · go_wp2_with fail
      refine (l01Next_any L g 30 _ Lx.src (by decide)).mono ?_
      rintro e w2 ⟨r, rfl, -, -, g2, S2⟩
      have L2 := Lx.next g2 S2
      clear Lx g2 S2
      by_cases hr0 : r = 0
      · subst hr0
        go_wp2_with fail
        refine (l01Pick_any L g _ 2 2 [-1, 256] _ (L2.alloc _).src (rd_two' _ _ _ _) (by decide) (by decide) (fun ad e => by cases e; have := L2.src.lt; simp only; omega)).mono ?_
        rintro e w3 ⟨x, -, rfl, g3, S3⟩
        have L3 := (L2.alloc (.cells #[.int .i64 (-1), .int .i64 256] 2)).next g3 S3
        clear L2 g3 S3
        go_wp2_with (at_builtin; refine wpList_push rfl _ _ rfl w L g h xs [x] (L3.alloc _) rfl _ 1 1 rfl (rd_one _ _ _) (by omega) ?_; intro G wg hGn LG)
        have hGn' := Lib.hid hGn
        clear hGn
        go_ret
        exact ⟨G, xs ++ [x], by show Ending.returned (Value.slice G.A (h.n + 1) G.c) = _; rw [hGn'.out], by have := hGn'.out; omega, LG⟩
      · by_cases hr1 : r = 1
        · subst hr1
          go_wp2
          go_loopw [3] (fun v wr => ∃ (h : Hd) (xs : List Int), v = .slice h.A h.n h.c ∧ h.n ≤ 21 ∧ Lst w wr L g h xs) (fun v _ => 21 - lenOf v)
          case atStart => exact ⟨h, xs, rfl, by omega, L2⟩
          case round =>
            clear L2
            obtain ⟨h, xs, rfl, hk, Lx⟩ := hrel
            go_wp2_with fail
            refine (l01Next_any L g 2 _ Lx.src (by decide)).mono ?_
            rintro e w3 ⟨y, rfl, y0, y1, g3, S3⟩
            have L3 := Lx.next g3 S3
            clear Lx g3 S3
            by_cases hlt : (h.n : Int) < 20 + y
            · go_wp2_with fail
              refine (l01Next_any L g 3 _ L3.src (by decide)).mono ?_
              rintro e w4 ⟨x, rfl, -, -, g4, S4⟩
              have L4 := L3.next g4 S4
              clear L3 g4 S4
              go_wp2_with (at_builtin; refine wpList_push rfl _ _ rfl w L g h xs [x] (L4.alloc _) rfl _ 1 1 rfl (rd_one _ _ _) (by omega) ?_; intro G wg hGn LG)
              have hGn' := Lib.hid hGn
              clear hGn L4
              go_roundw
              case rel => exact ⟨G, xs ++ [x], by rw [hGn'.out], by have := hGn'.out; omega, LG⟩
              case measure => have := hGn'.out; simp [lenOf]; omega
            · go_wp2
              go_ret
              exact ⟨h, xs, rfl, hk, L3⟩
        · have f0 : (r == 0) = false := by simpa using hr0
          have f1 : (r == 1) = false := by simpa using hr1
          clear hr0 hr1
          go_wp2
          go_ret
          exact ⟨h, xs, rfl, by omega, L2⟩
theorem rd_cells (w : World) (xs : List Int) (e : TypeId) : Rd (w.alloc (.cells (ints xs).toArray e)) (some ⟨w.heap.size, 0, none⟩) xs.length (ints xs) :=
  (Blk.new w e (ints xs).toArray).rd (by unfold ints; simp) (fun i _ => by simp)
set_option maxRecDepth 100000 in
set_option maxHeartbeats 4000000 in
theorem l29DrawKinds_any (L g : Nat) (w : World) (S : Src w L g) :
    Calls Try.prog 69 #[.pointer (some ⟨g, 0, none⟩)] w (DrawPost L g 500 w) := by
  have L0 := Lst.start S 2
  go_enter Try.func69, Try.ntmps69
  go_wp2_with fail
  generalize w.alloc (.cells #[] 2) = w0 at L0 ⊢
  generalize hh0 : (⟨some ⟨w.heap.size, 0, none⟩, 0, 0⟩ : Hd) = h0 at L0
  refine (l01Next_any L g 50 _ L0.src (by decide)).mono ?_
  rintro e w1 ⟨q, rfl, q0, q1, g1, S1⟩
  have L1 := L0.next g1 S1
  obtain ⟨q, rfl⟩ := Int.eq_ofNat_of_zero_le q0
  subst hh0
  go_wp2_with fail
  go_loopw [3, 4] (fun v i wr => ∃ (h : Hd) (xs : List Int) (k : Nat), v = .slice h.A h.n h.c ∧ i = .int .i64 k ∧ h.n + k ≤ 49 ∧ Lst w wr L g h xs) (fun _ i _ => (intOf i).toNat)
  case atStart => exact ⟨_, [], q, rfl, rfl, by simp only; omega, L1⟩
  case round =>
    clear L0 L1 S1 g1 S
    obtain ⟨h, xs, k, rfl, rfl, hk, Lx⟩ := hrel
    by_cases hk0 : 0 < (k : Int)
    · go_wp2_with fail
      refine (l01Pick_any L g _ 12 12 [0, 0, 0, 0, 1, 1, 1, 3, 3, 2, 4, 5] _ (Lx.alloc _).src (rd_cells _ [0, 0, 0, 0, 1, 1, 1, 3, 3, 2, 4, 5] _) (by decide) (by decide) (fun ad e => by cases e; have := Lx.src.lt; simp only; omega)).mono ?_
      rintro e w2 ⟨x, -, rfl, g2, S2⟩
      have L2 := (Lx.alloc (.cells (ints [0, 0, 0, 0, 1, 1, 1, 3, 3, 2, 4, 5]).toArray 2)).next g2 S2
      clear Lx g2 S2
      go_wp2_with (at_builtin; refine wpList_push rfl _ _ rfl w L g h xs [x] (L2.alloc _) rfl _ 1 1 rfl (rd_one _ _ _) (by omega) ?_; intro G wg hGn LG)
      clear L2
      have hGn' := Lib.hid hGn
      clear hGn
      go_roundw
      case rel => exact ⟨G, xs ++ [x], k - 1, by rw [hGn'.out], by congr 1; omega, by have := hGn'.out; omega, LG⟩
      case measure => simp [intOf]; omega
    · go_wp2_with fail
      refine (l01Next_any L g 30 _ Lx.src (by decide)).mono ?_
      rintro e w2 ⟨r, rfl, -, -, g2, S2⟩
      have L2 := Lx.next g2 S2
      clear Lx g2 S2
      by_cases hr0 : r = 0
      · subst hr0
        go_wp2_with fail
        refine (l01Pick_any L g _ 2 2 [-1, 6] _ (L2.alloc _).src (rd_two' _ _ _ _) (by decide) (by decide) (fun ad e => by cases e; have := L2.src.lt; simp only; omega)).mono ?_
        rintro e w3 ⟨x, -, rfl, g3, S3⟩
        have L3 := (L2.alloc (.cells #[.int .i64 (-1), .int .i64 6] 2)).next g3 S3
        clear L2 g3 S3
        go_wp2_with (at_builtin; refine wpList_push rfl _ _ rfl w L g h xs [x] (L3.alloc _) rfl _ 1 1 rfl (rd_one _ _ _) (by omega) ?_; intro G wg hGn LG)
        have hGn' := Lib.hid hGn
        clear hGn
        go_ret
        exact ⟨G, xs ++ [x], by show Ending.returned (Value.slice G.A (h.n + 1) G.c) = _; rw [hGn'.out], by have := hGn'.out; omega, LG⟩
      · by_cases hr1 : r = 1
        · subst hr1
          go_wp2
          go_loopw [3] (fun v wr => ∃ (h : Hd) (xs : List Int), v = .slice h.A h.n h.c ∧ h.n ≤ 401 ∧ Lst w wr L g h xs) (fun v _ => 401 - lenOf v)
          case atStart => exact ⟨h, xs, rfl, by omega, L2⟩
          case round =>
            clear L2
            obtain ⟨h, xs, rfl, hk, Lx⟩ := hrel
            go_wp2_with fail
            refine (l01Next_any L g 2 _ Lx.src (by decide)).mono ?_
            rintro e w3 ⟨y, rfl, y0, y1, g3, S3⟩
            have L3 := Lx.next g3 S3
            clear Lx g3 S3
            by_cases hlt : (h.n : Int) < 400 + y
            · go_wp2_with fail
              refine (l01Next_any L g 6 _ L3.src (by decide)).mono ?_
              rintro e w4 ⟨x, rfl, -, -, g4, S4⟩
              have L4 := L3.next g4 S4
              clear L3 g4 S4
              go_wp2_with (at_builtin; refine wpList_push rfl _ _ rfl w L g h xs [x] (L4.alloc _) rfl _ 1 1 rfl (rd_one _ _ _) (by omega) ?_; intro G wg hGn LG)
              have hGn' := Lib.hid hGn
              clear hGn L4
              go_roundw
              case rel => exact ⟨G, xs ++ [x], by rw [hGn'.out], by have := hGn'.out; omega, LG⟩
              case measure => have := hGn'.out; simp [lenOf]; omega
            · go_wp2
              go_ret
              exact ⟨h, xs, rfl, by omega, L3⟩
        · have f0 : (r == 0) = false := by simpa using hr0
          have f1 : (r == 1) = false := by simpa using hr1
          clear hr0 hr1
          by_cases hr2 : r = 2
          · subst hr2
            go_wp2
            go_loopw [3, 5] (fun v i wr => ∃ (h : Hd) (xs : List Int) (k : Nat), v = .slice h.A h.n h.c ∧ i = .int .i64 k ∧ k ≤ 8 ∧ h.n ≤ 49 + 4 * k ∧ Lst w wr L g h xs) (fun _ i _ => 8 - (intOf i).toNat)
            case atStart => exact ⟨h, xs, 0, rfl, rfl, by omega, by omega, L2⟩
            case round =>
              clear L2
              obtain ⟨h, xs, k, rfl, rfl, hk8, hk, Lx⟩ := hrel
              by_cases hlt : (k : Int) < 8
              · go_wp2_with (at_builtin; refine wpList_push rfl _ _ rfl w L g h xs [0, 0, 0, 5] (Lx.alloc _) rfl _ 4 4 rfl (rd_cells _ [0, 0, 0, 5] _) (by omega) ?_; intro G wg hGn LG)
                clear Lx
                have hGn' := Lib.hid hGn
                clear hGn
                go_roundw
                case rel => exact ⟨G, xs ++ [0, 0, 0, 5], k + 1, by rw [hGn'.out], by go_num, by omega, by have := hGn'.out; omega, LG⟩
                case measure => simp [intOf]; omega
              · go_wp2
                go_loopw [3, 6] (fun v i wr => ∃ (h : Hd) (xs : List Int) (k : Nat), v = .slice h.A h.n h.c ∧ i = .int .i64 k ∧ k ≤ 14 ∧ h.n ≤ 81 + 3 * k ∧ Lst w wr L g h xs) (fun _ i _ => 14 - (intOf i).toNat)
                case atStart => exact ⟨h, xs, 0, rfl, rfl, by omega, by omega, Lx⟩
                case round =>
                  clear Lx hk8 hk hlt
                  obtain ⟨h, xs, k, rfl, rfl, hk8, hk, Lx⟩ := hrel
                  by_cases hlt : (k : Int) < 14
                  · go_wp2_with (at_builtin; refine wpList_push rfl _ _ rfl w L g h xs [1, 5, 0] (Lx.alloc _) rfl _ 3 3 rfl (rd_cells _ [1, 5, 0] _) (by omega) ?_; intro G wg hGn LG)
                    clear Lx
                    have hGn' := Lib.hid hGn
                    clear hGn
                    go_roundw
                    case rel => exact ⟨G, xs ++ [1, 5, 0], k + 1, by rw [hGn'.out], by go_num, by omega, by have := hGn'.out; omega, LG⟩
                    case measure => simp [intOf]; omega
                  · go_wp2
                    go_ret
                    exact ⟨h, xs, rfl, by omega, Lx⟩
          · have f2 : (r == 2) = false := by simpa using hr2
            clear hr2
            go_wp2
            go_ret
            exact ⟨h, xs, rfl, by omega, L2⟩
end Go.Proofs.Ytfankajbddmdaaa
