/- The draws of PutSample and of PutLine. Existential. Condition: a code of at most 4096 bytes. -/
import Derived.Test.YthmcnoloeeabbaaDrawS
namespace Go.Proofs.Ythmcnoloeeabbaa
open Go.RowKit

def DrawnPS (w : World) (e : Ending) (w' : World) : Prop :=
  ∃ h l, ∃ x y v g : Int, e = .returned (.tuple #[MosaicV h l, .int .i64 x, .int .i64 y, .int .i64 v, .int .i64 g]) ∧ MosaicOk h ∧ RdAll w' (MosaicS h l) ∧ Below w.heap.size w w'
theorem drawnPS_mk {w W : World} {h : MosaicH} {l : MosaicC} {x y v g : Int} {B : Nat} (X : MosW W B h l) (b : Below w.heap.size w W) : DrawnPS w (.returned (.tuple #[MosaicV h l, .int .i64 x, .int .i64 y, .int .i64 v, .int .i64 g])) W :=
  ⟨h, l, x, y, v, g, rfl, X.ok, X.rd, b⟩
set_option maxRecDepth 100000 in
set_option maxHeartbeats 4000000 in
theorem drawPutSample_any (A : Option Addr) (n c : Nat) (bs : List Int) (w : World) (r : Rd w A n (byteV bs)) (hx : ∀ x ∈ bs, 0 ≤ x ∧ x ≤ 255) (hn : n ≤ 4096) :
    Calls Try.prog 36 #[.slice A n c] w (DrawnPS w) := by
  have b0 : Below w.heap.size w (w.alloc (.cells #[.int .i64 0, .int .i64 0, .slice none 0 0, .slice none 0 0] 26)) := (by (repeat (first | (with_reducible assumption) | (with_reducible exact Below.refl _ _) | (with_reducible refine Below.drew ?_) | (with_reducible refine Below.drewN ?_ _) | (with_reducible refine Below.setCell ?_ ?_ _) | (with_reducible refine Below.alloc ?_ ?_ _) | assumption)); all_goals (first | omega | (simp; done) | (simp; omega)))
  have K0 : Blk (w.alloc (.cells #[.int .i64 0, .int .i64 0, .slice none 0 0, .slice none 0 0] 26)) w.heap.size 26 #[.int .i64 0, .int .i64 0, .slice none 0 0, .slice none 0 0] := Blk.new _ _ _
  go_enter Try.func36, Try.ntmps36
  go_wp2_with fail
  generalize w.alloc (.cells #[.int .i64 0, .int .i64 0, .slice none 0 0, .slice none 0 0] 26) = w0 at b0 K0  ⊢
  have gK0 := K0.lt
  refine (l01From_any A n c bs _ (r.below b0) hx hn).mono ?_
  rintro e w1 ⟨g, rfl, S1, b1⟩
  have D1 := Dr.start S1
  have hg := S1.lt.2
  have K1 := K0.below b1 gK0
  have gK1 := K1.lt
  clear S1 K0
  go_wp2_with fail
  refine (l19Draw_any _ g _ D1.src).mono ?_
  rintro e w2 ⟨⟨⟨Av, nv, cv⟩, ⟨Ag, ng, cg⟩⟩, l, rfl, X2, D2⟩
  have K2 := K1.nx D2.gr (by omega)
  clear D1 K1
  unfold MosaicV
  simp only
  go_wp2_with fail
  have hz2 : w1.heap.size ≤ w2.heap.size := D2.gr.size
  have B3 := Blk.new w2 26 #[.int .i64 l.wide, .int .i64 l.high, .slice Av nv cv, .slice Ag ng cg]
  have D3 := D2.alloc (.cells #[.int .i64 l.wide, .int .i64 l.high, .slice Av nv cv, .slice Ag ng cg] 26)
  have K3 := K2.alloc (.cells #[.int .i64 l.wide, .int .i64 l.high, .slice Av nv cv, .slice Ag ng cg] 26)
  have X3 := X2.alloc (.cells #[.int .i64 l.wide, .int .i64 l.high, .slice Av nv cv, .slice Ag ng cg] 26)
  generalize w2.alloc (.cells #[.int .i64 l.wide, .int .i64 l.high, .slice Av nv cv, .slice Ag ng cg] 26) = w3 at B3 D3 K3 X3  ⊢
  generalize w2.heap.size = Q at B3 hz2 ⊢
  clear D2 K2 X2
  have hQg : g ≠ Q := by have := D3.lt; omega
  have hQ1 : Q ≠ w.heap.size := by omega
  have hQ2 : w.heap.size ≠ Q := by omega
  go_wp2_with fail
  refine (l01Next_any _ g 8 _ D3.src (by decide)).mono ?_
  rintro e w4 ⟨x, rfl, x0, x1, g4, S4⟩
  have D4 := D3.next g4 S4
  have K4 := K3.nx g4 (by omega)
  have B4 := B3.nx g4 hQg
  have X4 := X3.nx g4 D3.lt
  clear D3 K3 B3 X3 g4 S4
  go_wp2_with fail
  refine (l01Next_any _ g 7 _ D4.src (by decide)).mono ?_
  rintro e w5 ⟨y, rfl, y0, y1, g5, S5⟩
  have D5 := D4.next g5 S5
  have K5 := K4.nx g5 (by omega)
  have B5 := B4.nx g5 hQg
  have X5 := X4.nx g5 D4.lt
  clear D4 K4 B4 X4 g5 S5
  go_wp2_with fail
  refine (l01Next_any _ g 1001 _ D5.src (by decide)).mono ?_
  rintro e w6 ⟨v, rfl, v0, v1, g6, S6⟩
  have D6 := D5.next g6 S6
  have K6 := K5.nx g6 (by omega)
  have B6 := B5.nx g6 hQg
  have X6 := X5.nx g6 D5.lt
  clear D5 K5 B5 X5 g6 S6
  go_wp2_with fail
  refine (l01Next_any _ g 9 _ D6.src (by decide)).mono ?_
  rintro e w7 ⟨u, rfl, u0, u1, g7, S7⟩
  have D7 := D6.next g7 S7
  have K7 := K6.nx g7 (by omega)
  have B7 := B6.nx g7 hQg
  have X7 := X6.nx g7 D6.lt
  clear D6 K6 B6 X6 g7 S7
  go_wp2_with fail
  refine (l01Next_any _ g 30 _ D7.src (by decide)).mono ?_
  rintro e w8 ⟨q, rfl, q0, q1, g8, S8⟩
  have D8 := D7.next g8 S8
  have K8 := K7.nx g8 (by omega)
  have B8 := B7.nx g8 hQg
  have X8 := X7.nx g8 D7.lt
  clear D7 K7 B7 X7 g8 S8
  by_cases hq : q = 0 ∨ q = 1 ∨ q = 2
  case neg =>
    have q0' : (q == 0) = false := by simp; omega
    have q1' : (q == 1) = false := by simp; omega
    have q2' : (q == 2) = false := by simp; omega
    clear hq
    have cB := fun o => B8.cell o
    have gB := B8.lt
    have cK := fun o => K8.cell o
    have fK := fun o => K8.frozen o
    have gK := K8.lt
    have b9 := b0.trans ((D8.fin b1).mono b0.size)
    have hlw : w.heap.size < w1.heap.size := by have := b1.size; omega
    go_wp2
    refine bodyPost_ret (v := .tuple #[.agg #[.int .i64 l.wide, .int .i64 l.high, .slice Av nv cv, .slice Ag ng cg], .int .i64 (x - 1), .int .i64 (y - 1), .int .i64 v, .int .i64 (1 + u)]) (by simp [results, Try.results36, go_sem, cK, gK]) rfl ?_
    exact drawnPS_mk (h := ⟨⟨Av, nv, cv⟩, ⟨Ag, ng, cg⟩⟩) (l := l) ((((X8.cell hlw _).cell hlw _).cell hlw _).cell hlw _) (by (repeat (first | (with_reducible assumption) | (with_reducible exact Below.refl _ _) | (with_reducible refine Below.drew ?_) | (with_reducible refine Below.drewN ?_ _) | (with_reducible refine Below.setCell ?_ ?_ _) | (with_reducible refine Below.alloc ?_ ?_ _) | assumption)); all_goals (first | omega | (simp; done) | (simp; omega)))
  rcases hq with rfl | rfl | rfl
  · go_wp2_with fail
    refine (pick_any _ g [-1000, 1000, 1001] 3 _ D8.src rfl (by decide) (by decide)).mono ?_
    rintro e w9 ⟨p, -, rfl, g9, S9⟩
    have D9 := (D8.alloc _).next g9 S9
    have K9 := (K8.alloc _).nx g9 (by omega)
    have B9 := (B8.alloc _).nx g9 hQg
    have X9 := (X8.alloc _).nx g9 D8.lt
    clear D8 K8 B8 X8 g9 S9
    have cB := fun o => B9.cell o
    have gB := B9.lt
    have cK := fun o => K9.cell o
    have fK := fun o => K9.frozen o
    have gK := K9.lt
    have b9 := b0.trans ((D9.fin b1).mono b0.size)
    have hlw : w.heap.size < w1.heap.size := by have := b1.size; omega
    go_wp2
    refine bodyPost_ret (v := .tuple #[.agg #[.int .i64 l.wide, .int .i64 l.high, .slice Av nv cv, .slice Ag ng cg], .int .i64 p, .int .i64 (y - 1), .int .i64 v, .int .i64 (1 + u)]) (by simp [results, Try.results36, go_sem, cK, gK]) rfl ?_
    exact drawnPS_mk (h := ⟨⟨Av, nv, cv⟩, ⟨Ag, ng, cg⟩⟩) (l := l) ((((X9.cell hlw _).cell hlw _).cell hlw _).cell hlw _) (by (repeat (first | (with_reducible assumption) | (with_reducible exact Below.refl _ _) | (with_reducible refine Below.drew ?_) | (with_reducible refine Below.drewN ?_ _) | (with_reducible refine Below.setCell ?_ ?_ _) | (with_reducible refine Below.alloc ?_ ?_ _) | assumption)); all_goals (first | omega | (simp; done) | (simp; omega)))
  · go_wp2_with fail
    refine (pick_any _ g [-1, 1000, 1001] 3 _ D8.src rfl (by decide) (by decide)).mono ?_
    rintro e w9 ⟨p, -, rfl, g9, S9⟩
    have D9 := (D8.alloc _).next g9 S9
    have K9 := (K8.alloc _).nx g9 (by omega)
    have B9 := (B8.alloc _).nx g9 hQg
    have X9 := (X8.alloc _).nx g9 D8.lt
    clear D8 K8 B8 X8 g9 S9
    have cB := fun o => B9.cell o
    have gB := B9.lt
    have cK := fun o => K9.cell o
    have fK := fun o => K9.frozen o
    have gK := K9.lt
    have b9 := b0.trans ((D9.fin b1).mono b0.size)
    have hlw : w.heap.size < w1.heap.size := by have := b1.size; omega
    go_wp2
    refine bodyPost_ret (v := .tuple #[.agg #[.int .i64 l.wide, .int .i64 l.high, .slice Av nv cv, .slice Ag ng cg], .int .i64 (x - 1), .int .i64 (y - 1), .int .i64 p, .int .i64 (1 + u)]) (by simp [results, Try.results36, go_sem, cK, gK]) rfl ?_
    exact drawnPS_mk (h := ⟨⟨Av, nv, cv⟩, ⟨Ag, ng, cg⟩⟩) (l := l) ((((X9.cell hlw _).cell hlw _).cell hlw _).cell hlw _) (by (repeat (first | (with_reducible assumption) | (with_reducible exact Below.refl _ _) | (with_reducible refine Below.drew ?_) | (with_reducible refine Below.drewN ?_ _) | (with_reducible refine Below.setCell ?_ ?_ _) | (with_reducible refine Below.alloc ?_ ?_ _) | assumption)); all_goals (first | omega | (simp; done) | (simp; omega)))
  · go_wp2_with fail
    refine (pick_any _ g [0, 9, 10] 3 _ D8.src rfl (by decide) (by decide)).mono ?_
    rintro e w9 ⟨p, -, rfl, g9, S9⟩
    have D9 := (D8.alloc _).next g9 S9
    have K9 := (K8.alloc _).nx g9 (by omega)
    have B9 := (B8.alloc _).nx g9 hQg
    have X9 := (X8.alloc _).nx g9 D8.lt
    clear D8 K8 B8 X8 g9 S9
    have cB := fun o => B9.cell o
    have gB := B9.lt
    have cK := fun o => K9.cell o
    have fK := fun o => K9.frozen o
    have gK := K9.lt
    have b9 := b0.trans ((D9.fin b1).mono b0.size)
    have hlw : w.heap.size < w1.heap.size := by have := b1.size; omega
    go_wp2
    refine bodyPost_ret (v := .tuple #[.agg #[.int .i64 l.wide, .int .i64 l.high, .slice Av nv cv, .slice Ag ng cg], .int .i64 (x - 1), .int .i64 (y - 1), .int .i64 v, .int .i64 p]) (by simp [results, Try.results36, go_sem, cK, gK]) rfl ?_
    exact drawnPS_mk (h := ⟨⟨Av, nv, cv⟩, ⟨Ag, ng, cg⟩⟩) (l := l) ((((X9.cell hlw _).cell hlw _).cell hlw _).cell hlw _) (by (repeat (first | (with_reducible assumption) | (with_reducible exact Below.refl _ _) | (with_reducible refine Below.drew ?_) | (with_reducible refine Below.drewN ?_ _) | (with_reducible refine Below.setCell ?_ ?_ _) | (with_reducible refine Below.alloc ?_ ?_ _) | assumption)); all_goals (first | omega | (simp; done) | (simp; omega)))

def DrawnPL (w : World) (e : Ending) (w' : World) : Prop :=
  ∃ h l, ∃ x0 y0 x1 y1 : Int, ∃ (k : Hd) (vs : List Int) (g : Int), e = .returned (.tuple #[MosaicV h l, .agg #[.int .i64 x0, .int .i64 y0], .agg #[.int .i64 x1, .int .i64 y1], .slice k.A k.n k.c, .int .i64 g]) ∧ MosaicOk h ∧ k.n ≤ 201 ∧ RdAll w' (MosaicS h l) ∧ Rd w' k.A k.n (ints vs) ∧ Below w.heap.size w w'
theorem drawnPL_mk {w W : World} {h : MosaicH} {l : MosaicC} {x0 y0 x1 y1 g : Int} {k : Hd} {vs : List Int} {B C : Nat} (X : MosW W B h l) (hk : k.n ≤ 201) (O : Own W C 1 k (ints vs)) (b : Below w.heap.size w W) :
    DrawnPL w (.returned (.tuple #[MosaicV h l, .agg #[.int .i64 x0, .int .i64 y0], .agg #[.int .i64 x1, .int .i64 y1], .slice k.A k.n k.c, .int .i64 g])) W :=
  ⟨h, l, x0, y0, x1, y1, k, vs, g, rfl, X.ok, hk, X.rd, O.rd1, b⟩
set_option maxRecDepth 100000 in
set_option maxHeartbeats 4000000 in
theorem drawPutLine_any (A : Option Addr) (n c : Nat) (bs : List Int) (w : World) (r : Rd w A n (byteV bs)) (hx : ∀ x ∈ bs, 0 ≤ x ∧ x ≤ 255) (hn : n ≤ 4096) :
    Calls Try.prog 37 #[.slice A n c] w (DrawnPL w) := by
  have b0 : Below w.heap.size w (((w.alloc (.cells #[.int .i64 0, .int .i64 0, .slice none 0 0, .slice none 0 0] 26)).alloc (.cells #[.int .i64 0, .int .i64 0] 38)).alloc (.cells #[.int .i64 0, .int .i64 0] 38)) := (by (repeat (first | (with_reducible assumption) | (with_reducible exact Below.refl _ _) | (with_reducible refine Below.drew ?_) | (with_reducible refine Below.drewN ?_ _) | (with_reducible refine Below.setCell ?_ ?_ _) | (with_reducible refine Below.alloc ?_ ?_ _) | assumption)); all_goals (first | omega | (simp; done) | (simp; omega)))
  have K0 : Blk (((w.alloc (.cells #[.int .i64 0, .int .i64 0, .slice none 0 0, .slice none 0 0] 26)).alloc (.cells #[.int .i64 0, .int .i64 0] 38)).alloc (.cells #[.int .i64 0, .int .i64 0] 38)) w.heap.size 26 #[.int .i64 0, .int .i64 0, .slice none 0 0, .slice none 0 0] := ((Blk.new _ _ _).alloc _).alloc _
  have KR1 : Blk (((w.alloc (.cells #[.int .i64 0, .int .i64 0, .slice none 0 0, .slice none 0 0] 26)).alloc (.cells #[.int .i64 0, .int .i64 0] 38)).alloc (.cells #[.int .i64 0, .int .i64 0] 38)) (w.heap.size + 1) 38 #[.int .i64 0, .int .i64 0] := (Blk.newN _ _ _ (by simp)).alloc _
  have KR2 : Blk (((w.alloc (.cells #[.int .i64 0, .int .i64 0, .slice none 0 0, .slice none 0 0] 26)).alloc (.cells #[.int .i64 0, .int .i64 0] 38)).alloc (.cells #[.int .i64 0, .int .i64 0] 38)) (w.heap.size + 1 + 1) 38 #[.int .i64 0, .int .i64 0] := Blk.newN _ _ _ (by simp)
  go_enter Try.func37, Try.ntmps37
  go_wp2_with fail
  generalize ((w.alloc (.cells #[.int .i64 0, .int .i64 0, .slice none 0 0, .slice none 0 0] 26)).alloc (.cells #[.int .i64 0, .int .i64 0] 38)).alloc (.cells #[.int .i64 0, .int .i64 0] 38) = w0 at b0 K0 KR1 KR2 ⊢
  have gK0 := K0.lt
  have gKR1 := KR1.lt
  have gKR2 := KR2.lt
  refine (l01From_any A n c bs _ (r.below b0) hx hn).mono ?_
  rintro e w1 ⟨g, rfl, S1, b1⟩
  have D1 := Dr.start S1
  have hg := S1.lt.2
  have K1 := K0.below b1 gK0
  have gK1 := K1.lt
  have KR1 := KR1.below b1 gKR1
  have gKR1 := KR1.lt
  have KR2 := KR2.below b1 gKR2
  have gKR2 := KR2.lt
  clear S1 K0
  go_wp2_with fail
  refine (l19Draw_any _ g _ D1.src).mono ?_
  rintro e w2 ⟨⟨⟨Av, nv, cv⟩, ⟨Ag, ng, cg⟩⟩, l, rfl, X2, D2⟩
  have K2 := K1.nx D2.gr (by omega)
  have KR1 := KR1.nx D2.gr (by omega)
  have gKR1 := KR1.lt
  have KR2 := KR2.nx D2.gr (by omega)
  have gKR2 := KR2.lt
  clear D1 K1
  unfold MosaicV
  simp only
  go_wp2_with fail
  have hz2 : w1.heap.size ≤ w2.heap.size := D2.gr.size
  have B3 := Blk.new w2 26 #[.int .i64 l.wide, .int .i64 l.high, .slice Av nv cv, .slice Ag ng cg]
  have D3 := D2.alloc (.cells #[.int .i64 l.wide, .int .i64 l.high, .slice Av nv cv, .slice Ag ng cg] 26)
  have K3 := K2.alloc (.cells #[.int .i64 l.wide, .int .i64 l.high, .slice Av nv cv, .slice Ag ng cg] 26)
  have X3 := X2.alloc (.cells #[.int .i64 l.wide, .int .i64 l.high, .slice Av nv cv, .slice Ag ng cg] 26)
  have KR1 := KR1.alloc (.cells #[.int .i64 l.wide, .int .i64 l.high, .slice Av nv cv, .slice Ag ng cg] 26)
  have KR2 := KR2.alloc (.cells #[.int .i64 l.wide, .int .i64 l.high, .slice Av nv cv, .slice Ag ng cg] 26)
  generalize w2.alloc (.cells #[.int .i64 l.wide, .int .i64 l.high, .slice Av nv cv, .slice Ag ng cg] 26) = w3 at B3 D3 K3 X3 KR1 KR2 ⊢
  generalize w2.heap.size = Q at B3 hz2 ⊢
  clear D2 K2 X2
  have hQg : g ≠ Q := by have := D3.lt; omega
  have hQ1 : Q ≠ w.heap.size := by omega
  have hQ2 : w.heap.size ≠ Q := by omega
  go_wp2_with fail
  refine (l12DrawPoint_any _ g _ D3.src).mono ?_
  rintro e w4 ⟨x0, y0, rfl, E4⟩
  have D4 := D3.next E4.gr E4.src
  have K4 := K3.nx E4.gr (by omega)
  have B4 := B3.nx E4.gr hQg
  have X4 := X3.nx E4.gr D3.lt
  have KR1 := KR1.nx E4.gr (by omega)
  have KR2 := KR2.nx E4.gr (by omega)
  clear D3 K3 B3 X3 E4
  go_wp2_with fail
  refine (l12DrawPoint_any _ g _ D4.src).mono ?_
  rintro e w5 ⟨x1, y1, rfl, E5⟩
  have D5 := D4.next E5.gr E5.src
  have K5 := K4.nx E5.gr (by omega)
  have B5 := B4.nx E5.gr hQg
  have X5 := X4.nx E5.gr D4.lt
  have KR1 := KR1.nx E5.gr (by omega)
  have KR2 := KR2.nx E5.gr (by omega)
  clear D4 K4 B4 X4 E5
  go_wp2_with fail
  have hz5 : Q < w5.heap.size := B5.lt
  have BP6 := (Blk.new w5 38 #[.int .i64 x0, .int .i64 y0]).alloc (.cells #[.int .i64 x1, .int .i64 y1] 38)
  have BR6 := Blk.newN (g := w5.heap.size + 1) (w5.alloc (.cells #[.int .i64 x0, .int .i64 y0] 38)) 38 #[.int .i64 x1, .int .i64 y1] (by simp)
  have D6 := (D5.alloc (.cells #[.int .i64 x0, .int .i64 y0] 38)).alloc (.cells #[.int .i64 x1, .int .i64 y1] 38)
  have K6 := (K5.alloc (.cells #[.int .i64 x0, .int .i64 y0] 38)).alloc (.cells #[.int .i64 x1, .int .i64 y1] 38)
  have B6 := (B5.alloc (.cells #[.int .i64 x0, .int .i64 y0] 38)).alloc (.cells #[.int .i64 x1, .int .i64 y1] 38)
  have X6 := (X5.alloc (.cells #[.int .i64 x0, .int .i64 y0] 38)).alloc (.cells #[.int .i64 x1, .int .i64 y1] 38)
  have KR1 := (KR1.alloc (.cells #[.int .i64 x0, .int .i64 y0] 38)).alloc (.cells #[.int .i64 x1, .int .i64 y1] 38)
  have KR2 := (KR2.alloc (.cells #[.int .i64 x0, .int .i64 y0] 38)).alloc (.cells #[.int .i64 x1, .int .i64 y1] 38)
  generalize (w5.alloc (.cells #[.int .i64 x0, .int .i64 y0] 38)).alloc (.cells #[.int .i64 x1, .int .i64 y1] 38) = w6 at BP6 BR6 D6 K6 B6 X6 KR1 KR2 ⊢
  clear D5 K5 B5 X5
  generalize hP : w5.heap.size = Pk at BP6 BR6 hz5 ⊢
  have hgP : g ≠ Pk := by have := D6.lt; omega
  have hgR : g ≠ Pk + 1 := by have := D6.lt; omega
  clear hP
  go_wp2_with fail
  refine (l01Next_any _ g 9 _ D6.src (by decide)).mono ?_
  rintro e w7 ⟨u, rfl, u0, u1, g7, S7⟩
  have D7 := D6.next g7 S7
  have K7 := K6.nx g7 (by omega)
  have B7 := B6.nx g7 hQg
  have BP7 := BP6.nx g7 hgP
  have BR7 := BR6.nx g7 hgR
  have X7 := X6.nx g7 D6.lt
  have KR1 := KR1.nx g7 (by omega)
  have KR2 := KR2.nx g7 (by omega)
  clear D6 K6 B6 X6 BP6 BR6 g7 S7
  go_wp2_with fail
  refine (l01Next_any _ g 30 _ D7.src (by decide)).mono ?_
  rintro e w8 ⟨q, rfl, q0, q1, g8, S8⟩
  have D8 := D7.next g8 S8
  have K8 := K7.nx g8 (by omega)
  have B8 := B7.nx g8 hQg
  have BP8 := BP7.nx g8 hgP
  have BR8 := BR7.nx g8 hgR
  have X8 := X7.nx g8 D7.lt
  have KR1 := KR1.nx g8 (by omega)
  have KR2 := KR2.nx g8 (by omega)
  clear D7 K7 B7 X7 BP7 BR7 g8 S8
  by_cases hq : q = 0
  · subst hq
    go_wp2_with fail
    refine (pick_any _ g [0, 10] 2 _ D8.src rfl (by decide) (by decide)).mono ?_
    rintro e w9 ⟨p, -, rfl, g9, S9⟩
    have D9 := (D8.alloc _).next g9 S9
    have K9 := (K8.alloc _).nx g9 (by omega)
    have B9 := (B8.alloc _).nx g9 hQg
    have BP9 := (BP8.alloc _).nx g9 hgP
    have BR9 := (BR8.alloc _).nx g9 hgR
    have X9 := (X8.alloc _).nx g9 D8.lt
    have KR1 := (KR1.alloc _).nx g9 (by omega)
    have KR2 := (KR2.alloc _).nx g9 (by omega)
    clear D8 K8 B8 X8 BP8 BR8 g9 S9
    have hS8 := fun o => (Blk.drew B9).cell o
    have hT8 := fun o => (Blk.drew BP9).cell o
    have hU8 := fun o => (Blk.drew BR9).cell o
    have gB8 := B9.lt
    have gP8 := BP9.lt
    have gR8 := BR9.lt
    have hDL := l18DrawLine_any _ g w9.drew D9.drew.src
    have K9 := Blk.drew K9
    have B9 := Blk.drew B9
    have BP9 := Blk.drew BP9
    have BR9 := Blk.drew BR9
    have KR1 := Blk.drew KR1
    have KR2 := Blk.drew KR2
    have X9 := X9.bel (Below.drew (Below.refl _ _))
    have D9 := D9.drew
    have hlw : w.heap.size + 1 + 1 < w1.heap.size := by have := b1.size; omega
    have hne1 : w.heap.size ≠ w.heap.size + 1 := by omega
    have hne2 : w.heap.size + 1 ≠ w.heap.size := by omega
    have hne3 : w.heap.size ≠ w.heap.size + 1 + 1 := by omega
    have hne4 : w.heap.size + 1 + 1 ≠ w.heap.size := by omega
    have hne5 : w.heap.size + 1 ≠ w.heap.size + 1 + 1 := by omega
    have hne6 : w.heap.size + 1 + 1 ≠ w.heap.size + 1 := by omega
    go_wp2_with fail
    go_region_held3 (fun w' => (∀ o, w'.cell? ⟨Q, o, none⟩ = (#[.int .i64 l.wide, .int .i64 l.high, .slice Av nv cv, .slice Ag ng cg] : Array Value)[o]?) ∧ (∀ o, w'.cell? ⟨Pk, o, none⟩ = (#[.int .i64 x0, .int .i64 y0] : Array Value)[o]?) ∧ (∀ o, w'.cell? ⟨Pk + 1, o, none⟩ = (#[.int .i64 x1, .int .i64 y1] : Array Value)[o]?))
      (((with_reducible refine ⟨?_, ?_, ?_⟩) <;> (first | (with_reducible assumption) | ((with_reducible refine cells_drew ?_); (with_reducible assumption)) | ((with_reducible refine cells_set ?_ ?_) <;> first | omega | ((repeat (with_reducible refine cells_set ?_ (by omega))); (with_reducible assumption))))))
      (first
        | (go_at_call 99; refine hDL.mono ?_; rintro e wz ⟨⟨hA, hN, hC⟩, vs, rfl, hk, LL⟩; have Dz := D9.next LL.gr LL.src; have Kz := K9.nx LL.gr (by omega); have Bz := B9.nx LL.gr hQg; have BPz := BP9.nx LL.gr hgP; have BRz := BR9.nx LL.gr hgR; have Xz := X9.nx LL.gr D9.lt; have KR1' := KR1.nx LL.gr (by omega); have KR2' := KR2.nx LL.gr (by omega); have hS9 := fun o => Bz.cell o; have hT9 := fun o => BPz.cell o; have hU9 := fun o => BRz.cell o; have c0 := fun o => Kz.cell o; have f0 := fun o => Kz.frozen o; have d0 := Kz.lt; have c1 := fun o => KR1'.cell o; have f1 := fun o => KR1'.frozen o; have d1 := KR1'.lt; have c2 := fun o => KR2'.cell o; have f2 := fun o => KR2'.frozen o; have d2 := KR2'.lt; have gB9 := Bz.lt; have gP9 := BPz.lt; have gR9 := BRz.lt))
    all_goals
      have b9 := b0.trans ((Dz.fin b1).mono b0.size)
      have hds : w9.drew.heap.size = w9.heap.size := rfl
      have hrow : ∀ b, b < w1.heap.size → (⟨hA, hN, hC⟩ : Hd).row ≠ some b := fun b hb e => by have h1 := (LL.own.rowlt _ e).1; have h2 := D9.gr.size; omega
      have hO : ∀ (W : World) (b i : Nat) (u : Value), b < w1.heap.size → Own W w1.heap.size 1 ⟨hA, hN, hC⟩ (ints vs) → Own (W.setCell ⟨b, i, none⟩ u) w1.heap.size 1 ⟨hA, hN, hC⟩ (ints vs) := fun W b i u hb o => o.grown (grown_cell _ _ _ _) (fun x e c => hrow b hb (e.trans c.symm))
      have O9 := LL.own.mono (C := w1.heap.size) (by have h2 := D9.gr.size; omega)
      clear hS9 hT9 hU9 hS8 hT8 hU8 gB9 gP9 gR9 gB8 gP8 gR8 D9 K9 B9 BP9 BR9 X9 KR1 KR2 hDL Bz BPz BRz
      go_wp2
      refine bodyPost_ret (v := .tuple #[.agg #[.int .i64 l.wide, .int .i64 l.high, .slice Av nv cv, .slice Ag ng cg], .agg #[.int .i64 x0, .int .i64 y0], .agg #[.int .i64 x1, .int .i64 y1], .slice hA hN hC, .int .i64 p]) (by simp [results, Try.results37, go_sem, c0, c1, c2, d0, d1, d2]) rfl ?_
      exact drawnPL_mk (h := ⟨⟨Av, nv, cv⟩, ⟨Ag, ng, cg⟩⟩) (l := l) (k := ⟨hA, hN, hC⟩) ((((((((Xz.cell (by omega) _).cell (by omega) _).cell (by omega) _).cell (by omega) _).cell (by omega) _).cell (by omega) _).cell (by omega) _).cell (by omega) _) hk
        (hO _ _ _ _ (by omega) (hO _ _ _ _ (by omega) (hO _ _ _ _ (by omega) (hO _ _ _ _ (by omega) (hO _ _ _ _ (by omega) (hO _ _ _ _ (by omega) (hO _ _ _ _ (by omega) (hO _ _ _ _ (by omega) O9)))))))) (by (repeat (first | (with_reducible assumption) | (with_reducible exact Below.refl _ _) | (with_reducible refine Below.drew ?_) | (with_reducible refine Below.drewN ?_ _) | (with_reducible refine Below.setCell ?_ ?_ _) | (with_reducible refine Below.alloc ?_ ?_ _) | assumption)); all_goals (first | omega | (simp; done) | (simp; omega)))
  · have hq' : (q == 0) = false := by simpa using hq
    clear hq
    have hS8 := fun o => (Blk.drew B8).cell o
    have hT8 := fun o => (Blk.drew BP8).cell o
    have hU8 := fun o => (Blk.drew BR8).cell o
    have gB8 := B8.lt
    have gP8 := BP8.lt
    have gR8 := BR8.lt
    have hDL := l18DrawLine_any _ g w8.drew D8.drew.src
    have K8 := Blk.drew K8
    have B8 := Blk.drew B8
    have BP8 := Blk.drew BP8
    have BR8 := Blk.drew BR8
    have KR1 := Blk.drew KR1
    have KR2 := Blk.drew KR2
    have X8 := X8.bel (Below.drew (Below.refl _ _))
    have D8 := D8.drew
    have hlw : w.heap.size + 1 + 1 < w1.heap.size := by have := b1.size; omega
    have hne1 : w.heap.size ≠ w.heap.size + 1 := by omega
    have hne2 : w.heap.size + 1 ≠ w.heap.size := by omega
    have hne3 : w.heap.size ≠ w.heap.size + 1 + 1 := by omega
    have hne4 : w.heap.size + 1 + 1 ≠ w.heap.size := by omega
    have hne5 : w.heap.size + 1 ≠ w.heap.size + 1 + 1 := by omega
    have hne6 : w.heap.size + 1 + 1 ≠ w.heap.size + 1 := by omega
    go_wp2_with fail
    go_region_held3 (fun w' => (∀ o, w'.cell? ⟨Q, o, none⟩ = (#[.int .i64 l.wide, .int .i64 l.high, .slice Av nv cv, .slice Ag ng cg] : Array Value)[o]?) ∧ (∀ o, w'.cell? ⟨Pk, o, none⟩ = (#[.int .i64 x0, .int .i64 y0] : Array Value)[o]?) ∧ (∀ o, w'.cell? ⟨Pk + 1, o, none⟩ = (#[.int .i64 x1, .int .i64 y1] : Array Value)[o]?))
      (((with_reducible refine ⟨?_, ?_, ?_⟩) <;> (first | (with_reducible assumption) | ((with_reducible refine cells_drew ?_); (with_reducible assumption)) | ((with_reducible refine cells_set ?_ ?_) <;> first | omega | ((repeat (with_reducible refine cells_set ?_ (by omega))); (with_reducible assumption))))))
      (first
        | (go_at_call 99; refine hDL.mono ?_; rintro e wz ⟨⟨hA, hN, hC⟩, vs, rfl, hk, LL⟩; have Dz := D8.next LL.gr LL.src; have Kz := K8.nx LL.gr (by omega); have Bz := B8.nx LL.gr hQg; have BPz := BP8.nx LL.gr hgP; have BRz := BR8.nx LL.gr hgR; have Xz := X8.nx LL.gr D8.lt; have KR1' := KR1.nx LL.gr (by omega); have KR2' := KR2.nx LL.gr (by omega); have hS9 := fun o => Bz.cell o; have hT9 := fun o => BPz.cell o; have hU9 := fun o => BRz.cell o; have c0 := fun o => Kz.cell o; have f0 := fun o => Kz.frozen o; have d0 := Kz.lt; have c1 := fun o => KR1'.cell o; have f1 := fun o => KR1'.frozen o; have d1 := KR1'.lt; have c2 := fun o => KR2'.cell o; have f2 := fun o => KR2'.frozen o; have d2 := KR2'.lt; have gB9 := Bz.lt; have gP9 := BPz.lt; have gR9 := BRz.lt))
    all_goals
      have b9 := b0.trans ((Dz.fin b1).mono b0.size)
      have hds : w8.drew.heap.size = w8.heap.size := rfl
      have hrow : ∀ b, b < w1.heap.size → (⟨hA, hN, hC⟩ : Hd).row ≠ some b := fun b hb e => by have h1 := (LL.own.rowlt _ e).1; have h2 := D8.gr.size; omega
      have hO : ∀ (W : World) (b i : Nat) (u : Value), b < w1.heap.size → Own W w1.heap.size 1 ⟨hA, hN, hC⟩ (ints vs) → Own (W.setCell ⟨b, i, none⟩ u) w1.heap.size 1 ⟨hA, hN, hC⟩ (ints vs) := fun W b i u hb o => o.grown (grown_cell _ _ _ _) (fun x e c => hrow b hb (e.trans c.symm))
      have O9 := LL.own.mono (C := w1.heap.size) (by have h2 := D8.gr.size; omega)
      clear hS9 hT9 hU9 hS8 hT8 hU8 gB9 gP9 gR9 gB8 gP8 gR8 D8 K8 B8 BP8 BR8 X8 KR1 KR2 hDL Bz BPz BRz
      go_wp2
      refine bodyPost_ret (v := .tuple #[.agg #[.int .i64 l.wide, .int .i64 l.high, .slice Av nv cv, .slice Ag ng cg], .agg #[.int .i64 x0, .int .i64 y0], .agg #[.int .i64 x1, .int .i64 y1], .slice hA hN hC, .int .i64 (1 + u)]) (by simp [results, Try.results37, go_sem, c0, c1, c2, d0, d1, d2]) rfl ?_
      exact drawnPL_mk (h := ⟨⟨Av, nv, cv⟩, ⟨Ag, ng, cg⟩⟩) (l := l) (k := ⟨hA, hN, hC⟩) ((((((((Xz.cell (by omega) _).cell (by omega) _).cell (by omega) _).cell (by omega) _).cell (by omega) _).cell (by omega) _).cell (by omega) _).cell (by omega) _) hk
        (hO _ _ _ _ (by omega) (hO _ _ _ _ (by omega) (hO _ _ _ _ (by omega) (hO _ _ _ _ (by omega) (hO _ _ _ _ (by omega) (hO _ _ _ _ (by omega) (hO _ _ _ _ (by omega) (hO _ _ _ _ (by omega) O9)))))))) (by (repeat (first | (with_reducible assumption) | (with_reducible exact Below.refl _ _) | (with_reducible refine Below.drew ?_) | (with_reducible refine Below.drewN ?_ _) | (with_reducible refine Below.setCell ?_ ?_ _) | (with_reducible refine Below.alloc ?_ ?_ _) | assumption)); all_goals (first | omega | (simp; done) | (simp; omega)))
end Go.Proofs.Ythmcnoloeeabbaa
