/- The draw of two mosaics. Existential: two mosaics of at most 30 cells. No condition but a code of at most 4096 bytes. -/
import Derived.Test.YtilieonalmihaaaDoorDrawS
import Derived.Test.YtilieonalmihaaaDoorMosD
import Derived.Deep.RegionHeld3
namespace Go.Proofs.YtilieonalmihaaaDoor
open Go.RowKit

def DrawnMM (w : World) (e : Ending) (w' : World) : Prop :=
  ∃ h l h' l', e = .returned (.tuple #[MosaicV h l, MosaicV h' l']) ∧ MosaicOk h ∧ RdAll w' (MosaicS h l) ∧ MosaicOk h' ∧ RdAll w' (MosaicS h' l') ∧ Below w.heap.size w w'
theorem MosW.drew {W : World} {B : Nat} {h : MosaicH} {l : MosaicC} (X : MosW W B h l) : MosW W.drew B h l := X.bel (Below.drew (Below.refl _ _))
theorem MosW.touch {W W' : World} {B : Nat} {h : MosaicH} {l : MosaicC} {r : List (Option Nat)} (X : MosW W B h l) (t : Touch W W' r) (o : Off r ((MosaicS h l).map Sl.row)) : MosW W' B h l :=
  ⟨X.rd.touch t o, X.wr.touch X.rd t o, X.sp, X.le, X.pos, X.eq⟩
set_option maxRecDepth 100000 in
set_option maxHeartbeats 4000000 in
theorem drawMergeMosaics_any (A : Option Addr) (n c : Nat) (bs : List Int) (w : World) (r : Rd w A n (byteV bs)) (hx : ∀ x ∈ bs, 0 ≤ x ∧ x ≤ 255) (hn : n ≤ 4096) :
    Calls Tryd.prog 5 #[.slice A n c] w (DrawnMM w) := by
  have b0 : Below w.heap.size w ((w.alloc (.cells #[.int .i64 0, .int .i64 0, .slice none 0 0, .slice none 0 0] 26)).alloc (.cells #[.int .i64 0, .int .i64 0, .slice none 0 0, .slice none 0 0] 26)) := (by (repeat (first | (with_reducible assumption) | (with_reducible exact Below.refl _ _) | (with_reducible refine Below.drew ?_) | (with_reducible refine Below.drewN ?_ _) | (with_reducible refine Below.setCell ?_ ?_ _) | (with_reducible refine Below.alloc ?_ ?_ _) | assumption)); all_goals (first | omega | (simp; done) | (simp; omega)))
  have K0 : Blk ((w.alloc (.cells #[.int .i64 0, .int .i64 0, .slice none 0 0, .slice none 0 0] 26)).alloc (.cells #[.int .i64 0, .int .i64 0, .slice none 0 0, .slice none 0 0] 26)) w.heap.size 26 #[.int .i64 0, .int .i64 0, .slice none 0 0, .slice none 0 0] := (Blk.new _ _ _).alloc _
  have J0 : Blk ((w.alloc (.cells #[.int .i64 0, .int .i64 0, .slice none 0 0, .slice none 0 0] 26)).alloc (.cells #[.int .i64 0, .int .i64 0, .slice none 0 0, .slice none 0 0] 26)) (w.heap.size + 1) 26 #[.int .i64 0, .int .i64 0, .slice none 0 0, .slice none 0 0] := Blk.newN (g := w.heap.size + 1) _ _ _ (by simp)
  go_enter Tryd.func5, Tryd.ntmps5
  go_upto_region 1 with fail
  generalize (w.alloc (.cells #[.int .i64 0, .int .i64 0, .slice none 0 0, .slice none 0 0] 26)).alloc (.cells #[.int .i64 0, .int .i64 0, .slice none 0 0, .slice none 0 0] 26) = w0 at b0 K0 J0 ⊢
  have gK0 := K0.lt
  have gJ0 := J0.lt
  go_wp2_with fail
  refine (l01From_any A n c bs _ (r.below b0) hx hn).mono ?_
  rintro e w1 ⟨g, rfl, S1, b1⟩
  have D1 := Dr.start S1
  have hg := S1.lt.2
  have K1 := K0.below b1 gK0
  have J1 := J0.below b1 gJ0
  have gK1 := K1.lt
  have gJ1 := J1.lt
  clear S1 K0 J0
  go_wp2_with fail
  refine (l19Draw_any _ g _ D1.src).mono ?_
  rintro e w2 ⟨⟨⟨Av, nv, cv⟩, ⟨Ag, ng, cg⟩⟩, ⟨lw, lh, lv, lg⟩, rfl, X2, D2⟩
  have K2 := K1.nx D2.gr (by omega)
  have J2 := J1.nx D2.gr (by omega)
  clear D1 K1 J1
  unfold MosaicV
  simp only
  go_wp2_with fail
  have hz2 : w1.heap.size ≤ w2.heap.size := D2.gr.size
  have B3 := Blk.new w2 26 #[.int .i64 lw, .int .i64 lh, .slice Av nv cv, .slice Ag ng cg]
  have D3 := D2.alloc (.cells #[.int .i64 lw, .int .i64 lh, .slice Av nv cv, .slice Ag ng cg] 26)
  have K3 := K2.alloc (.cells #[.int .i64 lw, .int .i64 lh, .slice Av nv cv, .slice Ag ng cg] 26)
  have J3 := J2.alloc (.cells #[.int .i64 lw, .int .i64 lh, .slice Av nv cv, .slice Ag ng cg] 26)
  have X3 := X2.alloc (.cells #[.int .i64 lw, .int .i64 lh, .slice Av nv cv, .slice Ag ng cg] 26)
  have hQ0 : ∀ s ∈ MosaicR ⟨⟨Av, nv, cv⟩, ⟨Ag, ng, cg⟩⟩, s ≠ some w2.heap.size := (X2.rd.lo).ne (Nat.le_refl _)
  generalize w2.alloc (.cells #[.int .i64 lw, .int .i64 lh, .slice Av nv cv, .slice Ag ng cg] 26) = w3 at B3 D3 K3 J3 X3 ⊢
  generalize w2.heap.size = Q at B3 hz2 hQ0 ⊢
  clear D2 K2 J2 X2
  have hQg : g ≠ Q := by have := D3.lt; omega
  have hQ1 : Q ≠ w.heap.size := by omega
  have hQ2 : w.heap.size ≠ Q := by omega
  have hQ3 : Q ≠ w.heap.size + 1 := by omega
  have hQ4 : w.heap.size + 1 ≠ Q := by omega
  refine (l01Next_any _ g 6 _ D3.src (by decide)).mono ?_
  rintro e w4 ⟨x, rfl, x0, x1, g4, S4⟩
  have D4 := D3.next g4 S4
  have K4 := K3.nx g4 (by omega)
  have J4 := J3.nx g4 (by omega)
  have B4 := B3.nx g4 hQg
  have X4 := X3.nx g4 D3.lt
  clear D3 K3 J3 B3 X3 g4 S4
  by_cases h0 : x = 0
  · subst h0
    have B40 := B4
    go_upto_region 4 with fail
    have D5 := D4.drew
    have K5 := Blk.drew K4
    have J5 := Blk.drew J4
    have B5 := Blk.drew B4
    have X5 := X4.bel (Below.drew (Below.refl _ _))
    clear D4 K4 J4 B4 X4
    have hS5 := fun o => B5.cell o
    go_region_held3 (fun w' => ∀ o, w'.cell? ⟨Q, o, none⟩ = (#[.int .i64 lw, .int .i64 lh, .slice Av nv cv, .slice Ag ng cg] : Array Value)[o]?)
      (first | (with_reducible assumption) | (intro o; go_keep))
      (first
        | (go_at_call 17; refine (l19Draw_any _ g _ D5.src).mono ?_; rintro e w6 ⟨⟨⟨Bv, qv, dv⟩, ⟨Bg, qg, dg⟩⟩, l', rfl, X6, D6'⟩; have D6 := D5.next D6'.gr D6'.src; have K6 := K5.nx D6'.gr (by omega); have J6 := J5.nx D6'.gr (by omega); have B6 := B5.nx D6'.gr hQg; have Y6 := X5.nx D6'.gr D5.lt; have hS6 := fun o => B6.cell o; unfold MosaicV; simp only; have cK := fun o => K6.cell o; have fK := fun o => K6.frozen o; have gK := K6.lt; have cJ := fun o => J6.cell o; have fJ := fun o => J6.frozen o; have gJ := J6.lt))
    all_goals
      have b9 := b0.trans ((D6.fin b1).mono b0.size)
      have z9 : w1.heap.size ≤ w4.drew.heap.size := D5.gr.size
      have hk1 : w.heap.size < w1.heap.size := by omega
      have hj1 : w.heap.size + 1 < w1.heap.size := by omega
      have hk2 : w.heap.size < w4.drew.heap.size := by omega
      have hj2 : w.heap.size + 1 < w4.drew.heap.size := by omega
      clear hS5 hS6 D5 K5 J5 B5 X5 D6 D6'
      go_wp2
      refine bodyPost_ret (v := .tuple #[.agg #[.int .i64 lw, .int .i64 lh, .slice Av nv cv, .slice Ag ng cg], .agg #[.int .i64 l'.wide, .int .i64 l'.high, .slice Bv qv dv, .slice Bg qg dg]]) (by simp [results, Tryd.results5, go_sem, cK, cJ]) rfl ?_
      refine ⟨⟨⟨Av, nv, cv⟩, ⟨Ag, ng, cg⟩⟩, ⟨lw, lh, lv, lg⟩, ⟨⟨Bv, qv, dv⟩, ⟨Bg, qg, dg⟩⟩, l', rfl, Y6.ok, ?_, X6.ok, ?_, (by (repeat (first | (with_reducible assumption) | (with_reducible exact Below.refl _ _) | (with_reducible refine Below.drew ?_) | (with_reducible refine Below.drewN ?_ _) | (with_reducible refine Below.setCell ?_ ?_ _) | (with_reducible refine Below.alloc ?_ ?_ _) | assumption)); all_goals (first | omega | (simp; done) | (simp; omega)))⟩
      · refine MosW.rd (B := w1.heap.size) ?_; repeat (first | with_reducible exact Y6 | with_reducible refine MosW.cell ?_ (by with_reducible assumption) _ | with_reducible refine MosW.drew ?_)
      · refine MosW.rd (B := w4.drew.heap.size) ?_; repeat (first | with_reducible exact X6 | with_reducible refine MosW.cell ?_ (by with_reducible assumption) _ | with_reducible refine MosW.drew ?_)
  · have q0 : (x == 0) = false := by rw [beq_eq_false_iff_ne]; exact h0
    have cB := fun o => B4.cell o
    have gB := B4.lt
    have HI := specIsMosaic_any ⟨⟨Av, nv, cv⟩, ⟨Ag, ng, cg⟩⟩ ⟨lw, lh, lv, lg⟩ w4 X4.ok X4.rd
    unfold MosaicV at HI
    simp only at HI
    go_wp2_with fail
    refine HI.mono ?_
    rintro e w5 ⟨rfl, b5⟩
    clear HI cB gB
    have D4 := D4.bel b5
    have K4 := K4.below b5 K4.lt
    have J4 := J4.below b5 J4.lt
    have B4 := B4.below b5 B4.lt
    have X4 := X4.bel b5
    clear b5
    obtain ⟨ok, hok⟩ : ∃ ok, mosOk ⟨lw, lh, lv, lg⟩ = ok := ⟨_, rfl⟩
    rw [hok]
    cases ok
    · go_upto_region 4 with fail
      have D5 := D4.drew
      have K5 := Blk.drew K4
      have J5 := Blk.drew J4
      have B5 := Blk.drew B4
      have X5 := X4.bel (Below.drew (Below.refl _ _))
      clear D4 K4 J4 B4 X4
      have hS5 := fun o => B5.cell o
      go_region_held3 (fun w' => ∀ o, w'.cell? ⟨Q, o, none⟩ = (#[.int .i64 lw, .int .i64 lh, .slice Av nv cv, .slice Ag ng cg] : Array Value)[o]?)
        (first | (with_reducible assumption) | (intro o; go_keep))
        (first
          | (go_at_call 17; refine (l19Draw_any _ g _ D5.src).mono ?_; rintro e w6 ⟨⟨⟨Bv, qv, dv⟩, ⟨Bg, qg, dg⟩⟩, l', rfl, X6, D6'⟩; have D6 := D5.next D6'.gr D6'.src; have K6 := K5.nx D6'.gr (by omega); have J6 := J5.nx D6'.gr (by omega); have B6 := B5.nx D6'.gr hQg; have Y6 := X5.nx D6'.gr D5.lt; have hS6 := fun o => B6.cell o; unfold MosaicV; simp only; have cK := fun o => K6.cell o; have fK := fun o => K6.frozen o; have gK := K6.lt; have cJ := fun o => J6.cell o; have fJ := fun o => J6.frozen o; have gJ := J6.lt))
      all_goals
        have b9 := b0.trans ((D6.fin b1).mono b0.size)
        have z9 : w1.heap.size ≤ w5.drew.heap.size := D5.gr.size
        have hk1 : w.heap.size < w1.heap.size := by omega
        have hj1 : w.heap.size + 1 < w1.heap.size := by omega
        have hk2 : w.heap.size < w5.drew.heap.size := by omega
        have hj2 : w.heap.size + 1 < w5.drew.heap.size := by omega
        clear hS5 hS6 D5 K5 J5 B5 X5 D6 D6'
        go_wp2
        refine bodyPost_ret (v := .tuple #[.agg #[.int .i64 lw, .int .i64 lh, .slice Av nv cv, .slice Ag ng cg], .agg #[.int .i64 l'.wide, .int .i64 l'.high, .slice Bv qv dv, .slice Bg qg dg]]) (by simp [results, Tryd.results5, go_sem, cK, cJ]) rfl ?_
        refine ⟨⟨⟨Av, nv, cv⟩, ⟨Ag, ng, cg⟩⟩, ⟨lw, lh, lv, lg⟩, ⟨⟨Bv, qv, dv⟩, ⟨Bg, qg, dg⟩⟩, l', rfl, Y6.ok, ?_, X6.ok, ?_, (by (repeat (first | (with_reducible assumption) | (with_reducible exact Below.refl _ _) | (with_reducible refine Below.drew ?_) | (with_reducible refine Below.drewN ?_ _) | (with_reducible refine Below.setCell ?_ ?_ _) | (with_reducible refine Below.alloc ?_ ?_ _) | assumption)); all_goals (first | omega | (simp; done) | (simp; omega)))⟩
        · refine MosW.rd (B := w1.heap.size) ?_; repeat (first | with_reducible exact Y6 | with_reducible refine MosW.cell ?_ (by with_reducible assumption) _ | with_reducible refine MosW.drew ?_)
        · refine MosW.rd (B := w5.drew.heap.size) ?_; repeat (first | with_reducible exact X6 | with_reducible refine MosW.cell ?_ (by with_reducible assumption) _ | with_reducible refine MosW.drew ?_)
    · have M := MOk.of hok
      clear hok
      obtain ⟨a, rfl⟩ : ∃ a : Nat, lw = a := ⟨lw.toNat, by have := M.w0; simp only at this; omega⟩
      obtain ⟨b, rfl⟩ : ∃ b : Nat, lh = b := ⟨lh.toNat, by have := M.h0; simp only at this; omega⟩
      have ha0 : 1 ≤ a := by have := M.w0; simp only at this; omega
      have ha1 : a ≤ 40 := by have := M.w1; simp only at this; omega
      have hb0 : 1 ≤ b := by have := M.h0; simp only at this; omega
      have hb1 : b ≤ 40 := by have := M.h1; simp only at this; omega
      have hml := M.len
      have hvl : lv.length = nv := X4.rd.head.len
      have hle := X4.le
      simp only at hml hle
      rw [hvl, ← Int.natCast_mul] at hml
      have hnv : nv = a * b := by exact_mod_cast hml
      have hn1 : 1 ≤ a * b := Nat.mul_pos ha0 hb0
      have hn2 : a * b ≤ 30 := by omega
      clear M hml hle hvl hnv
      have cB := fun o => B4.cell o
      have gB := B4.lt
      go_wp2_with fail
      refine (l19New_any a b _ (by omega) (by omega)).mono ?_
      rintro e w6 ⟨h, rfl, hv, hg, O, b6⟩
      clear cB gB
      have Y6 : MosW w6 w5.heap.size h (newM a b) := MosW.of O hv hg hn1 hn2
      have LO := X4.rd.lo
      have hw5 : ∀ z, Blk w5 z 26 #[.int .i64 (a : Int), .int .i64 (b : Int), .slice Av nv cv, .slice Ag ng cg] → z < w5.heap.size := fun z B => B.lt
      have hQ5 : Q < w5.heap.size := B4.lt
      have hK5 : w.heap.size < w5.heap.size := K4.lt
      have hJ5 : w.heap.size + 1 < w5.heap.size := J4.lt
      have hw15 : w1.heap.size ≤ w5.heap.size := D4.gr.size
      clear hw5
      have D6 := D4.bel b6
      have K6 := K4.below b6 K4.lt
      have J6 := J4.below b6 J4.lt
      have B6 := B4.below b6 B4.lt
      have X6 := X4.bel b6
      generalize w5.heap.size = N5 at Y6 LO hQ5 hK5 hJ5 hw15 b6
      clear D4 K4 J4 B4 X4 b6 O
      obtain ⟨⟨Bv, n2, dv⟩, ⟨Bg, n3, dg⟩⟩ := h
      simp only at hv hg
      obtain ⟨m, hm⟩ : ∃ m, a * b = m := ⟨_, rfl⟩
      have hmI : (a : Int) * (b : Int) = (m : Int) := by rw [← Int.natCast_mul, hm]
      rw [hm] at hv hg hn1 hn2
      subst hg
      subst hv
      obtain ⟨l0, hl0, hlw, hlh⟩ : ∃ l : MosaicC, l = newM a b ∧ l.wide = (a : Int) ∧ l.high = (b : Int) := ⟨_, rfl, rfl, rfl⟩
      rw [← hl0] at Y6
      unfold MosaicV newM
      simp only
      clear hm hl0
      go_wp2_with fail
      have R7 := Blk.new w6 26 #[.int .i64 (a : Int), .int .i64 (b : Int), .slice Bv n2 dv, .slice Bg n2 dg]
      have D7 := D6.alloc (.cells #[.int .i64 (a : Int), .int .i64 (b : Int), .slice Bv n2 dv, .slice Bg n2 dg] 26)
      have K7 := K6.alloc (.cells #[.int .i64 (a : Int), .int .i64 (b : Int), .slice Bv n2 dv, .slice Bg n2 dg] 26)
      have J7 := J6.alloc (.cells #[.int .i64 (a : Int), .int .i64 (b : Int), .slice Bv n2 dv, .slice Bg n2 dg] 26)
      have B7 := B6.alloc (.cells #[.int .i64 (a : Int), .int .i64 (b : Int), .slice Bv n2 dv, .slice Bg n2 dg] 26)
      have X7 := X6.alloc (.cells #[.int .i64 (a : Int), .int .i64 (b : Int), .slice Bv n2 dv, .slice Bg n2 dg] 26)
      have Y7 := Y6.alloc (.cells #[.int .i64 (a : Int), .int .i64 (b : Int), .slice Bv n2 dv, .slice Bg n2 dg] 26)
      have hR0 : ∀ s ∈ MosaicR ⟨⟨Bv, n2, dv⟩, ⟨Bg, n2, dg⟩⟩, s ≠ some w6.heap.size := (Y6.rd.lo).ne (Nat.le_refl _)
      have gg6 : g < w6.heap.size := Nat.lt_of_lt_of_le D6.lt D6.gr.size
      have qq6 : Q < w6.heap.size := B6.lt
      have kk6 : w.heap.size < w6.heap.size := K6.lt
      have jj6 : w.heap.size + 1 < w6.heap.size := J6.lt
      have ww6 : w1.heap.size ≤ w6.heap.size := D6.gr.size
      generalize w6.alloc (.cells #[.int .i64 (a : Int), .int .i64 (b : Int), .slice Bv n2 dv, .slice Bg n2 dg] 26) = w7 at R7 D7 K7 J7 B7 X7 Y7 ⊢
      generalize w6.heap.size = R at R7 hR0 gg6 qq6 kk6 jj6 ww6 ⊢
      clear D6 K6 J6 B6 X6 Y6
      have hgR : g ≠ R := by omega
      have hQR : Q ≠ R := by omega
      have hRQ : R ≠ Q := by omega
      have hKR : w.heap.size ≠ R := by omega
      have hRK : R ≠ w.heap.size := by omega
      have hJR : w.heap.size + 1 ≠ R := by omega
      have hRJ : R ≠ w.heap.size + 1 := by omega
      have HLO := Lib.hid LO
      have HR0 := Lib.hid hR0
      have HQ0 := Lib.hid hQ0
      clear LO hR0 hQ0
      go_loopw [7] (fun i wr => ∃ (k : Nat) (l : MosaicC), k ≤ n2 ∧ i = .int .i64 k ∧ l.wide = (a : Int) ∧ l.high = (b : Int) ∧ MosW wr N5 ⟨⟨Bv, n2, dv⟩, ⟨Bg, n2, dg⟩⟩ l ∧ Blk wr R 26 #[.int .i64 (a : Int), .int .i64 (b : Int), .slice Bv n2 dv, .slice Bg n2 dg] ∧ MosW wr w1.heap.size ⟨⟨Av, nv, cv⟩, ⟨Ag, ng, cg⟩⟩ ⟨(a : Int), (b : Int), lv, lg⟩ ∧ Blk wr Q 26 #[.int .i64 (a : Int), .int .i64 (b : Int), .slice Av nv cv, .slice Ag ng cg] ∧ Blk wr w.heap.size 26 #[.int .i64 0, .int .i64 0, .slice none 0 0, .slice none 0 0] ∧ Blk wr (w.heap.size + 1) 26 #[.int .i64 0, .int .i64 0, .slice none 0 0, .slice none 0 0] ∧ Dr w1 wr w0.heap.size g) (fun i _ => n2 - (intOf i).toNat)
      case atStart => exact ⟨0, l0, Nat.zero_le _, rfl, hlw, hlh, Y7, R7, X7, B7, K7, J7, D7⟩
      case round =>
        clear Y7 R7 X7 B7 K7 J7 D7 hlw hlh
        obtain ⟨k, l, hk, rfl, hlw, hlh, Y, B, X, C, K, J, D⟩ := hrel
        have cR := fun o => B.cell o
        have fR := fun o => B.frozen o
        have gR := B.lt
        by_cases hlt : k < n2
        · have hltI : (k : Int) < (n2 : Int) := by omega
          go_wp2_with fail
          refine (l01Next_any _ g 2 _ D.src (by decide)).mono ?_
          rintro e w8 ⟨r, rfl, r0, r1, g8, S8⟩
          have D8 := D.next g8 S8
          have K8 := K.nx g8 (by omega)
          have J8 := J.nx g8 (by omega)
          have C8 := C.nx g8 hQg
          have B8 := B.nx g8 hgR
          have X8 := X.nx g8 D.lt
          have Y8 := Y.nx g8 (by have := D.lt; omega)
          clear D K J B C X Y cR fR gR g8 S8
          have cR := fun o => B8.cell o
          have gR := B8.lt
          by_cases hr : 0 < r
          · have HP := fun (v z : Int) (W : World) (Y : MosW W N5 ⟨⟨Bv, n2, dv⟩, ⟨Bg, n2, dg⟩⟩ l) => specPut_any N5 ⟨⟨Bv, n2, dv⟩, ⟨Bg, n2, dg⟩⟩ l k v z W Y.ok rfl hlt Y.rd Y.wr Y.sp
            simp only [MosaicV, hlw, hlh] at HP
            have HP' := Lib.hid HP
            have HLW := Lib.hid hlw
            have HLH := Lib.hid hlh
            clear HP
            clear hlw hlh
            go_wp2_with fail
            have D9 := D8.drew
            have K9 := Blk.drew K8
            have J9 := Blk.drew J8
            have C9 := Blk.drew C8
            have B9 := Blk.drew B8
            have X9 := X8.bel (Below.drew (Below.refl _ _))
            have Y9 := Y8.bel (Below.drew (Below.refl _ _))
            have hS9 := fun o => B9.cell o
            clear D8 K8 J8 C8 B8 X8 Y8 cR gR
            go_region_held3 (fun w' => ∀ o, w'.cell? ⟨R, o, none⟩ = (#[.int .i64 (a : Int), .int .i64 (b : Int), .slice Bv n2 dv, .slice Bg n2 dg] : Array Value)[o]?)
              (first | (with_reducible assumption) | (intro o; go_keep))
              (first
                | (go_at_call_of 18 (Value.int .i64 9); refine (l01Next_any _ g 9 _ D10.src (by decide)).mono ?_; rintro e w11 ⟨z, rfl, z0, z1, g11, S11⟩; have D11 := D10.next g11 S11; have K11 := K10.nx g11 (by omega); have J11 := J10.nx g11 (by omega); have C11 := C10.nx g11 hQg; have B11 := B10.nx g11 hgR; have X11 := X10.nx g11 D10.lt; have Y11 := Y10.nx g11 (by have := D10.lt; omega); have m11 : IntKind.i64.wrap (1 + z) = 1 + z := IntWalk.i64_in _ (by omega); have hS11 := fun o => B11.cell o)
                | (go_at_call_of 18 (Value.int .i64 1001); refine (l01Next_any _ g 1001 _ D9.src (by decide)).mono ?_; rintro e w10 ⟨v, rfl, v0, v1, g10, S10⟩; have D10 := D9.next g10 S10; have K10 := K9.nx g10 (by omega); have J10 := J9.nx g10 (by omega); have C10 := C9.nx g10 hQg; have B10 := B9.nx g10 hgR; have X10 := X9.nx g10 D9.lt; have Y10 := Y9.nx g10 (by have := D9.lt; omega); have hS10 := fun o => B10.cell o)
                | (go_at_call 21; (with_reducible refine (HP'.out v (1 + z) _ Y11).mono ?_); rintro e w12 ⟨rfl, hp⟩; have B12 := B11.touch hp.2.2 HR0.out; have hS12 := fun o => B12.cell o))
            all_goals
              have Y12 : MosW w12 N5 ⟨⟨Bv, n2, dv⟩, ⟨Bg, n2, dg⟩⟩ (putM l k v (1 + z)) := ⟨hp.1, hp.2.1, Y11.sp, Y11.le, Y11.pos, Y11.eq⟩
              have K12 := K11.touch hp.2.2 (Y11.ne hK5)
              have J12 := J11.touch hp.2.2 (Y11.ne hJ5)
              have C12 := C11.touch hp.2.2 (Y11.ne hQ5)
              have X12 := X11.touch hp.2.2 (Off.up HLO.out Y11.wr.hi)
              have D12 := D11.touch hp.2.2 (fun s hs b e => by have := Y11.wr.hi s hs b e; omega)
              clear hp Y9 Y10 Y11 X9 X10 X11 B9 B10 B11 C9 C10 C11 K9 K10 K11 J9 J10 J11 D9 D10 D11 hS9 hS10 hS11 hS12 S10 S11 g10 g11 HP' m11
              go_wp2
              go_roundw
              case rel => exact ⟨k + 1, putM l k v (1 + z), by omega, by go_num, HLW.out, HLH.out, Y12, B12, X12, C12, K12, J12, D12⟩
              case measure => simp [intOf]; omega
          · have hr0 : ¬ (0 : Int) < r := hr
            clear cR gR
            go_wp2
            go_roundw
            case rel => exact ⟨k + 1, l, by omega, by go_num, hlw, hlh, Y8, B8, X8, C8, K8, J8, D8⟩
            case measure => simp [intOf]; omega
        · obtain rfl : n2 = k := by omega
          have hltI : ¬ (n2 : Int) < (n2 : Int) := by omega
          have HX := Lib.hid X
          have HY := Lib.hid Y
          have HD := Lib.hid D
          clear X Y D
          go_upto_region 11 with fail
          clear cR fR gR
          have cR := fun o => B.cell o
          have fR := fun o => B.frozen o
          have gR := B.lt
          have cC := fun o => C.cell o
          have gC := C.lt
          have cK := fun o => K.cell o
          have fK := fun o => K.frozen o
          have gK := K.lt
          have cJ := fun o => J.cell o
          have fJ := fun o => J.frozen o
          have gJ := J.lt
          go_region
          all_goals
            have X := HX.out
            have Y : MosW wr N5 ⟨⟨Bv, n2, dv⟩, ⟨Bg, n2, dg⟩⟩ ⟨(a : Int), (b : Int), l.values, l.grades⟩ := by
              have e : (⟨(a : Int), (b : Int), l.values, l.grades⟩ : MosaicC) = l := by rw [← hlw, ← hlh]
              rw [e]; exact HY.out
            have hk1 : w.heap.size < w1.heap.size := by omega
            have hj1 : w.heap.size + 1 < w1.heap.size := by omega
            have hk2 : w.heap.size < N5 := by omega
            have hj2 : w.heap.size + 1 < N5 := by omega
            have b9 := b0.trans ((HD.out.fin b1).mono b0.size)
            go_wp2
            refine bodyPost_ret (v := .tuple #[.agg #[.int .i64 (a : Int), .int .i64 (b : Int), .slice Av nv cv, .slice Ag ng cg], .agg #[.int .i64 (a : Int), .int .i64 (b : Int), .slice Bv n2 dv, .slice Bg n2 dg]]) (by simp [results, Tryd.results5, go_sem, cK, cJ]) rfl ?_
            refine ⟨⟨⟨Av, nv, cv⟩, ⟨Ag, ng, cg⟩⟩, ⟨(a : Int), (b : Int), lv, lg⟩, ⟨⟨Bv, n2, dv⟩, ⟨Bg, n2, dg⟩⟩, ⟨(a : Int), (b : Int), l.values, l.grades⟩, rfl, X.ok, ?_, Y.ok, ?_, (by (repeat (first | (with_reducible assumption) | (with_reducible exact Below.refl _ _) | (with_reducible refine Below.drew ?_) | (with_reducible refine Below.drewN ?_ _) | (with_reducible refine Below.setCell ?_ ?_ _) | (with_reducible refine Below.alloc ?_ ?_ _) | assumption)); all_goals (first | omega | (simp; done) | (simp; omega)))⟩
            · refine MosW.rd (B := w1.heap.size) ?_; repeat (first | with_reducible exact X | with_reducible refine MosW.cell ?_ (by with_reducible assumption) _ | with_reducible refine MosW.drew ?_)
            · refine MosW.rd (B := N5) ?_; repeat (first | with_reducible exact Y | with_reducible refine MosW.cell ?_ (by with_reducible assumption) _ | with_reducible refine MosW.drew ?_)
end Go.Proofs.YtilieonalmihaaaDoor
