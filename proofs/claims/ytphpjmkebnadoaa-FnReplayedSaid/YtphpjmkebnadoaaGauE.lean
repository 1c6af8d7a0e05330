/- slices.SortFunc at records, by their times. Condition: a list that is not empty, in memory of the call's own. -/
import Derived.Test.YtphpjmkebnadoaaSortL
namespace Go.Proofs.Ytphpjmkebnadoaa
open Go.RowKit Go.Shelf Go.Lib

set_option maxHeartbeats 1000000 in
theorem sortRecs_any (B : Nat) (h : Hd) (xs : List Int) (ks : List Nat) (w : World) (o : Own w B 7 h (recsV xs ks)) (hn : 0 < h.n) (hz : h.n ≤ 1048576) :
    Calls Try.prog 78 #[.slice h.A h.n h.c, .func (.func 79) #[] #[]] w fun e w' => e = .returned (.tuple #[]) ∧ ∃ ks' : List Nat, ks'.Perm ks ∧ ks'.Pairwise (fun i j => recT xs i ≤ recT xs j) ∧ Rd w' h.A (h.n * 7) (recsV xs ks') ∧ w.grownBy w' h.row := by
  have hl := o.len
  rw [recsV_len] at hl
  have hnc := o.nc
  obtain ⟨A, n, c⟩ := h
  simp only at hn hz hl hnc ⊢
  have hk : ks.length = n := by omega
  cases A with
  | none => have := o.nil_ rfl; simp only at this; omega
  | some ad =>
    obtain ⟨had, hb, hH⟩ := holds_of_own o rfl hn
    have hrow : (⟨some ad, n, c⟩ : Hd).row = some ad.block := Hd.row_mk rfl (show 0 < c by omega)
    have eg : ∀ args w, (callFunc 79 args).run Try.prog w = .ok (.enter 79 args) w := enters_of Try.func79 (by kernel_rfl) rfl
    have hcon := AnyQ.slices_SortFunc sortRec 7 Try.isAgg47 Try.sizeOf47 (encR xs) (fun _ => rfl) (oneCell_encR xs) (cmpR xs) (swo_cmpR xs) 79 #[] ad.block ad.off c ks.toArray w eg (fun _ _ _ _ i j => cmpRec_any xs i j _) hH hb (by simp; omega)
    rw [← had, show ks.toArray.size = n by simpa using hk] at hcon
    rw [hrow]
    refine hcon.mono ?_
    rintro e w' ⟨rfl, d', m, os, hp, hs, rfl⟩
    rw [show n = ks.toArray.size by simpa using hk.symm] at hp hs
    refine ⟨rfl, d'.toList, by simpa using perm_of hp, sorted_of hp.1 hs, ?_, grown_sortK _ _ _⟩
    have h2 := holdsK_sortWorldK_c (encR xs) 7 w ad.block ad.off ks.toArray d' m os hH hb hp.1
    have h3 := rd_of_holds (n := n) (ks := d'.toList) (by have := hp.1; simp at this; simp; omega) (by simpa using h2)
    rw [← had] at h3
    exact h3
end Go.Proofs.Ytphpjmkebnadoaa
