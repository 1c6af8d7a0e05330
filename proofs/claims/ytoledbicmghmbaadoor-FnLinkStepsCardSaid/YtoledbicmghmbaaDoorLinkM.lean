/- Links: what a step does, in plain lists. -/
import Derived.Test.YtoledbicmghmbaaDoorLinkO
namespace Go.Proofs.YtoledbicmghmbaaDoor
open Go.RowKit

def canL (l : LinkC) (k : Int) : Bool :=
  if k = 0 then decide (l.next < l.base + 3) && decide (l.next < (l.items.length : Int)) && decide ((l.packets.length : Int) < 24)
  else if k = 1 ∨ k = 2 then decide (0 < (l.packets.length : Int))
  else if k = 3 ∨ k = 4 then decide (0 < (l.acks.length : Int)) else true
def arrGot (l : LinkC) : List Int := if l.packets.getD 0 0 = (l.got.length : Int) % 4 ∧ (l.got.length : Int) < 20 then l.got ++ [l.packets.getD 1 0] else l.got
def arrAcks (l : LinkC) : List Int := if (l.acks.length : Int) < 12 then l.acks ++ [((arrGot l).length : Int) % 4] else l.acks
def ackBase (l : LinkC) : Int := min (l.base + (l.acks.getD 0 0 - l.base % 4 + 4) % 4) (l.items.length : Int)
def stepL (l : LinkC) (k : Int) : LinkC :=
  if k = 0 then ⟨l.items, l.base, l.next + 1, l.packets ++ [l.next % 4, l.items.getD l.next.toNat 0], l.acks, l.got⟩
  else if k = 1 then ⟨l.items, l.base, l.next, l.packets.drop 2, arrAcks l, arrGot l⟩
  else if k = 2 then ⟨l.items, l.base, l.next, l.packets.drop 2, l.acks, l.got⟩
  else if k = 3 then ⟨l.items, ackBase l, max l.next (ackBase l), l.packets, l.acks.drop 1, l.got⟩
  else if k = 4 then ⟨l.items, l.base, l.next, l.packets, l.acks.drop 1, l.got⟩
  else ⟨l.items, l.base, l.base, l.packets, l.acks, l.got⟩

/-- A link that is valid. -/
structure LOk (l : LinkC) : Prop where
  n : l.items.length ≤ 20
  items : allIn l.items 0 255 = true
  base0 : 0 ≤ l.base
  base1 : l.base ≤ l.items.length
  next0 : l.base ≤ l.next
  next1 : l.next ≤ l.base + 3
  next2 : l.next ≤ l.items.length
  even : l.packets.length % 2 = 0
  np : l.packets.length ≤ 24
  packets : pktsIn l.packets (l.packets.length / 2) = true
  na : l.acks.length ≤ 12
  acks : allIn l.acks 0 3 = true
  ng : l.got.length ≤ 20
  got : allIn l.got 0 255 = true
theorem LOk.of {l : LinkC} (h : linkOk l = true) (he : l.packets.length % 2 = 0) : LOk l := by
  unfold linkOk at h
  simp only [Bool.and_eq_true, decide_eq_true_eq] at h
  obtain ⟨⟨⟨⟨⟨h0, h1⟩, h2⟩, h3, h4⟩, h5⟩, h6⟩ := h
  have a0 := okList_true h0
  have a5 := okList_true h5
  have a6 := okList_true h6
  have b1 := inR_true h1
  have b2 := inR_true h2
  exact ⟨by omega, a0.2, b1.1, b1.2, b2.1, by omega, by omega, he, by omega, h4, by omega, a5.2, by omega, a6.2⟩
theorem LOk.to {l : LinkC} (h : LOk l) : linkOk l = true := by
  unfold linkOk okList
  have e1 := inR_mk h.base0 h.base1
  have e2 : inR l.next l.base (min (l.base + 3) l.items.length) = true := inR_mk h.next0 (by have := h.next1; have := h.next2; omega)
  have := h.n; have := h.np; have := h.na; have := h.ng
  simp only [e1, e2, h.items, h.packets, h.acks, h.got, Bool.and_true, Bool.and_eq_true, decide_eq_true_eq]
  omega
theorem getD_app_l {xs ys : List Int} {k : Nat} (h : k < xs.length) : (xs ++ ys).getD k 0 = xs.getD k 0 := by simp only [List.getD_eq_getElem?_getD, List.getElem?_append_left h]
theorem getD_app_r {xs ys : List Int} {k : Nat} (h : xs.length ≤ k) : (xs ++ ys).getD k 0 = ys.getD (k - xs.length) 0 := by simp only [List.getD_eq_getElem?_getD, List.getElem?_append_right h]
theorem getD_out {xs : List Int} {k : Nat} (h : xs.length ≤ k) : xs.getD k 0 = 0 := by simp only [List.getD_eq_getElem?_getD, List.getElem?_eq_none h, Option.getD_none]
theorem allIn_append (xs ys : List Int) (lo hi : Int) : allIn (xs ++ ys) lo hi = (allIn xs lo hi && allIn ys lo hi) := by unfold allIn; exact List.all_append
theorem allIn_drop {xs : List Int} {lo hi : Int} (h : allIn xs lo hi = true) (k : Nat) : allIn (xs.drop k) lo hi = true := by
  unfold allIn at *; rw [List.all_eq_true] at *; exact fun x hx => h x (List.mem_of_mem_drop hx)
theorem pktsIn_drop {xs : List Int} {n : Nat} (h : pktsIn xs (n + 1) = true) : pktsIn (xs.drop 2) n = true := by
  unfold pktsIn at *
  rw [List.all_eq_true] at *
  intro k hk
  have := h (k + 1) (List.mem_range.2 (by have := List.mem_range.1 hk; omega))
  unfold pktIn at *
  rw [show (k + 1) * 2 = 2 + k * 2 from by omega, show 2 + k * 2 + 1 = 2 + (k * 2 + 1) from by omega] at this
  simpa [List.getD_eq_getElem?_getD, List.getElem?_drop] using this
theorem pktsIn_push {xs : List Int} {n : Nat} (hl : xs.length = n * 2) (h : pktsIn xs n = true) {a b : Int} (ha : inR a 0 3 = true) (hb : inR b 0 255 = true) : pktsIn (xs ++ [a, b]) (n + 1) = true := by
  rw [pktsIn_succ]
  have e1 : pktsIn (xs ++ [a, b]) n = true := by
    unfold pktsIn at *
    rw [List.all_eq_true] at *
    intro k hk
    have hk' := List.mem_range.1 hk
    have := h k hk
    unfold pktIn at *
    rw [getD_app_l (by omega), getD_app_l (by omega)]
    exact this
  have e2 : pktIn (xs ++ [a, b]) n = true := by
    unfold pktIn
    rw [getD_app_r (by omega), getD_app_r (by omega), hl, show n * 2 - n * 2 = 0 from by omega, show n * 2 + 1 - n * 2 = 1 from by omega]
    simp only [List.getD_cons_zero, List.getD_cons_succ, ha, hb, Bool.and_true]
  rw [e1, e2]; rfl
theorem getD_in {xs : List Int} {lo hi : Int} (h : allIn xs lo hi = true) (h0 : lo ≤ 0) (h1 : 0 ≤ hi) (k : Nat) : lo ≤ xs.getD k 0 ∧ xs.getD k 0 ≤ hi := by
  by_cases hk : k < xs.length
  · exact allIn_getD h hk
  · rw [getD_out (by omega)]; exact ⟨h0, h1⟩
theorem pkt_at {l : LinkC} (h : LOk l) (hp : 0 < l.packets.length) : 0 ≤ l.packets.getD 0 0 ∧ l.packets.getD 0 0 ≤ 3 ∧ 0 ≤ l.packets.getD 1 0 ∧ l.packets.getD 1 0 ≤ 255 := by
  have h1 := h.packets
  unfold pktsIn at h1
  rw [List.all_eq_true] at h1
  have := h1 0 (List.mem_range.2 (by have := h.even; omega))
  unfold pktIn at this
  simp only [Bool.and_eq_true] at this
  have a := inR_true this.1
  have b := inR_true this.2
  simp only [Nat.zero_mul, Nat.zero_add] at a b
  omega
theorem ackBase_bd {l : LinkC} (h : LOk l) : l.base ≤ ackBase l ∧ ackBase l ≤ l.items.length ∧ ackBase l ≤ l.base + 3 := by
  unfold ackBase
  have := h.base0; have := h.base1
  omega
theorem arrGot_ok {l : LinkC} (h : LOk l) (hp : 0 < l.packets.length) : (arrGot l).length ≤ 20 ∧ allIn (arrGot l) 0 255 = true := by
  unfold arrGot
  have hp' := pkt_at h hp
  split
  · rename_i hc
    refine ⟨by simp; omega, ?_⟩
    rw [allIn_append, h.got, Bool.true_and]
    have := inR_mk hp'.2.2.1 hp'.2.2.2
    unfold allIn
    simpa using this
  · exact ⟨h.ng, h.got⟩
theorem stepL_ok {l : LinkC} (h : LOk l) {k : Int} (hk : inR k 0 5 = true) (hc : canL l k = true) : LOk (stepL l k) := by
  have hk' := inR_true hk
  unfold canL at hc
  unfold stepL
  split at hc
  · rename_i h0
    rw [if_pos h0]
    simp only [Bool.and_eq_true, decide_eq_true_eq] at hc
    have hn := getD_in h.items (by decide) (by decide) l.next.toNat
    obtain ⟨m, hm⟩ : ∃ m, l.packets.length = m * 2 := ⟨l.packets.length / 2, by have := h.even; omega⟩
    have hpk := h.packets
    rw [hm, Nat.mul_div_cancel _ (by decide)] at hpk
    have hpush := pktsIn_push hm hpk (a := l.next % 4) (b := l.items.getD l.next.toNat 0) (inR_mk (by omega) (by omega)) (inR_mk hn.1 hn.2)
    have := h.base0; have := h.next0
    exact ⟨h.n, h.items, h.base0, h.base1, by simp only; omega, by simp only; omega, by simp only; omega, by simp; omega, by simp; omega, by
      simp only [List.length_append, hm, List.length_cons, List.length_nil]
      rw [show (m * 2 + (0 + 1 + 1)) / 2 = m + 1 from by omega]
      exact hpush, h.na, h.acks, h.ng, h.got⟩
  · rename_i h0
    rw [if_neg h0]
    have hdrop : 0 < l.packets.length → pktsIn (l.packets.drop 2) ((l.packets.drop 2).length / 2) = true := fun hp => by
      obtain ⟨m, hm⟩ : ∃ m, l.packets.length = (m + 1) * 2 := ⟨l.packets.length / 2 - 1, by have := h.even; omega⟩
      have hpk := h.packets
      rw [hm, Nat.mul_div_cancel _ (by decide)] at hpk
      have := pktsIn_drop hpk
      rw [List.length_drop, hm, show ((m + 1) * 2 - 2) / 2 = m from by omega]
      exact this
    have hev := h.even
    have hnp := h.np
    split at hc
    · rename_i h1
      have hp : 0 < l.packets.length := by have := of_decide_eq_true hc; omega
      have hg := arrGot_ok h hp
      by_cases h1' : k = 1
      · rw [if_pos h1']
        have hna : (arrAcks l).length ≤ 12 := by unfold arrAcks; have := h.na; split <;> simp <;> omega
        have haa : allIn (arrAcks l) 0 3 = true := by
          unfold arrAcks
          split
          · rw [allIn_append, h.acks, Bool.true_and]
            have := inR_mk (x := ((arrGot l).length : Int) % 4) (lo := 0) (hi := 3) (by omega) (by omega)
            unfold allIn; simpa using this
          · exact h.acks
        exact ⟨h.n, h.items, h.base0, h.base1, h.next0, h.next1, h.next2, by simp; omega, by simp; omega, hdrop hp, hna, haa, hg.1, hg.2⟩
      · rw [if_neg h1', if_pos (by omega)]
        exact ⟨h.n, h.items, h.base0, h.base1, h.next0, h.next1, h.next2, by simp; omega, by simp; omega, hdrop hp, h.na, h.acks, h.ng, h.got⟩
    · rename_i h1
      rw [if_neg (by omega), if_neg (by omega)]
      split at hc
      · rename_i h3
        have ha : 0 < l.acks.length := by have := of_decide_eq_true hc; omega
        have hb := ackBase_bd h
        have hna := h.na
        by_cases h3' : k = 3
        · rw [if_pos h3']
          have := h.base0; have := h.next1; have := h.next2; have := h.next0
          exact ⟨h.n, h.items, by simp only; omega, hb.2.1, by simp only; omega, by simp only; omega, by simp only; omega, hev, hnp, h.packets, by simp; omega, allIn_drop h.acks 1, h.ng, h.got⟩
        · rw [if_neg h3', if_pos (by omega)]
          exact ⟨h.n, h.items, h.base0, h.base1, h.next0, h.next1, h.next2, hev, hnp, h.packets, by simp; omega, allIn_drop h.acks 1, h.ng, h.got⟩
      · rw [if_neg (by omega), if_neg (by omega)]
        exact ⟨h.n, h.items, h.base0, h.base1, by simp only; omega, by simp only; omega, h.base1, hev, hnp, h.packets, h.na, h.acks, h.ng, h.got⟩
end Go.Proofs.YtoledbicmghmbaaDoor
