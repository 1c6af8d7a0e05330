/- What the laws on decoding ask, plain. No program. -/
import Derived.Test.YtlgmdekhlcbhoaaCodes
import Derived.Test.YtlgmdekhlcbhoaaStW
namespace Go.Proofs.Ytlgmdekhlcbhoaa

theorem recvC_zero {xs : List Int} (h : recvC xs = 0) : recvOk xs = true := by
  by_cases e : recvOk xs = true
  · exact e
  · unfold recvC at h; rw [if_neg e] at h; cases h
theorem decoded_least {us vs : List Int} (h : errC us vs = 0) : recvC us = 0 ∧ decN us ≤ errR us vs := by
  by_cases e : recvOk us = true
  · by_cases f : errOk us vs = true
    · refine ⟨if_pos e, ?_⟩
      obtain ⟨m, hm, h2, _, he⟩ := recv_half e rfl
      unfold errOk at f
      rw [Bool.and_eq_true, decide_eq_true_eq] at f
      unfold decN errR errOk
      rw [if_pos e, if_pos ⟨e, by rw [Bool.and_eq_true, decide_eq_true_eq]; exact f⟩, he]
      exact errN_least hm (by omega) f.2
    · unfold errC at h; rw [if_pos e, if_neg f] at h; cases h
  · unfold errC at h; rw [if_neg e] at h; cases h
theorem decoded_own {xs : List Int} (h : recvC xs = 0) : errR xs (decR xs) = decN xs ∧ errC xs (decR xs) = 0 ∧ encR (decR xs) = ncodeR xs ∧ msgC (decR xs) = 0 := by
  have e := recvC_zero h
  obtain ⟨m, hm, h2, h3, he⟩ := recv_half e rfl
  have hd : decR xs = dec xs m (m - 2) := by unfold decR; rw [if_pos e, he]
  have hok : errOk xs (decR xs) = true := by
    unfold errOk
    rw [hd, dec_bits, dec_length, Bool.and_true, decide_eq_true_eq]
    omega
  have hml : okList (decR xs) 300 0 1 = true := by
    unfold okList
    rw [hd, dec_bits, dec_length, Bool.and_true, decide_eq_true_eq]
    omega
  refine ⟨?_, ?_, ?_, ?_⟩
  · unfold errR decN
    rw [if_pos ⟨e, hok⟩, if_pos e, hd, he]
    exact errN_dec hm h2
  · unfold errC; rw [if_pos e, if_pos hok]
  · unfold encR ncodeR
    rw [if_pos hml, if_pos e, hd, he]
  · unfold msgC; rw [if_pos hml]
theorem msgC_zero {ms : List Int} (h : msgC ms = 0) : okList ms 300 0 1 = true := by
  by_cases e : okList ms 300 0 1 = true
  · exact e
  · unfold msgC at h; rw [if_neg e] at h; cases h
theorem recv_bits {ws : List Int} {m : Nat} (hl : ws.length = 2 * (m + 2)) (hm : m ≤ 300) (hb : allIn ws 0 1 = true) : recvOk ws = true := by
  unfold recvOk okList
  have h2 : allIn ws 0 2 = true := by
    unfold allIn
    rw [List.all_eq_true]
    intro x hx
    have := allIn_true hb hx
    exact inR_mk (by omega) (by omega)
  rw [h2, Bool.and_true, hl]
  simp
  omega
theorem corrected_law {ms ws : List Int} (hm : msgC ms = 0) (hl : ws.length = (enc ms).length) (hb : allIn ws 0 1 = true) (he : errs ws (enc ms) ≤ 2) : decR ws = ms ∧ recvC ws = 0 ∧ sglB ws = true := by
  have hok := okList_true (msgC_zero hm)
  rw [enc_length] at hl
  have hr := recv_bits hl (by omega) hb
  obtain ⟨m, h1, h2, h3, h4⟩ := recv_half hr rfl
  have hmm : m = ms.length + 2 := by omega
  have hc := corrected h1 hmm hok.2 hb he
  unfold decR recvC sglB
  rw [if_pos hr, if_pos hr, if_pos hr, h4, hc.1, hc.2]
  exact ⟨rfl, rfl, rfl⟩
theorem count_law {xs : List Int} (h : recvC xs = 0) : 1 ≤ cntN xs ∧ sglB xs = (cntN xs == 1) := by
  have e := recvC_zero h
  unfold cntN sglB
  rw [if_pos e, if_pos e]
  exact ⟨(vit_bd xs (mOf xs) (mOf xs) 0).2.2.1, rfl⟩
theorem states_ok {xs : List Int} {k : Int} (h : stC xs k = 0) : ∃ K : Nat, k = K ∧ K ≤ 300 ∧ 2 * K + 4 ≤ xs.length ∧ stR xs k = stE xs K := by
  by_cases e : recvOk xs = true
  · by_cases f : stOk xs k = true
    · have hr := recvOk_true e
      have hs := f
      unfold stOk at hs
      have hs := inR_true hs
      obtain ⟨K, rfl⟩ := Int.eq_ofNat_of_zero_le hs.1
      refine ⟨K, rfl, by omega, by omega, ?_⟩
      unfold stR
      rw [if_pos ⟨e, f⟩, Int.toNat_natCast]
    · unfold stC at h; rw [if_pos e, if_neg f] at h; cases h
  · unfold stC at h; rw [if_neg e] at h; cases h
structure StatesFact (xs ms : List Int) (K : Nat) : Prop where
  code : msgC ms = 0
  enc_ : encR ms = enc ms
  st : ∃ s : Nat, s < 4 ∧ stbN ms = s ∧ 0 ≤ (stE xs K).getD s 0 ∧ (stE xs K).getD s 0 ≤ diffs xs (enc ms) (2 * K)
theorem states_law {xs ms : List Int} {K : Nat} (hK : K ≤ 300) (hl : ms.length = K) (hb : allIn ms 0 1 = true) : StatesFact xs ms K := by
  have hok : okList ms 300 0 1 = true := by unfold okList; rw [hb, hl]; simp; omega
  have hs := encSt_bd hb K
  obtain ⟨s, hse⟩ := Int.eq_ofNat_of_zero_le hs.1
  refine ⟨by unfold msgC; rw [if_pos hok], by unfold encR; rw [if_pos hok], s, by omega, by unfold stbN; rw [if_pos hok, hl, hse], ?_⟩
  have h := state_least (xs := xs) hb
  rw [hl, hse] at h
  exact h
end Go.Proofs.Ytlgmdekhlcbhoaa
