/- Frames: what is read from bits, in plain Lean; a frame's own bits are read as the frame; interleaved bits sorted again. No condition. -/
import Derived.Test.YtlgmdekhlcbhoaaFraR
import Derived.Test.YtlgmdekhlcbhoaaFraF
import Derived.Test.YtlgmdekhlcbhoaaCor
namespace Go.Proofs.Ytlgmdekhlcbhoaa
open Go.RowKit

/-- the number of the first k bits -/
def numTo (xs : List Int) : Nat → Int
  | 0 => 0
  | k + 1 => 2 * numTo xs k + xs.getD k 0
def groupN (xs : List Int) (i : Nat) : Int := numTo (xs.drop (8 * i)) 8
def groups (xs : List Int) (m : Nat) : List Int := (List.range m).map (groupN xs)
theorem groups_succ (xs : List Int) (m : Nat) : groups xs (m + 1) = groups xs m ++ [groupN xs m] := by unfold groups; rw [range_map_snoc]
theorem groups_length (xs : List Int) (m : Nat) : (groups xs m).length = m := by unfold groups; simp
def midL (bits : List Int) : List Int := (bits.drop 8).take (bits.length - 16)
theorem midL_length {bits : List Int} (h : 16 ≤ bits.length) : (midL bits).length = bits.length - 16 := by unfold midL; simp; omega
def innU (bits : List Int) : List Int := (unR (midL bits)).1
def readG (bits : List Int) : List Int := groups (innU bits) ((innU bits).length / 8)
def readF (bits : List Int) : FrameC := ⟨(readG bits).getD 0 0, (readG bits).getD 1 0, ((readG bits).drop 2).take ((readG bits).length - 4)⟩
def preOk (bits : List Int) : Bool := decide (16 ≤ bits.length) && ((unR (midL bits)).2 && (decide ((innU bits).length % 8 = 0) && decide (32 ≤ (innU bits).length)))
def readOk (bits : List Int) : Bool := preOk bits && (frOkC (readF bits) && decide (frameC (readF bits) = bits))

theorem numTo_bd {xs : List Int} (h : allIn xs 0 1 = true) : ∀ k, 0 ≤ numTo xs k ∧ numTo xs k < ((2 ^ k : Nat) : Int)
  | 0 => ⟨by show (0 : Int) ≤ 0; decide, by show (0 : Int) < ((2 ^ 0 : Nat) : Int); decide⟩
  | k + 1 => by
    have ih := numTo_bd h k
    have hb := getD_bit h k
    have e : ((2 ^ (k + 1) : Nat) : Int) = 2 * ((2 ^ k : Nat) : Int) := by rw [Nat.pow_succ]; omega
    rw [e]
    show 0 ≤ 2 * numTo xs k + xs.getD k 0 ∧ 2 * numTo xs k + xs.getD k 0 < _
    omega
theorem numTo_byte {x : Int} (h0 : 0 ≤ x) (h1 : x ≤ 255) (ys : List Int) : numTo (byteBits x ++ ys) 8 = x := by
  have e : byteBits x = [x / 128 % 2, x / 64 % 2, x / 32 % 2, x / 16 % 2, x / 8 % 2, x / 4 % 2, x / 2 % 2, x / 1 % 2] := rfl
  rw [e]
  simp only [List.cons_append, List.nil_append, numTo, List.getD_cons_zero, List.getD_cons_succ]
  omega
theorem bytesTo_drop (xs : List Int) : ∀ (i d : Nat), ∃ zs, (bytesTo xs (i + 1 + d)).drop (8 * i) = byteBits (xs.getD i 0) ++ zs
  | i, 0 => ⟨[], by rw [Nat.add_zero, bytesTo_succ, List.drop_append_of_le_length (by rw [bytesTo_length]; omega), List.drop_of_length_le (by rw [bytesTo_length]; omega), List.nil_append, List.append_nil]⟩
  | i, d + 1 => by
    obtain ⟨zs, h⟩ := bytesTo_drop xs i d
    refine ⟨zs ++ byteBits (xs.getD (i + 1 + d) 0), ?_⟩
    show (bytesTo xs (i + 1 + d + 1)).drop (8 * i) = _
    rw [bytesTo_succ, List.drop_append_of_le_length (by rw [bytesTo_length]; omega), h, List.append_assoc]
theorem groups_bytes {xs : List Int} {n : Nat} (h : allIn xs 0 255 = true) (hn : xs.length = n) : groups (bytesTo xs n) n = xs := by
  subst hn
  refine List.ext_getElem (by rw [groups_length]) fun i h1 h2 => ?_
  have hG : (groups (bytesTo xs xs.length) xs.length)[i] = numTo ((bytesTo xs xs.length).drop (8 * i)) 8 := by simp [groups, groupN]
  rw [hG]
  obtain ⟨zs, e⟩ := bytesTo_drop xs i (xs.length - (i + 1))
  have hl : i + 1 + (xs.length - (i + 1)) = xs.length := by omega
  rw [hl] at e
  have hb := allIn_getD h h2
  rw [e, numTo_byte hb.1 hb.2, getD_at h2]

theorem unTo_append (xs ys : List Int) : ∀ k, k ≤ xs.length → unTo (xs ++ ys) k = unTo xs k
  | 0, _ => rfl
  | k + 1, h => by
    have e : (xs ++ ys).getD k 0 = xs.getD k 0 := by simp [List.getElem?_append_left (show k < xs.length by omega)]
    simp only [unTo, unTo_append xs ys k (by omega), e]
theorem unTo_snoc {xs : List Int} {L : List Int} {s : Nat} (h : unTo xs xs.length = some (L, s)) (b : Int) :
    unTo (xs ++ [b]) (xs ++ [b]).length = if s = 5 then (if b = 1 then none else some (L, 0)) else some (L ++ [b], if b = 1 then s + 1 else 0) := by
  have e : (xs ++ [b]).length = xs.length + 1 := by simp
  have e2 : (xs ++ [b]).getD xs.length 0 = b := by simp
  rw [e, unTo_succ (by rw [unTo_append _ _ _ (Nat.le_refl _)]; exact h), e2]
theorem unTo_stuff {xs : List Int} (hb : allIn xs 0 1 = true) : ∀ k, k ≤ xs.length → unTo (stuffTo xs k).1 (stuffTo xs k).1.length = some (xs.take k, (stuffTo xs k).2)
  | 0, _ => by simp [stuffTo, unTo]
  | k + 1, h => by
    have ih := unTo_stuff hb k (by omega)
    have hs := (stuffTo_bd (xs := xs) k (by omega)).1
    have hx := allIn_getD hb (show k < xs.length by omega)
    rw [stuffTo_succ (by omega), List.take_succ_eq_append_getElem (by omega), ← getD_at (show k < xs.length by omega)]
    generalize xs.getD k 0 = b at *
    generalize stuffTo xs k = p at *
    obtain ⟨M, s⟩ := p
    simp only at ih hs ⊢
    have hn := unTo_snoc ih b
    rw [if_neg (by omega)] at hn
    unfold stuffStep
    simp only
    by_cases hb0 : b = 0
    · subst hb0
      rw [if_pos rfl, if_neg (by decide)]
      rw [hn]; rfl
    · obtain rfl : b = 1 := by omega
      rw [if_neg hb0]
      rw [if_pos rfl] at hn
      by_cases h5 : s + 1 = 5
      · rw [if_pos h5]
        have h2 := unTo_snoc hn 0
        rw [if_pos h5, if_neg (by decide), List.append_assoc] at h2
        exact h2
      · rw [if_neg h5]
        exact hn
theorem unR_stuff {xs : List Int} (hb : allIn xs 0 1 = true) : unR (stuffL xs) = (xs, true) := by
  have h := unTo_stuff hb xs.length (Nat.le_refl _)
  have hs := (stuffTo_bd (xs := xs) xs.length (Nat.le_refl _)).1
  unfold unR stuffL
  rw [h, List.take_length]
  simp; omega
theorem midL_frame (a b : Int) (p : List Int) : midL (frameL a b p) = stuffL (rawL a b p) := by
  unfold midL frameL
  have h8 : flagL.length = 8 := rfl
  rw [List.append_assoc, List.drop_append_of_le_length (by rw [h8]; omega), List.drop_of_length_le (by rw [h8]; omega), List.nil_append]
  refine List.take_left' ?_
  simp [h8]
  omega
/-- a frame's own bits are read as the frame -/
theorem read_frame {l : FrameC} (h : FrO l) : readF (frameC l) = l ∧ readOk (frameC l) = true := by
  have hm : midL (frameC l) = stuffL (rawL l.kind l.number l.payload) := midL_frame _ _ _
  have hu : unR (midL (frameC l)) = (rawL l.kind l.number l.payload, true) := by rw [hm]; exact unR_stuff (rawL_bits _ _ _)
  have hi : innU (frameC l) = rawL l.kind l.number l.payload := by unfold innU; rw [hu]
  have hl : (innU (frameC l)).length = 8 * (l.payload.length + 4) := by rw [hi, rawL_length]
  have hg : readG (frameC l) = innerL l.kind l.number l.payload := by
    unfold readG
    rw [hl, hi, Nat.mul_div_cancel_left _ (by decide)]
    exact groups_bytes h.inner (innerL_length _ _ _)
  have hf : readF (frameC l) = l := by
    unfold readF
    rw [hg, innerL_length]
    obtain ⟨a, b, p⟩ := l
    simp [innerL, bytesL]
  refine ⟨hf, ?_⟩
  unfold readOk preOk
  rw [hf, h.to, hu, hl]
  have h48 := frameL_length l.kind l.number l.payload h.len
  have h16 : 16 ≤ (frameC l).length := by unfold frameC; omega
  simp [h16]; omega
theorem readOk_flags {bits : List Int} (h : readOk bits = true) : bits.take 8 = flagL ∧ (bits.drop (bits.length - 8)).take 8 = flagL ∧ FrO (readF bits) := by
  unfold readOk at h
  rw [Bool.and_eq_true, Bool.and_eq_true] at h
  have hf := FrO.of h.2.1
  have e : frameC (readF bits) = bits := by simpa using h.2.2
  refine ⟨?_, ?_, hf⟩
  · rw [← e]; unfold frameC frameL; rw [List.append_assoc]; exact List.take_left' rfl
  · rw [← e]
    unfold frameC frameL
    have hlen : (flagL ++ stuffL (rawL (readF bits).kind (readF bits).number (readF bits).payload) ++ flagL).length - 8 = (flagL ++ stuffL (rawL (readF bits).kind (readF bits).number (readF bits).payload)).length := by
      rw [List.length_append (bs := flagL)]; show _ + 8 - 8 = _; omega
    rw [hlen, List.drop_left']
    · rfl
    · rfl

/-- where an interleaved bit comes from, and where a sorted one does -/
def posP (m i : Nat) : Nat := i % m * 16 + i / m
def posQ (m i : Nat) : Nat := i % 16 * m + i / 16
theorem posP_lt {m i : Nat} (h : i < 16 * m) : posP m i < 16 * m := by
  have hm : 0 < m := by omega
  unfold posP
  have h1 := Nat.mod_lt i hm
  have h2 : i / m < 16 := (Nat.div_lt_iff_lt_mul hm).2 h
  generalize i % m = a at *; generalize i / m = b at *
  omega
theorem posQ_lt {m i : Nat} (h : i < 16 * m) : posQ m i < 16 * m := by
  unfold posQ
  have h1 : i % 16 < 16 := Nat.mod_lt i (by decide)
  have h2 : i / 16 < m := by omega
  generalize i % 16 = a at *; generalize i / 16 = b at *
  have h3 : a * m ≤ 15 * m := Nat.mul_le_mul_right m (by omega)
  omega
theorem posP_Q {m i : Nat} (h : i < 16 * m) : posP m (posQ m i) = i := by
  have h2 : i / 16 < m := by omega
  unfold posP posQ
  rw [Nat.mul_comm (i % 16) m, Nat.mul_add_mod, Nat.mod_eq_of_lt h2, Nat.mul_add_div (by omega), Nat.div_eq_of_lt h2]
  omega
theorem posQ_P {m i : Nat} (h : i < 16 * m) : posQ m (posP m i) = i := by
  have hm : 0 < m := by omega
  have h2 : i / m < 16 := (Nat.div_lt_iff_lt_mul hm).2 h
  have h3 := Nat.div_add_mod i m
  unfold posP posQ
  have e1 : (i % m * 16 + i / m) % 16 = i / m := by generalize i / m = b at *; omega
  have e2 : (i % m * 16 + i / m) / 16 = i % m := by clear h3; generalize i / m = b at *; generalize i % m = c at *; omega
  rw [e1, e2, Nat.mul_comm]; exact h3
theorem catTo_getD {X : Nat → List Int} {c : Nat} (hX : ∀ k, (X k).length = c) : ∀ (n k j : Nat), k < n → j < c → (catTo X n).getD (k * c + j) 0 = (X k).getD j 0
  | 0, k, j, hk, _ => by omega
  | n + 1, k, j, hk, hj => by
    rw [catTo_succ]
    by_cases hkn : k < n
    · have hlt : k * c + j < (catTo X n).length := by
        rw [catTo_len hX]
        have : (k + 1) * c ≤ n * c := Nat.mul_le_mul_right c hkn
        rw [Nat.succ_mul] at this
        omega
      have := catTo_getD hX n k j hkn hj
      rw [← this]
      simp [List.getElem?_append_left hlt]
    · obtain rfl : k = n := by omega
      have hl := catTo_len hX k
      simp [List.getElem?_append_right (show (catTo X k).length ≤ k * c + j by omega), hl]
theorem plc_getD {m i : Nat} (h : i < 16 * m) : (plc m).getD i 0 = ((posP m i : Nat) : Int) := by
  have hm : 0 < m := by omega
  have h2 : i / m < 16 := (Nat.div_lt_iff_lt_mul hm).2 h
  have h1 := Nat.mod_lt i hm
  have h3 := Nat.div_add_mod i m
  have e : i = i / m * m + i % m := by rw [Nat.mul_comm]; omega
  have := catTo_getD (X := colL m) (c := m) (fun k => by unfold colL; simp) 16 (i / m) (i % m) h2 h1
  rw [← e] at this
  unfold plc
  rw [this]
  unfold colL posP
  rw [range_map_getD _ h1]
  omega
theorem ileav_getD (xs : List Int) {m i : Nat} (h : i < 16 * m) : (ileav xs m).getD i 0 = xs.getD (posP m i) 0 := by
  unfold ileav ileavTo
  rw [range_map_getD _ h, plc_getD h]
  rfl
/-- the places of the table with rows and columns exchanged -/
def rowL (m k : Nat) : List Int := (List.range 16).map fun (j : Nat) => (j : Int) * (m : Int) + (k : Int)
def plq (m : Nat) : List Int := catTo (rowL m) m
theorem plq_length (m : Nat) : (plq m).length = 16 * m := by rw [plq, catTo_len (c := 16) (fun k => by unfold rowL; simp), Nat.mul_comm]
theorem plq_getD {m i : Nat} (h : i < 16 * m) : (plq m).getD i 0 = ((posQ m i : Nat) : Int) := by
  have h2 : i / 16 < m := by omega
  have h1 : i % 16 < 16 := Nat.mod_lt i (by decide)
  have e : i = i / 16 * 16 + i % 16 := by omega
  have := catTo_getD (X := rowL m) (c := 16) (fun k => by unfold rowL; simp) m (i / 16) (i % 16) h2 h1
  rw [← e] at this
  unfold plq
  rw [this]
  unfold rowL posQ
  rw [range_map_getD _ h1]
  simp
theorem plq_bd {m t : Nat} (h : t < 16 * m) : 0 ≤ (plq m).getD t 0 ∧ (plq m).getD t 0 < 16 * m := by
  rw [plq_getD h]; have := posQ_lt h; omega
/-- sorted bits -/
def sortTo (xs : List Int) (m k : Nat) : List Int := (List.range k).map fun t => xs.getD ((plq m).getD t 0).toNat 0
theorem sortTo_succ (xs : List Int) (m k : Nat) : sortTo xs m (k + 1) = sortTo xs m k ++ [xs.getD ((plq m).getD k 0).toNat 0] := by unfold sortTo; rw [range_map_snoc]
def sortL (xs : List Int) (m : Nat) : List Int := sortTo xs m (16 * m)
theorem sortL_length (xs : List Int) (m : Nat) : (sortL xs m).length = 16 * m := by unfold sortL sortTo; simp
theorem sortL_getD (xs : List Int) {m i : Nat} (h : i < 16 * m) : (sortL xs m).getD i 0 = xs.getD (posQ m i) 0 := by
  unfold sortL sortTo
  rw [range_map_getD _ h, plq_getD h]
  rfl
theorem sortL_bits {xs : List Int} {m : Nat} (h : allIn xs 0 1 = true) : allIn (sortL xs m) 0 1 = true := by
  unfold sortL sortTo allIn
  rw [List.all_eq_true]
  intro x hx
  rw [List.mem_map] at hx
  obtain ⟨t, _, rfl⟩ := hx
  have := getD_bit h ((plq m).getD t 0).toNat
  exact inR_mk this.1 this.2
theorem list_getD_ext {xs ys : List Int} (h : xs.length = ys.length) (e : ∀ i, i < xs.length → xs.getD i 0 = ys.getD i 0) : xs = ys :=
  List.ext_getElem h fun i h1 h2 => by have := e i h1; rwa [getD_at h1, getD_at h2] at this
theorem sort_ileav {xs : List Int} {m : Nat} (h : xs.length = 16 * m) : sortL (ileav xs m) m = xs :=
  list_getD_ext (by rw [sortL_length, h]) fun i hi => by
    rw [sortL_length] at hi
    rw [sortL_getD _ hi, ileav_getD _ (posQ_lt hi), posP_Q hi]
theorem getD_set0 (a : List Int) (k j : Nat) (v : Int) (hk : k < a.length) : (a.set k v).getD j 0 = if j = k then v else a.getD j 0 := by
  by_cases h : j = k
  · subst h; rw [if_pos rfl]; simp [hk]
  · rw [if_neg h]; simp [List.getElem?_set_ne (fun c => h c.symm)]
theorem sort_set {xs : List Int} {m a : Nat} (h : xs.length = 16 * m) (ha : a < 16 * m) (u : Int) : sortL (xs.set a u) m = (sortL xs m).set (posP m a) u :=
  list_getD_ext (by rw [List.length_set, sortL_length, sortL_length]) fun i hi => by
    rw [sortL_length] at hi
    rw [sortL_getD _ hi, getD_set0 _ _ _ _ (by omega), getD_set0 _ _ _ _ (by rw [sortL_length]; exact posP_lt ha), sortL_getD _ hi]
    by_cases e : i = posP m a
    · rw [if_pos e, if_pos (by rw [e, posQ_P ha])]
    · rw [if_neg e, if_neg (fun c => e (by rw [← c, posP_Q hi]))]
/-- the program's way: bits laid down one by one at their places -/
def layTo (xs : List Int) (m : Nat) : Nat → List Int
  | 0 => List.replicate (16 * m) 0
  | t + 1 => (layTo xs m t).set ((plc m).getD t 0).toNat (xs.getD t 0)
theorem layTo_length (xs : List Int) (m : Nat) : ∀ t, (layTo xs m t).length = 16 * m
  | 0 => by simp [layTo]
  | t + 1 => by simp [layTo, layTo_length xs m t]
theorem layTo_getD (xs : List Int) (m : Nat) : ∀ t, t ≤ 16 * m → ∀ p, p < 16 * m → (layTo xs m t).getD p 0 = if posQ m p < t then xs.getD (posQ m p) 0 else 0
  | 0, _, p, hp => by rw [if_neg (by omega)]; simp [layTo, hp]
  | t + 1, ht, p, hp => by
    have ih := layTo_getD xs m t (by omega) p hp
    have ht' : t < 16 * m := by omega
    show ((layTo xs m t).set ((plc m).getD t 0).toNat (xs.getD t 0)).getD p 0 = _
    rw [plc_getD ht', Int.toNat_natCast, getD_set0 _ _ _ _ (by rw [layTo_length]; exact posP_lt ht'), ih]
    by_cases e : p = posP m t
    · rw [if_pos e, if_pos (by rw [e, posQ_P ht']; omega), e, posQ_P ht']
    · rw [if_neg e]
      have hne : posQ m p ≠ t := fun c => e (by rw [← c, posP_Q hp])
      by_cases h : posQ m p < t
      · rw [if_pos h, if_pos (by omega)]
      · rw [if_neg h, if_neg (by omega)]
theorem layTo_sort {xs : List Int} {m : Nat} : layTo xs m (16 * m) = sortL xs m :=
  list_getD_ext (by rw [layTo_length, sortL_length]) fun i hi => by
    rw [layTo_length] at hi
    rw [layTo_getD _ _ _ (Nat.le_refl _) _ hi, if_pos (posQ_lt hi), sortL_getD _ hi]

/-- what a receiver reads -/
def recvL (bits : List Int) (m n : Nat) : List Int := dec ((sortL bits m).take (2 * (n + 2))) (n + 2) n
theorem take_set {xs : List Int} {k n : Nat} {u : Int} : (xs.set k u).take n = (xs.take n).set k u := by
  rw [List.take_set]
theorem recv_sent {xs : List Int} (hb : allIn xs 0 1 = true) {ys : List Int} (hy : allIn ys 0 1 = true)
    (h : errs ((sortL ys (rowsOf xs.length)).take (2 * (xs.length + 2))) (enc xs) ≤ 2) : recvL ys (rowsOf xs.length) xs.length = xs := by
  unfold recvL
  have hl : ((sortL ys (rowsOf xs.length)).take (2 * (xs.length + 2))).length = 2 * (xs.length + 2) := by
    rw [List.length_take, sortL_length]; unfold rowsOf; omega
  have hbits : allIn ((sortL ys (rowsOf xs.length)).take (2 * (xs.length + 2))) 0 1 = true := by
    have := sortL_bits (m := rowsOf xs.length) hy
    unfold allIn at *
    rw [List.all_eq_true] at *
    exact fun x hx => this x (List.mem_of_mem_take hx)
  have := (corrected hl rfl hb hbits h).1
  rwa [show xs.length + 2 - 2 = xs.length by omega] at this
theorem padL_length (xs : List Int) : (padL xs).length = 16 * rowsOf xs.length := by
  unfold padL; rw [List.length_append, enc_length, List.length_replicate]; unfold rowsOf; omega
theorem padL_take (xs : List Int) : (padL xs).take (2 * (xs.length + 2)) = enc xs := by
  unfold padL; exact List.take_left' (enc_length xs)
/-- the channel's bits, at most two of them inverted -/
theorem recv_two {xs : List Int} (hb : allIn xs 0 1 = true) {a b : Nat} (ha : a < 16 * rowsOf xs.length) (hb' : b < 16 * rowsOf xs.length) {u v : Int}
    (hy : allIn (((sendL xs).set a u).set b v) 0 1 = true) : recvL (((sendL xs).set a u).set b v) (rowsOf xs.length) xs.length = xs := by
  refine recv_sent hb hy ?_
  rw [sort_set (by rw [List.length_set, sendL_length]) hb', sort_set (by rw [sendL_length]) ha]
  unfold sendL
  rw [sort_ileav (padL_length xs), List.take_set, List.take_set, padL_take]
  have h1 := errs_set ((enc xs).set (posP (rowsOf xs.length) a) u) (enc xs) (posP (rowsOf xs.length) b) v
  have h2 := errs_set (enc xs) (enc xs) (posP (rowsOf xs.length) a) u
  have h3 := errs_self (enc xs)
  omega
theorem recv_one {xs : List Int} (hb : allIn xs 0 1 = true) {a : Nat} (ha : a < 16 * rowsOf xs.length) {u : Int}
    (hy : allIn ((sendL xs).set a u) 0 1 = true) : recvL ((sendL xs).set a u) (rowsOf xs.length) xs.length = xs := by
  refine recv_sent hb hy ?_
  rw [sort_set (by rw [sendL_length]) ha]
  unfold sendL
  rw [sort_ileav (padL_length xs), List.take_set, padL_take]
  have h2 := errs_set (enc xs) (enc xs) (posP (rowsOf xs.length) a) u
  have h3 := errs_self (enc xs)
  omega
theorem recv_none {xs : List Int} (hb : allIn xs 0 1 = true) : recvL (sendL xs) (rowsOf xs.length) xs.length = xs := by
  refine recv_sent hb (sendL_bits hb) ?_
  unfold sendL
  rw [sort_ileav (padL_length xs), padL_take]
  have h3 := errs_self (enc xs)
  omega
end Go.Proofs.Ytlgmdekhlcbhoaa
