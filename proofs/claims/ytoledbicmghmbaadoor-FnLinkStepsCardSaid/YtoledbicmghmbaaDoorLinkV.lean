/- Links: what holds of every link that a new one becomes (the receiver has a beginning of the items), and that finishing ends. Plain lists, no condition. -/
import Derived.Test.YtoledbicmghmbaaDoorLinkM
namespace Go.Proofs.YtoledbicmghmbaaDoor
open Go.RowKit

/-- what packets with these indices are -/
def pkOf (xs : List Int) (pk : List Nat) : List Int := pk.flatMap fun (i : Nat) => [(i : Int) % 4, xs.getD i 0]
def akOf (ak : List Nat) : List Int := ak.map fun (a : Nat) => (a : Int) % 4
/-- .. each with the indices of those behind it -/
def pkSound : List Nat → Prop
  | [] => True
  | j :: t => (∀ i ∈ t, j ≤ i + 2) ∧ pkSound t
def akSound : Nat → List Nat → Prop
  | _, [] => True
  | lo, a :: t => lo ≤ a ∧ akSound a t
/-- What holds of every link that a new one becomes. -/
structure LInv (l : LinkC) (r : Nat) (pk ak : List Nat) : Prop where
  packets : l.packets = pkOf l.items pk
  acks : l.acks = akOf ak
  got : l.got = l.items.take r
  n : l.items.length ≤ 20
  rn : r ≤ l.items.length
  b0 : 0 ≤ l.base
  br : l.base ≤ r
  rb : (r : Int) ≤ l.base + 3
  nx0 : l.base ≤ l.next
  nx1 : l.next ≤ l.base + 3
  nx2 : l.next ≤ l.items.length
  pkn : ∀ i ∈ pk, i < l.items.length ∧ (i : Int) < l.base + 3 ∧ r ≤ i + 3
  pks : pkSound pk
  aks : akSound l.base.toNat ak
  akr : ∀ a ∈ ak, a ≤ r
theorem pkSound_push : ∀ (pk : List Nat) (i : Nat), pkSound pk → (∀ j ∈ pk, j ≤ i + 2) → pkSound (pk ++ [i])
  | [], i, _, _ => by simp [pkSound]
  | j :: t, i, h, hj => by
    refine ⟨fun x hx => ?_, pkSound_push t i h.2 fun y hy => hj y (List.mem_cons_of_mem _ hy)⟩
    rcases List.mem_append.1 hx with hx | hx
    · exact h.1 x hx
    · obtain rfl : x = i := by simpa using hx
      exact hj j (List.mem_cons_self ..)
theorem akSound_push : ∀ (ak : List Nat) (lo a : Nat), akSound lo ak → lo ≤ a → (∀ b ∈ ak, b ≤ a) → akSound lo (ak ++ [a])
  | [], lo, a, _, h, _ => ⟨h, trivial⟩
  | b :: t, lo, a, h, _, hb => ⟨h.1, akSound_push t b a h.2 (hb b (List.mem_cons_self ..)) fun c hc => hb c (List.mem_cons_of_mem _ hc)⟩
theorem akSound_lower : ∀ (ak : List Nat) (lo lo' : Nat), akSound lo ak → lo' ≤ lo → akSound lo' ak
  | [], _, _, _, _ => trivial
  | _ :: _, _, _, h, h' => ⟨Nat.le_trans h' h.1, h.2⟩
theorem akSound_ge : ∀ (ak : List Nat) (lo : Nat), akSound lo ak → ∀ a ∈ ak, lo ≤ a
  | [], _, _, _, h => by cases h
  | b :: t, lo, h, a, ha => by
    rcases List.mem_cons.1 ha with rfl | ha
    · exact h.1
    · exact Nat.le_trans h.1 (akSound_ge t b h.2 a ha)
theorem pkOf_len (xs : List Int) (pk : List Nat) : (pkOf xs pk).length = 2 * pk.length := by
  induction pk with
  | nil => rfl
  | cons a t ih => unfold pkOf at *; simp only [List.flatMap_cons, List.length_append, ih, List.length_cons, List.length_nil]; omega
theorem pkOf_cons (xs : List Int) (i : Nat) (t : List Nat) : pkOf xs (i :: t) = (i : Int) % 4 :: xs.getD i 0 :: pkOf xs t := rfl
theorem pkOf_push (xs : List Int) (i : Nat) (t : List Nat) : pkOf xs (t ++ [i]) = pkOf xs t ++ [(i : Int) % 4, xs.getD i 0] := by unfold pkOf; simp
theorem new_inv (xs : List Int) (h : xs.length ≤ 20) : LInv ⟨xs, 0, 0, [], [], []⟩ 0 [] [] :=
  ⟨rfl, rfl, rfl, h, Nat.zero_le _, Int.le_refl _, Int.le_refl _, by simp, Int.le_refl _, by simp, by simp, (fun _ h => by cases h), trivial, trivial, (fun _ h => by cases h)⟩

theorem arr_eq {l : LinkC} {r i : Nat} {pk ak : List Nat} (h : LInv l r (i :: pk) ak) :
    arrGot l = l.items.take (if i = r then r + 1 else r) := by
  have hp := h.pkn i (List.mem_cons_self ..)
  have h1 := h.rb
  have hn := h.n; have hrn := h.rn; have hbr := h.br
  have hl : l.got.length = r := by rw [h.got, List.length_take]; omega
  unfold arrGot
  rw [hl, h.packets, pkOf_cons]
  simp only [List.getD_cons_zero, List.getD_cons_succ]
  by_cases e : i = r
  · subst e
    rw [if_pos ⟨rfl, by omega⟩, if_pos rfl, h.got, List.take_succ_eq_append_getElem hp.1]
    simp [hp.1]
  · rw [if_neg (fun c => e (by omega)), if_neg e, h.got]

theorem send_inv {l : LinkC} {r : Nat} {pk ak : List Nat} (h : LInv l r pk ak) (h1 : l.next < l.base + 3) (h2 : l.next < l.items.length) :
    LInv (stepL l 0) r (pk ++ [l.next.toNat]) ak := by
  have b0 := h.b0; have nx0 := h.nx0; have br := h.br; have rb := h.rb
  have e : ((l.next.toNat : Nat) : Int) = l.next := Int.toNat_of_nonneg (by omega)
  refine ⟨?_, h.acks, h.got, h.n, h.rn, h.b0, h.br, h.rb, ?_, ?_, ?_, ?_, ?_, h.aks, h.akr⟩
  · show l.packets ++ [l.next % 4, l.items.getD l.next.toNat 0] = _
    rw [h.packets]
    show _ = pkOf l.items _
    rw [pkOf_push, e]
  · show l.base ≤ l.next + 1; omega
  · show l.next + 1 ≤ l.base + 3; omega
  · show l.next + 1 ≤ (l.items.length : Int); omega
  · intro i hi
    rcases List.mem_append.1 hi with hi | hi
    · exact h.pkn i hi
    · obtain rfl : i = l.next.toNat := by simpa using hi
      refine ⟨?_, ?_, ?_⟩
      · show _ < l.items.length; omega
      · show _ < l.base + 3; omega
      · omega
  · exact pkSound_push _ _ h.pks fun j hj => by have := (h.pkn j hj).2.1; omega

theorem drop_inv {l : LinkC} {r i : Nat} {pk ak : List Nat} (h : LInv l r (i :: pk) ak) :
    LInv ⟨l.items, l.base, l.next, l.packets.drop 2, l.acks, l.got⟩ r pk ak :=
  ⟨by rw [h.packets]; rfl, h.acks, h.got, h.n, h.rn, h.b0, h.br, h.rb, h.nx0, h.nx1, h.nx2, fun j hj => h.pkn j (List.mem_cons_of_mem _ hj), h.pks.2, h.aks, h.akr⟩

theorem arrive_inv {l : LinkC} {r i : Nat} {pk ak : List Nat} (h : LInv l r (i :: pk) ak) :
    LInv (stepL l 1) (if i = r then r + 1 else r) pk (if l.acks.length < 12 then ak ++ [if i = r then r + 1 else r] else ak) := by
  have hp := h.pkn i (List.mem_cons_self ..)
  have hg := arr_eq h
  have hn := h.n; have hrn := h.rn; have br := h.br; have rb := h.rb; have b0 := h.b0
  have hr' : (if i = r then r + 1 else r) ≤ l.items.length := by split <;> omega
  have hrr : r ≤ (if i = r then r + 1 else r) := by split <;> omega
  have hlen : (arrGot l).length = (if i = r then r + 1 else r) := by rw [hg, List.length_take]; omega
  have hpr : ∀ j ∈ pk, (if i = r then r + 1 else r) ≤ j + 3 := fun j hj => by
    have h1 := h.pks.1 j hj
    have h2 := (h.pkn j (List.mem_cons_of_mem _ hj)).2.2
    split <;> omega
  have hb : ((if i = r then r + 1 else r : Nat) : Int) ≤ l.base + 3 := by split <;> omega
  have hak : arrAcks l = akOf (if l.acks.length < 12 then ak ++ [if i = r then r + 1 else r] else ak) := by
    unfold arrAcks
    rw [hlen]
    by_cases c : l.acks.length < 12
    · rw [if_pos (by omega), if_pos c, h.acks]; unfold akOf; simp
    · rw [if_neg (by omega), if_neg c, h.acks]
  generalize hR : (if i = r then r + 1 else r) = R at *
  refine ⟨?_, hak, hg, h.n, hr', h.b0, ?_, hb, h.nx0, h.nx1, h.nx2, ?_, h.pks.2, ?_, ?_⟩
  · show l.packets.drop 2 = pkOf l.items pk; rw [h.packets]; rfl
  · show l.base ≤ (R : Int); omega
  · intro j hj
    have := h.pkn j (List.mem_cons_of_mem _ hj)
    exact ⟨this.1, this.2.1, hpr j hj⟩
  · split
    · exact akSound_push _ _ _ h.aks (by show l.base.toNat ≤ R; omega) fun b hb => by have := h.akr b hb; omega
    · exact h.aks
  · intro a ha
    have key : ∀ a ∈ ak, a ≤ R := fun a ha => by have := h.akr a ha; omega
    split at ha
    · rcases List.mem_append.1 ha with ha | ha
      · exact key a ha
      · obtain rfl : a = R := by simpa using ha
        omega
    · exact key a ha

theorem ack_eq {l : LinkC} {r a : Nat} {pk ak : List Nat} (h : LInv l r pk (a :: ak)) : ackBase l = a := by
  have b0 := h.b0; have rb := h.rb; have rn := h.rn
  have h1 := h.aks.1
  have h2 := h.akr a (List.mem_cons_self ..)
  unfold ackBase
  rw [h.acks]
  show min (l.base + ((a : Int) % 4 - l.base % 4 + 4) % 4) _ = _
  omega
theorem ack_inv {l : LinkC} {r a : Nat} {pk ak : List Nat} (h : LInv l r pk (a :: ak)) : LInv (stepL l 3) r pk ak := by
  have e := ack_eq h
  have b0 := h.b0; have rb := h.rb; have rn := h.rn; have nx0 := h.nx0; have nx1 := h.nx1; have nx2 := h.nx2; have br := h.br
  have h1 := h.aks.1
  have h2 := h.akr a (List.mem_cons_self ..)
  refine ⟨h.packets, ?_, h.got, h.n, h.rn, ?_, ?_, ?_, ?_, ?_, ?_, ?_, h.pks, ?_, fun x hx => h.akr x (List.mem_cons_of_mem _ hx)⟩
  · show l.acks.drop 1 = _; rw [h.acks]; rfl
  · show 0 ≤ ackBase l; omega
  · show ackBase l ≤ _; omega
  · show _ ≤ ackBase l + 3; omega
  · show ackBase l ≤ max l.next (ackBase l); omega
  · show max l.next (ackBase l) ≤ ackBase l + 3; omega
  · show max l.next (ackBase l) ≤ (l.items.length : Int); omega
  · intro i hi
    have := h.pkn i hi
    exact ⟨this.1, by show (i : Int) < ackBase l + 3; omega, this.2.2⟩
  · show akSound (ackBase l).toNat ak
    rw [e]; exact h.aks.2
theorem loseAck_inv {l : LinkC} {r a : Nat} {pk ak : List Nat} (h : LInv l r pk (a :: ak)) : LInv ⟨l.items, l.base, l.next, l.packets, l.acks.drop 1, l.got⟩ r pk ak :=
  ⟨h.packets, by show l.acks.drop 1 = _; rw [h.acks]; rfl, h.got, h.n, h.rn, h.b0, h.br, h.rb, h.nx0, h.nx1, h.nx2, h.pkn, h.pks, akSound_lower _ _ _ h.aks.2 h.aks.1, fun x hx => h.akr x (List.mem_cons_of_mem _ hx)⟩
theorem timeout_inv {l : LinkC} {r : Nat} {pk ak : List Nat} (h : LInv l r pk ak) : LInv ⟨l.items, l.base, l.base, l.packets, l.acks, l.got⟩ r pk ak :=
  ⟨h.packets, h.acks, h.got, h.n, h.rn, h.b0, h.br, h.rb, by simp, by simp; omega, by have := h.br; have := h.rn; simp only; omega, h.pkn, h.pks, h.aks, h.akr⟩
/-- .. with the hidden numbers somewhere -/
def LIn (l : LinkC) : Prop := ∃ r pk ak, LInv l r pk ak
theorem step_in {l : LinkC} (h : LIn l) {k : Int} (hk : 0 ≤ k ∧ k ≤ 5) (hc : canL l k = true) : LIn (stepL l k) := by
  obtain ⟨r, pk, ak, h⟩ := h
  unfold canL at hc
  split at hc
  · rename_i h0
    subst h0
    simp only [Bool.and_eq_true, decide_eq_true_eq] at hc
    exact ⟨_, _, _, send_inv h hc.1.1 hc.1.2⟩
  · rename_i h0
    split at hc
    · rename_i h1
      rw [h.packets, pkOf_len] at hc
      have hc := of_decide_eq_true hc
      cases pk with
      | nil => simp at hc
      | cons i t =>
        by_cases e : k = 1
        · subst e; exact ⟨_, _, _, arrive_inv h⟩
        · have : stepL l k = ⟨l.items, l.base, l.next, l.packets.drop 2, l.acks, l.got⟩ := by unfold stepL; rw [if_neg h0, if_neg e, if_pos (by omega)]
          rw [this]; exact ⟨_, _, _, drop_inv h⟩
    · rename_i h1
      split at hc
      · rename_i h3
        rw [h.acks] at hc
        have hc := of_decide_eq_true hc
        cases ak with
        | nil => simp [akOf] at hc
        | cons a t =>
          by_cases e : k = 3
          · subst e; exact ⟨_, _, _, ack_inv h⟩
          · have : stepL l k = ⟨l.items, l.base, l.next, l.packets, l.acks.drop 1, l.got⟩ := by unfold stepL; rw [if_neg h0, if_neg (by omega), if_neg (by omega), if_neg (by omega), if_pos (by omega)]
            rw [this]; exact ⟨_, _, _, loseAck_inv h⟩
      · rename_i h3
        have : stepL l k = ⟨l.items, l.base, l.base, l.packets, l.acks, l.got⟩ := by unfold stepL; rw [if_neg h0, if_neg (by omega), if_neg (by omega), if_neg (by omega), if_neg (by omega)]
        rw [this]; exact ⟨_, _, _, timeout_inv h⟩

/-- Will something that is on its way raise the base? -/
def goodL (b r : Nat) (pk ak : List Nat) : Bool := ak.any (fun a => decide (b < a)) || (!pk.isEmpty && decide (b < r)) || (decide (r = b) && pk.contains b)
def wtL (l : LinkC) (r : Nat) (pk ak : List Nat) : Nat := if goodL l.base.toNat r pk ak then 0 else if l.next = l.base then 30 else 60 - 3 * (l.next - l.base).toNat
def muL (l : LinkC) (r : Nat) (pk ak : List Nat) : Nat := ((l.items.length : Int) - l.base).toNat * 200 + wtL l r pk ak + 2 * pk.length + ak.length
theorem wtL_le (l : LinkC) (r : Nat) (pk ak : List Nat) : wtL l r pk ak ≤ 60 := by unfold wtL; split <;> (try split) <;> omega
/-- the step of a link that is being finished -/
def finK (l : LinkC) : Int := if 0 < l.acks.length then 3 else if 0 < l.packets.length then 1 else if l.next < l.base + 3 ∧ l.next < (l.items.length : Int) then 0 else 5
theorem mem_contains {b : Nat} {pk : List Nat} : pk.contains b = true ↔ b ∈ pk := by simp
theorem good_split {b r : Nat} {pk ak : List Nat} : goodL b r pk ak = true ↔ (∃ a ∈ ak, b < a) ∨ (pk ≠ [] ∧ b < r) ∨ (r = b ∧ b ∈ pk) := by
  unfold goodL
  simp only [Bool.or_eq_true, List.any_eq_true, decide_eq_true_eq, Bool.and_eq_true, Bool.not_eq_true', List.isEmpty_eq_false_iff, mem_contains]
  constructor
  · rintro ((h | h) | h)
    · exact .inl h
    · exact .inr (.inl h)
    · exact .inr (.inr h)
  · rintro (h | h | h)
    · exact .inl (.inl h)
    · exact .inl (.inr h)
    · exact .inr h
/-- Every step of a link that is being finished lowers the measure. -/
theorem fin_lower {l : LinkC} {r : Nat} {pk ak : List Nat} (h : LInv l r pk ak) (hb : l.base < l.items.length) :
    canL l (finK l) = true ∧ ∃ r' pk' ak', LInv (stepL l (finK l)) r' pk' ak' ∧ muL (stepL l (finK l)) r' pk' ak' + 1 ≤ muL l r pk ak := by
  have b0 := h.b0; have br := h.br; have rb := h.rb; have rn := h.rn; have nx0 := h.nx0; have nx1 := h.nx1; have nx2 := h.nx2
  have hpl : l.packets.length = 2 * pk.length := by rw [h.packets, pkOf_len]
  have hal : l.acks.length = ak.length := by rw [h.acks]; unfold akOf; simp
  cases ak with
  | cons a t =>
    have hk : finK l = 3 := by unfold finK; rw [if_pos (by rw [hal]; simp)]
    rw [hk]
    refine ⟨by unfold canL; rw [if_neg (by decide), if_neg (by decide), if_pos (by decide), hal]; simp, r, pk, t, ack_inv h, ?_⟩
    have ea := ack_eq h
    have h1 := h.aks.1
    have h2 := h.akr a (List.mem_cons_self ..)
    have e1 : (stepL l 3).items = l.items := rfl
    have e2 : (stepL l 3).base = a := ea
    have e3 : (stepL l 3).next = max l.next a := by show max l.next (ackBase l) = _; rw [ea]
    have hw := wtL_le (stepL l 3) r pk t
    by_cases hab : l.base < a
    · unfold muL
      rw [e1, e2]
      simp only [List.length_cons]
      omega
    · have hae : (a : Int) = l.base := by omega
      have hw2 : wtL (stepL l 3) r pk t = wtL l r pk (a :: t) := by
        unfold wtL
        rw [e2, e3, hae, show max l.next l.base = l.next by omega]
        have : goodL l.base.toNat r pk t = goodL l.base.toNat r pk (a :: t) := by
          unfold goodL
          rw [List.any_cons, decide_eq_false (show ¬ l.base.toNat < a by omega), Bool.false_or]
        rw [this]
      unfold muL
      rw [e1, e2, hw2, hae]
      simp only [List.length_cons]
      omega
  | nil =>
    cases pk with
    | cons i t =>
      have hk : finK l = 1 := by unfold finK; rw [if_neg (by rw [hal]; simp), if_pos (by rw [hpl]; simp)]
      rw [hk]
      have hi := arrive_inv h
      rw [if_pos (show l.acks.length < 12 by rw [hal]; simp)] at hi
      refine ⟨by unfold canL; rw [if_neg (by decide), if_pos (by decide), hpl]; simp; omega, _, _, _, hi, ?_⟩
      have hp := h.pkn i (List.mem_cons_self ..)
      have hg : goodL l.base.toNat r (i :: t) [] = true → goodL l.base.toNat (if i = r then r + 1 else r) t ([] ++ [if i = r then r + 1 else r]) = true := by
        intro hg
        rw [good_split] at hg ⊢
        rcases hg with ⟨a, ha, _⟩ | ⟨_, hlt⟩ | ⟨hr, hm⟩
        · cases ha
        · exact .inl ⟨(if i = r then r + 1 else r), by simp, by split <;> omega⟩
        · by_cases e : i = r
          · rw [if_pos e]; exact .inl ⟨r + 1, by simp, by omega⟩
          · rw [if_neg e]
            rcases List.mem_cons.1 hm with hm | hm
            · exact absurd (hm.symm.trans hr.symm) e
            · exact .inr (.inr ⟨hr, hm⟩)
      have hw : wtL (stepL l 1) (if i = r then r + 1 else r) t ([] ++ [if i = r then r + 1 else r]) ≤ wtL l r (i :: t) [] := by
        unfold wtL
        show (if goodL l.base.toNat _ _ _ = true then 0 else if l.next = l.base then 30 else 60 - 3 * (l.next - l.base).toNat) ≤ _
        by_cases c : goodL l.base.toNat r (i :: t) [] = true
        · rw [if_pos (hg c)]; omega
        · rw [if_neg c]
          generalize goodL l.base.toNat (if i = r then r + 1 else r) t ([] ++ [if i = r then r + 1 else r]) = b
          cases b
          · exact Nat.le_refl _
          · exact Nat.zero_le _
      unfold muL
      show ((l.items.length : Int) - l.base).toNat * 200 + _ + _ + _ + 1 ≤ _
      simp only [List.length_cons, List.length_nil, List.nil_append] at hw ⊢
      omega
    | nil =>
      have ng : goodL l.base.toNat r [] [] = false := by unfold goodL; simp
      by_cases c : l.next < l.base + 3 ∧ l.next < (l.items.length : Int)
      · have hk : finK l = 0 := by unfold finK; rw [if_neg (by rw [hal]; simp), if_neg (by rw [hpl]; simp), if_pos c]
        rw [hk]
        refine ⟨by unfold canL; rw [if_pos rfl]; simp [c.1, c.2, hpl], _, _, _, send_inv h c.1 c.2, ?_⟩
        have hw : wtL (stepL l 0) r ([] ++ [l.next.toNat]) [] + 3 ≤ wtL l r [] [] := by
          have e0 : wtL l r [] [] = if l.next = l.base then 30 else 60 - 3 * (l.next - l.base).toNat := by unfold wtL; rw [ng]; rfl
          rw [e0]
          show (if goodL l.base.toNat r ([] ++ [l.next.toNat]) [] = true then 0 else if l.next + 1 = l.base then 30 else 60 - 3 * (l.next + 1 - l.base).toNat) + 3 ≤ _
          by_cases e : l.next = l.base
          · have hgood : goodL l.base.toNat r ([] ++ [l.next.toNat]) [] = true := by
              rw [good_split]
              by_cases e2 : l.base.toNat < r
              · exact .inr (.inl ⟨by simp, e2⟩)
              · exact .inr (.inr ⟨by omega, by rw [e]; simp⟩)
            rw [if_pos hgood, if_pos e]; omega
          · rw [if_neg e]; split <;> (try split) <;> omega
        unfold muL
        show ((l.items.length : Int) - l.base).toNat * 200 + _ + _ + _ + 1 ≤ _
        simp only [List.length_cons, List.length_nil, List.nil_append] at hw ⊢
        omega
      · have hk : finK l = 5 := by unfold finK; rw [if_neg (by rw [hal]; simp), if_neg (by rw [hpl]; simp), if_neg c]
        rw [hk]
        refine ⟨rfl, _, _, _, timeout_inv h, ?_⟩
        have hw : wtL (stepL l 5) r [] [] + 1 ≤ wtL l r [] [] := by
          have e0 : wtL l r [] [] = if l.next = l.base then 30 else 60 - 3 * (l.next - l.base).toNat := by unfold wtL; rw [ng]; rfl
          have e1 : wtL (stepL l 5) r [] [] = 30 := by
            unfold wtL
            rw [show (stepL l 5).base = l.base from rfl, show (stepL l 5).next = l.base from rfl, ng]
            simp
          rw [e0, e1, if_neg (by omega)]
          omega
        unfold muL
        show ((l.items.length : Int) - l.base).toNat * 200 + wtL (stepL l 5) r [] [] + _ + _ + 1 ≤ _
        omega
/-- A link is finished, in at most f steps. -/
def finF : Nat → LinkC → Nat → LinkC × Nat
  | 0, l, c => (l, c)
  | f + 1, l, c => if l.base < l.items.length then finF f (stepL l (finK l)) (c + 1) else (l, c)
theorem finF_stop {f : Nat} {l : LinkC} {c : Nat} (h : ¬ l.base < l.items.length) : finF f l c = (l, c) := by
  cases f with
  | zero => rfl
  | succ f => unfold finF; rw [if_neg h]
/-- What holds before each round: after k steps from l0 the link is l. -/
def FinAt (l0 l : LinkC) (k : Nat) : Prop := k ≤ 5000 ∧ finF (5000 - k) l k = finF 5000 l0 0 ∧ ∃ r pk ak, LInv l r pk ak ∧ k + muL l r pk ak ≤ 5000
theorem finAt_start {l : LinkC} (h : LIn l) (hp : l.packets.length ≤ 24) (ha : l.acks.length ≤ 12) : FinAt l l 0 := by
  obtain ⟨r, pk, ak, h⟩ := h
  refine ⟨by omega, rfl, r, pk, ak, h, ?_⟩
  have hpl : l.packets.length = 2 * pk.length := by rw [h.packets, pkOf_len]
  have hal : l.acks.length = ak.length := by rw [h.acks]; unfold akOf; simp
  have := wtL_le l r pk ak
  have := h.n; have := h.b0
  unfold muL
  omega
theorem finAt_step {l0 l : LinkC} {k : Nat} (h : FinAt l0 l k) (hb : l.base < l.items.length) : canL l (finK l) = true ∧ FinAt l0 (stepL l (finK l)) (k + 1) ∧ k < 5000 := by
  obtain ⟨h1, h2, r, pk, ak, h3, h4⟩ := h
  obtain ⟨hc, r', pk', ak', h5, h6⟩ := fin_lower h3 hb
  have hk : k < 5000 := by omega
  refine ⟨hc, ⟨by omega, ?_, r', pk', ak', h5, by omega⟩, hk⟩
  rw [← h2, show 5000 - k = (5000 - (k + 1)) + 1 by omega]
  show _ = (if l.base < l.items.length then _ else _)
  rw [if_pos hb]
theorem finAt_end {l0 l : LinkC} {k : Nat} (h : FinAt l0 l k) (hb : ¬ l.base < l.items.length) : finF 5000 l0 0 = (l, k) := by
  rw [← h.2.1]; exact finF_stop hb
end Go.Proofs.YtoledbicmghmbaaDoor
