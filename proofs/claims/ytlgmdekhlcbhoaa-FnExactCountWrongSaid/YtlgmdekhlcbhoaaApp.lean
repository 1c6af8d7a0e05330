/- Appending to a slice of the call's own: one number, or all that another slice holds; and what an owned row reads as. No condition. -/
import Derived.Test.YtlgmdekhlcbhoaaBase
import Derived.Maps.AppendAt
import Derived.Deep.AppendLies
import Derived.OwnWalk
namespace Go.Proofs.Ytlgmdekhlcbhoaa
open Go.RowKit

theorem run_append_of_nil {P : Program} (w : World) (base : Nat) (t ty e : TypeId) (i : TypeInfo) (size : Nat) (ht : P.underlying t = some (.slice e)) (hi : P.info? e = some i)
    (v : Value) (n : Nat) (xs : List Value) (hown : w.ownsRow base e size v n xs) (c : Nat) : (Builtin.append_ #[t, t] ty #[v, .slice none 0 c]).run P w = .ok v w := by
  rcases hown.2 with ⟨rfl, rfl⟩ | ⟨g, cap, cur, rfl, _, _, hnc, _⟩
  · simp [Builtin.append_, run_underlying ht, sizeOf, typeInfo, hi, Builtin.lenOf, Builtin.firstCells]
  · simp [Builtin.append_, run_underlying ht, sizeOf, typeInfo, hi, Builtin.lenOf, Builtin.firstCells, hnc, storeCells]

theorem oneCell_ints (xs : List Int) : ∀ u ∈ ints xs, u.oneCell' = true := by
  intro u hu; unfold ints at hu; rw [List.mem_map] at hu; obtain ⟨x, _, rfl⟩ := hu; rfl

theorem run_append_any {P : Program} (w : World) (base : Nat) (t ty e : TypeId) (i : TypeInfo) (z : Value) (size bytes : Nat) (ht : P.underlying t = some (.slice e)) (hi : P.info? e = some i) (hz : i.zero = some z)
    (hsize : i.size = size) (hby : i.bytes = bytes) (hzs : z.cells.size = size) (hsz : 0 < size)
    (v : Value) (n : Nat) (xs : List Value) (hown : w.ownsRow base e size v n xs)
    (A : Option Addr) (m c : Nat) (news : List Value) (hl : news.length = m * size) (hr : 0 < m → ∃ ad, A = some ad ∧ ∀ j u, news[j]? = some u → w.cell? (ad.add j) = some u) (h1 : ∀ u ∈ news, u.oneCell' = true)
    (h63 : n + m ≤ maxLen) (hbytes : (n + m) * bytes ≤ 140737488355328) (hbase : base ≤ w.heap.size) :
    ∃ v' w', (Builtin.append_ #[t, t] ty #[v, .slice A m c]).run P w = .ok v' w' ∧ w'.ownsRow base e size v' (n + m) (xs ++ news) ∧ w.grownBy w' v.ownBlock ∧
      (v'.ownBlock = v.ownBlock ∨ v'.ownBlock = some w.heap.size) := by
  rcases A with _ | ad
  · have hm : m = 0 := by
      rcases Nat.eq_zero_or_pos m with h0 | h0
      · exact h0
      · obtain ⟨ad, h, _⟩ := hr h0
        cases h
    subst hm
    have hn : news = [] := List.eq_nil_of_length_eq_zero (by simpa using hl)
    subst hn
    exact ⟨v, w, run_append_of_nil w base t ty e i size ht hi v n xs hown c, by simpa using hown, World.grownBy.refl w _, .inl rfl⟩
  · have hcells : ∀ j u, news[j]? = some u → w.cell? (ad.add j) = some u := by
      intro j u hu
      rcases Nat.eq_zero_or_pos m with h0 | h0
      · subst h0
        have hn : news = [] := List.eq_nil_of_length_eq_zero (by simpa using hl)
        subst hn
        simp at hu
      · obtain ⟨ad', h, hc⟩ := hr h0
        injection h with h
        subst h
        exact hc j u hu
    obtain ⟨v', w', hrun, h2, h3, _, h5⟩ := run_append_own_at (P := P) w base t ty e i z size bytes ht hi hz hsize hby hzs hsz v n xs hown ad m c news hl hcells h1 h63 hbytes hbase
    exact ⟨v', w', hrun, h2, h3, h5⟩

/-- A row of the call's own: its value's form, and what it reads as. -/
theorem own_rd {w : World} {base n : Nat} {e : TypeId} {v : Value} {us : List Value} (h : w.ownsRow base e 1 v n us) :
    ∃ B c, v = .slice B n c ∧ Rd w B n us ∧ Wr w base B n ∧ n ≤ c ∧ (B = none → n = 0) := by
  obtain ⟨hl, h2⟩ := h
  rcases h2 with ⟨rfl, rfl⟩ | ⟨g, cap, cur, rfl, hb, hh, hc, _, hs, ht⟩
  · obtain rfl : us = [] := List.eq_nil_of_length_eq_zero (by simpa using hl)
    exact ⟨none, 0, rfl, Rd.nil _ _, fun h => absurd h (by omega), Nat.le_refl _, fun _ => rfl⟩
  · refine ⟨some ⟨g, 0, none⟩, cap, rfl, Blk.rd (cs := cur) hh (by simpa using hl) (fun i hi => ?_), Blk.wr (cs := cur) hh hb n, hc, fun h => by cases h⟩
    rw [← ht, List.getElem?_take, if_pos (by simpa using hi)]
    simp
theorem own_below {w w' : World} {base n : Nat} {e : TypeId} {v : Value} {us : List Value} (h : w.ownsRow base e 1 v n us) (hb : Below w.heap.size w w') : w'.ownsRow base e 1 v n us :=
  h.kept (row := none) ⟨hb.os, hb.tape, hb.output, hb.size, fun k hk _ => hb.block k hk⟩ (by cases v.ownBlock <;> simp)
theorem own_drewN {w : World} {base n m : Nat} {e : TypeId} {v : Value} {us : List Value} (h : w.ownsRow base e 1 v n us) : (w.drewN m).ownsRow base e 1 v n us := h
theorem own_base {w : World} {base b n : Nat} {e : TypeId} {v : Value} {us : List Value} (h : w.ownsRow base e 1 v n us) (hb : b ≤ base) : w.ownsRow b e 1 v n us := by
  obtain ⟨hl, h2⟩ := h
  rcases h2 with h2 | ⟨g, cap, cur, rfl, hb', r⟩
  · exact ⟨hl, .inl h2⟩
  · exact ⟨hl, .inr ⟨g, cap, cur, rfl, Nat.le_trans hb hb', r⟩⟩
theorem own_empty (w : World) (e : TypeId) : (w.alloc (.cells #[] e)).ownsRow w.heap.size e 1 (.slice (some ⟨w.heap.size, 0, none⟩) 0 0) 0 [] :=
  World.ownsRow_made w #[] 0 (Nat.le_refl _) (Nat.zero_le _) rfl

theorem wp_append_ints {o : Oper} {a : Act} {K : Act → World → Prop} {Q : Exit → Act → World → Prop} {w : World} (s x : Operand)
    (ho : o.op = .call { callee := .builtin .append, args := #[s, x], argTypes := #[22, 22] })
    (base : Nat) (v : Value) (n : Nat) (xs ys : List Int) (A : Option Addr) (m c : Nat) (hs : a.eval s = v) (hx : a.eval x = .slice A m c)
    (hown : w.ownsRow base 2 1 v n (ints xs)) (hr : Rd w A m (ints ys)) (hn : n + m ≤ 1099511627776) (hbase : base ≤ w.heap.size)
    (h : ∀ v' w', w'.ownsRow base 2 1 v' (n + m) (ints (xs ++ ys)) → Below base w w' → w.grownBy w' v.ownBlock → (v'.ownBlock = v.ownBlock ∨ v'.ownBlock = some w.heap.size) → K (a.put o.dst v') w') : o.wp Try.prog a w K Q := by
  obtain ⟨i0, hi0, hz0, hz1, hz2⟩ := info_parts int64_info
  obtain ⟨v', w', hrun, h2, h3, h4⟩ := run_append_any (P := Try.prog) w base 22 o.type 2 i0 _ 1 8 Try.underlying22 hi0 hz0 hz1 hz2 rfl (by omega) v n (ints xs) hown A m c (ints ys)
    (by rw [hr.1, Nat.mul_one]) (fun hm => by
      obtain ⟨ad, e, hc⟩ := hr.2 hm
      exact ⟨ad, e, fun j u hu => by rw [hc j (by have := (List.getElem?_eq_some_iff.1 hu).1; rwa [hr.1] at this)]; exact hu⟩) (oneCell_ints ys) (by unfold maxLen; omega) (by omega) hbase
  unfold Oper.wp execOp
  simp only [ho, resolve, invoke, builtin, Sem.run_bind, Sem.run_pure, Result.andThen_ok, List.map_toArray, List.map_cons, List.map_nil, hs, hx, hrun]
  refine h v' w' (by unfold ints at h2 ⊢; simpa using h2) ((Below.refl _ _).grown h3 hbase (fun k hk => (hown.lt k hk).1)) h3 h4

theorem wpList_append_ints {ops : Array Oper} {rest : List Oper} {o : Oper} {a : Act} {Q : Exit → Act → World → Prop} {w : World} (hgd : o.guard = none) (s x : Operand)
    (ho : o.op = .call { callee := .builtin .append, args := #[s, x], argTypes := #[22, 22] })
    (base : Nat) (v : Value) (n : Nat) (xs ys : List Int) (A : Option Addr) (m c : Nat) (hs : a.eval s = v) (hx : a.eval x = .slice A m c)
    (hown : w.ownsRow base 2 1 v n (ints xs)) (hr : Rd w A m (ints ys)) (hn : n + m ≤ 1099511627776) (hbase : base ≤ w.heap.size)
    (h : ∀ v' w', w'.ownsRow base 2 1 v' (n + m) (ints (xs ++ ys)) → Below base w w' → w.grownBy w' v.ownBlock → (v'.ownBlock = v.ownBlock ∨ v'.ownBlock = some w.heap.size) → wpList Try.prog ops Q rest (a.put o.dst v') w') : wpList Try.prog ops Q (o :: rest) a w :=
  wpList_plain hgd fun _ hK => wp_append_ints s x ho base v n xs ys A m c hs hx hown hr hn hbase fun v' w' h2 h3 h4 h5 => hK _ _ (h v' w' h2 h3 h4 h5)

/-- One number: it stands in a new block of one cell. -/
theorem rd_one (w : World) (x : Int) (e : TypeId) : Rd (w.alloc (.cells #[.int .i64 x] e)) (some ⟨w.heap.size, 0, none⟩) 1 (ints [x]) :=
  (Blk.new w e #[.int .i64 x]).rd rfl (fun i hi => by obtain rfl : i = 0 := by omega
                                                      rfl)
theorem wpList_append_int1 {ops : Array Oper} {rest : List Oper} {o : Oper} {a : Act} {Q : Exit → Act → World → Prop} {w : World} {u : Int} {e : TypeId} (hgd : o.guard = none) (s x : Operand)
    (ho : o.op = .call { callee := .builtin .append, args := #[s, x], argTypes := #[22, 22] })
    (base : Nat) (v : Value) (n : Nat) (xs : List Int) (hs : a.eval s = v) (hx : a.eval x = .slice (some ⟨w.heap.size, 0, none⟩) 1 1)
    (hown : w.ownsRow base 2 1 v n (ints xs)) (hn : n + 1 ≤ 1099511627776) (hbase : base ≤ w.heap.size)
    (h : ∀ v' w', w'.ownsRow base 2 1 v' (n + 1) (ints (xs ++ [u])) → Below base w w' → w.grownBy w' v.ownBlock → (v'.ownBlock = v.ownBlock ∨ w.heap.size ≤ v'.ownBlock.getD 0) → wpList Try.prog ops Q rest (a.put o.dst v') w') :
    wpList Try.prog ops Q (o :: rest) a (w.alloc (.cells #[.int .i64 u] e)) :=
  wpList_append_ints hgd s x ho base v n xs [u] _ 1 1 hs hx (hown.alloc _) (rd_one w u e) hn (by simp; omega) fun v' w' h2 h3 h4 h5 =>
    h v' w' h2 (((Below.refl _ _).alloc hbase _).trans h3) (grown_trans (World.grownBy_alloc w _ _) h4) (h5.imp id fun h5 => by rw [h5]; simp)

theorem wpList_append_int1g {ops : Array Oper} {rest : List Oper} {o : Oper} {a : Act} {Q : Exit → Act → World → Prop} {w : World} {u : Int} {e : TypeId} (g : Nat) (hg : w.heap.size = g) (hgd : o.guard = none) (s x : Operand)
    (ho : o.op = .call { callee := .builtin .append, args := #[s, x], argTypes := #[22, 22] })
    (base : Nat) (v : Value) (n : Nat) (xs : List Int) (hs : a.eval s = v) (hx : a.eval x = .slice (some ⟨g, 0, none⟩) 1 1)
    (hown : w.ownsRow base 2 1 v n (ints xs)) (hn : n + 1 ≤ 1099511627776) (hbase : base ≤ w.heap.size)
    (h : ∀ v' w', w'.ownsRow base 2 1 v' (n + 1) (ints (xs ++ [u])) → Below base w w' → w.grownBy w' v.ownBlock → (v'.ownBlock = v.ownBlock ∨ w.heap.size ≤ v'.ownBlock.getD 0) → wpList Try.prog ops Q rest (a.put o.dst v') w') :
    wpList Try.prog ops Q (o :: rest) a (w.alloc (.cells #[.int .i64 u] e)) := by
  subst hg
  exact wpList_append_int1 hgd s x ho base v n xs hs hx hown hn hbase h
theorem rd_pair (w : World) (x y : Int) (e : TypeId) : Rd (w.alloc (.cells #[.int .i64 x, .int .i64 y] e)) (some ⟨w.heap.size, 0, none⟩) 2 (ints [x, y]) :=
  (Blk.new w e #[.int .i64 x, .int .i64 y]).rd rfl (fun i hi => by
    match i, hi with
    | 0, _ => rfl
    | 1, _ => rfl)
theorem wpList_append_int2 {ops : Array Oper} {rest : List Oper} {o : Oper} {a : Act} {Q : Exit → Act → World → Prop} {w : World} {u u' : Int} {e : TypeId} (hgd : o.guard = none) (s x : Operand)
    (ho : o.op = .call { callee := .builtin .append, args := #[s, x], argTypes := #[22, 22] })
    (base : Nat) (v : Value) (n : Nat) (xs : List Int) (hs : a.eval s = v) (hx : a.eval x = .slice (some ⟨w.heap.size, 0, none⟩) 2 2)
    (hown : w.ownsRow base 2 1 v n (ints xs)) (hn : n + 2 ≤ 1099511627776) (hbase : base ≤ w.heap.size)
    (h : ∀ v' w', w'.ownsRow base 2 1 v' (n + 2) (ints (xs ++ [u, u'])) → Below base w w' → w.grownBy w' v.ownBlock → (v'.ownBlock = v.ownBlock ∨ w.heap.size ≤ v'.ownBlock.getD 0) → wpList Try.prog ops Q rest (a.put o.dst v') w') :
    wpList Try.prog ops Q (o :: rest) a (w.alloc (.cells #[.int .i64 u, .int .i64 u'] e)) :=
  wpList_append_ints hgd s x ho base v n xs [u, u'] _ 2 2 hs hx (hown.alloc _) (rd_pair w u u' e) hn (by simp; omega) fun v' w' h2 h3 h4 h5 =>
    h v' w' h2 (((Below.refl _ _).alloc hbase _).trans h3) (grown_trans (World.grownBy_alloc w _ _) h4) (h5.imp id fun h5 => by rw [h5]; simp)

set_option maxHeartbeats 400000 in
theorem l01Own_any (A : Option Addr) (n c : Nat) (xs : List Int) (w : World) (hn : n ≤ 2097152) (hr : Rd w A n (ints xs)) :
    Calls Try.prog 163 #[.slice A n c] w fun e w' => ∃ v, e = .returned v ∧ w'.ownsRow w.heap.size 2 1 v n (ints xs) ∧ Below w.heap.size w w' := by
  go_enter Try.func163, Try.ntmps163
  go_wp2_with (at_builtin; refine wpList_append_ints rfl _ _ rfl w.heap.size (.slice (some ⟨w.heap.size, 0, none⟩) 0 0) 0 [] xs A n c rfl rfl (own_empty w _) ?_ (by omega) (by simp) ?_; exact hr.below ((Below.refl _ _).alloc (Nat.le_refl _) _); intro v' w' hown hbel _ _)
  go_ret
  exact ⟨_, rfl, by simpa using hown, ((Below.refl _ _).alloc (Nat.le_refl _) _).trans hbel⟩

set_option maxHeartbeats 400000 in
theorem clone_any (A : Option Addr) (n c : Nat) (xs : List Int) (w : World) (hn : n ≤ 2097152) (hr : Rd w A n (ints xs)) :
    Calls Try.prog 120 #[.slice A n c] w fun e w' => ∃ v, e = .returned v ∧ w'.ownsRow w.heap.size 2 1 v n (ints xs) ∧ Below w.heap.size w w' := by
  rcases A with _ | ad
  · have h0 : n = 0 := by
      rcases Nat.eq_zero_or_pos n with h | h
      · exact h
      · obtain ⟨ad, e, _⟩ := hr.2 h
        cases e
    subst h0
    obtain rfl : xs = [] := List.eq_nil_of_length_eq_zero hr.len
    have hnil := fun (W : World) => Lib.run_eql_slice_nil (P := Try.prog) W 22 2 none 0 c 0 0 Try.underlying22
    simp only [Option.isNone_none] at hnil
    go_enter Try.func120, Try.ntmps120
    go_wp2_with fail
    go_ret
    exact ⟨_, rfl, World.ownsRow_nil _ _ _ _, Below.refl _ _⟩
  · have hnil := fun (W : World) => Lib.run_eql_slice_nil (P := Try.prog) W 22 2 (some ad) n c 0 0 Try.underlying22
    simp only [Option.isNone_some] at hnil
    go_enter Try.func120, Try.ntmps120
    go_wp2_with (at_builtin; refine wpList_append_ints rfl _ _ rfl w.heap.size (.slice (some ⟨w.heap.size, 0, none⟩) 0 0) 0 [] xs (some ad) n c rfl rfl (own_empty w _) ?_ (by omega) (by simp) ?_; exact hr.below ((Below.refl _ _).alloc (Nat.le_refl _) _); intro v' w' hown hbel _ _)
    go_ret
    exact ⟨_, rfl, by simpa using hown, ((Below.refl _ _).alloc (Nat.le_refl _) _).trans hbel⟩
end Go.Proofs.Ytlgmdekhlcbhoaa
