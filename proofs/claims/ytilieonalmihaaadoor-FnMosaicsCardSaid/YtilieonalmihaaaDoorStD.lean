/- Words of a text, read as numbers: the reference's side. Conditions: lengths. -/
import Derived.Test.YtilieonalmihaaaDoorStB
import Derived.Test.YtilieonalmihaaaDoorRecP
namespace Go.Proofs.YtilieonalmihaaaDoor
open Go.RowKit

/-- texts in cells -/
def strs (ws : List Bs) : List Value := ws.map fun x => Value.string ⟨x.toArray⟩
theorem strs_app (a b : List Bs) : strs (a ++ b) = strs a ++ strs b := List.map_append
theorem Rd.str {w : World} {A : Option Addr} {n k : Nat} {ws : List Bs} (r : Rd w A n (strs ws)) (hk : k < n) : ∃ ad, A = some ad ∧ w.cell? (ad.add k) = some (.string ⟨(ws.getD k []).toArray⟩) := by
  obtain ⟨ad, rfl, hc⟩ := r.2 (by omega)
  refine ⟨ad, rfl, ?_⟩
  have hl : k < ws.length := by have := r.1; unfold strs at this; simp at this; omega
  rw [hc k hk]
  unfold strs
  rw [List.getElem?_map, List.getElem?_eq_getElem hl, List.getD_eq_getElem?_getD, List.getElem?_eq_getElem hl]
  rfl
theorem Rd.strl {w : World} {A : Option Addr} {n : Nat} {ws : List Bs} (r : Rd w A n (strs ws)) : ws.length = n := by have := r.1; unfold strs at this; simpa using this
theorem Rd.strt {w : World} {A : Option Addr} {n k : Nat} {ws : List Bs} (r : Rd w A n (strs ws)) (hk : k ≤ n) : Rd w A k (strs (ws.take k)) := by
  have hl := r.strl
  refine ⟨by unfold strs; simp; omega, fun hn => ?_⟩
  obtain ⟨ad, rfl, hc⟩ := r.2 (by omega)
  refine ⟨ad, rfl, fun i hi => ?_⟩
  rw [hc i (by omega)]
  unfold strs
  rw [List.getElem?_map, List.getElem?_map, List.getElem?_take, if_pos hi]
theorem string_inf : (Tryd.prog.info? 9).map (fun i => (i.zero.map (·.cells.size), i.size, i.bytes)) = some (some 1, 1, 16) := by kernel_rfl
theorem wpList_append_str1 {ops : Array Oper} {rest : List Oper} {o : Oper} {a : Act} {Q : Exit → Act → World → Prop} {w : World} {s : ByteArray} {e : TypeId} (hgd : o.guard = none) (sl x : Operand)
    (ho : o.op = .call { callee := .builtin .append, args := #[sl, x], argTypes := #[48, 48] })
    (base : Nat) (v : Value) (n : Nat) (ws : List Bs) (p : Bs) (hs : a.eval sl = v) (hx : a.eval x = .slice (some ⟨w.heap.size, 0, none⟩) 1 1)
    (hown : w.ownsRow base 9 1 v n (strs ws)) (hp : s = ⟨p.toArray⟩) (hn : n + 1 ≤ 1099511627776) (hbase : base ≤ w.heap.size)
    (h : ∀ v' w', w'.ownsRow base 9 1 v' (n + 1) (strs (ws ++ [p])) → Below base w w' → wpList Tryd.prog ops Q rest (a.put o.dst v') w') :
    wpList Tryd.prog ops Q (o :: rest) a (w.alloc (.cells #[.string s] e)) := by
  subst hp
  refine wpList_append_rows hgd sl x _ ho 9 1 16 Tryd.underlying48 string_inf (by decide) base v n (strs ws) hs (hown.alloc _) (some ⟨w.heap.size, 0, none⟩) 1 1 [.string ⟨p.toArray⟩] hx ?_ ?_ hn (by decide) (by simp; omega) ?_
  · exact (Blk.new w e #[.string ⟨p.toArray⟩]).rd rfl (fun i hi => by obtain rfl : i = 0 := by omega
                                                                      rfl)
  · intro u hu
    rw [List.mem_singleton] at hu
    subst hu
    rfl
  · intro v' w' h2 h3 h4
    refine h v' w' (by rw [strs_app]; exact h2) (((Below.refl _ _).alloc hbase _).trans ((Below.refl _ _).grown h3 (by simp; omega) (fun k hk => (hown.lt k hk).1)))
theorem ext_piece (s : ByteArray) (f k : Nat) : s.extract f k = ⟨((s.data.toList.drop f).take (k - f)).toArray⟩ := by
  have h : (s.extract f k).data = s.data.extract f k := ByteArray.data_extract
  refine ByteArray.ext ?_
  rw [h]
  refine Array.ext' ?_
  rw [Array.toList_extract]
/-- how far a text is cut: the words found, and from where the next one runs -/
def SpI (c : UInt8) (l : Bs) (k f : Nat) (ws : List Bs) : Prop := (k ≤ l.length ∧ f ≤ k ∧ splitC c l = ws ++ splitC c (l.drop f) ∧ c ∉ (l.drop f).take (k - f)) ∨ (k = l.length + 1 ∧ splitC c l = ws)
theorem SpI.start (c : UInt8) (l : Bs) : SpI c l 0 0 [] := .inl ⟨Nat.zero_le _, Nat.le_refl _, rfl, by simp⟩
theorem SpI.last {c : UInt8} {l : Bs} {f : Nat} {ws : List Bs} (h : SpI c l l.length f ws) : splitC c l = ws ++ [(l.drop f).take (l.length - f)] := by
  rcases h with ⟨_, hf, h1, h2⟩ | ⟨h, _⟩
  · have e : (l.drop f).take (l.length - f) = l.drop f := List.take_of_length_le (by rw [List.length_drop]; exact Nat.le_refl _)
    rw [e] at h2 ⊢
    rw [h1, splitC_none h2]
  · omega
theorem SpI.hit {c : UInt8} {l : Bs} {k f : Nat} {ws : List Bs} (h : SpI c l k f ws) (hk : k < l.length) (hc : l[k] = c) : SpI c l (k + 1) (k + 1) (ws ++ [(l.drop f).take (k - f)]) := by
  rcases h with ⟨_, hf, h1, h2⟩ | ⟨h, _⟩
  · refine .inl ⟨by omega, Nat.le_refl _, ?_, by simp⟩
    have e : l.drop f = (l.drop f).take (k - f) ++ c :: l.drop (k + 1) := by
      conv => lhs; rw [← List.take_append_drop (k - f) (l.drop f)]
      rw [List.drop_drop, show f + (k - f) = k by omega, List.drop_eq_getElem_cons hk, hc]
    rw [h1, List.append_assoc]
    conv => lhs; rw [e]
    rw [splitC_hit _ h2]
    rfl
  · omega
theorem SpI.miss {c : UInt8} {l : Bs} {k f : Nat} {ws : List Bs} (h : SpI c l k f ws) (hk : k < l.length) (hc : ¬ l[k] = c) : SpI c l (k + 1) f ws := by
  rcases h with ⟨_, hf, h1, h2⟩ | ⟨h, _⟩
  · refine .inl ⟨by omega, by omega, h1, ?_⟩
    have hkd : k - f < (l.drop f).length := by rw [List.length_drop]; omega
    rw [show k + 1 - f = k - f + 1 by omega, List.take_succ_eq_append_getElem hkd, List.mem_append, List.mem_singleton]
    rintro (h | h)
    · exact h2 h
    · rw [List.getElem_drop] at h
      have e : f + (k - f) = k := by omega
      simp only [e] at h
      exact hc h.symm
  · omega
theorem SpI.len {c : UInt8} {l : Bs} {k f : Nat} {ws : List Bs} (h : SpI c l k f ws) : k ≤ l.length + 1 ∧ (k ≤ l.length → f ≤ k) := by
  rcases h with ⟨h1, h2, _⟩ | ⟨h, _⟩
  · exact ⟨by omega, fun _ => h2⟩
  · exact ⟨by omega, fun c => by omega⟩
set_option maxRecDepth 100000 in
set_option maxHeartbeats 2000000 in
theorem l01Split_any (s : ByteArray) (c : UInt8) (w : World) (hs : s.size ≤ 1048576) :
    Calls Tryd.prog 31 #[.string s, .int .u8 (c.toNat : Int)] w fun e w' => ∃ B d, e = .returned (.slice B (splitC c s.data.toList).length d) ∧ Rd w' B (splitC c s.data.toList).length (strs (splitC c s.data.toList)) ∧ (splitC c s.data.toList).length ≤ d ∧ Below w.heap.size w w' := by
  have hl : s.data.toList.length = s.size := by simp
  have hc8 := c.toNat_lt
  go_enter Tryd.func31, Tryd.ntmps31
  go_wp2_with fail
  go_loopw [5, 6, 7] (fun v f i wr => ∃ (k q : Nat) (ws : List Bs), k ≤ s.size + 1 ∧ i = .int .i64 k ∧ f = .int .i64 q ∧ SpI c s.data.toList k q ws ∧ ws.length ≤ k ∧ wr.ownsRow w.heap.size 9 1 v ws.length (strs ws) ∧ Below w.heap.size w wr) (fun _ _ i _ => s.size + 1 - (intOf i).toNat)
  case atStart => exact ⟨0, 0, [], by omega, rfl, rfl, SpI.start c _, Nat.le_refl _, own_empty w _, (Below.refl _ _).alloc (Nat.le_refl _) _⟩
  case round =>
    obtain ⟨k, q, ws, hk, rfl, rfl, hI, hwl, hown, b⟩ := hrel
    have hI2 := hI.len
    have HI := Lib.hid hI
    clear hI
    have hbs := b.size
    by_cases hle : k ≤ s.size
    · have hqk := hI2.2 (by omega)
      have hX := ext_piece s q k
      by_cases he : k = s.size
      · subst he
        have HL : Hid (SpI c s.data.toList (s.size + 1) (s.size + 1) (ws ++ [(s.data.toList.drop q).take (s.size - q)])) := by
          have := HI.out
          rw [← hl] at this ⊢
          exact .inr ⟨rfl, this.last⟩
        go_wp2_with (at_builtin; refine wpList_append_str1 rfl _ _ rfl w.heap.size _ ws.length ws ((s.data.toList.drop q).take (s.size - q)) rfl rfl hown rfl (by omega) hbs ?_; intro v' w' hown' hbel')
        go_roundw
        case rel => exact ⟨s.size + 1, s.size + 1, _, Nat.le_refl _, by go_num, by go_num, HL.out, by simp; omega, by simpa using hown', b.trans hbel'⟩
        case measure => simp [intOf]
      · have hlt : k < s.size := by omega
        have hltI : (k : Int) < (s.size : Int) := by omega
        have hneI : ¬ (k : Int) = (s.size : Int) := by omega
        have hke : s.data.toList[k]'(by omega) = s[k] := rfl
        have HH : Hid (s[k] = c → SpI c s.data.toList (k + 1) (k + 1) (ws ++ [(s.data.toList.drop q).take (k - q)])) := fun h => HI.out.hit (by omega) (by rw [hke]; exact h)
        have HM : Hid (¬ s[k] = c → SpI c s.data.toList (k + 1) q ws) := fun h => HI.out.miss (by omega) (by rw [hke]; exact h)
        have hb8 := s[k].toNat_lt
        by_cases hc : s[k] = c
        · have HL := Lib.hid (HH.out hc)
          clear HH HM hke
          go_wp2_with (at_builtin; refine wpList_append_str1 rfl _ _ rfl w.heap.size _ ws.length ws ((s.data.toList.drop q).take (k - q)) rfl rfl hown rfl (by omega) hbs ?_; intro v' w' hown' hbel')
          go_roundw
          case rel => exact ⟨k + 1, k + 1, _, by omega, by go_num, by go_num, HL.out, by simp; omega, by simpa using hown', b.trans hbel'⟩
          case measure => simp [intOf]; omega
        · have HL := Lib.hid (HM.out hc)
          have hcn : ¬ s[k].toNat = c.toNat := fun h => hc (UInt8.toNat_inj.1 h)
          have hcI : ¬ (s[k].toNat : Int) = (c.toNat : Int) := by omega
          have hcB : (s[k] == c) = false := by simpa using hc
          have hcC : ((s[k].toNat : Int) == (c.toNat : Int)) = false := by rw [beq_eq_false_iff_ne]; exact hcI
          clear HH HM hke hX
          go_wp2_with fail
          go_roundw
          case rel => exact ⟨k + 1, q, ws, by omega, by go_num, rfl, HL.out, by omega, hown, b⟩
          case measure => simp [intOf]; omega
    · obtain rfl : k = s.size + 1 := by omega
      have hE : splitC c s.data.toList = ws := by
        rcases HI.out with ⟨h, _⟩ | ⟨_, h⟩
        · omega
        · exact h
      obtain ⟨B, d, rfl, hrd, -, hd, -⟩ := own_rd hown
      go_wp2_with fail
      go_ret
      rw [hE]
      exact ⟨B, d, rfl, hrd, hd, b⟩
end Go.Proofs.YtilieonalmihaaaDoor
