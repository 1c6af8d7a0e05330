import Derived.Test.YtkndcebhjcfphaaGreatDoorZF
import Derived.Test.YtkndcebhjcfphaaGreatDoorZP
import Derived.Test.YtkndcebhjcfphaaGreatDoorZT
namespace Go.Proofs.YtkndcebhjcfphaaGreatDoor
open Go.RowKit Go.Proofs.Tryz
set_option maxRecDepth 100000
set_option maxHeartbeats 4000000
set_option linter.all false
theorem Lp (l:Bs):(⟨l.toArray⟩:ByteArray).data.toList=l:=rfl
theorem Bj (l:Bs):(⟨l.toArray⟩:ByteArray).size=l.length:=by simp[ByteArray.size]
theorem AY (x y:Bs):((⟨x.toArray⟩:ByteArray)++⟨y.toArray⟩)=⟨(x++y).toArray⟩:=ByteArray.mk_append_mk x y
theorem Sa (s:ByteArray):(⟨s.data.toList.toArray⟩:ByteArray)=s:=Lib.mk_data s
theorem U1 (w:World) (os:Array Obj):Below w w (Sort.grow w os):=
 ⟨rfl,rfl,rfl,by simp[Sort.grow],fun k hk=>by simp[Sort.grow,Array.getElem?_append_left hk]⟩
theorem Ph {w w':World} {n:String} {cs:Array Value} (b:Below w w w') (h:w.var? prog n=some cs):w'.var? prog n=some cs:=by
 unfold World.var? at*
 cases hg:Program.globalNamed prog n with
 |none=>rw[hg] at h;cases h
 |some g=>
  rw[hg] at h;simp only[Option.bind_some] at h⊢
  have hl:g<w:=by
   rcases Nat.lt_or_ge g w.heap.size with hlt|hge
   ·exact hlt
   ·rw[Array.getElem?_eq_none hge] at h;cases h
  rw[b.block g hl];exact h
def CK (w:World):Prop:=Lib.TabIs prog w "internal/strconv.uint64pow10" .u64 Lib.pow10Tab
theorem CK.below {w w':World} (h:CK w) (b:Below w w w'):CK w':=Ph b h
theorem BY (n:Int) (w:World) (h0: -9223372036854775808≤n) (h1:n≤9223372036854775807) (T:CK w):
  (BT 134 #[ZI n] w (.string ⟨(Lib.itoa n).toArray⟩):Prop):=by
 go_enter func134,ntmps134
 go_wp2_with fail
 refine(IF n h0 h1 _ T).mono ?_;rintro e w' ⟨rfl,k,os,rfl⟩;go_wp2;go_ret;exact⟨rfl,EE (U1 (w.drewN k) os)⟩
def dg1 (u:Nat):UInt8:=UInt8.ofNat (48+u)
theorem Rg {u g:Nat} {W:World} (h:u<10) (hc:W.cell? ⟨g,0,none⟩=some (.int .u8 (48+(u:Int)))):(convert 40 9 (.slice (some ⟨g,0,none⟩) 1 1)).run prog W=.ok (.string ⟨#[dg1 u]⟩) W:=
 run_convert_bytes_back (P:=prog) _ _ _ 5 ⟨g,0,none⟩ 1 [dg1 u] underlying40 underlying5 underlying9 (fun j hj=>by
  obtain rfl:j=0:=by simpa using hj
  rw[CE,hc];have:((dg1 u).toNat:Int)=48+(u:Int):=by unfold dg1;rw[He h];omega
  show _=some (Value.int .u8 ((dg1 u).toNat:Int));rw[this])
theorem NS {u:Nat} (h:u<10) (W:World):(convert 40 9 (.slice (some ⟨W,0,none⟩) 1 1)).run prog (W.alloc (.cells #[.int .u8 (48+(u:Int))] 5))=.ok (.string ⟨#[dg1 u]⟩) (W.alloc (.cells #[.int .u8 (48+(u:Int))] 5)):=
 Rg h ((Br W 5 #[.int .u8 (48+(u:Int))]).cell 0)
theorem WM {u:Nat} (h:u<10):Lib.decDigits u= [dg1 u]:=Vf h
theorem bS {u:Nat} (h: ¬u<10):Lib.decDigits u=Lib.decDigits (u/10)++ [dg1 (u%10)]:=Ve h
theorem Vs (k:Nat): ∀(n:Nat) (w:World),n≤k→n≤9223372036854775807→
  (BT 88 #[ZI n] w (.string ⟨(Lib.decDigits n).toArray⟩):Prop):=by
 induction k with
 |zero=>
  intro n w hk hn;have h10:n<10:=Aa;have hI:(n:Int)<10:=Aa;have u1:=Bg (48+(n:Int));have u2:IntKind.u8.wrap (48+(n:Int))=48+(n:Int):=by rw[IntKind.wrap_u8];omega
  have hc:=NS h10;have HD:=Ai (WM h10);clear hk
  go_enter func88,ntmps88
  go_wp2_with fail
  go_ret;exact⟨by rw[HD.out];rfl,Ax⟩
 |succ k ih=>
  intro n w hk hn
  by_cases h10:n<10
  ·have hI:(n:Int)<10:=Aa;have u1:=Bg (48+(n:Int));have u2:IntKind.u8.wrap (48+(n:Int))=48+(n:Int):=by rw[IntKind.wrap_u8];omega
   have hc:=NS h10;have HD:=Ai (WM h10);clear hk ih
   go_enter func88,ntmps88
   go_wp2_with fail
   go_ret;exact⟨by rw[HD.out];rfl,Ax⟩
  ·have hI: ¬(n:Int)<10:=Aa;have h0:(0:Int)≤(n:Int):=Aa;have HD:=Ai (bS h10);have IH:=fun W=>ih (n/10) W Aa Aa;obtain⟨q,hq⟩: ∃q:Nat,n/10=q:=⟨_,rfl⟩;obtain⟨r,hr⟩: ∃r:Nat,n%10=r:=⟨_,rfl⟩;have hr10:r<10:=Aa;have e1:(n:Int)/10=(q:Int):=Aa;have e2:(n:Int)%10=(r:Int):=Aa;have hc:=NS hr10;have u3:=Bg (q:Int);have e3:(n:Int).tmod 10=(r:Int):=by rw[Int.tmod_eq_emod_of_nonneg h0];omega
   have e4:(n:Int).tdiv 10=(q:Int):=by rw[Int.tdiv_eq_ediv_of_nonneg h0];omega
   have u1:=Bg (48+(r:Int));have u2:IntKind.u8.wrap (48+(r:Int))=48+(r:Int):=by rw[IntKind.wrap_u8];omega
   have HD2:=HD.out;rw[hq,hr] at HD2;rw[hq] at IH;have HD:=Ai HD2;have hcd:=Rg (W:=(w.alloc (.cells #[.int .u8 (48+(r:Int))] 5)).drew) (g:=w) hr10 ((Br w 5 #[.int .u8 (48+(r:Int))]).cell 0)
   have HB: ∀w1,Below (w.alloc (.cells #[.int .u8 (48+(r:Int))] 5)).drew.heap.size (w.alloc (.cells #[.int .u8 (48+(r:Int))] 5)).drew w1→(convert 40 9 (.slice (some ⟨w,0,none⟩) 1 1)).run prog w1=.ok (.string ⟨#[dg1 r]⟩) w1:=fun w1 b=>
    Rg hr10 ((b.cell (p:=⟨w,0,none⟩) (by simp[World.drew])).trans ((Br w 5 #[.int .u8 (48+(r:Int))]).cell 0))
   have HB1: ∀w1,Below w.drew.heap.size w.drew w1→Below w w w1:=fun w1 b=>EE (m:=1) b;have HB2: ∀w1,Below (w.alloc (.cells #[.int .u8 (48+(r:Int))] 5)).drew.heap.size (w.alloc (.cells #[.int .u8 (48+(r:Int))] 5)).drew w1→Below w w w1:=fun w1 b=>(show Below w w (w.alloc (.cells #[.int .u8 (48+(r:Int))] 5)).drew from Ax).trans (b.mono (by simp[World.drew]))
   have hl1:(Lib.decDigits q).length≤20:=by rw[Lib.decDigits_length];exact Hm 20 q Aa Ah
   clear hk ih HD2 hq hr h10
   go_enter func88,ntmps88
   go_wp2_with fail
   go_region_with (first|(go_at_call 88;(with_reducible refine(IH _).mono ?_);rintro e w1 ⟨rfl,b1⟩;(try (have hc2:=HB _ b1));(first|(have hbw:=HB1 _ b1)|(have hbw:=HB2 _ b1))))
   all_goals
    have hz:=hbw.size
    go_wp2_with fail
    go_ret;exact⟨by rw[HD.out,←AY];rfl,Ax⟩
theorem Ct (n:Nat) (w:World) (hn:n≤9223372036854775807):
  Calls prog 88 #[ZI n] w fun e w'=>e=.returned (.string ⟨(Lib.decDigits n).toArray⟩)∧Below w w w':=Vs n n w Bk hn
theorem Ek (n:Int) (w:World) (h0: -9223372036854775808<n) (h1:n≤9223372036854775807):
  (BT 89 #[ZI n] w (.string ⟨(Lib.itoa n).toArray⟩):Prop):=by
 by_cases hn:n<0
 ·obtain⟨m,hm⟩: ∃m:Nat,-n=(m:Int):=⟨n.natAbs,by omega⟩
  have hmx:m≤9223372036854775807:=Aa
  have HI:Hid (Lib.itoa n=45::Lib.decDigits m):=by
   unfold Hid;rw[Ez hn];have:n.natAbs=m:=Aa;rw[this]
  have hl:(Lib.decDigits m).length≤20:=by rw[Lib.decDigits_length];exact Hm 20 m Aa Ah
  have u1:=Bg (-n)
  go_enter func89,ntmps89
  go_wp2_with fail
  refine(Ct m _ hmx).mono ?_;rintro e w' ⟨rfl,b⟩
  go_wp2_with fail
  go_ret;exact⟨by rw[HI.out];exact AN Ending.returned (AN Value.string (AY [45] (Lib.decDigits m))),b⟩
 ·obtain⟨m,rfl⟩: ∃m:Nat,n=(m:Int):=⟨n.toNat,by omega⟩
  have hmx:m≤9223372036854775807:=Aa
  have HI:Hid (Lib.itoa (m:Int)=Lib.decDigits m):=by
   unfold Hid;rw[DZ Aa,Int.toNat_natCast]
  go_enter func89,ntmps89
  go_wp2_with fail
  refine(Ct m _ hmx).mono ?_;rintro e w' ⟨rfl,b⟩
  go_wp2_with fail
  go_ret;exact⟨by rw[HI.out];rfl,b⟩
theorem Bm (n:Int) (h0: -9223372036854775808≤n) (h1:n≤9223372036854775807):(Lib.itoa n).length≤21:=Lib.itoa_length_le n h0 h1
theorem IR (sep:Bs): ∀(xs:List Int),(∀x∈xs,-9223372036854775808≤x∧x≤9223372036854775807)→(joinI sep xs).length≤xs.length*(sep.length+21)
 | [],_=>by simp[joinI,Lib.join_nil]
 |x::r,h=>by
  have h1:=h x (C5 ..);have h2:=Bm x h1.1 h1.2
  cases r with
  |nil=>
   unfold joinI;rw[List.map_cons,List.map_nil,Lib.join_one]
   simp;omega
  |cons y r=>
   have ih:=IR sep (y::r) (fun z hz=>h z (Hz _ hz))
   have e:joinI sep (x::y::r)=Lib.itoa x++(sep++joinI sep (y::r)):=by
    unfold joinI;simp only[List.map_cons];rw[Lib.join_cons,Lib.join_cons];unfold Lib.joinTail
    simp
   rw[e];simp only[Dy,Gt] at ih⊢;rw[Nat.add_mul (r.length+1) 1,Nat.one_mul];omega
theorem EC (A:Option Addr) (n c:Nat) (xs:List Int) (sep:Bs) (w:World) (hn:n≤1048576) (hs:sep.length≤100) (hr:Rd w A n (ints xs)) (hb: ∀x∈xs,-9223372036854775808<x∧x≤9223372036854775807):
  (BT 127 #[.slice A n c,.string ⟨sep.toArray⟩] w (.string ⟨(joinI sep xs).toArray⟩):Prop):=by
 have HL:=Ai hr.len;have HB:=Ai hb;clear hb
 go_enter func127,ntmps127
 go_wp2_with fail
 go_loopw [5,6] (fun s i wr=> ∃k:Nat,k≤n∧i=.int .i64 k∧s=.string ⟨(joinI sep (xs.take k)).toArray⟩∧Below w w wr) (fun _ i _=>n-(intOf i).toNat)
 case atStart=>exact⟨0,AZ _,rfl,rfl,AP _ _⟩
 case round=>
  obtain⟨k,hk,rfl,rfl,b⟩:=hrel
  by_cases hlt:k<n
  ·have hkx:k<xs.length:=by have:=HL.out;omega
   have hx0:=HB.out (xs.getD k 0) (by rw[CJ hkx];exact EH hkx)
   obtain⟨ad,rfl,hx⟩:=(hr.below b).int hlt;have HT:Hid (xs.take (k+1)=xs.take k++ [xs.getD k 0]):=by unfold Hid;rw[List.take_succ_eq_append_getElem hkx,CJ hkx]
   have HJ:Hid (joinI sep (xs.take (k+1))=if xs.take k= [] then Lib.itoa (xs.getD k 0) else joinI sep (xs.take k)++(sep++Lib.itoa (xs.getD k 0))):=by unfold Hid;rw[HT.out,Vq]
   have hjl:(joinI sep (xs.take k)).length≤1048576*121:=by
    have h1:=IR sep (xs.take k) (fun x hx=>by have:=HB.out x (List.mem_of_mem_take hx);omega)
    have h2:(xs.take k).length≤1048576:=by rw[Ju];omega
    have h3:=Nat.mul_le_mul h2 (show sep.length+21≤121 by omega)
    omega
   have hil:=Bm (xs.getD k 0) Aa Aa;have hsz1:=Bj (joinI sep (xs.take k));have hsz2:=Bj sep;have HK0:Hid (k=0→xs.take k= []):=fun h=>by rw[h];rfl
   have HK1:Hid (k≠0→xs.take k≠ []):=fun h e=>by have h1:=AN List.length e;rw[Ju,List.length_nil] at h1;omega
   generalize xs.getD k 0=x at*;have HJ0:Hid (xs.take k= []→joinI sep (xs.take k)= []):=fun h=>by rw[h];rfl
   obtain⟨J,hJ⟩: ∃J,joinI sep (xs.take k)=J:=⟨_,rfl⟩;rw[hJ] at hjl hsz1 HJ HJ0⊢;clear hJ
   by_cases h0:k=0
   ·have HJ2:Hid (joinI sep (xs.take (k+1))=Lib.itoa x):=by have h1:=HJ.out;rw[AA (HK0.out h0)] at h1;exact h1
    have hz:=b.size;subst h0;obtain rfl:J= []:=by have h1:=HK0.out rfl;exact HJ0.out h1
    rw[Gu] at hx;clear HJ HK0 HK1 HT HJ0
    go_wp2_with fail
    refine(Ek x _ Aa Aa).mono ?_;rintro e w1 ⟨rfl,b1⟩;have b2:=b.trans (b1.mono hz)
    go_wp2_with fail
    go_roundw
    case rel=>exact⟨0+1,by omega,by go_num,by rw[HJ2.out];exact AN Value.string (AY [] (Lib.itoa x)),b2⟩
    case measure=>simp[intOf];omega
   ·have HJ2:Hid (joinI sep (xs.take (k+1))=J++(sep++Lib.itoa x)):=by have h1:=HJ.out;rw[Ak (HK1.out h0)] at h1;exact h1
    have hkp:(0:Int)<(k:Int):=Aa;have hz:=b.size;have hA:=AY J sep;clear HJ HK0 HK1 HT HJ0
    go_wp2_with fail
    refine(Ek x _ Aa Aa).mono ?_;rintro e w1 ⟨rfl,b1⟩;have b2:=b.trans (b1.mono hz)
    go_wp2_with fail
    go_roundw
    case rel=>exact⟨k+1,by omega,by go_num,by rw[HJ2.out,←List.append_assoc,←AY (J++sep) (Lib.itoa x)],b2⟩
    case measure=>simp[intOf];omega
  ·obtain rfl:k=n:=Aa;have HT:Hid (xs.take k=xs):=ED (by have:=HL.out;omega)
   go_wp2_with fail
   go_ret;exact⟨by rw[HT.out];rfl,b⟩
theorem UG:(prog.info? 9).map (fun i=>(i.zero,i.size,i.bytes))=some (some (.string ⟨#[]⟩),1,16):=We51ceQ
theorem Sj (n:Nat) (hn:n≤2097152) (w:World):
  (Instr.makeSlice 22 (ZI n) (ZI n)).run prog w=.ok (.slice (some ⟨w,0,none⟩) n n) (w.alloc (.cells (madeCells #[.string ⟨#[]⟩] n) 9)):=by
 obtain⟨i0,hi0,hz0,hz1,hz2⟩:=info_parts UG;have h:=GE (P:=prog) 22 9 i0 _ underlying22 hi0 hz0 .i64 .i64 n n Bk (by rw[hz2];omega) Aa w
 rw[hz1,Nat.mul_one] at h;exact h
theorem XM (g n:Nat) (xs:List Bs) (sep:Bs) (w:World) (hl:xs.length=n) (hn:n≤1048576) (hc: ∀j,j<n→w.cell? ⟨g,j,none⟩=some (.string ⟨(xs.getD j []).toArray⟩)) (hg:g<w) (hlen:(Lib.join xs sep).length≤140737488355328):
  (BT 197 #[.slice (some ⟨g,0,none⟩) n n,.string ⟨sep.toArray⟩] w (.string ⟨(Lib.join xs sep).toArray⟩):Prop):=by
 subst hl
 have hm:(xs.map fun l=>(⟨l.toArray⟩:ByteArray)).map (·.data.toList)=xs:=by
  rw[List.map_map]
  conv=>rhs;rw[←List.map_id xs]
  exact List.map_congr_left fun x _=>rfl
 have h:=Lq g 0 xs.length (xs.map fun l=>(⟨l.toArray⟩:ByteArray)) ⟨sep.toArray⟩ w (fun j x hx=>by
   rw[List.getElem?_map,Option.map_eq_some_iff] at hx;obtain⟨y,hy,rfl⟩:=hx;have hj:j<xs.length:=(List.getElem?_eq_some_iff.1 hy).1;rw[Nat.zero_add,hc j hj,DE,hy]
   rfl) hg (by rw[List.length_map];omega) (by rw[List.length_map];exact Cp _) (by rw[hm];exact hlen)
 rw[hm,List.length_map] at h;exact h
theorem FN (A:Option Addr) (n c:Nat) (xs:List Int) (sep:Bs) (w:World) (hn:n≤1048576) (hs:sep.length≤100) (hr:Rd w A n (ints xs)) (hb: ∀x∈xs,-9223372036854775808<x∧x≤9223372036854775807) (T:CK w):
  (BT 148 #[.slice A n c,.string ⟨sep.toArray⟩] w (.string ⟨(joinI sep xs).toArray⟩):Prop):=by
 have HL:=Ai hr.len;have HB:=Ai hb;have hmk:=Sj n Aa;clear hb
 go_enter func148,ntmps148
 go_wp2_with fail
 have B0:=Br w 9 (madeCells #[.string ⟨#[]⟩] n);have b0:Below w w (w.alloc (.cells (madeCells #[.string ⟨#[]⟩] n) 9)):=BU;clear hmk
 go_loopw [13] (fun i wr=> ∃(k:Nat) (cs:Array Value),k≤n∧i=.int .i64 k∧Blk wr w.heap.size 9 cs∧cs.size=n∧(∀j,j<k→cs[j]? =some (.string ⟨(Lib.itoa (xs.getD j 0)).toArray⟩))∧Below w w wr) (fun i _=>n-(intOf i).toNat)
 case atStart=>exact⟨0,_,AZ _,rfl,B0,FV _ _,fun j hj=>absurd hj Aa,b0⟩
 case round=>
  clear B0 b0;obtain⟨k,cs,hk,rfl,B,hcs,hpre,b⟩:=hrel;have HC:=Ai hcs;have HP:=Ai hpre;clear hcs hpre
  by_cases hlt:k<n
  ·have hkx:k<xs.length:=by have:=HL.out;omega
   have hx0:=HB.out (xs.getD k 0) (by rw[CJ hkx];exact EH hkx)
   obtain⟨ad,rfl,hx⟩:=(hr.below b).int hlt;obtain⟨x,hxe⟩: ∃x,xs.getD k 0=x:=⟨_,rfl⟩;rw[hxe] at hx0 hx;have HX:=Ai hxe;clear hxe;have hz:=b.size;have gB:=B.lt
   go_wp2_with fail
   refine(BY x _ Aa Aa (T.below b)).mono ?_;rintro e w1 ⟨rfl,b1⟩;have B1:=B.below b1 gB;have b2:=b.trans (b1.mono hz);obtain⟨old,hd⟩: ∃v,w1.cell? ⟨w,k,none⟩=some v:=⟨_,by rw[B1.cell];exact Array.getElem?_eq_getElem (by have:=HC.out;omega)⟩
   have hf:w1.frozen? ⟨w,k,none⟩=false:=B1.frozen k;go_wp2
   go_roundw
   case rel=>
    refine⟨k+1,_,by omega,by go_num,B1.set_ k _,by have:=HC.out;simpa using this,?_,b2.setCell Cr _⟩
    intro j hj;have:=HC.out
    by_cases e:j=k
    ·subst e;rw[Array.getElem?_setIfInBounds_self_of_lt Aa,HX.out]
    ·rw[Array.getElem?_setIfInBounds_ne Aa];exact HP.out j Aa
   case measure=>simp[intOf];omega
  ·obtain rfl:k=n:=Aa
   have hlen:(joinI sep xs).length≤140737488355328:=by
    have h1:=IR sep xs (fun x hx=>by have:=HB.out x hx;omega)
    have h3:=Nat.mul_le_mul (show xs.length≤1048576 by have:=HL.out;omega) (show sep.length+21≤121 by omega)
    omega
   have HN:=Ai hlen;clear hlen;have gB:=B.lt
   go_wp2_with fail
   refine(XM w.heap.size k (xs.map Lib.itoa) sep _ (by rw[List.length_map];exact HL.out) hn (fun j hj=> ?_) gB HN.out).mono ?_
   ·rw[B.cell,HP.out j hj];have hjx:j<xs.length:=by have:=HL.out;omega
    simp[DE,Db hjx]
   rintro e w1 ⟨rfl,b1⟩;go_wp2;go_ret;exact⟨rfl,(An b b1)⟩
def strs (ws:List Bs):List Value:=ws.map fun x=>Value.string ⟨x.toArray⟩
theorem O9 (a b:List Bs):strs (a++b)=strs a++strs b:=List.map_append
theorem Rd.str {w:World} {A:Option Addr} {n k:Nat} {ws:List Bs} (r:Rd w A n (strs ws)) (hk:k<n): ∃ad,A=some ad∧w.cell? (ad.add k)=some (.string ⟨(ws.getD k []).toArray⟩):=by
 obtain⟨ad,rfl,hc⟩:=r.2 Aa;refine⟨ad,rfl,?_⟩;have hl:k<ws.length:=by have:=r.1;unfold strs at this;simp at this;omega
 rw[hc k hk];unfold strs;rw[List.getElem?_map,Db hl,DE,Db hl]
 rfl
theorem Rd.strl {w:World} {A:Option Addr} {n:Nat} {ws:List Bs} (r:Rd w A n (strs ws)):ws.length=n:=by have:=r.1;unfold strs at this;simpa using this
theorem Wl:(prog.info? 9).map (fun i=>(i.zero.map (·.cells.size),i.size,i.bytes))=some (some 1,1,16):=We51ceQ
theorem Eu {ops:Array Oper} {rest:List Oper} {o:Oper} {a:Act} {Q:Exit→Act→World→Prop} {w:World} {s:ByteArray} {e:TypeId} (hgd:o.guard=none) (sl x:Operand)
  (ho:o.op=.call {callee:=.builtin .append,args:= #[sl,x],argTypes:= #[22,22]})
  (base:Nat) (v:Value) (n:Nat) (ws:List Bs) (p:Bs) (hs:a.eval sl=v) (hx:a.eval x=.slice (some ⟨w,0,none⟩) 1 1)
  (hown:w.ownsRow base 9 1 v n (strs ws)) (hp:s=⟨p.toArray⟩) (hn:n+1≤1099511627776) (hbase:base≤w)
  (h: ∀v' w',w'.ownsRow base 9 1 v' (n+1) (strs (ws++ [p]))→Below base w w'→wpList prog ops Q rest (a.put o.dst v') w'):
  wpList prog ops Q (o::rest) a (w.alloc (.cells #[.string s] e)):=by
 subst hp;refine JR hgd sl x _ ho 9 1 16 underlying22 Wl Ah base v n (strs ws) hs (hown.alloc _) (some ⟨w,0,none⟩) 1 1 [.string ⟨p.toArray⟩] hx ?_ ?_ hn Ah Bq ?_
 ·exact(Br w e #[.string ⟨p.toArray⟩]).rd rfl (fun i hi=>by obtain rfl:i=0:=Aa;rfl)
 ·intro u hu;rw[DD] at hu;subst hu
  rfl
 ·intro v' w' h2 h3 h4;refine h v' w' (by rw[O9];exact h2) (((AP _ _).alloc hbase _).trans ((AP _ _).grown h3 Bq (fun k hk=>(hown.lt k hk).1)))
theorem IM (s:ByteArray) (f k:Nat):s.extract f k=⟨((s.data.toList.drop f).take (k-f)).toArray⟩:=by
 have h:(s.extract f k).data=s.data.extract f k:=ByteArray.data_extract;refine ByteArray.ext ?_;rw[h];refine Array.ext' ?_;rw[Array.toList_extract]
def SF (c:UInt8) (l:Bs) (k f:Nat) (ws:List Bs):Prop:=(k≤l.length∧f≤k∧splitC c l=ws++splitC c (l.drop f)∧c∉(l.drop f).take (k-f))∨(k=l.length+1∧splitC c l=ws)
theorem SF.start (c:UInt8) (l:Bs):SF c l 0 0 []:=.inl ⟨AZ _,Cp _,rfl,by simp⟩
theorem SF.last {c:UInt8} {l:Bs} {f:Nat} {ws:List Bs} (h:SF c l l.length f ws):splitC c l=ws++ [(l.drop f).take (l.length-f)]:=by
 rcases h with⟨_,hf,h1,h2⟩|⟨h,_⟩
 ·have e:(l.drop f).take (l.length-f)=l.drop f:=ED (by rw[JW];exact Cp _)
  rw[e] at h2⊢;rw[h1,Fl h2]
 ·omega
theorem SF.hit {c:UInt8} {l:Bs} {k f:Nat} {ws:List Bs} (h:SF c l k f ws) (hk:k<l.length) (hc:l[k]=c):SF c l (k+1) (k+1) (ws++ [(l.drop f).take (k-f)]):=by
 rcases h with⟨_,hf,h1,h2⟩|⟨h,_⟩
 ·refine .inl ⟨by omega,Cp _,?_,by simp⟩
  have e:l.drop f=(l.drop f).take (k-f)++c::l.drop (k+1):=by
   conv=>lhs;rw[←List.take_append_drop (k-f) (l.drop f)]
   rw[List.drop_drop,show f+(k-f)=k by omega,List.drop_eq_getElem_cons hk,hc]
  rw[h1,List.append_assoc]
  conv=>lhs;rw[e]
  rw[D7 _ h2]
  rfl
 ·omega
theorem SF.miss {c:UInt8} {l:Bs} {k f:Nat} {ws:List Bs} (h:SF c l k f ws) (hk:k<l.length) (hc: ¬l[k]=c):SF c l (k+1) f ws:=by
 rcases h with⟨_,hf,h1,h2⟩|⟨h,_⟩
 ·refine .inl ⟨by omega,by omega,h1,?_⟩
  have hkd:k-f<(l.drop f).length:=by rw[JW];omega
  rw[show k+1-f=k-f+1 by omega,List.take_succ_eq_append_getElem hkd,List.mem_append,DD]
  rintro(h|h)
  ·exact h2 h
  ·rw[List.getElem_drop] at h;have e:f+(k-f)=k:=Aa;simp only[e] at h;exact hc h.symm
 ·omega
theorem SF.len {c:UInt8} {l:Bs} {k f:Nat} {ws:List Bs} (h:SF c l k f ws):k≤l.length+1∧(k≤l.length→f≤k):=by
 rcases h with⟨h1,h2,_⟩|⟨h,_⟩
 ·exact⟨by omega,fun _=>h2⟩
 ·exact⟨by omega,fun c=>by omega⟩
theorem Fz (s:ByteArray) (c:UInt8) (w:World) (hs:s.size≤1048576):
  Calls prog 60 #[.string s,.int .u8 (c.toNat:Int)] w fun e w'=> ∃B d,e=.returned (.slice B (splitC c s.data.toList).length d)∧Rd w' B (splitC c s.data.toList).length (strs (splitC c s.data.toList))∧(splitC c s.data.toList).length≤d∧Below w w w':=by
 have hl:s.data.toList.length=s.size:=Cr
 go_enter func60,ntmps60
 go_wp2_with fail
 go_loopw [5,6,7] (fun v f i wr=> ∃(k q:Nat) (ws:List Bs),k≤s.size+1∧i=.int .i64 k∧f=.int .i64 q∧SF c s.data.toList k q ws∧ws.length≤k∧wr.ownsRow w.heap.size 9 1 v ws.length (strs ws)∧Below w w wr) (fun _ _ i _=>s.size+1-(intOf i).toNat)
 case atStart=>exact⟨0,0,[],by omega,rfl,rfl,SF.start c _,Cp _,FI w _,(AP _ _).alloc Bk _⟩
 case round=>
  obtain⟨k,q,ws,hk,rfl,rfl,hI,hwl,hown,b⟩:=hrel;have hI2:=hI.len;have HI:=Ai hI;clear hI;have hbs:=b.size
  by_cases hle:k≤s.size
  ·have hqk:=hI2.2 Aa;have hX:=IM s q k
   by_cases he:k=s.size
   ·subst he
    have HL:Hid (SF c s.data.toList (s.size+1) (s.size+1) (ws++ [(s.data.toList.drop q).take (s.size-q)])):=by
     have:=HI.out;rw[←hl] at this⊢;exact .inr ⟨rfl,this.last⟩
    go_wp2_with (at_builtin;refine Eu rfl _ _ rfl w.heap.size _ ws.length ws ((s.data.toList.drop q).take (s.size-q)) rfl rfl hown rfl Aa hbs ?_;intro v' w' hown' hbel')
    go_roundw
    case rel=>exact⟨s.size+1,s.size+1,_,Cp _,by go_num,by go_num,HL.out,by simp;omega,by simpa using hown',b.trans hbel'⟩
    case measure=>simp[intOf]
   ·have hlt:k<s.size:=Aa;have hltI:(k:Int)<(s.size:Int):=Aa;have hneI: ¬(k:Int)=(s.size:Int):=Aa;have hke:s.data.toList[k]'Aa=s[k]:=rfl;have HH:Hid (s[k]=c→SF c s.data.toList (k+1) (k+1) (ws++ [(s.data.toList.drop q).take (k-q)])):=fun h=>HI.out.hit Aa (by rw[hke];exact h)
    have HM:Hid (¬s[k]=c→SF c s.data.toList (k+1) q ws):=fun h=>HI.out.miss Aa (by rw[hke];exact h)
    by_cases hc:s[k]=c
    ·have HL:=Ai (HH.out hc);clear HH HM hke
     go_wp2_with (at_builtin;refine Eu rfl _ _ rfl w.heap.size _ ws.length ws ((s.data.toList.drop q).take (k-q)) rfl rfl hown rfl Aa hbs ?_;intro v' w' hown' hbel')
     go_roundw
     case rel=>exact⟨k+1,k+1,_,by omega,by go_num,by go_num,HL.out,by simp;omega,by simpa using hown',b.trans hbel'⟩
     case measure=>simp[intOf];omega
    ·have HL:=Ai (HM.out hc);have hcn: ¬s[k].toNat=c.toNat:=fun h=>hc (UInt8.toNat_inj.1 h);have hcI: ¬(s[k].toNat:Int)=(c.toNat:Int):=Aa;have hcC:((s[k].toNat:Int)==(c.toNat:Int))=false:=by rw[Ea];exact hcI
     clear HH HM hke hX
     go_wp2_with fail
     go_roundw
     case rel=>exact⟨k+1,q,ws,by omega,by go_num,rfl,HL.out,by omega,hown,b⟩
     case measure=>simp[intOf];omega
  ·obtain rfl:k=s.size+1:=Aa
   have hE:splitC c s.data.toList=ws:=by
    rcases HI.out with⟨h,_⟩|⟨_,h⟩
    ·omega
    ·exact h
   obtain⟨B,d,rfl,hrd,-,hd,-⟩:=Gy hown
   go_wp2_with fail
   go_ret;rw[hE];exact⟨B,d,rfl,hrd,hd,b⟩
theorem XJ {c:UInt8} (h: ¬Fp c=true):(c.toNat:Int)<48∨ ¬(c.toNat:Int)<48∧57<(c.toNat:Int):=by
 have:=Tx (JV.2 h);omega
theorem Xk {l:Bs} (h:l.length<1∨12<l.length):valB l=false:=by
 rw[JV];intro c;unfold valB at c;simp only[CD,BP] at c;omega
theorem dD {l:Bs} {k:Nat} (hk:k<l.length) (h: ¬Fp l[k]=true):valB l=false:=by
 rw[JV];intro c;unfold valB at c;simp only[CD,BP,List.all_eq_true] at c;exact h (c.2.1 _ (EH hk))
theorem aP {l:Bs} (h1:1≤l.length) (h2:l.length≤12) (h3:l.all Fp=true):valB l=decide (Lib.decDigits (valN l)=l):=by
 unfold valB;rw[BC h1,BC h2,h3]
 simp
theorem Hh (s:ByteArray) (w:World) (hs:s.size≤1048576):
  Calls prog 160 #[.string s] w fun e w'=> ∃m:Int,e=.returned (.tuple (Ly m (valB s.data.toList)))∧(valB s.data.toList=true→m=(valN s.data.toList:Int))∧(0≤m∧m≤1000000000000)∧Below w w w':=by
 have hl:s.data.toList.length=s.size:=Cr
 by_cases h1:(s.size:Int)<1
 ·have HV:=Ai (Xk (l:=s.data.toList) (.inl Aa))
  go_enter func160,ntmps160
  go_wp2;refine AS (v:=.tuple #[ZI 0,.bool false]) (by simp[results,results160,go_sem]) rfl ?_
  rw[HV.out];exact⟨0,rfl,(fun h=>by cases h),by omega,AP _ _⟩
 by_cases h2:(12:Int)<(s.size:Int)
 ·have HV:=Ai (Xk (l:=s.data.toList) (.inr Aa))
  go_enter func160,ntmps160
  go_wp2;refine AS (v:=.tuple #[ZI 0,.bool false]) (by simp[results,results160,go_sem]) rfl ?_
  rw[HV.out];exact⟨0,rfl,(fun h=>by cases h),by omega,AP _ _⟩
 go_enter func160,ntmps160
 go_wp2
 go_loop [4,5] (fun n i=> ∃k:Nat,k≤s.size∧i=.int .i64 k∧n=.int .i64 (valN (s.data.toList.take k):Int)∧(s.data.toList.take k).all Fp=true∧valN (s.data.toList.take k)<10 ^ k) (fun _ i=>s.size-(intOf i).toNat)
 case atStart=>exact⟨0,AZ _,rfl,rfl,rfl,by simp[valN]⟩
 case round=>
  obtain⟨k,hk,rfl,rfl,hd,hp⟩:=hrel;have hk12:10 ^ k≤10 ^ 12:=Nat.pow_le_pow_right Ah Aa;have hv12:valN (s.data.toList.take k)≤1000000000000:=Aa
  by_cases hlt:k<s.size
  ·have hltI:(k:Int)<(s.size:Int):=Aa;have hb:s[k].toNat<256:=s[k].toNat_lt
   by_cases hdg:Fp s[k]=true
   ·obtain⟨g1,g2⟩:=E6 hdg;have hge: ¬(s[k].toNat:Int)<48:=Aa;have hle: ¬(57:Int)<(s[k].toNat:Int):=Aa
    have HS:Hid (valN (s.data.toList.take (k+1))=valN (s.data.toList.take k)*10+(s[k].toNat-48)):=by
     rw[Em s k hlt];exact QJ _ _
    have HD:Hid ((s.data.toList.take (k+1)).all Fp=true):=by
     unfold Hid;rw[Em s k hlt,List.all_append,hd]
     simp[hdg]
    have HP:Hid (valN (s.data.toList.take (k+1))<10 ^ (k+1)):=by
     unfold Hid;rw[HS.out,Nat.pow_succ];omega
    clear hdg hd hp hk12;generalize valN (s.data.toList.take k)=c at*;have u1:IntKind.u8.wrap ((s[k].toNat:Int)-48)=(s[k].toNat:Int)-48:=IntWalk.u8_in _ Aa;have u2:=Bg (10*(c:Int));have u3:=Bg (10*(c:Int)+((s[k].toNat:Int)-48));have u4:=Bg ((s[k].toNat:Int)-48);go_wp2
    go_round
    case rel=>exact⟨k+1,by omega,by go_num,by rw[HS.out];exact AN (Value.int .i64) Aa,HD.out,HP.out⟩
    case measure=>simp[intOf];omega
   ·have HV:=Ai (dD (l:=s.data.toList) (k:=k) Aa hdg);clear hd hp hk12 hv12;generalize valN (s.data.toList.take k)=c at*;rcases XJ hdg with hx|⟨hx,hy⟩
    all_goals
     clear hdg;go_wp2;refine AS (v:=.tuple #[ZI 0,.bool false]) (by simp[results,results160,go_sem]) rfl ?_
     rw[HV.out];exact⟨0,rfl,(fun h=>by cases h),by omega,AP _ _⟩
  ·obtain rfl:k=s.size:=Aa;have ht:s.data.toList.take s.size=s.data.toList:=ED Aa;rw[ht] at hd hv12⊢;have HV:=Ai (aP Aa Aa hd);have HE:=Ai (Sa s);clear hd hp hk12 ht;generalize hu:valN s.data.toList=u at*;have HU:=Ai hu;clear hu
   by_cases hE:Lib.decDigits u=s.data.toList
   ·have hE2:(⟨(Lib.decDigits u).toArray⟩:ByteArray)=s:=by rw[hE,HE.out]
    have HT:Hid (valB s.data.toList=true):=by unfold Hid;rw[HV.out,BC hE]
    clear hE
    go_wp2_with fail
    refine(Ct u _ Aa).mono ?_;rintro e w1 ⟨rfl,b1⟩;rw[hE2];go_wp2;refine AS (v:=.tuple (Ly u true)) (by simp[results,results160,go_sem]) rfl ?_
    rw[HT.out];exact⟨u,rfl,(fun _=>by rw[HU.out]),by omega,b1⟩
   ·have hE5: ¬Lib.decDigits u=s.toList:=by rw[ByteArray.toList_eq];exact hE
    have HT:Hid (valB s.data.toList=false):=by unfold Hid;rw[HV.out,BR hE]
    clear hE
    go_wp2_with fail
    refine(Ct u _ Aa).mono ?_;rintro e w1 ⟨rfl,b1⟩;go_wp2;refine AS (v:=.tuple (Ly u false)) (by simp[results,results160,go_sem,hE5]) rfl ?_
    rw[HT.out];exact⟨u,rfl,(fun h=>by cases h),by omega,b1⟩
theorem Jn (s:ByteArray) (w:World) (hs:s.size≤1048576):
  Calls prog 120 #[.string s] w fun e w'=> ∃m:Int,e=.returned (.tuple (Ly m (MX s.data.toList)))∧(MX s.data.toList=true→m=sgN s.data.toList)∧Below w w w':=by
 have hl:s.data.toList.length=s.size:=Cr
 by_cases h1:(0:Int)<(s.size:Int)
 case neg=>
  have hnil:s.data.toList= []:=Pt Aa;have hv:=Hh s w hs;rw[hnil] at hv⊢
  go_enter func120,ntmps120
  go_wp2_with fail
  refine hv.mono ?_;rintro e w1 ⟨m,rfl,hm,-,b1⟩;go_wp2;refine AS (v:=.tuple (Ly m false)) (by simp[results,results120,go_sem];rfl) rfl ?_
  exact⟨m,rfl,(fun h=>by cases h),b1⟩
 have h0:0<s.size:=Aa
 obtain⟨c,r,hcr⟩: ∃c r,s.data.toList=c::r:=by
  rcases h:s.data.toList with _|⟨c,r⟩
  ·rw[h] at hl;simp at hl;omega
  ·exact⟨c,r,rfl⟩
 have hc0:s[0]=c:=by
  show s.data.toList[0]'Aa=c
  simp[hcr]
 by_cases h45:c.toNat=45
 ·have HB:=Ai (Sn (r:=r) h45);have HN:=Ai (Sq (r:=r) h45)
  have hX:s.extract 1 s.size=⟨r.toArray⟩:=by
   rw[IM,hcr];have:r.length=s.size-1:=by rw[hcr] at hl;simp at hl;omega
   rw[List.drop_one,List.tail_cons,ED Aa]
  have hsz:=Bj r;have hr:r.length≤1048576:=by rw[hcr] at hl;simp at hl;omega
  have hv:=Hh ⟨r.toArray⟩ w (by rw[hsz];exact hr)
  rw[Lp] at hv;rw[hcr];have h45n:s[0].toNat=45:=by rw[hc0];exact h45
  clear hcr hc0 h45
  go_enter func120,ntmps120
  go_wp2_with fail
  refine hv.mono ?_;rintro e w1 ⟨m,rfl,hm,hmb,b1⟩;have u1:=Bg (-m);rcases BA (valB r) with hb|hb
  ·have hm2:=hm hb;subst hm2
   by_cases hp:(0:Int)<(valN r:Int)
   ·have HB2:Hid (MX (c::r)=true):=by unfold Hid;rw[HB.out,hb,BC Aa];rfl
    have hpn:0<valN r:=Aa;rw[hb];clear hm hb;go_wp2;refine AS (v:=.tuple (Ly (-(valN r:Int)) true)) (by simp[results,results120,go_sem]) rfl ?_
    rw[HB2.out];exact⟨-(valN r:Int),rfl,(fun _=>by rw[HN.out]),b1⟩
   ·have HB2:Hid (MX (c::r)=false):=by unfold Hid;rw[HB.out,hb,BR Aa];rfl
    have hpn:valN r=0:=Aa;rw[hb];clear hm hb;go_wp2;refine AS (v:=.tuple (Ly (-(valN r:Int)) false)) (by simp[results,results120,go_sem,hpn]) rfl ?_
    rw[HB2.out];exact⟨-(valN r:Int),rfl,(fun h=>by cases h),b1⟩
  ·have HB2:Hid (MX (c::r)=false):=by unfold Hid;rw[HB.out,hb];rfl
   rw[hb];clear hm hb;go_wp2;refine AS (v:=.tuple (Ly (-m) false)) (by simp[results,results120,go_sem]) rfl ?_
   rw[HB2.out];exact⟨-m,rfl,(fun h=>by cases h),b1⟩
 ·have HB:=Ai (So (r:=r) h45);have HN:=Ai (Sr (r:=r) h45);have hv:=Hh s w hs;rw[hcr] at hv⊢;rw[HB.out,HN.out];generalize valB (c::r)=vb at*;have h45n: ¬s[0].toNat=45:=by rw[hc0];exact h45
  have h45s: ¬(s[0].toNat:Int)=45:=Aa;have h45b:((s[0].toNat:Int)==45)=false:=by rw[Ea];exact h45s
  clear hcr hc0 h45
  go_enter func120,ntmps120
  go_wp2_with fail
  refine hv.mono ?_;rintro e w1 ⟨m,rfl,hm,hmb,b1⟩;go_wp2;refine AS (v:=.tuple (Ly m vb)) (by simp[results,results120,go_sem]) rfl ?_
  exact⟨m,rfl,hm,b1⟩
theorem Of (A:Option Addr) (n c:Nat) (ws:List Bs) (w:World) (hn:n≤1048576) (hr:Rd w A n (strs ws)) (hw: ∀x∈ws,x.length≤1048576):
  Calls prog 93 #[.slice A n c] w fun e w'=>((C7 ws=true∧ ∃B d,e=.returned (.tuple #[.slice B n d,.bool true])∧Rd w' B n (ints (ws.map sgN))∧n≤d)∨(C7 ws=false∧e=.returned (.tuple #[.slice none 0 0,.bool false])))∧Below w w w':=by
 have hl:=hr.strl
 go_enter func93,ntmps93
 go_wp2_with fail
 go_loopw [4,5] (fun v i wr=> ∃k:Nat,k≤n∧i=.int .i64 k∧C7 (ws.take k)=true∧wr.ownsRow w.heap.size 2 1 v k (ints ((ws.take k).map sgN))∧Below w w wr) (fun _ i _=>n-(intOf i).toNat)
 case atStart=>exact⟨0,AZ _,rfl,rfl,FI w _,(AP _ _).alloc Bk _⟩
 case round=>
  obtain⟨k,hk,rfl,ha,hown,b⟩:=hrel;have hbs:=b.size
  by_cases hlt:k<n
  ·have hltI:(k:Int)<(n:Int):=Aa;have hk0:(0:Int)≤(k:Int):=Aa;obtain⟨ad,rfl,hx⟩:=(hr.below b).str hlt;have hkl:k<ws.length:=Aa;have hge:ws.getD k []=ws[k]:=by rw[DE,Db hkl];rfl
   have hm:=hw (ws.getD k []) (by rw[hge];exact EH hkl)
   have HA:Hid (C7 (ws.take (k+1))=MX (ws.getD k [])):=by
    unfold Hid C7 at*;rw[List.take_succ_eq_append_getElem hkl,List.all_append,ha,hge]
    simp
   have HM:Hid ((ws.take (k+1)).map sgN=(ws.take k).map sgN++ [sgN (ws.getD k [])]):=by
    unfold Hid;rw[List.take_succ_eq_append_getElem hkl,List.map_append,hge]
    rfl
   have HF:Hid (MX (ws.getD k [])=false→C7 ws=false):=fun h=>by
    unfold C7;rw[JV];intro c;have:=List.all_eq_true.1 c _ (EH hkl);rw[←hge,h] at this
    cases this
   clear hge ha;generalize ws.getD k []=x at*;have hsx:=Bj x;have hv:=Jn ⟨x.toArray⟩ wr (by rw[hsx];exact hm)
   rw[Lp] at hv
   go_wp2_with fail
   refine hv.mono ?_;rintro e w1 ⟨m,rfl,hmm,b1⟩;have b2:=b.trans (b1.mono hbs);have hbs2:=b2.size;have hown1:=Ef hown b1;clear hown;rcases BA (MX x) with hb|hb
   ·have hm3:=hmm hb;have HA2:Hid (C7 (ws.take (k+1))=true):=by unfold Hid;rw[HA.out,hb]
    rw[hb];clear hmm hb hv
    go_wp2_with (at_builtin;refine Et rfl _ _ rfl w.heap.size _ k ((ws.take k).map sgN) rfl rfl hown1 Aa hbs2 ?_;intro v' w' hown' hbel' _ _)
    go_roundw
    case rel=>exact⟨k+1,by omega,by go_num,HA2.out,by rw[HM.out];exact hown',b2.trans hbel'⟩
    case measure=>simp[intOf];omega
   ·have HF2:=Ai (HF.out hb);rw[hb];clear hmm hb hv;go_wp2;refine AS (v:=.tuple #[.slice none 0 0,.bool false]) (by simp[results,results93,go_sem]) rfl ?_
    exact⟨.inr ⟨HF2.out,rfl⟩,b2⟩
  ·obtain rfl:k=n:=Aa;have ht:ws.take k=ws:=ED Aa;rw[ht] at ha hown;obtain⟨B,d,rfl,hrd,-,hd,-⟩:=Gy hown;go_wp2;refine AS (v:=.tuple #[.slice B k d,.bool true]) (by simp[results,results93,go_sem]) rfl ?_
   exact⟨.inl ⟨ha,B,d,rfl,hrd,hd⟩,b⟩
theorem Ky (w:World) (a b:Int) (e:TypeId):(w.alloc (.cells (Zii a b) e)).ownsRow w.heap.size e 1 (.slice (some ⟨w,0,none⟩) 2 2) 2 (ints [a,b]):=
 ⟨rfl,.inr ⟨w.heap.size,2,(Zii a b),rfl,Cp _,heap_alloc_new w _,Cp _,by unfold maxLen;omega,rfl,rfl⟩⟩
theorem Qf {w:World} {g:Nat} {t:TypeId} {cs:Array Value} (h:Blk w g t cs):Blk w.drew g t cs:=h
theorem W8 (w:World) (xs:List Int) (e:TypeId) (n:Nat) (hn:xs.length=n):Rd (w.alloc (.cells (ints xs).toArray e)) (some ⟨w,0,none⟩) n (ints xs):=by
 subst hn;refine⟨by simp[ints],fun _=>⟨_,rfl,fun i hi=> ?_⟩⟩
 rw[CE,(Br w e (ints xs).toArray).cell]
 simp
theorem JP {f:R7} (h:f.ok=true):f.tx.length≤200:=by
 have h1:=R7.of_ns h;have h2:=IR [32] f.ns (fun x hx=>by have:=h1.2.1 x hx;omega)
 have h3:f.ns.length≤6:=by
  unfold R7.ns
  split
  ·simp
  ·split<;>simp
 unfold R7.tx;simp at h2⊢;omega
theorem VH {f:R7} (h:f.ok=true):f.ln.length≤300:=by
 have h1:=JP h;have h2:=CV f.tx;have h3:=Bm (chkFold f.tx) Aa Aa;unfold R7.ln
 simp
 omega
def R7.V (f:R7):Value:=.agg (AD f.t f.k f.l f.x f.y f.d f.r)
theorem Oz (f:R7) (w:World) (hf:f.ok=true) (T:CK w):
  (BT 198 #[f.V] w (.string ⟨f.ln.toArray⟩):Prop):=by
 obtain⟨-,hc⟩:=R7.cases hf;obtain⟨t,k,l,x,y,d,r⟩:=f;unfold R7.V;simp only at hc⊢;have hk:k=1∨k=2∨k=3:=Aa;clear hc;rcases hk with rfl|rfl|rfl
 ·have HNS:Hid ((⟨t,1,l,x,y,d,r⟩:R7).tx=joinI [32] [t,1,l]):=rfl;have HTL:=Ai (JP hf);have HLN:Hid ((⟨t,1,l,x,y,d,r⟩:R7).ln=(⟨t,1,l,x,y,d,r⟩:R7).tx++ [32,35]++Lib.itoa (chkFold (⟨t,1,l,x,y,d,r⟩:R7).tx)):=rfl
  have HBD:Hid (∀z∈ [t,1,l],-9223372036854775808<z∧z≤9223372036854775807):=fun z hz=>by
   have:=(R7.of_ns hf).2.1 z hz;omega
  generalize(⟨t,1,l,x,y,d,r⟩:R7).ln=LN at*;generalize(⟨t,1,l,x,y,d,r⟩:R7).tx=TX at*;clear hf
  go_enter func198,ntmps198
  go_upto_region 1 with fail
  generalize hG:w.alloc _=w0;obtain⟨K0,b0⟩:=EX hG;clear hG;have c0:=K0.cell;have g0:=K0.lt;have z0:=b0.size;have b1:Below w w (w0.alloc (.cells (Zii t 1) 2)):=b0.alloc z0 _;have KZ:=fun(z:Array Value)=>Qf (Blk.new2 w0 (.cells #[.int .i64 t,.int .i64 1] 2) (.cells #[.int .i64 l] 2) 2 (#[.int .i64 t,.int .i64 1,.int .i64 l]++z));have BZ:=fun(z:Array Value)=>(show Below w w (((w0.alloc (.cells #[.int .i64 t,.int .i64 1] 2)).alloc (.cells #[.int .i64 l] 2)).alloc (.cells (#[.int .i64 t,.int .i64 1,.int .i64 l]++z) 2)).drew from Ax);clear b1
  go_wp2_with fail
  generalize(Question.appendCap 3 2 2).cut (w0.tape w0.drawn (Question.appendCap 3 2 2))=cc;generalize Builtin.zeroCells #[Value.int .i64 0] (cc-3)=zz
  have hrd:=Blk.rd (n:=3) (us:=ints [t,1,l]) (KZ zz) rfl (fun i hi=>by
   rw[Array.getElem?_append_left (show i<(#[Value.int .i64 t,ZI 1,ZI l]:Array Value).size from hi)]
   match i,hi with
   |0,_=>rfl
   |1,_=>rfl
   |2,_=>rfl)
  have b2:=BZ zz;clear KZ BZ;refine(FN _ 3 _ [t,1,l] [32] _ Aa Ah hrd HBD.out (T.below b2)).mono ?_;rw[←HNS.out];rintro e w2 ⟨rfl,b3⟩;have b4:=An b2 b3;have htl:=HTL.out;have hbd:=CV TX;have hls:=Bj TX
  go_wp2_with fail
  refine(Dn ⟨TX.toArray⟩ _ (by rw[hls];unfold maxLen;omega)).mono ?_
  rintro e w3 ⟨rfl,rfl⟩
  go_wp2_with fail
  refine(BY (chkFold TX) _ Aa Aa (T.below b4)).mono ?_;rintro e w4 ⟨rfl,b5⟩;have b6:=An b4 b5;have hA:=AY TX [32,35];have hil:=Bm (chkFold TX) Aa Aa
  go_wp2_with fail
  go_ret;exact⟨by rw[HLN.out,←AY,←AY];first|rfl|(rw[hA]),b6⟩
 ·have HNS:Hid ((⟨t,2,l,x,y,d,r⟩:R7).tx=joinI [32] [t,2,x,y,d,r]):=rfl;have HTL:=Ai (JP hf);have HLN:Hid ((⟨t,2,l,x,y,d,r⟩:R7).ln=(⟨t,2,l,x,y,d,r⟩:R7).tx++ [32,35]++Lib.itoa (chkFold (⟨t,2,l,x,y,d,r⟩:R7).tx)):=rfl
  have HBD:Hid (∀z∈ [t,2,x,y,d,r],-9223372036854775808<z∧z≤9223372036854775807):=fun z hz=>by
   have:=(R7.of_ns hf).2.1 z hz;omega
  generalize(⟨t,2,l,x,y,d,r⟩:R7).ln=LN at*;generalize(⟨t,2,l,x,y,d,r⟩:R7).tx=TX at*;clear hf
  go_enter func198,ntmps198
  go_upto_region 1 with fail
  generalize hG:w.alloc _=w0;obtain⟨K0,b0⟩:=EX hG;clear hG;have c0:=K0.cell;have g0:=K0.lt;have z0:=b0.size;have hown:=Ky w0 t 2 2;have b1:Below w w (w0.alloc (.cells (Zii t 2) 2)):=b0.alloc z0 _;have hz1:w0≤(w0.alloc (.cells (Zii t 2) 2)).heap.size:=Cr
  have hrd4:Rd ((w0.alloc (.cells (Zii t 2) 2)).alloc (.cells (Ziiii x y d r) 2)) (some ⟨w0+1,0,none⟩) 4 (ints [x,y,d,r]):=by
   have h:=W8 (w0.alloc (.cells (Zii t 2) 2)) [x,y,d,r] 2 4 rfl;rw[Ab] at h;exact h
  go_wp2_with (at_builtin;refine DC rfl _ _ rfl w0.heap.size _ 2 [t,2] [x,y,d,r] _ 4 4 rfl rfl (hown.alloc _) hrd4 Aa Bq ?_;intro v1 w1 hown1 hbel1 _ _)
  obtain⟨B,cc,rfl,hrd,-,-,-⟩:=Gy hown1;have b2:=b1.trans ((((AP _ _).alloc hz1 _).trans hbel1).mono z0)
  go_wp2_with fail
  refine(FN _ 6 _ [t,2,x,y,d,r] [32] _ Aa Ah hrd HBD.out (T.below b2)).mono ?_;rw[←HNS.out];rintro e w2 ⟨rfl,b3⟩;have b4:=An b2 b3;have htl:=HTL.out;have hbd:=CV TX;have hls:=Bj TX
  go_wp2_with fail
  refine(Dn ⟨TX.toArray⟩ _ (by rw[hls];unfold maxLen;omega)).mono ?_
  rintro e w3 ⟨rfl,rfl⟩
  go_wp2_with fail
  refine(BY (chkFold TX) _ Aa Aa (T.below b4)).mono ?_;rintro e w4 ⟨rfl,b5⟩;have b6:=An b4 b5;have hA:=AY TX [32,35];have hil:=Bm (chkFold TX) Aa Aa
  go_wp2_with fail
  go_ret;exact⟨by rw[HLN.out,←AY,←AY];first|rfl|(rw[hA]),b6⟩
 ·have HNS:Hid ((⟨t,3,l,x,y,d,r⟩:R7).tx=joinI [32] [t,3]):=rfl;have HTL:=Ai (JP hf);have HLN:Hid ((⟨t,3,l,x,y,d,r⟩:R7).ln=(⟨t,3,l,x,y,d,r⟩:R7).tx++ [32,35]++Lib.itoa (chkFold (⟨t,3,l,x,y,d,r⟩:R7).tx)):=rfl
  have HBD:Hid (∀z∈ [t,3],-9223372036854775808<z∧z≤9223372036854775807):=fun z hz=>by
   have:=(R7.of_ns hf).2.1 z hz;omega
  generalize(⟨t,3,l,x,y,d,r⟩:R7).ln=LN at*;generalize(⟨t,3,l,x,y,d,r⟩:R7).tx=TX at*;clear hf
  go_enter func198,ntmps198
  go_upto_region 1 with fail
  generalize hG:w.alloc _=w0;obtain⟨K0,b0⟩:=EX hG;clear hG;have c0:=K0.cell;have g0:=K0.lt;have z0:=b0.size;have hown:=Ky w0 t 3 2;have b1:Below w w (w0.alloc (.cells (Zii t 3) 2)):=b0.alloc z0 _;obtain⟨B,cc,hv,hrd,-,-,-⟩:=Gy hown;injection hv with hv1 hv2 hv3;subst hv1 hv3;have b2:=b1
  go_wp2_with fail
  refine(FN _ 2 _ [t,3] [32] _ Aa Ah hrd HBD.out (T.below b2)).mono ?_;rw[←HNS.out];rintro e w2 ⟨rfl,b3⟩;have b4:=An b2 b3;have htl:=HTL.out;have hbd:=CV TX;have hls:=Bj TX
  go_wp2_with fail
  refine(Dn ⟨TX.toArray⟩ _ (by rw[hls];unfold maxLen;omega)).mono ?_
  rintro e w3 ⟨rfl,rfl⟩
  go_wp2_with fail
  refine(BY (chkFold TX) _ Aa Aa (T.below b4)).mono ?_;rintro e w4 ⟨rfl,b5⟩;have b6:=An b4 b5;have hA:=AY TX [32,35];have hil:=Bm (chkFold TX) Aa Aa
  go_wp2_with fail
  go_ret;exact⟨by rw[HLN.out,←AY,←AY];first|rfl|(rw[hA]),b6⟩
theorem JL (f:R7) (w:World) (hf:f.ok=true):
  (BT 168 #[f.V] w (.string ⟨f.ln.toArray⟩):Prop):=by
 obtain⟨-,hc⟩:=R7.cases hf;obtain⟨t,k,l,x,y,d,r⟩:=f;unfold R7.V;simp only at hc⊢;have hk:k=1∨k=2∨k=3:=Aa;have HOK:Hid (Cm t k l x y d r=true):=hf;clear hc;have K0:=Br w 67 (AD t k l x y d r);have ba:Below w w (w.alloc (.cells (AD t k l x y d r) 67)):=BU
 go_enter func168,ntmps168
 go_wp2_with fail
 refine(Dt t k l x y d r _).mono ?_;rw[HOK.out];rintro e w0 ⟨rfl,bb⟩;have b0:=An ba bb;have K0:=K0.below bb K0.lt;clear ba bb HOK;rcases hk with rfl|rfl|rfl
 ·have HNS:Hid ((⟨t,1,l,x,y,d,r⟩:R7).tx=joinI [32] [t,1,l]):=rfl;have HTL:=Ai (JP hf);have HLN:Hid ((⟨t,1,l,x,y,d,r⟩:R7).ln=(⟨t,1,l,x,y,d,r⟩:R7).tx++ [32,35]++Lib.itoa (chkFold (⟨t,1,l,x,y,d,r⟩:R7).tx)):=rfl
  have HBD:Hid (∀z∈ [t,1,l],-9223372036854775808<z∧z≤9223372036854775807):=fun z hz=>by
   have:=(R7.of_ns hf).2.1 z hz;omega
  generalize(⟨t,1,l,x,y,d,r⟩:R7).tx=TX at*;have c0:=K0.cell;have g0:=K0.lt;have z0:=b0.size;have b1:Below w w (w0.alloc (.cells (Zii t 1) 2)):=b0.alloc z0 _;have KZ:=fun(z:Array Value)=>Qf (Blk.new2 w0 (.cells #[.int .i64 t,.int .i64 1] 2) (.cells #[.int .i64 l] 2) 2 (#[.int .i64 t,.int .i64 1,.int .i64 l]++z));have BZ:=fun(z:Array Value)=>(show Below w w (((w0.alloc (.cells #[.int .i64 t,.int .i64 1] 2)).alloc (.cells #[.int .i64 l] 2)).alloc (.cells (#[.int .i64 t,.int .i64 1,.int .i64 l]++z) 2)).drew from Ax);clear b1
  go_wp2_with fail
  generalize(Question.appendCap 3 2 2).cut (w0.tape w0.drawn (Question.appendCap 3 2 2))=cc;generalize Builtin.zeroCells #[Value.int .i64 0] (cc-3)=zz
  have hrd:=Blk.rd (n:=3) (us:=ints [t,1,l]) (KZ zz) rfl (fun i hi=>by
   rw[Array.getElem?_append_left (show i<(#[Value.int .i64 t,ZI 1,ZI l]:Array Value).size from hi)]
   match i,hi with
   |0,_=>rfl
   |1,_=>rfl
   |2,_=>rfl)
  have b2:=BZ zz;clear KZ BZ;refine(EC _ 3 _ [t,1,l] [32] _ Aa Ah hrd HBD.out).mono ?_;rw[←HNS.out];rintro e w2 ⟨rfl,b3⟩;have b4:=An b2 b3;have htl:=HTL.out;have hbd:=CV TX;have hls:=Bj TX
  go_wp2_with fail
  refine(Do ⟨TX.toArray⟩ _ (by rw[hls];unfold maxLen;omega)).mono ?_
  rintro e w3 ⟨rfl,rfl⟩;have HDD:Hid (Lib.itoa (chkFold TX)=Lib.decDigits (chkFold TX).toNat):=DZ hbd.1;obtain⟨m,hm⟩: ∃m:Nat,chkFold TX=(m:Int):=⟨(chkFold TX).toNat,by omega⟩
  rw[hm] at HLN HDD hbd⊢;have HD2:=HDD.out;rw[Int.toNat_natCast] at HD2;have HDD:=Ai HD2;clear HD2
  go_wp2_with fail
  refine(Ct m _ Aa).mono ?_;rw[←HDD.out];rintro e w4 ⟨rfl,b5⟩;have b6:=An b4 b5;have hA:=AY TX [32,35];have hil:=Bm (m:Int) Aa Aa
  go_wp2_with fail
  go_ret;exact⟨by rw[HLN.out,←AY,←AY];first|rfl|(rw[hA]),b6⟩
 ·have HNS:Hid ((⟨t,2,l,x,y,d,r⟩:R7).tx=joinI [32] [t,2,x,y,d,r]):=rfl;have HTL:=Ai (JP hf);have HLN:Hid ((⟨t,2,l,x,y,d,r⟩:R7).ln=(⟨t,2,l,x,y,d,r⟩:R7).tx++ [32,35]++Lib.itoa (chkFold (⟨t,2,l,x,y,d,r⟩:R7).tx)):=rfl
  have HBD:Hid (∀z∈ [t,2,x,y,d,r],-9223372036854775808<z∧z≤9223372036854775807):=fun z hz=>by
   have:=(R7.of_ns hf).2.1 z hz;omega
  generalize(⟨t,2,l,x,y,d,r⟩:R7).tx=TX at*;have c0:=K0.cell;have g0:=K0.lt;have z0:=b0.size;have hown:=Ky w0 t 2 2;have b1:Below w w (w0.alloc (.cells (Zii t 2) 2)):=b0.alloc z0 _;have hz1:w0≤(w0.alloc (.cells (Zii t 2) 2)).heap.size:=Cr
  have hrd4:Rd ((w0.alloc (.cells (Zii t 2) 2)).alloc (.cells (Ziiii x y d r) 2)) (some ⟨w0+1,0,none⟩) 4 (ints [x,y,d,r]):=by
   have h:=W8 (w0.alloc (.cells (Zii t 2) 2)) [x,y,d,r] 2 4 rfl;rw[Ab] at h;exact h
  go_wp2_with (at_builtin;refine DC rfl _ _ rfl w0.heap.size _ 2 [t,2] [x,y,d,r] _ 4 4 rfl rfl (hown.alloc _) hrd4 Aa Bq ?_;intro v1 w1 hown1 hbel1 _ _)
  obtain⟨B,cc,rfl,hrd,-,-,-⟩:=Gy hown1;have b2:=b1.trans ((((AP _ _).alloc hz1 _).trans hbel1).mono z0)
  go_wp2_with fail
  refine(EC _ 6 _ [t,2,x,y,d,r] [32] _ Aa Ah hrd HBD.out).mono ?_;rw[←HNS.out];rintro e w2 ⟨rfl,b3⟩;have b4:=An b2 b3;have htl:=HTL.out;have hbd:=CV TX;have hls:=Bj TX
  go_wp2_with fail
  refine(Do ⟨TX.toArray⟩ _ (by rw[hls];unfold maxLen;omega)).mono ?_
  rintro e w3 ⟨rfl,rfl⟩;have HDD:Hid (Lib.itoa (chkFold TX)=Lib.decDigits (chkFold TX).toNat):=DZ hbd.1;obtain⟨m,hm⟩: ∃m:Nat,chkFold TX=(m:Int):=⟨(chkFold TX).toNat,by omega⟩
  rw[hm] at HLN HDD hbd⊢;have HD2:=HDD.out;rw[Int.toNat_natCast] at HD2;have HDD:=Ai HD2;clear HD2
  go_wp2_with fail
  refine(Ct m _ Aa).mono ?_;rw[←HDD.out];rintro e w4 ⟨rfl,b5⟩;have b6:=An b4 b5;have hA:=AY TX [32,35];have hil:=Bm (m:Int) Aa Aa
  go_wp2_with fail
  go_ret;exact⟨by rw[HLN.out,←AY,←AY];first|rfl|(rw[hA]),b6⟩
 ·have HNS:Hid ((⟨t,3,l,x,y,d,r⟩:R7).tx=joinI [32] [t,3]):=rfl;have HTL:=Ai (JP hf);have HLN:Hid ((⟨t,3,l,x,y,d,r⟩:R7).ln=(⟨t,3,l,x,y,d,r⟩:R7).tx++ [32,35]++Lib.itoa (chkFold (⟨t,3,l,x,y,d,r⟩:R7).tx)):=rfl
  have HBD:Hid (∀z∈ [t,3],-9223372036854775808<z∧z≤9223372036854775807):=fun z hz=>by
   have:=(R7.of_ns hf).2.1 z hz;omega
  generalize(⟨t,3,l,x,y,d,r⟩:R7).tx=TX at*;have c0:=K0.cell;have g0:=K0.lt;have z0:=b0.size;have hown:=Ky w0 t 3 2;have b1:Below w w (w0.alloc (.cells (Zii t 3) 2)):=b0.alloc z0 _;obtain⟨B,cc,hv,hrd,-,-,-⟩:=Gy hown;injection hv with hv1 hv2 hv3;subst hv1 hv3;have b2:=b1
  go_wp2_with fail
  refine(EC _ 2 _ [t,3] [32] _ Aa Ah hrd HBD.out).mono ?_;rw[←HNS.out];rintro e w2 ⟨rfl,b3⟩;have b4:=An b2 b3;have htl:=HTL.out;have hbd:=CV TX;have hls:=Bj TX
  go_wp2_with fail
  refine(Do ⟨TX.toArray⟩ _ (by rw[hls];unfold maxLen;omega)).mono ?_
  rintro e w3 ⟨rfl,rfl⟩;have HDD:Hid (Lib.itoa (chkFold TX)=Lib.decDigits (chkFold TX).toNat):=DZ hbd.1;obtain⟨m,hm⟩: ∃m:Nat,chkFold TX=(m:Int):=⟨(chkFold TX).toNat,by omega⟩
  rw[hm] at HLN HDD hbd⊢;have HD2:=HDD.out;rw[Int.toNat_natCast] at HD2;have HDD:=Ai HD2;clear HD2
  go_wp2_with fail
  refine(Ct m _ Aa).mono ?_;rw[←HDD.out];rintro e w4 ⟨rfl,b5⟩;have b6:=An b4 b5;have hA:=AY TX [32,35];have hil:=Bm (m:Int) Aa Aa
  go_wp2_with fail
  go_ret;exact⟨by rw[HLN.out,←AY,←AY];first|rfl|(rw[hA]),b6⟩
theorem Lk (f:R7) (w:World) (hf:f.ok=false):
  (BT 168 #[f.V] w (.string ⟨#[]⟩):Prop):=by
 obtain⟨t,k,l,x,y,d,r⟩:=f;unfold R7.V;simp only;have HOK:Hid (Cm t k l x y d r=false):=hf;clear hf
 go_enter func168,ntmps168
 go_wp2_with fail
 refine(Dt t k l x y d r _).mono ?_;rw[HOK.out];rintro e w0 ⟨rfl,bb⟩;have b0:=(show Below w w _ from Ax).trans (bb.mono C9);go_wp2;go_ret;exact⟨rfl,b0⟩
def R7.t0 (f:R7):Bs:=if f.ok=true then f.ln else []
theorem JK (f:R7) (w:World):
  (BT 168 #[f.V] w (.string ⟨f.t0.toArray⟩):Prop):=by
 unfold R7.t0;rcases BA f.ok with h|h
 ·rw[AA h];exact JL f w h
 ·rw[h,Ak Ah];exact Lk f w h
def WZ (xs:List Int) (k:Nat):R7:=⟨xs.getD (k*7) 0,xs.getD (k*7+1) 0,xs.getD (k*7+2) 0,xs.getD (k*7+3) 0,xs.getD (k*7+4) 0,xs.getD (k*7+5) 0,xs.getD (k*7+6) 0⟩
theorem eW (xs:List Int) (k:Nat):(WZ xs k).ok=FY xs k:=rfl
def lgT (xs:List Int) (n:Nat):Bs:=(List.range n).flatMap fun k=>(WZ xs k).ln++ [10]
theorem Ol (xs:List Int) (n:Nat):lgT xs (n+1)=lgT xs n++((WZ xs n).ln++ [10]):=by unfold lgT;rw[I6,List.flatMap_append];simp
theorem Kq {xs:List Int} {n:Nat} (h:CP xs n=true): ∀k,k≤n→(lgT xs k).length≤k*301
 |0,_=>AZ _
 |k+1,hk=>by
  have h1:=Kq h k Aa;have h2:=VH (f:=WZ xs k) (by rw[eW];exact GS h Aa)
  rw[Ol,Dy,Dy];simp only[Gt,List.length_nil];omega
def fE (xs:List Int) (n:Nat):Int:=if FT xs n=true then 0 else 1
def fF (xs:List Int) (n:Nat):Bs:=if FT xs n=true then lgT xs n else []
theorem Vz {xs:List Int} {n:Nat} (h:FT xs n=true):fE xs n=0∧fF xs n=lgT xs n:=by unfold fE fF;simp[h]
theorem fG {xs:List Int} {n:Nat} (h:FT xs n=false):fE xs n=1∧fF xs n= []:=by unfold fE fF;simp[h]
theorem A6 {xs:List Int} {n:Nat} (h:FT xs n=true):CP xs n=true∧n≤200:=by
 unfold FT at h;rw[CD,BP] at h;exact⟨h.1,by omega⟩
def WB (l:Bs):List Value:=l.map fun b=>Value.int .u8 (b.toNat:Int)
theorem WC (a b:Bs):WB (a++b)=WB a++WB b:=List.map_append
theorem WD (l:Bs):Lib.strCells ⟨l.toArray⟩=WB l:=rfl
theorem Xj: ∃i,prog.info? 5=some i∧i.zero=some (.int .u8 0)∧i.size=1∧i.bytes=1:=by
 have h:(prog.info? 5).map (fun i=>(i.zero,i.size,i.bytes))=some (some (.int .u8 0),1,1):=We51ceQ;rcases h2:prog.info? 5 with _|i
 ·rw[h2] at h;cases h
 ·rw[h2] at h;simp only[Option.map_some,Gs,Prod.mk.injEq] at h;exact⟨i,rfl,h.1,h.2.1,h.2.2⟩
theorem Qa {ops:Array Oper} {rest:List Oper} {o:Oper} {a:Act} {Q:Exit→Act→World→Prop} {w:World} (hgd:o.guard=none) (sl x:Operand)
  (ho:o.op=.call {callee:=.builtin .append,args:= #[sl,x],argTypes:= #[40,9]})
  (base:Nat) (v:Value) (n:Nat) (l s:Bs) (hs:a.eval sl=v) (hown:w.ownsRow base 5 1 v n (WB l)) (hv:v≠ .slice none 0 0) (hx:a.eval x=.string ⟨s.toArray⟩)
  (hn:n+s.length≤1099511627776) (hbase:base≤w)
  (h: ∀v' w',w'.ownsRow base 5 1 v' (n+s.length) (WB (l++s))→v'≠ .slice none 0 0→Below base w w'→wpList prog ops Q rest (a.put o.dst v') w'):wpList prog ops Q (o::rest) a w:=by
 obtain⟨i,h1,h2,h3,h4⟩:=Xj;have hz:=Bj s;refine Lib.wpList_append_own_string w hgd sl x _ _ ho base 5 i underlying40 underlying9 h1 h2 h3 h4 v n (WB l) hs hown ⟨s.toArray⟩ hx G9 Aa hbase ?_;intro v' w' hown' hg hne;rw[hz] at hown';rw[WD,←WC] at hown';exact h v' w' hown' (fun c=>hv (hne.1 c).1) ((AP _ _).grown hg hbase (fun k hk=>(hown.lt k hk).1))
theorem Ui {w:World} {base n:Nat} {v:Value} {l:Bs} (h:w.ownsRow base 5 1 v n (WB l)) (hv:v≠ .slice none 0 0) (hn:l.length=n):
  ∃g c,v=.slice (some ⟨g,0,none⟩) n c∧(convert 40 9 v).run prog w=.ok (.string ⟨l.toArray⟩) w:=by
 obtain⟨B,c,rfl,hr,-,hc,-⟩:=Gy h;subst hn;rcases h.2 with⟨e,_⟩|⟨g,cap,cur,e,_⟩
 ·exact absurd e hv
 ·simp only[Value.slice.injEq] at e;obtain⟨rfl,-,rfl⟩:=e;refine⟨g,_,rfl,run_convert_bytes_back (P:=prog) w _ _ 5 ⟨g,0,none⟩ _ l underlying40 underlying5 underlying9 fun j hj=> ?_⟩;obtain⟨ad,ea,hx⟩:=hr.2 Aa;injection ea with ea;subst ea;rw[hx j hj];unfold WB;rw[List.getElem?_map,Db hj]
  rfl
theorem Uf (A:Option Addr) (n c:Nat) (xs:List Int) (w:World) (hn:n≤200) (hok:CP xs n=true) (hr:Rd w A (n*7) (ints xs)) (T:CK w):
  (BT 151 #[.slice A n c] w (.string ⟨(lgT xs n).toArray⟩):Prop):=by
 have HO:=Ai hok;clear hok
 go_enter func151,ntmps151
 go_wp2_with fail
 go_loopw [3,8] (fun s i wr=> ∃k:Nat,k≤n∧i=.int .i64 k∧s=.string ⟨(lgT xs k).toArray⟩∧Below w w wr) (fun _ i _=>n-(intOf i).toNat)
 case atStart=>exact⟨0,AZ _,rfl,rfl,AP _ _⟩
 case round=>
  obtain⟨k,hk,rfl,rfl,b⟩:=hrel
  by_cases hlt:k<n
  ·have hltI:(k:Int)<(n:Int):=Aa;have hk0:(0:Int)≤(k:Int):=Aa;obtain⟨ad,rfl,h0,h1,h2,h3,h4,h5,h6⟩:=(hr.below b).seven hlt;have hfo:(WZ xs k).ok=true:=GS HO.out hlt;have HL:=fun(W:World) (T:CK W)=>Oz (WZ xs k) W hfo T;have HS:=Ai (Ol xs k);have hl1:=VH hfo;have hl2:=Kq HO.out k hk;have hz:=b.size;unfold R7.V at HL;generalize hLN:(WZ xs k).ln=LN at*;unfold WZ at HL;simp only at HL;clear hfo hLN;generalize xs.getD (k*7) 0=x0 at*;generalize xs.getD (k*7+1) 0=x1 at*;generalize xs.getD (k*7+2) 0=x2 at*;generalize xs.getD (k*7+3) 0=x3 at*;generalize xs.getD (k*7+4) 0=x4 at*;generalize xs.getD (k*7+5) 0=x5 at*;generalize xs.getD (k*7+6) 0=x6 at*;generalize lgT xs k=S at*;have hsz0:=Bj LN;have hsz1:=Bj S;have hA:((⟨LN.toArray⟩:ByteArray)++⟨#[10]⟩)=⟨(LN++ [10]).toArray⟩:=AY LN [10];have hsz2:=Bj (LN++ [10]);have hl3:(LN++ [10]).length≤301:=by rw[Dy];simp only[Gt,List.length_nil];omega
   have ba:Below wr wr (wr.alloc (.cells (AD x0 x1 x2 x3 x4 x5 x6) 67)):=BU;have hT2:=T.below (b.trans (ba.mono hz))
   go_wp2_with fail
   refine(HL _ hT2).mono ?_;rintro e w1 ⟨rfl,b1⟩;have b2:=b.trans ((An ba b1).mono hz)
   go_wp2_with fail
   go_roundw
   case rel=>exact⟨k+1,by omega,by go_num,by rw[HS.out];exact AN Value.string (AY S (LN++ [10])),b2⟩
   case measure=>simp[intOf];omega
  ·obtain rfl:k=n:=Aa
   go_wp2_with fail
   go_ret;exact⟨rfl,b⟩
theorem M3 (A:Option Addr) (n c:Nat) (xs:List Int) (w:World) (hn:n≤1048576) (hr:Rd w A (n*7) (ints xs)):
  (BT 130 #[.slice A n c] w (.tuple #[.string ⟨(fF xs n).toArray⟩,ZI (fE xs n)]):Prop):=by
 go_enter func130,ntmps130
 go_wp2_with fail
 refine(Oi A n c xs _ Aa hr).mono ?_;rintro e w1 ⟨rfl,b1⟩;rcases BA (FT xs n) with o0|o0
 case inr=>
  have HM:=Ai (fG o0);rw[o0];clear o0;go_wp2;refine AS (v:=.tuple #[.string ⟨#[]⟩,ZI 1]) (by simp[results,results130,go_sem]) rfl ?_
  rw[HM.out.1,HM.out.2];exact⟨rfl,b1⟩
 have HM:=Ai (Vz o0);obtain⟨hok,hn2⟩:=A6 o0;have HO:=Ai hok;rw[o0];clear o0 hok;replace hr:=hr.below b1
 go_wp2_with fail
 go_loopw [4,5] (fun v i wr=> ∃k j:Nat,k≤n∧i=.int .i64 k∧(lgT xs k).length=j∧wr.ownsRow w1.heap.size 5 1 v j (WB (lgT xs k))∧v≠ .slice none 0 0∧Below w1 w1 wr) (fun _ i _=>n-(intOf i).toNat)
 case atStart=>exact⟨0,0,AZ _,rfl,rfl,FI w1 _,(fun h=>by cases h),(AP _ _).alloc Bk _⟩
 case round=>
  obtain⟨k,j,hk,rfl,hj,hown,hne,b⟩:=hrel
  by_cases hlt:k<n
  ·have hltI:(k:Int)<(n:Int):=Aa;have hk0:(0:Int)≤(k:Int):=Aa;obtain⟨ad,rfl,h0,h1,h2,h3,h4,h5,h6⟩:=(hr.below b).seven hlt;have hfo:(WZ xs k).ok=true:=GS HO.out hlt;have HL:=fun W=>JK (WZ xs k) W;have HS:=Ai (Ol xs k);have hl1:=VH hfo;have hl2:=Kq HO.out k hk;have hz:=b.size;have hb0:(WZ xs k).t0=(WZ xs k).ln:=AA hfo;rw[hb0] at HL;unfold R7.V at HL;generalize hLN:(WZ xs k).ln=LN at*;unfold WZ at HL;simp only at HL;clear hfo hLN hb0;generalize xs.getD (k*7) 0=x0 at*;generalize xs.getD (k*7+1) 0=x1 at*;generalize xs.getD (k*7+2) 0=x2 at*;generalize xs.getD (k*7+3) 0=x3 at*;generalize xs.getD (k*7+4) 0=x4 at*;generalize xs.getD (k*7+5) 0=x5 at*;generalize xs.getD (k*7+6) 0=x6 at*;generalize lgT xs k=S at*;have hsz0:=Bj LN;have hA:((⟨LN.toArray⟩:ByteArray)++⟨#[10]⟩)=⟨(LN++ [10]).toArray⟩:=AY LN [10];have hl3:(LN++ [10]).length≤301:=by rw[Dy];simp only[Gt,List.length_nil];omega
   have hl4:(S++(LN++ [10])).length=j+(LN++ [10]).length:=by rw[Dy];omega
   go_wp2_with fail
   refine(HL _).mono ?_;rintro e w2 ⟨rfl,b2⟩;have hown2:=Ef hown b2;have b3:=b.trans (b2.mono hz);have hz3:=b3.size;clear hown
   go_wp2_with (at_builtin;refine Qa rfl _ _ rfl w1.heap.size _ j S (LN++ [10]) rfl hown2 hne (by rw[←hA];rfl) Aa hz3 ?_;intro v' w' hown' hne' hbel')
   go_roundw
   case rel=>exact⟨k+1,j+(LN++ [10]).length,by omega,by go_num,by rw[HS.out];exact hl4,by rw[HS.out];exact hown',hne',b3.trans hbel'⟩
   case measure=>simp[intOf];omega
  ·obtain rfl:k=n:=Aa;obtain⟨g,cp,rfl,hcv⟩:=Ui hown hne hj
   go_wp2_with fail
   refine AS (v:=.tuple #[.string ⟨(lgT xs k).toArray⟩,ZI 0]) (by simp[results,results130,go_sem]) rfl ?_
   rw[HM.out.1,HM.out.2];exact⟨rfl,(An b1 b)⟩
theorem Ki (A:Option Addr) (n c:Nat) (ws:List Bs) (w:World) (hn:n≤1048576) (hr:Rd w A n (strs ws)) (hw: ∀x∈ws,x.length≤1048576):
  Calls prog 93 #[.slice A n c] w fun e w'=>((C7 ws=true∧ ∃B d,e=.returned (.tuple #[.slice B n d,.bool true])∧Rd w' B n (ints (ws.map sgN))∧n≤d∧Wr w' w.heap.size B n)∨(C7 ws=false∧e=.returned (.tuple #[.slice none 0 0,.bool false])))∧Below w w w':=by
 have hl:=hr.strl
 go_enter func93,ntmps93
 go_wp2_with fail
 go_loopw [4,5] (fun v i wr=> ∃k:Nat,k≤n∧i=.int .i64 k∧C7 (ws.take k)=true∧wr.ownsRow w.heap.size 2 1 v k (ints ((ws.take k).map sgN))∧Below w w wr) (fun _ i _=>n-(intOf i).toNat)
 case atStart=>exact⟨0,AZ _,rfl,rfl,FI w _,(AP _ _).alloc Bk _⟩
 case round=>
  obtain⟨k,hk,rfl,ha,hown,b⟩:=hrel;have hbs:=b.size
  by_cases hlt:k<n
  ·have hltI:(k:Int)<(n:Int):=Aa;have hk0:(0:Int)≤(k:Int):=Aa;obtain⟨ad,rfl,hx⟩:=(hr.below b).str hlt;have hkl:k<ws.length:=Aa;have hge:ws.getD k []=ws[k]:=by rw[DE,Db hkl];rfl
   have hm:=hw (ws.getD k []) (by rw[hge];exact EH hkl)
   have HA:Hid (C7 (ws.take (k+1))=MX (ws.getD k [])):=by
    unfold Hid C7 at*;rw[List.take_succ_eq_append_getElem hkl,List.all_append,ha,hge]
    simp
   have HM:Hid ((ws.take (k+1)).map sgN=(ws.take k).map sgN++ [sgN (ws.getD k [])]):=by
    unfold Hid;rw[List.take_succ_eq_append_getElem hkl,List.map_append,hge]
    rfl
   have HF:Hid (MX (ws.getD k [])=false→C7 ws=false):=fun h=>by
    unfold C7;rw[JV];intro c;have:=List.all_eq_true.1 c _ (EH hkl);rw[←hge,h] at this
    cases this
   clear hge ha;generalize ws.getD k []=x at*;have hsx:=Bj x;have hv:=Jn ⟨x.toArray⟩ wr (by rw[hsx];exact hm)
   rw[Lp] at hv
   go_wp2_with fail
   refine hv.mono ?_;rintro e w1 ⟨m,rfl,hmm,b1⟩;have b2:=b.trans (b1.mono hbs);have hbs2:=b2.size;have hown1:=Ef hown b1;clear hown;rcases BA (MX x) with hb|hb
   ·have hm3:=hmm hb;have HA2:Hid (C7 (ws.take (k+1))=true):=by unfold Hid;rw[HA.out,hb]
    rw[hb];clear hmm hb hv
    go_wp2_with (at_builtin;refine Et rfl _ _ rfl w.heap.size _ k ((ws.take k).map sgN) rfl rfl hown1 Aa hbs2 ?_;intro v' w' hown' hbel' _ _)
    go_roundw
    case rel=>exact⟨k+1,by omega,by go_num,HA2.out,by rw[HM.out];exact hown',b2.trans hbel'⟩
    case measure=>simp[intOf];omega
   ·have HF2:=Ai (HF.out hb);rw[hb];clear hmm hb hv;go_wp2;refine AS (v:=.tuple #[.slice none 0 0,.bool false]) (by simp[results,results93,go_sem]) rfl ?_
    exact⟨.inr ⟨HF2.out,rfl⟩,b2⟩
  ·obtain rfl:k=n:=Aa;have ht:ws.take k=ws:=ED Aa;rw[ht] at ha hown;obtain⟨B,d,rfl,hrd,hwr,hd,-⟩:=Gy hown;go_wp2;refine AS (v:=.tuple #[.slice B k d,.bool true]) (by simp[results,results93,go_sem]) rfl ?_
   exact⟨.inl ⟨ha,B,d,rfl,hrd,hd,hwr⟩,b⟩
end Go.Proofs.YtkndcebhjcfphaaGreatDoor
