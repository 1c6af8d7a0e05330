import Derived.Test.YtkndcebhjcfphaaGreatDoorZI
import Derived.Shelf.SlSortCmp.InsertionK
namespace Go.Proofs.YtkndcebhjcfphaaGreatDoor
open Go.RowKit Go.Proofs.Tryz
set_option maxRecDepth 100000
set_option maxHeartbeats 4000000
set_option linter.all false
section
open Go.RowKit Go.Shelf Go.Lib Go.Sort
def PF (a b:Int):Int:=if a<b then-1 else if b<a then 1 else 0
theorem IP (x:Int) (w:World):
  (YC 344 #[ZI x] w (.bool false):Prop):=by
 go_enter func344,ntmps344
 go_wp2;go_ret;exact⟨Af Cr,rfl⟩
theorem S7 (x y:Int) (w:World):
  (YC 325 (Zii x y) w (ZI (PF x y)):Prop):=by
 rcases Int.lt_trichotomy x y with h|h|h
 ·have e:PF x y= -1:=by unfold PF;rw[AA h]
  rw[e]
  go_enter func325,ntmps325
  go_wp2_with (go_at_call 344;refine(IP _ _).mono ?_;rintro e w' ⟨rfl,rfl⟩)
  go_ret;exact⟨rfl,rfl⟩
 ·have e:PF x y=0:=by unfold PF;rw[Ak Aa,Ak Aa]
  rw[e];subst h
  go_enter func325,ntmps325
  go_wp2_with (go_at_call 344;refine(IP _ _).mono ?_;rintro e w' ⟨rfl,rfl⟩)
  go_ret;exact⟨rfl,rfl⟩
 ·have e:PF x y=1:=by unfold PF;rw[Ak Aa,AA h]
  rw[e]
  go_enter func325,ntmps325
  go_wp2_with (go_at_call 344;refine(IP _ _).mono ?_;rintro e w' ⟨rfl,rfl⟩)
  go_ret;exact⟨rfl,rfl⟩
def Fu (xs:List Int) (i:Nat):List Value:= [.int .i64 (xs.getD (i*7) 0),.int .i64 (xs.getD (i*7+1) 0),.int .i64 (xs.getD (i*7+2) 0),.int .i64 (xs.getD (i*7+3) 0),.int .i64 (xs.getD (i*7+4) 0),.int .i64 (xs.getD (i*7+5) 0),.int .i64 (xs.getD (i*7+6) 0)]
def Va (xs:List Int) (i j:Nat):Int:=PF (recT xs i) (recT xs j)
theorem Vb (xs:List Int) (i j:Nat) (w:World):
  Calls prog 324 #[.agg (Fu xs i).toArray,.agg (Fu xs j).toArray] w fun e w'=>e=.returned (ZI (Va xs i j))∧ ∃q os',w'=grow (w.drewN q) os':=by
 have HC:Hid (Va xs i j=PF (xs.getD (i*7) 0) (xs.getD (j*7) 0)):=rfl;unfold Fu;rw[HC.out]
 go_enter func324,ntmps324
 go_wp2_with (go_at_call 325;refine(S7 _ _ _).mono ?_;rintro e w' ⟨rfl,rfl⟩)
 go_ret;exact⟨rfl,0,_,by rw[alloc_eq_grow,alloc_eq_grow,grow_grow];rfl⟩
end
theorem Qp (x y:Int) (w:World):
  (YC 345 (Zii x y) w (.bool (decide (x<y))):Prop):=by
 go_enter func345,ntmps345
 go_wp2_with (go_at_call 344;refine(IP _ _).mono ?_;rintro e w' ⟨rfl,rfl⟩)
 go_ret;exact⟨rfl,rfl⟩
theorem Wh (x:Int) (w:World):
  (YC 346 #[ZI x] w (.bool false):Prop):=by
 go_enter func346,ntmps346
 go_wp2;go_ret;exact⟨Af Cr,rfl⟩
theorem Px (A:Option Addr) (n c:Nat) (ts:List Int) (t:Int) (w:World) (hn:n≤1000) (hr:Rd w A n (ints ts)) (hs:ft ts):
  (BT 326 (Gb A n c t) w (.tuple (Ly (cutN ts t:Nat) (decide (cutN ts t<n) && decide (ts.getD (cutN ts t) 0=t)))):Prop):=by
 have hl:ts.length=n:=hr.len;have HS:=Ai hs;clear hs
 go_enter func326,ntmps326
 go_wp2_with fail
 go_loopw [7,8] (fun v7 v8 wr=> ∃i j:Nat,i≤j∧j≤n∧v7=.int .i64 i∧v8=.int .i64 j∧(∀a,a<i→ts.getD a 0<t)∧(∀a,j≤a→a<n→t≤ts.getD a 0)∧Below w w wr)
  (fun v7 v8 _=>(intOf v8-intOf v7).toNat)
 case atStart=>exact⟨0,n,AZ _,Cp _,rfl,rfl,fun a h=>absurd h (Nat.not_lt_zero _),fun a h1 h2=>by omega,AP _ _⟩
 case round=>
  obtain⟨i,j,hij,hjn,rfl,rfl,hlo,hhi,hb⟩:=hrel;have HLO:=Ai hlo;have HHI:=Ai hhi;clear hlo hhi
  by_cases hlt:i<j
  ·have hltI:(i:Int)<(j:Int):=Aa
   go_upto_region 5 with fail
   have hm:((i:Int)+(j:Int))/2=(((i+j)/2:Nat):Int):=Aa;rw[hm];have h1:i≤(i+j)/2:=Aa;have h2:(i+j)/2<j:=Aa;generalize(i+j)/2=m at*;clear hm;have hmn:m<n:=Aa;obtain⟨ad,rfl,hx⟩:=(hr.below hb).int hmn;have HX:=Ai (rfl:ts.getD m 0=ts.getD m 0)
   by_cases hlx:ts.getD m 0<t
   ·have hlo2: ∀a,a<m+1→ts.getD a 0<t:=fun a ha=>by
     by_cases e:a=m
     ·subst e;exact hlx
     ·have:=HS.out a m Aa Aa;omega
    have HL2:=Ai hlo2;clear hlo2;have hd:=BC hlx;generalize ts.getD m 0=x at hx hd
    go_wp2_with (go_at_call 345;refine(Qp _ _ _).mono ?_;rintro e w' ⟨rfl,rfl⟩;rw[hd])
    go_roundw
    case rel=>exact⟨m+1,j,by omega,hjn,by go_num,rfl,HL2.out,HHI.out,hb⟩
    case measure=>simp[intOf];omega
   ·have hhi2: ∀a,m≤a→a<n→t≤ts.getD a 0:=fun a ha han=>by
     by_cases e:m=a
     ·subst e;omega
     ·have:=HS.out m a Aa Aa;omega
    have HH2:=Ai hhi2;clear hhi2;have hd:=BR hlx;generalize ts.getD m 0=x at hx hd
    go_wp2_with (go_at_call 345;refine(Qp _ _ _).mono ?_;rintro e w' ⟨rfl,rfl⟩;rw[hd])
    go_roundw
    case rel=>exact⟨i,m,by omega,by omega,rfl,rfl,HLO.out,HH2.out,hb⟩
    case measure=>simp[intOf];omega
  ·obtain rfl:i=j:=Aa;have HC:Hid (cutN ts t=i):=IL Aa HLO.out (fun h=>Int.not_lt.2 (HHI.out i Bk Aa))
   by_cases hin:i<n
   ·obtain⟨ad,rfl,hx⟩:=(hr.below hb).int hin;have hinI:(i:Int)<(n:Int):=Aa
    by_cases he:ts.getD i 0=t
    ·rw[he] at hx;go_wp2;refine AS (v:=.tuple (Ly i true)) (by simp[results,results326,go_sem]) rfl ⟨?_,hb⟩
     rw[HC.out,he,BC hin,BC rfl];rfl
    ·have HE:=Ai he;obtain⟨x,hxe⟩: ∃x,ts.getD i 0=x:=⟨_,rfl⟩;rw[hxe] at hx;have hne: ¬x=t:=hxe▸he;clear he hxe
     go_wp2_with (go_at_call 346;refine(Wh _ _).mono ?_;rintro e w' ⟨rfl,rfl⟩)
     refine AS (v:=.tuple (Ly i false)) (by simp[results,results326,go_sem,hne]) rfl ⟨?_,hb⟩
     rw[HC.out,BR HE.out,Bool.and_false]
   ·have hinI: ¬(i:Int)<(n:Int):=Aa;go_wp2;refine AS (v:=.tuple (Ly i false)) (by simp[results,results326,go_sem]) rfl ⟨?_,hb⟩
    rw[HC.out,BR hin,Bool.false_and]
section
open Go.RowKit Go.Shelf Go.Lib
def F4 (xs:List Int) (ks:List Nat):List Value:=ks.flatMap (Fu xs)
theorem Ii (xs:List Int) (i:Nat):(Fu xs i).length=7:=rfl
theorem VY (xs:List Int) (ks:List Nat) (k:Nat):F4 xs (ks++ [k])=F4 xs ks++Fu xs k:=by unfold F4;rw[List.flatMap_append];simp
theorem I0 (xs:List Int): ∀ks:List Nat,(F4 xs ks).length=ks.length*7
 | []=>rfl
 |k::ks=>by
  show(Fu xs k++F4 xs ks).length=_;rw[Dy,I0 xs ks,Ii,Gt];omega
theorem Uv (xs:List Int): ∀(ks:List Nat) (t:Nat),t<ks.length*7→(F4 xs ks)[t]? =(Fu xs (ks[t/7]?.getD 0))[t%7]?
 | [],t,h=>absurd h Cr
 |k::ks,t,h=>by
  show(Fu xs k++F4 xs ks)[t]? =_
  by_cases h7:t<7
  ·rw[List.getElem?_append_left (by rw[Ii];exact h7),show t/7=0 by omega,show t%7=t by omega];rfl
  ·rw[List.getElem?_append_right (by rw[Ii];omega),Ii,Uv xs ks (t-7) (by simp at h;omega),show(t-7)%7=t%7 by omega,show t/7=(t-7)/7+1 by omega,List.getElem?_cons_succ]
theorem Kt (xs:List Int) (i:Nat): ∀v∈Fu xs i,v.oneCell'=true:=by
 intro v hv
 simp[Fu] at hv
 rcases hv with rfl|rfl|rfl|rfl|rfl|rfl|rfl<;>rfl
theorem Tg (xs:List Int) (ks:List Nat) {t:Nat} (h:t<ks.length*7):some ((Sort.flatK (Fu xs) 7 ks.toArray)[t]!)=(F4 xs ks)[t]? :=by
 rw[Sort.get_flatK _ _ _ _ CB,Uv xs ks t h];have h1:t/7<ks.length:=Aa;have e:(ks.toArray[t/7]!)=ks[t/7]?.getD 0:=by simp[h1]
 rw[e];have h2:t%7<(Fu xs (ks[t/7]?.getD 0)).length:=by rw[Ii];omega
 rw[List.getElem!_eq_getElem?_getD,Db h2];rfl
theorem Rp {w:World} {B:Nat} {h:Hd} {xs:List Int} {ks:List Nat} (o:AR w B 7 h (F4 xs ks)) {ad:Addr} (e:h.A=some ad) (hn:0<h.n):
  ad=⟨ad.block,ad.off,none⟩∧ad.block<w.heap.size∧Sort.HoldsK (Fu xs) 7 w ad.block ad.off ks.toArray:=by
 have hnc:=o.nc;obtain⟨-,h2,h3,h4⟩:=o.at_ ad e Aa;have hl:=o.len;rw[I0] at hl
 have had:ad=⟨ad.block,ad.off,none⟩:=by
  obtain⟨b,f,s⟩:=ad;simp only at h3;rw[h3]
 refine⟨had,h2,fun t ht=> ?_⟩;rw[Sort.size_flatK] at ht;have ht':t<ks.length*7:=by simpa using ht
 obtain⟨⟨v,hv,hu⟩,hf⟩:=h4 t (by have:h.n*7≤h.c*7:=Nat.mul_le_mul_right 7 hnc;omega)
 have ea:ad.add t=⟨ad.block,ad.off+t,none⟩:=by
  by_cases h0:t=0
  ·subst h0;rw[Gu];exact had
  ·rw[Bf ad t h0]
 rw[ea] at hv hf;exact⟨by rw[hv];show some v=some (id _);rw[hu _ (Tg xs ks ht').symm];rfl,hf⟩
theorem Uq {w:World} {b o:Nat} {xs:List Int} {ks:List Nat} {n:Nat} (hn:ks.length=n) (H:Sort.HoldsK (Fu xs) 7 w b o ks.toArray):Rd w (some ⟨b,o,none⟩) (n*7) (F4 xs ks):=by
 subst hn;refine⟨I0 xs ks,fun _=>⟨_,rfl,fun t ht=> ?_⟩⟩
 have ea:(⟨b,o,none⟩:Addr).add t=⟨b,o+t,none⟩:=by
  by_cases h0:t=0
  ·subst h0;rw[Gu];rfl
  ·rw[Bf _ t h0]
 rw[ea,(H t (by rw[Sort.size_flatK];simpa using ht)).1,←Tg xs ks ht]
 rfl
theorem Tp {α:Type} [Inhabited α] (enc:α→List Value) (k:Nat) {w:World} {b o n:Nat} {os:Array Obj} (d:Array α):w.grownBy (sortWorldK enc k w b o n d os) (some b):=by
 unfold sortWorldK Sort.putRowK;refine⟨rfl,rfl,rfl,by simp,fun j hj hne=> ?_⟩
 rw[Sort.heap_grow_old _ _ (by simpa using hj)]
 have:b≠j:=fun e=>hne (by rw[e])
 simp[Sort.putRow,Sort.mapBlock,Sort.ahead,Array.getElem?_modify,this]
theorem IS (xs:List Int) (i j:Nat):ltOf (Va xs) i j=decide (recT xs i<recT xs j):=by
 unfold ltOf Va PF
 by_cases h1:recT xs i<recT xs j
 ·simp[h1]
 ·by_cases h2:recT xs j<recT xs i<;>simp[h1,h2]
theorem aG (xs:List Int):Sort.SWO (ltOf (Va xs)) where
 irrefl x:=by rw[IS];simp
 trans x y z h1 h2:=by rw[IS] at*;simp at*;omega
 ntrans x y z h1 h2:=by rw[IS] at*;simp at*;omega
theorem cN {d d':Array Nat} (h:Sort.PermIn 0 d.size d d'):d'.toList.Perm d.toList:=by
 have h3:=h.2.2;have e1:d'.extract 0 d.size=d':=by rw[←h.1];simp
 rw[e1] at h3
 simpa using h3
theorem Yu {xs:List Int} {d d':Array Nat} (hz:d'.size=d.size) (h:Sort.SortedIn (ltOf (Va xs)) 0 d.size d'):d'.toList.Pairwise fun i j=>recT xs i≤recT xs j:=by
 rw[List.pairwise_iff_getElem];intro i j hi hj hij;have h1:=h i j (AZ _) hij (by simp at hj;omega)
 rw[IS,decide_eq_false_iff_not] at h1;have hi':i<d'.size:=by simpa using hi
 have hj':j<d'.size:=by simpa using hj
 rw[getElem!_pos d' i hi',getElem!_pos d' j hj'] at h1;simp only[Array.getElem_toList];omega
end
end Go.Proofs.YtkndcebhjcfphaaGreatDoor
