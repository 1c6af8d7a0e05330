import Derived.Test.YtkndcebhjcfphaaGreatDoorZK
import Derived.Shelf.SlSortCmp.InsertionK
namespace Go.Proofs.YtkndcebhjcfphaaGreatDoor
open Go.RowKit Go.Proofs.Tryz
set_option maxRecDepth 100000
set_option maxHeartbeats 4000000
set_option linter.all false
section
open Go.RowKit Go.Shelf Go.Lib Go.Sort
def PF (a b:Int):Int:=if a<b then-1 else if b<a then 1 else 0
theorem IP (x:Int) (w:World):
  (YC 344 #[ZI x] w (.bool false):Prop):=by
 go_enter func344,ntmps344
 go_wp2;go_ret;exact⟨Af Cr,rfl⟩
theorem iO (x y:Int) (w:World):
  (YC 325 (Zii x y) w (ZI (PF x y)):Prop):=by
 rcases Int.lt_trichotomy x y with h|h|h
 ·have e:PF x y= -1:=by unfold PF;rw[AA h]
  rw[e]
  go_enter func325,ntmps325
  go_wp2_with (go_at_call 344;refine(IP _ _).mono ?_;rintro e a ⟨rfl,rfl⟩)
  go_ret;exact⟨rfl,rfl⟩
 ·have e:PF x y=0:=by unfold PF;rw[Ak Aa,Ak Aa]
  rw[e];subst h
  go_enter func325,ntmps325
  go_wp2_with (go_at_call 344;refine(IP _ _).mono ?_;rintro e a ⟨rfl,rfl⟩)
  go_ret;exact⟨rfl,rfl⟩
 ·have e:PF x y=1:=by unfold PF;rw[Ak Aa,AA h]
  rw[e]
  go_enter func325,ntmps325
  go_wp2_with (go_at_call 344;refine(IP _ _).mono ?_;rintro e a ⟨rfl,rfl⟩)
  go_ret;exact⟨rfl,rfl⟩
def Fu (xs:List Int) (i:Nat):List Value:= [.int .i64 (xs.getD (i*7) 0),.int .i64 (xs.getD (i*7+1) 0),.int .i64 (xs.getD (i*7+2) 0),.int .i64 (xs.getD (i*7+3) 0),.int .i64 (xs.getD (i*7+4) 0),.int .i64 (xs.getD (i*7+5) 0),.int .i64 (xs.getD (i*7+6) 0)]
def Va (xs:List Int) (i j:Nat):Int:=PF (recT xs i) (recT xs j)
theorem Vb (xs:List Int) (i j:Nat) (w:World):
  Calls prog 324 #[.agg (Fu xs i).toArray,.agg (Fu xs j).toArray] w λe b=>e=.returned (ZI (Va xs i j))∧ ∃q a,b=grow (w.drewN q) a:=by
 have c:Hid (Va xs i j=PF (xs.getD (i*7) 0) (xs.getD (j*7) 0)):=rfl;unfold Fu;rw[c.out]
 go_enter func324,ntmps324
 go_wp2_with (go_at_call 325;refine(iO _ _ _).mono ?_;rintro e b ⟨rfl,rfl⟩)
 go_ret;exact⟨rfl,0,_,by rw[alloc_eq_grow,alloc_eq_grow,grow_grow];rfl⟩
end
theorem Qp (x y:Int) (w:World):
  (YC 345 (Zii x y) w (.bool (decide (x<y))):Prop):=by
 go_enter func345,ntmps345
 go_wp2_with (go_at_call 344;refine(IP _ _).mono ?_;rintro e a ⟨rfl,rfl⟩)
 go_ret;exact⟨rfl,rfl⟩
theorem Wh (x:Int) (w:World):
  (YC 346 #[ZI x] w (.bool false):Prop):=by
 go_enter func346,ntmps346
 go_wp2;go_ret;exact⟨Af Cr,rfl⟩
theorem Px (A:Option Addr) (n c:Nat) (ts:List Int) (t:Int) (w:World) (hn:n<=1000) (I:Rd w A n (ints ts)) (hs:ft ts):
  (BT 326 (Gb A n c t) w (.tuple (Ly (cutN ts t:Nat) (decide (cutN ts t<n) && decide (ts.getD (cutN ts t) 0=t)))):Prop):=by
 have Z:ts.length=n:=I.len;have L:=Ai hs;clear hs
 go_enter func326,ntmps326
 go_wp2_with fail
 go_loopw [7,8] (λJ K wr=> ∃i j:Nat,i<=j∧j<=n∧J=.int .i64 i∧K=.int .i64 j∧(∀a,a<i->ts.getD a 0<t)∧(∀a,j<=a->a<n->t<=ts.getD a 0)∧Below w w wr)
  (λJ K _=>(intOf K-intOf J).toNat)
 case atStart=>exact⟨0,n,AZ _,Cp _,rfl,rfl,λa h=>absurd h (Nat.not_lt_zero _),λa S T=>by omega,AP _ _⟩
 case round=>
  obtain⟨i,j,W,F,rfl,rfl,z,u,f⟩:=hrel;have q:=Ai z;have p:=Ai u;clear z u
  by_cases X:i<j
  ·have M:(i:Int)<(j:Int):=Aa
   go_upto_region 5 with fail
   have N:((i:Int)+(j:Int))/2=(((i+j)/2:Nat):Int):=Aa;rw[N];have S:i<=(i+j)/2:=Aa;have T:(i+j)/2<j:=Aa;generalize(i+j)/2=m at*;clear N;have G:m<n:=Aa;obtain⟨R,rfl,B⟩:=(I.below f).int G;have Y:=Ai (rfl:ts.getD m 0=ts.getD m 0)
   by_cases k:ts.getD m 0<t
   ·have d: ∀a,a<m+1->ts.getD a 0<t:=λa U=>by
     by_cases e:a=m
     ·subst e;exact k
     ·have:=L.out a m Aa Aa;omega
    have E:=Ai d;clear d;have r:=BC k;generalize ts.getD m 0=x at B r
    go_wp2_with (go_at_call 345;refine(Qp _ _ _).mono ?_;rintro e O ⟨rfl,rfl⟩;rw[r])
    go_roundw
    case rel=>exact⟨m+1,j,by omega,F,by go_num,rfl,E.out,p.out,f⟩
    case measure=>simp[intOf];omega
   ·have b: ∀a,m<=a->a<n->t<=ts.getD a 0:=λa U V=>by
     by_cases e:m=a
     ·subst e;omega
     ·have:=L.out m a Aa Aa;omega
    have D:=Ai b;clear b;have r:=BR k;generalize ts.getD m 0=x at B r
    go_wp2_with (go_at_call 345;refine(Qp _ _ _).mono ?_;rintro e O ⟨rfl,rfl⟩;rw[r])
    go_roundw
    case rel=>exact⟨i,m,by omega,by omega,rfl,rfl,q.out,D.out,f⟩
    case measure=>simp[intOf];omega
  ·obtain rfl:i=j:=Aa;have C:Hid (cutN ts t=i):=IL Aa q.out (λh=>Int.not_lt.2 (p.out i Bk Aa))
   by_cases g:i<n
   ·obtain⟨R,rfl,B⟩:=(I.below f).int g;have y:(i:Int)<(n:Int):=Aa
    by_cases s:ts.getD i 0=t
    ·rw[s] at B;go_wp2;refine AS (v:=.tuple (Ly i true)) (by simp[results,results326,go_sem]) rfl ⟨?_,f⟩
     rw[C.out,s,BC g,BC rfl];rfl
    ·have Q:=Ai s;obtain⟨x,l⟩: ∃x,ts.getD i 0=x:=⟨_,rfl⟩;rw[l] at B;have H: ¬x=t:=l▸s;clear s l
     go_wp2_with (go_at_call 346;refine(Wh _ _).mono ?_;rintro e O ⟨rfl,rfl⟩)
     refine AS (v:=.tuple (Ly i false)) (by simp[results,results326,go_sem,H]) rfl ⟨?_,f⟩
     rw[C.out,BR Q.out,Bool.and_false]
   ·have y: ¬(i:Int)<(n:Int):=Aa;go_wp2;refine AS (v:=.tuple (Ly i false)) (by simp[results,results326,go_sem]) rfl ⟨?_,f⟩
    rw[C.out,BR g,Bool.false_and]
section
open Go.RowKit Go.Shelf Go.Lib
def jD (xs:List Int) (ks:List Nat):List Value:=ks.flatMap (Fu xs)
theorem Ii (xs:List Int) (i:Nat):(Fu xs i).length=7:=rfl
theorem VY (xs:List Int) (ks:List Nat) (k:Nat):jD xs (ks++ [k])=jD xs ks++Fu xs k:=by unfold jD;rw[List.flatMap_append];simp
theorem I0 (xs:List Int): ∀a:List Nat,(jD xs a).length=a.length*7
 | []=>rfl
 |k::a=>by
  show(Fu xs k++jD xs a).length=_;rw[Dy,I0 xs a,Ii,Gt];omega
theorem Uv (xs:List Int): ∀(a:List Nat) (t:Nat),t<a.length*7->(jD xs a)[t]? =(Fu xs (a[t/7]?.getD 0))[t%7]?
 | [],t,h=>absurd h Cr
 |k::a,t,h=>by
  show(Fu xs k++jD xs a)[t]? =_
  by_cases b:t<7
  ·rw[List.getElem?_append_left (by rw[Ii];exact b),show t/7=0 by omega,show t%7=t by omega];rfl
  ·rw[List.getElem?_append_right (by rw[Ii];omega),Ii,Uv xs a (t-7) (by simp at h;omega),show(t-7)%7=t%7 by omega,show t/7=(t-7)/7+1 by omega,List.getElem?_cons_succ]
theorem Kt (xs:List Int) (i:Nat): ∀v∈Fu xs i,v.oneCell'=true:=by
 intro v hv
 simp[Fu] at hv
 rcases hv with rfl|rfl|rfl|rfl|rfl|rfl|rfl<;>rfl
theorem Tg (xs:List Int) (ks:List Nat) {t:Nat} (h:t<ks.length*7):some ((Sort.flatK (Fu xs) 7 ks.toArray)[t]!)=(jD xs ks)[t]? :=by
 rw[Sort.get_flatK _ _ _ _ CB,Uv xs ks t h];have a:t/7<ks.length:=Aa;have e:(ks.toArray[t/7]!)=ks[t/7]?.getD 0:=by simp[a]
 rw[e];have b:t%7<(Fu xs (ks[t/7]?.getD 0)).length:=by rw[Ii];omega
 rw[List.getElem!_eq_getElem?_getD,Db b];rfl
theorem Rp {w:World} {B:Nat} {h:Hd} {xs:List Int} {ks:List Nat} (o:AR w B 7 h (jD xs ks)) {ad:Addr} (e:h.A=some ad) (x:0<h.n):
  ad=⟨ad.block,ad.off,none⟩∧ad.block<w.heap.size∧Sort.HoldsK (Fu xs) 7 w ad.block ad.off ks.toArray:=by
 have d:=o.nc;obtain⟨-,p,j,q⟩:=o.at_ ad e Aa;have r:=o.len;rw[I0] at r
 have a:ad=⟨ad.block,ad.off,none⟩:=by
  obtain⟨b,f,s⟩:=ad;simp only at j;rw[j]
 refine⟨a,p,λt l=> ?_⟩;rw[Sort.size_flatK] at l;have g:t<ks.length*7:=by simpa using l
 obtain⟨⟨v,hv,u⟩,k⟩:=q t (by have:h.n*7<=h.c*7:=Nat.mul_le_mul_right 7 d;omega)
 have m:ad.add t=⟨ad.block,ad.off+t,none⟩:=by
  by_cases i:t=0
  ·subst i;rw[Gu];exact a
  ·rw[Bf ad t i]
 rw[m] at hv k;exact⟨by rw[hv];show some v=some (id _);rw[u _ (Tg xs ks g).symm];rfl,k⟩
theorem Uq {w:World} {b o:Nat} {xs:List Int} {ks:List Nat} {n:Nat} (f:ks.length=n) (H:Sort.HoldsK (Fu xs) 7 w b o ks.toArray):Rd w (some ⟨b,o,none⟩) (n*7) (jD xs ks):=by
 subst f;refine⟨I0 xs ks,λ_=>⟨_,rfl,λt c=> ?_⟩⟩
 have d:(⟨b,o,none⟩:Addr).add t=⟨b,o+t,none⟩:=by
  by_cases a:t=0
  ·subst a;rw[Gu];rfl
  ·rw[Bf _ t a]
 rw[d,(H t (by rw[Sort.size_flatK];simpa using c)).1,<-Tg xs ks c]
 rfl
theorem Tp {α:Type} [Inhabited α] (enc:α->List Value) (k:Nat) {w:World} {b o n:Nat} {os:Array Obj} (d:Array α):w.grownBy (sortWorldK enc k w b o n d os) (some b):=by
 unfold sortWorldK Sort.putRowK;refine⟨rfl,rfl,rfl,by simp,λj c a=> ?_⟩
 rw[Sort.heap_grow_old _ _ (by simpa using c)]
 have:b≠j:=λe=>a (by rw[e])
 simp[Sort.putRow,Sort.mapBlock,Sort.ahead,Array.getElem?_modify,this]
theorem IS (xs:List Int) (i j:Nat):ltOf (Va xs) i j=decide (recT xs i<recT xs j):=by
 unfold ltOf Va PF
 by_cases a:recT xs i<recT xs j
 ·simp[a]
 ·by_cases b:recT xs j<recT xs i<;>simp[a,b]
theorem aG (xs:List Int):Sort.SWO (ltOf (Va xs)) where
 irrefl x:=by rw[IS];simp
 trans x y z h1 h2:=by rw[IS] at*;simp at*;omega
 ntrans x y z h1 h2:=by rw[IS] at*;simp at*;omega
theorem cN {d a:Array Nat} (h:Sort.PermIn 0 d.size d a):a.toList.Perm d.toList:=by
 have b:=h.2.2;have e1:a.extract 0 d.size=a:=by rw[<-h.1];simp
 rw[e1] at b
 simpa using b
theorem Yu {xs:List Int} {d a:Array Nat} (l:a.size=d.size) (h:Sort.SortedIn (ltOf (Va xs)) 0 d.size a):a.toList.Pairwise λi j=>recT xs i<=recT xs j:=by
 rw[List.pairwise_iff_getElem];intro i j hi k c;have g:=h i j (AZ _) c (by simp at k;omega)
 rw[IS,decide_eq_false_iff_not] at g;have b:i<a.size:=by simpa using hi
 have f:j<a.size:=by simpa using k
 rw[getElem!_pos a i b,getElem!_pos a j f] at g;simp only[Array.getElem_toList];omega
end
