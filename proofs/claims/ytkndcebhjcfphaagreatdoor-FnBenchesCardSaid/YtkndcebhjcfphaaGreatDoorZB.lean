import Derived.Test.YtkndcebhjcfphaaGreatDoorZA
namespace Go.Proofs.YtkndcebhjcfphaaGreatDoor
open Go.RowKit Go.Proofs.Tryz
set_option maxRecDepth 100000
set_option maxHeartbeats 4000000
set_option linter.all false
theorem Q8 {n:Nat} {x:Int} (a:0<=x) (b:x<((2 ^ n:Nat):Int)):bitW (n+1) x=0::bitW n x:=by
 unfold bitW;rw[List.range_succ_eq_map,List.map_cons,List.map_map]
 congr 1
 ·rw[show n+1-1-0=n by omega,Int.ediv_eq_zero_of_lt a b];rfl
 ·refine List.map_congr_left λk c=> ?_;rw[Eo] at c;show x/((2 ^ (n+1-1-(k+1)):Nat):Int)%2=_;rw[show n+1-1-(k+1)=n-1-k by omega]
theorem Ul (n:Nat):(0:Int)<((2 ^ n:Nat):Int):=by have:=Nat.two_pow_pos n;omega
theorem Q7 {n:Nat} {x:Int} (a:0<=x) (b:x<((2 ^ n:Nat):Int)):bitW (n+1) (((2 ^ n:Nat):Int)+x)=1::bitW n x:=by
 unfold bitW;rw[List.range_succ_eq_map,List.map_cons,List.map_map]
 congr 1
 ·rw[show n+1-1-0=n by omega,Int.add_ediv_of_dvd_left ⟨1,by rw[Int.mul_one]⟩,Int.ediv_self (by have:=Ul n;omega),Int.ediv_eq_zero_of_lt a b];rfl
 ·refine List.map_congr_left λk d=> ?_;rw[Eo] at d;show(((2 ^ n:Nat):Int)+x)/((2 ^ (n+1-1-(k+1)):Nat):Int)%2=_;obtain⟨j,c⟩: ∃j,n=n-1-k+(j+1):=⟨k,by omega⟩
  have e:((2 ^ n:Nat):Int)=((2 ^ (n-1-k):Nat):Int)*(2*((2 ^ j:Nat):Int)):=by
   conv=>lhs;rw[c]
   rw[Nat.pow_add,Nat.pow_succ,Int.natCast_mul,Int.natCast_mul,Int.mul_comm ((2 ^ j:Nat):Int)];rfl
  rw[show n+1-1-(k+1)=n-1-k by omega,e,Int.add_ediv_of_dvd_left ⟨_,rfl⟩,Int.mul_ediv_cancel_left _ (by have:=Ul (n-1-k);omega),Int.add_emod,Int.mul_emod_right,Int.zero_add,Int.emod_emod]
def Rh (n:Nat) (a:Int) (j:Nat):Nat->Int
 |0=>0
 |x+1=>Rh n a j x+if(bitW n (x:Int)).sum.toNat=j then casP a (bitW n (x:Int)) else 0
theorem aM (n:Nat) (a:Int) (j:Nat) (b:j<n+2): ∀x,(tlS n a x).getD j 0=Rh n a j x
 |0=>by unfold tlS Rh;rw[DE,List.getElem?_replicate];simp[b]
 |x+1=>by
  have d:=aM n a j b x;have g:=Ht n a x;have f:=(Wn n (x:Int)).1;unfold tlS Rh;rw[DE,List.getElem?_set]
  split
  ·next c=>rw[AA Aa,Option.getD_some,c,d]
  ·next c=>rw[<-DE,d,Int.add_zero]
theorem Pb {l:List Int} (h:BV l 0 1=true) (j:Nat):((1::l).sum.toNat=j↔1<=j∧l.sum.toNat=j-1):=by
 have:=Ls h;rw[List.sum_cons];omega
theorem dK (n:Nat) (a:Int) (j:Nat): ∀x,x<=2 ^ n->Rh (n+1) a j x=(16-a)*Rh n a j x
 |0,_=>by unfold Rh;rw[Int.mul_zero]
 |x+1,h=>by
  have b:=dK n a j x Aa;unfold Rh;rw[b,Q8 Aa Aa,List.sum_cons,Int.zero_add,Int.mul_add]
  congr 1
  split
  ·rw[casP,Ak Ah]
  ·rw[Int.mul_zero]
theorem dJ (n:Nat) (a:Int) (j:Nat): ∀x,x<=2 ^ n->Rh (n+1) a j (2 ^ n+x)=Rh (n+1) a j (2 ^ n)+a*(if j=0 then 0 else Rh n a (j-1) x)
 |0,_=>by simp[Rh]
 |x+1,h=>by
  have g:=dJ n a j x Aa;show Rh (n+1) a j (2 ^ n+x)+(if(bitW (n+1) ((2 ^ n+x:Nat):Int)).sum.toNat=j then casP a (bitW (n+1) ((2 ^ n+x:Nat):Int)) else 0)=_;rw[g,show(((2 ^ n+x:Nat)):Int)=((2 ^ n:Nat):Int)+(x:Int) from by omega,Q7 Aa Aa,Int.add_assoc]
  congr 1
  have f:=Pb (Q4 n (x:Int)) j
  by_cases d:j=0
  ·rw[AA d,AA d,Ak (by rw[f];omega)];simp
  ·rw[Ak d,Ak d];show a*Rh n a (j-1) x+_=a*(Rh n a (j-1) x+(if(bitW n (x:Int)).sum.toNat=j-1 then casP a (bitW n (x:Int)) else 0));rw[Int.mul_add]
   by_cases b:(bitW n (x:Int)).sum.toNat=j-1
   ·rw[AA (f.2 ⟨by omega,b⟩),AA b,casP,AA rfl]
   ·rw[Ak (λc=>b (f.1 c).2),Ak b,Int.mul_zero]
theorem Vc (a:Int): ∀(n j:Nat),Rh n a j (2 ^ n)=exN a n (j:Int)
 |0,j=>by
  show Rh 0 a j 1=exN a 0 (j:Int);unfold Rh Rh exN;have e:bitW 0 ((0:Nat):Int)= []:=rfl;rw[e]
  by_cases b:j=0
  ·subst b;rfl
  ·rw[Ak Bq,Ak Aa];rfl
 |n+1,j=>by
  have c:=Vc a n j;rw[show 2 ^ (n+1)=2 ^ n+2 ^ n by omega,dJ n a j _ Bk,dK n a j _ Bk,c]
  by_cases b:j=0
  ·subst b;rw[AA rfl];have e:exN a (n+1) ((0:Nat):Int)=a*exN a n (((0:Nat):Int)-1)+(16-a)*exN a n ((0:Nat):Int):=Ak Aa;have:exN a n (((0:Nat):Int)-1)=0:=Fv (Or.inl Aa);rw[e,this,Int.mul_zero];omega
  ·rw[Ak b,Vc a n (j-1)];have e:((j-1:Nat):Int)=(j:Int)-1:=Aa;rw[e]
   by_cases i:(n:Int)+1<j
   ·have d:exN a n ((j:Int)-1)=0:=Fv (Or.inr Aa);have f:exN a n (j:Int)=0:=Fv (Or.inr Aa);have g:exN a (n+1) (j:Int)=0:=Fv (Or.inr Aa);rw[d,f,g];omega
   ·have e2:exN a (n+1) (j:Int)=a*exN a n ((j:Int)-1)+(16-a)*exN a n (j:Int):=Ak Aa;rw[e2];omega
theorem Qj {L:List Int} (f:Nat->Int): ∀(k m:Nat),L.length=m+k->(∀i,m<=i->i<m+k->L.getD i 0=f i)->(L.drop m).sum=((List.range k).map λi=>f (m+i)).sum
 |0,m,h,_=>by rw[List.drop_eq_nil_of_le Aa];rfl
 |k+1,m,h,hf=>by
  have a:=Qj f k (m+1) Aa λi b c=>hf i Aa Aa;rw[List.drop_eq_getElem_cons (show m<L.length by omega),List.sum_cons,a,List.range_succ_eq_map,List.map_cons,List.sum_cons,List.map_map,<-CJ (show m<L.length by omega),hf m Bk Aa]
  congr 2
  refine List.map_congr_left λi _=> ?_;show f (m+1+i)=f (m+(i+1))
  congr 1;omega
theorem fT (n m:Nat) (a:Int) (d:m<=n+1):fR n a m=exS a n m (n+1-m):=by
 unfold fR;have h:=Qj (L:=tlS n a (2 ^ n)) (λi=>exN a n (i:Int)) (n+2-m) m (by rw[Ht];omega) (λi b c=>by rw[aM n a i Aa,Vc])
 rw[h,show n+2-m=(n+1-m)+1 by omega,Ox,List.sum_append]
 have z:exN a n ((m+(n+1-m):Nat):Int)=0:=Fv (Or.inr Aa);rw[List.sum_cons,List.sum_nil,z];unfold exS;have e:((List.range (n+1-m)).map λi:Nat=>exN a n ((m+i:Nat):Int))=(List.range (n+1-m)).map λi:Nat=>exN a n ((m:Int)+(i:Int)):=List.map_congr_left λi _=>by congr 1
 rw[e];omega
def recT (xs:List Int) (i:Nat):Int:=xs.getD (i*7) 0
def recK (xs:List Int) (i:Nat):Int:=xs.getD (i*7+1) 0
def recL (xs:List Int) (i:Nat):Int:=xs.getD (i*7+2) 0
def Kg (t l:Int):List (Int×Int)->List (Int×Int)
 | []=> [(t,l)]
 |(a,b)::r=>if a<t then(a,b)::Kg t l r else if a=t then(a,l)::r else(t,l)::(a,b)::r
def gTo (xs:List Int):Nat->List (Int×Int)
 |0=> []
 |k+1=>if recK xs k=1 then Kg (recT xs k) (recL xs k) (gTo xs k) else gTo xs k
def SS (p:List (Int×Int)):Prop:=p.Pairwise λa b=>a.1<b.1
theorem Om {t l:Int} {x:Int×Int}: ∀ {p:List (Int×Int)},SS p->(x∈Kg t l p↔x=(t,l)∨(x∈p∧x.1≠t))
 | [],_=>by simp[Kg]
 |(a,b)::r,h=>by
  have c:=(List.pairwise_cons.1 h).1;have f:=Om (t:=t) (l:=l) (x:=x) (List.pairwise_cons.1 h).2;unfold Kg
  by_cases d:a<t
  ·rw[AA d,CC,f,CC]
   constructor
   ·rintro(rfl|rfl|⟨m,n⟩)
    ·exact .inr ⟨.inl rfl,by show a≠t;omega⟩
    ·exact .inl rfl
    ·exact .inr ⟨.inr m,n⟩
   ·rintro(rfl|⟨rfl|m,n⟩)
    ·exact .inr (.inl rfl)
    ·exact .inl rfl
    ·exact .inr (.inr ⟨m,n⟩)
  ·rw[Ak d]
   by_cases k2:a=t
   ·subst k2;rw[AA rfl,CC,CC]
    constructor
    ·rintro(rfl|m)
     ·exact .inl rfl
     ·exact .inr ⟨.inr m,by have:=c x m;show x.1≠a;simp only at this;omega⟩
    ·rintro(rfl|⟨rfl|m,n⟩)
     ·exact .inl rfl
     ·exact absurd rfl n
     ·exact .inr m
   ·rw[Ak k2,CC,CC]
    constructor
    ·rintro(rfl|rfl|m)
     ·exact .inl rfl
     ·exact .inr ⟨.inl rfl,k2⟩
     ·exact .inr ⟨.inr m,by have:=c x m;simp only at this;omega⟩
    ·rintro(rfl|⟨rfl|m,n⟩)
     ·exact .inl rfl
     ·exact .inr (.inl rfl)
     ·exact .inr (.inr m)
theorem Wy {t l:Int}: ∀ {p:List (Int×Int)},SS p->SS (Kg t l p)
 | [],_=>List.pairwise_singleton _ _
 |(a,b)::r,h=>by
  have d:=(List.pairwise_cons.1 h).1;have f:=(List.pairwise_cons.1 h).2;unfold Kg
  by_cases g:a<t
  ·rw[AA g];refine List.pairwise_cons.2 ⟨λy c=> ?_,Wy f⟩;rcases(Om f).1 c with rfl|⟨m,_⟩
   ·exact g
   ·exact d y m
  ·rw[Ak g]
   by_cases k2:a=t
   ·rw[AA k2];exact List.pairwise_cons.2 ⟨λy c=>d y c,f⟩
   ·rw[Ak k2];refine List.pairwise_cons.2 ⟨λy c=> ?_,h⟩;rcases CC.1 c with rfl|m
    ·show t<a;omega
    ·have:=d y m;simp only at this;show t<y.1;omega
theorem Lx (xs:List Int): ∀k,SS (gTo xs k)
 |0=>List.Pairwise.nil
 |k+1=>by
  unfold gTo
  split
  ·exact Wy (Lx xs k)
  ·exact Lx xs k
def RJ (xs:List Int) (k i:Nat):Prop:=recK xs i=1∧ ∀j,i<j->j<k->recK xs j=1->recT xs j≠recT xs i
theorem R9 (xs:List Int): ∀(k:Nat) (x:Int×Int),x∈gTo xs k↔ ∃i,i<k∧RJ xs k i∧x=(recT xs i,recL xs i)
 |0,x=>by simp[gTo]
 |k+1,x=>by
  have f:=R9 xs k x;unfold gTo
  by_cases h:recK xs k=1
  ·rw[AA h,Om (Lx xs k),f]
   constructor
   ·rintro(rfl|⟨⟨i,hi,d,rfl⟩,g⟩)
    ·exact⟨k,by omega,⟨h,λj a b=>by omega⟩,rfl⟩
    ·refine⟨i,by omega,⟨d.1,λj a b c=> ?_⟩,rfl⟩
     by_cases e:j=k
     ·subst e;exact λq=>g q.symm
     ·exact d.2 j a Aa c
   ·rintro⟨i,hi,d,rfl⟩
    by_cases e:i=k
    ·subst e;exact .inl rfl
    ·refine .inr ⟨⟨i,by omega,⟨d.1,λj a b c=>d.2 j a Aa c⟩,rfl⟩,λq=>d.2 k Aa Aa h q.symm⟩
  ·rw[Ak h,f]
   constructor
   ·rintro⟨i,hi,d,rfl⟩;refine⟨i,by omega,⟨d.1,λj a b c=> ?_⟩,rfl⟩
    by_cases e:j=k
    ·subst e;exact absurd c h
    ·exact d.2 j a Aa c
   ·rintro⟨i,hi,d,rfl⟩;have:i≠k:=λe=>h (e▸d.1);exact⟨i,by omega,⟨d.1,λj a b c=>d.2 j a Aa c⟩,rfl⟩
theorem YO: ∀ {p q:List (Int×Int)},SS p->SS q->(∀x,x∈p↔x∈q)->p=q
 | [],[],_,_,_=>rfl
 | [],b::q,_,_,h=>by have:=(h b).2 (C5 ..);cases this
 |a::p,[],_,_,h=>by have:=(h a).1 (C5 ..);cases this
 |a::p,b::q,hp,hq,h=>by
  obtain⟨c,f⟩:=List.pairwise_cons.1 hp;obtain⟨d,g⟩:=List.pairwise_cons.1 hq
  have e:a=b:=by
   rcases CC.1 ((h a).1 (C5 ..)) with e|m
   ·exact e
   ·rcases CC.1 ((h b).2 (C5 ..)) with e|m'
    ·exact e.symm
    ·have:=d a m;have:=c b m';omega
  subst e;rw[YO f g λx=> ?_]
  constructor
  ·intro m;rcases CC.1 ((h x).1 (Hz _ m)) with e|m'
   ·subst e;have:=c x m;omega
   ·exact m'
  ·intro m;rcases CC.1 ((h x).2 (Hz _ m)) with e|m'
   ·subst e;have:=d x m;omega
   ·exact m'
def UB (xs:List Int) (n i:Nat):Bool:=decide (recK xs i=1) && !((List.range n).any λj=>decide (i<j) && (decide (recK xs j=1) && decide (recT xs j=recT xs i)))
theorem Yn {xs:List Int} {n i:Nat}:UB xs n i=true↔RJ xs n i:=by
 unfold UB RJ;rw[CD,BP,Bool.not_eq_true',<-Bool.not_eq_true,List.any_eq_true];refine and_congr Iff.rfl ⟨λh j a b c q=>h ⟨j,Eo.2 b,by simp[a,c,q]⟩,?_⟩
 rintro h ⟨j,f,d⟩;rw[CD,CD,BP,BP,BP] at d;exact h j d.1 (Eo.1 f) d.2.1 d.2.2
def Pp (xs:List Int) (n k:Nat):List Nat:=(List.range k).filter (UB xs n)
theorem ay (xs:List Int) (n k:Nat):Pp xs n (k+1)=if UB xs n k=true then Pp xs n k++ [k] else Pp xs n k:=by
 unfold Pp;rw[I6,List.filter_append]
 cases h:UB xs n k<;>simp[h]
theorem Ks {xs:List Int} {n i:Nat}:i∈Pp xs n n↔i<n∧RJ xs n i:=by
 unfold Pp;rw[List.mem_filter,Eo,Yn]
def Sb (xs:List Int) (i:Nat):Int×Int:=(recT xs i,recL xs i)
theorem fe (xs:List Int) (n:Nat):(Pp xs n n).Pairwise λi j=>recT xs i≠recT xs j:=by
 have c:(Pp xs n n).Pairwise (· < ·):=List.Pairwise.filter _ List.pairwise_lt_range;refine List.Pairwise.imp_of_mem ?_ c;intro i j hi b a q;exact(Ks.1 hi).2.2 j a (Ks.1 b).1 (Ks.1 b).2.1 q.symm
theorem Ti {xs:List Int} {n:Nat} {ks:List Nat} (c:ks.Perm (Pp xs n n)) (hs:ks.Pairwise λi j=>recT xs i<=recT xs j):ks.map (Sb xs)=gTo xs n:=by
 have b:ks.Pairwise λi j=>recT xs i≠recT xs j:=(c.pairwise_iff (λ{_ _} h=>Ne.symm h)).2 (fe xs n)
 have a:SS (ks.map (Sb xs)):=by
  unfold SS;rw[List.pairwise_map];refine List.Pairwise.imp (λ{i j} h=> ?_) (hs.and b);have f:=h.2;show recT xs i<recT xs j;omega
 refine YO a (Lx xs n) λx=> ?_;rw[R9,List.mem_map]
 constructor
 ·rintro⟨i,hi,rfl⟩;have:=Ks.1 (c.mem_iff.1 hi);exact⟨i,this.1,this.2,rfl⟩
 ·rintro⟨i,hi,d,rfl⟩;exact⟨i,c.mem_iff.2 (Ks.2 ⟨hi,d⟩),rfl⟩
theorem kp (xs:List Int) (n:Nat):(Pp xs n n).length=(gTo xs n).length:=by
 have d:=List.mergeSort_perm (Pp xs n n) (λi j=>decide (recT xs i<=recT xs j))
 have f:((Pp xs n n).mergeSort λi j=>decide (recT xs i<=recT xs j)).Pairwise λi j=>recT xs i<=recT xs j:=by
  refine List.Pairwise.imp (λ{i j} h=>of_decide_eq_true h) (List.pairwise_mergeSort (λa b c g k=> ?_) (λa b=> ?_) _)
  ·simp only[BP] at*;omega
  ·simp only[Bool.or_eq_true,BP];omega
 rw[<-Ti d f,List.length_map,d.length_eq]
def aheadP (t:Int) (p:List (Int×Int)):Nat:=(p.takeWhile λa=>decide (a.1<t)).length
theorem WS {t l:Int}: ∀ {p:List (Int×Int)},(h:aheadP t p<p.length)->(p[aheadP t p]).1=t->Kg t l p=p.take (aheadP t p)++(t,l)::p.drop (aheadP t p+1)
 | [],h,_=>absurd h (Nat.not_lt_zero _)
 |(a,b)::r,h,e=>by
  unfold Kg
  by_cases c:a<t
  ·have e1:aheadP t ((a,b)::r)=aheadP t r+1:=by unfold aheadP;simp[c]
   rw[AA c];simp only[e1,Gt,List.getElem_cons_succ] at h e;rw[e1,WS Aa e,List.take_succ_cons,List.drop_succ_cons]
   rfl
  ·have e1:aheadP t ((a,b)::r)=0:=by unfold aheadP;simp[c]
   simp only[e1,List.getElem_cons_zero] at e;rw[Ak c,AA e,e1];subst e
   rfl
theorem Tw {t l:Int}: ∀ {p:List (Int×Int)},SS p->(∀h:aheadP t p<p.length,(p[aheadP t p]).1≠t)->Kg t l p=p.take (aheadP t p)++(t,l)::p.drop (aheadP t p)
 | [],_,_=>rfl
 |(a,b)::r,hs,e=>by
  unfold Kg
  by_cases c:a<t
  ·have e1:aheadP t ((a,b)::r)=aheadP t r+1:=by unfold aheadP;simp[c]
   rw[AA c,e1,Tw (List.pairwise_cons.1 hs).2 (λh q=> ?_),List.take_succ_cons,List.drop_succ_cons]
   ·rfl
   ·refine e (by rw[e1,Gt];omega) ?_
    simp only[e1,List.getElem_cons_succ];exact q
  ·have e1:aheadP t ((a,b)::r)=0:=by unfold aheadP;simp[c]
   have k2:a≠t:=λq=>e (by rw[e1];simp) (by simp only[e1,List.getElem_cons_zero];exact q)
   rw[Ak c,Ak k2,e1]
   rfl
def fstL (p:List (Int×Int)):List Int:=p.map (·.1)
def sndL (p:List (Int×Int)):List Int:=p.map (·.2)
theorem Ik (p:List (Int×Int)):(fstL p).length=p.length:=List.length_map ..
theorem UD (p:List (Int×Int)):(sndL p).length=p.length:=List.length_map ..
theorem Nc {p:List (Int×Int)} {k:Nat} (h:k<p.length):(fstL p).getD k 0=(p[k]).1:=by unfold fstL;simp[h]
theorem YS (t:Int) (p:List (Int×Int)):aheadP t p<=p.length:=(List.takeWhile_prefix _).length_le
theorem SK {t:Int}: ∀ {p:List (Int×Int)} {k:Nat},k<aheadP t p->(fstL p).getD k 0<t
 | [],_,h=>absurd h (Nat.not_lt_zero _)
 |(a,b)::r,k,h=>by
  by_cases c:a<t
  ·have e1:aheadP t ((a,b)::r)=aheadP t r+1:=by unfold aheadP;simp[c]
   cases k with
   |zero=>exact c
   |succ k=>exact SK (p:=r) (k:=k) Aa
  ·have e1:aheadP t ((a,b)::r)=0:=by unfold aheadP;simp[c]
   omega
theorem ND {t:Int}: ∀ {p:List (Int×Int)},aheadP t p<p.length-> ¬(fstL p).getD (aheadP t p) 0<t
 | [],h=>absurd h (Nat.not_lt_zero _)
 |(a,b)::r,h=>by
  by_cases c:a<t
  ·have e1:aheadP t ((a,b)::r)=aheadP t r+1:=by unfold aheadP;simp[c]
   rw[e1] at h⊢;exact ND (p:=r) CB
  ·have e1:aheadP t ((a,b)::r)=0:=by unfold aheadP;simp[c]
   rw[e1];exact c
theorem Yt {α:Type} {l:List α} {m:Nat} (h:m<l.length) (x:α):l.set m x=l.take m++x::l.drop (m+1):=List.set_eq_take_append_cons_drop.trans (AA h)
theorem Zu {xs:List Int} {k m:Nat} (b:recK xs k=1) (c:aheadP (recT xs k) (gTo xs k)=m) (h:m<(gTo xs k).length) (he:(fstL (gTo xs k)).getD m 0=recT xs k):
  fstL (gTo xs (k+1))=fstL (gTo xs k)∧sndL (gTo xs (k+1))=(sndL (gTo xs k)).set m (recL xs k):=by
 subst c;rw[Nc h] at he
 have e:gTo xs (k+1)=(gTo xs k).set (aheadP (recT xs k) (gTo xs k)) (recT xs k,recL xs k):=by
  show(if recK xs k=1 then _ else _)=_;rw[AA b,WS h he,Yt h]
 rw[e]
 constructor
 ·unfold fstL;rw[List.map_set]
  have a: ∀(p:List Int) (m:Nat) (h:m<p.length) (x:Int),p[m]=x->p.set m x=p:=by
   intro p m h x e;subst e;exact List.set_getElem_self h
  exact a _ _ CB _ (by simpa using he)
 ·unfold sndL;rw[List.map_set]
theorem bY {xs:List Int} {k m:Nat} (a:recK xs k=1) (b:aheadP (recT xs k) (gTo xs k)=m) (he:m<(gTo xs k).length->(fstL (gTo xs k)).getD m 0≠recT xs k):
  fstL (gTo xs (k+1))=(fstL (gTo xs k)).take m++recT xs k::(fstL (gTo xs k)).drop m∧sndL (gTo xs (k+1))=(sndL (gTo xs k)).take m++recL xs k::(sndL (gTo xs k)).drop m:=by
 subst b
 have e:gTo xs (k+1)=(gTo xs k).take (aheadP (recT xs k) (gTo xs k))++(recT xs k,recL xs k)::(gTo xs k).drop (aheadP (recT xs k) (gTo xs k)):=by
  show(if recK xs k=1 then _ else _)=_;rw[AA a,Tw (Lx xs k) λh=>by rw[<-Nc h];exact he h]
 rw[e];unfold fstL sndL;rw[List.map_append,List.map_append,List.map_take,List.map_cons,List.map_drop,List.map_take,List.map_cons,List.map_drop];exact⟨rfl,rfl⟩
theorem Zt {xs:List Int} {k:Nat} (a:recK xs k≠1):gTo xs (k+1)=gTo xs k:=by
 show(if recK xs k=1 then _ else _)=_;rw[Ak a]
structure Js where
 times:Hd
 levels:Hd
structure UT where
 times:List Int
 levels:List Int
def Lv (h:Js) (l:UT):Value:=.agg (CH h.times.A h.times.n h.times.c h.levels.A h.levels.n h.levels.c)
def Lu (h:Js) (l:UT):List Sl:= [⟨h.times.A,h.times.n,ints l.times⟩,⟨h.levels.A,h.levels.n,ints l.levels⟩]
def UU (h:Js):List (Option Nat):= [blkp h.times.A h.times.n,blkp h.levels.A h.levels.n]
def QN (h:Js):Prop:=h.times.n<=1048576∧h.levels.n<=1048576
theorem Rd.take {w:World} {A:Option Addr} {n k:Nat} {xs:List Int} (h:Rd w A n (ints xs)) (d:k<=n):Rd w A k (ints (xs.take k)):=by
 have f:=h.len;refine⟨by unfold ints;simp;omega,λc=> ?_⟩
 obtain⟨a,e,b⟩:=h.2 Aa;refine⟨a,e,λi hi=> ?_⟩;rw[b i Aa,CF,CF,List.getElem?_take,AA hi]
theorem jG (A B:Option Addr) (n c d:Nat) (xs:List Int) (w:World) (l:n<=9223372036854775807) (ha:Rd w A n (ints xs)) (b:Rd w B n (ints xs)):
  Calls prog 47 (CH A n c B n d) w λe f=>e=.returned (.bool true)∧ ∃m,f=w.drewN m:=by
 go_enter func47,ntmps47
 go_wp2
 go_loopw [5] (λi wr=> ∃k m:Nat,k<=n∧i=.int .i64 k∧wr=w.drewN m)
  (λi _=>n-(intOf i).toNat)
 case atStart=>exact⟨0,0,AZ _,rfl,rfl⟩
 case round=>
  obtain⟨k,m,j,rfl,rfl⟩:=hrel
  by_cases a:k<n
  ·obtain⟨g,rfl,p⟩:=ha.int a;obtain⟨bd,rfl,q⟩:=b.int a;generalize xs.getD k 0=x at*;go_wp2
   go_quiet (fail)
   go_wp2
   go_roundw
   case rel=>exact⟨k+1,_,by omega,by go_num,rfl⟩
   case measure=>simp[intOf];omega
  ·go_wp2;go_ret;exact⟨rfl,m,rfl⟩
theorem iZ (A:Option Addr) (n c:Nat) (w:World) (a:n<=9223372036854775807):
  (GK 17 #[.slice A n c] w (.bool (decide ((4096:Int)<(n:Int)))):Prop):=by
 by_cases h:(4096:Int)<(n:Int)
 all_goals
  go_enter func17,ntmps17
  go_wp2;go_ret;exact⟨Af Bq,rfl⟩
theorem Vg (A:Option Addr) (n c:Nat) (xs:List Int) (B:Option Addr) (m d:Nat) (ys:List Int) (w:World) (J:n<=9223372036854775807) (E:m<=9223372036854775807) (C:Rd w A n (ints xs)) (z:Rd w B m (ints ys)):
  (BT 318 (CH A n c B m d) w (.bool (decide (xs=ys))):Prop):=by
 have r:=Ai C.len;have t:=Ai z.len
 by_cases q:n=m
 ·subst q;clear E
  go_enter func318,ntmps318
  go_wp2
  go_loopw [13] (λi wr=> ∃k u:Nat,k<=n∧i=.int .i64 k∧(∀j,j<k->xs.getD j 0=ys.getD j 0)∧wr=w.drewN u) (λi _=>n-(intOf i).toNat)
  case atStart=>exact⟨0,0,AZ _,rfl,λj h=>by omega,rfl⟩
  case round=>
   obtain⟨k,u,I,rfl,a,rfl⟩:=hrel;have s:=Ai a;clear a
   by_cases p:k<n
   ·obtain⟨G,rfl,K⟩:=C.int p;obtain⟨bd,rfl,L⟩:=z.int p;have v:(k:Int)<(n:Int):=Aa
    have g:Hid (xs.getD k 0=ys.getD k 0-> ∀j,j<k+1->xs.getD j 0=ys.getD j 0):=λh j H=>by
     rcases Nat.lt_or_ge j k with l|l
     ·exact s.out j l
     ·obtain rfl:k=j:=Aa;exact h
    have f:Hid (xs.getD k 0≠ys.getD k 0->decide (xs=ys)=false):=λh=>BR (λe=>h (by rw[e]))
    generalize xs.getD k 0=x at*;generalize ys.getD k 0=y at*;rcases jt (x !=y) with e2|e2
    ·have b:=Ai (f.out (by simpa using e2))
     clear f g
     go_wp2_with fail
     go_quiet (fail)
     go_wp2;go_ret;exact⟨by rw[b.out];rfl,Ba (Ba G6 _) _⟩
    ·have b:=Ai (g.out (by simpa using e2))
     clear f g
     go_wp2_with fail
     go_quiet (fail)
     go_wp2
     go_roundw
     case rel=>exact⟨k+1,_,by omega,by go_num,b.out,rfl⟩
     case measure=>simp[intOf];omega
   ·obtain rfl:k=n:=Aa
    have b:Hid (decide (xs=ys)=true):=by
     refine BC (List.ext_getElem (by rw[r.out,t.out]) λi l D=> ?_)
     have:=s.out i (by rw[<-r.out];exact l)
     rw[CJ l,CJ D] at this;exact this
    go_wp2;go_ret;exact⟨by rw[b.out];rfl,Ba G6 _⟩
 ·have b:Hid (decide (xs=ys)=false):=BR (λe=>q (by rw[<-r.out,<-t.out,e]))
  have F: ¬((n:Int)=(m:Int)):=Aa
  go_enter func318,ntmps318
  go_wp2;go_ret;exact⟨by rw[b.out];rfl,AP _ _⟩
