import Derived.Test.YtkndcebhjcfphaaGreatDoorZL
import Derived.Test.YtkndcebhjcfphaaGreatDoorZT
namespace Go.Proofs.YtkndcebhjcfphaaGreatDoor
open Go.RowKit Go.Proofs.Tryz
set_option maxRecDepth 100000
set_option maxHeartbeats 4000000
set_option linter.all false
theorem M5 (l:List AU):(BF l).length=2*l.length:=by
 induction l with
 |nil=>rfl
 |cons y t ih=>
  have:BF (y::t)=y.lo::y.hi::BF t:=rfl;rw[this,Gt,Gt,Gt,ih];omega
theorem Q0 (l:List AU) (y:AU):BF (l++ [y])=BF l++ [y.lo,y.hi]:=by unfold BF;simp
def Ej (us vs:List Int):Nat->Int
 |0=>0
 |k+1=>Ej us vs k+min (us.getD (k*2) 0) (vs.getD (k*2) 0)
def Ei (us vs:List Int):Nat->Int
 |0=>0
 |k+1=>Ei us vs k+max (us.getD (k*2+1) 0) (vs.getD (k*2+1) 0)
theorem NI {us vs a b:List Int}: ∀k,k*2<=us.length->k*2<=vs.length->Ej (us++a) (vs++b) k=Ej us vs k∧Ei (us++a) (vs++b) k=Ei us vs k
 |0,_,_=>⟨rfl,rfl⟩
 |k+1,h1,h2=>by
  obtain⟨f,g⟩:=NI (us:=us) (vs:=vs) (a:=a) (b:=b) k Aa Aa
  have e: ∀(c d:List Int) (i:Nat),i<c.length->(c++d).getD i 0=c.getD i 0:=λc d i h=>by
   rw[DE,List.getElem?_append_left h,<-DE]
  unfold Ej Ei;rw[f,g,e us a _ Aa,e vs b _ Aa,e us a _ Aa,e vs b _ Aa];exact⟨rfl,rfl⟩
theorem Qh {l m:List AU} {a b:AU} {n:Nat} (g:l.length=n) (i:m.length=n):
  Ej (BF (l++ [a])) (BF (m++ [b])) (n+1)=Ej (BF l) (BF m) n+min a.lo b.lo∧Ei (BF (l++ [a])) (BF (m++ [b])) (n+1)=Ei (BF l) (BF m) n+max a.hi b.hi:=by
 have j:=M5 l;have k:=M5 m;rw[Q0,Q0];obtain⟨d,f⟩:=NI (us:=BF l) (vs:=BF m) (a:= [a.lo,a.hi]) (b:= [b.lo,b.hi]) n Aa Aa
 have e: ∀(c:List Int) (u v:Int),c.length=n*2->(c++ [u,v]).getD (n*2) 0=u∧(c++ [u,v]).getD (n*2+1) 0=v:=λc u v h=>by
  rw[DE,DE,List.getElem?_append_right Aa,List.getElem?_append_right Aa,h,Nat.sub_self,show n*2+1-n*2=1 by omega]
  exact⟨rfl,rfl⟩
 show Ej (BF l++ [a.lo,a.hi]) (BF m++ [b.lo,b.hi]) n+min ((BF l++ [a.lo,a.hi]).getD (n*2) 0) ((BF m++ [b.lo,b.hi]).getD (n*2) 0)=_∧Ei (BF l++ [a.lo,a.hi]) (BF m++ [b.lo,b.hi]) n+max ((BF l++ [a.lo,a.hi]).getD (n*2+1) 0) ((BF m++ [b.lo,b.hi]).getD (n*2+1) 0)=_;rw[d,f,(e _ a.lo a.hi Aa).1,(e _ b.lo b.hi Aa).1,(e _ a.lo a.hi Aa).2,(e _ b.lo b.hi Aa).2];exact⟨rfl,rfl⟩
theorem Ns {r:Al} {n:Nat} {x:En} {l:List AU} (h:r.tr (n+1)=some (x,l)): ∃b a y,r.tr n=some (b,a)∧r.step b=some y∧x=y.st∧l=a++ [y]:=by
 simp only[Al.tr] at h
 split at h
 ·cases h
 ·next b a e=>
  split at h
  ·cases h
  ·next y e2=>
   simp only[Gs,Prod.mk.injEq] at h;exact⟨b,a,y,e,e2,h.1.symm,h.2.symm⟩
theorem A8.step_add {r:Al} (R:A8 r) {x:En} (X:Jt r x) {y:AU} (h:r.step x=some y):y.st.lo=x.lo+y.lo∧y.st.hi=x.hi+y.hi∧0<=y.lo∧0<=y.hi∧y.lo<=3500000000000000∧y.hi<=3500000000000000:=by
 unfold Al.step at h
 split at h
 ·injection h with h;subst h;simp only;omega
 ·next a b e=>
  obtain⟨rfl,c⟩:=R.nxt_in X e;have:=R.pa_bd X.k c X.can
  split at h
  ·split at h
   ·injection h with h;subst h;exact⟨rfl,rfl,this.1,this.2.2.1,this.2.1,this.2.2.2⟩
   ·injection h with h;subst h;exact⟨rfl,rfl,this.1,this.2.2.1,this.2.1,this.2.2.2⟩
  ·cases h
theorem IQ {x:Int}:isV x=true↔ -1000000000000<=x∧x<=1000000000000:=⟨Ac,λh=>CN h.1 h.2⟩
theorem bN {r q:Al} (R:A8 r) (Q:A8 q): ∀n x l y m,r.tr n=some (x,l)->q.tr n=some (y,m)->
  0<=Ej (BF l) (BF m) n∧Ej (BF l) (BF m) n<=x.lo∧0<=Ei (BF l) (BF m) n∧Ei (BF l) (BF m) n<=x.hi+y.hi:=by
 intro n
 induction n with
 |zero=>
  intro x l y m c d;simp only[Al.tr,Gs,Prod.mk.injEq] at c d;obtain⟨rfl,rfl⟩:=c;obtain⟨rfl,rfl⟩:=d
  simp[Ej,Ei,Al.first]
 |succ n ih=>
  intro x l y m c d;obtain⟨u,k,a,e1,s,rfl,rfl⟩:=Ns c;obtain⟨v,p,b,e2,t,rfl,rfl⟩:=Ns d;obtain⟨A,B,C,D⟩:=ih _ _ _ _ e1 e2;obtain⟨X,i,-,-⟩:=R.tr_ok n u k e1;obtain⟨Y,j,-,-⟩:=Q.tr_ok n v p e2;have w:=R.step_add X s;have z:=Q.step_add Y t;obtain⟨f,g⟩:=Qh (a:=a) (b:=b) i j;rw[f,g];omega
theorem YJ.lim {r q:Al} (N:YJ r q) {n:Nat} (c:n<=100) {x y:En} {l m:List AU} (a:r.tr n=some (x,l)) (b:q.tr n=some (y,m)):
  (0<=Ej (BF l) (BF m) n∧Ej (BF l) (BF m) n<=1000000000000)∧0<=Ei (BF l) (BF m) n∧Ei (BF l) (BF m) n<=1000000000000:=by
 have h:=bN N.fr.ok N.fq.ok n x l y m a b;have s:=N.sum c a b;have X:=(N.fr.ok.tr_ok n x l a).1;have:=IQ.1 X.lo;omega
theorem aO {r:Al} {n:Nat} {x:En} {l:List AU} (h:r.tr n=some (x,l)): ∀k,k<=n-> ∃b a,r.tr k=some (b,a)∧ ∃t,l=a++t:=by
 intro k f
 induction n generalizing x l with
 |zero=>
  obtain rfl:k=0:=Aa;exact⟨x,l,h,[],by simp⟩
 |succ n ih=>
  by_cases e:k=n+1
  ·exact⟨x,l,e▸h,[],by simp⟩
  ·obtain⟨b,a,y,e1,g,rfl,rfl⟩:=Ns h;obtain⟨d,c,e2,t,rfl⟩:=ih e1 Aa;exact⟨d,c,e2,t++ [y],by simp⟩
theorem YJ.limk {r q:Al} (N:YJ r q) {n:Nat} (C:n<=100) {x y:En} {l m:List AU} (g:r.tr n=some (x,l)) (i:q.tr n=some (y,m)) (k:Nat) (f:k<=n):
  (0<=Ej (BF l) (BF m) k∧Ej (BF l) (BF m) k<=1000000000000)∧0<=Ei (BF l) (BF m) k∧Ei (BF l) (BF m) k<=1000000000000:=by
 obtain⟨s,c,e1,t,rfl⟩:=aO g k f;obtain⟨v,d,e2,u,rfl⟩:=aO i k f;have A:=(N.fr.ok.tr_ok k s c e1).2.1;have B:=(N.fq.ok.tr_ok k v d e2).2.1;have w:=M5 c;have z:=M5 d;have e: ∀a b:List AU,BF (a++b)=BF a++BF b:=λa b=>by unfold BF;simp
 obtain⟨j,p⟩:=NI (us:=BF c) (vs:=BF d) (a:=BF t) (b:=BF u) k Aa Aa;rw[e,e,j,p];exact N.lim Aa e1 e2
theorem ga {r:Al} (R:A8 r) {n:Nat} {x:En} {l:List AU} (h:r.tr n=some (x,l)) (i:Nat):0<=(BF l).getD i 0∧(BF l).getD i 0<=3500000000000000:=by
 induction n generalizing x l with
 |zero=>
  simp only[Al.tr,Gs,Prod.mk.injEq] at h;obtain⟨rfl,rfl⟩:=h
  simp[BF]
 |succ n ih=>
  obtain⟨f,a,y,e1,b,rfl,rfl⟩:=Ns h;have g:=R.step_add (R.tr_ok n f a e1).1 b;have hi:=ih e1;rw[Q0,DE];rcases Nat.lt_or_ge i (BF a).length with c|c
  ·rw[List.getElem?_append_left c,<-DE];exact hi
  ·rw[List.getElem?_append_right c];rcases(show i-(BF a).length=0∨i-(BF a).length=1∨2<=i-(BF a).length by omega) with d|d|d
   ·rw[d];simp;omega
   ·rw[d];simp;omega
   ·rw[List.getElem?_eq_none Bq];simp
def vdV (x y:En) (same:Bool) (lo hi knot dist:Int):Int:=
 if same=false then 1 else if¬(x.k:Int)=knot∨inR dist lo hi=false then 0 else if(x.hi<dist∧dist<y.lo)∨(y.hi<dist∧dist<x.lo) then 2 else 1
def dY (r q:Al) (n:Nat) (knot dist:Int):Option Int:=
 match r.tr n,q.tr n with
 |some (x,l),some (y,m)=>some (vdV x y (decide (C2 l=C2 m)) (Ej (BF l) (BF m) n) (Ei (BF l) (BF m) n) knot dist)
 |_,_=>none
theorem ef {l m:List AU} {a b:AU} (h:l.length=m.length):decide (C2 (l++ [a])=C2 (m++ [b]))=(decide (C2 l=C2 m) && decide (a.ev=b.ev)):=by
 have e: ∀(l:List AU) (a:AU),C2 (l++ [a])=C2 l++ [a.ev]:=λl a=>by unfold C2;simp
 have f:(C2 l).length=(C2 m).length:=by unfold C2;simp[h]
 rw[e,e,<-Bool.decide_and,decide_eq_decide]
 constructor
 ·intro c;have:=List.append_inj c f;exact⟨this.1,by simpa using this.2⟩
 ·rintro⟨c,d⟩;rw[c,d]
theorem ZV (a b d:Int):(a-d)*(a+b)=a*a+a*b-d*a-d*b:=by
 rw[Int.sub_mul,Int.mul_add,Int.mul_add];omega
theorem fQ {j g i f v S:Int} (l:0<g) (m:0<f) (hv:0<v) (n:0<S) (q:1000*(i*g)<=994*(j*f)):
  (j*v<g*S->1000*(i*v)<994*(f*S))∧(499*(f*S)<500*(i*v)->g*S<j*v):=by
 have a:=ME q (show 0<=v by omega)
 have e1:1000*(i*g)*v=1000*((i*v)*g):=by ac_rfl
 have e2:994*(j*f)*v=994*((j*v)*f):=by ac_rfl
 rw[e1,e2] at a;have k:(g*S)*f=(f*S)*g:=by ac_rfl
 constructor
 ·intro c;rcases Eg (1000*(i*v)) (994*(f*S)) with o|o
  ·exact o
  ·exfalso
   have b:=ME o (show 0<=g by omega)
   have d:=Int.mul_lt_mul_of_pos_right c m;rw[k] at d;rw[Ga,Ga 1000] at b;omega
 ·intro c;rcases Eg (g*S) (j*v) with o|o
  ·exact o
  ·exfalso
   have b:=ME o (show 0<=f by omega)
   have d:=Int.mul_lt_mul_of_pos_right c l;rw[k] at b;rw[Ga,Ga 500] at d;have p:=Int.mul_pos (Int.mul_pos m n) l;omega
theorem QH {r q:Al} (R:A8 r) (Q:A8 q) (m:q.ss=r.ss) (b:q.src=r.src) (u:1000*(q.c*r.h)<=994*(r.c*q.h)) {j:Nat} (t:j+1<r.ds.length):
  (r.lev j=true-> ¬q.lev j=true∧ ¬q.tur j=true)∧(q.lev j=true-> ¬r.lev j=true∧ ¬r.tur j=true):=by
 obtain⟨-,-,C,-⟩:=R.dir';obtain⟨-,-,D,-⟩:=Q.dir';have E:=R.sp R.src
 have d: ∀k,k<r.ds.length->(r.pt k<r.wh->1000*q.pt k<994*q.wh)∧(499*q.wh<500*q.pt k->r.wh<r.pt k):=λk i=>by
  have hv:=R.sp i;have:=fQ (v:=r.ss.getD k 0) (S:=r.ss.getD r.src 0) (show 0<r.h by omega) (show 0<q.h by omega) Aa Aa u
  unfold Al.pt Al.wh;rw[m,b];exact this
 obtain⟨w,k2⟩:=d j Aa;obtain⟨A,B⟩:=d (j+1) t;have F:=Q.wh_bd;have a: ∀(z:Al) k,z.can k=decide (z.pt k<z.wh):=λ_ _=>rfl
 constructor
 ·intro l;obtain⟨f,g,x,y⟩:=Hk l;rw[a,BP] at f g;have p:=w f;have s:=A g;refine⟨λc=> ?_,λc=> ?_⟩
  ·obtain⟨-,-,n,-⟩:=Hk c;omega
  ·unfold Al.tur at c;rw[a,a,BC (show q.pt j<q.wh by omega),BC (show q.pt (j+1)<q.wh by omega)] at c
   cases c
 ·intro l;obtain⟨f,g,x,y⟩:=Hk l;have p:=k2 Aa;have s:=B Aa;refine⟨λc=> ?_,λc=> ?_⟩
  ·obtain⟨n,-,-,-⟩:=Hk c;rw[a,BP] at n;omega
  ·unfold Al.tur at c;rw[a,a,BR (show¬r.pt j<r.wh by omega),BR (show¬r.pt (j+1)<r.wh by omega)] at c
   cases c
def fanR (ds ss:List Int) (src:Nat) (n:Int) (dn:Bool) (m:Int):Al:=⟨ds,ss,src,mkC m n,mkS m n dn,mkH m n⟩
theorem VK {m n:Int} (h:Gj m n=true):1<=mkG m n∧mkG m n*mkC m n=n*n-m*m∧mkG m n*mkH m n=n*n+m*m:=by
 obtain⟨l,p,q,r,s,t,u,v,w,d⟩:=JG h;obtain⟨⟨c,b⟩,-,⟨k,a⟩⟩:=VJ m n;have j:0<=mkG m n:=Int.natCast_nonneg _
 have i:1<=mkG m n:=by
  rcases Eg (mkG m n) 1 with o|o
  ·have:mkG m n=0:=Aa;rw[this,Int.zero_mul] at a;omega
  ·exact o
 have f:mkC m n=c:=by unfold mkC;rw[b,Int.mul_ediv_cancel_left _ Aa]
 have g:mkH m n=k:=by unfold mkH;rw[a,Int.mul_ediv_cancel_left _ Aa]
 exact⟨i,by rw[f];exact b.symm,by rw[g];exact a.symm⟩
section
variable {ds ss : List Int} {src : Nat} (hp : BI ds.length ss.length ds ss = true) (hs : src < ds.length)
include hp hs
theorem el {n m:Int} (dn:Bool) (h:Gj m n=true):A8 (fanR ds ss src n dn m):=⟨hp,Ug h dn,hs⟩
theorem dM {n m:Int} (dn:Bool) (h:Gj m n=true):Xn (fanR ds ss src n dn m):=by
 have R:=el hp hs dn h;obtain⟨r,s,b,t,u,v,w,x,y,g⟩:=JG h;obtain⟨z,l,p⟩:=VK h;have A:=R.sp R.src
 have B:n*n<=961:=by
  have:=CL b b Aa Aa;omega
 have a: ¬500*((fanR ds ss src n dn m).wh-(fanR ds ss src n dn m).pt src)<(fanR ds ss src n dn m).wh:=by
  show¬500*(mkH m n*ss.getD src 0-mkC m n*ss.getD src 0)<mkH m n*ss.getD src 0;rw[<-Int.sub_mul,<-Ga];intro c;have i:=Int.lt_of_mul_lt_mul_right c (show 0<=ss.getD src 0 by have:(fanR ds ss src n dn m).ss.getD (fanR ds ss src n dn m).src 0=ss.getD src 0:=rfl;omega)
  have k:=Int.mul_lt_mul_of_pos_left i (show 0<mkG m n by omega)
  rw[Int.mul_left_comm,Int.mul_sub,l,p] at k;omega
 refine⟨R,λj q=> ?_⟩;obtain⟨-,-,d,f⟩:=Hk q;refine⟨λc=> ?_,λc=> ?_⟩
 ·rw[c] at d;exact a d
 ·rw[c] at f;exact a f
theorem dL {n m:Int} (dn:Bool) (h:Gj m n=true) (g:Gj (m+1) n=true):YJ (fanR ds ss src n dn m) (fanR ds ss src n dn (m+1)):=by
 have c:=dM hp hs dn h;have d:=dM hp hs dn g;obtain⟨A,B,l,C,t,E,u,F,G,f⟩:=JG h;obtain⟨H,I,J,K,L,M,N,O,Q,v⟩:=JG g;obtain⟨R,w,x⟩:=VK h;obtain⟨S,k2,k3⟩:=VK g
 have z:n*n<=961:=by
  have:=CL l l Aa Aa;omega
 have k:(m+1)*(m+1)=m*m+2*m+1:=by rw[Int.add_mul,Int.mul_add];omega
 have s:1000*(mkC (m+1) n*mkH m n)<=994*(mkC m n*mkH (m+1) n):=by
  have y:=Int.mul_pos (show 0<mkG m n by omega) (show 0<mkG (m+1) n by omega)
  refine Int.le_of_mul_le_mul_left ?_ y;have e1:mkG m n*mkG (m+1) n*(1000*(mkC (m+1) n*mkH m n))=1000*((mkG (m+1) n*mkC (m+1) n)*(mkG m n*mkH m n)):=by ac_rfl
  have e2:mkG m n*mkG (m+1) n*(994*(mkC m n*mkH (m+1) n))=994*((mkG m n*mkC m n)*(mkG (m+1) n*mkH (m+1) n)):=by ac_rfl
  rw[e1,e2,w,x,k2,k3,k];obtain⟨D,p⟩: ∃D,m*m+2*m+1=D:=⟨_,rfl⟩;rw[p];obtain⟨a,q⟩: ∃a,n*n=a:=⟨_,rfl⟩;obtain⟨b,r⟩: ∃b,m*m=b:=⟨_,rfl⟩;rw[q] at z u f;rw[r] at p t;rw[q,r,ZV a b D,ZV a D b];have T:a*D=a*b+a*(2*m+1):=by rw[<-Int.mul_add];congr 1;omega
  have U:=Gq (show 3<=2*m+1 by omega) (show 0<=a by omega)
  have V:=Du (show 0<=b by omega) (show 0<=D by omega)
  have W:=Gq (show a<=961 by omega) (show 0<=a by omega)
  rw[Int.mul_comm D a,Int.mul_comm D b,Int.mul_comm b a];generalize a*D=X at*;generalize a*b=Y at*;generalize b*D=Z at*;generalize a*a=z4 at*;generalize a*(2*m+1)=z5 at*;omega
 exact⟨c,d,rfl,λj i=>(QH c.ok d.ok rfl rfl s i).1,λj i=>(QH c.ok d.ok rfl rfl s i).2⟩
end
def Ds (n lo hi:Int):Bool:=inR n 2 1000 && (inR hi 1 (n-1) && (inR lo 1 hi && decide (n*n+hi*hi<=1000)))
theorem J7 {n lo hi:Int} (h:Ds n lo hi=true) {m:Int} (g:lo<=m) (c:m<=hi):Gj m n=true:=by
 unfold Ds at h;simp only[CD,BP] at h;obtain⟨d,a,b,f⟩:=h;have a:=Ac a;have b:=Ac b;have i:=CL c c Aa Aa;unfold Gj;rw[d,CN Aa Aa,BC Aa];rfl
theorem Gf {n lo hi:Int} (h:Ds n lo hi=true):1<=lo∧lo<=hi∧hi<n∧n<=31:=by
 have b:=JG (J7 h (m:=hi) (by
  unfold Ds at h;simp only[CD] at h;exact(Ac h.2.2.1).2) (Int.le_refl _))
 unfold Ds at h;simp only[CD] at h;have a:=Ac h.2.2.1;omega
def fvL (ρ:Int->Al) (lo:Int) (steps:Nat) (knot dist:Int):Nat->Option (List Int)
 |0=>some []
 |k+1=>match fvL ρ lo steps knot dist k with
  |none=>none
  |some L=>match dY (ρ (lo+(k:Int))) (ρ (lo+(k:Int)+1)) steps knot dist with
   |none=>none
   |some v=>some (L++ [v])
theorem Zr {ρ:Int->Al} {lo:Int} {a:Nat} {c b:Int} {k:Nat} (h:fvL ρ lo a c b k=none): ∀n,k<=n->fvL ρ lo a c b n=none:=by
 intro n d
 induction n with
 |zero=>obtain rfl:k=0:=Aa;exact h
 |succ n ih=>
  by_cases e:k=n+1
  ·exact e▸h
  ·simp only[fvL];rw[ih Aa]
def H4 (lo:Int) (L:List Int):Nat->List Int
 |0=> []
 |k+1=>if L.getD k 0=0 then H4 lo L k else H4 lo L k++ [lo+(k:Int)]
theorem Nh {lo:Int} {L:List Int} (c:1<=lo) (d:lo<=100): ∀k,k<=100->(H4 lo L k).length<=k∧ ∀x∈H4 lo L k,1<=x∧x<=200
 |0,_=>⟨Cp _,λ_ h=>by cases h⟩
 |k+1,hk=>by
  obtain⟨f,b⟩:=Nh (L:=L) c d k Aa;unfold H4
  split
  ·exact⟨by omega,b⟩
  ·refine⟨by simp;omega,λx a=> ?_⟩
   rw[List.mem_append] at a;rcases a with a|a
   ·exact b x a
   ·rw[DD] at a;omega
def ocC (ρ:Int->Al) (kn:Nat) (n lo hi steps knot dist:Int):Int:=
 if Ds n lo hi=false then 1 else if inR steps 0 100=false then 2 else if(inR knot 0 ((kn:Int)-1) && inR dist 0 1000000000000)=false then 2
 else match fvL ρ lo steps.toNat knot dist (hi-lo).toNat with|none=>3|some _=>0
def ocV (ρ:Int->Al) (n lo hi steps knot dist:Int):List Int:=
 match fvL ρ lo steps.toNat knot dist (hi-lo).toNat with|none=> []|some L=>L
def ocL (ρ:Int->Al) (kn:Nat) (n lo hi steps knot dist:Int):List Int:=
 if ocC ρ kn n lo hi steps knot dist=0 then H4 lo (ocV ρ n lo hi steps knot dist) (hi-lo).toNat else []
theorem H8:(prog.info? 32).map (λi=>(i.zero.map (·.cells.size),i.size,i.bytes))=some (some 3,3,24):=We51ceQ
theorem Us (w:World) (a b c:Int) (e:TypeId):Rd (w.alloc (.cells (Ziii a b c) e)) (some ⟨w,0,none⟩) (1*3) (ints [a,b,c]):=
 (Br w e (Ziii a b c)).rd rfl (λi hi=>by
  obtain rfl|rfl|rfl:i=0∨i=1∨i=2:=Aa
  all_goals rfl)
def fdL (n:Int) (dn:Bool) (lo:Int):Nat->List Int
 |0=> []
 |k+1=>fdL n dn lo k++ [mkC (lo+(k:Int)) n,mkS (lo+(k:Int)) n dn,mkH (lo+(k:Int)) n]
theorem IN (n:Int) (dn:Bool) (lo:Int): ∀k,(fdL n dn lo k).length=k*3
 |0=>rfl
 |k+1=>by unfold fdL;rw[Dy,IN n dn lo k];simp only[Gt,List.length_nil];omega
theorem LI (n:Int) (dn:Bool) (lo:Int): ∀ {k i:Nat},i<k->(fdL n dn lo k).getD (i*3) 0=mkC (lo+(i:Int)) n∧(fdL n dn lo k).getD (i*3+1) 0=mkS (lo+(i:Int)) n dn∧(fdL n dn lo k).getD (i*3+2) 0=mkH (lo+(i:Int)) n
 |0,_,h=>by omega
 |k+1,i,h=>by
  have a:=IN n dn lo k;unfold fdL
  by_cases e:i=k
  ·subst e;rw[DE,DE,DE,List.getElem?_append_right Aa,List.getElem?_append_right Aa,List.getElem?_append_right Aa,a,show i*3-i*3=0 by omega,show i*3+1-i*3=1 by omega,show i*3+2-i*3=2 by omega]
   exact⟨rfl,rfl,rfl⟩
  ·have:=LI n dn lo (k:=k) (i:=i) Aa;rw[DE,DE,DE,List.getElem?_append_left Aa,List.getElem?_append_left Aa,List.getElem?_append_left Aa,<-DE,<-DE,<-DE];exact this
theorem PM (n lo hi:Int) (w:World):(GK 317 (Ziii n lo hi) w (.bool (Ds n lo hi)):Prop):=by
 have a:=λW=>As n 2 1000 W;have c:=λW=>As hi 1 (n-1) W;have d:=λW=>As lo 1 hi W;rcases F5 (inR n 2 1000) with h1|h1
 rotate_left
 ·have hv:Hid (Ds n lo hi=false):=by unfold Hid Ds;rw[h1];rfl
  rw[h1] at a;clear c d h1
  go_enter func317,ntmps317
  go_wp2_with (first|(go_at_call 73;(with_reducible refine(a _).mono ?_);rintro e b ⟨rfl,rfl⟩))
  go_ret;exact⟨by rw[hv.out];rfl,rfl⟩
 have f:=Ac h1;have m:=Bg (n-1);rcases F5 (inR hi 1 (n-1)) with h2|h2
 rotate_left
 ·have hv:Hid (Ds n lo hi=false):=by unfold Hid Ds;rw[h1,h2];rfl
  rw[h1] at a;rw[h2] at c;clear d h1 h2
  go_enter func317,ntmps317
  go_wp2_with (first|(go_at_call 73;(with_reducible refine(a _).mono ?_);rintro e b ⟨rfl,rfl⟩)|(go_at_call 73;(with_reducible refine(c _).mono ?_);rintro e b ⟨rfl,rfl⟩))
  go_ret;exact⟨by rw[hv.out];rfl,rfl⟩
 have l:=Ac h2;rcases F5 (inR lo 1 hi) with h3|h3
 rotate_left
 ·have hv:Hid (Ds n lo hi=false):=by unfold Hid Ds;rw[h1,h2,h3];rfl
  rw[h1] at a;rw[h2] at c;rw[h3] at d;clear h1 h2 h3
  go_enter func317,ntmps317
  go_wp2_with (first|(go_at_call 73;(with_reducible refine(a _).mono ?_);rintro e b ⟨rfl,rfl⟩)|(go_at_call 73;(with_reducible refine(c _).mono ?_);rintro e b ⟨rfl,rfl⟩)|(go_at_call 73;(with_reducible refine(d _).mono ?_);rintro e b ⟨rfl,rfl⟩))
  go_ret;exact⟨by rw[hv.out];rfl,rfl⟩
 have hv:Hid (Ds n lo hi=decide (n*n+hi*hi<=1000)):=by unfold Hid Ds;rw[h1,h2,h3];simp
 have g:=CL f.2 f.2 Aa Aa;have i:=CL (show hi<=1000 by omega) (show hi<=1000 by omega) Aa Aa
 have j:=Du (show 0<=n by omega) (show 0<=n by omega)
 have k:=Du (show 0<=hi by omega) (show 0<=hi by omega)
 have p:=Bg (n*n);have q:=Bg (hi*hi);have r:=Bg (n*n+hi*hi);rw[h1] at a;rw[h2] at c;rw[h3] at d;clear h1 h2 h3 g i j k
 go_enter func317,ntmps317
 go_wp2_with (first|(go_at_call 73;(with_reducible refine(a _).mono ?_);rintro e b ⟨rfl,rfl⟩)|(go_at_call 73;(with_reducible refine(c _).mono ?_);rintro e b ⟨rfl,rfl⟩)|(go_at_call 73;(with_reducible refine(d _).mono ?_);rintro e b ⟨rfl,rfl⟩))
 go_ret;exact⟨by rw[hv.out];rfl,rfl⟩
theorem P8 (n lo hi:Int) (w:World):(GK 262 (Ziii n lo hi) w (.bool (Ds n lo hi)):Prop):=by
 have a:=λW=>Ay n 2 1000 W;have c:=λW=>Ay hi 1 (n-1) W;have d:=λW=>Ay lo 1 hi W;rcases F5 (inR n 2 1000) with h1|h1
 rotate_left
 ·have hv:Hid (Ds n lo hi=false):=by unfold Hid Ds;rw[h1];rfl
  rw[h1] at a;clear c d h1
  go_enter func262,ntmps262
  go_wp2_with (first|(go_at_call 84;(with_reducible refine(a _).mono ?_);rintro e b ⟨rfl,rfl⟩))
  go_ret;exact⟨by rw[hv.out];rfl,rfl⟩
 have f:=Ac h1;have m:=Bg (n-1);rcases F5 (inR hi 1 (n-1)) with h2|h2
 rotate_left
 ·have hv:Hid (Ds n lo hi=false):=by unfold Hid Ds;rw[h1,h2];rfl
  rw[h1] at a;rw[h2] at c;clear d h1 h2
  go_enter func262,ntmps262
  go_wp2_with (first|(go_at_call 84;(with_reducible refine(a _).mono ?_);rintro e b ⟨rfl,rfl⟩)|(go_at_call 84;(with_reducible refine(c _).mono ?_);rintro e b ⟨rfl,rfl⟩))
  go_ret;exact⟨by rw[hv.out];rfl,rfl⟩
 have l:=Ac h2;rcases F5 (inR lo 1 hi) with h3|h3
 rotate_left
 ·have hv:Hid (Ds n lo hi=false):=by unfold Hid Ds;rw[h1,h2,h3];rfl
  rw[h1] at a;rw[h2] at c;rw[h3] at d;clear h1 h2 h3
  go_enter func262,ntmps262
  go_wp2_with (first|(go_at_call 84;(with_reducible refine(a _).mono ?_);rintro e b ⟨rfl,rfl⟩)|(go_at_call 84;(with_reducible refine(c _).mono ?_);rintro e b ⟨rfl,rfl⟩)|(go_at_call 84;(with_reducible refine(d _).mono ?_);rintro e b ⟨rfl,rfl⟩))
  go_ret;exact⟨by rw[hv.out];rfl,rfl⟩
 have hv:Hid (Ds n lo hi=decide (n*n+hi*hi<=1000)):=by unfold Hid Ds;rw[h1,h2,h3];simp
 have g:=CL f.2 f.2 Aa Aa;have i:=CL (show hi<=1000 by omega) (show hi<=1000 by omega) Aa Aa
 have j:=Du (show 0<=n by omega) (show 0<=n by omega)
 have k:=Du (show 0<=hi by omega) (show 0<=hi by omega)
 have p:=Bg (n*n);have q:=Bg (hi*hi);have r:=Bg (n*n+hi*hi);rw[h1] at a;rw[h2] at c;rw[h3] at d;clear h1 h2 h3 g i j k
 go_enter func262,ntmps262
 go_wp2_with (first|(go_at_call 84;(with_reducible refine(a _).mono ?_);rintro e b ⟨rfl,rfl⟩)|(go_at_call 84;(with_reducible refine(c _).mono ?_);rintro e b ⟨rfl,rfl⟩)|(go_at_call 84;(with_reducible refine(d _).mono ?_);rintro e b ⟨rfl,rfl⟩))
 go_ret;exact⟨by rw[hv.out];rfl,rfl⟩
def Nz (n lo hi:Int) (dn:Bool) (w:World) (e:Ending) (w':World):Prop:= ∃(A:Option Addr) (c:Nat),e=.returned (.slice A ((hi-lo).toNat+1:Nat) c)∧Rd w' A (((hi-lo).toNat+1)*3) (ints (fdL n dn lo ((hi-lo).toNat+1)))∧Below w w w'
theorem QD {n lo hi:Int} {dn:Bool} {w w':World} {A:Option Addr} {c:Nat} (h:Rd w' A (((hi-lo).toNat+1)*3) (ints (fdL n dn lo ((hi-lo).toNat+1)))) (b:Below w w w'):Nz n lo hi dn w (.returned (.slice A ((hi-lo).toNat+1:Nat) c)) w':=⟨A,c,rfl,h,b⟩
theorem XF (n lo hi:Int) (dn:Bool) (w:World) (t:Ds n lo hi=true):
  Calls prog 282 #[ZI n,ZI lo,ZI hi,.bool dn] w (Nz n lo hi dn w):=by
 have Y:=Gf t;have l:=λ(k:Nat) (H:lo+(k:Int)<=hi) (W:World)=>Gi (lo+(k:Int)) n dn W (J7 t Aa H);have d:=λ(X:World)=> @QD n lo hi dn w X;obtain⟨N,F⟩: ∃N,(hi-lo).toNat+1=N:=⟨_,rfl⟩;have j:hi=lo+(N:Int)-1:=Aa;have S:N<=31:=Aa;rw[F] at d;have p:=Ai d;have g:=Ai j;clear F t d j;unfold Xp at l
 go_enter func282,ntmps282
 go_wp2_with fail
 go_loopw [9,10] (λv i wr=> ∃(k:Nat) (h:Hd),k<=N∧i=.int .i64 (lo+(k:Int))∧v=.slice h.A h.n h.c∧AR wr w.heap.size 3 h (ints (fdL n dn lo k))∧Below w w wr) (λ_ i _=>(hi+1-intOf i).toNat)
 case atStart=>exact⟨0,⟨none,0,0⟩,AZ _,by simp,rfl,AR.nil _ _ _,AP _ _⟩
 case round=>
  obtain⟨k,⟨A,m,c⟩,H,rfl,rfl,O,b⟩:=hrel
  by_cases U:k<N
  ·have a:lo+(k:Int)<=hi:=by have:=g.out;omega
   have u:m=k:=by have h:=O.len;unfold ints at h;rw[List.length_map,IN] at h;simp only at h;omega
   have s:m+1<=1099511627776:=Aa;have f:=l k a wr;have J:Hid (fdL n dn lo (k+1)=fdL n dn lo k++ [mkC (lo+(k:Int)) n,mkS (lo+(k:Int)) n dn,mkH (lo+(k:Int)) n]):=rfl;have u1:IntKind.i64.wrap (lo+(k:Int)+1)=lo+((k+1:Nat):Int):=by rw[show lo+((k+1:Nat):Int)=lo+(k:Int)+1 by omega];exact Ff _ Aa
   generalize mkC (lo+(k:Int)) n=x at*;generalize mkS (lo+(k:Int)) n dn=y at*;generalize mkH (lo+(k:Int)) n=z at*;clear l u
   go_wp2_with fail
   refine f.mono ?_;rintro e C ⟨rfl,E⟩;clear f;replace b:=An b E;replace O:=O.below E;have Z:=b.size;have M:=Us C x y z 32;have D:=O.below ((AP _ C).alloc Bk (.cells (Ziii x y z) 32));have r:Below w w (C.alloc (.cells (Ziii x y z) 32)):=Ax;have B:=r.size
   go_wp2_with (at_builtin;refine Aj rfl _ _ 254 rfl 32 3 24 underlying254 H8 Ah w.heap.size ⟨A,m,c⟩ _ rfl D _ 1 1 (ints [x,y,z]) rfl M (Ao _) s Ah B ?_;intro G wg I V R T;have K:=Ai I;clear I)
   have Q:=r.grown R r.size (λq e=>by have:=(D.rowlt q e).1;omega)
   go_roundw
   case rel=>exact⟨k+1,G,by omega,by first|rfl|(congr 1;omega),rfl,by rw[J.out];unfold ints;rw[List.map_append];exact V,Q⟩
   case measure=>simp[intOf];omega
  ·obtain rfl:k=N:=Aa;have a: ¬lo+(k:Int)<=hi:=by have:=g.out;omega
   have u:m=k:=by have h:=O.len;unfold ints at h;rw[List.length_map,IN] at h;simp only at h;omega
   subst u;have L:=Ai O.rd;clear O l;go_wp2;go_ret;exact p.out wr L.out b
theorem Vu (n lo hi:Int) (dn:Bool) (w:World) (C:Ds n lo hi=true):
  Calls prog 263 #[ZI n,ZI lo,ZI hi,.bool dn] w (Nz n lo hi dn w):=by
 have hb:=Gf C;have p:=λ(k:Nat) (D:lo+(k:Int)<=hi) (W:World)=>C4 (lo+(k:Int)) n dn W;have r:=λ(k:Nat) (D:lo+(k:Int)<=hi)=>J7 C (m:=lo+(k:Int)) Aa D;have f:=λ(w':World)=> @QD n lo hi dn w w';obtain⟨N,R⟩: ∃N,(hi-lo).toNat+1=N:=⟨_,rfl⟩;have j:hi=lo+(N:Int)-1:=Aa;have ab:N<=31:=Aa;rw[R] at f;have s:=Ai f;have g:=Ai j;clear R C f j;unfold YB Xp at p
 go_enter func263,ntmps263
 go_upto_region 2 with fail
 generalize Q:w.alloc _=w0;obtain⟨_,K,hS⟩:=bJ Q;clear Q;clear hS;generalize(some (⟨w,0,none⟩:Addr))=X
 go_wp2_with fail
 go_loopw [9,10] (λv i wr=> ∃(k:Nat) (h:Hd),k<=N∧i=.int .i64 (lo+(k:Int))∧v=.slice h.A h.n h.c∧AR wr w.heap.size 3 h (ints (fdL n dn lo k))∧Below w w wr) (λ_ i _=>(hi+1-intOf i).toNat)
 case atStart=>exact⟨0,⟨X,0,0⟩,AZ _,by simp,rfl,AR.empty _ _ _ _,K⟩
 case round=>
  clear K;obtain⟨k,⟨A,m,c⟩,D,rfl,rfl,O,b⟩:=hrel
  by_cases ae:k<N
  ·have a:lo+(k:Int)<=hi:=by have:=g.out;omega
   have E:m=k:=by have h:=O.len;unfold ints at h;rw[List.length_map,IN] at h;simp only at h;omega
   have B:m+1<=1099511627776:=Aa;have d:=p k a wr;rw[AA (r k a)] at d;have T:Hid (fdL n dn lo (k+1)=fdL n dn lo k++ [mkC (lo+(k:Int)) n,mkS (lo+(k:Int)) n dn,mkH (lo+(k:Int)) n]):=rfl;have u1:IntKind.i64.wrap (lo+(k:Int)+1)=lo+((k+1:Nat):Int):=by rw[show lo+((k+1:Nat):Int)=lo+(k:Int)+1 by omega];exact Ff _ Aa
   generalize mkC (lo+(k:Int)) n=x at*;generalize mkS (lo+(k:Int)) n dn=y at*;generalize mkH (lo+(k:Int)) n=z at*;clear p r E
   go_wp2_with fail
   refine d.mono ?_;rintro e l ⟨rfl,L⟩;clear d;replace b:=An b L;replace O:=O.below L;have hz:=b.size;have t:=Br l 32 (Ziii x y z);have I:=O.below ((AP _ l).alloc Bk (.cells (Ziii x y z) 32));have M:Below w w (l.alloc (.cells (Ziii x y z) 32)):=Ax
   go_upto_region 6 with fail
   generalize l.alloc _=H at t I M⊢;generalize l.heap.size=q2 at t⊢;have e2:=t.cell;have af:=M.size;have Y:=Us H x y z 32;have J:=I.below ((AP _ H).alloc Bk (.cells (Ziii x y z) 32));have u:Below w w (H.alloc (.cells (Ziii x y z) 32)):=Ax;have F:=u.size
   go_wp2_with (at_builtin;refine Aj rfl _ _ 254 rfl 32 3 24 underlying254 H8 Ah w.heap.size ⟨A,m,c⟩ _ rfl J _ 1 1 (ints [x,y,z]) rfl Y (Ao _) B Ah F ?_;intro G wg S oG gg ad;have U:=Ai S;clear S)
   have Z:=u.grown gg u.size (λq e=>by have:=(J.rowlt q e).1;omega)
   go_roundw
   case rel=>exact⟨k+1,G,by omega,by first|rfl|(congr 1;omega),rfl,by rw[T.out];unfold ints;rw[List.map_append];exact oG,Z⟩
   case measure=>simp[intOf];omega
  ·obtain rfl:k=N:=Aa;have a: ¬lo+(k:Int)<=hi:=by have:=g.out;omega
   have E:m=k:=by have h:=O.len;unfold ints at h;rw[List.length_map,IN] at h;simp only at h;omega
   subst E;have V:=Ai O.rd;clear O p r;go_wp2;go_ret;exact s.out wr V.out b
