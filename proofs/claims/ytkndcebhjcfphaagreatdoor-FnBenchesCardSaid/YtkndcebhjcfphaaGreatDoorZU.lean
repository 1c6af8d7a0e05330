import Derived.Test.YtkndcebhjcfphaaGreatDoorZJ
import Derived.Test.YtkndcebhjcfphaaGreatDoorZL
import Derived.Test.YtkndcebhjcfphaaGreatDoorZT
namespace Go.Proofs.YtkndcebhjcfphaaGreatDoor
open Go.RowKit Go.Proofs.Tryz
set_option maxRecDepth 100000
set_option maxHeartbeats 4000000
set_option linter.all false
theorem M5 (l:List AU):(BF l).length=2*l.length:=by
 induction l with
 |nil=>rfl
 |cons y t ih=>
  have:BF (y::t)=y.lo::y.hi::BF t:=rfl;rw[this,Gt,Gt,Gt,ih];omega
theorem Q0 (l:List AU) (y:AU):BF (l++ [y])=BF l++ [y.lo,y.hi]:=by unfold BF;simp
def Ej (us vs:List Int):Nat->Int
 |0=>0
 |k+1=>Ej us vs k+min (us.getD (k*2) 0) (vs.getD (k*2) 0)
def Ei (us vs:List Int):Nat->Int
 |0=>0
 |k+1=>Ei us vs k+max (us.getD (k*2+1) 0) (vs.getD (k*2+1) 0)
theorem NI {us vs a b:List Int}: ∀k,k*2<=us.length->k*2<=vs.length->Ej (us++a) (vs++b) k=Ej us vs k∧Ei (us++a) (vs++b) k=Ei us vs k
 |0,_,_=>⟨rfl,rfl⟩
 |k+1,h1,h2=>by
  obtain⟨f,j⟩:=NI (us:=us) (vs:=vs) (a:=a) (b:=b) k Aa Aa
  have e: ∀(c d:List Int) (i:Nat),i<c.length->(c++d).getD i 0=c.getD i 0:=λc d i h=>by
   rw[DE,List.getElem?_append_left h,<-DE]
  unfold Ej Ei;rw[f,j,e us a _ Aa,e vs b _ Aa,e us a _ Aa,e vs b _ Aa];exact⟨rfl,rfl⟩
theorem Qh {l m:List AU} {a b:AU} {n:Nat} (i:l.length=n) (j:m.length=n):
  Ej (BF (l++ [a])) (BF (m++ [b])) (n+1)=Ej (BF l) (BF m) n+min a.lo b.lo∧Ei (BF (l++ [a])) (BF (m++ [b])) (n+1)=Ei (BF l) (BF m) n+max a.hi b.hi:=by
 have k:=M5 l;have p:=M5 m;rw[Q0,Q0];obtain⟨d,f⟩:=NI (us:=BF l) (vs:=BF m) (a:= [a.lo,a.hi]) (b:= [b.lo,b.hi]) n Aa Aa
 have e: ∀(c:List Int) (u v:Int),c.length=n*2->(c++ [u,v]).getD (n*2) 0=u∧(c++ [u,v]).getD (n*2+1) 0=v:=λc u v h=>by
  rw[DE,DE,List.getElem?_append_right Aa,List.getElem?_append_right Aa,h,Nat.sub_self,show n*2+1-n*2=1 by omega]
  exact⟨rfl,rfl⟩
 show Ej (BF l++ [a.lo,a.hi]) (BF m++ [b.lo,b.hi]) n+min ((BF l++ [a.lo,a.hi]).getD (n*2) 0) ((BF m++ [b.lo,b.hi]).getD (n*2) 0)=_∧Ei (BF l++ [a.lo,a.hi]) (BF m++ [b.lo,b.hi]) n+max ((BF l++ [a.lo,a.hi]).getD (n*2+1) 0) ((BF m++ [b.lo,b.hi]).getD (n*2+1) 0)=_;rw[d,f,(e _ a.lo a.hi Aa).1,(e _ b.lo b.hi Aa).1,(e _ a.lo a.hi Aa).2,(e _ b.lo b.hi Aa).2];exact⟨rfl,rfl⟩
theorem Ns {r:Al} {n:Nat} {x:En} {l:List AU} (h:r.tr (n+1)=some (x,l)): ∃b a y,r.tr n=some (b,a)∧r.step b=some y∧x=y.st∧l=a++ [y]:=by
 simp only[Al.tr] at h
 split at h
 ·cases h
 ·next b a e=>
  split at h
  ·cases h
  ·next y e2=>
   simp only[Gs,Prod.mk.injEq] at h;exact⟨b,a,y,e,e2,h.1.symm,h.2.symm⟩
theorem A8.step_add {r:Al} (R:A8 r) {x:En} (X:Jt r x) {y:AU} (h:r.step x=some y):y.st.lo=x.lo+y.lo∧y.st.hi=x.hi+y.hi∧0<=y.lo∧0<=y.hi∧y.lo<=3500000000000000∧y.hi<=3500000000000000:=by
 unfold Al.step at h
 split at h
 ·injection h with h;subst h;simp only;omega
 ·next a b e=>
  obtain⟨rfl,c⟩:=R.nxt_in X e;have:=R.pa_bd X.k c X.can
  split at h
  ·split at h
   ·injection h with h;subst h;exact⟨rfl,rfl,this.1,this.2.2.1,this.2.1,this.2.2.2⟩
   ·injection h with h;subst h;exact⟨rfl,rfl,this.1,this.2.2.1,this.2.1,this.2.2.2⟩
  ·cases h
theorem IQ {x:Int}:isV x=true↔ -1000000000000<=x∧x<=1000000000000:=⟨Ac,λh=>CN h.1 h.2⟩
theorem bN {r q:Al} (R:A8 r) (Q:A8 q): ∀n x l y m,r.tr n=some (x,l)->q.tr n=some (y,m)->
  0<=Ej (BF l) (BF m) n∧Ej (BF l) (BF m) n<=x.lo∧0<=Ei (BF l) (BF m) n∧Ei (BF l) (BF m) n<=x.hi+y.hi:=by
 intro n
 induction n with
 |zero=>
  intro x l y m c d;simp only[Al.tr,Gs,Prod.mk.injEq] at c d;obtain⟨rfl,rfl⟩:=c;obtain⟨rfl,rfl⟩:=d
  simp[Ej,Ei,Al.first]
 |succ n ih=>
  intro x l y m c d;obtain⟨v,p,a,e1,t,rfl,rfl⟩:=Ns c;obtain⟨z,s,b,e2,u,rfl,rfl⟩:=Ns d;obtain⟨E,F,G,H⟩:=ih _ _ _ _ e1 e2;obtain⟨X,j,-,-⟩:=R.tr_ok n v p e1;obtain⟨Y,k,-,-⟩:=Q.tr_ok n z s e2;have A:=R.step_add X t;have D:=Q.step_add Y u;obtain⟨f,i⟩:=Qh (a:=a) (b:=b) j k;rw[f,i];omega
theorem YJ.lim {r q:Al} (N:YJ r q) {n:Nat} (c:n<=100) {x y:En} {l m:List AU} (a:r.tr n=some (x,l)) (b:q.tr n=some (y,m)):
  (0<=Ej (BF l) (BF m) n∧Ej (BF l) (BF m) n<=1000000000000)∧0<=Ei (BF l) (BF m) n∧Ei (BF l) (BF m) n<=1000000000000:=by
 have h:=bN N.fr.ok N.fq.ok n x l y m a b;have s:=N.sum c a b;have X:=(N.fr.ok.tr_ok n x l a).1;have:=IQ.1 X.lo;omega
theorem aO {r:Al} {n:Nat} {x:En} {l:List AU} (h:r.tr n=some (x,l)): ∀k,k<=n-> ∃b a,r.tr k=some (b,a)∧ ∃t,l=a++t:=by
 intro k f
 induction n generalizing x l with
 |zero=>
  obtain rfl:k=0:=Aa;exact⟨x,l,h,[],by simp⟩
 |succ n ih=>
  by_cases e:k=n+1
  ·exact⟨x,l,e▸h,[],by simp⟩
  ·obtain⟨b,a,y,e1,i,rfl,rfl⟩:=Ns h;obtain⟨d,c,e2,t,rfl⟩:=ih e1 Aa;exact⟨d,c,e2,t++ [y],by simp⟩
theorem YJ.limk {r q:Al} (N:YJ r q) {n:Nat} (G:n<=100) {x y:En} {l m:List AU} (i:r.tr n=some (x,l)) (j:q.tr n=some (y,m)) (k:Nat) (f:k<=n):
  (0<=Ej (BF l) (BF m) k∧Ej (BF l) (BF m) k<=1000000000000)∧0<=Ei (BF l) (BF m) k∧Ei (BF l) (BF m) k<=1000000000000:=by
 obtain⟨v,c,e1,t,rfl⟩:=aO i k f;obtain⟨z,d,e2,u,rfl⟩:=aO j k f;have E:=(N.fr.ok.tr_ok k v c e1).2.1;have F:=(N.fq.ok.tr_ok k z d e2).2.1;have A:=M5 c;have D:=M5 d;have e: ∀a b:List AU,BF (a++b)=BF a++BF b:=λa b=>by unfold BF;simp
 obtain⟨p,s⟩:=NI (us:=BF c) (vs:=BF d) (a:=BF t) (b:=BF u) k Aa Aa;rw[e,e,p,s];exact N.lim Aa e1 e2
theorem ga {r:Al} (R:A8 r) {n:Nat} {x:En} {l:List AU} (h:r.tr n=some (x,l)) (i:Nat):0<=(BF l).getD i 0∧(BF l).getD i 0<=3500000000000000:=by
 induction n generalizing x l with
 |zero=>
  simp only[Al.tr,Gs,Prod.mk.injEq] at h;obtain⟨rfl,rfl⟩:=h
  simp[BF]
 |succ n ih=>
  obtain⟨f,a,y,e1,b,rfl,rfl⟩:=Ns h;have j:=R.step_add (R.tr_ok n f a e1).1 b;have hi:=ih e1;rw[Q0,DE];rcases Nat.lt_or_ge i (BF a).length with c|c
  ·rw[List.getElem?_append_left c,<-DE];exact hi
  ·rw[List.getElem?_append_right c];rcases(show i-(BF a).length=0∨i-(BF a).length=1∨2<=i-(BF a).length by omega) with d|d|d
   ·rw[d];simp;omega
   ·rw[d];simp;omega
   ·rw[List.getElem?_eq_none Bq];simp
def vdV (x y:En) (same:Bool) (lo hi knot dist:Int):Int:=
 if same=false then 1 else if¬(x.k:Int)=knot∨inR dist lo hi=false then 0 else if(x.hi<dist∧dist<y.lo)∨(y.hi<dist∧dist<x.lo) then 2 else 1
def dY (r q:Al) (n:Nat) (knot dist:Int):Option Int:=
 match r.tr n,q.tr n with
 |some (x,l),some (y,m)=>some (vdV x y (decide (C2 l=C2 m)) (Ej (BF l) (BF m) n) (Ei (BF l) (BF m) n) knot dist)
 |_,_=>none
theorem ef {l m:List AU} {a b:AU} (h:l.length=m.length):decide (C2 (l++ [a])=C2 (m++ [b]))=(decide (C2 l=C2 m) && decide (a.ev=b.ev)):=by
 have e: ∀(l:List AU) (a:AU),C2 (l++ [a])=C2 l++ [a.ev]:=λl a=>by unfold C2;simp
 have f:(C2 l).length=(C2 m).length:=by unfold C2;simp[h]
 rw[e,e,<-Bool.decide_and,decide_eq_decide]
 constructor
 ·intro c;have:=List.append_inj c f;exact⟨this.1,by simpa using this.2⟩
 ·rintro⟨c,d⟩;rw[c,d]
theorem ZV (a b d:Int):(a-d)*(a+b)=a*a+a*b-d*a-d*b:=by
 rw[Int.sub_mul,Int.mul_add,Int.mul_add];omega
theorem fQ {k i j f v S:Int} (n:0<i) (q:0<f) (hv:0<v) (r:0<S) (s:1000*(j*i)<=994*(k*f)):
  (k*v<i*S->1000*(j*v)<994*(f*S))∧(499*(f*S)<500*(j*v)->i*S<k*v):=by
 have a:=ME s (show 0<=v by omega)
 have e1:1000*(j*i)*v=1000*((j*v)*i):=by ac_rfl
 have e2:994*(k*f)*v=994*((k*v)*f):=by ac_rfl
 rw[e1,e2] at a;have m:(i*S)*f=(f*S)*i:=by ac_rfl
 constructor
 ·intro c;rcases Eg (1000*(j*v)) (994*(f*S)) with o|o
  ·exact o
  ·exfalso
   have b:=ME o (show 0<=i by omega)
   have d:=Int.mul_lt_mul_of_pos_right c q;rw[m] at d;rw[Ga,Ga 1000] at b;omega
 ·intro c;rcases Eg (i*S) (k*v) with o|o
  ·exact o
  ·exfalso
   have b:=ME o (show 0<=f by omega)
   have d:=Int.mul_lt_mul_of_pos_right c n;rw[m] at b;rw[Ga,Ga 500] at d;have p:=Int.mul_pos (Int.mul_pos q r) n;omega
theorem QH {r q:Al} (R:A8 r) (Q:A8 q) (p:q.ss=r.ss) (b:q.src=r.src) (y:1000*(q.c*r.h)<=994*(r.c*q.h)) {j:Nat} (x:j+1<r.ds.length):
  (r.lev j=true-> ¬q.lev j=true∧ ¬q.tur j=true)∧(q.lev j=true-> ¬r.lev j=true∧ ¬r.tur j=true):=by
 obtain⟨-,-,H,-⟩:=R.dir';obtain⟨-,-,I,-⟩:=Q.dir';have J:=R.sp R.src
 have d: ∀k,k<r.ds.length->(r.pt k<r.wh->1000*q.pt k<994*q.wh)∧(499*q.wh<500*q.pt k->r.wh<r.pt k):=λk m=>by
  have hv:=R.sp m;have:=fQ (v:=r.ss.getD k 0) (S:=r.ss.getD r.src 0) (show 0<r.h by omega) (show 0<q.h by omega) Aa Aa y
  unfold Al.pt Al.wh;rw[p,b];exact this
 obtain⟨A,k2⟩:=d j Aa;obtain⟨F,G⟩:=d (j+1) x;have K:=Q.wh_bd;have a: ∀(z:Al) k,z.can k=decide (z.pt k<z.wh):=λ_ _=>rfl
 constructor
 ·intro n;obtain⟨f,i,D,E⟩:=Hk n;rw[a,BP] at f i;have t:=A f;have u:=F i;refine⟨λc=> ?_,λc=> ?_⟩
  ·obtain⟨-,-,s,-⟩:=Hk c;omega
  ·unfold Al.tur at c;rw[a,a,BC (show q.pt j<q.wh by omega),BC (show q.pt (j+1)<q.wh by omega)] at c
   cases c
 ·intro n;obtain⟨f,i,D,E⟩:=Hk n;have t:=k2 Aa;have u:=G Aa;refine⟨λc=> ?_,λc=> ?_⟩
  ·obtain⟨s,-,-,-⟩:=Hk c;rw[a,BP] at s;omega
  ·unfold Al.tur at c;rw[a,a,BR (show¬r.pt j<r.wh by omega),BR (show¬r.pt (j+1)<r.wh by omega)] at c
   cases c
def fanR (ds ss:List Int) (src:Nat) (n:Int) (dn:Bool) (m:Int):Al:=⟨ds,ss,src,mkC m n,mkS m n dn,mkH m n⟩
theorem VK {m n:Int} (h:Gj m n=true):1<=mkG m n∧mkG m n*mkC m n=n*n-m*m∧mkG m n*mkH m n=n*n+m*m:=by
 obtain⟨q,r,s,t,u,v,x,y,z,d⟩:=JG h;obtain⟨⟨c,b⟩,-,⟨k,a⟩⟩:=VJ m n;have p:0<=mkG m n:=Int.natCast_nonneg _
 have j:1<=mkG m n:=by
  rcases Eg (mkG m n) 1 with o|o
  ·have:mkG m n=0:=Aa;rw[this,Int.zero_mul] at a;omega
  ·exact o
 have f:mkC m n=c:=by unfold mkC;rw[b,Int.mul_ediv_cancel_left _ Aa]
 have i:mkH m n=k:=by unfold mkH;rw[a,Int.mul_ediv_cancel_left _ Aa]
 exact⟨j,by rw[f];exact b.symm,by rw[i];exact a.symm⟩
section
variable {ds ss : List Int} {src : Nat} (hp : BI ds.length ss.length ds ss = true) (hs : src < ds.length)
include hp hs
theorem el {n m:Int} (dn:Bool) (h:Gj m n=true):A8 (fanR ds ss src n dn m):=⟨hp,Ug h dn,hs⟩
theorem dM {n m:Int} (dn:Bool) (h:Gj m n=true):Xn (fanR ds ss src n dn m):=by
 have R:=el hp hs dn h;obtain⟨t,u,b,v,x,y,z,A,D,i⟩:=JG h;obtain⟨E,q,r⟩:=VK h;have F:=R.sp R.src
 have G:n*n<=961:=by
  have:=CL b b Aa Aa;omega
 have a: ¬500*((fanR ds ss src n dn m).wh-(fanR ds ss src n dn m).pt src)<(fanR ds ss src n dn m).wh:=by
  show¬500*(mkH m n*ss.getD src 0-mkC m n*ss.getD src 0)<mkH m n*ss.getD src 0;rw[<-Int.sub_mul,<-Ga];intro c;have k:=Int.lt_of_mul_lt_mul_right c (show 0<=ss.getD src 0 by have:(fanR ds ss src n dn m).ss.getD (fanR ds ss src n dn m).src 0=ss.getD src 0:=rfl;omega)
  have p:=Int.mul_lt_mul_of_pos_left k (show 0<mkG m n by omega)
  rw[Int.mul_left_comm,Int.mul_sub,q,r] at p;omega
 refine⟨R,λj s=> ?_⟩;obtain⟨-,-,d,f⟩:=Hk s;refine⟨λc=> ?_,λc=> ?_⟩
 ·rw[c] at d;exact a d
 ·rw[c] at f;exact a f
theorem dL {n m:Int} (dn:Bool) (h:Gj m n=true) (i:Gj (m+1) n=true):YJ (fanR ds ss src n dn m) (fanR ds ss src n dn (m+1)):=by
 have c:=dM hp hs dn h;have d:=dM hp hs dn i;obtain⟨G,H,q,I,v,J,x,K,M,f⟩:=JG h;obtain⟨N,O,Q,R,S,T,U,V,X,y⟩:=JG i;obtain⟨Y,z,A⟩:=VK h;obtain⟨Z,k2,k3⟩:=VK i
 have F:n*n<=961:=by
  have:=CL q q Aa Aa;omega
 have p:(m+1)*(m+1)=m*m+2*m+1:=by rw[Int.add_mul,Int.mul_add];omega
 have u:1000*(mkC (m+1) n*mkH m n)<=994*(mkC m n*mkH (m+1) n):=by
  have E:=Int.mul_pos (show 0<mkG m n by omega) (show 0<mkG (m+1) n by omega)
  refine Int.le_of_mul_le_mul_left ?_ E;have e1:mkG m n*mkG (m+1) n*(1000*(mkC (m+1) n*mkH m n))=1000*((mkG (m+1) n*mkC (m+1) n)*(mkG m n*mkH m n)):=by ac_rfl
  have e2:mkG m n*mkG (m+1) n*(994*(mkC m n*mkH (m+1) n))=994*((mkG m n*mkC m n)*(mkG (m+1) n*mkH (m+1) n)):=by ac_rfl
  rw[e1,e2,z,A,k2,k3,p];obtain⟨D,r⟩: ∃D,m*m+2*m+1=D:=⟨_,rfl⟩;rw[r];obtain⟨a,s⟩: ∃a,n*n=a:=⟨_,rfl⟩;obtain⟨b,t⟩: ∃b,m*m=b:=⟨_,rfl⟩;rw[s] at F x f;rw[t] at r v;rw[s,t,ZV a b D,ZV a D b];have p4:a*D=a*b+a*(2*m+1):=by rw[<-Int.mul_add];congr 1;omega
  have x1:=Gq (show 3<=2*m+1 by omega) (show 0<=a by omega)
  have x2:=Du (show 0<=b by omega) (show 0<=D by omega)
  have x3:=Gq (show a<=961 by omega) (show 0<=a by omega)
  rw[Int.mul_comm D a,Int.mul_comm D b,Int.mul_comm b a];generalize a*D=z1 at*;generalize a*b=z2 at*;generalize b*D=z3 at*;generalize a*a=z4 at*;generalize a*(2*m+1)=z5 at*;omega
 exact⟨c,d,rfl,λj k=>(QH c.ok d.ok rfl rfl u k).1,λj k=>(QH c.ok d.ok rfl rfl u k).2⟩
end
def Ds (n lo hi:Int):Bool:=inR n 2 1000 && (inR hi 1 (n-1) && (inR lo 1 hi && decide (n*n+hi*hi<=1000)))
theorem J7 {n lo hi:Int} (h:Ds n lo hi=true) {m:Int} (i:lo<=m) (c:m<=hi):Gj m n=true:=by
 unfold Ds at h;simp only[CD,BP] at h;obtain⟨d,a,b,f⟩:=h;have a:=Ac a;have b:=Ac b;have j:=CL c c Aa Aa;unfold Gj;rw[d,CN Aa Aa,BC Aa];rfl
theorem Gf {n lo hi:Int} (h:Ds n lo hi=true):1<=lo∧lo<=hi∧hi<n∧n<=31:=by
 have b:=JG (J7 h (m:=hi) (by
  unfold Ds at h;simp only[CD] at h;exact(Ac h.2.2.1).2) (Int.le_refl _))
 unfold Ds at h;simp only[CD] at h;have a:=Ac h.2.2.1;omega
def fvL (ρ:Int->Al) (lo:Int) (steps:Nat) (knot dist:Int):Nat->Option (List Int)
 |0=>some []
 |k+1=>match fvL ρ lo steps knot dist k with
  |none=>none
  |some L=>match dY (ρ (lo+(k:Int))) (ρ (lo+(k:Int)+1)) steps knot dist with
   |none=>none
   |some v=>some (L++ [v])
theorem Zr {ρ:Int->Al} {lo:Int} {a:Nat} {c b:Int} {k:Nat} (h:fvL ρ lo a c b k=none): ∀n,k<=n->fvL ρ lo a c b n=none:=by
 intro n d
 induction n with
 |zero=>obtain rfl:k=0:=Aa;exact h
 |succ n ih=>
  by_cases e:k=n+1
  ·exact e▸h
  ·simp only[fvL];rw[ih Aa]
def H4 (lo:Int) (L:List Int):Nat->List Int
 |0=> []
 |k+1=>if L.getD k 0=0 then H4 lo L k else H4 lo L k++ [lo+(k:Int)]
theorem Nh {lo:Int} {L:List Int} (c:1<=lo) (d:lo<=100): ∀k,k<=100->(H4 lo L k).length<=k∧ ∀x∈H4 lo L k,1<=x∧x<=200
 |0,_=>⟨Cp _,λ_ h=>by cases h⟩
 |k+1,hk=>by
  obtain⟨f,b⟩:=Nh (L:=L) c d k Aa;unfold H4
  split
  ·exact⟨by omega,b⟩
  ·refine⟨by simp;omega,λx a=> ?_⟩
   rw[List.mem_append] at a;rcases a with a|a
   ·exact b x a
   ·rw[DD] at a;omega
def ocC (ρ:Int->Al) (kn:Nat) (n lo hi steps knot dist:Int):Int:=
 if Ds n lo hi=false then 1 else if inR steps 0 100=false then 2 else if(inR knot 0 ((kn:Int)-1) && inR dist 0 1000000000000)=false then 2
 else match fvL ρ lo steps.toNat knot dist (hi-lo).toNat with|none=>3|some _=>0
def ocV (ρ:Int->Al) (n lo hi steps knot dist:Int):List Int:=
 match fvL ρ lo steps.toNat knot dist (hi-lo).toNat with|none=> []|some L=>L
def ocL (ρ:Int->Al) (kn:Nat) (n lo hi steps knot dist:Int):List Int:=
 if ocC ρ kn n lo hi steps knot dist=0 then H4 lo (ocV ρ n lo hi steps knot dist) (hi-lo).toNat else []
theorem H8:(prog.info? 32).map (λi=>(i.zero.map (·.cells.size),i.size,i.bytes))=some (some 3,3,24):=We51ceQ
theorem Us (w:World) (a b c:Int) (e:TypeId):Rd (w.alloc (.cells (Ziii a b c) e)) (some ⟨w,0,none⟩) (1*3) (ints [a,b,c]):=
 (Br w e (Ziii a b c)).rd rfl (λi hi=>by
  obtain rfl|rfl|rfl:i=0∨i=1∨i=2:=Aa
  all_goals rfl)
def fdL (n:Int) (dn:Bool) (lo:Int):Nat->List Int
 |0=> []
 |k+1=>fdL n dn lo k++ [mkC (lo+(k:Int)) n,mkS (lo+(k:Int)) n dn,mkH (lo+(k:Int)) n]
theorem IN (n:Int) (dn:Bool) (lo:Int): ∀k,(fdL n dn lo k).length=k*3
 |0=>rfl
 |k+1=>by unfold fdL;rw[Dy,IN n dn lo k];simp only[Gt,List.length_nil];omega
theorem LI (n:Int) (dn:Bool) (lo:Int): ∀ {k i:Nat},i<k->(fdL n dn lo k).getD (i*3) 0=mkC (lo+(i:Int)) n∧(fdL n dn lo k).getD (i*3+1) 0=mkS (lo+(i:Int)) n dn∧(fdL n dn lo k).getD (i*3+2) 0=mkH (lo+(i:Int)) n
 |0,_,h=>by omega
 |k+1,i,h=>by
  have a:=IN n dn lo k;unfold fdL
  by_cases e:i=k
  ·subst e;rw[DE,DE,DE,List.getElem?_append_right Aa,List.getElem?_append_right Aa,List.getElem?_append_right Aa,a,show i*3-i*3=0 by omega,show i*3+1-i*3=1 by omega,show i*3+2-i*3=2 by omega]
   exact⟨rfl,rfl,rfl⟩
  ·have:=LI n dn lo (k:=k) (i:=i) Aa;rw[DE,DE,DE,List.getElem?_append_left Aa,List.getElem?_append_left Aa,List.getElem?_append_left Aa,<-DE,<-DE,<-DE];exact this
theorem PM (n lo hi:Int) (w:World):(GK 317 (Ziii n lo hi) w (.bool (Ds n lo hi)):Prop):=by
 have a:=λW=>As n 2 1000 W;have c:=λW=>As hi 1 (n-1) W;have d:=λW=>As lo 1 hi W;rcases jt (inR n 2 1000) with h1|h1
 rotate_left
 ·have hv:Hid (Ds n lo hi=false):=by unfold Hid Ds;rw[h1];rfl
  rw[h1] at a;clear c d h1
  go_enter func317,ntmps317
  go_wp2_with (first|(go_at_call 73;(with_reducible refine(a _).mono ?_);rintro e b ⟨rfl,rfl⟩))
  go_ret;exact⟨by rw[hv.out];rfl,rfl⟩
 have f:=Ac h1;have q:=Bg (n-1);rcases jt (inR hi 1 (n-1)) with h2|h2
 rotate_left
 ·have hv:Hid (Ds n lo hi=false):=by unfold Hid Ds;rw[h1,h2];rfl
  rw[h1] at a;rw[h2] at c;clear d h1 h2
  go_enter func317,ntmps317
  go_wp2_with (first|(go_at_call 73;(with_reducible refine(a _).mono ?_);rintro e b ⟨rfl,rfl⟩)|(go_at_call 73;(with_reducible refine(c _).mono ?_);rintro e b ⟨rfl,rfl⟩))
  go_ret;exact⟨by rw[hv.out];rfl,rfl⟩
 have p:=Ac h2;rcases jt (inR lo 1 hi) with h3|h3
 rotate_left
 ·have hv:Hid (Ds n lo hi=false):=by unfold Hid Ds;rw[h1,h2,h3];rfl
  rw[h1] at a;rw[h2] at c;rw[h3] at d;clear h1 h2 h3
  go_enter func317,ntmps317
  go_wp2_with (first|(go_at_call 73;(with_reducible refine(a _).mono ?_);rintro e b ⟨rfl,rfl⟩)|(go_at_call 73;(with_reducible refine(c _).mono ?_);rintro e b ⟨rfl,rfl⟩)|(go_at_call 73;(with_reducible refine(d _).mono ?_);rintro e b ⟨rfl,rfl⟩))
  go_ret;exact⟨by rw[hv.out];rfl,rfl⟩
 have hv:Hid (Ds n lo hi=decide (n*n+hi*hi<=1000)):=by unfold Hid Ds;rw[h1,h2,h3];simp
 have i:=CL f.2 f.2 Aa Aa;have j:=CL (show hi<=1000 by omega) (show hi<=1000 by omega) Aa Aa
 have k:=Du (show 0<=n by omega) (show 0<=n by omega)
 have m:=Du (show 0<=hi by omega) (show 0<=hi by omega)
 have r:=Bg (n*n);have s:=Bg (hi*hi);have t:=Bg (n*n+hi*hi);rw[h1] at a;rw[h2] at c;rw[h3] at d;clear h1 h2 h3 i j k m
 go_enter func317,ntmps317
 go_wp2_with (first|(go_at_call 73;(with_reducible refine(a _).mono ?_);rintro e b ⟨rfl,rfl⟩)|(go_at_call 73;(with_reducible refine(c _).mono ?_);rintro e b ⟨rfl,rfl⟩)|(go_at_call 73;(with_reducible refine(d _).mono ?_);rintro e b ⟨rfl,rfl⟩))
 go_ret;exact⟨by rw[hv.out];rfl,rfl⟩
theorem P8 (n lo hi:Int) (w:World):(GK 262 (Ziii n lo hi) w (.bool (Ds n lo hi)):Prop):=by
 have a:=λW=>Ay n 2 1000 W;have c:=λW=>Ay hi 1 (n-1) W;have d:=λW=>Ay lo 1 hi W;rcases jt (inR n 2 1000) with h1|h1
 rotate_left
 ·have hv:Hid (Ds n lo hi=false):=by unfold Hid Ds;rw[h1];rfl
  rw[h1] at a;clear c d h1
  go_enter func262,ntmps262
  go_wp2_with (first|(go_at_call 84;(with_reducible refine(a _).mono ?_);rintro e b ⟨rfl,rfl⟩))
  go_ret;exact⟨by rw[hv.out];rfl,rfl⟩
 have f:=Ac h1;have q:=Bg (n-1);rcases jt (inR hi 1 (n-1)) with h2|h2
 rotate_left
 ·have hv:Hid (Ds n lo hi=false):=by unfold Hid Ds;rw[h1,h2];rfl
  rw[h1] at a;rw[h2] at c;clear d h1 h2
  go_enter func262,ntmps262
  go_wp2_with (first|(go_at_call 84;(with_reducible refine(a _).mono ?_);rintro e b ⟨rfl,rfl⟩)|(go_at_call 84;(with_reducible refine(c _).mono ?_);rintro e b ⟨rfl,rfl⟩))
  go_ret;exact⟨by rw[hv.out];rfl,rfl⟩
 have p:=Ac h2;rcases jt (inR lo 1 hi) with h3|h3
 rotate_left
 ·have hv:Hid (Ds n lo hi=false):=by unfold Hid Ds;rw[h1,h2,h3];rfl
  rw[h1] at a;rw[h2] at c;rw[h3] at d;clear h1 h2 h3
  go_enter func262,ntmps262
  go_wp2_with (first|(go_at_call 84;(with_reducible refine(a _).mono ?_);rintro e b ⟨rfl,rfl⟩)|(go_at_call 84;(with_reducible refine(c _).mono ?_);rintro e b ⟨rfl,rfl⟩)|(go_at_call 84;(with_reducible refine(d _).mono ?_);rintro e b ⟨rfl,rfl⟩))
  go_ret;exact⟨by rw[hv.out];rfl,rfl⟩
 have hv:Hid (Ds n lo hi=decide (n*n+hi*hi<=1000)):=by unfold Hid Ds;rw[h1,h2,h3];simp
 have i:=CL f.2 f.2 Aa Aa;have j:=CL (show hi<=1000 by omega) (show hi<=1000 by omega) Aa Aa
 have k:=Du (show 0<=n by omega) (show 0<=n by omega)
 have m:=Du (show 0<=hi by omega) (show 0<=hi by omega)
 have r:=Bg (n*n);have s:=Bg (hi*hi);have t:=Bg (n*n+hi*hi);rw[h1] at a;rw[h2] at c;rw[h3] at d;clear h1 h2 h3 i j k m
 go_enter func262,ntmps262
 go_wp2_with (first|(go_at_call 84;(with_reducible refine(a _).mono ?_);rintro e b ⟨rfl,rfl⟩)|(go_at_call 84;(with_reducible refine(c _).mono ?_);rintro e b ⟨rfl,rfl⟩)|(go_at_call 84;(with_reducible refine(d _).mono ?_);rintro e b ⟨rfl,rfl⟩))
 go_ret;exact⟨by rw[hv.out];rfl,rfl⟩
def Nz (n lo hi:Int) (dn:Bool) (w:World) (e:Ending) (w':World):Prop:= ∃(A:Option Addr) (c:Nat),e=.returned (.slice A ((hi-lo).toNat+1:Nat) c)∧Rd w' A (((hi-lo).toNat+1)*3) (ints (fdL n dn lo ((hi-lo).toNat+1)))∧Below w w w'
theorem QD {n lo hi:Int} {dn:Bool} {w w':World} {A:Option Addr} {c:Nat} (h:Rd w' A (((hi-lo).toNat+1)*3) (ints (fdL n dn lo ((hi-lo).toNat+1)))) (b:Below w w w'):Nz n lo hi dn w (.returned (.slice A ((hi-lo).toNat+1:Nat) c)) w':=⟨A,c,rfl,h,b⟩
theorem XF (n lo hi:Int) (dn:Bool) (w:World) (D:Ds n lo hi=true):
  Calls prog 282 #[ZI n,ZI lo,ZI hi,.bool dn] w (Nz n lo hi dn w):=by
 have hb:=Gf D;have r:=λ(k:Nat) (M:lo+(k:Int)<=hi) (W:World)=>Gi (lo+(k:Int)) n dn W (J7 D Aa M);have d:=λ(w':World)=> @QD n lo hi dn w w';obtain⟨N,K⟩: ∃N,(hi-lo).toNat+1=N:=⟨_,rfl⟩;have p:hi=lo+(N:Int)-1:=Aa;have Y:N<=31:=Aa;rw[K] at d;have s:=Ai d;have j:=Ai p;clear K D d p;unfold Xp at r
 go_enter func282,ntmps282
 go_wp2_with fail
 go_loopw [9,10] (λv i wr=> ∃(k:Nat) (h:Hd),k<=N∧i=.int .i64 (lo+(k:Int))∧v=.slice h.A h.n h.c∧AR wr w.heap.size 3 h (ints (fdL n dn lo k))∧Below w w wr) (λ_ i _=>(hi+1-intOf i).toNat)
 case atStart=>exact⟨0,⟨none,0,0⟩,AZ _,by simp,rfl,AR.nil _ _ _,AP _ _⟩
 case round=>
  obtain⟨k,⟨A,m,c⟩,M,rfl,rfl,O,b⟩:=hrel
  by_cases aa:k<N
  ·have a:lo+(k:Int)<=hi:=by have:=j.out;omega
   have E:m=k:=by have h:=O.len;unfold ints at h;rw[List.length_map,IN] at h;simp only at h;omega
   have u:m+1<=1099511627776:=Aa;have f:=r k a wr;have R:Hid (fdL n dn lo (k+1)=fdL n dn lo k++ [mkC (lo+(k:Int)) n,mkS (lo+(k:Int)) n dn,mkH (lo+(k:Int)) n]):=rfl;have u1:IntKind.i64.wrap (lo+(k:Int)+1)=lo+((k+1:Nat):Int):=by rw[show lo+((k+1:Nat):Int)=lo+(k:Int)+1 by omega];exact Ff _ Aa
   generalize mkC (lo+(k:Int)) n=x at*;generalize mkS (lo+(k:Int)) n dn=y at*;generalize mkH (lo+(k:Int)) n=z at*;clear r E
   go_wp2_with fail
   refine f.mono ?_;rintro e H ⟨rfl,J⟩;clear f;replace b:=An b J;replace O:=O.below J;have hz:=b.size;have U:=Us H x y z 32;have I:=O.below ((AP _ H).alloc Bk (.cells (Ziii x y z) 32));have t:Below w w (H.alloc (.cells (Ziii x y z) 32)):=Ax;have F:=t.size
   go_wp2_with (at_builtin;refine Aj rfl _ _ 254 rfl 32 3 24 underlying254 H8 Ah w.heap.size ⟨A,m,c⟩ _ rfl I _ 1 1 (ints [x,y,z]) rfl U (Ao _) u Ah F ?_;intro G wg Q oG X Z;have S:=Ai Q;clear Q)
   have V:=t.grown X t.size (λq e=>by have:=(I.rowlt q e).1;omega)
   go_roundw
   case rel=>exact⟨k+1,G,by omega,by first|rfl|(congr 1;omega),rfl,by rw[R.out];unfold ints;rw[List.map_append];exact oG,V⟩
   case measure=>simp[intOf];omega
  ·obtain rfl:k=N:=Aa;have a: ¬lo+(k:Int)<=hi:=by have:=j.out;omega
   have E:m=k:=by have h:=O.len;unfold ints at h;rw[List.length_map,IN] at h;simp only at h;omega
   subst E;have T:=Ai O.rd;clear O r;go_wp2;go_ret;exact s.out wr T.out b
theorem Vu (n lo hi:Int) (dn:Bool) (w:World) (H:Ds n lo hi=true):
  Calls prog 263 #[ZI n,ZI lo,ZI hi,.bool dn] w (Nz n lo hi dn w):=by
 have hb:=Gf H;have s:=λ(k:Nat) (I:lo+(k:Int)<=hi) (W:World)=>C4 (lo+(k:Int)) n dn W;have t:=λ(k:Nat) (I:lo+(k:Int)<=hi)=>J7 H (m:=lo+(k:Int)) Aa I;have f:=λ(w':World)=> @QD n lo hi dn w w';obtain⟨N,X⟩: ∃N,(hi-lo).toNat+1=N:=⟨_,rfl⟩;have p:hi=lo+(N:Int)-1:=Aa;have ag:N<=31:=Aa;rw[X] at f;have u:=Ai f;have j:=Ai p;clear X H f p;unfold YB Xp at s
 go_enter func263,ntmps263
 go_upto_region 2 with fail
 generalize V:w.alloc _=w0;obtain⟨_,S,hS⟩:=bJ V;clear V;clear hS;generalize(some (⟨w,0,none⟩:Addr))=PA
 go_wp2_with fail
 go_loopw [9,10] (λv i wr=> ∃(k:Nat) (h:Hd),k<=N∧i=.int .i64 (lo+(k:Int))∧v=.slice h.A h.n h.c∧AR wr w.heap.size 3 h (ints (fdL n dn lo k))∧Below w w wr) (λ_ i _=>(hi+1-intOf i).toNat)
 case atStart=>exact⟨0,⟨PA,0,0⟩,AZ _,by simp,rfl,AR.empty _ _ _ _,S⟩
 case round=>
  clear S;obtain⟨k,⟨A,m,c⟩,I,rfl,rfl,O,b⟩:=hrel
  by_cases aj:k<N
  ·have a:lo+(k:Int)<=hi:=by have:=j.out;omega
   have J:m=k:=by have h:=O.len;unfold ints at h;rw[List.length_map,IN] at h;simp only at h;omega
   have F:m+1<=1099511627776:=Aa;have d:=s k a wr;rw[AA (t k a)] at d;have Z:Hid (fdL n dn lo (k+1)=fdL n dn lo k++ [mkC (lo+(k:Int)) n,mkS (lo+(k:Int)) n dn,mkH (lo+(k:Int)) n]):=rfl;have u1:IntKind.i64.wrap (lo+(k:Int)+1)=lo+((k+1:Nat):Int):=by rw[show lo+((k+1:Nat):Int)=lo+(k:Int)+1 by omega];exact Ff _ Aa
   generalize mkC (lo+(k:Int)) n=x at*;generalize mkS (lo+(k:Int)) n dn=y at*;generalize mkH (lo+(k:Int)) n=z at*;clear s t J
   go_wp2_with fail
   refine d.mono ?_;rintro e r ⟨rfl,T⟩;clear d;replace b:=An b T;replace O:=O.below T;have hz:=b.size;have D:=Br r 32 (Ziii x y z);have Q:=O.below ((AP _ r).alloc Bk (.cells (Ziii x y z) 32));have U:Below w w (r.alloc (.cells (Ziii x y z) 32)):=Ax
   go_upto_region 6 with fail
   generalize r.alloc _=M at D Q U⊢;generalize r.heap.size=q2 at D⊢;have e2:=D.cell;have ak:=U.size;have R1:=Us M x y z 32;have R:=Q.below ((AP _ M).alloc Bk (.cells (Ziii x y z) 32));have E:Below w w (M.alloc (.cells (Ziii x y z) 32)):=Ax;have K:=E.size
   go_wp2_with (at_builtin;refine Aj rfl _ _ 254 rfl 32 3 24 underlying254 H8 Ah w.heap.size ⟨A,m,c⟩ _ rfl R _ 1 1 (ints [x,y,z]) rfl R1 (Ao _) F Ah K ?_;intro G wg Y oG gg ai;have aa:=Ai Y;clear Y)
   have b4:=E.grown gg E.size (λq e=>by have:=(R.rowlt q e).1;omega)
   go_roundw
   case rel=>exact⟨k+1,G,by omega,by first|rfl|(congr 1;omega),rfl,by rw[Z.out];unfold ints;rw[List.map_append];exact oG,b4⟩
   case measure=>simp[intOf];omega
  ·obtain rfl:k=N:=Aa;have a: ¬lo+(k:Int)<=hi:=by have:=j.out;omega
   have J:m=k:=by have h:=O.len;unfold ints at h;rw[List.length_map,IN] at h;simp only at h;omega
   subst J;have HR:=Ai O.rd;clear O s t;go_wp2;go_ret;exact u.out wr HR.out b
theorem j8 (m n:Int) (dn:Bool) (w:World):Calls prog 108 #[ZI m,ZI n,.bool dn] w λe f=> ∃a b c d:Int,e=.returned (.tuple (EI a b c d))∧Below w w f:=
 (C4 m n dn w).mono λe f ⟨h,b⟩=>by
  unfold YB at h
  split at h
  ·exact⟨_,_,_,_,h,b⟩
  ·exact⟨_,_,_,_,h,b⟩
theorem Dr.set3 {w W:World} {L g b:Nat} (D:Dr w W L g) (h:w<=b) (x y z:Value):Dr w (((W.setCell ⟨b,0,none⟩ x).setCell ⟨b,1,none⟩ y).setCell ⟨b,2,none⟩ z) L g:=
 ((D.set_ (p:=⟨b,0,none⟩) h _).set_ (p:=⟨b,1,none⟩) h _).set_ (p:=⟨b,2,none⟩) h _
theorem j7 (L g:Nat) (w:World) (S:iC w L g):
  Calls prog 70 #[.pointer (some ⟨g,0,none⟩)] w λe O=> ∃x y z:Int,e=.returned (Ziii x y z)∧Dr w O L g:=by
 have D:=(Dr.start S).alloc (.cells Gd 32);have K:=Br w 32 Gd;have X:=S.lt.1
 go_enter func70,ntmps70
 go_wp2_with fail
 generalize w.alloc _=w0 at D K⊢;refine(F0 L g 20 _ D.src Ah).mono ?_;rintro e w1 ⟨n,rfl,n0,n1,k,E⟩;replace D:=D.next k E;replace K:=K.nx k Aa;clear k E S;have u1:=Bg (2+n-1)
 go_wp2_with fail
 refine(iA L g [3,2,2+n-1] 3 _ D.src rfl Ah Ah).mono ?_;rintro e w2 ⟨p,hp,rfl,s,F⟩;replace D:=(D.alloc _).next s F;replace K:=(K.alloc _).nx s Aa
 have J:1<=p∧p<=21:=by
  simp only[CC,I5,or_false] at hp;omega
 clear s F hp
 go_wp2_with fail
 refine(F0 L g p _ D.src Aa).mono ?_;rintro e w3 ⟨m,rfl,Y,Z,t,G⟩;replace D:=D.next t G;replace K:=K.nx t Aa;clear t G
 go_wp2_with fail
 all_goals
  refine(F0 L g 2 _ D.src Ah).mono ?_;rintro e w4 ⟨q,rfl,-,-,u,H⟩;replace D:=D.next u H;replace K:=K.nx u Aa;clear u H
  go_wp2_with fail
  refine(j8 _ _ _ _).mono ?_;rintro e A ⟨a,b,c,T,rfl,j⟩;replace D:=D.bel j;replace K:=K.below j K.lt;clear j
  go_upto_region 4 with fail
  have B:=Br A 32 (Ziii a b c);replace D:=D.alloc (.cells (Ziii a b c) 32);have N:=K.lt;replace K:=K.alloc (.cells (Ziii a b c) 32);generalize A.alloc _=w6 at B D K⊢;generalize A.heap.size=Q at B N⊢
  go_wp2_with fail
  refine(F0 L g 40 _ D.src Ah).mono ?_;rintro e w7 ⟨r,rfl,-,-,f,I⟩;replace D:=D.next f I;replace K:=K.nx f Aa;replace B:=B.nx f Aa;have R:=B.cell;have U:=B.frozen;have d:=K.cell;have V:=K.frozen;have i:=K.lt
  have M:r=0∨r=1∨r=2∨((r==0)=false∧(r==1)=false∧(r==2)=false):=by
   simp only[Ea];omega
  clear f I;rcases M with rfl|rfl|rfl|⟨r0,r1,r2⟩
  ·go_wp2;refine AS (v:=.agg (Ziii (wrap64 (2*a)) (wrap64 (2*b)) (wrap64 (2*c)))) (by simp[results,results70,go_sem,d,i]) rfl ⟨_,_,_,rfl,D.set3 Bk _ _ _⟩
  ·go_wp2;refine AS (v:=.agg (Ziii a (wrap64 (b+1)) c)) (by simp[results,results70,go_sem,d,i]) rfl ⟨_,_,_,rfl,(D.set_ (p:=⟨Q,1,none⟩) Aw _).set3 Bk _ _ _⟩
  ·go_wp2;refine AS (v:=.agg (Ziii 1 0 1)) (by simp[results,results70,go_sem,d,i]) rfl ⟨_,_,_,rfl,D.set3 Bk _ _ _⟩
  ·go_wp2;refine AS (v:=.agg (Ziii a b c)) (by simp[results,results70,go_sem,d,i]) rfl ⟨_,_,_,rfl,D.set3 Bk _ _ _⟩
structure jK (w W:World) (L g B:Nat) (l:List Sl):Prop where
 D:Dr w W L g
 R:Ag W l
 H:Hi (l.map Sl.row) B
 lo:w<=B
section
variable {w W W' : World} {L g B C : Nat} {l : List Sl}
theorem jK.next (T:jK w W L g B l) (k:W.grownBy W' (some g)) (S:iC W' L g):jK w W' L g B l:=
 ⟨T.D.next k S,T.R.nx k (λs hs e=>by have:=T.H s hs g e;have:=T.D.lt;have:=T.lo;omega),T.H,T.lo⟩
theorem jK.bel (T:jK w W L g B l) (b:Below W W W'):jK w W' L g B l:=⟨T.D.bel b,T.R.below b,T.H,T.lo⟩
theorem jK.al (T:jK w W L g B l) (o:Obj):jK w (W.alloc o) L g B l:=T.bel ((AP _ _).alloc Bk o)
theorem jK.dr (T:jK w W L g B l):jK w W.drew L g B l:=T.bel (BW W 1)
theorem jK.set_ (T:jK w W L g B l) {b i:Nat} (a:w<=b) (c:b<B) (u:Value):jK w (W.setCell ⟨b,i,none⟩ u) L g B l:=
 ⟨T.D.set_ (p:=⟨b,i,none⟩) a u,T.R.cell_ (λs hs e=>by have:=T.H s hs _ e;omega),T.H,T.lo⟩
theorem jK.low (T:jK w W L g B l):jK w W L g w.heap.size l:=⟨T.D,T.R,T.H.mono T.lo,Cp _⟩
theorem jK.from_ {a:World} (D:Dr w a L g) (T:jK a W L g a.heap.size l) (h:C<=a.heap.size) (b:w<=C):jK w W L g C l:=⟨D.trans' T.D,T.R,T.H.mono h,b⟩
end
def kq (hd hv:Hd) (xs ys:List Int):List Sl:= [⟨hd.A,hd.n,ints xs⟩,⟨hv.A,hv.n,ints ys⟩]
def kh (L g:Nat) (w:World) (e:Ending) (w':World):Prop:=
 ∃(hd hv:Hd) (xs ys:List Int) (k:Int),e=.returned (.tuple (EK hd.A hd.n hd.c hv.A hv.n hv.c k))∧hd.n<=20∧hv.n<=20∧jK w w' L g w.heap.size (kq hd hv xs ys)
theorem j9 (L g:Nat) (w:World) (S:iC w L g):
  Calls prog 86 #[.pointer (some ⟨g,0,none⟩)] w λe j=> ∃(a hv:Hd) (d f:List Int),e=.returned (CH a.A a.n a.c hv.A hv.n hv.c)∧a.n<=20∧hv.n<=20∧jK w j L g w.heap.size (kq a hv d f):=
 (iT L g w S).mono λe j ⟨a,hv,d,f,r,p,q,_,_,k,m,i,D⟩=>⟨a,hv,d,f,r,p,q,D,Ag.cons (s:=⟨a.A,a.n,ints d⟩) k (Ag.cons (s:=⟨hv.A,hv.n,ints f⟩) m (Ag.nil _)),Hi.cons (λb e=>i b (.inl e)) (Hi.cons (λb e=>i b (.inr e)) (Hi.nil _)),Cp _⟩
theorem jN (L g:Nat) (w:World) (S:iC w L g):
  Calls prog 69 #[.pointer (some ⟨g,0,none⟩)] w (kh L g w):=by
 have D:=(Dr.start S).alloc (.cells QW 30);have K:=Br w 30 QW;have Z:=S.lt.1
 go_enter func69,ntmps69
 go_wp2_with fail
 generalize w.alloc _=w0 at D K⊢;refine(j9 L g _ D.src).mono ?_;rintro e G ⟨⟨b,a,d⟩,⟨c,i,f⟩,R,U,rfl,A,E,T⟩;simp only at A E;have j:=jK.from_ (C:=w.heap.size+1) D T K.lt (Nat.le_succ _);replace K:=K.nx T.D.gr Aa;clear D T
 go_upto_region 2 with fail
 have B:=Br G 30 (CH b a d c i f);replace j:=j.al (.cells (CH b a d c i f) 30);have X:=K.lt;replace K:=K.alloc (.cells (CH b a d c i f) 30);generalize G.alloc _=w2 at B j K⊢;generalize G.heap.size=Q at B X⊢;have n:=B.cell
 go_wp2_with fail
 refine(F0 L g 16 _ j.D.src Ah).mono ?_;rintro e H ⟨q,rfl,-,-,t,I⟩;replace j:=j.next t I;replace K:=K.nx t Aa;replace B:=B.nx t Aa;clear t I n;have n:=B.cell;have M:=B.lt;have s:=K.cell;have J:=K.frozen;have u:=K.lt;have m:Q≠w.heap.size:=Aa;have O:=Bg ((a:Int)-1)
 by_cases N:q=0
 ·subst N;have V:Calls prog 107 #[.pointer (some ⟨g,0,none⟩),.slice (some ⟨H,0,none⟩) 3 3] (H.alloc (.cells (Ziii (-1) ((a:Int)-1) a) 2)).drew (iK L g [-1,(a:Int)-1,(a:Int)] (H.alloc (.cells (Ziii (-1) ((a:Int)-1) a) 2)).drew):=kf L g [-1,(a:Int)-1,(a:Int)] 3 _ j.D.src rfl Ah Ah
  go_wp2_with fail
  go_region_held3 (λF=> ∀o,F.cell? ⟨Q,o,none⟩=((CH b a d c i f):Array Value)[o]?)
   (first|(with_reducible exact n)|(with_reducible assumption)|(with_reducible exact z)|(exact λo=>(B.alloc _).cell o)|(exact n))
   (first
    |(go_at_call 107;(with_reducible refine V.mono ?_);rintro e O ⟨k,-,rfl,r,x⟩;have y:=((j.al _).dr).next r x;have K:=(Blk.drew (K.alloc _)).nx r Aa;have B:=(Blk.drew (B.alloc _)).nx r Aa;have n:=B.cell;have M:=B.lt;have s:=K.cell;have J:=K.frozen;have u:=K.lt;have z:=λo=>((B.far (p:=⟨w,0,none⟩) m (.slice b a d)).far (p:=⟨w,1,none⟩) m (.slice c i f)).cell o))
  all_goals
   go_wp2;refine AS (v:=.tuple (EK b a d c i f k)) (by simp[results,results69,go_sem,s,u]) rfl ⟨⟨b,a,d⟩,⟨c,i,f⟩,R,U,k,rfl,A,E,?_⟩
   exact((y.set_ Bk (Nat.lt_succ_self _) _).set_ Bk (Nat.lt_succ_self _) _).low
 ·have Y:(q==0)=false:=by rw[Ea];exact N
  go_wp2_with fail
  go_region_held3 (λF=> ∀o,F.cell? ⟨Q,o,none⟩=((CH b a d c i f):Array Value)[o]?)
   (first|(with_reducible exact n)|(with_reducible assumption)|(with_reducible exact z)|(exact λo=>(B.alloc _).cell o)|(exact n))
   (first|(go_at_call 55;(with_reducible refine(F0 L g (a:Int) _ j.dr.D.src (by omega)).mono ?_);rintro e O ⟨k,rfl,-,-,r,x⟩;have y:=j.dr.next r x;have K:=(Blk.drew K).nx r (by omega);have B:=(Blk.drew B).nx r (by omega);have n:=B.cell;have M:=B.lt;have s:=K.cell;have J:=K.frozen;have u:=K.lt;have z:=λo=>((B.far (p:=⟨w,0,none⟩) m (.slice b a d)).far (p:=⟨w,1,none⟩) m (.slice c i f)).cell o))
  all_goals
   go_wp2;refine AS (v:=.tuple (EK b a d c i f k)) (by simp[results,results69,go_sem,s,u]) rfl ⟨⟨b,a,d⟩,⟨c,i,f⟩,R,U,k,rfl,A,E,?_⟩
   exact((y.set_ Bk (Nat.lt_succ_self _) _).set_ Bk (Nat.lt_succ_self _) _).low
def ki (L g:Nat) (w:World) (e:Ending) (w':World):Prop:=
 ∃(hd hv:Hd) (xs ys:List Int) (k x y z:Int),e=.returned (.tuple #[CH hd.A hd.n hd.c hv.A hv.n hv.c,ZI k,Ziii x y z])∧hd.n<=20∧hv.n<=20∧jK w w' L g w.heap.size (kq hd hv xs ys)
theorem jR (L g:Nat) (w:World) (S:iC w L g):
  Calls prog 45 #[.pointer (some ⟨g,0,none⟩)] w (ki L g w):=by
 have D:=((Dr.start S).alloc (.cells QW 30)).alloc (.cells Gd 32);have K:=(Br w 30 QW).alloc (.cells Gd 32);have J:=Blk.newN (g:=w+1) (w.alloc (.cells QW 30)) 32 Gd Cr;have Y:=S.lt.1
 go_enter func45,ntmps45
 go_wp2_with fail
 generalize(w.alloc _).alloc _=w0 at D K J⊢;refine(jN L g _ D.src).mono ?_;rintro e s ⟨⟨a,i,c⟩,⟨b,j,d⟩,R,U,k,rfl,t,u,T⟩;simp only at t u;have q:=jK.from_ (C:=w.heap.size+2) D T J.lt Aa;replace K:=K.nx T.D.gr Aa;replace J:=J.nx T.D.gr Aa;clear D T
 go_upto_region 2 with fail
 have B:=Br s 30 (CH a i c b j d);replace q:=q.al (.cells (CH a i c b j d) 30);have O:=J.lt;replace K:=K.alloc (.cells (CH a i c b j d) 30);replace J:=J.alloc (.cells (CH a i c b j d) 30);generalize s.alloc _=w2 at B q K J⊢;generalize s.heap.size=Q at B O⊢;have r:=B.cell;have I:=B.lt;have f:Q≠w.heap.size:=Aa;have m:Q≠w.heap.size+1:=Aa
 go_region_held3 (λw'=> ∀o,w'.cell? ⟨Q,o,none⟩=((CH a i c b j d):Array Value)[o]?)
  (first|(with_reducible exact r)|(with_reducible assumption)|(with_reducible exact G)|(with_reducible exact H)|(exact r))
  (first|(go_at_call 70;(with_reducible refine(j7 L g _ q.dr.D.src).mono ?_);rintro e Z ⟨x,y,z,rfl,n⟩;have A:=q.dr.next n.gr n.src;have K:=(Blk.drew K).nx n.gr (by omega);have J:=(Blk.drew J).nx n.gr (by omega);have B:=(Blk.drew B).nx n.gr (by omega);have r:=B.cell;have I:=B.lt;have F:=K.cell;have X:=K.frozen;have N:=K.lt;have E:=J.cell;have V:=J.frozen;have M:=J.lt;have G:=λo=>((B.far (p:=⟨w,0,none⟩) f (.slice a i c)).far (p:=⟨w,1,none⟩) f (.slice b j d)).cell o;have H:=λo=>(((((B.far (p:=⟨w,0,none⟩) f (.slice a i c)).far (p:=⟨w,1,none⟩) f (.slice b j d)).far (p:=⟨w+1,0,none⟩) m (ZI x)).far (p:=⟨w+1,1,none⟩) m (ZI y)).far (p:=⟨w+1,2,none⟩) m (ZI z)).cell o))
 all_goals
  go_wp2;refine AS (v:=.tuple #[CH a i c b j d,ZI k,Ziii x y z]) (by simp[results,results45,go_sem,F,N,E,M]) rfl ⟨⟨a,i,c⟩,⟨b,j,d⟩,R,U,k,x,y,z,rfl,t,u,?_⟩
  exact(((((A.set_ Bk Aa _).set_ Bk Aa _).set_ Aa Aa _).set_ Aa Aa _).set_ Aa Aa _).low
