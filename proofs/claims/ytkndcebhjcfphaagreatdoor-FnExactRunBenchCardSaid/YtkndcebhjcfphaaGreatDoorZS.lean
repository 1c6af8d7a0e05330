import Derived.Test.YtkndcebhjcfphaaGreatDoorZJ
import Derived.Test.YtkndcebhjcfphaaGreatDoorZR
namespace Go.Proofs.YtkndcebhjcfphaaGreatDoor
open Go.RowKit Go.Proofs.Tryz
set_option maxRecDepth 100000
set_option maxHeartbeats 4000000
set_option linter.all false
theorem M5 (l:List AU):(BF l).length=2*l.length:=by
 induction l with
 |nil=>rfl
 |cons y t ih=>
  have:BF (y::t)=y.lo::y.hi::BF t:=rfl;rw[this,Gt,Gt,Gt,ih];omega
theorem Q0 (l:List AU) (y:AU):BF (l++ [y])=BF l++ [y.lo,y.hi]:=by unfold BF;simp
def Ej (us vs:List Int):Nat→Int
 |0=>0
 |k+1=>Ej us vs k+min (us.getD (k*2) 0) (vs.getD (k*2) 0)
def Ei (us vs:List Int):Nat→Int
 |0=>0
 |k+1=>Ei us vs k+max (us.getD (k*2+1) 0) (vs.getD (k*2+1) 0)
theorem NI {us vs a b:List Int}: ∀k,k*2≤us.length→k*2≤vs.length→Ej (us++a) (vs++b) k=Ej us vs k∧Ei (us++a) (vs++b) k=Ei us vs k
 |0,_,_=>⟨rfl,rfl⟩
 |k+1,h1,h2=>by
  obtain⟨i1,i2⟩:=NI (us:=us) (vs:=vs) (a:=a) (b:=b) k Aa Aa
  have e: ∀(xs ys:List Int) (i:Nat),i<xs.length→(xs++ys).getD i 0=xs.getD i 0:=fun xs ys i h=>by
   rw[DE,List.getElem?_append_left h,←DE]
  unfold Ej Ei;rw[i1,i2,e us a _ Aa,e vs b _ Aa,e us a _ Aa,e vs b _ Aa];exact⟨rfl,rfl⟩
theorem Qh {l m:List AU} {a b:AU} {n:Nat} (hl:l.length=n) (hm:m.length=n):
  Ej (BF (l++ [a])) (BF (m++ [b])) (n+1)=Ej (BF l) (BF m) n+min a.lo b.lo∧Ei (BF (l++ [a])) (BF (m++ [b])) (n+1)=Ei (BF l) (BF m) n+max a.hi b.hi:=by
 have l1:=M5 l;have l2:=M5 m;rw[Q0,Q0];obtain⟨i1,i2⟩:=NI (us:=BF l) (vs:=BF m) (a:= [a.lo,a.hi]) (b:= [b.lo,b.hi]) n Aa Aa
 have e: ∀(xs:List Int) (u v:Int),xs.length=n*2→(xs++ [u,v]).getD (n*2) 0=u∧(xs++ [u,v]).getD (n*2+1) 0=v:=fun xs u v h=>by
  rw[DE,DE,List.getElem?_append_right Aa,List.getElem?_append_right Aa,h,Nat.sub_self,show n*2+1-n*2=1 by omega]
  exact⟨rfl,rfl⟩
 show Ej (BF l++ [a.lo,a.hi]) (BF m++ [b.lo,b.hi]) n+min ((BF l++ [a.lo,a.hi]).getD (n*2) 0) ((BF m++ [b.lo,b.hi]).getD (n*2) 0)=_∧Ei (BF l++ [a.lo,a.hi]) (BF m++ [b.lo,b.hi]) n+max ((BF l++ [a.lo,a.hi]).getD (n*2+1) 0) ((BF m++ [b.lo,b.hi]).getD (n*2+1) 0)=_;rw[i1,i2,(e _ a.lo a.hi Aa).1,(e _ b.lo b.hi Aa).1,(e _ a.lo a.hi Aa).2,(e _ b.lo b.hi Aa).2];exact⟨rfl,rfl⟩
theorem Ns {r:Al} {n:Nat} {x:En} {l:List AU} (h:r.tr (n+1)=some (x,l)): ∃x0 l0 y,r.tr n=some (x0,l0)∧r.step x0=some y∧x=y.st∧l=l0++ [y]:=by
 simp only[Al.tr] at h
 split at h
 ·cases h
 ·next x0 l0 e=>
  split at h
  ·cases h
  ·next y e2=>
   simp only[Gs,Prod.mk.injEq] at h;exact⟨x0,l0,y,e,e2,h.1.symm,h.2.symm⟩
theorem A8.step_add {r:Al} (R:A8 r) {x:En} (X:Jt r x) {y:AU} (h:r.step x=some y):y.st.lo=x.lo+y.lo∧y.st.hi=x.hi+y.hi∧0≤y.lo∧0≤y.hi∧y.lo≤3500000000000000∧y.hi≤3500000000000000:=by
 unfold Al.step at h
 split at h
 ·injection h with h;subst h;simp only;omega
 ·next a b e=>
  obtain⟨rfl,hb⟩:=R.nxt_in X e;have:=R.pa_bd X.k hb X.can
  split at h
  ·split at h
   ·injection h with h;subst h;exact⟨rfl,rfl,this.1,this.2.2.1,this.2.1,this.2.2.2⟩
   ·injection h with h;subst h;exact⟨rfl,rfl,this.1,this.2.2.1,this.2.1,this.2.2.2⟩
  ·cases h
theorem IQ {x:Int}:isV x=true↔ -1000000000000≤x∧x≤1000000000000:=⟨Ac,fun h=>CN h.1 h.2⟩
theorem bN {r q:Al} (R:A8 r) (Q:A8 q): ∀n x l y m,r.tr n=some (x,l)→q.tr n=some (y,m)→
  0≤Ej (BF l) (BF m) n∧Ej (BF l) (BF m) n≤x.lo∧0≤Ei (BF l) (BF m) n∧Ei (BF l) (BF m) n≤x.hi+y.hi:=by
 intro n
 induction n with
 |zero=>
  intro x l y m h1 h2;simp only[Al.tr,Gs,Prod.mk.injEq] at h1 h2;obtain⟨rfl,rfl⟩:=h1;obtain⟨rfl,rfl⟩:=h2
  simp[Ej,Ei,Al.first]
 |succ n ih=>
  intro x l y m h1 h2;obtain⟨x0,l0,a,e1,s1,rfl,rfl⟩:=Ns h1;obtain⟨y0,m0,b,e2,s2,rfl,rfl⟩:=Ns h2;obtain⟨i1,i2,i3,i4⟩:=ih _ _ _ _ e1 e2;obtain⟨X,hl,-,-⟩:=R.tr_ok n x0 l0 e1;obtain⟨Y,hm,-,-⟩:=Q.tr_ok n y0 m0 e2;have ha:=R.step_add X s1;have hb:=Q.step_add Y s2;obtain⟨e3,e4⟩:=Qh (a:=a) (b:=b) hl hm;rw[e3,e4];omega
theorem YJ.lim {r q:Al} (N:YJ r q) {n:Nat} (hn:n≤100) {x y:En} {l m:List AU} (h1:r.tr n=some (x,l)) (h2:q.tr n=some (y,m)):
  (0≤Ej (BF l) (BF m) n∧Ej (BF l) (BF m) n≤1000000000000)∧0≤Ei (BF l) (BF m) n∧Ei (BF l) (BF m) n≤1000000000000:=by
 have h:=bN N.fr.ok N.fq.ok n x l y m h1 h2;have s:=N.sum hn h1 h2;have X:=(N.fr.ok.tr_ok n x l h1).1;have:=IQ.1 X.lo;omega
theorem aO {r:Al} {n:Nat} {x:En} {l:List AU} (h:r.tr n=some (x,l)): ∀k,k≤n→ ∃x0 l0,r.tr k=some (x0,l0)∧ ∃t,l=l0++t:=by
 intro k hk
 induction n generalizing x l with
 |zero=>
  obtain rfl:k=0:=Aa;exact⟨x,l,h,[],by simp⟩
 |succ n ih=>
  by_cases e:k=n+1
  ·exact⟨x,l,e▸h,[],by simp⟩
  ·obtain⟨x0,l0,y,e1,s1,rfl,rfl⟩:=Ns h;obtain⟨x1,l1,e2,t,rfl⟩:=ih e1 Aa;exact⟨x1,l1,e2,t++ [y],by simp⟩
theorem YJ.limk {r q:Al} (N:YJ r q) {n:Nat} (hn:n≤100) {x y:En} {l m:List AU} (h1:r.tr n=some (x,l)) (h2:q.tr n=some (y,m)) (k:Nat) (hk:k≤n):
  (0≤Ej (BF l) (BF m) k∧Ej (BF l) (BF m) k≤1000000000000)∧0≤Ei (BF l) (BF m) k∧Ei (BF l) (BF m) k≤1000000000000:=by
 obtain⟨x0,l0,e1,t,rfl⟩:=aO h1 k hk;obtain⟨y0,m0,e2,u,rfl⟩:=aO h2 k hk;have hl:=(N.fr.ok.tr_ok k x0 l0 e1).2.1;have hm:=(N.fq.ok.tr_ok k y0 m0 e2).2.1;have a1:=M5 l0;have a2:=M5 m0;have e: ∀a b:List AU,BF (a++b)=BF a++BF b:=fun a b=>by unfold BF;simp
 obtain⟨i1,i2⟩:=NI (us:=BF l0) (vs:=BF m0) (a:=BF t) (b:=BF u) k Aa Aa;rw[e,e,i1,i2];exact N.lim Aa e1 e2
theorem ga {r:Al} (R:A8 r) {n:Nat} {x:En} {l:List AU} (h:r.tr n=some (x,l)) (i:Nat):0≤(BF l).getD i 0∧(BF l).getD i 0≤3500000000000000:=by
 induction n generalizing x l with
 |zero=>
  simp only[Al.tr,Gs,Prod.mk.injEq] at h;obtain⟨rfl,rfl⟩:=h
  simp[BF]
 |succ n ih=>
  obtain⟨x0,l0,y,e1,s1,rfl,rfl⟩:=Ns h;have hy:=R.step_add (R.tr_ok n x0 l0 e1).1 s1;have hi:=ih e1;rw[Q0,DE];rcases Nat.lt_or_ge i (BF l0).length with c|c
  ·rw[List.getElem?_append_left c,←DE];exact hi
  ·rw[List.getElem?_append_right c];rcases(show i-(BF l0).length=0∨i-(BF l0).length=1∨2≤i-(BF l0).length by omega) with d|d|d
   ·rw[d];simp;omega
   ·rw[d];simp;omega
   ·rw[List.getElem?_eq_none Bq];simp
def vdV (x y:En) (same:Bool) (lo hi knot dist:Int):Int:=
 if same=false then 1 else if¬(x.k:Int)=knot∨inR dist lo hi=false then 0 else if(x.hi<dist∧dist<y.lo)∨(y.hi<dist∧dist<x.lo) then 2 else 1
def dY (r q:Al) (n:Nat) (knot dist:Int):Option Int:=
 match r.tr n,q.tr n with
 |some (x,l),some (y,m)=>some (vdV x y (decide (C2 l=C2 m)) (Ej (BF l) (BF m) n) (Ei (BF l) (BF m) n) knot dist)
 |_,_=>none
theorem ef {l m:List AU} {a b:AU} (h:l.length=m.length):decide (C2 (l++ [a])=C2 (m++ [b]))=(decide (C2 l=C2 m) && decide (a.ev=b.ev)):=by
 have e: ∀(l:List AU) (a:AU),C2 (l++ [a])=C2 l++ [a.ev]:=fun l a=>by unfold C2;simp
 have hl:(C2 l).length=(C2 m).length:=by unfold C2;simp[h]
 rw[e,e,←Bool.decide_and,decide_eq_decide]
 constructor
 ·intro c;have:=List.append_inj c hl;exact⟨this.1,by simpa using this.2⟩
 ·rintro⟨c,d⟩;rw[c,d]
theorem ZV (a b d:Int):(a-d)*(a+b)=a*a+a*b-d*a-d*b:=by
 rw[Int.sub_mul,Int.mul_add,Int.mul_add];omega
theorem fQ {cr hr cq hq v S:Int} (h1:0<hr) (h2:0<hq) (hv:0<v) (hS:0<S) (hk:1000*(cq*hr)≤994*(cr*hq)):
  (cr*v<hr*S→1000*(cq*v)<994*(hq*S))∧(499*(hq*S)<500*(cq*v)→hr*S<cr*v):=by
 have a:=ME hk (show 0≤v by omega)
 have e1:1000*(cq*hr)*v=1000*((cq*v)*hr):=by ac_rfl
 have e2:994*(cr*hq)*v=994*((cr*v)*hq):=by ac_rfl
 rw[e1,e2] at a;have e3:(hr*S)*hq=(hq*S)*hr:=by ac_rfl
 constructor
 ·intro c;rcases Eg (1000*(cq*v)) (994*(hq*S)) with o|o
  ·exact o
  ·exfalso
   have b:=ME o (show 0≤hr by omega)
   have d:=Int.mul_lt_mul_of_pos_right c h2;rw[e3] at d;rw[Ga,Ga 1000] at b;omega
 ·intro c;rcases Eg (hr*S) (cr*v) with o|o
  ·exact o
  ·exfalso
   have b:=ME o (show 0≤hq by omega)
   have d:=Int.mul_lt_mul_of_pos_right c h1;rw[e3] at b;rw[Ga,Ga 500] at d;have p:=Int.mul_pos (Int.mul_pos h2 hS) h1;omega
theorem QH {r q:Al} (R:A8 r) (Q:A8 q) (hss:q.ss=r.ss) (hsrc:q.src=r.src) (hk:1000*(q.c*r.h)≤994*(r.c*q.h)) {j:Nat} (hj:j+1<r.ds.length):
  (r.lev j=true→ ¬q.lev j=true∧ ¬q.tur j=true)∧(q.lev j=true→ ¬r.lev j=true∧ ¬r.tur j=true):=by
 obtain⟨-,-,a1,-⟩:=R.dir';obtain⟨-,-,b1,-⟩:=Q.dir';have hS:=R.sp R.src
 have key: ∀k,k<r.ds.length→(r.pt k<r.wh→1000*q.pt k<994*q.wh)∧(499*q.wh<500*q.pt k→r.wh<r.pt k):=fun k hk'=>by
  have hv:=R.sp hk';have:=fQ (v:=r.ss.getD k 0) (S:=r.ss.getD r.src 0) (show 0<r.h by omega) (show 0<q.h by omega) Aa Aa hk
  unfold Al.pt Al.wh;rw[hss,hsrc];exact this
 obtain⟨k1,k2⟩:=key j Aa;obtain⟨m1,m2⟩:=key (j+1) hj;have qw:=Q.wh_bd;have cd: ∀(z:Al) k,z.can k=decide (z.pt k<z.wh):=fun _ _=>rfl
 constructor
 ·intro hl;obtain⟨c1,c2,l1,l2⟩:=Hk hl;rw[cd,BP] at c1 c2;have d1:=k1 c1;have d2:=m1 c2;refine⟨fun c=> ?_,fun c=> ?_⟩
  ·obtain⟨-,-,x1,-⟩:=Hk c;omega
  ·unfold Al.tur at c;rw[cd,cd,BC (show q.pt j<q.wh by omega),BC (show q.pt (j+1)<q.wh by omega)] at c
   cases c
 ·intro hl;obtain⟨c1,c2,l1,l2⟩:=Hk hl;have d1:=k2 Aa;have d2:=m2 Aa;refine⟨fun c=> ?_,fun c=> ?_⟩
  ·obtain⟨x1,-,-,-⟩:=Hk c;rw[cd,BP] at x1;omega
  ·unfold Al.tur at c;rw[cd,cd,BR (show¬r.pt j<r.wh by omega),BR (show¬r.pt (j+1)<r.wh by omega)] at c
   cases c
def fanR (ds ss:List Int) (src:Nat) (n:Int) (dn:Bool) (m:Int):Al:=⟨ds,ss,src,mkC m n,mkS m n dn,mkH m n⟩
theorem VK {m n:Int} (h:Gj m n=true):1≤mkG m n∧mkG m n*mkC m n=n*n-m*m∧mkG m n*mkH m n=n*n+m*m:=by
 obtain⟨b1,b2,b3,b4,b5,b6,b7,b8,b9,b10⟩:=JG h;obtain⟨⟨c,hc⟩,-,⟨k,hk⟩⟩:=VJ m n;have hg0:0≤mkG m n:=Int.natCast_nonneg _
 have hg:1≤mkG m n:=by
  rcases Eg (mkG m n) 1 with o|o
  ·have:mkG m n=0:=Aa;rw[this,Int.zero_mul] at hk;omega
  ·exact o
 have hC:mkC m n=c:=by unfold mkC;rw[hc,Int.mul_ediv_cancel_left _ Aa]
 have hH:mkH m n=k:=by unfold mkH;rw[hk,Int.mul_ediv_cancel_left _ Aa]
 exact⟨hg,by rw[hC];exact hc.symm,by rw[hH];exact hk.symm⟩
section
variable {ds ss : List Int} {src : Nat} (hp : BI ds.length ss.length ds ss = true) (hs : src < ds.length)
include hp hs
theorem el {n m:Int} (dn:Bool) (h:Gj m n=true):A8 (fanR ds ss src n dn m):=⟨hp,Ug h dn,hs⟩
theorem dM {n m:Int} (dn:Bool) (h:Gj m n=true):Xn (fanR ds ss src n dn m):=by
 have R:=el hp hs dn h;obtain⟨b1,b2,b3,b4,b5,b6,b7,b8,b9,b10⟩:=JG h;obtain⟨g1,g2,g3⟩:=VK h;have hS:=R.sp R.src
 have hn:n*n≤961:=by
  have:=CL b3 b3 Aa Aa;omega
 have key: ¬500*((fanR ds ss src n dn m).wh-(fanR ds ss src n dn m).pt src)<(fanR ds ss src n dn m).wh:=by
  show¬500*(mkH m n*ss.getD src 0-mkC m n*ss.getD src 0)<mkH m n*ss.getD src 0;rw[←Int.sub_mul,←Ga];intro c;have c2:=Int.lt_of_mul_lt_mul_right c (show 0≤ss.getD src 0 by have:(fanR ds ss src n dn m).ss.getD (fanR ds ss src n dn m).src 0=ss.getD src 0:=rfl;omega)
  have c3:=Int.mul_lt_mul_of_pos_left c2 (show 0<mkG m n by omega)
  rw[Int.mul_left_comm,Int.mul_sub,g2,g3] at c3;omega
 refine⟨R,fun j hl=> ?_⟩;obtain⟨-,-,l1,l2⟩:=Hk hl;refine⟨fun c=> ?_,fun c=> ?_⟩
 ·rw[c] at l1;exact key l1
 ·rw[c] at l2;exact key l2
theorem dL {n m:Int} (dn:Bool) (h:Gj m n=true) (h2:Gj (m+1) n=true):YJ (fanR ds ss src n dn m) (fanR ds ss src n dn (m+1)):=by
 have F1:=dM hp hs dn h;have F2:=dM hp hs dn h2;obtain⟨b1,b2,b3,b4,b5,b6,b7,b8,b9,b10⟩:=JG h;obtain⟨d1,d2,d3,d4,d5,d6,d7,d8,d9,d10⟩:=JG h2;obtain⟨g1,g2,g3⟩:=VK h;obtain⟨k1,k2,k3⟩:=VK h2
 have hn:n*n≤961:=by
  have:=CL b3 b3 Aa Aa;omega
 have hmm:(m+1)*(m+1)=m*m+2*m+1:=by rw[Int.add_mul,Int.mul_add];omega
 have hk:1000*(mkC (m+1) n*mkH m n)≤994*(mkC m n*mkH (m+1) n):=by
  have hG:=Int.mul_pos (show 0<mkG m n by omega) (show 0<mkG (m+1) n by omega)
  refine Int.le_of_mul_le_mul_left ?_ hG;have e1:mkG m n*mkG (m+1) n*(1000*(mkC (m+1) n*mkH m n))=1000*((mkG (m+1) n*mkC (m+1) n)*(mkG m n*mkH m n)):=by ac_rfl
  have e2:mkG m n*mkG (m+1) n*(994*(mkC m n*mkH (m+1) n))=994*((mkG m n*mkC m n)*(mkG (m+1) n*mkH (m+1) n)):=by ac_rfl
  rw[e1,e2,g2,g3,k2,k3,hmm];obtain⟨D,hD⟩: ∃D,m*m+2*m+1=D:=⟨_,rfl⟩;rw[hD];obtain⟨a,ha⟩: ∃a,n*n=a:=⟨_,rfl⟩;obtain⟨b,hb⟩: ∃b,m*m=b:=⟨_,rfl⟩;rw[ha] at hn b7 b10;rw[hb] at hD b5;rw[ha,hb,ZV a b D,ZV a D b];have p4:a*D=a*b+a*(2*m+1):=by rw[←Int.mul_add];congr 1;omega
  have x1:=Gq (show 3≤2*m+1 by omega) (show 0≤a by omega)
  have x2:=Du (show 0≤b by omega) (show 0≤D by omega)
  have x3:=Gq (show a≤961 by omega) (show 0≤a by omega)
  rw[Int.mul_comm D a,Int.mul_comm D b,Int.mul_comm b a];generalize a*D=z1 at*;generalize a*b=z2 at*;generalize b*D=z3 at*;generalize a*a=z4 at*;generalize a*(2*m+1)=z5 at*;omega
 exact⟨F1,F2,rfl,fun j hj=>(QH F1.ok F2.ok rfl rfl hk hj).1,fun j hj=>(QH F1.ok F2.ok rfl rfl hk hj).2⟩
end
def Ds (n lo hi:Int):Bool:=inR n 2 1000 && (inR hi 1 (n-1) && (inR lo 1 hi && decide (n*n+hi*hi≤1000)))
theorem J7 {n lo hi:Int} (h:Ds n lo hi=true) {m:Int} (h1:lo≤m) (h2:m≤hi):Gj m n=true:=by
 unfold Ds at h;simp only[CD,BP] at h;obtain⟨c1,c2,c3,c4⟩:=h;have c2:=Ac c2;have c3:=Ac c3;have hm:=CL h2 h2 Aa Aa;unfold Gj;rw[c1,CN Aa Aa,BC Aa];rfl
theorem Gf {n lo hi:Int} (h:Ds n lo hi=true):1≤lo∧lo≤hi∧hi<n∧n≤31:=by
 have hm:=JG (J7 h (m:=hi) (by
  unfold Ds at h;simp only[CD] at h;exact(Ac h.2.2.1).2) (Int.le_refl _))
 unfold Ds at h;simp only[CD] at h;have c3:=Ac h.2.2.1;omega
def fvL (ρ:Int→Al) (lo:Int) (steps:Nat) (knot dist:Int):Nat→Option (List Int)
 |0=>some []
 |k+1=>match fvL ρ lo steps knot dist k with
  |none=>none
  |some L=>match dY (ρ (lo+(k:Int))) (ρ (lo+(k:Int)+1)) steps knot dist with
   |none=>none
   |some v=>some (L++ [v])
theorem Zr {ρ:Int→Al} {lo:Int} {steps:Nat} {knot dist:Int} {k:Nat} (h:fvL ρ lo steps knot dist k=none): ∀n,k≤n→fvL ρ lo steps knot dist n=none:=by
 intro n hn
 induction n with
 |zero=>obtain rfl:k=0:=Aa;exact h
 |succ n ih=>
  by_cases e:k=n+1
  ·exact e▸h
  ·simp only[fvL];rw[ih Aa]
def H4 (lo:Int) (L:List Int):Nat→List Int
 |0=> []
 |k+1=>if L.getD k 0=0 then H4 lo L k else H4 lo L k++ [lo+(k:Int)]
theorem Nh {lo:Int} {L:List Int} (h0:1≤lo) (h1:lo≤100): ∀k,k≤100→(H4 lo L k).length≤k∧ ∀x∈H4 lo L k,1≤x∧x≤200
 |0,_=>⟨Cp _,fun _ h=>by cases h⟩
 |k+1,hk=>by
  obtain⟨i1,i2⟩:=Nh (L:=L) h0 h1 k Aa;unfold H4
  split
  ·exact⟨by omega,i2⟩
  ·refine⟨by simp;omega,fun x hx=> ?_⟩
   rw[List.mem_append] at hx;rcases hx with hx|hx
   ·exact i2 x hx
   ·rw[DD] at hx;omega
def ocC (ρ:Int→Al) (kn:Nat) (n lo hi steps knot dist:Int):Int:=
 if Ds n lo hi=false then 1 else if inR steps 0 100=false then 2 else if(inR knot 0 ((kn:Int)-1) && inR dist 0 1000000000000)=false then 2
 else match fvL ρ lo steps.toNat knot dist (hi-lo).toNat with|none=>3|some _=>0
def ocV (ρ:Int→Al) (n lo hi steps knot dist:Int):List Int:=
 match fvL ρ lo steps.toNat knot dist (hi-lo).toNat with|none=> []|some L=>L
def ocL (ρ:Int→Al) (kn:Nat) (n lo hi steps knot dist:Int):List Int:=
 if ocC ρ kn n lo hi steps knot dist=0 then H4 lo (ocV ρ n lo hi steps knot dist) (hi-lo).toNat else []
theorem H8:(prog.info? 32).map (fun i=>(i.zero.map (·.cells.size),i.size,i.bytes))=some (some 3,3,24):=We51ceQ
theorem Us (w:World) (a b c:Int) (e:TypeId):Rd (w.alloc (.cells (Ziii a b c) e)) (some ⟨w,0,none⟩) (1*3) (ints [a,b,c]):=
 (Br w e (Ziii a b c)).rd rfl (fun i hi=>by
  obtain rfl|rfl|rfl:i=0∨i=1∨i=2:=Aa
  all_goals rfl)
def fdL (n:Int) (dn:Bool) (lo:Int):Nat→List Int
 |0=> []
 |k+1=>fdL n dn lo k++ [mkC (lo+(k:Int)) n,mkS (lo+(k:Int)) n dn,mkH (lo+(k:Int)) n]
theorem IN (n:Int) (dn:Bool) (lo:Int): ∀k,(fdL n dn lo k).length=k*3
 |0=>rfl
 |k+1=>by unfold fdL;rw[Dy,IN n dn lo k];simp only[Gt,List.length_nil];omega
theorem LI (n:Int) (dn:Bool) (lo:Int): ∀ {k i:Nat},i<k→(fdL n dn lo k).getD (i*3) 0=mkC (lo+(i:Int)) n∧(fdL n dn lo k).getD (i*3+1) 0=mkS (lo+(i:Int)) n dn∧(fdL n dn lo k).getD (i*3+2) 0=mkH (lo+(i:Int)) n
 |0,_,h=>by omega
 |k+1,i,h=>by
  have hl:=IN n dn lo k;unfold fdL
  by_cases e:i=k
  ·subst e;rw[DE,DE,DE,List.getElem?_append_right Aa,List.getElem?_append_right Aa,List.getElem?_append_right Aa,hl,show i*3-i*3=0 by omega,show i*3+1-i*3=1 by omega,show i*3+2-i*3=2 by omega]
   exact⟨rfl,rfl,rfl⟩
  ·have:=LI n dn lo (k:=k) (i:=i) Aa;rw[DE,DE,DE,List.getElem?_append_left Aa,List.getElem?_append_left Aa,List.getElem?_append_left Aa,←DE,←DE,←DE];exact this
theorem PM (n lo hi:Int) (w:World):(GK 317 (Ziii n lo hi) w (.bool (Ds n lo hi)):Prop):=by
 have H1:=fun W=>As n 2 1000 W;have H2:=fun W=>As hi 1 (n-1) W;have H3:=fun W=>As lo 1 hi W;rcases BA (inR n 2 1000) with h1|h1
 rotate_left
 ·have hv:Hid (Ds n lo hi=false):=by unfold Hid Ds;rw[h1];rfl
  rw[h1] at H1;clear H2 H3 h1
  go_enter func317,ntmps317
  go_wp2_with (first|(go_at_call 73;(with_reducible refine(H1 _).mono ?_);rintro e w' ⟨rfl,rfl⟩))
  go_ret;exact⟨by rw[hv.out];rfl,rfl⟩
 have i1:=Ac h1;have u1:=Bg (n-1);rcases BA (inR hi 1 (n-1)) with h2|h2
 rotate_left
 ·have hv:Hid (Ds n lo hi=false):=by unfold Hid Ds;rw[h1,h2];rfl
  rw[h1] at H1;rw[h2] at H2;clear H3 h1 h2
  go_enter func317,ntmps317
  go_wp2_with (first|(go_at_call 73;(with_reducible refine(H1 _).mono ?_);rintro e w' ⟨rfl,rfl⟩)|(go_at_call 73;(with_reducible refine(H2 _).mono ?_);rintro e w' ⟨rfl,rfl⟩))
  go_ret;exact⟨by rw[hv.out];rfl,rfl⟩
 have i2:=Ac h2;rcases BA (inR lo 1 hi) with h3|h3
 rotate_left
 ·have hv:Hid (Ds n lo hi=false):=by unfold Hid Ds;rw[h1,h2,h3];rfl
  rw[h1] at H1;rw[h2] at H2;rw[h3] at H3;clear h1 h2 h3
  go_enter func317,ntmps317
  go_wp2_with (first|(go_at_call 73;(with_reducible refine(H1 _).mono ?_);rintro e w' ⟨rfl,rfl⟩)|(go_at_call 73;(with_reducible refine(H2 _).mono ?_);rintro e w' ⟨rfl,rfl⟩)|(go_at_call 73;(with_reducible refine(H3 _).mono ?_);rintro e w' ⟨rfl,rfl⟩))
  go_ret;exact⟨by rw[hv.out];rfl,rfl⟩
 have hv:Hid (Ds n lo hi=decide (n*n+hi*hi≤1000)):=by unfold Hid Ds;rw[h1,h2,h3];simp
 have a1:=CL i1.2 i1.2 Aa Aa;have a2:=CL (show hi≤1000 by omega) (show hi≤1000 by omega) Aa Aa
 have a3:=Du (show 0≤n by omega) (show 0≤n by omega)
 have a4:=Du (show 0≤hi by omega) (show 0≤hi by omega)
 have u2:=Bg (n*n);have u3:=Bg (hi*hi);have u4:=Bg (n*n+hi*hi);rw[h1] at H1;rw[h2] at H2;rw[h3] at H3;clear h1 h2 h3 a1 a2 a3 a4
 go_enter func317,ntmps317
 go_wp2_with (first|(go_at_call 73;(with_reducible refine(H1 _).mono ?_);rintro e w' ⟨rfl,rfl⟩)|(go_at_call 73;(with_reducible refine(H2 _).mono ?_);rintro e w' ⟨rfl,rfl⟩)|(go_at_call 73;(with_reducible refine(H3 _).mono ?_);rintro e w' ⟨rfl,rfl⟩))
 go_ret;exact⟨by rw[hv.out];rfl,rfl⟩
theorem P8 (n lo hi:Int) (w:World):(GK 262 (Ziii n lo hi) w (.bool (Ds n lo hi)):Prop):=by
 have H1:=fun W=>Ay n 2 1000 W;have H2:=fun W=>Ay hi 1 (n-1) W;have H3:=fun W=>Ay lo 1 hi W;rcases BA (inR n 2 1000) with h1|h1
 rotate_left
 ·have hv:Hid (Ds n lo hi=false):=by unfold Hid Ds;rw[h1];rfl
  rw[h1] at H1;clear H2 H3 h1
  go_enter func262,ntmps262
  go_wp2_with (first|(go_at_call 84;(with_reducible refine(H1 _).mono ?_);rintro e w' ⟨rfl,rfl⟩))
  go_ret;exact⟨by rw[hv.out];rfl,rfl⟩
 have i1:=Ac h1;have u1:=Bg (n-1);rcases BA (inR hi 1 (n-1)) with h2|h2
 rotate_left
 ·have hv:Hid (Ds n lo hi=false):=by unfold Hid Ds;rw[h1,h2];rfl
  rw[h1] at H1;rw[h2] at H2;clear H3 h1 h2
  go_enter func262,ntmps262
  go_wp2_with (first|(go_at_call 84;(with_reducible refine(H1 _).mono ?_);rintro e w' ⟨rfl,rfl⟩)|(go_at_call 84;(with_reducible refine(H2 _).mono ?_);rintro e w' ⟨rfl,rfl⟩))
  go_ret;exact⟨by rw[hv.out];rfl,rfl⟩
 have i2:=Ac h2;rcases BA (inR lo 1 hi) with h3|h3
 rotate_left
 ·have hv:Hid (Ds n lo hi=false):=by unfold Hid Ds;rw[h1,h2,h3];rfl
  rw[h1] at H1;rw[h2] at H2;rw[h3] at H3;clear h1 h2 h3
  go_enter func262,ntmps262
  go_wp2_with (first|(go_at_call 84;(with_reducible refine(H1 _).mono ?_);rintro e w' ⟨rfl,rfl⟩)|(go_at_call 84;(with_reducible refine(H2 _).mono ?_);rintro e w' ⟨rfl,rfl⟩)|(go_at_call 84;(with_reducible refine(H3 _).mono ?_);rintro e w' ⟨rfl,rfl⟩))
  go_ret;exact⟨by rw[hv.out];rfl,rfl⟩
 have hv:Hid (Ds n lo hi=decide (n*n+hi*hi≤1000)):=by unfold Hid Ds;rw[h1,h2,h3];simp
 have a1:=CL i1.2 i1.2 Aa Aa;have a2:=CL (show hi≤1000 by omega) (show hi≤1000 by omega) Aa Aa
 have a3:=Du (show 0≤n by omega) (show 0≤n by omega)
 have a4:=Du (show 0≤hi by omega) (show 0≤hi by omega)
 have u2:=Bg (n*n);have u3:=Bg (hi*hi);have u4:=Bg (n*n+hi*hi);rw[h1] at H1;rw[h2] at H2;rw[h3] at H3;clear h1 h2 h3 a1 a2 a3 a4
 go_enter func262,ntmps262
 go_wp2_with (first|(go_at_call 84;(with_reducible refine(H1 _).mono ?_);rintro e w' ⟨rfl,rfl⟩)|(go_at_call 84;(with_reducible refine(H2 _).mono ?_);rintro e w' ⟨rfl,rfl⟩)|(go_at_call 84;(with_reducible refine(H3 _).mono ?_);rintro e w' ⟨rfl,rfl⟩))
 go_ret;exact⟨by rw[hv.out];rfl,rfl⟩
def Nz (n lo hi:Int) (dn:Bool) (w:World) (e:Ending) (w':World):Prop:= ∃(A:Option Addr) (c:Nat),e=.returned (.slice A ((hi-lo).toNat+1:Nat) c)∧Rd w' A (((hi-lo).toNat+1)*3) (ints (fdL n dn lo ((hi-lo).toNat+1)))∧Below w w w'
theorem QD {n lo hi:Int} {dn:Bool} {w w':World} {A:Option Addr} {c:Nat} (h:Rd w' A (((hi-lo).toNat+1)*3) (ints (fdL n dn lo ((hi-lo).toNat+1)))) (b:Below w w w'):Nz n lo hi dn w (.returned (.slice A ((hi-lo).toNat+1:Nat) c)) w':=⟨A,c,rfl,h,b⟩
theorem XF (n lo hi:Int) (dn:Bool) (w:World) (hf:Ds n lo hi=true):
  Calls prog 282 #[ZI n,ZI lo,ZI hi,.bool dn] w (Nz n lo hi dn w):=by
 have hb:=Gf hf;have HM:=fun(k:Nat) (hk:lo+(k:Int)≤hi) (W:World)=>Gi (lo+(k:Int)) n dn W (J7 hf Aa hk);have HRF:=fun(w':World)=> @QD n lo hi dn w w';obtain⟨N,hN⟩: ∃N,(hi-lo).toNat+1=N:=⟨_,rfl⟩;have hN2:hi=lo+(N:Int)-1:=Aa;have hN3:N≤31:=Aa;rw[hN] at HRF;have HRG:=Ai HRF;have HN2:=Ai hN2;clear hN hf HRF hN2;unfold Xp at HM
 go_enter func282,ntmps282
 go_wp2_with fail
 go_loopw [9,10] (fun v i wr=> ∃(k:Nat) (h:Hd),k≤N∧i=.int .i64 (lo+(k:Int))∧v=.slice h.A h.n h.c∧AR wr w.heap.size 3 h (ints (fdL n dn lo k))∧Below w w wr) (fun _ i _=>(hi+1-intOf i).toNat)
 case atStart=>exact⟨0,⟨none,0,0⟩,AZ _,by simp,rfl,AR.nil _ _ _,AP _ _⟩
 case round=>
  obtain⟨k,⟨A,m,c⟩,hk,rfl,rfl,O,b⟩:=hrel
  by_cases hlt:k<N
  ·have hltI:lo+(k:Int)≤hi:=by have:=HN2.out;omega
   have hm:m=k:=by have h:=O.len;unfold ints at h;rw[List.length_map,IN] at h;simp only at h;omega
   have h63:m+1≤1099511627776:=Aa;have HMk:=HM k hltI wr;have HE:Hid (fdL n dn lo (k+1)=fdL n dn lo k++ [mkC (lo+(k:Int)) n,mkS (lo+(k:Int)) n dn,mkH (lo+(k:Int)) n]):=rfl;have u1:IntKind.i64.wrap (lo+(k:Int)+1)=lo+((k+1:Nat):Int):=by rw[show lo+((k+1:Nat):Int)=lo+(k:Int)+1 by omega];exact Ff _ Aa
   generalize mkC (lo+(k:Int)) n=x at*;generalize mkS (lo+(k:Int)) n dn=y at*;generalize mkH (lo+(k:Int)) n=z at*;clear HM hm
   go_wp2_with fail
   refine HMk.mono ?_;rintro e w1 ⟨rfl,b1⟩;clear HMk;replace b:=An b b1;replace O:=O.below b1;have hz:=b.size;have R1:=Us w1 x y z 32;have O1:=O.below ((AP _ w1).alloc Bk (.cells (Ziii x y z) 32));have b2:Below w w (w1.alloc (.cells (Ziii x y z) 32)):=Ax;have hz2:=b2.size
   go_wp2_with (at_builtin;refine Aj rfl _ _ 254 rfl 32 3 24 underlying254 H8 Ah w.heap.size ⟨A,m,c⟩ _ rfl O1 _ 1 1 (ints [x,y,z]) rfl R1 (Ao _) h63 Ah hz2 ?_;intro G wg hn oG gg hat;have HNG:=Ai hn;clear hn)
   have b3:=b2.grown gg b2.size (fun q e=>by have:=(O1.rowlt q e).1;omega)
   go_roundw
   case rel=>exact⟨k+1,G,by omega,by first|rfl|(congr 1;omega),rfl,by rw[HE.out];unfold ints;rw[List.map_append];exact oG,b3⟩
   case measure=>simp[intOf];omega
  ·obtain rfl:k=N:=Aa;have hltI: ¬lo+(k:Int)≤hi:=by have:=HN2.out;omega
   have hm:m=k:=by have h:=O.len;unfold ints at h;rw[List.length_map,IN] at h;simp only at h;omega
   subst hm;have HR:=Ai O.rd;clear O HM;go_wp2;go_ret;exact HRG.out wr HR.out b
theorem Vu (n lo hi:Int) (dn:Bool) (w:World) (hf:Ds n lo hi=true):
  Calls prog 263 #[ZI n,ZI lo,ZI hi,.bool dn] w (Nz n lo hi dn w):=by
 have hb:=Gf hf;have HM:=fun(k:Nat) (hk:lo+(k:Int)≤hi) (W:World)=>C4 (lo+(k:Int)) n dn W;have HK:=fun(k:Nat) (hk:lo+(k:Int)≤hi)=>J7 hf (m:=lo+(k:Int)) Aa hk;have HRF:=fun(w':World)=> @QD n lo hi dn w w';obtain⟨N,hN⟩: ∃N,(hi-lo).toNat+1=N:=⟨_,rfl⟩;have hN2:hi=lo+(N:Int)-1:=Aa;have hN3:N≤31:=Aa;rw[hN] at HRF;have HRG:=Ai HRF;have HN2:=Ai hN2;clear hN hf HRF hN2;unfold YB Xp at HM
 go_enter func263,ntmps263
 go_upto_region 2 with fail
 generalize hG:w.alloc _=w0;obtain⟨_,b0,hS⟩:=bJ hG;clear hG;clear hS;generalize(some (⟨w,0,none⟩:Addr))=PA
 go_wp2_with fail
 go_loopw [9,10] (fun v i wr=> ∃(k:Nat) (h:Hd),k≤N∧i=.int .i64 (lo+(k:Int))∧v=.slice h.A h.n h.c∧AR wr w.heap.size 3 h (ints (fdL n dn lo k))∧Below w w wr) (fun _ i _=>(hi+1-intOf i).toNat)
 case atStart=>exact⟨0,⟨PA,0,0⟩,AZ _,by simp,rfl,AR.empty _ _ _ _,b0⟩
 case round=>
  clear b0;obtain⟨k,⟨A,m,c⟩,hk,rfl,rfl,O,b⟩:=hrel
  by_cases hlt:k<N
  ·have hltI:lo+(k:Int)≤hi:=by have:=HN2.out;omega
   have hm:m=k:=by have h:=O.len;unfold ints at h;rw[List.length_map,IN] at h;simp only at h;omega
   have h63:m+1≤1099511627776:=Aa;have HMk:=HM k hltI wr;rw[AA (HK k hltI)] at HMk;have HE:Hid (fdL n dn lo (k+1)=fdL n dn lo k++ [mkC (lo+(k:Int)) n,mkS (lo+(k:Int)) n dn,mkH (lo+(k:Int)) n]):=rfl;have u1:IntKind.i64.wrap (lo+(k:Int)+1)=lo+((k+1:Nat):Int):=by rw[show lo+((k+1:Nat):Int)=lo+(k:Int)+1 by omega];exact Ff _ Aa
   generalize mkC (lo+(k:Int)) n=x at*;generalize mkS (lo+(k:Int)) n dn=y at*;generalize mkH (lo+(k:Int)) n=z at*;clear HM HK hm
   go_wp2_with fail
   refine HMk.mono ?_;rintro e w1 ⟨rfl,b1⟩;clear HMk;replace b:=An b b1;replace O:=O.below b1;have hz:=b.size;have K2:=Br w1 32 (Ziii x y z);have O1:=O.below ((AP _ w1).alloc Bk (.cells (Ziii x y z) 32));have b2:Below w w (w1.alloc (.cells (Ziii x y z) 32)):=Ax
   go_upto_region 6 with fail
   generalize w1.alloc _=w2 at K2 O1 b2⊢;generalize w1.heap.size=q2 at K2⊢;have e2:=K2.cell;have hz2:=b2.size;have R1:=Us w2 x y z 32;have O2:=O1.below ((AP _ w2).alloc Bk (.cells (Ziii x y z) 32));have b3:Below w w (w2.alloc (.cells (Ziii x y z) 32)):=Ax;have hz3:=b3.size
   go_wp2_with (at_builtin;refine Aj rfl _ _ 254 rfl 32 3 24 underlying254 H8 Ah w.heap.size ⟨A,m,c⟩ _ rfl O2 _ 1 1 (ints [x,y,z]) rfl R1 (Ao _) h63 Ah hz3 ?_;intro G wg hn oG gg hat;have HNG:=Ai hn;clear hn)
   have b4:=b3.grown gg b3.size (fun q e=>by have:=(O2.rowlt q e).1;omega)
   go_roundw
   case rel=>exact⟨k+1,G,by omega,by first|rfl|(congr 1;omega),rfl,by rw[HE.out];unfold ints;rw[List.map_append];exact oG,b4⟩
   case measure=>simp[intOf];omega
  ·obtain rfl:k=N:=Aa;have hltI: ¬lo+(k:Int)≤hi:=by have:=HN2.out;omega
   have hm:m=k:=by have h:=O.len;unfold ints at h;rw[List.length_map,IN] at h;simp only at h;omega
   subst hm;have HR:=Ai O.rd;clear O HM HK;go_wp2;go_ret;exact HRG.out wr HR.out b
end Go.Proofs.YtkndcebhjcfphaaGreatDoor
