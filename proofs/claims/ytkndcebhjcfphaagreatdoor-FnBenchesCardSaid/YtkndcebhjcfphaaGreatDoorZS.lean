import Derived.Test.YtkndcebhjcfphaaGreatDoorZF
import Derived.Test.YtkndcebhjcfphaaGreatDoorZR
namespace Go.Proofs.YtkndcebhjcfphaaGreatDoor
open Go.RowKit Go.Proofs.Tryz
set_option maxRecDepth 100000
set_option maxHeartbeats 4000000
set_option linter.all false
def cutA (c:Bs):Bs:=(Lib.cut c [58]).1
def cutB (c:Bs):Bs:=(Lib.cut c [58]).2.1
theorem Ml (c:UInt8): ∀s:Bs,Lib.join (splitC c s) [c]=s
 | []=>by simp[splitC,Lib.join_one]
 |b::r=>by
  have a:=Ml c r
  obtain⟨x,t,e⟩: ∃x t,splitC c r=x::t:=by
   rcases h:splitC c r with _|⟨x,t⟩
   ·exact absurd h (CT c r)
   ·exact⟨x,t,rfl⟩
  by_cases h:b=c
  ·subst h;rw[IE,e,Lib.join_cons];rw[e,Lib.join_cons] at a;rw[<-a]
   simp[Lib.joinTail]
  ·rw[Gm h e,Lib.join_cons];rw[e,Lib.join_cons] at a;rw[<-a]
   rfl
theorem LR {z:Int}:(58:UInt8)∉Lib.itoa z:=λk=>by
 rcases ZD k with h2|h2
 ·exact absurd h2.2 Ah
 ·exact absurd h2 Ah
theorem WL (p r:Bs) (h:(58:UInt8)∉p):cutA (p++58::r)=p∧cutB (p++58::r)=r:=by
 have hi:Lib.index (p++58::r) [58]=(p.length:Int):=by
  rcases Zz 58 (p++58::r) with⟨_,a⟩|⟨d,f,e,a,c⟩
  ·exact absurd Cr a
  ·rw[c];have:splitC 58 (p++58::r)=splitC 58 (d++58::f):=by rw[e]
   rw[jx _ h,jx _ a] at this;rw[(List.cons.inj this).1]
 unfold cutA cutB Lib.cut;rw[hi];have b:(0:Int)<=(p.length:Int):=Aa
 simp[b]
theorem Zi {c:Bs} (h:(58:UInt8)∉c):cutB c= []:=by
 have hi:Lib.index c [58]= -1:=by
  rcases Zz 58 c with⟨a,_⟩|⟨f,g,e,b,d⟩
  ·exact a
  ·exact absurd (by rw[e];simp) h
 unfold cutB Lib.cut;rw[hi]
 simp
theorem cQ:rdB []=false:=by
 rw[JV];intro c;have:=(W9 c).1;exact cj _ this.symm
def YF (c:Bs):Bool:=rdB (cutA c) && rdB (cutB c)
def Oq (c:Bs):Int:=rdN (cutA c)
def Ot (c:Bs):Int:=rdN (cutB c)
def X8 (c:Bs):Bool:=C7 (splitC 58 c) && decide ((splitC 58 c).length=2)
def psD (c:Bs):Int:=((splitC 58 c).map sgN).getD 0 0
def psV (c:Bs):Int:=((splitC 58 c).map sgN).getD 1 0
theorem cO {c:Bs} (h:YF c=true):c=Lib.itoa (Oq c)++58::Lib.itoa (Ot c):=by
 unfold YF at h;rw[CD] at h;obtain⟨d,a⟩:=h
 have f:(58:UInt8)∈c:=by
  rcases Classical.em ((58:UInt8)∈c) with k|k
  ·exact k
  ·rw[Zi k,cQ] at a;cases a
 obtain⟨p,r,e,b⟩: ∃p r,c=p++58::r∧(58:UInt8)∉p:=by
  rcases Zz 58 c with⟨_,k⟩|⟨p,r,e,b,_⟩
  ·exact absurd f k
  ·exact⟨p,r,e,b⟩
 have hcut:=WL p r b;rw[<-e] at hcut;have e1:=(W9 d).1;have e2:=(W9 a).1;unfold Oq Ot;rw[<-e1,<-e2,hcut.1,hcut.2];exact e
theorem cP (a b:Int) (ha: -1000000000000<a∧a<1000000000000) (g: -1000000000000<b∧b<1000000000000):
  X8 (Lib.itoa a++58::Lib.itoa b)=true∧psD (Lib.itoa a++58::Lib.itoa b)=a∧psV (Lib.itoa a++58::Lib.itoa b)=b:=by
 have f:splitC 58 (Lib.itoa a++58::Lib.itoa b)= [Lib.itoa a,Lib.itoa b]:=by
  rw[jx _ LR,Fl LR]
 have c:=Ss (z:=a) Aa Aa;have d:=Ss (z:=b) Aa Aa;unfold X8 psD psV;rw[f];refine⟨?_,?_,?_⟩
 ·unfold C7;simp[c.1,d.1]
 ·simp[c.2]
 ·simp[d.2]
theorem fI {c:Bs} (h:YF c=true) (a: -1000000000000<Oq c∧Oq c<1000000000000) (b: -1000000000000<Ot c∧Ot c<1000000000000):X8 c=true∧psD c=Oq c∧psV c=Ot c:=by
 have e:=cO h;have k:=cP (Oq c) (Ot c) a b;rw[<-e] at k;exact k
theorem Z8 {c:Bs} (h:X8 c=true):YF c=true∧Oq c=psD c∧Ot c=psV c:=by
 unfold X8 at h;rw[CD,BP] at h;obtain⟨d,n⟩:=h;have p:=Ml 58 c;unfold psD psV;generalize splitC 58 c=l at*
 obtain⟨a,b,rfl⟩: ∃a b,l= [a,b]:=by
  match l,n with
  | [a,b],_=>exact⟨a,b,rfl⟩
 unfold C7 at d;simp only[List.all_cons,List.all_nil,Bool.and_true,CD] at d;have j:=Xg d.1;have k:=Xg d.2
 have m:c=Lib.itoa (sgN a)++58::Lib.itoa (sgN b):=by
  rw[<-j.1,<-k.1,<-p];simp[Lib.join]
 have f:=WL (Lib.itoa (sgN a)) (Lib.itoa (sgN b)) LR;rw[<-m] at f;have g:=Sd (z:=sgN a) Aa Aa;have i:=Sd (z:=sgN b) Aa Aa;unfold YF Oq Ot;rw[f.1,f.2];refine⟨by rw[g.1,i.1];rfl,?_,?_⟩
 ·rw[g.2];simp
 ·rw[i.2];simp
def Yh (s:Bs):List Bs:=splitC 44 s
def OI (s:Bs):Bool:=(Yh s).all YF
def rpD (s:Bs):List Int:=(Yh s).map Oq
def rpV (s:Bs):List Int:=(Yh s).map Ot
def Fm (s:Bs):Bool:=OI s && BI (rpD s).length (rpV s).length (rpD s) (rpV s)
def La (s:Bs):Bool:=(Yh s).all X8
def fN (s:Bs):List Int:=(Yh s).map psD
def fP (s:Bs):List Int:=(Yh s).map psV
theorem IT {f g:Bs->Int} {l:List Bs} (h: ∀c∈l,f c=g c):l.map f=l.map g:=List.map_congr_left h
theorem ar (s:Bs):Fm s=(La s && BI (fN s).length (fP s).length (fN s) (fP s))∧(Fm s=true->fN s=rpD s∧fP s=rpV s):=by
 have f:Fm s=true->La s=true∧fN s=rpD s∧fP s=rpV s:=λh=>by
  unfold Fm at h;rw[CD] at h;obtain⟨g,i⟩:=h;unfold OI at g;rw[List.all_eq_true] at g;unfold BI at i;simp only[CD,BP] at i;obtain⟨-,-,d,-,k2⟩:=i;have k: ∀c∈Yh s,0<=Oq c∧Oq c<1000001:=λc a=>Sh d _ (List.mem_map_of_mem a);have hv: ∀c∈Yh s,1300000<=Ot c∧Ot c<=1700000:=λc a=>Jw k2 (List.mem_map_of_mem a)
  have j: ∀c∈Yh s,X8 c=true∧psD c=Oq c∧psV c=Ot c:=λc a=>by
   have:=k c a;have:=hv c a;exact fI (g c a) ⟨by omega,by omega⟩ ⟨by omega,by omega⟩
  refine⟨?_,?_,?_⟩
  ·unfold La;rw[List.all_eq_true];exact λc a=>(j c a).1
  ·exact IT λc a=>(j c a).2.1
  ·exact IT λc a=>(j c a).2.2
 have b:La s=true->OI s=true∧rpD s=fN s∧rpV s=fP s:=λh=>by
  unfold La at h;rw[List.all_eq_true] at h;refine⟨?_,?_,?_⟩
  ·unfold OI;rw[List.all_eq_true];exact λc a=>(Z8 (h c a)).1
  ·exact IT λc a=>(Z8 (h c a)).2.1
  ·exact IT λc a=>(Z8 (h c a)).2.2
 refine⟨?_,λh=>(f h).2⟩
 cases hb:Fm s with
 |true=>
  obtain⟨d,k2,k3⟩:=f hb;unfold Fm at hb;rw[CD] at hb;rw[d,k2,k3,hb.2];rfl
 |false=>
  cases hs:La s with
  |false=>rfl
  |true=>
   obtain⟨d,k2,k3⟩:=b hs;unfold Fm at hb;rw[d,k2,k3] at hb;rw[<-hb]
def Gj (m n:Int):Bool:=inR n 2 1000 && (inR m 1 (n-1) && decide (n*n+m*m<=1000))
def mkG (m n:Int):Int:=((Int.gcd ((Int.gcd (n*n-m*m) (2*m*n):Nat):Int) (n*n+m*m):Nat):Int)
def mkC (m n:Int):Int:=(n*n-m*m)/mkG m n
def mkS (m n:Int) (dn:Bool):Int:=if dn=true then 2*m*n/mkG m n else-(2*m*n/mkG m n)
def mkH (m n:Int):Int:=(n*n+m*m)/mkG m n
theorem JG {m n:Int} (h:Gj m n=true):1<=m∧m<n∧n<=31∧n*n+m*m<=1000∧1<=m*m∧m*m<=1000∧n*n<=1000∧m*n<=1000∧1<=m*n∧m*m<n*n:=by
 unfold Gj at h;simp only[CD,BP] at h;obtain⟨a,b,k⟩:=h;have a:=Ac a;have b:=Ac b;have c:=CL (show 1<=m by omega) (show 1<=m by omega) Aa Aa
 have d:=CL (show 1<=m by omega) (show 1<=n by omega) Aa Aa
 have f:=CL (show m<=n by omega) (show n<=n by omega) Aa Aa
 have g:=CL (show m<=n-1 by omega) (show m<=n by omega) Aa Aa
 have i:(n-1)*n=n*n-n:=by rw[Int.sub_mul,Int.one_mul]
 have j:n<=31:=by
  rcases Eg 31 n with o|o
  ·have:=CL (show 32<=n by omega) (show 32<=n by omega) Aa Aa;omega
  ·exact o
 omega
theorem VJ (m n:Int):mkG m n∣n*n-m*m∧mkG m n∣2*m*n∧mkG m n∣n*n+m*m:=by
 have a:mkG m n∣((Int.gcd (n*n-m*m) (2*m*n):Nat):Int):=Int.gcd_dvd_left ..;exact⟨Int.dvd_trans a (Int.gcd_dvd_left ..),Int.dvd_trans a (Int.gcd_dvd_right ..),Int.gcd_dvd_right ..⟩
theorem Ug {m n:Int} (h:Gj m n=true) (dn:Bool):DO (mkC m n) (mkS m n dn) (mkH m n)=true:=by
 obtain⟨K,L,O,Q,R,S,T,U,V,A⟩:=JG h;obtain⟨⟨c,w⟩,⟨s,z⟩,⟨k,p⟩⟩:=VJ m n;have e2:2*m*n=2*(m*n):=Ga ..;have f:0<=mkG m n:=Int.natCast_nonneg _
 have y:1<=mkG m n:=by
  rcases Eg (mkG m n) 1 with o|o
  ·have:mkG m n=0:=Aa;rw[this,Int.zero_mul] at p;omega
  ·exact o
 have u:mkG m n=((Int.gcd ((Int.gcd (n*n-m*m) (2*m*n):Nat):Int) (n*n+m*m):Nat):Int):=rfl
 have l:(n*n-m*m)*(n*n-m*m)+(2*m*n)*(2*m*n)=(n*n+m*m)*(n*n+m*m):=by
  have B:(m*n)*(m*n)=(n*n)*(m*m):=by rw[Int.mul_comm m n,Ga,<-Ga m n m,Int.mul_comm m n,Ga n m m,<-Ga n n]
  rw[e2];generalize n*n=N at*;generalize m*m=M at*;generalize m*n=P at*;have:2*P*(2*P)=4*(P*P):=by rw[Ga,Int.mul_left_comm P 2 P,<-Ga];rfl
  rw[this,B,Int.sub_mul,Int.mul_sub,Int.mul_sub,Int.add_mul,Int.mul_add,Int.mul_add,Int.mul_comm M N];omega
 have C:mkC m n=c:=by unfold mkC;rw[w,Int.mul_ediv_cancel_left _ Aa]
 have E:2*m*n/mkG m n=s:=by rw[z,Int.mul_ediv_cancel_left _ Aa]
 have v:mkS m n dn=(if dn=true then s else-s):=by unfold mkS;rw[E]
 have D:mkH m n=k:=by unfold mkH;rw[p,Int.mul_ediv_cancel_left _ Aa]
 generalize mkG m n=g at*
 have q:1<=c:=by
  rcases Eg c 1 with o|o
  ·have:=Du f (show 0<= -c by omega);rw[Int.mul_neg] at this;omega
  ·exact o
 have G:1<=s:=by
  rcases Eg s 1 with o|o
  ·have:=Du f (show 0<= -s by omega);rw[Int.mul_neg] at this;omega
  ·exact o
 have F:1<=k:=by
  rcases Eg k 1 with o|o
  ·have:=Du f (show 0<= -k by omega);rw[Int.mul_neg] at this;omega
  ·exact o
 have up: ∀x:Int,1<=x->x<=g*x:=λx X=>by
  have:=CL y (show x<=x by omega) Aa f;omega
 have W:=up c q;have Y:=up s G;have k2:=up k F
 have j:c*c+s*s=k*k:=by
  rw[w,z,p] at l;have e: ∀x:Int,g*x*(g*x)=g*g*(x*x):=λx=>by rw[Ga,Int.mul_left_comm x g x,<-Ga]
  rw[e,e,e,<-Int.mul_add] at l;exact Int.eq_of_mul_eq_mul_left (by have:=CL y y Aa f;omega) l
 have Z:s<=k:=by
  rcases Eg k s with o|o
  ·have H:=CL (show k+1<=s by omega) (show k+1<=s by omega) Aa Aa
   have I:=CL q q Aa Aa;have J:(k+1)*(k+1)=k*k+2*k+1:=by rw[Int.add_mul,Int.mul_add];omega
   omega
  ·exact o
 have i:Int.gcd ((Int.gcd c s:Nat):Int) k=1:=by
  rw[w,z,p,Int.gcd_mul_left,Int.natCast_mul,show((g.natAbs:Nat):Int)=g by omega,Int.gcd_mul_left] at u
  have r:(g.natAbs:Int)=g:=Aa;rw[Int.natCast_mul,r] at u;have t:g*1=g*((Int.gcd ((Int.gcd c s:Nat):Int) k:Nat):Int):=by rw[Int.mul_one];exact u
  have:=Int.eq_of_mul_eq_mul_left Aa t;omega
 rw[C,D,v];unfold DO;have d: ∀x a b:Int,a<=x->x<=b->inR x a b=true:=λx a b r t=>CN r t
 cases dn with
 |true=>
  rw[AA rfl,d k 1 1000 Aa Aa,d c 1 1000 Aa Aa,d s (-1000) 1000 Aa Aa,i]
  simp[j];omega
 |false=>
  rw[Ak Ah,d k 1 1000 Aa Aa,d c 1 1000 Aa Aa,d (-s) (-1000) 1000 Aa Aa,Int.gcd_neg,i,Int.neg_mul_neg]
  simp[j];omega
def addB (b:Ae) (t k l x y d r:Int):Ae:=if recB t k l x y d r=true∧b.log.length/7<200 then {b with log:=b.log++ [t,k,l,x,y,d,r]} else b
def cmT (s:Bs):Bs:=(UP s).getD 1 []
def bsNext (b:Ae) (s:Bs):Ae:=
 if Dm s=true then
  (if cmH s=Av then(if Fm (cmT s)=true then {b with depths:=rpD (cmT s),speeds:=rpV (cmT s),source:=0} else b)
   else if cmH s=AM then(if inR ((Co s).getD 0 0) 0 ((b.depths.length:Int)-1)=true then {b with source:=(Co s).getD 0 0} else b)
   else if cmH s=Ca then(if Gj ((Co s).getD 0 0) ((Co s).getD 1 0)=true∧inR ((Co s).getD 2 0) 0 1=true then {b with cos:=mkC ((Co s).getD 0 0) ((Co s).getD 1 0),sin:=mkS ((Co s).getD 0 0) ((Co s).getD 1 0) (decide ((Co s).getD 2 0=1)),hyp:=mkH ((Co s).getD 0 0) ((Co s).getD 1 0)} else b)
   else if cmH s=AW then addB b ((Co s).getD 0 0) 1 ((Co s).getD 1 0) 0 0 0 0
   else if cmH s=AX then addB b ((Co s).getD 0 0) 2 0 ((Co s).getD 1 0) ((Co s).getD 2 0) ((Co s).getD 3 0) ((Co s).getD 4 0)
   else if cmH s=Bo then addB b ((Co s).getD 0 0) 3 0 0 0 0 0
   else b)
 else b
structure jw (b:Ae):Prop where
 prof:BI b.depths.length b.speeds.length b.depths b.speeds=true
 src:inR b.source 0 ((b.depths.length:Int)-1)=true
 dir:DO b.cos b.sin b.hyp=true
 log:CP b.log (b.log.length/7)=true
 len:b.log.length=b.log.length/7*7
 n:b.log.length/7<=200
theorem jw.valid {b:Ae} (h:jw b):benchLB b=true:=by
 unfold benchLB FT;rw[h.prof,h.src,h.dir,h.log,BC (by have:=h.n;omega)];rfl
theorem Sf {xs ys:List Int} {k:Nat} (h:k*7+6<xs.length):FY (xs++ys) k=FY xs k:=by
 unfold FY;simp only[DE];rw[List.getElem?_append_left Aa,List.getElem?_append_left Aa,List.getElem?_append_left Aa,List.getElem?_append_left Aa,List.getElem?_append_left Aa,List.getElem?_append_left Aa,List.getElem?_append_left Aa]
theorem KK {xs ys:List Int}: ∀n,n*7<=xs.length->CP (xs++ys) n=CP xs n
 |0,_=>rfl
 |n+1,h=>by rw[FZ,FZ,KK n Aa,Sf Aa]
theorem M6 {b:Ae} (h:jw b) (t k l x y d r:Int):jw (addB b t k l x y d r):=by
 unfold addB
 split
 ·next g=>
  have c:=h.len;obtain⟨n,f⟩: ∃n,b.log.length/7=n:=⟨_,rfl⟩;have a:=h.log;rw[f] at c g a;have e:(b.log++ [t,k,l,x,y,d,r]).length/7=n+1:=by rw[Dy,c];simp only[Gt,List.length_nil];omega
  refine⟨h.prof,h.src,h.dir,?_,?_,?_⟩
  ·show CP (b.log++_) ((b.log++_).length/7)=true;rw[e,FZ,KK _ Aa,a,Ha];unfold FY;simp only[DE];rw[List.getElem?_append_right Aa,List.getElem?_append_right Aa,List.getElem?_append_right Aa,List.getElem?_append_right Aa,List.getElem?_append_right Aa,List.getElem?_append_right Aa,List.getElem?_append_right Aa,c];rw[show n*7-n*7=0 by omega,show n*7+1-n*7=1 by omega,show n*7+2-n*7=2 by omega,show n*7+3-n*7=3 by omega,show n*7+4-n*7=4 by omega,show n*7+5-n*7=5 by omega,show n*7+6-n*7=6 by omega]
   exact g.1
  ·show(b.log++_).length=(b.log++_).length/7*7;rw[e,Dy,c];simp only[Gt,List.length_nil];omega
  ·show(b.log++_).length/7<=200;rw[e];omega
 ·exact h
theorem cM {b:Ae} (h:jw b) (s:Bs):jw (bsNext b s):=by
 unfold bsNext
 split
 case isFalse=>exact h
 split
 ·split
  ·next g=>
   unfold Fm at g;rw[CD] at g;refine⟨g.2,?_,h.dir,h.log,h.len,h.n⟩;have a:=g.2;unfold BI at a;rw[CD] at a;have:=Ac a.1;exact CN Aw Aw
  ·exact h
 split
 ·split
  ·next g=>exact⟨h.prof,g,h.dir,h.log,h.len,h.n⟩
  ·exact h
 split
 ·split
  ·next g=>exact⟨h.prof,h.src,Ug g.1 _,h.log,h.len,h.n⟩
  ·exact h
 split
 ·exact M6 h ..
 split
 ·exact M6 h ..
 split
 ·exact M6 h ..
 exact h
