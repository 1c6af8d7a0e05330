import Derived.Test.YtkndcebhjcfphaaGreatDoorZX
import Derived.Test.YtkndcebhjcfphaaGreatDoorZYx3
namespace Go.Proofs.YtkndcebhjcfphaaGreatDoor
open Go.RowKit Go.Proofs.Tryz
set_option maxRecDepth 100000
set_option maxHeartbeats 4000000
set_option linter.all false
theorem Gx (h:Ev) (r:Al) (k:Nat) (v:k<r.ds.length) (w:World) (X:DR w h r) (R:A8 r):
  (BT 333 #[EV h,ZI r.src,GU r,ZI k] w (ZI (r.sq k)):Prop):=by
 have F:r.src<h.S.n:=by have:=X.ns;have:=R.len;have:=R.src;omega
 have d:k<h.S.n:=by have:=X.ns;have:=R.len;omega
 have L:=R.wh_bd;have M:=R.pt_bd v;have U:=R.sq_bd v;have A:Hid ((r.wh-r.pt k)*(r.wh+r.pt k)=r.sq k):=OY k;have a:Hid (r.wh=r.h*r.ss.getD r.src 0∧r.pt k=r.c*r.ss.getD k 0):=⟨rfl,rfl⟩;have B:=Ai X;clear X R v;obtain⟨⟨i,z,t⟩,⟨j,f,u⟩⟩:=h;unfold EV GU;simp only at F d⊢;have C:=(Blk.newN (g:=w) w 30 (CH i z t j f u) Cr).alloc (.cells (Ziii r.c r.s r.h) 32);have D:=Blk.newN (g:=w+1) (w.alloc (.cells (CH i z t j f u) 30)) 32 (Ziii r.c r.s r.h) Cr;have m:Below w w ((w.alloc (.cells (CH i z t j f u) 30)).alloc (.cells (Ziii r.c r.s r.h) 32)):=Ax;have l:=B.out.below m;obtain⟨Q,E,H⟩:=l.s.int F;obtain⟨_,b,I⟩:=l.s.int d;simp only at E b;subst E
 cases b
 clear B l;generalize r.wh=p at*;generalize r.pt k=q at*;generalize r.ss.getD r.src 0=x at*;generalize r.ss.getD k 0=y at*;have V:=Bg (r.h*x) (by have:=a.out.1;omega)
 have W:=Bg (r.c*y) (by have:=a.out.2;omega)
 have wc:=Bg (r.h*x-r.c*y) (by have:=a.out.1;have:=a.out.2;omega)
 have Y:=Bg (r.h*x+r.c*y) (by have:=a.out.1;have:=a.out.2;omega)
 have O:(r.h*x-r.c*y)*(r.h*x+r.c*y)=r.sq k:=by rw[<-a.out.1,<-a.out.2];exact A.out
 have Z:=Bg (r.sq k);have J:(r.src:Int)<(f:Int):=Aa;have K:(k:Int)<(f:Int):=Aa;clear A a L M
 go_enter func333,ntmps333
 go_upto_region 1 with fail
 generalize((w.alloc _).alloc _)=N at C D m H I⊢;have T:=C.cell;have e1:=D.cell
 go_quiet (fail)
 revert nq;intro nq;have G:Below w w (N.drewN nq):=Ba m _;go_wp2;go_ret;exact⟨Bb (by first|exact O|rfl),G⟩
theorem Is (h:Ev) (r:Al) (k:Nat) (f:k<r.ds.length) (w:World) (X:DR w h r) (R:A8 r):
  (BT 334 #[EV h,ZI r.src,GU r,ZI k] w (Zii (rD (r.sq k)) (rU (r.sq k))):Prop):=by
 have C:=R.sq_bd f;have a:=λ(W:World) (X:DR W h r)=>Gx h r k f W X R;have g:=Ai X;clear X R f;obtain⟨⟨t,A,x⟩,⟨u,B,y⟩⟩:=h;unfold EV GU at*;simp only at a⊢
 go_enter func334,ntmps334
 go_upto_region 1 with fail
 generalize n:(((w.alloc _).alloc _).alloc _)=D;obtain⟨i,j,b,d⟩:=WF n;clear n;have l:=g.out.below d;have p:=i.cell;have e1:=j.cell;have c:=a _ l;clear a g l
 go_wp2_with fail
 refine c.mono ?_;rintro e E ⟨rfl,m⟩;replace d:=An d m;replace b:=b.below m b.lt;clear p e1 i j c;have e2:=b.cell;have z:=b.frozen;have q:=b.lt
 go_wp2_with fail
 refine(TC _ _ Aa).mono ?_;rintro e s ⟨rfl,rfl⟩
 go_wp2_with fail
 refine(PO _ _ Aa).mono ?_;rintro e s ⟨rfl,rfl⟩;go_wp2;refine AS (v:=.agg (Zii (rD (r.sq k)) (rU (r.sq k)))) (by simp[results,results334,go_sem,e2,q]) rfl ⟨rfl,Ax⟩
theorem Gg (k:Nat) (z:Bool) (w:World) (a:k+1<1000):
  (GK 261 (Ly k z) w (.tuple (Zii ((if z=true then k else k+1:Nat):Int) ((if z=true then k+1 else k:Nat):Int))):Prop):=by
 have b:=Bg ((k:Int)+1);have e1:((k+1:Nat):Int)=(k:Int)+1:=Aa
 cases z
 ·rw[Ak Ah,Ak Ah,e1]
  go_enter func261,ntmps261
  go_wp2
  go_ret2;exact⟨rfl,rfl⟩
 ·rw[AA rfl,AA rfl,e1]
  go_enter func261,ntmps261
  go_wp2
  go_ret2;exact⟨rfl,rfl⟩
theorem EN (lo hi:Int) (w:World):
  (BT 260 (Zii lo hi) w (.tuple (BN (if ckB lo hi=true then lo else 0) (if ckB lo hi=true then hi else 0) (if ckB lo hi=true then 0 else 3))):Prop):=by
 have c:=λW=>GQ lo W;have f:=λW=>GQ hi W;rw[show inR lo (-1000000000000) 1000000000000=isV lo from rfl] at c;rw[show inR hi (-1000000000000) 1000000000000=isV hi from rfl] at f;have HV:ckB lo hi=(isV lo && isV hi):=rfl;rw[HV];clear HV;generalize isV lo=a at*;generalize isV hi=b at*
 cases a
 ·rw[Bool.false_and,Ak Ah,Ak Ah,Ak Ah]
  go_enter func260,ntmps260
  go_wp2_with fail
  refine(c _).mono ?_;rintro e d ⟨rfl,rfl⟩;go_wp2;refine AS (v:=.tuple (BN 0 0 3)) (by simp[results,results260,go_sem]) rfl ⟨rfl,Ax⟩
 ·rw[Ha]
  cases b
  ·rw[Ak Ah,Ak Ah,Ak Ah]
   go_enter func260,ntmps260
   go_wp2_with fail
   refine(c _).mono ?_;rintro e d ⟨rfl,rfl⟩
   go_wp2_with fail
   refine(f _).mono ?_;rintro e d ⟨rfl,rfl⟩;go_wp2;refine AS (v:=.tuple (BN 0 0 3)) (by simp[results,results260,go_sem]) rfl ⟨rfl,Ax⟩
  ·rw[AA rfl,AA rfl,AA rfl]
   go_enter func260,ntmps260
   go_wp2_with fail
   refine(c _).mono ?_;rintro e d ⟨rfl,rfl⟩
   go_wp2_with fail
   refine(f _).mono ?_;rintro e d ⟨rfl,rfl⟩;go_wp2;refine AS (v:=.tuple (BN lo hi 0)) (by simp[results,results260,go_sem]) rfl ⟨rfl,Ax⟩
def nrK (k:Nat) (z:Bool):Nat:=if z=true then k else k+1
def frK (k:Nat) (z:Bool):Nat:=if z=true then k+1 else k
theorem Og (h:Ev) (r:Al) (k:Nat) (z:Bool) (H:k+1<r.ds.length) (w:World) (X:DR w h r) (R:A8 r):
  (BT 303 #[EV h,ZI r.src,GU r,ZI k,.bool z] w (ZI (r.vd (nrK k z) (frK k z))):Prop):=by
 have x:nrK k z<r.ds.length:=by unfold nrK;split<;>omega
 have v:frK k z<r.ds.length:=by unfold frK;split<;>omega
 have c:=λW=>Gg k z W (by have:=R.len;omega)
 have d:=λ(W:World) (X:DR W h r)=>Gx h r _ x W X R;have i:=λ(W:World) (X:DR W h r)=>Gx h r _ v W X R;have g:=R.can_iff x;have f:=R.can_iff v;have HV:Hid (r.vd (nrK k z) (frK k z)=if r.can (nrK k z)=false then 0 else if r.can (frK k z)=true then 1 else 2):=rfl;change∀W,Calls _ _ _ W λe E=>e=.returned (.tuple (Zii ((nrK k z:Nat):Int) ((frK k z:Nat):Int)))∧W=E at c;rw[g,f] at HV;have y:=Ai X;clear X R H x v g f;generalize nrK k z=a at*;generalize frK k z=b at*;obtain⟨⟨I,M,K⟩,⟨J,N,L⟩⟩:=h;unfold EV GU at*;simp only at d i⊢
 go_enter func303,ntmps303
 go_upto_region 1 with fail
 generalize D:((w.alloc _).alloc _)=O;obtain⟨l,m,n⟩:=Qg D;clear D;have t:=y.out.below n;have B:=l.cell;have e1:=m.cell
 go_wp2_with fail
 refine(c _).mono ?_;rintro e E ⟨rfl,rfl⟩
 go_wp2_with fail
 refine(d _ t).mono ?_;rintro e Q ⟨rfl,s⟩;replace n:=An n s;replace t:=t.below s;replace l:=l.below s l.lt;replace m:=m.below s m.lt;clear B e1 d c y s;have B:=l.cell;have e1:=m.cell;generalize r.sq a=p at*;generalize r.sq b=q at*
 by_cases u:0<p
 ·go_wp2_with fail
  refine(i _ t).mono ?_;rintro e S ⟨rfl,F⟩;have A:=An n F
  by_cases C:0<q
  ·have j:Hid (1=r.vd a b):=by rw[HV.out];simp[u,C];trivial
   go_wp2;go_ret;exact⟨Bb j.out,A⟩
  ·have j:Hid (2=r.vd a b):=by rw[HV.out];simp[u,C];trivial
   go_wp2;go_ret;exact⟨Bb j.out,A⟩
 ·have G:p<=0:=Aa;have j:Hid (0=r.vd a b):=by rw[HV.out];simp[u];trivial
  go_wp2;go_ret;exact⟨Bb j.out,n⟩
def fh (lo hi:Int):Value:=.tuple (BN (if ckB lo hi=true then lo else 0) (if ckB lo hi=true then hi else 0) (if ckB lo hi=true then 0 else 3))
theorem ao {xs:List Int} {n:Int} {k:Nat} (h:FF xs n=true) (b:k+1<xs.length):xs.getD k 0<xs.getD (k+1) 0:=by
 unfold FF Fq at h;have a:=List.all_eq_true.1 h (k+1) (Eo.2 b);unfold EQ at a;simp only[Nat.add_sub_cancel,CD,Bool.or_eq_true,BP] at a;omega
theorem A8.rD_gen {r:Al} (R:A8 r) {k:Nat} (a:k<r.ds.length):0<=rD (r.sq k)∧rD (r.sq k)<=1700000000∧0<=rU (r.sq k)∧rU (r.sq k)<=1700000001∧rD (r.sq k)<=rU (r.sq k):=by
 have b:= @aa (r.sq k);rcases jt (r.can k) with c|c
 ·have:=R.rD_bd' a c;omega
 ·have e:=R.can_iff a;rw[c] at e;have h:=of_decide_eq_false e.symm;have:=LW (n:=r.sq k) Aa;omega
theorem Mz {r:Al} (R:A8 r) {k:Nat} (b:k+1<r.ds.length):r.ds.getD k 0<r.ds.getD (k+1) 0∧r.thick k (k+1)=r.ds.getD (k+1) 0-r.ds.getD k 0∧r.thick (k+1) k=r.ds.getD (k+1) 0-r.ds.getD k 0:=by
 have a:=R.prof;unfold BI at a;simp only[CD,BP] at a;have c:=ao a.2.2.1 b;refine⟨c,?_,?_⟩
 ·unfold Al.thick;omega
 ·unfold Al.thick;omega
theorem Rt (h:Ev) (r:Al) (k:Nat) (U:k+1<r.ds.length) (w:World) (X:DR w h r) (R:A8 r) (bg:1<=rD (r.sq k)+rD (r.sq (k+1))):
  (BT 304 #[EV h,ZI r.src,GU r,ZI k] w (fh (r.crLo k (k+1)) (r.crHi k (k+1))):Prop):=by
 have u:k<r.ds.length:=Aa;have HV:Hid (r.crLo k (k+1)=r.crN k (k+1)/(rU (r.sq k)+rU (r.sq (k+1)))∧r.crHi k (k+1)= -(-(r.crN k (k+1))/(rD (r.sq k)+rD (r.sq (k+1))))):=⟨rfl,rfl⟩;have ra:=R.rD_gen u;have rb:=R.rD_gen U;have qn:=R.crN_bd u U;have tl:=Mz R U;have bo:k+1<12:=by have:=R.len;omega
 have dk:=R.dp u;have aP:=R.dp U;have sk:=R.sp u;have a9:=R.sp U;have dd:=R.dir'
 have HN:Hid (r.crN k (k+1)=(r.ds.getD (k+1) 0-r.ds.getD k 0)*r.c*(r.ss.getD k 0+r.ss.getD (k+1) 0)):=by
  unfold Hid Al.crN Al.pt;rw[tl.2.1,<-Int.mul_add,Ga]
 have T:=λ(W:World) (X:DR W h r)=>Is h r k u W X R;have J:=λ(W:World) (X:DR W h r)=>Is h r (k+1) U W X R;rw[show((k+1:Nat):Int)=(k:Int)+1 by omega] at J
 have I:Hid (∀V,Below w w V->(∃p,h.D.A=some p∧V.cell? (p.add k)=ZS (r.ds.getD k 0)∧V.cell? (p.add (k+1))=ZS (r.ds.getD (k+1) 0))∧ ∃p,h.S.A=some p∧V.cell? (p.add k)=ZS (r.ss.getD k 0)∧V.cell? (p.add (k+1))=ZS (r.ss.getD (k+1) 0)):=λV b=>by
  have hl:=R.len;obtain⟨p,hA,h1⟩:=(X.below b).d.int (k:=k) (by have:=X.nd;omega)
  obtain⟨bw,ar,h2⟩:=(X.below b).d.int (k:=k+1) (by have:=X.nd;omega)
  obtain⟨bd,hB,h3⟩:=(X.below b).s.int (k:=k) (by have:=X.ns;omega)
  obtain⟨bx,au,h4⟩:=(X.below b).s.int (k:=k+1) (by have:=X.ns;omega)
  rw[hA] at ar;rw[hB] at au
  cases ar
  cases au
  exact⟨⟨p,hA,h1,h2⟩,bd,hB,h3,h4⟩
 have aS:k+1<h.D.n:=by have:=X.nd;omega
 have aT:k+1<h.S.n:=by have:=X.ns;have:=R.len;omega
 have HX:=Ai X;clear X R U u tl;unfold fh;have B:=λW=>EN (r.crLo k (k+1)) (r.crHi k (k+1)) W;generalize(if ckB (r.crLo k (k+1)) (r.crHi k (k+1))=true then r.crLo k (k+1) else 0)=z1 at B⊢;generalize(if ckB (r.crLo k (k+1)) (r.crHi k (k+1))=true then r.crHi k (k+1) else 0)=z2 at B⊢;generalize(if ckB (r.crLo k (k+1)) (r.crHi k (k+1))=true then(0:Int) else 3)=z3 at B⊢;obtain⟨⟨A0,n0,c0⟩,⟨A1,n1,c1⟩⟩:=h;unfold EV GU at*;simp only at T J I aS aT⊢;obtain⟨⟨p,hA,-⟩,bd,hB,-⟩:=I.out w G6;subst hA;subst hB
 go_enter func304,ntmps304
 go_upto_region 1 with fail
 generalize hG:(((w.alloc _).alloc _).alloc _)=g;obtain⟨l,m,q,b0⟩:=WF hG;clear hG;have X1:=HX.out.below b0;have wk:=Bg ((k:Int)+1);generalize rD (r.sq k)=d1 at*;generalize rD (r.sq (k+1))=d2 at*;generalize rU (r.sq k)=v1 at*;generalize rU (r.sq (k+1))=v2 at*;have ap:=λ(W:World) (b:Below g g W)=>T W (X1.below b);have aq:=λ(W:World) (b:Below g g W)=>J W (X1.below b);clear T J HX;have bL:=q.lt
 go_cut [10,11] (λx y wx=> ∃F G,x=.pointer (some ⟨F,0,none⟩)∧y=.pointer (some ⟨G,0,none⟩)∧Blk wx F 136 (Zii d1 v1)∧Blk wx G 136 (Zii d2 v2)∧w.heap.size+1+1<F∧w.heap.size+1+1<G∧F≠G∧Below g g wx)
 case first=>
  have aU: ∀o,g.cell? ⟨w,o,none⟩=((CH (some p) n0 c0 (some bd) n1 c1):Array Value)[o]? :=l.cell;have bS:w<g.heap.size:=l.lt;have a1: ∀o,g.cell? ⟨w+1,o,none⟩=((Ziii r.c r.s r.h):Array Value)[o]? :=m.cell;have bT:w+1<g.heap.size:=m.lt
  go_region_held3 (λw'=>(∀o,w'.cell? ⟨w,o,none⟩=((CH (some p) n0 c0 (some bd) n1 c1):Array Value)[o]?)∧(∀o,w'.cell? ⟨w+1,o,none⟩=((Ziii r.c r.s r.h):Array Value)[o]?))
   (exact IJ)
   (first
    |((fail_if_success (clear i));go_at_call 334;refine(ap _ Ax).mono ?_;rintro e z ⟨rfl,C⟩;have i:Below g g z:=(show Below g g _ from Ax).trans (C.mono C9);have bq:=i.size;have aw:=C.size;(try simp at aw);have aV: ∀o,z.cell? ⟨w,o,none⟩=((CH (some p) n0 c0 (some bd) n1 c1):Array Value)[o]? :=λo=>(l.below i l.lt).cell o;have a4:w<z.heap.size:=(l.below i l.lt).lt;have a2: ∀o,z.cell? ⟨w+1,o,none⟩=((Ziii r.c r.s r.h):Array Value)[o]? :=λo=>(m.below i m.lt).cell o;have a6:w+1<z.heap.size:=(m.below i m.lt).lt;obtain⟨bh,bk⟩:=SM C;(try have aE:g<z.heap.size:=by omega);(try have aH:g+1<z.heap.size:=by omega))
    |((fail_if_success (clear j));go_at_call 334;refine(aq _ Ax).mono ?_;rintro e H ⟨rfl,t⟩;have j:Below g g H:=(show Below g g _ from Ax).trans (t.mono C9);have br:=j.size;have ax:=t.size;(try simp at ax);have aC:Below z z H:=(show Below z z _ from Ax).trans (t.mono C9);have a0: ∀o,H.cell? ⟨w,o,none⟩=((CH (some p) n0 c0 (some bd) n1 c1):Array Value)[o]? :=λo=>(l.below j l.lt).cell o;have a5:w<H.heap.size:=(l.below j l.lt).lt;have a3: ∀o,H.cell? ⟨w+1,o,none⟩=((Ziii r.c r.s r.h):Array Value)[o]? :=λo=>(m.below j m.lt).cell o;have a7:w+1<H.heap.size:=(m.below j m.lt).lt;obtain⟨bi,bl⟩:=SM t;(try have aF:g<H.heap.size:=by omega);(try have aI:g+1<H.heap.size:=by omega);(try have aD:z<H.heap.size:=by omega);(try have aG:z+1<H.heap.size:=by omega)))
  all_goals
   go_wp2_with fail
   go_meet
   refine⟨_,_,rfl,rfl,?_,?_,?_,?_,?_,Ax⟩
   ·(repeat(first|(with_reducible refine Blk.drew ?_)|((with_reducible refine Blk.newN _ _ _ ?_);(first|rfl|(simp;done)))|(with_reducible refine Blk.set_all2 (a:=.int .i64 0) (b:=.int .i64 0) ?_)|((with_reducible refine Blk.far ?_ ?_ _);rotate_left 1;(first|omega|(simp<;>omega)))|((with_reducible refine Blk.alloc ?_ _))|((with_reducible refine Blk.below ?_ t ?_);rotate_left 1;(first|omega|(simp<;>omega)))|((with_reducible refine Blk.below ?_ C ?_);rotate_left 1;(first|omega|(simp<;>omega)))))
   ·(repeat(first|(with_reducible refine Blk.drew ?_)|((with_reducible refine Blk.newN _ _ _ ?_);(first|rfl|(simp;done)))|(with_reducible refine Blk.set_all2 (a:=.int .i64 0) (b:=.int .i64 0) ?_)|((with_reducible refine Blk.far ?_ ?_ _);rotate_left 1;(first|omega|(simp<;>omega)))|((with_reducible refine Blk.alloc ?_ _))|((with_reducible refine Blk.below ?_ t ?_);rotate_left 1;(first|omega|(simp<;>omega)))|((with_reducible refine Blk.below ?_ C ?_);rotate_left 1;(first|omega|(simp<;>omega)))))
   ·first|omega|(simp<;>omega)
   ·first|omega|(simp<;>omega)
   ·first|omega|(simp<;>omega)
 case rest=>
  obtain⟨F,G,rfl,rfl,K,L,bH,bI,bn,b3⟩:=hcut;obtain⟨w2,Y⟩: ∃x:World,x=wc:=⟨_,rfl⟩;rw[<-Y] at K L b3;rw[<-Y];clear Y;replace b0:=An b0 b3;replace l:=l.below b3 l.lt;replace m:=m.below b3 m.lt;replace q:=q.below b3 q.lt;obtain⟨⟨_,hA,c1,c2⟩,_,hB,c3,c4⟩:=I.out w2 b0
  cases hA
  cases hB
  rw[Bf _ (k+1) Aa] at c2 c4;clear I ap aq X1 b3;generalize r.ds.getD k 0=O at*;generalize r.ds.getD (k+1) 0=Q at*;generalize r.ss.getD k 0=y1 at*;generalize r.ss.getD (k+1) 0=y2 at*;have aQ:=CL (show Q-O<=1000000 by omega) (show r.c<=1000 by omega) Aa Ah
  have aR: -1000000000<=(Q-O)*r.c:=by
   have:=CL (show O-Q<=1000000 by omega) (show r.c<=1000 by omega) Aa Ah
   have e:(O-Q)*r.c= -((Q-O)*r.c):=by rw[<-Int.neg_mul];congr 1;omega
   omega
  obtain⟨cn,av⟩: ∃n,r.crN k (k+1)=n:=⟨_,rfl⟩;rw[av] at HN HV qn;have wa:=Bg (Q-O);have wb:=Bg ((Q-O)*r.c);have bW:=Bg (y1+y2);have we:(Q-O)*r.c*(y1+y2)=cn:=HN.out.symm;have wf:=Bg cn;have wg:=Bg (v1+v2);have wh:=Bg (d1+d2);have bO:(k:Int)<(n0:Int):=Aa;have bP:(k:Int)+1<(n0:Int):=Aa;have bQ:(k:Int)<(n1:Int):=Aa;have bR:(k:Int)+1<(n1:Int):=Aa;have bM:((k:Int)+1).toNat=k+1:=Aa;have bN:(0:Int)<=(k:Int)+1:=Aa;clear HN aQ aR dk aP sk a9 dd av;have e0:=l.cell;have e1:=m.cell
  go_upto_region 2 with fail
  go_quiet (fail)
  revert nq;intro nq;have B3:Below w w (w2.drewN nq):=Ba b0 _;replace K:Blk (w2.drewN nq) _ _ _:=K;replace L:Blk (w2.drewN nq) _ _ _:=L;replace q:Blk (w2.drewN nq) _ _ _:=q;clear e0 e1 l m c1 c2 c3 c4 b0;generalize w2.drewN nq=w3 at K L q B3⊢;have bJ:F≠w.heap.size+1+1:=Aa;have bK:G≠w.heap.size+1+1:=Aa
  go_upto_region 3 with fail
  rw[HV.out.1,HV.out.2] at B;have aU: ∀o,w3.cell? ⟨F,o,none⟩=((Zii d1 v1):Array Value)[o]? :=K.cell;have a1: ∀o,w3.cell? ⟨G,o,none⟩=((Zii d2 v2):Array Value)[o]? :=L.cell
  go_region_held3 (λw'=>(∀o,w'.cell? ⟨F,o,none⟩=((Zii d1 v1):Array Value)[o]?)∧(∀o,w'.cell? ⟨G,o,none⟩=((Zii d2 v2):Array Value)[o]?))
   (exact IJ)
   (first
    |(go_at_call 210;refine(Ee cn (v1+v2) _ Aa Aa Aa Aa).mono ?_;rintro e w' ⟨rfl,rfl⟩)
    |(go_at_call 167;refine(EB cn (d1+d2) _ Aa Aa Aa Aa).mono ?_;rintro e w' ⟨rfl,rfl⟩)
    |((fail_if_success (clear f));go_at_call 260;refine(B _).mono ?_;rintro e E ⟨rfl,N⟩;have f:Below w3 w3 E:=(show Below w3 w3 _ from Ax).trans (N.mono C9);have a8:=f.size;have Z:=N.size;(try simp at Z);have aJ: ∀o,E.cell? ⟨F,o,none⟩=((Zii d1 v1):Array Value)[o]? :=λo=>(K.below f K.lt).cell o;have aL:F<E:=(K.below f K.lt).lt;have aK: ∀o,E.cell? ⟨G,o,none⟩=((Zii d2 v2):Array Value)[o]? :=λo=>(L.below f L.lt).cell o;have aM:G<E:=(L.below f L.lt).lt;have M:=λo=>(q.below f q.lt).cell o;have aA:=λo=>(q.below f q.lt).frozen o;have aB:=(q.below f q.lt).lt))
  all_goals
   have B4:=An B3 f;go_wp2;refine AS (v:=.tuple (BN z1 z2 z3)) (by simp[results,results304,go_sem,M]) rfl ⟨rfl,Ax⟩
theorem TF (h:Ev) (r:Al) (k:Nat) (z:Bool) (hk:k+1<r.ds.length) (w:World) (X:DR w h r) (R:A8 r) (hca:r.can (nrK k z)=true) (hcb:r.can (frK k z)=false):
  (BT 305 #[EV h,ZI r.src,GU r,ZI k,.bool z] w (fh (r.tuLo (nrK k z) (frK k z)) (r.tuHi (nrK k z) (frK k z))):Prop):=by
 have ab:k<r.ds.length:=Aa;have G:nrK k z<r.ds.length:=by unfold nrK;split<;>omega
 have hf:frK k z<r.ds.length:=by unfold frK;split<;>omega
 have tl:=Mz R hk
 have ae:r.thick (nrK k z) (frK k z)=r.ds.getD (k+1) 0-r.ds.getD k 0:=by
  unfold nrK frK
  cases z
  ·exact tl.2.2
  ·exact tl.2.1
 have HV:Hid (r.tuLo (nrK k z) (frK k z)=2*r.thick (nrK k z) (frK k z)*rD (r.sq (nrK k z))/r.rise (nrK k z) (frK k z)∧r.tuHi (nrK k z) (frK k z)= -(-(2*r.thick (nrK k z) (frK k z)*rU (r.sq (nrK k z)))/r.rise (nrK k z) (frK k z))):=⟨rfl,rfl⟩;have ra:=R.rD_bd' G hca;have qr:=R.rise_bd G hf hca hcb;have af:=R.tuN_bd G hf (q:=rD (r.sq (nrK k z))) Aa Aa;have ag:=R.tuN_bd G hf (q:=rU (r.sq (nrK k z))) Aa Aa;have dk:=R.dp ab;have aw:=R.dp hk;have sn:=R.sp G;have sf:=R.sp hf;have aK:k+1<12:=by have:=R.len;omega
 have E:Hid (r.rise (nrK k z) (frK k z)=r.c*(r.ss.getD (frK k z) 0-r.ss.getD (nrK k z) 0)):=by
  unfold Hid Al.rise Al.pt;rw[Int.mul_sub]
 rw[ae] at HV af ag;have C:=λW=>Gg k z W Aa;change∀W,Calls _ _ _ W λe L=>e=.returned (.tuple (Zii ((nrK k z:Nat):Int) ((frK k z:Nat):Int)))∧W=L at C;have F:=λ(W:World) (X:DR W h r)=>Is h r (nrK k z) G W X R
 have t:Hid (∀V,Below w w V->(∃p,h.D.A=some p∧V.cell? (p.add k)=ZS (r.ds.getD k 0)∧V.cell? (p.add (k+1))=ZS (r.ds.getD (k+1) 0))∧ ∃p,h.S.A=some p∧V.cell? (p.add (nrK k z))=ZS (r.ss.getD (nrK k z) 0)∧V.cell? (p.add (frK k z))=ZS (r.ss.getD (frK k z) 0)):=λV b=>by
  have hl:=R.len;obtain⟨p,J,h1⟩:=(X.below b).d.int (k:=k) (by have:=X.nd;omega)
  obtain⟨aS,U,h2⟩:=(X.below b).d.int (k:=k+1) (by have:=X.nd;omega)
  obtain⟨bd,K,h3⟩:=(X.below b).s.int (k:=nrK k z) (by have:=X.ns;omega)
  obtain⟨aT,Y,h4⟩:=(X.below b).s.int (k:=frK k z) (by have:=X.ns;omega)
  rw[J] at U;rw[K] at Y
  cases U
  cases Y
  exact⟨⟨p,J,h1,h2⟩,bd,K,h3,h4⟩
 have aA:k+1<h.D.n:=by have:=X.nd;omega
 have aB:nrK k z<h.S.n:=by have:=X.ns;have:=R.len;omega
 have aC:frK k z<h.S.n:=by have:=X.ns;have:=R.len;omega
 have HX:=Ai X;clear X R hca hcb hk ab tl ae G hf;unfold fh;have i:=λW=>EN (r.tuLo (nrK k z) (frK k z)) (r.tuHi (nrK k z) (frK k z)) W;generalize(if ckB (r.tuLo (nrK k z) (frK k z)) (r.tuHi (nrK k z) (frK k z))=true then r.tuLo (nrK k z) (frK k z) else 0)=z1 at i⊢;generalize(if ckB (r.tuLo (nrK k z) (frK k z)) (r.tuHi (nrK k z) (frK k z))=true then r.tuHi (nrK k z) (frK k z) else 0)=z2 at i⊢;generalize(if ckB (r.tuLo (nrK k z) (frK k z)) (r.tuHi (nrK k z) (frK k z))=true then(0:Int) else 3)=z3 at i⊢;rw[HV.out.1,HV.out.2] at i;clear HV;generalize nrK k z=a at*;generalize frK k z=b at*;obtain⟨⟨A0,n0,c0⟩,⟨A1,n1,c1⟩⟩:=h;unfold EV GU at*;simp only at F t aA aB aC⊢;obtain⟨⟨p,J,-⟩,bd,K,-⟩:=t.out w G6;subst J;subst K;generalize rD (r.sq a)=d1 at*;generalize rU (r.sq a)=v1 at*
 go_enter func305,ntmps305
 go_upto_region 1 with fail
 generalize Z:(((w.alloc _).alloc _).alloc _)=w1;obtain⟨j,l,g,y⟩:=WF Z;clear Z;have X1:=HX.out.below y
 go_wp2_with fail
 refine(C _).mono ?_;rintro e L ⟨rfl,rfl⟩;have T:=j.cell;have e1:=l.cell;have M:=F _ X1;clear F HX X1 C
 go_wp2_with fail
 refine M.mono ?_;rintro e w2 ⟨rfl,O⟩;clear M T e1;replace y:=An y O;replace j:=j.below O j.lt;replace l:=l.below O l.lt;replace g:=g.below O g.lt;have ac:w+1+1<w2.heap.size:=g.lt
 go_upto_region 3 with fail
 generalize Z:w2.alloc _=x;obtain⟨m,Q⟩:=EX Z;clear Z;replace j:=j.below Q j.lt;replace l:=l.below Q l.lt;replace g:=g.below Q g.lt;replace y:=An y Q;clear Q;generalize w2.heap.size=N at m ac⊢;have ba:N≠w.heap.size+1+1:=Aa;clear O ac;obtain⟨⟨_,J,c1,c2⟩,_,K,c3,c4⟩:=t.out x y
 cases J
 cases K
 rw[Bf _ (k+1) Aa] at c2;clear t;generalize r.ds.getD k 0=x1 at*;generalize r.ds.getD (k+1) 0=x2 at*;generalize r.ss.getD a 0=y1 at*;generalize r.ss.getD b 0=y2 at*;obtain⟨s,hs⟩: ∃s,r.rise a b=s:=⟨_,rfl⟩;rw[hs] at E qr i;obtain⟨m1,ay⟩: ∃n,2*(x2-x1)*d1=n:=⟨_,rfl⟩;obtain⟨m2,az⟩: ∃n,2*(x2-x1)*v1=n:=⟨_,rfl⟩;rw[ay] at af i;rw[az] at ag i;have wa:=Bg (x2-x1);have wb:=Bg (2*(x2-x1));have wc:=Bg (y2-y1);have we:r.c*(y2-y1)=s:=E.out.symm;have wf:=Bg s;have wg:=Bg m1;have wh:=Bg m2;have wk:=Bg ((k:Int)+1);have a5:(k:Int)<(n0:Int):=Aa;have a6:(k:Int)+1<(n0:Int):=Aa;have a7:(a:Int)<(n1:Int):=Aa;have a8:(b:Int)<(n1:Int):=Aa;have a3:((k:Int)+1).toNat=k+1:=Aa;have a4:(0:Int)<=(k:Int)+1:=Aa;clear E dk aw sn sf hs;have T:=j.cell
 go_quiet (fail)
 revert nq;intro nq;have B3:Below w w (x.drewN nq):=Ba y _;replace m:Blk (x.drewN nq) _ _ _:=m;replace j:Blk (x.drewN nq) _ _ _:=j;replace l:Blk (x.drewN nq) _ _ _:=l;replace g:Blk (x.drewN nq) _ _ _:=g;replace c3:(x.drewN nq).cell? _=_:=c3;replace c4:(x.drewN nq).cell? _=_:=c4;clear T c1 c2 y
 go_upto_region 4 with fail
 generalize x.drewN nq=w4 at m j l g c3 c4 B3⊢;have T:=j.cell;have e1:=l.cell
 go_quiet (fail)
 revert nq;intro nq;have B4:Below w w (w4.drewN nq):=Ba B3 _;replace m:Blk (w4.drewN nq) _ _ _:=m;replace g:Blk (w4.drewN nq) _ _ _:=g;clear T e1 c3 c4 B3 j l
 go_upto_region 5 with fail
 generalize w4.drewN nq=w5 at m g B4⊢;have a9: ∀o,w5.cell? ⟨N,o,none⟩=((Zii d1 v1):Array Value)[o]? :=m.cell
 go_region_held3 (λL=>(∀o,L.cell? ⟨N,o,none⟩=((Zii d1 v1):Array Value)[o]?))
  (exact IJ)
  (first
   |(go_at_call 210;refine(Ee m1 s _ Aa Aa Aa Aa).mono ?_;rintro e L ⟨rfl,rfl⟩)
   |(go_at_call 167;refine(EB m2 s _ Aa Aa Aa Aa).mono ?_;rintro e L ⟨rfl,rfl⟩)
   |((fail_if_success (clear f));go_at_call 260;refine(i _).mono ?_;rintro e I ⟨rfl,B⟩;have f:Below w5 w5 I:=(show Below w5 w5 _ from Ax).trans (B.mono C9);have aD:=f.size;have H:=B.size;(try simp at H);have an: ∀o,I.cell? ⟨N,o,none⟩=((Zii d1 v1):Array Value)[o]? :=λo=>(m.below f m.lt).cell o;have ao:N<I.heap.size:=(m.below f m.lt).lt;have u:=λo=>(g.below f g.lt).cell o;have al:=λo=>(g.below f g.lt).frozen o;have am:=(g.below f g.lt).lt))
 all_goals
  have B5:=An B4 f;go_wp2;refine AS (v:=.tuple (BN z1 z2 z3)) (by simp[results,results305,go_sem,u]) rfl ⟨rfl,Ax⟩
theorem ee (r:Al) (a b:Nat):r.crLo a b=r.crLo b a∧r.crHi a b=r.crHi b a:=by
 have e:r.crN a b=r.crN b a:=by
  unfold Al.crN Al.thick;rw[Int.add_comm (r.pt a),show(r.ds.getD b 0-r.ds.getD a 0).natAbs=(r.ds.getD a 0-r.ds.getD b 0).natAbs by omega]
 unfold Al.crLo Al.crHi;rw[e,Int.add_comm (rU (r.sq a)),Int.add_comm (rD (r.sq a))];exact⟨rfl,rfl⟩
theorem fy (r:Al) (k:Nat) (z:Bool):r.crLo (nrK k z) (frK k z)=r.crLo k (k+1)∧r.crHi (nrK k z) (frK k z)=r.crHi k (k+1):=by
 cases z
 ·exact ee r (k+1) k
 ·exact⟨rfl,rfl⟩
def UV (lo hi v:Int):Value:=.tuple #[Zii (if ckB lo hi=true then lo else 0) (if ckB lo hi=true then hi else 0),ZI (if ckB lo hi=true then v else 0),ZI (if ckB lo hi=true then 0 else 3)]
theorem Mp (h:Ev) (r:Al) (k:Nat) (z:Bool) (I:k+1<r.ds.length) (w:World) (X:DR w h r) (R:A8 r) (hca:r.can (nrK k z)=true):
  (BT 259 #[EV h,ZI r.src,GU r,ZI k,.bool z] w (UV (r.paLo (nrK k z) (frK k z)) (r.paHi (nrK k z) (frK k z)) (r.vd (nrK k z) (frK k z))):Prop):=by
 have J:k<r.ds.length:=Aa;have Z:nrK k z<r.ds.length:=by unfold nrK;split<;>omega
 have E:1<=rD (r.sq k)+rD (r.sq (k+1)):=by
  have h1:=R.rD_gen J;have h2:=R.rD_gen I;have Y:=(R.rD_bd' Z hca).1;unfold nrK at Y
  split at Y<;>omega
 have i:=λ(W:World) (X:DR W h r)=>Og h r k z I W X R;have f:=λ(W:World) (X:DR W h r)=>Rt h r k I W X R E;have F:=λ(hcb:r.can (frK k z)=false) (W:World) (X:DR W h r)=>TF h r k z I W X R hca hcb;have M:r.vd (nrK k z) (frK k z)=if r.can (frK k z)=true then 1 else 2:=by unfold Al.vd;rw[hca];rfl
 have B:=fy r k z;have L:r.paLo (nrK k z) (frK k z)=if r.can (frK k z)=true then r.crLo (nrK k z) (frK k z) else r.tuLo (nrK k z) (frK k z):=rfl;have K:r.paHi (nrK k z) (frK k z)=if r.can (frK k z)=true then r.crHi (nrK k z) (frK k z) else r.tuHi (nrK k z) (frK k z):=rfl;have D:=Ai X;clear X R E Z I J hca;rw[L,K];rw[M] at i⊢;clear L K M;rcases jt (r.can (frK k z)) with hcb|hcb
 ·rw[AA hcb] at i;rw[AA hcb,AA hcb,AA hcb,B.1,B.2];unfold UV;unfold fh at f;generalize r.crLo k (k+1)=lo at*;generalize r.crHi k (k+1)=hi at*;clear F B;obtain⟨⟨A0,n0,c0⟩,⟨A1,n1,c1⟩⟩:=h;unfold EV GU at*;simp only at i f⊢;rcases jt (ckB lo hi) with hc|hc
  ·simp only[hc,reduceIte] at f⊢
   go_enter func259,ntmps259
   go_upto_region 1 with fail
   generalize q:(((w.alloc _).alloc _).alloc _)=S;obtain⟨b,c,a,d⟩:=WF q;clear q;have g:=D.out.below d;have s:=b.cell;have e1:=c.cell;have m:=i _ g;clear i
   go_wp2_with fail
   refine m.mono ?_;rintro e T ⟨rfl,j⟩;clear m s e1 D;replace d:=An d j;replace g:=g.below j;replace b:=b.below j b.lt;replace c:=c.below j c.lt;replace a:=a.below j a.lt;clear j;have s:=b.cell;have e1:=c.cell;have l:=f _ g;clear f
   go_wp2_with fail
   refine l.mono ?_;rintro e u ⟨rfl,n⟩;clear l s e1;replace d:=An d n;replace b:=b.below n b.lt;replace c:=c.below n c.lt;replace a:=a.below n a.lt;clear n
   go_upto_region 5 with fail
   generalize q:u.alloc _=U;obtain⟨t,p⟩:=EX q;clear q;replace b:=b.below p b.lt;replace c:=c.below p c.lt;replace a:=a.below p a.lt;replace d:=An d p;clear p;generalize u.heap.size=N at t⊢;have V:=t.cell;have e2:=a.cell;have O:=a.frozen;have G:=a.lt;go_wp2;refine AS (v:=.tuple #[Zii lo hi,ZI 1,ZI 0]) (by simp[results,results259,go_sem,e2,G]) rfl ⟨rfl,Ax⟩
  ·simp only[hc,Ie,reduceIte] at f⊢
   go_enter func259,ntmps259
   go_upto_region 1 with fail
   generalize q:(((w.alloc _).alloc _).alloc _)=S;obtain⟨b,c,a,d⟩:=WF q;clear q;have g:=D.out.below d;have s:=b.cell;have e1:=c.cell;have m:=i _ g;clear i
   go_wp2_with fail
   refine m.mono ?_;rintro e T ⟨rfl,j⟩;clear m s e1 D;replace d:=An d j;replace g:=g.below j;replace b:=b.below j b.lt;replace c:=c.below j c.lt;replace a:=a.below j a.lt;clear j;have s:=b.cell;have e1:=c.cell;have l:=f _ g;clear f
   go_wp2_with fail
   refine l.mono ?_;rintro e u ⟨rfl,n⟩;clear l s e1;replace d:=An d n;replace a:=a.below n a.lt;clear n
   go_upto_region 5 with fail
   generalize q:u.alloc _=U;obtain⟨t,p⟩:=EX q;clear q;replace a:=a.below p a.lt;replace d:=An d p;clear p;generalize u.heap.size=N at t⊢;have e2:=a.cell;have O:=a.frozen;have G:=a.lt;go_wp2;refine AS (v:=.tuple #[Cq,ZI 0,ZI 3]) (by simp[results,results259,go_sem,e2,G]) rfl ⟨rfl,Ax⟩
 ·have y: ¬r.can (frK k z)=true:=W6;rw[Ak y] at i;rw[Ak y,Ak y,Ak y];have C:=F hcb;unfold UV;unfold fh at f C;generalize(if ckB (r.crLo k (k+1)) (r.crHi k (k+1))=true then r.crLo k (k+1) else 0)=y1 at f;generalize(if ckB (r.crLo k (k+1)) (r.crHi k (k+1))=true then r.crHi k (k+1) else 0)=y2 at f;generalize(if ckB (r.crLo k (k+1)) (r.crHi k (k+1))=true then(0:Int) else 3)=y3 at f;generalize r.tuLo (nrK k z) (frK k z)=lo at*;generalize r.tuHi (nrK k z) (frK k z)=hi at*;clear F B y hcb;obtain⟨⟨A0,n0,c0⟩,⟨A1,n1,c1⟩⟩:=h;unfold EV GU at*;simp only at i f C⊢;rcases jt (ckB lo hi) with hc|hc
  ·simp only[hc,reduceIte] at C⊢
   go_enter func259,ntmps259
   go_upto_region 1 with fail
   generalize q:(((w.alloc _).alloc _).alloc _)=S;obtain⟨b,c,a,d⟩:=WF q;clear q;have g:=D.out.below d;have s:=b.cell;have e1:=c.cell;have m:=i _ g;clear i
   go_wp2_with fail
   refine m.mono ?_;rintro e T ⟨rfl,j⟩;clear m s e1 D;replace d:=An d j;replace g:=g.below j;replace b:=b.below j b.lt;replace c:=c.below j c.lt;replace a:=a.below j a.lt;clear j;have s:=b.cell;have e1:=c.cell;have l:=f _ g;clear f
   go_wp2_with fail
   refine l.mono ?_;rintro e u ⟨rfl,n⟩;clear l s e1;replace d:=An d n;replace g:=g.below n;replace b:=b.below n b.lt;replace c:=c.below n c.lt;replace a:=a.below n a.lt;clear n;have H:w+1+1<u.heap.size:=a.lt;have Q:=d.size
   go_upto_region 5 with fail
   generalize q:u.alloc _=U;obtain⟨t,p⟩:=EX q;clear q;replace g:=g.below p;replace b:=b.below p b.lt;replace c:=c.below p c.lt;replace a:=a.below p a.lt;replace d:=An d p;clear p;generalize u.heap.size=N at t H Q⊢;have s:=b.cell;have e1:=c.cell;have x:=C _ g;clear C
   go_wp2_with fail
   refine x.mono ?_;rintro e w5 ⟨rfl,A⟩;clear x s e1 g b c;replace d:=An d A;replace a:=a.below A a.lt;replace t:=t.below A t.lt;clear A;have V:=t.cell;have fS:=t.frozen;have e2:=a.cell;have O:=a.frozen;have G:=a.lt;go_wp2;refine AS (v:=.tuple #[Zii lo hi,ZI 2,ZI 0]) (by simp[results,results259,go_sem,e2,G]) rfl ⟨rfl,Ax⟩
  ·simp only[hc,Ie,reduceIte] at C⊢
   go_enter func259,ntmps259
   go_upto_region 1 with fail
   generalize q:(((w.alloc _).alloc _).alloc _)=S;obtain⟨b,c,a,d⟩:=WF q;clear q;have g:=D.out.below d;have s:=b.cell;have e1:=c.cell;have m:=i _ g;clear i
   go_wp2_with fail
   refine m.mono ?_;rintro e T ⟨rfl,j⟩;clear m s e1 D;replace d:=An d j;replace g:=g.below j;replace b:=b.below j b.lt;replace c:=c.below j c.lt;replace a:=a.below j a.lt;clear j;have s:=b.cell;have e1:=c.cell;have l:=f _ g;clear f
   go_wp2_with fail
   refine l.mono ?_;rintro e u ⟨rfl,n⟩;clear l s e1;replace d:=An d n;replace g:=g.below n;replace b:=b.below n b.lt;replace c:=c.below n c.lt;replace a:=a.below n a.lt;clear n;have H:w+1+1<u.heap.size:=a.lt;have Q:=d.size
   go_upto_region 5 with fail
   generalize q:u.alloc _=U;obtain⟨t,p⟩:=EX q;clear q;replace g:=g.below p;replace b:=b.below p b.lt;replace c:=c.below p c.lt;replace a:=a.below p a.lt;replace d:=An d p;clear p;generalize u.heap.size=N at t H Q⊢;have s:=b.cell;have e1:=c.cell;have x:=C _ g;clear C
   go_wp2_with fail
   refine x.mono ?_;rintro e w5 ⟨rfl,A⟩;clear x s e1 g b c;replace d:=An d A;replace a:=a.below A a.lt;replace t:=t.below A t.lt;clear A;have V:=t.cell;have fS:=t.frozen;have e2:=a.cell;have O:=a.frozen;have G:=a.lt;go_wp2;refine AS (v:=.tuple #[Cq,ZI 0,ZI 3]) (by simp[results,results259,go_sem,e2,G]) rfl ⟨rfl,Ax⟩
def EG:Option AU->Value
 |none=> .tuple (Da 0 false 0 0 0 3)
 |some y=> .tuple #[Hy y.st,ZI y.ev,ZI 0]
theorem FC (r:Al) (w:World):
  (BT 162 #[ZI r.src,GU r] w (Hy r.first):Prop):=by
 unfold GU Hy Al.first;simp only
 go_enter func162,ntmps162
 go_wp2;refine AS (v:=.agg (A7 r.src (decide (0<r.s)) 0 0)) (by simp[results,results162,go_sem]) rfl ⟨rfl,Ax⟩
theorem TR (h:Ev) (k:Nat) (lo hi:Int) (w:World) (s:k<1000) (g:h.D.n<1000):
  (BT 258 #[EV h,A7 k true lo hi] w (.tuple (Ly ((k:Int)) (decide ((k:Int)<(h.D.n:Int)-1)))):Prop):=by
 obtain⟨⟨l,i,p⟩,⟨m,t,q⟩⟩:=h;unfold EV;simp only at g⊢;have u:=Bg ((i:Int)-1)
 go_enter func258,ntmps258
 go_upto_region 1 with fail
 generalize a:((w.alloc _).alloc _)=j;obtain⟨b,c,d⟩:=Qg a;clear a;have r:=b.cell;have e1:=c.cell
 go_wp2_with fail
 go_quiet (fail)
 revert nq;intro nq;have f:Below w w (j.drewN nq):=Ba d _;go_wp2
 go_ret2;exact⟨rfl,f⟩
theorem TQ (h:Ev) (k:Nat) (lo hi:Int) (w:World) (q:k<1000) (f:h.D.n<1000):
  (BT 258 #[EV h,A7 k false lo hi] w (.tuple (Ly ((k:Int)-1) (decide (0<(k:Int))))):Prop):=by
 obtain⟨⟨i,r,m⟩,⟨j,s,p⟩⟩:=h;unfold EV;simp only at f⊢;have t:=Bg ((k:Int)-1)
 go_enter func258,ntmps258
 go_upto_region 1 with fail
 generalize a:((w.alloc _).alloc _)=g;obtain⟨l,b,c⟩:=Qg a;clear a;have e1:=b.cell
 go_wp2_with fail
 go_quiet (fail)
 revert nq;intro nq;have d:Below w w (g.drewN nq):=Ba c _;go_wp2;refine AS (v:=.tuple (Ly ((k:Int)-1) (decide (0<(k:Int))))) (by simp[results,results258,go_sem]) rfl ⟨rfl,d⟩
theorem It (h:Ev) (r:Al) (x:En) (w:World) (X:DR w h r) (R:A8 r) (S:Jt r x):
  (BT 205 #[EV h,ZI r.src,GU r,Hy x] w (EG (r.step x)):Prop):=by
 have HX:=Ai X;have J:=R.len;have ad:=X.nd;have Z:=S.k;obtain⟨k,dn,lo,hi⟩:=x;simp only at Z
 cases dn
 ·by_cases C:0<k
  ·obtain⟨j,rfl⟩: ∃j,k=j+1:=⟨k-1,by omega⟩
   have aa:r.nxt ⟨j+1,false,lo,hi⟩=some (j+1,j):=by unfold Al.nxt;rw[Ak (show¬(En.mk (j+1) false lo hi).dn=true from Bool.false_ne_true),AA C];rfl
   have l:=λW=>TQ h (j+1) lo hi W Aa Aa;rw[show((j+1:Nat):Int)=(j:Int)+1 by omega,BC (show 0<(j:Int)+1 by omega),Int.add_sub_cancel] at l
   have hca:r.can (j+1)=true:=S.can;have Y:j<r.ds.length:=Aa;have V:(j+1)<r.ds.length:=Aa;have g:=λ(W:World) (X:DR W h r)=>Mp h r j false (show j+1<r.ds.length by omega) W X R hca
   change∀(W:World),DR W h r->Calls _ _ _ W λe w'=>e=.returned (UV (r.paLo (j+1) j) (r.paHi (j+1) j) (r.vd (j+1) j))∧_ at g;have A:=λW=>Gg j false W Aa;have ab:r.vd (j+1) j=if r.can j=true then 1 else 2:=by unfold Al.vd;rw[hca];rfl
   rw[ab] at g
   have O:r.step ⟨(j+1),false,lo,hi⟩=if isV (r.paLo (j+1) j)=true∧isV (r.paHi (j+1) j)=true∧isV (lo+r.paLo (j+1) j)=true∧isV (hi+r.paHi (j+1) j)=true then
      (if r.can j=true then some ⟨⟨j,false,lo+r.paLo (j+1) j,hi+r.paHi (j+1) j⟩,1,r.paLo (j+1) j,r.paHi (j+1) j⟩
       else some ⟨⟨(j+1),!false,lo+r.paLo (j+1) j,hi+r.paHi (j+1) j⟩,2,r.paLo (j+1) j,r.paHi (j+1) j⟩)
     else none:=by unfold Al.step;rw[aa]
   rw[O];have qp:=R.pa_bd V Y hca;have ag:=Ac S.lo;have af:=Ac S.hi;simp only at ag af;clear O aa S R X ab hca V Y C Z ad J;obtain⟨⟨A0,n0,c0⟩,⟨A1,n1,c1⟩⟩:=h;unfold UV at g;unfold Hy EV GU at*;simp only at l g⊢;generalize r.paLo (j+1) j=s at*;generalize r.paHi (j+1) j=t at*;have z:ckB s t=(isV s && isV t):=rfl;have p:ckB (lo+s) (hi+t)=(isV (lo+s) && isV (hi+t)):=rfl;have ak:=Bg (lo+s);have al:=Bg (hi+t);have u:=λW=>EN (lo+s) (hi+t) W;rcases jt (ckB s t) with hc1|hc1
   rotate_left
   rw[Ak (λc=>by rw[z,c.1,c.2.1] at hc1;cases hc1)]
   unfold EG;simp only[hc1,Ie,reduceIte] at g;clear z p u A ak al
   rotate_left
   simp only[hc1,reduceIte] at g;rcases jt (ckB (lo+s) (hi+t)) with hc2|hc2
   rotate_left
   rw[Ak (λc=>by rw[p,c.2.2.1,c.2.2.2] at hc2;cases hc2)]
   unfold EG;simp only[hc2,Ie,reduceIte] at u;clear z p A;generalize(if r.can j=true then(1:Int) else 2)=vv at g
   rotate_left 2
   simp only[hc2,reduceIte] at u
   have G:isV s=true∧isV t=true∧isV (lo+s)=true∧isV (hi+t)=true:=by
    rw[z,CD] at hc1;rw[p,CD] at hc2;exact⟨hc1.1,hc1.2,hc2.1,hc2.2⟩
   rw[AA G];clear G z p hc1 hc2;rcases jt (r.can j) with hcb|hcb
   rw[AA hcb];rw[AA hcb] at g;unfold EG;clear hcb
   rotate_left
   rw[Ak W6];rw[Ak W6] at g;unfold EG;clear hcb
   rotate_left 2
   all_goals
    rw[show((j+1:Nat):Int)=(j:Int)+1 by omega]
    go_enter func205,ntmps205
    go_upto_region 1 with fail
    generalize m:((((w.alloc _).alloc _).alloc _).alloc _)=w1;obtain⟨y,B,b,a,d⟩:=Y3 m;clear m;have L:=HX.out.below d;have U:=y.cell;have e2:=b.cell
    go_wp2_with fail
    refine(l _).mono ?_;rintro e I ⟨rfl,q⟩;clear l;replace d:=An d q;replace L:=L.below q;replace y:=y.below q y.lt;replace B:=B.below q B.lt;replace b:=b.below q b.lt;replace a:=a.below q a.lt;clear q U e2;have e2:=b.cell;have H:w+1+1+1<I.heap.size:=a.lt;have hz:=d.size
    go_upto_region 3 with fail
    clear e2;generalize m:I.alloc _=w3;obtain⟨i,f⟩:=EX m;clear m;replace L:=L.below f;replace y:=y.below f y.lt;replace B:=B.below f B.lt;replace b:=b.below f b.lt;replace a:=a.below f a.lt;replace d:=An d f;clear f;generalize I.heap.size=QO at i H hz⊢;have U:=y.cell;have e1:=B.cell;have e2:=b.cell;have N:=g _ L;clear g
    go_wp2_with fail
    refine N.mono ?_;rintro e M ⟨rfl,Q⟩;clear N U e1 e2 L y B;replace d:=An d Q;replace i:=i.below Q i.lt;replace b:=b.below Q b.lt;replace a:=a.below Q a.lt;clear Q
   ·have K:=Br M 136 Cq;have ai:=d.size;replace i:=i.alloc (.cells Cq 136);replace b:=b.alloc (.cells Cq 136);replace a:=a.alloc (.cells Cq 136);replace d:Below w w (M.alloc (.cells Cq 136)):=Ax
    go_upto_region 9 with fail
    generalize M.alloc _=w5 at K i b a d⊢;generalize M.heap.size=QB at K ai⊢;have E:=a.cell;have f3:=a.frozen;have F:=a.lt;go_wp2;refine AS (v:=.tuple (Da 0 false 0 0 0 3)) (by simp[results,results205,go_sem,E,F]) rfl ⟨by first|rfl|simp,Ax⟩
   all_goals
    go_upto_region 9 with fail
    generalize m:M.alloc _=w5;obtain⟨K,f⟩:=EX m;clear m;replace i:=i.below f i.lt;replace b:=b.below f b.lt;replace a:=a.below f a.lt;replace d:=An d f;clear f;generalize M.heap.size=QB at K⊢;have eB:=K.cell;have e2:=b.cell
    go_wp2_with fail
    refine(u _).mono ?_;rintro e w6 ⟨rfl,T⟩;clear u eB e2;replace d:=An d T;replace i:=i.below T i.lt;replace b:=b.below T b.lt;replace a:=a.below T a.lt;clear T K
   rotate_right
   ·have aj:=d.size;replace a:=a.alloc (.cells Cq 136);replace d:Below w w (w6.alloc (.cells Cq 136)):=Ax
    go_upto_region 12 with fail
    generalize w6.alloc _=w7 at a d⊢;generalize w6.heap.size=QS at aj⊢;have E:=a.cell;have f3:=a.frozen;have F:=a.lt;go_wp2;refine AS (v:=.tuple (Da 0 false 0 0 0 3)) (by simp[results,results205,go_sem,E,F]) rfl ⟨by first|rfl|simp,Ax⟩
   all_goals
    go_upto_region 12 with fail
    generalize m:w6.alloc _=w7;obtain⟨KS,f⟩:=EX m;clear m;replace i:=i.below f i.lt;replace b:=b.below f b.lt;replace a:=a.below f a.lt;replace d:=An d f;clear f;generalize w6.heap.size=QS at KS⊢;have eS:=KS.cell;have eO:=i.cell;have fO:=i.frozen;have e2:=b.cell;have E:=a.cell;have f3:=a.frozen;have F:=a.lt
   ·simp only[Ie,reduceIte] at A
    go_wp2_with fail
    refine(A _).mono ?_;rintro e w' ⟨rfl,rfl⟩;go_wp2;refine AS (v:=.tuple (Da j false (lo+s) (hi+t) 1 0)) (by simp[results,results205,go_sem,E,F]) rfl ⟨by first|rfl|simp,Ax⟩
   ·go_wp2;refine AS (v:=.tuple (Da ((j:Int)+1) true (lo+s) (hi+t) 2 0)) (by simp[results,results205,go_sem,E,F]) rfl ⟨by first|rfl|simp,Ax⟩
  ·obtain rfl:k=0:=Aa;have O:r.step ⟨0,false,lo,hi⟩=some ⟨⟨0,true,lo,hi⟩,3,0,0⟩:=by unfold Al.step Al.nxt;rfl
   have l:=λW=>TQ h 0 lo hi W Aa Aa;rw[BR (show¬0<((0:Nat):Int) by omega)] at l
   rw[O];clear O S R X C Z ad J;obtain⟨⟨A0,n0,c0⟩,⟨A1,n1,c1⟩⟩:=h;unfold EG Hy EV GU at*;simp only at l⊢
   go_enter func205,ntmps205
   go_upto_region 1 with fail
   generalize m:((((w.alloc _).alloc _).alloc _).alloc _)=w1;obtain⟨y,B,b,a,d⟩:=Y3 m;clear m;have U:=y.cell;have e2:=b.cell
   go_wp2_with fail
   refine(l _).mono ?_;rintro e I ⟨rfl,q⟩;clear l;replace d:=An d q;replace b:=b.below q b.lt;replace a:=a.below q a.lt;clear q U e2;have e2:=b.cell;have H:w+1+1+1<I.heap.size:=a.lt;have hz:=d.size
   go_upto_region 3 with fail
   clear e2;generalize m:I.alloc _=w3;obtain⟨i,f⟩:=EX m;clear m;replace b:=b.below f b.lt;replace a:=a.below f a.lt;replace d:=An d f;clear f;generalize I.heap.size=QO at i H hz⊢;have eO:=i.cell;have fO:=i.frozen;have e2:=b.cell;have E:=a.cell;have f3:=a.frozen;have F:=a.lt;go_wp2;refine AS (v:=.tuple (Da ((0:Nat):Int) true lo hi 3 0)) (by simp[results,results205,go_sem,E,F]) rfl ⟨by first|rfl|simp,Ax⟩
 ·by_cases C:k+1<r.ds.length
  ·have aa:r.nxt ⟨k,true,lo,hi⟩=some (k,k+1):=by unfold Al.nxt;rw[AA rfl,AA C]
   have l:=λW=>TR h k lo hi W Aa Aa;rw[BC (show(k:Int)<(h.D.n:Int)-1 by omega)] at l
   have hca:r.can k=true:=S.can;have Y:(k+1)<r.ds.length:=Aa;have V:k<r.ds.length:=Aa;have g:=λ(W:World) (X:DR W h r)=>Mp h r k true C W X R hca;change∀(W:World),DR W h r->Calls _ _ _ W λe w'=>e=.returned (UV (r.paLo k (k+1)) (r.paHi k (k+1)) (r.vd k (k+1)))∧_ at g;have A:=λW=>Gg k true W Aa;have ab:r.vd k (k+1)=if r.can (k+1)=true then 1 else 2:=by unfold Al.vd;rw[hca];rfl
   rw[ab] at g
   have O:r.step ⟨k,true,lo,hi⟩=if isV (r.paLo k (k+1))=true∧isV (r.paHi k (k+1))=true∧isV (lo+r.paLo k (k+1))=true∧isV (hi+r.paHi k (k+1))=true then
      (if r.can (k+1)=true then some ⟨⟨(k+1),true,lo+r.paLo k (k+1),hi+r.paHi k (k+1)⟩,1,r.paLo k (k+1),r.paHi k (k+1)⟩
       else some ⟨⟨k,!true,lo+r.paLo k (k+1),hi+r.paHi k (k+1)⟩,2,r.paLo k (k+1),r.paHi k (k+1)⟩)
     else none:=by unfold Al.step;rw[aa]
   rw[O];have qp:=R.pa_bd V Y hca;have ag:=Ac S.lo;have af:=Ac S.hi;simp only at ag af;clear O aa S R X ab hca V Y C Z ad J;obtain⟨⟨A0,n0,c0⟩,⟨A1,n1,c1⟩⟩:=h;unfold UV at g;unfold Hy EV GU at*;simp only at l g⊢;generalize r.paLo k (k+1)=s at*;generalize r.paHi k (k+1)=t at*;have z:ckB s t=(isV s && isV t):=rfl;have p:ckB (lo+s) (hi+t)=(isV (lo+s) && isV (hi+t)):=rfl;have ak:=Bg (lo+s);have al:=Bg (hi+t);have u:=λW=>EN (lo+s) (hi+t) W;rcases jt (ckB s t) with hc1|hc1
   rotate_left
   rw[Ak (λc=>by rw[z,c.1,c.2.1] at hc1;cases hc1)]
   unfold EG;simp only[hc1,Ie,reduceIte] at g;clear z p u A ak al
   rotate_left
   simp only[hc1,reduceIte] at g;rcases jt (ckB (lo+s) (hi+t)) with hc2|hc2
   rotate_left
   rw[Ak (λc=>by rw[p,c.2.2.1,c.2.2.2] at hc2;cases hc2)]
   unfold EG;simp only[hc2,Ie,reduceIte] at u;clear z p A;generalize(if r.can (k+1)=true then(1:Int) else 2)=vv at g
   rotate_left 2
   simp only[hc2,reduceIte] at u
   have G:isV s=true∧isV t=true∧isV (lo+s)=true∧isV (hi+t)=true:=by
    rw[z,CD] at hc1;rw[p,CD] at hc2;exact⟨hc1.1,hc1.2,hc2.1,hc2.2⟩
   rw[AA G];clear G z p hc1 hc2;rcases jt (r.can (k+1)) with hcb|hcb
   rw[AA hcb];rw[AA hcb] at g;unfold EG;clear hcb;simp only;unfold Hy;simp only;rw[show((k+1:Nat):Int)=(k:Int)+1 by omega]
   rotate_left
   rw[Ak W6];rw[Ak W6] at g;unfold EG;clear hcb
   rotate_left 2
   all_goals
    go_enter func205,ntmps205
    go_upto_region 1 with fail
    generalize m:((((w.alloc _).alloc _).alloc _).alloc _)=w1;obtain⟨y,B,b,a,d⟩:=Y3 m;clear m;have L:=HX.out.below d;have U:=y.cell;have e2:=b.cell
    go_wp2_with fail
    refine(l _).mono ?_;rintro e I ⟨rfl,q⟩;clear l;replace d:=An d q;replace L:=L.below q;replace y:=y.below q y.lt;replace B:=B.below q B.lt;replace b:=b.below q b.lt;replace a:=a.below q a.lt;clear q U e2;have e2:=b.cell;have H:w+1+1+1<I.heap.size:=a.lt;have hz:=d.size
    go_upto_region 3 with fail
    clear e2;generalize m:I.alloc _=w3;obtain⟨i,f⟩:=EX m;clear m;replace L:=L.below f;replace y:=y.below f y.lt;replace B:=B.below f B.lt;replace b:=b.below f b.lt;replace a:=a.below f a.lt;replace d:=An d f;clear f;generalize I.heap.size=QO at i H hz⊢;have U:=y.cell;have e1:=B.cell;have e2:=b.cell;have N:=g _ L;clear g
    go_wp2_with fail
    refine N.mono ?_;rintro e M ⟨rfl,Q⟩;clear N U e1 e2 L y B;replace d:=An d Q;replace i:=i.below Q i.lt;replace b:=b.below Q b.lt;replace a:=a.below Q a.lt;clear Q
   ·have K:=Br M 136 Cq;have ai:=d.size;replace i:=i.alloc (.cells Cq 136);replace b:=b.alloc (.cells Cq 136);replace a:=a.alloc (.cells Cq 136);replace d:Below w w (M.alloc (.cells Cq 136)):=Ax
    go_upto_region 9 with fail
    generalize M.alloc _=w5 at K i b a d⊢;generalize M.heap.size=QB at K ai⊢;have E:=a.cell;have f3:=a.frozen;have F:=a.lt;go_wp2;refine AS (v:=.tuple (Da 0 false 0 0 0 3)) (by simp[results,results205,go_sem,E,F]) rfl ⟨by first|rfl|simp,Ax⟩
   all_goals
    go_upto_region 9 with fail
    generalize m:M.alloc _=w5;obtain⟨K,f⟩:=EX m;clear m;replace i:=i.below f i.lt;replace b:=b.below f b.lt;replace a:=a.below f a.lt;replace d:=An d f;clear f;generalize M.heap.size=QB at K⊢;have eB:=K.cell;have e2:=b.cell
    go_wp2_with fail
    refine(u _).mono ?_;rintro e w6 ⟨rfl,T⟩;clear u eB e2;replace d:=An d T;replace i:=i.below T i.lt;replace b:=b.below T b.lt;replace a:=a.below T a.lt;clear T K
   rotate_right
   ·have aj:=d.size;replace a:=a.alloc (.cells Cq 136);replace d:Below w w (w6.alloc (.cells Cq 136)):=Ax
    go_upto_region 12 with fail
    generalize w6.alloc _=w7 at a d⊢;generalize w6.heap.size=QS at aj⊢;have E:=a.cell;have f3:=a.frozen;have F:=a.lt;go_wp2;refine AS (v:=.tuple (Da 0 false 0 0 0 3)) (by simp[results,results205,go_sem,E,F]) rfl ⟨by first|rfl|simp,Ax⟩
   all_goals
    go_upto_region 12 with fail
    generalize m:w6.alloc _=w7;obtain⟨KS,f⟩:=EX m;clear m;replace i:=i.below f i.lt;replace b:=b.below f b.lt;replace a:=a.below f a.lt;replace d:=An d f;clear f;generalize w6.heap.size=QS at KS⊢;have eS:=KS.cell;have eO:=i.cell;have fO:=i.frozen;have e2:=b.cell;have E:=a.cell;have f3:=a.frozen;have F:=a.lt
   ·simp only[Ie,reduceIte] at A
    go_wp2_with fail
    refine(A _).mono ?_;rintro e w' ⟨rfl,rfl⟩;go_wp2;refine AS (v:=.tuple (Da ((k:Int)+1) true (lo+s) (hi+t) 1 0)) (by simp[results,results205,go_sem,E,F]) rfl ⟨by first|rfl|simp,Ax⟩
   ·go_wp2;refine AS (v:=.tuple (Da k false (lo+s) (hi+t) 2 0)) (by simp[results,results205,go_sem,E,F]) rfl ⟨by first|rfl|simp,Ax⟩
  ·have O:r.step ⟨k,true,lo,hi⟩=some ⟨⟨k,false,lo,hi⟩,4,0,0⟩:=by unfold Al.step Al.nxt;rw[AA rfl,Ak C];rfl
   have l:=λW=>TR h k lo hi W Aa Aa;rw[BR (show¬(k:Int)<(h.D.n:Int)-1 by omega)] at l
   rw[O];clear O S R X C Z ad J;obtain⟨⟨A0,n0,c0⟩,⟨A1,n1,c1⟩⟩:=h;unfold EG Hy EV GU at*;simp only at l⊢
   go_enter func205,ntmps205
   go_upto_region 1 with fail
   generalize m:((((w.alloc _).alloc _).alloc _).alloc _)=w1;obtain⟨y,B,b,a,d⟩:=Y3 m;clear m;have U:=y.cell;have e2:=b.cell
   go_wp2_with fail
   refine(l _).mono ?_;rintro e I ⟨rfl,q⟩;clear l;replace d:=An d q;replace b:=b.below q b.lt;replace a:=a.below q a.lt;clear q U e2;have e2:=b.cell;have H:w+1+1+1<I.heap.size:=a.lt;have hz:=d.size
   go_upto_region 3 with fail
   clear e2;generalize m:I.alloc _=w3;obtain⟨i,f⟩:=EX m;clear m;replace b:=b.below f b.lt;replace a:=a.below f a.lt;replace d:=An d f;clear f;generalize I.heap.size=QO at i H hz⊢;have eO:=i.cell;have fO:=i.frozen;have e2:=b.cell;have E:=a.cell;have f3:=a.frozen;have F:=a.lt;go_wp2;refine AS (v:=.tuple (Da k false lo hi 4 0)) (by simp[results,results205,go_sem,E,F]) rfl ⟨by first|rfl|simp,Ax⟩
structure fi (W:World) (B:Nat) (hs he:Hd) (l:List AU):Prop where
 sn:hs.n=l.length
 en:he.n=l.length
 rs:Rd W hs.A (hs.n*4) (No l)
 re:Rd W he.A he.n (ints (C2 l))
 bs: ∀ad,hs.A=some ad->0<hs.n->B<=ad.block
 be: ∀ad,he.A=some ad->0<he.n->B<=ad.block
theorem fi.below {W a:World} {B:Nat} {hs he:Hd} {l:List AU} (T:fi W B hs he l) (b:Below W W a):fi a B hs he l:=⟨T.sn,T.en,T.rs.below b,T.re.below b,T.bs,T.be⟩
theorem bX (l:List AU):(ints (C2 l)).length=l.length:=by unfold ints C2;simp
theorem dw (l:List AU):(No l).length=l.length*4:=by
 induction l with
 |nil=>rfl
 |cons y t ih=>unfold No at*;rw[List.flatMap_cons,Dy,ih];simp[Ln];omega
structure I4 (W:World) (B:Nat) (hs he:Hd) (us vs:List Value):Prop where
 oS:AR W B 4 hs us
 oE:AR W B 1 he vs
 off: ∀q,hs.row=some q->he.row≠some q
theorem I4.below {W a:World} {B:Nat} {hs he:Hd} {us vs:List Value} (T:I4 W B hs he us vs) (b:Below W W a):I4 a B hs he us vs:=⟨T.oS.below b,T.oE.below b,T.off⟩
theorem I4.far {W:World} {B:Nat} {hs he:Hd} {us vs:List Value} (T:I4 W B hs he us vs) {b i:Nat} (a:b<B) (u:Value):I4 (W.setCell ⟨b,i,none⟩ u) B hs he us vs:=
 ⟨T.oS.farM (λe=>by have:=(T.oS.rowlt _ e).1;simp only at this;omega) _,T.oE.farM (λe=>by have:=(T.oE.rowlt _ e).1;simp only at this;omega) _,T.off⟩
theorem I4.pushS {W a:World} {B:Nat} {hs he G:Hd} {us vs xs:List Value} (T:I4 W B hs he us vs) (d:AR a B 4 G (us++xs)) (gg:W.grownBy a hs.row) (b:G.row=hs.row∨ ∃q,G.row=some q∧W.heap.size<=q):I4 a B G he (us++xs) vs:=by
 refine⟨d,T.oE.grown gg (λq e c=>T.off _ c e),λq e e2=> ?_⟩;rcases b with h|⟨r,h,h'⟩
 ·exact T.off q (h▸e) e2
 ·rw[h] at e;injection e with e;have:=(T.oE.rowlt _ e2).2;omega
theorem I4.pushE {W a:World} {B:Nat} {hs he G:Hd} {us vs xs:List Value} (T:I4 W B hs he us vs) (d:AR a B 1 G (vs++xs)) (gg:W.grownBy a he.row) (b:G.row=he.row∨ ∃q,G.row=some q∧W.heap.size<=q):I4 a B hs G us (vs++xs):=by
 refine⟨T.oS.grown gg (λq e c=>T.off _ e c),d,λq e e2=> ?_⟩;rcases b with h|⟨r,h,h'⟩
 ·exact T.off q e (h▸e2)
 ·rw[h] at e2;injection e2 with e2;have:=(T.oS.rowlt _ e).2;omega
theorem I4.trS {W:World} {B:Nat} {hs he:Hd} {l:List AU} (T:I4 W B hs he (No l) (ints (C2 l))):fi W B hs he l:=by
 have a:(No l).length=hs.n*4:=T.oS.len;have b:(ints (C2 l)).length=he.n*1:=T.oE.len;rw[dw] at a;rw[bX] at b;exact⟨by omega,by omega,T.oS.rd,T.oE.rd1,T.oS.lowA,T.oE.lowA⟩
def QQ (r:Al) (n:Int) (w:World) (e:Ending) (w':World):Prop:=
 (trC r n≠0∧e=.returned (.tuple #[.slice none 0 0,.slice none 0 0,ZI (trC r n)])∧Below w w w')∨
 ∃(x:En) (l:List AU) (hs he:Hd),trC r n=0∧inR n 0 100=true∧r.tr n.toNat=some (x,l)∧e=.returned (.tuple #[.slice hs.A hs.n hs.c,.slice he.A he.n he.c,ZI 0])∧fi w' w.heap.size hs he l∧Below w w w'
theorem OD {r:Al} {n:Int} {w w':World} {a:Int} (h:trC r n=a) (c:a≠0) (b:Below w w w'):QQ r n w (.returned (.tuple #[.slice none 0 0,.slice none 0 0,ZI a])) w':=Or.inl ⟨by rw[h];exact c,by rw[h],b⟩
theorem Ye {r:Al} {n:Int} {w w':World} {x:En} {l:List AU} {hs he:Hd} (hi:inR n 0 100=true) (a:r.tr n.toNat=some (x,l)) (T:fi w' w.heap.size hs he l) (b:Below w w w'):QQ r n w (.returned (.tuple #[.slice hs.A hs.n hs.c,.slice he.A he.n he.c,ZI 0])) w':=
 Or.inr ⟨x,l,hs,he,by unfold trC;rw[AA hi,a],hi,a,rfl,T,b⟩
theorem Ru (h:Ev) (r:Al) (n:Int) (w:World) (X:DR w h r) (R:A8 r):
  Calls prog 161 #[EV h,ZI r.src,GU r,ZI n] w (QQ r n w):=by
 have hl:=R.len
 have N:codeB h.D.n h.S.n r.ds r.ss (r.src:Int) r.c r.s r.h=0:=by
  have hp:=R.prof;have hs:=R.src;rw[<-X.nd,<-X.ns] at hp;unfold codeB;rw[hp,R.dir,AA (show(true && true)=true from rfl),AA (CN Aa (by have:=X.nd;omega))]
 have H:=λ(W:World) (X:DR W h r)=>TE h.D.A h.S.A h.D.n h.S.n h.D.c h.S.c r.ds r.ss (r.src:Int) r.c r.s r.h W (by have:=X.nd;omega) (by have:=X.ns;omega) X.d X.s
 rw[N] at H;have HF:=λW=>FC r W;have HS:=λ(x:En) (W:World) (X:DR W h r) (S:Jt r x)=>It h r x W X R S;have an:=Ai R.tr_ok;have HX:=Ai X;have L:=λW=>Ay n 0 100 W;clear X R hl N;obtain⟨⟨A0,n0,c0⟩,⟨A1,n1,c1⟩⟩:=h;unfold EV GU at*;simp only at H HF HS⊢;have j:=(Blk.newN (g:=w) w 30 (CH A0 n0 c0 A1 n1 c1) Cr).alloc (.cells (Ziii r.c r.s r.h) 32);have f:=Blk.newN (g:=w+1) (w.alloc (.cells (CH A0 n0 c0 A1 n1 c1) 30)) 32 (Ziii r.c r.s r.h) Cr;have u:Below w w ((w.alloc (.cells (CH A0 n0 c0 A1 n1 c1) 30)).alloc (.cells (Ziii r.c r.s r.h) 32)):=Ax;have Q:=HX.out.below u;rcases jt (inR n 0 100) with hi|hi
 rotate_left
 ·have a6:trC r n=2:=by unfold trC;rw[hi];rfl
  rw[hi] at L
  go_enter func161,ntmps161
  go_upto_region 1 with fail
  generalize(w.alloc _).alloc _=w1 at j f u Q⊢;have e0:=j.cell;have e1:=f.cell;have K:=H _ Q;clear H
  go_wp2_with fail
  refine K.mono ?_;rintro e w2 ⟨rfl,b2⟩;replace u:=An u b2;clear K e0 e1 j f
  go_wp2_with fail
  refine(L _).mono ?_;rintro e w' ⟨rfl,rfl⟩;go_wp2;refine AS (v:=.tuple #[.slice none 0 0,.slice none 0 0,ZI 2]) (by simp[results,results161,go_sem]) rfl ?_
  exact OD a6 Ah u
 obtain⟨m,a8⟩: ∃m:Nat,n=(m:Int):=⟨n.toNat,by have:=Ac hi;omega⟩
 subst a8;have hm:m<=100:=by have:=Ac hi;omega
 rw[hi] at L;have HI:=Ai hi;clear hi
 go_enter func161,ntmps161
 go_upto_region 1 with fail
 generalize(w.alloc _).alloc _=w1 at j f u Q⊢;have e0:=j.cell;have e1:=f.cell;have K:=H _ Q;clear H
 go_wp2_with fail
 refine K.mono ?_;rintro e w2 ⟨rfl,b2⟩;replace u:=An u b2;replace j:=j.below b2 j.lt;replace f:=f.below b2 f.lt;clear K e0 e1 Q b2
 go_wp2_with fail
 refine(L _).mono ?_;rintro e w' ⟨rfl,rfl⟩;clear L
 go_upto_region 7 with fail
 replace j:=(j.alloc (.cells #[] 138)).alloc (.cells #[] 2);replace f:=(f.alloc (.cells #[] 138)).alloc (.cells #[] 2);have bN:=u.size;replace u:Below w w ((w2.alloc (.cells #[] 138)).alloc (.cells #[] 2)):=Ax;generalize(w2.alloc _).alloc _=w3 at j f u⊢;generalize(some (⟨w2,0,none⟩:Addr))=PA;generalize(some (⟨w2+1,0,none⟩:Addr))=PB;have e1:=f.cell
 go_wp2_with fail
 refine(HF _).mono ?_;unfold Hy;rintro e w4 ⟨rfl,b4⟩;clear HF e1;replace u:=An u b4;replace j:=j.below b4 j.lt;replace f:=f.below b4 f.lt;obtain⟨x0,ae⟩: ∃x,r.first=x:=⟨_,rfl⟩;have aa:r.tr 0=some (x0,[]):=by rw[<-ae];rfl
 rw[ae];clear ae b4;have a9:w+1<w4.heap.size:=f.lt;have bc:=u.size
 go_upto_region 8 with fail
 generalize hG:w4.alloc _=w5;obtain⟨z,M⟩:=EX hG;clear hG;replace j:=j.below M j.lt;replace f:=f.below M f.lt;replace u:=An u M;clear M;generalize w4.heap.size=t at z a9 bc⊢;have T0:I4 w5 (t+1) ⟨PA,0,0⟩ ⟨PB,0,0⟩ (No []) (ints (C2 [])):=⟨AR.empty _ _ _ _,AR.empty _ _ _ _,λq e=>by simp[Hd.row] at e⟩
 have ba:t≠w.heap.size:=Aa;have bb:t≠w.heap.size+1:=Aa;have F:=ba.symm;have G:=bb.symm
 go_wp2_with fail
 go_loopw [12,13,15] (λbf bg i wr=> ∃(k:Nat) (x:En) (l:List AU) (hs he:Hd),k<=m∧bf=.slice hs.A hs.n hs.c∧bg=.slice he.A he.n he.c∧i=.int .i64 k∧r.tr k=some (x,l)∧I4 wr (t+1) hs he (No l) (ints (C2 l))∧Blk wr t 138 (A7 x.k x.dn x.lo x.hi)∧Blk wr w.heap.size 30 (CH A0 n0 c0 A1 n1 c1)∧Blk wr (w.heap.size+1) 32 (Ziii r.c r.s r.h)∧Below w w wr) (λ_ _ i _=>m-(intOf i).toNat)
 case atStart=>exact⟨0,x0,[],⟨PA,0,0⟩,⟨PB,0,0⟩,AZ _,rfl,rfl,rfl,aa,T0,z,j,f,u⟩
 case round=>
  clear T0 z j f u aa;obtain⟨k,x,l,⟨SA,sn,sc⟩,⟨EA,en,ec⟩,hk,rfl,rfl,rfl,O,T,z,j,f,B⟩:=hrel
  try simp only at T
  by_cases bM:k<m
  ·have av:(k:Int)<(m:Int):=Aa;obtain⟨S,a7,-,-⟩:=an.out k x l O;have a4:sn+1<=1099511627776:=by have:=T.trS.sn;simp only at this;omega
   have a5:en+1<=1099511627776:=by have:=T.trS.en;simp only at this;omega
   clear a7;have ac:=HS x _ (HX.out.below B) S;unfold Hy at ac;have ab:=Ai (Nr O);clear HS O S;have e0:=j.cell;have e1:=f.cell;have ex:=z.cell
   go_wp2_with fail
   refine ac.mono ?_;clear ac;rcases hst:r.step x with _|y
   ·unfold EG;simp only;rintro e w6 ⟨rfl,U⟩;have HV:Hid (r.tr m=none):=Lt (ab.out.1 hst) m Aa;have B6:=An B U;have bO:=B6.size;have B7:Below w w (w6.alloc (.cells DJ 138)):=Ax;clear e0 e1 ex T z j f B U hst;go_wp2;refine AS (v:=.tuple #[.slice none 0 0,.slice none 0 0,ZI 3]) (by simp[results,results161,go_sem]) rfl ?_
    exact OD (by unfold trC;rw[AA HI.out,show((m:Int)).toNat=m from by omega,HV.out]) Ah B7
   ·unfold EG Hy;simp only;rintro e w6 ⟨rfl,U⟩;have HV:Hid (r.tr (k+1)=some (y.st,l++ [y])):=ab.out.2 y hst;replace B:=An B U;replace T:=T.below U;replace z:=z.below U z.lt;replace j:=j.below U j.lt;replace f:=f.below U f.lt;clear e0 e1 ex U ab hst
    go_upto_region 12 with fail
    generalize hG:w6.alloc _=w7;obtain⟨K8,M⟩:=EX hG;clear hG;replace T:=T.below M;replace z:=z.below M z.lt;replace j:=j.below M j.lt;replace f:=f.below M f.lt;replace B:=An B M;clear M;generalize w6.heap.size=q8 at K8⊢;have e8:=K8.cell;have ex:=z.cell;have fx:=z.frozen
    go_upto_region 15 with fail
    clear e8 ex fx K8;have NX:=z.set_all4 (x0:=.int .i64 (y.st.k:Int)) (x1:=.bool y.st.dn) (x2:=.int .i64 y.st.lo) (x3:=.int .i64 y.st.hi);have NT:=(((T.far (b:=t) (i:=0) Aa (ZI y.st.k)).far (b:=t) (i:=1) Aa (.bool y.st.dn)).far (b:=t) (i:=2) Aa (ZI y.st.lo)).far (b:=t) (i:=3) Aa (ZI y.st.hi);have N0:=(((j.far (p:=⟨t,0,none⟩) F (ZI y.st.k)).far (p:=⟨t,1,none⟩) F (.bool y.st.dn)).far (p:=⟨t,2,none⟩) F (ZI y.st.lo)).far (p:=⟨t,3,none⟩) F (ZI y.st.hi);have N1:=(((f.far (p:=⟨t,0,none⟩) G (ZI y.st.k)).far (p:=⟨t,1,none⟩) G (.bool y.st.dn)).far (p:=⟨t,2,none⟩) G (ZI y.st.lo)).far (p:=⟨t,3,none⟩) G (ZI y.st.hi);have B5:Below w w ((((w7.setCell ⟨t,0,none⟩ (ZI y.st.k)).setCell ⟨t,1,none⟩ (.bool y.st.dn)).setCell ⟨t,2,none⟩ (ZI y.st.lo)).setCell ⟨t,3,none⟩ (ZI y.st.hi)):=Ax;clear T z j f B;generalize(((w7.setCell ⟨t,0,none⟩ (ZI y.st.k)).setCell ⟨t,1,none⟩ (.bool y.st.dn)).setCell ⟨t,2,none⟩ (ZI y.st.lo)).setCell ⟨t,3,none⟩ (ZI y.st.hi)=w8 at NX NT N0 N1 B5⊢;have ao:Rd (w8.alloc (.cells (A7 y.st.k y.st.dn y.st.lo y.st.hi) 138)) (some ⟨w8,0,none⟩) (1*4) (Ln y.st):=dV _ _ _;have T1:=NT.below ((AP _ _).alloc Bk (.cells (A7 y.st.k y.st.dn y.st.lo y.st.hi) 138));have Q:=NX.alloc (.cells (A7 y.st.k y.st.dn y.st.lo y.st.hi) 138);have Z1:=N0.alloc (.cells (A7 y.st.k y.st.dn y.st.lo y.st.hi) 138);have O1:=N1.alloc (.cells (A7 y.st.k y.st.dn y.st.lo y.st.hi) 138);have bz:=B5.size;have D1:Below w w (w8.alloc (.cells (A7 y.st.k y.st.dn y.st.lo y.st.hi) 138)):=Ax;have aq:t+1<=(w8.alloc (.cells (A7 y.st.k y.st.dn y.st.lo y.st.hi) 138)).heap.size:=Q.lt;have cx:=NX.cell
    go_upto_region 16 with(at_builtin;refine Aj rfl _ _ 165 rfl 138 4 32 underlying165 Jh Ah (t+1) ⟨SA,sn,sc⟩ _ rfl T1.oS _ 1 1 (Ln y.st) rfl ao (Oo _) a4 Ah aq ?_;intro G1 V aw ay I Y;have al:=Ai aw;clear aw)
    have C:=T1.oS.rowlt;have NT:=T1.pushS ay I Y;have NX:=Q.grown I (λe=>by have:=(C _ e).1;omega)
    have N0:=Z1.grown I (λe=>by have:=(C _ e).1;omega)
    have N1:=O1.grown I (λe=>by have:=(C _ e).1;omega)
    have ak:=D1.grown I D1.size (λb e=>by have:=(C _ e).1;omega)
    clear B5 ao T1 Q Z1 O1 D1 aq cx ay I Y al C;have ap:Rd (V.alloc (.cells #[ZI y.ev] 2)) (some ⟨V,0,none⟩) (1*1) (ints [y.ev]):=BD _ _ _;have T2:=NT.below ((AP _ _).alloc Bk (.cells #[ZI y.ev] 2));have X2:=NX.alloc (.cells #[ZI y.ev] 2);have Z2:=N0.alloc (.cells #[ZI y.ev] 2);have O2:=N1.alloc (.cells #[ZI y.ev] 2);have bA:=ak.size;have D2:Below w w (V.alloc (.cells #[ZI y.ev] 2)):=Ax;have ar:t+1<=(V.alloc (.cells #[ZI y.ev] 2)).heap.size:=X2.lt
    go_wp2_with (at_builtin;refine Aj rfl _ _ 28 rfl 2 1 8 underlying28 AJ Ah (t+1) ⟨EA,en,ec⟩ _ rfl T2.oE _ 1 1 (ints [y.ev]) rfl ap (Ao _) a5 Ah ar ?_;intro G2 bS ax az J Z;have am:=Ai ax;clear ax)
    have E:=T2.oE.rowlt;have NT:=T2.pushE az J Z;have NX:=X2.grown J (λe=>by have:=(E _ e).1;omega)
    have N0:=Z2.grown J (λe=>by have:=(E _ e).1;omega)
    have N1:=O2.grown J (λe=>by have:=(E _ e).1;omega)
    have aT:=D2.grown J D2.size (λb e=>by have:=(E _ e).1;omega)
    clear ak ap T2 X2 Z2 O2 D2 ar az J Z am E
    go_roundw
    case rel=>exact⟨k+1,y.st,l++ [y],G1,G2,by omega,rfl,rfl,by go_num,HV.out,by rw[Td,UF];exact NT,NX,N0,N1,aT⟩
    case measure=>simp[intOf];omega
  ·obtain rfl:m=k:=Aa;have av: ¬(m:Int)<(m:Int):=Aa;have HT:=Ai O;clear O HS an z j f;go_wp2;refine AS (v:=.tuple #[.slice SA sn sc,.slice EA en ec,ZI 0]) (by simp[results,results161,go_sem]) rfl ?_
   exact Ye (hs:=⟨SA,sn,sc⟩) (he:=⟨EA,en,ec⟩) HI.out (by rw[show((m:Int)).toNat=m from by omega];exact HT.out) ⟨T.trS.sn,T.trS.en,T.trS.rs,T.trS.re,λa e n=>by have:=T.trS.bs a e n;omega,λa e n=>by have:=T.trS.be a e n;omega⟩ B
theorem Yw {W:World} {A:Option Addr} {n:Nat} {l:List AU} {y:AU} {m:Nat} (R:Rd W A (n*4) (No l)) (i:n=l.length) (d:l[m]? =some y): ∃a,A=some a∧W.cell? (a.add (m*4))=ZS y.st.k∧W.cell? ⟨(a.add (m*4)).block,(a.add (m*4)).off+1,none⟩=some (.bool y.st.dn)∧W.cell? ⟨(a.add (m*4)).block,(a.add (m*4)).off+2,none⟩=ZS y.st.lo∧W.cell? ⟨(a.add (m*4)).block,(a.add (m*4)).off+3,none⟩=ZS y.st.hi:=by
 have g:m<l.length:=(List.getElem?_eq_some_iff.1 d).1;have b:=Xh d;obtain⟨a,f,c⟩:=R.2 Aa;have hc0:=c (m*4) Aa;have hc1:=c (m*4+1) Aa;have hc2:=c (m*4+2) Aa;have hc3:=c (m*4+3) Aa;rw[b.1] at hc0;rw[b.2.1] at hc1;rw[b.2.2.1] at hc2;rw[b.2.2.2] at hc3;rw[<-Cn _ _ 1 Ah] at hc1;rw[<-Cn _ _ 2 Ah] at hc2;rw[<-Cn _ _ 3 Ah] at hc3;exact⟨a,f,hc0,hc1,hc2,hc3⟩
theorem L9 (h:Ev) (r:Al) (n:Int) (w:World) (X:DR w h r) (R:A8 r):
  Calls prog 123 #[EV h,ZI r.src,GU r,ZI n] w (UY r n w):=by
 have j:=λ(W:World) (X:DR W h r)=>Ru h r n W X R;have i:=λW=>FC r W;have I:=Ai R.tr_ok;have HX:=Ai X;clear X R;obtain⟨⟨A0,n0,c0⟩,⟨A1,n1,c1⟩⟩:=h;unfold QQ EV GU at*;simp only at j i⊢
 go_enter func123,ntmps123
 go_upto_region 1 with fail
 generalize hG:((w.alloc _).alloc _).alloc _=w1;obtain⟨F,f,a,p⟩:=WF hG;clear hG;have X1:=HX.out.below p;have e0:=F.cell;have g0:=F.lt;have e1:=f.cell;have H:=f.lt;have B:=j _ X1;have aw:w+1+1<w1.heap.size:=a.lt;clear j HX X1
 go_wp2_with fail
 refine B.mono ?_;clear B;rintro e w2 (⟨s,rfl,g⟩|⟨x,l,⟨SA,sn,sc⟩,⟨Z,G,ec⟩,d,hi,t,rfl,T,g⟩)
 ·replace p:=An p g;replace a:=a.below g a.lt;clear e0 g0 e1 H F f i g;obtain⟨cd,d⟩: ∃c,trC r n=c:=⟨_,rfl⟩;rw[d] at s⊢;have al:(cd !=0)=true:=by rw[bne_iff_ne];exact s
  have HC:=Ai d;clear d;have e2:=a.cell;have O:=a.frozen;have z:=a.lt;go_wp2;refine AS (v:=.tuple (G5 none 0 0 0 false 0 0 cd)) (by simp[results,results123,go_sem,e2,z]) rfl ?_
  exact JH HC.out s Ax
 ·simp only;replace p:=An p g;replace f:=f.below g f.lt;replace a:=a.below g a.lt;obtain⟨-,q,-,b⟩:=I.out _ _ _ t;have U:=Ac hi;have u:=Ai (And.intro d (And.intro hi t));clear e0 g0 e1 H F d hi t g;have e1:=f.cell;have H:=f.lt;have e2:=a.cell;have O:=a.frozen;have z:=a.lt
  by_cases h0:n=0
  ·subst h0;have V:l= []:=Pt q;subst V;have D:r.first=x:=b.symm;clear b q;unfold Hy at i;rw[D] at i;clear D
   go_wp2_with fail
   refine(i _).mono ?_;rintro e w3 ⟨rfl,b3⟩;clear i e1 H e2 O z f;replace p:=An p b3;replace a:=a.below b3 a.lt;have e2:=a.cell;have O:=a.frozen;have z:=a.lt;go_wp2;refine AS (v:=.tuple (G5 none 0 0 x.k x.dn x.lo x.hi 0)) (by simp[results,results123,go_sem,e2,z]) rfl ?_
   exact Or.inr ⟨x,[],⟨none,0,0⟩,u.out.1,u.out.2.1,u.out.2.2,rfl,rfl,by decide,Rd.nil _ _,(λ_ e=>by cases e),Ax⟩
  ·obtain⟨m,hm⟩: ∃m:Nat,n=(m:Int)+1:=⟨(n-1).toNat,by omega⟩
   obtain⟨y,Y⟩: ∃y,l[m]? =some y:=⟨_,Db Aa⟩
   have E:x=y.st:=by
    rw[b,List.getLast?_eq_getElem?,show l.length-1=m by omega,Y];rfl
   obtain⟨C,hA,K,L,M,N⟩:=Yw T.rs T.sn Y;simp only at hA;subst hA;have av:m<sn:=by have:=T.sn;simp only at this;omega
   have A:Hid (G=l.length):=T.en;have S:G<=100:=by have:=A.out;omega
   have J:=Ai T;have ax:(n==0)=false:=by rw[Ea];exact h0
   have au:n-1=(m:Int):=Aa;have wm:=Bg (m:Int);have aq:(m:Int)<(sn:Int):=Aa;clear Y b q hm i T U;rw[<-E] at K L M N;clear E
   go_upto_region 6 with fail
   go_region
   all_goals
    go_wp2;refine AS (v:=.tuple (G5 Z G ec x.k x.dn x.lo x.hi 0)) (by simp[results,results123,go_sem,e2,z]) rfl ?_
    refine Or.inr ⟨x,l,⟨Z,G,ec⟩,u.out.1,u.out.2.1,u.out.2.2,rfl,A.out,S,?_,(λC e h=>by have h1:w1<=C.block:=J.out.be C e h;omega),Ax⟩
    have Q:=J.out.re
    repeat(first|with_reducible exact Q|(refine Rd.keep ?_ (λC e hn=>Below.heap_setCell _ _ _ _ (λc=>by have:=J.out.be C e hn;simp only at c;omega))))
theorem Je (A:Option Addr) (n c:Nat) (evs:List Int) (w:World) (C:n<=100) (g:Rd w A n (ints evs)) (ha:BV evs 1 4=true):
  (BT 124 #[.slice A n c] w (.string ⟨(hisL evs).toArray⟩):Prop):=by
 have B:evs.length=n:=by have:=g.len;exact this
 have d:=λ(W:World) (R:Rd W A n (ints evs))=>Gw A n c evs 100 1 4 W Aa R;rw[show Hn evs 100 1 4=true from by unfold Hn;rw[ha];simp;omega] at d
 have E:(ByteArray.mk #[99,116,115,98]).extract 0 1=⟨#[99]⟩:=Ah;have F:(ByteArray.mk #[99,116,115,98]).extract 1 2=⟨#[116]⟩:=Ah;have G:(ByteArray.mk #[99,116,115,98]).extract 2 3=⟨#[115]⟩:=Ah;have H:(ByteArray.mk #[99,116,115,98]).extract 3 4=⟨#[98]⟩:=Ah
 go_enter func124,ntmps124
 go_wp2_with fail
 refine(d _ g).mono ?_;rintro e D ⟨rfl,rfl⟩;clear d
 go_wp2_with fail
 go_loopw [3,4] (λt i wr=> ∃k:Nat,k<=n∧i=.int .i64 k∧t=.string ⟨(hisL (evs.take k)).toArray⟩∧Below w w wr) (λ_ i _=>n-(intOf i).toNat)
 case atStart=>exact⟨0,AZ _,rfl,rfl,AP _ _⟩
 case round=>
  obtain⟨k,z,rfl,rfl,b⟩:=hrel
  by_cases f:k<n
  ·have a:(k:Int)<(n:Int):=Aa;obtain⟨x,q,y⟩:=(g.below b).int f;subst q;have l:=Ai (Ts (evs:=evs) (k:=k) Aa);have hv:=EZ ha (k:=k) Aa;have m:=λ(u:Bs)=>AY (hisL (evs.take k)) u;have j:(hisL (evs.take k)).length=k:=by unfold hisL;rw[List.length_map,Ju];omega
   have r: ¬9223372036854775807<(hisL (evs.take k)).length+1:=Aa;clear j;generalize hisL (evs.take k)=t at*;generalize evs.getD k 0=v at*;obtain rfl|rfl|rfl|rfl:v=1∨v=2∨v=3∨v=4:=Aa
   all_goals
    go_wp2_with fail
    go_quiet (fail)
    revert nq;intro nq;have p:Below w w (wr.drewN nq):=Ba b _;go_wp2
    go_roundw
    case rel=>exact⟨k+1,by omega,by go_num,(by first|(rw[l.out];rfl)|exact(AN Value.string (m _)).trans (by rw[l.out];rfl)),p⟩
    case measure=>simp[intOf];omega
  ·obtain rfl:n=k:=Aa;have s:evs.take n=evs:=ED Aa;have a: ¬(n:Int)<(n:Int):=Aa;rw[s];go_wp2;go_ret;exact⟨rfl,b⟩
def aV (x y:En) (same:Bool) (lo hi:Int):Value:=.agg (Az x.k x.dn x.lo x.hi y.k y.dn y.lo y.hi same lo hi)
def ceR (r q:Al) (n:Nat):Value:=match r.tr n,q.tr n with
 |some (x,l),some (y,m)=> .tuple #[aV x y (decide (C2 l=C2 m)) (Ej (BF l) (BF m) n) (Ei (BF l) (BF m) n),ZI 0]
 |_,_=> .tuple (Ce 0 false 0 0 0 false 0 0 false 0 0 3)
def Um (w:World) (g:Nat) (a c:En) (lo hi:Int):World:=
 (((((((((w.setCell ⟨g,0,none⟩ (ZI a.k)).setCell ⟨g,1,none⟩ (.bool a.dn)).setCell ⟨g,2,none⟩ (ZI a.lo)).setCell ⟨g,3,none⟩ (ZI a.hi)).setCell ⟨g,4,none⟩ (ZI c.k)).setCell ⟨g,5,none⟩ (.bool c.dn)).setCell ⟨g,6,none⟩ (ZI c.lo)).setCell ⟨g,7,none⟩ (ZI c.hi)).setCell ⟨g,9,none⟩ (ZI lo)).setCell ⟨g,10,none⟩ (ZI hi)
theorem Qt {w:World} {g:Nat} {x y a c:En} {s:Bool} {lo hi lo' hi':Int} (K:Blk w g 203 (Az x.k x.dn x.lo x.hi y.k y.dn y.lo y.hi s lo hi)):Blk (Um w g a c lo' hi') g 203 (Az a.k a.dn a.lo a.hi c.k c.dn c.lo c.hi s lo' hi'):=by
 have k0:Blk ((w).setCell ⟨g,0,none⟩ (ZI a.k)) g 203 (Az a.k x.dn x.lo x.hi y.k y.dn y.lo y.hi s lo hi):=K.set_ 0 (ZI a.k);have b:Blk (((w).setCell ⟨g,0,none⟩ (ZI a.k)).setCell ⟨g,1,none⟩ (.bool a.dn)) g 203 (Az a.k a.dn x.lo x.hi y.k y.dn y.lo y.hi s lo hi):=k0.set_ 1 (.bool a.dn);have k2:Blk ((((w).setCell ⟨g,0,none⟩ (ZI a.k)).setCell ⟨g,1,none⟩ (.bool a.dn)).setCell ⟨g,2,none⟩ (ZI a.lo)) g 203 (Az a.k a.dn a.lo x.hi y.k y.dn y.lo y.hi s lo hi):=b.set_ 2 (ZI a.lo);have k3:Blk (((((w).setCell ⟨g,0,none⟩ (ZI a.k)).setCell ⟨g,1,none⟩ (.bool a.dn)).setCell ⟨g,2,none⟩ (ZI a.lo)).setCell ⟨g,3,none⟩ (ZI a.hi)) g 203 (Az a.k a.dn a.lo a.hi y.k y.dn y.lo y.hi s lo hi):=k2.set_ 3 (ZI a.hi);have k4:Blk ((((((w).setCell ⟨g,0,none⟩ (ZI a.k)).setCell ⟨g,1,none⟩ (.bool a.dn)).setCell ⟨g,2,none⟩ (ZI a.lo)).setCell ⟨g,3,none⟩ (ZI a.hi)).setCell ⟨g,4,none⟩ (ZI c.k)) g 203 (Az a.k a.dn a.lo a.hi c.k y.dn y.lo y.hi s lo hi):=k3.set_ 4 (ZI c.k);have k5:Blk (((((((w).setCell ⟨g,0,none⟩ (ZI a.k)).setCell ⟨g,1,none⟩ (.bool a.dn)).setCell ⟨g,2,none⟩ (ZI a.lo)).setCell ⟨g,3,none⟩ (ZI a.hi)).setCell ⟨g,4,none⟩ (ZI c.k)).setCell ⟨g,5,none⟩ (.bool c.dn)) g 203 (Az a.k a.dn a.lo a.hi c.k c.dn y.lo y.hi s lo hi):=k4.set_ 5 (.bool c.dn);have k6:Blk ((((((((w).setCell ⟨g,0,none⟩ (ZI a.k)).setCell ⟨g,1,none⟩ (.bool a.dn)).setCell ⟨g,2,none⟩ (ZI a.lo)).setCell ⟨g,3,none⟩ (ZI a.hi)).setCell ⟨g,4,none⟩ (ZI c.k)).setCell ⟨g,5,none⟩ (.bool c.dn)).setCell ⟨g,6,none⟩ (ZI c.lo)) g 203 (Az a.k a.dn a.lo a.hi c.k c.dn c.lo y.hi s lo hi):=k5.set_ 6 (ZI c.lo);have k7:Blk (((((((((w).setCell ⟨g,0,none⟩ (ZI a.k)).setCell ⟨g,1,none⟩ (.bool a.dn)).setCell ⟨g,2,none⟩ (ZI a.lo)).setCell ⟨g,3,none⟩ (ZI a.hi)).setCell ⟨g,4,none⟩ (ZI c.k)).setCell ⟨g,5,none⟩ (.bool c.dn)).setCell ⟨g,6,none⟩ (ZI c.lo)).setCell ⟨g,7,none⟩ (ZI c.hi)) g 203 (Az a.k a.dn a.lo a.hi c.k c.dn c.lo c.hi s lo hi):=k6.set_ 7 (ZI c.hi);have k8:Blk ((((((((((w).setCell ⟨g,0,none⟩ (ZI a.k)).setCell ⟨g,1,none⟩ (.bool a.dn)).setCell ⟨g,2,none⟩ (ZI a.lo)).setCell ⟨g,3,none⟩ (ZI a.hi)).setCell ⟨g,4,none⟩ (ZI c.k)).setCell ⟨g,5,none⟩ (.bool c.dn)).setCell ⟨g,6,none⟩ (ZI c.lo)).setCell ⟨g,7,none⟩ (ZI c.hi)).setCell ⟨g,9,none⟩ (ZI lo')) g 203 (Az a.k a.dn a.lo a.hi c.k c.dn c.lo c.hi s lo' hi):=k7.set_ 9 (ZI lo');have k9:Blk (((((((((((w).setCell ⟨g,0,none⟩ (ZI a.k)).setCell ⟨g,1,none⟩ (.bool a.dn)).setCell ⟨g,2,none⟩ (ZI a.lo)).setCell ⟨g,3,none⟩ (ZI a.hi)).setCell ⟨g,4,none⟩ (ZI c.k)).setCell ⟨g,5,none⟩ (.bool c.dn)).setCell ⟨g,6,none⟩ (ZI c.lo)).setCell ⟨g,7,none⟩ (ZI c.hi)).setCell ⟨g,9,none⟩ (ZI lo')).setCell ⟨g,10,none⟩ (ZI hi')) g 203 (Az a.k a.dn a.lo a.hi c.k c.dn c.lo c.hi s lo' hi'):=k8.set_ 10 (ZI hi');exact k9
theorem Mu (w:World) (g:Nat) (a c:En) (lo hi:Int):w.grownBy (Um w g a c lo hi) (some g):=by
 unfold Um
 repeat(refine Bc ?_ (.inl rfl) _)
 exact JU _ _
theorem J9 (w:World) (g:Nat) (x y:En):w.grownBy ((((((((((((w).setCell ⟨g,0,none⟩ (ZI x.k)).setCell ⟨g,1,none⟩ (.bool x.dn)).setCell ⟨g,2,none⟩ (ZI x.lo)).setCell ⟨g,3,none⟩ (ZI x.hi)).setCell ⟨g,4,none⟩ (ZI y.k)).setCell ⟨g,5,none⟩ (.bool y.dn)).setCell ⟨g,6,none⟩ (ZI y.lo)).setCell ⟨g,7,none⟩ (ZI y.hi)).setCell ⟨g,8,none⟩ (.bool true)).setCell ⟨g,9,none⟩ (ZI 0)).setCell ⟨g,10,none⟩ (ZI 0)) (some g):=by
 repeat(refine Bc ?_ (.inl rfl) _)
 exact JU _ _
theorem NY {w:World} {g:Nat} {x y:En} (K:Blk w g 203 Di):Blk ((((((((((((w).setCell ⟨g,0,none⟩ (ZI x.k)).setCell ⟨g,1,none⟩ (.bool x.dn)).setCell ⟨g,2,none⟩ (ZI x.lo)).setCell ⟨g,3,none⟩ (ZI x.hi)).setCell ⟨g,4,none⟩ (ZI y.k)).setCell ⟨g,5,none⟩ (.bool y.dn)).setCell ⟨g,6,none⟩ (ZI y.lo)).setCell ⟨g,7,none⟩ (ZI y.hi)).setCell ⟨g,8,none⟩ (.bool true)).setCell ⟨g,9,none⟩ (ZI 0)).setCell ⟨g,10,none⟩ (ZI 0)) g 203 (Az x.k x.dn x.lo x.hi y.k y.dn y.lo y.hi true 0 0):=by
 have k0:Blk ((w).setCell ⟨g,0,none⟩ (ZI x.k)) g 203 (Az x.k false 0 0 0 false 0 0 false 0 0):=K.set_ 0 (ZI x.k);have a:Blk (((w).setCell ⟨g,0,none⟩ (ZI x.k)).setCell ⟨g,1,none⟩ (.bool x.dn)) g 203 (Az x.k x.dn 0 0 0 false 0 0 false 0 0):=k0.set_ 1 (.bool x.dn);have k2:Blk ((((w).setCell ⟨g,0,none⟩ (ZI x.k)).setCell ⟨g,1,none⟩ (.bool x.dn)).setCell ⟨g,2,none⟩ (ZI x.lo)) g 203 (Az x.k x.dn x.lo 0 0 false 0 0 false 0 0):=a.set_ 2 (ZI x.lo);have k3:Blk (((((w).setCell ⟨g,0,none⟩ (ZI x.k)).setCell ⟨g,1,none⟩ (.bool x.dn)).setCell ⟨g,2,none⟩ (ZI x.lo)).setCell ⟨g,3,none⟩ (ZI x.hi)) g 203 (Az x.k x.dn x.lo x.hi 0 false 0 0 false 0 0):=k2.set_ 3 (ZI x.hi);have k4:Blk ((((((w).setCell ⟨g,0,none⟩ (ZI x.k)).setCell ⟨g,1,none⟩ (.bool x.dn)).setCell ⟨g,2,none⟩ (ZI x.lo)).setCell ⟨g,3,none⟩ (ZI x.hi)).setCell ⟨g,4,none⟩ (ZI y.k)) g 203 (Az x.k x.dn x.lo x.hi y.k false 0 0 false 0 0):=k3.set_ 4 (ZI y.k);have k5:Blk (((((((w).setCell ⟨g,0,none⟩ (ZI x.k)).setCell ⟨g,1,none⟩ (.bool x.dn)).setCell ⟨g,2,none⟩ (ZI x.lo)).setCell ⟨g,3,none⟩ (ZI x.hi)).setCell ⟨g,4,none⟩ (ZI y.k)).setCell ⟨g,5,none⟩ (.bool y.dn)) g 203 (Az x.k x.dn x.lo x.hi y.k y.dn 0 0 false 0 0):=k4.set_ 5 (.bool y.dn);have k6:Blk ((((((((w).setCell ⟨g,0,none⟩ (ZI x.k)).setCell ⟨g,1,none⟩ (.bool x.dn)).setCell ⟨g,2,none⟩ (ZI x.lo)).setCell ⟨g,3,none⟩ (ZI x.hi)).setCell ⟨g,4,none⟩ (ZI y.k)).setCell ⟨g,5,none⟩ (.bool y.dn)).setCell ⟨g,6,none⟩ (ZI y.lo)) g 203 (Az x.k x.dn x.lo x.hi y.k y.dn y.lo 0 false 0 0):=k5.set_ 6 (ZI y.lo);have k7:Blk (((((((((w).setCell ⟨g,0,none⟩ (ZI x.k)).setCell ⟨g,1,none⟩ (.bool x.dn)).setCell ⟨g,2,none⟩ (ZI x.lo)).setCell ⟨g,3,none⟩ (ZI x.hi)).setCell ⟨g,4,none⟩ (ZI y.k)).setCell ⟨g,5,none⟩ (.bool y.dn)).setCell ⟨g,6,none⟩ (ZI y.lo)).setCell ⟨g,7,none⟩ (ZI y.hi)) g 203 (Az x.k x.dn x.lo x.hi y.k y.dn y.lo y.hi false 0 0):=k6.set_ 7 (ZI y.hi);have k8:Blk ((((((((((w).setCell ⟨g,0,none⟩ (ZI x.k)).setCell ⟨g,1,none⟩ (.bool x.dn)).setCell ⟨g,2,none⟩ (ZI x.lo)).setCell ⟨g,3,none⟩ (ZI x.hi)).setCell ⟨g,4,none⟩ (ZI y.k)).setCell ⟨g,5,none⟩ (.bool y.dn)).setCell ⟨g,6,none⟩ (ZI y.lo)).setCell ⟨g,7,none⟩ (ZI y.hi)).setCell ⟨g,8,none⟩ (.bool true)) g 203 (Az x.k x.dn x.lo x.hi y.k y.dn y.lo y.hi true 0 0):=k7.set_ 8 (.bool true);have k9:Blk (((((((((((w).setCell ⟨g,0,none⟩ (ZI x.k)).setCell ⟨g,1,none⟩ (.bool x.dn)).setCell ⟨g,2,none⟩ (ZI x.lo)).setCell ⟨g,3,none⟩ (ZI x.hi)).setCell ⟨g,4,none⟩ (ZI y.k)).setCell ⟨g,5,none⟩ (.bool y.dn)).setCell ⟨g,6,none⟩ (ZI y.lo)).setCell ⟨g,7,none⟩ (ZI y.hi)).setCell ⟨g,8,none⟩ (.bool true)).setCell ⟨g,9,none⟩ (ZI 0)) g 203 (Az x.k x.dn x.lo x.hi y.k y.dn y.lo y.hi true 0 0):=k8.set_ 9 (ZI 0);have k10:Blk ((((((((((((w).setCell ⟨g,0,none⟩ (ZI x.k)).setCell ⟨g,1,none⟩ (.bool x.dn)).setCell ⟨g,2,none⟩ (ZI x.lo)).setCell ⟨g,3,none⟩ (ZI x.hi)).setCell ⟨g,4,none⟩ (ZI y.k)).setCell ⟨g,5,none⟩ (.bool y.dn)).setCell ⟨g,6,none⟩ (ZI y.lo)).setCell ⟨g,7,none⟩ (ZI y.hi)).setCell ⟨g,8,none⟩ (.bool true)).setCell ⟨g,9,none⟩ (ZI 0)).setCell ⟨g,10,none⟩ (ZI 0)) g 203 (Az x.k x.dn x.lo x.hi y.k y.dn y.lo y.hi true 0 0):=k9.set_ 10 (ZI 0);exact k10
theorem Blk.belowR {w w':World} {g:Nat} {t:TypeId} {cs:Array Value} (h:Blk w g t cs) (a:Below w w w'):Blk w' g t cs:=h.below a h.lt
theorem Za {r q:Al} {n:Nat} (h:r.tr n=none∨q.tr n=none):ceR r q n=.tuple (Ce 0 false 0 0 0 false 0 0 false 0 0 3):=by
 unfold ceR;rcases h with h|h
 ·rw[h]
 ·rw[h];cases r.tr n<;>rfl
theorem Zb {r q:Al} {n:Nat} {x y:En} {l m:List AU} (a:r.tr n=some (x,l)) (b:q.tr n=some (y,m)):ceR r q n=.tuple #[aV x y (decide (C2 l=C2 m)) (Ej (BF l) (BF m) n) (Ei (BF l) (BF m) n),ZI 0]:=by
 unfold ceR;rw[a,b]
theorem Rw (h:Ev) (r q:Al) (n:Nat) (w:World) (X:DR w h r) (hn:n<=100) (N:YJ r q) (bK:q.ss=r.ss) (be:q.src=r.src):
  (BT 265 #[EV h,ZI r.src,GU r,GU q,ZI n] w (ceR r q n):Prop):=by
 have ai:=λW=>FC r W;have aa:=λW=>FC q W;have aj:=λ(x:En) (W:World) (b:Below w w W) (S:Jt r x)=>It h r x W (X.below b) N.fr.ok S;have ab:=λ(x:En) (W:World) (b:Below w w W) (S:Jt q x)=>It h q x W (DR.below ⟨by rw[N.ds];exact X.d,by rw[bK];exact X.s⟩ b) N.fq.ok S
 have HN:=Ai N;have HZ:Hid ((r.tr n=none∨q.tr n=none)->ceR r q n=.tuple (Ce 0 false 0 0 0 false 0 0 false 0 0 3)):=Za;have HO:Hid (∀(x y:En) (l m:List AU),r.tr n=some (x,l)->q.tr n=some (y,m)->ceR r q n=.tuple #[aV x y (decide (C2 l=C2 m)) (Ej (BF l) (BF m) n) (Ei (BF l) (BF m) n),ZI 0]):=λ_ _ _ _ a b=>Zb a b;generalize ceR r q n=RV at*;clear X N;obtain⟨⟨A0,n0,c0⟩,⟨A1,n1,c1⟩⟩:=h;unfold EV GU Hy aV at*;simp only at aj ab ai aa HO⊢;rw[be] at ab aa
 go_enter func265,ntmps265
 go_upto_region 1 with fail
 generalize hG:(((w.alloc _).alloc _).alloc _).alloc _=M;obtain⟨t,g,j,f,b0⟩:=Y3 hG;clear hG;have e1: ∀o,M.cell? ⟨w+1,o,none⟩=((Ziii r.c r.s r.h):Array Value)[o]? :=g.cell;have g1:=g.lt;have e2: ∀o,M.cell? ⟨w+1+1,o,none⟩=((Ziii q.c q.s q.h):Array Value)[o]? :=j.cell;have g2:=j.lt;have g3:=f.lt;have ay:=Br M 203 Di;obtain⟨x0,aH⟩: ∃x,r.first=x:=⟨_,rfl⟩;obtain⟨y0,aI⟩: ∃y,q.first=y:=⟨_,rfl⟩;have O:r.tr 0=some (x0,[]):=by rw[<-aH];rfl
 have Q:q.tr 0=some (y0,[]):=by rw[<-aI];rfl
 rw[aH] at ai;rw[aI] at aa;clear aH aI
 go_cut [12] (λv12 wx=> ∃G:Nat,v12=.pointer (some ⟨G,0,none⟩)∧Blk wx G 203 (Az x0.k x0.dn x0.lo x0.hi y0.k y0.dn y0.lo y0.hi true 0 0)∧M.heap.size<=G∧Below M M wx)
 case first=>
  go_region_held3 (λw'=>(∀o,w'.cell? ⟨w+1,o,none⟩=((Ziii r.c r.s r.h):Array Value)[o]?)∧(∀o,w'.cell? ⟨w+1+1,o,none⟩=((Ziii q.c q.s q.h):Array Value)[o]?))
   (exact bp)
   (first|((fail_if_success (clear J));go_at_call 162;(with_reducible refine(ai _).mono ?_);rintro e u0 ⟨rfl,am⟩;have J:Below M M u0:=(show Below M M _ from Ax).trans (am.mono C9);have au:=J.size;have bf:=am.size;(try simp at bf);(first|(with_reducible have KZ:=(Blk.drew ay).belowR am)|(with_reducible have KZ:=ay.belowR am)|skip);have e1u0: ∀o,u0.cell? ⟨w+1,o,none⟩=((Ziii r.c r.s r.h):Array Value)[o]? :=λo=>(g.below J g.lt).cell o;have bP:=(g.below J g.lt).lt;have e2u0: ∀o,u0.cell? ⟨w+1+1,o,none⟩=((Ziii q.c q.s q.h):Array Value)[o]? :=λo=>(j.below J j.lt).cell o;have bR:=(j.below J j.lt).lt)|((fail_if_success (clear F));go_at_call 162;(with_reducible refine(aa _).mono ?_);rintro e u1 ⟨rfl,ad⟩;have F:Below M M u1:=(show Below M M _ from Ax).trans (ad.mono C9);have R:=F.size;have bg:=ad.size;(try simp at bg);(first|(with_reducible have U:=(Blk.drew KZ).belowR ad;have cY:=U.cell;have fY:=U.frozen;have lY:=U.lt)|(with_reducible have U:=KZ.belowR ad;have cY:=U.cell;have fY:=U.frozen;have lY:=U.lt)|(with_reducible have U:=(Br u0 203 Di).belowR ad;have cY:=U.cell;have fY:=U.frozen;have lY:=U.lt)|skip);have e1u1: ∀o,u1.cell? ⟨w+1,o,none⟩=((Ziii r.c r.s r.h):Array Value)[o]? :=λo=>(g.below F g.lt).cell o;have bQ:=(g.below F g.lt).lt;have e2u1: ∀o,u1.cell? ⟨w+1+1,o,none⟩=((Ziii q.c q.s q.h):Array Value)[o]? :=λo=>(j.below F j.lt).cell o;have bS:=(j.below F j.lt).lt))
  ·go_wp2_with fail
   go_meet
   exact⟨u1.heap.size,rfl,Br u1 _ _,R,F.alloc R _⟩
  ·go_wp2_with fail
   go_meet
   exact⟨u0.heap.size,rfl,NY U,au,F.grown (J9 u1 u0.heap.size x0 y0) R (λz e=>by cases e;exact au)⟩
  ·go_wp2_with fail
   go_meet
   exact⟨M.heap.size,rfl,NY U,Cp _,F.grown (J9 u1 M.heap.size x0 y0) R (λz e=>by cases e;exact Cp _)⟩
 case rest=>
  obtain⟨G,rfl,A,bE,bw⟩:=hcut;obtain⟨w5,rfl⟩: ∃x:World,x=wc:=⟨_,rfl⟩;replace b0:=An b0 bw;replace t:=t.below bw t.lt;replace g:=g.below bw g1;replace j:=j.below bw g2;replace f:=f.below bw g3;have b5:w+1+1+1<G:=Aa;clear e1 g1 e2 g2 g3 ay bw bE ai aa
  go_wp2_with fail
  go_loopw [13] (λi wr=> ∃(k:Nat) (x y:En) (l m:List AU),k<=n∧i=.int .i64 k∧r.tr k=some (x,l)∧q.tr k=some (y,m)∧Blk wr G 203 (Az x.k x.dn x.lo x.hi y.k y.dn y.lo y.hi (decide (C2 l=C2 m)) (Ej (BF l) (BF m) k) (Ei (BF l) (BF m) k))∧Blk wr w.heap.size 30 (CH A0 n0 c0 A1 n1 c1)∧Blk wr (w.heap.size+1) 32 (Ziii r.c r.s r.h)∧Blk wr (w.heap.size+1+1) 32 (Ziii q.c q.s q.h)∧Blk wr (w.heap.size+1+1+1) 203 Di∧Below w w wr) (λi _=>n-(intOf i).toNat)
  case atStart=>exact⟨0,x0,y0,[],[],AZ _,rfl,O,Q,A,t,g,j,f,b0⟩
  case round=>
   clear A t g j f b0 O Q;obtain⟨k,x,y,l,m,hk,rfl,O,Q,A,t,g,j,f,b⟩:=hrel
   by_cases b7:k<n
   ·have bd:(k:Int)<(n:Int):=Aa;obtain⟨Sx,bF,-,-⟩:=HN.out.fr.ok.tr_ok k x l O;obtain⟨Sy,bG,-,-⟩:=HN.out.fq.ok.tr_ok k y m Q;have a3:=aj x wr b Sx;have ak:=λ(W:World) (c:Below w w W)=>ab y W c Sy;have e0:=t.cell;have g0:=t.lt;have e1:=g.cell;have g1:=g.lt;have e2:=j.cell;have g2:=j.lt;have eC:=A.cell;have ae:=Nr O;have af:=Nr Q
    go_wp2_with fail
    refine a3.mono ?_;clear a3 aj ab;rcases hs1:r.step x with _|a
    ·have HE:=Ai (HZ.out (Or.inl (Lt (ae.1 hs1) n Aa)));unfold EG;simp only;rintro e Z ⟨rfl,Y⟩;clear eC e0 g0 e1 g1 e2 g2;replace A:=A.below Y A.lt;replace t:=t.below Y t.lt;replace g:=g.below Y g.lt;replace j:=j.below Y j.lt;replace f:=f.below Y f.lt;replace b:=An b Y;have u:Below Z Z (Z.alloc (.cells DJ 138)):=BU;replace A:=A.below u A.lt;replace t:=t.below u t.lt;replace g:=g.below u g.lt;replace j:=j.below u j.lt;replace f:=f.below u f.lt;replace b:=An b u
     go_upto_region 6 with fail
     generalize Z.alloc _=w7 at A t g j f b⊢;have eC:=A.cell;have e0:=t.cell;have g0:=t.lt;have e1:=g.cell;have g1:=g.lt;have e2:=j.cell;have g2:=j.lt
     go_wp2_with fail
     refine(ak _ b).mono ?_;clear ak eC e0 g0 e1 g1 e2 g2;rcases hs2:q.step y with _|c
     ·unfold EG;simp only;rintro e H ⟨rfl,I⟩;have b9:=An b I;replace f:=f.below I f.lt;have L:Below H H (H.alloc (.cells DJ 138)):=BU;replace b9:=An b9 L;replace f:=f.below L f.lt;clear A t g j b I HO HZ
      go_upto_region 7 with fail
      generalize H.alloc _=w9 at f b9⊢;have e3:=f.cell;have f3:=f.frozen;have g3:=f.lt;go_wp2;refine AS (v:=.tuple (Ce 0 false 0 0 0 false 0 0 false 0 0 3)) (by simp[results,results265,go_sem,e3]) rfl ⟨by rw[HE.out],Ax⟩
     ·unfold EG;simp only;unfold Hy;rintro e H ⟨rfl,I⟩;have b9:=An b I;replace f:=f.below I f.lt;have L:Below H H (H.alloc (.cells (A7 c.st.k c.st.dn c.st.lo c.st.hi) 138)):=BU;replace b9:=An b9 L;replace f:=f.below L f.lt;clear A t g j b I HO HZ
      go_upto_region 7 with fail
      generalize H.alloc _=w9 at f b9⊢;have e3:=f.cell;have f3:=f.frozen;have g3:=f.lt;go_wp2;refine AS (v:=.tuple (Ce 0 false 0 0 0 false 0 0 false 0 0 3)) (by simp[results,results265,go_sem,e3]) rfl ⟨by rw[HE.out],Ax⟩
    ·unfold EG;simp only;unfold Hy;rintro e Z ⟨rfl,Y⟩;clear eC e0 g0 e1 g1 e2 g2;replace A:=A.below Y A.lt;replace t:=t.below Y t.lt;replace g:=g.below Y g.lt;replace j:=j.below Y j.lt;replace f:=f.below Y f.lt;replace b:=An b Y;have bH:G<Z:=A.lt;have u:Below Z Z (Z.alloc (.cells (A7 a.st.k a.st.dn a.st.lo a.st.hi) 138)):=BU;have C:=Br Z 138 (A7 a.st.k a.st.dn a.st.lo a.st.hi);replace A:=A.below u A.lt;replace t:=t.below u t.lt;replace g:=g.below u g.lt;replace j:=j.below u j.lt;replace f:=f.below u f.lt;replace b:=An b u
     go_upto_region 6 with fail
     generalize Z.alloc _=w7 at C A t g j f b⊢;generalize Z.heap.size=qa at C bH⊢;have eC:=A.cell;have e0:=t.cell;have g0:=t.lt;have e1:=g.cell;have g1:=g.lt;have e2:=j.cell;have g2:=j.lt
     go_wp2_with fail
     refine(ak _ b).mono ?_;clear ak eC e0 g0 e1 g1 e2 g2;rcases hs2:q.step y with _|c
     ·have HE:=Ai (HZ.out (Or.inr (Lt (af.1 hs2) n Aa)));unfold EG;simp only;rintro e H ⟨rfl,I⟩;have b9:=An b I;replace f:=f.below I f.lt;have L:Below H H (H.alloc (.cells DJ 138)):=BU;replace b9:=An b9 L;replace f:=f.below L f.lt;clear A t g j b I HO HZ
      go_upto_region 7 with fail
      generalize H.alloc _=w9 at f b9⊢;have e3:=f.cell;have f3:=f.frozen;have g3:=f.lt;go_wp2;refine AS (v:=.tuple (Ce 0 false 0 0 0 false 0 0 false 0 0 3)) (by simp[results,results265,go_sem,e3]) rfl ⟨by rw[HE.out],Ax⟩
     ·have ha:=Ai (HN.out.fr.ok.step_add Sx hs1);have hc:=Ai (HN.out.fq.ok.step_add Sy hs2);have aD:=ae.2 a hs1;have aE:=af.2 c hs2;have ar:=HN.out.lim (show k+1<=100 by omega) aD aE
      obtain⟨aA,aB⟩:=Qh (a:=a) (b:=c) bF bG;have bc:=ef (l:=l) (m:=m) (a:=a) (b:=c) Aa;rw[aA,aB] at ar;have a1:=Ai aD;have a2:=Ai aE;have aT:=Ai aA;have aU:=Ai aB;have aS:=Ai bc;clear hs1 hs2 aD aE ae af aA aB bc Sx Sy O Q;unfold EG;simp only;unfold Hy;rintro e H ⟨rfl,I⟩;have bI:G<H:=CM A.lt I.size;have bJ:qa<H:=CM C.lt I.size;replace C:=C.below I C.lt;replace A:=A.below I A.lt;replace t:=t.below I t.lt;replace g:=g.below I g.lt;replace j:=j.below I j.lt;replace f:=f.below I f.lt;replace b:=An b I;have u:Below H H (H.alloc (.cells (A7 c.st.k c.st.dn c.st.lo c.st.hi) 138)):=BU;have E:=Br H 138 (A7 c.st.k c.st.dn c.st.lo c.st.hi);replace C:=C.below u C.lt;replace A:=A.below u A.lt;replace t:=t.below u t.lt;replace g:=g.below u g.lt;replace j:=j.below u j.lt;replace f:=f.below u f.lt;replace b:=An b u
      go_upto_region 7 with fail
      generalize H.alloc _=w9 at C E A t g j f b⊢;generalize H.heap.size=qd at E bI bJ⊢;have eA:=C.cell;have gA:=C.lt;have eD:=E.cell;have gD:=E.lt;have eC:=A.cell;have fC:=A.frozen;have gC:=A.lt;have bB:qa≠G:=Aa;have bD:qd≠G:=Aa;have b4:=bD.symm;have hca:=bB.symm;generalize bx:Ej (BF l) (BF m) k=lo at*;generalize bu:Ei (BF l) (BF m) k=hi at*;generalize bA:decide (C2 l=C2 m)=sm at*;clear bx bu bA;have u1:IntKind.i64.wrap (a.st.lo-x.lo)=a.lo:=by rw[ha.out.1,show x.lo+a.lo-x.lo=a.lo by omega];exact Ff _ (by have:=ha.out;omega)
      have u2:IntKind.i64.wrap (c.st.lo-y.lo)=c.lo:=by rw[hc.out.1,show y.lo+c.lo-y.lo=c.lo by omega];exact Ff _ (by have:=hc.out;omega)
      have u3:IntKind.i64.wrap (a.st.hi-x.hi)=a.hi:=by rw[ha.out.2.1,show x.hi+a.hi-x.hi=a.hi by omega];exact Ff _ (by have:=ha.out;omega)
      have u4:IntKind.i64.wrap (c.st.hi-y.hi)=c.hi:=by rw[hc.out.2.1,show y.hi+c.hi-y.hi=c.hi by omega];exact Ff _ (by have:=hc.out;omega)
      have u5:=Bg (lo+min a.lo c.lo);have u6:=Bg (hi+max a.hi c.hi);have bb:ckB (lo+min a.lo c.lo) (hi+max a.hi c.hi)=true:=by unfold ckB;rw[IQ.2 Aa,IQ.2 Aa];rfl
      have ah: ∀V:World,Calls prog 260 (Zii (lo+min a.lo c.lo) (hi+max a.hi c.hi)) V λe w'=>e=.returned (.tuple (BN (lo+min a.lo c.lo) (hi+max a.hi c.hi) 0))∧Below V V w':=λV=>by
       have h:=EN (lo+min a.lo c.lo) (hi+max a.hi c.hi) V;simp only[bb,if_true] at h;exact h
      clear ha hc ar bb
      cases sm with
      |true=>
       have aF:Hid (decide (C2 (l++ [a])=C2 (m++ [c]))=(decide (a.ev=c.ev))):=by unfold Hid;rw[aS.out];first|exact Ha _|exact Bool.false_and _
       have p:Blk (w9.setCell ⟨G,8,none⟩ (.bool (decide (a.ev=c.ev)))) G 203 (Az x.k x.dn x.lo x.hi y.k y.dn y.lo y.hi (decide (a.ev=c.ev)) lo hi):=A.set_ 8 (.bool (decide (a.ev=c.ev)));have K:w9.grownBy (w9.setCell ⟨G,8,none⟩ (.bool (decide (a.ev=c.ev)))) (some G):=Bc (JU _ _) (.inl rfl) _;replace C:=C.grown K (λe=>by cases e;omega)
       replace E:=E.grown K (λe=>by cases e;omega)
       replace t:=t.grown K (λe=>by cases e;omega)
       replace g:=g.grown K (λe=>by cases e;omega)
       replace j:=j.grown K (λe=>by cases e;omega)
       replace f:=f.grown K (λe=>by cases e;omega)
       replace b:=b.grown K b.size (λz e=>by cases e;omega)
       go_upto_region 10 with fail
       clear eA gA eD gD eC fC gC A K;generalize w9.setCell ⟨G,8,none⟩ (.bool (decide (a.ev=c.ev)))=bM at p C E t g j f b⊢;have eA:=C.cell;have eD:=E.cell;have eC:=p.cell
       go_wp2_with fail
       refine(ah _).mono ?_;rintro e D ⟨rfl,B⟩;clear ah eA eD eC;replace p:=p.below B p.lt;replace C:=C.below B C.lt;replace E:=E.below B E.lt;replace t:=t.below B t.lt;replace g:=g.below B g.lt;replace j:=j.below B j.lt;replace f:=f.below B f.lt;replace b:=An b B;have u:Below D D (D.alloc (.cells (Zii (lo+min a.lo c.lo) (hi+max a.hi c.hi)) 136)):=BU;have KE:=Br D 136 (Zii (lo+min a.lo c.lo) (hi+max a.hi c.hi));have aG:G<D:=p.lt;replace p:=p.below u p.lt;replace C:=C.below u C.lt;replace E:=E.below u E.lt;replace t:=t.below u t.lt;replace g:=g.below u g.lt;replace j:=j.below u j.lt;replace f:=f.below u f.lt;replace b:=An b u;clear B u
       go_upto_region 13 with fail
       generalize D.alloc _=aJ at KE p C E t g j f b⊢;generalize D.heap.size=qe at KE aG⊢;have eA:=C.cell;have eD:=E.cell;have eE:=KE.cell;have eC:=p.cell;have fC:=p.frozen;have gC:=p.lt;have aC:qe≠G:=Aa;have bC:=aC.symm;have T:=Mu aJ G a.st c.st (lo+min a.lo c.lo) (hi+max a.hi c.hi);have NC:=Qt (a:=a.st) (c:=c.st) (lo':=lo+min a.lo c.lo) (hi':=hi+max a.hi c.hi) p;have N0:=t.grown T (λe=>by cases e;omega)
       have N1:=g.grown T (λe=>by cases e;omega)
       have N2:=j.grown T (λe=>by cases e;omega)
       have N3:=f.grown T (λe=>by cases e;omega)
       have nb:=b.grown T b.size (λz e=>by cases e;omega)
       clear T C E KE p t g j f b;unfold Um at NC N0 N1 N2 N3 nb;go_wp2
       go_roundw
       case rel=>exact⟨k+1,a.st,c.st,l++ [a],m++ [c],by omega,by go_num,a1.out,a2.out,by rw[aF.out,aT.out,aU.out];exact NC,N0,N1,N2,N3,nb⟩
       case measure=>simp[intOf];omega
      |false=>
       have aF:Hid (decide (C2 (l++ [a])=C2 (m++ [c]))=(false)):=by unfold Hid;rw[aS.out];first|exact Ha _|exact Bool.false_and _
       have p:Blk (w9.setCell ⟨G,8,none⟩ (.bool false)) G 203 (Az x.k x.dn x.lo x.hi y.k y.dn y.lo y.hi false lo hi):=A.set_ 8 (.bool false);have K:w9.grownBy (w9.setCell ⟨G,8,none⟩ (.bool false)) (some G):=Bc (JU _ _) (.inl rfl) _;replace C:=C.grown K (λe=>by cases e;omega)
       replace E:=E.grown K (λe=>by cases e;omega)
       replace t:=t.grown K (λe=>by cases e;omega)
       replace g:=g.grown K (λe=>by cases e;omega)
       replace j:=j.grown K (λe=>by cases e;omega)
       replace f:=f.grown K (λe=>by cases e;omega)
       replace b:=b.grown K b.size (λz e=>by cases e;omega)
       go_upto_region 10 with fail
       clear eA gA eD gD eC fC gC A K;generalize w9.setCell ⟨G,8,none⟩ (.bool false)=bM at p C E t g j f b⊢;have eA:=C.cell;have eD:=E.cell;have eC:=p.cell
       go_wp2_with fail
       refine(ah _).mono ?_;rintro e D ⟨rfl,B⟩;clear ah eA eD eC;replace p:=p.below B p.lt;replace C:=C.below B C.lt;replace E:=E.below B E.lt;replace t:=t.below B t.lt;replace g:=g.below B g.lt;replace j:=j.below B j.lt;replace f:=f.below B f.lt;replace b:=An b B;have u:Below D D (D.alloc (.cells (Zii (lo+min a.lo c.lo) (hi+max a.hi c.hi)) 136)):=BU;have KE:=Br D 136 (Zii (lo+min a.lo c.lo) (hi+max a.hi c.hi));have aG:G<D:=p.lt;replace p:=p.below u p.lt;replace C:=C.below u C.lt;replace E:=E.below u E.lt;replace t:=t.below u t.lt;replace g:=g.below u g.lt;replace j:=j.below u j.lt;replace f:=f.below u f.lt;replace b:=An b u;clear B u
       go_upto_region 13 with fail
       generalize D.alloc _=aJ at KE p C E t g j f b⊢;generalize D.heap.size=qe at KE aG⊢;have eA:=C.cell;have eD:=E.cell;have eE:=KE.cell;have eC:=p.cell;have fC:=p.frozen;have gC:=p.lt;have aC:qe≠G:=Aa;have bC:=aC.symm;have T:=Mu aJ G a.st c.st (lo+min a.lo c.lo) (hi+max a.hi c.hi);have NC:=Qt (a:=a.st) (c:=c.st) (lo':=lo+min a.lo c.lo) (hi':=hi+max a.hi c.hi) p;have N0:=t.grown T (λe=>by cases e;omega)
       have N1:=g.grown T (λe=>by cases e;omega)
       have N2:=j.grown T (λe=>by cases e;omega)
       have N3:=f.grown T (λe=>by cases e;omega)
       have nb:=b.grown T b.size (λz e=>by cases e;omega)
       clear T C E KE p t g j f b;unfold Um at NC N0 N1 N2 N3 nb;go_wp2
       go_roundw
       case rel=>exact⟨k+1,a.st,c.st,l++ [a],m++ [c],by omega,by go_num,a1.out,a2.out,by rw[aF.out,aT.out,aU.out];exact NC,N0,N1,N2,N3,nb⟩
       case measure=>simp[intOf];omega
   ·obtain rfl:n=k:=Aa;have bd: ¬(n:Int)<(n:Int):=Aa;have HE:=Ai (HO.out x y l m O Q);have eC:=A.cell;have e3:=f.cell;have f3:=f.frozen;have g3:=f.lt;clear aj ab HZ HO;go_wp2;refine AS (v:=.tuple (Ce x.k x.dn x.lo x.hi y.k y.dn y.lo y.hi (decide (C2 l=C2 m)) (Ej (BF l) (BF m) n) (Ei (BF l) (BF m) n) 0)) (by simp[results,results265,go_sem,e3]) rfl ⟨by rw[HE.out],Ax⟩
theorem Oh (x y:En) (f:Bool) (lo hi b a:Int) (w:World):
  (BT 208 #[aV x y f lo hi,ZI b,ZI a] w (ZI (vdV x y f lo hi b a)):Prop):=by
 have j:=λW=>Ay a lo hi W;unfold aV
 go_enter func208,ntmps208
 go_upto_region 1 with fail
 generalize t:w.alloc _=c;obtain⟨K,i⟩:=EX t;clear t;have s:=K.cell;have E:=K.lt
 go_cut [7,8] (λv7 v8 wx=> ∃p q:Nat,v7=.pointer (some ⟨p,0,none⟩)∧v8=.pointer (some ⟨q,0,none⟩)∧Blk wx p 136 (Zii x.lo x.hi)∧Blk wx q 136 (Zii y.lo y.hi)∧Below c c wx)
 case first=>
  have u:=(Br c 136 (Zii x.lo x.hi)).alloc (.cells (Zii y.lo y.hi) 136);have v:=(Br c 136 (Zii y.lo y.hi)).alloc (.cells (Zii x.lo x.hi) 136);have l:=Blk.newN (g:=c+1) (c.alloc (.cells (Zii y.lo y.hi) 136)) 136 (Zii x.lo x.hi) Cr;have m:=Blk.newN (g:=c+1) (c.alloc (.cells (Zii x.lo x.hi) 136)) 136 (Zii y.lo y.hi) Cr;have C:Below c c ((c.alloc (.cells (Zii x.lo x.hi) 136)).alloc (.cells (Zii y.lo y.hi) 136)).drew:=Ax;have D:Below c c ((c.alloc (.cells (Zii y.lo y.hi) 136)).alloc (.cells (Zii x.lo x.hi) 136)).drew:=Ax
  go_region
  all_goals
   go_wp2_with fail
   go_meet
   first
    |exact⟨_,_,rfl,rfl,u.drew,m.drew,C⟩
    |exact⟨_,_,rfl,rfl,l.drew,v.drew,D⟩
    |trace_state
 case rest=>
  obtain⟨p,q,rfl,rfl,A,B,n⟩:=hcut;obtain⟨O,rfl⟩: ∃z:World,z=wc:=⟨_,rfl⟩;replace i:=An i n;replace K:=K.below n K.lt;clear n s E;have s:=K.cell;have M:=A.cell;have N:=B.cell
  cases f with
  |false=>
   have HV:Hid (vdV x y false lo hi b a=1):=AA rfl;clear j;go_wp2;go_ret;exact⟨by rw[HV.out];rfl,i⟩
  |true=>
   have HV:Hid (vdV x y true lo hi b a=if¬(x.k:Int)=b∨inR a lo hi=false then 0 else if(x.hi<a∧a<y.lo)∨(y.hi<a∧a<x.lo) then 2 else 1):=Ak Ah
   by_cases r:(x.k:Int)=b
   ·go_wp2_with fail
    refine(j _).mono ?_;clear j;rcases jt (inR a lo hi) with hi1|hi1
    ·rw[hi1];rintro e L ⟨rfl,rfl⟩;have d:Hid (vdV x y true lo hi b a=if(x.hi<a∧a<y.lo)∨(y.hi<a∧a<x.lo) then 2 else 1):=by unfold Hid;rw[HV.out,Ak (by rw[hi1];simp[r])]
     clear HV hi1
     by_cases G:x.hi<a<;>by_cases H:a<y.lo<;>by_cases I:y.hi<a<;>by_cases J:a<x.lo
     all_goals
      go_wp2;go_ret;exact⟨by rw[d.out];simp[G,H,I,J],i⟩
    ·rw[hi1];rintro e L ⟨rfl,rfl⟩;have d:Hid (vdV x y true lo hi b a=0):=by unfold Hid;rw[HV.out,AA (Or.inr hi1)]
     clear HV hi1;go_wp2;go_ret;exact⟨by rw[d.out];rfl,i⟩
   ·have F:((x.k:Int) !=b)=true:=by rw[bne_iff_ne];exact r
    have d:Hid (vdV x y true lo hi b a=0):=by unfold Hid;rw[HV.out,AA (Or.inl r)]
    clear HV j;go_wp2;go_ret;exact⟨by rw[d.out];rfl,i⟩
theorem PR (h:Ev) (n:Nat) (a b:Int) (w:World) (r:h.D.n=n) (s:n<=12):
  (BT 207 #[EV h,ZI a,ZI b] w (.bool (inR a 0 ((n:Int)-1) && inR b 0 1000000000000)):Prop):=by
 subst r;obtain⟨⟨g,d,l⟩,⟨i,p,m⟩⟩:=h;unfold EV;simp only at*;have k:Below w w (w.alloc (.cells (CH g d l i p m) 30)):=BU;have K:=Br w 30 (CH g d l i p m);have f:=λW=>Ay a 0 ((d:Int)-1) W;have j:=λW=>Ay b 0 1000000000000 W;have t:=Bg ((d:Int)-1)
 go_enter func207,ntmps207
 go_upto_region 1 with fail
 generalize w.alloc _=u at*;have c:=K.cell
 go_wp2_with fail
 refine(f _).mono ?_;rcases jt (inR a 0 ((d:Int)-1)) with hk|hk
 ·rw[hk];rintro e q ⟨rfl,rfl⟩;clear f
  go_wp2_with fail
  refine(j _).mono ?_;rintro e q ⟨rfl,rfl⟩;go_wp2;go_ret;exact⟨Af (by rw[hk];simp),k⟩
 ·rw[hk];rintro e q ⟨rfl,rfl⟩;clear f j;go_wp2;go_ret;exact⟨Af (by rw[hk];rfl),k⟩
theorem PQ (c s h:Int) (w:World):
  (BT 307 #[Ziii c s h,Ziii c s h] w (.bool true):Prop):=by
 have a:Below w w ((w.alloc (.cells (Ziii c s h) 32)).alloc (.cells (Ziii c s h) 32)):=Ax
 go_enter func307,ntmps307
 go_wp2;go_ret;exact⟨Af Cr,a⟩
structure SC where
 x:En
 y:En
 same:Bool
 lo:Int
 hi:Int
def Y7 (d:SC):List Value:= [.int .i64 (d.x.k:Int),.bool d.x.dn,.int .i64 d.x.lo,.int .i64 d.x.hi,.int .i64 (d.y.k:Int),.bool d.y.dn,.int .i64 d.y.lo,.int .i64 d.y.hi,.bool d.same,.int .i64 d.lo,.int .i64 d.hi]
def ceD (r q:Al) (n:Nat):Option SC:=match r.tr n,q.tr n with
 |some (x,l),some (y,m)=>some ⟨x,y,decide (C2 l=C2 m),Ej (BF l) (BF m) n,Ei (BF l) (BF m) n⟩
 |_,_=>none
theorem bM (r q:Al) (n:Nat):ceR r q n=match ceD r q n with|some d=> .tuple #[aV d.x d.y d.same d.lo d.hi,ZI 0]|none=> .tuple (Ce 0 false 0 0 0 false 0 0 false 0 0 3):=by
 unfold ceR ceD
 cases r.tr n with
 |none=>rfl
 |some a=>cases q.tr n with
  |none=>rfl
  |some b=>rfl
theorem dE (r q:Al) (n:Nat) (f c:Int):dY r q n f c=(ceD r q n).map λd=>vdV d.x d.y d.same d.lo d.hi f c:=by
 unfold dY ceD
 cases r.tr n with
 |none=>rfl
 |some a=>cases q.tr n with
  |none=>rfl
  |some b=>rfl
def clM (ρ:Int->Al) (lo:Int) (st:Nat):Nat->Option (List SC)
 |0=>some []
 |k+1=>match clM ρ lo st k with
  |none=>none
  |some M=>match ceD (ρ (lo+(k:Int))) (ρ (lo+(k:Int)+1)) st with
   |none=>none
   |some d=>some (M++ [d])
theorem Ze {ρ:Int->Al} {lo:Int} {a:Nat} {k:Nat} (h:clM ρ lo a k=none): ∀n,k<=n->clM ρ lo a n=none:=by
 intro n b
 induction n with
 |zero=>obtain rfl:k=0:=Aa;exact h
 |succ n ih=>
  by_cases e:k=n+1
  ·exact e▸h
  ·simp only[clM];rw[ih Aa]
theorem WJ {ρ:Int->Al} {lo:Int} {a:Nat}: ∀ {k:Nat} {M:List SC},clM ρ lo a k=some M->M.length=k
 |0,M,h=>by simp only[clM,Gs] at h;subst h;rfl
 |k+1,M,h=>by
  simp only[clM] at h
  split at h
  ·cases h
  ·next L0 e=>
   split at h
   ·cases h
   ·next v ev=>
    injection h with h;subst h
    simp[WJ e]
theorem Rn (ρ:Int->Al) (lo:Int) (c:Nat) (b a:Int): ∀k,fvL ρ lo c b a k=(clM ρ lo c k).map (List.map λd=>vdV d.x d.y d.same d.lo d.hi b a)
 |0=>rfl
 |k+1=>by
  have f:=Rn ρ lo c b a k;unfold fvL clM;rw[f]
  cases clM ρ lo c k with
  |none=>rfl
  |some M=>
   simp only[Option.map_some];rw[dE]
   cases ceD (ρ (lo+(k:Int))) (ρ (lo+(k:Int)+1)) c with
   |none=>rfl
   |some d=>simp
theorem YI:(prog.info? 203).map (λi=>(i.zero.map (·.cells.size),i.size,i.bytes))=some (some 11,11,88):=We51ceQ
def Py (M:List SC):List Value:=M.flatMap Y7
theorem Y8 (M:List SC) (d:SC):Py (M++ [d])=Py M++Y7 d:=by unfold Py;simp
theorem VP (d:SC): ∀u∈Y7 d,u.oneCell'=true:=by
 intro u a;unfold Y7 at a;simp only[CC,I5,or_false] at a;rcases a with rfl|rfl|rfl|rfl|rfl|rfl|rfl|rfl|rfl|rfl|rfl<;>rfl
theorem fL (w:World) (d:SC) (e:TypeId):Rd (w.alloc (.cells (Az d.x.k d.x.dn d.x.lo d.x.hi d.y.k d.y.dn d.y.lo d.y.hi d.same d.lo d.hi) e)) (some ⟨w,0,none⟩) (1*11) (Y7 d):=
 (Br w e (Az d.x.k d.x.dn d.x.lo d.x.hi d.y.k d.y.dn d.y.lo d.y.hi d.same d.lo d.hi)).rd rfl (λi hi=>by
  obtain rfl|rfl|rfl|rfl|rfl|rfl|rfl|rfl|rfl|rfl|rfl:i=0∨i=1∨i=2∨i=3∨i=4∨i=5∨i=6∨i=7∨i=8∨i=9∨i=10:=Aa
  all_goals rfl)
theorem WH {M:List SC}: ∀ {k:Nat} {d:SC},M[k]? =some d-> ∀i,i<11->(Py M)[k*11+i]? =(Y7 d)[i]? :=by
 induction M with
 |nil=>intro k d h;simp at h
 |cons a t ih=>
  intro k d h i hi;have e:Py (a::t)=Y7 a++Py t:=rfl;have b:(Y7 a).length=11:=rfl;rw[e]
  cases k with
  |zero=>
   simp at h;subst h;rw[List.getElem?_append_left Aa]
   congr 1;omega
  |succ k=>
   rw[List.getElem?_append_right Aa,<-ih (k:=k) (d:=d) CB i hi]
   congr 1;omega
theorem Rd.ce {w:World} {A:Option Addr} {n k:Nat} {M:List SC} {d:SC} (h:Rd w A (n*11) (Py M)) (j:k<n) (hd:M[k]? =some d):
  ∃a,A=some a∧w.cell? (a.add (k*11))=ZS d.x.k∧ ∀i,1<=i->i<11->w.cell? ⟨(a.add (k*11)).block,(a.add (k*11)).off+i,none⟩=(Y7 d)[i]? :=by
 obtain⟨a,f,b⟩:=h.2 Aa;refine⟨a,f,?_,λi g c=> ?_⟩
 ·rw[b (k*11) Aa];have:=WH hd 0 Aa;rw[Hb] at this;rw[this];rfl
 ·rw[GN _ _ i Aa,b (k*11+i) Aa];exact WH hd i c
theorem TH (h:Ev) (q u:List Int) (l:Nat) (c s v a:Int) (w:World) (X:M4 w h q u) (P:UW q u l) (hd:DO c s v=true):
  (BT 264 #[EV h,ZI l,Ziii c s v,Ziii c s v,ZI a] w (ZI (if inR a 0 100=false then 2 else 0)):Prop):=by
 have p:Hid ((inR a 0 100=false->(if inR a 0 100=false then(2:Int) else 0)=2)∧(inR a 0 100=true->(if inR a 0 100=false then(2:Int) else 0)=0)):=⟨λh=>AA h,λh=>Ak (by rw[h];decide)⟩
 generalize(if inR a 0 100=false then(2:Int) else 0)=V at p⊢;have r:h.D.n=q.length:=X.d.len.symm;have t:h.S.n=u.length:=X.s.len.symm;have i:=P.prof
 have O:q.length<=12∧u.length=q.length:=by
  have h:=P.prof;unfold BI at h;simp only[CD,BP] at h;have:=Ac h.1;omega
 have m:inR (l:Int) 0 ((h.D.n:Int)-1)=true:=CN Aa (by have:=P.src;omega)
 have u1:=Bg ((h.D.n:Int)-1);have j:=λ(W:World) (X:M4 W h q u)=>Cv h.D.A h.S.A h.D.n h.S.n h.D.c h.S.c q u W Aa Aa X.d X.s;rw[r,t,i] at j;have F:=λW=>Ay (l:Int) 0 ((h.D.n:Int)-1) W;rw[m] at F;have x:=λW=>Dp c s v W;rw[hd] at x;have H:=λW=>Ay a 0 100 W;have C:=λW=>PQ c s v W;rw[<-r,<-t] at j;have L:=Ai X;clear X P i m r t O hd;obtain⟨⟨Q,Y,T⟩,⟨R,Z,U⟩⟩:=h;unfold EV;simp only at*
 go_enter func264,ntmps264
 go_upto_region 1 with fail
 generalize J:((w.alloc _).alloc _).alloc _=w1;obtain⟨b,f,g,k⟩:=WF J;clear J;have I:=L.out.below k;have G:=b.cell
 go_wp2_with fail
 refine(j _ I).mono ?_;rintro e w2 ⟨rfl,y⟩;clear G j I;replace k:=An k y;replace b:=b.below y b.lt;replace f:=f.below y f.lt;replace g:=g.below y g.lt;have e1:=f.cell
 go_wp2_with fail
 refine(x _).mono ?_;rintro e w3 ⟨rfl,z⟩;clear e1;replace k:=An k z;replace b:=b.below z b.lt;replace f:=f.below z f.lt;replace g:=g.below z g.lt;have e2:=g.cell
 go_wp2_with fail
 refine(x _).mono ?_;rintro e w4 ⟨rfl,B⟩;clear e2 x;replace k:=An k B;replace b:=b.below B b.lt;replace f:=f.below B f.lt;replace g:=g.below B g.lt;have G:=b.cell
 go_wp2_with fail
 refine(F _).mono ?_;rintro e K ⟨rfl,rfl⟩;clear F G;have e1:=f.cell;have e2:=g.cell
 go_wp2_with fail
 refine(H _).mono ?_;clear H;rcases jt (inR a 0 100) with hs|hs
 ·have E:=Ai (p.out.2 hs);rw[hs];rintro e K ⟨rfl,rfl⟩;clear hs
  go_wp2_with fail
  refine(C _).mono ?_;rintro e w6 ⟨rfl,M⟩;have N:=An k M;clear e1 e2;go_wp2;go_ret;exact⟨by rw[E.out];rfl,N⟩
 ·have E:=Ai (p.out.1 hs);rw[hs];rintro e K ⟨rfl,rfl⟩;clear hs;go_wp2;go_ret;exact⟨by rw[E.out];rfl,k⟩
theorem Pj {P:Program} {w:World} {v:Oper} {a:Act} {F:Act->World->Prop} {Q:Exit->Act->World->Prop} (s x:Operand) (t:TypeId)
  (hop:v.op=.call {callee:=.builtin .append,args:= #[s,x],argTypes:= #[t,t]})
  (e:TypeId) (size b:Nat) (K:P.underlying t=some (.slice e)) (d:(P.info? e).map (λi=>(i.zero.map (·.cells.size),i.size,i.bytes))=some (some size,size,b)) (E:0<size)
  (B:Nat) (h:Hd) (us:List Value) (hs:a.eval s=.slice h.A h.n h.c) (o:AR w B size h us) (A:Option Addr) (m c:Nat) (f:List Value) (L:a.eval x=.slice A m c)
  (J:Rd w A (m*size) f) (G: ∀u∈f,u.oneCell'=true) (y:h.n+m<=1048576) (j:b<=1024) (H:B<=w.heap.size)
  (I: ∀k q,k.n=h.n+m->AR q B size k (us++f)->w.grownBy q h.row->(k.row=h.row∨ ∃g,k.row=some g∧w.heap.size<=g)->F (a.put v.dst (.slice k.A k.n k.c)) q):v.wp P a w F Q:=by
 cases hi:P.info? e with
 |none=>rw[hi] at d;simp at d
 |some i=>
  rw[hi] at d;simp only[Option.map_some,Gs,Prod.mk.injEq] at d;obtain⟨r,l,D⟩:=d
  cases hz0:i.zero with
  |none=>rw[hz0] at r;simp at r
  |some z=>
   rw[hz0] at r;have C:(h.n+m)*b<=140737488355328:=Ch (Nat.mul_le_mul y j) Ah;obtain⟨k,q,p,M,N,O,R⟩:=F7 (P:=P) w t v.type e i z size b K hi hz0 l D (by simpa using r) E B h us o A m c f J G G9 C H
   unfold Oper.wp execOp;simp only[hop,resolve,invoke,builtin,Sem.run_bind,Sem.run_pure,Result.andThen_ok,List.map_toArray,List.map_cons,List.map_nil,hs,L,p];exact I k q M N O R
theorem JQ {P:Program} {w:World} {p:Array Oper} {j:List Oper} {r:Oper} {a:Act} {Q:Exit->Act->World->Prop} (z:r.guard=none) (s x:Operand) (t:TypeId)
  (hop:r.op=.call {callee:=.builtin .append,args:= #[s,x],argTypes:= #[t,t]})
  (e:TypeId) (size b:Nat) (H:P.underlying t=some (.slice e)) (l:(P.info? e).map (λi=>(i.zero.map (·.cells.size),i.size,i.bytes))=some (some size,size,b)) (C:0<size)
  (B:Nat) (h:Hd) (us:List Value) (hs:a.eval s=.slice h.A h.n h.c) (o:AR w B size h us) (A:Option Addr) (m c:Nat) (d:List Value) (I:a.eval x=.slice A m c)
  (G:Rd w A (m*size) d) (D: ∀u∈d,u.oneCell'=true) (v:h.n+m<=1048576) (f:b<=1024) (E:B<=w.heap.size)
  (F: ∀k q,k.n=h.n+m->AR q B size k (us++d)->w.grownBy q h.row->(k.row=h.row∨ ∃g,k.row=some g∧w.heap.size<=g)->wpList P p Q j (a.put r.dst (.slice k.A k.n k.c)) q):wpList P p Q (r::j) a w:=
 wpList_plain z λ_ y=>Pj s x t hop e size b H l C B h us hs o A m c d I G D v f E λk q J K L M=>y _ _ (F k q J K L M)
def clC (ρ:Int->Al) (n lo hi steps:Int):Int:=if Ds n lo hi=false then 1 else if inR steps 0 100=false then 2 else match clM ρ lo steps.toNat (hi-lo).toNat with|none=>3|some _=>0
def RetCl (ρ:Int->Al) (n lo hi steps:Int) (w:World) (e:Ending) (w':World):Prop:=
 (clC ρ n lo hi steps≠0∧e=.returned (.tuple (Gb none 0 0 (clC ρ n lo hi steps)))∧Below w w w')∨
 ∃(H:Hd) (M:List SC),clC ρ n lo hi steps=0∧clM ρ lo steps.toNat (hi-lo).toNat=some M∧e=.returned (.tuple (Gb H.A H.n H.c 0))∧H.n=(hi-lo).toNat∧Rd w' H.A (H.n*11) (Py M)∧Below w w w'
theorem Yc {ρ:Int->Al} {n lo hi a c:Int} {w w':World} (h:clC ρ n lo hi a=c) (d:c≠0) (b:Below w w w'):
  RetCl ρ n lo hi a w (.returned (.tuple (Gb none 0 0 c))) w':=Or.inl ⟨by rw[h];exact d,by rw[h],b⟩
theorem ah {ρ:Int->Al} {n lo hi a:Int} {w w':World} {A:Option Addr} {m c:Nat} {M:List SC} (h:clC ρ n lo hi a=0) (d:clM ρ lo a.toNat (hi-lo).toNat=some M) (f:m=(hi-lo).toNat) (r:Rd w' A (m*11) (Py M)) (b:Below w w w'):
  RetCl ρ n lo hi a w (.returned (.tuple (Gb A m c 0))) w':=Or.inr ⟨⟨A,m,c⟩,M,h,d,rfl,f,r,b⟩
theorem ja {n m:Nat} {a b:List Int} (h:BI n m a b=true) (p:a.length=n) (hs:b.length=m):2<=n∧n<=12∧m=n∧
  (∀k,k<n->0<=a.getD k 0∧a.getD k 0<=9223372036854775807)∧(∀k,k<n->0<=b.getD k 0∧b.getD k 0<=9223372036854775807):=by
 unfold BI at h;rw[CD,CD,CD,CD,BP,BP] at h;obtain⟨c,j,f,l,g⟩:=h;have d:=Ac c;refine⟨by omega,by omega,by omega,λk i=> ?_,λk i=> ?_⟩
 ·have:=Sh f (a.getD k 0) (by rw[CJ Aa];exact EH _)
  omega
 ·have:=EZ g (k:=k) Aa;omega
theorem iH (z A:Option Addr) (n m c d:Nat) (I Q:List Int) (w:World) (hn:n<=1048576) (hm:m<=1048576) (N:Rd w z n (ints I)) (O:Rd w A m (ints Q)):
  Calls prog 85 #[CH z n c A m d] w λe G=> ∃t:Bs,e=.returned (.string ⟨t.toArray⟩)∧t.length<=700∧Below w w G:=by
 have C:=λ(W:World) (b:Below w w W)=>Cv z A n m c d I Q W Aa Aa (N.below b) (O.below b);have j:=Br w 30 (CH z n c A m d);have q:Below w w (w.alloc (.cells (CH z n c A m d) 30)):=Ax;rcases jt (BI n m I Q) with hb|hb
 rotate_left
 ·rw[hb] at C
  go_enter func85,ntmps85
  go_upto_region 1 with fail
  generalize w.alloc _=w1 at j q⊢;have e0:=j.cell
  go_wp2_with fail
  refine(C _ q).mono ?_;rintro e T ⟨rfl,D⟩;go_wp2;go_ret;exact⟨[],rfl,by simp,(An q D)⟩
 obtain⟨n2,aB,rfl,hd,hs⟩:=ja hb N.len O.len;rw[hb] at C;have HD:=Ai hd;have HS:=Ai hs;clear hd hs hb
 go_enter func85,ntmps85
 go_upto_region 1 with fail
 generalize w.alloc _=w1 at j q⊢;generalize w.heap.size=gB at j⊢;have e0:=j.cell;have g0:=j.lt
 go_wp2_with fail
 refine(C _ q).mono ?_;rintro e T ⟨rfl,D⟩;have H:=An q D;have U:=j.below D g0;have g2:=U.lt;clear e0 g0 j q D C
 go_wp2_with fail
 go_loopw [3,4] (λa i wr=> ∃(k:Nat) (t:Bs),k<=m∧i=.int .i64 (k:Int)∧a=.string ⟨t.toArray⟩∧t.length<=50*k∧Below T T wr)
  (λ_ i _=>m-(intOf i).toNat)
 case atStart=>exact⟨0,[],AZ _,rfl,rfl,by simp,AP _ _⟩
 case round=>
  obtain⟨k,t,hk,rfl,rfl,L,B⟩:=hrel;have K:=U.below B g2;have s:=K.cell;have r:=K.lt;have E:=(N.below H).below B;have F:=(O.below H).below B;clear K
  by_cases g:k<m
  ·have ax:(k:Int)<(m:Int):=Aa;have aw:(0:Int)<=(k:Int):=Aa;obtain⟨Z,rfl,l⟩:=E.int g;obtain⟨a1,rfl,p⟩:=F.int g;obtain⟨x0,x1⟩:=HD.out k g;obtain⟨y0,y1⟩:=HS.out k g;obtain⟨u,hu⟩:=Int.eq_ofNat_of_zero_le x0;obtain⟨v,hv⟩:=Int.eq_ofNat_of_zero_le y0;rw[hu] at l x1;rw[hv] at p y1;have DV:=λW=>Ct u W Aa;have DG:=λW=>Ct v W Aa;have lu:=iE u Aa;have lv:=iE v Aa;generalize Lib.decDigits u=S at*;generalize Lib.decDigits v=R at*;clear hu hv x0 y0 E F x1 y1
   go_upto_if 16 with fail
   go_cut [3] (λa wx=> ∃t:Bs,a=.string ⟨t.toArray⟩∧t.length<=50*k+1∧wx=wr)
   case first=>
    by_cases J:k=0
    ·subst J;go_wp2
     go_meet
     exact⟨t,rfl,by omega,rfl⟩
    ·have ay:(0:Int)<(k:Int):=Aa;obtain⟨E1,s1,M⟩:=G0 t [44];have p1: ¬9223372036854775807<t.length+1:=Aa;simp only[Gt,List.length_nil] at M;go_wp2
     go_meet
     exact⟨E1,rfl,by omega,rfl⟩
   case rest=>
    clear L;obtain⟨t,rfl,L,rfl⟩:=hcut;obtain⟨V,s1,M⟩:=G0 t S;obtain⟨X,s2,l2⟩:=G0 V [58];obtain⟨Y,s3,l3⟩:=G0 X R;simp only[Gt,List.length_nil] at l2;have p1: ¬9223372036854775807<t.length+S.length:=Aa;have p2: ¬9223372036854775807<V.length+1:=Aa;have p3: ¬9223372036854775807<X.length+R.length:=Aa;have HL:Hid (Y.length<=50*(k+1)):=by unfold Hid;omega
    have x:=Gr _ _ l;have y:=Gr _ _ p;clear M l2 l3 lu lv L;have bd:Below wc wc wc.drew:=GJ
    go_wp2_with fail
    go_region_held3 (λG=>(∀o,G.cell? ⟨gB,o,none⟩=((CH (some Z) m c (some a1) m d):Array Value)[o]?)∧G.cell? (Z.add k)=ZS u∧G.cell? (a1.add k)=ZS v)
     (first|(with_reducible exact⟨s,l,p⟩)|(exact⟨s,l,p⟩))
     (first
      |(go_at_call 88;(with_reducible refine(DV _).mono ?_);rintro e u1 ⟨rfl,b⟩;have b:Below wc wc u1:=An bd b;have s:=Dc s b r;have l:=(JX b x).trans l;have p:=(JX b y).trans p;have f:=b.size;have r:=CM r f;have x:=CM x f;have y:=CM y f;have B:=(An B b))
      |(go_at_call 88;(with_reducible refine(DG _).mono ?_);rintro e u2 ⟨rfl,b⟩;have s:=Dc s b r;have l:=(JX b x).trans l;have p:=(JX b y).trans p;have f:=b.size;have r:=CM r f;have x:=CM x f;have y:=CM y f;have B:=(An B b)))
    all_goals
     go_wp2
     go_roundw
     case rel=>exact⟨k+1,Y,by omega,by first|rfl|rw[s1,s2,s3],by go_num,HL.out,B⟩
     case measure=>simp[intOf];omega
  ·obtain rfl:k=m:=Aa;go_wp2;go_ret;exact⟨t,rfl,by omega,(An H B)⟩
theorem jm {n:Int} (a: -9223372036854775807<=n) (b:n<=9223372036854775807):(Lib.itoa n).length<=21:=by
 have:=Bm n Aa Aa;omega
theorem iu (L g:Nat) (w0:World) (S0:iC w0 L g):
  Calls prog 54 #[.pointer (some ⟨g,0,none⟩)] w0 (iy L g 1000 w0):=by
 have D:=Dr.start S0
 go_enter func54,ntmps54
 go_wp2_with fail
 refine(F0 L g 20 _ D.src Ah).mono ?_;rintro e w ⟨q,rfl,q0,q1,gq,Sq⟩;replace D:=D.next gq Sq;clear gq Sq S0;have hq:(q=1)∨(q=2∨q=3)∨(q=4)∨(q=5)∨(q=6∨q=7)∨(q=8∨q=9∨q=10∨q=11)∨(q=12)∨(q=13)∨(q=14)∨(q=15)∨(q=16)∨q=0∨(q=17∨q=18∨q=19):=Aa;clear q0 q1;rcases hq with(rfl)|(rfl|rfl)|(rfl)|(rfl)|(rfl|rfl)|(rfl|rfl|rfl|rfl)|(rfl)|(rfl)|(rfl)|(rfl)|(rfl)|rfl|(rfl|rfl|rfl)
 iterate 1
  ·go_wp2_with fail
   refine(R6 L g 4 _ D.src Ah Ah).mono ?_;rintro e s ⟨b,rfl,t,a⟩;replace D:=D.trans' a;clear a;obtain⟨m,v,d⟩:=G0 [115,111,117,114,99,101,32] b;have u: ¬9223372036854775807<7+b.length:=Aa;simp only[Gt,List.length_nil] at d;go_wp2;go_ret;exact G4 rfl Aa D
 iterate 2
  ·go_wp2_with fail
   refine(R6 L g 4 _ D.src Ah Ah).mono ?_;rintro e s ⟨b,rfl,t,a⟩;replace D:=D.trans' a;clear a;obtain⟨m,v,d⟩:=G0 [114,97,121,32] b;have u: ¬9223372036854775807<4+b.length:=Aa;simp only[Gt,List.length_nil] at d;obtain⟨c,F,p⟩:=G0 m [32];simp only[Gt,List.length_nil] at p
   go_wp2_with fail
   refine(R6 L g 20 _ D.src Ah Ah).mono ?_;rintro e y ⟨f,rfl,C,a⟩;replace D:=D.trans' a;clear a;obtain⟨i,G,B⟩:=G0 c f;have E: ¬9223372036854775807<c.length+f.length:=Aa;obtain⟨k,O,r⟩:=G0 i [32];have M: ¬9223372036854775807<i.length+1:=Aa;simp only[Gt,List.length_nil] at r
   go_wp2_with fail
   refine(R6 L g 2 _ D.src Ah Ah).mono ?_;rintro e R ⟨l,rfl,J,a⟩;replace D:=D.trans' a;clear a;obtain⟨x,Q,I⟩:=G0 k l;have N: ¬9223372036854775807<k.length+l.length:=Aa;go_wp2;go_ret;exact G4 rfl Aa D
 iterate 1
  ·go_wp2_with fail
   refine(R6 L g 9 _ D.src Ah Ah).mono ?_;rintro e s ⟨b,rfl,t,a⟩;replace D:=D.trans' a;clear a;obtain⟨m,v,d⟩:=G0 [116,114,97,99,101,32] b;have u: ¬9223372036854775807<6+b.length:=Aa;simp only[Gt,List.length_nil] at d;go_wp2;go_ret;exact G4 rfl Aa D
 iterate 1
  ·go_wp2_with fail
   refine(F0 L g 20 _ D.src Ah).mono ?_;rintro e v1 ⟨z,rfl,a1,c1,g1,S1⟩;replace D:=D.next g1 S1;obtain⟨z,rfl⟩:=Int.eq_ofNat_of_zero_le a1;have u1:IntKind.i64.wrap (5+(z:Int))=((5+z:Nat):Int):=by rw[show(5:Int)+(z:Int)=((5+z:Nat):Int) by omega];exact Ff _ Aa
   have t:=iE (5+z) Aa;have ab:=λW=>Ct (5+z) W Aa;generalize Lib.decDigits (5+z)=b at*;clear c1 g1 S1 a1
   go_wp2_with fail
   refine(ab _).mono ?_;rintro e s ⟨rfl,b1⟩;replace D:=D.bel b1;clear b1;obtain⟨m,v,d⟩:=G0 [109,101,101,116,32] b;have u: ¬9223372036854775807<5+b.length:=Aa;simp only[Gt,List.length_nil] at d;obtain⟨c,F,p⟩:=G0 m [32,49,32];simp only[Gt,List.length_nil] at p
   go_wp2_with fail
   refine(R6 L g 5 _ D.src Ah Ah).mono ?_;rintro e y ⟨f,rfl,C,a⟩;replace D:=D.trans' a;clear a;obtain⟨i,G,B⟩:=G0 c f;have E: ¬9223372036854775807<c.length+f.length:=Aa;obtain⟨k,O,r⟩:=G0 i [32];have M: ¬9223372036854775807<i.length+1:=Aa;simp only[Gt,List.length_nil] at r
   go_wp2_with fail
   refine(R6 L g 5 _ D.src Ah Ah).mono ?_;rintro e R ⟨l,rfl,J,a⟩;replace D:=D.trans' a;clear a;obtain⟨x,Q,I⟩:=G0 k l;have N: ¬9223372036854775807<k.length+l.length:=Aa;obtain⟨S,s6,l6⟩:=G0 x [32];have p6: ¬9223372036854775807<x.length+1:=Aa;simp only[Gt,List.length_nil] at l6
   go_wp2_with fail
   refine(R6 L g 3 _ D.src Ah Ah).mono ?_;rintro e w4 ⟨Y,rfl,m4,a⟩;replace D:=D.trans' a;clear a;obtain⟨T,s7,l7⟩:=G0 S Y;have p7: ¬9223372036854775807<S.length+Y.length:=Aa;obtain⟨U,s8,l8⟩:=G0 T [32];have p8: ¬9223372036854775807<T.length+1:=Aa;simp only[Gt,List.length_nil] at l8
   go_wp2_with fail
   refine(R6 L g 20000 _ D.src Ah Ah).mono ?_;rintro e w5 ⟨Z,rfl,m5,a⟩;replace D:=D.trans' a;clear a;obtain⟨E9,s9,l9⟩:=G0 U Z;have p9: ¬9223372036854775807<U.length+Z.length:=Aa;go_wp2;go_ret;exact G4 rfl Aa D
 iterate 2
  ·go_wp2_with fail
   refine(R6 L g 60 _ D.src Ah Ah).mono ?_;rintro e s ⟨b,rfl,t,a⟩;replace D:=D.trans' a;clear a;obtain⟨m,v,d⟩:=G0 [108,101,118,101,108,32] b;have u: ¬9223372036854775807<6+b.length:=Aa;simp only[Gt,List.length_nil] at d;obtain⟨c,F,p⟩:=G0 m [32];simp only[Gt,List.length_nil] at p
   go_wp2_with fail
   refine(F0 L g 100 _ D.src Ah).mono ?_;rintro e v2 ⟨r2,rfl,a2,c2,H,V⟩;replace D:=D.next H V;have u2:=Bg (r2-50);have C:=jm (n:=r2-50) Aa Aa;have ac:=λW=>Ek (r2-50) W Aa Aa;generalize Lib.itoa (r2-50)=f at*;clear H V
   go_wp2_with fail
   refine(ac _).mono ?_;rintro e y ⟨rfl,X⟩;replace D:=D.bel X;clear X;obtain⟨i,G,B⟩:=G0 c f;have E: ¬9223372036854775807<c.length+f.length:=Aa;go_wp2;go_ret;exact G4 rfl Aa D
 iterate 4
  ·go_wp2_with fail
   refine(R6 L g 60 _ D.src Ah Ah).mono ?_;rintro e s ⟨b,rfl,t,a⟩;replace D:=D.trans' a;clear a;obtain⟨m,v,d⟩:=G0 [115,111,117,110,100,32] b;have u: ¬9223372036854775807<6+b.length:=Aa;simp only[Gt,List.length_nil] at d;obtain⟨c,F,p⟩:=G0 m [32];simp only[Gt,List.length_nil] at p
   go_wp2_with fail
   refine(R6 L g 50 _ D.src Ah Ah).mono ?_;rintro e y ⟨f,rfl,C,a⟩;replace D:=D.trans' a;clear a;obtain⟨i,G,B⟩:=G0 c f;have E: ¬9223372036854775807<c.length+f.length:=Aa;obtain⟨k,O,r⟩:=G0 i [32];have M: ¬9223372036854775807<i.length+1:=Aa;simp only[Gt,List.length_nil] at r
   go_wp2_with fail
   refine(R6 L g 50 _ D.src Ah Ah).mono ?_;rintro e R ⟨l,rfl,J,a⟩;replace D:=D.trans' a;clear a;obtain⟨x,Q,I⟩:=G0 k l;have N: ¬9223372036854775807<k.length+l.length:=Aa;obtain⟨S,s6,l6⟩:=G0 x [32];have p6: ¬9223372036854775807<x.length+1:=Aa;simp only[Gt,List.length_nil] at l6
   go_wp2_with fail
   refine(F0 L g 200 _ D.src Ah).mono ?_;rintro e v4 ⟨A,rfl,a4,c4,g4,S4⟩;replace D:=D.next g4 S4;obtain⟨A,rfl⟩:=Int.eq_ofNat_of_zero_le a4;have u4:IntKind.i64.wrap (900+(A:Int))=((900+A:Nat):Int):=by rw[show(900:Int)+(A:Int)=((900+A:Nat):Int) by omega];exact Ff _ Aa
   have m4:=iE (900+A) Aa;have ad:=λW=>Ct (900+A) W Aa;generalize Lib.decDigits (900+A)=Y at*;clear c4 g4 S4 a4
   go_wp2_with fail
   refine(ad _).mono ?_;rintro e w4 ⟨rfl,b4⟩;replace D:=D.bel b4;clear b4;obtain⟨T,s7,l7⟩:=G0 S Y;have p7: ¬9223372036854775807<S.length+Y.length:=Aa;obtain⟨U,s8,l8⟩:=G0 T [32];have p8: ¬9223372036854775807<T.length+1:=Aa;simp only[Gt,List.length_nil] at l8
   go_wp2_with fail
   refine(R6 L g 9 _ D.src Ah Ah).mono ?_;rintro e w5 ⟨Z,rfl,m5,a⟩;replace D:=D.trans' a;clear a;obtain⟨E9,s9,l9⟩:=G0 U Z;have p9: ¬9223372036854775807<U.length+Z.length:=Aa;go_wp2;go_ret;exact G4 rfl Aa D
 iterate 1
  ·go_wp2_with fail
   refine(R6 L g 60 _ D.src Ah Ah).mono ?_;rintro e s ⟨b,rfl,t,a⟩;replace D:=D.trans' a;clear a;obtain⟨m,v,d⟩:=G0 [109,97,114,107,32] b;have u: ¬9223372036854775807<5+b.length:=Aa;simp only[Gt,List.length_nil] at d;go_wp2;go_ret;exact G4 rfl Aa D
 iterate 1
  ·go_wp2_with fail
   refine(R6 L g 40 _ D.src Ah Ah).mono ?_;rintro e s ⟨b,rfl,t,a⟩;replace D:=D.trans' a;clear a;obtain⟨m,v,d⟩:=G0 [99,108,101,97,110,32] b;have u: ¬9223372036854775807<6+b.length:=Aa;simp only[Gt,List.length_nil] at d;obtain⟨c,F,p⟩:=G0 m [32];simp only[Gt,List.length_nil] at p
   go_wp2_with fail
   refine(R6 L g 3 _ D.src Ah Ah).mono ?_;rintro e y ⟨f,rfl,C,a⟩;replace D:=D.trans' a;clear a;obtain⟨i,G,B⟩:=G0 c f;have E: ¬9223372036854775807<c.length+f.length:=Aa;obtain⟨k,O,r⟩:=G0 i [32];have M: ¬9223372036854775807<i.length+1:=Aa;simp only[Gt,List.length_nil] at r
   go_wp2_with fail
   refine(R6 L g 30 _ D.src Ah Ah).mono ?_;rintro e R ⟨l,rfl,J,a⟩;replace D:=D.trans' a;clear a;obtain⟨x,Q,I⟩:=G0 k l;have N: ¬9223372036854775807<k.length+l.length:=Aa;go_wp2;go_ret;exact G4 rfl Aa D
 iterate 1
  ·go_wp2_with fail
   refine(R6 L g 30 _ D.src Ah Ah).mono ?_;rintro e s ⟨b,rfl,t,a⟩;replace D:=D.trans' a;clear a;obtain⟨m,v,d⟩:=G0 [103,114,105,100,32] b;have u: ¬9223372036854775807<5+b.length:=Aa;simp only[Gt,List.length_nil] at d;obtain⟨c,F,p⟩:=G0 m [32];simp only[Gt,List.length_nil] at p
   go_wp2_with fail
   refine(R6 L g 5 _ D.src Ah Ah).mono ?_;rintro e y ⟨f,rfl,C,a⟩;replace D:=D.trans' a;clear a;obtain⟨i,G,B⟩:=G0 c f;have E: ¬9223372036854775807<c.length+f.length:=Aa;obtain⟨k,O,r⟩:=G0 i [32];have M: ¬9223372036854775807<i.length+1:=Aa;simp only[Gt,List.length_nil] at r
   go_wp2_with fail
   refine(R6 L g 5 _ D.src Ah Ah).mono ?_;rintro e R ⟨l,rfl,J,a⟩;replace D:=D.trans' a;clear a;obtain⟨x,Q,I⟩:=G0 k l;have N: ¬9223372036854775807<k.length+l.length:=Aa;go_wp2;go_ret;exact G4 rfl Aa D
 iterate 1
  ·go_wp2_with fail
   refine(R6 L g 7 _ D.src Ah Ah).mono ?_;rintro e s ⟨b,rfl,t,a⟩;replace D:=D.trans' a;clear a;obtain⟨m,v,d⟩:=G0 [99,104,97,110,99,101,32] b;have u: ¬9223372036854775807<7+b.length:=Aa;simp only[Gt,List.length_nil] at d;obtain⟨c,F,p⟩:=G0 m [32];simp only[Gt,List.length_nil] at p
   go_wp2_with fail
   refine(R6 L g 17 _ D.src Ah Ah).mono ?_;rintro e y ⟨f,rfl,C,a⟩;replace D:=D.trans' a;clear a;obtain⟨i,G,B⟩:=G0 c f;have E: ¬9223372036854775807<c.length+f.length:=Aa;obtain⟨k,O,r⟩:=G0 i [32];have M: ¬9223372036854775807<i.length+1:=Aa;simp only[Gt,List.length_nil] at r
   go_wp2_with fail
   refine(R6 L g 7 _ D.src Ah Ah).mono ?_;rintro e R ⟨l,rfl,J,a⟩;replace D:=D.trans' a;clear a;obtain⟨x,Q,I⟩:=G0 k l;have N: ¬9223372036854775807<k.length+l.length:=Aa;go_wp2;go_ret;exact G4 rfl Aa D
 iterate 1
  ·go_wp2_with fail
   refine(R6 L g 300 _ D.src Ah Ah).mono ?_;rintro e s ⟨b,rfl,t,a⟩;replace D:=D.trans' a;clear a;obtain⟨m,v,d⟩:=G0 [112,108,97,110,32] b;have u: ¬9223372036854775807<5+b.length:=Aa;simp only[Gt,List.length_nil] at d;obtain⟨c,F,p⟩:=G0 m [32];simp only[Gt,List.length_nil] at p
   go_wp2_with fail
   refine(R6 L g 40 _ D.src Ah Ah).mono ?_;rintro e y ⟨f,rfl,C,a⟩;replace D:=D.trans' a;clear a;obtain⟨i,G,B⟩:=G0 c f;have E: ¬9223372036854775807<c.length+f.length:=Aa;obtain⟨k,O,r⟩:=G0 i [32];have M: ¬9223372036854775807<i.length+1:=Aa;simp only[Gt,List.length_nil] at r
   go_wp2_with fail
   refine(R6 L g 20 _ D.src Ah Ah).mono ?_;rintro e R ⟨l,rfl,J,a⟩;replace D:=D.trans' a;clear a;obtain⟨x,Q,I⟩:=G0 k l;have N: ¬9223372036854775807<k.length+l.length:=Aa;go_wp2;go_ret;exact G4 rfl Aa D
 ·go_wp2_with fail
  refine(iT L g _ D.src).mono ?_;rintro e s ⟨⟨DA,dn,dc⟩,⟨VA,vn,vc⟩,xs,ys,rfl,hd,hv,-,-,RD,RV,-,a⟩;simp only at hd hv RD RV;replace D:=D.trans' a;clear a
  go_wp2_with fail
  refine(iH DA VA dn vn dc vc xs ys _ Aa Aa RD RV).mono ?_;rintro e y ⟨b,rfl,t,X⟩;replace D:=D.bel X;clear X RD RV;obtain⟨m,v,d⟩:=G0 [112,114,111,102,105,108,101,32] b;have u: ¬9223372036854775807<8+b.length:=Aa;simp only[Gt,List.length_nil] at d;go_wp2;go_ret;exact G4 rfl Aa D
 iterate 3
  ·have hg:=D.src.lt.1;have K:=Br w 9 #[.string ⟨#[115,104,111,97,108,101,115,116]⟩,.string ⟨#[108,111,103]⟩,.string ⟨#[99,104,101,99,107]⟩];replace D:=D.alloc (.cells #[.string ⟨#[115,104,111,97,108,101,115,116]⟩,.string ⟨#[108,111,103]⟩,.string ⟨#[99,104,101,99,107]⟩] 9)
   go_wp2_with fail
   generalize w.alloc _=s at K D⊢;generalize w.heap.size=gB at K hg⊢;refine(F0 L g 3 _ D.src Ah).mono ?_;rintro e y ⟨j,rfl,j0,j1,H,V⟩;replace D:=D.next H V;replace K:=K.nx H Aa;have hB:=K.cell;have hj:j=0∨j=1∨j=2:=Aa;clear K H V j0 j1;rcases hj with rfl|rfl|rfl
   all_goals
    go_wp2;go_ret;exact G4 rfl Ah D
