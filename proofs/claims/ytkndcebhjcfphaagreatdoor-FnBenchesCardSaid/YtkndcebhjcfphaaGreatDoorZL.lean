import Derived.Test.YtkndcebhjcfphaaGreatDoorZF
import Derived.Test.YtkndcebhjcfphaaGreatDoorZG
import Derived.Test.YtkndcebhjcfphaaGreatDoorZI
namespace Go.Proofs.YtkndcebhjcfphaaGreatDoor
open Go.RowKit Go.Proofs.Tryz
set_option maxRecDepth 100000
set_option maxHeartbeats 4000000
set_option linter.all false
structure Ev where
 D:Hd
 S:Hd
def GH (h:Ev) (r:Al):Value:=.agg (AV h.D.A h.D.n h.D.c h.S.A h.S.n h.S.c r.src r.c r.s r.h)
structure DR (w:World) (h:Ev) (r:Al):Prop where
 d:Rd w h.D.A h.D.n (ints r.ds)
 s:Rd w h.S.A h.S.n (ints r.ss)
def Pq (h:Ev) (r:Al) (a b:Nat):Value:=.agg (AF h.D.A h.D.n h.D.c h.S.A h.S.n h.S.c r.src r.c r.s r.h a b)
def Hy (x:En):Value:=.agg (A7 x.k x.dn x.lo x.hi)
def Al.vd (r:Al) (a b:Nat):Int:=if r.can a=false then 0 else if r.can b=true then 1 else 2
theorem Blk.set_all2 {w:World} {g:Nat} {t:TypeId} {a b x0 x1:Value} (h:Blk w g t #[a,b]):Blk ((w.setCell ⟨g,0,none⟩ x0).setCell ⟨g,1,none⟩ x1) g t #[x0,x1]:=(h.set_ 0 x0).set_ 1 x1
theorem DR.below {w w':World} {h:Ev} {r:Al} (X:DR w h r) (b:Below w w w'):DR w' h r:=⟨X.d.below b,X.s.below b⟩
theorem DR.nd {w:World} {h:Ev} {r:Al} (X:DR w h r):h.D.n=r.ds.length:=X.d.len.symm
theorem DR.ns {w:World} {h:Ev} {r:Al} (X:DR w h r):h.S.n=r.ss.length:=X.s.len.symm
theorem QK (h:Ev) (r:Al) (w:World) (X:DR w h r) (R:A8 r):
  (BT 371 #[GH h r] w (ZI (r.wh)):Prop):=by
 have t:r.src<h.S.n:=by have:=X.ns;have:=R.len;have:=R.src;omega
 have A:=R.wh_bd;have HV:Hid (r.wh=r.h*r.ss.getD r.src 0):=rfl;have j:=Ai X;clear X R;obtain⟨⟨d,u,k⟩,⟨f,b,l⟩⟩:=h;simp only at t;have K:=Br w 221 (AV d u k f b l r.src r.c r.s r.h);have a:Below w w (w.alloc (.cells (AV d u k f b l r.src r.c r.s r.h) 221)):=Ax;obtain⟨E,m,C⟩:=(j.out.below a).s.int t;simp only at m;subst m;clear j;unfold GH;simp only;generalize r.wh=v at*;generalize r.ss.getD r.src 0=x at*;have y:=Bg (r.h*x) (by have:=HV.out;omega)
 have D:((r.src:Nat):Int)<(b:Int):=Aa;generalize r.src=q at*
 go_enter func371,ntmps371
 go_upto_region 1 with fail
 generalize w.alloc _=y at K a C⊢;have F:=K.cell
 go_quiet (fail)
 revert nq;intro nq;have z:Below w w (y.drewN nq):=Ba a _;go_wp2;go_ret;exact⟨Bb HV.out.symm,z⟩
theorem Iw (h:Ev) (r:Al) (k:Nat) (u:k<r.ds.length) (w:World) (X:DR w h r) (R:A8 r):
  (BT 368 #[GH h r,ZI k] w (ZI (r.pt k)):Prop):=by
 have y:k<h.S.n:=by have:=X.ns;have:=R.len;omega
 have D:=R.pt_bd u;have HV:Hid (r.pt k=r.c*r.ss.getD k 0):=rfl;have j:=Ai X;clear X R u;obtain⟨⟨d,z,l⟩,⟨f,b,m⟩⟩:=h;simp only at y;have K:=Br w 221 (AV d z l f b m r.src r.c r.s r.h);have a:Below w w (w.alloc (.cells (AV d z l f b m r.src r.c r.s r.h) 221)):=Ax;obtain⟨G,t,E⟩:=(j.out.below a).s.int y;simp only at t;subst t;clear j;unfold GH;simp only;generalize r.pt k=v at*;generalize r.ss.getD k 0=x at*;have A:=Bg (r.c*x) (by have:=HV.out;omega)
 have F:((k:Nat):Int)<(b:Int):=Aa;generalize k=q at*
 go_enter func368,ntmps368
 go_upto_region 1 with fail
 generalize w.alloc _=A at K a E⊢;have H:=K.cell
 go_quiet (fail)
 revert nq;intro nq;have C:Below w w (A.drewN nq):=Ba a _;go_wp2;go_ret;exact⟨Bb HV.out.symm,C⟩
theorem bK (h:Ev) (r:Al) (k:Nat) (Z:k<r.ds.length) (w:World) (X:DR w h r) (R:A8 r):
  (BT 354 #[GH h r,ZI k] w (.bool (r.can k)):Prop):=by
 have HV:Hid (r.can k=decide (r.pt k<r.wh)):=rfl;have Q:=Ai X;have I:=Ai R;clear X R;obtain⟨⟨t,z,x⟩,⟨u,A,y⟩⟩:=h;unfold GH;simp only
 go_enter func354,ntmps354
 go_upto_region 1 with fail
 generalize T:(w.alloc _)=f;obtain⟨j,S⟩:=EX T;clear T;have K:=Q.out.below S;have H:=λ(W:World) (b:Below f f W)=>Iw ⟨⟨t,z,x⟩,⟨u,A,y⟩⟩ r k Z W (K.below b) I.out;have J:=λ(W:World) (b:Below f f W)=>QK ⟨⟨t,z,x⟩,⟨u,A,y⟩⟩ r W (K.below b) I.out;unfold GH at H J;simp only at H J;generalize r.pt k=p at*;generalize r.wh=q at*;clear K Q I;have aa: ∀o,f.cell? ⟨w,o,none⟩=((AV t z x u A y r.src r.c r.s r.h):Array Value)[o]? :=j.cell
 go_region_held3 (λw'=>(∀o,w'.cell? ⟨w,o,none⟩=((AV t z x u A y r.src r.c r.s r.h):Array Value)[o]?))
  (exact QU)
  (first
   |((fail_if_success (clear d));go_at_call 368;refine(H _ Ax).mono ?_;rintro e m ⟨rfl,C⟩;have d:Below f f m:=(show Below f f _ from Ax).trans (C.mono C9);have U:=d.size;have D:=C.size;(try simp at D);have L: ∀o,m.cell? ⟨w,o,none⟩=((AV t z x u A y r.src r.c r.s r.h):Array Value)[o]? :=λo=>(j.below d j.lt).cell o;have N:w<m.heap.size:=(j.below d j.lt).lt)
   |((fail_if_success (clear a));go_at_call 371;refine(J _ Ax).mono ?_;rintro e G ⟨rfl,l⟩;have a:Below f f G:=(show Below f f _ from Ax).trans (l.mono C9);have V:=a.size;have E:=l.size;(try simp at E);have F:Below m m G:=(show Below m m _ from Ax).trans (l.mono C9);have M: ∀o,G.cell? ⟨w,o,none⟩=((AV t z x u A y r.src r.c r.s r.h):Array Value)[o]? :=λo=>(j.below a j.lt).cell o;have O:w<G.heap.size:=(j.below a j.lt).lt))
 all_goals
  have Y:=An S a;go_wp2;go_ret;exact⟨Af HV.out.symm,Y⟩
theorem OO (h:Ev) (r:Al) (k:Nat) (hk:k<r.ds.length) (w:World) (X:DR w h r) (R:A8 r) (hc:r.can k=true):
  (BT 369 #[GH h r,ZI k] w (Zii (rD (r.sq k)) (rU (r.sq k))):Prop):=by
 have HV:Hid (r.sq k=r.wh*r.wh-r.pt k*r.pt k):=rfl;have q1:=R.whwh;have q2:=R.ptpt hk;have q3:=R.sq_bd hk;have q4:=R.sq1 hk hc;have HX:=Ai X;have HR:=Ai R;clear X R hc;obtain⟨⟨A,F,D⟩,⟨C,G,E⟩⟩:=h;unfold GH;simp only
 go_enter func369,ntmps369
 go_upto_region 1 with fail
 generalize hG:((w.alloc _).alloc _)=a;obtain⟨f,K1,b0⟩:=Qg hG;clear hG;have X1:=HX.out.below b0;have V:=λ(W:World) (b:Below a a W)=>Iw ⟨⟨A,F,D⟩,⟨C,G,E⟩⟩ r k hk W (X1.below b) HR.out;have Y:=λ(W:World) (b:Below a a W)=>QK ⟨⟨A,F,D⟩,⟨C,G,E⟩⟩ r W (X1.below b) HR.out;unfold GH at V Y;simp only at V Y;have O:r.wh*r.wh-r.pt k*r.pt k=r.sq k:=HV.out.symm;generalize r.pt k=p at*;generalize r.wh=q at*;have wa:=Bg (q*q);have wb:=Bg (p*p);have wc:IntKind.i64.wrap (q*q-p*p)=r.sq k:=by rw[O];exact Ff _ Aa
 clear X1 HX HR HV O;have aj: ∀o,a.cell? ⟨w,o,none⟩=((AV A F D C G E r.src r.c r.s r.h):Array Value)[o]? :=f.cell
 go_region_held3 (λw'=>(∀o,w'.cell? ⟨w,o,none⟩=((AV A F D C G E r.src r.c r.s r.h):Array Value)[o]?))
  (exact QU)
  (first
   |((fail_if_success (clear l));go_at_call 371;refine(Y _ Ax).mono ?_;rintro e j ⟨rfl,N⟩;have l:Below a a j:=(show Below a a _ from Ax).trans (N.mono C9);have aw:=l.size;have Q:=N.size;(try simp at Q);have I: ∀o,j.cell? ⟨w,o,none⟩=((AV A F D C G E r.src r.c r.s r.h):Array Value)[o]? :=λo=>(f.below l f.lt).cell o;have ak:w<j.heap.size:=(f.below l f.lt).lt)
   |((fail_if_success (clear m));go_at_call 371;refine(Y _ Ax).mono ?_;rintro e u ⟨rfl,H⟩;have m:Below a a u:=(show Below a a _ from Ax).trans (H.mono C9);have ax:=m.size;have S:=H.size;(try simp at S);have Z:Below j j u:=(show Below j j _ from Ax).trans (H.mono C9);have J: ∀o,u.cell? ⟨w,o,none⟩=((AV A F D C G E r.src r.c r.s r.h):Array Value)[o]? :=λo=>(f.below m f.lt).cell o;have al:w<u.heap.size:=(f.below m f.lt).lt)
   |((fail_if_success (clear t));go_at_call 368;refine(V _ Ax).mono ?_;rintro e z ⟨rfl,y⟩;have t:Below a a z:=(show Below a a _ from Ax).trans (y.mono C9);have ay:=t.size;have T:=y.size;(try simp at T);have aa:Below j j z:=(show Below j j _ from Ax).trans (y.mono C9);have ac:Below u u z:=(show Below u u _ from Ax).trans (y.mono C9);have K: ∀o,z.cell? ⟨w,o,none⟩=((AV A F D C G E r.src r.c r.s r.h):Array Value)[o]? :=λo=>(f.below t f.lt).cell o;have am:w<z.heap.size:=(f.below t f.lt).lt)
   |((fail_if_success (clear d));go_at_call 368;refine(V _ Ax).mono ?_;rintro e M ⟨rfl,x⟩;have d:Below a a M:=(show Below a a _ from Ax).trans (x.mono C9);have az:=d.size;have U:=x.size;(try simp at U);have ab:Below j j M:=(show Below j j _ from Ax).trans (x.mono C9);have ad:Below u u M:=(show Below u u _ from Ax).trans (x.mono C9);have ae:Below z z M:=(show Below z z _ from Ax).trans (x.mono C9);have L: ∀o,M.cell? ⟨w,o,none⟩=((AV A F D C G E r.src r.c r.s r.h):Array Value)[o]? :=λo=>(f.below d f.lt).cell o;have an:w<M.heap.size:=(f.below d f.lt).lt))
 all_goals
  have hb:=An b0 d;have K2:=K1.below d K1.lt;have e2:=K2.cell;have f2:=K2.frozen;have g2:=K2.lt;clear aj I J K L
  go_wp2_with fail
  refine(KM _ _ Aa Aa).mono ?_;rintro e w' ⟨rfl,rfl⟩
  go_wp2_with fail
  refine(V6 _ _ Aa Aa).mono ?_;rintro e w' ⟨rfl,rfl⟩;go_wp2;refine AS (v:=.agg (Zii (rD (r.sq k)) (rU (r.sq k)))) (by simp[results,results369,go_sem,e2,f2,g2]) rfl ⟨rfl,?_⟩
  repeat(first|with_reducible exact hb|refine Below.setCell ?_ (by simp<;>omega) _)
theorem YU (h:Ev) (r:Al) (k:Nat) (w:World) (m:k+1<1000):
  (BT 351 #[GH h r,ZI k,.bool true] w (Pq h r (k) (k+1)):Prop):=by
 obtain⟨⟨a,j,d⟩,⟨b,l,f⟩⟩:=h;unfold GH Pq;simp only;have t:=Bg ((k:Int)+1);have e1:((k+1:Nat):Int)=(k:Int)+1:=Aa;rw[e1]
 go_enter func351,ntmps351
 go_wp2;refine AS (v:=.agg (AF a j d b l f r.src r.c r.s r.h k ((k:Int)+1:Int))) (by simp[results,results351,go_sem]) rfl ⟨rfl,Ax⟩
theorem YT (h:Ev) (r:Al) (k:Nat) (w:World) (m:k+1<1000):
  (BT 351 #[GH h r,ZI k,.bool false] w (Pq h r (k+1) (k)):Prop):=by
 obtain⟨⟨a,j,d⟩,⟨b,l,f⟩⟩:=h;unfold GH Pq;simp only;have t:=Bg ((k:Int)+1);have e1:((k+1:Nat):Int)=(k:Int)+1:=Aa;rw[e1]
 go_enter func351,ntmps351
 go_wp2;refine AS (v:=.agg (AF a j d b l f r.src r.c r.s r.h ((k:Int)+1:Int) k)) (by simp[results,results351,go_sem]) rfl ⟨rfl,Ax⟩
theorem MB (h:Ev) (r:Al) (a b:Nat) (ha:a<r.ds.length) (L:b<r.ds.length) (w:World) (X:DR w h r) (R:A8 r):
  (BT 340 #[Pq h r a b] w (ZI (r.vd a b)):Prop):=by
 have HV:Hid (r.vd a b=if r.can a=false then 0 else if r.can b=true then 1 else 2):=rfl;have s:=Ai X;have m:=Ai R;clear X R;obtain⟨⟨D,M,I⟩,⟨E,N,J⟩⟩:=h;unfold Pq;simp only
 go_enter func340,ntmps340
 go_upto_region 1 with fail
 generalize A:(w.alloc _)=C;obtain⟨f,u⟩:=EX A;clear A;have t:=s.out.below u;have c:=λ(k:Nat) (hk:k<r.ds.length) (W:World) (b:Below C C W)=>bK ⟨⟨D,M,I⟩,⟨E,N,J⟩⟩ r k hk W (t.below b) m.out;unfold GH at c;simp only at c;have l:=c a ha;have F:=c b L;have K:=f.cell;have z:=f.lt;clear t s m c;generalize r.can a=O at*;generalize r.can b=Q at*
 go_wp2_with fail
 refine(l _ G6).mono ?_;rintro e S ⟨rfl,j⟩;have G:=f.below j z;have x:=An u j;clear K z f l;have e2:=G.cell
 cases O
 ·have d:Hid (0=r.vd a b):=by rw[HV.out];rfl
  go_wp2;go_ret;exact⟨Bb d.out,x⟩
 ·go_wp2_with fail
  refine(F _ j).mono ?_;rintro e T ⟨rfl,H⟩;have y:=An x H
  cases Q
  ·have d:Hid (2=r.vd a b):=by rw[HV.out];rfl
   go_wp2;go_ret;exact⟨Bb d.out,y⟩
  ·have d:Hid (1=r.vd a b):=by rw[HV.out];rfl
   go_wp2;go_ret;exact⟨Bb d.out,y⟩
theorem ap (h:Ev) (r:Al) (a b:Nat) (ha:a<r.ds.length) (H:b<r.ds.length) (w:World) (X:DR w h r) (R:A8 r):
  (BT 370 #[Pq h r a b] w (ZI (r.rise a b)):Prop):=by
 have HV:Hid (r.rise a b=r.pt b-r.pt a):=rfl;have qa:=R.pt_bd ha;have qb:=R.pt_bd H;have Q:=Ai X;have O:=Ai R;clear X R;obtain⟨⟨u,F,A⟩,⟨x,G,C⟩⟩:=h;unfold Pq;simp only
 go_enter func370,ntmps370
 go_upto_region 1 with fail
 generalize U:(w.alloc _)=j;obtain⟨l,T⟩:=EX U;clear U;have S:=Q.out.below T;have y:=λ(k:Nat) (hk:k<r.ds.length) (W:World) (b:Below j j W)=>Iw ⟨⟨u,F,A⟩,⟨x,G,C⟩⟩ r k hk W (S.below b) O.out;unfold GH at y;simp only at y;have Z:=y a ha;have HB:=y b H;clear S Q O y;generalize r.pt a=p at*;generalize r.pt b=q at*;have wa:=Bg (q-p);have ab: ∀o,j.cell? ⟨w,o,none⟩=((AF u F A x G C r.src r.c r.s r.h a b):Array Value)[o]? :=l.cell
 go_region_held3 (λw'=>(∀o,w'.cell? ⟨w,o,none⟩=((AF u F A x G C r.src r.c r.s r.h a b):Array Value)[o]?))
  (exact QU)
  (first
   |((fail_if_success (clear f));go_at_call 368;refine(HB _ Ax).mono ?_;rintro e t ⟨rfl,z⟩;have f:Below j j t:=(show Below j j _ from Ax).trans (z.mono C9);have V:=f.size;have D:=z.size;(try simp at D);have K: ∀o,t.cell? ⟨w,o,none⟩=((AF u F A x G C r.src r.c r.s r.h a b):Array Value)[o]? :=λo=>(l.below f l.lt).cell o;have M:w<t.heap.size:=(l.below f l.lt).lt)
   |((fail_if_success (clear d));go_at_call 368;refine(Z _ Ax).mono ?_;rintro e J ⟨rfl,m⟩;have d:Below j j J:=(show Below j j _ from Ax).trans (m.mono C9);have Y:=d.size;have E:=m.size;(try simp at E);have I:Below t t J:=(show Below t t _ from Ax).trans (m.mono C9);have L: ∀o,J.cell? ⟨w,o,none⟩=((AF u F A x G C r.src r.c r.s r.h a b):Array Value)[o]? :=λo=>(l.below d l.lt).cell o;have N:w<J.heap.size:=(l.below d l.lt).lt))
 all_goals
  have H:=An T d;go_wp2;go_ret;exact⟨Bb HV.out.symm,H⟩
theorem QI (h:Ev) (r:Al) (a b:Nat) (ha:a<r.ds.length) (E:b<r.ds.length) (w:World) (X:DR w h r) (R:A8 r):
  (BT 367 #[Pq h r a b] w (ZI (r.thick a b)):Prop):=by
 have HV:Hid (r.thick a b=((r.ds.getD b 0-r.ds.getD a 0).natAbs:Int)):=rfl;have S:=R.dp ha;have T:=R.dp E;have J:a<h.D.n:=by rw[X.nd];exact ha
 have K:b<h.D.n:=by rw[X.nd];exact E
 have G:=Ai X;clear X R ha E;obtain⟨⟨F,f,m⟩,⟨k,u,t⟩⟩:=h;unfold Pq;simp only at J K⊢;have H:=Blk.newN (g:=w) w 330 (AF F f m k u t r.src r.c r.s r.h a b) Cr;have C:Below w w (w.alloc (.cells (AF F f m k u t r.src r.c r.s r.h a b) 330)):=Ax;have A:=G.out.below C;obtain⟨l,I,hca⟩:=A.d.int J;obtain⟨_,j,hcb⟩:=A.d.int K;simp only at I j;subst I
 cases j
 clear G A;generalize r.ds.getD a 0=x at*;generalize r.ds.getD b 0=y at*;have U:=Bg (y-x);have N:(a:Int)<(f:Int):=Aa;have O:(b:Int)<(f:Int):=Aa
 go_enter func367,ntmps367
 go_upto_region 1 with fail
 generalize(w.alloc _)=L at H C hca hcb⊢;have Q: ∀o,L.cell? ⟨w,o,none⟩=((AF (some l) f m k u t r.src r.c r.s r.h a b):Array Value)[o]? :=H.cell
 go_region_held3 (λz=>(∀o,z.cell? ⟨w,o,none⟩=((AF (some l) f m k u t r.src r.c r.s r.h a b):Array Value)[o]?)∧z.cell? (l.add a)=ZS x∧z.cell? (l.add b)=ZS y)
  (exact aY)
  (first
   |(go_at_call 111;refine(SH _ _ Aa).mono ?_;rintro e z ⟨rfl,rfl⟩))
 have M:Below w w L.drew:=CO C;go_wp2;go_ret;exact⟨Bb HV.out.symm,M⟩
theorem Nb {W:World} {p q:Addr} {u:Value} (h:p.block≠q.block):(W.setCell p u).cell? q=W.cell? q:=World.cell?_setCell_other _ _ _ _ (λc=>h (by rw[c]))
def Nv (B:Nat) (h:Bh) (l':Am) (w:World) (e:Ending) (w':World):Prop:=
 e=.returned (.tuple #[])∧Ag w' (AO h l')∧AB w' B (AO h l')∧A9 w w' (Cf h)
theorem A9.bel {w c w':World} {r:List (Option Nat)} (h:A9 w c r) (b:Below c c w'):A9 w w' r:=
 ⟨b.os.trans h.os,b.tape.trans h.tape,b.output.trans h.output,Ch h.size b.size,λk d a=>(b.block k (CM d h.size)).trans (h.block k d a)⟩
theorem A9.cell_ {w b:World} {r:List (Option Nat)} (h:A9 w b r) {p:Addr} (f:some p.block∈r) (u:Value):A9 w (b.setCell p u) r:=
 ⟨h.os,h.tape,h.output,by simpa [World.setCell] using h.size,λk d a=>(Below.heap_setCell b p u k (λc=>a _ f (by rw[c]))).trans (h.block k d a)⟩
theorem OP (ad:Addr) (k:Nat):(⟨(ad.add k).block,(ad.add k).off+1,none⟩:Addr)=ad.add (k+1):=by rw[<-Bf _ 1 Ah,Bv]
theorem Rd.set2 {W:World} {ad:Addr} {n i:Nat} {xs:List Int} {p q:Int} (r:Rd W (some ad) (n*2) (ints xs)) (hi:i<n):
  Rd ((W.setCell (ad.add (i*2)) (ZI p)).setCell ⟨(ad.add (i*2)).block,(ad.add (i*2)).off+1,none⟩ (ZI q)) (some ad) (n*2) (ints (IB xs i p q)):=by
 rw[OP];exact(r.seti (x:=p) (show i*2<n*2 by omega) rfl).seti (x:=q) (show i*2+1<n*2 by omega) rfl
section
variable {B : Nat} {a3 a4 : Addr} {n c3 c4 : Nat} {x0 x1 x2 : Int} {l3 l4 : List Int} {w W : World} {i : Nat} {v p q : Int}
theorem dP (hi:i<n) (c:Rd W (some a3) n (ints l3)) (d:Rd W (some a4) (n*2) (ints l4)) (f:Wr W B (some a3) n) (j:Wr W B (some a4) (n*2)) (t:A9 w W [blkp (some a3) n,blkp (some a4) (n*2)]) (a:a4.block≠a3.block):
  Nv B ⟨⟨some a3,n,c3⟩,⟨some a4,n,c4⟩⟩ ⟨x0,x1,x2,l3,IB l4 i p q⟩ w (.returned (.tuple #[])) ((W.setCell (a4.add (i*2)) (ZI p)).setCell ⟨(a4.add (i*2)).block,(a4.add (i*2)).off+1,none⟩ (ZI q)):=by
 have b:blkp (some a4) (n*2)=some a4.block:=by unfold blkp;rw[Ak Aa];rfl
 refine⟨rfl,?_,?_,?_⟩
 ·refine Ag.cons (s:=⟨some a3,n,ints l3⟩) ?_ (Ag.cons (s:=⟨some a4,n*2,ints (IB l4 i p q)⟩) (d.set2 hi) (Ag.nil _));refine c.keep λk e _=> ?_
  cases e
  exact(Below.heap_setCell _ _ _ _ (by simp only[Aq];exact a.symm)).trans (Below.heap_setCell _ _ _ _ (by rw[Aq];exact a.symm))
 ·exact AB.cons (s:=⟨some a3,n,ints l3⟩) ((f.set_ _).set_ _) (AB.cons (s:=⟨some a4,n*2,ints (IB l4 i p q)⟩) ((j.set_ _).set_ _) (AB.nil _ _))
 ·show A9 w _ [blkp (some a3) n,blkp (some a4) (n*2)];exact(t.cell_ (by rw[Aq,b];simp) _).cell_ (by simp only[Aq];rw[b];simp) _
theorem dO (hi:i<n) (c:Rd W (some a3) n (ints l3)) (d:Rd W (some a4) (n*2) (ints l4)) (f:Wr W B (some a3) n) (j:Wr W B (some a4) (n*2)) (t:A9 w W [blkp (some a3) n,blkp (some a4) (n*2)]) (a:a4.block≠a3.block):
  Nv B ⟨⟨some a3,n,c3⟩,⟨some a4,n,c4⟩⟩ ⟨x0,x1,x2,l3.set i v,l4⟩ w (.returned (.tuple #[])) (W.setCell (a3.add i) (ZI v)):=by
 have b:blkp (some a3) n=some a3.block:=by unfold blkp;rw[Ak Aa];rfl
 refine⟨rfl,?_,?_,?_⟩
 ·refine Ag.cons (s:=⟨some a3,n,ints (l3.set i v)⟩) (c.seti hi rfl) (Ag.cons (s:=⟨some a4,n*2,ints l4⟩) ?_ (Ag.nil _));refine d.keep λk e _=> ?_
  cases e
  exact Below.heap_setCell _ _ _ _ (by rw[Aq];exact a)
 ·exact AB.cons (s:=⟨some a3,n,ints (l3.set i v)⟩) (f.set_ _) (AB.cons (s:=⟨some a4,n*2,ints l4⟩) (j.set_ _) (AB.nil _ _))
 ·show A9 w _ [blkp (some a3) n,blkp (some a4) (n*2)];exact t.cell_ (by rw[Aq,b];simp) _
end
theorem gk {B:Nat} {a3 a4:Addr} {n c3 c4:Nat} {x0 x1 x2:Int} {l3 l4:List Int} {w W:World} {i:Nat} {v p q:Int} (hi:i<n) (b:Rd W (some a3) n (ints l3)) (c:Rd W (some a4) (n*2) (ints l4)) (d:Wr W B (some a3) n) (f:Wr W B (some a4) (n*2)) (t:A9 w W [blkp (some a3) n,blkp (some a4) (n*2)]) (a:a4.block≠a3.block):
  Nv B ⟨⟨some a3,n,c3⟩,⟨some a4,n,c4⟩⟩ ⟨x0,x1,x2,l3.set i v,IB l4 i p q⟩ w (.returned (.tuple #[])) (((W.setCell (a4.add (i*2)) (ZI p)).setCell ⟨(a4.add (i*2)).block,(a4.add (i*2)).off+1,none⟩ (ZI q)).setCell (a3.add i) (ZI v)):=by
 have h:=dP (B:=B) (c3:=c3) (c4:=c4) (x0:=x0) (x1:=x1) (x2:=x2) (p:=p) (q:=q) hi b c d f t a;exact dO (x0:=x0) (x1:=x1) (x2:=x2) hi h.2.1.head h.2.1.tail.head h.2.2.1.head h.2.2.1.tail.head h.2.2.2 a
def Jv (l:Am) (i:Nat) (a b c:Int):Am:=⟨l.size,l.wide,l.high,l.counts.set i (l.counts.getD i 0+c),MF l.counts l.depths i a b⟩
theorem Tt (B:Nat) (h:Bh) (l:Am) (i:Nat) (a b c:Int) (w:World) (ok:Cl h) (hq:h.depths.n=h.counts.n) (hi:i<h.counts.n) (S:Ag w (AO h l)) (hw:AB w B (AO h l)) (hs:Dx (Cf h))
  (ap: -1<=l.counts.getD i 0) (aq:l.counts.getD i 0<=2000000000000) (hc0:0<=c) (hc1:c<=1):
  Calls prog 238 #[Bd h l,ZI i,Zii a b,ZI c] w (Nv B h (Jv l i a b c) w):=by
 obtain⟨m3,m4⟩:=ok;have I:=S.head;have E:=S.tail.head;have y3:=hw.head;have y4:=hw.tail.head;have V:=hs.off;obtain⟨⟨A3,n3,c3⟩,⟨A4,m,c4⟩⟩:=h;obtain⟨x0,x1,x2,l3,l4⟩:=l;simp only at hq hi;subst hq;clear S hw hs;unfold Bd Jv;simp only at*;have d:Below w w ((w.alloc (.cells (AH x0 x1 x2 A3 m c3 A4 m c4) 181)).alloc (.cells (Zii a b) 136)):=((AP _ _).alloc Bk _).alloc Cr _;obtain⟨a3,rfl,D⟩:=(I.below d).int hi;obtain⟨a4,rfl,f,j⟩:=(E.below d).two hi;have H:a4.block≠a3.block:=λc=>V _ (C5 ..) _ (C5 ..) a3.block (by unfold blkp;rw[Ak Aa];rfl) (by rw[<-c];unfold blkp;rw[Ak Aa];rfl)
 have ar:=E.lt rfl Aa;have T:=Bg (l3.getD i 0+c);have an:(0:Int)<=(i:Int):=Aa;have ao:(i:Int)<(m:Int):=Aa;have L:=λ(W:World) (p q:Int) (k:Below w w W)=>Ai (gk (B:=B) (c3:=c3) (c4:=c4) (x0:=x0) (x1:=x1) (x2:=x2) (v:=l3.getD i 0+c) (p:=p) (q:=q) hi (I.below k) (E.below k) (y3.below I k) (y4.below E k) ((A9.refl w _).bel k) H);have M:=(Blk.newN w 181 (AH x0 x1 x2 (some a3) m c3 (some a4) m c4) rfl).alloc (.cells (Zii a b) 136);have F:=Blk.newN (g:=w+1) (w.alloc (.cells (AH x0 x1 x2 (some a3) m c3 (some a4) m c4) 181)) 136 (Zii a b) Cr
 have HV:=λ(W:World) (k:Below w w W)=>(show(∃t,some a3=some t∧W.cell? (t.add i)=ZS (l3.getD i 0))∧(∃t,some a4=some t∧W.cell? (t.add (i*2))=ZS (l4.getD (i*2) 0)∧W.cell? ⟨(t.add (i*2)).block,(t.add (i*2)).off+1,none⟩=ZS (l4.getD (i*2+1) 0))∧W.frozen? (a3.add i)=false∧W.frozen? (a4.add (i*2))=false∧W.frozen? ⟨(a4.add (i*2)).block,(a4.add (i*2)).off+1,none⟩=false from by
  obtain⟨_,⟨⟩,_,G⟩:=(y3.below I k) Aa;obtain⟨_,⟨⟩,_,f4⟩:=(y4.below E k) Aa;refine⟨(I.below k).int hi,(E.below k).two hi,G i hi,f4 (i*2) Aa,?_⟩;rw[OP];exact f4 (i*2+1) Aa)
 have r:(a4.add (i*2)).block≠(a3.add i).block:=by rw[Aq,Aq];exact H
 have s:(a4.add (i*2)).block≠w.heap.size:=by rw[Aq];omega
 have kA: ∀(W:World) (u:Value),(W.setCell (a4.add (i*2)) u).cell? (a3.add i)=W.cell? (a3.add i):=λW u=>Nb r;have kB: ∀(W:World) (u:Value),(W.setCell ⟨(a4.add (i*2)).block,(a4.add (i*2)).off+1,none⟩ u).cell? (a3.add i)=W.cell? (a3.add i):=λW u=>Nb r;have kC: ∀(W:World) (u:Value) (o:Nat),(W.setCell (a4.add (i*2)) u).cell? ⟨w,o,none⟩=W.cell? ⟨w,o,none⟩:=λW u o=>Nb s;have kD: ∀(W:World) (u:Value) (o:Nat),(W.setCell ⟨(a4.add (i*2)).block,(a4.add (i*2)).off+1,none⟩ u).cell? ⟨w,o,none⟩=W.cell? ⟨w,o,none⟩:=λW u o=>Nb s;have kE: ∀(W:World) (u:Value),(W.setCell (a4.add (i*2)) u).cell? ⟨(a4.add (i*2)).block,(a4.add (i*2)).off+1,none⟩=W.cell? ⟨(a4.add (i*2)).block,(a4.add (i*2)).off+1,none⟩:=λW u=>World.cell?_setCell_other _ _ _ _ (λe=>by have e2:=AN Addr.off e;first|omega|(simp only at e2;omega))
 clear D f j r s
 go_enter func238,ntmps238
 go_upto_region 1 with fail
 generalize(w.alloc _).alloc _=J at d M F⊢;have hV:=HV _ d;have c0:=M.cell;have c1:=F.cell
 by_cases e1:l3.getD i 0=0
 case pos=>
  have K:Hid (MF l3 l4 i a b=IB l4 i a b):=by unfold Hid MF;rw[AA e1]
  have hY:=L _ a b d;clear L HV;obtain⟨⟨_,⟨⟩,D⟩,⟨_,⟨⟩,f,j⟩,G,A,C⟩:=hV;have hE:Hid (l3.getD i 0+c=c):=by unfold Hid;rw[e1,Int.zero_add]
  rw[hE.out] at hY T;rw[e1] at D;clear e1;go_wp2
  (go_end0;rw[K.out,hE.out];exact hY.out)
 case neg=>
  have K:Hid (MF l3 l4 i a b=IB l4 i (min (l4.getD (i*2) 0) a) (max (l4.getD (i*2+1) 0) b)):=by unfold Hid MF;rw[Ak e1]
  obtain⟨⟨_,⟨⟩,D⟩,⟨_,⟨⟩,f,j⟩,G,A,C⟩:=hV;have f1:=F.frozen
  have O:Hid (MF l3 l4 i a b=IB l4 i (if a<l4.getD (i*2) 0 then a else l4.getD (i*2) 0) (if l4.getD (i*2+1) 0<b then b else l4.getD (i*2+1) 0)):=by
   unfold Hid;rw[K.out]
   congr 1
   ·split<;>omega
   ·split<;>omega
  clear K
  have X:=λ(p q:Int)=>Ai (show Below w w ((J.setCell ⟨w+1,0,none⟩ (ZI p)).setCell ⟨w+1,1,none⟩ (ZI q)).drew∧Blk ((J.setCell ⟨w+1,0,none⟩ (ZI p)).setCell ⟨w+1,1,none⟩ (ZI q)).drew w.heap.size 181 (AH x0 x1 x2 (some a3) m c3 (some a4) m c4)∧Blk ((J.setCell ⟨w+1,0,none⟩ (ZI p)).setCell ⟨w+1,1,none⟩ (ZI q)).drew (w.heap.size+1) 136 (Zii p q) from
   ⟨CO ((d.setCell Aw _).setCell Aw _),(M.far Aw _).far Aw _,(F.set_ 0 _).set_ 1 _⟩)
  generalize U:l3.getD i 0=x at*;generalize l4.getD (i*2) 0=y at*;generalize l4.getD (i*2+1) 0=z at*;have g2:(x !=0)=true:=by simpa using e1
  clear e1 U
  go_wp2_with fail
  go_still_tail 19,We51ceQ
  change wpList _ _ _ _ _ J.drew
  go_upto_region 3 with fail
  generalize(if a<y then a else y)=p at*;generalize(if z<b then b else z)=q at*;obtain⟨N,Y,Z⟩:=(X p q).out;generalize((J.setCell ⟨w+1,0,none⟩ (ZI p)).setCell ⟨w+1,1,none⟩ (ZI q)).drew=w2 at N Y Z⊢;have Q:=HV _ N;have R:=L _ p q N;clear X L HV D f j G A C f1 c0 c1 M F d;obtain⟨⟨_,⟨⟩,D⟩,⟨_,⟨⟩,f,j⟩,G,A,C⟩:=Q;have c0:=Y.cell;have c1:=Z.cell;go_wp2
  (go_end0;rw[O.out];exact R.out)
theorem TD (x y a b:Int) (w:World):
  (BT 271 #[Zii x y,Zii a b] w (Zii (min x a) (max y b)):Prop):=by
 have r: ∀j k:Obj,∀c:Array Value,∀o,(((w.alloc j).alloc k).alloc (.cells c 136)).cell? ⟨w+1+1,o,none⟩=c[o]? :=λj k c o=>(Blk.newN (g:=w+1+1) ((w.alloc j).alloc k) 136 c Cr).cell o
 by_cases l:a<x
 all_goals by_cases m:y<b
 all_goals
  first|(have d:min x a=a:=by omega)|(have d:min x a=x:=by omega)
  first|(have f:max y b=b:=by omega)|(have f:max y b=y:=by omega)
  rw[d,f];clear d f
  go_enter func271,ntmps271
  go_wp2;exact AS (by simp[results,results271,go_sem]) rfl ⟨rfl,Ax⟩
def Pu (k:Bool) (l:Am) (i:Nat) (a b:Int):Am:=⟨l.size,l.wide,l.high,l.counts,if k=true then IB l.depths i (min (l.depths.getD (i*2) 0) a) (max (l.depths.getD (i*2+1) 0) b) else IB l.depths i a b⟩
theorem Vv (B:Nat) (h:Bh) (l:Am) (i:Nat) (Y:Bool) (a b:Int) (w:World) (ok:Cl h) (hq:h.depths.n=h.counts.n) (hi:i<h.counts.n) (X:Ag w (AO h l)) (hw:AB w B (AO h l)) (hs:Dx (Cf h)):
  Calls prog 221 #[Bd h l,ZI i,.bool Y,Zii a b] w (Nv B h (Pu Y l i a b) w):=by
 obtain⟨m3,m4⟩:=ok;have G:=X.head;have H:=X.tail.head;have y3:=hw.head;have y4:=hw.tail.head;have Z:=hs.off;obtain⟨⟨A3,n3,c3⟩,⟨A4,m,c4⟩⟩:=h;obtain⟨x0,x1,x2,l3,l4⟩:=l;simp only at hq hi;subst hq;clear X hw hs;unfold Bd Pu;simp only at*;have d:Below w w ((w.alloc (.cells (AH x0 x1 x2 A3 m c3 A4 m c4) 181)).alloc (.cells (Zii a b) 136)):=((AP _ _).alloc Bk _).alloc Cr _;obtain⟨a3,rfl,F⟩:=(G.below d).int hi;obtain⟨a4,rfl,f,j⟩:=(H.below d).two hi;have V:a4.block≠a3.block:=λc=>Z _ (C5 ..) _ (C5 ..) a3.block (by unfold blkp;rw[Ak Aa];rfl) (by rw[<-c];unfold blkp;rw[Ak Aa];rfl)
 have an:(0:Int)<=(i:Int):=Aa;have ao:(i:Int)<(m:Int):=Aa;have M:=λ(W:World) (p q:Int) (k:Below w w W)=>Ai (dP (B:=B) (c3:=c3) (c4:=c4) (x0:=x0) (x1:=x1) (x2:=x2) (p:=p) (q:=q) hi (G.below k) (H.below k) (y3.below G k) (y4.below H k) ((A9.refl w _).bel k) V);have x:=(Blk.newN w 181 (AH x0 x1 x2 (some a3) m c3 (some a4) m c4) rfl).alloc (.cells (Zii a b) 136);have A:=Blk.newN (g:=w+1) (w.alloc (.cells (AH x0 x1 x2 (some a3) m c3 (some a4) m c4) 181)) 136 (Zii a b) Cr
 have HV:=λ(W:World) (k:Below w w W)=>(show(∃r,some a3=some r∧W.cell? (r.add i)=ZS (l3.getD i 0))∧(∃r,some a4=some r∧W.cell? (r.add (i*2))=ZS (l4.getD (i*2) 0)∧W.cell? ⟨(r.add (i*2)).block,(r.add (i*2)).off+1,none⟩=ZS (l4.getD (i*2+1) 0))∧W.frozen? (a3.add i)=false∧W.frozen? (a4.add (i*2))=false∧W.frozen? ⟨(a4.add (i*2)).block,(a4.add (i*2)).off+1,none⟩=false from by
  obtain⟨_,⟨⟩,_,E⟩:=(y3.below G k) Aa;obtain⟨_,⟨⟩,_,f4⟩:=(y4.below H k) Aa;refine⟨(G.below k).int hi,(H.below k).two hi,E i hi,f4 (i*2) Aa,?_⟩;rw[OP];exact f4 (i*2+1) Aa)
 have kE: ∀(W:World) (u:Value),(W.setCell (a4.add (i*2)) u).cell? ⟨(a4.add (i*2)).block,(a4.add (i*2)).off+1,none⟩=W.cell? ⟨(a4.add (i*2)).block,(a4.add (i*2)).off+1,none⟩:=λW u=>World.cell?_setCell_other _ _ _ _ (λe=>by have e2:=AN Addr.off e;first|omega|(simp only at e2;omega))
 clear F f j
 cases Y
 ·go_enter func221,ntmps221
  go_upto_region 1 with fail
  generalize(w.alloc _).alloc _=I at d x A⊢;have S:=HV _ d;have R:=x.cell;have D:=A.cell;have hY:=M _ a b d;clear M HV;obtain⟨⟨_,⟨⟩,F⟩,⟨_,⟨⟩,f,j⟩,E,s,t⟩:=S;go_wp2
  (go_end0;exact hY.out)
 ·go_enter func221,ntmps221
  go_upto_region 1 with fail
  generalize(w.alloc _).alloc _=I at d x A⊢;have S:=HV _ d;have R:=x.cell;have D:=A.cell;obtain⟨⟨_,⟨⟩,F⟩,⟨_,⟨⟩,f,j⟩,E,s,t⟩:=S;generalize l4.getD (i*2) 0=y at*;generalize l4.getD (i*2+1) 0=z at*
  go_wp2_with fail
  go_still_tail 6,We51ceQ
  change wpList _ _ _ _ _ I.drew;have J:Blk I.drew _ _ _:=x;have K:Blk I.drew _ _ _:=A;have bd:=CO d;generalize I.drew=w2 at J K bd⊢;clear R D F f j E s t x A d
  go_wp2_with fail
  refine(TD y z a b _).mono ?_;rintro e O ⟨rfl,N⟩;have E0:=J.below N J.lt;have L:=K.below N K.lt;have C:=Jk bd N;have D:=L.cell;have f1:=L.frozen
  have HL:=Ai (show Below w w ((O.setCell ⟨w+1,0,none⟩ (ZI (min y a))).setCell ⟨w+1,1,none⟩ (ZI (max z b)))∧Blk ((O.setCell ⟨w+1,0,none⟩ (ZI (min y a))).setCell ⟨w+1,1,none⟩ (ZI (max z b))) w.heap.size 181 (AH x0 x1 x2 (some a3) m c3 (some a4) m c4)∧Blk ((O.setCell ⟨w+1,0,none⟩ (ZI (min y a))).setCell ⟨w+1,1,none⟩ (ZI (max z b))) (w.heap.size+1) 136 (Zii (min y a) (max z b)) from
   ⟨(C.setCell Aw _).setCell Aw _,(E0.far Aw _).far Aw _,(L.set_ 0 _).set_ 1 _⟩)
  clear J K bd N E0 L C;generalize min y a=p at*;generalize max z b=q at*
  go_upto_region 3 with fail
  obtain⟨Q,L0,L1⟩:=HL.out;generalize((O.setCell ⟨w+1,0,none⟩ (ZI p)).setCell ⟨w+1,1,none⟩ (ZI q))=w4 at Q L0 L1⊢;have T:=HV _ Q;have U:=M _ p q Q;clear HL M HV D f1;obtain⟨⟨_,⟨⟩,F⟩,⟨_,⟨⟩,f,j⟩,E,s,t⟩:=T;have R:=L0.cell;have D:=L1.cell;go_wp2
  (go_end0;exact U.out)

theorem Kz (a b c d:Int) (w:World) (f: -4611686018427387904<=a+c) (j:a+c<=4611686018427387904) (k: -4611686018427387904<=b+d) (l:b+d<=4611686018427387904):
  (BT 240 #[Zii a b,Zii c d] w (Zii (a+c) (b+d)):Prop):=by
 have m:=Bg (a+c);have r:=Bg (b+d)
 go_enter func240,ntmps240
 go_wp2;refine AS (v:=.agg (Zii (a+c) (b+d))) (by simp[results,results240,go_sem]) rfl ⟨rfl,Ax⟩
theorem Kc (h:Bh) (l:Am) (w:World) (ok:Cl h) (I:Ag w (AO h l)):
  (BT 191 #[Bd h l] w (.tuple (BN (mdL l) (mdH l) (mdC l))):Prop):=by
 unfold Bd
 go_enter func191,ntmps191
 go_wp2_with fail
 refine(Ja h l _ ok (I.below Ax)).mono ?_;rintro e a ⟨rfl,H⟩;have t:Below w w a:=(show Below w w _ from Ax).trans (H.mono C9);have D:Blk a w.heap.size 181 (AH l.size l.wide l.high h.counts.A h.counts.n h.counts.c h.depths.A h.depths.n h.depths.c):=Blk.below ((Br _ _ _).alloc _) H C9;have G:Blk a (w.heap.size+1) 136 Cq:=Blk.below (Blk.newN _ _ _ Cr) H C9;clear H;have y:=D.cell;have E:=G.cell;have f1:=G.frozen;have g1:=G.lt;rcases jt (Dl l) with o0|o0
 case inr=>
  have x:=Ai (ZR o0);rw[o0];clear o0;go_wp2;refine AS (v:=.tuple (BN 0 0 1)) (by simp[results,results191,go_sem,E]) rfl ?_
  rw[x.out.1,x.out.2.1,x.out.2.2];exact⟨rfl,Ax⟩
 have M:=Xo.of o0;have HO:=Ai o0;rw[o0];clear o0;have L:Rd a h.counts.A h.counts.n (ints l.counts):=(I.below t).head;have r4:Rd a h.depths.A (h.depths.n*2) (ints l.depths):=(I.below t).tail.head;obtain⟨⟨A3,n,c3⟩,⟨A4,m,c4⟩⟩:=h;have e3:l.counts.length=n:=L.len;have e4:l.depths.length=m*2:=r4.len;have Z:=M.bd;have aC:n<=900∧1<=n:=Aa;obtain rfl:n=m:=by have:=M.eq;omega
 have z:=Ai e3;have x:=Ai M;clear e3 e4 Z M I ok;obtain⟨a3,rfl,-⟩:=L.int (show 0<n by omega)
 obtain⟨a4,rfl,-,-⟩:=r4.two (show 0<n by omega)
 simp only at D;clear y;have y:=D.cell;have g0:=D.lt
 go_upto_region 6 with fail
 have J0:=Br a 136 Cq;have b2:Below a a (a.alloc (.cells Cq 136)):=BU
 go_loopw [5,15] (λc i wr=> ∃k:Nat,k<=n∧i=.int .i64 k∧c=.int .i64 (knTo l k)∧Blk wr a.heap.size 136 (Zii (loTo l k) (hiTo l k))∧Below a a wr) (λ_ i _=>n-(intOf i).toNat)
 case atStart=>exact⟨0,AZ _,rfl,rfl,J0,b2⟩
 case round=>
  clear J0 b2;obtain⟨k,hk,rfl,rfl,J,b⟩:=hrel;have sb:=Np x.out k (by rw[z.out];exact hk)
  have aB:(k:Int)<=900:=Aa
  by_cases u:k<n
  ·have al:(k:Int)<(n:Int):=Aa;have aA:(0:Int)<=(k:Int):=Aa;have cb:=LJ (x.out.at_ (show k<l.counts.length by rw[z.out];exact u))
   have K:=D.below b g0;clear y;have Y:=J.lt;obtain⟨_,⟨⟩,hd0,hd1⟩:=(r4.below b).two u;obtain⟨_,⟨⟩,hx⟩:=(L.below b).int u;have Q:Hid (l.counts.getD k 0=0->knTo l (k+1)=knTo l k∧loTo l (k+1)=loTo l k∧hiTo l (k+1)=hiTo l k):=SB;have R:Hid (l.counts.getD k 0≠0->knTo l (k+1)=knTo l k+1∧loTo l (k+1)=loTo l k+l.depths.getD (k*2) 0∧hiTo l (k+1)=hiTo l k+l.depths.getD (k*2+1) 0):=Pc;generalize knTo l k=d at*;generalize loTo l k=lo at*;generalize hiTo l k=hi at*;generalize l.depths.getD (k*2) 0=r at*;generalize l.depths.getD (k*2+1) 0=s at*;generalize l.counts.getD k 0=X at*
   go_upto_region 8 with fail
   have U:Below a a (wr.alloc (.cells (Zii r s) 136)):=b.alloc Aa _;have K2:=K.alloc (.cells (Zii r s) 136);have C:=J.alloc (.cells (Zii r s) 136);have T:=Br wr 136 (Zii r s);obtain⟨_,⟨⟩,hx⟩: ∃ad,some a3=some ad∧(wr.alloc (.cells (Zii r s) 136)).cell? (ad.add k)=ZS X:=⟨a3,rfl,by rw[((AP wr.heap.size wr).alloc Bk _).cell (by rw[Aq];have:=(L.below b).lt rfl Aa;exact this)];exact hx⟩
   generalize wr.alloc _=w2 at*;generalize wr.heap.size=gt at*;clear hd0 hd1 K J b Y;have y:=K2.cell;have cJ:=C.cell;have cT:=T.cell;have Y:=C.lt
   by_cases e1:X=0
   ·subst e1;have j:=Ai (Q.out rfl);clear Q R;go_wp2
    go_roundw
    case rel=>exact⟨k+1,by omega,by go_num,by rw[j.out.1],by rw[j.out.2.1,j.out.2.2];exact C,U⟩
    case measure=>simp[intOf];omega
   ·have ar:(X !=0)=true:=by simpa using e1
    have j:=Ai (R.out e1);clear Q R e1
    go_wp2_with fail
    refine(Kz lo hi r s _ Aa Aa Aa Aa).mono ?_;rintro e w3 ⟨rfl,V⟩;have S:=C.below V Y;have b5:=An U V;clear y cJ cT T K2;have cJ:=S.cell;have fJ:=S.frozen;have u1:=Bg (d+1);clear V U C;go_wp2
    go_roundw
    case rel=>
     refine⟨k+1,by omega,by go_num,by rw[j.out.1],?_,(b5.setCell Aw _).setCell Aw _⟩
     rw[j.out.2.1,j.out.2.2];exact(S.set_ 0 (ZI (lo+r))).set_ 1 (ZI (hi+s))
    case measure=>simp[intOf];omega
  ·obtain rfl:k=n:=Aa;have N:Hid (knTo l k=0->mdC l=4∧mdL l=0∧mdH l=0):=λh=>Nf HO.out (by rw[z.out];exact h)
   have O:Hid (knTo l k≠0->mdC l=0∧mdL l=loTo l k/knTo l k∧mdH l= -(-hiTo l k/knTo l k)):=λh=>by have:=Ng HO.out (by rw[z.out];exact h);rwa [z.out] at this
   have ay:Below w w wr:=An t b;have K:=G.below b g1;clear y;clear E f1;have E:=K.cell;have f1:=K.frozen;generalize knTo l k=d at*;generalize loTo l k=lo at*;generalize hiTo l k=hi at*
   by_cases e2:d=0
   ·subst e2;have f:=Ai (N.out rfl);clear N O;go_wp2;refine AS (v:=.tuple (BN 0 0 4)) (by simp[results,results191,go_sem,E]) rfl ?_
    rw[f.out.1,f.out.2.1,f.out.2.2];exact⟨rfl,Ax⟩
   have f:=Ai (O.out e2);have au:(d==0)=false:=by rw[Ea];exact e2
   have F:0<d:=Aa;clear N O e2;have hS: ∀o,wr.cell? ⟨a,o,none⟩= (Zii lo hi:Array Value)[o]? :=J.cell;have m1: -4611686018427387904<=lo∧lo<=4611686018427387904:=Aa;have m2: -4611686018427387904<=hi∧hi<=4611686018427387904:=Aa;have aD:w.heap.size+1≠a.heap.size:=Aa
   go_wp2_with fail
   go_region_held3 (λw'=> ∀o,w'.cell? ⟨a,o,none⟩= (Zii lo hi:Array Value)[o]?)
    (first|(with_reducible assumption)|(intro o;go_keep))
    (first
     |(go_at_call 241;refine(Ec lo d _ m1.1 m1.2 F Aa).mono ?_;rintro e w' ⟨rfl,rfl⟩)
     |(go_at_call 196;refine(Ex hi d _ m2.1 m2.2 F Aa).mono ?_;rintro e w' ⟨rfl,rfl⟩))
   all_goals
    go_wp2;refine AS (v:=.tuple (BN (lo/d) (-(-hi/d)) 0)) (by simp[results,results191,go_sem,E]) rfl ?_
    rw[f.out.1,f.out.2.1,f.out.2.2];exact⟨rfl,Ax⟩
theorem Li (h:Bh) (l:Am) (w:World) (ok:Cl h) (D:Ag w (AO h l)):
  (BT 174 #[Bd h l] w (.tuple (BN (mdL l) (mdH l) (mdC l))):Prop):=by
 unfold Bd
 go_enter func174,ntmps174
 go_wp2_with fail
 refine(Jf h l _ ok (D.below Ax)).mono ?_;rintro e a ⟨rfl,z⟩;have j:Below w w a:=(show Below w w _ from Ax).trans (z.mono C9);have y:Blk a w.heap.size 181 (AH l.size l.wide l.high h.counts.A h.counts.n h.counts.c h.depths.A h.depths.n h.depths.c):=Blk.below ((Br _ _ _).alloc _) z C9;have J:Blk a (w.heap.size+1) 136 Cq:=Blk.below (Blk.newN _ _ _ Cr) z C9;clear z;have C:=y.cell;have u:=J.cell;have T:=J.frozen;rcases jt (Dl l) with o0|o0
 case inr=>
  have s:=Ai (ZR o0);rw[o0];clear o0;go_wp2;refine AS (v:=.tuple (BN 0 0 1)) (by simp[results,results174,go_sem,u]) rfl ?_
  rw[s.out.1,s.out.2.1,s.out.2.2];exact⟨rfl,Ax⟩
 have M:=Xo.of o0;have Q:=Ai o0;rw[o0];clear o0;have N:Rd a h.counts.A h.counts.n (ints l.counts):=(D.below j).head;have O:Rd a h.depths.A (h.depths.n*2) (ints l.depths):=(D.below j).tail.head;obtain⟨⟨A3,n,c3⟩,⟨A4,m,c4⟩⟩:=h;have S:l.counts.length=n:=N.len;have Z:l.depths.length=m*2:=O.len;have L:=M.bd;have af:n<=900∧1<=n:=Aa;obtain rfl:n=m:=by have:=M.eq;omega
 have t:=Ai S;have s:=Ai M;clear S Z L M D ok;obtain⟨a3,rfl,-⟩:=N.int (show 0<n by omega)
 obtain⟨a4,rfl,-,-⟩:=O.two (show 0<n by omega)
 simp only at y;clear C;have C:=y.cell
 go_upto_region 5 with fail
 go_loopw [4,5,6,7] (λlo hi c i wr=> ∃k m:Nat,k<=n∧i=.int .i64 k∧c=.int .i64 (knTo l k)∧lo=.int .i64 (loTo l k)∧hi=.int .i64 (hiTo l k)∧wr=a.drewN m) (λ_ _ _ i _=>n-(intOf i).toNat)
 case atStart=>exact⟨0,0,AZ _,rfl,rfl,rfl,rfl,rfl⟩
 case round=>
  obtain⟨k,m,hk,rfl,rfl,rfl,rfl,rfl⟩:=hrel;have sb:=Np s.out k (by rw[t.out];exact hk)
  have ae:(k:Int)<=900:=Aa
  by_cases r:k<n
  ·have U:(k:Int)<(n:Int):=Aa;have ad:(0:Int)<=(k:Int):=Aa;have cb:=LJ (s.out.at_ (show k<l.counts.length by rw[t.out];exact r))
   obtain⟨_,⟨⟩,hd0,hd1⟩:=O.two r;obtain⟨_,⟨⟩,hx⟩:=N.int r;have G:Hid (l.counts.getD k 0=0->knTo l (k+1)=knTo l k∧loTo l (k+1)=loTo l k∧hiTo l (k+1)=hiTo l k):=SB;have H:Hid (l.counts.getD k 0≠0->knTo l (k+1)=knTo l k+1∧loTo l (k+1)=loTo l k+l.depths.getD (k*2) 0∧hiTo l (k+1)=hiTo l k+l.depths.getD (k*2+1) 0):=Pc;generalize knTo l k=b at*;generalize loTo l k=lo at*;generalize hiTo l k=hi at*;generalize l.depths.getD (k*2) 0=V at*;generalize l.depths.getD (k*2+1) 0=ek at*;generalize l.counts.getD k 0=R at*;have u1:=Bg (b+1);have u2:=Bg (lo+V);have u3:=Bg (hi+ek)
   by_cases e1:R=0
   ·subst e1;have f:=Ai (G.out rfl);clear G H;go_wp2
    go_roundw
    case rel=>exact⟨k+1,_,by omega,by go_num,by rw[f.out.1],by rw[f.out.2.1],by rw[f.out.2.2],rfl⟩
    case measure=>simp[intOf];omega
   ·have X:(R !=0)=true:=by simpa using e1
    have f:=Ai (H.out e1);clear G H e1;go_wp2
    go_roundw
    case rel=>exact⟨k+1,_,by omega,by go_num,by rw[f.out.1],by rw[f.out.2.1],by rw[f.out.2.2],rfl⟩
    case measure=>simp[intOf];omega
  ·obtain rfl:k=n:=Aa;have E:Hid (knTo l k=0->mdC l=4∧mdL l=0∧mdH l=0):=λh=>Nf Q.out (by rw[t.out];exact h)
   have F:Hid (knTo l k≠0->mdC l=0∧mdL l=loTo l k/knTo l k∧mdH l= -(-hiTo l k/knTo l k)):=λh=>by have:=Ng Q.out (by rw[t.out];exact h);rwa [t.out] at this
   have ab:Below w w (a.drewN m):=Ba j m;have K:Blk (a.drewN m) (w.heap.size+1) _ _:=J;have I:Blk (a.drewN m) w.heap.size 181 (AH l.size l.wide l.high (some a3) k c3 (some a4) k c4):=y;clear C;have C:=I.cell;generalize a.drewN m=wr at*;clear u T;have u:=K.cell;have T:=K.frozen;generalize knTo l k=b at*;generalize loTo l k=lo at*;generalize hiTo l k=hi at*
   by_cases e2:b=0
   ·subst e2;have d:=Ai (E.out rfl);clear E F;go_wp2;refine AS (v:=.tuple (BN 0 0 4)) (by simp[results,results174,go_sem,u]) rfl ?_
    rw[d.out.1,d.out.2.1,d.out.2.2];exact⟨rfl,Ax⟩
   have d:=Ai (F.out e2);have Y:(b==0)=false:=by rw[Ea];exact e2
   have x:0<b:=Aa;clear E F e2
   go_wp2_with fail
   refine(Ee lo b _ Aa Aa x Aa).mono ?_;rintro e w' ⟨rfl,rfl⟩
   go_wp2_with fail
   refine(EB hi b _ Aa Aa x Aa).mono ?_;rintro e w' ⟨rfl,rfl⟩;go_wp2;refine AS (v:=.tuple (BN (lo/b) (-(-hi/b)) 0)) (by simp[results,results174,go_sem,u]) rfl ?_
   rw[d.out.1,d.out.2.1,d.out.2.2];exact⟨rfl,Ax⟩
theorem j6 (h:Ev) (r:Al) (a b:Nat) (ha:a<r.ds.length) (hb:b<r.ds.length) (w:World) (X:DR w h r) (R:A8 r) (hca:r.can a=true) (hcb:r.can b=true):
  (BT 352 #[Pq h r a b] w (Zii (r.crLo a b) (r.crHi a b)):Prop):=by
 have HV:Hid (r.crLo a b=r.crN a b/(rU (r.sq a)+rU (r.sq b))∧r.crHi a b= -(-(r.crN a b)/(rD (r.sq a)+rD (r.sq b)))):=⟨rfl,rfl⟩;have HN:Hid (r.crN a b=r.thick a b*(r.pt a+r.pt b)):=rfl;have qa:=R.pt_bd ha;have qb:=R.pt_bd hb;have ra:=R.rD_bd' ha hca;have rb:=R.rD_bd' hb hcb;have qn:=R.crN_bd ha hb;have HX:=Ai X;have HR:=Ai R;clear X R;obtain⟨⟨A,I,E⟩,⟨C,J,F⟩⟩:=h;unfold Pq;simp only
 go_enter func352,ntmps352
 go_upto_region 1 with fail
 generalize hG:((w.alloc _).alloc _)=z;obtain⟨L,K1,b0⟩:=Qg hG;clear hG;have X1:=HX.out.below b0;have HT:=λ(W:World) (U:Below z z W)=>QI ⟨⟨A,I,E⟩,⟨C,J,F⟩⟩ r a b ha hb W (X1.below U) HR.out;have HA:=λ(W:World) (U:Below z z W)=>Iw ⟨⟨A,I,E⟩,⟨C,J,F⟩⟩ r a ha W (X1.below U) HR.out;have HB:=λ(W:World) (U:Below z z W)=>Iw ⟨⟨A,I,E⟩,⟨C,J,F⟩⟩ r b hb W (X1.below U) HR.out;unfold Pq at HT;unfold GH at HA HB;simp only at HT HA HB;have S:=λ(W:World) (X:DR W ⟨⟨A,I,E⟩,⟨C,J,F⟩⟩ r)=>OO ⟨⟨A,I,E⟩,⟨C,J,F⟩⟩ r a ha W X HR.out hca;have T:=λ(W:World) (X:DR W ⟨⟨A,I,E⟩,⟨C,J,F⟩⟩ r)=>OO ⟨⟨A,I,E⟩,⟨C,J,F⟩⟩ r b hb W X HR.out hcb;unfold GH at S T;simp only at S T;have hN:r.thick a b*(r.pt a+r.pt b)=r.crN a b:=HN.out.symm;generalize r.thick a b=t at*;generalize r.pt a=p at*;generalize r.pt b=q at*;have wa:=Bg (p+q);have wb:IntKind.i64.wrap (t*(p+q))=r.crN a b:=by rw[hN];exact Ff _ Aa
 clear HX HR HN hN;have ai: ∀o,z.cell? ⟨w,o,none⟩=((AF A I E C J F r.src r.c r.s r.h a b):Array Value)[o]? :=L.cell
 go_region_held3 (λw'=>(∀o,w'.cell? ⟨w,o,none⟩=((AF A I E C J F r.src r.c r.s r.h a b):Array Value)[o]?))
  (exact IK)
  (first
   |((fail_if_success (clear G));go_at_call 367;refine(HT _ Ax).mono ?_;rintro e Q ⟨rfl,ah⟩;have G:Below z z Q:=(show Below z z _ from Ax).trans (ah.mono C9);have aL:=G.size;have ad:=ah.size;(try simp at ad);have aj: ∀o,Q.cell? ⟨w,o,none⟩=((AF A I E C J F r.src r.c r.s r.h a b):Array Value)[o]? :=λo=>(L.below G L.lt).cell o;have aq:w<Q.heap.size:=(L.below G L.lt).lt)
   |((fail_if_success (clear H));go_at_call 368;refine(HA _ Ax).mono ?_;rintro e u1 ⟨rfl,V⟩;have H:Below z z u1:=(show Below z z _ from Ax).trans (V.mono C9);have aM:=H.size;have ae:=V.size;(try simp at ae);have Y:Below Q Q u1:=(show Below Q Q _ from Ax).trans (V.mono C9);have ak: ∀o,u1.cell? ⟨w,o,none⟩=((AF A I E C J F r.src r.c r.s r.h a b):Array Value)[o]? :=λo=>(L.below H L.lt).cell o;have ar:w<u1.heap.size:=(L.below H L.lt).lt)
   |((fail_if_success (clear d));go_at_call 368;refine(HB _ Ax).mono ?_;rintro e j ⟨rfl,O⟩;have d:Below z z j:=(show Below z z _ from Ax).trans (O.mono C9);have aN:=d.size;have af:=O.size;(try simp at af);have Z:Below Q Q j:=(show Below Q Q _ from Ax).trans (O.mono C9);have aa:Below u1 u1 j:=(show Below u1 u1 _ from Ax).trans (O.mono C9);have al: ∀o,j.cell? ⟨w,o,none⟩=((AF A I E C J F r.src r.c r.s r.h a b):Array Value)[o]? :=λo=>(L.below d L.lt).cell o;have au:w<j.heap.size:=(L.below d L.lt).lt))
 all_goals
  have B2:=An b0 d;have M:=L.below d L.lt;have K3:=K1.below d K1.lt;have X2:=X1.below d;clear L K1 X1 b0 HT HA HB ai aj ak al aq ar au G H d Y Z aa ah V O aL aM aN ad ae af wa
  go_upto_region 2 with fail
  clear wb;have aE:=λW=>Kz (rD (r.sq a)) (rU (r.sq a)) (rD (r.sq b)) (rU (r.sq b)) W Aa Aa Aa Aa;generalize rD (r.sq a)=d1 at*;generalize rD (r.sq b)=d2 at*;generalize rU (r.sq a)=v1 at*;generalize rU (r.sq b)=v2 at*;generalize r.crN a b=cn at*;have ab:=λ(W:World) (U:Below j j W)=>S W (X2.below U);have ac:=λ(W:World) (U:Below j j W)=>T W (X2.below U);clear S T;have bC:=K3.lt
  go_cut [4] (λc wx=> ∃g,c=.pointer (some ⟨g,0,none⟩)∧Blk wx g 136 (Zii (d1+d2) (v1+v2))∧g≠w.heap.size+1∧Below j j wx)
  case first=>
   have ai: ∀o,j.cell? ⟨w,o,none⟩=((AF A I E C J F r.src r.c r.s r.h a b):Array Value)[o]? :=M.cell;have bD:w<j.heap.size:=M.lt
   go_region_held3 (λw'=>(∀o,w'.cell? ⟨w,o,none⟩=((AF A I E C J F r.src r.c r.s r.h a b):Array Value)[o]?))
    (exact IK)
    (first
     |((fail_if_success (clear m));go_at_call 369;refine(ab _ Ax).mono ?_;rintro e f ⟨rfl,N⟩;have m:Below j j f:=(show Below j j _ from Ax).trans (N.mono C9);have bk:=m.size;have an:=N.size;(try simp at an);have aV: ∀o,f.cell? ⟨w,o,none⟩=((AF A I E C J F r.src r.c r.s r.h a b):Array Value)[o]? :=λo=>(M.below m M.lt).cell o;have a2:w<f.heap.size:=(M.below m M.lt).lt;obtain⟨bd,bg⟩:=SM N;(try have aI:j<f.heap.size:=by omega))
     |((fail_if_success (clear u));go_at_call 369;refine(ac _ Ax).mono ?_;rintro e k ⟨rfl,D⟩;have u:Below j j k:=(show Below j j _ from Ax).trans (D.mono C9);have bl:=u.size;have ao:=D.size;(try simp at ao);have ay:Below f f k:=(show Below f f _ from Ax).trans (D.mono C9);have a0: ∀o,k.cell? ⟨w,o,none⟩=((AF A I E C J F r.src r.c r.s r.h a b):Array Value)[o]? :=λo=>(M.below u M.lt).cell o;have a5:w<k.heap.size:=(M.below u M.lt).lt;obtain⟨be,bh⟩:=SM D;(try have aJ:j<k.heap.size:=by omega);(try have aB:f<k.heap.size:=by omega))
     |((fail_if_success (clear y));go_at_call 240;refine(aE _).mono ?_;rintro e K ⟨rfl,l⟩;have y:Below j j K:=(show Below j j _ from Ax).trans (l.mono C9);have bn:=y.size;have ap:=l.size;(try simp at ap);have az:Below f f K:=(show Below f f _ from Ax).trans (l.mono C9);have aA:Below k k K:=(show Below k k _ from Ax).trans (l.mono C9);have a1: ∀o,K.cell? ⟨w,o,none⟩=((AF A I E C J F r.src r.c r.s r.h a b):Array Value)[o]? :=λo=>(M.below y M.lt).cell o;have a6:w<K.heap.size:=(M.below y M.lt).lt;obtain⟨bf,bi⟩:=SM l;(try have aK:j<K.heap.size:=by omega);(try have aC:f<K.heap.size:=by omega);(try have aD:k<K.heap.size:=by omega)))
   all_goals
    go_wp2_with fail
    go_meet
    refine⟨_,rfl,?_,?_,Ax⟩
    ·(repeat(first|(with_reducible refine Blk.drew ?_)|((with_reducible refine Blk.newN _ _ _ ?_);(first|rfl|(simp;done)))|(with_reducible refine Blk.set_all2 (a:=.int .i64 0) (b:=.int .i64 0) ?_)|((with_reducible refine Blk.below ?_ l ?_);rotate_left 1;(first|omega|(simp<;>omega)))|((with_reducible refine Blk.below ?_ D ?_);rotate_left 1;(first|omega|(simp<;>omega)))|((with_reducible refine Blk.below ?_ N ?_);rotate_left 1;(first|omega|(simp<;>omega)))))
    ·first|omega|(simp<;>omega)
  case rest=>
   obtain⟨g,rfl,KG,hg,b3⟩:=hcut;have bB:=hg.symm;have B3:=An B2 b3;have K4:=K3.below b3 K3.lt;obtain⟨w3,am⟩: ∃x:World,x=wc:=⟨_,rfl⟩;rw[<-am] at KG B3 K4;rw[<-am];clear am b3 X2 M K3 ab ac aE B2
   go_upto_region 3 with fail
   have ai: ∀o,w3.cell? ⟨g,o,none⟩=((Zii (d1+d2) (v1+v2)):Array Value)[o]? :=KG.cell;have bc:=K4.cell;have bz:=K4.frozen
   go_region_held3 (λw'=>(∀o,w'.cell? ⟨g,o,none⟩=((Zii (d1+d2) (v1+v2)):Array Value)[o]?))
    (exact IK)
    (first
     |(go_at_call 241;refine(Ec cn (v1+v2) _ Aa Aa Aa Aa).mono ?_;rintro e w' ⟨rfl,rfl⟩)
     |(go_at_call 196;refine(Ex cn (d1+d2) _ Aa Aa Aa Aa).mono ?_;rintro e w' ⟨rfl,rfl⟩))
   all_goals
    go_wp2;refine AS (v:=.agg (Zii (cn/(v1+v2)) (-(-cn/(d1+d2))))) (by simp[results,results352,go_sem,bc]) rfl ⟨by rw[HV.out.1,HV.out.2],Ax⟩
theorem Ws (h:Ev) (r:Al) (a b:Nat) (ha:a<r.ds.length) (hb:b<r.ds.length) (w:World) (X:DR w h r) (R:A8 r) (hca:r.can a=true) (hcb:r.can b=false):
  (BT 353 #[Pq h r a b] w (Zii (r.tuLo a b) (r.tuHi a b)):Prop):=by
 have HV:Hid (r.tuLo a b=2*r.thick a b*rD (r.sq a)/r.rise a b∧r.tuHi a b= -(-(2*r.thick a b*rU (r.sq a))/r.rise a b)):=⟨rfl,rfl⟩;have ra:=R.rD_bd' ha hca;have rr:=R.rise_bd ha hb hca hcb;have qt:=R.thick_bd ha hb;have bb:=R.tuN_bd ha hb (q:=rD (r.sq a)) Aa Aa;have bc:=R.tuN_bd ha hb (q:=rU (r.sq a)) Aa Aa;have HX:=Ai X;have HR:=Ai R;clear X R;obtain⟨⟨I,O,L⟩,⟨J,Q,M⟩⟩:=h;unfold Pq;simp only
 go_enter func353,ntmps353
 go_upto_region 1 with fail
 generalize hG:((w.alloc _).alloc _)=w1;obtain⟨K0,K1,b0⟩:=Qg hG;clear hG;have X1:=HX.out.below b0;have K:=OO ⟨⟨I,O,L⟩,⟨J,Q,M⟩⟩ r a ha w1 X1 HR.out hca;unfold GH at K;simp only at K;have e0:=K0.cell
 go_wp2_with fail
 refine K.mono ?_;rintro e w2 ⟨rfl,b2⟩;have B2:=An b0 b2;have K2:=K0.below b2 K0.lt;have K3:=K1.below b2 K1.lt;have X2:=X1.below b2;clear K e0 K0 K1 X1 b0 b2;generalize rD (r.sq a)=F at*;generalize rU (r.sq a)=G at*;have z:=Br w2 136 (Zii F G);have hQ:=K3.lt;have A:=K2.alloc (.cells (Zii F G) 136);have u:=K3.alloc (.cells (Zii F G) 136);have B4:Below w w (w2.alloc (.cells (Zii F G) 136)):=Ax;have X4:=X2.below ((AP _ _).alloc Bk (.cells (Zii F G) 136))
 go_upto_region 2 with fail
 generalize w2.alloc _=y at z A u B4 X4⊢;generalize w2.heap.size=g at z hQ⊢;have hg:g≠w.heap.size+1:=Aa;have bo:=hg.symm;have HT:=λ(W:World) (b':Below y y W)=>QI ⟨⟨I,O,L⟩,⟨J,Q,M⟩⟩ r a b ha hb W (X4.below b') HR.out;have HS:=λ(W:World) (b':Below y y W)=>ap ⟨⟨I,O,L⟩,⟨J,Q,M⟩⟩ r a b ha hb W (X4.below b') HR.out;unfold Pq at HT HS;simp only at HT HS;generalize r.thick a b=t at*;generalize r.rise a b=s at*;have wa:=Bg (2*t);obtain⟨Z,a5⟩: ∃n,2*t*F=n:=⟨_,rfl⟩;obtain⟨aa,a6⟩: ∃n,2*t*G=n:=⟨_,rfl⟩;rw[a5] at bb HV;rw[a6] at bc HV;have wb:=Bg Z;have wc:=Bg aa;clear HX HR X2 K2 K3 B2 X4;have bq: ∀o,y.cell? ⟨w,o,none⟩=((AF I O L J Q M r.src r.c r.s r.h a b):Array Value)[o]? :=A.cell;have br: ∀o,y.cell? ⟨g,o,none⟩=((Zii F G):Array Value)[o]? :=z.cell
 go_region_held3 (λw'=>(∀o,w'.cell? ⟨w,o,none⟩=((AF I O L J Q M r.src r.c r.s r.h a b):Array Value)[o]?)∧(∀o,w'.cell? ⟨g,o,none⟩=((Zii F G):Array Value)[o]?))
  (exact IK)
  (first
   |((fail_if_success (clear j));go_at_call 367;refine(HT _ Ax).mono ?_;rintro e l ⟨rfl,S⟩;have j:Below y y l:=(show Below y y _ from Ax).trans (S.mono C9);have a7:=j.size;have T:=S.size;(try simp at T);have aC: ∀o,l.cell? ⟨w,o,none⟩=((AF I O L J Q M r.src r.c r.s r.h a b):Array Value)[o]? :=λo=>(A.below j A.lt).cell o;have aK:w<l.heap.size:=(A.below j A.lt).lt;have aG: ∀o,l.cell? ⟨g,o,none⟩=((Zii F G):Array Value)[o]? :=λo=>(z.below j z.lt).cell o;have aO:g<l:=(z.below j z.lt).lt;have ao:=λo=>(u.below j u.lt).cell o;have au:=λo=>(u.below j u.lt).frozen o;have ay:=(u.below j u.lt).lt)
   |((fail_if_success (clear k));go_at_call 370;refine(HS _ Ax).mono ?_;rintro e m ⟨rfl,H⟩;have k:Below y y m:=(show Below y y _ from Ax).trans (H.mono C9);have a8:=k.size;have U:=H.size;(try simp at U);have ac:Below l l m:=(show Below l l _ from Ax).trans (H.mono C9);have aD: ∀o,m.cell? ⟨w,o,none⟩=((AF I O L J Q M r.src r.c r.s r.h a b):Array Value)[o]? :=λo=>(A.below k A.lt).cell o;have aL:w<m.heap.size:=(A.below k A.lt).lt;have aH: ∀o,m.cell? ⟨g,o,none⟩=((Zii F G):Array Value)[o]? :=λo=>(z.below k z.lt).cell o;have aP:g<m:=(z.below k z.lt).lt;have aq:=λo=>(u.below k u.lt).cell o;have av:=λo=>(u.below k u.lt).frozen o;have az:=(u.below k u.lt).lt)
   |((fail_if_success (clear d));go_at_call 241;refine(Ec Z s _ Aa Aa Aa Aa).mono ?_;rintro e w' ⟨rfl,rfl⟩)
   |((fail_if_success (clear d));go_at_call 367;refine(HT _ Ax).mono ?_;rintro e x ⟨rfl,E⟩;have d:Below y y x:=(show Below y y _ from Ax).trans (E.mono C9);have a9:=d.size;have V:=E.size;(try simp at V);have ad:Below l l x:=(show Below l l _ from Ax).trans (E.mono C9);have af:Below m m x:=(show Below m m _ from Ax).trans (E.mono C9);have aE: ∀o,x.cell? ⟨w,o,none⟩=((AF I O L J Q M r.src r.c r.s r.h a b):Array Value)[o]? :=λo=>(A.below d A.lt).cell o;have aM:w<x.heap.size:=(A.below d A.lt).lt;have aI: ∀o,x.cell? ⟨g,o,none⟩=((Zii F G):Array Value)[o]? :=λo=>(z.below d z.lt).cell o;have aQ:g<x:=(z.below d z.lt).lt;have ar:=λo=>(u.below d u.lt).cell o;have aw:=λo=>(u.below d u.lt).frozen o;have aA:=(u.below d u.lt).lt)
   |((fail_if_success (clear f));go_at_call 370;refine(HS _ Ax).mono ?_;rintro e D ⟨rfl,C⟩;have f:Below y y D:=(show Below y y _ from Ax).trans (C.mono C9);have ba:=f.size;have Y:=C.size;(try simp at Y);have ae:Below l l D:=(show Below l l _ from Ax).trans (C.mono C9);have ag:Below m m D:=(show Below m m _ from Ax).trans (C.mono C9);have ah:Below x x D:=(show Below x x _ from Ax).trans (C.mono C9);have aF: ∀o,D.cell? ⟨w,o,none⟩=((AF I O L J Q M r.src r.c r.s r.h a b):Array Value)[o]? :=λo=>(A.below f A.lt).cell o;have aN:w<D.heap.size:=(A.below f A.lt).lt;have aJ: ∀o,D.cell? ⟨g,o,none⟩=((Zii F G):Array Value)[o]? :=λo=>(z.below f z.lt).cell o;have aR:g<D:=(z.below f z.lt).lt;have N:=λo=>(u.below f u.lt).cell o;have ax:=λo=>(u.below f u.lt).frozen o;have aB:=(u.below f u.lt).lt)
   |(go_at_call 196;refine(Ex aa s _ Aa Aa Aa Aa).mono ?_;rintro e w' ⟨rfl,rfl⟩))
 all_goals
  have B5:=An B4 f;go_wp2;refine AS (v:=.agg (Zii (Z/s) (-(-aa/s)))) (by simp[results,results353,go_sem,N]) rfl ⟨by rw[HV.out.1,HV.out.2],Ax⟩
def ckB (lo hi:Int):Bool:=isV lo && isV hi
theorem Pw (lo hi:Int) (w:World):
  (BT 341 #[Zii lo hi] w (.bool (ckB lo hi)):Prop):=by
 have HV:Hid (ckB lo hi=(isV lo && isV hi)):=rfl;have c:=λW=>Fi lo W;have f:=λW=>Fi hi W;have e1:inR lo (-1000000000000) 1000000000000=isV lo:=rfl;have e2:inR hi (-1000000000000) 1000000000000=isV hi:=rfl;rw[e1] at c;rw[e2] at f;clear e1 e2;generalize isV lo=a at*;generalize isV hi=b at*
 cases a
 ·have d:Hid (false=ckB lo hi):=by rw[HV.out];rfl
  go_enter func341,ntmps341
  go_wp2_with (go_at_call 329;refine(c _).mono ?_;rintro e j ⟨rfl,rfl⟩)
  go_ret;exact⟨Af d.out,Ax⟩
 ·have d:Hid (b=ckB lo hi):=by rw[HV.out];rfl
  go_enter func341,ntmps341
  go_wp2_with fail
  refine(c _).mono ?_;rintro e j ⟨rfl,rfl⟩
  go_wp2_with fail
  refine(f _).mono ?_;rintro e j ⟨rfl,rfl⟩;go_wp2;go_ret;exact⟨Af d.out,Ax⟩
theorem Ge (lo hi d:Int) (w:World):
  (BT 319 (BN lo hi d) w (.tuple (BN (if ckB lo hi=true then lo else 0) (if ckB lo hi=true then hi else 0) (if ckB lo hi=true then 0 else d))):Prop):=by
 have f:=λW=>Pw lo hi W;obtain⟨z,r⟩: ∃z,ckB lo hi=z:=⟨_,rfl⟩;rw[r] at f⊢;clear r
 go_enter func319,ntmps319
 go_upto_region 1 with fail
 generalize m:(w.alloc _).alloc _=u;obtain⟨a,b,j⟩:=Qg m;clear m;have k:=a.cell;have l:=a.lt
 go_wp2_with fail
 refine(f _).mono ?_;rintro e x ⟨rfl,c⟩;have s:=An j c;replace a:=a.below c l;replace b:=b.below c b.lt;clear k l c j;have k:=a.cell;have e1:=b.cell;have t:=b.frozen
 cases z
 ·go_wp2;refine AS (v:=.tuple (BN 0 0 d)) (by simp[results,results319,go_sem,e1]) rfl ⟨rfl,Ax⟩
 ·go_wp2;refine AS (v:=.tuple (BN lo hi 0)) (by simp[results,results319,go_sem,e1]) rfl ⟨rfl,Ax⟩
theorem Z5 (h:Ev) (r:Al) (a b:Nat) (ha:a<r.ds.length) (T:b<r.ds.length) (w:World) (X:DR w h r) (R:A8 r) (hca:r.can a=true):
  (BT 339 #[Pq h r a b] w (.tuple (BN (if ckB (r.paLo a b) (r.paHi a b)=true then r.paLo a b else 0) (if ckB (r.paLo a b) (r.paHi a b)=true then r.paHi a b else 0) (if ckB (r.paLo a b) (r.paHi a b)=true then 0 else 3))):Prop):=by
 have c:=λ(W:World) (X:DR W h r)=>MB h r a b ha T W X R;have d:=λ(W:World) (X:DR W h r)=>j6 h r a b ha T W X R hca;have f:=λ(W:World) (X:DR W h r)=>Ws h r a b ha T W X R hca;have L:Hid (r.paLo a b=if r.can b=true then r.crLo a b else r.tuLo a b):=rfl;have K:Hid (r.paHi a b=if r.can b=true then r.crHi a b else r.tuHi a b):=rfl;have J:r.vd a b=if r.can b=true then 1 else 2:=by unfold Al.vd;rw[hca];rfl
 rw[J] at c;have M:=Ai X;clear X J R;obtain⟨⟨V,n0,Z⟩,⟨Y,n1,c1⟩⟩:=h;unfold Pq at c d f⊢;simp only at c d f⊢;rcases jt (r.can b) with hcb|hcb
 ·have G:r.paLo a b=r.crLo a b:=by rw[L.out,AA hcb]
  have F:r.paHi a b=r.crHi a b:=by rw[K.out,AA hcb]
  rw[G,F];rw[AA hcb] at c;have y:=λ(W:World) (X:DR W ⟨⟨V,n0,Z⟩,⟨Y,n1,c1⟩⟩ r)=>d W X hcb;have O:=λW=>Ge (r.crLo a b) (r.crHi a b) 3 W;clear G F L K d f hcb;generalize r.crLo a b=lo at*;generalize r.crHi a b=hi at*;generalize(if ckB lo hi=true then lo else 0)=x1 at*;generalize(if ckB lo hi=true then hi else 0)=x2 at*;generalize(if ckB lo hi=true then(0:Int) else 3)=U at*
  go_enter func339,ntmps339
  go_upto_region 1 with fail
  generalize I:((w.alloc _).alloc _)=w1;obtain⟨k,l,t⟩:=Qg I;clear I;have s:=M.out.below t;have Q:=k.cell;have H:=k.lt
  go_wp2_with fail
  refine(c _ s).mono ?_;rintro e w2 ⟨rfl,j⟩;have x:=An t j;have z:=k.below j H;have m:=l.below j l.lt;have D:=s.below j;clear c Q H k l s t j M;have e2:=z.cell
  go_wp2_with fail
  refine(y _ D).mono ?_;rintro e w3 ⟨rfl,u⟩;have N:=An x u;have A:=m.below u m.lt;clear e2 D z m x u y
  go_wp2_with fail
  refine(O _).mono ?_;rintro e w4 ⟨rfl,E⟩;have B4:=An N E;have C:=A.below E A.lt;have S:=C.cell;have f5:=C.frozen;go_wp2;refine AS (v:=.tuple (BN x1 x2 U)) (by simp[results,results339,go_sem,S]) rfl ⟨rfl,Ax⟩
 ·have G:r.paLo a b=r.tuLo a b:=by rw[L.out,Ak W6]
  have F:r.paHi a b=r.tuHi a b:=by rw[K.out,Ak W6]
  rw[G,F];rw[Ak W6] at c;have y:=λ(W:World) (X:DR W ⟨⟨V,n0,Z⟩,⟨Y,n1,c1⟩⟩ r)=>f W X hcb;have O:=λW=>Ge (r.tuLo a b) (r.tuHi a b) 3 W;clear G F L K d f hcb;generalize r.tuLo a b=lo at*;generalize r.tuHi a b=hi at*;generalize(if ckB lo hi=true then lo else 0)=x1 at*;generalize(if ckB lo hi=true then hi else 0)=x2 at*;generalize(if ckB lo hi=true then(0:Int) else 3)=U at*
  go_enter func339,ntmps339
  go_upto_region 1 with fail
  generalize I:((w.alloc _).alloc _)=w1;obtain⟨k,l,t⟩:=Qg I;clear I;have s:=M.out.below t;have Q:=k.cell;have H:=k.lt
  go_wp2_with fail
  refine(c _ s).mono ?_;rintro e w2 ⟨rfl,j⟩;have x:=An t j;have z:=k.below j H;have m:=l.below j l.lt;have D:=s.below j;clear c Q H k l s t j M;have e2:=z.cell
  go_wp2_with fail
  refine(y _ D).mono ?_;rintro e w3 ⟨rfl,u⟩;have N:=An x u;have A:=m.below u m.lt;clear e2 D z m x u y
  go_wp2_with fail
  refine(O _).mono ?_;rintro e w4 ⟨rfl,E⟩;have B4:=An N E;have C:=A.below E A.lt;have S:=C.cell;have f5:=C.frozen;go_wp2;refine AS (v:=.tuple (BN x1 x2 U)) (by simp[results,results339,go_sem,S]) rfl ⟨rfl,Ax⟩
theorem Ql (h:Ev) (r:Al) (w:World):
  (BT 279 #[GH h r] w (Hy r.first):Prop):=by
 obtain⟨⟨a,f,c⟩,⟨b,j,d⟩⟩:=h;unfold GH Hy Al.first;simp only
 go_enter func279,ntmps279
 go_wp2;refine AS (v:=.agg (A7 r.src (decide (0<r.s)) 0 0)) (by simp[results,results279,go_sem]) rfl ⟨rfl,Ax⟩
def fW (h:Ev) (r:Al):Option (Nat×Nat)->Value
 |none=> .tuple #[.agg #[.slice none 0 0,.slice none 0 0,ZI 0,ZI 0,ZI 0,ZI 0,ZI 0,ZI 0],.bool false]
 |some (a,b)=> .tuple #[Pq h r a b,.bool true]
def Mh:Option AU->Value
 |none=> .tuple (CR 0 false 0 0 0 0 0 3)
 |some y=> .tuple #[Hy y.st,ZI y.ev,Zii y.lo y.hi,ZI 0]
theorem ZW (h:Ev) (r:Al) (x:En) (w:World) (X:DR w h r) (R:A8 r) (S:Jt r x):
  (BT 338 #[GH h r,Hy x] w (fW h r (r.nxt x)):Prop):=by
 have N:Hid (r.nxt x=if x.dn=true then(if x.k+1<r.ds.length then some (x.k,x.k+1) else none) else if 0<x.k then some (x.k,x.k-1) else none):=rfl;have hk:=S.k;have hl:=R.len;have T:=X.nd;clear X R S;obtain⟨k,dn,lo,hi⟩:=x;have m:=YU h r k;have l:=λ(j:Nat)=>YT h r j;obtain⟨⟨D,C,G⟩,⟨E,J,H⟩⟩:=h;simp only at N hk T m l⊢;rw[<-T] at hk hl N;clear T;have L:=λW=>TN D E C J G H W Aa;unfold Pq at m l;unfold GH Hy at*;simp only at m l⊢;have wl:=Bg ((C:Int)-1)
 cases dn
 ·have M:Hid (r.nxt ⟨k,false,lo,hi⟩=if 0<k then some (k,k-1) else none):=N.out
  go_enter func338,ntmps338
  go_upto_region 1 with fail
  generalize hG:(((w.alloc _).alloc _).alloc _)=f;obtain⟨t,b,d,Z⟩:=WF hG;clear hG;have e1:=b.cell
  go_quiet (fail)
  revert nq;intro nq;have b1:Below w w (f.drewN nq):=Ba Z _;replace t:Blk (f.drewN nq) _ _ _:=t;replace b:Blk (f.drewN nq) _ _ _:=b;replace d:Blk (f.drewN nq) _ _ _:=d;generalize f.drewN nq=w2 at t b d b1⊢;clear e1 Z;have e1:=b.cell
  by_cases h0:0<k
  ·obtain⟨j,rfl⟩: ∃j,k=j+1:=⟨k-1,by omega⟩
   rw[AA h0,Nat.add_sub_cancel] at M;have hj:((j+1:Nat):Int)=(j:Int)+1:=Aa;have an:(0:Int)<(j:Int)+1:=Aa;have am:(j:Int)+1-1=(j:Int):=Aa;have ao:=Bg (j:Int);have Y:=λW=>l j W Aa;rw[hj] at Y e1;have e0:=t.cell;clear l m L N
   go_wp2_with fail
   refine(Y _).mono ?_;rintro e w3 ⟨rfl,Q⟩;have B3:=An b1 Q;have O:=d.below Q d.lt;clear e0 e1 t b d Q b1;have e3:=O.cell;have f3:=O.frozen;go_wp2;refine AS (v:=.tuple #[AF D C G E J H r.src r.c r.s r.h ((j:Int)+1:Int) j,.bool true]) (by simp[results,results338,go_sem,e3]) rfl ⟨?_,Ax⟩
   rw[M.out];show _=Ending.returned (.tuple #[AF D C G E J H r.src r.c r.s r.h (((j+1:Nat):Int):Int) j,.bool true]);rw[hj]
  ·rw[Ak h0] at M;clear l m L N;have e2:=d.cell;have f2:=d.frozen;go_wp2;refine AS (v:=.tuple #[.agg #[.slice none 0 0,.slice none 0 0,ZI 0,ZI 0,ZI 0,ZI 0,ZI 0,ZI 0],.bool false]) (by simp[results,results338,go_sem,e2]) rfl ⟨by rw[M.out];rfl,Ax⟩
 ·have M:Hid (r.nxt ⟨k,true,lo,hi⟩=if k+1<C then some (k,k+1) else none):=N.out
  go_enter func338,ntmps338
  go_upto_region 1 with fail
  generalize hG:(((w.alloc _).alloc _).alloc _)=f;obtain⟨t,b,d,Z⟩:=WF hG;clear hG
  by_cases h0:k+1<C
  ·rw[AA h0] at M;have ap:(k:Int)<(C:Int)-1:=Aa;have Y:=λW=>m W Aa;have he:((k+1:Nat):Int)=(k:Int)+1:=Aa;rw[he] at Y;clear l m N;have U: ∀o,f.cell? ⟨w,o,none⟩=((AV D C G E J H r.src r.c r.s r.h):Array Value)[o]? :=t.cell;have V: ∀o,f.cell? ⟨w+1,o,none⟩=((A7 k true lo hi):Array Value)[o]? :=b.cell
   go_region_held3 (λw'=>(∀o,w'.cell? ⟨w,o,none⟩=((AV D C G E J H r.src r.c r.s r.h):Array Value)[o]?)∧(∀o,w'.cell? ⟨w+1,o,none⟩=((A7 k true lo hi):Array Value)[o]?))
    (exact IK)
    (first
     |((fail_if_success (clear a));go_at_call 77;refine(L _).mono ?_;rintro e K ⟨rfl,F⟩;have a:Below f f K:=(show Below f f _ from Ax).trans (F.mono C9);have ad:=a.size;have I:=F.size;(try simp at I);have u: ∀o,K.cell? ⟨w,o,none⟩=((AV D C G E J H r.src r.c r.s r.h):Array Value)[o]? :=λo=>(t.below a t.lt).cell o;have z:w<K.heap.size:=(t.below a t.lt).lt;have y: ∀o,K.cell? ⟨w+1,o,none⟩=((A7 k true lo hi):Array Value)[o]? :=λo=>(b.below a b.lt).cell o;have A:w+1<K.heap.size:=(b.below a b.lt).lt))
   all_goals
    have B1:=An Z a;have d:=d.below a d.lt;clear U V u y z A
    go_wp2_with fail
    refine(Y _).mono ?_;rintro e w3 ⟨rfl,Q⟩;have B3:=An B1 Q;have O:=d.below Q d.lt;clear t b d Q B1;have e3:=O.cell;have f3:=O.frozen;go_wp2;refine AS (v:=.tuple #[AF D C G E J H r.src r.c r.s r.h k ((k:Int)+1:Int),.bool true]) (by simp[results,results338,go_sem,e3]) rfl ⟨?_,Ax⟩
    rw[M.out];show _=Ending.returned (.tuple #[AF D C G E J H r.src r.c r.s r.h k (((k+1:Nat):Int):Int),.bool true]);rw[he]
  ·rw[Ak h0] at M;clear l m N;have U: ∀o,f.cell? ⟨w,o,none⟩=((AV D C G E J H r.src r.c r.s r.h):Array Value)[o]? :=t.cell;have V: ∀o,f.cell? ⟨w+1,o,none⟩=((A7 k true lo hi):Array Value)[o]? :=b.cell
   go_region_held3 (λw'=>(∀o,w'.cell? ⟨w,o,none⟩=((AV D C G E J H r.src r.c r.s r.h):Array Value)[o]?)∧(∀o,w'.cell? ⟨w+1,o,none⟩=((A7 k true lo hi):Array Value)[o]?))
    (exact IK)
    (first
     |((fail_if_success (clear a));go_at_call 77;refine(L _).mono ?_;rintro e K ⟨rfl,F⟩;have a:Below f f K:=(show Below f f _ from Ax).trans (F.mono C9);have ad:=a.size;have I:=F.size;(try simp at I);have u: ∀o,K.cell? ⟨w,o,none⟩=((AV D C G E J H r.src r.c r.s r.h):Array Value)[o]? :=λo=>(t.below a t.lt).cell o;have z:w<K.heap.size:=(t.below a t.lt).lt;have y: ∀o,K.cell? ⟨w+1,o,none⟩=((A7 k true lo hi):Array Value)[o]? :=λo=>(b.below a b.lt).cell o;have A:w+1<K.heap.size:=(b.below a b.lt).lt))
   all_goals
    have B1:=An Z a;have O:=d.below a d.lt;clear U V u y z A d;have e3:=O.cell;have f3:=O.frozen;go_wp2;refine AS (v:=.tuple #[.agg #[.slice none 0 0,.slice none 0 0,ZI 0,ZI 0,ZI 0,ZI 0,ZI 0,ZI 0],.bool false]) (by simp[results,results338,go_sem,e3]) rfl ⟨by rw[M.out];rfl,Ax⟩
theorem aF (h:Ev) (r:Al) (x:En) (w:World) (X:DR w h r) (R:A8 r) (S:Jt r x):
  (BT 316 #[GH h r,Hy x] w (Mh (r.step x)):Prop):=by
 have l:=λ(W:World) (X:DR W h r)=>ZW h r x W X R S;have HX:=Ai X;rcases hnx:r.nxt x with _|⟨a,b⟩
 ·rw[hnx] at l;have HW:r.step x=some ⟨⟨x.k,!x.dn,x.lo,x.hi⟩,if x.dn=true then 4 else 3,0,0⟩:=by unfold Al.step;rw[hnx]
  rw[HW];clear HW hnx S R X;obtain⟨k,dn,lo,hi⟩:=x;obtain⟨⟨A0,n0,c0⟩,⟨A1,n1,c1⟩⟩:=h;unfold fW at l;unfold Mh GH Hy at*;simp only at l⊢
  cases dn
  ·go_enter func316,ntmps316
   go_upto_region 1 with fail
   generalize F:((((w.alloc _).alloc _).alloc _).alloc _)=w1;obtain⟨U,d,j,f,J⟩:=Y3 F;clear F;have O:=HX.out.below J;have e0:=U.cell;have e1:=d.cell
   go_wp2_with fail
   refine(l _ O).mono ?_;rintro e T ⟨rfl,y⟩;have C:=An J y;replace d:=d.below y d.lt;replace j:=j.below y j.lt;replace f:=f.below y f.lt;clear e0 e1 U O J y l;have e1:=d.cell;have f1:=d.frozen;have g1:=d.lt;have e2:=j.cell;have f2:=j.frozen;have M:=j.lt;have L:=f.cell;have f3:=f.frozen;have N:=f.lt;go_wp2;refine AS (v:=.tuple (CR k true lo hi 3 0 0 0)) (by simp[results,results316,go_sem,e2,L,M,N]) rfl ⟨by first|rfl|simp,Ax⟩
  ·go_enter func316,ntmps316
   go_upto_region 1 with fail
   generalize F:((((w.alloc _).alloc _).alloc _).alloc _)=w1;obtain⟨U,d,j,f,J⟩:=Y3 F;clear F;have O:=HX.out.below J;have e0:=U.cell;have e1:=d.cell
   go_wp2_with fail
   refine(l _ O).mono ?_;rintro e T ⟨rfl,y⟩;have C:=An J y;replace d:=d.below y d.lt;replace j:=j.below y j.lt;replace f:=f.below y f.lt;clear e0 e1 U O J y l;have e1:=d.cell;have f1:=d.frozen;have g1:=d.lt;have e2:=j.cell;have f2:=j.frozen;have M:=j.lt;have L:=f.cell;have f3:=f.frozen;have N:=f.lt;go_wp2;refine AS (v:=.tuple (CR k false lo hi 4 0 0 0)) (by simp[results,results316,go_sem,e2,L,M,N]) rfl ⟨by first|rfl|simp,Ax⟩
 ·obtain⟨ha,hb⟩:=R.nxt_in S hnx;have Q:a<r.ds.length:=by rw[ha];exact S.k
  have hca:r.can a=true:=by rw[ha];exact S.can
  rw[hnx] at l
  have HW:r.step x=if isV (r.paLo a b)=true∧isV (r.paHi a b)=true∧isV (x.lo+r.paLo a b)=true∧isV (x.hi+r.paHi a b)=true then
     (if r.can b=true then some ⟨⟨b,x.dn,x.lo+r.paLo a b,x.hi+r.paHi a b⟩,1,r.paLo a b,r.paHi a b⟩
      else some ⟨⟨x.k,!x.dn,x.lo+r.paLo a b,x.hi+r.paHi a b⟩,2,r.paLo a b,r.paHi a b⟩)
    else none:=by unfold Al.step;rw[hnx]
  have qp:=R.pa_bd Q hb hca;have aO:=Ac S.lo;have aN:=Ac S.hi;have I:=λ(W:World) (X:DR W h r)=>Z5 h r a b Q hb W X R hca;have z:=λ(W:World) (X:DR W h r)=>MB h r a b Q hb W X R;have ay:r.vd a b=if r.can b=true then 1 else 2:=by unfold Al.vd;rw[hca];rfl
  rw[ay] at z;rw[HW];clear HW hnx S R X ay ha hca Q hb;obtain⟨k,dn,lo,hi⟩:=x;obtain⟨⟨A0,n0,c0⟩,⟨A1,n1,c1⟩⟩:=h;unfold fW at l;unfold Pq at*;unfold GH Hy at*;simp only at l I z aO aN⊢;generalize r.paLo a b=m at*;generalize r.paHi a b=t at*;have K:ckB m t=(isV m && isV t):=rfl;have A:ckB (lo+m) (hi+t)=(isV (lo+m) && isV (hi+t)):=rfl;have ad:=λW=>Kz lo hi m t W Aa Aa Aa Aa;have H:=λW=>Ge (lo+m) (hi+t) 3 W;rcases jt (ckB m t) with hc1|hc1
  rotate_left
  rw[Ak (λc=>by rw[K,c.1,c.2.1] at hc1;cases hc1)]
  unfold Mh;simp only[hc1,if_false,Ie,reduceIte] at I;clear K A ad H z
  rotate_left
  simp only[hc1,reduceIte] at I;rcases jt (ckB (lo+m) (hi+t)) with hc2|hc2
  rotate_left
  rw[Ak (λc=>by rw[A,c.2.2.1,c.2.2.2] at hc2;cases hc2)]
  unfold Mh;simp only[hc2,Ie,reduceIte] at H;clear K A z
  rotate_left 2
  simp only[hc2,reduceIte] at H
  have Y:isV m=true∧isV t=true∧isV (lo+m)=true∧isV (hi+t)=true:=by
   rw[K,CD] at hc1;rw[A,CD] at hc2;exact⟨hc1.1,hc1.2,hc2.1,hc2.2⟩
  rw[AA Y];clear Y K A hc1 hc2;rcases jt (r.can b) with hcb|hcb
  rw[AA hcb];rw[AA hcb] at z;unfold Mh;clear hcb
  rotate_left
  rw[Ak W6];rw[Ak W6] at z;unfold Mh;clear hcb
  rotate_left 2
  all_goals
   go_enter func316,ntmps316
   go_upto_region 1 with fail
   generalize F:((((w.alloc _).alloc _).alloc _).alloc _)=w1;obtain⟨U,d,j,f,J⟩:=Y3 F;clear F;have O:=HX.out.below J;have e0:=U.cell;have e1:=d.cell
   go_wp2_with fail
   refine(l _ O).mono ?_;rintro e T ⟨rfl,y⟩;have C:=An J y;have X2:=O.below y;replace d:=d.below y d.lt;replace j:=j.below y j.lt;replace f:=f.below y f.lt;have V:w+1<T.heap.size:=d.lt;have aw:w+1+1+1<T.heap.size:=f.lt;clear e0 e1 U O J y l;have u:=Br T 330 (AF A0 n0 c0 A1 n1 c1 r.src r.c r.s r.h a b);replace d:=d.alloc (.cells (AF A0 n0 c0 A1 n1 c1 r.src r.c r.s r.h a b) 330);replace j:=j.alloc (.cells (AF A0 n0 c0 A1 n1 c1 r.src r.c r.s r.h a b) 330);replace f:=f.alloc (.cells (AF A0 n0 c0 A1 n1 c1 r.src r.c r.s r.h a b) 330);replace X2:=X2.below ((AP _ _).alloc Bk (.cells (AF A0 n0 c0 A1 n1 c1 r.src r.c r.s r.h a b) 330));replace C:Below w w (T.alloc (.cells (AF A0 n0 c0 A1 n1 c1 r.src r.c r.s r.h a b) 330)):=Ax;have ak:T.heap.size≠w.heap.size+1:=by have:=d.lt;have h9:=V;omega
   go_upto_region 2 with fail
   generalize T.alloc _=w3 at u d j f X2 C⊢;generalize T.heap.size=QA at u ak⊢;clear V aw;have eA:=u.cell
   go_wp2_with fail
   refine(I _ X2).mono ?_;rintro e w4 ⟨rfl,b4⟩;replace C:=An C b4;replace u:=u.below b4 u.lt;replace d:=d.below b4 d.lt;replace j:=j.below b4 j.lt;replace f:=f.below b4 f.lt;clear b4 eA I
  ·have e2:=j.cell;have f2:=j.frozen;have M:=j.lt;have L:=f.cell;have f3:=f.frozen;have N:=f.lt;go_wp2;refine AS (v:=.tuple (CR 0 false 0 0 0 0 0 3)) (by simp[results,results316,go_sem,e2,L,M,N]) rfl ⟨rfl,Ax⟩
  all_goals
   have aa:QA<w4.heap.size:=u.lt;have Z:w+1+1+1<w4.heap.size:=f.lt
   go_upto_region 9 with fail
   generalize F:w4.alloc _=w5;obtain⟨G,E⟩:=EX F;clear F;replace u:=u.below E u.lt;replace d:=d.below E d.lt;replace j:=j.below E j.lt;replace f:=f.below E f.lt;replace C:=An C E;clear E;generalize w4.heap.size=QB at G aa Z⊢;have al:QB≠w.heap.size+1:=Aa;have aK:QB≠w.heap.size+1+1:=Aa;have aL:QB≠w.heap.size+1+1+1:=Aa;have aM:QB≠QA:=Aa;clear aa Z;have eB:=G.cell;have e1:=d.cell
   go_wp2_with fail
   refine(ad _).mono ?_;rintro e w6 ⟨rfl,b6⟩;replace C:=An C b6;replace u:=u.below b6 u.lt;replace G:=G.below b6 G.lt;replace d:=d.below b6 d.lt;replace j:=j.below b6 j.lt;replace f:=f.below b6 f.lt;clear b6 eB e1 ad
   go_wp2_with fail
   refine(H _).mono ?_;rintro e w7 ⟨rfl,b7⟩;replace C:=An C b7;replace u:=u.below b7 u.lt;replace G:=G.below b7 G.lt;replace d:=d.below b7 d.lt;replace j:=j.below b7 j.lt;replace f:=f.below b7 f.lt;clear b7 H
  rotate_right
  ·have e2:=j.cell;have f2:=j.frozen;have M:=j.lt;have L:=f.cell;have f3:=f.frozen;have N:=f.lt;go_wp2;refine AS (v:=.tuple (CR 0 false 0 0 0 0 0 3)) (by simp[results,results316,go_sem,e2,L,M,N]) rfl ⟨rfl,Ax⟩
  all_goals
   go_upto_region 12 with fail
   generalize F:w7.alloc _=w8;obtain⟨KS,E⟩:=EX F;clear F;replace u:=u.below E u.lt;replace G:=G.below E G.lt;replace d:=d.below E d.lt;replace j:=j.below E j.lt;replace f:=f.below E f.lt;replace C:=An C E;clear E;generalize w7.heap.size=QS at KS⊢;have eS:=KS.cell;have e1:=d.cell;have f1:=d.frozen
   go_upto_region 15 with fail
   clear eS e1 f1 KS;have N1:Blk ((w8.setCell ⟨w+1,2,none⟩ (ZI (lo+m))).setCell ⟨w+1,3,none⟩ (ZI (hi+t))) (w.heap.size+1) 138 (A7 k dn (lo+m) (hi+t)):=(d.set_ 2 (ZI (lo+m))).set_ 3 (ZI (hi+t));have N2:=(j.far (p:=⟨w+1,2,none⟩) Aw (ZI (lo+m))).far (p:=⟨w+1,3,none⟩) Aw (ZI (hi+t));have N3:=(f.far (p:=⟨w+1,2,none⟩) Aw (ZI (lo+m))).far (p:=⟨w+1,3,none⟩) Aw (ZI (hi+t));have NA:=(u.far (p:=⟨w+1,2,none⟩) ak (ZI (lo+m))).far (p:=⟨w+1,3,none⟩) ak (ZI (hi+t));have NB:=(G.far (p:=⟨w+1,2,none⟩) al (ZI (lo+m))).far (p:=⟨w+1,3,none⟩) al (ZI (hi+t));have B9:Below w w ((w8.setCell ⟨w+1,2,none⟩ (ZI (lo+m))).setCell ⟨w+1,3,none⟩ (ZI (hi+t))):=Ax;clear d j f u G C;generalize(w8.setCell ⟨w+1,2,none⟩ (ZI (lo+m))).setCell ⟨w+1,3,none⟩ (ZI (hi+t))=w9 at N1 N2 N3 NA NB B9⊢;have X9:=HX.out.below B9;clear HX;have eA:=NA.cell
   go_wp2_with fail
   refine(z _ X9).mono ?_;rintro e a7 ⟨rfl,D⟩;replace B9:=An B9 D;replace NA:=NA.below D NA.lt;replace NB:=NB.below D NB.lt;replace N1:=N1.below D N1.lt;replace N2:=N2.below D N2.lt;replace N3:=N3.below D N3.lt;clear D eA z X9;have eA:=NA.cell;have eB:=NB.cell;have e1:=N1.cell;have f1:=N1.frozen;have e2:=N2.cell;have f2:=N2.frozen;have M:=N2.lt;have L:=N3.cell;have f3:=N3.frozen;have N:=N3.lt;have aT:=al.symm;have aU:=aK.symm;have aV:=aL.symm;have a0:=aM.symm
  ·go_upto_region 17 with fail
   go_region
   all_goals
    go_wp2;refine AS (v:=.tuple (CR b dn (lo+m) (hi+t) 1 m t 0)) (by simp[results,results316,go_sem,e2,L,M,N]) rfl ⟨by first|rfl|simp,Ax⟩
  ·go_upto_region 19 with fail
   go_region
   all_goals
    go_wp2;refine AS (v:=.tuple (CR k (!dn) (lo+m) (hi+t) 2 m t 0)) (by simp[results,results316,go_sem,e2,L,M,N]) rfl ⟨by first|rfl|simp,Ax⟩
theorem Jh:(prog.info? 138).map (λi=>(i.zero.map (·.cells.size),i.size,i.bytes))=some (some 4,4,32):=We51ceQ
theorem AR.farM {w:World} {B K:Nat} {h:Hd} {us:List Value} (o:AR w B K h us) {p:Addr} (a:h.row≠some p.block) (u:Value):AR (w.setCell p u) B K h us:=
 o.grown (Bc (JU _ _) (.inl rfl) _:w.grownBy (w.setCell p u) (some p.block)) (λq e c=>a (by rw[e];exact c.symm))
def Ln (x:En):List Value:= [.int .i64 (x.k:Int),.bool x.dn,.int .i64 x.lo,.int .i64 x.hi]
def C2 (l:List AU):List Int:=l.map AU.ev
def No (l:List AU):List Value:=l.flatMap λy=>Ln y.st
def BF (l:List AU):List Int:=l.flatMap λy=> [y.lo,y.hi]
theorem Td (l:List AU) (y:AU):ints (C2 (l++ [y]))=ints (C2 l)++ints [y.ev]:=by unfold C2 ints;simp
theorem UF (l:List AU) (y:AU):No (l++ [y])=No l++Ln y.st:=by unfold No;simp
theorem YP (l:List AU) (y:AU):ints (BF (l++ [y]))=ints (BF l)++ints [y.lo,y.hi]:=by unfold BF ints;simp
theorem Oo (x:En): ∀u∈Ln x,u.oneCell'=true:=by
 intro u a;unfold Ln at a;simp only[CC,I5,or_false] at a;rcases a with rfl|rfl|rfl|rfl<;>rfl
theorem dV (w:World) (x:En) (e:TypeId):Rd (w.alloc (.cells (A7 x.k x.dn x.lo x.hi) e)) (some ⟨w,0,none⟩) (1*4) (Ln x):=
 (Br w e (A7 x.k x.dn x.lo x.hi)).rd rfl (λi hi=>by
  obtain rfl|rfl|rfl|rfl:i=0∨i=1∨i=2∨i=3:=Aa
  all_goals rfl)
theorem da (w:World) (a b:Int) (e:TypeId):Rd (w.alloc (.cells (Zii a b) e)) (some ⟨w,0,none⟩) (1*2) (ints [a,b]):=
 (Br w e (Zii a b)).rd rfl (λi hi=>by
  obtain rfl|rfl:i=0∨i=1:=Aa
  all_goals rfl)
structure DT (W:World) (g B:Nat) (he hs ha:Hd) (us vs ws:List Value):Prop where
 box:Blk W g 223 (Dj he.A he.n he.c hs.A hs.n hs.c ha.A ha.n ha.c)
 gB:g<B
 oE:AR W B 1 he us
 oS:AR W B 4 hs vs
 oA:AR W B 2 ha ws
 es: ∀q,he.row=some q->hs.row≠some q
 ea: ∀q,he.row=some q->ha.row≠some q
 sa: ∀q,hs.row=some q->ha.row≠some q
section
variable {W W' : World} {g B : Nat} {he hs ha : Hd} {us vs ws : List Value}
theorem DT.below (R:DT W g B he hs ha us vs ws) (k:Below W W W'):DT W' g B he hs ha us vs ws:=⟨R.box.below k R.box.lt,R.gB,R.oE.below k,R.oS.below k,R.oA.below k,R.es,R.ea,R.sa⟩
theorem DT.al (R:DT W g B he hs ha us vs ws) (o:Obj):DT (W.alloc o) g B he hs ha us vs ws:=R.below ((AP _ _).alloc Bk o)
theorem DT.far (R:DT W g B he hs ha us vs ws) {b i:Nat} (a:b<B) (hg:g≠b) (u:Value):DT (W.setCell ⟨b,i,none⟩ u) g B he hs ha us vs ws:=
 ⟨R.box.far (p:=⟨b,i,none⟩) hg u,R.gB,R.oE.farM (λe=>by have:=(R.oE.rowlt _ e).1;simp only at this;omega) _,R.oS.farM (λe=>by have:=(R.oS.rowlt _ e).1;simp only at this;omega) _,R.oA.farM (λe=>by have:=(R.oA.rowlt _ e).1;simp only at this;omega) _,R.es,R.ea,R.sa⟩
def Wu (W V:World) (g B:Nat) (row:Option Nat):Prop:=(∀n w0,n<=g->n<=W->Below n w0 W->Below n w0 V)∧(∀q t cs,Blk W q t cs->(q<B∨ ∀z,row=some z->z≠q)->q≠g->Blk V q t cs)∧W.heap.size<=V.heap.size
theorem Od {h:Hd} {K i:Nat} {xs:List Value} {u:Value} (o:AR W B K h xs) (d:g<B) (gg:W.grownBy W' h.row):Wu W (W'.setCell ⟨g,i,none⟩ u) g B h.row:=by
 refine⟨λn l f hw c=> ?_,λq t j k a b=> ?_,Ch gg.size Cr⟩
 ·exact(c.grown gg hw (λq e=>by have:=(o.rowlt q e).1;omega)).setCell (p:=⟨g,i,none⟩) f _
 ·exact(k.grown gg (λe=>by
   rcases a with a|a
   ·have:=(o.rowlt _ e).1;omega
   ·exact a _ e rfl)).far (p:=⟨g,i,none⟩) b u
theorem DT.pushE (R:DT W g B he hs ha us vs ws) {xs:List Value} {G:Hd} (b:AR W' B 1 G (us++xs)) (gg:W.grownBy W' he.row) (a:G.row=he.row∨ ∃q,G.row=some q∧W.heap.size<=q):
  DT (W'.setCell ⟨g,0,none⟩ (.slice G.A G.n G.c)) g B G hs ha (us++xs) vs ws∧Wu W (W'.setCell ⟨g,0,none⟩ (.slice G.A G.n G.c)) g B he.row:=by
 have d:=R.gB;refine⟨⟨?_,R.gB,?_,?_,?_,?_,?_,R.sa⟩,Od R.oE R.gB gg⟩
 ·exact(R.box.grown gg (λe=>by have:=(R.oE.rowlt _ e).1;omega)).set_ 0 _
 ·exact b.farM (λe=>by have:=(b.rowlt _ e).1;simp only at this;omega) _
 ·exact(R.oS.grown gg (λq e c=>R.es _ c e)).farM (λe=>by have:=(R.oS.rowlt _ e).1;simp only at this;omega) _
 ·exact(R.oA.grown gg (λq e c=>R.ea _ c e)).farM (λe=>by have:=(R.oA.rowlt _ e).1;simp only at this;omega) _
 ·intro q e e2;rcases a with h|⟨r,h,h'⟩
  ·exact R.es q (h▸e) e2
  ·rw[h] at e;injection e with e;have:=(R.oS.rowlt _ e2).2;omega
 ·intro q e e2;rcases a with h|⟨r,h,h'⟩
  ·exact R.ea q (h▸e) e2
  ·rw[h] at e;injection e with e;have:=(R.oA.rowlt _ e2).2;omega
theorem DT.pushS (R:DT W g B he hs ha us vs ws) {xs:List Value} {G:Hd} (b:AR W' B 4 G (vs++xs)) (gg:W.grownBy W' hs.row) (a:G.row=hs.row∨ ∃q,G.row=some q∧W.heap.size<=q):
  DT (W'.setCell ⟨g,1,none⟩ (.slice G.A G.n G.c)) g B he G ha us (vs++xs) ws∧Wu W (W'.setCell ⟨g,1,none⟩ (.slice G.A G.n G.c)) g B hs.row:=by
 have d:=R.gB;refine⟨⟨?_,R.gB,?_,?_,?_,?_,R.ea,?_⟩,Od R.oS R.gB gg⟩
 ·exact(R.box.grown gg (λe=>by have:=(R.oS.rowlt _ e).1;omega)).set_ 1 _
 ·exact(R.oE.grown gg (λq e c=>R.es _ e c)).farM (λe=>by have:=(R.oE.rowlt _ e).1;simp only at this;omega) _
 ·exact b.farM (λe=>by have:=(b.rowlt _ e).1;simp only at this;omega) _
 ·exact(R.oA.grown gg (λq e c=>R.sa _ c e)).farM (λe=>by have:=(R.oA.rowlt _ e).1;simp only at this;omega) _
 ·intro q e e2;rcases a with h|⟨r,h,h'⟩
  ·exact R.es q e (h▸e2)
  ·rw[h] at e2;injection e2 with e2;have:=(R.oE.rowlt _ e).2;omega
 ·intro q e e2;rcases a with h|⟨r,h,h'⟩
  ·exact R.sa q (h▸e) e2
  ·rw[h] at e;injection e with e;have:=(R.oA.rowlt _ e2).2;omega
theorem DT.pushA (R:DT W g B he hs ha us vs ws) {xs:List Value} {G:Hd} (b:AR W' B 2 G (ws++xs)) (gg:W.grownBy W' ha.row) (a:G.row=ha.row∨ ∃q,G.row=some q∧W.heap.size<=q):
  DT (W'.setCell ⟨g,2,none⟩ (.slice G.A G.n G.c)) g B he hs G us vs (ws++xs)∧Wu W (W'.setCell ⟨g,2,none⟩ (.slice G.A G.n G.c)) g B ha.row:=by
 have d:=R.gB;refine⟨⟨?_,R.gB,?_,?_,?_,R.es,?_,?_⟩,Od R.oA R.gB gg⟩
 ·exact(R.box.grown gg (λe=>by have:=(R.oA.rowlt _ e).1;omega)).set_ 2 _
 ·exact(R.oE.grown gg (λq e c=>R.ea _ e c)).farM (λe=>by have:=(R.oE.rowlt _ e).1;simp only at this;omega) _
 ·exact(R.oS.grown gg (λq e c=>R.sa _ e c)).farM (λe=>by have:=(R.oS.rowlt _ e).1;simp only at this;omega) _
 ·exact b.farM (λe=>by have:=(b.rowlt _ e).1;simp only at this;omega) _
 ·intro q e e2;rcases a with h|⟨r,h,h'⟩
  ·exact R.ea q e (h▸e2)
  ·rw[h] at e2;injection e2 with e2;have:=(R.oE.rowlt _ e).2;omega
 ·intro q e e2;rcases a with h|⟨r,h,h'⟩
  ·exact R.sa q e (h▸e2)
  ·rw[h] at e2;injection e2 with e2;have:=(R.oS.rowlt _ e).2;omega
end
structure DI (W:World) (B:Nat) (he hs ha:Hd) (l:List AU):Prop where
 en:he.n=l.length
 sn:hs.n=l.length
 an:ha.n=l.length
 re:Rd W he.A he.n (ints (C2 l))
 rs:Rd W hs.A (hs.n*4) (No l)
 ra:Rd W ha.A (ha.n*2) (ints (BF l))
 be: ∀ad,he.A=some ad->0<he.n->B<=ad.block
 bs: ∀ad,hs.A=some ad->0<hs.n->B<=ad.block
 ba: ∀ad,ha.A=some ad->0<ha.n->B<=ad.block
theorem DI.below {W W':World} {B:Nat} {he hs ha:Hd} {l:List AU} (T:DI W B he hs ha l) (b:Below W W W'):DI W' B he hs ha l:=⟨T.en,T.sn,T.an,T.re.below b,T.rs.below b,T.ra.below b,T.be,T.bs,T.ba⟩
theorem DI.low {W:World} {B C:Nat} {he hs ha:Hd} {l:List AU} (T:DI W B he hs ha l) (h:C<=B):DI W C he hs ha l:=⟨T.en,T.sn,T.an,T.re,T.rs,T.ra,λa e n=>Ch h (T.be a e n),λa e n=>Ch h (T.bs a e n),λa e n=>Ch h (T.ba a e n)⟩
theorem DI.cell {W:World} {B:Nat} {he hs ha:Hd} {l:List AU} (T:DI W B he hs ha l) {b i:Nat} (h:b<B) (u:Value):DI (W.setCell ⟨b,i,none⟩ u) B he hs ha l:=
 ⟨T.en,T.sn,T.an,T.re.keep λa e d=>Below.heap_setCell _ _ _ _ (λc=>by have:=T.be a e d;simp only at c;omega),T.rs.keep λa e d=>Below.heap_setCell _ _ _ _ (λc=>by have:=T.bs a e Aa;simp only at c;omega),T.ra.keep λa e d=>Below.heap_setCell _ _ _ _ (λc=>by have:=T.ba a e Aa;simp only at c;omega),T.be,T.bs,T.ba⟩
theorem DI.drew {W:World} {B:Nat} {he hs ha:Hd} {l:List AU} (T:DI W B he hs ha l):DI W.drew B he hs ha l:=T.below GJ
theorem AR.lowA {w:World} {B K:Nat} {h:Hd} {us:List Value} (o:AR w B K h us) (ad:Addr) (e:h.A=some ad) (a:0<h.n):B<=ad.block:=(o.at_ ad e (by have:=o.nc;omega)).1
theorem DT.rd {W:World} {g B:Nat} {he hs ha:Hd} {l:List AU} (T:DT W g B he hs ha (ints (C2 l)) (No l) (ints (BF l))):DI W B he hs ha l:=by
 have a:(ints (C2 l)).length=he.n*1:=T.oE.len;have b:(No l).length=hs.n*4:=T.oS.len;have c:(ints (BF l)).length=ha.n*2:=T.oA.len;have e1:(ints (C2 l)).length=l.length:=by unfold ints C2;simp
 have e2:(No l).length=l.length*4:=by
  clear T a b c e1
  induction l with
  |nil=>rfl
  |cons y t ih=>unfold No at*;rw[List.flatMap_cons,Dy,ih];simp[Ln];omega
 have d:(ints (BF l)).length=l.length*2:=by
  clear T a b c e1 e2;unfold ints;rw[List.length_map]
  induction l with
  |nil=>rfl
  |cons y t ih=>unfold BF at*;rw[List.flatMap_cons,Dy,ih];simp;omega
 exact⟨by omega,by omega,by omega,T.oE.rd1,T.oS.rd,T.oA.rd,T.oE.lowA,T.oS.lowA,T.oA.lowA⟩
def Wx (r:Al) (n:Nat) (w:World) (e:Ending) (w':World):Prop:=
 (r.tr n=none∧e=.returned (.tuple #[DU,ZI 3])∧Below w w w')∨
 ∃(x:En) (l:List AU) (he hs ha:Hd),r.tr n=some (x,l)∧e=.returned (.tuple #[Dj he.A he.n he.c hs.A hs.n hs.c ha.A ha.n ha.c,ZI 0])∧DI w' w.heap.size he hs ha l∧Below w w w'
theorem V4 {r:Al} {n:Nat} {w w':World} (h:r.tr n=none) (b:Below w w w'):Wx r n w (.returned (.tuple #[DU,ZI 3])) w':=Or.inl ⟨h,rfl,b⟩
theorem V5 {r:Al} {n:Nat} {w w':World} {x:En} {l:List AU} {he hs ha:Hd} (h:r.tr n=some (x,l)) (T:DI w' w.heap.size he hs ha l) (b:Below w w w'):Wx r n w (.returned (.tuple #[Dj he.A he.n he.c hs.A hs.n hs.c ha.A ha.n ha.c,ZI 0])) w':=Or.inr ⟨x,l,he,hs,ha,h,rfl,T,b⟩
theorem Lt {r:Al} {k:Nat} (h:r.tr k=none): ∀n,k<=n->r.tr n=none
 |0,hn=>by obtain rfl:k=0:=Aa;exact h
 |n+1,hn=>by
  by_cases e:k=n+1
  ·rw[<-e];exact h
  ·have a:=Lt h n Aa;show(match r.tr n with|none=>none|some (x,l)=>match r.step x with|none=>none|some y=>some (y.st,l++ [y]))=none
   rw[a]
theorem Nr {r:Al} {k:Nat} {x:En} {l:List AU} (h:r.tr k=some (x,l)):(r.step x=none->r.tr (k+1)=none)∧ ∀y,r.step x=some y->r.tr (k+1)=some (y.st,l++ [y]):=by
 have e:r.tr (k+1)=(match r.tr k with|none=>none|some (x,l)=>match r.step x with|none=>none|some y=>some (y.st,l++ [y])):=rfl
 rw[h] at e;refine⟨λhs=> ?_,λy hs=> ?_⟩<;> ·rw[e];simp only[hs]
def GZ (l:Am) (code:Int) (w:World) (e:Ending) (w':World):Prop:=
 ∃k,e=.returned (.tuple #[Bd k l,ZI code])∧Cl k∧Ag w' (AO k l)∧AB w' w.heap.size (AO k l)∧Dx (Cf k)∧Below w w w'
theorem FE {w w':World} {a:Int} (c:Below w w w'):
  GZ GT a w (.returned (.tuple (Ew 0 0 0 none 0 0 none 0 0 a))) w':=
 ⟨⟨⟨none,0,0⟩,⟨none,0,0⟩⟩,rfl,⟨AZ _,AZ _⟩,
  Ag.cons (s:=⟨none,0,[]⟩) (Rd.nil _ _) (Ag.cons (s:=⟨none,0,[]⟩) (Rd.nil _ _) (Ag.nil _)),
  AB.cons (s:=⟨none,0,[]⟩) (λh=>absurd h Ah) (AB.cons (s:=⟨none,0,[]⟩) (λh=>absurd h Ah) (AB.nil _ _)),
  Dx.step (B:=0) (λb e=>by simp[blkp] at e) (Hi.cons (λb e=>by simp[blkp] at e) (Hi.nil _)) (Dx.step (B:=0) (λb e=>by simp[blkp] at e) (Hi.nil _) Dx.nil),c⟩

def Ey (s wd hg x y:Int):Int:=if x/s<wd∧y/s<hg then y/s*wd+x/s else-1
theorem J6 {x s:Int} (c:0<=x) (d:x<=10000) (hs:1<=s):0<=x/s∧x/s<=10000∧x.tdiv s=x/s:=by
 have a:=Int.ediv_nonneg c (show 0<=s by omega)
 have b:=Int.ediv_le_self s c;exact⟨a,by omega,Int.tdiv_eq_ediv_of_nonneg c⟩
theorem NJ {s wd hg x y:Int} (a:0<=x) (b:0<=y) (hs:1<=s) (hw:1<=wd) (h:0<=Ey s wd hg x y):Ey s wd hg x y<wd*hg:=by
 unfold Ey at*
 split at h
 ·rename_i hc
  rw[AA hc];have e:(y/s+1)*wd<=hg*wd:=ME Aa Aa;rw[Int.add_mul,Int.one_mul] at e;rw[Int.mul_comm wd hg];omega
 ·omega
theorem Rq (s wd hg x y:Int) (M N:Value) (w:World) (d:1<=s) (V:s<=10000) (Y:1<=wd) (C:wd<=30) (D:0<=x) (E:x<=10000) (F:0<=y) (G:y<=10000) (hc1: ∃A n c,M=.slice A n c) (hc2: ∃A n c,N=.slice A n c):
  (BT 237 #[.agg #[ZI s,ZI wd,ZI hg,M,N],ZI x,ZI y] w (ZI (Ey s wd hg x y)):Prop):=by
 obtain⟨k,H,r,rfl⟩:=hc1;obtain⟨l,I,t,rfl⟩:=hc2;have L:=Br w 181 (AH s wd hg k H r l I t);have O:Below w w (w.alloc (.cells (AH s wd hg k H r l I t) 181)):=BU;obtain⟨ab,ac,ad⟩:=J6 D E d;obtain⟨J,K,ae⟩:=J6 F G d;have X: ¬s=0:=Aa;have a:Hid (Ey s wd hg x y=if x/s<wd∧y/s<hg then y/s*wd+x/s else-1):=rfl;generalize x/s=j at*;generalize y/s=b at*;have wx:=Bg j;have wy:=Bg b
 go_enter func237,ntmps237
 go_upto_region 1 with fail
 generalize w.alloc _=S at L O⊢;have T:=L.cell
 go_quiet (fail)
 revert nq;intro f;have Z:0<=b*wd:=Du J Aa;have p1:b*wd<=10000*30:=CL K C Aa Aa;obtain⟨p,U⟩: ∃p,b*wd=p:=⟨_,rfl⟩;rw[U] at Z p1 a;have wp:=Bg p;have af:=Bg (p+j);have e1: ∀o,(S.drewN f).cell? ⟨w,o,none⟩=((AH s wd hg k H r l I t):Array Value)[o]? :=T;have m:Below w w (S.drewN f):=Ba O _
 by_cases Q:j<wd
 ·have u: ¬wd<=j:=Aa
  by_cases R:b<hg
  ·have z: ¬hg<=b:=Aa;rw[AA ⟨Q,R⟩] at a;go_wp2;go_ret;exact⟨Bb a.out.symm,m⟩
  ·have z:hg<=b:=Aa;rw[Ak (λc=>R c.2)] at a;go_wp2;go_ret;exact⟨Bb a.out.symm,m⟩
 ·have u:wd<=j:=Aa;rw[Ak (λc=>Q c.1)] at a;go_wp2;go_ret;exact⟨Bb a.out.symm,m⟩
theorem Sz (s wd hg x y:Int) (I J:Value) (w:World) (f:1<=s) (S:s<=10000) (U:1<=wd) (r:wd<=30) (t:0<=x) (u:x<=10000) (z:0<=y) (C:y<=10000) (hc1: ∃A n c,I=.slice A n c) (hc2: ∃A n c,J=.slice A n c):
  (BT 220 #[.agg #[ZI s,ZI wd,ZI hg,I,J],ZI x,ZI y] w (ZI (Ey s wd hg x y)):Prop):=by
 obtain⟨F,O,K,rfl⟩:=hc1;obtain⟨G,Q,L,rfl⟩:=hc2;have H:=Br w 181 (AH s wd hg F O K G Q L);have b:Below w w (w.alloc (.cells (AH s wd hg F O K G Q L) 181)):=BU;obtain⟨Z,aa,ab⟩:=J6 t u f;obtain⟨D,E,ac⟩:=J6 z C f;have T: ¬s=0:=Aa;have a:Hid (Ey s wd hg x y=if x/s<wd∧y/s<hg then y/s*wd+x/s else-1):=rfl;generalize x/s=k at*;generalize y/s=d at*;have wx:=Bg k;have wy:=Bg d
 go_enter func220,ntmps220
 go_upto_region 1 with fail
 generalize w.alloc _=w1 at H b⊢;have e0:=H.cell;have X:0<=d*wd:=Du D Aa;have Y:d*wd<=10000*30:=CL E r Aa Aa;obtain⟨p,R⟩: ∃p,d*wd=p:=⟨_,rfl⟩;rw[R] at X Y a;have wp:=Bg p;have ad:=Bg (p+k)
 by_cases M:k<wd
 ·have l: ¬wd<=k:=Aa
  by_cases N:d<hg
  ·have m: ¬hg<=d:=Aa;rw[AA ⟨M,N⟩] at a
   go_quiet (fail)
   revert nq;intro j
   go_wp2_with fail
   go_quiet (fail)
   revert nq;intro V;go_wp2;go_ret;exact⟨Bb a.out.symm,by first|exact Ba b _|exact Ba (Ba b _) _⟩
  ·have m:hg<=d:=Aa;rw[Ak (λc=>N c.2)] at a
   go_quiet (fail)
   revert nq;intro j;go_wp2;go_ret;exact⟨Bb a.out.symm,by first|exact Ba b _|exact Ba (Ba b _) _⟩
 ·have l:wd<=k:=Aa;rw[Ak (λc=>M c.1)] at a
  go_quiet (fail)
  revert nq;intro j;go_wp2;go_ret;exact⟨Bb a.out.symm,by first|exact Ba b _|exact Ba (Ba b _) _⟩
theorem CW (x y d r:Int) (w:World) (l: -2000<=d) (m:d<=1000000) (s:0<=r) (t:r<=5000):
  (BT 232 #[Ziiii x y d r] w (Zii (d-r) (d+r)):Prop):=by
 go_enter func232,ntmps232
 go_upto_region 1 with fail
 generalize b:(w.alloc _).alloc _=u;obtain⟨c,a,f⟩:=Qg b;clear b;have e1:=c.cell;have e2:=a.cell;have k:=a.frozen;have j:=a.lt;go_wp2;refine AS (v:=.agg (Zii (d-r) (d+r))) (by simp[results,results232,go_sem,e2,j]) rfl ⟨rfl,?_⟩
 repeat(first|with_reducible exact f|refine Below.setCell ?_ (by simp<;>omega) _)
theorem CZ (x y d r:Int) (w:World) (l: -2000<=d) (m:d<=1000000) (s:0<=r) (t:r<=5000):
  (BT 214 #[Ziiii x y d r] w (Zii (d-r) (d+r)):Prop):=by
 go_enter func214,ntmps214
 go_upto_region 1 with fail
 generalize b:(w.alloc _).alloc _=u;obtain⟨c,a,f⟩:=Qg b;clear b;have e1:=c.cell;have e2:=a.cell;have k:=a.frozen;have j:=a.lt;go_wp2;refine AS (v:=.agg (Zii (d-r) (d+r))) (by simp[results,results214,go_sem,e2,j]) rfl ⟨rfl,?_⟩
 repeat(first|with_reducible exact f|refine Below.setCell ?_ (by simp<;>omega) _)
def PV (xs:List Int) (i:Nat):Int:=xs.getD (i*4+2) 0-xs.getD (i*4+3) 0
def shlTo (xs:List Int):Nat->Nat
 |0=>0
 |k+1=>if PV xs k<PV xs (shlTo xs k) then k else shlTo xs k
theorem Lf (xs:List Int) {n:Nat} (a:0<n): ∀k,k<=n->shlTo xs k<n
 |0,_=>a
 |k+1,h=>by
  have b:=Lf xs a k Aa;show(if PV xs k<PV xs (shlTo xs k) then k else shlTo xs k)<n
  split<;>omega
theorem Sv {xs:List Int} {n k:Nat} (h:BJ xs n=true) (c:k<n):(-2000<=xs.getD (k*4+2) 0∧xs.getD (k*4+2) 0<=1000000)∧0<=xs.getD (k*4+3) 0∧xs.getD (k*4+3) 0<=5000:=by
 unfold BJ Dg at h;rw[CD] at h;have b:=List.all_eq_true.1 h.1 k (Eo.2 c);have a:DP (xs.getD (k*4) 0) (xs.getD (k*4+1) 0) (xs.getD (k*4+2) 0) (xs.getD (k*4+3) 0)=true:=b;unfold DP at a;simp only[CD] at a;exact⟨Ac a.1.2,Ac a.2⟩
def dH (xs:List Int) (n:Nat):Value:=if n=0 then .tuple (Zii 0 4) else .tuple (Zii (shlTo xs n:Int) 0)
theorem FL (A:Option Addr) (n c:Nat) (xs:List Int) (w:World) (hv:BJ xs n=true) (hr:Rd w A (n*4) (ints xs)):
  (BT 186 #[.slice A n c] w (dH xs n):Prop):=by
 have aj:n<=200:=Ft;have O:=De A n c xs w Aa hr;rw[hv] at O;unfold dH
 by_cases R:n=0
 ·rw[AA R];subst R
  go_enter func186,ntmps186
  go_wp2_with fail
  refine O.mono ?_;rintro e w1 ⟨rfl,Q⟩;go_wp2
  go_ret2;exact⟨rfl,Q⟩
 rw[Ak R];have n0:((n:Int)==0)=false:=W7;have K:0<n:=Aa
 have x:Hid (∀k,k<n-> ∃r,A=some r∧ ∀V,Below w w V->V.cell? (r.add (k*4))=ZS (xs.getD (k*4) 0)∧V.cell? ⟨(r.add (k*4)).block,(r.add (k*4)).off+1,none⟩=ZS (xs.getD (k*4+1) 0)∧V.cell? ⟨(r.add (k*4)).block,(r.add (k*4)).off+2,none⟩=ZS (xs.getD (k*4+2) 0)∧V.cell? ⟨(r.add (k*4)).block,(r.add (k*4)).off+3,none⟩=ZS (xs.getD (k*4+3) 0)):=λk T=>by
  obtain⟨r,hA,-⟩:=hr.fourS T;refine⟨r,hA,λV b=> ?_⟩;obtain⟨aC,H,h⟩:=(hr.below b).fourS T;rw[hA] at H
  cases H
  exact h
 have HV:=Ai hv;have aA: ∀(a b:Int) (W:World),(Instr.field 136 (Zii a b) 0).run prog W=.ok (ZI a) W:=λ_ _ _=>rfl;have HS:=Ai (@Lf xs n K);have ac:Hid (∀k,shlTo xs (k+1)=if PV xs k<PV xs (shlTo xs k) then k else shlTo xs k):=λ_=>rfl;clear hv R
 go_enter func186,ntmps186
 go_wp2_with fail
 refine O.mono ?_;rintro e w1 ⟨rfl,Q⟩;clear O;obtain⟨f,ag,-⟩:=x.out 0 K;subst ag
 go_wp2_with fail
 go_loopw [4,17] (λt i wr=> ∃k:Nat,k<=n∧i=.int .i64 k∧t=.int .i64 (shlTo xs k:Int)∧Below w w wr) (λ_ i _=>n-(intOf i).toNat)
 case atStart=>exact⟨0,AZ _,rfl,rfl,Q⟩
 case round=>
  clear Q;obtain⟨k,T,rfl,rfl,b⟩:=hrel
  by_cases I:k<n
  ·have J:(k:Int)<(n:Int):=Aa;have hq:=HS.out k T;obtain⟨_,ah,E⟩:=x.out k I
   cases ah
   obtain⟨_,ai,F⟩:=x.out (shlTo xs k) hq
   cases ai
   have U:=Sv HV.out I;have X:=Sv HV.out hq;have HE:Hid (shlTo xs (k+1)=if xs.getD (k*4+2) 0-xs.getD (k*4+3) 0<xs.getD (shlTo xs k*4+2) 0-xs.getD (shlTo xs k*4+3) 0 then k else shlTo xs k):=ac.out k;have aD:((shlTo xs k:Nat):Int)<(n:Int):=Aa;generalize shlTo xs k=q at*;generalize xs.getD (k*4) 0=x1 at*;generalize xs.getD (k*4+1) 0=C at*;generalize xs.getD (k*4+2) 0=s at*;generalize xs.getD (k*4+3) 0=u at*;generalize xs.getD (q*4) 0=x2 at*;generalize xs.getD (q*4+1) 0=y2 at*;generalize xs.getD (q*4+2) 0=d2 at*;generalize xs.getD (q*4+3) 0=r2 at*;have aa:=λW=>CW x1 C s u W U.1.1 U.1.2 U.2.1 U.2.2;have ab:=λW=>CW x2 y2 d2 r2 W X.1.1 X.1.2 X.2.1 X.2.2;obtain⟨k0,k1,k2,k3⟩:=E wr b;have aF:=b.size;have l:=Br wr 65 (Ziiii x1 C s u);have Z:Below w w (wr.alloc (.cells (Ziiii x1 C s u) 65)):=Ax
   go_upto_region 9 with fail
   generalize wr.alloc _=m at l Z⊢;generalize wr.heap.size=D at l⊢;clear k0 k1 k2 k3;have HC2':=λ(V:World) (c:Below m m V)=>F V (An Z c);clear E F;have aE: ∀o,m.cell? ⟨D,o,none⟩=((Ziiii x1 C s u):Array Value)[o]? :=l.cell
   go_region_held3 (λN=>(∀o,N.cell? ⟨D,o,none⟩=((Ziiii x1 C s u):Array Value)[o]?)∧N.cell? (f.add (q*4))=ZS x2∧N.cell? ⟨(f.add (q*4)).block,(f.add (q*4)).off+1,none⟩=ZS y2∧N.cell? ⟨(f.add (q*4)).block,(f.add (q*4)).off+2,none⟩=ZS d2∧N.cell? ⟨(f.add (q*4)).block,(f.add (q*4)).off+3,none⟩=ZS r2)
    (exact kj)
    (first
     |((fail_if_success (clear j));go_at_call 232;refine(aa _).mono ?_;rintro e z ⟨rfl,G⟩;have j:Below m m z:=(show Below m m _ from Ax).trans (G.mono C9);have ax:=j.size;have L:=G.size;(try simp at L);have al: ∀o,z.cell? ⟨D,o,none⟩=((Ziiii x1 C s u):Array Value)[o]? :=λo=>(l.below j l.lt).cell o;have an:D<z.heap.size:=(l.below j l.lt).lt)
     |((fail_if_success (clear d));go_at_call 232;refine(ab _).mono ?_;rintro e Y ⟨rfl,y⟩;have d:Below m m Y:=(show Below m m _ from Ax).trans (y.mono C9);have ay:=d.size;have M:=y.size;(try simp at M);have S:Below z z Y:=(show Below z z _ from Ax).trans (y.mono C9);have am: ∀o,Y.cell? ⟨D,o,none⟩=((Ziiii x1 C s u):Array Value)[o]? :=λo=>(l.below d l.lt).cell o;have ao:D<Y.heap.size:=(l.below d l.lt).lt))
   all_goals
    have B7:=An Z d
    by_cases hc:s-u<d2-r2
    ·have HW:Hid (shlTo xs (k+1)=k):=by rw[HE.out,AA hc];trivial
     go_wp2
     go_roundw
     case rel=>exact⟨k+1,by omega,by go_num,by rw[HW.out],B7⟩
     case measure=>simp[intOf];omega
    ·have HW:Hid (shlTo xs (k+1)=q):=by rw[HE.out,Ak hc];trivial
     go_wp2
     go_roundw
     case rel=>exact⟨k+1,by omega,by go_num,by rw[HW.out],B7⟩
     case measure=>simp[intOf];omega
  ·obtain rfl:n=k:=Aa;have J: ¬(n:Int)<(n:Int):=Aa;go_wp2
   go_ret2;exact⟨rfl,b⟩
theorem F8 (A:Option Addr) (n c:Nat) (xs:List Int) (w:World) (hv:BJ xs n=true) (hr:Rd w A (n*4) (ints xs)):
  (BT 170 #[.slice A n c] w (dH xs n):Prop):=by
 have ab:n<=200:=Ft;have J:=Dh A n c xs w Aa hr;rw[hv] at J;unfold dH
 by_cases L:n=0
 ·rw[AA L];subst L
  go_enter func170,ntmps170
  go_wp2_with fail
  refine J.mono ?_;rintro e w1 ⟨rfl,K⟩;go_wp2
  go_ret2;exact⟨rfl,K⟩
 rw[Ak L];have n0:((n:Int)==0)=false:=W7;have x:0<n:=Aa
 have s:Hid (∀k,k<n-> ∃j,A=some j∧ ∀V,Below w w V->V.cell? (j.add (k*4))=ZS (xs.getD (k*4) 0)∧V.cell? ⟨(j.add (k*4)).block,(j.add (k*4)).off+1,none⟩=ZS (xs.getD (k*4+1) 0)∧V.cell? ⟨(j.add (k*4)).block,(j.add (k*4)).off+2,none⟩=ZS (xs.getD (k*4+2) 0)∧V.cell? ⟨(j.add (k*4)).block,(j.add (k*4)).off+3,none⟩=ZS (xs.getD (k*4+3) 0)):=λk N=>by
  obtain⟨j,hA,-⟩:=hr.fourS N;refine⟨j,hA,λV b=> ?_⟩;obtain⟨au,D,h⟩:=(hr.below b).fourS N;rw[hA] at D
  cases D
  exact h
 have HV:=Ai hv;have aq: ∀(a b:Int) (W:World),(Instr.field 136 (Zii a b) 0).run prog W=.ok (ZI a) W:=λ_ _ _=>rfl;have HS:=Ai (@Lf xs n x);have z:Hid (∀k,shlTo xs (k+1)=if PV xs k<PV xs (shlTo xs k) then k else shlTo xs k):=λ_=>rfl;clear hv L
 go_enter func170,ntmps170
 go_wp2_with fail
 refine J.mono ?_;rintro e w1 ⟨rfl,K⟩;clear J;obtain⟨d,Y,-⟩:=s.out 0 x;subst Y
 go_wp2_with fail
 go_loopw [4,5] (λt i wr=> ∃k:Nat,1<=k∧k<=n∧i=.int .i64 k∧t=.int .i64 (shlTo xs k:Int)∧Below w w wr) (λ_ i _=>n-(intOf i).toNat)
 case atStart=>exact⟨1,Cp _,x,rfl,by(have h:=z.out 0;rw[Ak (by show¬PV xs 0<PV xs 0;omega)] at h;rw[h];rfl),K⟩
 case round=>
  clear K;obtain⟨k,av,N,rfl,rfl,b⟩:=hrel
  by_cases E:k<n
  ·have F:(k:Int)<(n:Int):=Aa;have hq:=HS.out k N;obtain⟨_,Z,r⟩:=s.out k E
   cases Z
   obtain⟨_,aa,y⟩:=s.out (shlTo xs k) hq
   cases aa
   have O:=Sv HV.out E;have Q:=Sv HV.out hq;have HE:Hid (shlTo xs (k+1)=if xs.getD (k*4+2) 0-xs.getD (k*4+3) 0<xs.getD (shlTo xs k*4+2) 0-xs.getD (shlTo xs k*4+3) 0 then k else shlTo xs k):=z.out k;have aw:((shlTo xs k:Nat):Int)<(n:Int):=Aa;generalize shlTo xs k=q at*;generalize xs.getD (k*4) 0=x1 at*;generalize xs.getD (k*4+1) 0=y1 at*;generalize xs.getD (k*4+2) 0=U at*;generalize xs.getD (k*4+3) 0=r1 at*;generalize xs.getD (q*4) 0=x2 at*;generalize xs.getD (q*4+1) 0=y2 at*;generalize xs.getD (q*4+2) 0=X at*;generalize xs.getD (q*4+3) 0=r2 at*;have R:=λW=>CZ x1 y1 U r1 W O.1.1 O.1.2 O.2.1 O.2.2;have S:=λW=>CZ x2 y2 X r2 W Q.1.1 Q.1.2 Q.2.1 Q.2.2;obtain⟨k0,k1,k2,k3⟩:=r wr b;clear k0 k1 k2 k3
   go_wp2_with fail
   have HC1':=λ(V:World) (c:Below wr wr V)=>r V (An b c);have HC2':=λ(V:World) (c:Below wr wr V)=>y V (An b c);clear r y
   go_region_held3 (λm=>m.cell? (d.add (k*4))=ZS x1∧m.cell? ⟨(d.add (k*4)).block,(d.add (k*4)).off+1,none⟩=ZS y1∧m.cell? ⟨(d.add (k*4)).block,(d.add (k*4)).off+2,none⟩=ZS U∧m.cell? ⟨(d.add (k*4)).block,(d.add (k*4)).off+3,none⟩=ZS r1∧m.cell? (d.add (q*4))=ZS x2∧m.cell? ⟨(d.add (q*4)).block,(d.add (q*4)).off+1,none⟩=ZS y2∧m.cell? ⟨(d.add (q*4)).block,(d.add (q*4)).off+2,none⟩=ZS X∧m.cell? ⟨(d.add (q*4)).block,(d.add (q*4)).off+3,none⟩=ZS r2)
    (exact aW)
    (first
     |((fail_if_success (clear l));go_at_call 214;refine(R _).mono ?_;rintro e I ⟨rfl,C⟩;have l:Below wr wr I:=(show Below wr wr _ from Ax).trans (C.mono C9);have al:=l.size;have G:=C.size;(try simp at G))
     |((fail_if_success (clear f));go_at_call 214;refine(S _).mono ?_;rintro e u1 ⟨rfl,u⟩;have f:Below wr wr u1:=(show Below wr wr _ from Ax).trans (u.mono C9);have am:=f.size;have H:=u.size;(try simp at H);have M:Below I I u1:=(show Below I I _ from Ax).trans (u.mono C9)))
   all_goals
    have B7:=An b f
    by_cases hc:U-r1<X-r2
    ·have T:Hid (shlTo xs (k+1)=k):=by rw[HE.out,AA hc];trivial
     go_wp2
     go_roundw
     case rel=>exact⟨k+1,by omega,by omega,by go_num,by rw[T.out],B7⟩
     case measure=>simp[intOf];omega
    ·have T:Hid (shlTo xs (k+1)=q):=by rw[HE.out,Ak hc];trivial
     go_wp2
     go_roundw
     case rel=>exact⟨k+1,by omega,by omega,by go_num,by rw[T.out],B7⟩
     case measure=>simp[intOf];omega
  ·obtain rfl:n=k:=Aa;have F: ¬(n:Int)<(n:Int):=Aa;go_wp2
   go_ret2;exact⟨rfl,b⟩
theorem Md (h:Ev) (r:Al) (n:Nat) (w:World) (X:DR w h r) (R:A8 r) (hn:n<=100):
  Calls prog 278 #[GH h r,ZI n] w (Wx r n w):=by
 have HF:=λW=>Ql h r W;have HS:=λ(x:En) (W:World) (X:DR W h r) (S:Jt r x)=>aF h r x W X R S;have au:=Ai R.tr_ok;have HX:=Ai X;clear X R;obtain⟨⟨A0,n0,c0⟩,⟨A1,n1,c1⟩⟩:=h;unfold GH at*;simp only at HF HS⊢;have f:=(Blk.newN (g:=w) w 221 (AV A0 n0 c0 A1 n1 c1 r.src r.c r.s r.h) Cr).alloc (.cells DU 223);have d:=Blk.newN (g:=w+1) (w.alloc (.cells (AV A0 n0 c0 A1 n1 c1 r.src r.c r.s r.h) 221)) 223 DU Cr
 have H:DT (((w.alloc (.cells (AV A0 n0 c0 A1 n1 c1 r.src r.c r.s r.h) 221)).alloc (.cells DU 223)).alloc (.cells DU 223)) (w.heap.size+2) (w.heap.size+3) ⟨none,0,0⟩ ⟨none,0,0⟩ ⟨none,0,0⟩ (ints []) [] (ints []):=
  ⟨Blk.newN _ _ _ Cr,by omega,AR.nil _ _ _,AR.nil _ _ _,AR.nil _ _ _,(λq e=>by cases e),(λq e=>by cases e),(λq e=>by cases e)⟩
 replace f:=f.alloc (.cells DU 223);replace d:=d.alloc (.cells DU 223)
 go_enter func278,ntmps278
 go_upto_region 2 with fail
 generalize hG:((w.alloc _).alloc _).alloc _=w1 at f d H⊢;obtain⟨_,_,_,b0,hS⟩:=gj hG;clear hG;have bF:w1.heap.size=w.heap.size+3:=Aa;clear hS;have e0:=f.cell
 go_wp2_with fail
 refine(HF _).mono ?_;unfold Hy;rintro e w2 ⟨rfl,b2⟩;have B2:=An b0 b2;have bE:=b2.size;replace f:=f.below b2 f.lt;replace d:=d.below b2 d.lt;replace H:=H.below b2;clear HF e0 b0 b2;obtain⟨x0,ah⟩: ∃x,r.first=x:=⟨_,rfl⟩;have ab:r.tr 0=some (x0,[]):=by rw[<-ah];rfl
 rw[ah];clear ah;have m:=Br w2 138 (A7 x0.k x0.dn x0.lo x0.hi);replace f:=f.alloc (.cells (A7 x0.k x0.dn x0.lo x0.hi) 138);replace d:=d.alloc (.cells (A7 x0.k x0.dn x0.lo x0.hi) 138);replace H:=H.al (.cells (A7 x0.k x0.dn x0.lo x0.hi) 138);replace B2:Below w w (w2.alloc (.cells (A7 x0.k x0.dn x0.lo x0.hi) 138)):=Ax;have N:(w2.alloc (.cells (A7 x0.k x0.dn x0.lo x0.hi) 138)).heap.size=w2.heap.size+1:=Cr
 go_upto_region 3 with fail
 generalize w2.alloc _=w3 at m f d H B2 N⊢;have bB:w.heap.size+3<=w2.heap.size:=Aa;generalize w2.heap.size=a at m N bB⊢
 have H:DT w3 (w.heap.size+2) (a+1) ⟨none,0,0⟩ ⟨none,0,0⟩ ⟨none,0,0⟩ (ints []) [] (ints []):=
  ⟨H.box,by omega,AR.nil _ _ _,AR.nil _ _ _,AR.nil _ _ _,H.es,H.ea,H.sa⟩
 clear bE bF;have bC:a≠w.heap.size:=Aa;have bD:a≠w.heap.size+1:=Aa;have O:a≠w.heap.size+2:=Aa;have C:=bC.symm;have D:=bD.symm;have E:=O.symm;have aa:a+1<=w3.heap.size:=Aa;clear N
 go_wp2_with fail
 go_loopw [15] (λi wr=> ∃(k:Nat) (x:En) (l:List AU) (he hs ha:Hd),k<=n∧i=.int .i64 k∧r.tr k=some (x,l)∧DT wr (w.heap.size+2) (a+1) he hs ha (ints (C2 l)) (No l) (ints (BF l))∧Blk wr a 138 (A7 x.k x.dn x.lo x.hi)∧Blk wr w.heap.size 221 (AV A0 n0 c0 A1 n1 c1 r.src r.c r.s r.h)∧Blk wr (w.heap.size+1) 223 DU∧Below w w wr∧a+1<=wr.heap.size) (λi _=>n-(intOf i).toNat)
 case atStart=>exact⟨0,x0,[],⟨none,0,0⟩,⟨none,0,0⟩,⟨none,0,0⟩,AZ _,rfl,ab,H,m,f,d,B2,aa⟩
 case round=>
  clear H m f d B2 ab aa;obtain⟨k,x,l,⟨EA,en,ec⟩,⟨SA,sn,sc⟩,⟨DA,an,ac⟩,hk,rfl,I,T,m,f,d,B,N⟩:=hrel
  by_cases cf:k<n
  ·have aE:(k:Int)<(n:Int):=Aa;obtain⟨S,ce,-,-⟩:=au.out k x l I;have e0:=f.cell;have ex:=m.cell;have ae:=HS x;unfold Hy at ae;have ad:=Ai (Nr I)
   go_wp2_with fail
   refine(ae _ (HX.out.below B) S).mono ?_;clear ae HS;rcases hst:r.step x with _|y
   ·unfold Mh;simp only;rintro e J ⟨rfl,K⟩;have HV:Hid (r.tr n=none):=Lt (ad.out.1 hst) n Aa;have B4:=An B K;have K4:=((d.below K d.lt).alloc (.cells DJ 138)).alloc (.cells Cq 136);clear e0 ex T m f d B K hst I;have aJ:=B4.size;have B5:Below w w ((J.alloc (.cells DJ 138)).alloc (.cells Cq 136)):=Ax
    go_upto_region 6 with fail
    generalize(J.alloc _).alloc _=w5 at K4 B5⊢;have e4:=K4.cell;have f4:=K4.frozen;have g4:=K4.lt;go_wp2;refine AS (v:=.tuple #[DU,ZI 3]) (by simp[results,results278,go_sem,e4,g4]) rfl ?_
    exact V4 HV.out Ax
   ·unfold Mh Hy;simp only;rintro e J ⟨rfl,K⟩;have HV:Hid (r.tr (k+1)=some (y.st,l++ [y])):=ad.out.2 y hst;have B4:=An B K;have aJ:=K.size;replace T:=T.below K;replace m:=m.below K m.lt;replace f:=f.below K f.lt;replace d:=d.below K d.lt;have hE: ∀z,(⟨EA,en,ec⟩:Hd).row=some z->z<J:=λz e=>(T.oE.rowlt z e).2;have hS: ∀z,(⟨SA,sn,sc⟩:Hd).row=some z->z<J:=λz e=>(T.oS.rowlt z e).2;clear e0 ex K B ad hst I S;have K8:=(Blk.newN (g:=J) J 138 (A7 y.st.k y.st.dn y.st.lo y.st.hi) Cr).alloc (.cells (Zii y.lo y.hi) 136);have M:=Blk.newN (g:=J+1) (J.alloc (.cells (A7 y.st.k y.st.dn y.st.lo y.st.hi) 138)) 136 (Zii y.lo y.hi) Cr;replace T:=(T.al (.cells (A7 y.st.k y.st.dn y.st.lo y.st.hi) 138)).al (.cells (Zii y.lo y.hi) 136);replace m:=(m.alloc (.cells (A7 y.st.k y.st.dn y.st.lo y.st.hi) 138)).alloc (.cells (Zii y.lo y.hi) 136);replace f:=(f.alloc (.cells (A7 y.st.k y.st.dn y.st.lo y.st.hi) 138)).alloc (.cells (Zii y.lo y.hi) 136);replace d:=(d.alloc (.cells (A7 y.st.k y.st.dn y.st.lo y.st.hi) 138)).alloc (.cells (Zii y.lo y.hi) 136);replace B4:Below w w ((J.alloc (.cells (A7 y.st.k y.st.dn y.st.lo y.st.hi) 138)).alloc (.cells (Zii y.lo y.hi) 136)):=Ax
    go_upto_region 6 with fail
    generalize(J.alloc _).alloc _=w5 at K8 M T m f d B4⊢;generalize J.heap.size=q8 at K8 M aJ hE hS⊢;have e8:=K8.cell;have ex:=m.cell;have fx:=m.frozen
    go_upto_region 9 with fail
    clear e8 ex fx;have L:=m.set_all4 (x0:=.int .i64 (y.st.k:Int)) (x1:=.bool y.st.dn) (x2:=.int .i64 y.st.lo) (x3:=.int .i64 y.st.hi);have t:=(((T.far (b:=a) (i:=0) Aa E (ZI y.st.k)).far (b:=a) (i:=1) Aa E (.bool y.st.dn)).far (b:=a) (i:=2) Aa E (ZI y.st.lo)).far (b:=a) (i:=3) Aa E (ZI y.st.hi);have Q:=(((f.far (p:=⟨a,0,none⟩) C (ZI y.st.k)).far (p:=⟨a,1,none⟩) C (.bool y.st.dn)).far (p:=⟨a,2,none⟩) C (ZI y.st.lo)).far (p:=⟨a,3,none⟩) C (ZI y.st.hi);have U:=(((d.far (p:=⟨a,0,none⟩) D (ZI y.st.k)).far (p:=⟨a,1,none⟩) D (.bool y.st.dn)).far (p:=⟨a,2,none⟩) D (ZI y.st.lo)).far (p:=⟨a,3,none⟩) D (ZI y.st.hi);have G:=(((M.far (p:=⟨a,0,none⟩) Aw (ZI y.st.k)).far (p:=⟨a,1,none⟩) Aw (.bool y.st.dn)).far (p:=⟨a,2,none⟩) Aw (ZI y.st.lo)).far (p:=⟨a,3,none⟩) Aw (ZI y.st.hi);have B5:Below w w ((((w5.setCell ⟨a,0,none⟩ (ZI y.st.k)).setCell ⟨a,1,none⟩ (.bool y.st.dn)).setCell ⟨a,2,none⟩ (ZI y.st.lo)).setCell ⟨a,3,none⟩ (ZI y.st.hi)):=Ax;clear K8 M T m f d B4;generalize(((w5.setCell ⟨a,0,none⟩ (ZI y.st.k)).setCell ⟨a,1,none⟩ (.bool y.st.dn)).setCell ⟨a,2,none⟩ (ZI y.st.lo)).setCell ⟨a,3,none⟩ (ZI y.st.hi)=w6 at L t Q U G B5⊢;have bw:en+1<=1099511627776:=by have:=t.rd.en;simp only at this;omega
    have bx:sn+1<=1099511627776:=by have:=t.rd.sn;simp only at this;omega
    have bz:an+1<=1099511627776:=by have:=t.rd.an;simp only at this;omega
    have av:Rd (w6.alloc (.cells #[ZI y.ev] 2)) (some ⟨w6,0,none⟩) (1*1) (ints [y.ev]):=BD _ _ _;have T1:=t.al (.cells #[ZI y.ev] 2);have X1:=L.alloc (.cells #[ZI y.ev] 2);have Z1:=Q.alloc (.cells #[ZI y.ev] 2);have O1:=U.alloc (.cells #[ZI y.ev] 2);have V1:=G.alloc (.cells #[ZI y.ev] 2);have bW:=B5.size;have D1:Below w w (w6.alloc (.cells #[ZI y.ev] 2)):=Ax;have aB:a+1<=(w6.alloc (.cells #[ZI y.ev] 2)).heap.size:=X1.lt;have V:=λo=>t.box.cell o;have u:=t.box.lt
    go_upto_region 10 with(at_builtin;refine Aj rfl _ _ 28 rfl 2 1 8 underlying28 AJ Ah (a+1) ⟨EA,en,ec⟩ _ rfl T1.oE _ 1 1 (ints [y.ev]) rfl av (Ao _) bw Ah aB ?_;intro G1 bI aG aK af Y;have F:=T1.box.grown af (λe=>by have:=(T1.oE.rowlt _ e).1;omega);have V:=F.cell;have f8:=F.frozen;have u:=F.lt;have aq:=Ai aG;clear aG)
    obtain⟨t,j⟩:=T1.pushE aK af Y;have L:=j.2.1 _ _ _ X1 (Or.inl Aa) O;have Q:=j.2.1 _ _ _ Z1 (Or.inl Aa) Aa;have U:=j.2.1 _ _ _ O1 (Or.inl Aa) Aa;have G:=j.2.1 _ _ _ V1 (Or.inr (λz e=>by have:=hE z e;omega)) Aa
    have ao:=j.1 _ _ Aa (by have:=Z1.lt;omega) D1
    clear B5;clear av T1 X1 Z1 O1 V1 D1 aB V u aK af Y F f8 j aq;generalize bI.setCell ⟨w.heap.size+2,0,none⟩ (.slice G1.A G1.n G1.c)=w7 at*;have aw:Rd (w7.alloc (.cells (A7 y.st.k y.st.dn y.st.lo y.st.hi) 138)) (some ⟨w7,0,none⟩) (1*4) (Ln y.st):=dV _ _ _;have T2:=t.al (.cells (A7 y.st.k y.st.dn y.st.lo y.st.hi) 138);have X2:=L.alloc (.cells (A7 y.st.k y.st.dn y.st.lo y.st.hi) 138);have Z2:=Q.alloc (.cells (A7 y.st.k y.st.dn y.st.lo y.st.hi) 138);have O2:=U.alloc (.cells (A7 y.st.k y.st.dn y.st.lo y.st.hi) 138);have V2:=G.alloc (.cells (A7 y.st.k y.st.dn y.st.lo y.st.hi) 138);have bX:=ao.size;have D2:Below w w (w7.alloc (.cells (A7 y.st.k y.st.dn y.st.lo y.st.hi) 138)):=Ax;have aC:a+1<=(w7.alloc (.cells (A7 y.st.k y.st.dn y.st.lo y.st.hi) 138)).heap.size:=X2.lt;have V:=λo=>t.box.cell o;have u:=t.box.lt;have cx:=L.cell
    go_upto_region 11 with(at_builtin;refine Aj rfl _ _ 165 rfl 138 4 32 underlying165 Jh Ah (a+1) ⟨SA,sn,sc⟩ _ rfl T2.oS _ 1 1 (Ln y.st) rfl aw (Oo _) bx Ah aC ?_;intro G2 bJ aH aL ag Z;have F:=T2.box.grown ag (λe=>by have:=(T2.oS.rowlt _ e).1;omega);have V:=F.cell;have f8:=F.frozen;have u:=F.lt;have ar:=Ai aH;clear aH)
    obtain⟨t,j⟩:=T2.pushS aL ag Z;have L:=j.2.1 _ _ _ X2 (Or.inl Aa) O;have Q:=j.2.1 _ _ _ Z2 (Or.inl Aa) Aa;have U:=j.2.1 _ _ _ O2 (Or.inl Aa) Aa;have G:=j.2.1 _ _ _ V2 (Or.inr (λz e=>by have:=hS z e;omega)) Aa
    have ap:=j.1 _ _ Aa (by have:=Z2.lt;omega) D2
    clear ao;clear aw T2 X2 Z2 O2 V2 D2 aC V u cx aL ag Z F f8 j ar;generalize bJ.setCell ⟨w.heap.size+2,1,none⟩ (.slice G2.A G2.n G2.c)=w8 at*;have bn:Rd (w8.alloc (.cells (Zii y.lo y.hi) 136)) (some ⟨w8,0,none⟩) (1*2) (ints [y.lo,y.hi]):=da _ _ _ _;have T3:=t.al (.cells (Zii y.lo y.hi) 136);have X3:=L.alloc (.cells (Zii y.lo y.hi) 136);have Z3:=Q.alloc (.cells (Zii y.lo y.hi) 136);have O3:=U.alloc (.cells (Zii y.lo y.hi) 136);have bY:=ap.size;have D3:Below w w (w8.alloc (.cells (Zii y.lo y.hi) 136)):=Ax;have bA:a+1<=(w8.alloc (.cells (Zii y.lo y.hi) 136)).heap.size:=X3.lt;have V:=λo=>t.box.cell o;have u:=t.box.lt;have cv:=G.cell
    go_wp2_with (at_builtin;refine Aj rfl _ _ 179 rfl 136 2 16 underlying179 Pr Ah (a+1) ⟨DA,an,ac⟩ _ rfl T3.oA _ 1 1 (ints [y.lo,y.hi]) rfl bn (Ao _) bz Ah bA ?_;intro G3 ch aI bG aA aD;have F:=T3.box.grown aA (λe=>by have:=(T3.oA.rowlt _ e).1;omega);have V:=F.cell;have f8:=F.frozen;have u:=F.lt;have bM:=Ai aI;clear aI)
    obtain⟨t,j⟩:=T3.pushA bG aA aD;have L:=j.2.1 _ _ _ X3 (Or.inl Aa) O;have Q:=j.2.1 _ _ _ Z3 (Or.inl Aa) Aa;have U:=j.2.1 _ _ _ O3 (Or.inl Aa) Aa;have bi:=j.1 _ _ Aa (by have:=Z3.lt;omega) D3
    clear ap
    go_roundw
    case rel=>exact⟨k+1,y.st,l++ [y],G1,G2,G3,by omega,by go_num,HV.out,by rw[Td,UF,YP];exact t,L,Q,U,bi,L.lt⟩
    case measure=>simp[intOf];omega
  ·obtain rfl:n=k:=Aa;have aE: ¬(n:Int)<(n:Int):=Aa;have HT:=Ai I;have V:=λo=>T.box.cell o;have e1:=d.cell;have f1:=d.frozen;have g1:=d.lt;clear I HS au m f;go_wp2;refine AS (v:=.tuple #[Dj EA en ec SA sn sc DA an ac,ZI 0]) (by simp[results,results278,go_sem,e1,g1]) rfl ?_
   exact V5 (he:=⟨EA,en,ec⟩) (hs:=⟨SA,sn,sc⟩) (ha:=⟨DA,an,ac⟩) HT.out ((((T.far (b:=w.heap.size+1) (i:=0) Aa Aa _).far (b:=w.heap.size+1) (i:=1) Aa Aa _).far (b:=w.heap.size+1) (i:=2) Aa Aa _).rd.low Aa) Ax
def Jc (s:Int) (a b:Nat):Am:=⟨s,a,b,List.replicate (a*b) 0,List.replicate (a*b*2) 0⟩
theorem Ps:(prog.info? 136).map (λi=>(i.zero.map (·.cells),i.size,i.bytes))=some (some #[.int .i64 0,.int .i64 0],2,16):=We51ceQ
theorem Lc (n:Nat) (d:n<=1048576) (W:World):
  (Instr.makeSlice 179 (ZI n) (ZI n)).run prog W=.ok (.slice (some ⟨W,0,none⟩) n n) (W.alloc (.cells (madeCells Cq (n*2)) 136)):=by
 have h:=Ps
 cases hi:prog.info? 136 with
 |none=>rw[hi] at h;simp at h
 |some i=>
  rw[hi] at h;simp only[Option.map_some,Gs,Prod.mk.injEq] at h;obtain⟨a,hs,c⟩:=h
  cases hz0:i.zero with
  |none=>rw[hz0] at a;simp at a
  |some z=>
   have b:=GE (P:=prog) 179 136 i z underlying179 hi hz0 .i64 .i64 n n Bk (by rw[c];omega) Aa W
   rw[hz0] at a;simp only[Option.map_some,Gs] at a;rw[hs,a] at b;exact b
theorem AR.made2 {W:World} {B n:Nat} (j:B<=W.heap.size) (l:n<=1048576) (e:TypeId):AR (W.alloc (.cells (madeCells Cq (n*2)) e)) B 2 ⟨some ⟨W,0,none⟩,n,n⟩ (ints (List.replicate (n*2) 0)):=by
 have c:=Br W e (madeCells Cq (n*2));refine⟨by unfold ints;simp,Cp _,by unfold maxLen;simp only;omega,(λh=>by cases h),λk b _=> ?_⟩
 injection b with b;subst b;refine⟨j,c.lt,rfl,λi hi=>⟨?_,by rw[CE];exact c.frozen i⟩⟩
 have a:i<n*2:=hi;have d:i<(madeCells #[Value.int .i64 0,Value.int .i64 0] (n*2)).size:=by rw[FV];exact a
 refine⟨(madeCells #[Value.int .i64 0,Value.int .i64 0] (n*2))[i],by rw[CE,c.cell];exact Array.getElem?_eq_getElem d,λu f=> ?_⟩
 rw[CF] at f
 simp[a] at f
 subst f;simp only[madeCells,Array.getElem_map,Array.getElem_range];rcases Nat.mod_two_eq_zero_or_one i with e0|e0
 ·simp[e0]
 ·simp[e0]
theorem QZ {a b:Nat} (ha:a<=30) (c:b<=30):a*b<=900:=Ch (Nat.mul_le_mul ha c) Ah
theorem Vw (s:Int) (a b:Nat) (w:World) (ha:a<=30) (hb:b<=30):
  Calls prog 219 (Ziii s a b) w λe X=> ∃k:Bh,e=.returned (Bd k (Jc s a b))∧k.counts.n=a*b∧k.depths.n=a*b∧Bu X w.heap.size k (Jc s a b)∧Below w w X:=by
 have K:=QZ ha hb;obtain⟨n,H⟩: ∃n,a*b=n:=⟨_,rfl⟩;have hm:(a:Int)*(b:Int)=(n:Int):=by rw[<-Int.natCast_mul,H]
 rw[H] at K;have m:=Ai H;clear H;have F:=λW:World=>ER n Aa W;have E:=λW:World=>Lc n Aa W;have wn:=Bg (n:Int)
 go_enter func219,ntmps219
 go_upto_region 1 with fail
 generalize V:w.alloc _=c;obtain⟨r,G⟩:=EX V;clear V;have S:=r.cell;have T:=r.frozen;have U:=r.lt
 go_region
 ·have l:Blk (((((c.setCell ⟨w,0,none⟩ (ZI s)).setCell ⟨w,1,none⟩ (ZI a)).setCell ⟨w,2,none⟩ (ZI b)).setCell ⟨w,3,none⟩ (.slice (some ⟨c,0,none⟩) n n)).setCell ⟨w,4,none⟩ (.slice (some ⟨c+1,0,none⟩) n n)) w.heap.size 181 (AH s a b (some ⟨c,0,none⟩) n n (some ⟨c+1,0,none⟩) n n):=((((r.set_ 0 _).set_ 1 _).set_ 2 _).set_ 3 _).set_ 4 _;have u:Below w w (((((c.setCell ⟨w,0,none⟩ (ZI s)).setCell ⟨w,1,none⟩ (ZI a)).setCell ⟨w,2,none⟩ (ZI b)).setCell ⟨w,3,none⟩ (.slice (some ⟨c,0,none⟩) n n)).setCell ⟨w,4,none⟩ (.slice (some ⟨c+1,0,none⟩) n n)):=((((G.setCell (p:=⟨w,0,none⟩) Bk _).setCell (p:=⟨w,1,none⟩) Bk _).setCell (p:=⟨w,2,none⟩) Bk _).setCell (p:=⟨w,3,none⟩) Bk _).setCell (p:=⟨w,4,none⟩) Bk _;have z:(((((c.setCell ⟨w,0,none⟩ (ZI s)).setCell ⟨w,1,none⟩ (ZI a)).setCell ⟨w,2,none⟩ (ZI b)).setCell ⟨w,3,none⟩ (.slice (some ⟨c,0,none⟩) n n)).setCell ⟨w,4,none⟩ (.slice (some ⟨c+1,0,none⟩) n n)).heap.size=c.heap.size:=Cr;clear r G S T F E;generalize((((c.setCell ⟨w,0,none⟩ (ZI s)).setCell ⟨w,1,none⟩ (ZI a)).setCell ⟨w,2,none⟩ (ZI b)).setCell ⟨w,3,none⟩ (.slice (some ⟨c,0,none⟩) n n)).setCell ⟨w,4,none⟩ (.slice (some ⟨c+1,0,none⟩) n n)=d at l u z⊢;rw[<-z] at l U⊢;have A:=(AR.made (W:=d) (B:=w.heap.size) (n:=n) Aa Aa 2).below ((AP _ _).alloc Bk (.cells (madeCells Cq (n*2)) 136));have C:=AR.made2 (W:=d.alloc (.cells (madeCells #[ZI 0] n) 2)) (B:=w.heap.size) (n:=n) Bq Aa 136;rw[show(d.alloc (.cells (madeCells #[ZI 0] n) 2)).heap.size=d.heap.size+1 by simp] at C
  have t:=Blk.drew ((l.alloc (.cells (madeCells #[ZI 0] n) 2)).alloc (.cells (madeCells Cq (n*2)) 136));have D:Below w w ((d.alloc (.cells (madeCells #[ZI 0] n) 2)).alloc (.cells (madeCells Cq (n*2)) 136)).drew:=CO ((u.alloc Aa _).alloc Bq _);have f:=A.below GJ;have j:=C.below GJ;generalize((d.alloc _).alloc _).drew=w6 at t D f j⊢;clear A C l u z;have I:=t.cell;have J:=t.lt;go_wp2;refine AS (v:=.agg (AH s a b (some ⟨d,0,none⟩) n n (some ⟨d+1,0,none⟩) n n)) (by simp[results,results219,go_sem,I,J]) rfl ⟨⟨⟨some ⟨d,0,none⟩,n,n⟩,⟨some ⟨d+1,0,none⟩,n,n⟩⟩,rfl,m.out.symm,m.out.symm,⟨by unfold Jc;rw[m.out];exact f,by unfold Jc;rw[m.out];exact j,?_⟩,D⟩
  refine Dx.cons (λx L y M bb e e2=> ?_) (Dx.one _);rw[DD.1 L] at e;rw[DD.1 M] at e2;obtain⟨_,Y,N,O⟩:=Hd.row_some e;obtain⟨_,Z,Q,R⟩:=Hd.row_some e2
  cases N
  cases Q
  simp only at O R;omega
 ·have l:Blk (((((c.setCell ⟨w,0,none⟩ (ZI s)).setCell ⟨w,1,none⟩ (ZI a)).setCell ⟨w,2,none⟩ (ZI b)).setCell ⟨w,3,none⟩ (.slice (some ⟨c+1,0,none⟩) n n)).setCell ⟨w,4,none⟩ (.slice (some ⟨c,0,none⟩) n n)) w.heap.size 181 (AH s a b (some ⟨c+1,0,none⟩) n n (some ⟨c,0,none⟩) n n):=((((r.set_ 0 _).set_ 1 _).set_ 2 _).set_ 3 _).set_ 4 _;have u:Below w w (((((c.setCell ⟨w,0,none⟩ (ZI s)).setCell ⟨w,1,none⟩ (ZI a)).setCell ⟨w,2,none⟩ (ZI b)).setCell ⟨w,3,none⟩ (.slice (some ⟨c+1,0,none⟩) n n)).setCell ⟨w,4,none⟩ (.slice (some ⟨c,0,none⟩) n n)):=((((G.setCell (p:=⟨w,0,none⟩) Bk _).setCell (p:=⟨w,1,none⟩) Bk _).setCell (p:=⟨w,2,none⟩) Bk _).setCell (p:=⟨w,3,none⟩) Bk _).setCell (p:=⟨w,4,none⟩) Bk _;have z:(((((c.setCell ⟨w,0,none⟩ (ZI s)).setCell ⟨w,1,none⟩ (ZI a)).setCell ⟨w,2,none⟩ (ZI b)).setCell ⟨w,3,none⟩ (.slice (some ⟨c+1,0,none⟩) n n)).setCell ⟨w,4,none⟩ (.slice (some ⟨c,0,none⟩) n n)).heap.size=c.heap.size:=Cr;clear r G S T F E;generalize((((c.setCell ⟨w,0,none⟩ (ZI s)).setCell ⟨w,1,none⟩ (ZI a)).setCell ⟨w,2,none⟩ (ZI b)).setCell ⟨w,3,none⟩ (.slice (some ⟨c+1,0,none⟩) n n)).setCell ⟨w,4,none⟩ (.slice (some ⟨c,0,none⟩) n n)=d at l u z⊢;rw[<-z] at l U⊢;have C:=(AR.made2 (W:=d) (B:=w.heap.size) (n:=n) Aa Aa 136).below ((AP _ _).alloc Bk (.cells (madeCells #[ZI 0] n) 2));have A:=AR.made (W:=d.alloc (.cells (madeCells Cq (n*2)) 136)) (B:=w.heap.size) (n:=n) Bq Aa 2;rw[show(d.alloc (.cells (madeCells Cq (n*2)) 136)).heap.size=d.heap.size+1 by simp] at A
  have t:=Blk.drew ((l.alloc (.cells (madeCells Cq (n*2)) 136)).alloc (.cells (madeCells #[ZI 0] n) 2));have D:Below w w ((d.alloc (.cells (madeCells Cq (n*2)) 136)).alloc (.cells (madeCells #[ZI 0] n) 2)).drew:=CO ((u.alloc Aa _).alloc Bq _);have f:=A.below GJ;have j:=C.below GJ;generalize((d.alloc _).alloc _).drew=w6 at t D f j⊢;clear A C l u z;have I:=t.cell;have J:=t.lt;go_wp2;refine AS (v:=.agg (AH s a b (some ⟨d+1,0,none⟩) n n (some ⟨d,0,none⟩) n n)) (by simp[results,results219,go_sem,I,J]) rfl ⟨⟨⟨some ⟨d+1,0,none⟩,n,n⟩,⟨some ⟨d,0,none⟩,n,n⟩⟩,rfl,m.out.symm,m.out.symm,⟨by unfold Jc;rw[m.out];exact f,by unfold Jc;rw[m.out];exact j,?_⟩,D⟩
  refine Dx.cons (λx L y M bb e e2=> ?_) (Dx.one _);rw[DD.1 L] at e;rw[DD.1 M] at e2;obtain⟨_,Y,N,O⟩:=Hd.row_some e;obtain⟨_,Z,Q,R⟩:=Hd.row_some e2
  cases N
  cases Q
  simp only at O R;omega
def MK (g:Am) (x y d r:Int):Am:=if 0<=Ey g.size g.wide g.high x y then Jv g (Ey g.size g.wide g.high x y).toNat (d-r) (d+r) 1 else g
def gsTo (s:Int) (a b:Nat) (ys:List Int):Nat->Am
 |0=>Jc s a b
 |k+1=>MK (gsTo s a b ys k) (ys.getD (k*4) 0) (ys.getD (k*4+1) 0) (ys.getD (k*4+2) 0) (ys.getD (k*4+3) 0)
structure GsI (s:Int) (a b k:Nat) (g:Am):Prop where
 size:g.size=s
 wide:g.wide=(a:Int)
 high:g.high=(b:Int)
 cl:g.counts.length=a*b
 dl:g.depths.length=a*b*2
 bd: ∀i,0<=g.counts.getD i 0∧g.counts.getD i 0<=k
theorem LK (l:List Int) (i k:Nat) (v:Int):(l.set i v).getD k 0=if i=k∧k<l.length then v else l.getD k 0:=by
 rw[DE,DE,List.getElem?_set]
 by_cases h:i=k
 ·subst h
  by_cases a:i<l.length
  ·simp[a]
  ·simp[a]
 ·simp[h]
theorem Zs {s:Int} {a b k:Nat} {g:Am} (G:GsI s a b k g) (x y d r:Int):GsI s a b (k+1) (MK g x y d r):=by
 unfold MK
 split
 ·refine⟨G.size,G.wide,G.high,by unfold Jv;simp only[List.length_set];exact G.cl,by unfold Jv;simp only[YQ];exact G.dl,λi=> ?_⟩
  show 0<=(g.counts.set _ _).getD i 0∧(g.counts.set _ _).getD i 0<=_;rw[LK];have c:=G.bd i;have f:=G.bd (Ey g.size g.wide g.high x y).toNat
  split<;>omega
 ·exact⟨G.size,G.wide,G.high,G.cl,G.dl,λi=>by have:=G.bd i;omega⟩
theorem Ip (s:Int) (a b:Nat) (ys:List Int): ∀k,GsI s a b k (gsTo s a b ys k)
 |0=>⟨rfl,rfl,rfl,by simp[gsTo,Jc],by simp[gsTo,Jc],λi=>by
  have:(gsTo s a b ys 0).counts.getD i 0=0:=by
   show(List.replicate (a*b) (0:Int)).getD i 0=0;rw[DE,List.getElem?_replicate]
   split<;>rfl
  omega⟩
 |k+1=>Zs (Ip s a b ys k) _ _ _ _
def Qn (s w h:Int) (ys:List Int) (n:Nat):Int:=if BJ ys n=true then(if DK s w h=true then 0 else 2) else 1
def UQ (s w h:Int) (ys:List Int) (n:Nat):Am:=if Qn s w h ys n=0 then gsTo s w.toNat h.toNat ys n else GT
theorem Xq {l:Am} {i:Nat} {a b:Int} (d:0<=l.counts.getD i 0):(⟨l.size,l.wide,l.high,(Pu (decide (0<l.counts.getD i 0)) l i a b).counts.set i (l.counts.getD i 0+1),(Pu (decide (0<l.counts.getD i 0)) l i a b).depths⟩:Am)=Jv l i a b 1:=by
 unfold Pu Jv MF
 by_cases h:l.counts.getD i 0=0
 ·have c:decide (0<l.counts.getD i 0)=false:=BR Aa;rw[c];simp only[AA h]
  rfl
 ·have c:decide (0<l.counts.getD i 0)=true:=BC Aa;rw[c];simp only[Ak h]
  rfl
