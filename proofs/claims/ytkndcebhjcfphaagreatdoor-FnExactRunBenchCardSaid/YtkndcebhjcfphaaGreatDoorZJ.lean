import Derived.Test.YtkndcebhjcfphaaGreatDoorZF
import Derived.Test.YtkndcebhjcfphaaGreatDoorZG
import Derived.Test.YtkndcebhjcfphaaGreatDoorZH
namespace Go.Proofs.YtkndcebhjcfphaaGreatDoor
open Go.RowKit Go.Proofs.Tryz
set_option maxRecDepth 100000
set_option maxHeartbeats 4000000
set_option linter.all false
structure Ev where
 D:Hd
 S:Hd
def GH (h:Ev) (r:Al):Value:=.agg (AV h.D.A h.D.n h.D.c h.S.A h.S.n h.S.c r.src r.c r.s r.h)
structure DR (w:World) (h:Ev) (r:Al):Prop where
 d:Rd w h.D.A h.D.n (ints r.ds)
 s:Rd w h.S.A h.S.n (ints r.ss)
def Pq (h:Ev) (r:Al) (a b:Nat):Value:=.agg (AF h.D.A h.D.n h.D.c h.S.A h.S.n h.S.c r.src r.c r.s r.h a b)
def Hy (x:En):Value:=.agg (A7 x.k x.dn x.lo x.hi)
def Al.vd (r:Al) (a b:Nat):Int:=if r.can a=false then 0 else if r.can b=true then 1 else 2
theorem Blk.set_all2 {w:World} {g:Nat} {t:TypeId} {a b x0 x1:Value} (h:Blk w g t #[a,b]):Blk ((w.setCell ⟨g,0,none⟩ x0).setCell ⟨g,1,none⟩ x1) g t #[x0,x1]:=(h.set_ 0 x0).set_ 1 x1
theorem DR.below {w w':World} {h:Ev} {r:Al} (X:DR w h r) (b:Below w w w'):DR w' h r:=⟨X.d.below b,X.s.below b⟩
theorem DR.nd {w:World} {h:Ev} {r:Al} (X:DR w h r):h.D.n=r.ds.length:=X.d.len.symm
theorem DR.ns {w:World} {h:Ev} {r:Al} (X:DR w h r):h.S.n=r.ss.length:=X.s.len.symm
theorem QK (h:Ev) (r:Al) (w:World) (X:DR w h r) (R:A8 r):
  (BT 371 #[GH h r] w (ZI (r.wh)):Prop):=by
 have hz:r.src<h.S.n:=by have:=X.ns;have:=R.len;have:=R.src;omega
 have hbd:=R.wh_bd;have HV:Hid (r.wh=r.h*r.ss.getD r.src 0):=rfl;have HX:=Ai X;clear X R;obtain⟨⟨A0,n0,c0⟩,⟨A1,n1,c1⟩⟩:=h;simp only at hz;have K:=Br w 221 (AV A0 n0 c0 A1 n1 c1 r.src r.c r.s r.h);have b0:Below w w (w.alloc (.cells (AV A0 n0 c0 A1 n1 c1 r.src r.c r.s r.h) 221)):=Ax;obtain⟨ad,hA,hc⟩:=(HX.out.below b0).s.int hz;simp only at hA;subst hA;clear HX;unfold GH;simp only;generalize r.wh=v at*;generalize r.ss.getD r.src 0=x at*;have w1:=Bg (r.h*x) (by have:=HV.out;omega)
 have hzI:((r.src:Nat):Int)<(n1:Int):=Aa;generalize r.src=q at*
 go_enter func371,ntmps371
 go_upto_region 1 with fail
 generalize w.alloc _=w1 at K b0 hc⊢;have e0:=K.cell
 go_quiet (fail)
 revert nq;intro nq;have b1:Below w w (w1.drewN nq):=Ba b0 _;go_wp2;go_ret;exact⟨Bb HV.out.symm,b1⟩
theorem Iw (h:Ev) (r:Al) (k:Nat) (hk:k<r.ds.length) (w:World) (X:DR w h r) (R:A8 r):
  (BT 368 #[GH h r,ZI k] w (ZI (r.pt k)):Prop):=by
 have hz:k<h.S.n:=by have:=X.ns;have:=R.len;omega
 have hbd:=R.pt_bd hk;have HV:Hid (r.pt k=r.c*r.ss.getD k 0):=rfl;have HX:=Ai X;clear X R hk;obtain⟨⟨A0,n0,c0⟩,⟨A1,n1,c1⟩⟩:=h;simp only at hz;have K:=Br w 221 (AV A0 n0 c0 A1 n1 c1 r.src r.c r.s r.h);have b0:Below w w (w.alloc (.cells (AV A0 n0 c0 A1 n1 c1 r.src r.c r.s r.h) 221)):=Ax;obtain⟨ad,hA,hc⟩:=(HX.out.below b0).s.int hz;simp only at hA;subst hA;clear HX;unfold GH;simp only;generalize r.pt k=v at*;generalize r.ss.getD k 0=x at*;have w1:=Bg (r.c*x) (by have:=HV.out;omega)
 have hzI:((k:Nat):Int)<(n1:Int):=Aa;generalize k=q at*
 go_enter func368,ntmps368
 go_upto_region 1 with fail
 generalize w.alloc _=w1 at K b0 hc⊢;have e0:=K.cell
 go_quiet (fail)
 revert nq;intro nq;have b1:Below w w (w1.drewN nq):=Ba b0 _;go_wp2;go_ret;exact⟨Bb HV.out.symm,b1⟩
theorem bK (h:Ev) (r:Al) (k:Nat) (hk:k<r.ds.length) (w:World) (X:DR w h r) (R:A8 r):
  (BT 354 #[GH h r,ZI k] w (.bool (r.can k)):Prop):=by
 have HV:Hid (r.can k=decide (r.pt k<r.wh)):=rfl;have HX:=Ai X;have HR:=Ai R;clear X R;obtain⟨⟨A0,n0,c0⟩,⟨A1,n1,c1⟩⟩:=h;unfold GH;simp only
 go_enter func354,ntmps354
 go_upto_region 1 with fail
 generalize hG:(w.alloc _)=w1;obtain⟨K0,b0⟩:=EX hG;clear hG;have X1:=HX.out.below b0;have HP:=fun(W:World) (b:Below w1 w1 W)=>Iw ⟨⟨A0,n0,c0⟩,⟨A1,n1,c1⟩⟩ r k hk W (X1.below b) HR.out;have HW:=fun(W:World) (b:Below w1 w1 W)=>QK ⟨⟨A0,n0,c0⟩,⟨A1,n1,c1⟩⟩ r W (X1.below b) HR.out;unfold GH at HP HW;simp only at HP HW;generalize r.pt k=p at*;generalize r.wh=q at*;clear X1 HX HR;have hs0: ∀o,w1.cell? ⟨w,o,none⟩=((AV A0 n0 c0 A1 n1 c1 r.src r.c r.s r.h):Array Value)[o]? :=K0.cell
 go_region_held3 (fun w'=>(∀o,w'.cell? ⟨w,o,none⟩=((AV A0 n0 c0 A1 n1 c1 r.src r.c r.s r.h):Array Value)[o]?))
  (exact QU)
  (first
   |((fail_if_success (clear hbu0));go_at_call 368;refine(HP _ Ax).mono ?_;rintro e u0 ⟨rfl,bu0⟩;have hbu0:Below w1 w1 u0:=(show Below w1 w1 _ from Ax).trans (bu0.mono C9);have hzu0:=hbu0.size;have hxu0:=bu0.size;(try simp at hxu0);have hs0u0: ∀o,u0.cell? ⟨w,o,none⟩=((AV A0 n0 c0 A1 n1 c1 r.src r.c r.s r.h):Array Value)[o]? :=fun o=>(K0.below hbu0 K0.lt).cell o;have hy0u0:w<u0.heap.size:=(K0.below hbu0 K0.lt).lt)
   |((fail_if_success (clear hbu1));go_at_call 371;refine(HW _ Ax).mono ?_;rintro e u1 ⟨rfl,bu1⟩;have hbu1:Below w1 w1 u1:=(show Below w1 w1 _ from Ax).trans (bu1.mono C9);have hzu1:=hbu1.size;have hxu1:=bu1.size;(try simp at hxu1);have hbu0u1:Below u0 u0 u1:=(show Below u0 u0 _ from Ax).trans (bu1.mono C9);have hs0u1: ∀o,u1.cell? ⟨w,o,none⟩=((AV A0 n0 c0 A1 n1 c1 r.src r.c r.s r.h):Array Value)[o]? :=fun o=>(K0.below hbu1 K0.lt).cell o;have hy0u1:w<u1.heap.size:=(K0.below hbu1 K0.lt).lt))
 all_goals
  have hb:=An b0 hbu1;go_wp2;go_ret;exact⟨Af HV.out.symm,hb⟩
theorem OO (h:Ev) (r:Al) (k:Nat) (hk:k<r.ds.length) (w:World) (X:DR w h r) (R:A8 r) (hc:r.can k=true):
  (BT 369 #[GH h r,ZI k] w (Zii (rD (r.sq k)) (rU (r.sq k))):Prop):=by
 have HV:Hid (r.sq k=r.wh*r.wh-r.pt k*r.pt k):=rfl;have q1:=R.whwh;have q2:=R.ptpt hk;have q3:=R.sq_bd hk;have q4:=R.sq1 hk hc;have HX:=Ai X;have HR:=Ai R;clear X R hc;obtain⟨⟨A0,n0,c0⟩,⟨A1,n1,c1⟩⟩:=h;unfold GH;simp only
 go_enter func369,ntmps369
 go_upto_region 1 with fail
 generalize hG:((w.alloc _).alloc _)=w1;obtain⟨K0,K1,b0⟩:=Qg hG;clear hG;have X1:=HX.out.below b0;have HP:=fun(W:World) (b:Below w1 w1 W)=>Iw ⟨⟨A0,n0,c0⟩,⟨A1,n1,c1⟩⟩ r k hk W (X1.below b) HR.out;have HW:=fun(W:World) (b:Below w1 w1 W)=>QK ⟨⟨A0,n0,c0⟩,⟨A1,n1,c1⟩⟩ r W (X1.below b) HR.out;unfold GH at HP HW;simp only at HP HW;have hsq:r.wh*r.wh-r.pt k*r.pt k=r.sq k:=HV.out.symm;generalize r.pt k=p at*;generalize r.wh=q at*;have wa:=Bg (q*q);have wb:=Bg (p*p);have wc:IntKind.i64.wrap (q*q-p*p)=r.sq k:=by rw[hsq];exact Ff _ Aa
 clear X1 HX HR HV hsq;have hs0: ∀o,w1.cell? ⟨w,o,none⟩=((AV A0 n0 c0 A1 n1 c1 r.src r.c r.s r.h):Array Value)[o]? :=K0.cell
 go_region_held3 (fun w'=>(∀o,w'.cell? ⟨w,o,none⟩=((AV A0 n0 c0 A1 n1 c1 r.src r.c r.s r.h):Array Value)[o]?))
  (exact QU)
  (first
   |((fail_if_success (clear hbu0));go_at_call 371;refine(HW _ Ax).mono ?_;rintro e u0 ⟨rfl,bu0⟩;have hbu0:Below w1 w1 u0:=(show Below w1 w1 _ from Ax).trans (bu0.mono C9);have hzu0:=hbu0.size;have hxu0:=bu0.size;(try simp at hxu0);have hs0u0: ∀o,u0.cell? ⟨w,o,none⟩=((AV A0 n0 c0 A1 n1 c1 r.src r.c r.s r.h):Array Value)[o]? :=fun o=>(K0.below hbu0 K0.lt).cell o;have hy0u0:w<u0.heap.size:=(K0.below hbu0 K0.lt).lt)
   |((fail_if_success (clear hbu1));go_at_call 371;refine(HW _ Ax).mono ?_;rintro e u1 ⟨rfl,bu1⟩;have hbu1:Below w1 w1 u1:=(show Below w1 w1 _ from Ax).trans (bu1.mono C9);have hzu1:=hbu1.size;have hxu1:=bu1.size;(try simp at hxu1);have hbu0u1:Below u0 u0 u1:=(show Below u0 u0 _ from Ax).trans (bu1.mono C9);have hs0u1: ∀o,u1.cell? ⟨w,o,none⟩=((AV A0 n0 c0 A1 n1 c1 r.src r.c r.s r.h):Array Value)[o]? :=fun o=>(K0.below hbu1 K0.lt).cell o;have hy0u1:w<u1.heap.size:=(K0.below hbu1 K0.lt).lt)
   |((fail_if_success (clear hbu2));go_at_call 368;refine(HP _ Ax).mono ?_;rintro e u2 ⟨rfl,bu2⟩;have hbu2:Below w1 w1 u2:=(show Below w1 w1 _ from Ax).trans (bu2.mono C9);have hzu2:=hbu2.size;have hxu2:=bu2.size;(try simp at hxu2);have hbu0u2:Below u0 u0 u2:=(show Below u0 u0 _ from Ax).trans (bu2.mono C9);have hbu1u2:Below u1 u1 u2:=(show Below u1 u1 _ from Ax).trans (bu2.mono C9);have hs0u2: ∀o,u2.cell? ⟨w,o,none⟩=((AV A0 n0 c0 A1 n1 c1 r.src r.c r.s r.h):Array Value)[o]? :=fun o=>(K0.below hbu2 K0.lt).cell o;have hy0u2:w<u2.heap.size:=(K0.below hbu2 K0.lt).lt)
   |((fail_if_success (clear hbu3));go_at_call 368;refine(HP _ Ax).mono ?_;rintro e u3 ⟨rfl,bu3⟩;have hbu3:Below w1 w1 u3:=(show Below w1 w1 _ from Ax).trans (bu3.mono C9);have hzu3:=hbu3.size;have hxu3:=bu3.size;(try simp at hxu3);have hbu0u3:Below u0 u0 u3:=(show Below u0 u0 _ from Ax).trans (bu3.mono C9);have hbu1u3:Below u1 u1 u3:=(show Below u1 u1 _ from Ax).trans (bu3.mono C9);have hbu2u3:Below u2 u2 u3:=(show Below u2 u2 _ from Ax).trans (bu3.mono C9);have hs0u3: ∀o,u3.cell? ⟨w,o,none⟩=((AV A0 n0 c0 A1 n1 c1 r.src r.c r.s r.h):Array Value)[o]? :=fun o=>(K0.below hbu3 K0.lt).cell o;have hy0u3:w<u3.heap.size:=(K0.below hbu3 K0.lt).lt))
 all_goals
  have hb:=An b0 hbu3;have K2:=K1.below hbu3 K1.lt;have e2:=K2.cell;have f2:=K2.frozen;have g2:=K2.lt;clear hs0 hs0u0 hs0u1 hs0u2 hs0u3
  go_wp2_with fail
  refine(KM _ _ Aa Aa).mono ?_;rintro e w' ⟨rfl,rfl⟩
  go_wp2_with fail
  refine(V6 _ _ Aa Aa).mono ?_;rintro e w' ⟨rfl,rfl⟩;go_wp2;refine AS (v:=.agg (Zii (rD (r.sq k)) (rU (r.sq k)))) (by simp[results,results369,go_sem,e2,f2,g2]) rfl ⟨rfl,?_⟩
  repeat(first|with_reducible exact hb|refine Below.setCell ?_ (by simp<;>omega) _)
theorem YU (h:Ev) (r:Al) (k:Nat) (w:World) (hk:k+1<1000):
  (BT 351 #[GH h r,ZI k,.bool true] w (Pq h r (k) (k+1)):Prop):=by
 obtain⟨⟨A0,n0,c0⟩,⟨A1,n1,c1⟩⟩:=h;unfold GH Pq;simp only;have w1:=Bg ((k:Int)+1);have e1:((k+1:Nat):Int)=(k:Int)+1:=Aa;rw[e1]
 go_enter func351,ntmps351
 go_wp2;refine AS (v:=.agg (AF A0 n0 c0 A1 n1 c1 r.src r.c r.s r.h k ((k:Int)+1:Int))) (by simp[results,results351,go_sem]) rfl ⟨rfl,Ax⟩
theorem YT (h:Ev) (r:Al) (k:Nat) (w:World) (hk:k+1<1000):
  (BT 351 #[GH h r,ZI k,.bool false] w (Pq h r (k+1) (k)):Prop):=by
 obtain⟨⟨A0,n0,c0⟩,⟨A1,n1,c1⟩⟩:=h;unfold GH Pq;simp only;have w1:=Bg ((k:Int)+1);have e1:((k+1:Nat):Int)=(k:Int)+1:=Aa;rw[e1]
 go_enter func351,ntmps351
 go_wp2;refine AS (v:=.agg (AF A0 n0 c0 A1 n1 c1 r.src r.c r.s r.h ((k:Int)+1:Int) k)) (by simp[results,results351,go_sem]) rfl ⟨rfl,Ax⟩
theorem MB (h:Ev) (r:Al) (a b:Nat) (ha:a<r.ds.length) (hb:b<r.ds.length) (w:World) (X:DR w h r) (R:A8 r):
  (BT 340 #[Pq h r a b] w (ZI (r.vd a b)):Prop):=by
 have HV:Hid (r.vd a b=if r.can a=false then 0 else if r.can b=true then 1 else 2):=rfl;have HX:=Ai X;have HR:=Ai R;clear X R;obtain⟨⟨A0,n0,c0⟩,⟨A1,n1,c1⟩⟩:=h;unfold Pq;simp only
 go_enter func340,ntmps340
 go_upto_region 1 with fail
 generalize hG:(w.alloc _)=w1;obtain⟨K0,b0⟩:=EX hG;clear hG;have X1:=HX.out.below b0;have HP:=fun(k:Nat) (hk:k<r.ds.length) (W:World) (b:Below w1 w1 W)=>bK ⟨⟨A0,n0,c0⟩,⟨A1,n1,c1⟩⟩ r k hk W (X1.below b) HR.out;unfold GH at HP;simp only at HP;have HA:=HP a ha;have HB:=HP b hb;have e0:=K0.cell;have g0:=K0.lt;clear X1 HX HR HP;generalize r.can a=za at*;generalize r.can b=zb at*
 go_wp2_with fail
 refine(HA _ E9).mono ?_;rintro e w2 ⟨rfl,b2⟩;have K2:=K0.below b2 g0;have b3:=An b0 b2;clear e0 g0 K0 HA;have e2:=K2.cell
 cases za
 ·have HW:Hid (0=r.vd a b):=by rw[HV.out];rfl
  go_wp2;go_ret;exact⟨Bb HW.out,b3⟩
 ·go_wp2_with fail
  refine(HB _ b2).mono ?_;rintro e w3 ⟨rfl,b4⟩;have b5:=An b3 b4
  cases zb
  ·have HW:Hid (2=r.vd a b):=by rw[HV.out];rfl
   go_wp2;go_ret;exact⟨Bb HW.out,b5⟩
  ·have HW:Hid (1=r.vd a b):=by rw[HV.out];rfl
   go_wp2;go_ret;exact⟨Bb HW.out,b5⟩
theorem ap (h:Ev) (r:Al) (a b:Nat) (ha:a<r.ds.length) (hb:b<r.ds.length) (w:World) (X:DR w h r) (R:A8 r):
  (BT 370 #[Pq h r a b] w (ZI (r.rise a b)):Prop):=by
 have HV:Hid (r.rise a b=r.pt b-r.pt a):=rfl;have qa:=R.pt_bd ha;have qb:=R.pt_bd hb;have HX:=Ai X;have HR:=Ai R;clear X R;obtain⟨⟨A0,n0,c0⟩,⟨A1,n1,c1⟩⟩:=h;unfold Pq;simp only
 go_enter func370,ntmps370
 go_upto_region 1 with fail
 generalize hG:(w.alloc _)=w1;obtain⟨K0,b0⟩:=EX hG;clear hG;have X1:=HX.out.below b0;have HP:=fun(k:Nat) (hk:k<r.ds.length) (W:World) (b:Below w1 w1 W)=>Iw ⟨⟨A0,n0,c0⟩,⟨A1,n1,c1⟩⟩ r k hk W (X1.below b) HR.out;unfold GH at HP;simp only at HP;have HA:=HP a ha;have HB:=HP b hb;clear X1 HX HR HP;generalize r.pt a=p at*;generalize r.pt b=q at*;have wa:=Bg (q-p);have hs0: ∀o,w1.cell? ⟨w,o,none⟩=((AF A0 n0 c0 A1 n1 c1 r.src r.c r.s r.h a b):Array Value)[o]? :=K0.cell
 go_region_held3 (fun w'=>(∀o,w'.cell? ⟨w,o,none⟩=((AF A0 n0 c0 A1 n1 c1 r.src r.c r.s r.h a b):Array Value)[o]?))
  (exact QU)
  (first
   |((fail_if_success (clear hbu0));go_at_call 368;refine(HB _ Ax).mono ?_;rintro e u0 ⟨rfl,bu0⟩;have hbu0:Below w1 w1 u0:=(show Below w1 w1 _ from Ax).trans (bu0.mono C9);have hzu0:=hbu0.size;have hxu0:=bu0.size;(try simp at hxu0);have hs0u0: ∀o,u0.cell? ⟨w,o,none⟩=((AF A0 n0 c0 A1 n1 c1 r.src r.c r.s r.h a b):Array Value)[o]? :=fun o=>(K0.below hbu0 K0.lt).cell o;have hy0u0:w<u0.heap.size:=(K0.below hbu0 K0.lt).lt)
   |((fail_if_success (clear hbu1));go_at_call 368;refine(HA _ Ax).mono ?_;rintro e u1 ⟨rfl,bu1⟩;have hbu1:Below w1 w1 u1:=(show Below w1 w1 _ from Ax).trans (bu1.mono C9);have hzu1:=hbu1.size;have hxu1:=bu1.size;(try simp at hxu1);have hbu0u1:Below u0 u0 u1:=(show Below u0 u0 _ from Ax).trans (bu1.mono C9);have hs0u1: ∀o,u1.cell? ⟨w,o,none⟩=((AF A0 n0 c0 A1 n1 c1 r.src r.c r.s r.h a b):Array Value)[o]? :=fun o=>(K0.below hbu1 K0.lt).cell o;have hy0u1:w<u1.heap.size:=(K0.below hbu1 K0.lt).lt))
 all_goals
  have hb:=An b0 hbu1;go_wp2;go_ret;exact⟨Bb HV.out.symm,hb⟩
theorem QI (h:Ev) (r:Al) (a b:Nat) (ha:a<r.ds.length) (hb:b<r.ds.length) (w:World) (X:DR w h r) (R:A8 r):
  (BT 367 #[Pq h r a b] w (ZI (r.thick a b)):Prop):=by
 have HV:Hid (r.thick a b=((r.ds.getD b 0-r.ds.getD a 0).natAbs:Int)):=rfl;have qa:=R.dp ha;have qb:=R.dp hb;have na:a<h.D.n:=by rw[X.nd];exact ha
 have nb:b<h.D.n:=by rw[X.nd];exact hb
 have HX:=Ai X;clear X R ha hb;obtain⟨⟨A0,n0,c0⟩,⟨A1,n1,c1⟩⟩:=h;unfold Pq;simp only at na nb⊢;have K0:=Blk.newN (g:=w) w 330 (AF A0 n0 c0 A1 n1 c1 r.src r.c r.s r.h a b) Cr;have b0:Below w w (w.alloc (.cells (AF A0 n0 c0 A1 n1 c1 r.src r.c r.s r.h a b) 330)):=Ax;have X1:=HX.out.below b0;obtain⟨ad,hA,hca⟩:=X1.d.int na;obtain⟨_,hA',hcb⟩:=X1.d.int nb;simp only at hA hA';subst hA
 cases hA'
 clear HX X1;generalize r.ds.getD a 0=x at*;generalize r.ds.getD b 0=y at*;have wa:=Bg (y-x);have haI:(a:Int)<(n0:Int):=Aa;have hbI:(b:Int)<(n0:Int):=Aa
 go_enter func367,ntmps367
 go_upto_region 1 with fail
 generalize(w.alloc _)=w1 at K0 b0 hca hcb⊢;have hs0: ∀o,w1.cell? ⟨w,o,none⟩=((AF (some ad) n0 c0 A1 n1 c1 r.src r.c r.s r.h a b):Array Value)[o]? :=K0.cell
 go_region_held3 (fun w'=>(∀o,w'.cell? ⟨w,o,none⟩=((AF (some ad) n0 c0 A1 n1 c1 r.src r.c r.s r.h a b):Array Value)[o]?)∧w'.cell? (ad.add a)=ZS x∧w'.cell? (ad.add b)=ZS y)
  (exact aY)
  (first
   |(go_at_call 111;refine(SH _ _ Aa).mono ?_;rintro e w' ⟨rfl,rfl⟩))
 have b1:Below w w w1.drew:=CO b0;go_wp2;go_ret;exact⟨Bb HV.out.symm,b1⟩
theorem Nb {W:World} {p q:Addr} {u:Value} (h:p.block≠q.block):(W.setCell p u).cell? q=W.cell? q:=World.cell?_setCell_other _ _ _ _ (fun c=>h (by rw[c]))
def Nv (B:Nat) (h:Bh) (l':Am) (w:World) (e:Ending) (w':World):Prop:=
 e=.returned (.tuple #[])∧Ag w' (AO h l')∧AB w' B (AO h l')∧A9 w w' (Cf h)
theorem A9.bel {w w1 w':World} {r:List (Option Nat)} (h:A9 w w1 r) (b:Below w1 w1 w'):A9 w w' r:=
 ⟨b.os.trans h.os,b.tape.trans h.tape,b.output.trans h.output,Ch h.size b.size,fun k hk hne=>(b.block k (CM hk h.size)).trans (h.block k hk hne)⟩
theorem A9.cell_ {w w1:World} {r:List (Option Nat)} (h:A9 w w1 r) {p:Addr} (hp:some p.block∈r) (u:Value):A9 w (w1.setCell p u) r:=
 ⟨h.os,h.tape,h.output,by simpa [World.setCell] using h.size,fun k hk hne=>(Below.heap_setCell w1 p u k (fun c=>hne _ hp (by rw[c]))).trans (h.block k hk hne)⟩
theorem OP (ad:Addr) (k:Nat):(⟨(ad.add k).block,(ad.add k).off+1,none⟩:Addr)=ad.add (k+1):=by rw[←Bf _ 1 Ah,Bv]
theorem Rd.set2 {W:World} {ad:Addr} {n i:Nat} {xs:List Int} {p q:Int} (r:Rd W (some ad) (n*2) (ints xs)) (hi:i<n):
  Rd ((W.setCell (ad.add (i*2)) (ZI p)).setCell ⟨(ad.add (i*2)).block,(ad.add (i*2)).off+1,none⟩ (ZI q)) (some ad) (n*2) (ints (IB xs i p q)):=by
 rw[OP];exact(r.seti (x:=p) (show i*2<n*2 by omega) rfl).seti (x:=q) (show i*2+1<n*2 by omega) rfl
section
variable {B : Nat} {a3 a4 : Addr} {n c3 c4 : Nat} {x0 x1 x2 : Int} {l3 l4 : List Int} {w W : World} {i : Nat} {v p q : Int}
theorem dP (hi:i<n) (r3:Rd W (some a3) n (ints l3)) (r4:Rd W (some a4) (n*2) (ints l4)) (y3:Wr W B (some a3) n) (y4:Wr W B (some a4) (n*2)) (t:A9 w W [blkp (some a3) n,blkp (some a4) (n*2)]) (hne:a4.block≠a3.block):
  Nv B ⟨⟨some a3,n,c3⟩,⟨some a4,n,c4⟩⟩ ⟨x0,x1,x2,l3,IB l4 i p q⟩ w (.returned (.tuple #[])) ((W.setCell (a4.add (i*2)) (ZI p)).setCell ⟨(a4.add (i*2)).block,(a4.add (i*2)).off+1,none⟩ (ZI q)):=by
 have b4:blkp (some a4) (n*2)=some a4.block:=by unfold blkp;rw[Ak Aa];rfl
 refine⟨rfl,?_,?_,?_⟩
 ·refine Ag.cons (s:=⟨some a3,n,ints l3⟩) ?_ (Ag.cons (s:=⟨some a4,n*2,ints (IB l4 i p q)⟩) (r4.set2 hi) (Ag.nil _));refine r3.keep fun ad e _=> ?_
  cases e
  exact(Below.heap_setCell _ _ _ _ (by simp only[Aq];exact hne.symm)).trans (Below.heap_setCell _ _ _ _ (by rw[Aq];exact hne.symm))
 ·exact AB.cons (s:=⟨some a3,n,ints l3⟩) ((y3.set_ _).set_ _) (AB.cons (s:=⟨some a4,n*2,ints (IB l4 i p q)⟩) ((y4.set_ _).set_ _) (AB.nil _ _))
 ·show A9 w _ [blkp (some a3) n,blkp (some a4) (n*2)];exact(t.cell_ (by rw[Aq,b4];simp) _).cell_ (by simp only[Aq];rw[b4];simp) _
theorem dO (hi:i<n) (r3:Rd W (some a3) n (ints l3)) (r4:Rd W (some a4) (n*2) (ints l4)) (y3:Wr W B (some a3) n) (y4:Wr W B (some a4) (n*2)) (t:A9 w W [blkp (some a3) n,blkp (some a4) (n*2)]) (hne:a4.block≠a3.block):
  Nv B ⟨⟨some a3,n,c3⟩,⟨some a4,n,c4⟩⟩ ⟨x0,x1,x2,l3.set i v,l4⟩ w (.returned (.tuple #[])) (W.setCell (a3.add i) (ZI v)):=by
 have b3:blkp (some a3) n=some a3.block:=by unfold blkp;rw[Ak Aa];rfl
 refine⟨rfl,?_,?_,?_⟩
 ·refine Ag.cons (s:=⟨some a3,n,ints (l3.set i v)⟩) (r3.seti hi rfl) (Ag.cons (s:=⟨some a4,n*2,ints l4⟩) ?_ (Ag.nil _));refine r4.keep fun ad e _=> ?_
  cases e
  exact Below.heap_setCell _ _ _ _ (by rw[Aq];exact hne)
 ·exact AB.cons (s:=⟨some a3,n,ints (l3.set i v)⟩) (y3.set_ _) (AB.cons (s:=⟨some a4,n*2,ints l4⟩) (y4.set_ _) (AB.nil _ _))
 ·show A9 w _ [blkp (some a3) n,blkp (some a4) (n*2)];exact t.cell_ (by rw[Aq,b3];simp) _
end
theorem gk {B:Nat} {a3 a4:Addr} {n c3 c4:Nat} {x0 x1 x2:Int} {l3 l4:List Int} {w W:World} {i:Nat} {v p q:Int} (hi:i<n) (r3:Rd W (some a3) n (ints l3)) (r4:Rd W (some a4) (n*2) (ints l4)) (y3:Wr W B (some a3) n) (y4:Wr W B (some a4) (n*2)) (t:A9 w W [blkp (some a3) n,blkp (some a4) (n*2)]) (hne:a4.block≠a3.block):
  Nv B ⟨⟨some a3,n,c3⟩,⟨some a4,n,c4⟩⟩ ⟨x0,x1,x2,l3.set i v,IB l4 i p q⟩ w (.returned (.tuple #[])) (((W.setCell (a4.add (i*2)) (ZI p)).setCell ⟨(a4.add (i*2)).block,(a4.add (i*2)).off+1,none⟩ (ZI q)).setCell (a3.add i) (ZI v)):=by
 have h:=dP (B:=B) (c3:=c3) (c4:=c4) (x0:=x0) (x1:=x1) (x2:=x2) (p:=p) (q:=q) hi r3 r4 y3 y4 t hne;exact dO (x0:=x0) (x1:=x1) (x2:=x2) hi h.2.1.head h.2.1.tail.head h.2.2.1.head h.2.2.1.tail.head h.2.2.2 hne
def Jv (l:Am) (i:Nat) (a b c:Int):Am:=⟨l.size,l.wide,l.high,l.counts.set i (l.counts.getD i 0+c),MF l.counts l.depths i a b⟩
theorem Tt (B:Nat) (h:Bh) (l:Am) (i:Nat) (a b c:Int) (w:World) (ok:Cl h) (hq:h.depths.n=h.counts.n) (hi:i<h.counts.n) (hr:Ag w (AO h l)) (hw:AB w B (AO h l)) (hs:Dx (Cf h))
  (hx0: -1≤l.counts.getD i 0) (hx1:l.counts.getD i 0≤2000000000000) (hc0:0≤c) (hc1:c≤1):
  Calls prog 238 #[Bd h l,ZI i,Zii a b,ZI c] w (Nv B h (Jv l i a b c) w):=by
 obtain⟨m3,m4⟩:=ok;have r3:=hr.head;have r4:=hr.tail.head;have y3:=hw.head;have y4:=hw.tail.head;have o34:=hs.off;obtain⟨⟨A3,n3,c3⟩,⟨A4,n4,c4⟩⟩:=h;obtain⟨x0,x1,x2,l3,l4⟩:=l;simp only at hq hi;subst hq;clear hr hw hs;unfold Bd Jv;simp only at*;have hb0:Below w w ((w.alloc (.cells (AH x0 x1 x2 A3 n4 c3 A4 n4 c4) 181)).alloc (.cells (Zii a b) 136)):=((AP _ _).alloc Bk _).alloc Cr _;obtain⟨a3,rfl,hx⟩:=(r3.below hb0).int hi;obtain⟨a4,rfl,hy0,hy1⟩:=(r4.below hb0).two hi;have hne:a4.block≠a3.block:=fun c=>o34 _ (C5 ..) _ (C5 ..) a3.block (by unfold blkp;rw[Ak Aa];rfl) (by rw[←c];unfold blkp;rw[Ak Aa];rfl)
 have lt4:=r4.lt rfl Aa;have hwr:=Bg (l3.getD i 0+c);have hi0:(0:Int)≤(i:Int):=Aa;have hi1:(i:Int)<(n4:Int):=Aa;have HY:=fun(W:World) (p q:Int) (b':Below w w W)=>Ai (gk (B:=B) (c3:=c3) (c4:=c4) (x0:=x0) (x1:=x1) (x2:=x2) (v:=l3.getD i 0+c) (p:=p) (q:=q) hi (r3.below b') (r4.below b') (y3.below r3 b') (y4.below r4 b') ((A9.refl w _).bel b') hne);have K0:=(Blk.newN w 181 (AH x0 x1 x2 (some a3) n4 c3 (some a4) n4 c4) rfl).alloc (.cells (Zii a b) 136);have K1:=Blk.newN (g:=w+1) (w.alloc (.cells (AH x0 x1 x2 (some a3) n4 c3 (some a4) n4 c4) 181)) 136 (Zii a b) Cr
 have HV:=fun(W:World) (b':Below w w W)=>(show(∃ad,some a3=some ad∧W.cell? (ad.add i)=ZS (l3.getD i 0))∧(∃ad,some a4=some ad∧W.cell? (ad.add (i*2))=ZS (l4.getD (i*2) 0)∧W.cell? ⟨(ad.add (i*2)).block,(ad.add (i*2)).off+1,none⟩=ZS (l4.getD (i*2+1) 0))∧W.frozen? (a3.add i)=false∧W.frozen? (a4.add (i*2))=false∧W.frozen? ⟨(a4.add (i*2)).block,(a4.add (i*2)).off+1,none⟩=false from by
  obtain⟨_,⟨⟩,_,f3⟩:=(y3.below r3 b') Aa;obtain⟨_,⟨⟩,_,f4⟩:=(y4.below r4 b') Aa;refine⟨(r3.below b').int hi,(r4.below b').two hi,f3 i hi,f4 (i*2) Aa,?_⟩;rw[OP];exact f4 (i*2+1) Aa)
 have HN3:(a4.add (i*2)).block≠(a3.add i).block:=by rw[Aq,Aq];exact hne
 have HN4:(a4.add (i*2)).block≠w.heap.size:=by rw[Aq];omega
 have kA: ∀(W:World) (u:Value),(W.setCell (a4.add (i*2)) u).cell? (a3.add i)=W.cell? (a3.add i):=fun W u=>Nb HN3;have kB: ∀(W:World) (u:Value),(W.setCell ⟨(a4.add (i*2)).block,(a4.add (i*2)).off+1,none⟩ u).cell? (a3.add i)=W.cell? (a3.add i):=fun W u=>Nb HN3;have kC: ∀(W:World) (u:Value) (o:Nat),(W.setCell (a4.add (i*2)) u).cell? ⟨w,o,none⟩=W.cell? ⟨w,o,none⟩:=fun W u o=>Nb HN4;have kD: ∀(W:World) (u:Value) (o:Nat),(W.setCell ⟨(a4.add (i*2)).block,(a4.add (i*2)).off+1,none⟩ u).cell? ⟨w,o,none⟩=W.cell? ⟨w,o,none⟩:=fun W u o=>Nb HN4;have kE: ∀(W:World) (u:Value),(W.setCell (a4.add (i*2)) u).cell? ⟨(a4.add (i*2)).block,(a4.add (i*2)).off+1,none⟩=W.cell? ⟨(a4.add (i*2)).block,(a4.add (i*2)).off+1,none⟩:=fun W u=>World.cell?_setCell_other _ _ _ _ (fun e=>by have e2:=AN Addr.off e;first|omega|(simp only at e2;omega))
 clear hx hy0 hy1 HN3 HN4
 go_enter func238,ntmps238
 go_upto_region 1 with fail
 generalize(w.alloc _).alloc _=w1 at hb0 K0 K1⊢;have hV:=HV _ hb0;have c0:=K0.cell;have c1:=K1.cell
 by_cases e1:l3.getD i 0=0
 case pos=>
  have HM:Hid (MF l3 l4 i a b=IB l4 i a b):=by unfold Hid MF;rw[AA e1]
  have hY:=HY _ a b hb0;clear HY HV;obtain⟨⟨_,⟨⟩,hx⟩,⟨_,⟨⟩,hy0,hy1⟩,f3,f40,f41⟩:=hV;have hE:Hid (l3.getD i 0+c=c):=by unfold Hid;rw[e1,Int.zero_add]
  rw[hE.out] at hY hwr;rw[e1] at hx;clear e1;go_wp2
  (go_end0;rw[HM.out,hE.out];exact hY.out)
 case neg=>
  have HM:Hid (MF l3 l4 i a b=IB l4 i (min (l4.getD (i*2) 0) a) (max (l4.getD (i*2+1) 0) b)):=by unfold Hid MF;rw[Ak e1]
  obtain⟨⟨_,⟨⟩,hx⟩,⟨_,⟨⟩,hy0,hy1⟩,f3,f40,f41⟩:=hV;have f1:=K1.frozen
  have HM2:Hid (MF l3 l4 i a b=IB l4 i (if a<l4.getD (i*2) 0 then a else l4.getD (i*2) 0) (if l4.getD (i*2+1) 0<b then b else l4.getD (i*2+1) 0)):=by
   unfold Hid;rw[HM.out]
   congr 1
   ·split<;>omega
   ·split<;>omega
  clear HM
  have HL:=fun(p q:Int)=>Ai (show Below w w ((w1.setCell ⟨w+1,0,none⟩ (ZI p)).setCell ⟨w+1,1,none⟩ (ZI q)).drew∧Blk ((w1.setCell ⟨w+1,0,none⟩ (ZI p)).setCell ⟨w+1,1,none⟩ (ZI q)).drew w.heap.size 181 (AH x0 x1 x2 (some a3) n4 c3 (some a4) n4 c4)∧Blk ((w1.setCell ⟨w+1,0,none⟩ (ZI p)).setCell ⟨w+1,1,none⟩ (ZI q)).drew (w.heap.size+1) 136 (Zii p q) from
   ⟨CO ((hb0.setCell Aw _).setCell Aw _),(K0.far Aw _).far Aw _,(K1.set_ 0 _).set_ 1 _⟩)
  generalize hxx:l3.getD i 0=x at*;generalize l4.getD (i*2) 0=y at*;generalize l4.getD (i*2+1) 0=z at*;have g2:(x !=0)=true:=by simpa using e1
  clear e1 hxx
  go_wp2_with fail
  go_still_tail 19,We51ceQ
  change wpList _ _ _ _ _ w1.drew
  go_upto_region 3 with fail
  generalize(if a<y then a else y)=p at*;generalize(if z<b then b else z)=q at*;obtain⟨B2,L0,L1⟩:=(HL p q).out;generalize((w1.setCell ⟨w+1,0,none⟩ (ZI p)).setCell ⟨w+1,1,none⟩ (ZI q)).drew=w2 at B2 L0 L1⊢;have hV2:=HV _ B2;have hY2:=HY _ p q B2;clear HL HY HV hx hy0 hy1 f3 f40 f41 f1 c0 c1 K0 K1 hb0;obtain⟨⟨_,⟨⟩,hx⟩,⟨_,⟨⟩,hy0,hy1⟩,f3,f40,f41⟩:=hV2;have c0:=L0.cell;have c1:=L1.cell;go_wp2
  (go_end0;rw[HM2.out];exact hY2.out)
theorem TD (x y a b:Int) (w:World):
  (BT 271 #[Zii x y,Zii a b] w (Zii (min x a) (max y b)):Prop):=by
 have hc: ∀o1 o2:Obj,∀cs:Array Value,∀o,(((w.alloc o1).alloc o2).alloc (.cells cs 136)).cell? ⟨w+1+1,o,none⟩=cs[o]? :=fun o1 o2 cs o=>(Blk.newN (g:=w+1+1) ((w.alloc o1).alloc o2) 136 cs Cr).cell o
 by_cases g1:a<x
 all_goals by_cases g2:y<b
 all_goals
  first|(have M1:min x a=a:=by omega)|(have M1:min x a=x:=by omega)
  first|(have M2:max y b=b:=by omega)|(have M2:max y b=y:=by omega)
  rw[M1,M2];clear M1 M2
  go_enter func271,ntmps271
  go_wp2;exact AS (by simp[results,results271,go_sem]) rfl ⟨rfl,Ax⟩
def Pu (k:Bool) (l:Am) (i:Nat) (a b:Int):Am:=⟨l.size,l.wide,l.high,l.counts,if k=true then IB l.depths i (min (l.depths.getD (i*2) 0) a) (max (l.depths.getD (i*2+1) 0) b) else IB l.depths i a b⟩
theorem Vv (B:Nat) (h:Bh) (l:Am) (i:Nat) (kn:Bool) (a b:Int) (w:World) (ok:Cl h) (hq:h.depths.n=h.counts.n) (hi:i<h.counts.n) (hr:Ag w (AO h l)) (hw:AB w B (AO h l)) (hs:Dx (Cf h)):
  Calls prog 221 #[Bd h l,ZI i,.bool kn,Zii a b] w (Nv B h (Pu kn l i a b) w):=by
 obtain⟨m3,m4⟩:=ok;have r3:=hr.head;have r4:=hr.tail.head;have y3:=hw.head;have y4:=hw.tail.head;have o34:=hs.off;obtain⟨⟨A3,n3,c3⟩,⟨A4,n4,c4⟩⟩:=h;obtain⟨x0,x1,x2,l3,l4⟩:=l;simp only at hq hi;subst hq;clear hr hw hs;unfold Bd Pu;simp only at*;have hb0:Below w w ((w.alloc (.cells (AH x0 x1 x2 A3 n4 c3 A4 n4 c4) 181)).alloc (.cells (Zii a b) 136)):=((AP _ _).alloc Bk _).alloc Cr _;obtain⟨a3,rfl,hx⟩:=(r3.below hb0).int hi;obtain⟨a4,rfl,hy0,hy1⟩:=(r4.below hb0).two hi;have hne:a4.block≠a3.block:=fun c=>o34 _ (C5 ..) _ (C5 ..) a3.block (by unfold blkp;rw[Ak Aa];rfl) (by rw[←c];unfold blkp;rw[Ak Aa];rfl)
 have hi0:(0:Int)≤(i:Int):=Aa;have hi1:(i:Int)<(n4:Int):=Aa;have HY:=fun(W:World) (p q:Int) (b':Below w w W)=>Ai (dP (B:=B) (c3:=c3) (c4:=c4) (x0:=x0) (x1:=x1) (x2:=x2) (p:=p) (q:=q) hi (r3.below b') (r4.below b') (y3.below r3 b') (y4.below r4 b') ((A9.refl w _).bel b') hne);have K0:=(Blk.newN w 181 (AH x0 x1 x2 (some a3) n4 c3 (some a4) n4 c4) rfl).alloc (.cells (Zii a b) 136);have K1:=Blk.newN (g:=w+1) (w.alloc (.cells (AH x0 x1 x2 (some a3) n4 c3 (some a4) n4 c4) 181)) 136 (Zii a b) Cr
 have HV:=fun(W:World) (b':Below w w W)=>(show(∃ad,some a3=some ad∧W.cell? (ad.add i)=ZS (l3.getD i 0))∧(∃ad,some a4=some ad∧W.cell? (ad.add (i*2))=ZS (l4.getD (i*2) 0)∧W.cell? ⟨(ad.add (i*2)).block,(ad.add (i*2)).off+1,none⟩=ZS (l4.getD (i*2+1) 0))∧W.frozen? (a3.add i)=false∧W.frozen? (a4.add (i*2))=false∧W.frozen? ⟨(a4.add (i*2)).block,(a4.add (i*2)).off+1,none⟩=false from by
  obtain⟨_,⟨⟩,_,f3⟩:=(y3.below r3 b') Aa;obtain⟨_,⟨⟩,_,f4⟩:=(y4.below r4 b') Aa;refine⟨(r3.below b').int hi,(r4.below b').two hi,f3 i hi,f4 (i*2) Aa,?_⟩;rw[OP];exact f4 (i*2+1) Aa)
 have kE: ∀(W:World) (u:Value),(W.setCell (a4.add (i*2)) u).cell? ⟨(a4.add (i*2)).block,(a4.add (i*2)).off+1,none⟩=W.cell? ⟨(a4.add (i*2)).block,(a4.add (i*2)).off+1,none⟩:=fun W u=>World.cell?_setCell_other _ _ _ _ (fun e=>by have e2:=AN Addr.off e;first|omega|(simp only at e2;omega))
 clear hx hy0 hy1
 cases kn
 ·go_enter func221,ntmps221
  go_upto_region 1 with fail
  generalize(w.alloc _).alloc _=w1 at hb0 K0 K1⊢;have hV:=HV _ hb0;have c0:=K0.cell;have c1:=K1.cell;have hY:=HY _ a b hb0;clear HY HV;obtain⟨⟨_,⟨⟩,hx⟩,⟨_,⟨⟩,hy0,hy1⟩,f3,f40,f41⟩:=hV;go_wp2
  (go_end0;exact hY.out)
 ·go_enter func221,ntmps221
  go_upto_region 1 with fail
  generalize(w.alloc _).alloc _=w1 at hb0 K0 K1⊢;have hV:=HV _ hb0;have c0:=K0.cell;have c1:=K1.cell;obtain⟨⟨_,⟨⟩,hx⟩,⟨_,⟨⟩,hy0,hy1⟩,f3,f40,f41⟩:=hV;generalize l4.getD (i*2) 0=y at*;generalize l4.getD (i*2+1) 0=z at*
  go_wp2_with fail
  go_still_tail 6,We51ceQ
  change wpList _ _ _ _ _ w1.drew;have D0:Blk w1.drew _ _ _:=K0;have D1:Blk w1.drew _ _ _:=K1;have bd:=CO hb0;generalize w1.drew=w2 at D0 D1 bd⊢;clear c0 c1 hx hy0 hy1 f3 f40 f41 K0 K1 hb0
  go_wp2_with fail
  refine(TD y z a b _).mono ?_;rintro e w3 ⟨rfl,b3⟩;have E0:=D0.below b3 D0.lt;have E1:=D1.below b3 D1.lt;have bd3:=Jk bd b3;have c1:=E1.cell;have f1:=E1.frozen
  have HL:=Ai (show Below w w ((w3.setCell ⟨w+1,0,none⟩ (ZI (min y a))).setCell ⟨w+1,1,none⟩ (ZI (max z b)))∧Blk ((w3.setCell ⟨w+1,0,none⟩ (ZI (min y a))).setCell ⟨w+1,1,none⟩ (ZI (max z b))) w.heap.size 181 (AH x0 x1 x2 (some a3) n4 c3 (some a4) n4 c4)∧Blk ((w3.setCell ⟨w+1,0,none⟩ (ZI (min y a))).setCell ⟨w+1,1,none⟩ (ZI (max z b))) (w.heap.size+1) 136 (Zii (min y a) (max z b)) from
   ⟨(bd3.setCell Aw _).setCell Aw _,(E0.far Aw _).far Aw _,(E1.set_ 0 _).set_ 1 _⟩)
  clear D0 D1 bd b3 E0 E1 bd3;generalize min y a=p at*;generalize max z b=q at*
  go_upto_region 3 with fail
  obtain⟨B2,L0,L1⟩:=HL.out;generalize((w3.setCell ⟨w+1,0,none⟩ (ZI p)).setCell ⟨w+1,1,none⟩ (ZI q))=w4 at B2 L0 L1⊢;have hV2:=HV _ B2;have hY2:=HY _ p q B2;clear HL HY HV c1 f1;obtain⟨⟨_,⟨⟩,hx⟩,⟨_,⟨⟩,hy0,hy1⟩,f3,f40,f41⟩:=hV2;have c0:=L0.cell;have c1:=L1.cell;go_wp2
  (go_end0;exact hY2.out)

theorem Kz (a b c d:Int) (w:World) (h1: -4611686018427387904≤a+c) (h2:a+c≤4611686018427387904) (h3: -4611686018427387904≤b+d) (h4:b+d≤4611686018427387904):
  (BT 240 #[Zii a b,Zii c d] w (Zii (a+c) (b+d)):Prop):=by
 have u1:=Bg (a+c);have u2:=Bg (b+d)
 go_enter func240,ntmps240
 go_wp2;refine AS (v:=.agg (Zii (a+c) (b+d))) (by simp[results,results240,go_sem]) rfl ⟨rfl,Ax⟩
theorem Kc (h:Bh) (l:Am) (w:World) (ok:Cl h) (hr:Ag w (AO h l)):
  (BT 191 #[Bd h l] w (.tuple (BN (mdL l) (mdH l) (mdC l))):Prop):=by
 unfold Bd
 go_enter func191,ntmps191
 go_wp2_with fail
 refine(Ja h l _ ok (hr.below Ax)).mono ?_;rintro e w1 ⟨rfl,b1⟩;have hb1:Below w w w1:=(show Below w w _ from Ax).trans (b1.mono C9);have K0:Blk w1 w.heap.size 181 (AH l.size l.wide l.high h.counts.A h.counts.n h.counts.c h.depths.A h.depths.n h.depths.c):=Blk.below ((Br _ _ _).alloc _) b1 C9;have K1:Blk w1 (w.heap.size+1) 136 Cq:=Blk.below (Blk.newN _ _ _ Cr) b1 C9;clear b1;have c0:=K0.cell;have c1:=K1.cell;have f1:=K1.frozen;have g1:=K1.lt;rcases BA (Dl l) with o0|o0
 case inr=>
  have HM:=Ai (ZR o0);rw[o0];clear o0;go_wp2;refine AS (v:=.tuple (BN 0 0 1)) (by simp[results,results191,go_sem,c1]) rfl ?_
  rw[HM.out.1,HM.out.2.1,HM.out.2.2];exact⟨rfl,Ax⟩
 have M:=Xo.of o0;have HO:=Ai o0;rw[o0];clear o0;have r3:Rd w1 h.counts.A h.counts.n (ints l.counts):=(hr.below hb1).head;have r4:Rd w1 h.depths.A (h.depths.n*2) (ints l.depths):=(hr.below hb1).tail.head;obtain⟨⟨A3,n,c3⟩,⟨A4,m,c4⟩⟩:=h;have e3:l.counts.length=n:=r3.len;have e4:l.depths.length=m*2:=r4.len;have hbd:=M.bd;have hn9:n≤900∧1≤n:=Aa;obtain rfl:n=m:=by have:=M.eq;omega
 have HE:=Ai e3;have HM:=Ai M;clear e3 e4 hbd M hr ok;obtain⟨a3,rfl,-⟩:=r3.int (show 0<n by omega)
 obtain⟨a4,rfl,-,-⟩:=r4.two (show 0<n by omega)
 simp only at K0;clear c0;have c0:=K0.cell;have g0:=K0.lt
 go_upto_region 6 with fail
 have J0:=Br w1 136 Cq;have b2:Below w1 w1 (w1.alloc (.cells Cq 136)):=BU
 go_loopw [5,15] (fun c i wr=> ∃k:Nat,k≤n∧i=.int .i64 k∧c=.int .i64 (knTo l k)∧Blk wr w1.heap.size 136 (Zii (loTo l k) (hiTo l k))∧Below w1 w1 wr) (fun _ i _=>n-(intOf i).toNat)
 case atStart=>exact⟨0,AZ _,rfl,rfl,J0,b2⟩
 case round=>
  clear J0 b2;obtain⟨k,hk,rfl,rfl,J,b⟩:=hrel;have sb:=Np HM.out k (by rw[HE.out];exact hk)
  have hk9:(k:Int)≤900:=Aa
  by_cases hlt:k<n
  ·have hltI:(k:Int)<(n:Int):=Aa;have hk0:(0:Int)≤(k:Int):=Aa;have cb:=LJ (HM.out.at_ (show k<l.counts.length by rw[HE.out];exact hlt))
   have K:=K0.below b g0;clear c0;have gJ:=J.lt;obtain⟨_,⟨⟩,hd0,hd1⟩:=(r4.below b).two hlt;obtain⟨_,⟨⟩,hx⟩:=(r3.below b).int hlt;have HN:Hid (l.counts.getD k 0=0→knTo l (k+1)=knTo l k∧loTo l (k+1)=loTo l k∧hiTo l (k+1)=hiTo l k):=SB;have HY:Hid (l.counts.getD k 0≠0→knTo l (k+1)=knTo l k+1∧loTo l (k+1)=loTo l k+l.depths.getD (k*2) 0∧hiTo l (k+1)=hiTo l k+l.depths.getD (k*2+1) 0):=Pc;generalize knTo l k=kn at*;generalize loTo l k=lo at*;generalize hiTo l k=hi at*;generalize l.depths.getD (k*2) 0=dk at*;generalize l.depths.getD (k*2+1) 0=ek at*;generalize l.counts.getD k 0=cv at*
   go_upto_region 8 with fail
   have b3:Below w1 w1 (wr.alloc (.cells (Zii dk ek) 136)):=b.alloc Aa _;have K2:=K.alloc (.cells (Zii dk ek) 136);have J2:=J.alloc (.cells (Zii dk ek) 136);have T:=Br wr 136 (Zii dk ek);obtain⟨_,⟨⟩,hx⟩: ∃ad,some a3=some ad∧(wr.alloc (.cells (Zii dk ek) 136)).cell? (ad.add k)=ZS cv:=⟨a3,rfl,by rw[((AP wr.heap.size wr).alloc Bk _).cell (by rw[Aq];have:=(r3.below b).lt rfl Aa;exact this)];exact hx⟩
   generalize wr.alloc _=w2 at*;generalize wr.heap.size=gt at*;clear hd0 hd1 K J b gJ;have c0:=K2.cell;have cJ:=J2.cell;have cT:=T.cell;have gJ:=J2.lt
   by_cases e1:cv=0
   ·subst e1;have HS:=Ai (HN.out rfl);clear HN HY;go_wp2
    go_roundw
    case rel=>exact⟨k+1,by omega,by go_num,by rw[HS.out.1],by rw[HS.out.2.1,HS.out.2.2];exact J2,b3⟩
    case measure=>simp[intOf];omega
   ·have e1c:(cv !=0)=true:=by simpa using e1
    have HS:=Ai (HY.out e1);clear HN HY e1
    go_wp2_with fail
    refine(Kz lo hi dk ek _ Aa Aa Aa Aa).mono ?_;rintro e w3 ⟨rfl,b4⟩;have J3:=J2.below b4 gJ;have b5:=An b3 b4;clear c0 cJ cT T K2;have cJ:=J3.cell;have fJ:=J3.frozen;have u1:=Bg (kn+1);clear b4 b3 J2;go_wp2
    go_roundw
    case rel=>
     refine⟨k+1,by omega,by go_num,by rw[HS.out.1],?_,(b5.setCell Aw _).setCell Aw _⟩
     rw[HS.out.2.1,HS.out.2.2];exact(J3.set_ 0 (ZI (lo+dk))).set_ 1 (ZI (hi+ek))
    case measure=>simp[intOf];omega
  ·obtain rfl:k=n:=Aa;have H1:Hid (knTo l k=0→mdC l=4∧mdL l=0∧mdH l=0):=fun h=>Nf HO.out (by rw[HE.out];exact h)
   have H2:Hid (knTo l k≠0→mdC l=0∧mdL l=loTo l k/knTo l k∧mdH l= -(-hiTo l k/knTo l k)):=fun h=>by have:=Ng HO.out (by rw[HE.out];exact h);rwa [HE.out] at this
   have hb2:Below w w wr:=An hb1 b;have K:=K1.below b g1;clear c0;clear c1 f1;have c1:=K.cell;have f1:=K.frozen;generalize knTo l k=kn at*;generalize loTo l k=lo at*;generalize hiTo l k=hi at*
   by_cases e2:kn=0
   ·subst e2;have HR:=Ai (H1.out rfl);clear H1 H2;go_wp2;refine AS (v:=.tuple (BN 0 0 4)) (by simp[results,results191,go_sem,c1]) rfl ?_
    rw[HR.out.1,HR.out.2.1,HR.out.2.2];exact⟨rfl,Ax⟩
   have HR:=Ai (H2.out e2);have e2b:(kn==0)=false:=by rw[Ea];exact e2
   have hkp:0<kn:=Aa;clear H1 H2 e2;have hS: ∀o,wr.cell? ⟨w1,o,none⟩= (Zii lo hi:Array Value)[o]? :=J.cell;have m1: -4611686018427387904≤lo∧lo≤4611686018427387904:=Aa;have m2: -4611686018427387904≤hi∧hi≤4611686018427387904:=Aa;have hne:w.heap.size+1≠w1.heap.size:=Aa
   go_wp2_with fail
   go_region_held3 (fun w'=> ∀o,w'.cell? ⟨w1,o,none⟩= (Zii lo hi:Array Value)[o]?)
    (first|(with_reducible assumption)|(intro o;go_keep))
    (first
     |(go_at_call 241;refine(Ec lo kn _ m1.1 m1.2 hkp Aa).mono ?_;rintro e w' ⟨rfl,rfl⟩)
     |(go_at_call 196;refine(Ex hi kn _ m2.1 m2.2 hkp Aa).mono ?_;rintro e w' ⟨rfl,rfl⟩))
   all_goals
    go_wp2;refine AS (v:=.tuple (BN (lo/kn) (-(-hi/kn)) 0)) (by simp[results,results191,go_sem,c1]) rfl ?_
    rw[HR.out.1,HR.out.2.1,HR.out.2.2];exact⟨rfl,Ax⟩
theorem Li (h:Bh) (l:Am) (w:World) (ok:Cl h) (hr:Ag w (AO h l)):
  (BT 174 #[Bd h l] w (.tuple (BN (mdL l) (mdH l) (mdC l))):Prop):=by
 unfold Bd
 go_enter func174,ntmps174
 go_wp2_with fail
 refine(Jf h l _ ok (hr.below Ax)).mono ?_;rintro e w1 ⟨rfl,b1⟩;have hb1:Below w w w1:=(show Below w w _ from Ax).trans (b1.mono C9);have K0:Blk w1 w.heap.size 181 (AH l.size l.wide l.high h.counts.A h.counts.n h.counts.c h.depths.A h.depths.n h.depths.c):=Blk.below ((Br _ _ _).alloc _) b1 C9;have K1:Blk w1 (w.heap.size+1) 136 Cq:=Blk.below (Blk.newN _ _ _ Cr) b1 C9;clear b1;have c0:=K0.cell;have c1:=K1.cell;have f1:=K1.frozen;rcases BA (Dl l) with o0|o0
 case inr=>
  have HM:=Ai (ZR o0);rw[o0];clear o0;go_wp2;refine AS (v:=.tuple (BN 0 0 1)) (by simp[results,results174,go_sem,c1]) rfl ?_
  rw[HM.out.1,HM.out.2.1,HM.out.2.2];exact⟨rfl,Ax⟩
 have M:=Xo.of o0;have HO:=Ai o0;rw[o0];clear o0;have r3:Rd w1 h.counts.A h.counts.n (ints l.counts):=(hr.below hb1).head;have r4:Rd w1 h.depths.A (h.depths.n*2) (ints l.depths):=(hr.below hb1).tail.head;obtain⟨⟨A3,n,c3⟩,⟨A4,m,c4⟩⟩:=h;have e3:l.counts.length=n:=r3.len;have e4:l.depths.length=m*2:=r4.len;have hbd:=M.bd;have hn9:n≤900∧1≤n:=Aa;obtain rfl:n=m:=by have:=M.eq;omega
 have HE:=Ai e3;have HM:=Ai M;clear e3 e4 hbd M hr ok;obtain⟨a3,rfl,-⟩:=r3.int (show 0<n by omega)
 obtain⟨a4,rfl,-,-⟩:=r4.two (show 0<n by omega)
 simp only at K0;clear c0;have c0:=K0.cell
 go_upto_region 5 with fail
 go_loopw [4,5,6,7] (fun lo hi c i wr=> ∃k m:Nat,k≤n∧i=.int .i64 k∧c=.int .i64 (knTo l k)∧lo=.int .i64 (loTo l k)∧hi=.int .i64 (hiTo l k)∧wr=w1.drewN m) (fun _ _ _ i _=>n-(intOf i).toNat)
 case atStart=>exact⟨0,0,AZ _,rfl,rfl,rfl,rfl,rfl⟩
 case round=>
  obtain⟨k,m,hk,rfl,rfl,rfl,rfl,rfl⟩:=hrel;have sb:=Np HM.out k (by rw[HE.out];exact hk)
  have hk9:(k:Int)≤900:=Aa
  by_cases hlt:k<n
  ·have hltI:(k:Int)<(n:Int):=Aa;have hk0:(0:Int)≤(k:Int):=Aa;have cb:=LJ (HM.out.at_ (show k<l.counts.length by rw[HE.out];exact hlt))
   obtain⟨_,⟨⟩,hd0,hd1⟩:=r4.two hlt;obtain⟨_,⟨⟩,hx⟩:=r3.int hlt;have HN:Hid (l.counts.getD k 0=0→knTo l (k+1)=knTo l k∧loTo l (k+1)=loTo l k∧hiTo l (k+1)=hiTo l k):=SB;have HY:Hid (l.counts.getD k 0≠0→knTo l (k+1)=knTo l k+1∧loTo l (k+1)=loTo l k+l.depths.getD (k*2) 0∧hiTo l (k+1)=hiTo l k+l.depths.getD (k*2+1) 0):=Pc;generalize knTo l k=kn at*;generalize loTo l k=lo at*;generalize hiTo l k=hi at*;generalize l.depths.getD (k*2) 0=dk at*;generalize l.depths.getD (k*2+1) 0=ek at*;generalize l.counts.getD k 0=cv at*;have u1:=Bg (kn+1);have u2:=Bg (lo+dk);have u3:=Bg (hi+ek)
   by_cases e1:cv=0
   ·subst e1;have HS:=Ai (HN.out rfl);clear HN HY;go_wp2
    go_roundw
    case rel=>exact⟨k+1,_,by omega,by go_num,by rw[HS.out.1],by rw[HS.out.2.1],by rw[HS.out.2.2],rfl⟩
    case measure=>simp[intOf];omega
   ·have e1c:(cv !=0)=true:=by simpa using e1
    have HS:=Ai (HY.out e1);clear HN HY e1;go_wp2
    go_roundw
    case rel=>exact⟨k+1,_,by omega,by go_num,by rw[HS.out.1],by rw[HS.out.2.1],by rw[HS.out.2.2],rfl⟩
    case measure=>simp[intOf];omega
  ·obtain rfl:k=n:=Aa;have H1:Hid (knTo l k=0→mdC l=4∧mdL l=0∧mdH l=0):=fun h=>Nf HO.out (by rw[HE.out];exact h)
   have H2:Hid (knTo l k≠0→mdC l=0∧mdL l=loTo l k/knTo l k∧mdH l= -(-hiTo l k/knTo l k)):=fun h=>by have:=Ng HO.out (by rw[HE.out];exact h);rwa [HE.out] at this
   have hb2:Below w w (w1.drewN m):=Ba hb1 m;have K:Blk (w1.drewN m) (w.heap.size+1) _ _:=K1;have K00:Blk (w1.drewN m) w.heap.size 181 (AH l.size l.wide l.high (some a3) k c3 (some a4) k c4):=K0;clear c0;have c0:=K00.cell;generalize w1.drewN m=wr at*;clear c1 f1;have c1:=K.cell;have f1:=K.frozen;generalize knTo l k=kn at*;generalize loTo l k=lo at*;generalize hiTo l k=hi at*
   by_cases e2:kn=0
   ·subst e2;have HR:=Ai (H1.out rfl);clear H1 H2;go_wp2;refine AS (v:=.tuple (BN 0 0 4)) (by simp[results,results174,go_sem,c1]) rfl ?_
    rw[HR.out.1,HR.out.2.1,HR.out.2.2];exact⟨rfl,Ax⟩
   have HR:=Ai (H2.out e2);have e2b:(kn==0)=false:=by rw[Ea];exact e2
   have hkp:0<kn:=Aa;clear H1 H2 e2
   go_wp2_with fail
   refine(Ee lo kn _ Aa Aa hkp Aa).mono ?_;rintro e w' ⟨rfl,rfl⟩
   go_wp2_with fail
   refine(EB hi kn _ Aa Aa hkp Aa).mono ?_;rintro e w' ⟨rfl,rfl⟩;go_wp2;refine AS (v:=.tuple (BN (lo/kn) (-(-hi/kn)) 0)) (by simp[results,results174,go_sem,c1]) rfl ?_
   rw[HR.out.1,HR.out.2.1,HR.out.2.2];exact⟨rfl,Ax⟩
theorem S8 (h:Ev) (r:Al) (a b:Nat) (ha:a<r.ds.length) (hb:b<r.ds.length) (w:World) (X:DR w h r) (R:A8 r) (hca:r.can a=true) (hcb:r.can b=true):
  (BT 352 #[Pq h r a b] w (Zii (r.crLo a b) (r.crHi a b)):Prop):=by
 have HV:Hid (r.crLo a b=r.crN a b/(rU (r.sq a)+rU (r.sq b))∧r.crHi a b= -(-(r.crN a b)/(rD (r.sq a)+rD (r.sq b)))):=⟨rfl,rfl⟩;have HN:Hid (r.crN a b=r.thick a b*(r.pt a+r.pt b)):=rfl;have qa:=R.pt_bd ha;have qb:=R.pt_bd hb;have ra:=R.rD_bd' ha hca;have rb:=R.rD_bd' hb hcb;have qn:=R.crN_bd ha hb;have HX:=Ai X;have HR:=Ai R;clear X R;obtain⟨⟨A0,n0,c0⟩,⟨A1,n1,c1⟩⟩:=h;unfold Pq;simp only
 go_enter func352,ntmps352
 go_upto_region 1 with fail
 generalize hG:((w.alloc _).alloc _)=w1;obtain⟨K0,K1,b0⟩:=Qg hG;clear hG;have X1:=HX.out.below b0;have HT:=fun(W:World) (b':Below w1 w1 W)=>QI ⟨⟨A0,n0,c0⟩,⟨A1,n1,c1⟩⟩ r a b ha hb W (X1.below b') HR.out;have HA:=fun(W:World) (b':Below w1 w1 W)=>Iw ⟨⟨A0,n0,c0⟩,⟨A1,n1,c1⟩⟩ r a ha W (X1.below b') HR.out;have HB:=fun(W:World) (b':Below w1 w1 W)=>Iw ⟨⟨A0,n0,c0⟩,⟨A1,n1,c1⟩⟩ r b hb W (X1.below b') HR.out;unfold Pq at HT;unfold GH at HA HB;simp only at HT HA HB;have HSA:=fun(W:World) (X:DR W ⟨⟨A0,n0,c0⟩,⟨A1,n1,c1⟩⟩ r)=>OO ⟨⟨A0,n0,c0⟩,⟨A1,n1,c1⟩⟩ r a ha W X HR.out hca;have HSB:=fun(W:World) (X:DR W ⟨⟨A0,n0,c0⟩,⟨A1,n1,c1⟩⟩ r)=>OO ⟨⟨A0,n0,c0⟩,⟨A1,n1,c1⟩⟩ r b hb W X HR.out hcb;unfold GH at HSA HSB;simp only at HSA HSB;have hN:r.thick a b*(r.pt a+r.pt b)=r.crN a b:=HN.out.symm;generalize r.thick a b=t at*;generalize r.pt a=p at*;generalize r.pt b=q at*;have wa:=Bg (p+q);have wb:IntKind.i64.wrap (t*(p+q))=r.crN a b:=by rw[hN];exact Ff _ Aa
 clear HX HR HN hN;have hs0: ∀o,w1.cell? ⟨w,o,none⟩=((AF A0 n0 c0 A1 n1 c1 r.src r.c r.s r.h a b):Array Value)[o]? :=K0.cell
 go_region_held3 (fun w'=>(∀o,w'.cell? ⟨w,o,none⟩=((AF A0 n0 c0 A1 n1 c1 r.src r.c r.s r.h a b):Array Value)[o]?))
  (exact IK)
  (first
   |((fail_if_success (clear hbu0));go_at_call 367;refine(HT _ Ax).mono ?_;rintro e u0 ⟨rfl,bu0⟩;have hbu0:Below w1 w1 u0:=(show Below w1 w1 _ from Ax).trans (bu0.mono C9);have hzu0:=hbu0.size;have hxu0:=bu0.size;(try simp at hxu0);have hs0u0: ∀o,u0.cell? ⟨w,o,none⟩=((AF A0 n0 c0 A1 n1 c1 r.src r.c r.s r.h a b):Array Value)[o]? :=fun o=>(K0.below hbu0 K0.lt).cell o;have hy0u0:w<u0.heap.size:=(K0.below hbu0 K0.lt).lt)
   |((fail_if_success (clear hbu1));go_at_call 368;refine(HA _ Ax).mono ?_;rintro e u1 ⟨rfl,bu1⟩;have hbu1:Below w1 w1 u1:=(show Below w1 w1 _ from Ax).trans (bu1.mono C9);have hzu1:=hbu1.size;have hxu1:=bu1.size;(try simp at hxu1);have hbu0u1:Below u0 u0 u1:=(show Below u0 u0 _ from Ax).trans (bu1.mono C9);have hs0u1: ∀o,u1.cell? ⟨w,o,none⟩=((AF A0 n0 c0 A1 n1 c1 r.src r.c r.s r.h a b):Array Value)[o]? :=fun o=>(K0.below hbu1 K0.lt).cell o;have hy0u1:w<u1.heap.size:=(K0.below hbu1 K0.lt).lt)
   |((fail_if_success (clear hbu2));go_at_call 368;refine(HB _ Ax).mono ?_;rintro e u2 ⟨rfl,bu2⟩;have hbu2:Below w1 w1 u2:=(show Below w1 w1 _ from Ax).trans (bu2.mono C9);have hzu2:=hbu2.size;have hxu2:=bu2.size;(try simp at hxu2);have hbu0u2:Below u0 u0 u2:=(show Below u0 u0 _ from Ax).trans (bu2.mono C9);have hbu1u2:Below u1 u1 u2:=(show Below u1 u1 _ from Ax).trans (bu2.mono C9);have hs0u2: ∀o,u2.cell? ⟨w,o,none⟩=((AF A0 n0 c0 A1 n1 c1 r.src r.c r.s r.h a b):Array Value)[o]? :=fun o=>(K0.below hbu2 K0.lt).cell o;have hy0u2:w<u2.heap.size:=(K0.below hbu2 K0.lt).lt))
 all_goals
  have B2:=An b0 hbu2;have K2:=K0.below hbu2 K0.lt;have K3:=K1.below hbu2 K1.lt;have X2:=X1.below hbu2;clear K0 K1 X1 b0 HT HA HB hs0 hs0u0 hs0u1 hs0u2 hy0u0 hy0u1 hy0u2 hbu0 hbu1 hbu2 hbu0u1 hbu0u2 hbu1u2 bu0 bu1 bu2 hzu0 hzu1 hzu2 hxu0 hxu1 hxu2 wa
  go_upto_region 2 with fail
  clear wb;have HPL:=fun W=>Kz (rD (r.sq a)) (rU (r.sq a)) (rD (r.sq b)) (rU (r.sq b)) W Aa Aa Aa Aa;generalize rD (r.sq a)=d1 at*;generalize rD (r.sq b)=d2 at*;generalize rU (r.sq a)=v1 at*;generalize rU (r.sq b)=v2 at*;generalize r.crN a b=cn at*;have HSA':=fun(W:World) (b':Below u2 u2 W)=>HSA W (X2.below b');have HSB':=fun(W:World) (b':Below u2 u2 W)=>HSB W (X2.below b');clear HSA HSB;have hk3:=K3.lt
  go_cut [4] (fun c wx=> ∃g,c=.pointer (some ⟨g,0,none⟩)∧Blk wx g 136 (Zii (d1+d2) (v1+v2))∧g≠w.heap.size+1∧Below u2 u2 wx)
  case first=>
   have hs0: ∀o,u2.cell? ⟨w,o,none⟩=((AF A0 n0 c0 A1 n1 c1 r.src r.c r.s r.h a b):Array Value)[o]? :=K2.cell;have hy0:w<u2.heap.size:=K2.lt
   go_region_held3 (fun w'=>(∀o,w'.cell? ⟨w,o,none⟩=((AF A0 n0 c0 A1 n1 c1 r.src r.c r.s r.h a b):Array Value)[o]?))
    (exact IK)
    (first
     |((fail_if_success (clear hbv_0));go_at_call 369;refine(HSA' _ Ax).mono ?_;rintro e v_0 ⟨rfl,bv_0⟩;have hbv_0:Below u2 u2 v_0:=(show Below u2 u2 _ from Ax).trans (bv_0.mono C9);have hzv_0:=hbv_0.size;have hxv_0:=bv_0.size;(try simp at hxv_0);have hs0v_0: ∀o,v_0.cell? ⟨w,o,none⟩=((AF A0 n0 c0 A1 n1 c1 r.src r.c r.s r.h a b):Array Value)[o]? :=fun o=>(K2.below hbv_0 K2.lt).cell o;have hy0v_0:w<v_0.heap.size:=(K2.below hbv_0 K2.lt).lt;obtain⟨hcv_0,hfv_0⟩:=SM bv_0;(try have hlu2v_0:u2<v_0.heap.size:=by omega))
     |((fail_if_success (clear hbv_1));go_at_call 369;refine(HSB' _ Ax).mono ?_;rintro e v_1 ⟨rfl,bv_1⟩;have hbv_1:Below u2 u2 v_1:=(show Below u2 u2 _ from Ax).trans (bv_1.mono C9);have hzv_1:=hbv_1.size;have hxv_1:=bv_1.size;(try simp at hxv_1);have hbv_0v_1:Below v_0 v_0 v_1:=(show Below v_0 v_0 _ from Ax).trans (bv_1.mono C9);have hs0v_1: ∀o,v_1.cell? ⟨w,o,none⟩=((AF A0 n0 c0 A1 n1 c1 r.src r.c r.s r.h a b):Array Value)[o]? :=fun o=>(K2.below hbv_1 K2.lt).cell o;have hy0v_1:w<v_1.heap.size:=(K2.below hbv_1 K2.lt).lt;obtain⟨hcv_1,hfv_1⟩:=SM bv_1;(try have hlu2v_1:u2<v_1.heap.size:=by omega);(try have hlv_0v_1:v_0<v_1.heap.size:=by omega))
     |((fail_if_success (clear hbv_2));go_at_call 240;refine(HPL _).mono ?_;rintro e v_2 ⟨rfl,bv_2⟩;have hbv_2:Below u2 u2 v_2:=(show Below u2 u2 _ from Ax).trans (bv_2.mono C9);have hzv_2:=hbv_2.size;have hxv_2:=bv_2.size;(try simp at hxv_2);have hbv_0v_2:Below v_0 v_0 v_2:=(show Below v_0 v_0 _ from Ax).trans (bv_2.mono C9);have hbv_1v_2:Below v_1 v_1 v_2:=(show Below v_1 v_1 _ from Ax).trans (bv_2.mono C9);have hs0v_2: ∀o,v_2.cell? ⟨w,o,none⟩=((AF A0 n0 c0 A1 n1 c1 r.src r.c r.s r.h a b):Array Value)[o]? :=fun o=>(K2.below hbv_2 K2.lt).cell o;have hy0v_2:w<v_2.heap.size:=(K2.below hbv_2 K2.lt).lt;obtain⟨hcv_2,hfv_2⟩:=SM bv_2;(try have hlu2v_2:u2<v_2.heap.size:=by omega);(try have hlv_0v_2:v_0<v_2.heap.size:=by omega);(try have hlv_1v_2:v_1<v_2.heap.size:=by omega)))
   all_goals
    go_wp2_with fail
    go_meet
    refine⟨_,rfl,?_,?_,Ax⟩
    ·(repeat(first|(with_reducible refine Blk.drew ?_)|((with_reducible refine Blk.newN _ _ _ ?_);(first|rfl|(simp;done)))|(with_reducible refine Blk.set_all2 (a:=.int .i64 0) (b:=.int .i64 0) ?_)|((with_reducible refine Blk.below ?_ bv_2 ?_);rotate_left 1;(first|omega|(simp<;>omega)))|((with_reducible refine Blk.below ?_ bv_1 ?_);rotate_left 1;(first|omega|(simp<;>omega)))|((with_reducible refine Blk.below ?_ bv_0 ?_);rotate_left 1;(first|omega|(simp<;>omega)))))
    ·first|omega|(simp<;>omega)
  case rest=>
   obtain⟨g,rfl,KG,hg,b3⟩:=hcut;have hg':=hg.symm;have B3:=An B2 b3;have K4:=K3.below b3 K3.lt;obtain⟨w3,hw3⟩: ∃x:World,x=wc:=⟨_,rfl⟩;rw[←hw3] at KG B3 K4;rw[←hw3];clear hw3 b3 X2 K2 K3 HSA' HSB' HPL B2
   go_upto_region 3 with fail
   have hs0: ∀o,w3.cell? ⟨g,o,none⟩=((Zii (d1+d2) (v1+v2)):Array Value)[o]? :=KG.cell;have es0:=K4.cell;have fs0:=K4.frozen
   go_region_held3 (fun w'=>(∀o,w'.cell? ⟨g,o,none⟩=((Zii (d1+d2) (v1+v2)):Array Value)[o]?))
    (exact IK)
    (first
     |(go_at_call 241;refine(Ec cn (v1+v2) _ Aa Aa Aa Aa).mono ?_;rintro e w' ⟨rfl,rfl⟩)
     |(go_at_call 196;refine(Ex cn (d1+d2) _ Aa Aa Aa Aa).mono ?_;rintro e w' ⟨rfl,rfl⟩))
   all_goals
    go_wp2;refine AS (v:=.agg (Zii (cn/(v1+v2)) (-(-cn/(d1+d2))))) (by simp[results,results352,go_sem,es0]) rfl ⟨by rw[HV.out.1,HV.out.2],Ax⟩
theorem Ws (h:Ev) (r:Al) (a b:Nat) (ha:a<r.ds.length) (hb:b<r.ds.length) (w:World) (X:DR w h r) (R:A8 r) (hca:r.can a=true) (hcb:r.can b=false):
  (BT 353 #[Pq h r a b] w (Zii (r.tuLo a b) (r.tuHi a b)):Prop):=by
 have HV:Hid (r.tuLo a b=2*r.thick a b*rD (r.sq a)/r.rise a b∧r.tuHi a b= -(-(2*r.thick a b*rU (r.sq a))/r.rise a b)):=⟨rfl,rfl⟩;have ra:=R.rD_bd' ha hca;have rr:=R.rise_bd ha hb hca hcb;have qt:=R.thick_bd ha hb;have qn1:=R.tuN_bd ha hb (q:=rD (r.sq a)) Aa Aa;have qn2:=R.tuN_bd ha hb (q:=rU (r.sq a)) Aa Aa;have HX:=Ai X;have HR:=Ai R;clear X R;obtain⟨⟨A0,n0,c0⟩,⟨A1,n1,c1⟩⟩:=h;unfold Pq;simp only
 go_enter func353,ntmps353
 go_upto_region 1 with fail
 generalize hG:((w.alloc _).alloc _)=w1;obtain⟨K0,K1,b0⟩:=Qg hG;clear hG;have X1:=HX.out.below b0;have HSA:=OO ⟨⟨A0,n0,c0⟩,⟨A1,n1,c1⟩⟩ r a ha w1 X1 HR.out hca;unfold GH at HSA;simp only at HSA;have e0:=K0.cell
 go_wp2_with fail
 refine HSA.mono ?_;rintro e w2 ⟨rfl,b2⟩;have B2:=An b0 b2;have K2:=K0.below b2 K0.lt;have K3:=K1.below b2 K1.lt;have X2:=X1.below b2;clear HSA e0 K0 K1 X1 b0 b2;generalize rD (r.sq a)=d1 at*;generalize rU (r.sq a)=v1 at*;have KN:=Br w2 136 (Zii d1 v1);have hQ:=K3.lt;have K4:=K2.alloc (.cells (Zii d1 v1) 136);have K5:=K3.alloc (.cells (Zii d1 v1) 136);have B4:Below w w (w2.alloc (.cells (Zii d1 v1) 136)):=Ax;have X4:=X2.below ((AP _ _).alloc Bk (.cells (Zii d1 v1) 136))
 go_upto_region 2 with fail
 generalize w2.alloc _=w3 at KN K4 K5 B4 X4⊢;generalize w2.heap.size=g at KN hQ⊢;have hg:g≠w.heap.size+1:=Aa;have hg':=hg.symm;have HT:=fun(W:World) (b':Below w3 w3 W)=>QI ⟨⟨A0,n0,c0⟩,⟨A1,n1,c1⟩⟩ r a b ha hb W (X4.below b') HR.out;have HS:=fun(W:World) (b':Below w3 w3 W)=>ap ⟨⟨A0,n0,c0⟩,⟨A1,n1,c1⟩⟩ r a b ha hb W (X4.below b') HR.out;unfold Pq at HT HS;simp only at HT HS;generalize r.thick a b=t at*;generalize r.rise a b=s at*;have wa:=Bg (2*t);obtain⟨n1',hn1⟩: ∃n,2*t*d1=n:=⟨_,rfl⟩;obtain⟨n2',hn2⟩: ∃n,2*t*v1=n:=⟨_,rfl⟩;rw[hn1] at qn1 HV;rw[hn2] at qn2 HV;have wb:=Bg n1';have wc:=Bg n2';clear HX HR X2 K2 K3 B2 X4;have hs0: ∀o,w3.cell? ⟨w,o,none⟩=((AF A0 n0 c0 A1 n1 c1 r.src r.c r.s r.h a b):Array Value)[o]? :=K4.cell;have hs1: ∀o,w3.cell? ⟨g,o,none⟩=((Zii d1 v1):Array Value)[o]? :=KN.cell
 go_region_held3 (fun w'=>(∀o,w'.cell? ⟨w,o,none⟩=((AF A0 n0 c0 A1 n1 c1 r.src r.c r.s r.h a b):Array Value)[o]?)∧(∀o,w'.cell? ⟨g,o,none⟩=((Zii d1 v1):Array Value)[o]?))
  (exact IK)
  (first
   |((fail_if_success (clear hbt_0));go_at_call 367;refine(HT _ Ax).mono ?_;rintro e t_0 ⟨rfl,bt_0⟩;have hbt_0:Below w3 w3 t_0:=(show Below w3 w3 _ from Ax).trans (bt_0.mono C9);have hzt_0:=hbt_0.size;have hxt_0:=bt_0.size;(try simp at hxt_0);have hs0t_0: ∀o,t_0.cell? ⟨w,o,none⟩=((AF A0 n0 c0 A1 n1 c1 r.src r.c r.s r.h a b):Array Value)[o]? :=fun o=>(K4.below hbt_0 K4.lt).cell o;have hy0t_0:w<t_0.heap.size:=(K4.below hbt_0 K4.lt).lt;have hs1t_0: ∀o,t_0.cell? ⟨g,o,none⟩=((Zii d1 v1):Array Value)[o]? :=fun o=>(KN.below hbt_0 KN.lt).cell o;have hy1t_0:g<t_0:=(KN.below hbt_0 KN.lt).lt;have es0t_0:=fun o=>(K5.below hbt_0 K5.lt).cell o;have fs0t_0:=fun o=>(K5.below hbt_0 K5.lt).frozen o;have gs0t_0:=(K5.below hbt_0 K5.lt).lt)
   |((fail_if_success (clear hbt_1));go_at_call 370;refine(HS _ Ax).mono ?_;rintro e t_1 ⟨rfl,bt_1⟩;have hbt_1:Below w3 w3 t_1:=(show Below w3 w3 _ from Ax).trans (bt_1.mono C9);have hzt_1:=hbt_1.size;have hxt_1:=bt_1.size;(try simp at hxt_1);have hbt_0t_1:Below t_0 t_0 t_1:=(show Below t_0 t_0 _ from Ax).trans (bt_1.mono C9);have hs0t_1: ∀o,t_1.cell? ⟨w,o,none⟩=((AF A0 n0 c0 A1 n1 c1 r.src r.c r.s r.h a b):Array Value)[o]? :=fun o=>(K4.below hbt_1 K4.lt).cell o;have hy0t_1:w<t_1.heap.size:=(K4.below hbt_1 K4.lt).lt;have hs1t_1: ∀o,t_1.cell? ⟨g,o,none⟩=((Zii d1 v1):Array Value)[o]? :=fun o=>(KN.below hbt_1 KN.lt).cell o;have hy1t_1:g<t_1:=(KN.below hbt_1 KN.lt).lt;have es0t_1:=fun o=>(K5.below hbt_1 K5.lt).cell o;have fs0t_1:=fun o=>(K5.below hbt_1 K5.lt).frozen o;have gs0t_1:=(K5.below hbt_1 K5.lt).lt)
   |((fail_if_success (clear hbt_3));go_at_call 241;refine(Ec n1' s _ Aa Aa Aa Aa).mono ?_;rintro e w' ⟨rfl,rfl⟩)
   |((fail_if_success (clear hbt_3));go_at_call 367;refine(HT _ Ax).mono ?_;rintro e t_3 ⟨rfl,bt_3⟩;have hbt_3:Below w3 w3 t_3:=(show Below w3 w3 _ from Ax).trans (bt_3.mono C9);have hzt_3:=hbt_3.size;have hxt_3:=bt_3.size;(try simp at hxt_3);have hbt_0t_3:Below t_0 t_0 t_3:=(show Below t_0 t_0 _ from Ax).trans (bt_3.mono C9);have hbt_1t_3:Below t_1 t_1 t_3:=(show Below t_1 t_1 _ from Ax).trans (bt_3.mono C9);have hs0t_3: ∀o,t_3.cell? ⟨w,o,none⟩=((AF A0 n0 c0 A1 n1 c1 r.src r.c r.s r.h a b):Array Value)[o]? :=fun o=>(K4.below hbt_3 K4.lt).cell o;have hy0t_3:w<t_3.heap.size:=(K4.below hbt_3 K4.lt).lt;have hs1t_3: ∀o,t_3.cell? ⟨g,o,none⟩=((Zii d1 v1):Array Value)[o]? :=fun o=>(KN.below hbt_3 KN.lt).cell o;have hy1t_3:g<t_3:=(KN.below hbt_3 KN.lt).lt;have es0t_3:=fun o=>(K5.below hbt_3 K5.lt).cell o;have fs0t_3:=fun o=>(K5.below hbt_3 K5.lt).frozen o;have gs0t_3:=(K5.below hbt_3 K5.lt).lt)
   |((fail_if_success (clear hbt_4));go_at_call 370;refine(HS _ Ax).mono ?_;rintro e t_4 ⟨rfl,bt_4⟩;have hbt_4:Below w3 w3 t_4:=(show Below w3 w3 _ from Ax).trans (bt_4.mono C9);have hzt_4:=hbt_4.size;have hxt_4:=bt_4.size;(try simp at hxt_4);have hbt_0t_4:Below t_0 t_0 t_4:=(show Below t_0 t_0 _ from Ax).trans (bt_4.mono C9);have hbt_1t_4:Below t_1 t_1 t_4:=(show Below t_1 t_1 _ from Ax).trans (bt_4.mono C9);have hbt_3t_4:Below t_3 t_3 t_4:=(show Below t_3 t_3 _ from Ax).trans (bt_4.mono C9);have hs0t_4: ∀o,t_4.cell? ⟨w,o,none⟩=((AF A0 n0 c0 A1 n1 c1 r.src r.c r.s r.h a b):Array Value)[o]? :=fun o=>(K4.below hbt_4 K4.lt).cell o;have hy0t_4:w<t_4.heap.size:=(K4.below hbt_4 K4.lt).lt;have hs1t_4: ∀o,t_4.cell? ⟨g,o,none⟩=((Zii d1 v1):Array Value)[o]? :=fun o=>(KN.below hbt_4 KN.lt).cell o;have hy1t_4:g<t_4:=(KN.below hbt_4 KN.lt).lt;have es0t_4:=fun o=>(K5.below hbt_4 K5.lt).cell o;have fs0t_4:=fun o=>(K5.below hbt_4 K5.lt).frozen o;have gs0t_4:=(K5.below hbt_4 K5.lt).lt)
   |(go_at_call 196;refine(Ex n2' s _ Aa Aa Aa Aa).mono ?_;rintro e w' ⟨rfl,rfl⟩))
 all_goals
  have B5:=An B4 hbt_4;go_wp2;refine AS (v:=.agg (Zii (n1'/s) (-(-n2'/s)))) (by simp[results,results353,go_sem,es0t_4]) rfl ⟨by rw[HV.out.1,HV.out.2],Ax⟩
def ckB (lo hi:Int):Bool:=isV lo && isV hi
theorem Pw (lo hi:Int) (w:World):
  (BT 341 #[Zii lo hi] w (.bool (ckB lo hi)):Prop):=by
 have HV:Hid (ckB lo hi=(isV lo && isV hi)):=rfl;have H1:=fun W=>Fi lo W;have H2:=fun W=>Fi hi W;have e1:inR lo (-1000000000000) 1000000000000=isV lo:=rfl;have e2:inR hi (-1000000000000) 1000000000000=isV hi:=rfl;rw[e1] at H1;rw[e2] at H2;clear e1 e2;generalize isV lo=a at*;generalize isV hi=b at*
 cases a
 ·have HW:Hid (false=ckB lo hi):=by rw[HV.out];rfl
  go_enter func341,ntmps341
  go_wp2_with (go_at_call 329;refine(H1 _).mono ?_;rintro e w' ⟨rfl,rfl⟩)
  go_ret;exact⟨Af HW.out,Ax⟩
 ·have HW:Hid (b=ckB lo hi):=by rw[HV.out];rfl
  go_enter func341,ntmps341
  go_wp2_with fail
  refine(H1 _).mono ?_;rintro e w' ⟨rfl,rfl⟩
  go_wp2_with fail
  refine(H2 _).mono ?_;rintro e w' ⟨rfl,rfl⟩;go_wp2;go_ret;exact⟨Af HW.out,Ax⟩
theorem Ge (lo hi cd:Int) (w:World):
  (BT 319 (BN lo hi cd) w (.tuple (BN (if ckB lo hi=true then lo else 0) (if ckB lo hi=true then hi else 0) (if ckB lo hi=true then 0 else cd))):Prop):=by
 have HB:=fun W=>Pw lo hi W;obtain⟨z,hz⟩: ∃z,ckB lo hi=z:=⟨_,rfl⟩;rw[hz] at HB⊢;clear hz
 go_enter func319,ntmps319
 go_upto_region 1 with fail
 generalize hG:(w.alloc _).alloc _=w1;obtain⟨K0,K1,b0⟩:=Qg hG;clear hG;have e0:=K0.cell;have g0:=K0.lt
 go_wp2_with fail
 refine(HB _).mono ?_;rintro e w2 ⟨rfl,b2⟩;have b3:=An b0 b2;replace K0:=K0.below b2 g0;replace K1:=K1.below b2 K1.lt;clear e0 g0 b2 b0;have e0:=K0.cell;have e1:=K1.cell;have f1:=K1.frozen
 cases z
 ·go_wp2;refine AS (v:=.tuple (BN 0 0 cd)) (by simp[results,results319,go_sem,e1]) rfl ⟨rfl,Ax⟩
 ·go_wp2;refine AS (v:=.tuple (BN lo hi 0)) (by simp[results,results319,go_sem,e1]) rfl ⟨rfl,Ax⟩
theorem Z5 (h:Ev) (r:Al) (a b:Nat) (ha:a<r.ds.length) (hb:b<r.ds.length) (w:World) (X:DR w h r) (R:A8 r) (hca:r.can a=true):
  (BT 339 #[Pq h r a b] w (.tuple (BN (if ckB (r.paLo a b) (r.paHi a b)=true then r.paLo a b else 0) (if ckB (r.paLo a b) (r.paHi a b)=true then r.paHi a b else 0) (if ckB (r.paLo a b) (r.paHi a b)=true then 0 else 3))):Prop):=by
 have HVD:=fun(W:World) (X:DR W h r)=>MB h r a b ha hb W X R;have HCR:=fun(W:World) (X:DR W h r)=>S8 h r a b ha hb W X R hca;have HTU:=fun(W:World) (X:DR W h r)=>Ws h r a b ha hb W X R hca;have HL:Hid (r.paLo a b=if r.can b=true then r.crLo a b else r.tuLo a b):=rfl;have HH:Hid (r.paHi a b=if r.can b=true then r.crHi a b else r.tuHi a b):=rfl;have hvd:r.vd a b=if r.can b=true then 1 else 2:=by unfold Al.vd;rw[hca];rfl
 rw[hvd] at HVD;have HX:=Ai X;clear X hvd R;obtain⟨⟨A0,n0,c0⟩,⟨A1,n1,c1⟩⟩:=h;unfold Pq at HVD HCR HTU⊢;simp only at HVD HCR HTU⊢;rcases BA (r.can b) with hcb|hcb
 ·have eL:r.paLo a b=r.crLo a b:=by rw[HL.out,AA hcb]
  have eH:r.paHi a b=r.crHi a b:=by rw[HH.out,AA hcb]
  rw[eL,eH];rw[AA hcb] at HVD;have HC:=fun(W:World) (X:DR W ⟨⟨A0,n0,c0⟩,⟨A1,n1,c1⟩⟩ r)=>HCR W X hcb;have HK:=fun W=>Ge (r.crLo a b) (r.crHi a b) 3 W;clear eL eH HL HH HCR HTU hcb;generalize r.crLo a b=lo at*;generalize r.crHi a b=hi at*;generalize(if ckB lo hi=true then lo else 0)=x1 at*;generalize(if ckB lo hi=true then hi else 0)=x2 at*;generalize(if ckB lo hi=true then(0:Int) else 3)=x3 at*
  go_enter func339,ntmps339
  go_upto_region 1 with fail
  generalize hG:((w.alloc _).alloc _)=w1;obtain⟨K0,K1,b0⟩:=Qg hG;clear hG;have X1:=HX.out.below b0;have e0:=K0.cell;have g0:=K0.lt
  go_wp2_with fail
  refine(HVD _ X1).mono ?_;rintro e w2 ⟨rfl,b2⟩;have B2:=An b0 b2;have K2:=K0.below b2 g0;have K3:=K1.below b2 K1.lt;have X2:=X1.below b2;clear HVD e0 g0 K0 K1 X1 b0 b2 HX;have e2:=K2.cell
  go_wp2_with fail
  refine(HC _ X2).mono ?_;rintro e w3 ⟨rfl,b3⟩;have B3:=An B2 b3;have K4:=K3.below b3 K3.lt;clear e2 X2 K2 K3 B2 b3 HC
  go_wp2_with fail
  refine(HK _).mono ?_;rintro e w4 ⟨rfl,b4⟩;have B4:=An B3 b4;have K5:=K4.below b4 K4.lt;have e5:=K5.cell;have f5:=K5.frozen;go_wp2;refine AS (v:=.tuple (BN x1 x2 x3)) (by simp[results,results339,go_sem,e5]) rfl ⟨rfl,Ax⟩
 ·have eL:r.paLo a b=r.tuLo a b:=by rw[HL.out,Ak E7]
  have eH:r.paHi a b=r.tuHi a b:=by rw[HH.out,Ak E7]
  rw[eL,eH];rw[Ak E7] at HVD;have HC:=fun(W:World) (X:DR W ⟨⟨A0,n0,c0⟩,⟨A1,n1,c1⟩⟩ r)=>HTU W X hcb;have HK:=fun W=>Ge (r.tuLo a b) (r.tuHi a b) 3 W;clear eL eH HL HH HCR HTU hcb;generalize r.tuLo a b=lo at*;generalize r.tuHi a b=hi at*;generalize(if ckB lo hi=true then lo else 0)=x1 at*;generalize(if ckB lo hi=true then hi else 0)=x2 at*;generalize(if ckB lo hi=true then(0:Int) else 3)=x3 at*
  go_enter func339,ntmps339
  go_upto_region 1 with fail
  generalize hG:((w.alloc _).alloc _)=w1;obtain⟨K0,K1,b0⟩:=Qg hG;clear hG;have X1:=HX.out.below b0;have e0:=K0.cell;have g0:=K0.lt
  go_wp2_with fail
  refine(HVD _ X1).mono ?_;rintro e w2 ⟨rfl,b2⟩;have B2:=An b0 b2;have K2:=K0.below b2 g0;have K3:=K1.below b2 K1.lt;have X2:=X1.below b2;clear HVD e0 g0 K0 K1 X1 b0 b2 HX;have e2:=K2.cell
  go_wp2_with fail
  refine(HC _ X2).mono ?_;rintro e w3 ⟨rfl,b3⟩;have B3:=An B2 b3;have K4:=K3.below b3 K3.lt;clear e2 X2 K2 K3 B2 b3 HC
  go_wp2_with fail
  refine(HK _).mono ?_;rintro e w4 ⟨rfl,b4⟩;have B4:=An B3 b4;have K5:=K4.below b4 K4.lt;have e5:=K5.cell;have f5:=K5.frozen;go_wp2;refine AS (v:=.tuple (BN x1 x2 x3)) (by simp[results,results339,go_sem,e5]) rfl ⟨rfl,Ax⟩
theorem Ql (h:Ev) (r:Al) (w:World):
  (BT 279 #[GH h r] w (Hy r.first):Prop):=by
 obtain⟨⟨A0,n0,c0⟩,⟨A1,n1,c1⟩⟩:=h;unfold GH Hy Al.first;simp only
 go_enter func279,ntmps279
 go_wp2;refine AS (v:=.agg (A7 r.src (decide (0<r.s)) 0 0)) (by simp[results,results279,go_sem]) rfl ⟨rfl,Ax⟩
def fW (h:Ev) (r:Al):Option (Nat×Nat)→Value
 |none=> .tuple #[.agg #[.slice none 0 0,.slice none 0 0,ZI 0,ZI 0,ZI 0,ZI 0,ZI 0,ZI 0],.bool false]
 |some (a,b)=> .tuple #[Pq h r a b,.bool true]
def Mh:Option AU→Value
 |none=> .tuple (CR 0 false 0 0 0 0 0 3)
 |some y=> .tuple #[Hy y.st,ZI y.ev,Zii y.lo y.hi,ZI 0]
theorem ZW (h:Ev) (r:Al) (x:En) (w:World) (X:DR w h r) (R:A8 r) (S:Jt r x):
  (BT 338 #[GH h r,Hy x] w (fW h r (r.nxt x)):Prop):=by
 have HN:Hid (r.nxt x=if x.dn=true then(if x.k+1<r.ds.length then some (x.k,x.k+1) else none) else if 0<x.k then some (x.k,x.k-1) else none):=rfl;have hk:=S.k;have hl:=R.len;have hn0:=X.nd;clear X R S;obtain⟨k,dn,lo,hi⟩:=x;have HAT:=YU h r k;have HAF:=fun(j:Nat)=>YT h r j;obtain⟨⟨A0,n0,c0⟩,⟨A1,n1,c1⟩⟩:=h;simp only at HN hk hn0 HAT HAF⊢;rw[←hn0] at hk hl HN;clear hn0;have HLA:=fun W=>TN A0 A1 n0 n1 c0 c1 W Aa;unfold Pq at HAT HAF;unfold GH Hy at*;simp only at HAT HAF⊢;have wl:=Bg ((n0:Int)-1)
 cases dn
 ·have HW:Hid (r.nxt ⟨k,false,lo,hi⟩=if 0<k then some (k,k-1) else none):=HN.out
  go_enter func338,ntmps338
  go_upto_region 1 with fail
  generalize hG:(((w.alloc _).alloc _).alloc _)=w1;obtain⟨K0,K1,K2,b0⟩:=WF hG;clear hG;have e1:=K1.cell
  go_quiet (fail)
  revert nq;intro nq;have b1:Below w w (w1.drewN nq):=Ba b0 _;replace K0:Blk (w1.drewN nq) _ _ _:=K0;replace K1:Blk (w1.drewN nq) _ _ _:=K1;replace K2:Blk (w1.drewN nq) _ _ _:=K2;generalize w1.drewN nq=w2 at K0 K1 K2 b1⊢;clear e1 b0;have e1:=K1.cell
  by_cases h0:0<k
  ·obtain⟨j,rfl⟩: ∃j,k=j+1:=⟨k-1,by omega⟩
   rw[AA h0,Nat.add_sub_cancel] at HW;have hj:((j+1:Nat):Int)=(j:Int)+1:=Aa;have hjp:(0:Int)<(j:Int)+1:=Aa;have hja:(j:Int)+1-1=(j:Int):=Aa;have hjw:=Bg (j:Int);have HA:=fun W=>HAF j W Aa;rw[hj] at HA e1;have e0:=K0.cell;clear HAF HAT HLA HN
   go_wp2_with fail
   refine(HA _).mono ?_;rintro e w3 ⟨rfl,b3⟩;have B3:=An b1 b3;have K3:=K2.below b3 K2.lt;clear e0 e1 K0 K1 K2 b3 b1;have e3:=K3.cell;have f3:=K3.frozen;go_wp2;refine AS (v:=.tuple #[AF A0 n0 c0 A1 n1 c1 r.src r.c r.s r.h ((j:Int)+1:Int) j,.bool true]) (by simp[results,results338,go_sem,e3]) rfl ⟨?_,Ax⟩
   rw[HW.out];show _=Ending.returned (.tuple #[AF A0 n0 c0 A1 n1 c1 r.src r.c r.s r.h (((j+1:Nat):Int):Int) j,.bool true]);rw[hj]
  ·rw[Ak h0] at HW;clear HAF HAT HLA HN;have e2:=K2.cell;have f2:=K2.frozen;go_wp2;refine AS (v:=.tuple #[.agg #[.slice none 0 0,.slice none 0 0,ZI 0,ZI 0,ZI 0,ZI 0,ZI 0,ZI 0],.bool false]) (by simp[results,results338,go_sem,e2]) rfl ⟨by rw[HW.out];rfl,Ax⟩
 ·have HW:Hid (r.nxt ⟨k,true,lo,hi⟩=if k+1<n0 then some (k,k+1) else none):=HN.out
  go_enter func338,ntmps338
  go_upto_region 1 with fail
  generalize hG:(((w.alloc _).alloc _).alloc _)=w1;obtain⟨K0,K1,K2,b0⟩:=WF hG;clear hG
  by_cases h0:k+1<n0
  ·rw[AA h0] at HW;have hki:(k:Int)<(n0:Int)-1:=Aa;have HA:=fun W=>HAT W Aa;have he:((k+1:Nat):Int)=(k:Int)+1:=Aa;rw[he] at HA;clear HAF HAT HN;have hs0: ∀o,w1.cell? ⟨w,o,none⟩=((AV A0 n0 c0 A1 n1 c1 r.src r.c r.s r.h):Array Value)[o]? :=K0.cell;have hs1: ∀o,w1.cell? ⟨w+1,o,none⟩=((A7 k true lo hi):Array Value)[o]? :=K1.cell
   go_region_held3 (fun w'=>(∀o,w'.cell? ⟨w,o,none⟩=((AV A0 n0 c0 A1 n1 c1 r.src r.c r.s r.h):Array Value)[o]?)∧(∀o,w'.cell? ⟨w+1,o,none⟩=((A7 k true lo hi):Array Value)[o]?))
    (exact IK)
    (first
     |((fail_if_success (clear hbu0));go_at_call 77;refine(HLA _).mono ?_;rintro e u0 ⟨rfl,bu0⟩;have hbu0:Below w1 w1 u0:=(show Below w1 w1 _ from Ax).trans (bu0.mono C9);have hzu0:=hbu0.size;have hxu0:=bu0.size;(try simp at hxu0);have hs0u0: ∀o,u0.cell? ⟨w,o,none⟩=((AV A0 n0 c0 A1 n1 c1 r.src r.c r.s r.h):Array Value)[o]? :=fun o=>(K0.below hbu0 K0.lt).cell o;have hy0u0:w<u0.heap.size:=(K0.below hbu0 K0.lt).lt;have hs1u0: ∀o,u0.cell? ⟨w+1,o,none⟩=((A7 k true lo hi):Array Value)[o]? :=fun o=>(K1.below hbu0 K1.lt).cell o;have hy1u0:w+1<u0.heap.size:=(K1.below hbu0 K1.lt).lt))
   all_goals
    have B1:=An b0 hbu0;have K2:=K2.below hbu0 K2.lt;clear hs0 hs1 hs0u0 hs1u0 hy0u0 hy1u0
    go_wp2_with fail
    refine(HA _).mono ?_;rintro e w3 ⟨rfl,b3⟩;have B3:=An B1 b3;have K3:=K2.below b3 K2.lt;clear K0 K1 K2 b3 B1;have e3:=K3.cell;have f3:=K3.frozen;go_wp2;refine AS (v:=.tuple #[AF A0 n0 c0 A1 n1 c1 r.src r.c r.s r.h k ((k:Int)+1:Int),.bool true]) (by simp[results,results338,go_sem,e3]) rfl ⟨?_,Ax⟩
    rw[HW.out];show _=Ending.returned (.tuple #[AF A0 n0 c0 A1 n1 c1 r.src r.c r.s r.h k (((k+1:Nat):Int):Int),.bool true]);rw[he]
  ·rw[Ak h0] at HW;clear HAF HAT HN;have hs0: ∀o,w1.cell? ⟨w,o,none⟩=((AV A0 n0 c0 A1 n1 c1 r.src r.c r.s r.h):Array Value)[o]? :=K0.cell;have hs1: ∀o,w1.cell? ⟨w+1,o,none⟩=((A7 k true lo hi):Array Value)[o]? :=K1.cell
   go_region_held3 (fun w'=>(∀o,w'.cell? ⟨w,o,none⟩=((AV A0 n0 c0 A1 n1 c1 r.src r.c r.s r.h):Array Value)[o]?)∧(∀o,w'.cell? ⟨w+1,o,none⟩=((A7 k true lo hi):Array Value)[o]?))
    (exact IK)
    (first
     |((fail_if_success (clear hbu0));go_at_call 77;refine(HLA _).mono ?_;rintro e u0 ⟨rfl,bu0⟩;have hbu0:Below w1 w1 u0:=(show Below w1 w1 _ from Ax).trans (bu0.mono C9);have hzu0:=hbu0.size;have hxu0:=bu0.size;(try simp at hxu0);have hs0u0: ∀o,u0.cell? ⟨w,o,none⟩=((AV A0 n0 c0 A1 n1 c1 r.src r.c r.s r.h):Array Value)[o]? :=fun o=>(K0.below hbu0 K0.lt).cell o;have hy0u0:w<u0.heap.size:=(K0.below hbu0 K0.lt).lt;have hs1u0: ∀o,u0.cell? ⟨w+1,o,none⟩=((A7 k true lo hi):Array Value)[o]? :=fun o=>(K1.below hbu0 K1.lt).cell o;have hy1u0:w+1<u0.heap.size:=(K1.below hbu0 K1.lt).lt))
   all_goals
    have B1:=An b0 hbu0;have K3:=K2.below hbu0 K2.lt;clear hs0 hs1 hs0u0 hs1u0 hy0u0 hy1u0 K2;have e3:=K3.cell;have f3:=K3.frozen;go_wp2;refine AS (v:=.tuple #[.agg #[.slice none 0 0,.slice none 0 0,ZI 0,ZI 0,ZI 0,ZI 0,ZI 0,ZI 0],.bool false]) (by simp[results,results338,go_sem,e3]) rfl ⟨by rw[HW.out];rfl,Ax⟩
theorem aF (h:Ev) (r:Al) (x:En) (w:World) (X:DR w h r) (R:A8 r) (S:Jt r x):
  (BT 316 #[GH h r,Hy x] w (Mh (r.step x)):Prop):=by
 have HNX:=fun(W:World) (X:DR W h r)=>ZW h r x W X R S;have HX:=Ai X;rcases hnx:r.nxt x with _|⟨a,b⟩
 ·rw[hnx] at HNX;have HW:r.step x=some ⟨⟨x.k,!x.dn,x.lo,x.hi⟩,if x.dn=true then 4 else 3,0,0⟩:=by unfold Al.step;rw[hnx]
  rw[HW];clear HW hnx S R X;obtain⟨k,dn,lo,hi⟩:=x;obtain⟨⟨A0,n0,c0⟩,⟨A1,n1,c1⟩⟩:=h;unfold fW at HNX;unfold Mh GH Hy at*;simp only at HNX⊢
  cases dn
  ·go_enter func316,ntmps316
   go_upto_region 1 with fail
   generalize hG:((((w.alloc _).alloc _).alloc _).alloc _)=w1;obtain⟨K0,K1,K2,K3,b0⟩:=Y3 hG;clear hG;have X1:=HX.out.below b0;have e0:=K0.cell;have e1:=K1.cell
   go_wp2_with fail
   refine(HNX _ X1).mono ?_;rintro e w2 ⟨rfl,b2⟩;have B2:=An b0 b2;replace K1:=K1.below b2 K1.lt;replace K2:=K2.below b2 K2.lt;replace K3:=K3.below b2 K3.lt;clear e0 e1 K0 X1 b0 b2 HNX;have e1:=K1.cell;have f1:=K1.frozen;have g1:=K1.lt;have e2:=K2.cell;have f2:=K2.frozen;have g2:=K2.lt;have e3:=K3.cell;have f3:=K3.frozen;have g3:=K3.lt;go_wp2;refine AS (v:=.tuple (CR k true lo hi 3 0 0 0)) (by simp[results,results316,go_sem,e2,e3,g2,g3]) rfl ⟨by first|rfl|simp,Ax⟩
  ·go_enter func316,ntmps316
   go_upto_region 1 with fail
   generalize hG:((((w.alloc _).alloc _).alloc _).alloc _)=w1;obtain⟨K0,K1,K2,K3,b0⟩:=Y3 hG;clear hG;have X1:=HX.out.below b0;have e0:=K0.cell;have e1:=K1.cell
   go_wp2_with fail
   refine(HNX _ X1).mono ?_;rintro e w2 ⟨rfl,b2⟩;have B2:=An b0 b2;replace K1:=K1.below b2 K1.lt;replace K2:=K2.below b2 K2.lt;replace K3:=K3.below b2 K3.lt;clear e0 e1 K0 X1 b0 b2 HNX;have e1:=K1.cell;have f1:=K1.frozen;have g1:=K1.lt;have e2:=K2.cell;have f2:=K2.frozen;have g2:=K2.lt;have e3:=K3.cell;have f3:=K3.frozen;have g3:=K3.lt;go_wp2;refine AS (v:=.tuple (CR k false lo hi 4 0 0 0)) (by simp[results,results316,go_sem,e2,e3,g2,g3]) rfl ⟨by first|rfl|simp,Ax⟩
 ·obtain⟨ha,hb⟩:=R.nxt_in S hnx;have hak:a<r.ds.length:=by rw[ha];exact S.k
  have hca:r.can a=true:=by rw[ha];exact S.can
  rw[hnx] at HNX
  have HW:r.step x=if isV (r.paLo a b)=true∧isV (r.paHi a b)=true∧isV (x.lo+r.paLo a b)=true∧isV (x.hi+r.paHi a b)=true then
     (if r.can b=true then some ⟨⟨b,x.dn,x.lo+r.paLo a b,x.hi+r.paHi a b⟩,1,r.paLo a b,r.paHi a b⟩
      else some ⟨⟨x.k,!x.dn,x.lo+r.paLo a b,x.hi+r.paHi a b⟩,2,r.paLo a b,r.paHi a b⟩)
    else none:=by unfold Al.step;rw[hnx]
  have qp:=R.pa_bd hak hb hca;have hlo:=Ac S.lo;have hhi:=Ac S.hi;have HPA:=fun(W:World) (X:DR W h r)=>Z5 h r a b hak hb W X R hca;have HVD:=fun(W:World) (X:DR W h r)=>MB h r a b hak hb W X R;have hvd:r.vd a b=if r.can b=true then 1 else 2:=by unfold Al.vd;rw[hca];rfl
  rw[hvd] at HVD;rw[HW];clear HW hnx S R X hvd ha hca hak hb;obtain⟨k,dn,lo,hi⟩:=x;obtain⟨⟨A0,n0,c0⟩,⟨A1,n1,c1⟩⟩:=h;unfold fW at HNX;unfold Pq at*;unfold GH Hy at*;simp only at HNX HPA HVD hlo hhi⊢;generalize r.paLo a b=p1 at*;generalize r.paHi a b=p2 at*;have hck:ckB p1 p2=(isV p1 && isV p2):=rfl;have hck2:ckB (lo+p1) (hi+p2)=(isV (lo+p1) && isV (hi+p2)):=rfl;have HPL:=fun W=>Kz lo hi p1 p2 W Aa Aa Aa Aa;have HK2:=fun W=>Ge (lo+p1) (hi+p2) 3 W;rcases BA (ckB p1 p2) with hc1|hc1
  rotate_left
  rw[Ak (fun c=>by rw[hck,c.1,c.2.1] at hc1;cases hc1)]
  unfold Mh;simp only[hc1,if_false,Ie,reduceIte] at HPA;clear hck hck2 HPL HK2 HVD
  rotate_left
  simp only[hc1,reduceIte] at HPA;rcases BA (ckB (lo+p1) (hi+p2)) with hc2|hc2
  rotate_left
  rw[Ak (fun c=>by rw[hck2,c.2.2.1,c.2.2.2] at hc2;cases hc2)]
  unfold Mh;simp only[hc2,Ie,reduceIte] at HK2;clear hck hck2 HVD
  rotate_left 2
  simp only[hc2,reduceIte] at HK2
  have hall:isV p1=true∧isV p2=true∧isV (lo+p1)=true∧isV (hi+p2)=true:=by
   rw[hck,CD] at hc1;rw[hck2,CD] at hc2;exact⟨hc1.1,hc1.2,hc2.1,hc2.2⟩
  rw[AA hall];clear hall hck hck2 hc1 hc2;rcases BA (r.can b) with hcb|hcb
  rw[AA hcb];rw[AA hcb] at HVD;unfold Mh;clear hcb
  rotate_left
  rw[Ak E7];rw[Ak E7] at HVD;unfold Mh;clear hcb
  rotate_left 2
  all_goals
   go_enter func316,ntmps316
   go_upto_region 1 with fail
   generalize hG:((((w.alloc _).alloc _).alloc _).alloc _)=w1;obtain⟨K0,K1,K2,K3,b0⟩:=Y3 hG;clear hG;have X1:=HX.out.below b0;have e0:=K0.cell;have e1:=K1.cell
   go_wp2_with fail
   refine(HNX _ X1).mono ?_;rintro e w2 ⟨rfl,b2⟩;have B2:=An b0 b2;have X2:=X1.below b2;replace K1:=K1.below b2 K1.lt;replace K2:=K2.below b2 K2.lt;replace K3:=K3.below b2 K3.lt;have b2z1:w+1<w2.heap.size:=K1.lt;have b2z3:w+1+1+1<w2.heap.size:=K3.lt;clear e0 e1 K0 X1 b0 b2 HNX;have KA:=Br w2 330 (AF A0 n0 c0 A1 n1 c1 r.src r.c r.s r.h a b);replace K1:=K1.alloc (.cells (AF A0 n0 c0 A1 n1 c1 r.src r.c r.s r.h a b) 330);replace K2:=K2.alloc (.cells (AF A0 n0 c0 A1 n1 c1 r.src r.c r.s r.h a b) 330);replace K3:=K3.alloc (.cells (AF A0 n0 c0 A1 n1 c1 r.src r.c r.s r.h a b) 330);replace X2:=X2.below ((AP _ _).alloc Bk (.cells (AF A0 n0 c0 A1 n1 c1 r.src r.c r.s r.h a b) 330));replace B2:Below w w (w2.alloc (.cells (AF A0 n0 c0 A1 n1 c1 r.src r.c r.s r.h a b) 330)):=Ax;have hA1:w2.heap.size≠w.heap.size+1:=by have:=K1.lt;have h9:=b2z1;omega
   go_upto_region 2 with fail
   generalize w2.alloc _=w3 at KA K1 K2 K3 X2 B2⊢;generalize w2.heap.size=QA at KA hA1⊢;clear b2z1 b2z3;have eA:=KA.cell
   go_wp2_with fail
   refine(HPA _ X2).mono ?_;rintro e w4 ⟨rfl,b4⟩;replace B2:=An B2 b4;replace KA:=KA.below b4 KA.lt;replace K1:=K1.below b4 K1.lt;replace K2:=K2.below b4 K2.lt;replace K3:=K3.below b4 K3.lt;clear b4 eA HPA
  ·have e2:=K2.cell;have f2:=K2.frozen;have g2:=K2.lt;have e3:=K3.cell;have f3:=K3.frozen;have g3:=K3.lt;go_wp2;refine AS (v:=.tuple (CR 0 false 0 0 0 0 0 3)) (by simp[results,results316,go_sem,e2,e3,g2,g3]) rfl ⟨rfl,Ax⟩
  all_goals
   have hw4a:QA<w4.heap.size:=KA.lt;have hw43:w+1+1+1<w4.heap.size:=K3.lt
   go_upto_region 9 with fail
   generalize hG:w4.alloc _=w5;obtain⟨KB,bG⟩:=EX hG;clear hG;replace KA:=KA.below bG KA.lt;replace K1:=K1.below bG K1.lt;replace K2:=K2.below bG K2.lt;replace K3:=K3.below bG K3.lt;replace B2:=An B2 bG;clear bG;generalize w4.heap.size=QB at KB hw4a hw43⊢;have hB1:QB≠w.heap.size+1:=Aa;have hB2:QB≠w.heap.size+1+1:=Aa;have hB3:QB≠w.heap.size+1+1+1:=Aa;have hBA:QB≠QA:=Aa;clear hw4a hw43;have eB:=KB.cell;have e1:=K1.cell
   go_wp2_with fail
   refine(HPL _).mono ?_;rintro e w6 ⟨rfl,b6⟩;replace B2:=An B2 b6;replace KA:=KA.below b6 KA.lt;replace KB:=KB.below b6 KB.lt;replace K1:=K1.below b6 K1.lt;replace K2:=K2.below b6 K2.lt;replace K3:=K3.below b6 K3.lt;clear b6 eB e1 HPL
   go_wp2_with fail
   refine(HK2 _).mono ?_;rintro e w7 ⟨rfl,b7⟩;replace B2:=An B2 b7;replace KA:=KA.below b7 KA.lt;replace KB:=KB.below b7 KB.lt;replace K1:=K1.below b7 K1.lt;replace K2:=K2.below b7 K2.lt;replace K3:=K3.below b7 K3.lt;clear b7 HK2
  rotate_right
  ·have e2:=K2.cell;have f2:=K2.frozen;have g2:=K2.lt;have e3:=K3.cell;have f3:=K3.frozen;have g3:=K3.lt;go_wp2;refine AS (v:=.tuple (CR 0 false 0 0 0 0 0 3)) (by simp[results,results316,go_sem,e2,e3,g2,g3]) rfl ⟨rfl,Ax⟩
  all_goals
   go_upto_region 12 with fail
   generalize hG:w7.alloc _=w8;obtain⟨KS,bG⟩:=EX hG;clear hG;replace KA:=KA.below bG KA.lt;replace KB:=KB.below bG KB.lt;replace K1:=K1.below bG K1.lt;replace K2:=K2.below bG K2.lt;replace K3:=K3.below bG K3.lt;replace B2:=An B2 bG;clear bG;generalize w7.heap.size=QS at KS⊢;have eS:=KS.cell;have e1:=K1.cell;have f1:=K1.frozen
   go_upto_region 15 with fail
   clear eS e1 f1 KS;have N1:Blk ((w8.setCell ⟨w+1,2,none⟩ (ZI (lo+p1))).setCell ⟨w+1,3,none⟩ (ZI (hi+p2))) (w.heap.size+1) 138 (A7 k dn (lo+p1) (hi+p2)):=(K1.set_ 2 (ZI (lo+p1))).set_ 3 (ZI (hi+p2));have N2:=(K2.far (p:=⟨w+1,2,none⟩) Aw (ZI (lo+p1))).far (p:=⟨w+1,3,none⟩) Aw (ZI (hi+p2));have N3:=(K3.far (p:=⟨w+1,2,none⟩) Aw (ZI (lo+p1))).far (p:=⟨w+1,3,none⟩) Aw (ZI (hi+p2));have NA:=(KA.far (p:=⟨w+1,2,none⟩) hA1 (ZI (lo+p1))).far (p:=⟨w+1,3,none⟩) hA1 (ZI (hi+p2));have NB:=(KB.far (p:=⟨w+1,2,none⟩) hB1 (ZI (lo+p1))).far (p:=⟨w+1,3,none⟩) hB1 (ZI (hi+p2));have B9:Below w w ((w8.setCell ⟨w+1,2,none⟩ (ZI (lo+p1))).setCell ⟨w+1,3,none⟩ (ZI (hi+p2))):=Ax;clear K1 K2 K3 KA KB B2;generalize(w8.setCell ⟨w+1,2,none⟩ (ZI (lo+p1))).setCell ⟨w+1,3,none⟩ (ZI (hi+p2))=w9 at N1 N2 N3 NA NB B9⊢;have X9:=HX.out.below B9;clear HX;have eA:=NA.cell
   go_wp2_with fail
   refine(HVD _ X9).mono ?_;rintro e w10 ⟨rfl,b10⟩;replace B9:=An B9 b10;replace NA:=NA.below b10 NA.lt;replace NB:=NB.below b10 NB.lt;replace N1:=N1.below b10 N1.lt;replace N2:=N2.below b10 N2.lt;replace N3:=N3.below b10 N3.lt;clear b10 eA HVD X9;have eA:=NA.cell;have eB:=NB.cell;have e1:=N1.cell;have f1:=N1.frozen;have e2:=N2.cell;have f2:=N2.frozen;have g2:=N2.lt;have e3:=N3.cell;have f3:=N3.frozen;have g3:=N3.lt;have hB1':=hB1.symm;have hB2':=hB2.symm;have hB3':=hB3.symm;have hBA':=hBA.symm
  ·go_upto_region 17 with fail
   go_region
   all_goals
    go_wp2;refine AS (v:=.tuple (CR b dn (lo+p1) (hi+p2) 1 p1 p2 0)) (by simp[results,results316,go_sem,e2,e3,g2,g3]) rfl ⟨by first|rfl|simp,Ax⟩
  ·go_upto_region 19 with fail
   go_region
   all_goals
    go_wp2;refine AS (v:=.tuple (CR k (!dn) (lo+p1) (hi+p2) 2 p1 p2 0)) (by simp[results,results316,go_sem,e2,e3,g2,g3]) rfl ⟨by first|rfl|simp,Ax⟩
theorem Jh:(prog.info? 138).map (fun i=>(i.zero.map (·.cells.size),i.size,i.bytes))=some (some 4,4,32):=We51ceQ
theorem AR.farM {w:World} {B K:Nat} {h:Hd} {us:List Value} (o:AR w B K h us) {p:Addr} (hr:h.row≠some p.block) (u:Value):AR (w.setCell p u) B K h us:=
 o.grown (Bc (JU _ _) (.inl rfl) _:w.grownBy (w.setCell p u) (some p.block)) (fun q e c=>hr (by rw[e];exact c.symm))
def Ln (x:En):List Value:= [.int .i64 (x.k:Int),.bool x.dn,.int .i64 x.lo,.int .i64 x.hi]
def C2 (l:List AU):List Int:=l.map AU.ev
def No (l:List AU):List Value:=l.flatMap fun y=>Ln y.st
def BF (l:List AU):List Int:=l.flatMap fun y=> [y.lo,y.hi]
theorem Td (l:List AU) (y:AU):ints (C2 (l++ [y]))=ints (C2 l)++ints [y.ev]:=by unfold C2 ints;simp
theorem UF (l:List AU) (y:AU):No (l++ [y])=No l++Ln y.st:=by unfold No;simp
theorem YP (l:List AU) (y:AU):ints (BF (l++ [y]))=ints (BF l)++ints [y.lo,y.hi]:=by unfold BF ints;simp
theorem Oo (x:En): ∀u∈Ln x,u.oneCell'=true:=by
 intro u hu;unfold Ln at hu;simp only[CC,I5,or_false] at hu;rcases hu with rfl|rfl|rfl|rfl<;>rfl
theorem dV (w:World) (x:En) (e:TypeId):Rd (w.alloc (.cells (A7 x.k x.dn x.lo x.hi) e)) (some ⟨w,0,none⟩) (1*4) (Ln x):=
 (Br w e (A7 x.k x.dn x.lo x.hi)).rd rfl (fun i hi=>by
  obtain rfl|rfl|rfl|rfl:i=0∨i=1∨i=2∨i=3:=Aa
  all_goals rfl)
theorem da (w:World) (a b:Int) (e:TypeId):Rd (w.alloc (.cells (Zii a b) e)) (some ⟨w,0,none⟩) (1*2) (ints [a,b]):=
 (Br w e (Zii a b)).rd rfl (fun i hi=>by
  obtain rfl|rfl:i=0∨i=1:=Aa
  all_goals rfl)
structure DT (W:World) (g B:Nat) (he hs ha:Hd) (us vs ws:List Value):Prop where
 box:Blk W g 223 (Dj he.A he.n he.c hs.A hs.n hs.c ha.A ha.n ha.c)
 gB:g<B
 oE:AR W B 1 he us
 oS:AR W B 4 hs vs
 oA:AR W B 2 ha ws
 es: ∀q,he.row=some q→hs.row≠some q
 ea: ∀q,he.row=some q→ha.row≠some q
 sa: ∀q,hs.row=some q→ha.row≠some q
section
variable {W W' : World} {g B : Nat} {he hs ha : Hd} {us vs ws : List Value}
theorem DT.below (R:DT W g B he hs ha us vs ws) (k:Below W W W'):DT W' g B he hs ha us vs ws:=⟨R.box.below k R.box.lt,R.gB,R.oE.below k,R.oS.below k,R.oA.below k,R.es,R.ea,R.sa⟩
theorem DT.al (R:DT W g B he hs ha us vs ws) (o:Obj):DT (W.alloc o) g B he hs ha us vs ws:=R.below ((AP _ _).alloc Bk o)
theorem DT.far (R:DT W g B he hs ha us vs ws) {b i:Nat} (hb:b<B) (hg:g≠b) (u:Value):DT (W.setCell ⟨b,i,none⟩ u) g B he hs ha us vs ws:=
 ⟨R.box.far (p:=⟨b,i,none⟩) hg u,R.gB,R.oE.farM (fun e=>by have:=(R.oE.rowlt _ e).1;simp only at this;omega) _,R.oS.farM (fun e=>by have:=(R.oS.rowlt _ e).1;simp only at this;omega) _,R.oA.farM (fun e=>by have:=(R.oA.rowlt _ e).1;simp only at this;omega) _,R.es,R.ea,R.sa⟩
def Wu (W V:World) (g B:Nat) (row:Option Nat):Prop:=(∀n w0,n≤g→n≤W→Below n w0 W→Below n w0 V)∧(∀q t cs,Blk W q t cs→(q<B∨ ∀z,row=some z→z≠q)→q≠g→Blk V q t cs)∧W.heap.size≤V.heap.size
theorem Od {h:Hd} {K i:Nat} {xs:List Value} {u:Value} (o:AR W B K h xs) (hgB:g<B) (gg:W.grownBy W' h.row):Wu W (W'.setCell ⟨g,i,none⟩ u) g B h.row:=by
 refine⟨fun n w0 hn hw h0=> ?_,fun q t cs k hq hqg=> ?_,Ch gg.size Cr⟩
 ·exact(h0.grown gg hw (fun q e=>by have:=(o.rowlt q e).1;omega)).setCell (p:=⟨g,i,none⟩) hn _
 ·exact(k.grown gg (fun e=>by
   rcases hq with hq|hq
   ·have:=(o.rowlt _ e).1;omega
   ·exact hq _ e rfl)).far (p:=⟨g,i,none⟩) hqg u
theorem DT.pushE (R:DT W g B he hs ha us vs ws) {xs:List Value} {G:Hd} (oG:AR W' B 1 G (us++xs)) (gg:W.grownBy W' he.row) (hat:G.row=he.row∨ ∃q,G.row=some q∧W.heap.size≤q):
  DT (W'.setCell ⟨g,0,none⟩ (.slice G.A G.n G.c)) g B G hs ha (us++xs) vs ws∧Wu W (W'.setCell ⟨g,0,none⟩ (.slice G.A G.n G.c)) g B he.row:=by
 have hgB:=R.gB;refine⟨⟨?_,R.gB,?_,?_,?_,?_,?_,R.sa⟩,Od R.oE R.gB gg⟩
 ·exact(R.box.grown gg (fun e=>by have:=(R.oE.rowlt _ e).1;omega)).set_ 0 _
 ·exact oG.farM (fun e=>by have:=(oG.rowlt _ e).1;simp only at this;omega) _
 ·exact(R.oS.grown gg (fun q e c=>R.es _ c e)).farM (fun e=>by have:=(R.oS.rowlt _ e).1;simp only at this;omega) _
 ·exact(R.oA.grown gg (fun q e c=>R.ea _ c e)).farM (fun e=>by have:=(R.oA.rowlt _ e).1;simp only at this;omega) _
 ·intro q e e2;rcases hat with h|⟨r,h,h'⟩
  ·exact R.es q (h▸e) e2
  ·rw[h] at e;injection e with e;have:=(R.oS.rowlt _ e2).2;omega
 ·intro q e e2;rcases hat with h|⟨r,h,h'⟩
  ·exact R.ea q (h▸e) e2
  ·rw[h] at e;injection e with e;have:=(R.oA.rowlt _ e2).2;omega
theorem DT.pushS (R:DT W g B he hs ha us vs ws) {xs:List Value} {G:Hd} (oG:AR W' B 4 G (vs++xs)) (gg:W.grownBy W' hs.row) (hat:G.row=hs.row∨ ∃q,G.row=some q∧W.heap.size≤q):
  DT (W'.setCell ⟨g,1,none⟩ (.slice G.A G.n G.c)) g B he G ha us (vs++xs) ws∧Wu W (W'.setCell ⟨g,1,none⟩ (.slice G.A G.n G.c)) g B hs.row:=by
 have hgB:=R.gB;refine⟨⟨?_,R.gB,?_,?_,?_,?_,R.ea,?_⟩,Od R.oS R.gB gg⟩
 ·exact(R.box.grown gg (fun e=>by have:=(R.oS.rowlt _ e).1;omega)).set_ 1 _
 ·exact(R.oE.grown gg (fun q e c=>R.es _ e c)).farM (fun e=>by have:=(R.oE.rowlt _ e).1;simp only at this;omega) _
 ·exact oG.farM (fun e=>by have:=(oG.rowlt _ e).1;simp only at this;omega) _
 ·exact(R.oA.grown gg (fun q e c=>R.sa _ c e)).farM (fun e=>by have:=(R.oA.rowlt _ e).1;simp only at this;omega) _
 ·intro q e e2;rcases hat with h|⟨r,h,h'⟩
  ·exact R.es q e (h▸e2)
  ·rw[h] at e2;injection e2 with e2;have:=(R.oE.rowlt _ e).2;omega
 ·intro q e e2;rcases hat with h|⟨r,h,h'⟩
  ·exact R.sa q (h▸e) e2
  ·rw[h] at e;injection e with e;have:=(R.oA.rowlt _ e2).2;omega
theorem DT.pushA (R:DT W g B he hs ha us vs ws) {xs:List Value} {G:Hd} (oG:AR W' B 2 G (ws++xs)) (gg:W.grownBy W' ha.row) (hat:G.row=ha.row∨ ∃q,G.row=some q∧W.heap.size≤q):
  DT (W'.setCell ⟨g,2,none⟩ (.slice G.A G.n G.c)) g B he hs G us vs (ws++xs)∧Wu W (W'.setCell ⟨g,2,none⟩ (.slice G.A G.n G.c)) g B ha.row:=by
 have hgB:=R.gB;refine⟨⟨?_,R.gB,?_,?_,?_,R.es,?_,?_⟩,Od R.oA R.gB gg⟩
 ·exact(R.box.grown gg (fun e=>by have:=(R.oA.rowlt _ e).1;omega)).set_ 2 _
 ·exact(R.oE.grown gg (fun q e c=>R.ea _ e c)).farM (fun e=>by have:=(R.oE.rowlt _ e).1;simp only at this;omega) _
 ·exact(R.oS.grown gg (fun q e c=>R.sa _ e c)).farM (fun e=>by have:=(R.oS.rowlt _ e).1;simp only at this;omega) _
 ·exact oG.farM (fun e=>by have:=(oG.rowlt _ e).1;simp only at this;omega) _
 ·intro q e e2;rcases hat with h|⟨r,h,h'⟩
  ·exact R.ea q e (h▸e2)
  ·rw[h] at e2;injection e2 with e2;have:=(R.oE.rowlt _ e).2;omega
 ·intro q e e2;rcases hat with h|⟨r,h,h'⟩
  ·exact R.sa q e (h▸e2)
  ·rw[h] at e2;injection e2 with e2;have:=(R.oS.rowlt _ e).2;omega
end
structure DI (W:World) (B:Nat) (he hs ha:Hd) (l:List AU):Prop where
 en:he.n=l.length
 sn:hs.n=l.length
 an:ha.n=l.length
 re:Rd W he.A he.n (ints (C2 l))
 rs:Rd W hs.A (hs.n*4) (No l)
 ra:Rd W ha.A (ha.n*2) (ints (BF l))
 be: ∀ad,he.A=some ad→0<he.n→B≤ad.block
 bs: ∀ad,hs.A=some ad→0<hs.n→B≤ad.block
 ba: ∀ad,ha.A=some ad→0<ha.n→B≤ad.block
theorem DI.below {W W':World} {B:Nat} {he hs ha:Hd} {l:List AU} (T:DI W B he hs ha l) (b:Below W W W'):DI W' B he hs ha l:=⟨T.en,T.sn,T.an,T.re.below b,T.rs.below b,T.ra.below b,T.be,T.bs,T.ba⟩
theorem DI.low {W:World} {B C:Nat} {he hs ha:Hd} {l:List AU} (T:DI W B he hs ha l) (h:C≤B):DI W C he hs ha l:=⟨T.en,T.sn,T.an,T.re,T.rs,T.ra,fun a e n=>Ch h (T.be a e n),fun a e n=>Ch h (T.bs a e n),fun a e n=>Ch h (T.ba a e n)⟩
theorem DI.cell {W:World} {B:Nat} {he hs ha:Hd} {l:List AU} (T:DI W B he hs ha l) {b i:Nat} (h:b<B) (u:Value):DI (W.setCell ⟨b,i,none⟩ u) B he hs ha l:=
 ⟨T.en,T.sn,T.an,T.re.keep fun ad e hn=>Below.heap_setCell _ _ _ _ (fun c=>by have:=T.be ad e hn;simp only at c;omega),T.rs.keep fun ad e hn=>Below.heap_setCell _ _ _ _ (fun c=>by have:=T.bs ad e Aa;simp only at c;omega),T.ra.keep fun ad e hn=>Below.heap_setCell _ _ _ _ (fun c=>by have:=T.ba ad e Aa;simp only at c;omega),T.be,T.bs,T.ba⟩
theorem DI.drew {W:World} {B:Nat} {he hs ha:Hd} {l:List AU} (T:DI W B he hs ha l):DI W.drew B he hs ha l:=T.below GJ
theorem AR.lowA {w:World} {B K:Nat} {h:Hd} {us:List Value} (o:AR w B K h us) (ad:Addr) (e:h.A=some ad) (hn:0<h.n):B≤ad.block:=(o.at_ ad e (by have:=o.nc;omega)).1
theorem DT.rd {W:World} {g B:Nat} {he hs ha:Hd} {l:List AU} (T:DT W g B he hs ha (ints (C2 l)) (No l) (ints (BF l))):DI W B he hs ha l:=by
 have h1:(ints (C2 l)).length=he.n*1:=T.oE.len;have h2:(No l).length=hs.n*4:=T.oS.len;have h3:(ints (BF l)).length=ha.n*2:=T.oA.len;have e1:(ints (C2 l)).length=l.length:=by unfold ints C2;simp
 have e2:(No l).length=l.length*4:=by
  clear T h1 h2 h3 e1
  induction l with
  |nil=>rfl
  |cons y t ih=>unfold No at*;rw[List.flatMap_cons,Dy,ih];simp[Ln];omega
 have e3:(ints (BF l)).length=l.length*2:=by
  clear T h1 h2 h3 e1 e2;unfold ints;rw[List.length_map]
  induction l with
  |nil=>rfl
  |cons y t ih=>unfold BF at*;rw[List.flatMap_cons,Dy,ih];simp;omega
 exact⟨by omega,by omega,by omega,T.oE.rd1,T.oS.rd,T.oA.rd,T.oE.lowA,T.oS.lowA,T.oA.lowA⟩
def Wx (r:Al) (n:Nat) (w:World) (e:Ending) (w':World):Prop:=
 (r.tr n=none∧e=.returned (.tuple #[DU,ZI 3])∧Below w w w')∨
 ∃(x:En) (l:List AU) (he hs ha:Hd),r.tr n=some (x,l)∧e=.returned (.tuple #[Dj he.A he.n he.c hs.A hs.n hs.c ha.A ha.n ha.c,ZI 0])∧DI w' w.heap.size he hs ha l∧Below w w w'
theorem V4 {r:Al} {n:Nat} {w w':World} (h:r.tr n=none) (b:Below w w w'):Wx r n w (.returned (.tuple #[DU,ZI 3])) w':=Or.inl ⟨h,rfl,b⟩
theorem V5 {r:Al} {n:Nat} {w w':World} {x:En} {l:List AU} {he hs ha:Hd} (h:r.tr n=some (x,l)) (T:DI w' w.heap.size he hs ha l) (b:Below w w w'):Wx r n w (.returned (.tuple #[Dj he.A he.n he.c hs.A hs.n hs.c ha.A ha.n ha.c,ZI 0])) w':=Or.inr ⟨x,l,he,hs,ha,h,rfl,T,b⟩
theorem Lt {r:Al} {k:Nat} (h:r.tr k=none): ∀n,k≤n→r.tr n=none
 |0,hn=>by obtain rfl:k=0:=Aa;exact h
 |n+1,hn=>by
  by_cases e:k=n+1
  ·rw[←e];exact h
  ·have ih:=Lt h n Aa;show(match r.tr n with|none=>none|some (x,l)=>match r.step x with|none=>none|some y=>some (y.st,l++ [y]))=none
   rw[ih]
theorem Nr {r:Al} {k:Nat} {x:En} {l:List AU} (h:r.tr k=some (x,l)):(r.step x=none→r.tr (k+1)=none)∧ ∀y,r.step x=some y→r.tr (k+1)=some (y.st,l++ [y]):=by
 have e:r.tr (k+1)=(match r.tr k with|none=>none|some (x,l)=>match r.step x with|none=>none|some y=>some (y.st,l++ [y])):=rfl
 rw[h] at e;refine⟨fun hs=> ?_,fun y hs=> ?_⟩<;> ·rw[e];simp only[hs]
def GZ (l:Am) (code:Int) (w:World) (e:Ending) (w':World):Prop:=
 ∃k,e=.returned (.tuple #[Bd k l,ZI code])∧Cl k∧Ag w' (AO k l)∧AB w' w.heap.size (AO k l)∧Dx (Cf k)∧Below w w w'
theorem FE {w w':World} {code:Int} (hb:Below w w w'):
  GZ GT code w (.returned (.tuple (Ew 0 0 0 none 0 0 none 0 0 code))) w':=
 ⟨⟨⟨none,0,0⟩,⟨none,0,0⟩⟩,rfl,⟨AZ _,AZ _⟩,
  Ag.cons (s:=⟨none,0,[]⟩) (Rd.nil _ _) (Ag.cons (s:=⟨none,0,[]⟩) (Rd.nil _ _) (Ag.nil _)),
  AB.cons (s:=⟨none,0,[]⟩) (fun h=>absurd h Ah) (AB.cons (s:=⟨none,0,[]⟩) (fun h=>absurd h Ah) (AB.nil _ _)),
  Dx.step (B:=0) (fun b e=>by simp[blkp] at e) (Hi.cons (fun b e=>by simp[blkp] at e) (Hi.nil _)) (Dx.step (B:=0) (fun b e=>by simp[blkp] at e) (Hi.nil _) Dx.nil),hb⟩

def Ey (s wd hg x y:Int):Int:=if x/s<wd∧y/s<hg then y/s*wd+x/s else-1
theorem J6 {x s:Int} (h0:0≤x) (h1:x≤10000) (hs:1≤s):0≤x/s∧x/s≤10000∧x.tdiv s=x/s:=by
 have a:=Int.ediv_nonneg h0 (show 0≤s by omega)
 have b:=Int.ediv_le_self s h0;exact⟨a,by omega,Int.tdiv_eq_ediv_of_nonneg h0⟩
theorem NJ {s wd hg x y:Int} (h0:0≤x) (h1:0≤y) (hs:1≤s) (hw:1≤wd) (h:0≤Ey s wd hg x y):Ey s wd hg x y<wd*hg:=by
 unfold Ey at*
 split at h
 ·rename_i hc
  rw[AA hc];have e:(y/s+1)*wd≤hg*wd:=ME Aa Aa;rw[Int.add_mul,Int.one_mul] at e;rw[Int.mul_comm wd hg];omega
 ·omega
theorem Rq (s wd hg x y:Int) (S1 S2:Value) (w:World) (hs0:1≤s) (hs1:s≤10000) (hw0:1≤wd) (hw1:wd≤30) (hx0:0≤x) (hx1:x≤10000) (hy0:0≤y) (hy1:y≤10000) (hc1: ∃A n c,S1=.slice A n c) (hc2: ∃A n c,S2=.slice A n c):
  (BT 237 #[.agg #[ZI s,ZI wd,ZI hg,S1,S2],ZI x,ZI y] w (ZI (Ey s wd hg x y)):Prop):=by
 obtain⟨A1,n1,c1,rfl⟩:=hc1;obtain⟨A2,n2,c2,rfl⟩:=hc2;have K0:=Br w 181 (AH s wd hg A1 n1 c1 A2 n2 c2);have b0:Below w w (w.alloc (.cells (AH s wd hg A1 n1 c1 A2 n2 c2) 181)):=BU;obtain⟨qx0,qx1,qx2⟩:=J6 hx0 hx1 hs0;obtain⟨qy0,qy1,qy2⟩:=J6 hy0 hy1 hs0;have hsn: ¬s=0:=Aa;have HC:Hid (Ey s wd hg x y=if x/s<wd∧y/s<hg then y/s*wd+x/s else-1):=rfl;generalize x/s=qx at*;generalize y/s=qy at*;have wx:=Bg qx;have wy:=Bg qy
 go_enter func237,ntmps237
 go_upto_region 1 with fail
 generalize w.alloc _=w1 at K0 b0⊢;have e0:=K0.cell
 go_quiet (fail)
 revert nq;intro nq1;have p0:0≤qy*wd:=Du qy0 Aa;have p1:qy*wd≤10000*30:=CL qy1 hw1 Aa Aa;obtain⟨p,hp⟩: ∃p,qy*wd=p:=⟨_,rfl⟩;rw[hp] at p0 p1 HC;have wp:=Bg p;have wpx:=Bg (p+qx);have e1: ∀o,(w1.drewN nq1).cell? ⟨w,o,none⟩=((AH s wd hg A1 n1 c1 A2 n2 c2):Array Value)[o]? :=e0;have b1:Below w w (w1.drewN nq1):=Ba b0 _
 by_cases h1:qx<wd
 ·have h1': ¬wd≤qx:=Aa
  by_cases h2:qy<hg
  ·have h2': ¬hg≤qy:=Aa;rw[AA ⟨h1,h2⟩] at HC;go_wp2;go_ret;exact⟨Bb HC.out.symm,b1⟩
  ·have h2':hg≤qy:=Aa;rw[Ak (fun c=>h2 c.2)] at HC;go_wp2;go_ret;exact⟨Bb HC.out.symm,b1⟩
 ·have h1':wd≤qx:=Aa;rw[Ak (fun c=>h1 c.1)] at HC;go_wp2;go_ret;exact⟨Bb HC.out.symm,b1⟩
theorem Sz (s wd hg x y:Int) (S1 S2:Value) (w:World) (hs0:1≤s) (hs1:s≤10000) (hw0:1≤wd) (hw1:wd≤30) (hx0:0≤x) (hx1:x≤10000) (hy0:0≤y) (hy1:y≤10000) (hc1: ∃A n c,S1=.slice A n c) (hc2: ∃A n c,S2=.slice A n c):
  (BT 220 #[.agg #[ZI s,ZI wd,ZI hg,S1,S2],ZI x,ZI y] w (ZI (Ey s wd hg x y)):Prop):=by
 obtain⟨A1,n1,c1,rfl⟩:=hc1;obtain⟨A2,n2,c2,rfl⟩:=hc2;have K0:=Br w 181 (AH s wd hg A1 n1 c1 A2 n2 c2);have b0:Below w w (w.alloc (.cells (AH s wd hg A1 n1 c1 A2 n2 c2) 181)):=BU;obtain⟨qx0,qx1,qx2⟩:=J6 hx0 hx1 hs0;obtain⟨qy0,qy1,qy2⟩:=J6 hy0 hy1 hs0;have hsn: ¬s=0:=Aa;have HC:Hid (Ey s wd hg x y=if x/s<wd∧y/s<hg then y/s*wd+x/s else-1):=rfl;generalize x/s=qx at*;generalize y/s=qy at*;have wx:=Bg qx;have wy:=Bg qy
 go_enter func220,ntmps220
 go_upto_region 1 with fail
 generalize w.alloc _=w1 at K0 b0⊢;have e0:=K0.cell;have p0:0≤qy*wd:=Du qy0 Aa;have p1:qy*wd≤10000*30:=CL qy1 hw1 Aa Aa;obtain⟨p,hp⟩: ∃p,qy*wd=p:=⟨_,rfl⟩;rw[hp] at p0 p1 HC;have wp:=Bg p;have wpx:=Bg (p+qx)
 by_cases h1:qx<wd
 ·have h1': ¬wd≤qx:=Aa
  by_cases h2:qy<hg
  ·have h2': ¬hg≤qy:=Aa;rw[AA ⟨h1,h2⟩] at HC
   go_quiet (fail)
   revert nq;intro nq1
   go_wp2_with fail
   go_quiet (fail)
   revert nq;intro nq2;go_wp2;go_ret;exact⟨Bb HC.out.symm,by first|exact Ba b0 _|exact Ba (Ba b0 _) _⟩
  ·have h2':hg≤qy:=Aa;rw[Ak (fun c=>h2 c.2)] at HC
   go_quiet (fail)
   revert nq;intro nq1;go_wp2;go_ret;exact⟨Bb HC.out.symm,by first|exact Ba b0 _|exact Ba (Ba b0 _) _⟩
 ·have h1':wd≤qx:=Aa;rw[Ak (fun c=>h1 c.1)] at HC
  go_quiet (fail)
  revert nq;intro nq1;go_wp2;go_ret;exact⟨Bb HC.out.symm,by first|exact Ba b0 _|exact Ba (Ba b0 _) _⟩
theorem CW (x y d r:Int) (w:World) (h1: -2000≤d) (h2:d≤1000000) (h3:0≤r) (h4:r≤5000):
  (BT 232 #[Ziiii x y d r] w (Zii (d-r) (d+r)):Prop):=by
 go_enter func232,ntmps232
 go_upto_region 1 with fail
 generalize hG:(w.alloc _).alloc _=w1;obtain⟨K1,K2,b0⟩:=Qg hG;clear hG;have e1:=K1.cell;have e2:=K2.cell;have f2:=K2.frozen;have g2:=K2.lt;go_wp2;refine AS (v:=.agg (Zii (d-r) (d+r))) (by simp[results,results232,go_sem,e2,g2]) rfl ⟨rfl,?_⟩
 repeat(first|with_reducible exact b0|refine Below.setCell ?_ (by simp<;>omega) _)
theorem CZ (x y d r:Int) (w:World) (h1: -2000≤d) (h2:d≤1000000) (h3:0≤r) (h4:r≤5000):
  (BT 214 #[Ziiii x y d r] w (Zii (d-r) (d+r)):Prop):=by
 go_enter func214,ntmps214
 go_upto_region 1 with fail
 generalize hG:(w.alloc _).alloc _=w1;obtain⟨K1,K2,b0⟩:=Qg hG;clear hG;have e1:=K1.cell;have e2:=K2.cell;have f2:=K2.frozen;have g2:=K2.lt;go_wp2;refine AS (v:=.agg (Zii (d-r) (d+r))) (by simp[results,results214,go_sem,e2,g2]) rfl ⟨rfl,?_⟩
 repeat(first|with_reducible exact b0|refine Below.setCell ?_ (by simp<;>omega) _)
def PV (xs:List Int) (i:Nat):Int:=xs.getD (i*4+2) 0-xs.getD (i*4+3) 0
def shlTo (xs:List Int):Nat→Nat
 |0=>0
 |k+1=>if PV xs k<PV xs (shlTo xs k) then k else shlTo xs k
theorem Lf (xs:List Int) {n:Nat} (hn:0<n): ∀k,k≤n→shlTo xs k<n
 |0,_=>hn
 |k+1,h=>by
  have ih:=Lf xs hn k Aa;show(if PV xs k<PV xs (shlTo xs k) then k else shlTo xs k)<n
  split<;>omega
theorem Sv {xs:List Int} {n k:Nat} (h:BJ xs n=true) (hk:k<n):(-2000≤xs.getD (k*4+2) 0∧xs.getD (k*4+2) 0≤1000000)∧0≤xs.getD (k*4+3) 0∧xs.getD (k*4+3) 0≤5000:=by
 unfold BJ Dg at h;rw[CD] at h;have h2:=List.all_eq_true.1 h.1 k (Eo.2 hk);have h3:DP (xs.getD (k*4) 0) (xs.getD (k*4+1) 0) (xs.getD (k*4+2) 0) (xs.getD (k*4+3) 0)=true:=h2;unfold DP at h3;simp only[CD] at h3;exact⟨Ac h3.1.2,Ac h3.2⟩
def dH (xs:List Int) (n:Nat):Value:=if n=0 then .tuple (Zii 0 4) else .tuple (Zii (shlTo xs n:Int) 0)
theorem FL (A:Option Addr) (n c:Nat) (xs:List Int) (w:World) (hv:BJ xs n=true) (hr:Rd w A (n*4) (ints xs)):
  (BT 186 #[.slice A n c] w (dH xs n):Prop):=by
 have hn200:n≤200:=Ft;have HA:=De A n c xs w Aa hr;rw[hv] at HA;unfold dH
 by_cases h0:n=0
 ·rw[AA h0];subst h0
  go_enter func186,ntmps186
  go_wp2_with fail
  refine HA.mono ?_;rintro e w1 ⟨rfl,b1⟩;go_wp2
  go_ret2;exact⟨rfl,b1⟩
 rw[Ak h0];have n0:((n:Int)==0)=false:=E8;have hn0:0<n:=Aa
 have HRD:Hid (∀k,k<n→ ∃ad,A=some ad∧ ∀V,Below w w V→V.cell? (ad.add (k*4))=ZS (xs.getD (k*4) 0)∧V.cell? ⟨(ad.add (k*4)).block,(ad.add (k*4)).off+1,none⟩=ZS (xs.getD (k*4+1) 0)∧V.cell? ⟨(ad.add (k*4)).block,(ad.add (k*4)).off+2,none⟩=ZS (xs.getD (k*4+2) 0)∧V.cell? ⟨(ad.add (k*4)).block,(ad.add (k*4)).off+3,none⟩=ZS (xs.getD (k*4+3) 0)):=fun k hk=>by
  obtain⟨ad,hA,-⟩:=hr.fourS hk;refine⟨ad,hA,fun V b=> ?_⟩;obtain⟨ad',hA',h⟩:=(hr.below b).fourS hk;rw[hA] at hA'
  cases hA'
  exact h
 have HV:=Ai hv;have HFL: ∀(a b:Int) (W:World),(Instr.field 136 (Zii a b) 0).run prog W=.ok (ZI a) W:=fun _ _ _=>rfl;have HS:=Ai (@Lf xs n hn0);have HST:Hid (∀k,shlTo xs (k+1)=if PV xs k<PV xs (shlTo xs k) then k else shlTo xs k):=fun _=>rfl;clear hv h0
 go_enter func186,ntmps186
 go_wp2_with fail
 refine HA.mono ?_;rintro e w1 ⟨rfl,b1⟩;clear HA;obtain⟨ad0,hA0,-⟩:=HRD.out 0 hn0;subst hA0
 go_wp2_with fail
 go_loopw [4,17] (fun t i wr=> ∃k:Nat,k≤n∧i=.int .i64 k∧t=.int .i64 (shlTo xs k:Int)∧Below w w wr) (fun _ i _=>n-(intOf i).toNat)
 case atStart=>exact⟨0,AZ _,rfl,rfl,b1⟩
 case round=>
  clear b1;obtain⟨k,hk,rfl,rfl,b⟩:=hrel
  by_cases hlt:k<n
  ·have hltI:(k:Int)<(n:Int):=Aa;have hq:=HS.out k hk;obtain⟨_,hA1,HC1⟩:=HRD.out k hlt
   cases hA1
   obtain⟨_,hA2,HC2⟩:=HRD.out (shlTo xs k) hq
   cases hA2
   have i1:=Sv HV.out hlt;have i2:=Sv HV.out hq;have HE:Hid (shlTo xs (k+1)=if xs.getD (k*4+2) 0-xs.getD (k*4+3) 0<xs.getD (shlTo xs k*4+2) 0-xs.getD (shlTo xs k*4+3) 0 then k else shlTo xs k):=HST.out k;have hqI:((shlTo xs k:Nat):Int)<(n:Int):=Aa;generalize shlTo xs k=q at*;generalize xs.getD (k*4) 0=x1 at*;generalize xs.getD (k*4+1) 0=y1 at*;generalize xs.getD (k*4+2) 0=d1 at*;generalize xs.getD (k*4+3) 0=r1 at*;generalize xs.getD (q*4) 0=x2 at*;generalize xs.getD (q*4+1) 0=y2 at*;generalize xs.getD (q*4+2) 0=d2 at*;generalize xs.getD (q*4+3) 0=r2 at*;have HB1:=fun W=>CW x1 y1 d1 r1 W i1.1.1 i1.1.2 i1.2.1 i1.2.2;have HB2:=fun W=>CW x2 y2 d2 r2 W i2.1.1 i2.1.2 i2.2.1 i2.2.2;obtain⟨k0,k1,k2,k3⟩:=HC1 wr b;have hzb:=b.size;have K6:=Br wr 65 (Ziiii x1 y1 d1 r1);have B6:Below w w (wr.alloc (.cells (Ziiii x1 y1 d1 r1) 65)):=Ax
   go_upto_region 9 with fail
   generalize wr.alloc _=w6 at K6 B6⊢;generalize wr.heap.size=Q6 at K6⊢;clear k0 k1 k2 k3;have HC2':=fun(V:World) (c:Below w6 w6 V)=>HC2 V (An B6 c);clear HC1 HC2;have hs0: ∀o,w6.cell? ⟨Q6,o,none⟩=((Ziiii x1 y1 d1 r1):Array Value)[o]? :=K6.cell
   go_region_held3 (fun w'=>(∀o,w'.cell? ⟨Q6,o,none⟩=((Ziiii x1 y1 d1 r1):Array Value)[o]?)∧w'.cell? (ad0.add (q*4))=ZS x2∧w'.cell? ⟨(ad0.add (q*4)).block,(ad0.add (q*4)).off+1,none⟩=ZS y2∧w'.cell? ⟨(ad0.add (q*4)).block,(ad0.add (q*4)).off+2,none⟩=ZS d2∧w'.cell? ⟨(ad0.add (q*4)).block,(ad0.add (q*4)).off+3,none⟩=ZS r2)
    (exact bn)
    (first
     |((fail_if_success (clear hbu0));go_at_call 232;refine(HB1 _).mono ?_;rintro e u0 ⟨rfl,bu0⟩;have hbu0:Below w6 w6 u0:=(show Below w6 w6 _ from Ax).trans (bu0.mono C9);have hzu0:=hbu0.size;have hxu0:=bu0.size;(try simp at hxu0);have hs0u0: ∀o,u0.cell? ⟨Q6,o,none⟩=((Ziiii x1 y1 d1 r1):Array Value)[o]? :=fun o=>(K6.below hbu0 K6.lt).cell o;have hy0u0:Q6<u0.heap.size:=(K6.below hbu0 K6.lt).lt)
     |((fail_if_success (clear hbu1));go_at_call 232;refine(HB2 _).mono ?_;rintro e u1 ⟨rfl,bu1⟩;have hbu1:Below w6 w6 u1:=(show Below w6 w6 _ from Ax).trans (bu1.mono C9);have hzu1:=hbu1.size;have hxu1:=bu1.size;(try simp at hxu1);have hbu0u1:Below u0 u0 u1:=(show Below u0 u0 _ from Ax).trans (bu1.mono C9);have hs0u1: ∀o,u1.cell? ⟨Q6,o,none⟩=((Ziiii x1 y1 d1 r1):Array Value)[o]? :=fun o=>(K6.below hbu1 K6.lt).cell o;have hy0u1:Q6<u1.heap.size:=(K6.below hbu1 K6.lt).lt))
   all_goals
    have B7:=An B6 hbu1
    by_cases hc:d1-r1<d2-r2
    ·have HW:Hid (shlTo xs (k+1)=k):=by rw[HE.out,AA hc];trivial
     go_wp2
     go_roundw
     case rel=>exact⟨k+1,by omega,by go_num,by rw[HW.out],B7⟩
     case measure=>simp[intOf];omega
    ·have HW:Hid (shlTo xs (k+1)=q):=by rw[HE.out,Ak hc];trivial
     go_wp2
     go_roundw
     case rel=>exact⟨k+1,by omega,by go_num,by rw[HW.out],B7⟩
     case measure=>simp[intOf];omega
  ·obtain rfl:n=k:=Aa;have hltI: ¬(n:Int)<(n:Int):=Aa;go_wp2
   go_ret2;exact⟨rfl,b⟩
theorem F8 (A:Option Addr) (n c:Nat) (xs:List Int) (w:World) (hv:BJ xs n=true) (hr:Rd w A (n*4) (ints xs)):
  (BT 170 #[.slice A n c] w (dH xs n):Prop):=by
 have hn200:n≤200:=Ft;have HA:=Dh A n c xs w Aa hr;rw[hv] at HA;unfold dH
 by_cases h0:n=0
 ·rw[AA h0];subst h0
  go_enter func170,ntmps170
  go_wp2_with fail
  refine HA.mono ?_;rintro e w1 ⟨rfl,b1⟩;go_wp2
  go_ret2;exact⟨rfl,b1⟩
 rw[Ak h0];have n0:((n:Int)==0)=false:=E8;have hn0:0<n:=Aa
 have HRD:Hid (∀k,k<n→ ∃ad,A=some ad∧ ∀V,Below w w V→V.cell? (ad.add (k*4))=ZS (xs.getD (k*4) 0)∧V.cell? ⟨(ad.add (k*4)).block,(ad.add (k*4)).off+1,none⟩=ZS (xs.getD (k*4+1) 0)∧V.cell? ⟨(ad.add (k*4)).block,(ad.add (k*4)).off+2,none⟩=ZS (xs.getD (k*4+2) 0)∧V.cell? ⟨(ad.add (k*4)).block,(ad.add (k*4)).off+3,none⟩=ZS (xs.getD (k*4+3) 0)):=fun k hk=>by
  obtain⟨ad,hA,-⟩:=hr.fourS hk;refine⟨ad,hA,fun V b=> ?_⟩;obtain⟨ad',hA',h⟩:=(hr.below b).fourS hk;rw[hA] at hA'
  cases hA'
  exact h
 have HV:=Ai hv;have HFL: ∀(a b:Int) (W:World),(Instr.field 136 (Zii a b) 0).run prog W=.ok (ZI a) W:=fun _ _ _=>rfl;have HS:=Ai (@Lf xs n hn0);have HST:Hid (∀k,shlTo xs (k+1)=if PV xs k<PV xs (shlTo xs k) then k else shlTo xs k):=fun _=>rfl;clear hv h0
 go_enter func170,ntmps170
 go_wp2_with fail
 refine HA.mono ?_;rintro e w1 ⟨rfl,b1⟩;clear HA;obtain⟨ad0,hA0,-⟩:=HRD.out 0 hn0;subst hA0
 go_wp2_with fail
 go_loopw [4,5] (fun t i wr=> ∃k:Nat,1≤k∧k≤n∧i=.int .i64 k∧t=.int .i64 (shlTo xs k:Int)∧Below w w wr) (fun _ i _=>n-(intOf i).toNat)
 case atStart=>exact⟨1,Cp _,hn0,rfl,by(have h:=HST.out 0;rw[Ak (by show¬PV xs 0<PV xs 0;omega)] at h;rw[h];rfl),b1⟩
 case round=>
  clear b1;obtain⟨k,hk1,hk,rfl,rfl,b⟩:=hrel
  by_cases hlt:k<n
  ·have hltI:(k:Int)<(n:Int):=Aa;have hq:=HS.out k hk;obtain⟨_,hA1,HC1⟩:=HRD.out k hlt
   cases hA1
   obtain⟨_,hA2,HC2⟩:=HRD.out (shlTo xs k) hq
   cases hA2
   have i1:=Sv HV.out hlt;have i2:=Sv HV.out hq;have HE:Hid (shlTo xs (k+1)=if xs.getD (k*4+2) 0-xs.getD (k*4+3) 0<xs.getD (shlTo xs k*4+2) 0-xs.getD (shlTo xs k*4+3) 0 then k else shlTo xs k):=HST.out k;have hqI:((shlTo xs k:Nat):Int)<(n:Int):=Aa;generalize shlTo xs k=q at*;generalize xs.getD (k*4) 0=x1 at*;generalize xs.getD (k*4+1) 0=y1 at*;generalize xs.getD (k*4+2) 0=d1 at*;generalize xs.getD (k*4+3) 0=r1 at*;generalize xs.getD (q*4) 0=x2 at*;generalize xs.getD (q*4+1) 0=y2 at*;generalize xs.getD (q*4+2) 0=d2 at*;generalize xs.getD (q*4+3) 0=r2 at*;have HB1:=fun W=>CZ x1 y1 d1 r1 W i1.1.1 i1.1.2 i1.2.1 i1.2.2;have HB2:=fun W=>CZ x2 y2 d2 r2 W i2.1.1 i2.1.2 i2.2.1 i2.2.2;obtain⟨k0,k1,k2,k3⟩:=HC1 wr b;clear k0 k1 k2 k3
   go_wp2_with fail
   have HC1':=fun(V:World) (c:Below wr wr V)=>HC1 V (An b c);have HC2':=fun(V:World) (c:Below wr wr V)=>HC2 V (An b c);clear HC1 HC2
   go_region_held3 (fun w'=>w'.cell? (ad0.add (k*4))=ZS x1∧w'.cell? ⟨(ad0.add (k*4)).block,(ad0.add (k*4)).off+1,none⟩=ZS y1∧w'.cell? ⟨(ad0.add (k*4)).block,(ad0.add (k*4)).off+2,none⟩=ZS d1∧w'.cell? ⟨(ad0.add (k*4)).block,(ad0.add (k*4)).off+3,none⟩=ZS r1∧w'.cell? (ad0.add (q*4))=ZS x2∧w'.cell? ⟨(ad0.add (q*4)).block,(ad0.add (q*4)).off+1,none⟩=ZS y2∧w'.cell? ⟨(ad0.add (q*4)).block,(ad0.add (q*4)).off+2,none⟩=ZS d2∧w'.cell? ⟨(ad0.add (q*4)).block,(ad0.add (q*4)).off+3,none⟩=ZS r2)
    (exact aW)
    (first
     |((fail_if_success (clear hbu0));go_at_call 214;refine(HB1 _).mono ?_;rintro e u0 ⟨rfl,bu0⟩;have hbu0:Below wr wr u0:=(show Below wr wr _ from Ax).trans (bu0.mono C9);have hzu0:=hbu0.size;have hxu0:=bu0.size;(try simp at hxu0))
     |((fail_if_success (clear hbu1));go_at_call 214;refine(HB2 _).mono ?_;rintro e u1 ⟨rfl,bu1⟩;have hbu1:Below wr wr u1:=(show Below wr wr _ from Ax).trans (bu1.mono C9);have hzu1:=hbu1.size;have hxu1:=bu1.size;(try simp at hxu1);have hbu0u1:Below u0 u0 u1:=(show Below u0 u0 _ from Ax).trans (bu1.mono C9)))
   all_goals
    have B7:=An b hbu1
    by_cases hc:d1-r1<d2-r2
    ·have HW:Hid (shlTo xs (k+1)=k):=by rw[HE.out,AA hc];trivial
     go_wp2
     go_roundw
     case rel=>exact⟨k+1,by omega,by omega,by go_num,by rw[HW.out],B7⟩
     case measure=>simp[intOf];omega
    ·have HW:Hid (shlTo xs (k+1)=q):=by rw[HE.out,Ak hc];trivial
     go_wp2
     go_roundw
     case rel=>exact⟨k+1,by omega,by omega,by go_num,by rw[HW.out],B7⟩
     case measure=>simp[intOf];omega
  ·obtain rfl:n=k:=Aa;have hltI: ¬(n:Int)<(n:Int):=Aa;go_wp2
   go_ret2;exact⟨rfl,b⟩
theorem Md (h:Ev) (r:Al) (n:Nat) (w:World) (X:DR w h r) (R:A8 r) (hn:n≤100):
  Calls prog 278 #[GH h r,ZI n] w (Wx r n w):=by
 have HF:=fun W=>Ql h r W;have HS:=fun(x:En) (W:World) (X:DR W h r) (S:Jt r x)=>aF h r x W X R S;have HOK:=Ai R.tr_ok;have HX:=Ai X;clear X R;obtain⟨⟨A0,n0,c0⟩,⟨A1,n1,c1⟩⟩:=h;unfold GH at*;simp only at HF HS⊢;have K0:=(Blk.newN (g:=w) w 221 (AV A0 n0 c0 A1 n1 c1 r.src r.c r.s r.h) Cr).alloc (.cells DU 223);have K1:=Blk.newN (g:=w+1) (w.alloc (.cells (AV A0 n0 c0 A1 n1 c1 r.src r.c r.s r.h) 221)) 223 DU Cr
 have T0:DT (((w.alloc (.cells (AV A0 n0 c0 A1 n1 c1 r.src r.c r.s r.h) 221)).alloc (.cells DU 223)).alloc (.cells DU 223)) (w.heap.size+2) (w.heap.size+3) ⟨none,0,0⟩ ⟨none,0,0⟩ ⟨none,0,0⟩ (ints []) [] (ints []):=
  ⟨Blk.newN _ _ _ Cr,by omega,AR.nil _ _ _,AR.nil _ _ _,AR.nil _ _ _,(fun q e=>by cases e),(fun q e=>by cases e),(fun q e=>by cases e)⟩
 replace K0:=K0.alloc (.cells DU 223);replace K1:=K1.alloc (.cells DU 223)
 go_enter func278,ntmps278
 go_upto_region 2 with fail
 generalize hG:((w.alloc _).alloc _).alloc _=w1 at K0 K1 T0⊢;obtain⟨_,_,_,b0,hS⟩:=gj hG;clear hG;have hzz:w1.heap.size=w.heap.size+3:=Aa;clear hS;have e0:=K0.cell
 go_wp2_with fail
 refine(HF _).mono ?_;unfold Hy;rintro e w2 ⟨rfl,b2⟩;have B2:=An b0 b2;have hz2:=b2.size;replace K0:=K0.below b2 K0.lt;replace K1:=K1.below b2 K1.lt;replace T0:=T0.below b2;clear HF e0 b0 b2;obtain⟨x0,hx0⟩: ∃x,r.first=x:=⟨_,rfl⟩;have htr0:r.tr 0=some (x0,[]):=by rw[←hx0];rfl
 rw[hx0];clear hx0;have KX:=Br w2 138 (A7 x0.k x0.dn x0.lo x0.hi);replace K0:=K0.alloc (.cells (A7 x0.k x0.dn x0.lo x0.hi) 138);replace K1:=K1.alloc (.cells (A7 x0.k x0.dn x0.lo x0.hi) 138);replace T0:=T0.al (.cells (A7 x0.k x0.dn x0.lo x0.hi) 138);replace B2:Below w w (w2.alloc (.cells (A7 x0.k x0.dn x0.lo x0.hi) 138)):=Ax;have hsz:(w2.alloc (.cells (A7 x0.k x0.dn x0.lo x0.hi) 138)).heap.size=w2.heap.size+1:=Cr
 go_upto_region 3 with fail
 generalize w2.alloc _=w3 at KX K0 K1 T0 B2 hsz⊢;have hgx:w.heap.size+3≤w2.heap.size:=Aa;generalize w2.heap.size=gx at KX hsz hgx⊢
 have T0:DT w3 (w.heap.size+2) (gx+1) ⟨none,0,0⟩ ⟨none,0,0⟩ ⟨none,0,0⟩ (ints []) [] (ints []):=
  ⟨T0.box,by omega,AR.nil _ _ _,AR.nil _ _ _,AR.nil _ _ _,T0.es,T0.ea,T0.sa⟩
 clear hz2 hzz;have hx1:gx≠w.heap.size:=Aa;have hx2:gx≠w.heap.size+1:=Aa;have hx3:gx≠w.heap.size+2:=Aa;have hx1':=hx1.symm;have hx2':=hx2.symm;have hx3':=hx3.symm;have hsz3:gx+1≤w3.heap.size:=Aa;clear hsz
 go_wp2_with fail
 go_loopw [15] (fun i wr=> ∃(k:Nat) (x:En) (l:List AU) (he hs ha:Hd),k≤n∧i=.int .i64 k∧r.tr k=some (x,l)∧DT wr (w.heap.size+2) (gx+1) he hs ha (ints (C2 l)) (No l) (ints (BF l))∧Blk wr gx 138 (A7 x.k x.dn x.lo x.hi)∧Blk wr w.heap.size 221 (AV A0 n0 c0 A1 n1 c1 r.src r.c r.s r.h)∧Blk wr (w.heap.size+1) 223 DU∧Below w w wr∧gx+1≤wr.heap.size) (fun i _=>n-(intOf i).toNat)
 case atStart=>exact⟨0,x0,[],⟨none,0,0⟩,⟨none,0,0⟩,⟨none,0,0⟩,AZ _,rfl,htr0,T0,KX,K0,K1,B2,hsz3⟩
 case round=>
  clear T0 KX K0 K1 B2 htr0 hsz3;obtain⟨k,x,l,⟨EA,en,ec⟩,⟨SA,sn,sc⟩,⟨DA,an,ac⟩,hk,rfl,htr,T,KX,K0,K1,B,hsz⟩:=hrel
  by_cases hlt:k<n
  ·have hltI:(k:Int)<(n:Int):=Aa;obtain⟨S,hll,-,-⟩:=HOK.out k x l htr;have e0:=K0.cell;have ex:=KX.cell;have HSX:=HS x;unfold Hy at HSX;have HNX:=Ai (Nr htr)
   go_wp2_with fail
   refine(HSX _ (HX.out.below B) S).mono ?_;clear HSX HS;rcases hst:r.step x with _|y
   ·unfold Mh;simp only;rintro e w4 ⟨rfl,b4⟩;have HV:Hid (r.tr n=none):=Lt (HNX.out.1 hst) n Aa;have B4:=An B b4;have K4:=((K1.below b4 K1.lt).alloc (.cells DJ 138)).alloc (.cells Cq 136);clear e0 ex T KX K0 K1 B b4 hst htr;have hz4:=B4.size;have B5:Below w w ((w4.alloc (.cells DJ 138)).alloc (.cells Cq 136)):=Ax
    go_upto_region 6 with fail
    generalize(w4.alloc _).alloc _=w5 at K4 B5⊢;have e4:=K4.cell;have f4:=K4.frozen;have g4:=K4.lt;go_wp2;refine AS (v:=.tuple #[DU,ZI 3]) (by simp[results,results278,go_sem,e4,g4]) rfl ?_
    exact V4 HV.out Ax
   ·unfold Mh Hy;simp only;rintro e w4 ⟨rfl,b4⟩;have HV:Hid (r.tr (k+1)=some (y.st,l++ [y])):=HNX.out.2 y hst;have B4:=An B b4;have hz4:=b4.size;replace T:=T.below b4;replace KX:=KX.below b4 KX.lt;replace K0:=K0.below b4 K0.lt;replace K1:=K1.below b4 K1.lt;have hE: ∀z,(⟨EA,en,ec⟩:Hd).row=some z→z<w4:=fun z e=>(T.oE.rowlt z e).2;have hS: ∀z,(⟨SA,sn,sc⟩:Hd).row=some z→z<w4:=fun z e=>(T.oS.rowlt z e).2;clear e0 ex b4 B HNX hst htr S;have K8:=(Blk.newN (g:=w4) w4 138 (A7 y.st.k y.st.dn y.st.lo y.st.hi) Cr).alloc (.cells (Zii y.lo y.hi) 136);have K10:=Blk.newN (g:=w4+1) (w4.alloc (.cells (A7 y.st.k y.st.dn y.st.lo y.st.hi) 138)) 136 (Zii y.lo y.hi) Cr;replace T:=(T.al (.cells (A7 y.st.k y.st.dn y.st.lo y.st.hi) 138)).al (.cells (Zii y.lo y.hi) 136);replace KX:=(KX.alloc (.cells (A7 y.st.k y.st.dn y.st.lo y.st.hi) 138)).alloc (.cells (Zii y.lo y.hi) 136);replace K0:=(K0.alloc (.cells (A7 y.st.k y.st.dn y.st.lo y.st.hi) 138)).alloc (.cells (Zii y.lo y.hi) 136);replace K1:=(K1.alloc (.cells (A7 y.st.k y.st.dn y.st.lo y.st.hi) 138)).alloc (.cells (Zii y.lo y.hi) 136);replace B4:Below w w ((w4.alloc (.cells (A7 y.st.k y.st.dn y.st.lo y.st.hi) 138)).alloc (.cells (Zii y.lo y.hi) 136)):=Ax
    go_upto_region 6 with fail
    generalize(w4.alloc _).alloc _=w5 at K8 K10 T KX K0 K1 B4⊢;generalize w4.heap.size=q8 at K8 K10 hz4 hE hS⊢;have e8:=K8.cell;have ex:=KX.cell;have fx:=KX.frozen
    go_upto_region 9 with fail
    clear e8 ex fx;have NX:=KX.set_all4 (x0:=.int .i64 (y.st.k:Int)) (x1:=.bool y.st.dn) (x2:=.int .i64 y.st.lo) (x3:=.int .i64 y.st.hi);have NT:=(((T.far (b:=gx) (i:=0) Aa hx3' (ZI y.st.k)).far (b:=gx) (i:=1) Aa hx3' (.bool y.st.dn)).far (b:=gx) (i:=2) Aa hx3' (ZI y.st.lo)).far (b:=gx) (i:=3) Aa hx3' (ZI y.st.hi);have N0:=(((K0.far (p:=⟨gx,0,none⟩) hx1' (ZI y.st.k)).far (p:=⟨gx,1,none⟩) hx1' (.bool y.st.dn)).far (p:=⟨gx,2,none⟩) hx1' (ZI y.st.lo)).far (p:=⟨gx,3,none⟩) hx1' (ZI y.st.hi);have N1:=(((K1.far (p:=⟨gx,0,none⟩) hx2' (ZI y.st.k)).far (p:=⟨gx,1,none⟩) hx2' (.bool y.st.dn)).far (p:=⟨gx,2,none⟩) hx2' (ZI y.st.lo)).far (p:=⟨gx,3,none⟩) hx2' (ZI y.st.hi);have N10:=(((K10.far (p:=⟨gx,0,none⟩) Aw (ZI y.st.k)).far (p:=⟨gx,1,none⟩) Aw (.bool y.st.dn)).far (p:=⟨gx,2,none⟩) Aw (ZI y.st.lo)).far (p:=⟨gx,3,none⟩) Aw (ZI y.st.hi);have B5:Below w w ((((w5.setCell ⟨gx,0,none⟩ (ZI y.st.k)).setCell ⟨gx,1,none⟩ (.bool y.st.dn)).setCell ⟨gx,2,none⟩ (ZI y.st.lo)).setCell ⟨gx,3,none⟩ (ZI y.st.hi)):=Ax;clear K8 K10 T KX K0 K1 B4;generalize(((w5.setCell ⟨gx,0,none⟩ (ZI y.st.k)).setCell ⟨gx,1,none⟩ (.bool y.st.dn)).setCell ⟨gx,2,none⟩ (ZI y.st.lo)).setCell ⟨gx,3,none⟩ (ZI y.st.hi)=w6 at NX NT N0 N1 N10 B5⊢;have h63:en+1≤1099511627776:=by have:=NT.rd.en;simp only at this;omega
    have h64:sn+1≤1099511627776:=by have:=NT.rd.sn;simp only at this;omega
    have h65:an+1≤1099511627776:=by have:=NT.rd.an;simp only at this;omega
    have RE1:Rd (w6.alloc (.cells #[ZI y.ev] 2)) (some ⟨w6,0,none⟩) (1*1) (ints [y.ev]):=BD _ _ _;have T1:=NT.al (.cells #[ZI y.ev] 2);have X1:=NX.alloc (.cells #[ZI y.ev] 2);have Z1:=N0.alloc (.cells #[ZI y.ev] 2);have O1:=N1.alloc (.cells #[ZI y.ev] 2);have V1:=N10.alloc (.cells #[ZI y.ev] 2);have hsv1:=B5.size;have D1:Below w w (w6.alloc (.cells #[ZI y.ev] 2)):=Ax;have hB1:gx+1≤(w6.alloc (.cells #[ZI y.ev] 2)).heap.size:=X1.lt;have c8:=fun o=>NT.box.cell o;have q8':=NT.box.lt
    go_upto_region 10 with(at_builtin;refine Aj rfl _ _ 28 rfl 2 1 8 underlying28 AJ Ah (gx+1) ⟨EA,en,ec⟩ _ rfl T1.oE _ 1 1 (ints [y.ev]) rfl RE1 (Ao _) h63 Ah hB1 ?_;intro G1 wg1 hn1 oG1 gg1 hat1;have K9:=T1.box.grown gg1 (fun e=>by have:=(T1.oE.rowlt _ e).1;omega);have c8:=K9.cell;have f8:=K9.frozen;have q8':=K9.lt;have HNG1:=Ai hn1;clear hn1)
    obtain⟨NT,KP⟩:=T1.pushE oG1 gg1 hat1;have NX:=KP.2.1 _ _ _ X1 (Or.inl Aa) hx3;have N0:=KP.2.1 _ _ _ Z1 (Or.inl Aa) Aa;have N1:=KP.2.1 _ _ _ O1 (Or.inl Aa) Aa;have N10:=KP.2.1 _ _ _ V1 (Or.inr (fun z e=>by have:=hE z e;omega)) Aa
    have D1':=KP.1 _ _ Aa (by have:=Z1.lt;omega) D1
    clear B5;clear RE1 T1 X1 Z1 O1 V1 D1 hB1 c8 q8' oG1 gg1 hat1 K9 f8 KP HNG1;generalize wg1.setCell ⟨w.heap.size+2,0,none⟩ (.slice G1.A G1.n G1.c)=w7 at*;have RE2:Rd (w7.alloc (.cells (A7 y.st.k y.st.dn y.st.lo y.st.hi) 138)) (some ⟨w7,0,none⟩) (1*4) (Ln y.st):=dV _ _ _;have T2:=NT.al (.cells (A7 y.st.k y.st.dn y.st.lo y.st.hi) 138);have X2:=NX.alloc (.cells (A7 y.st.k y.st.dn y.st.lo y.st.hi) 138);have Z2:=N0.alloc (.cells (A7 y.st.k y.st.dn y.st.lo y.st.hi) 138);have O2:=N1.alloc (.cells (A7 y.st.k y.st.dn y.st.lo y.st.hi) 138);have V2:=N10.alloc (.cells (A7 y.st.k y.st.dn y.st.lo y.st.hi) 138);have hsv2:=D1'.size;have D2:Below w w (w7.alloc (.cells (A7 y.st.k y.st.dn y.st.lo y.st.hi) 138)):=Ax;have hB2:gx+1≤(w7.alloc (.cells (A7 y.st.k y.st.dn y.st.lo y.st.hi) 138)).heap.size:=X2.lt;have c8:=fun o=>NT.box.cell o;have q8':=NT.box.lt;have cx:=NX.cell
    go_upto_region 11 with(at_builtin;refine Aj rfl _ _ 165 rfl 138 4 32 underlying165 Jh Ah (gx+1) ⟨SA,sn,sc⟩ _ rfl T2.oS _ 1 1 (Ln y.st) rfl RE2 (Oo _) h64 Ah hB2 ?_;intro G2 wg2 hn2 oG2 gg2 hat2;have K9:=T2.box.grown gg2 (fun e=>by have:=(T2.oS.rowlt _ e).1;omega);have c8:=K9.cell;have f8:=K9.frozen;have q8':=K9.lt;have HNG2:=Ai hn2;clear hn2)
    obtain⟨NT,KP⟩:=T2.pushS oG2 gg2 hat2;have NX:=KP.2.1 _ _ _ X2 (Or.inl Aa) hx3;have N0:=KP.2.1 _ _ _ Z2 (Or.inl Aa) Aa;have N1:=KP.2.1 _ _ _ O2 (Or.inl Aa) Aa;have N10:=KP.2.1 _ _ _ V2 (Or.inr (fun z e=>by have:=hS z e;omega)) Aa
    have D2':=KP.1 _ _ Aa (by have:=Z2.lt;omega) D2
    clear D1';clear RE2 T2 X2 Z2 O2 V2 D2 hB2 c8 q8' cx oG2 gg2 hat2 K9 f8 KP HNG2;generalize wg2.setCell ⟨w.heap.size+2,1,none⟩ (.slice G2.A G2.n G2.c)=w8 at*;have RE3:Rd (w8.alloc (.cells (Zii y.lo y.hi) 136)) (some ⟨w8,0,none⟩) (1*2) (ints [y.lo,y.hi]):=da _ _ _ _;have T3:=NT.al (.cells (Zii y.lo y.hi) 136);have X3:=NX.alloc (.cells (Zii y.lo y.hi) 136);have Z3:=N0.alloc (.cells (Zii y.lo y.hi) 136);have O3:=N1.alloc (.cells (Zii y.lo y.hi) 136);have hsv3:=D2'.size;have D3:Below w w (w8.alloc (.cells (Zii y.lo y.hi) 136)):=Ax;have hB3:gx+1≤(w8.alloc (.cells (Zii y.lo y.hi) 136)).heap.size:=X3.lt;have c8:=fun o=>NT.box.cell o;have q8':=NT.box.lt;have cv:=N10.cell
    go_wp2_with (at_builtin;refine Aj rfl _ _ 179 rfl 136 2 16 underlying179 Pr Ah (gx+1) ⟨DA,an,ac⟩ _ rfl T3.oA _ 1 1 (ints [y.lo,y.hi]) rfl RE3 (Ao _) h65 Ah hB3 ?_;intro G3 wg3 hn3 oG3 gg3 hat3;have K9:=T3.box.grown gg3 (fun e=>by have:=(T3.oA.rowlt _ e).1;omega);have c8:=K9.cell;have f8:=K9.frozen;have q8':=K9.lt;have HNG3:=Ai hn3;clear hn3)
    obtain⟨NT,KP⟩:=T3.pushA oG3 gg3 hat3;have NX:=KP.2.1 _ _ _ X3 (Or.inl Aa) hx3;have N0:=KP.2.1 _ _ _ Z3 (Or.inl Aa) Aa;have N1:=KP.2.1 _ _ _ O3 (Or.inl Aa) Aa;have D3':=KP.1 _ _ Aa (by have:=Z3.lt;omega) D3
    clear D2'
    go_roundw
    case rel=>exact⟨k+1,y.st,l++ [y],G1,G2,G3,by omega,by go_num,HV.out,by rw[Td,UF,YP];exact NT,NX,N0,N1,D3',NX.lt⟩
    case measure=>simp[intOf];omega
  ·obtain rfl:n=k:=Aa;have hltI: ¬(n:Int)<(n:Int):=Aa;have HT:=Ai htr;have c8:=fun o=>T.box.cell o;have e1:=K1.cell;have f1:=K1.frozen;have g1:=K1.lt;clear htr HS HOK KX K0;go_wp2;refine AS (v:=.tuple #[Dj EA en ec SA sn sc DA an ac,ZI 0]) (by simp[results,results278,go_sem,e1,g1]) rfl ?_
   exact V5 (he:=⟨EA,en,ec⟩) (hs:=⟨SA,sn,sc⟩) (ha:=⟨DA,an,ac⟩) HT.out ((((T.far (b:=w.heap.size+1) (i:=0) Aa Aa _).far (b:=w.heap.size+1) (i:=1) Aa Aa _).far (b:=w.heap.size+1) (i:=2) Aa Aa _).rd.low Aa) Ax
def Jc (s:Int) (a b:Nat):Am:=⟨s,a,b,List.replicate (a*b) 0,List.replicate (a*b*2) 0⟩
theorem Ps:(prog.info? 136).map (fun i=>(i.zero.map (·.cells),i.size,i.bytes))=some (some #[.int .i64 0,.int .i64 0],2,16):=We51ceQ
theorem Lc (n:Nat) (hn:n≤1048576) (W:World):
  (Instr.makeSlice 179 (ZI n) (ZI n)).run prog W=.ok (.slice (some ⟨W,0,none⟩) n n) (W.alloc (.cells (madeCells Cq (n*2)) 136)):=by
 have h:=Ps
 cases hi:prog.info? 136 with
 |none=>rw[hi] at h;simp at h
 |some i=>
  rw[hi] at h;simp only[Option.map_some,Gs,Prod.mk.injEq] at h;obtain⟨hz,hs,hb⟩:=h
  cases hz0:i.zero with
  |none=>rw[hz0] at hz;simp at hz
  |some z=>
   have hr:=GE (P:=prog) 179 136 i z underlying179 hi hz0 .i64 .i64 n n Bk (by rw[hb];omega) Aa W
   rw[hz0] at hz;simp only[Option.map_some,Gs] at hz;rw[hs,hz] at hr;exact hr
theorem AR.made2 {W:World} {B n:Nat} (hB:B≤W.heap.size) (hn:n≤1048576) (e:TypeId):AR (W.alloc (.cells (madeCells Cq (n*2)) e)) B 2 ⟨some ⟨W,0,none⟩,n,n⟩ (ints (List.replicate (n*2) 0)):=by
 have hb:=Br W e (madeCells Cq (n*2));refine⟨by unfold ints;simp,Cp _,by unfold maxLen;simp only;omega,(fun h=>by cases h),fun ad ea _=> ?_⟩
 injection ea with ea;subst ea;refine⟨hB,hb.lt,rfl,fun i hi=>⟨?_,by rw[CE];exact hb.frozen i⟩⟩
 have hi2:i<n*2:=hi;have hi':i<(madeCells #[Value.int .i64 0,Value.int .i64 0] (n*2)).size:=by rw[FV];exact hi2
 refine⟨(madeCells #[Value.int .i64 0,Value.int .i64 0] (n*2))[i],by rw[CE,hb.cell];exact Array.getElem?_eq_getElem hi',fun u hu=> ?_⟩
 rw[CF] at hu
 simp[hi2] at hu
 subst hu;simp only[madeCells,Array.getElem_map,Array.getElem_range];rcases Nat.mod_two_eq_zero_or_one i with e0|e0
 ·simp[e0]
 ·simp[e0]
theorem QZ {a b:Nat} (ha:a≤30) (hb:b≤30):a*b≤900:=Ch (Nat.mul_le_mul ha hb) Ah
theorem Vw (s:Int) (a b:Nat) (w:World) (ha:a≤30) (hb:b≤30):
  Calls prog 219 (Ziii s a b) w fun e w'=> ∃k:Bh,e=.returned (Bd k (Jc s a b))∧k.counts.n=a*b∧k.depths.n=a*b∧Bu w' w.heap.size k (Jc s a b)∧Below w w w':=by
 have hab:=QZ ha hb;obtain⟨n,hn⟩: ∃n,a*b=n:=⟨_,rfl⟩;have hm:(a:Int)*(b:Int)=(n:Int):=by rw[←Int.natCast_mul,hn]
 rw[hn] at hab;have HN:=Ai hn;clear hn;have hmk:=fun W:World=>ER n Aa W;have hmi:=fun W:World=>Lc n Aa W;have wn:=Bg (n:Int)
 go_enter func219,ntmps219
 go_upto_region 1 with fail
 generalize hG:w.alloc _=w1;obtain⟨K0,b0⟩:=EX hG;clear hG;have e0:=K0.cell;have f0:=K0.frozen;have g0:=K0.lt
 go_region
 ·have K5:Blk (((((w1.setCell ⟨w,0,none⟩ (ZI s)).setCell ⟨w,1,none⟩ (ZI a)).setCell ⟨w,2,none⟩ (ZI b)).setCell ⟨w,3,none⟩ (.slice (some ⟨w1,0,none⟩) n n)).setCell ⟨w,4,none⟩ (.slice (some ⟨w1+1,0,none⟩) n n)) w.heap.size 181 (AH s a b (some ⟨w1,0,none⟩) n n (some ⟨w1+1,0,none⟩) n n):=((((K0.set_ 0 _).set_ 1 _).set_ 2 _).set_ 3 _).set_ 4 _;have b5:Below w w (((((w1.setCell ⟨w,0,none⟩ (ZI s)).setCell ⟨w,1,none⟩ (ZI a)).setCell ⟨w,2,none⟩ (ZI b)).setCell ⟨w,3,none⟩ (.slice (some ⟨w1,0,none⟩) n n)).setCell ⟨w,4,none⟩ (.slice (some ⟨w1+1,0,none⟩) n n)):=((((b0.setCell (p:=⟨w,0,none⟩) Bk _).setCell (p:=⟨w,1,none⟩) Bk _).setCell (p:=⟨w,2,none⟩) Bk _).setCell (p:=⟨w,3,none⟩) Bk _).setCell (p:=⟨w,4,none⟩) Bk _;have z5:(((((w1.setCell ⟨w,0,none⟩ (ZI s)).setCell ⟨w,1,none⟩ (ZI a)).setCell ⟨w,2,none⟩ (ZI b)).setCell ⟨w,3,none⟩ (.slice (some ⟨w1,0,none⟩) n n)).setCell ⟨w,4,none⟩ (.slice (some ⟨w1+1,0,none⟩) n n)).heap.size=w1.heap.size:=Cr;clear K0 b0 e0 f0 hmk hmi;generalize((((w1.setCell ⟨w,0,none⟩ (ZI s)).setCell ⟨w,1,none⟩ (ZI a)).setCell ⟨w,2,none⟩ (ZI b)).setCell ⟨w,3,none⟩ (.slice (some ⟨w1,0,none⟩) n n)).setCell ⟨w,4,none⟩ (.slice (some ⟨w1+1,0,none⟩) n n)=w5 at K5 b5 z5⊢;rw[←z5] at K5 g0⊢;have oC:=(AR.made (W:=w5) (B:=w.heap.size) (n:=n) Aa Aa 2).below ((AP _ _).alloc Bk (.cells (madeCells Cq (n*2)) 136));have oD:=AR.made2 (W:=w5.alloc (.cells (madeCells #[ZI 0] n) 2)) (B:=w.heap.size) (n:=n) Bq Aa 136;rw[show(w5.alloc (.cells (madeCells #[ZI 0] n) 2)).heap.size=w5.heap.size+1 by simp] at oD
  have K6:=Blk.drew ((K5.alloc (.cells (madeCells #[ZI 0] n) 2)).alloc (.cells (madeCells Cq (n*2)) 136));have b6:Below w w ((w5.alloc (.cells (madeCells #[ZI 0] n) 2)).alloc (.cells (madeCells Cq (n*2)) 136)).drew:=CO ((b5.alloc Aa _).alloc Bq _);have oC6:=oC.below GJ;have oD6:=oD.below GJ;generalize((w5.alloc _).alloc _).drew=w6 at K6 b6 oC6 oD6⊢;clear oC oD K5 b5 z5;have e6:=K6.cell;have g6:=K6.lt;go_wp2;refine AS (v:=.agg (AH s a b (some ⟨w5,0,none⟩) n n (some ⟨w5+1,0,none⟩) n n)) (by simp[results,results219,go_sem,e6,g6]) rfl ⟨⟨⟨some ⟨w5,0,none⟩,n,n⟩,⟨some ⟨w5+1,0,none⟩,n,n⟩⟩,rfl,HN.out.symm,HN.out.symm,⟨by unfold Jc;rw[HN.out];exact oC6,by unfold Jc;rw[HN.out];exact oD6,?_⟩,b6⟩
  refine Dx.cons (fun x hx y hy bb e e2=> ?_) (Dx.one _);rw[DD.1 hx] at e;rw[DD.1 hy] at e2;obtain⟨_,a1,q1,q2⟩:=Hd.row_some e;obtain⟨_,a2,q3,q4⟩:=Hd.row_some e2
  cases q1
  cases q3
  simp only at q2 q4;omega
 ·have K5:Blk (((((w1.setCell ⟨w,0,none⟩ (ZI s)).setCell ⟨w,1,none⟩ (ZI a)).setCell ⟨w,2,none⟩ (ZI b)).setCell ⟨w,3,none⟩ (.slice (some ⟨w1+1,0,none⟩) n n)).setCell ⟨w,4,none⟩ (.slice (some ⟨w1,0,none⟩) n n)) w.heap.size 181 (AH s a b (some ⟨w1+1,0,none⟩) n n (some ⟨w1,0,none⟩) n n):=((((K0.set_ 0 _).set_ 1 _).set_ 2 _).set_ 3 _).set_ 4 _;have b5:Below w w (((((w1.setCell ⟨w,0,none⟩ (ZI s)).setCell ⟨w,1,none⟩ (ZI a)).setCell ⟨w,2,none⟩ (ZI b)).setCell ⟨w,3,none⟩ (.slice (some ⟨w1+1,0,none⟩) n n)).setCell ⟨w,4,none⟩ (.slice (some ⟨w1,0,none⟩) n n)):=((((b0.setCell (p:=⟨w,0,none⟩) Bk _).setCell (p:=⟨w,1,none⟩) Bk _).setCell (p:=⟨w,2,none⟩) Bk _).setCell (p:=⟨w,3,none⟩) Bk _).setCell (p:=⟨w,4,none⟩) Bk _;have z5:(((((w1.setCell ⟨w,0,none⟩ (ZI s)).setCell ⟨w,1,none⟩ (ZI a)).setCell ⟨w,2,none⟩ (ZI b)).setCell ⟨w,3,none⟩ (.slice (some ⟨w1+1,0,none⟩) n n)).setCell ⟨w,4,none⟩ (.slice (some ⟨w1,0,none⟩) n n)).heap.size=w1.heap.size:=Cr;clear K0 b0 e0 f0 hmk hmi;generalize((((w1.setCell ⟨w,0,none⟩ (ZI s)).setCell ⟨w,1,none⟩ (ZI a)).setCell ⟨w,2,none⟩ (ZI b)).setCell ⟨w,3,none⟩ (.slice (some ⟨w1+1,0,none⟩) n n)).setCell ⟨w,4,none⟩ (.slice (some ⟨w1,0,none⟩) n n)=w5 at K5 b5 z5⊢;rw[←z5] at K5 g0⊢;have oD:=(AR.made2 (W:=w5) (B:=w.heap.size) (n:=n) Aa Aa 136).below ((AP _ _).alloc Bk (.cells (madeCells #[ZI 0] n) 2));have oC:=AR.made (W:=w5.alloc (.cells (madeCells Cq (n*2)) 136)) (B:=w.heap.size) (n:=n) Bq Aa 2;rw[show(w5.alloc (.cells (madeCells Cq (n*2)) 136)).heap.size=w5.heap.size+1 by simp] at oC
  have K6:=Blk.drew ((K5.alloc (.cells (madeCells Cq (n*2)) 136)).alloc (.cells (madeCells #[ZI 0] n) 2));have b6:Below w w ((w5.alloc (.cells (madeCells Cq (n*2)) 136)).alloc (.cells (madeCells #[ZI 0] n) 2)).drew:=CO ((b5.alloc Aa _).alloc Bq _);have oC6:=oC.below GJ;have oD6:=oD.below GJ;generalize((w5.alloc _).alloc _).drew=w6 at K6 b6 oC6 oD6⊢;clear oC oD K5 b5 z5;have e6:=K6.cell;have g6:=K6.lt;go_wp2;refine AS (v:=.agg (AH s a b (some ⟨w5+1,0,none⟩) n n (some ⟨w5,0,none⟩) n n)) (by simp[results,results219,go_sem,e6,g6]) rfl ⟨⟨⟨some ⟨w5+1,0,none⟩,n,n⟩,⟨some ⟨w5,0,none⟩,n,n⟩⟩,rfl,HN.out.symm,HN.out.symm,⟨by unfold Jc;rw[HN.out];exact oC6,by unfold Jc;rw[HN.out];exact oD6,?_⟩,b6⟩
  refine Dx.cons (fun x hx y hy bb e e2=> ?_) (Dx.one _);rw[DD.1 hx] at e;rw[DD.1 hy] at e2;obtain⟨_,a1,q1,q2⟩:=Hd.row_some e;obtain⟨_,a2,q3,q4⟩:=Hd.row_some e2
  cases q1
  cases q3
  simp only at q2 q4;omega
def MK (g:Am) (x y d r:Int):Am:=if 0≤Ey g.size g.wide g.high x y then Jv g (Ey g.size g.wide g.high x y).toNat (d-r) (d+r) 1 else g
def gsTo (s:Int) (a b:Nat) (ys:List Int):Nat→Am
 |0=>Jc s a b
 |k+1=>MK (gsTo s a b ys k) (ys.getD (k*4) 0) (ys.getD (k*4+1) 0) (ys.getD (k*4+2) 0) (ys.getD (k*4+3) 0)
structure GsI (s:Int) (a b k:Nat) (g:Am):Prop where
 size:g.size=s
 wide:g.wide=(a:Int)
 high:g.high=(b:Int)
 cl:g.counts.length=a*b
 dl:g.depths.length=a*b*2
 bd: ∀i,0≤g.counts.getD i 0∧g.counts.getD i 0≤k
theorem LK (l:List Int) (i k:Nat) (v:Int):(l.set i v).getD k 0=if i=k∧k<l.length then v else l.getD k 0:=by
 rw[DE,DE,List.getElem?_set]
 by_cases h:i=k
 ·subst h
  by_cases h2:i<l.length
  ·simp[h2]
  ·simp[h2]
 ·simp[h]
theorem Zs {s:Int} {a b k:Nat} {g:Am} (G:GsI s a b k g) (x y d r:Int):GsI s a b (k+1) (MK g x y d r):=by
 unfold MK
 split
 ·refine⟨G.size,G.wide,G.high,by unfold Jv;simp only[List.length_set];exact G.cl,by unfold Jv;simp only[YQ];exact G.dl,fun i=> ?_⟩
  show 0≤(g.counts.set _ _).getD i 0∧(g.counts.set _ _).getD i 0≤_;rw[LK];have h1:=G.bd i;have h2:=G.bd (Ey g.size g.wide g.high x y).toNat
  split<;>omega
 ·exact⟨G.size,G.wide,G.high,G.cl,G.dl,fun i=>by have:=G.bd i;omega⟩
theorem Ip (s:Int) (a b:Nat) (ys:List Int): ∀k,GsI s a b k (gsTo s a b ys k)
 |0=>⟨rfl,rfl,rfl,by simp[gsTo,Jc],by simp[gsTo,Jc],fun i=>by
  have:(gsTo s a b ys 0).counts.getD i 0=0:=by
   show(List.replicate (a*b) (0:Int)).getD i 0=0;rw[DE,List.getElem?_replicate]
   split<;>rfl
  omega⟩
 |k+1=>Zs (Ip s a b ys k) _ _ _ _
def Qn (s w h:Int) (ys:List Int) (n:Nat):Int:=if BJ ys n=true then(if DK s w h=true then 0 else 2) else 1
def UQ (s w h:Int) (ys:List Int) (n:Nat):Am:=if Qn s w h ys n=0 then gsTo s w.toNat h.toNat ys n else GT
theorem Xq {l:Am} {i:Nat} {a b:Int} (h0:0≤l.counts.getD i 0):(⟨l.size,l.wide,l.high,(Pu (decide (0<l.counts.getD i 0)) l i a b).counts.set i (l.counts.getD i 0+1),(Pu (decide (0<l.counts.getD i 0)) l i a b).depths⟩:Am)=Jv l i a b 1:=by
 unfold Pu Jv MF
 by_cases h:l.counts.getD i 0=0
 ·have hd:decide (0<l.counts.getD i 0)=false:=BR Aa;rw[hd];simp only[AA h]
  rfl
 ·have hd:decide (0<l.counts.getD i 0)=true:=BC Aa;rw[hd];simp only[Ak h]
  rfl
end Go.Proofs.YtkndcebhjcfphaaGreatDoor
