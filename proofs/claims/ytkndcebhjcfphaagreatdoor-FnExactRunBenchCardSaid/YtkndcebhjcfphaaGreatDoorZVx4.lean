import Derived.Test.YtkndcebhjcfphaaGreatDoorZVx3
namespace Go.Proofs.YtkndcebhjcfphaaGreatDoor
open Go.RowKit Go.Proofs.Tryz
set_option maxRecDepth 100000
set_option maxHeartbeats 4000000
set_option linter.all false
theorem Gx (h:Ev) (r:Al) (k:Nat) (hk:k<r.ds.length) (w:World) (X:DR w h r) (R:A8 r):
  (BT 333 #[EV h,ZI r.src,GU r,ZI k] w (ZI (r.sq k)):Prop):=by
 have hz:r.src<h.S.n:=by have:=X.ns;have:=R.len;have:=R.src;omega
 have hz2:k<h.S.n:=by have:=X.ns;have:=R.len;omega
 have q1:=R.wh_bd;have q2:=R.pt_bd hk;have q3:=R.sq_bd hk;have HS:Hid ((r.wh-r.pt k)*(r.wh+r.pt k)=r.sq k):=OY k;have HW:Hid (r.wh=r.h*r.ss.getD r.src 0∧r.pt k=r.c*r.ss.getD k 0):=⟨rfl,rfl⟩;have HX:=Ai X;clear X R hk;obtain⟨⟨A0,n0,c0⟩,⟨A1,n1,c1⟩⟩:=h;unfold EV GU;simp only at hz hz2⊢;have K0:=(Blk.newN (g:=w) w 30 (CH A0 n0 c0 A1 n1 c1) Cr).alloc (.cells (Ziii r.c r.s r.h) 32);have K1:=Blk.newN (g:=w+1) (w.alloc (.cells (CH A0 n0 c0 A1 n1 c1) 30)) 32 (Ziii r.c r.s r.h) Cr;have b0:Below w w ((w.alloc (.cells (CH A0 n0 c0 A1 n1 c1) 30)).alloc (.cells (Ziii r.c r.s r.h) 32)):=Ax;have X1:=HX.out.below b0;obtain⟨ad,hA,hc⟩:=X1.s.int hz;obtain⟨_,hA',hd⟩:=X1.s.int hz2;simp only at hA hA';subst hA
 cases hA'
 clear HX X1;generalize r.wh=p at*;generalize r.pt k=q at*;generalize r.ss.getD r.src 0=x at*;generalize r.ss.getD k 0=y at*;have wa:=Bg (r.h*x) (by have:=HW.out.1;omega)
 have wb:=Bg (r.c*y) (by have:=HW.out.2;omega)
 have wc:=Bg (r.h*x-r.c*y) (by have:=HW.out.1;have:=HW.out.2;omega)
 have wd:=Bg (r.h*x+r.c*y) (by have:=HW.out.1;have:=HW.out.2;omega)
 have we:(r.h*x-r.c*y)*(r.h*x+r.c*y)=r.sq k:=by rw[←HW.out.1,←HW.out.2];exact HS.out
 have wf:=Bg (r.sq k);have hzI:(r.src:Int)<(n1:Int):=Aa;have hzJ:(k:Int)<(n1:Int):=Aa;clear HS HW q1 q2
 go_enter func333,ntmps333
 go_upto_region 1 with fail
 generalize((w.alloc _).alloc _)=w1 at K0 K1 b0 hc hd⊢;have e0:=K0.cell;have e1:=K1.cell
 go_quiet (fail)
 revert nq;intro nq;have b1:Below w w (w1.drewN nq):=Ba b0 _;go_wp2;go_ret;exact⟨Bb (by first|exact we|rfl),b1⟩
theorem Is (h:Ev) (r:Al) (k:Nat) (hk:k<r.ds.length) (w:World) (X:DR w h r) (R:A8 r):
  (BT 334 #[EV h,ZI r.src,GU r,ZI k] w (Zii (rD (r.sq k)) (rU (r.sq k))):Prop):=by
 have q3:=R.sq_bd hk;have HSQ:=fun(W:World) (X:DR W h r)=>Gx h r k hk W X R;have HX:=Ai X;clear X R hk;obtain⟨⟨A0,n0,c0⟩,⟨A1,n1,c1⟩⟩:=h;unfold EV GU at*;simp only at HSQ⊢
 go_enter func334,ntmps334
 go_upto_region 1 with fail
 generalize hG:(((w.alloc _).alloc _).alloc _)=w1;obtain⟨K0,K1,K2,b0⟩:=WF hG;clear hG;have X1:=HX.out.below b0;have e0:=K0.cell;have e1:=K1.cell;have HS1:=HSQ _ X1;clear HSQ HX X1
 go_wp2_with fail
 refine HS1.mono ?_;rintro e w2 ⟨rfl,b2⟩;replace b0:=An b0 b2;replace K2:=K2.below b2 K2.lt;clear e0 e1 K0 K1 HS1;have e2:=K2.cell;have f2:=K2.frozen;have g2:=K2.lt
 go_wp2_with fail
 refine(TC _ _ Aa).mono ?_;rintro e w' ⟨rfl,rfl⟩
 go_wp2_with fail
 refine(PO _ _ Aa).mono ?_;rintro e w' ⟨rfl,rfl⟩;go_wp2;refine AS (v:=.agg (Zii (rD (r.sq k)) (rU (r.sq k)))) (by simp[results,results334,go_sem,e2,g2]) rfl ⟨rfl,Ax⟩
theorem Gg (k:Nat) (z:Bool) (w:World) (hk:k+1<1000):
  (GK 261 (Ly k z) w (.tuple (Zii ((if z=true then k else k+1:Nat):Int) ((if z=true then k+1 else k:Nat):Int))):Prop):=by
 have w1:=Bg ((k:Int)+1);have e1:((k+1:Nat):Int)=(k:Int)+1:=Aa
 cases z
 ·rw[Ak Ah,Ak Ah,e1]
  go_enter func261,ntmps261
  go_wp2
  go_ret2;exact⟨rfl,rfl⟩
 ·rw[AA rfl,AA rfl,e1]
  go_enter func261,ntmps261
  go_wp2
  go_ret2;exact⟨rfl,rfl⟩
theorem EN (lo hi:Int) (w:World):
  (BT 260 (Zii lo hi) w (.tuple (BN (if ckB lo hi=true then lo else 0) (if ckB lo hi=true then hi else 0) (if ckB lo hi=true then 0 else 3))):Prop):=by
 have H1:=fun W=>GQ lo W;have H2:=fun W=>GQ hi W;rw[show inR lo (-1000000000000) 1000000000000=isV lo from rfl] at H1;rw[show inR hi (-1000000000000) 1000000000000=isV hi from rfl] at H2;have HV:ckB lo hi=(isV lo && isV hi):=rfl;rw[HV];clear HV;generalize isV lo=a at*;generalize isV hi=b at*
 cases a
 ·rw[Bool.false_and,Ak Ah,Ak Ah,Ak Ah]
  go_enter func260,ntmps260
  go_wp2_with fail
  refine(H1 _).mono ?_;rintro e w' ⟨rfl,rfl⟩;go_wp2;refine AS (v:=.tuple (BN 0 0 3)) (by simp[results,results260,go_sem]) rfl ⟨rfl,Ax⟩
 ·rw[Ha]
  cases b
  ·rw[Ak Ah,Ak Ah,Ak Ah]
   go_enter func260,ntmps260
   go_wp2_with fail
   refine(H1 _).mono ?_;rintro e w' ⟨rfl,rfl⟩
   go_wp2_with fail
   refine(H2 _).mono ?_;rintro e w' ⟨rfl,rfl⟩;go_wp2;refine AS (v:=.tuple (BN 0 0 3)) (by simp[results,results260,go_sem]) rfl ⟨rfl,Ax⟩
  ·rw[AA rfl,AA rfl,AA rfl]
   go_enter func260,ntmps260
   go_wp2_with fail
   refine(H1 _).mono ?_;rintro e w' ⟨rfl,rfl⟩
   go_wp2_with fail
   refine(H2 _).mono ?_;rintro e w' ⟨rfl,rfl⟩;go_wp2;refine AS (v:=.tuple (BN lo hi 0)) (by simp[results,results260,go_sem]) rfl ⟨rfl,Ax⟩
def nrK (k:Nat) (z:Bool):Nat:=if z=true then k else k+1
def frK (k:Nat) (z:Bool):Nat:=if z=true then k+1 else k
theorem Og (h:Ev) (r:Al) (k:Nat) (z:Bool) (hk:k+1<r.ds.length) (w:World) (X:DR w h r) (R:A8 r):
  (BT 303 #[EV h,ZI r.src,GU r,ZI k,.bool z] w (ZI (r.vd (nrK k z) (frK k z))):Prop):=by
 have hn:nrK k z<r.ds.length:=by unfold nrK;split<;>omega
 have hf:frK k z<r.ds.length:=by unfold frK;split<;>omega
 have HEN:=fun W=>Gg k z W (by have:=R.len;omega)
 have HSN:=fun(W:World) (X:DR W h r)=>Gx h r _ hn W X R;have HSF:=fun(W:World) (X:DR W h r)=>Gx h r _ hf W X R;have HCN:=R.can_iff hn;have HCF:=R.can_iff hf;have HV:Hid (r.vd (nrK k z) (frK k z)=if r.can (nrK k z)=false then 0 else if r.can (frK k z)=true then 1 else 2):=rfl;change∀W,Calls _ _ _ W fun e w'=>e=.returned (.tuple (Zii ((nrK k z:Nat):Int) ((frK k z:Nat):Int)))∧W=w' at HEN;rw[HCN,HCF] at HV;have HX:=Ai X;clear X R hk hn hf HCN HCF;generalize nrK k z=a at*;generalize frK k z=b at*;obtain⟨⟨A0,n0,c0⟩,⟨A1,n1,c1⟩⟩:=h;unfold EV GU at*;simp only at HSN HSF⊢
 go_enter func303,ntmps303
 go_upto_region 1 with fail
 generalize hG:((w.alloc _).alloc _)=w1;obtain⟨K0,K1,b0⟩:=Qg hG;clear hG;have X1:=HX.out.below b0;have e0:=K0.cell;have e1:=K1.cell
 go_wp2_with fail
 refine(HEN _).mono ?_;rintro e w' ⟨rfl,rfl⟩
 go_wp2_with fail
 refine(HSN _ X1).mono ?_;rintro e w2 ⟨rfl,b2⟩;replace b0:=An b0 b2;replace X1:=X1.below b2;replace K0:=K0.below b2 K0.lt;replace K1:=K1.below b2 K1.lt;clear e0 e1 HSN HEN HX b2;have e0:=K0.cell;have e1:=K1.cell;generalize r.sq a=p at*;generalize r.sq b=q at*
 by_cases h1:0<p
 ·go_wp2_with fail
  refine(HSF _ X1).mono ?_;rintro e w3 ⟨rfl,b3⟩;have b4:=An b0 b3
  by_cases h2:0<q
  ·have HW:Hid (1=r.vd a b):=by rw[HV.out];simp[h1,h2];trivial
   go_wp2;go_ret;exact⟨Bb HW.out,b4⟩
  ·have HW:Hid (2=r.vd a b):=by rw[HV.out];simp[h1,h2];trivial
   go_wp2;go_ret;exact⟨Bb HW.out,b4⟩
 ·have h1':p≤0:=Aa;have HW:Hid (0=r.vd a b):=by rw[HV.out];simp[h1];trivial
  go_wp2;go_ret;exact⟨Bb HW.out,b0⟩
def fh (lo hi:Int):Value:=.tuple (BN (if ckB lo hi=true then lo else 0) (if ckB lo hi=true then hi else 0) (if ckB lo hi=true then 0 else 3))
theorem ao {xs:List Int} {n:Int} {k:Nat} (h:FF xs n=true) (hk:k+1<xs.length):xs.getD k 0<xs.getD (k+1) 0:=by
 unfold FF Fq at h;have h2:=List.all_eq_true.1 h (k+1) (Eo.2 hk);unfold EQ at h2;simp only[Nat.add_sub_cancel,CD,Bool.or_eq_true,BP] at h2;omega
theorem A8.rD_gen {r:Al} (R:A8 r) {k:Nat} (hk:k<r.ds.length):0≤rD (r.sq k)∧rD (r.sq k)≤1700000000∧0≤rU (r.sq k)∧rU (r.sq k)≤1700000001∧rD (r.sq k)≤rU (r.sq k):=by
 have hu:= @aa (r.sq k);rcases BA (r.can k) with c|c
 ·have:=R.rD_bd' hk c;omega
 ·have e:=R.can_iff hk;rw[c] at e;have h:=of_decide_eq_false e.symm;have:=LW (n:=r.sq k) Aa;omega
theorem Mz {r:Al} (R:A8 r) {k:Nat} (hk:k+1<r.ds.length):r.ds.getD k 0<r.ds.getD (k+1) 0∧r.thick k (k+1)=r.ds.getD (k+1) 0-r.ds.getD k 0∧r.thick (k+1) k=r.ds.getD (k+1) 0-r.ds.getD k 0:=by
 have hp:=R.prof;unfold BI at hp;simp only[CD,BP] at hp;have hr:=ao hp.2.2.1 hk;refine⟨hr,?_,?_⟩
 ·unfold Al.thick;omega
 ·unfold Al.thick;omega
theorem Rt (h:Ev) (r:Al) (k:Nat) (hk:k+1<r.ds.length) (w:World) (X:DR w h r) (R:A8 r) (hcab:1≤rD (r.sq k)+rD (r.sq (k+1))):
  (BT 304 #[EV h,ZI r.src,GU r,ZI k] w (fh (r.crLo k (k+1)) (r.crHi k (k+1))):Prop):=by
 have hk0:k<r.ds.length:=Aa;have HV:Hid (r.crLo k (k+1)=r.crN k (k+1)/(rU (r.sq k)+rU (r.sq (k+1)))∧r.crHi k (k+1)= -(-(r.crN k (k+1))/(rD (r.sq k)+rD (r.sq (k+1))))):=⟨rfl,rfl⟩;have ra:=R.rD_gen hk0;have rb:=R.rD_gen hk;have qn:=R.crN_bd hk0 hk;have tl:=Mz R hk;have hk12:k+1<12:=by have:=R.len;omega
 have dk:=R.dp hk0;have dk1:=R.dp hk;have sk:=R.sp hk0;have sk1:=R.sp hk;have dd:=R.dir'
 have HN:Hid (r.crN k (k+1)=(r.ds.getD (k+1) 0-r.ds.getD k 0)*r.c*(r.ss.getD k 0+r.ss.getD (k+1) 0)):=by
  unfold Hid Al.crN Al.pt;rw[tl.2.1,←Int.mul_add,Ga]
 have HSA:=fun(W:World) (X:DR W h r)=>Is h r k hk0 W X R;have HSB:=fun(W:World) (X:DR W h r)=>Is h r (k+1) hk W X R;rw[show((k+1:Nat):Int)=(k:Int)+1 by omega] at HSB
 have HRD:Hid (∀V,Below w w V→(∃ad,h.D.A=some ad∧V.cell? (ad.add k)=ZS (r.ds.getD k 0)∧V.cell? (ad.add (k+1))=ZS (r.ds.getD (k+1) 0))∧ ∃ad,h.S.A=some ad∧V.cell? (ad.add k)=ZS (r.ss.getD k 0)∧V.cell? (ad.add (k+1))=ZS (r.ss.getD (k+1) 0)):=fun V b=>by
  have hl:=R.len;obtain⟨ad,hA,h1⟩:=(X.below b).d.int (k:=k) (by have:=X.nd;omega)
  obtain⟨ad',hA',h2⟩:=(X.below b).d.int (k:=k+1) (by have:=X.nd;omega)
  obtain⟨bd,hB,h3⟩:=(X.below b).s.int (k:=k) (by have:=X.ns;omega)
  obtain⟨bd',hB',h4⟩:=(X.below b).s.int (k:=k+1) (by have:=X.ns;omega)
  rw[hA] at hA';rw[hB] at hB'
  cases hA'
  cases hB'
  exact⟨⟨ad,hA,h1,h2⟩,bd,hB,h3,h4⟩
 have hn0:k+1<h.D.n:=by have:=X.nd;omega
 have hn1:k+1<h.S.n:=by have:=X.ns;have:=R.len;omega
 have HX:=Ai X;clear X R hk hk0 tl;unfold fh;have HLM:=fun W=>EN (r.crLo k (k+1)) (r.crHi k (k+1)) W;generalize(if ckB (r.crLo k (k+1)) (r.crHi k (k+1))=true then r.crLo k (k+1) else 0)=z1 at HLM⊢;generalize(if ckB (r.crLo k (k+1)) (r.crHi k (k+1))=true then r.crHi k (k+1) else 0)=z2 at HLM⊢;generalize(if ckB (r.crLo k (k+1)) (r.crHi k (k+1))=true then(0:Int) else 3)=z3 at HLM⊢;obtain⟨⟨A0,n0,c0⟩,⟨A1,n1,c1⟩⟩:=h;unfold EV GU at*;simp only at HSA HSB HRD hn0 hn1⊢;obtain⟨⟨ad,hA,-⟩,bd,hB,-⟩:=HRD.out w E9;subst hA;subst hB
 go_enter func304,ntmps304
 go_upto_region 1 with fail
 generalize hG:(((w.alloc _).alloc _).alloc _)=w1;obtain⟨K0,K1,K2,b0⟩:=WF hG;clear hG;have X1:=HX.out.below b0;have wk:=Bg ((k:Int)+1);generalize rD (r.sq k)=d1 at*;generalize rD (r.sq (k+1))=d2 at*;generalize rU (r.sq k)=v1 at*;generalize rU (r.sq (k+1))=v2 at*;have HA':=fun(W:World) (b:Below w1 w1 W)=>HSA W (X1.below b);have HB':=fun(W:World) (b:Below w1 w1 W)=>HSB W (X1.below b);clear HSA HSB HX;have hk2:=K2.lt
 go_cut [10,11] (fun x y wx=> ∃g1 g2,x=.pointer (some ⟨g1,0,none⟩)∧y=.pointer (some ⟨g2,0,none⟩)∧Blk wx g1 136 (Zii d1 v1)∧Blk wx g2 136 (Zii d2 v2)∧w.heap.size+1+1<g1∧w.heap.size+1+1<g2∧g1≠g2∧Below w1 w1 wx)
 case first=>
  have hs0: ∀o,w1.cell? ⟨w,o,none⟩=((CH (some ad) n0 c0 (some bd) n1 c1):Array Value)[o]? :=K0.cell;have hy0:w<w1.heap.size:=K0.lt;have hs1: ∀o,w1.cell? ⟨w+1,o,none⟩=((Ziii r.c r.s r.h):Array Value)[o]? :=K1.cell;have hy1:w+1<w1.heap.size:=K1.lt
  go_region_held3 (fun w'=>(∀o,w'.cell? ⟨w,o,none⟩=((CH (some ad) n0 c0 (some bd) n1 c1):Array Value)[o]?)∧(∀o,w'.cell? ⟨w+1,o,none⟩=((Ziii r.c r.s r.h):Array Value)[o]?))
   (exact IJ)
   (first
    |((fail_if_success (clear hbu0));go_at_call 334;refine(HA' _ Ax).mono ?_;rintro e u0 ⟨rfl,bu0⟩;have hbu0:Below w1 w1 u0:=(show Below w1 w1 _ from Ax).trans (bu0.mono C9);have hzu0:=hbu0.size;have hxu0:=bu0.size;(try simp at hxu0);have hs0u0: ∀o,u0.cell? ⟨w,o,none⟩=((CH (some ad) n0 c0 (some bd) n1 c1):Array Value)[o]? :=fun o=>(K0.below hbu0 K0.lt).cell o;have hy0u0:w<u0.heap.size:=(K0.below hbu0 K0.lt).lt;have hs1u0: ∀o,u0.cell? ⟨w+1,o,none⟩=((Ziii r.c r.s r.h):Array Value)[o]? :=fun o=>(K1.below hbu0 K1.lt).cell o;have hy1u0:w+1<u0.heap.size:=(K1.below hbu0 K1.lt).lt;obtain⟨hcu0,hfu0⟩:=SM bu0;(try have hlw1u0:w1<u0.heap.size:=by omega);(try have hmw1u0:w1+1<u0.heap.size:=by omega))
    |((fail_if_success (clear hbu1));go_at_call 334;refine(HB' _ Ax).mono ?_;rintro e u1 ⟨rfl,bu1⟩;have hbu1:Below w1 w1 u1:=(show Below w1 w1 _ from Ax).trans (bu1.mono C9);have hzu1:=hbu1.size;have hxu1:=bu1.size;(try simp at hxu1);have hbu0u1:Below u0 u0 u1:=(show Below u0 u0 _ from Ax).trans (bu1.mono C9);have hs0u1: ∀o,u1.cell? ⟨w,o,none⟩=((CH (some ad) n0 c0 (some bd) n1 c1):Array Value)[o]? :=fun o=>(K0.below hbu1 K0.lt).cell o;have hy0u1:w<u1.heap.size:=(K0.below hbu1 K0.lt).lt;have hs1u1: ∀o,u1.cell? ⟨w+1,o,none⟩=((Ziii r.c r.s r.h):Array Value)[o]? :=fun o=>(K1.below hbu1 K1.lt).cell o;have hy1u1:w+1<u1.heap.size:=(K1.below hbu1 K1.lt).lt;obtain⟨hcu1,hfu1⟩:=SM bu1;(try have hlw1u1:w1<u1.heap.size:=by omega);(try have hmw1u1:w1+1<u1.heap.size:=by omega);(try have hlu0u1:u0<u1.heap.size:=by omega);(try have hmu0u1:u0+1<u1.heap.size:=by omega)))
  all_goals
   go_wp2_with fail
   go_meet
   refine⟨_,_,rfl,rfl,?_,?_,?_,?_,?_,Ax⟩
   ·(repeat(first|(with_reducible refine Blk.drew ?_)|((with_reducible refine Blk.newN _ _ _ ?_);(first|rfl|(simp;done)))|(with_reducible refine Blk.set_all2 (a:=.int .i64 0) (b:=.int .i64 0) ?_)|((with_reducible refine Blk.far ?_ ?_ _);rotate_left 1;(first|omega|(simp<;>omega)))|((with_reducible refine Blk.alloc ?_ _))|((with_reducible refine Blk.below ?_ bu1 ?_);rotate_left 1;(first|omega|(simp<;>omega)))|((with_reducible refine Blk.below ?_ bu0 ?_);rotate_left 1;(first|omega|(simp<;>omega)))))
   ·(repeat(first|(with_reducible refine Blk.drew ?_)|((with_reducible refine Blk.newN _ _ _ ?_);(first|rfl|(simp;done)))|(with_reducible refine Blk.set_all2 (a:=.int .i64 0) (b:=.int .i64 0) ?_)|((with_reducible refine Blk.far ?_ ?_ _);rotate_left 1;(first|omega|(simp<;>omega)))|((with_reducible refine Blk.alloc ?_ _))|((with_reducible refine Blk.below ?_ bu1 ?_);rotate_left 1;(first|omega|(simp<;>omega)))|((with_reducible refine Blk.below ?_ bu0 ?_);rotate_left 1;(first|omega|(simp<;>omega)))))
   ·first|omega|(simp<;>omega)
   ·first|omega|(simp<;>omega)
   ·first|omega|(simp<;>omega)
 case rest=>
  obtain⟨g1,g2,rfl,rfl,KA,KB,hg1,hg2,hg12,b3⟩:=hcut;obtain⟨w2,hw2⟩: ∃x:World,x=wc:=⟨_,rfl⟩;rw[←hw2] at KA KB b3;rw[←hw2];clear hw2;replace b0:=An b0 b3;replace K0:=K0.below b3 K0.lt;replace K1:=K1.below b3 K1.lt;replace K2:=K2.below b3 K2.lt;obtain⟨⟨_,hA,c1,c2⟩,_,hB,c3,c4⟩:=HRD.out w2 b0
  cases hA
  cases hB
  rw[Bf _ (k+1) Aa] at c2 c4;clear HRD HA' HB' X1 b3;generalize r.ds.getD k 0=x1 at*;generalize r.ds.getD (k+1) 0=x2 at*;generalize r.ss.getD k 0=y1 at*;generalize r.ss.getD (k+1) 0=y2 at*;have hm1:=CL (show x2-x1≤1000000 by omega) (show r.c≤1000 by omega) Aa Ah
  have hm2: -1000000000≤(x2-x1)*r.c:=by
   have:=CL (show x1-x2≤1000000 by omega) (show r.c≤1000 by omega) Aa Ah
   have e:(x1-x2)*r.c= -((x2-x1)*r.c):=by rw[←Int.neg_mul];congr 1;omega
   omega
  obtain⟨cn,hcn⟩: ∃n,r.crN k (k+1)=n:=⟨_,rfl⟩;rw[hcn] at HN HV qn;have wa:=Bg (x2-x1);have wb:=Bg ((x2-x1)*r.c);have wc':=Bg (y1+y2);have we:(x2-x1)*r.c*(y1+y2)=cn:=HN.out.symm;have wf:=Bg cn;have wg:=Bg (v1+v2);have wh:=Bg (d1+d2);have hkI:(k:Int)<(n0:Int):=Aa;have hkJ:(k:Int)+1<(n0:Int):=Aa;have hkK:(k:Int)<(n1:Int):=Aa;have hkL:(k:Int)+1<(n1:Int):=Aa;have hk3:((k:Int)+1).toNat=k+1:=Aa;have hk4:(0:Int)≤(k:Int)+1:=Aa;clear HN hm1 hm2 dk dk1 sk sk1 dd hcn;have e0:=K0.cell;have e1:=K1.cell
  go_upto_region 2 with fail
  go_quiet (fail)
  revert nq;intro nq;have B3:Below w w (w2.drewN nq):=Ba b0 _;replace KA:Blk (w2.drewN nq) _ _ _:=KA;replace KB:Blk (w2.drewN nq) _ _ _:=KB;replace K2:Blk (w2.drewN nq) _ _ _:=K2;clear e0 e1 K0 K1 c1 c2 c3 c4 b0;generalize w2.drewN nq=w3 at KA KB K2 B3⊢;have hga:g1≠w.heap.size+1+1:=Aa;have hgb:g2≠w.heap.size+1+1:=Aa
  go_upto_region 3 with fail
  rw[HV.out.1,HV.out.2] at HLM;have hs0: ∀o,w3.cell? ⟨g1,o,none⟩=((Zii d1 v1):Array Value)[o]? :=KA.cell;have hs1: ∀o,w3.cell? ⟨g2,o,none⟩=((Zii d2 v2):Array Value)[o]? :=KB.cell
  go_region_held3 (fun w'=>(∀o,w'.cell? ⟨g1,o,none⟩=((Zii d1 v1):Array Value)[o]?)∧(∀o,w'.cell? ⟨g2,o,none⟩=((Zii d2 v2):Array Value)[o]?))
   (exact IJ)
   (first
    |(go_at_call 210;refine(Ee cn (v1+v2) _ Aa Aa Aa Aa).mono ?_;rintro e w' ⟨rfl,rfl⟩)
    |(go_at_call 167;refine(EB cn (d1+d2) _ Aa Aa Aa Aa).mono ?_;rintro e w' ⟨rfl,rfl⟩)
    |((fail_if_success (clear hbt_2));go_at_call 260;refine(HLM _).mono ?_;rintro e t_2 ⟨rfl,bt_2⟩;have hbt_2:Below w3 w3 t_2:=(show Below w3 w3 _ from Ax).trans (bt_2.mono C9);have hzt_2:=hbt_2.size;have hxt_2:=bt_2.size;(try simp at hxt_2);have hs0t_2: ∀o,t_2.cell? ⟨g1,o,none⟩=((Zii d1 v1):Array Value)[o]? :=fun o=>(KA.below hbt_2 KA.lt).cell o;have hy0t_2:g1<t_2:=(KA.below hbt_2 KA.lt).lt;have hs1t_2: ∀o,t_2.cell? ⟨g2,o,none⟩=((Zii d2 v2):Array Value)[o]? :=fun o=>(KB.below hbt_2 KB.lt).cell o;have hy1t_2:g2<t_2:=(KB.below hbt_2 KB.lt).lt;have es0t_2:=fun o=>(K2.below hbt_2 K2.lt).cell o;have fs0t_2:=fun o=>(K2.below hbt_2 K2.lt).frozen o;have gs0t_2:=(K2.below hbt_2 K2.lt).lt))
  all_goals
   have B4:=An B3 hbt_2;go_wp2;refine AS (v:=.tuple (BN z1 z2 z3)) (by simp[results,results304,go_sem,es0t_2]) rfl ⟨rfl,Ax⟩
theorem TF (h:Ev) (r:Al) (k:Nat) (z:Bool) (hk:k+1<r.ds.length) (w:World) (X:DR w h r) (R:A8 r) (hca:r.can (nrK k z)=true) (hcb:r.can (frK k z)=false):
  (BT 305 #[EV h,ZI r.src,GU r,ZI k,.bool z] w (fh (r.tuLo (nrK k z) (frK k z)) (r.tuHi (nrK k z) (frK k z))):Prop):=by
 have hk0:k<r.ds.length:=Aa;have hn:nrK k z<r.ds.length:=by unfold nrK;split<;>omega
 have hf:frK k z<r.ds.length:=by unfold frK;split<;>omega
 have tl:=Mz R hk
 have hth:r.thick (nrK k z) (frK k z)=r.ds.getD (k+1) 0-r.ds.getD k 0:=by
  unfold nrK frK
  cases z
  ·exact tl.2.2
  ·exact tl.2.1
 have HV:Hid (r.tuLo (nrK k z) (frK k z)=2*r.thick (nrK k z) (frK k z)*rD (r.sq (nrK k z))/r.rise (nrK k z) (frK k z)∧r.tuHi (nrK k z) (frK k z)= -(-(2*r.thick (nrK k z) (frK k z)*rU (r.sq (nrK k z)))/r.rise (nrK k z) (frK k z))):=⟨rfl,rfl⟩;have ra:=R.rD_bd' hn hca;have qr:=R.rise_bd hn hf hca hcb;have qn1:=R.tuN_bd hn hf (q:=rD (r.sq (nrK k z))) Aa Aa;have qn2:=R.tuN_bd hn hf (q:=rU (r.sq (nrK k z))) Aa Aa;have dk:=R.dp hk0;have dk1:=R.dp hk;have sn:=R.sp hn;have sf:=R.sp hf;have hk12:k+1<12:=by have:=R.len;omega
 have HRS:Hid (r.rise (nrK k z) (frK k z)=r.c*(r.ss.getD (frK k z) 0-r.ss.getD (nrK k z) 0)):=by
  unfold Hid Al.rise Al.pt;rw[Int.mul_sub]
 rw[hth] at HV qn1 qn2;have HEN:=fun W=>Gg k z W Aa;change∀W,Calls _ _ _ W fun e w'=>e=.returned (.tuple (Zii ((nrK k z:Nat):Int) ((frK k z:Nat):Int)))∧W=w' at HEN;have HSA:=fun(W:World) (X:DR W h r)=>Is h r (nrK k z) hn W X R
 have HRD:Hid (∀V,Below w w V→(∃ad,h.D.A=some ad∧V.cell? (ad.add k)=ZS (r.ds.getD k 0)∧V.cell? (ad.add (k+1))=ZS (r.ds.getD (k+1) 0))∧ ∃ad,h.S.A=some ad∧V.cell? (ad.add (nrK k z))=ZS (r.ss.getD (nrK k z) 0)∧V.cell? (ad.add (frK k z))=ZS (r.ss.getD (frK k z) 0)):=fun V b=>by
  have hl:=R.len;obtain⟨ad,hA,h1⟩:=(X.below b).d.int (k:=k) (by have:=X.nd;omega)
  obtain⟨ad',hA',h2⟩:=(X.below b).d.int (k:=k+1) (by have:=X.nd;omega)
  obtain⟨bd,hB,h3⟩:=(X.below b).s.int (k:=nrK k z) (by have:=X.ns;omega)
  obtain⟨bd',hB',h4⟩:=(X.below b).s.int (k:=frK k z) (by have:=X.ns;omega)
  rw[hA] at hA';rw[hB] at hB'
  cases hA'
  cases hB'
  exact⟨⟨ad,hA,h1,h2⟩,bd,hB,h3,h4⟩
 have hn0:k+1<h.D.n:=by have:=X.nd;omega
 have hn1:nrK k z<h.S.n:=by have:=X.ns;have:=R.len;omega
 have hn2:frK k z<h.S.n:=by have:=X.ns;have:=R.len;omega
 have HX:=Ai X;clear X R hca hcb hk hk0 tl hth hn hf;unfold fh;have HLM:=fun W=>EN (r.tuLo (nrK k z) (frK k z)) (r.tuHi (nrK k z) (frK k z)) W;generalize(if ckB (r.tuLo (nrK k z) (frK k z)) (r.tuHi (nrK k z) (frK k z))=true then r.tuLo (nrK k z) (frK k z) else 0)=z1 at HLM⊢;generalize(if ckB (r.tuLo (nrK k z) (frK k z)) (r.tuHi (nrK k z) (frK k z))=true then r.tuHi (nrK k z) (frK k z) else 0)=z2 at HLM⊢;generalize(if ckB (r.tuLo (nrK k z) (frK k z)) (r.tuHi (nrK k z) (frK k z))=true then(0:Int) else 3)=z3 at HLM⊢;rw[HV.out.1,HV.out.2] at HLM;clear HV;generalize nrK k z=a at*;generalize frK k z=b at*;obtain⟨⟨A0,n0,c0⟩,⟨A1,n1,c1⟩⟩:=h;unfold EV GU at*;simp only at HSA HRD hn0 hn1 hn2⊢;obtain⟨⟨ad,hA,-⟩,bd,hB,-⟩:=HRD.out w E9;subst hA;subst hB;generalize rD (r.sq a)=d1 at*;generalize rU (r.sq a)=v1 at*
 go_enter func305,ntmps305
 go_upto_region 1 with fail
 generalize hG:(((w.alloc _).alloc _).alloc _)=w1;obtain⟨K0,K1,K2,b0⟩:=WF hG;clear hG;have X1:=HX.out.below b0
 go_wp2_with fail
 refine(HEN _).mono ?_;rintro e w' ⟨rfl,rfl⟩;have e0:=K0.cell;have e1:=K1.cell;have HS1:=HSA _ X1;clear HSA HX X1 HEN
 go_wp2_with fail
 refine HS1.mono ?_;rintro e w2 ⟨rfl,b2⟩;clear HS1 e0 e1;replace b0:=An b0 b2;replace K0:=K0.below b2 K0.lt;replace K1:=K1.below b2 K1.lt;replace K2:=K2.below b2 K2.lt;have hq2:w+1+1<w2.heap.size:=K2.lt
 go_upto_region 3 with fail
 generalize hG:w2.alloc _=w3;obtain⟨KS,bG⟩:=EX hG;clear hG;replace K0:=K0.below bG K0.lt;replace K1:=K1.below bG K1.lt;replace K2:=K2.below bG K2.lt;replace b0:=An b0 bG;clear bG;generalize w2.heap.size=QS at KS hq2⊢;have hs2:QS≠w.heap.size+1+1:=Aa;clear b2 hq2;obtain⟨⟨_,hA,c1,c2⟩,_,hB,c3,c4⟩:=HRD.out w3 b0
 cases hA
 cases hB
 rw[Bf _ (k+1) Aa] at c2;clear HRD;generalize r.ds.getD k 0=x1 at*;generalize r.ds.getD (k+1) 0=x2 at*;generalize r.ss.getD a 0=y1 at*;generalize r.ss.getD b 0=y2 at*;obtain⟨s,hs⟩: ∃s,r.rise a b=s:=⟨_,rfl⟩;rw[hs] at HRS qr HLM;obtain⟨m1,hm1⟩: ∃n,2*(x2-x1)*d1=n:=⟨_,rfl⟩;obtain⟨m2,hm2⟩: ∃n,2*(x2-x1)*v1=n:=⟨_,rfl⟩;rw[hm1] at qn1 HLM;rw[hm2] at qn2 HLM;have wa:=Bg (x2-x1);have wb:=Bg (2*(x2-x1));have wc:=Bg (y2-y1);have we:r.c*(y2-y1)=s:=HRS.out.symm;have wf:=Bg s;have wg:=Bg m1;have wh:=Bg m2;have wk:=Bg ((k:Int)+1);have hkI:(k:Int)<(n0:Int):=Aa;have hkJ:(k:Int)+1<(n0:Int):=Aa;have hkK:(a:Int)<(n1:Int):=Aa;have hkL:(b:Int)<(n1:Int):=Aa;have hk3:((k:Int)+1).toNat=k+1:=Aa;have hk4:(0:Int)≤(k:Int)+1:=Aa;clear HRS dk dk1 sn sf hs;have e0:=K0.cell
 go_quiet (fail)
 revert nq;intro nq;have B3:Below w w (w3.drewN nq):=Ba b0 _;replace KS:Blk (w3.drewN nq) _ _ _:=KS;replace K0:Blk (w3.drewN nq) _ _ _:=K0;replace K1:Blk (w3.drewN nq) _ _ _:=K1;replace K2:Blk (w3.drewN nq) _ _ _:=K2;replace c3:(w3.drewN nq).cell? _=_:=c3;replace c4:(w3.drewN nq).cell? _=_:=c4;clear e0 c1 c2 b0
 go_upto_region 4 with fail
 generalize w3.drewN nq=w4 at KS K0 K1 K2 c3 c4 B3⊢;have e0:=K0.cell;have e1:=K1.cell
 go_quiet (fail)
 revert nq;intro nq;have B4:Below w w (w4.drewN nq):=Ba B3 _;replace KS:Blk (w4.drewN nq) _ _ _:=KS;replace K2:Blk (w4.drewN nq) _ _ _:=K2;clear e0 e1 c3 c4 B3 K0 K1
 go_upto_region 5 with fail
 generalize w4.drewN nq=w5 at KS K2 B4⊢;have hs0: ∀o,w5.cell? ⟨QS,o,none⟩=((Zii d1 v1):Array Value)[o]? :=KS.cell
 go_region_held3 (fun w'=>(∀o,w'.cell? ⟨QS,o,none⟩=((Zii d1 v1):Array Value)[o]?))
  (exact IJ)
  (first
   |(go_at_call 210;refine(Ee m1 s _ Aa Aa Aa Aa).mono ?_;rintro e w' ⟨rfl,rfl⟩)
   |(go_at_call 167;refine(EB m2 s _ Aa Aa Aa Aa).mono ?_;rintro e w' ⟨rfl,rfl⟩)
   |((fail_if_success (clear hbt_2));go_at_call 260;refine(HLM _).mono ?_;rintro e t_2 ⟨rfl,bt_2⟩;have hbt_2:Below w5 w5 t_2:=(show Below w5 w5 _ from Ax).trans (bt_2.mono C9);have hzt_2:=hbt_2.size;have hxt_2:=bt_2.size;(try simp at hxt_2);have hs0t_2: ∀o,t_2.cell? ⟨QS,o,none⟩=((Zii d1 v1):Array Value)[o]? :=fun o=>(KS.below hbt_2 KS.lt).cell o;have hy0t_2:QS<t_2.heap.size:=(KS.below hbt_2 KS.lt).lt;have es0t_2:=fun o=>(K2.below hbt_2 K2.lt).cell o;have fs0t_2:=fun o=>(K2.below hbt_2 K2.lt).frozen o;have gs0t_2:=(K2.below hbt_2 K2.lt).lt))
 all_goals
  have B5:=An B4 hbt_2;go_wp2;refine AS (v:=.tuple (BN z1 z2 z3)) (by simp[results,results305,go_sem,es0t_2]) rfl ⟨rfl,Ax⟩
theorem ee (r:Al) (a b:Nat):r.crLo a b=r.crLo b a∧r.crHi a b=r.crHi b a:=by
 have e:r.crN a b=r.crN b a:=by
  unfold Al.crN Al.thick;rw[Int.add_comm (r.pt a),show(r.ds.getD b 0-r.ds.getD a 0).natAbs=(r.ds.getD a 0-r.ds.getD b 0).natAbs by omega]
 unfold Al.crLo Al.crHi;rw[e,Int.add_comm (rU (r.sq a)),Int.add_comm (rD (r.sq a))];exact⟨rfl,rfl⟩
theorem fy (r:Al) (k:Nat) (z:Bool):r.crLo (nrK k z) (frK k z)=r.crLo k (k+1)∧r.crHi (nrK k z) (frK k z)=r.crHi k (k+1):=by
 cases z
 ·exact ee r (k+1) k
 ·exact⟨rfl,rfl⟩
def UV (lo hi v:Int):Value:=.tuple #[Zii (if ckB lo hi=true then lo else 0) (if ckB lo hi=true then hi else 0),ZI (if ckB lo hi=true then v else 0),ZI (if ckB lo hi=true then 0 else 3)]
theorem Mp (h:Ev) (r:Al) (k:Nat) (z:Bool) (hk:k+1<r.ds.length) (w:World) (X:DR w h r) (R:A8 r) (hca:r.can (nrK k z)=true):
  (BT 259 #[EV h,ZI r.src,GU r,ZI k,.bool z] w (UV (r.paLo (nrK k z) (frK k z)) (r.paHi (nrK k z) (frK k z)) (r.vd (nrK k z) (frK k z))):Prop):=by
 have hk0:k<r.ds.length:=Aa;have hn:nrK k z<r.ds.length:=by unfold nrK;split<;>omega
 have hsum:1≤rD (r.sq k)+rD (r.sq (k+1)):=by
  have h1:=R.rD_gen hk0;have h2:=R.rD_gen hk;have h3:=(R.rD_bd' hn hca).1;unfold nrK at h3
  split at h3<;>omega
 have HVD:=fun(W:World) (X:DR W h r)=>Og h r k z hk W X R;have HCR:=fun(W:World) (X:DR W h r)=>Rt h r k hk W X R hsum;have HTU:=fun(hcb:r.can (frK k z)=false) (W:World) (X:DR W h r)=>TF h r k z hk W X R hca hcb;have hvd:r.vd (nrK k z) (frK k z)=if r.can (frK k z)=true then 1 else 2:=by unfold Al.vd;rw[hca];rfl
 have hcr:=fy r k z;have hpl:r.paLo (nrK k z) (frK k z)=if r.can (frK k z)=true then r.crLo (nrK k z) (frK k z) else r.tuLo (nrK k z) (frK k z):=rfl;have hph:r.paHi (nrK k z) (frK k z)=if r.can (frK k z)=true then r.crHi (nrK k z) (frK k z) else r.tuHi (nrK k z) (frK k z):=rfl;have HX:=Ai X;clear X R hsum hn hk hk0 hca;rw[hpl,hph];rw[hvd] at HVD⊢;clear hpl hph hvd;rcases BA (r.can (frK k z)) with hcb|hcb
 ·rw[AA hcb] at HVD;rw[AA hcb,AA hcb,AA hcb,hcr.1,hcr.2];unfold UV;unfold fh at HCR;generalize r.crLo k (k+1)=lo at*;generalize r.crHi k (k+1)=hi at*;clear HTU hcr;obtain⟨⟨A0,n0,c0⟩,⟨A1,n1,c1⟩⟩:=h;unfold EV GU at*;simp only at HVD HCR⊢;rcases BA (ckB lo hi) with hc|hc
  ·simp only[hc,reduceIte] at HCR⊢
   go_enter func259,ntmps259
   go_upto_region 1 with fail
   generalize hG:(((w.alloc _).alloc _).alloc _)=w1;obtain⟨K0,K1,K2,b0⟩:=WF hG;clear hG;have X1:=HX.out.below b0;have e0:=K0.cell;have e1:=K1.cell;have HV1:=HVD _ X1;clear HVD
   go_wp2_with fail
   refine HV1.mono ?_;rintro e w2 ⟨rfl,b2⟩;clear HV1 e0 e1 HX;replace b0:=An b0 b2;replace X1:=X1.below b2;replace K0:=K0.below b2 K0.lt;replace K1:=K1.below b2 K1.lt;replace K2:=K2.below b2 K2.lt;clear b2;have e0:=K0.cell;have e1:=K1.cell;have HC1:=HCR _ X1;clear HCR
   go_wp2_with fail
   refine HC1.mono ?_;rintro e w3 ⟨rfl,b3⟩;clear HC1 e0 e1;replace b0:=An b0 b3;replace K0:=K0.below b3 K0.lt;replace K1:=K1.below b3 K1.lt;replace K2:=K2.below b3 K2.lt;clear b3
   go_upto_region 5 with fail
   generalize hG:w3.alloc _=w4;obtain⟨KS,bG⟩:=EX hG;clear hG;replace K0:=K0.below bG K0.lt;replace K1:=K1.below bG K1.lt;replace K2:=K2.below bG K2.lt;replace b0:=An b0 bG;clear bG;generalize w3.heap.size=QS at KS⊢;have eS:=KS.cell;have e2:=K2.cell;have f2:=K2.frozen;have g2:=K2.lt;go_wp2;refine AS (v:=.tuple #[Zii lo hi,ZI 1,ZI 0]) (by simp[results,results259,go_sem,e2,g2]) rfl ⟨rfl,Ax⟩
  ·simp only[hc,Ie,reduceIte] at HCR⊢
   go_enter func259,ntmps259
   go_upto_region 1 with fail
   generalize hG:(((w.alloc _).alloc _).alloc _)=w1;obtain⟨K0,K1,K2,b0⟩:=WF hG;clear hG;have X1:=HX.out.below b0;have e0:=K0.cell;have e1:=K1.cell;have HV1:=HVD _ X1;clear HVD
   go_wp2_with fail
   refine HV1.mono ?_;rintro e w2 ⟨rfl,b2⟩;clear HV1 e0 e1 HX;replace b0:=An b0 b2;replace X1:=X1.below b2;replace K0:=K0.below b2 K0.lt;replace K1:=K1.below b2 K1.lt;replace K2:=K2.below b2 K2.lt;clear b2;have e0:=K0.cell;have e1:=K1.cell;have HC1:=HCR _ X1;clear HCR
   go_wp2_with fail
   refine HC1.mono ?_;rintro e w3 ⟨rfl,b3⟩;clear HC1 e0 e1;replace b0:=An b0 b3;replace K2:=K2.below b3 K2.lt;clear b3
   go_upto_region 5 with fail
   generalize hG:w3.alloc _=w4;obtain⟨KS,bG⟩:=EX hG;clear hG;replace K2:=K2.below bG K2.lt;replace b0:=An b0 bG;clear bG;generalize w3.heap.size=QS at KS⊢;have e2:=K2.cell;have f2:=K2.frozen;have g2:=K2.lt;go_wp2;refine AS (v:=.tuple #[Cq,ZI 0,ZI 3]) (by simp[results,results259,go_sem,e2,g2]) rfl ⟨rfl,Ax⟩
 ·have hnt: ¬r.can (frK k z)=true:=E7;rw[Ak hnt] at HVD;rw[Ak hnt,Ak hnt,Ak hnt];have HT:=HTU hcb;unfold UV;unfold fh at HCR HT;generalize(if ckB (r.crLo k (k+1)) (r.crHi k (k+1))=true then r.crLo k (k+1) else 0)=y1 at HCR;generalize(if ckB (r.crLo k (k+1)) (r.crHi k (k+1))=true then r.crHi k (k+1) else 0)=y2 at HCR;generalize(if ckB (r.crLo k (k+1)) (r.crHi k (k+1))=true then(0:Int) else 3)=y3 at HCR;generalize r.tuLo (nrK k z) (frK k z)=lo at*;generalize r.tuHi (nrK k z) (frK k z)=hi at*;clear HTU hcr hnt hcb;obtain⟨⟨A0,n0,c0⟩,⟨A1,n1,c1⟩⟩:=h;unfold EV GU at*;simp only at HVD HCR HT⊢;rcases BA (ckB lo hi) with hc|hc
  ·simp only[hc,reduceIte] at HT⊢
   go_enter func259,ntmps259
   go_upto_region 1 with fail
   generalize hG:(((w.alloc _).alloc _).alloc _)=w1;obtain⟨K0,K1,K2,b0⟩:=WF hG;clear hG;have X1:=HX.out.below b0;have e0:=K0.cell;have e1:=K1.cell;have HV1:=HVD _ X1;clear HVD
   go_wp2_with fail
   refine HV1.mono ?_;rintro e w2 ⟨rfl,b2⟩;clear HV1 e0 e1 HX;replace b0:=An b0 b2;replace X1:=X1.below b2;replace K0:=K0.below b2 K0.lt;replace K1:=K1.below b2 K1.lt;replace K2:=K2.below b2 K2.lt;clear b2;have e0:=K0.cell;have e1:=K1.cell;have HC1:=HCR _ X1;clear HCR
   go_wp2_with fail
   refine HC1.mono ?_;rintro e w3 ⟨rfl,b3⟩;clear HC1 e0 e1;replace b0:=An b0 b3;replace X1:=X1.below b3;replace K0:=K0.below b3 K0.lt;replace K1:=K1.below b3 K1.lt;replace K2:=K2.below b3 K2.lt;clear b3;have hq2:w+1+1<w3.heap.size:=K2.lt;have hz:=b0.size
   go_upto_region 5 with fail
   generalize hG:w3.alloc _=w4;obtain⟨KS,bG⟩:=EX hG;clear hG;replace X1:=X1.below bG;replace K0:=K0.below bG K0.lt;replace K1:=K1.below bG K1.lt;replace K2:=K2.below bG K2.lt;replace b0:=An b0 bG;clear bG;generalize w3.heap.size=QS at KS hq2 hz⊢;have e0:=K0.cell;have e1:=K1.cell;have HT1:=HT _ X1;clear HT
   go_wp2_with fail
   refine HT1.mono ?_;rintro e w5 ⟨rfl,b5⟩;clear HT1 e0 e1 X1 K0 K1;replace b0:=An b0 b5;replace K2:=K2.below b5 K2.lt;replace KS:=KS.below b5 KS.lt;clear b5;have eS:=KS.cell;have fS:=KS.frozen;have e2:=K2.cell;have f2:=K2.frozen;have g2:=K2.lt;go_wp2;refine AS (v:=.tuple #[Zii lo hi,ZI 2,ZI 0]) (by simp[results,results259,go_sem,e2,g2]) rfl ⟨rfl,Ax⟩
  ·simp only[hc,Ie,reduceIte] at HT⊢
   go_enter func259,ntmps259
   go_upto_region 1 with fail
   generalize hG:(((w.alloc _).alloc _).alloc _)=w1;obtain⟨K0,K1,K2,b0⟩:=WF hG;clear hG;have X1:=HX.out.below b0;have e0:=K0.cell;have e1:=K1.cell;have HV1:=HVD _ X1;clear HVD
   go_wp2_with fail
   refine HV1.mono ?_;rintro e w2 ⟨rfl,b2⟩;clear HV1 e0 e1 HX;replace b0:=An b0 b2;replace X1:=X1.below b2;replace K0:=K0.below b2 K0.lt;replace K1:=K1.below b2 K1.lt;replace K2:=K2.below b2 K2.lt;clear b2;have e0:=K0.cell;have e1:=K1.cell;have HC1:=HCR _ X1;clear HCR
   go_wp2_with fail
   refine HC1.mono ?_;rintro e w3 ⟨rfl,b3⟩;clear HC1 e0 e1;replace b0:=An b0 b3;replace X1:=X1.below b3;replace K0:=K0.below b3 K0.lt;replace K1:=K1.below b3 K1.lt;replace K2:=K2.below b3 K2.lt;clear b3;have hq2:w+1+1<w3.heap.size:=K2.lt;have hz:=b0.size
   go_upto_region 5 with fail
   generalize hG:w3.alloc _=w4;obtain⟨KS,bG⟩:=EX hG;clear hG;replace X1:=X1.below bG;replace K0:=K0.below bG K0.lt;replace K1:=K1.below bG K1.lt;replace K2:=K2.below bG K2.lt;replace b0:=An b0 bG;clear bG;generalize w3.heap.size=QS at KS hq2 hz⊢;have e0:=K0.cell;have e1:=K1.cell;have HT1:=HT _ X1;clear HT
   go_wp2_with fail
   refine HT1.mono ?_;rintro e w5 ⟨rfl,b5⟩;clear HT1 e0 e1 X1 K0 K1;replace b0:=An b0 b5;replace K2:=K2.below b5 K2.lt;replace KS:=KS.below b5 KS.lt;clear b5;have eS:=KS.cell;have fS:=KS.frozen;have e2:=K2.cell;have f2:=K2.frozen;have g2:=K2.lt;go_wp2;refine AS (v:=.tuple #[Cq,ZI 0,ZI 3]) (by simp[results,results259,go_sem,e2,g2]) rfl ⟨rfl,Ax⟩
def EG:Option AU→Value
 |none=> .tuple (Da 0 false 0 0 0 3)
 |some y=> .tuple #[Hy y.st,ZI y.ev,ZI 0]
theorem FC (r:Al) (w:World):
  (BT 162 #[ZI r.src,GU r] w (Hy r.first):Prop):=by
 unfold GU Hy Al.first;simp only
 go_enter func162,ntmps162
 go_wp2;refine AS (v:=.agg (A7 r.src (decide (0<r.s)) 0 0)) (by simp[results,results162,go_sem]) rfl ⟨rfl,Ax⟩
theorem TR (h:Ev) (k:Nat) (lo hi:Int) (w:World) (hk:k<1000) (hn:h.D.n<1000):
  (BT 258 #[EV h,A7 k true lo hi] w (.tuple (Ly ((k:Int)) (decide ((k:Int)<(h.D.n:Int)-1)))):Prop):=by
 obtain⟨⟨A0,n0,c0⟩,⟨A1,n1,c1⟩⟩:=h;unfold EV;simp only at hn⊢;have wl:=Bg ((n0:Int)-1)
 go_enter func258,ntmps258
 go_upto_region 1 with fail
 generalize hG:((w.alloc _).alloc _)=w1;obtain⟨K0,K1,b0⟩:=Qg hG;clear hG;have e0:=K0.cell;have e1:=K1.cell
 go_wp2_with fail
 go_quiet (fail)
 revert nq;intro nq;have b1:Below w w (w1.drewN nq):=Ba b0 _;go_wp2
 go_ret2;exact⟨rfl,b1⟩
theorem TQ (h:Ev) (k:Nat) (lo hi:Int) (w:World) (hk:k<1000) (hn:h.D.n<1000):
  (BT 258 #[EV h,A7 k false lo hi] w (.tuple (Ly ((k:Int)-1) (decide (0<(k:Int))))):Prop):=by
 obtain⟨⟨A0,n0,c0⟩,⟨A1,n1,c1⟩⟩:=h;unfold EV;simp only at hn⊢;have wl:=Bg ((k:Int)-1)
 go_enter func258,ntmps258
 go_upto_region 1 with fail
 generalize hG:((w.alloc _).alloc _)=w1;obtain⟨K0,K1,b0⟩:=Qg hG;clear hG;have e1:=K1.cell
 go_wp2_with fail
 go_quiet (fail)
 revert nq;intro nq;have b1:Below w w (w1.drewN nq):=Ba b0 _;go_wp2;refine AS (v:=.tuple (Ly ((k:Int)-1) (decide (0<(k:Int))))) (by simp[results,results258,go_sem]) rfl ⟨rfl,b1⟩
theorem It (h:Ev) (r:Al) (x:En) (w:World) (X:DR w h r) (R:A8 r) (S:Jt r x):
  (BT 205 #[EV h,ZI r.src,GU r,Hy x] w (EG (r.step x)):Prop):=by
 have HX:=Ai X;have hlen:=R.len;have hnd:=X.nd;have hkl:=S.k;obtain⟨k,dn,lo,hi⟩:=x;simp only at hkl
 cases dn
 ·by_cases hin:0<k
  ·obtain⟨j,rfl⟩: ∃j,k=j+1:=⟨k-1,by omega⟩
   have hnx:r.nxt ⟨j+1,false,lo,hi⟩=some (j+1,j):=by unfold Al.nxt;rw[Ak (show¬(En.mk (j+1) false lo hi).dn=true from Bool.false_ne_true),AA hin];rfl
   have HLY:=fun W=>TQ h (j+1) lo hi W Aa Aa;rw[show((j+1:Nat):Int)=(j:Int)+1 by omega,BC (show 0<(j:Int)+1 by omega),Int.add_sub_cancel] at HLY
   have hca:r.can (j+1)=true:=S.can;have hbl:j<r.ds.length:=Aa;have hal:(j+1)<r.ds.length:=Aa;have HPA:=fun(W:World) (X:DR W h r)=>Mp h r j false (show j+1<r.ds.length by omega) W X R hca
   change∀(W:World),DR W h r→Calls _ _ _ W fun e w'=>e=.returned (UV (r.paLo (j+1) j) (r.paHi (j+1) j) (r.vd (j+1) j))∧_ at HPA;have HEN:=fun W=>Gg j false W Aa;have hvd:r.vd (j+1) j=if r.can j=true then 1 else 2:=by unfold Al.vd;rw[hca];rfl
   rw[hvd] at HPA
   have HW:r.step ⟨(j+1),false,lo,hi⟩=if isV (r.paLo (j+1) j)=true∧isV (r.paHi (j+1) j)=true∧isV (lo+r.paLo (j+1) j)=true∧isV (hi+r.paHi (j+1) j)=true then
      (if r.can j=true then some ⟨⟨j,false,lo+r.paLo (j+1) j,hi+r.paHi (j+1) j⟩,1,r.paLo (j+1) j,r.paHi (j+1) j⟩
       else some ⟨⟨(j+1),!false,lo+r.paLo (j+1) j,hi+r.paHi (j+1) j⟩,2,r.paLo (j+1) j,r.paHi (j+1) j⟩)
     else none:=by unfold Al.step;rw[hnx]
   rw[HW];have qp:=R.pa_bd hal hbl hca;have hlo:=Ac S.lo;have hhi:=Ac S.hi;simp only at hlo hhi;clear HW hnx S R X hvd hca hal hbl hin hkl hnd hlen;obtain⟨⟨A0,n0,c0⟩,⟨A1,n1,c1⟩⟩:=h;unfold UV at HPA;unfold Hy EV GU at*;simp only at HLY HPA⊢;generalize r.paLo (j+1) j=p1 at*;generalize r.paHi (j+1) j=p2 at*;have hck:ckB p1 p2=(isV p1 && isV p2):=rfl;have hck2:ckB (lo+p1) (hi+p2)=(isV (lo+p1) && isV (hi+p2)):=rfl;have ws1:=Bg (lo+p1);have ws2:=Bg (hi+p2);have HK2:=fun W=>EN (lo+p1) (hi+p2) W;rcases BA (ckB p1 p2) with hc1|hc1
   rotate_left
   rw[Ak (fun c=>by rw[hck,c.1,c.2.1] at hc1;cases hc1)]
   unfold EG;simp only[hc1,Ie,reduceIte] at HPA;clear hck hck2 HK2 HEN ws1 ws2
   rotate_left
   simp only[hc1,reduceIte] at HPA;rcases BA (ckB (lo+p1) (hi+p2)) with hc2|hc2
   rotate_left
   rw[Ak (fun c=>by rw[hck2,c.2.2.1,c.2.2.2] at hc2;cases hc2)]
   unfold EG;simp only[hc2,Ie,reduceIte] at HK2;clear hck hck2 HEN;generalize(if r.can j=true then(1:Int) else 2)=vv at HPA
   rotate_left 2
   simp only[hc2,reduceIte] at HK2
   have hall:isV p1=true∧isV p2=true∧isV (lo+p1)=true∧isV (hi+p2)=true:=by
    rw[hck,CD] at hc1;rw[hck2,CD] at hc2;exact⟨hc1.1,hc1.2,hc2.1,hc2.2⟩
   rw[AA hall];clear hall hck hck2 hc1 hc2;rcases BA (r.can j) with hcb|hcb
   rw[AA hcb];rw[AA hcb] at HPA;unfold EG;clear hcb
   rotate_left
   rw[Ak E7];rw[Ak E7] at HPA;unfold EG;clear hcb
   rotate_left 2
   all_goals
    rw[show((j+1:Nat):Int)=(j:Int)+1 by omega]
    go_enter func205,ntmps205
    go_upto_region 1 with fail
    generalize hG:((((w.alloc _).alloc _).alloc _).alloc _)=w1;obtain⟨K0,K1,K2,K3,b0⟩:=Y3 hG;clear hG;have X1:=HX.out.below b0;have e0:=K0.cell;have e2:=K2.cell
    go_wp2_with fail
    refine(HLY _).mono ?_;rintro e w2 ⟨rfl,b2⟩;clear HLY;replace b0:=An b0 b2;replace X1:=X1.below b2;replace K0:=K0.below b2 K0.lt;replace K1:=K1.below b2 K1.lt;replace K2:=K2.below b2 K2.lt;replace K3:=K3.below b2 K3.lt;clear b2 e0 e2;have e2:=K2.cell;have hq3:w+1+1+1<w2.heap.size:=K3.lt;have hz:=b0.size
    go_upto_region 3 with fail
    clear e2;generalize hG:w2.alloc _=w3;obtain⟨KO,bG⟩:=EX hG;clear hG;replace X1:=X1.below bG;replace K0:=K0.below bG K0.lt;replace K1:=K1.below bG K1.lt;replace K2:=K2.below bG K2.lt;replace K3:=K3.below bG K3.lt;replace b0:=An b0 bG;clear bG;generalize w2.heap.size=QO at KO hq3 hz⊢;have e0:=K0.cell;have e1:=K1.cell;have e2:=K2.cell;have HP1:=HPA _ X1;clear HPA
    go_wp2_with fail
    refine HP1.mono ?_;rintro e w4 ⟨rfl,b4⟩;clear HP1 e0 e1 e2 X1 K0 K1;replace b0:=An b0 b4;replace KO:=KO.below b4 KO.lt;replace K2:=K2.below b4 K2.lt;replace K3:=K3.below b4 K3.lt;clear b4
   ·have KB:=Br w4 136 Cq;have hz4:=b0.size;replace KO:=KO.alloc (.cells Cq 136);replace K2:=K2.alloc (.cells Cq 136);replace K3:=K3.alloc (.cells Cq 136);replace b0:Below w w (w4.alloc (.cells Cq 136)):=Ax
    go_upto_region 9 with fail
    generalize w4.alloc _=w5 at KB KO K2 K3 b0⊢;generalize w4.heap.size=QB at KB hz4⊢;have e3:=K3.cell;have f3:=K3.frozen;have g3:=K3.lt;go_wp2;refine AS (v:=.tuple (Da 0 false 0 0 0 3)) (by simp[results,results205,go_sem,e3,g3]) rfl ⟨by first|rfl|simp,Ax⟩
   all_goals
    go_upto_region 9 with fail
    generalize hG:w4.alloc _=w5;obtain⟨KB,bG⟩:=EX hG;clear hG;replace KO:=KO.below bG KO.lt;replace K2:=K2.below bG K2.lt;replace K3:=K3.below bG K3.lt;replace b0:=An b0 bG;clear bG;generalize w4.heap.size=QB at KB⊢;have eB:=KB.cell;have e2:=K2.cell
    go_wp2_with fail
    refine(HK2 _).mono ?_;rintro e w6 ⟨rfl,b6⟩;clear HK2 eB e2;replace b0:=An b0 b6;replace KO:=KO.below b6 KO.lt;replace K2:=K2.below b6 K2.lt;replace K3:=K3.below b6 K3.lt;clear b6 KB
   rotate_right
   ·have hz6:=b0.size;replace K3:=K3.alloc (.cells Cq 136);replace b0:Below w w (w6.alloc (.cells Cq 136)):=Ax
    go_upto_region 12 with fail
    generalize w6.alloc _=w7 at K3 b0⊢;generalize w6.heap.size=QS at hz6⊢;have e3:=K3.cell;have f3:=K3.frozen;have g3:=K3.lt;go_wp2;refine AS (v:=.tuple (Da 0 false 0 0 0 3)) (by simp[results,results205,go_sem,e3,g3]) rfl ⟨by first|rfl|simp,Ax⟩
   all_goals
    go_upto_region 12 with fail
    generalize hG:w6.alloc _=w7;obtain⟨KS,bG⟩:=EX hG;clear hG;replace KO:=KO.below bG KO.lt;replace K2:=K2.below bG K2.lt;replace K3:=K3.below bG K3.lt;replace b0:=An b0 bG;clear bG;generalize w6.heap.size=QS at KS⊢;have eS:=KS.cell;have eO:=KO.cell;have fO:=KO.frozen;have e2:=K2.cell;have e3:=K3.cell;have f3:=K3.frozen;have g3:=K3.lt
   ·simp only[Ie,reduceIte] at HEN
    go_wp2_with fail
    refine(HEN _).mono ?_;rintro e w' ⟨rfl,rfl⟩;go_wp2;refine AS (v:=.tuple (Da j false (lo+p1) (hi+p2) 1 0)) (by simp[results,results205,go_sem,e3,g3]) rfl ⟨by first|rfl|simp,Ax⟩
   ·go_wp2;refine AS (v:=.tuple (Da ((j:Int)+1) true (lo+p1) (hi+p2) 2 0)) (by simp[results,results205,go_sem,e3,g3]) rfl ⟨by first|rfl|simp,Ax⟩
  ·obtain rfl:k=0:=Aa;have HW:r.step ⟨0,false,lo,hi⟩=some ⟨⟨0,true,lo,hi⟩,3,0,0⟩:=by unfold Al.step Al.nxt;rfl
   have HLY:=fun W=>TQ h 0 lo hi W Aa Aa;rw[BR (show¬0<((0:Nat):Int) by omega)] at HLY
   rw[HW];clear HW S R X hin hkl hnd hlen;obtain⟨⟨A0,n0,c0⟩,⟨A1,n1,c1⟩⟩:=h;unfold EG Hy EV GU at*;simp only at HLY⊢
   go_enter func205,ntmps205
   go_upto_region 1 with fail
   generalize hG:((((w.alloc _).alloc _).alloc _).alloc _)=w1;obtain⟨K0,K1,K2,K3,b0⟩:=Y3 hG;clear hG;have e0:=K0.cell;have e2:=K2.cell
   go_wp2_with fail
   refine(HLY _).mono ?_;rintro e w2 ⟨rfl,b2⟩;clear HLY;replace b0:=An b0 b2;replace K2:=K2.below b2 K2.lt;replace K3:=K3.below b2 K3.lt;clear b2 e0 e2;have e2:=K2.cell;have hq3:w+1+1+1<w2.heap.size:=K3.lt;have hz:=b0.size
   go_upto_region 3 with fail
   clear e2;generalize hG:w2.alloc _=w3;obtain⟨KO,bG⟩:=EX hG;clear hG;replace K2:=K2.below bG K2.lt;replace K3:=K3.below bG K3.lt;replace b0:=An b0 bG;clear bG;generalize w2.heap.size=QO at KO hq3 hz⊢;have eO:=KO.cell;have fO:=KO.frozen;have e2:=K2.cell;have e3:=K3.cell;have f3:=K3.frozen;have g3:=K3.lt;go_wp2;refine AS (v:=.tuple (Da ((0:Nat):Int) true lo hi 3 0)) (by simp[results,results205,go_sem,e3,g3]) rfl ⟨by first|rfl|simp,Ax⟩
 ·by_cases hin:k+1<r.ds.length
  ·have hnx:r.nxt ⟨k,true,lo,hi⟩=some (k,k+1):=by unfold Al.nxt;rw[AA rfl,AA hin]
   have HLY:=fun W=>TR h k lo hi W Aa Aa;rw[BC (show(k:Int)<(h.D.n:Int)-1 by omega)] at HLY
   have hca:r.can k=true:=S.can;have hbl:(k+1)<r.ds.length:=Aa;have hal:k<r.ds.length:=Aa;have HPA:=fun(W:World) (X:DR W h r)=>Mp h r k true hin W X R hca;change∀(W:World),DR W h r→Calls _ _ _ W fun e w'=>e=.returned (UV (r.paLo k (k+1)) (r.paHi k (k+1)) (r.vd k (k+1)))∧_ at HPA;have HEN:=fun W=>Gg k true W Aa;have hvd:r.vd k (k+1)=if r.can (k+1)=true then 1 else 2:=by unfold Al.vd;rw[hca];rfl
   rw[hvd] at HPA
   have HW:r.step ⟨k,true,lo,hi⟩=if isV (r.paLo k (k+1))=true∧isV (r.paHi k (k+1))=true∧isV (lo+r.paLo k (k+1))=true∧isV (hi+r.paHi k (k+1))=true then
      (if r.can (k+1)=true then some ⟨⟨(k+1),true,lo+r.paLo k (k+1),hi+r.paHi k (k+1)⟩,1,r.paLo k (k+1),r.paHi k (k+1)⟩
       else some ⟨⟨k,!true,lo+r.paLo k (k+1),hi+r.paHi k (k+1)⟩,2,r.paLo k (k+1),r.paHi k (k+1)⟩)
     else none:=by unfold Al.step;rw[hnx]
   rw[HW];have qp:=R.pa_bd hal hbl hca;have hlo:=Ac S.lo;have hhi:=Ac S.hi;simp only at hlo hhi;clear HW hnx S R X hvd hca hal hbl hin hkl hnd hlen;obtain⟨⟨A0,n0,c0⟩,⟨A1,n1,c1⟩⟩:=h;unfold UV at HPA;unfold Hy EV GU at*;simp only at HLY HPA⊢;generalize r.paLo k (k+1)=p1 at*;generalize r.paHi k (k+1)=p2 at*;have hck:ckB p1 p2=(isV p1 && isV p2):=rfl;have hck2:ckB (lo+p1) (hi+p2)=(isV (lo+p1) && isV (hi+p2)):=rfl;have ws1:=Bg (lo+p1);have ws2:=Bg (hi+p2);have HK2:=fun W=>EN (lo+p1) (hi+p2) W;rcases BA (ckB p1 p2) with hc1|hc1
   rotate_left
   rw[Ak (fun c=>by rw[hck,c.1,c.2.1] at hc1;cases hc1)]
   unfold EG;simp only[hc1,Ie,reduceIte] at HPA;clear hck hck2 HK2 HEN ws1 ws2
   rotate_left
   simp only[hc1,reduceIte] at HPA;rcases BA (ckB (lo+p1) (hi+p2)) with hc2|hc2
   rotate_left
   rw[Ak (fun c=>by rw[hck2,c.2.2.1,c.2.2.2] at hc2;cases hc2)]
   unfold EG;simp only[hc2,Ie,reduceIte] at HK2;clear hck hck2 HEN;generalize(if r.can (k+1)=true then(1:Int) else 2)=vv at HPA
   rotate_left 2
   simp only[hc2,reduceIte] at HK2
   have hall:isV p1=true∧isV p2=true∧isV (lo+p1)=true∧isV (hi+p2)=true:=by
    rw[hck,CD] at hc1;rw[hck2,CD] at hc2;exact⟨hc1.1,hc1.2,hc2.1,hc2.2⟩
   rw[AA hall];clear hall hck hck2 hc1 hc2;rcases BA (r.can (k+1)) with hcb|hcb
   rw[AA hcb];rw[AA hcb] at HPA;unfold EG;clear hcb;simp only;unfold Hy;simp only;rw[show((k+1:Nat):Int)=(k:Int)+1 by omega]
   rotate_left
   rw[Ak E7];rw[Ak E7] at HPA;unfold EG;clear hcb
   rotate_left 2
   all_goals
    go_enter func205,ntmps205
    go_upto_region 1 with fail
    generalize hG:((((w.alloc _).alloc _).alloc _).alloc _)=w1;obtain⟨K0,K1,K2,K3,b0⟩:=Y3 hG;clear hG;have X1:=HX.out.below b0;have e0:=K0.cell;have e2:=K2.cell
    go_wp2_with fail
    refine(HLY _).mono ?_;rintro e w2 ⟨rfl,b2⟩;clear HLY;replace b0:=An b0 b2;replace X1:=X1.below b2;replace K0:=K0.below b2 K0.lt;replace K1:=K1.below b2 K1.lt;replace K2:=K2.below b2 K2.lt;replace K3:=K3.below b2 K3.lt;clear b2 e0 e2;have e2:=K2.cell;have hq3:w+1+1+1<w2.heap.size:=K3.lt;have hz:=b0.size
    go_upto_region 3 with fail
    clear e2;generalize hG:w2.alloc _=w3;obtain⟨KO,bG⟩:=EX hG;clear hG;replace X1:=X1.below bG;replace K0:=K0.below bG K0.lt;replace K1:=K1.below bG K1.lt;replace K2:=K2.below bG K2.lt;replace K3:=K3.below bG K3.lt;replace b0:=An b0 bG;clear bG;generalize w2.heap.size=QO at KO hq3 hz⊢;have e0:=K0.cell;have e1:=K1.cell;have e2:=K2.cell;have HP1:=HPA _ X1;clear HPA
    go_wp2_with fail
    refine HP1.mono ?_;rintro e w4 ⟨rfl,b4⟩;clear HP1 e0 e1 e2 X1 K0 K1;replace b0:=An b0 b4;replace KO:=KO.below b4 KO.lt;replace K2:=K2.below b4 K2.lt;replace K3:=K3.below b4 K3.lt;clear b4
   ·have KB:=Br w4 136 Cq;have hz4:=b0.size;replace KO:=KO.alloc (.cells Cq 136);replace K2:=K2.alloc (.cells Cq 136);replace K3:=K3.alloc (.cells Cq 136);replace b0:Below w w (w4.alloc (.cells Cq 136)):=Ax
    go_upto_region 9 with fail
    generalize w4.alloc _=w5 at KB KO K2 K3 b0⊢;generalize w4.heap.size=QB at KB hz4⊢;have e3:=K3.cell;have f3:=K3.frozen;have g3:=K3.lt;go_wp2;refine AS (v:=.tuple (Da 0 false 0 0 0 3)) (by simp[results,results205,go_sem,e3,g3]) rfl ⟨by first|rfl|simp,Ax⟩
   all_goals
    go_upto_region 9 with fail
    generalize hG:w4.alloc _=w5;obtain⟨KB,bG⟩:=EX hG;clear hG;replace KO:=KO.below bG KO.lt;replace K2:=K2.below bG K2.lt;replace K3:=K3.below bG K3.lt;replace b0:=An b0 bG;clear bG;generalize w4.heap.size=QB at KB⊢;have eB:=KB.cell;have e2:=K2.cell
    go_wp2_with fail
    refine(HK2 _).mono ?_;rintro e w6 ⟨rfl,b6⟩;clear HK2 eB e2;replace b0:=An b0 b6;replace KO:=KO.below b6 KO.lt;replace K2:=K2.below b6 K2.lt;replace K3:=K3.below b6 K3.lt;clear b6 KB
   rotate_right
   ·have hz6:=b0.size;replace K3:=K3.alloc (.cells Cq 136);replace b0:Below w w (w6.alloc (.cells Cq 136)):=Ax
    go_upto_region 12 with fail
    generalize w6.alloc _=w7 at K3 b0⊢;generalize w6.heap.size=QS at hz6⊢;have e3:=K3.cell;have f3:=K3.frozen;have g3:=K3.lt;go_wp2;refine AS (v:=.tuple (Da 0 false 0 0 0 3)) (by simp[results,results205,go_sem,e3,g3]) rfl ⟨by first|rfl|simp,Ax⟩
   all_goals
    go_upto_region 12 with fail
    generalize hG:w6.alloc _=w7;obtain⟨KS,bG⟩:=EX hG;clear hG;replace KO:=KO.below bG KO.lt;replace K2:=K2.below bG K2.lt;replace K3:=K3.below bG K3.lt;replace b0:=An b0 bG;clear bG;generalize w6.heap.size=QS at KS⊢;have eS:=KS.cell;have eO:=KO.cell;have fO:=KO.frozen;have e2:=K2.cell;have e3:=K3.cell;have f3:=K3.frozen;have g3:=K3.lt
   ·simp only[Ie,reduceIte] at HEN
    go_wp2_with fail
    refine(HEN _).mono ?_;rintro e w' ⟨rfl,rfl⟩;go_wp2;refine AS (v:=.tuple (Da ((k:Int)+1) true (lo+p1) (hi+p2) 1 0)) (by simp[results,results205,go_sem,e3,g3]) rfl ⟨by first|rfl|simp,Ax⟩
   ·go_wp2;refine AS (v:=.tuple (Da k false (lo+p1) (hi+p2) 2 0)) (by simp[results,results205,go_sem,e3,g3]) rfl ⟨by first|rfl|simp,Ax⟩
  ·have HW:r.step ⟨k,true,lo,hi⟩=some ⟨⟨k,false,lo,hi⟩,4,0,0⟩:=by unfold Al.step Al.nxt;rw[AA rfl,Ak hin];rfl
   have HLY:=fun W=>TR h k lo hi W Aa Aa;rw[BR (show¬(k:Int)<(h.D.n:Int)-1 by omega)] at HLY
   rw[HW];clear HW S R X hin hkl hnd hlen;obtain⟨⟨A0,n0,c0⟩,⟨A1,n1,c1⟩⟩:=h;unfold EG Hy EV GU at*;simp only at HLY⊢
   go_enter func205,ntmps205
   go_upto_region 1 with fail
   generalize hG:((((w.alloc _).alloc _).alloc _).alloc _)=w1;obtain⟨K0,K1,K2,K3,b0⟩:=Y3 hG;clear hG;have e0:=K0.cell;have e2:=K2.cell
   go_wp2_with fail
   refine(HLY _).mono ?_;rintro e w2 ⟨rfl,b2⟩;clear HLY;replace b0:=An b0 b2;replace K2:=K2.below b2 K2.lt;replace K3:=K3.below b2 K3.lt;clear b2 e0 e2;have e2:=K2.cell;have hq3:w+1+1+1<w2.heap.size:=K3.lt;have hz:=b0.size
   go_upto_region 3 with fail
   clear e2;generalize hG:w2.alloc _=w3;obtain⟨KO,bG⟩:=EX hG;clear hG;replace K2:=K2.below bG K2.lt;replace K3:=K3.below bG K3.lt;replace b0:=An b0 bG;clear bG;generalize w2.heap.size=QO at KO hq3 hz⊢;have eO:=KO.cell;have fO:=KO.frozen;have e2:=K2.cell;have e3:=K3.cell;have f3:=K3.frozen;have g3:=K3.lt;go_wp2;refine AS (v:=.tuple (Da k false lo hi 4 0)) (by simp[results,results205,go_sem,e3,g3]) rfl ⟨by first|rfl|simp,Ax⟩
structure fi (W:World) (B:Nat) (hs he:Hd) (l:List AU):Prop where
 sn:hs.n=l.length
 en:he.n=l.length
 rs:Rd W hs.A (hs.n*4) (No l)
 re:Rd W he.A he.n (ints (C2 l))
 bs: ∀ad,hs.A=some ad→0<hs.n→B≤ad.block
 be: ∀ad,he.A=some ad→0<he.n→B≤ad.block
theorem fi.below {W W':World} {B:Nat} {hs he:Hd} {l:List AU} (T:fi W B hs he l) (b:Below W W W'):fi W' B hs he l:=⟨T.sn,T.en,T.rs.below b,T.re.below b,T.bs,T.be⟩
theorem bX (l:List AU):(ints (C2 l)).length=l.length:=by unfold ints C2;simp
theorem dw (l:List AU):(No l).length=l.length*4:=by
 induction l with
 |nil=>rfl
 |cons y t ih=>unfold No at*;rw[List.flatMap_cons,Dy,ih];simp[Ln];omega
structure I4 (W:World) (B:Nat) (hs he:Hd) (us vs:List Value):Prop where
 oS:AR W B 4 hs us
 oE:AR W B 1 he vs
 off: ∀q,hs.row=some q→he.row≠some q
theorem I4.below {W W':World} {B:Nat} {hs he:Hd} {us vs:List Value} (T:I4 W B hs he us vs) (b:Below W W W'):I4 W' B hs he us vs:=⟨T.oS.below b,T.oE.below b,T.off⟩
theorem I4.far {W:World} {B:Nat} {hs he:Hd} {us vs:List Value} (T:I4 W B hs he us vs) {b i:Nat} (hb:b<B) (u:Value):I4 (W.setCell ⟨b,i,none⟩ u) B hs he us vs:=
 ⟨T.oS.farM (fun e=>by have:=(T.oS.rowlt _ e).1;simp only at this;omega) _,T.oE.farM (fun e=>by have:=(T.oE.rowlt _ e).1;simp only at this;omega) _,T.off⟩
theorem I4.pushS {W W':World} {B:Nat} {hs he G:Hd} {us vs xs:List Value} (T:I4 W B hs he us vs) (oG:AR W' B 4 G (us++xs)) (gg:W.grownBy W' hs.row) (hat:G.row=hs.row∨ ∃q,G.row=some q∧W.heap.size≤q):I4 W' B G he (us++xs) vs:=by
 refine⟨oG,T.oE.grown gg (fun q e c=>T.off _ c e),fun q e e2=> ?_⟩;rcases hat with h|⟨r,h,h'⟩
 ·exact T.off q (h▸e) e2
 ·rw[h] at e;injection e with e;have:=(T.oE.rowlt _ e2).2;omega
theorem I4.pushE {W W':World} {B:Nat} {hs he G:Hd} {us vs xs:List Value} (T:I4 W B hs he us vs) (oG:AR W' B 1 G (vs++xs)) (gg:W.grownBy W' he.row) (hat:G.row=he.row∨ ∃q,G.row=some q∧W.heap.size≤q):I4 W' B hs G us (vs++xs):=by
 refine⟨T.oS.grown gg (fun q e c=>T.off _ e c),oG,fun q e e2=> ?_⟩;rcases hat with h|⟨r,h,h'⟩
 ·exact T.off q e (h▸e2)
 ·rw[h] at e2;injection e2 with e2;have:=(T.oS.rowlt _ e).2;omega
theorem I4.trS {W:World} {B:Nat} {hs he:Hd} {l:List AU} (T:I4 W B hs he (No l) (ints (C2 l))):fi W B hs he l:=by
 have h1:(No l).length=hs.n*4:=T.oS.len;have h2:(ints (C2 l)).length=he.n*1:=T.oE.len;rw[dw] at h1;rw[bX] at h2;exact⟨by omega,by omega,T.oS.rd,T.oE.rd1,T.oS.lowA,T.oE.lowA⟩
def QQ (r:Al) (n:Int) (w:World) (e:Ending) (w':World):Prop:=
 (trC r n≠0∧e=.returned (.tuple #[.slice none 0 0,.slice none 0 0,ZI (trC r n)])∧Below w w w')∨
 ∃(x:En) (l:List AU) (hs he:Hd),trC r n=0∧inR n 0 100=true∧r.tr n.toNat=some (x,l)∧e=.returned (.tuple #[.slice hs.A hs.n hs.c,.slice he.A he.n he.c,ZI 0])∧fi w' w.heap.size hs he l∧Below w w w'
theorem OD {r:Al} {n:Int} {w w':World} {cd:Int} (h:trC r n=cd) (h0:cd≠0) (b:Below w w w'):QQ r n w (.returned (.tuple #[.slice none 0 0,.slice none 0 0,ZI cd])) w':=Or.inl ⟨by rw[h];exact h0,by rw[h],b⟩
theorem Ye {r:Al} {n:Int} {w w':World} {x:En} {l:List AU} {hs he:Hd} (hi:inR n 0 100=true) (ht:r.tr n.toNat=some (x,l)) (T:fi w' w.heap.size hs he l) (b:Below w w w'):QQ r n w (.returned (.tuple #[.slice hs.A hs.n hs.c,.slice he.A he.n he.c,ZI 0])) w':=
 Or.inr ⟨x,l,hs,he,by unfold trC;rw[AA hi,ht],hi,ht,rfl,T,b⟩
theorem Ru (h:Ev) (r:Al) (n:Int) (w:World) (X:DR w h r) (R:A8 r):
  Calls prog 161 #[EV h,ZI r.src,GU r,ZI n] w (QQ r n w):=by
 have hl:=R.len
 have hcode:codeB h.D.n h.S.n r.ds r.ss (r.src:Int) r.c r.s r.h=0:=by
  have hp:=R.prof;have hs:=R.src;rw[←X.nd,←X.ns] at hp;unfold codeB;rw[hp,R.dir,AA (show(true && true)=true from rfl),AA (CN Aa (by have:=X.nd;omega))]
 have HCD:=fun(W:World) (X:DR W h r)=>TE h.D.A h.S.A h.D.n h.S.n h.D.c h.S.c r.ds r.ss (r.src:Int) r.c r.s r.h W (by have:=X.nd;omega) (by have:=X.ns;omega) X.d X.s
 rw[hcode] at HCD;have HF:=fun W=>FC r W;have HS:=fun(x:En) (W:World) (X:DR W h r) (S:Jt r x)=>It h r x W X R S;have HOK:=Ai R.tr_ok;have HX:=Ai X;have HIN:=fun W=>Ay n 0 100 W;clear X R hl hcode;obtain⟨⟨A0,n0,c0⟩,⟨A1,n1,c1⟩⟩:=h;unfold EV GU at*;simp only at HCD HF HS⊢;have K0:=(Blk.newN (g:=w) w 30 (CH A0 n0 c0 A1 n1 c1) Cr).alloc (.cells (Ziii r.c r.s r.h) 32);have K1:=Blk.newN (g:=w+1) (w.alloc (.cells (CH A0 n0 c0 A1 n1 c1) 30)) 32 (Ziii r.c r.s r.h) Cr;have b0:Below w w ((w.alloc (.cells (CH A0 n0 c0 A1 n1 c1) 30)).alloc (.cells (Ziii r.c r.s r.h) 32)):=Ax;have X1:=HX.out.below b0;rcases BA (inR n 0 100) with hi|hi
 rotate_left
 ·have hcd:trC r n=2:=by unfold trC;rw[hi];rfl
  rw[hi] at HIN
  go_enter func161,ntmps161
  go_upto_region 1 with fail
  generalize(w.alloc _).alloc _=w1 at K0 K1 b0 X1⊢;have e0:=K0.cell;have e1:=K1.cell;have HC1:=HCD _ X1;clear HCD
  go_wp2_with fail
  refine HC1.mono ?_;rintro e w2 ⟨rfl,b2⟩;replace b0:=An b0 b2;clear HC1 e0 e1 K0 K1
  go_wp2_with fail
  refine(HIN _).mono ?_;rintro e w' ⟨rfl,rfl⟩;go_wp2;refine AS (v:=.tuple #[.slice none 0 0,.slice none 0 0,ZI 2]) (by simp[results,results161,go_sem]) rfl ?_
  exact OD hcd Ah b0
 obtain⟨m,hmn⟩: ∃m:Nat,n=(m:Int):=⟨n.toNat,by have:=Ac hi;omega⟩
 subst hmn;have hm:m≤100:=by have:=Ac hi;omega
 rw[hi] at HIN;have HI:=Ai hi;clear hi
 go_enter func161,ntmps161
 go_upto_region 1 with fail
 generalize(w.alloc _).alloc _=w1 at K0 K1 b0 X1⊢;have e0:=K0.cell;have e1:=K1.cell;have HC1:=HCD _ X1;clear HCD
 go_wp2_with fail
 refine HC1.mono ?_;rintro e w2 ⟨rfl,b2⟩;replace b0:=An b0 b2;replace K0:=K0.below b2 K0.lt;replace K1:=K1.below b2 K1.lt;clear HC1 e0 e1 X1 b2
 go_wp2_with fail
 refine(HIN _).mono ?_;rintro e w' ⟨rfl,rfl⟩;clear HIN
 go_upto_region 7 with fail
 replace K0:=(K0.alloc (.cells #[] 138)).alloc (.cells #[] 2);replace K1:=(K1.alloc (.cells #[] 138)).alloc (.cells #[] 2);have hz2:=b0.size;replace b0:Below w w ((w2.alloc (.cells #[] 138)).alloc (.cells #[] 2)):=Ax;generalize(w2.alloc _).alloc _=w3 at K0 K1 b0⊢;generalize(some (⟨w2,0,none⟩:Addr))=PA;generalize(some (⟨w2+1,0,none⟩:Addr))=PB;have e1:=K1.cell
 go_wp2_with fail
 refine(HF _).mono ?_;unfold Hy;rintro e w4 ⟨rfl,b4⟩;clear HF e1;replace b0:=An b0 b4;replace K0:=K0.below b4 K0.lt;replace K1:=K1.below b4 K1.lt;obtain⟨x0,hx0⟩: ∃x,r.first=x:=⟨_,rfl⟩;have htr0:r.tr 0=some (x0,[]):=by rw[←hx0];rfl
 rw[hx0];clear hx0 b4;have hq1:w+1<w4.heap.size:=K1.lt;have hz4:=b0.size
 go_upto_region 8 with fail
 generalize hG:w4.alloc _=w5;obtain⟨KX,bG⟩:=EX hG;clear hG;replace K0:=K0.below bG K0.lt;replace K1:=K1.below bG K1.lt;replace b0:=An b0 bG;clear bG;generalize w4.heap.size=gx at KX hq1 hz4⊢;have T0:I4 w5 (gx+1) ⟨PA,0,0⟩ ⟨PB,0,0⟩ (No []) (ints (C2 [])):=⟨AR.empty _ _ _ _,AR.empty _ _ _ _,fun q e=>by simp[Hd.row] at e⟩
 have hx1:gx≠w.heap.size:=Aa;have hx2:gx≠w.heap.size+1:=Aa;have hx1':=hx1.symm;have hx2':=hx2.symm
 go_wp2_with fail
 go_loopw [12,13,15] (fun t12 t13 i wr=> ∃(k:Nat) (x:En) (l:List AU) (hs he:Hd),k≤m∧t12=.slice hs.A hs.n hs.c∧t13=.slice he.A he.n he.c∧i=.int .i64 k∧r.tr k=some (x,l)∧I4 wr (gx+1) hs he (No l) (ints (C2 l))∧Blk wr gx 138 (A7 x.k x.dn x.lo x.hi)∧Blk wr w.heap.size 30 (CH A0 n0 c0 A1 n1 c1)∧Blk wr (w.heap.size+1) 32 (Ziii r.c r.s r.h)∧Below w w wr) (fun _ _ i _=>m-(intOf i).toNat)
 case atStart=>exact⟨0,x0,[],⟨PA,0,0⟩,⟨PB,0,0⟩,AZ _,rfl,rfl,rfl,htr0,T0,KX,K0,K1,b0⟩
 case round=>
  clear T0 KX K0 K1 b0 htr0;obtain⟨k,x,l,⟨SA,sn,sc⟩,⟨EA,en,ec⟩,hk,rfl,rfl,rfl,htr,T,KX,K0,K1,B⟩:=hrel
  try simp only at T
  by_cases hlt:k<m
  ·have hltI:(k:Int)<(m:Int):=Aa;obtain⟨S,hll,-,-⟩:=HOK.out k x l htr;have h63:sn+1≤1099511627776:=by have:=T.trS.sn;simp only at this;omega
   have h64:en+1≤1099511627776:=by have:=T.trS.en;simp only at this;omega
   clear hll;have HSX:=HS x _ (HX.out.below B) S;unfold Hy at HSX;have HNX:=Ai (Nr htr);clear HS htr S;have e0:=K0.cell;have e1:=K1.cell;have ex:=KX.cell
   go_wp2_with fail
   refine HSX.mono ?_;clear HSX;rcases hst:r.step x with _|y
   ·unfold EG;simp only;rintro e w6 ⟨rfl,b6⟩;have HV:Hid (r.tr m=none):=Lt (HNX.out.1 hst) m Aa;have B6:=An B b6;have hz6:=B6.size;have B7:Below w w (w6.alloc (.cells DJ 138)):=Ax;clear e0 e1 ex T KX K0 K1 B b6 hst;go_wp2;refine AS (v:=.tuple #[.slice none 0 0,.slice none 0 0,ZI 3]) (by simp[results,results161,go_sem]) rfl ?_
    exact OD (by unfold trC;rw[AA HI.out,show((m:Int)).toNat=m from by omega,HV.out]) Ah B7
   ·unfold EG Hy;simp only;rintro e w6 ⟨rfl,b6⟩;have HV:Hid (r.tr (k+1)=some (y.st,l++ [y])):=HNX.out.2 y hst;replace B:=An B b6;replace T:=T.below b6;replace KX:=KX.below b6 KX.lt;replace K0:=K0.below b6 K0.lt;replace K1:=K1.below b6 K1.lt;clear e0 e1 ex b6 HNX hst
    go_upto_region 12 with fail
    generalize hG:w6.alloc _=w7;obtain⟨K8,bG⟩:=EX hG;clear hG;replace T:=T.below bG;replace KX:=KX.below bG KX.lt;replace K0:=K0.below bG K0.lt;replace K1:=K1.below bG K1.lt;replace B:=An B bG;clear bG;generalize w6.heap.size=q8 at K8⊢;have e8:=K8.cell;have ex:=KX.cell;have fx:=KX.frozen
    go_upto_region 15 with fail
    clear e8 ex fx K8;have NX:=KX.set_all4 (x0:=.int .i64 (y.st.k:Int)) (x1:=.bool y.st.dn) (x2:=.int .i64 y.st.lo) (x3:=.int .i64 y.st.hi);have NT:=(((T.far (b:=gx) (i:=0) Aa (ZI y.st.k)).far (b:=gx) (i:=1) Aa (.bool y.st.dn)).far (b:=gx) (i:=2) Aa (ZI y.st.lo)).far (b:=gx) (i:=3) Aa (ZI y.st.hi);have N0:=(((K0.far (p:=⟨gx,0,none⟩) hx1' (ZI y.st.k)).far (p:=⟨gx,1,none⟩) hx1' (.bool y.st.dn)).far (p:=⟨gx,2,none⟩) hx1' (ZI y.st.lo)).far (p:=⟨gx,3,none⟩) hx1' (ZI y.st.hi);have N1:=(((K1.far (p:=⟨gx,0,none⟩) hx2' (ZI y.st.k)).far (p:=⟨gx,1,none⟩) hx2' (.bool y.st.dn)).far (p:=⟨gx,2,none⟩) hx2' (ZI y.st.lo)).far (p:=⟨gx,3,none⟩) hx2' (ZI y.st.hi);have B5:Below w w ((((w7.setCell ⟨gx,0,none⟩ (ZI y.st.k)).setCell ⟨gx,1,none⟩ (.bool y.st.dn)).setCell ⟨gx,2,none⟩ (ZI y.st.lo)).setCell ⟨gx,3,none⟩ (ZI y.st.hi)):=Ax;clear T KX K0 K1 B;generalize(((w7.setCell ⟨gx,0,none⟩ (ZI y.st.k)).setCell ⟨gx,1,none⟩ (.bool y.st.dn)).setCell ⟨gx,2,none⟩ (ZI y.st.lo)).setCell ⟨gx,3,none⟩ (ZI y.st.hi)=w8 at NX NT N0 N1 B5⊢;have RE1:Rd (w8.alloc (.cells (A7 y.st.k y.st.dn y.st.lo y.st.hi) 138)) (some ⟨w8,0,none⟩) (1*4) (Ln y.st):=dV _ _ _;have T1:=NT.below ((AP _ _).alloc Bk (.cells (A7 y.st.k y.st.dn y.st.lo y.st.hi) 138));have X1:=NX.alloc (.cells (A7 y.st.k y.st.dn y.st.lo y.st.hi) 138);have Z1:=N0.alloc (.cells (A7 y.st.k y.st.dn y.st.lo y.st.hi) 138);have O1:=N1.alloc (.cells (A7 y.st.k y.st.dn y.st.lo y.st.hi) 138);have hsv1:=B5.size;have D1:Below w w (w8.alloc (.cells (A7 y.st.k y.st.dn y.st.lo y.st.hi) 138)):=Ax;have hB1:gx+1≤(w8.alloc (.cells (A7 y.st.k y.st.dn y.st.lo y.st.hi) 138)).heap.size:=X1.lt;have cx:=NX.cell
    go_upto_region 16 with(at_builtin;refine Aj rfl _ _ 165 rfl 138 4 32 underlying165 Jh Ah (gx+1) ⟨SA,sn,sc⟩ _ rfl T1.oS _ 1 1 (Ln y.st) rfl RE1 (Oo _) h63 Ah hB1 ?_;intro G1 wg1 hn1 oG1 gg1 hat1;have HNG1:=Ai hn1;clear hn1)
    have hrl1:=T1.oS.rowlt;have NT:=T1.pushS oG1 gg1 hat1;have NX:=X1.grown gg1 (fun e=>by have:=(hrl1 _ e).1;omega)
    have N0:=Z1.grown gg1 (fun e=>by have:=(hrl1 _ e).1;omega)
    have N1:=O1.grown gg1 (fun e=>by have:=(hrl1 _ e).1;omega)
    have D1':=D1.grown gg1 D1.size (fun b e=>by have:=(hrl1 _ e).1;omega)
    clear B5 RE1 T1 X1 Z1 O1 D1 hB1 cx oG1 gg1 hat1 HNG1 hrl1;have RE2:Rd (wg1.alloc (.cells #[ZI y.ev] 2)) (some ⟨wg1,0,none⟩) (1*1) (ints [y.ev]):=BD _ _ _;have T2:=NT.below ((AP _ _).alloc Bk (.cells #[ZI y.ev] 2));have X2:=NX.alloc (.cells #[ZI y.ev] 2);have Z2:=N0.alloc (.cells #[ZI y.ev] 2);have O2:=N1.alloc (.cells #[ZI y.ev] 2);have hsv2:=D1'.size;have D2:Below w w (wg1.alloc (.cells #[ZI y.ev] 2)):=Ax;have hB2:gx+1≤(wg1.alloc (.cells #[ZI y.ev] 2)).heap.size:=X2.lt
    go_wp2_with (at_builtin;refine Aj rfl _ _ 28 rfl 2 1 8 underlying28 AJ Ah (gx+1) ⟨EA,en,ec⟩ _ rfl T2.oE _ 1 1 (ints [y.ev]) rfl RE2 (Ao _) h64 Ah hB2 ?_;intro G2 wg2 hn2 oG2 gg2 hat2;have HNG2:=Ai hn2;clear hn2)
    have hrl2:=T2.oE.rowlt;have NT:=T2.pushE oG2 gg2 hat2;have NX:=X2.grown gg2 (fun e=>by have:=(hrl2 _ e).1;omega)
    have N0:=Z2.grown gg2 (fun e=>by have:=(hrl2 _ e).1;omega)
    have N1:=O2.grown gg2 (fun e=>by have:=(hrl2 _ e).1;omega)
    have D2':=D2.grown gg2 D2.size (fun b e=>by have:=(hrl2 _ e).1;omega)
    clear D1' RE2 T2 X2 Z2 O2 D2 hB2 oG2 gg2 hat2 HNG2 hrl2
    go_roundw
    case rel=>exact⟨k+1,y.st,l++ [y],G1,G2,by omega,rfl,rfl,by go_num,HV.out,by rw[Td,UF];exact NT,NX,N0,N1,D2'⟩
    case measure=>simp[intOf];omega
  ·obtain rfl:m=k:=Aa;have hltI: ¬(m:Int)<(m:Int):=Aa;have HT:=Ai htr;clear htr HS HOK KX K0 K1;go_wp2;refine AS (v:=.tuple #[.slice SA sn sc,.slice EA en ec,ZI 0]) (by simp[results,results161,go_sem]) rfl ?_
   exact Ye (hs:=⟨SA,sn,sc⟩) (he:=⟨EA,en,ec⟩) HI.out (by rw[show((m:Int)).toNat=m from by omega];exact HT.out) ⟨T.trS.sn,T.trS.en,T.trS.rs,T.trS.re,fun a e n=>by have:=T.trS.bs a e n;omega,fun a e n=>by have:=T.trS.be a e n;omega⟩ B
theorem Yw {W:World} {A:Option Addr} {n:Nat} {l:List AU} {y:AU} {m:Nat} (R:Rd W A (n*4) (No l)) (hn:n=l.length) (hy:l[m]? =some y): ∃ad,A=some ad∧W.cell? (ad.add (m*4))=ZS y.st.k∧W.cell? ⟨(ad.add (m*4)).block,(ad.add (m*4)).off+1,none⟩=some (.bool y.st.dn)∧W.cell? ⟨(ad.add (m*4)).block,(ad.add (m*4)).off+2,none⟩=ZS y.st.lo∧W.cell? ⟨(ad.add (m*4)).block,(ad.add (m*4)).off+3,none⟩=ZS y.st.hi:=by
 have hm:m<l.length:=(List.getElem?_eq_some_iff.1 hy).1;have hst:=Xh hy;obtain⟨ad,hA,hc⟩:=R.2 Aa;have hc0:=hc (m*4) Aa;have hc1:=hc (m*4+1) Aa;have hc2:=hc (m*4+2) Aa;have hc3:=hc (m*4+3) Aa;rw[hst.1] at hc0;rw[hst.2.1] at hc1;rw[hst.2.2.1] at hc2;rw[hst.2.2.2] at hc3;rw[←Cn _ _ 1 Ah] at hc1;rw[←Cn _ _ 2 Ah] at hc2;rw[←Cn _ _ 3 Ah] at hc3;exact⟨ad,hA,hc0,hc1,hc2,hc3⟩
theorem L9 (h:Ev) (r:Al) (n:Int) (w:World) (X:DR w h r) (R:A8 r):
  Calls prog 123 #[EV h,ZI r.src,GU r,ZI n] w (UY r n w):=by
 have HTR:=fun(W:World) (X:DR W h r)=>Ru h r n W X R;have HF:=fun W=>FC r W;have HOK:=Ai R.tr_ok;have HX:=Ai X;clear X R;obtain⟨⟨A0,n0,c0⟩,⟨A1,n1,c1⟩⟩:=h;unfold QQ EV GU at*;simp only at HTR HF⊢
 go_enter func123,ntmps123
 go_upto_region 1 with fail
 generalize hG:((w.alloc _).alloc _).alloc _=w1;obtain⟨K0,K1,K2,b0⟩:=WF hG;clear hG;have X1:=HX.out.below b0;have e0:=K0.cell;have g0:=K0.lt;have e1:=K1.cell;have g1:=K1.lt;have HT1:=HTR _ X1;have hw1:w+1+1<w1.heap.size:=K2.lt;clear HTR HX X1
 go_wp2_with fail
 refine HT1.mono ?_;clear HT1;rintro e w2 (⟨hne,rfl,b2⟩|⟨x,l,⟨SA,sn,sc⟩,⟨EA,en,ec⟩,hcd,hi,htr,rfl,T,b2⟩)
 ·replace b0:=An b0 b2;replace K2:=K2.below b2 K2.lt;clear e0 g0 e1 g1 K0 K1 HF b2;obtain⟨cd,hcd⟩: ∃c,trC r n=c:=⟨_,rfl⟩;rw[hcd] at hne⊢;have hcb2:(cd !=0)=true:=by rw[bne_iff_ne];exact hne
  have HC:=Ai hcd;clear hcd;have e2:=K2.cell;have f2:=K2.frozen;have g2:=K2.lt;go_wp2;refine AS (v:=.tuple (Dr none 0 0 0 false 0 0 cd)) (by simp[results,results123,go_sem,e2,g2]) rfl ?_
  exact JH HC.out hne Ax
 ·simp only;replace b0:=An b0 b2;replace K1:=K1.below b2 K1.lt;replace K2:=K2.below b2 K2.lt;obtain⟨-,hll,-,hlast⟩:=HOK.out _ _ _ htr;have hib:=Ac hi;have HH:=Ai (And.intro hcd (And.intro hi htr));clear e0 g0 e1 g1 K0 hcd hi htr b2;have e1:=K1.cell;have g1:=K1.lt;have e2:=K2.cell;have f2:=K2.frozen;have g2:=K2.lt
  by_cases h0:n=0
  ·subst h0;have hl0:l= []:=Pt hll;subst hl0;have hxf:r.first=x:=hlast.symm;clear hlast hll;unfold Hy at HF;rw[hxf] at HF;clear hxf
   go_wp2_with fail
   refine(HF _).mono ?_;rintro e w3 ⟨rfl,b3⟩;clear HF e1 g1 e2 f2 g2 K1;replace b0:=An b0 b3;replace K2:=K2.below b3 K2.lt;have e2:=K2.cell;have f2:=K2.frozen;have g2:=K2.lt;go_wp2;refine AS (v:=.tuple (Dr none 0 0 x.k x.dn x.lo x.hi 0)) (by simp[results,results123,go_sem,e2,g2]) rfl ?_
   exact Or.inr ⟨x,[],⟨none,0,0⟩,HH.out.1,HH.out.2.1,HH.out.2.2,rfl,rfl,by decide,Rd.nil _ _,(fun _ e=>by cases e),Ax⟩
  ·obtain⟨m,hm⟩: ∃m:Nat,n=(m:Int)+1:=⟨(n-1).toNat,by omega⟩
   obtain⟨y,hy⟩: ∃y,l[m]? =some y:=⟨_,Db Aa⟩
   have hxy:x=y.st:=by
    rw[hlast,List.getLast?_eq_getElem?,show l.length-1=m by omega,hy];rfl
   obtain⟨ad,hA,c0',c1',c2',c3'⟩:=Yw T.rs T.sn hy;simp only at hA;subst hA;have hsn:m<sn:=by have:=T.sn;simp only at this;omega
   have HEN:Hid (en=l.length):=T.en;have hen:en≤100:=by have:=HEN.out;omega
   have HT:=Ai T;have n0':(n==0)=false:=by rw[Ea];exact h0
   have hn1:n-1=(m:Int):=Aa;have wm:=Bg (m:Int);have hmI:(m:Int)<(sn:Int):=Aa;clear hy hlast hll hm HF T hib;rw[←hxy] at c0' c1' c2' c3';clear hxy
   go_upto_region 6 with fail
   go_region
   all_goals
    go_wp2;refine AS (v:=.tuple (Dr EA en ec x.k x.dn x.lo x.hi 0)) (by simp[results,results123,go_sem,e2,g2]) rfl ?_
    refine Or.inr ⟨x,l,⟨EA,en,ec⟩,HH.out.1,HH.out.2.1,HH.out.2.2,rfl,HEN.out,hen,?_,(fun ad e h=>by have h1:w1≤ad.block:=HT.out.be ad e h;omega),Ax⟩
    have hRe:=HT.out.re
    repeat(first|with_reducible exact hRe|(refine Rd.keep ?_ (fun ad e hn=>Below.heap_setCell _ _ _ _ (fun c=>by have:=HT.out.be ad e hn;simp only at c;omega))))
theorem Je (A:Option Addr) (n c:Nat) (evs:List Int) (w:World) (hn:n≤100) (hr:Rd w A n (ints evs)) (ha:BV evs 1 4=true):
  (BT 124 #[.slice A n c] w (.string ⟨(hisL evs).toArray⟩):Prop):=by
 have hl:evs.length=n:=by have:=hr.len;exact this
 have HW:=fun(W:World) (R:Rd W A n (ints evs))=>Gw A n c evs 100 1 4 W Aa R;rw[show Hn evs 100 1 4=true from by unfold Hn;rw[ha];simp;omega] at HW
 have x1:(ByteArray.mk #[99,116,115,98]).extract 0 1=⟨#[99]⟩:=Ah;have x2:(ByteArray.mk #[99,116,115,98]).extract 1 2=⟨#[116]⟩:=Ah;have x3:(ByteArray.mk #[99,116,115,98]).extract 2 3=⟨#[115]⟩:=Ah;have x4:(ByteArray.mk #[99,116,115,98]).extract 3 4=⟨#[98]⟩:=Ah
 go_enter func124,ntmps124
 go_wp2_with fail
 refine(HW _ hr).mono ?_;rintro e w' ⟨rfl,rfl⟩;clear HW
 go_wp2_with fail
 go_loopw [3,4] (fun t i wr=> ∃k:Nat,k≤n∧i=.int .i64 k∧t=.string ⟨(hisL (evs.take k)).toArray⟩∧Below w w wr) (fun _ i _=>n-(intOf i).toNat)
 case atStart=>exact⟨0,AZ _,rfl,rfl,AP _ _⟩
 case round=>
  obtain⟨k,hk,rfl,rfl,b⟩:=hrel
  by_cases hlt:k<n
  ·have hltI:(k:Int)<(n:Int):=Aa;obtain⟨ad,hA,hc⟩:=(hr.below b).int hlt;subst hA;have HT:=Ai (Ts (evs:=evs) (k:=k) Aa);have hv:=EZ ha (k:=k) Aa;have HL:=fun(u:Bs)=>AY (hisL (evs.take k)) u;have htl:(hisL (evs.take k)).length=k:=by unfold hisL;rw[List.length_map,Ju];omega
   have hll: ¬9223372036854775807<(hisL (evs.take k)).length+1:=Aa;clear htl;generalize hisL (evs.take k)=t at*;generalize evs.getD k 0=v at*;obtain rfl|rfl|rfl|rfl:v=1∨v=2∨v=3∨v=4:=Aa
   all_goals
    go_wp2_with fail
    go_quiet (fail)
    revert nq;intro nq;have b1:Below w w (wr.drewN nq):=Ba b _;go_wp2
    go_roundw
    case rel=>exact⟨k+1,by omega,by go_num,(by first|(rw[HT.out];rfl)|exact(AN Value.string (HL _)).trans (by rw[HT.out];rfl)),b1⟩
    case measure=>simp[intOf];omega
  ·obtain rfl:n=k:=Aa;have ht:evs.take n=evs:=ED Aa;have hltI: ¬(n:Int)<(n:Int):=Aa;rw[ht];go_wp2;go_ret;exact⟨rfl,b⟩
def aV (x y:En) (same:Bool) (lo hi:Int):Value:=.agg (Az x.k x.dn x.lo x.hi y.k y.dn y.lo y.hi same lo hi)
def ceR (r q:Al) (n:Nat):Value:=match r.tr n,q.tr n with
 |some (x,l),some (y,m)=> .tuple #[aV x y (decide (C2 l=C2 m)) (Ej (BF l) (BF m) n) (Ei (BF l) (BF m) n),ZI 0]
 |_,_=> .tuple (Ce 0 false 0 0 0 false 0 0 false 0 0 3)
def Um (w:World) (g:Nat) (a c:En) (lo hi:Int):World:=
 (((((((((w.setCell ⟨g,0,none⟩ (ZI a.k)).setCell ⟨g,1,none⟩ (.bool a.dn)).setCell ⟨g,2,none⟩ (ZI a.lo)).setCell ⟨g,3,none⟩ (ZI a.hi)).setCell ⟨g,4,none⟩ (ZI c.k)).setCell ⟨g,5,none⟩ (.bool c.dn)).setCell ⟨g,6,none⟩ (ZI c.lo)).setCell ⟨g,7,none⟩ (ZI c.hi)).setCell ⟨g,9,none⟩ (ZI lo)).setCell ⟨g,10,none⟩ (ZI hi)
theorem Qt {w:World} {g:Nat} {x y a c:En} {s:Bool} {lo hi lo' hi':Int} (K:Blk w g 203 (Az x.k x.dn x.lo x.hi y.k y.dn y.lo y.hi s lo hi)):Blk (Um w g a c lo' hi') g 203 (Az a.k a.dn a.lo a.hi c.k c.dn c.lo c.hi s lo' hi'):=by
 have k0:Blk ((w).setCell ⟨g,0,none⟩ (ZI a.k)) g 203 (Az a.k x.dn x.lo x.hi y.k y.dn y.lo y.hi s lo hi):=K.set_ 0 (ZI a.k);have k1:Blk (((w).setCell ⟨g,0,none⟩ (ZI a.k)).setCell ⟨g,1,none⟩ (.bool a.dn)) g 203 (Az a.k a.dn x.lo x.hi y.k y.dn y.lo y.hi s lo hi):=k0.set_ 1 (.bool a.dn);have k2:Blk ((((w).setCell ⟨g,0,none⟩ (ZI a.k)).setCell ⟨g,1,none⟩ (.bool a.dn)).setCell ⟨g,2,none⟩ (ZI a.lo)) g 203 (Az a.k a.dn a.lo x.hi y.k y.dn y.lo y.hi s lo hi):=k1.set_ 2 (ZI a.lo);have k3:Blk (((((w).setCell ⟨g,0,none⟩ (ZI a.k)).setCell ⟨g,1,none⟩ (.bool a.dn)).setCell ⟨g,2,none⟩ (ZI a.lo)).setCell ⟨g,3,none⟩ (ZI a.hi)) g 203 (Az a.k a.dn a.lo a.hi y.k y.dn y.lo y.hi s lo hi):=k2.set_ 3 (ZI a.hi);have k4:Blk ((((((w).setCell ⟨g,0,none⟩ (ZI a.k)).setCell ⟨g,1,none⟩ (.bool a.dn)).setCell ⟨g,2,none⟩ (ZI a.lo)).setCell ⟨g,3,none⟩ (ZI a.hi)).setCell ⟨g,4,none⟩ (ZI c.k)) g 203 (Az a.k a.dn a.lo a.hi c.k y.dn y.lo y.hi s lo hi):=k3.set_ 4 (ZI c.k);have k5:Blk (((((((w).setCell ⟨g,0,none⟩ (ZI a.k)).setCell ⟨g,1,none⟩ (.bool a.dn)).setCell ⟨g,2,none⟩ (ZI a.lo)).setCell ⟨g,3,none⟩ (ZI a.hi)).setCell ⟨g,4,none⟩ (ZI c.k)).setCell ⟨g,5,none⟩ (.bool c.dn)) g 203 (Az a.k a.dn a.lo a.hi c.k c.dn y.lo y.hi s lo hi):=k4.set_ 5 (.bool c.dn);have k6:Blk ((((((((w).setCell ⟨g,0,none⟩ (ZI a.k)).setCell ⟨g,1,none⟩ (.bool a.dn)).setCell ⟨g,2,none⟩ (ZI a.lo)).setCell ⟨g,3,none⟩ (ZI a.hi)).setCell ⟨g,4,none⟩ (ZI c.k)).setCell ⟨g,5,none⟩ (.bool c.dn)).setCell ⟨g,6,none⟩ (ZI c.lo)) g 203 (Az a.k a.dn a.lo a.hi c.k c.dn c.lo y.hi s lo hi):=k5.set_ 6 (ZI c.lo);have k7:Blk (((((((((w).setCell ⟨g,0,none⟩ (ZI a.k)).setCell ⟨g,1,none⟩ (.bool a.dn)).setCell ⟨g,2,none⟩ (ZI a.lo)).setCell ⟨g,3,none⟩ (ZI a.hi)).setCell ⟨g,4,none⟩ (ZI c.k)).setCell ⟨g,5,none⟩ (.bool c.dn)).setCell ⟨g,6,none⟩ (ZI c.lo)).setCell ⟨g,7,none⟩ (ZI c.hi)) g 203 (Az a.k a.dn a.lo a.hi c.k c.dn c.lo c.hi s lo hi):=k6.set_ 7 (ZI c.hi);have k8:Blk ((((((((((w).setCell ⟨g,0,none⟩ (ZI a.k)).setCell ⟨g,1,none⟩ (.bool a.dn)).setCell ⟨g,2,none⟩ (ZI a.lo)).setCell ⟨g,3,none⟩ (ZI a.hi)).setCell ⟨g,4,none⟩ (ZI c.k)).setCell ⟨g,5,none⟩ (.bool c.dn)).setCell ⟨g,6,none⟩ (ZI c.lo)).setCell ⟨g,7,none⟩ (ZI c.hi)).setCell ⟨g,9,none⟩ (ZI lo')) g 203 (Az a.k a.dn a.lo a.hi c.k c.dn c.lo c.hi s lo' hi):=k7.set_ 9 (ZI lo');have k9:Blk (((((((((((w).setCell ⟨g,0,none⟩ (ZI a.k)).setCell ⟨g,1,none⟩ (.bool a.dn)).setCell ⟨g,2,none⟩ (ZI a.lo)).setCell ⟨g,3,none⟩ (ZI a.hi)).setCell ⟨g,4,none⟩ (ZI c.k)).setCell ⟨g,5,none⟩ (.bool c.dn)).setCell ⟨g,6,none⟩ (ZI c.lo)).setCell ⟨g,7,none⟩ (ZI c.hi)).setCell ⟨g,9,none⟩ (ZI lo')).setCell ⟨g,10,none⟩ (ZI hi')) g 203 (Az a.k a.dn a.lo a.hi c.k c.dn c.lo c.hi s lo' hi'):=k8.set_ 10 (ZI hi');exact k9
theorem Mu (w:World) (g:Nat) (a c:En) (lo hi:Int):w.grownBy (Um w g a c lo hi) (some g):=by
 unfold Um
 repeat(refine Bc ?_ (.inl rfl) _)
 exact JU _ _
theorem J9 (w:World) (g:Nat) (x y:En):w.grownBy ((((((((((((w).setCell ⟨g,0,none⟩ (ZI x.k)).setCell ⟨g,1,none⟩ (.bool x.dn)).setCell ⟨g,2,none⟩ (ZI x.lo)).setCell ⟨g,3,none⟩ (ZI x.hi)).setCell ⟨g,4,none⟩ (ZI y.k)).setCell ⟨g,5,none⟩ (.bool y.dn)).setCell ⟨g,6,none⟩ (ZI y.lo)).setCell ⟨g,7,none⟩ (ZI y.hi)).setCell ⟨g,8,none⟩ (.bool true)).setCell ⟨g,9,none⟩ (ZI 0)).setCell ⟨g,10,none⟩ (ZI 0)) (some g):=by
 repeat(refine Bc ?_ (.inl rfl) _)
 exact JU _ _
theorem NY {w:World} {g:Nat} {x y:En} (K:Blk w g 203 Di):Blk ((((((((((((w).setCell ⟨g,0,none⟩ (ZI x.k)).setCell ⟨g,1,none⟩ (.bool x.dn)).setCell ⟨g,2,none⟩ (ZI x.lo)).setCell ⟨g,3,none⟩ (ZI x.hi)).setCell ⟨g,4,none⟩ (ZI y.k)).setCell ⟨g,5,none⟩ (.bool y.dn)).setCell ⟨g,6,none⟩ (ZI y.lo)).setCell ⟨g,7,none⟩ (ZI y.hi)).setCell ⟨g,8,none⟩ (.bool true)).setCell ⟨g,9,none⟩ (ZI 0)).setCell ⟨g,10,none⟩ (ZI 0)) g 203 (Az x.k x.dn x.lo x.hi y.k y.dn y.lo y.hi true 0 0):=by
 have k0:Blk ((w).setCell ⟨g,0,none⟩ (ZI x.k)) g 203 (Az x.k false 0 0 0 false 0 0 false 0 0):=K.set_ 0 (ZI x.k);have k1:Blk (((w).setCell ⟨g,0,none⟩ (ZI x.k)).setCell ⟨g,1,none⟩ (.bool x.dn)) g 203 (Az x.k x.dn 0 0 0 false 0 0 false 0 0):=k0.set_ 1 (.bool x.dn);have k2:Blk ((((w).setCell ⟨g,0,none⟩ (ZI x.k)).setCell ⟨g,1,none⟩ (.bool x.dn)).setCell ⟨g,2,none⟩ (ZI x.lo)) g 203 (Az x.k x.dn x.lo 0 0 false 0 0 false 0 0):=k1.set_ 2 (ZI x.lo);have k3:Blk (((((w).setCell ⟨g,0,none⟩ (ZI x.k)).setCell ⟨g,1,none⟩ (.bool x.dn)).setCell ⟨g,2,none⟩ (ZI x.lo)).setCell ⟨g,3,none⟩ (ZI x.hi)) g 203 (Az x.k x.dn x.lo x.hi 0 false 0 0 false 0 0):=k2.set_ 3 (ZI x.hi);have k4:Blk ((((((w).setCell ⟨g,0,none⟩ (ZI x.k)).setCell ⟨g,1,none⟩ (.bool x.dn)).setCell ⟨g,2,none⟩ (ZI x.lo)).setCell ⟨g,3,none⟩ (ZI x.hi)).setCell ⟨g,4,none⟩ (ZI y.k)) g 203 (Az x.k x.dn x.lo x.hi y.k false 0 0 false 0 0):=k3.set_ 4 (ZI y.k);have k5:Blk (((((((w).setCell ⟨g,0,none⟩ (ZI x.k)).setCell ⟨g,1,none⟩ (.bool x.dn)).setCell ⟨g,2,none⟩ (ZI x.lo)).setCell ⟨g,3,none⟩ (ZI x.hi)).setCell ⟨g,4,none⟩ (ZI y.k)).setCell ⟨g,5,none⟩ (.bool y.dn)) g 203 (Az x.k x.dn x.lo x.hi y.k y.dn 0 0 false 0 0):=k4.set_ 5 (.bool y.dn);have k6:Blk ((((((((w).setCell ⟨g,0,none⟩ (ZI x.k)).setCell ⟨g,1,none⟩ (.bool x.dn)).setCell ⟨g,2,none⟩ (ZI x.lo)).setCell ⟨g,3,none⟩ (ZI x.hi)).setCell ⟨g,4,none⟩ (ZI y.k)).setCell ⟨g,5,none⟩ (.bool y.dn)).setCell ⟨g,6,none⟩ (ZI y.lo)) g 203 (Az x.k x.dn x.lo x.hi y.k y.dn y.lo 0 false 0 0):=k5.set_ 6 (ZI y.lo);have k7:Blk (((((((((w).setCell ⟨g,0,none⟩ (ZI x.k)).setCell ⟨g,1,none⟩ (.bool x.dn)).setCell ⟨g,2,none⟩ (ZI x.lo)).setCell ⟨g,3,none⟩ (ZI x.hi)).setCell ⟨g,4,none⟩ (ZI y.k)).setCell ⟨g,5,none⟩ (.bool y.dn)).setCell ⟨g,6,none⟩ (ZI y.lo)).setCell ⟨g,7,none⟩ (ZI y.hi)) g 203 (Az x.k x.dn x.lo x.hi y.k y.dn y.lo y.hi false 0 0):=k6.set_ 7 (ZI y.hi);have k8:Blk ((((((((((w).setCell ⟨g,0,none⟩ (ZI x.k)).setCell ⟨g,1,none⟩ (.bool x.dn)).setCell ⟨g,2,none⟩ (ZI x.lo)).setCell ⟨g,3,none⟩ (ZI x.hi)).setCell ⟨g,4,none⟩ (ZI y.k)).setCell ⟨g,5,none⟩ (.bool y.dn)).setCell ⟨g,6,none⟩ (ZI y.lo)).setCell ⟨g,7,none⟩ (ZI y.hi)).setCell ⟨g,8,none⟩ (.bool true)) g 203 (Az x.k x.dn x.lo x.hi y.k y.dn y.lo y.hi true 0 0):=k7.set_ 8 (.bool true);have k9:Blk (((((((((((w).setCell ⟨g,0,none⟩ (ZI x.k)).setCell ⟨g,1,none⟩ (.bool x.dn)).setCell ⟨g,2,none⟩ (ZI x.lo)).setCell ⟨g,3,none⟩ (ZI x.hi)).setCell ⟨g,4,none⟩ (ZI y.k)).setCell ⟨g,5,none⟩ (.bool y.dn)).setCell ⟨g,6,none⟩ (ZI y.lo)).setCell ⟨g,7,none⟩ (ZI y.hi)).setCell ⟨g,8,none⟩ (.bool true)).setCell ⟨g,9,none⟩ (ZI 0)) g 203 (Az x.k x.dn x.lo x.hi y.k y.dn y.lo y.hi true 0 0):=k8.set_ 9 (ZI 0);have k10:Blk ((((((((((((w).setCell ⟨g,0,none⟩ (ZI x.k)).setCell ⟨g,1,none⟩ (.bool x.dn)).setCell ⟨g,2,none⟩ (ZI x.lo)).setCell ⟨g,3,none⟩ (ZI x.hi)).setCell ⟨g,4,none⟩ (ZI y.k)).setCell ⟨g,5,none⟩ (.bool y.dn)).setCell ⟨g,6,none⟩ (ZI y.lo)).setCell ⟨g,7,none⟩ (ZI y.hi)).setCell ⟨g,8,none⟩ (.bool true)).setCell ⟨g,9,none⟩ (ZI 0)).setCell ⟨g,10,none⟩ (ZI 0)) g 203 (Az x.k x.dn x.lo x.hi y.k y.dn y.lo y.hi true 0 0):=k9.set_ 10 (ZI 0);exact k10
theorem Blk.belowR {w w':World} {g:Nat} {t:TypeId} {cs:Array Value} (h:Blk w g t cs) (hb:Below w w w'):Blk w' g t cs:=h.below hb h.lt
theorem Za {r q:Al} {n:Nat} (h:r.tr n=none∨q.tr n=none):ceR r q n=.tuple (Ce 0 false 0 0 0 false 0 0 false 0 0 3):=by
 unfold ceR;rcases h with h|h
 ·rw[h]
 ·rw[h];cases r.tr n<;>rfl
theorem Zb {r q:Al} {n:Nat} {x y:En} {l m:List AU} (h1:r.tr n=some (x,l)) (h2:q.tr n=some (y,m)):ceR r q n=.tuple #[aV x y (decide (C2 l=C2 m)) (Ej (BF l) (BF m) n) (Ei (BF l) (BF m) n),ZI 0]:=by
 unfold ceR;rw[h1,h2]
theorem Rw (h:Ev) (r q:Al) (n:Nat) (w:World) (X:DR w h r) (hn:n≤100) (N:YJ r q) (hss:q.ss=r.ss) (hsrc:q.src=r.src):
  (BT 265 #[EV h,ZI r.src,GU r,GU q,ZI n] w (ceR r q n):Prop):=by
 have HF1:=fun W=>FC r W;have HF2:=fun W=>FC q W;have HS1:=fun(x:En) (W:World) (b:Below w w W) (S:Jt r x)=>It h r x W (X.below b) N.fr.ok S;have HS2:=fun(x:En) (W:World) (b:Below w w W) (S:Jt q x)=>It h q x W (DR.below ⟨by rw[N.ds];exact X.d,by rw[hss];exact X.s⟩ b) N.fq.ok S
 have HN:=Ai N;have HZ:Hid ((r.tr n=none∨q.tr n=none)→ceR r q n=.tuple (Ce 0 false 0 0 0 false 0 0 false 0 0 3)):=Za;have HO:Hid (∀(x y:En) (l m:List AU),r.tr n=some (x,l)→q.tr n=some (y,m)→ceR r q n=.tuple #[aV x y (decide (C2 l=C2 m)) (Ej (BF l) (BF m) n) (Ei (BF l) (BF m) n),ZI 0]):=fun _ _ _ _ a b=>Zb a b;generalize ceR r q n=RV at*;clear X N;obtain⟨⟨A0,n0,c0⟩,⟨A1,n1,c1⟩⟩:=h;unfold EV GU Hy aV at*;simp only at HS1 HS2 HF1 HF2 HO⊢;rw[hsrc] at HS2 HF2
 go_enter func265,ntmps265
 go_upto_region 1 with fail
 generalize hG:(((w.alloc _).alloc _).alloc _).alloc _=w1;obtain⟨K0,K1,K2,K3,b0⟩:=Y3 hG;clear hG;have e1: ∀o,w1.cell? ⟨w+1,o,none⟩=((Ziii r.c r.s r.h):Array Value)[o]? :=K1.cell;have g1:=K1.lt;have e2: ∀o,w1.cell? ⟨w+1+1,o,none⟩=((Ziii q.c q.s q.h):Array Value)[o]? :=K2.cell;have g2:=K2.lt;have g3:=K3.lt;have KZ7:=Br w1 203 Di;obtain⟨x0,hx0⟩: ∃x,r.first=x:=⟨_,rfl⟩;obtain⟨y0,hy0⟩: ∃y,q.first=y:=⟨_,rfl⟩;have ht1:r.tr 0=some (x0,[]):=by rw[←hx0];rfl
 have ht2:q.tr 0=some (y0,[]):=by rw[←hy0];rfl
 rw[hx0] at HF1;rw[hy0] at HF2;clear hx0 hy0
 go_cut [12] (fun v12 wx=> ∃gc:Nat,v12=.pointer (some ⟨gc,0,none⟩)∧Blk wx gc 203 (Az x0.k x0.dn x0.lo x0.hi y0.k y0.dn y0.lo y0.hi true 0 0)∧w1.heap.size≤gc∧Below w1 w1 wx)
 case first=>
  go_region_held3 (fun w'=>(∀o,w'.cell? ⟨w+1,o,none⟩=((Ziii r.c r.s r.h):Array Value)[o]?)∧(∀o,w'.cell? ⟨w+1+1,o,none⟩=((Ziii q.c q.s q.h):Array Value)[o]?))
   (exact bp)
   (first|((fail_if_success (clear hbu0));go_at_call 162;(with_reducible refine(HF1 _).mono ?_);rintro e u0 ⟨rfl,bu0⟩;have hbu0:Below w1 w1 u0:=(show Below w1 w1 _ from Ax).trans (bu0.mono C9);have hzu0:=hbu0.size;have hxu0:=bu0.size;(try simp at hxu0);(first|(with_reducible have KZ:=(Blk.drew KZ7).belowR bu0)|(with_reducible have KZ:=KZ7.belowR bu0)|skip);have e1u0: ∀o,u0.cell? ⟨w+1,o,none⟩=((Ziii r.c r.s r.h):Array Value)[o]? :=fun o=>(K1.below hbu0 K1.lt).cell o;have g1u0:=(K1.below hbu0 K1.lt).lt;have e2u0: ∀o,u0.cell? ⟨w+1+1,o,none⟩=((Ziii q.c q.s q.h):Array Value)[o]? :=fun o=>(K2.below hbu0 K2.lt).cell o;have g2u0:=(K2.below hbu0 K2.lt).lt)|((fail_if_success (clear hbu1));go_at_call 162;(with_reducible refine(HF2 _).mono ?_);rintro e u1 ⟨rfl,bu1⟩;have hbu1:Below w1 w1 u1:=(show Below w1 w1 _ from Ax).trans (bu1.mono C9);have hzu1:=hbu1.size;have hxu1:=bu1.size;(try simp at hxu1);(first|(with_reducible have KY:=(Blk.drew KZ).belowR bu1;have cY:=KY.cell;have fY:=KY.frozen;have lY:=KY.lt)|(with_reducible have KY:=KZ.belowR bu1;have cY:=KY.cell;have fY:=KY.frozen;have lY:=KY.lt)|(with_reducible have KY:=(Br u0 203 Di).belowR bu1;have cY:=KY.cell;have fY:=KY.frozen;have lY:=KY.lt)|skip);have e1u1: ∀o,u1.cell? ⟨w+1,o,none⟩=((Ziii r.c r.s r.h):Array Value)[o]? :=fun o=>(K1.below hbu1 K1.lt).cell o;have g1u1:=(K1.below hbu1 K1.lt).lt;have e2u1: ∀o,u1.cell? ⟨w+1+1,o,none⟩=((Ziii q.c q.s q.h):Array Value)[o]? :=fun o=>(K2.below hbu1 K2.lt).cell o;have g2u1:=(K2.below hbu1 K2.lt).lt))
  ·go_wp2_with fail
   go_meet
   exact⟨u1.heap.size,rfl,Br u1 _ _,hzu1,hbu1.alloc hzu1 _⟩
  ·go_wp2_with fail
   go_meet
   exact⟨u0.heap.size,rfl,NY KY,hzu0,hbu1.grown (J9 u1 u0.heap.size x0 y0) hzu1 (fun z e=>by cases e;exact hzu0)⟩
  ·go_wp2_with fail
   go_meet
   exact⟨w1.heap.size,rfl,NY KY,Cp _,hbu1.grown (J9 u1 w1.heap.size x0 y0) hzu1 (fun z e=>by cases e;exact Cp _)⟩
 case rest=>
  obtain⟨gc,rfl,KC,hgc,bw⟩:=hcut;obtain⟨w5,rfl⟩: ∃x:World,x=wc:=⟨_,rfl⟩;replace b0:=An b0 bw;replace K0:=K0.below bw K0.lt;replace K1:=K1.below bw g1;replace K2:=K2.below bw g2;replace K3:=K3.below bw g3;have hg3:w+1+1+1<gc:=Aa;clear e1 g1 e2 g2 g3 KZ7 bw hgc HF1 HF2
  go_wp2_with fail
  go_loopw [13] (fun i wr=> ∃(k:Nat) (x y:En) (l m:List AU),k≤n∧i=.int .i64 k∧r.tr k=some (x,l)∧q.tr k=some (y,m)∧Blk wr gc 203 (Az x.k x.dn x.lo x.hi y.k y.dn y.lo y.hi (decide (C2 l=C2 m)) (Ej (BF l) (BF m) k) (Ei (BF l) (BF m) k))∧Blk wr w.heap.size 30 (CH A0 n0 c0 A1 n1 c1)∧Blk wr (w.heap.size+1) 32 (Ziii r.c r.s r.h)∧Blk wr (w.heap.size+1+1) 32 (Ziii q.c q.s q.h)∧Blk wr (w.heap.size+1+1+1) 203 Di∧Below w w wr) (fun i _=>n-(intOf i).toNat)
  case atStart=>exact⟨0,x0,y0,[],[],AZ _,rfl,ht1,ht2,KC,K0,K1,K2,K3,b0⟩
  case round=>
   clear KC K0 K1 K2 K3 b0 ht1 ht2;obtain⟨k,x,y,l,m,hk,rfl,ht1,ht2,KC,K0,K1,K2,K3,b⟩:=hrel
   by_cases hlt:k<n
   ·have hltI:(k:Int)<(n:Int):=Aa;obtain⟨Sx,hl1,-,-⟩:=HN.out.fr.ok.tr_ok k x l ht1;obtain⟨Sy,hm1,-,-⟩:=HN.out.fq.ok.tr_ok k y m ht2;have HX1:=HS1 x wr b Sx;have HX2:=fun(W:World) (c:Below w w W)=>HS2 y W c Sy;have e0:=K0.cell;have g0:=K0.lt;have e1:=K1.cell;have g1:=K1.lt;have e2:=K2.cell;have g2:=K2.lt;have eC:=KC.cell;have hnx1:=Nr ht1;have hnx2:=Nr ht2
    go_wp2_with fail
    refine HX1.mono ?_;clear HX1 HS1 HS2;rcases hs1:r.step x with _|a
    ·have HE:=Ai (HZ.out (Or.inl (Lt (hnx1.1 hs1) n Aa)));unfold EG;simp only;rintro e w6 ⟨rfl,b6⟩;clear eC e0 g0 e1 g1 e2 g2;replace KC:=KC.below b6 KC.lt;replace K0:=K0.below b6 K0.lt;replace K1:=K1.below b6 K1.lt;replace K2:=K2.below b6 K2.lt;replace K3:=K3.below b6 K3.lt;replace b:=An b b6;have bz:Below w6 w6 (w6.alloc (.cells DJ 138)):=BU;replace KC:=KC.below bz KC.lt;replace K0:=K0.below bz K0.lt;replace K1:=K1.below bz K1.lt;replace K2:=K2.below bz K2.lt;replace K3:=K3.below bz K3.lt;replace b:=An b bz
     go_upto_region 6 with fail
     generalize w6.alloc _=w7 at KC K0 K1 K2 K3 b⊢;have eC:=KC.cell;have e0:=K0.cell;have g0:=K0.lt;have e1:=K1.cell;have g1:=K1.lt;have e2:=K2.cell;have g2:=K2.lt
     go_wp2_with fail
     refine(HX2 _ b).mono ?_;clear HX2 eC e0 g0 e1 g1 e2 g2;rcases hs2:q.step y with _|c
     ·unfold EG;simp only;rintro e w8 ⟨rfl,b8⟩;have b9:=An b b8;replace K3:=K3.below b8 K3.lt;have bz8:Below w8 w8 (w8.alloc (.cells DJ 138)):=BU;replace b9:=An b9 bz8;replace K3:=K3.below bz8 K3.lt;clear KC K0 K1 K2 b b8 HO HZ
      go_upto_region 7 with fail
      generalize w8.alloc _=w9 at K3 b9⊢;have e3:=K3.cell;have f3:=K3.frozen;have g3:=K3.lt;go_wp2;refine AS (v:=.tuple (Ce 0 false 0 0 0 false 0 0 false 0 0 3)) (by simp[results,results265,go_sem,e3]) rfl ⟨by rw[HE.out],Ax⟩
     ·unfold EG;simp only;unfold Hy;rintro e w8 ⟨rfl,b8⟩;have b9:=An b b8;replace K3:=K3.below b8 K3.lt;have bz8:Below w8 w8 (w8.alloc (.cells (A7 c.st.k c.st.dn c.st.lo c.st.hi) 138)):=BU;replace b9:=An b9 bz8;replace K3:=K3.below bz8 K3.lt;clear KC K0 K1 K2 b b8 HO HZ
      go_upto_region 7 with fail
      generalize w8.alloc _=w9 at K3 b9⊢;have e3:=K3.cell;have f3:=K3.frozen;have g3:=K3.lt;go_wp2;refine AS (v:=.tuple (Ce 0 false 0 0 0 false 0 0 false 0 0 3)) (by simp[results,results265,go_sem,e3]) rfl ⟨by rw[HE.out],Ax⟩
    ·unfold EG;simp only;unfold Hy;rintro e w6 ⟨rfl,b6⟩;clear eC e0 g0 e1 g1 e2 g2;replace KC:=KC.below b6 KC.lt;replace K0:=K0.below b6 K0.lt;replace K1:=K1.below b6 K1.lt;replace K2:=K2.below b6 K2.lt;replace K3:=K3.below b6 K3.lt;replace b:=An b b6;have hq7:gc<w6:=KC.lt;have bz:Below w6 w6 (w6.alloc (.cells (A7 a.st.k a.st.dn a.st.lo a.st.hi) 138)):=BU;have KA:=Br w6 138 (A7 a.st.k a.st.dn a.st.lo a.st.hi);replace KC:=KC.below bz KC.lt;replace K0:=K0.below bz K0.lt;replace K1:=K1.below bz K1.lt;replace K2:=K2.below bz K2.lt;replace K3:=K3.below bz K3.lt;replace b:=An b bz
     go_upto_region 6 with fail
     generalize w6.alloc _=w7 at KA KC K0 K1 K2 K3 b⊢;generalize w6.heap.size=qa at KA hq7⊢;have eC:=KC.cell;have e0:=K0.cell;have g0:=K0.lt;have e1:=K1.cell;have g1:=K1.lt;have e2:=K2.cell;have g2:=K2.lt
     go_wp2_with fail
     refine(HX2 _ b).mono ?_;clear HX2 eC e0 g0 e1 g1 e2 g2;rcases hs2:q.step y with _|c
     ·have HE:=Ai (HZ.out (Or.inr (Lt (hnx2.1 hs2) n Aa)));unfold EG;simp only;rintro e w8 ⟨rfl,b8⟩;have b9:=An b b8;replace K3:=K3.below b8 K3.lt;have bz8:Below w8 w8 (w8.alloc (.cells DJ 138)):=BU;replace b9:=An b9 bz8;replace K3:=K3.below bz8 K3.lt;clear KC K0 K1 K2 b b8 HO HZ
      go_upto_region 7 with fail
      generalize w8.alloc _=w9 at K3 b9⊢;have e3:=K3.cell;have f3:=K3.frozen;have g3:=K3.lt;go_wp2;refine AS (v:=.tuple (Ce 0 false 0 0 0 false 0 0 false 0 0 3)) (by simp[results,results265,go_sem,e3]) rfl ⟨by rw[HE.out],Ax⟩
     ·have ha:=Ai (HN.out.fr.ok.step_add Sx hs1);have hc:=Ai (HN.out.fq.ok.step_add Sy hs2);have hk1:=hnx1.2 a hs1;have hk2:=hnx2.2 c hs2;have hlim:=HN.out.lim (show k+1≤100 by omega) hk1 hk2
      obtain⟨es1,es2⟩:=Qh (a:=a) (b:=c) hl1 hm1;have hev:=ef (l:=l) (m:=m) (a:=a) (b:=c) Aa;rw[es1,es2] at hlim;have HT1:=Ai hk1;have HT2:=Ai hk2;have HL1:=Ai es1;have HL2:=Ai es2;have HEV:=Ai hev;clear hs1 hs2 hk1 hk2 hnx1 hnx2 es1 es2 hev Sx Sy ht1 ht2;unfold EG;simp only;unfold Hy;rintro e w8 ⟨rfl,b8⟩;have hq9:gc<w8:=CM KC.lt b8.size;have hqa:qa<w8:=CM KA.lt b8.size;replace KA:=KA.below b8 KA.lt;replace KC:=KC.below b8 KC.lt;replace K0:=K0.below b8 K0.lt;replace K1:=K1.below b8 K1.lt;replace K2:=K2.below b8 K2.lt;replace K3:=K3.below b8 K3.lt;replace b:=An b b8;have bz:Below w8 w8 (w8.alloc (.cells (A7 c.st.k c.st.dn c.st.lo c.st.hi) 138)):=BU;have KD:=Br w8 138 (A7 c.st.k c.st.dn c.st.lo c.st.hi);replace KA:=KA.below bz KA.lt;replace KC:=KC.below bz KC.lt;replace K0:=K0.below bz K0.lt;replace K1:=K1.below bz K1.lt;replace K2:=K2.below bz K2.lt;replace K3:=K3.below bz K3.lt;replace b:=An b bz
      go_upto_region 7 with fail
      generalize w8.alloc _=w9 at KA KD KC K0 K1 K2 K3 b⊢;generalize w8.heap.size=qd at KD hq9 hqa⊢;have eA:=KA.cell;have gA:=KA.lt;have eD:=KD.cell;have gD:=KD.lt;have eC:=KC.cell;have fC:=KC.frozen;have gC:=KC.lt;have hac:qa≠gc:=Aa;have hdc:qd≠gc:=Aa;have hcd:=hdc.symm;have hca:=hac.symm;generalize hLo:Ej (BF l) (BF m) k=lo at*;generalize hHi:Ei (BF l) (BF m) k=hi at*;generalize hSm:decide (C2 l=C2 m)=sm at*;clear hLo hHi hSm;have u1:IntKind.i64.wrap (a.st.lo-x.lo)=a.lo:=by rw[ha.out.1,show x.lo+a.lo-x.lo=a.lo by omega];exact Ff _ (by have:=ha.out;omega)
      have u2:IntKind.i64.wrap (c.st.lo-y.lo)=c.lo:=by rw[hc.out.1,show y.lo+c.lo-y.lo=c.lo by omega];exact Ff _ (by have:=hc.out;omega)
      have u3:IntKind.i64.wrap (a.st.hi-x.hi)=a.hi:=by rw[ha.out.2.1,show x.hi+a.hi-x.hi=a.hi by omega];exact Ff _ (by have:=ha.out;omega)
      have u4:IntKind.i64.wrap (c.st.hi-y.hi)=c.hi:=by rw[hc.out.2.1,show y.hi+c.hi-y.hi=c.hi by omega];exact Ff _ (by have:=hc.out;omega)
      have u5:=Bg (lo+min a.lo c.lo);have u6:=Bg (hi+max a.hi c.hi);have hck:ckB (lo+min a.lo c.lo) (hi+max a.hi c.hi)=true:=by unfold ckB;rw[IQ.2 Aa,IQ.2 Aa];rfl
      have HCK: ∀V:World,Calls prog 260 (Zii (lo+min a.lo c.lo) (hi+max a.hi c.hi)) V fun e w'=>e=.returned (.tuple (BN (lo+min a.lo c.lo) (hi+max a.hi c.hi) 0))∧Below V V w':=fun V=>by
       have h:=EN (lo+min a.lo c.lo) (hi+max a.hi c.hi) V;simp only[hck,if_true] at h;exact h
      clear ha hc hlim hck
      cases sm with
      |true=>
       have hnv:Hid (decide (C2 (l++ [a])=C2 (m++ [c]))=(decide (a.ev=c.ev))):=by unfold Hid;rw[HEV.out];first|exact Ha _|exact Bool.false_and _
       have KC1:Blk (w9.setCell ⟨gc,8,none⟩ (.bool (decide (a.ev=c.ev)))) gc 203 (Az x.k x.dn x.lo x.hi y.k y.dn y.lo y.hi (decide (a.ev=c.ev)) lo hi):=KC.set_ 8 (.bool (decide (a.ev=c.ev)));have G8:w9.grownBy (w9.setCell ⟨gc,8,none⟩ (.bool (decide (a.ev=c.ev)))) (some gc):=Bc (JU _ _) (.inl rfl) _;replace KA:=KA.grown G8 (fun e=>by cases e;omega)
       replace KD:=KD.grown G8 (fun e=>by cases e;omega)
       replace K0:=K0.grown G8 (fun e=>by cases e;omega)
       replace K1:=K1.grown G8 (fun e=>by cases e;omega)
       replace K2:=K2.grown G8 (fun e=>by cases e;omega)
       replace K3:=K3.grown G8 (fun e=>by cases e;omega)
       replace b:=b.grown G8 b.size (fun z e=>by cases e;omega)
       go_upto_region 10 with fail
       clear eA gA eD gD eC fC gC KC G8;generalize w9.setCell ⟨gc,8,none⟩ (.bool (decide (a.ev=c.ev)))=w10 at KC1 KA KD K0 K1 K2 K3 b⊢;have eA:=KA.cell;have eD:=KD.cell;have eC:=KC1.cell
       go_wp2_with fail
       refine(HCK _).mono ?_;rintro e w11 ⟨rfl,b11⟩;clear HCK eA eD eC;replace KC1:=KC1.below b11 KC1.lt;replace KA:=KA.below b11 KA.lt;replace KD:=KD.below b11 KD.lt;replace K0:=K0.below b11 K0.lt;replace K1:=K1.below b11 K1.lt;replace K2:=K2.below b11 K2.lt;replace K3:=K3.below b11 K3.lt;replace b:=An b b11;have bz:Below w11 w11 (w11.alloc (.cells (Zii (lo+min a.lo c.lo) (hi+max a.hi c.hi)) 136)):=BU;have KE:=Br w11 136 (Zii (lo+min a.lo c.lo) (hi+max a.hi c.hi));have hqe:gc<w11:=KC1.lt;replace KC1:=KC1.below bz KC1.lt;replace KA:=KA.below bz KA.lt;replace KD:=KD.below bz KD.lt;replace K0:=K0.below bz K0.lt;replace K1:=K1.below bz K1.lt;replace K2:=K2.below bz K2.lt;replace K3:=K3.below bz K3.lt;replace b:=An b bz;clear b11 bz
       go_upto_region 13 with fail
       generalize w11.alloc _=w12 at KE KC1 KA KD K0 K1 K2 K3 b⊢;generalize w11.heap.size=qe at KE hqe⊢;have eA:=KA.cell;have eD:=KD.cell;have eE:=KE.cell;have eC:=KC1.cell;have fC:=KC1.frozen;have gC:=KC1.lt;have hec:qe≠gc:=Aa;have hce:=hec.symm;have GP:=Mu w12 gc a.st c.st (lo+min a.lo c.lo) (hi+max a.hi c.hi);have NC:=Qt (a:=a.st) (c:=c.st) (lo':=lo+min a.lo c.lo) (hi':=hi+max a.hi c.hi) KC1;have N0:=K0.grown GP (fun e=>by cases e;omega)
       have N1:=K1.grown GP (fun e=>by cases e;omega)
       have N2:=K2.grown GP (fun e=>by cases e;omega)
       have N3:=K3.grown GP (fun e=>by cases e;omega)
       have nb:=b.grown GP b.size (fun z e=>by cases e;omega)
       clear GP KA KD KE KC1 K0 K1 K2 K3 b;unfold Um at NC N0 N1 N2 N3 nb;go_wp2
       go_roundw
       case rel=>exact⟨k+1,a.st,c.st,l++ [a],m++ [c],by omega,by go_num,HT1.out,HT2.out,by rw[hnv.out,HL1.out,HL2.out];exact NC,N0,N1,N2,N3,nb⟩
       case measure=>simp[intOf];omega
      |false=>
       have hnv:Hid (decide (C2 (l++ [a])=C2 (m++ [c]))=(false)):=by unfold Hid;rw[HEV.out];first|exact Ha _|exact Bool.false_and _
       have KC1:Blk (w9.setCell ⟨gc,8,none⟩ (.bool false)) gc 203 (Az x.k x.dn x.lo x.hi y.k y.dn y.lo y.hi false lo hi):=KC.set_ 8 (.bool false);have G8:w9.grownBy (w9.setCell ⟨gc,8,none⟩ (.bool false)) (some gc):=Bc (JU _ _) (.inl rfl) _;replace KA:=KA.grown G8 (fun e=>by cases e;omega)
       replace KD:=KD.grown G8 (fun e=>by cases e;omega)
       replace K0:=K0.grown G8 (fun e=>by cases e;omega)
       replace K1:=K1.grown G8 (fun e=>by cases e;omega)
       replace K2:=K2.grown G8 (fun e=>by cases e;omega)
       replace K3:=K3.grown G8 (fun e=>by cases e;omega)
       replace b:=b.grown G8 b.size (fun z e=>by cases e;omega)
       go_upto_region 10 with fail
       clear eA gA eD gD eC fC gC KC G8;generalize w9.setCell ⟨gc,8,none⟩ (.bool false)=w10 at KC1 KA KD K0 K1 K2 K3 b⊢;have eA:=KA.cell;have eD:=KD.cell;have eC:=KC1.cell
       go_wp2_with fail
       refine(HCK _).mono ?_;rintro e w11 ⟨rfl,b11⟩;clear HCK eA eD eC;replace KC1:=KC1.below b11 KC1.lt;replace KA:=KA.below b11 KA.lt;replace KD:=KD.below b11 KD.lt;replace K0:=K0.below b11 K0.lt;replace K1:=K1.below b11 K1.lt;replace K2:=K2.below b11 K2.lt;replace K3:=K3.below b11 K3.lt;replace b:=An b b11;have bz:Below w11 w11 (w11.alloc (.cells (Zii (lo+min a.lo c.lo) (hi+max a.hi c.hi)) 136)):=BU;have KE:=Br w11 136 (Zii (lo+min a.lo c.lo) (hi+max a.hi c.hi));have hqe:gc<w11:=KC1.lt;replace KC1:=KC1.below bz KC1.lt;replace KA:=KA.below bz KA.lt;replace KD:=KD.below bz KD.lt;replace K0:=K0.below bz K0.lt;replace K1:=K1.below bz K1.lt;replace K2:=K2.below bz K2.lt;replace K3:=K3.below bz K3.lt;replace b:=An b bz;clear b11 bz
       go_upto_region 13 with fail
       generalize w11.alloc _=w12 at KE KC1 KA KD K0 K1 K2 K3 b⊢;generalize w11.heap.size=qe at KE hqe⊢;have eA:=KA.cell;have eD:=KD.cell;have eE:=KE.cell;have eC:=KC1.cell;have fC:=KC1.frozen;have gC:=KC1.lt;have hec:qe≠gc:=Aa;have hce:=hec.symm;have GP:=Mu w12 gc a.st c.st (lo+min a.lo c.lo) (hi+max a.hi c.hi);have NC:=Qt (a:=a.st) (c:=c.st) (lo':=lo+min a.lo c.lo) (hi':=hi+max a.hi c.hi) KC1;have N0:=K0.grown GP (fun e=>by cases e;omega)
       have N1:=K1.grown GP (fun e=>by cases e;omega)
       have N2:=K2.grown GP (fun e=>by cases e;omega)
       have N3:=K3.grown GP (fun e=>by cases e;omega)
       have nb:=b.grown GP b.size (fun z e=>by cases e;omega)
       clear GP KA KD KE KC1 K0 K1 K2 K3 b;unfold Um at NC N0 N1 N2 N3 nb;go_wp2
       go_roundw
       case rel=>exact⟨k+1,a.st,c.st,l++ [a],m++ [c],by omega,by go_num,HT1.out,HT2.out,by rw[hnv.out,HL1.out,HL2.out];exact NC,N0,N1,N2,N3,nb⟩
       case measure=>simp[intOf];omega
   ·obtain rfl:n=k:=Aa;have hltI: ¬(n:Int)<(n:Int):=Aa;have HE:=Ai (HO.out x y l m ht1 ht2);have eC:=KC.cell;have e3:=K3.cell;have f3:=K3.frozen;have g3:=K3.lt;clear HS1 HS2 HZ HO;go_wp2;refine AS (v:=.tuple (Ce x.k x.dn x.lo x.hi y.k y.dn y.lo y.hi (decide (C2 l=C2 m)) (Ej (BF l) (BF m) n) (Ei (BF l) (BF m) n) 0)) (by simp[results,results265,go_sem,e3]) rfl ⟨by rw[HE.out],Ax⟩
theorem Oh (x y:En) (same:Bool) (lo hi knot dist:Int) (w:World):
  (BT 208 #[aV x y same lo hi,ZI knot,ZI dist] w (ZI (vdV x y same lo hi knot dist)):Prop):=by
 have HC:=fun W=>Ay dist lo hi W;unfold aV
 go_enter func208,ntmps208
 go_upto_region 1 with fail
 generalize hG:w.alloc _=w1;obtain⟨K,b0⟩:=EX hG;clear hG;have eK:=K.cell;have gK:=K.lt
 go_cut [7,8] (fun v7 v8 wx=> ∃g7 g8:Nat,v7=.pointer (some ⟨g7,0,none⟩)∧v8=.pointer (some ⟨g8,0,none⟩)∧Blk wx g7 136 (Zii x.lo x.hi)∧Blk wx g8 136 (Zii y.lo y.hi)∧Below w1 w1 wx)
 case first=>
  have KA:=(Br w1 136 (Zii x.lo x.hi)).alloc (.cells (Zii y.lo y.hi) 136);have KB:=(Br w1 136 (Zii y.lo y.hi)).alloc (.cells (Zii x.lo x.hi) 136);have KA2:=Blk.newN (g:=w1+1) (w1.alloc (.cells (Zii y.lo y.hi) 136)) 136 (Zii x.lo x.hi) Cr;have KB2:=Blk.newN (g:=w1+1) (w1.alloc (.cells (Zii x.lo x.hi) 136)) 136 (Zii y.lo y.hi) Cr;have bA:Below w1 w1 ((w1.alloc (.cells (Zii x.lo x.hi) 136)).alloc (.cells (Zii y.lo y.hi) 136)).drew:=Ax;have bB:Below w1 w1 ((w1.alloc (.cells (Zii y.lo y.hi) 136)).alloc (.cells (Zii x.lo x.hi) 136)).drew:=Ax
  go_region
  all_goals
   go_wp2_with fail
   go_meet
   first
    |exact⟨_,_,rfl,rfl,KA.drew,KB2.drew,bA⟩
    |exact⟨_,_,rfl,rfl,KA2.drew,KB.drew,bB⟩
    |trace_state
 case rest=>
  obtain⟨g7,g8,rfl,rfl,KX,KY,bw⟩:=hcut;obtain⟨w5,rfl⟩: ∃z:World,z=wc:=⟨_,rfl⟩;replace b0:=An b0 bw;replace K:=K.below bw K.lt;clear bw eK gK;have eK:=K.cell;have eX:=KX.cell;have eY:=KY.cell
  cases same with
  |false=>
   have HV:Hid (vdV x y false lo hi knot dist=1):=AA rfl;clear HC;go_wp2;go_ret;exact⟨by rw[HV.out];rfl,b0⟩
  |true=>
   have HV:Hid (vdV x y true lo hi knot dist=if¬(x.k:Int)=knot∨inR dist lo hi=false then 0 else if(x.hi<dist∧dist<y.lo)∨(y.hi<dist∧dist<x.lo) then 2 else 1):=Ak Ah
   by_cases hk:(x.k:Int)=knot
   ·go_wp2_with fail
    refine(HC _).mono ?_;clear HC;rcases BA (inR dist lo hi) with hi1|hi1
    ·rw[hi1];rintro e w' ⟨rfl,rfl⟩;have HV2:Hid (vdV x y true lo hi knot dist=if(x.hi<dist∧dist<y.lo)∨(y.hi<dist∧dist<x.lo) then 2 else 1):=by unfold Hid;rw[HV.out,Ak (by rw[hi1];simp[hk])]
     clear HV hi1
     by_cases p1:x.hi<dist<;>by_cases p2:dist<y.lo<;>by_cases p3:y.hi<dist<;>by_cases p4:dist<x.lo
     all_goals
      go_wp2;go_ret;exact⟨by rw[HV2.out];simp[p1,p2,p3,p4],b0⟩
    ·rw[hi1];rintro e w' ⟨rfl,rfl⟩;have HV2:Hid (vdV x y true lo hi knot dist=0):=by unfold Hid;rw[HV.out,AA (Or.inr hi1)]
     clear HV hi1;go_wp2;go_ret;exact⟨by rw[HV2.out];rfl,b0⟩
   ·have hk1:((x.k:Int) !=knot)=true:=by rw[bne_iff_ne];exact hk
    have HV2:Hid (vdV x y true lo hi knot dist=0):=by unfold Hid;rw[HV.out,AA (Or.inl hk)]
    clear HV HC;go_wp2;go_ret;exact⟨by rw[HV2.out];rfl,b0⟩
theorem PR (h:Ev) (n:Nat) (knot dist:Int) (w:World) (hn:h.D.n=n) (hn2:n≤12):
  (BT 207 #[EV h,ZI knot,ZI dist] w (.bool (inR knot 0 ((n:Int)-1) && inR dist 0 1000000000000)):Prop):=by
 subst hn;obtain⟨⟨A0,n0,c0⟩,⟨A1,n1,c1⟩⟩:=h;unfold EV;simp only at*;have b0:Below w w (w.alloc (.cells (CH A0 n0 c0 A1 n1 c1) 30)):=BU;have K:=Br w 30 (CH A0 n0 c0 A1 n1 c1);have HK:=fun W=>Ay knot 0 ((n0:Int)-1) W;have HW:=fun W=>Ay dist 0 1000000000000 W;have u1:=Bg ((n0:Int)-1)
 go_enter func207,ntmps207
 go_upto_region 1 with fail
 generalize w.alloc _=w1 at*;have c:=K.cell
 go_wp2_with fail
 refine(HK _).mono ?_;rcases BA (inR knot 0 ((n0:Int)-1)) with hk|hk
 ·rw[hk];rintro e w' ⟨rfl,rfl⟩;clear HK
  go_wp2_with fail
  refine(HW _).mono ?_;rintro e w' ⟨rfl,rfl⟩;go_wp2;go_ret;exact⟨Af (by rw[hk];simp),b0⟩
 ·rw[hk];rintro e w' ⟨rfl,rfl⟩;clear HK HW;go_wp2;go_ret;exact⟨Af (by rw[hk];rfl),b0⟩
theorem PQ (c s h:Int) (w:World):
  (BT 307 #[Ziii c s h,Ziii c s h] w (.bool true):Prop):=by
 have b0:Below w w ((w.alloc (.cells (Ziii c s h) 32)).alloc (.cells (Ziii c s h) 32)):=Ax
 go_enter func307,ntmps307
 go_wp2;go_ret;exact⟨Af Cr,b0⟩
structure SC where
 x:En
 y:En
 same:Bool
 lo:Int
 hi:Int
def Y7 (d:SC):List Value:= [.int .i64 (d.x.k:Int),.bool d.x.dn,.int .i64 d.x.lo,.int .i64 d.x.hi,.int .i64 (d.y.k:Int),.bool d.y.dn,.int .i64 d.y.lo,.int .i64 d.y.hi,.bool d.same,.int .i64 d.lo,.int .i64 d.hi]
def ceD (r q:Al) (n:Nat):Option SC:=match r.tr n,q.tr n with
 |some (x,l),some (y,m)=>some ⟨x,y,decide (C2 l=C2 m),Ej (BF l) (BF m) n,Ei (BF l) (BF m) n⟩
 |_,_=>none
theorem bM (r q:Al) (n:Nat):ceR r q n=match ceD r q n with|some d=> .tuple #[aV d.x d.y d.same d.lo d.hi,ZI 0]|none=> .tuple (Ce 0 false 0 0 0 false 0 0 false 0 0 3):=by
 unfold ceR ceD
 cases r.tr n with
 |none=>rfl
 |some a=>cases q.tr n with
  |none=>rfl
  |some b=>rfl
theorem dE (r q:Al) (n:Nat) (knot dist:Int):dY r q n knot dist=(ceD r q n).map fun d=>vdV d.x d.y d.same d.lo d.hi knot dist:=by
 unfold dY ceD
 cases r.tr n with
 |none=>rfl
 |some a=>cases q.tr n with
  |none=>rfl
  |some b=>rfl
def clM (ρ:Int→Al) (lo:Int) (st:Nat):Nat→Option (List SC)
 |0=>some []
 |k+1=>match clM ρ lo st k with
  |none=>none
  |some M=>match ceD (ρ (lo+(k:Int))) (ρ (lo+(k:Int)+1)) st with
   |none=>none
   |some d=>some (M++ [d])
theorem Ze {ρ:Int→Al} {lo:Int} {st:Nat} {k:Nat} (h:clM ρ lo st k=none): ∀n,k≤n→clM ρ lo st n=none:=by
 intro n hn
 induction n with
 |zero=>obtain rfl:k=0:=Aa;exact h
 |succ n ih=>
  by_cases e:k=n+1
  ·exact e▸h
  ·simp only[clM];rw[ih Aa]
theorem WJ {ρ:Int→Al} {lo:Int} {st:Nat}: ∀ {k:Nat} {M:List SC},clM ρ lo st k=some M→M.length=k
 |0,M,h=>by simp only[clM,Gs] at h;subst h;rfl
 |k+1,M,h=>by
  simp only[clM] at h
  split at h
  ·cases h
  ·next L0 e=>
   split at h
   ·cases h
   ·next v ev=>
    injection h with h;subst h
    simp[WJ e]
theorem Rn (ρ:Int→Al) (lo:Int) (st:Nat) (knot dist:Int): ∀k,fvL ρ lo st knot dist k=(clM ρ lo st k).map (List.map fun d=>vdV d.x d.y d.same d.lo d.hi knot dist)
 |0=>rfl
 |k+1=>by
  have ih:=Rn ρ lo st knot dist k;unfold fvL clM;rw[ih]
  cases clM ρ lo st k with
  |none=>rfl
  |some M=>
   simp only[Option.map_some];rw[dE]
   cases ceD (ρ (lo+(k:Int))) (ρ (lo+(k:Int)+1)) st with
   |none=>rfl
   |some d=>simp
theorem YI:(prog.info? 203).map (fun i=>(i.zero.map (·.cells.size),i.size,i.bytes))=some (some 11,11,88):=We51ceQ
def Py (M:List SC):List Value:=M.flatMap Y7
theorem Y8 (M:List SC) (d:SC):Py (M++ [d])=Py M++Y7 d:=by unfold Py;simp
theorem VP (d:SC): ∀u∈Y7 d,u.oneCell'=true:=by
 intro u hu;unfold Y7 at hu;simp only[CC,I5,or_false] at hu;rcases hu with rfl|rfl|rfl|rfl|rfl|rfl|rfl|rfl|rfl|rfl|rfl<;>rfl
theorem fL (w:World) (d:SC) (e:TypeId):Rd (w.alloc (.cells (Az d.x.k d.x.dn d.x.lo d.x.hi d.y.k d.y.dn d.y.lo d.y.hi d.same d.lo d.hi) e)) (some ⟨w,0,none⟩) (1*11) (Y7 d):=
 (Br w e (Az d.x.k d.x.dn d.x.lo d.x.hi d.y.k d.y.dn d.y.lo d.y.hi d.same d.lo d.hi)).rd rfl (fun i hi=>by
  obtain rfl|rfl|rfl|rfl|rfl|rfl|rfl|rfl|rfl|rfl|rfl:i=0∨i=1∨i=2∨i=3∨i=4∨i=5∨i=6∨i=7∨i=8∨i=9∨i=10:=Aa
  all_goals rfl)
theorem WH {M:List SC}: ∀ {k:Nat} {d:SC},M[k]? =some d→ ∀i,i<11→(Py M)[k*11+i]? =(Y7 d)[i]? :=by
 induction M with
 |nil=>intro k d h;simp at h
 |cons a t ih=>
  intro k d h i hi;have e:Py (a::t)=Y7 a++Py t:=rfl;have hl:(Y7 a).length=11:=rfl;rw[e]
  cases k with
  |zero=>
   simp at h;subst h;rw[List.getElem?_append_left Aa]
   congr 1;omega
  |succ k=>
   rw[List.getElem?_append_right Aa,←ih (k:=k) (d:=d) CB i hi]
   congr 1;omega
theorem Rd.ce {w:World} {A:Option Addr} {n k:Nat} {M:List SC} {d:SC} (h:Rd w A (n*11) (Py M)) (hk:k<n) (hd:M[k]? =some d):
  ∃ad,A=some ad∧w.cell? (ad.add (k*11))=ZS d.x.k∧ ∀i,1≤i→i<11→w.cell? ⟨(ad.add (k*11)).block,(ad.add (k*11)).off+i,none⟩=(Y7 d)[i]? :=by
 obtain⟨ad,hA,hc⟩:=h.2 Aa;refine⟨ad,hA,?_,fun i h1 h2=> ?_⟩
 ·rw[hc (k*11) Aa];have:=WH hd 0 Aa;rw[Hb] at this;rw[this];rfl
 ·rw[GN _ _ i Aa,hc (k*11+i) Aa];exact WH hd i h2
theorem TH (h:Ev) (ds ss:List Int) (src:Nat) (c s hh steps:Int) (w:World) (X:M4 w h ds ss) (P:UW ds ss src) (hd:DO c s hh=true):
  (BT 264 #[EV h,ZI src,Ziii c s hh,Ziii c s hh,ZI steps] w (ZI (if inR steps 0 100=false then 2 else 0)):Prop):=by
 have HCD:Hid ((inR steps 0 100=false→(if inR steps 0 100=false then(2:Int) else 0)=2)∧(inR steps 0 100=true→(if inR steps 0 100=false then(2:Int) else 0)=0)):=⟨fun h=>AA h,fun h=>Ak (by rw[h];decide)⟩
 generalize(if inR steps 0 100=false then(2:Int) else 0)=cd at HCD⊢;have hdn:h.D.n=ds.length:=X.d.len.symm;have hsn:h.S.n=ss.length:=X.s.len.symm;have hprof:=P.prof
 have hl:ds.length≤12∧ss.length=ds.length:=by
  have h:=P.prof;unfold BI at h;simp only[CD,BP] at h;have:=Ac h.1;omega
 have hsrc:inR (src:Int) 0 ((h.D.n:Int)-1)=true:=CN Aa (by have:=P.src;omega)
 have u1:=Bg ((h.D.n:Int)-1);have HIP:=fun(W:World) (X:M4 W h ds ss)=>Cv h.D.A h.S.A h.D.n h.S.n h.D.c h.S.c ds ss W Aa Aa X.d X.s;rw[hdn,hsn,hprof] at HIP;have HK:=fun W=>Ay (src:Int) 0 ((h.D.n:Int)-1) W;rw[hsrc] at HK;have HD:=fun W=>Dp c s hh W;rw[hd] at HD;have HW:=fun W=>Ay steps 0 100 W;have HAL:=fun W=>PQ c s hh W;rw[←hdn,←hsn] at HIP;have HX:=Ai X;clear X P hprof hsrc hdn hsn hl hd;obtain⟨⟨A0,n0,c0⟩,⟨A1,n1,c1⟩⟩:=h;unfold EV;simp only at*
 go_enter func264,ntmps264
 go_upto_region 1 with fail
 generalize hG:((w.alloc _).alloc _).alloc _=w1;obtain⟨K0,K1,K2,b0⟩:=WF hG;clear hG;have X1:=HX.out.below b0;have e0:=K0.cell
 go_wp2_with fail
 refine(HIP _ X1).mono ?_;rintro e w2 ⟨rfl,b2⟩;clear e0 HIP X1;replace b0:=An b0 b2;replace K0:=K0.below b2 K0.lt;replace K1:=K1.below b2 K1.lt;replace K2:=K2.below b2 K2.lt;have e1:=K1.cell
 go_wp2_with fail
 refine(HD _).mono ?_;rintro e w3 ⟨rfl,b3⟩;clear e1;replace b0:=An b0 b3;replace K0:=K0.below b3 K0.lt;replace K1:=K1.below b3 K1.lt;replace K2:=K2.below b3 K2.lt;have e2:=K2.cell
 go_wp2_with fail
 refine(HD _).mono ?_;rintro e w4 ⟨rfl,b4⟩;clear e2 HD;replace b0:=An b0 b4;replace K0:=K0.below b4 K0.lt;replace K1:=K1.below b4 K1.lt;replace K2:=K2.below b4 K2.lt;have e0:=K0.cell
 go_wp2_with fail
 refine(HK _).mono ?_;rintro e w' ⟨rfl,rfl⟩;clear HK e0;have e1:=K1.cell;have e2:=K2.cell
 go_wp2_with fail
 refine(HW _).mono ?_;clear HW;rcases BA (inR steps 0 100) with hs|hs
 ·have HE:=Ai (HCD.out.2 hs);rw[hs];rintro e w' ⟨rfl,rfl⟩;clear hs
  go_wp2_with fail
  refine(HAL _).mono ?_;rintro e w6 ⟨rfl,b6⟩;have b7:=An b0 b6;clear e1 e2;go_wp2;go_ret;exact⟨by rw[HE.out];rfl,b7⟩
 ·have HE:=Ai (HCD.out.1 hs);rw[hs];rintro e w' ⟨rfl,rfl⟩;clear hs;go_wp2;go_ret;exact⟨by rw[HE.out];rfl,b0⟩
theorem Pj {P:Program} {w:World} {op:Oper} {a:Act} {Kk:Act→World→Prop} {Q:Exit→Act→World→Prop} (s x:Operand) (t:TypeId)
  (hop:op.op=.call {callee:=.builtin .append,args:= #[s,x],argTypes:= #[t,t]})
  (e:TypeId) (size bytes:Nat) (ht:P.underlying t=some (.slice e)) (hinf:(P.info? e).map (fun i=>(i.zero.map (·.cells.size),i.size,i.bytes))=some (some size,size,bytes)) (hsz:0<size)
  (B:Nat) (h:Hd) (us:List Value) (hs:a.eval s=.slice h.A h.n h.c) (o:AR w B size h us) (A:Option Addr) (m c:Nat) (news:List Value) (hx:a.eval x=.slice A m c)
  (hr:Rd w A (m*size) news) (h1: ∀u∈news,u.oneCell'=true) (h63:h.n+m≤1048576) (hbytes:bytes≤1024) (hB:B≤w.heap.size)
  (hK: ∀k w',k.n=h.n+m→AR w' B size k (us++news)→w.grownBy w' h.row→(k.row=h.row∨ ∃g,k.row=some g∧w.heap.size≤g)→Kk (a.put op.dst (.slice k.A k.n k.c)) w'):op.wp P a w Kk Q:=by
 cases hi:P.info? e with
 |none=>rw[hi] at hinf;simp at hinf
 |some i=>
  rw[hi] at hinf;simp only[Option.map_some,Gs,Prod.mk.injEq] at hinf;obtain⟨hz,hsize,hby⟩:=hinf
  cases hz0:i.zero with
  |none=>rw[hz0] at hz;simp at hz
  |some z=>
   rw[hz0] at hz;have hbb:(h.n+m)*bytes≤140737488355328:=Ch (Nat.mul_le_mul h63 hbytes) Ah;obtain⟨k,w',hrun,r1,r2,r3,r4⟩:=F7 (P:=P) w t op.type e i z size bytes ht hi hz0 hsize hby (by simpa using hz) hsz B h us o A m c news hr h1 G9 hbb hB
   unfold Oper.wp execOp;simp only[hop,resolve,invoke,builtin,Sem.run_bind,Sem.run_pure,Result.andThen_ok,List.map_toArray,List.map_cons,List.map_nil,hs,hx,hrun];exact hK k w' r1 r2 r3 r4
theorem JQ {P:Program} {w:World} {ops:Array Oper} {rest:List Oper} {op:Oper} {a:Act} {Q:Exit→Act→World→Prop} (hgd:op.guard=none) (s x:Operand) (t:TypeId)
  (hop:op.op=.call {callee:=.builtin .append,args:= #[s,x],argTypes:= #[t,t]})
  (e:TypeId) (size bytes:Nat) (ht:P.underlying t=some (.slice e)) (hinf:(P.info? e).map (fun i=>(i.zero.map (·.cells.size),i.size,i.bytes))=some (some size,size,bytes)) (hsz:0<size)
  (B:Nat) (h:Hd) (us:List Value) (hs:a.eval s=.slice h.A h.n h.c) (o:AR w B size h us) (A:Option Addr) (m c:Nat) (news:List Value) (hx:a.eval x=.slice A m c)
  (hr:Rd w A (m*size) news) (h1: ∀u∈news,u.oneCell'=true) (h63:h.n+m≤1048576) (hbytes:bytes≤1024) (hB:B≤w.heap.size)
  (hK: ∀k w',k.n=h.n+m→AR w' B size k (us++news)→w.grownBy w' h.row→(k.row=h.row∨ ∃g,k.row=some g∧w.heap.size≤g)→wpList P ops Q rest (a.put op.dst (.slice k.A k.n k.c)) w'):wpList P ops Q (op::rest) a w:=
 wpList_plain hgd fun _ hK'=>Pj s x t hop e size bytes ht hinf hsz B h us hs o A m c news hx hr h1 h63 hbytes hB fun k w' r1 r2 r3 r4=>hK' _ _ (hK k w' r1 r2 r3 r4)
def clC (ρ:Int→Al) (n lo hi steps:Int):Int:=if Ds n lo hi=false then 1 else if inR steps 0 100=false then 2 else match clM ρ lo steps.toNat (hi-lo).toNat with|none=>3|some _=>0
def RetCl (ρ:Int→Al) (n lo hi steps:Int) (w:World) (e:Ending) (w':World):Prop:=
 (clC ρ n lo hi steps≠0∧e=.returned (.tuple (Gb none 0 0 (clC ρ n lo hi steps)))∧Below w w w')∨
 ∃(H:Hd) (M:List SC),clC ρ n lo hi steps=0∧clM ρ lo steps.toNat (hi-lo).toNat=some M∧e=.returned (.tuple (Gb H.A H.n H.c 0))∧H.n=(hi-lo).toNat∧Rd w' H.A (H.n*11) (Py M)∧Below w w w'
theorem Yc {ρ:Int→Al} {n lo hi steps c:Int} {w w':World} (h:clC ρ n lo hi steps=c) (h0:c≠0) (b:Below w w w'):
  RetCl ρ n lo hi steps w (.returned (.tuple (Gb none 0 0 c))) w':=Or.inl ⟨by rw[h];exact h0,by rw[h],b⟩
theorem ah {ρ:Int→Al} {n lo hi steps:Int} {w w':World} {A:Option Addr} {m c:Nat} {M:List SC} (h:clC ρ n lo hi steps=0) (hM:clM ρ lo steps.toNat (hi-lo).toNat=some M) (hm:m=(hi-lo).toNat) (r:Rd w' A (m*11) (Py M)) (b:Below w w w'):
  RetCl ρ n lo hi steps w (.returned (.tuple (Gb A m c 0))) w':=Or.inr ⟨⟨A,m,c⟩,M,h,hM,rfl,hm,r,b⟩
end Go.Proofs.YtkndcebhjcfphaaGreatDoor
