import Derived.Test.YtkndcebhjcfphaaGreatDoorZG
import Derived.Test.YtkndcebhjcfphaaGreatDoorZQ
namespace Go.Proofs.YtkndcebhjcfphaaGreatDoor
open Go.RowKit Go.Proofs.Tryz
set_option maxRecDepth 100000
set_option maxHeartbeats 4000000
set_option linter.all false
theorem Tk (a b:Int) (w:World) (ha:a.natAbs≤1000000) (hb:b.natAbs≤1000000):Calls prog 78 (Zii a b) w fun e w'=>e=.returned (ZI (Int.gcd a b:Int))∧Below w w w':=
 (Hg a b w ha hb).mono fun e w' ⟨h,m,hm⟩=>⟨h,by rw[hm];exact BW w m⟩
theorem S9 (a b:Int) (w:World) (ha:a.natAbs≤1000000) (hb:b.natAbs≤1000000):Calls prog 116 (Zii a b) w fun e w'=>e=.returned (ZI (Int.gcd a b:Int))∧Below w w w':=
 (DX a b w ha hb).mono fun e w' ⟨h,m,hm⟩=>⟨h,by rw[hm];exact BW w m⟩
structure gy (m n c0 s0 h0 g c1 s1 h1:Int):Prop where
 wm:IntKind.i64.wrap (m*m)=m*m
 wn:IntKind.i64.wrap (n*n)=n*n
 wc:IntKind.i64.wrap (n*n-m*m)=c0
 w2:IntKind.i64.wrap (2*m)=2*m
 ws:IntKind.i64.wrap (2*m*n)=s0
 wh:IntKind.i64.wrap (n*n+m*m)=h0
 bc:0≤c0∧c0≤1000
 bs:0≤s0∧s0≤2000
 bh:0≤h0∧h0≤1000
 g0:1≤g
 gg:g=((Int.gcd ((Int.gcd c0 s0:Nat):Int) h0:Nat):Int)
 gs:(Int.gcd c0 s0:Nat)≤1000000
 dc:c0.tdiv g=c1
 ds:s0.tdiv g=s1
 dh:h0.tdiv g=h1
 ec:c0/g=c1
 es:s0/g=s1
 eh:h0/g=h1
 rc:IntKind.i64.wrap c1=c1
 rs:IntKind.i64.wrap s1=s1
 rh:IntKind.i64.wrap h1=h1
 rn:IntKind.i64.wrap (-s1)= -s1
theorem ZU {m n:Int} (h:Gj m n=true):gy m n (n*n-m*m) (2*m*n) (n*n+m*m) (mkG m n) (mkC m n) (mkS m n true) (mkH m n):=by
 obtain⟨b1,b2,b3,b4,b5,b6,b7,b8,b9,b10⟩:=JG h;have e2:2*m*n=2*(m*n):=Ga ..;have hg0:0≤mkG m n:=Int.natCast_nonneg _;have hd:=VJ m n
 have hg:1≤mkG m n:=by
  rcases Eg (mkG m n) 1 with o|o
  ·have e:mkG m n=0:=Aa;have:=hd.2.2;rw[e,Int.zero_dvd] at this;omega
  ·exact o
 have q: ∀x:Int,0≤x→x≤2000→0≤x/mkG m n∧x/mkG m n≤2000:=fun x h0 h1=>⟨Int.ediv_nonneg h0 hg0,Int.le_trans (Int.ediv_le_self _ h0) h1⟩;have qc:=q (n*n-m*m) Aa Aa;have qs:=q (2*m*n) Aa Aa;have qh:=q (n*n+m*m) Aa Aa;have eS:mkS m n true=2*m*n/mkG m n:=AA rfl;refine⟨Ff _ Aa,Ff _ Aa,Ff _ Aa,Ff _ Aa,Ff _ Aa,Ff _ Aa,⟨by omega,by omega⟩,⟨by omega,by omega⟩,⟨by omega,by omega⟩,hg,rfl,Vk Aa Aa,Int.tdiv_eq_ediv_of_nonneg Aa,(Int.tdiv_eq_ediv_of_nonneg Aa).trans eS.symm,Int.tdiv_eq_ediv_of_nonneg Aa,rfl,eS.symm,rfl,?_,?_,?_,?_⟩
 ·unfold mkC;exact Ff _ Aa
 ·rw[eS];exact Ff _ Aa
 ·unfold mkH;exact Ff _ Aa
 ·rw[eS];exact Ff _ Aa
theorem WV (m n:Int):mkS m n false= -(mkS m n true):=by unfold mkS;rw[Ak Ah,AA rfl]
def Xp (m n:Int) (dn:Bool):Value:=.agg (Ziii (mkC m n) (mkS m n dn) (mkH m n))
theorem Gi (m n:Int) (dn:Bool) (w:World) (h:Gj m n=true):
  (BT 225 #[ZI m,ZI n,.bool dn] w (Xp m n dn):Prop):=by
 have N:=ZU h;clear h;have hS:mkS m n dn=if dn=true then mkS m n true else-(mkS m n true):=by cases dn<;>first|exact WV m n|rfl
 unfold Xp;rw[hS];clear hS;generalize mkC m n=c1 at*;generalize mkS m n true=s1 at*;generalize mkH m n=h1 at*;generalize mkG m n=g at*;obtain⟨c0,hc0⟩: ∃c,n*n-m*m=c:=⟨_,rfl⟩;obtain⟨s0,hs0⟩: ∃c,2*m*n=c:=⟨_,rfl⟩;obtain⟨h0,hh0⟩: ∃c,n*n+m*m=c:=⟨_,rfl⟩;rw[hc0,hs0,hh0] at N;have w3:=N.wc;have w4:=N.ws;have w5:=N.wh;rw[hc0] at w3;rw[hs0] at w4;rw[hh0] at w5;obtain⟨wm,wn,wc,w2,ws,wh,bc,bs,bh,g0,gg,gs,dc,ds,dh,ec,es,eh,rc,rs,rh,rn⟩:=N;clear wc ws wh;have hg1: ¬g=0:=Aa;have HG1:=fun W=>Tk c0 s0 W Aa Aa;have HG2:=fun W=>Tk ((Int.gcd c0 s0:Nat):Int) h0 W Aa Aa;rw[←gg] at HG2;clear gg gs;generalize((Int.gcd c0 s0:Nat):Int)=d at*
 go_enter func225,ntmps225
 go_upto_region 2 with fail
 generalize hG:(w.alloc _).alloc _=w1;obtain⟨K0,K1,b0⟩:=Qg hG;clear hG;clear wm wn w2;have hs0: ∀o,w1.cell? ⟨w+1,o,none⟩=((Ziii c0 s0 h0):Array Value)[o]? :=K1.cell
 go_region_held3 (fun w'=>(∀o,w'.cell? ⟨w+1,o,none⟩=((Ziii c0 s0 h0):Array Value)[o]?))
  (exact IJ)
  (first
   |((fail_if_success (clear hbu0));go_at_call 78;refine(HG1 _).mono ?_;rintro e u0 ⟨rfl,bu0⟩;have hbu0:Below w1 w1 u0:=(show Below w1 w1 _ from Ax).trans (bu0.mono C9);have hzu0:=hbu0.size;have hxu0:=bu0.size;(try simp at hxu0);have hs0u0: ∀o,u0.cell? ⟨w+1,o,none⟩=((Ziii c0 s0 h0):Array Value)[o]? :=fun o=>(K1.below hbu0 K1.lt).cell o;have hy0u0:w+1<u0.heap.size:=(K1.below hbu0 K1.lt).lt)
   |((fail_if_success (clear hbu1));go_at_call 78;refine(HG2 _).mono ?_;rintro e u1 ⟨rfl,bu1⟩;have hbu1:Below w1 w1 u1:=(show Below w1 w1 _ from Ax).trans (bu1.mono C9);have hzu1:=hbu1.size;have hxu1:=bu1.size;(try simp at hxu1);have hbu0u1:Below u0 u0 u1:=(show Below u0 u0 _ from Ax).trans (bu1.mono C9);have hs0u1: ∀o,u1.cell? ⟨w+1,o,none⟩=((Ziii c0 s0 h0):Array Value)[o]? :=fun o=>(K1.below hbu1 K1.lt).cell o;have hy0u1:w+1<u1.heap.size:=(K1.below hbu1 K1.lt).lt))
 all_goals
  have B2:=An b0 hbu1;have N0:=K0.below hbu1 K0.lt;have N1:=K1.below hbu1 K1.lt;clear K0 K1 hs0 hs0u0 hs0u1 hy0u0 hy0u1 hbu0 hbu1 hbu0u1 bu0 bu1 hzu0 hzu1 hxu0 hxu1 b0 HG1 HG2;have f1:=N1.frozen
  go_upto_region 3 with fail
  go_region
  all_goals
   have M1:Blk ((((u1.setCell ⟨w+1,0,none⟩ (ZI c1)).setCell ⟨w+1,1,none⟩ (ZI s1)).setCell ⟨w+1,2,none⟩ (ZI h1)).drew) (w.heap.size+1) 32 (Ziii c1 s1 h1):=Blk.drew (Blk.set_all3 N1);have M0:Blk ((((u1.setCell ⟨w+1,0,none⟩ (ZI c1)).setCell ⟨w+1,1,none⟩ (ZI s1)).setCell ⟨w+1,2,none⟩ (ZI h1)).drew) w.heap.size 32 Gd:=Blk.drew (((N0.far (p:=⟨w+1,0,none⟩) Aw (ZI c1)).far (p:=⟨w+1,1,none⟩) Aw (ZI s1)).far (p:=⟨w+1,2,none⟩) Aw (ZI h1));have B5:Below w w ((((u1.setCell ⟨w+1,0,none⟩ (ZI c1)).setCell ⟨w+1,1,none⟩ (ZI s1)).setCell ⟨w+1,2,none⟩ (ZI h1)).drew):=Ax;clear N0 N1 f1 B2;generalize((((u1.setCell ⟨w+1,0,none⟩ (ZI c1)).setCell ⟨w+1,1,none⟩ (ZI s1)).setCell ⟨w+1,2,none⟩ (ZI h1)).drew)=w5 at M0 M1 B5⊢;have e0:=M0.cell;have f0:=M0.frozen;have q0:=M0.lt;have e1:=M1.cell;have f1:=M1.frozen
   cases dn
   ·go_wp2;refine AS (v:=.agg (Ziii c1 (-s1) h1)) (by simp[results,results225,go_sem,e0,q0]) rfl ⟨rfl,Ax⟩
   ·go_wp2;refine AS (v:=.agg (Ziii c1 s1 h1)) (by simp[results,results225,go_sem,e0,q0]) rfl ⟨rfl,Ax⟩
theorem Qr (m n:Int):Gj m n=(inR n 2 1000 && (inR m 1 (n-1) && decide (n*n+m*m≤1000))):=rfl
def YB (m n:Int) (dn:Bool):Value:=if Gj m n=true then .tuple #[Xp m n dn,ZI 0] else .tuple (EI 0 0 0 2)
theorem C3 (m n:Int) (dn:Bool) (w:World):
  (BT 179 #[ZI m,ZI n,.bool dn] w (YB m n dn):Prop):=by
 have H1:=fun W=>As n 2 1000 W;have H2:=fun W=>As m 1 (n-1) W;have HB:=Qr m n;unfold YB;rcases BA (inR n 2 1000) with h1|h1
 rotate_left
 ·rw[HB,h1,Bool.false_and,Ak Ah];rw[h1] at H1;clear HB H2
  go_enter func179,ntmps179
  go_wp2_with fail
  refine(H1 _).mono ?_;rintro e w' ⟨rfl,rfl⟩;go_wp2;refine AS (v:=.tuple (EI 0 0 0 2)) (by simp[results,results179,go_sem]) rfl ⟨rfl,Ax⟩
 have hn:=Ac h1;have wn:=Bg (n-1);rw[h1] at H1;rcases BA (inR m 1 (n-1)) with h2|h2
 rotate_left
 ·rw[HB,h1,h2,Bool.false_and,Bool.and_false,Ak Ah];rw[h2] at H2;clear HB
  go_enter func179,ntmps179
  go_wp2_with fail
  refine(H1 _).mono ?_;rintro e w' ⟨rfl,rfl⟩
  go_wp2_with fail
  refine(H2 _).mono ?_;rintro e w' ⟨rfl,rfl⟩;go_wp2;refine AS (v:=.tuple (EI 0 0 0 2)) (by simp[results,results179,go_sem]) rfl ⟨rfl,Ax⟩
 have hm:=Ac h2;rw[h2] at H2;have q1:=CL (show n≤1000 by omega) (show n≤1000 by omega) Aa Ah
 have q2:=CL (show m≤1000 by omega) (show m≤1000 by omega) Aa Ah
 have q3:=Du (show 0≤n by omega) (show 0≤n by omega)
 have q4:=Du (show 0≤m by omega) (show 0≤m by omega)
 have wa:=Bg (n*n);have wb:=Bg (m*m);have wc:=Bg (n*n+m*m)
 by_cases h3:n*n+m*m≤1000
 rotate_left
 ·have h3':(1000:Int)<n*n+m*m:=Aa;rw[HB,h1,h2,BR h3,Bool.and_false,Bool.and_false,Ak Ah];clear HB q1 q2 q3 q4
  go_enter func179,ntmps179
  go_wp2_with fail
  refine(H1 _).mono ?_;rintro e w' ⟨rfl,rfl⟩
  go_wp2_with fail
  refine(H2 _).mono ?_;rintro e w' ⟨rfl,rfl⟩;go_wp2;refine AS (v:=.tuple (EI 0 0 0 2)) (by simp[results,results179,go_sem]) rfl ⟨rfl,Ax⟩
 have hk:Gj m n=true:=by rw[HB,h1,h2,BC h3];rfl
 rw[AA hk];have HMD:=fun W=>Gi m n dn W hk;unfold Xp at*;clear HB hk q1 q2 q3 q4;generalize mkC m n=c1 at*;generalize mkS m n dn=s1 at*;generalize mkH m n=h1' at*
 go_enter func179,ntmps179
 go_upto_region 1 with fail
 generalize hG:w.alloc _=w1;obtain⟨K0,b0⟩:=EX hG;clear hG
 go_wp2_with fail
 refine(H1 _).mono ?_;rintro e w' ⟨rfl,rfl⟩
 go_wp2_with fail
 refine(H2 _).mono ?_;rintro e w' ⟨rfl,rfl⟩
 go_wp2_with fail
 refine(HMD _).mono ?_;rintro e w2 ⟨rfl,b2⟩;replace b0:=An b0 b2;replace K0:=K0.below b2 K0.lt;have e0:=K0.cell;have f0:=K0.frozen;have q0:=K0.lt;go_wp2;refine AS (v:=.tuple (EI c1 s1 h1' 0)) (by simp[results,results179,go_sem,e0,q0]) rfl ⟨rfl,Ax⟩
theorem C4 (m n:Int) (dn:Bool) (w:World):
  (BT 108 #[ZI m,ZI n,.bool dn] w (YB m n dn):Prop):=by
 have H1:=fun W=>Ay n 2 1000 W;have H2:=fun W=>Ay m 1 (n-1) W;have HB:=Qr m n;unfold YB;rcases BA (inR n 2 1000) with h1|h1
 rotate_left
 ·rw[HB,h1,Bool.false_and,Ak Ah];rw[h1] at H1;clear HB H2
  go_enter func108,ntmps108
  go_wp2_with fail
  refine(H1 _).mono ?_;rintro e w' ⟨rfl,rfl⟩;go_wp2;refine AS (v:=.tuple (EI 0 0 0 2)) (by simp[results,results108,go_sem]) rfl ⟨rfl,Ax⟩
 have hn:=Ac h1;have wn:=Bg (n-1);rw[h1] at H1;rcases BA (inR m 1 (n-1)) with h2|h2
 rotate_left
 ·rw[HB,h1,h2,Bool.false_and,Bool.and_false,Ak Ah];rw[h2] at H2;clear HB
  go_enter func108,ntmps108
  go_wp2_with fail
  refine(H1 _).mono ?_;rintro e w' ⟨rfl,rfl⟩
  go_wp2_with fail
  refine(H2 _).mono ?_;rintro e w' ⟨rfl,rfl⟩;go_wp2;refine AS (v:=.tuple (EI 0 0 0 2)) (by simp[results,results108,go_sem]) rfl ⟨rfl,Ax⟩
 have hm:=Ac h2;rw[h2] at H2;have q1:=CL (show n≤1000 by omega) (show n≤1000 by omega) Aa Ah
 have q2:=CL (show m≤1000 by omega) (show m≤1000 by omega) Aa Ah
 have q3:=Du (show 0≤n by omega) (show 0≤n by omega)
 have q4:=Du (show 0≤m by omega) (show 0≤m by omega)
 have wa:=Bg (n*n);have wb:=Bg (m*m);have wc:=Bg (n*n+m*m)
 by_cases h3:n*n+m*m≤1000
 rotate_left
 ·have h3':(1000:Int)<n*n+m*m:=Aa;rw[HB,h1,h2,BR h3,Bool.and_false,Bool.and_false,Ak Ah];clear HB q1 q2 q3 q4
  go_enter func108,ntmps108
  go_wp2_with fail
  refine(H1 _).mono ?_;rintro e w' ⟨rfl,rfl⟩
  go_wp2_with fail
  refine(H2 _).mono ?_;rintro e w' ⟨rfl,rfl⟩;go_wp2;refine AS (v:=.tuple (EI 0 0 0 2)) (by simp[results,results108,go_sem]) rfl ⟨rfl,Ax⟩
 have h3': ¬(1000:Int)<n*n+m*m:=Aa;have hk:Gj m n=true:=by rw[HB,h1,h2,BC h3];rfl
 rw[AA hk];have N:=ZU hk;have hS:mkS m n dn=if dn=true then mkS m n true else-(mkS m n true):=by cases dn<;>first|exact WV m n|rfl
 unfold Xp;rw[hS];clear hS HB hk q1 q2 q3 q4;generalize mkC m n=c1 at*;generalize mkS m n true=s1 at*;generalize mkH m n=h1' at*;generalize mkG m n=g at*;obtain⟨c0,hc0⟩: ∃c,n*n-m*m=c:=⟨_,rfl⟩;obtain⟨s0,hs0⟩: ∃c,2*m*n=c:=⟨_,rfl⟩;obtain⟨h0,hh0⟩: ∃c,n*n+m*m=c:=⟨_,rfl⟩;rw[hc0,hs0,hh0] at N;have w3:=N.wc;have w4:=N.ws;rw[hc0] at w3;rw[hs0] at w4;rw[hh0] at h3' wc;obtain⟨-,-,-,w2,-,-,bc,bs,bh,g0,gg,gs,dc,ds,dh,ec,es,eh,rc,rs,rh,rn⟩:=N;have hg1: ¬g=0:=Aa;have HG1:=fun W=>S9 c0 s0 W Aa Aa;have HG2:=fun W=>S9 ((Int.gcd c0 s0:Nat):Int) h0 W Aa Aa;rw[←gg] at HG2;clear gg gs h3 hn hm h1 h2;generalize((Int.gcd c0 s0:Nat):Int)=d at*
 go_enter func108,ntmps108
 go_upto_region 1 with fail
 generalize hG:w.alloc _=w1;obtain⟨K0,b0⟩:=EX hG;clear hG
 go_wp2_with fail
 refine(H1 _).mono ?_;rintro e w' ⟨rfl,rfl⟩
 go_wp2_with fail
 refine(H2 _).mono ?_;rintro e w' ⟨rfl,rfl⟩
 go_wp2_with fail
 refine(HG1 _).mono ?_;rintro e w2' ⟨rfl,b2⟩;replace b0:=An b0 b2;replace K0:=K0.below b2 K0.lt;clear b2 HG1
 go_wp2_with fail
 refine(HG2 _).mono ?_;rintro e w3' ⟨rfl,b3⟩;replace b0:=An b0 b3;replace K0:=K0.below b3 K0.lt;clear b3 HG2
 go_upto_region 5 with fail
 go_region
 all_goals
  have hq:w<w3'.heap.size:=K0.lt;have M1:=Blk.drew (Br w3' 32 (Ziii c1 s1 h1'));have M0:=Blk.drew (K0.alloc (.cells (Ziii c1 s1 h1') 32));have hz:=b0.size;have B5:Below w w ((w3'.alloc (.cells (Ziii c1 s1 h1') 32)).drew):=Ax;clear K0 b0;generalize((w3'.alloc _).drew)=w5 at M0 M1 B5⊢;generalize w3'.heap.size=Q at M1 hq hz⊢;have e0:=M0.cell;have f0:=M0.frozen;have q0:=M0.lt;have e1:=M1.cell;have f1:=M1.frozen
  cases dn
  ·go_wp2;refine AS (v:=.tuple (EI c1 (-s1) h1' 0)) (by simp[results,results108,go_sem,e0,q0]) rfl ⟨rfl,Ax⟩
  ·go_wp2;refine AS (v:=.tuple (EI c1 s1 h1' 0)) (by simp[results,results108,go_sem,e0,q0]) rfl ⟨rfl,Ax⟩
end Go.Proofs.YtkndcebhjcfphaaGreatDoor
