import Derived.Test.YtkndcebhjcfphaaGreatDoorZG
import Derived.Test.YtkndcebhjcfphaaGreatDoorZS
namespace Go.Proofs.YtkndcebhjcfphaaGreatDoor
open Go.RowKit Go.Proofs.Tryz
set_option maxRecDepth 100000
set_option maxHeartbeats 4000000
set_option linter.all false
theorem Tk (a b:Int) (w:World) (ha:a.natAbs<=1000000) (d:b.natAbs<=1000000):Calls prog 78 (Zii a b) w λe c=>e=.returned (ZI (Int.gcd a b:Int))∧Below w w c:=
 (Hg a b w ha d).mono λe c ⟨h,m,f⟩=>⟨h,by rw[f];exact BW w m⟩
theorem S9 (a b:Int) (w:World) (ha:a.natAbs<=1000000) (d:b.natAbs<=1000000):Calls prog 116 (Zii a b) w λe c=>e=.returned (ZI (Int.gcd a b:Int))∧Below w w c:=
 (D9 a b w ha d).mono λe c ⟨h,m,f⟩=>⟨h,by rw[f];exact BW w m⟩
structure gy (m n c0 s0 h0 g c1 s1 h1:Int):Prop where
 wm:IntKind.i64.wrap (m*m)=m*m
 wn:IntKind.i64.wrap (n*n)=n*n
 wc:IntKind.i64.wrap (n*n-m*m)=c0
 w2:IntKind.i64.wrap (2*m)=2*m
 ws:IntKind.i64.wrap (2*m*n)=s0
 wh:IntKind.i64.wrap (n*n+m*m)=h0
 bc:0<=c0∧c0<=1000
 bs:0<=s0∧s0<=2000
 bh:0<=h0∧h0<=1000
 g0:1<=g
 gg:g=((Int.gcd ((Int.gcd c0 s0:Nat):Int) h0:Nat):Int)
 gs:(Int.gcd c0 s0:Nat)<=1000000
 dc:c0.tdiv g=c1
 ds:s0.tdiv g=s1
 dh:h0.tdiv g=h1
 ec:c0/g=c1
 es:s0/g=s1
 eh:h0/g=h1
 rc:IntKind.i64.wrap c1=c1
 rs:IntKind.i64.wrap s1=s1
 rh:IntKind.i64.wrap h1=h1
 rn:IntKind.i64.wrap (-s1)= -s1
theorem ZU {m n:Int} (h:Gj m n=true):gy m n (n*n-m*m) (2*m*n) (n*n+m*m) (mkG m n) (mkC m n) (mkS m n true) (mkH m n):=by
 obtain⟨j,k,l,p,r,s,t,u,v,d⟩:=JG h;have e2:2*m*n=2*(m*n):=Ga ..;have b:0<=mkG m n:=Int.natCast_nonneg _;have g:=VJ m n
 have i:1<=mkG m n:=by
  rcases Eg (mkG m n) 1 with o|o
  ·have e:mkG m n=0:=Aa;have:=g.2.2;rw[e,Int.zero_dvd] at this;omega
  ·exact o
 have q: ∀x:Int,0<=x->x<=2000->0<=x/mkG m n∧x/mkG m n<=2000:=λx c f=>⟨Int.ediv_nonneg c b,Int.le_trans (Int.ediv_le_self _ c) f⟩;have w:=q (n*n-m*m) Aa Aa;have z:=q (2*m*n) Aa Aa;have y:=q (n*n+m*m) Aa Aa;have a:mkS m n true=2*m*n/mkG m n:=AA rfl;refine⟨Ff _ Aa,Ff _ Aa,Ff _ Aa,Ff _ Aa,Ff _ Aa,Ff _ Aa,⟨by omega,by omega⟩,⟨by omega,by omega⟩,⟨by omega,by omega⟩,i,rfl,Vk Aa Aa,Int.tdiv_eq_ediv_of_nonneg Aa,(Int.tdiv_eq_ediv_of_nonneg Aa).trans a.symm,Int.tdiv_eq_ediv_of_nonneg Aa,rfl,a.symm,rfl,?_,?_,?_,?_⟩
 ·unfold mkC;exact Ff _ Aa
 ·rw[a];exact Ff _ Aa
 ·unfold mkH;exact Ff _ Aa
 ·rw[a];exact Ff _ Aa
theorem WV (m n:Int):mkS m n false= -(mkS m n true):=by unfold mkS;rw[Ak Ah,AA rfl]
def Xp (m n:Int) (dn:Bool):Value:=.agg (Ziii (mkC m n) (mkS m n dn) (mkH m n))
theorem Gi (m n:Int) (dn:Bool) (w:World) (h:Gj m n=true):
  (BT 225 #[ZI m,ZI n,.bool dn] w (Xp m n dn):Prop):=by
 have N:=ZU h;clear h;have Z:mkS m n dn=if dn=true then mkS m n true else-(mkS m n true):=by cases dn<;>first|exact WV m n|rfl
 unfold Xp;rw[Z];clear Z;generalize mkC m n=q at*;generalize mkS m n true=u at*;generalize mkH m n=r at*;generalize mkG m n=g at*;obtain⟨A,hc0⟩: ∃c,n*n-m*m=c:=⟨_,rfl⟩;obtain⟨F,k⟩: ∃c,2*m*n=c:=⟨_,rfl⟩;obtain⟨I,J⟩: ∃c,n*n+m*m=c:=⟨_,rfl⟩;rw[hc0,k,J] at N;have w3:=N.wc;have w4:=N.ws;have w5:=N.wh;rw[hc0] at w3;rw[k] at w4;rw[J] at w5;obtain⟨wm,wn,wc,w2,ws,wh,bc,bs,bh,g0,X,gs,dc,ds,dh,ec,es,eh,rc,rs,rh,rn⟩:=N;clear wc ws wh;have af: ¬g=0:=Aa;have H:=λW=>Tk A F W Aa Aa;have y:=λW=>Tk ((Int.gcd A F:Nat):Int) I W Aa Aa;rw[<-X] at y;clear X gs;generalize((Int.gcd A F:Nat):Int)=d at*
 go_enter func225,ntmps225
 go_upto_region 2 with fail
 generalize Y:(w.alloc _).alloc _=l;obtain⟨O,f,T⟩:=Qg Y;clear Y;clear wm wn w2;have k: ∀o,l.cell? ⟨w+1,o,none⟩=((Ziii A F I):Array Value)[o]? :=f.cell
 go_region_held3 (λw'=>(∀o,w'.cell? ⟨w+1,o,none⟩=((Ziii A F I):Array Value)[o]?))
  (exact IJ)
  (first
   |((fail_if_success (clear b));go_at_call 78;refine(H _).mono ?_;rintro e G ⟨rfl,z⟩;have b:Below l l G:=(show Below l l _ from Ax).trans (z.mono C9);have K:=b.size;have s:=z.size;(try simp at s);have B: ∀o,G.cell? ⟨w+1,o,none⟩=((Ziii A F I):Array Value)[o]? :=λo=>(f.below b f.lt).cell o;have D:w+1<G.heap.size:=(f.below b f.lt).lt)
   |((fail_if_success (clear a));go_at_call 78;refine(y _).mono ?_;rintro e x ⟨rfl,i⟩;have a:Below l l x:=(show Below l l _ from Ax).trans (i.mono C9);have L:=a.size;have t:=i.size;(try simp at t);have j:Below G G x:=(show Below G G _ from Ax).trans (i.mono C9);have C: ∀o,x.cell? ⟨w+1,o,none⟩=((Ziii A F I):Array Value)[o]? :=λo=>(f.below a f.lt).cell o;have E:w+1<x.heap.size:=(f.below a f.lt).lt))
 all_goals
  have B2:=An T a;have S:=O.below a O.lt;have R:=f.below a f.lt;clear O f k B C D E b a j z i K L s t T H y;have V:=R.frozen
  go_upto_region 3 with fail
  go_region
  all_goals
   have Q:Blk ((((x.setCell ⟨w+1,0,none⟩ (ZI q)).setCell ⟨w+1,1,none⟩ (ZI u)).setCell ⟨w+1,2,none⟩ (ZI r)).drew) (w.heap.size+1) 32 (Ziii q u r):=Blk.drew (Blk.set_all3 R);have M:Blk ((((x.setCell ⟨w+1,0,none⟩ (ZI q)).setCell ⟨w+1,1,none⟩ (ZI u)).setCell ⟨w+1,2,none⟩ (ZI r)).drew) w.heap.size 32 Gd:=Blk.drew (((S.far (p:=⟨w+1,0,none⟩) Aw (ZI q)).far (p:=⟨w+1,1,none⟩) Aw (ZI u)).far (p:=⟨w+1,2,none⟩) Aw (ZI r));have B5:Below w w ((((x.setCell ⟨w+1,0,none⟩ (ZI q)).setCell ⟨w+1,1,none⟩ (ZI u)).setCell ⟨w+1,2,none⟩ (ZI r)).drew):=Ax;clear S R V B2;generalize((((x.setCell ⟨w+1,0,none⟩ (ZI q)).setCell ⟨w+1,1,none⟩ (ZI u)).setCell ⟨w+1,2,none⟩ (ZI r)).drew)=w5 at M Q B5⊢;have U:=M.cell;have f0:=M.frozen;have q0:=M.lt;have e1:=Q.cell;have V:=Q.frozen
   cases dn
   ·go_wp2;refine AS (v:=.agg (Ziii q (-u) r)) (by simp[results,results225,go_sem,U,q0]) rfl ⟨rfl,Ax⟩
   ·go_wp2;refine AS (v:=.agg (Ziii q u r)) (by simp[results,results225,go_sem,U,q0]) rfl ⟨rfl,Ax⟩
theorem Qr (m n:Int):Gj m n=(inR n 2 1000 && (inR m 1 (n-1) && decide (n*n+m*m<=1000))):=rfl
def YB (m n:Int) (dn:Bool):Value:=if Gj m n=true then .tuple #[Xp m n dn,ZI 0] else .tuple (EI 0 0 0 2)
theorem C3 (m n:Int) (dn:Bool) (w:World):
  (BT 179 #[ZI m,ZI n,.bool dn] w (YB m n dn):Prop):=by
 have b:=λW=>As n 2 1000 W;have c:=λW=>As m 1 (n-1) W;have a:=Qr m n;unfold YB;rcases jt (inR n 2 1000) with h1|h1
 rotate_left
 ·rw[a,h1,Bool.false_and,Ak Ah];rw[h1] at b;clear a c
  go_enter func179,ntmps179
  go_wp2_with fail
  refine(b _).mono ?_;rintro e f ⟨rfl,rfl⟩;go_wp2;refine AS (v:=.tuple (EI 0 0 0 2)) (by simp[results,results179,go_sem]) rfl ⟨rfl,Ax⟩
 have E:=Ac h1;have J:=Bg (n-1);rw[h1] at b;rcases jt (inR m 1 (n-1)) with h2|h2
 rotate_left
 ·rw[a,h1,h2,Bool.false_and,Bool.and_false,Ak Ah];rw[h2] at c;clear a
  go_enter func179,ntmps179
  go_wp2_with fail
  refine(b _).mono ?_;rintro e f ⟨rfl,rfl⟩
  go_wp2_with fail
  refine(c _).mono ?_;rintro e f ⟨rfl,rfl⟩;go_wp2;refine AS (v:=.tuple (EI 0 0 0 2)) (by simp[results,results179,go_sem]) rfl ⟨rfl,Ax⟩
 have D:=Ac h2;rw[h2] at c;have r:=CL (show n<=1000 by omega) (show n<=1000 by omega) Aa Ah
 have s:=CL (show m<=1000 by omega) (show m<=1000 by omega) Aa Ah
 have t:=Du (show 0<=n by omega) (show 0<=n by omega)
 have u:=Du (show 0<=m by omega) (show 0<=m by omega)
 have H:=Bg (n*n);have I:=Bg (m*m);have wc:=Bg (n*n+m*m)
 by_cases p:n*n+m*m<=1000
 rotate_left
 ·have z:(1000:Int)<n*n+m*m:=Aa;rw[a,h1,h2,BR p,Bool.and_false,Bool.and_false,Ak Ah];clear a r s t u
  go_enter func179,ntmps179
  go_wp2_with fail
  refine(b _).mono ?_;rintro e f ⟨rfl,rfl⟩
  go_wp2_with fail
  refine(c _).mono ?_;rintro e f ⟨rfl,rfl⟩;go_wp2;refine AS (v:=.tuple (EI 0 0 0 2)) (by simp[results,results179,go_sem]) rfl ⟨rfl,Ax⟩
 have j:Gj m n=true:=by rw[a,h1,h2,BC p];rfl
 rw[AA j];have g:=λW=>Gi m n dn W j;unfold Xp at*;clear a j r s t u;generalize mkC m n=x at*;generalize mkS m n dn=B at*;generalize mkH m n=i at*
 go_enter func179,ntmps179
 go_upto_region 1 with fail
 generalize q:w.alloc _=F;obtain⟨d,k⟩:=EX q;clear q
 go_wp2_with fail
 refine(b _).mono ?_;rintro e f ⟨rfl,rfl⟩
 go_wp2_with fail
 refine(c _).mono ?_;rintro e f ⟨rfl,rfl⟩
 go_wp2_with fail
 refine(g _).mono ?_;rintro e G ⟨rfl,l⟩;replace k:=An k l;replace d:=d.below l d.lt;have y:=d.cell;have C:=d.frozen;have A:=d.lt;go_wp2;refine AS (v:=.tuple (EI x B i 0)) (by simp[results,results179,go_sem,y,A]) rfl ⟨rfl,Ax⟩
theorem C4 (m n:Int) (dn:Bool) (w:World):
  (BT 108 #[ZI m,ZI n,.bool dn] w (YB m n dn):Prop):=by
 have k:=λW=>Ay n 2 1000 W;have l:=λW=>Ay m 1 (n-1) W;have i:=Qr m n;unfold YB;rcases jt (inR n 2 1000) with h1|h1
 rotate_left
 ·rw[i,h1,Bool.false_and,Ak Ah];rw[h1] at k;clear i l
  go_enter func108,ntmps108
  go_wp2_with fail
  refine(k _).mono ?_;rintro e q ⟨rfl,rfl⟩;go_wp2;refine AS (v:=.tuple (EI 0 0 0 2)) (by simp[results,results108,go_sem]) rfl ⟨rfl,Ax⟩
 have Z:=Ac h1;have wn:=Bg (n-1);rw[h1] at k;rcases jt (inR m 1 (n-1)) with h2|h2
 rotate_left
 ·rw[i,h1,h2,Bool.false_and,Bool.and_false,Ak Ah];rw[h2] at l;clear i
  go_enter func108,ntmps108
  go_wp2_with fail
  refine(k _).mono ?_;rintro e q ⟨rfl,rfl⟩
  go_wp2_with fail
  refine(l _).mono ?_;rintro e q ⟨rfl,rfl⟩;go_wp2;refine AS (v:=.tuple (EI 0 0 0 2)) (by simp[results,results108,go_sem]) rfl ⟨rfl,Ax⟩
 have Y:=Ac h2;rw[h2] at l;have M:=CL (show n<=1000 by omega) (show n<=1000 by omega) Aa Ah
 have O:=CL (show m<=1000 by omega) (show m<=1000 by omega) Aa Ah
 have R:=Du (show 0<=n by omega) (show 0<=n by omega)
 have S:=Du (show 0<=m by omega) (show 0<=m by omega)
 have wa:=Bg (n*n);have wb:=Bg (m*m);have wc:=Bg (n*n+m*m)
 by_cases E:n*n+m*m<=1000
 rotate_left
 ·have t:(1000:Int)<n*n+m*m:=Aa;rw[i,h1,h2,BR E,Bool.and_false,Bool.and_false,Ak Ah];clear i M O R S
  go_enter func108,ntmps108
  go_wp2_with fail
  refine(k _).mono ?_;rintro e q ⟨rfl,rfl⟩
  go_wp2_with fail
  refine(l _).mono ?_;rintro e q ⟨rfl,rfl⟩;go_wp2;refine AS (v:=.tuple (EI 0 0 0 2)) (by simp[results,results108,go_sem]) rfl ⟨rfl,Ax⟩
 have t: ¬(1000:Int)<n*n+m*m:=Aa;have F:Gj m n=true:=by rw[i,h1,h2,BC E];rfl
 rw[AA F];have N:=ZU F;have K:mkS m n dn=if dn=true then mkS m n true else-(mkS m n true):=by cases dn<;>first|exact WV m n|rfl
 unfold Xp;rw[K];clear K i F M O R S;generalize mkC m n=s at*;generalize mkS m n true=y at*;generalize mkH m n=a at*;generalize mkG m n=g at*;obtain⟨D,hc0⟩: ∃c,n*n-m*m=c:=⟨_,rfl⟩;obtain⟨G,x⟩: ∃c,2*m*n=c:=⟨_,rfl⟩;obtain⟨V,u⟩: ∃c,n*n+m*m=c:=⟨_,rfl⟩;rw[hc0,x,u] at N;have w3:=N.wc;have w4:=N.ws;rw[hc0] at w3;rw[x] at w4;rw[u] at t wc;obtain⟨-,-,-,w2,-,-,bc,bs,bh,g0,I,U,dc,ds,dh,ec,es,eh,rc,rs,rh,rn⟩:=N;have X: ¬g=0:=Aa;have r:=λW=>S9 D G W Aa Aa;have j:=λW=>S9 ((Int.gcd D G:Nat):Int) V W Aa Aa;rw[<-I] at j;clear I U E Z Y h1 h2;generalize((Int.gcd D G:Nat):Int)=d at*
 go_enter func108,ntmps108
 go_upto_region 1 with fail
 generalize J:w.alloc _=w1;obtain⟨f,p⟩:=EX J;clear J
 go_wp2_with fail
 refine(k _).mono ?_;rintro e q ⟨rfl,rfl⟩
 go_wp2_with fail
 refine(l _).mono ?_;rintro e q ⟨rfl,rfl⟩
 go_wp2_with fail
 refine(r _).mono ?_;rintro e ac ⟨rfl,B⟩;replace p:=An p B;replace f:=f.below B f.lt;clear B r
 go_wp2_with fail
 refine(j _).mono ?_;rintro e b ⟨rfl,C⟩;replace p:=An p C;replace f:=f.below C f.lt;clear C j
 go_upto_region 5 with fail
 go_region
 all_goals
  have hq:w<b.heap.size:=f.lt;have A:=Blk.drew (Br b 32 (Ziii s y a));have z:=Blk.drew (f.alloc (.cells (Ziii s y a) 32));have hz:=p.size;have T:Below w w ((b.alloc (.cells (Ziii s y a) 32)).drew):=Ax;clear f p;generalize((b.alloc _).drew)=w5 at z A T⊢;generalize b.heap.size=Q at A hq hz⊢;have H:=z.cell;have f0:=z.frozen;have L:=z.lt;have e1:=A.cell;have f1:=A.frozen
  cases dn
  ·go_wp2;refine AS (v:=.tuple (EI s (-y) a 0)) (by simp[results,results108,go_sem,H,L]) rfl ⟨rfl,Ax⟩
  ·go_wp2;refine AS (v:=.tuple (EI s y a 0)) (by simp[results,results108,go_sem,H,L]) rfl ⟨rfl,Ax⟩
