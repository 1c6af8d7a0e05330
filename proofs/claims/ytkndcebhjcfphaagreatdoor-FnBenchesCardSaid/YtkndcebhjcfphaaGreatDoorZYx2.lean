import Derived.Test.YtkndcebhjcfphaaGreatDoorZU
import Derived.Test.YtkndcebhjcfphaaGreatDoorZY
namespace Go.Proofs.YtkndcebhjcfphaaGreatDoor
open Go.RowKit Go.Proofs.Tryz
set_option maxRecDepth 100000
set_option maxHeartbeats 4000000
set_option linter.all false
def MC (h:Ev) (r q:Al) (he hs ha ke ks ka:Hd) (same:Bool) (lo hi:Int):Array Value:=
 (Au h.D.A h.D.n h.D.c h.S.A h.S.n h.S.c r.src r.c r.s r.h h.D.A h.D.n h.D.c h.S.A h.S.n h.S.c r.src q.c q.s q.h he.A he.n he.c hs.A hs.n hs.c ha.A ha.n ha.c ke.A ke.n ke.c ks.A ks.n ks.c ka.A ka.n ka.c same lo hi)
def RetNc (h:Ev) (r q:Al) (n:Nat) (w:World) (e:Ending) (w':World):Prop:=
 ((r.tr n=none∨q.tr n=none)∧e=.returned (.tuple #[.pointer none,ZI 3])∧Below w w w')∨
 ∃(g:Nat) (x y:En) (l m:List AU) (he hs ha ke ks ka:Hd),r.tr n=some (x,l)∧q.tr n=some (y,m)∧e=.returned (.tuple #[.pointer (some ⟨g,0,none⟩),ZI 0])∧
  Blk w' g 311 (MC h r q he hs ha ke ks ka (decide (C2 l=C2 m)) (if C2 l=C2 m then Ej (BF l) (BF m) n else 0) (if C2 l=C2 m then Ei (BF l) (BF m) n else 0))∧
  DI w' w.heap.size he hs ha l∧DI w' w.heap.size ke ks ka m∧Below w w w'
theorem VZ {h:Ev} {r q:Al} {n:Nat} {w w':World} (a:r.tr n=none∨q.tr n=none) (b:Below w w w'):RetNc h r q n w (.returned (.tuple #[.pointer none,ZI 3])) w':=Or.inl ⟨a,rfl,b⟩
def gz (r q:Al) (h:Ev) (n gc:Nat) (wr:World):Nat->Prop
 |0=>Blk wr gc 311 (MC h r q ⟨none,0,0⟩ ⟨none,0,0⟩ ⟨none,0,0⟩ ⟨none,0,0⟩ ⟨none,0,0⟩ ⟨none,0,0⟩ false 0 0)
 |1=> ∃(x:En) (l:List AU) (he hs ha:Hd),r.tr n=some (x,l)∧Blk wr gc 311 (MC h r q he hs ha ⟨none,0,0⟩ ⟨none,0,0⟩ ⟨none,0,0⟩ false 0 0)∧DI wr (gc+1) he hs ha l
 |_=> ∃(x y:En) (l m:List AU) (he hs ha ke ks ka:Hd),r.tr n=some (x,l)∧q.tr n=some (y,m)∧Blk wr gc 311 (MC h r q he hs ha ke ks ka false 0 0)∧DI wr (gc+1) he hs ha l∧DI wr (gc+1) ke ks ka m
theorem Uh (h:Ev) (r q:Al) (n:Nat) (w:World) (X:DR w h r) (hn:n<=100) (N:YJ r q) (cB:q.ss=r.ss) (bO:q.src=r.src):
  Calls prog 283 #[EV h,ZI r.src,GU r,GU q,ZI n] w (RetNc h r q n w):=by
 have aK:=λ(W:World) (X:DR W h r)=>Md h r n W X N.fr.ok hn;have ay:=λ(W:World) (X:DR W h r)=>Md h q n W ⟨by rw[N.ds];exact X.d,by rw[cB];exact X.s⟩ N.fq.ok hn
 have HN:=Ai N;have HX:=Ai X
 have HR:Hid (∀(g:Nat) (x y:En) (l m:List AU) (he hs ha ke ks ka:Hd) (aU:Bool) (lo hi:Int) (w':World),r.tr n=some (x,l)->q.tr n=some (y,m)->aU=decide (C2 l=C2 m)->lo=(if C2 l=C2 m then Ej (BF l) (BF m) n else 0)->hi=(if C2 l=C2 m then Ei (BF l) (BF m) n else 0)->
   Blk w' g 311 (MC h r q he hs ha ke ks ka aU lo hi)->DI w' w.heap.size he hs ha l->DI w' w.heap.size ke ks ka m->Below w w w'->RetNc h r q n w (.returned (.tuple #[.pointer (some ⟨g,0,none⟩),ZI 0])) w'):=λg x y l m he hs ha ke ks ka aU lo hi w' h1 h2 e1 e2 e3 K T1 T2 b=>by subst e1 e2 e3;exact Or.inr ⟨g,x,y,l,m,he,hs,ha,ke,ks,ka,h1,h2,rfl,K,T1,T2,b⟩
 have HZ:Hid (∀w':World,(r.tr n=none∨q.tr n=none)->Below w w w'->RetNc h r q n w (.returned (.tuple #[.pointer none,ZI 3])) w'):=λw' a b=>VZ a b;clear X N;unfold MC at HR;generalize RetNc h r q n w=c4 at HR HZ⊢;obtain⟨⟨t,A,v⟩,⟨u,B,z⟩⟩:=h;unfold EV GU GH Wx at*;simp only at aK ay HR⊢;rw[bO] at ay;have cI: ∀W:World,(Instr.index 308 (.agg #[.slice t A v,.slice u B z,ZI r.src,ZI r.c,ZI r.s,ZI r.h,.slice t A v,.slice u B z,ZI r.src,ZI q.c,ZI q.s,ZI q.h]) (ZI 0)).run prog W=.ok (AV t A v u B z r.src r.c r.s r.h) W:=λ_=>rfl;have cJ: ∀W:World,(Instr.index 308 (.agg #[.slice t A v,.slice u B z,ZI r.src,ZI r.c,ZI r.s,ZI r.h,.slice t A v,.slice u B z,ZI r.src,ZI q.c,ZI q.s,ZI q.h]) (ZI 1)).run prog W=.ok (AV t A v u B z r.src q.c q.s q.h) W:=λ_=>rfl
 go_enter func283,ntmps283
 go_upto_region 2 with fail
 generalize hG:(((w.alloc _).alloc _).alloc _).alloc _=w1;obtain⟨_,_,_,K3,b0⟩:=Y3 hG;clear hG;have cz:w<=w.heap.size+1+1+1:=Aa;generalize w.heap.size+1+1+1=j at K3 cz⊢;have e3:=K3.cell
 go_upto_region 3 with fail
 clear e3
 go_loopw [39] (λi wr=> ∃k:Nat,k<=2∧i=.int .i64 k∧gz r q ⟨⟨t,A,v⟩,⟨u,B,z⟩⟩ n j wr k∧Below w w wr) (λi _=>2-(intOf i).toNat)
 case atStart=>exact⟨0,by omega,rfl,K3,b0⟩
 case round=>
  clear K3 b0;obtain⟨k,hk,rfl,HI,b⟩:=hrel;rcases(show k=0∨k=1∨k=2 by omega) with rfl|rfl|rfl
  ·have K:Blk wr j 311 (Au t A v u B z r.src r.c r.s r.h t A v u B z r.src q.c q.s q.h none 0 0 none 0 0 none 0 0 none 0 0 none 0 0 none 0 0 false 0 0):=HI;clear HI;have aS:=K.lt;have ab:=b.size
   go_upto_region 5 with fail
   generalize hG:wr.alloc _=w2;obtain⟨KR,al⟩:=EX hG;clear hG;have b1:=b.trans (al.mono ab);have K1:=K.below al aS;generalize wr.heap.size=q2 at KR⊢;clear K b al ab aS;have eR:=KR.cell;have X2:=HX.out.below b1
   go_wp2_with fail
   refine(aK _ X2).mono ?_;clear eR;rintro e w3 (⟨bi,rfl,b3⟩|⟨x,l,⟨D,C,E⟩,⟨F,I,H⟩,⟨DA,an,G⟩,am,rfl,T,b3⟩)
   ·have b4:=An b1 b3;have aT:=b4.size;have b5:Below w w (w3.alloc (.cells DU 223)):=Ax;clear K1 KR X2 b3 HX aK ay b1;go_wp2;exact HZ.out _ (Or.inl bi) b5
   ·simp only;have bh:=K1.lt;have b4:=An b1 b3;have K4:=K1.below b3 K1.lt;have T4:=T.low (show j+1<=w2.heap.size by have:=K1.lt;omega)
    have aT:=b4.size;have ah:Below w3 w3 (w3.alloc (.cells (Dj D C E F I H DA an G) 223)):=BU;have KT:=Br w3 223 (Dj D C E F I H DA an G);have b5:=b4.trans (ah.mono aT);have K5:=K4.below ah K4.lt;have T5:=T4.below ah;clear b3 b4 K4 T4 ah b1 K1 X2 KR bh
    go_upto_region 6 with fail
    generalize w3.alloc _=w4 at KT b5 K5 T5⊢;generalize w3.heap.size=q4 at KT⊢;have e5:=K5.cell;have f5:=K5.frozen;have eT:=KT.cell
    go_upto_region 8 with fail
    go_region
    all_goals
     have N6:Blk _ j 311 (Au t A v u B z r.src r.c r.s r.h t A v u B z r.src q.c q.s q.h D C E F I H DA an G none 0 0 none 0 0 none 0 0 false 0 0):=(((K5.set_ 12 (.slice D C E)).set_ 13 (.slice F I H)).set_ 14 (.slice DA an G)).drew;go_wp2
     go_roundw
     case rel=>exact⟨1,by omega,by go_num,⟨x,l,⟨D,C,E⟩,⟨F,I,H⟩,⟨DA,an,G⟩,am,N6,(((T5.cell Aa _).cell Aa _).cell Aa _).drew⟩,(((b5.setCell Aw _).setCell Aw _).setCell Aw _).drew⟩
     case measure=>simp[intOf]
  ·obtain⟨x,l,⟨D,C,E⟩,⟨F,I,H⟩,⟨DA,an,G⟩,am,K',T⟩:=HI;have K:Blk wr j 311 (Au t A v u B z r.src r.c r.s r.h t A v u B z r.src q.c q.s q.h D C E F I H DA an G none 0 0 none 0 0 none 0 0 false 0 0):=K';clear K';have aS:=K.lt;have ab:=b.size
   go_upto_region 5 with fail
   generalize hG:wr.alloc _=w2;obtain⟨KR,al⟩:=EX hG;clear hG;have b1:=b.trans (al.mono ab);have K1:=K.below al aS;have T1:=T.below al;generalize wr.heap.size=q2 at KR⊢;clear K T b al ab aS;have eR:=KR.cell;have X2:=HX.out.below b1
   go_wp2_with fail
   refine(ay _ X2).mono ?_;clear eR;rintro e w3 (⟨bi,rfl,b3⟩|⟨y,m,⟨R,M,S⟩,⟨V,Z,Y⟩,⟨GA,gn,f⟩,au,rfl,U,b3⟩)
   ·have b4:=An b1 b3;have aT:=b4.size;have b5:Below w w (w3.alloc (.cells DU 223)):=Ax;clear K1 KR X2 b3 HX aK ay b1;go_wp2;exact HZ.out _ (Or.inr bi) b5
   ·simp only;have bh:=K1.lt;have b4:=An b1 b3;have K4:=K1.below b3 K1.lt;have T3:=T1.below b3;have U4:=U.low (show j+1<=w2.heap.size by have:=K1.lt;omega)
    have aT:=b4.size;have ah:Below w3 w3 (w3.alloc (.cells (Dj R M S V Z Y GA gn f) 223)):=BU;have KT:=Br w3 223 (Dj R M S V Z Y GA gn f);have b5:=b4.trans (ah.mono aT);have K5:=K4.below ah K4.lt;have T5:=T3.below ah;have U5:=U4.below ah;clear b3 b4 K4 T1 T3 U4 ah b1 K1 X2 KR bh
    go_upto_region 6 with fail
    generalize w3.alloc _=w4 at KT b5 K5 T5 U5⊢;generalize w3.heap.size=q4 at KT⊢;have e5:=K5.cell;have f5:=K5.frozen;have eT:=KT.cell
    go_upto_region 8 with fail
    go_region
    all_goals
     have N6:Blk _ j 311 (Au t A v u B z r.src r.c r.s r.h t A v u B z r.src q.c q.s q.h D C E F I H DA an G R M S V Z Y GA gn f false 0 0):=(((K5.set_ 15 (.slice R M S)).set_ 16 (.slice V Z Y)).set_ 17 (.slice GA gn f)).drew;go_wp2
     go_roundw
     case rel=>exact⟨2,by omega,by go_num,⟨x,y,l,m,⟨D,C,E⟩,⟨F,I,H⟩,⟨DA,an,G⟩,⟨R,M,S⟩,⟨V,Z,Y⟩,⟨GA,gn,f⟩,am,au,N6,(((T5.cell Aa _).cell Aa _).cell Aa _).drew,(((U5.cell Aa _).cell Aa _).cell Aa _).drew⟩,(((b5.setCell Aw _).setCell Aw _).setCell Aw _).drew⟩
     case measure=>simp[intOf]
  ·obtain⟨x,y,l,m,⟨D,C,E⟩,⟨F,I,H⟩,⟨DA,an,G⟩,⟨R,M,S⟩,⟨V,Z,Y⟩,⟨GA,gn,f⟩,am,au,K',T,U⟩:=HI;have K:Blk wr j 311 (Au t A v u B z r.src r.c r.s r.h t A v u B z r.src q.c q.s q.h D C E F I H DA an G R M S V Z Y GA gn f false 0 0):=K';clear K';have a7:=K.lt;have ab:=b.size;obtain rfl:n=an:=by have h:=T.an;simp only at h;rw[h];exact(HN.out.fr.ok.tr_ok n x l am).2.1.symm
   obtain rfl:n=gn:=by have h:=U.an;simp only at h;rw[h];exact(HN.out.fq.ok.tr_ok n y m au).2.1.symm
   clear HX aK ay HZ hk;have eK:=K.cell
   go_upto_region 10 with fail
   go_cut [17,18] (λcD cE wx=> ∃aP aQ:Nat,cD=.pointer (some ⟨aP,0,none⟩)∧cE=.pointer (some ⟨aQ,0,none⟩)∧Blk wx aP 223 (Dj D C E F I H DA n G)∧Blk wx aQ 223 (Dj R M S V Z Y GA n f)∧j<aP∧j<aQ∧Below wr wr wx)
   case first=>
    have KA:=Br wr 223 (Dj D C E F I H DA n G);have KB:=Br wr 223 (Dj R M S V Z Y GA n f);have cd:=KA.alloc (.cells (Dj R M S V Z Y GA n f) 223);have cf:=KB.alloc (.cells (Dj D C E F I H DA n G) 223);have ce:=Blk.newN (g:=wr+1) (wr.alloc (.cells (Dj R M S V Z Y GA n f) 223)) 223 (Dj D C E F I H DA n G) Cr;have cg:=Blk.newN (g:=wr+1) (wr.alloc (.cells (Dj D C E F I H DA n G) 223)) 223 (Dj R M S V Z Y GA n f) Cr
    go_region
    all_goals
     go_wp2_with fail
     go_meet
     first
      |exact⟨_,_,rfl,rfl,cd.drew,cg.drew,a7,by omega,Ax⟩
      |exact⟨_,_,rfl,rfl,ce.drew,cf.drew,by omega,a7,Ax⟩
      |trace_state
   case rest=>
    obtain⟨aP,aQ,rfl,rfl,KA,KB,hA,hB,bw⟩:=hcut;obtain⟨w5,rfl⟩: ∃x:World,x=wc:=⟨_,rfl⟩;clear eK;replace b:=b.trans (bw.mono ab);replace K:=K.below bw a7;replace T:=T.below bw;replace U:=U.below bw;clear bw a7 ab;have eA:=KA.cell;have eB:=KB.cell;have df:l.length=n:=(HN.out.fr.ok.tr_ok n x l am).2.1;have dg:m.length=n:=(HN.out.fq.ok.tr_ok n y m au).2.1;have bK:C<=9223372036854775807:=by have:=T.en;simp only at this;omega
    have bL:M<=9223372036854775807:=by have:=U.en;simp only at this;omega
    have bl:=Vg D C E (C2 l) R M S (C2 m) w5 bK bL T.re U.re
    go_wp2_with fail
    refine bl.mono ?_;clear bl eA eB bK bL
    by_cases hs:C2 l=C2 m
    ·rw[BC hs];rintro e w6 ⟨rfl,b6⟩;replace b:=An b b6;replace K:=K.below b6 K.lt;replace T:=T.below b6;replace U:=U.below b6;replace KA:=KA.below b6 KA.lt;replace KB:=KB.below b6 KB.lt;have eK:=K.cell;have fK:=K.frozen;have N6:Blk (w6.setCell ⟨j,18,none⟩ (.bool true)) j 311 (Au t A v u B z r.src r.c r.s r.h t A v u B z r.src q.c q.s q.h D C E F I H DA n G R M S V Z Y GA n f true 0 0):=K.set_ 18 (.bool true);have T6:=T.cell (b:=j) (i:=18) Aa (.bool true);have U6:=U.cell (b:=j) (i:=18) Aa (.bool true);have a1:=KA.far (p:=⟨j,18,none⟩) Aw (.bool true);have be:=KB.far (p:=⟨j,18,none⟩) Aw (.bool true);have b7:=b.setCell (p:=⟨j,18,none⟩) Aw (.bool true);clear KA KB b6 T U b
     go_upto_region 12 with fail
     clear eK fK K;generalize w6.setCell ⟨j,18,none⟩ (.bool true)=w7 at N6 T6 U6 a1 be b7⊢;have eN:=N6.cell;have eA:=a1.cell
     go_upto_region 15 with fail
     clear eN eA
     go_loopw [86] (λi wr=> ∃k:Nat,k<=n∧i=.int .i64 k∧Blk wr j 311 (Au t A v u B z r.src r.c r.s r.h t A v u B z r.src q.c q.s q.h D C E F I H DA n G R M S V Z Y GA n f true (Ej (BF l) (BF m) k) (Ei (BF l) (BF m) k))∧Blk wr aP 223 (Dj D C E F I H DA n G)∧Blk wr aQ 223 (Dj R M S V Z Y GA n f)∧DI wr (j+1) ⟨D,C,E⟩ ⟨F,I,H⟩ ⟨DA,n,G⟩ l∧DI wr (j+1) ⟨R,M,S⟩ ⟨V,Z,Y⟩ ⟨GA,n,f⟩ m∧Below w w wr) (λi _=>n-(intOf i).toNat)
     case atStart=>exact⟨0,AZ _,rfl,N6,a1,be,T6,U6,b7⟩
     case round=>
      clear N6 a1 be T6 U6 b7;obtain⟨k,hk,rfl,K,KA,KB,T,U,b⟩:=hrel
      by_cases bM:k<n
      ·have bN:(k:Int)<(n:Int):=Aa;obtain⟨ad,bF,ck,cl⟩:=T.ra.two bM;obtain⟨ae,bG,bC,bD⟩:=U.ra.two bM;simp only at bF bG;subst bF bG;have bR:=HN.out.limk hn am au (k+1) Aa;have bb:Hid (Ej (BF l) (BF m) (k+1)=Ej (BF l) (BF m) k+min ((BF l).getD (k*2) 0) ((BF m).getD (k*2) 0)):=rfl;have bc:Hid (Ei (BF l) (BF m) (k+1)=Ei (BF l) (BF m) k+max ((BF l).getD (k*2+1) 0) ((BF m).getD (k*2+1) 0)):=rfl;rw[bb.out,bc.out] at bR;generalize(BF l).getD (k*2) 0=x0 at*;generalize(BF l).getD (k*2+1) 0=x1 at*;generalize(BF m).getD (k*2) 0=y0 at*;generalize(BF m).getD (k*2+1) 0=y1 at*;generalize cy:Ej (BF l) (BF m) k=lo at*;generalize cx:Ei (BF l) (BF m) k=hi at*;clear cy cx;have ab:=b.size;have al:Below wr wr ((wr.alloc (.cells (Zii x0 x1) 136)).alloc (.cells (Zii y0 y1) 136)):=Ax;have J:=(Br wr 136 (Zii x0 x1)).alloc (.cells (Zii y0 y1) 136);have L:=Blk.newN (g:=wr+1) (wr.alloc (.cells (Zii x0 x1) 136)) 136 (Zii y0 y1) Cr;have b7:=b.trans (al.mono ab);have K7:=K.below al K.lt;have aB:=KA.below al KA.lt;have aC:=KB.below al KB.lt;have T7:=T.below al;have U7:=U.below al;have cm:=KB.cell;have bE:=KB.lt;have aR:=U.ra.lt rfl Aw;have bI:=(JX ((AP wr.heap.size wr).alloc Bk (.cells (Zii x0 x1) 136)) (p:=ae.add (k*2)) (by rw[Aq];exact aR)).trans bC
       have bJ:=(JX ((AP wr.heap.size wr).alloc Bk (.cells (Zii x0 x1) 136)) (p:=⟨(ae.add (k*2)).block,(ae.add (k*2)).off+1,none⟩) (by show(ae.add (k*2)).block<_;rw[Aq];exact aR)).trans bD
       go_upto_region 18 with fail
       generalize(wr.alloc _).alloc _=w7 at J L b7 K7 aB aC T7 U7⊢;generalize wr.heap.size+1=aE at L⊢;generalize wr.heap.size=aD at J⊢;clear al K KA KB T U b ab ck cl bC bD bI bJ cm bE aR;have eC: ∀o,w7.cell? ⟨j,o,none⟩=((Au t A v u B z r.src r.c r.s r.h t A v u B z r.src q.c q.s q.h D C E F I H (some ad) n G R M S V Z Y (some ae) n f true lo hi):Array Value)[o]? :=K7.cell;have gC:=K7.lt;have e20: ∀o,w7.cell? ⟨aD,o,none⟩=((Zii x0 x1):Array Value)[o]? :=J.cell;have cr:=J.lt;have e21: ∀o,w7.cell? ⟨aE,o,none⟩=((Zii y0 y1):Array Value)[o]? :=L.cell;have cu:=L.lt;have aL:=Br w7 136 Cq;have cb:Hid (Ej (BF l) (BF m) (k+1)=lo+min x0 y0):=bb.out;have cc:Hid (Ei (BF l) (BF m) (k+1)=hi+max x1 y1):=bc.out;have bo:=λW=>Kz lo hi (min x0 y0) (max x1 y1) W Aa Aa Aa Aa;have bH:ckB (lo+min x0 y0) (hi+max x1 y1)=true:=by unfold ckB;rw[IQ.2 Aa,IQ.2 Aa];rfl
       have bk: ∀W:World,Calls prog 319 (BN (lo+min x0 y0) (hi+max x1 y1) 3) W λe w'=>e=.returned (.tuple (BN (lo+min x0 y0) (hi+max x1 y1) 0))∧Below W W w':=λW=>by
        have h:=Ge (lo+min x0 y0) (hi+max x1 y1) 3 W;simp only[bH,if_true] at h;exact h
       clear bb bc bH bR
       go_cut [22,23] (λcF cG wx=> ∃gs:Nat,cF=.pointer (some ⟨gs,0,none⟩)∧cG=.int .i64 0∧Blk wx gs 136 (Zii (lo+min x0 y0) (hi+max x1 y1))∧j<gs∧Below w7 w7 wx)
       case first=>
        go_region_held3 (λw'=>(∀o,w'.cell? ⟨j,o,none⟩=((Au t A v u B z r.src r.c r.s r.h t A v u B z r.src q.c q.s q.h D C E F I H (some ad) n G R M S V Z Y (some ae) n f true lo hi):Array Value)[o]?)∧(∀o,w'.cell? ⟨aD,o,none⟩=((Zii x0 x1):Array Value)[o]?)∧(∀o,w'.cell? ⟨aE,o,none⟩=((Zii y0 y1):Array Value)[o]?))
         (exact aZ)
         (first|((fail_if_success (clear O));go_at_call 240;(with_reducible refine(bo _).mono ?_);rintro e u0 ⟨rfl,a6⟩;have O:Below w7 w7 u0:=(show Below w7 w7 _ from Ax).trans (a6.mono C9);have cU:=O.size;have bP:=a6.size;(try simp at bP);(first|(have KZ:=(Blk.drew aL).below a6 aL.lt)|(have KZ:=aL.below a6 aL.lt)|skip);have eCu0: ∀o,u0.cell? ⟨j,o,none⟩=((Au t A v u B z r.src r.c r.s r.h t A v u B z r.src q.c q.s q.h D C E F I H (some ad) n G R M S V Z Y (some ae) n f true lo hi):Array Value)[o]? :=λo=>(K7.below O K7.lt).cell o;have cR:j<u0:=(K7.below O K7.lt).lt;have e20u0: ∀o,u0.cell? ⟨aD,o,none⟩=((Zii x0 x1):Array Value)[o]? :=λo=>(J.below O J.lt).cell o;have cs:aD<u0.heap.size:=(J.below O J.lt).lt;have e21u0: ∀o,u0.cell? ⟨aE,o,none⟩=((Zii y0 y1):Array Value)[o]? :=λo=>(L.below O L.lt).cell o;have cv:aE<u0.heap.size:=(L.below O L.lt).lt)|((fail_if_success (clear Q));go_at_call 319;(with_reducible refine(bk _).mono ?_);rintro e u1 ⟨rfl,aG⟩;have Q:Below w7 w7 u1:=(show Below w7 w7 _ from Ax).trans (aG.mono C9);have cV:=Q.size;have bQ:=aG.size;(try simp at bQ);(first|(have KY:=(Blk.drew KZ).below aG KZ.lt;have cY:=KY.cell;have fY:=KY.frozen;have lY:=KY.lt)|(have KY:=KZ.below aG KZ.lt;have cY:=KY.cell;have fY:=KY.frozen;have lY:=KY.lt)|(have KY:=(Blk.drew (Br u0 136 Cq)).below aG (Br u0 136 Cq).lt;have cY:=KY.cell;have fY:=KY.frozen;have lY:=KY.lt)|(have KY:=(Br u0 136 Cq).below aG (Br u0 136 Cq).lt;have cY:=KY.cell;have fY:=KY.frozen;have lY:=KY.lt)|skip);have eCu1: ∀o,u1.cell? ⟨j,o,none⟩=((Au t A v u B z r.src r.c r.s r.h t A v u B z r.src q.c q.s q.h D C E F I H (some ad) n G R M S V Z Y (some ae) n f true lo hi):Array Value)[o]? :=λo=>(K7.below Q K7.lt).cell o;have cS:j<u1:=(K7.below Q K7.lt).lt;have e20u1: ∀o,u1.cell? ⟨aD,o,none⟩=((Zii x0 x1):Array Value)[o]? :=λo=>(J.below Q J.lt).cell o;have ct:aD<u1.heap.size:=(J.below Q J.lt).lt;have e21u1: ∀o,u1.cell? ⟨aE,o,none⟩=((Zii y0 y1):Array Value)[o]? :=λo=>(L.below Q L.lt).cell o;have cw:aE<u1.heap.size:=(L.below Q L.lt).lt))
        all_goals
         go_wp2_with fail
         go_meet
         first
          |exact⟨u1.heap.size,rfl,rfl,Br u1 _ _,by omega,Ax⟩
          |exact⟨_,rfl,rfl,(KY.set_ 0 _).set_ 1 _,by omega,Ax⟩
          |trace_state
       case rest=>
        obtain⟨gs,rfl,rfl,KS,de,bw⟩:=hcut;obtain⟨w9,rfl⟩: ∃x:World,x=wc:=⟨_,rfl⟩;replace b7:=An b7 bw;replace K7:=K7.below bw K7.lt;replace aB:=aB.below bw aB.lt;replace aC:=aC.below bw aC.lt;replace T7:=T7.below bw;replace U7:=U7.below bw;clear bw eC gC e20 cr e21 cu aL J L bo bk;have eS:=KS.cell;have eC:=K7.cell;have fC:=K7.frozen;have NK:Blk _ j 311 (Au t A v u B z r.src r.c r.s r.h t A v u B z r.src q.c q.s q.h D C E F I H (some ad) n G R M S V Z Y (some ae) n f true (lo+min x0 y0) (hi+max x1 y1)):=(K7.set_ 19 (ZI (lo+min x0 y0))).set_ 20 (ZI (hi+max x1 y1));have NA:=(aB.far (p:=⟨j,19,none⟩) Aw (ZI (lo+min x0 y0))).far (p:=⟨j,20,none⟩) Aw (ZI (hi+max x1 y1));have NB:=(aC.far (p:=⟨j,19,none⟩) Aw (ZI (lo+min x0 y0))).far (p:=⟨j,20,none⟩) Aw (ZI (hi+max x1 y1));have NT:=(T7.cell (b:=j) (i:=19) Aa (ZI (lo+min x0 y0))).cell (b:=j) (i:=20) Aa (ZI (hi+max x1 y1));have NU:=(U7.cell (b:=j) (i:=19) Aa (ZI (lo+min x0 y0))).cell (b:=j) (i:=20) Aa (ZI (hi+max x1 y1));have nb:=(b7.setCell (p:=⟨j,19,none⟩) Aw (ZI (lo+min x0 y0))).setCell (p:=⟨j,20,none⟩) Aw (ZI (hi+max x1 y1));clear K7 aB aC T7 U7 b7 KS;go_wp2
        go_roundw
        case rel=>exact⟨k+1,by omega,by go_num,by rw[cb.out,cc.out];exact NK,NA,NB,NT,NU,nb⟩
        case measure=>simp[intOf];omega
      ·obtain rfl:n=k:=Aa;have bN: ¬(n:Int)<(n:Int):=Aa;go_wp2;exact HR.out j x y l m ⟨D,C,E⟩ ⟨F,I,H⟩ ⟨DA,n,G⟩ ⟨R,M,S⟩ ⟨V,Z,Y⟩ ⟨GA,n,f⟩ true _ _ _ am au (BC hs).symm (AA hs).symm (AA hs).symm K (T.low Aa) (U.low Aa) b
    ·rw[BR hs];rintro e w6 ⟨rfl,b6⟩;replace b:=An b b6;replace K:=K.below b6 K.lt;replace T:=T.below b6;replace U:=U.below b6;have eK:=K.cell;have fK:=K.frozen;have N6:Blk (w6.setCell ⟨j,18,none⟩ (.bool false)) j 311 (Au t A v u B z r.src r.c r.s r.h t A v u B z r.src q.c q.s q.h D C E F I H DA n G R M S V Z Y GA n f false 0 0):=K.set_ 18 (.bool false);have e6:=N6.cell;clear KA KB b6;go_wp2;exact HR.out j x y l m ⟨D,C,E⟩ ⟨F,I,H⟩ ⟨DA,n,G⟩ ⟨R,M,S⟩ ⟨V,Z,Y⟩ ⟨GA,n,f⟩ false 0 0 _ am au (BR hs).symm (Ak hs).symm (Ak hs).symm N6 ((T.cell Aa _).low Aa) ((U.cell Aa _).low Aa) (b.setCell Aw _)
theorem Rf (lo hi d:Int) (w:World):
  (BT 321 (BN lo hi d) w (.bool (inR d lo hi)):Prop):=by
 have a:Below w w (w.alloc (.cells (Zii lo hi) 136)):=BU;have K:=Br w 136 (Zii lo hi)
 go_enter func321,ntmps321
 go_upto_region 1 with fail
 generalize w.alloc _=f at*;have c:=K.cell
 go_wp2_with (go_at_call 73;refine(As _ _ _ _).mono ?_;rintro e b ⟨rfl,rfl⟩)
 go_ret;exact⟨rfl,a⟩
def lastS (r:Al) (l:List AU):En:=(l.getLast?.map AU.st).getD r.first
theorem Pz (h:Ev) (r q:Al) (he hs ha t ks p:Hd) (d:Bool) (lo hi:Int) (l:List AU) (m B:Nat) (w:World)
  (K:Blk w m 311 (MC h r q he hs ha t ks p d lo hi)) (T:DI w B he hs ha l) (Q:l.length<=100):
  (BT 320 #[.pointer (some ⟨m,0,none⟩),ZI 0] w (Hy (lastS r l)):Prop):=by
 have i:=λ(W:World) (b:Below w w W)=>Hj h r he hs ha l W B (T.below b) Q;rw[show(l.getLast?.map AU.st).getD r.first=lastS r l from rfl] at i;clear T;generalize lastS r l=x at*;unfold MC at K;unfold GH Hy at*;obtain⟨⟨D,M,F⟩,⟨E,N,G⟩⟩:=h;simp only at*;have f:=K.alloc (.cells DJ 138);have X:=K.lt
 go_enter func320,ntmps320
 go_upto_region 1 with fail
 generalize J:w.alloc _=u at f⊢;obtain⟨g,O⟩:=EX J;clear J;have R:m≠w.heap.size:=Aa;have S:=f.cell
 go_region_held3 (λw'=> ∀o,w'.cell? ⟨m,o,none⟩=((Au D M F E N G r.src r.c r.s r.h D M F E N G r.src q.c q.s q.h he.A he.n he.c hs.A hs.n hs.c ha.A ha.n ha.c t.A t.n t.c ks.A ks.n ks.c p.A p.n p.c d lo hi):Array Value)[o]?)
  (first|(with_reducible assumption)|((with_reducible refine AC ?_);(with_reducible assumption))|((repeat(first|(with_reducible refine AC ?_)|(with_reducible refine Bl ?_ (by omega))));(with_reducible assumption)))
  (first
   |((fail_if_success (clear a));go_at_call 227;(with_reducible refine(i _ Ax).mono ?_);rintro e U ⟨rfl,y⟩;have a:Below u u U:=(show Below u u _ from Ax).trans (y.mono C9);have L:=a.size;have z:=λo=>(f.below a f.lt).cell o;have C:=(f.below a f.lt).lt;have j:=λo=>(g.below a g.lt).cell o;have H:=λo=>(g.below a g.lt).frozen o;have I:=(g.below a g.lt).lt))
 all_goals
  have V:=An O a;go_wp2;refine AS (v:=.agg (A7 x.k x.dn x.lo x.hi)) (by simp[results,results320,go_sem,j]) rfl ⟨rfl,Ax⟩
theorem PC (h:Ev) (r q:Al) (he hs ha p ks m:Hd) (f:Bool) (lo hi:Int) (l:List AU) (u B:Nat) (w:World)
  (K:Blk w u 311 (MC h r q he hs ha p ks m f lo hi)) (T:DI w B p ks m l) (R:l.length<=100) (d:q.src=r.src):
  (BT 320 #[.pointer (some ⟨u,0,none⟩),ZI 1] w (Hy (lastS q l)):Prop):=by
 have g:=λ(W:World) (b:Below w w W)=>Hj h q p ks m l W B (T.below b) R;rw[show(l.getLast?.map AU.st).getD q.first=lastS q l from rfl] at g;clear T;generalize lastS q l=x at*;unfold MC at K;unfold GH Hy at*;rw[d] at g;clear d;obtain⟨⟨E,N,G⟩,⟨F,O,H⟩⟩:=h;simp only at*;have i:=K.alloc (.cells DJ 138);have Y:=K.lt
 go_enter func320,ntmps320
 go_upto_region 1 with fail
 generalize L:w.alloc _=y at i⊢;obtain⟨j,Q⟩:=EX L;clear L;have S:u≠w.heap.size:=Aa;have U:=i.cell
 go_region_held3 (λw'=> ∀o,w'.cell? ⟨u,o,none⟩=((Au E N G F O H r.src r.c r.s r.h E N G F O H r.src q.c q.s q.h he.A he.n he.c hs.A hs.n hs.c ha.A ha.n ha.c p.A p.n p.c ks.A ks.n ks.c m.A m.n m.c f lo hi):Array Value)[o]?)
  (first|(with_reducible assumption)|((with_reducible refine AC ?_);(with_reducible assumption))|((repeat(first|(with_reducible refine AC ?_)|(with_reducible refine Bl ?_ (by omega))));(with_reducible assumption)))
  (first
   |((fail_if_success (clear a));go_at_call 227;(with_reducible refine(g _ Ax).mono ?_);rintro e V ⟨rfl,z⟩;have a:Below y y V:=(show Below y y _ from Ax).trans (z.mono C9);have M:=a.size;have C:=λo=>(i.below a i.lt).cell o;have D:=(i.below a i.lt).lt;have t:=λo=>(j.below a j.lt).cell o;have I:=λo=>(j.below a j.lt).frozen o;have J:=(j.below a j.lt).lt))
 all_goals
  have X:=An Q a;go_wp2;refine AS (v:=.agg (A7 x.k x.dn x.lo x.hi)) (by simp[results,results320,go_sem,t]) rfl ⟨rfl,Ax⟩
theorem PE (h:Ev) (r q:Al) (he hs ha u ks t:Hd) (f:Bool) (lo hi:Int) (l m:List AU) (E B:Nat) (d a:Int) (w:World)
  (K:Blk w E 311 (MC h r q he hs ha u ks t f lo hi)) (T:DI w B he hs ha l) (U:DI w B u ks t m) (hl:l.length<=100) (hm:m.length<=100) (F:q.src=r.src):
  (BT 284 #[.pointer (some ⟨E,0,none⟩),ZI d,ZI a] w (ZI (vdV (lastS r l) (lastS q m) f lo hi d a)):Prop):=by
 have J:=λ(W:World) (b:Below w w W)=>Pz h r q he hs ha u ks t f lo hi l E B W (K.below b K.lt) (T.below b) hl;have L:=λ(W:World) (b:Below w w W)=>PC h r q he hs ha u ks t f lo hi m E B W (K.below b K.lt) (U.below b) hm F;have G:=λW=>Rf lo hi a W;clear T U;generalize lastS r l=x at*;generalize lastS q m=y at*;unfold Hy at*;have H:Blk w E 311 (Au h.D.A h.D.n h.D.c h.S.A h.S.n h.S.c r.src r.c r.s r.h h.D.A h.D.n h.D.c h.S.A h.S.n h.S.c r.src q.c q.s q.h he.A he.n he.c hs.A hs.n hs.c ha.A ha.n ha.c u.A u.n u.c ks.A ks.n ks.c t.A t.n t.c f lo hi):=K;clear K;have Y:=H.cell
 cases f with
 |false=>
  have HV:Hid (vdV x y false lo hi d a=1):=AA rfl;clear J L G
  go_enter func284,ntmps284
  go_wp2;go_ret;exact⟨by rw[HV.out];rfl,AP _ _⟩
 |true=>
  have HV:Hid (vdV x y true lo hi d a=if¬(x.k:Int)=d∨inR a lo hi=false then 0 else if(x.hi<a∧a<y.lo)∨(y.hi<a∧a<x.lo) then 2 else 1):=Ak Ah
  go_enter func284,ntmps284
  go_wp2_with fail
  refine(J _ G6).mono ?_;rintro e w1 ⟨rfl,I⟩;clear Y;have M:=H.below I H.lt
  go_wp2_with fail
  refine(L _ I).mono ?_;rintro e j ⟨rfl,V⟩;clear J L;have N:=M.below V M.lt;have b3:=An I V;clear M H I V;have al:Below j j ((j.alloc (.cells (A7 x.k x.dn x.lo x.hi) 138)).alloc (.cells (A7 y.k y.dn y.lo y.hi) 138)):=Ax;have v:=(Br j 138 (A7 x.k x.dn x.lo x.hi)).alloc (.cells (A7 y.k y.dn y.lo y.hi) 138);have C:=Blk.newN (g:=j+1) (j.alloc (.cells (A7 x.k x.dn x.lo x.hi) 138)) 138 (A7 y.k y.dn y.lo y.hi) Cr;have O:=N.below al N.lt;have z:=An b3 al
  go_upto_region 4 with fail
  generalize(j.alloc _).alloc _=w3 at v C O z⊢;generalize j.heap.size+1=QY at C⊢;generalize j.heap.size=QX at v⊢;clear N b3 al;have Y:=O.cell;have eX:=v.cell
  by_cases Z:(x.k:Int)=d
  ·go_wp2_with fail
   refine(G _).mono ?_;clear eX Y G;rcases jt (inR a lo hi) with hi1|hi1
   ·rw[hi1];rintro e w4 ⟨rfl,p⟩;have i:Hid (vdV x y true lo hi d a=if(x.hi<a∧a<y.lo)∨(y.hi<a∧a<x.lo) then 2 else 1):=by unfold Hid;rw[HV.out,Ak (by rw[hi1];simp[Z])]
    have X:=An z p;have Q:=v.below p v.lt;have R:=C.below p C.lt;have eX:=Q.cell;have eY:=R.cell;clear HV v C p hi1 O z
    by_cases p1:x.hi<a<;>by_cases p2:a<y.lo<;>by_cases p3:y.hi<a<;>by_cases p4:a<x.lo
    all_goals
     go_wp2;go_ret;exact⟨by rw[i.out];simp[p1,p2,p3,p4],X⟩
   ·rw[hi1];rintro e w4 ⟨rfl,p⟩;have i:Hid (vdV x y true lo hi d a=0):=by unfold Hid;rw[HV.out,AA (Or.inr hi1)]
    have X:=An z p;clear HV p hi1 z;go_wp2;go_ret;exact⟨by rw[i.out];rfl,X⟩
  ·have ac:((x.k:Int) !=d)=true:=by rw[bne_iff_ne];exact Z
   have i:Hid (vdV x y true lo hi d a=0):=by unfold Hid;rw[HV.out,AA (Or.inl Z)]
   clear HV G;go_wp2;go_ret;exact⟨by rw[i.out];rfl,z⟩
