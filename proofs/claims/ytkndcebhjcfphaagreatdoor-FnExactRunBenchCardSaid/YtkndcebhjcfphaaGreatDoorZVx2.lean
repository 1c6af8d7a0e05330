import Derived.Test.YtkndcebhjcfphaaGreatDoorZB
import Derived.Test.YtkndcebhjcfphaaGreatDoorZS
import Derived.Test.YtkndcebhjcfphaaGreatDoorZV
namespace Go.Proofs.YtkndcebhjcfphaaGreatDoor
open Go.RowKit Go.Proofs.Tryz
set_option maxRecDepth 100000
set_option maxHeartbeats 4000000
set_option linter.all false
def MC (h:Ev) (r q:Al) (he hs ha ke ks ka:Hd) (same:Bool) (lo hi:Int):Array Value:=
 (Au h.D.A h.D.n h.D.c h.S.A h.S.n h.S.c r.src r.c r.s r.h h.D.A h.D.n h.D.c h.S.A h.S.n h.S.c r.src q.c q.s q.h he.A he.n he.c hs.A hs.n hs.c ha.A ha.n ha.c ke.A ke.n ke.c ks.A ks.n ks.c ka.A ka.n ka.c same lo hi)
def RetNc (h:Ev) (r q:Al) (n:Nat) (w:World) (e:Ending) (w':World):Prop:=
 ((r.tr n=none∨q.tr n=none)∧e=.returned (.tuple #[.pointer none,ZI 3])∧Below w w w')∨
 ∃(g:Nat) (x y:En) (l m:List AU) (he hs ha ke ks ka:Hd),r.tr n=some (x,l)∧q.tr n=some (y,m)∧e=.returned (.tuple #[.pointer (some ⟨g,0,none⟩),ZI 0])∧
  Blk w' g 311 (MC h r q he hs ha ke ks ka (decide (C2 l=C2 m)) (if C2 l=C2 m then Ej (BF l) (BF m) n else 0) (if C2 l=C2 m then Ei (BF l) (BF m) n else 0))∧
  DI w' w.heap.size he hs ha l∧DI w' w.heap.size ke ks ka m∧Below w w w'
theorem VZ {h:Ev} {r q:Al} {n:Nat} {w w':World} (hn:r.tr n=none∨q.tr n=none) (b:Below w w w'):RetNc h r q n w (.returned (.tuple #[.pointer none,ZI 3])) w':=Or.inl ⟨hn,rfl,b⟩
def gz (r q:Al) (h:Ev) (n gc:Nat) (wr:World):Nat→Prop
 |0=>Blk wr gc 311 (MC h r q ⟨none,0,0⟩ ⟨none,0,0⟩ ⟨none,0,0⟩ ⟨none,0,0⟩ ⟨none,0,0⟩ ⟨none,0,0⟩ false 0 0)
 |1=> ∃(x:En) (l:List AU) (he hs ha:Hd),r.tr n=some (x,l)∧Blk wr gc 311 (MC h r q he hs ha ⟨none,0,0⟩ ⟨none,0,0⟩ ⟨none,0,0⟩ false 0 0)∧DI wr (gc+1) he hs ha l
 |_=> ∃(x y:En) (l m:List AU) (he hs ha ke ks ka:Hd),r.tr n=some (x,l)∧q.tr n=some (y,m)∧Blk wr gc 311 (MC h r q he hs ha ke ks ka false 0 0)∧DI wr (gc+1) he hs ha l∧DI wr (gc+1) ke ks ka m
theorem Uh (h:Ev) (r q:Al) (n:Nat) (w:World) (X:DR w h r) (hn:n≤100) (N:YJ r q) (hss:q.ss=r.ss) (hsrc:q.src=r.src):
  Calls prog 283 #[EV h,ZI r.src,GU r,GU q,ZI n] w (RetNc h r q n w):=by
 have HT1:=fun(W:World) (X:DR W h r)=>Md h r n W X N.fr.ok hn;have HT2:=fun(W:World) (X:DR W h r)=>Md h q n W ⟨by rw[N.ds];exact X.d,by rw[hss];exact X.s⟩ N.fq.ok hn
 have HN:=Ai N;have HX:=Ai X
 have HR:Hid (∀(g:Nat) (x y:En) (l m:List AU) (he hs ha ke ks ka:Hd) (same:Bool) (lo hi:Int) (w':World),r.tr n=some (x,l)→q.tr n=some (y,m)→same=decide (C2 l=C2 m)→lo=(if C2 l=C2 m then Ej (BF l) (BF m) n else 0)→hi=(if C2 l=C2 m then Ei (BF l) (BF m) n else 0)→
   Blk w' g 311 (MC h r q he hs ha ke ks ka same lo hi)→DI w' w.heap.size he hs ha l→DI w' w.heap.size ke ks ka m→Below w w w'→RetNc h r q n w (.returned (.tuple #[.pointer (some ⟨g,0,none⟩),ZI 0])) w'):=fun g x y l m he hs ha ke ks ka same lo hi w' h1 h2 e1 e2 e3 K T1 T2 b=>by subst e1 e2 e3;exact Or.inr ⟨g,x,y,l,m,he,hs,ha,ke,ks,ka,h1,h2,rfl,K,T1,T2,b⟩
 have HZ:Hid (∀w':World,(r.tr n=none∨q.tr n=none)→Below w w w'→RetNc h r q n w (.returned (.tuple #[.pointer none,ZI 3])) w'):=fun w' a b=>VZ a b;clear X N;unfold MC at HR;generalize RetNc h r q n w=RET at HR HZ⊢;obtain⟨⟨A0,n0,c0⟩,⟨A1,n1,c1⟩⟩:=h;unfold EV GU GH Wx at*;simp only at HT1 HT2 HR⊢;rw[hsrc] at HT2;have HIX0: ∀W:World,(Instr.index 308 (.agg #[.slice A0 n0 c0,.slice A1 n1 c1,ZI r.src,ZI r.c,ZI r.s,ZI r.h,.slice A0 n0 c0,.slice A1 n1 c1,ZI r.src,ZI q.c,ZI q.s,ZI q.h]) (ZI 0)).run prog W=.ok (AV A0 n0 c0 A1 n1 c1 r.src r.c r.s r.h) W:=fun _=>rfl;have HIX1: ∀W:World,(Instr.index 308 (.agg #[.slice A0 n0 c0,.slice A1 n1 c1,ZI r.src,ZI r.c,ZI r.s,ZI r.h,.slice A0 n0 c0,.slice A1 n1 c1,ZI r.src,ZI q.c,ZI q.s,ZI q.h]) (ZI 1)).run prog W=.ok (AV A0 n0 c0 A1 n1 c1 r.src q.c q.s q.h) W:=fun _=>rfl
 go_enter func283,ntmps283
 go_upto_region 2 with fail
 generalize hG:(((w.alloc _).alloc _).alloc _).alloc _=w1;obtain⟨_,_,_,K3,b0⟩:=Y3 hG;clear hG;have hgw:w≤w.heap.size+1+1+1:=Aa;generalize w.heap.size+1+1+1=gc at K3 hgw⊢;have e3:=K3.cell
 go_upto_region 3 with fail
 clear e3
 go_loopw [39] (fun i wr=> ∃k:Nat,k≤2∧i=.int .i64 k∧gz r q ⟨⟨A0,n0,c0⟩,⟨A1,n1,c1⟩⟩ n gc wr k∧Below w w wr) (fun i _=>2-(intOf i).toNat)
 case atStart=>exact⟨0,by omega,rfl,K3,b0⟩
 case round=>
  clear K3 b0;obtain⟨k,hk,rfl,HI,b⟩:=hrel;rcases(show k=0∨k=1∨k=2 by omega) with rfl|rfl|rfl
  ·have K:Blk wr gc 311 (Au A0 n0 c0 A1 n1 c1 r.src r.c r.s r.h A0 n0 c0 A1 n1 c1 r.src q.c q.s q.h none 0 0 none 0 0 none 0 0 none 0 0 none 0 0 none 0 0 false 0 0):=HI;clear HI;have hgl:=K.lt;have hzb:=b.size
   go_upto_region 5 with fail
   generalize hG:wr.alloc _=w2;obtain⟨KR,al⟩:=EX hG;clear hG;have b1:=b.trans (al.mono hzb);have K1:=K.below al hgl;generalize wr.heap.size=q2 at KR⊢;clear K b al hzb hgl;have eR:=KR.cell;have X2:=HX.out.below b1
   go_wp2_with fail
   refine(HT1 _ X2).mono ?_;clear eR;rintro e w3 (⟨hno,rfl,b3⟩|⟨x,l,⟨EA,en,ec⟩,⟨SA,sn,sc⟩,⟨DA,an,ac⟩,htr,rfl,T,b3⟩)
   ·have b4:=An b1 b3;have hz4:=b4.size;have b5:Below w w (w3.alloc (.cells DU 223)):=Ax;clear K1 KR X2 b3 HX HT1 HT2 b1;go_wp2;exact HZ.out _ (Or.inl hno) b5
   ·simp only;have hg2:=K1.lt;have b4:=An b1 b3;have K4:=K1.below b3 K1.lt;have T4:=T.low (show gc+1≤w2.heap.size by have:=K1.lt;omega)
    have hz4:=b4.size;have al4:Below w3 w3 (w3.alloc (.cells (Dj EA en ec SA sn sc DA an ac) 223)):=BU;have KT:=Br w3 223 (Dj EA en ec SA sn sc DA an ac);have b5:=b4.trans (al4.mono hz4);have K5:=K4.below al4 K4.lt;have T5:=T4.below al4;clear b3 b4 K4 T4 al4 b1 K1 X2 KR hg2
    go_upto_region 6 with fail
    generalize w3.alloc _=w4 at KT b5 K5 T5⊢;generalize w3.heap.size=q4 at KT⊢;have e5:=K5.cell;have f5:=K5.frozen;have eT:=KT.cell
    go_upto_region 8 with fail
    go_region
    all_goals
     have N6:Blk _ gc 311 (Au A0 n0 c0 A1 n1 c1 r.src r.c r.s r.h A0 n0 c0 A1 n1 c1 r.src q.c q.s q.h EA en ec SA sn sc DA an ac none 0 0 none 0 0 none 0 0 false 0 0):=(((K5.set_ 12 (.slice EA en ec)).set_ 13 (.slice SA sn sc)).set_ 14 (.slice DA an ac)).drew;go_wp2
     go_roundw
     case rel=>exact⟨1,by omega,by go_num,⟨x,l,⟨EA,en,ec⟩,⟨SA,sn,sc⟩,⟨DA,an,ac⟩,htr,N6,(((T5.cell Aa _).cell Aa _).cell Aa _).drew⟩,(((b5.setCell Aw _).setCell Aw _).setCell Aw _).drew⟩
     case measure=>simp[intOf]
  ·obtain⟨x,l,⟨EA,en,ec⟩,⟨SA,sn,sc⟩,⟨DA,an,ac⟩,htr,K',T⟩:=HI;have K:Blk wr gc 311 (Au A0 n0 c0 A1 n1 c1 r.src r.c r.s r.h A0 n0 c0 A1 n1 c1 r.src q.c q.s q.h EA en ec SA sn sc DA an ac none 0 0 none 0 0 none 0 0 false 0 0):=K';clear K';have hgl:=K.lt;have hzb:=b.size
   go_upto_region 5 with fail
   generalize hG:wr.alloc _=w2;obtain⟨KR,al⟩:=EX hG;clear hG;have b1:=b.trans (al.mono hzb);have K1:=K.below al hgl;have T1:=T.below al;generalize wr.heap.size=q2 at KR⊢;clear K T b al hzb hgl;have eR:=KR.cell;have X2:=HX.out.below b1
   go_wp2_with fail
   refine(HT2 _ X2).mono ?_;clear eR;rintro e w3 (⟨hno,rfl,b3⟩|⟨y,m,⟨FA,fn,fc⟩,⟨UA,un,uc⟩,⟨GA,gn,gac⟩,htq,rfl,U,b3⟩)
   ·have b4:=An b1 b3;have hz4:=b4.size;have b5:Below w w (w3.alloc (.cells DU 223)):=Ax;clear K1 KR X2 b3 HX HT1 HT2 b1;go_wp2;exact HZ.out _ (Or.inr hno) b5
   ·simp only;have hg2:=K1.lt;have b4:=An b1 b3;have K4:=K1.below b3 K1.lt;have T3:=T1.below b3;have U4:=U.low (show gc+1≤w2.heap.size by have:=K1.lt;omega)
    have hz4:=b4.size;have al4:Below w3 w3 (w3.alloc (.cells (Dj FA fn fc UA un uc GA gn gac) 223)):=BU;have KT:=Br w3 223 (Dj FA fn fc UA un uc GA gn gac);have b5:=b4.trans (al4.mono hz4);have K5:=K4.below al4 K4.lt;have T5:=T3.below al4;have U5:=U4.below al4;clear b3 b4 K4 T1 T3 U4 al4 b1 K1 X2 KR hg2
    go_upto_region 6 with fail
    generalize w3.alloc _=w4 at KT b5 K5 T5 U5⊢;generalize w3.heap.size=q4 at KT⊢;have e5:=K5.cell;have f5:=K5.frozen;have eT:=KT.cell
    go_upto_region 8 with fail
    go_region
    all_goals
     have N6:Blk _ gc 311 (Au A0 n0 c0 A1 n1 c1 r.src r.c r.s r.h A0 n0 c0 A1 n1 c1 r.src q.c q.s q.h EA en ec SA sn sc DA an ac FA fn fc UA un uc GA gn gac false 0 0):=(((K5.set_ 15 (.slice FA fn fc)).set_ 16 (.slice UA un uc)).set_ 17 (.slice GA gn gac)).drew;go_wp2
     go_roundw
     case rel=>exact⟨2,by omega,by go_num,⟨x,y,l,m,⟨EA,en,ec⟩,⟨SA,sn,sc⟩,⟨DA,an,ac⟩,⟨FA,fn,fc⟩,⟨UA,un,uc⟩,⟨GA,gn,gac⟩,htr,htq,N6,(((T5.cell Aa _).cell Aa _).cell Aa _).drew,(((U5.cell Aa _).cell Aa _).cell Aa _).drew⟩,(((b5.setCell Aw _).setCell Aw _).setCell Aw _).drew⟩
     case measure=>simp[intOf]
  ·obtain⟨x,y,l,m,⟨EA,en,ec⟩,⟨SA,sn,sc⟩,⟨DA,an,ac⟩,⟨FA,fn,fc⟩,⟨UA,un,uc⟩,⟨GA,gn,gac⟩,htr,htq,K',T,U⟩:=HI;have K:Blk wr gc 311 (Au A0 n0 c0 A1 n1 c1 r.src r.c r.s r.h A0 n0 c0 A1 n1 c1 r.src q.c q.s q.h EA en ec SA sn sc DA an ac FA fn fc UA un uc GA gn gac false 0 0):=K';clear K';have hgc:=K.lt;have hzb:=b.size;obtain rfl:n=an:=by have h:=T.an;simp only at h;rw[h];exact(HN.out.fr.ok.tr_ok n x l htr).2.1.symm
   obtain rfl:n=gn:=by have h:=U.an;simp only at h;rw[h];exact(HN.out.fq.ok.tr_ok n y m htq).2.1.symm
   clear HX HT1 HT2 HZ hk;have eK:=K.cell
   go_upto_region 10 with fail
   go_cut [17,18] (fun v17 v18 wx=> ∃g17 g18:Nat,v17=.pointer (some ⟨g17,0,none⟩)∧v18=.pointer (some ⟨g18,0,none⟩)∧Blk wx g17 223 (Dj EA en ec SA sn sc DA n ac)∧Blk wx g18 223 (Dj FA fn fc UA un uc GA n gac)∧gc<g17∧gc<g18∧Below wr wr wx)
   case first=>
    have KA:=Br wr 223 (Dj EA en ec SA sn sc DA n ac);have KB:=Br wr 223 (Dj FA fn fc UA un uc GA n gac);have KA2:=KA.alloc (.cells (Dj FA fn fc UA un uc GA n gac) 223);have KB2:=KB.alloc (.cells (Dj EA en ec SA sn sc DA n ac) 223);have KA3:=Blk.newN (g:=wr+1) (wr.alloc (.cells (Dj FA fn fc UA un uc GA n gac) 223)) 223 (Dj EA en ec SA sn sc DA n ac) Cr;have KB3:=Blk.newN (g:=wr+1) (wr.alloc (.cells (Dj EA en ec SA sn sc DA n ac) 223)) 223 (Dj FA fn fc UA un uc GA n gac) Cr
    go_region
    all_goals
     go_wp2_with fail
     go_meet
     first
      |exact⟨_,_,rfl,rfl,KA2.drew,KB3.drew,hgc,by omega,Ax⟩
      |exact⟨_,_,rfl,rfl,KA3.drew,KB2.drew,by omega,hgc,Ax⟩
      |trace_state
   case rest=>
    obtain⟨g17,g18,rfl,rfl,KA,KB,hA,hB,bw⟩:=hcut;obtain⟨w5,rfl⟩: ∃x:World,x=wc:=⟨_,rfl⟩;clear eK;replace b:=b.trans (bw.mono hzb);replace K:=K.below bw hgc;replace T:=T.below bw;replace U:=U.below bw;clear bw hgc hzb;have eA:=KA.cell;have eB:=KB.cell;have hln:l.length=n:=(HN.out.fr.ok.tr_ok n x l htr).2.1;have hmn:m.length=n:=(HN.out.fq.ok.tr_ok n y m htq).2.1;have hen:en≤9223372036854775807:=by have:=T.en;simp only at this;omega
    have hfn:fn≤9223372036854775807:=by have:=U.en;simp only at this;omega
    have HEQ:=Vg EA en ec (C2 l) FA fn fc (C2 m) w5 hen hfn T.re U.re
    go_wp2_with fail
    refine HEQ.mono ?_;clear HEQ eA eB hen hfn
    by_cases hs:C2 l=C2 m
    ·rw[BC hs];rintro e w6 ⟨rfl,b6⟩;replace b:=An b b6;replace K:=K.below b6 K.lt;replace T:=T.below b6;replace U:=U.below b6;replace KA:=KA.below b6 KA.lt;replace KB:=KB.below b6 KB.lt;have eK:=K.cell;have fK:=K.frozen;have N6:Blk (w6.setCell ⟨gc,18,none⟩ (.bool true)) gc 311 (Au A0 n0 c0 A1 n1 c1 r.src r.c r.s r.h A0 n0 c0 A1 n1 c1 r.src q.c q.s q.h EA en ec SA sn sc DA n ac FA fn fc UA un uc GA n gac true 0 0):=K.set_ 18 (.bool true);have T6:=T.cell (b:=gc) (i:=18) Aa (.bool true);have U6:=U.cell (b:=gc) (i:=18) Aa (.bool true);have KA6:=KA.far (p:=⟨gc,18,none⟩) Aw (.bool true);have KB6:=KB.far (p:=⟨gc,18,none⟩) Aw (.bool true);have b7:=b.setCell (p:=⟨gc,18,none⟩) Aw (.bool true);clear KA KB b6 T U b
     go_upto_region 12 with fail
     clear eK fK K;generalize w6.setCell ⟨gc,18,none⟩ (.bool true)=w7 at N6 T6 U6 KA6 KB6 b7⊢;have eN:=N6.cell;have eA:=KA6.cell
     go_upto_region 15 with fail
     clear eN eA
     go_loopw [86] (fun i wr=> ∃k:Nat,k≤n∧i=.int .i64 k∧Blk wr gc 311 (Au A0 n0 c0 A1 n1 c1 r.src r.c r.s r.h A0 n0 c0 A1 n1 c1 r.src q.c q.s q.h EA en ec SA sn sc DA n ac FA fn fc UA un uc GA n gac true (Ej (BF l) (BF m) k) (Ei (BF l) (BF m) k))∧Blk wr g17 223 (Dj EA en ec SA sn sc DA n ac)∧Blk wr g18 223 (Dj FA fn fc UA un uc GA n gac)∧DI wr (gc+1) ⟨EA,en,ec⟩ ⟨SA,sn,sc⟩ ⟨DA,n,ac⟩ l∧DI wr (gc+1) ⟨FA,fn,fc⟩ ⟨UA,un,uc⟩ ⟨GA,n,gac⟩ m∧Below w w wr) (fun i _=>n-(intOf i).toNat)
     case atStart=>exact⟨0,AZ _,rfl,N6,KA6,KB6,T6,U6,b7⟩
     case round=>
      clear N6 KA6 KB6 T6 U6 b7;obtain⟨k,hk,rfl,K,KA,KB,T,U,b⟩:=hrel
      by_cases hlt:k<n
      ·have hltI:(k:Int)<(n:Int):=Aa;obtain⟨ad,hA1,cx0,cx1⟩:=T.ra.two hlt;obtain⟨ae,hA2,cy0,cy1⟩:=U.ra.two hlt;simp only at hA1 hA2;subst hA1 hA2;have lk1:=HN.out.limk hn htr htq (k+1) Aa;have HS0:Hid (Ej (BF l) (BF m) (k+1)=Ej (BF l) (BF m) k+min ((BF l).getD (k*2) 0) ((BF m).getD (k*2) 0)):=rfl;have HS1:Hid (Ei (BF l) (BF m) (k+1)=Ei (BF l) (BF m) k+max ((BF l).getD (k*2+1) 0) ((BF m).getD (k*2+1) 0)):=rfl;rw[HS0.out,HS1.out] at lk1;generalize(BF l).getD (k*2) 0=x0 at*;generalize(BF l).getD (k*2+1) 0=x1 at*;generalize(BF m).getD (k*2) 0=y0 at*;generalize(BF m).getD (k*2+1) 0=y1 at*;generalize hLo:Ej (BF l) (BF m) k=lo at*;generalize hHi:Ei (BF l) (BF m) k=hi at*;clear hLo hHi;have hzb:=b.size;have al:Below wr wr ((wr.alloc (.cells (Zii x0 x1) 136)).alloc (.cells (Zii y0 y1) 136)):=Ax;have K20:=(Br wr 136 (Zii x0 x1)).alloc (.cells (Zii y0 y1) 136);have K21:=Blk.newN (g:=wr+1) (wr.alloc (.cells (Zii x0 x1) 136)) 136 (Zii y0 y1) Cr;have b7:=b.trans (al.mono hzb);have K7:=K.below al K.lt;have KA7:=KA.below al KA.lt;have KB7:=KB.below al KB.lt;have T7:=T.below al;have U7:=U.below al;have e18:=KB.cell;have g18l:=KB.lt;have hady:=U.ra.lt rfl Aw;have hcy0:=(JX ((AP wr.heap.size wr).alloc Bk (.cells (Zii x0 x1) 136)) (p:=ae.add (k*2)) (by rw[Aq];exact hady)).trans cy0
       have hcy1:=(JX ((AP wr.heap.size wr).alloc Bk (.cells (Zii x0 x1) 136)) (p:=⟨(ae.add (k*2)).block,(ae.add (k*2)).off+1,none⟩) (by show(ae.add (k*2)).block<_;rw[Aq];exact hady)).trans cy1
       go_upto_region 18 with fail
       generalize(wr.alloc _).alloc _=w7 at K20 K21 b7 K7 KA7 KB7 T7 U7⊢;generalize wr.heap.size+1=Q21 at K21⊢;generalize wr.heap.size=Q20 at K20⊢;clear al K KA KB T U b hzb cx0 cx1 cy0 cy1 hcy0 hcy1 e18 g18l hady;have eC: ∀o,w7.cell? ⟨gc,o,none⟩=((Au A0 n0 c0 A1 n1 c1 r.src r.c r.s r.h A0 n0 c0 A1 n1 c1 r.src q.c q.s q.h EA en ec SA sn sc (some ad) n ac FA fn fc UA un uc (some ae) n gac true lo hi):Array Value)[o]? :=K7.cell;have gC:=K7.lt;have e20: ∀o,w7.cell? ⟨Q20,o,none⟩=((Zii x0 x1):Array Value)[o]? :=K20.cell;have g20:=K20.lt;have e21: ∀o,w7.cell? ⟨Q21,o,none⟩=((Zii y0 y1):Array Value)[o]? :=K21.cell;have g21:=K21.lt;have KZ7:=Br w7 136 Cq;have HE0:Hid (Ej (BF l) (BF m) (k+1)=lo+min x0 y0):=HS0.out;have HE1:Hid (Ei (BF l) (BF m) (k+1)=hi+max x1 y1):=HS1.out;have HPL:=fun W=>Kz lo hi (min x0 y0) (max x1 y1) W Aa Aa Aa Aa;have hck:ckB (lo+min x0 y0) (hi+max x1 y1)=true:=by unfold ckB;rw[IQ.2 Aa,IQ.2 Aa];rfl
       have HCK: ∀W:World,Calls prog 319 (BN (lo+min x0 y0) (hi+max x1 y1) 3) W fun e w'=>e=.returned (.tuple (BN (lo+min x0 y0) (hi+max x1 y1) 0))∧Below W W w':=fun W=>by
        have h:=Ge (lo+min x0 y0) (hi+max x1 y1) 3 W;simp only[hck,if_true] at h;exact h
       clear HS0 HS1 hck lk1
       go_cut [22,23] (fun v22 v23 wx=> ∃gs:Nat,v22=.pointer (some ⟨gs,0,none⟩)∧v23=.int .i64 0∧Blk wx gs 136 (Zii (lo+min x0 y0) (hi+max x1 y1))∧gc<gs∧Below w7 w7 wx)
       case first=>
        go_region_held3 (fun w'=>(∀o,w'.cell? ⟨gc,o,none⟩=((Au A0 n0 c0 A1 n1 c1 r.src r.c r.s r.h A0 n0 c0 A1 n1 c1 r.src q.c q.s q.h EA en ec SA sn sc (some ad) n ac FA fn fc UA un uc (some ae) n gac true lo hi):Array Value)[o]?)∧(∀o,w'.cell? ⟨Q20,o,none⟩=((Zii x0 x1):Array Value)[o]?)∧(∀o,w'.cell? ⟨Q21,o,none⟩=((Zii y0 y1):Array Value)[o]?))
         (exact aZ)
         (first|((fail_if_success (clear hbu0));go_at_call 240;(with_reducible refine(HPL _).mono ?_);rintro e u0 ⟨rfl,bu0⟩;have hbu0:Below w7 w7 u0:=(show Below w7 w7 _ from Ax).trans (bu0.mono C9);have hzu0:=hbu0.size;have hxu0:=bu0.size;(try simp at hxu0);(first|(have KZ:=(Blk.drew KZ7).below bu0 KZ7.lt)|(have KZ:=KZ7.below bu0 KZ7.lt)|skip);have eCu0: ∀o,u0.cell? ⟨gc,o,none⟩=((Au A0 n0 c0 A1 n1 c1 r.src r.c r.s r.h A0 n0 c0 A1 n1 c1 r.src q.c q.s q.h EA en ec SA sn sc (some ad) n ac FA fn fc UA un uc (some ae) n gac true lo hi):Array Value)[o]? :=fun o=>(K7.below hbu0 K7.lt).cell o;have gCu0:gc<u0:=(K7.below hbu0 K7.lt).lt;have e20u0: ∀o,u0.cell? ⟨Q20,o,none⟩=((Zii x0 x1):Array Value)[o]? :=fun o=>(K20.below hbu0 K20.lt).cell o;have g20u0:Q20<u0.heap.size:=(K20.below hbu0 K20.lt).lt;have e21u0: ∀o,u0.cell? ⟨Q21,o,none⟩=((Zii y0 y1):Array Value)[o]? :=fun o=>(K21.below hbu0 K21.lt).cell o;have g21u0:Q21<u0.heap.size:=(K21.below hbu0 K21.lt).lt)|((fail_if_success (clear hbu1));go_at_call 319;(with_reducible refine(HCK _).mono ?_);rintro e u1 ⟨rfl,bu1⟩;have hbu1:Below w7 w7 u1:=(show Below w7 w7 _ from Ax).trans (bu1.mono C9);have hzu1:=hbu1.size;have hxu1:=bu1.size;(try simp at hxu1);(first|(have KY:=(Blk.drew KZ).below bu1 KZ.lt;have cY:=KY.cell;have fY:=KY.frozen;have lY:=KY.lt)|(have KY:=KZ.below bu1 KZ.lt;have cY:=KY.cell;have fY:=KY.frozen;have lY:=KY.lt)|(have KY:=(Blk.drew (Br u0 136 Cq)).below bu1 (Br u0 136 Cq).lt;have cY:=KY.cell;have fY:=KY.frozen;have lY:=KY.lt)|(have KY:=(Br u0 136 Cq).below bu1 (Br u0 136 Cq).lt;have cY:=KY.cell;have fY:=KY.frozen;have lY:=KY.lt)|skip);have eCu1: ∀o,u1.cell? ⟨gc,o,none⟩=((Au A0 n0 c0 A1 n1 c1 r.src r.c r.s r.h A0 n0 c0 A1 n1 c1 r.src q.c q.s q.h EA en ec SA sn sc (some ad) n ac FA fn fc UA un uc (some ae) n gac true lo hi):Array Value)[o]? :=fun o=>(K7.below hbu1 K7.lt).cell o;have gCu1:gc<u1:=(K7.below hbu1 K7.lt).lt;have e20u1: ∀o,u1.cell? ⟨Q20,o,none⟩=((Zii x0 x1):Array Value)[o]? :=fun o=>(K20.below hbu1 K20.lt).cell o;have g20u1:Q20<u1.heap.size:=(K20.below hbu1 K20.lt).lt;have e21u1: ∀o,u1.cell? ⟨Q21,o,none⟩=((Zii y0 y1):Array Value)[o]? :=fun o=>(K21.below hbu1 K21.lt).cell o;have g21u1:Q21<u1.heap.size:=(K21.below hbu1 K21.lt).lt))
        all_goals
         go_wp2_with fail
         go_meet
         first
          |exact⟨u1.heap.size,rfl,rfl,Br u1 _ _,by omega,Ax⟩
          |exact⟨_,rfl,rfl,(KY.set_ 0 _).set_ 1 _,by omega,Ax⟩
          |trace_state
       case rest=>
        obtain⟨gs,rfl,rfl,KS,hgs,bw⟩:=hcut;obtain⟨w9,rfl⟩: ∃x:World,x=wc:=⟨_,rfl⟩;replace b7:=An b7 bw;replace K7:=K7.below bw K7.lt;replace KA7:=KA7.below bw KA7.lt;replace KB7:=KB7.below bw KB7.lt;replace T7:=T7.below bw;replace U7:=U7.below bw;clear bw eC gC e20 g20 e21 g21 KZ7 K20 K21 HPL HCK;have eS:=KS.cell;have eC:=K7.cell;have fC:=K7.frozen;have NK:Blk _ gc 311 (Au A0 n0 c0 A1 n1 c1 r.src r.c r.s r.h A0 n0 c0 A1 n1 c1 r.src q.c q.s q.h EA en ec SA sn sc (some ad) n ac FA fn fc UA un uc (some ae) n gac true (lo+min x0 y0) (hi+max x1 y1)):=(K7.set_ 19 (ZI (lo+min x0 y0))).set_ 20 (ZI (hi+max x1 y1));have NA:=(KA7.far (p:=⟨gc,19,none⟩) Aw (ZI (lo+min x0 y0))).far (p:=⟨gc,20,none⟩) Aw (ZI (hi+max x1 y1));have NB:=(KB7.far (p:=⟨gc,19,none⟩) Aw (ZI (lo+min x0 y0))).far (p:=⟨gc,20,none⟩) Aw (ZI (hi+max x1 y1));have NT:=(T7.cell (b:=gc) (i:=19) Aa (ZI (lo+min x0 y0))).cell (b:=gc) (i:=20) Aa (ZI (hi+max x1 y1));have NU:=(U7.cell (b:=gc) (i:=19) Aa (ZI (lo+min x0 y0))).cell (b:=gc) (i:=20) Aa (ZI (hi+max x1 y1));have nb:=(b7.setCell (p:=⟨gc,19,none⟩) Aw (ZI (lo+min x0 y0))).setCell (p:=⟨gc,20,none⟩) Aw (ZI (hi+max x1 y1));clear K7 KA7 KB7 T7 U7 b7 KS;go_wp2
        go_roundw
        case rel=>exact⟨k+1,by omega,by go_num,by rw[HE0.out,HE1.out];exact NK,NA,NB,NT,NU,nb⟩
        case measure=>simp[intOf];omega
      ·obtain rfl:n=k:=Aa;have hltI: ¬(n:Int)<(n:Int):=Aa;go_wp2;exact HR.out gc x y l m ⟨EA,en,ec⟩ ⟨SA,sn,sc⟩ ⟨DA,n,ac⟩ ⟨FA,fn,fc⟩ ⟨UA,un,uc⟩ ⟨GA,n,gac⟩ true _ _ _ htr htq (BC hs).symm (AA hs).symm (AA hs).symm K (T.low Aa) (U.low Aa) b
    ·rw[BR hs];rintro e w6 ⟨rfl,b6⟩;replace b:=An b b6;replace K:=K.below b6 K.lt;replace T:=T.below b6;replace U:=U.below b6;have eK:=K.cell;have fK:=K.frozen;have N6:Blk (w6.setCell ⟨gc,18,none⟩ (.bool false)) gc 311 (Au A0 n0 c0 A1 n1 c1 r.src r.c r.s r.h A0 n0 c0 A1 n1 c1 r.src q.c q.s q.h EA en ec SA sn sc DA n ac FA fn fc UA un uc GA n gac false 0 0):=K.set_ 18 (.bool false);have e6:=N6.cell;clear KA KB b6;go_wp2;exact HR.out gc x y l m ⟨EA,en,ec⟩ ⟨SA,sn,sc⟩ ⟨DA,n,ac⟩ ⟨FA,fn,fc⟩ ⟨UA,un,uc⟩ ⟨GA,n,gac⟩ false 0 0 _ htr htq (BR hs).symm (Ak hs).symm (Ak hs).symm N6 ((T.cell Aa _).low Aa) ((U.cell Aa _).low Aa) (b.setCell Aw _)
theorem Rf (lo hi d:Int) (w:World):
  (BT 321 (BN lo hi d) w (.bool (inR d lo hi)):Prop):=by
 have b0:Below w w (w.alloc (.cells (Zii lo hi) 136)):=BU;have K:=Br w 136 (Zii lo hi)
 go_enter func321,ntmps321
 go_upto_region 1 with fail
 generalize w.alloc _=w1 at*;have c:=K.cell
 go_wp2_with (go_at_call 73;refine(As _ _ _ _).mono ?_;rintro e w' ⟨rfl,rfl⟩)
 go_ret;exact⟨rfl,b0⟩
def lastS (r:Al) (l:List AU):En:=(l.getLast?.map AU.st).getD r.first
theorem Pz (h:Ev) (r q:Al) (he hs ha ke ks ka:Hd) (same:Bool) (lo hi:Int) (l:List AU) (gc B:Nat) (w:World)
  (K:Blk w gc 311 (MC h r q he hs ha ke ks ka same lo hi)) (T:DI w B he hs ha l) (hl:l.length≤100):
  (BT 320 #[.pointer (some ⟨gc,0,none⟩),ZI 0] w (Hy (lastS r l)):Prop):=by
 have HLA:=fun(W:World) (b:Below w w W)=>Hj h r he hs ha l W B (T.below b) hl;rw[show(l.getLast?.map AU.st).getD r.first=lastS r l from rfl] at HLA;clear T;generalize lastS r l=x at*;unfold MC at K;unfold GH Hy at*;obtain⟨⟨A0,n0,c0⟩,⟨A1,n1,c1⟩⟩:=h;simp only at*;have K1:=K.alloc (.cells DJ 138);have hg:=K.lt
 go_enter func320,ntmps320
 go_upto_region 1 with fail
 generalize hG:w.alloc _=w1 at K1⊢;obtain⟨KZ,b0⟩:=EX hG;clear hG;have hne:gc≠w.heap.size:=Aa;have hs0:=K1.cell
 go_region_held3 (fun w'=> ∀o,w'.cell? ⟨gc,o,none⟩=((Au A0 n0 c0 A1 n1 c1 r.src r.c r.s r.h A0 n0 c0 A1 n1 c1 r.src q.c q.s q.h he.A he.n he.c hs.A hs.n hs.c ha.A ha.n ha.c ke.A ke.n ke.c ks.A ks.n ks.c ka.A ka.n ka.c same lo hi):Array Value)[o]?)
  (first|(with_reducible assumption)|((with_reducible refine AC ?_);(with_reducible assumption))|((repeat(first|(with_reducible refine AC ?_)|(with_reducible refine Bl ?_ (by omega))));(with_reducible assumption)))
  (first
   |((fail_if_success (clear hbu0));go_at_call 227;(with_reducible refine(HLA _ Ax).mono ?_);rintro e u0 ⟨rfl,bu0⟩;have hbu0:Below w1 w1 u0:=(show Below w1 w1 _ from Ax).trans (bu0.mono C9);have hzu0:=hbu0.size;have hs0u0:=fun o=>(K1.below hbu0 K1.lt).cell o;have hy0u0:=(K1.below hbu0 K1.lt).lt;have ezu0:=fun o=>(KZ.below hbu0 KZ.lt).cell o;have fzu0:=fun o=>(KZ.below hbu0 KZ.lt).frozen o;have gzu0:=(KZ.below hbu0 KZ.lt).lt))
 all_goals
  have B5:=An b0 hbu0;go_wp2;refine AS (v:=.agg (A7 x.k x.dn x.lo x.hi)) (by simp[results,results320,go_sem,ezu0]) rfl ⟨rfl,Ax⟩
theorem PC (h:Ev) (r q:Al) (he hs ha ke ks ka:Hd) (same:Bool) (lo hi:Int) (l:List AU) (gc B:Nat) (w:World)
  (K:Blk w gc 311 (MC h r q he hs ha ke ks ka same lo hi)) (T:DI w B ke ks ka l) (hl:l.length≤100) (hsrc:q.src=r.src):
  (BT 320 #[.pointer (some ⟨gc,0,none⟩),ZI 1] w (Hy (lastS q l)):Prop):=by
 have HLA:=fun(W:World) (b:Below w w W)=>Hj h q ke ks ka l W B (T.below b) hl;rw[show(l.getLast?.map AU.st).getD q.first=lastS q l from rfl] at HLA;clear T;generalize lastS q l=x at*;unfold MC at K;unfold GH Hy at*;rw[hsrc] at HLA;clear hsrc;obtain⟨⟨A0,n0,c0⟩,⟨A1,n1,c1⟩⟩:=h;simp only at*;have K1:=K.alloc (.cells DJ 138);have hg:=K.lt
 go_enter func320,ntmps320
 go_upto_region 1 with fail
 generalize hG:w.alloc _=w1 at K1⊢;obtain⟨KZ,b0⟩:=EX hG;clear hG;have hne:gc≠w.heap.size:=Aa;have hs0:=K1.cell
 go_region_held3 (fun w'=> ∀o,w'.cell? ⟨gc,o,none⟩=((Au A0 n0 c0 A1 n1 c1 r.src r.c r.s r.h A0 n0 c0 A1 n1 c1 r.src q.c q.s q.h he.A he.n he.c hs.A hs.n hs.c ha.A ha.n ha.c ke.A ke.n ke.c ks.A ks.n ks.c ka.A ka.n ka.c same lo hi):Array Value)[o]?)
  (first|(with_reducible assumption)|((with_reducible refine AC ?_);(with_reducible assumption))|((repeat(first|(with_reducible refine AC ?_)|(with_reducible refine Bl ?_ (by omega))));(with_reducible assumption)))
  (first
   |((fail_if_success (clear hbu0));go_at_call 227;(with_reducible refine(HLA _ Ax).mono ?_);rintro e u0 ⟨rfl,bu0⟩;have hbu0:Below w1 w1 u0:=(show Below w1 w1 _ from Ax).trans (bu0.mono C9);have hzu0:=hbu0.size;have hs0u0:=fun o=>(K1.below hbu0 K1.lt).cell o;have hy0u0:=(K1.below hbu0 K1.lt).lt;have ezu0:=fun o=>(KZ.below hbu0 KZ.lt).cell o;have fzu0:=fun o=>(KZ.below hbu0 KZ.lt).frozen o;have gzu0:=(KZ.below hbu0 KZ.lt).lt))
 all_goals
  have B5:=An b0 hbu0;go_wp2;refine AS (v:=.agg (A7 x.k x.dn x.lo x.hi)) (by simp[results,results320,go_sem,ezu0]) rfl ⟨rfl,Ax⟩
theorem PE (h:Ev) (r q:Al) (he hs ha ke ks ka:Hd) (same:Bool) (lo hi:Int) (l m:List AU) (gc B:Nat) (knot dist:Int) (w:World)
  (K:Blk w gc 311 (MC h r q he hs ha ke ks ka same lo hi)) (T:DI w B he hs ha l) (U:DI w B ke ks ka m) (hl:l.length≤100) (hm:m.length≤100) (hsrc:q.src=r.src):
  (BT 284 #[.pointer (some ⟨gc,0,none⟩),ZI knot,ZI dist] w (ZI (vdV (lastS r l) (lastS q m) same lo hi knot dist)):Prop):=by
 have H0:=fun(W:World) (b:Below w w W)=>Pz h r q he hs ha ke ks ka same lo hi l gc B W (K.below b K.lt) (T.below b) hl;have H1:=fun(W:World) (b:Below w w W)=>PC h r q he hs ha ke ks ka same lo hi m gc B W (K.below b K.lt) (U.below b) hm hsrc;have HC:=fun W=>Rf lo hi dist W;clear T U;generalize lastS r l=x at*;generalize lastS q m=y at*;unfold Hy at*;have K':Blk w gc 311 (Au h.D.A h.D.n h.D.c h.S.A h.S.n h.S.c r.src r.c r.s r.h h.D.A h.D.n h.D.c h.S.A h.S.n h.S.c r.src q.c q.s q.h he.A he.n he.c hs.A hs.n hs.c ha.A ha.n ha.c ke.A ke.n ke.c ks.A ks.n ks.c ka.A ka.n ka.c same lo hi):=K;clear K;have eK:=K'.cell
 cases same with
 |false=>
  have HV:Hid (vdV x y false lo hi knot dist=1):=AA rfl;clear H0 H1 HC
  go_enter func284,ntmps284
  go_wp2;go_ret;exact⟨by rw[HV.out];rfl,AP _ _⟩
 |true=>
  have HV:Hid (vdV x y true lo hi knot dist=if¬(x.k:Int)=knot∨inR dist lo hi=false then 0 else if(x.hi<dist∧dist<y.lo)∨(y.hi<dist∧dist<x.lo) then 2 else 1):=Ak Ah
  go_enter func284,ntmps284
  go_wp2_with fail
  refine(H0 _ E9).mono ?_;rintro e w1 ⟨rfl,b1⟩;clear eK;have K1:=K'.below b1 K'.lt
  go_wp2_with fail
  refine(H1 _ b1).mono ?_;rintro e w2 ⟨rfl,b2⟩;clear H0 H1;have K2:=K1.below b2 K1.lt;have b3:=An b1 b2;clear K1 K' b1 b2;have al:Below w2 w2 ((w2.alloc (.cells (A7 x.k x.dn x.lo x.hi) 138)).alloc (.cells (A7 y.k y.dn y.lo y.hi) 138)):=Ax;have KX:=(Br w2 138 (A7 x.k x.dn x.lo x.hi)).alloc (.cells (A7 y.k y.dn y.lo y.hi) 138);have KY:=Blk.newN (g:=w2+1) (w2.alloc (.cells (A7 x.k x.dn x.lo x.hi) 138)) 138 (A7 y.k y.dn y.lo y.hi) Cr;have K3:=K2.below al K2.lt;have b4:=An b3 al
  go_upto_region 4 with fail
  generalize(w2.alloc _).alloc _=w3 at KX KY K3 b4⊢;generalize w2.heap.size+1=QY at KY⊢;generalize w2.heap.size=QX at KX⊢;clear K2 b3 al;have eK:=K3.cell;have eX:=KX.cell
  by_cases hk:(x.k:Int)=knot
  ·go_wp2_with fail
   refine(HC _).mono ?_;clear eX eK HC;rcases BA (inR dist lo hi) with hi1|hi1
   ·rw[hi1];rintro e w4 ⟨rfl,b5⟩;have HV2:Hid (vdV x y true lo hi knot dist=if(x.hi<dist∧dist<y.lo)∨(y.hi<dist∧dist<x.lo) then 2 else 1):=by unfold Hid;rw[HV.out,Ak (by rw[hi1];simp[hk])]
    have b6:=An b4 b5;have KX2:=KX.below b5 KX.lt;have KY2:=KY.below b5 KY.lt;have eX:=KX2.cell;have eY:=KY2.cell;clear HV KX KY b5 hi1 K3 b4
    by_cases p1:x.hi<dist<;>by_cases p2:dist<y.lo<;>by_cases p3:y.hi<dist<;>by_cases p4:dist<x.lo
    all_goals
     go_wp2;go_ret;exact⟨by rw[HV2.out];simp[p1,p2,p3,p4],b6⟩
   ·rw[hi1];rintro e w4 ⟨rfl,b5⟩;have HV2:Hid (vdV x y true lo hi knot dist=0):=by unfold Hid;rw[HV.out,AA (Or.inr hi1)]
    have b6:=An b4 b5;clear HV b5 hi1 b4;go_wp2;go_ret;exact⟨by rw[HV2.out];rfl,b6⟩
  ·have hk1:((x.k:Int) !=knot)=true:=by rw[bne_iff_ne];exact hk
   have HV2:Hid (vdV x y true lo hi knot dist=0):=by unfold Hid;rw[HV.out,AA (Or.inl hk)]
   clear HV HC;go_wp2;go_ret;exact⟨by rw[HV2.out];rfl,b4⟩
end Go.Proofs.YtkndcebhjcfphaaGreatDoor
