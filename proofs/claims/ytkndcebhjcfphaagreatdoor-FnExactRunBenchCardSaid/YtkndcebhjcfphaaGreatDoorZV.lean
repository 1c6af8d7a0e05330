import Derived.Test.YtkndcebhjcfphaaGreatDoorZJ
import Derived.Test.YtkndcebhjcfphaaGreatDoorZU
namespace Go.Proofs.YtkndcebhjcfphaaGreatDoor
open Go.RowKit Go.Proofs.Tryz
set_option maxRecDepth 100000
set_option maxHeartbeats 4000000
set_option linter.all false
def EV (h:Ev):Value:=.agg (CH h.D.A h.D.n h.D.c h.S.A h.S.n h.S.c)
def GU (r:Al):Value:=.agg (Ziii r.c r.s r.h)
theorem VM (h:Ev) (r:Al) (w:World) (X:DR w h r) (R:A8 r):
  (BT 277 #[EV h,ZI r.src,GU r] w (.tuple #[GH h r,ZI 0]):Prop):=by
 have hp:=R.prof;have hd:=R.dir;have hl:=R.len;have hs:=R.src;rw[←X.nd,←X.ns] at hp;have hn:=X.nd;have hm:=X.ns;have HIP:=fun(W:World) (X:DR W h r)=>EL h.D.A h.S.A h.D.n h.S.n h.D.c h.S.c r.ds r.ss W Aa Aa X.d X.s;rw[hp] at HIP;have HID:=fun W=>Jb r.c r.s r.h W;rw[hd] at HID;have HIK:=fun W=>FM h.D.A h.S.A h.D.n h.S.n h.D.c h.S.c (r.src:Int) W Aa;rw[show inR (r.src:Int) 0 ((h.D.n:Int)-1)=true from CN Aa Aa] at HIK;have HX:=Ai X;clear X R hp hd hl hs hn hm;obtain⟨⟨A0,n0,c0⟩,⟨A1,n1,c1⟩⟩:=h;unfold GH EV GU;simp only at HIP HIK⊢
 go_enter func277,ntmps277
 go_upto_region 1 with fail
 generalize hG:(((w.alloc _).alloc _).alloc _)=w1;obtain⟨K0,K1,K2,b0⟩:=WF hG;clear hG;have X1:=HX.out.below b0;have e0:=K0.cell
 go_wp2_with fail
 refine(HIP _ X1).mono ?_;rintro e w2 ⟨rfl,b2⟩;replace b0:=An b0 b2;replace K0:=K0.below b2 K0.lt;replace K1:=K1.below b2 K1.lt;replace K2:=K2.below b2 K2.lt;clear e0 b2 X1 HX HIP;have e1:=K1.cell
 go_wp2_with fail
 refine(HID _).mono ?_;rintro e w3 ⟨rfl,b3⟩;replace b0:=An b0 b3;replace K0:=K0.below b3 K0.lt;replace K1:=K1.below b3 K1.lt;replace K2:=K2.below b3 K2.lt;clear e1 b3 HID;have e0:=K0.cell
 go_wp2_with fail
 refine(HIK _).mono ?_;rintro e w4 ⟨rfl,b4⟩;replace b0:=An b0 b4;replace K0:=K0.below b4 K0.lt;replace K1:=K1.below b4 K1.lt;replace K2:=K2.below b4 K2.lt;clear e0 b4 HIK;have e0:=K0.cell;have e1:=K1.cell;have e2:=K2.cell;have f2:=K2.frozen;have g2:=K2.lt;go_wp2;refine AS (v:=.tuple #[AV A0 n0 c0 A1 n1 c1 r.src r.c r.s r.h,ZI 0]) (by simp[results,results277,go_sem,e2,g2]) rfl ⟨rfl,Ax⟩
theorem Xh {l:List AU} {y:AU}: ∀ {k:Nat},l[k]? =some y→(No l)[k*4]? =some (.int .i64 (y.st.k:Int))∧(No l)[k*4+1]? =some (.bool y.st.dn)∧(No l)[k*4+2]? =some (.int .i64 y.st.lo)∧(No l)[k*4+3]? =some (.int .i64 y.st.hi):=by
 induction l with
 |nil=>intro k h;simp at h
 |cons z t ih=>
  intro k h;have e:No (z::t)=Ln z.st++No t:=by unfold No;simp
  have hl:(Ln z.st).length=4:=rfl
  cases k with
  |zero=>simp at h;subst h;rw[e];simp[Ln]
  |succ k=>
   have:=ih (k:=k) CB;rw[e,List.getElem?_append_right Aa,List.getElem?_append_right Aa,List.getElem?_append_right Aa,List.getElem?_append_right Aa,hl];rw[show(k+1)*4-4=k*4 by omega,show(k+1)*4+1-4=k*4+1 by omega,show(k+1)*4+2-4=k*4+2 by omega,show(k+1)*4+3-4=k*4+3 by omega]
   exact this
theorem Hj (h:Ev) (r:Al) (he hs ha:Hd) (l:List AU) (w:World) (B:Nat) (T:DI w B he hs ha l) (hl:l.length≤100):
  (BT 227 #[Dj he.A he.n he.c hs.A hs.n hs.c ha.A ha.n ha.c,GH h r] w (Hy ((l.getLast?.map AU.st).getD r.first)):Prop):=by
 have HF:=fun W=>Ql h r W;obtain⟨EA,en,ec⟩:=he;obtain⟨SA,sn,sc⟩:=hs;obtain⟨DA,an,ac⟩:=ha;obtain⟨⟨A0,n0,c0⟩,⟨A1,n1,c1⟩⟩:=h;unfold GH at*;simp only at HF⊢;have hsn:sn=l.length:=T.sn;have HT:=Ai T;clear T
 by_cases h0:l= []
 ·subst h0;obtain rfl:sn=0:=hsn
  go_enter func227,ntmps227
  go_upto_region 1 with fail
  generalize hG:(((w.alloc _).alloc _).alloc _)=w1;obtain⟨K0,K1,K2,b0⟩:=WF hG;clear hG;have e0:=K0.cell;have e1:=K1.cell
  go_wp2_with fail
  refine(HF _).mono ?_;unfold Hy;rintro e w2 ⟨rfl,b2⟩;have B2:=An b0 b2;replace K2:=K2.below b2 K2.lt;clear e0 e1;have e2:=K2.cell;have f2:=K2.frozen;have g2:=K2.lt;go_wp2;refine AS (v:=.agg (A7 r.first.k r.first.dn r.first.lo r.first.hi)) (by simp[results,results227,go_sem,e2,g2]) rfl ⟨rfl,Ax⟩
 ·obtain⟨m,hm⟩: ∃m,l.length=m+1:=⟨l.length-1,by have:=List.length_pos_iff.2 h0;omega⟩
  obtain⟨y,hy⟩: ∃y,l[m]? =some y:=⟨_,Db Aa⟩;have hlast:l.getLast? =some y:=by rw[List.getLast?_eq_getElem?,hm];exact hy
  rw[hlast];have hst:=Xh hy;obtain⟨ad,hA,-⟩:=HT.out.rs.2 Aw;simp only at hA;subst hA
  have hcc: ∀ {V:World},Below w w V→V.cell? (ad.add (m*4))=some (.int .i64 (y.st.k:Int))∧V.cell? ⟨(ad.add (m*4)).block,(ad.add (m*4)).off+1,none⟩=some (.bool y.st.dn)∧V.cell? ⟨(ad.add (m*4)).block,(ad.add (m*4)).off+2,none⟩=some (.int .i64 y.st.lo)∧V.cell? ⟨(ad.add (m*4)).block,(ad.add (m*4)).off+3,none⟩=some (.int .i64 y.st.hi):=by
   intro V b;obtain⟨_,hA,hc⟩:=(HT.out.below b).rs.2 Aw
   cases hA
   have hc0:=hc (m*4) Aw;have hc1:=hc (m*4+1) Aw;have hc2:=hc (m*4+2) Aw;have hc3:=hc (m*4+3) Aw;rw[hst.1] at hc0;rw[hst.2.1] at hc1;rw[hst.2.2.1] at hc2;rw[hst.2.2.2] at hc3;rw[←Cn _ _ 1 Ah] at hc1;rw[←Cn _ _ 2 Ah] at hc2;rw[←Cn _ _ 3 Ah] at hc3;exact⟨hc0,hc1,hc2,hc3⟩
  have hs0: ¬((sn:Int)=0):=Aa;have hs1:(sn:Int)-1=(m:Int):=Aa;have hs2:((sn:Int)==0)=false:=by rw[Ea];exact hs0
  have wm:=Bg (m:Int);have hmI:(m:Int)<(sn:Int):=Aa;clear hst hlast hy HT hm hsn hl h0;have K0:=((Blk.newN (g:=w) w 223 (Dj EA en ec (some ad) sn sc DA an ac) Cr).alloc (.cells (AV A0 n0 c0 A1 n1 c1 r.src r.c r.s r.h) 221)).alloc (.cells DJ 138);have K2:=Blk.newN (g:=w+1+1) ((w.alloc (.cells (Dj EA en ec (some ad) sn sc DA an ac) 223)).alloc (.cells (AV A0 n0 c0 A1 n1 c1 r.src r.c r.s r.h) 221)) 138 DJ Cr;have b0:Below w w (((w.alloc (.cells (Dj EA en ec (some ad) sn sc DA an ac) 223)).alloc (.cells (AV A0 n0 c0 A1 n1 c1 r.src r.c r.s r.h) 221)).alloc (.cells DJ 138)):=Ax;obtain⟨hc0,hc1,hc2,hc3⟩:=hcc b0;clear hcc
  go_enter func227,ntmps227
  go_upto_region 1 with fail
  generalize(((w.alloc _).alloc _).alloc _)=w1 at K0 K2 b0 hc0 hc1 hc2 hc3⊢;have e0:=K0.cell;have e2:=K2.cell;have f2:=K2.frozen;have g2:=K2.lt;go_wp2;refine AS (v:=.agg (A7 y.st.k y.st.dn y.st.lo y.st.hi)) (by simp[results,results227,go_sem,e2,g2]) rfl ⟨rfl,Ax⟩
def dG (h:Ev) (r:Al) (n:Int) (w:World) (e:Ending) (w':World):Prop:=
 (inR n 0 100=false∧e=.returned (.tuple #[.agg #[.slice none 0 0,.slice none 0 0,ZI 0,ZI 0,ZI 0,ZI 0],DU,ZI 2])∧Below w w w')∨
 (inR n 0 100=true∧r.tr n.toNat=none∧e=.returned (.tuple #[GH h r,DU,ZI 3])∧Below w w w')∨
 ∃(x:En) (l:List AU) (he hs ha:Hd),inR n 0 100=true∧r.tr n.toNat=some (x,l)∧e=.returned (.tuple #[GH h r,Dj he.A he.n he.c hs.A hs.n hs.c ha.A ha.n ha.c,ZI 0])∧DI w' w.heap.size he hs ha l∧Below w w w'
theorem UL (h:Ev) (r:Al) (n:Int) (w:World) (X:DR w h r) (R:A8 r):
  Calls prog 226 #[EV h,ZI r.src,GU r,ZI n] w (dG h r n w):=by
 have HNR:=fun(W:World) (X:DR W h r)=>VM h r W X R;have HTR:=fun(m:Nat) (hm:m≤100) (W:World) (X:DR W h r)=>Md h r m W X R hm;have HX:=Ai X;clear X R;have E0:Hid (GH h r=GH h r):=rfl;obtain⟨⟨A0,n0,c0⟩,⟨A1,n1,c1⟩⟩:=h;unfold EV GU GH at*;simp only at HNR HTR⊢;have HWI:=fun W=>As n 0 100 W;rcases BA (inR n 0 100) with hi|hi
 rotate_left
 ·rw[hi] at HWI
  go_enter func226,ntmps226
  go_upto_region 1 with fail
  generalize hG:((((w.alloc _).alloc _).alloc _).alloc _)=w1;obtain⟨K0,K1,K2,K3,b0⟩:=Y3 hG;clear hG;have X1:=HX.out.below b0;have e0:=K0.cell;have g0:=K0.lt;have e1:=K1.cell;have g1:=K1.lt
  go_wp2_with fail
  refine(HNR _ X1).mono ?_;rintro e w2 ⟨rfl,b2⟩;replace b0:=An b0 b2;replace K2:=K2.below b2 K2.lt;replace K3:=K3.below b2 K3.lt;clear e0 g0 e1 g1 b2 K0 K1 HNR HX
  go_upto_region 2 with fail
  generalize hG:w2.alloc _=w3;obtain⟨KR,bG⟩:=EX hG;clear hG;replace K2:=K2.below bG K2.lt;replace K3:=K3.below bG K3.lt;replace b0:=An b0 bG;clear bG;generalize w2.heap.size=QR at KR⊢;have e2:=K2.cell;have f2:=K2.frozen;have g2:=K2.lt;have e3:=K3.cell;have f3:=K3.frozen;have g3:=K3.lt
  go_wp2_with fail
  refine(HWI _).mono ?_;rintro e w' ⟨rfl,rfl⟩;go_wp2;refine AS (v:=.tuple #[.agg #[.slice none 0 0,.slice none 0 0,ZI 0,ZI 0,ZI 0,ZI 0],DU,ZI 2]) (by simp[results,results226,go_sem,e2,e3]) rfl ?_
  exact Or.inl ⟨hi,rfl,Ax⟩
 ·obtain⟨m,rfl⟩: ∃m:Nat,n=(m:Int):=⟨n.toNat,by have:=Ac hi;omega⟩
  have hm:m≤100:=by have:=Ac hi;omega
  rw[hi] at HWI;have HT:=HTR m hm;clear HTR
  go_enter func226,ntmps226
  go_upto_region 1 with fail
  generalize hG:((((w.alloc _).alloc _).alloc _).alloc _)=w1;obtain⟨K0,K1,K2,K3,b0⟩:=Y3 hG;clear hG;have X1:=HX.out.below b0;have e0:=K0.cell;have g0:=K0.lt;have e1:=K1.cell;have g1:=K1.lt
  go_wp2_with fail
  refine(HNR _ X1).mono ?_;rintro e w2 ⟨rfl,b2⟩;replace b0:=An b0 b2;replace X1:=X1.below b2;replace K2:=K2.below b2 K2.lt;replace K3:=K3.below b2 K3.lt;clear e0 g0 e1 g1 b2 K0 K1 HNR HX
  go_upto_region 2 with fail
  generalize hG:w2.alloc _=w3;obtain⟨KR,bG⟩:=EX hG;clear hG;replace K2:=K2.below bG K2.lt;replace K3:=K3.below bG K3.lt;replace X1:=X1.below bG;replace b0:=An b0 bG;clear bG;generalize w2.heap.size=QR at KR⊢;have e2:=K2.cell;have f2:=K2.frozen;have g2:=K2.lt;have e3:=K3.cell;have f3:=K3.frozen;have g3:=K3.lt
  go_wp2_with fail
  refine(HWI _).mono ?_;rintro e w' ⟨rfl,rfl⟩;have eR:=KR.cell;have HT1:=HT _ X1;have hw33:w+1+1+1<w3.heap.size:=K3.lt;clear HT
  go_wp2_with fail
  refine HT1.mono ?_;clear HT1 eR;rintro e w4 (⟨htr,rfl,b4⟩|⟨x,l,⟨EA,en,ec⟩,⟨SA,sn,sc⟩,⟨DA,an,ac⟩,htr,rfl,T,b4⟩)
  ·replace b0:=An b0 b4;replace K2:=K2.below b4 K2.lt;replace K3:=K3.below b4 K3.lt;replace KR:=KR.below b4 KR.lt;clear e2 f2 g2 e3 f3 g3;have h43:w+1+1+1<w4.heap.size:=K3.lt
   go_upto_region 7 with fail
   generalize hG:w4.alloc _=w5;obtain⟨KT,bG⟩:=EX hG;clear hG;replace KR:=KR.below bG KR.lt;replace K2:=K2.below bG K2.lt;replace K3:=K3.below bG K3.lt;replace b0:=An b0 bG;clear bG;generalize w4.heap.size=QT at KT h43⊢;have eR:=KR.cell;have eT:=KT.cell;have e2:=K2.cell;have f2:=K2.frozen;have g2:=K2.lt;have e3:=K3.cell;have f3:=K3.frozen;have g3:=K3.lt
   go_region
   all_goals
    go_wp2;refine AS (v:=.tuple #[AV A0 n0 c0 A1 n1 c1 r.src r.c r.s r.h,DU,ZI 3]) (by simp[results,results226,go_sem,e2,e3]) rfl ?_
    exact Or.inr (Or.inl ⟨hi,htr,rfl,Ax⟩)
  ·replace b0:=An b0 b4;replace K2:=K2.below b4 K2.lt;replace K3:=K3.below b4 K3.lt;replace KR:=KR.below b4 KR.lt;simp only;clear e2 f2 g2 e3 f3 g3;have KT:=Br w4 223 (Dj EA en ec SA sn sc DA an ac);have h43:w+1+1+1<w4.heap.size:=K3.lt;have hz4:=b0.size;replace KR:=KR.alloc (.cells (Dj EA en ec SA sn sc DA an ac) 223);replace K2:=K2.alloc (.cells (Dj EA en ec SA sn sc DA an ac) 223);replace K3:=K3.alloc (.cells (Dj EA en ec SA sn sc DA an ac) 223);have T4:=T.below ((AP _ _).alloc Bk (.cells (Dj EA en ec SA sn sc DA an ac) 223));replace b0:Below w w (w4.alloc (.cells (Dj EA en ec SA sn sc DA an ac) 223)):=Ax
   go_upto_region 7 with fail
   generalize w4.alloc _=w5 at KR KT K2 K3 T4 b0⊢;generalize w4.heap.size=QT at KT h43⊢;have HT5:=Ai T4;clear T T4;have eR:=KR.cell;have eT:=KT.cell;have e2:=K2.cell;have f2:=K2.frozen;have g2:=K2.lt;have e3:=K3.cell;have f3:=K3.frozen;have g3:=K3.lt
   go_region
   all_goals
    go_wp2;refine AS (v:=.tuple #[AV A0 n0 c0 A1 n1 c1 r.src r.c r.s r.h,Dj EA en ec SA sn sc DA an ac,ZI 0]) (by simp[results,results226,go_sem,e2,e3]) rfl ?_
    refine Or.inr (Or.inr ⟨x,l,⟨EA,en,ec⟩,⟨SA,sn,sc⟩,⟨DA,an,ac⟩,hi,htr,rfl,?_,Ax⟩);refine DI.low (B:=w3.heap.size) ?_ Aa
    repeat(first|with_reducible exact HT5.out|with_reducible refine DI.drew ?_|with_reducible refine DI.cell ?_ (by omega) _)
def trC (r:Al) (n:Int):Int:=if inR n 0 100=true then(match r.tr n.toNat with|none=>3|some _=>0) else 2
def UY (r:Al) (n:Int) (w:World) (e:Ending) (w':World):Prop:=
 (trC r n≠0∧e=.returned (.tuple (Dr none 0 0 0 false 0 0 (trC r n)))∧Below w w w')∨
 ∃(x:En) (l:List AU) (he:Hd),trC r n=0∧inR n 0 100=true∧r.tr n.toNat=some (x,l)∧e=.returned (.tuple #[.slice he.A he.n he.c,Hy x,ZI 0])∧he.n=l.length∧he.n≤100∧Rd w' he.A he.n (ints (C2 l))∧(∀ad,he.A=some ad→0<he.n→w≤ad.block)∧Below w w w'
theorem JH {r:Al} {n:Int} {w w':World} {cd:Int} (h:trC r n=cd) (h0:cd≠0) (b:Below w w w'):UY r n w (.returned (.tuple (Dr none 0 0 0 false 0 0 cd))) w':=Or.inl ⟨by rw[h];exact h0,by rw[h],b⟩
theorem LQ (h:Ev) (r:Al) (n:Int) (w:World) (X:DR w h r) (R:A8 r):
  Calls prog 180 #[EV h,ZI r.src,GU r,ZI n] w (UY r n w):=by
 have HTO:=fun(W:World) (X:DR W h r)=>UL h r n W X R;have HOK:=Ai R.tr_ok;have HLA:=fun(he hs ha:Hd) (l:List AU) (W:World) (B:Nat) (T:DI W B he hs ha l) (hl:l.length≤100)=>Hj h r he hs ha l W B T hl;have HX:=Ai X;clear X R;obtain⟨⟨A0,n0,c0⟩,⟨A1,n1,c1⟩⟩:=h;unfold dG EV GU GH at*;simp only at HTO HLA⊢
 go_enter func180,ntmps180
 go_upto_region 1 with fail
 generalize hG:(((w.alloc _).alloc _).alloc _)=w1;obtain⟨K0,K1,K2,b0⟩:=WF hG;clear hG;have X1:=HX.out.below b0;have e0:=K0.cell;have e1:=K1.cell;have HT1:=HTO _ X1;clear HTO HX X1
 go_wp2_with fail
 refine HT1.mono ?_;clear HT1;rintro e w2 (⟨hi,rfl,b2⟩|⟨hi,htr,rfl,b2⟩|⟨x,l,⟨EA,en,ec⟩,⟨SA,sn,sc⟩,⟨DA,an,ac⟩,hi,htr,rfl,T,b2⟩)
 ·have hcd:trC r n=2:=by unfold trC;rw[hi];rfl
  replace b0:=An b0 b2;replace K2:=((K2.below b2 K2.lt).alloc (.cells #[.slice none 0 0,.slice none 0 0,ZI 0,ZI 0,ZI 0,ZI 0] 221)).alloc (.cells DU 223);clear e0 e1 K0 K1 HLA;have hz:=b0.size;replace b0:Below w w ((w2.alloc (.cells #[.slice none 0 0,.slice none 0 0,ZI 0,ZI 0,ZI 0,ZI 0] 221)).alloc (.cells DU 223)):=Ax
  go_upto_region 2 with fail
  generalize(w2.alloc _).alloc _=w3 at K2 b0⊢;have e2:=K2.cell;have f2:=K2.frozen;have g2:=K2.lt;go_wp2;refine AS (v:=.tuple (Dr none 0 0 0 false 0 0 2)) (by simp[results,results180,go_sem,e2,g2]) rfl ?_
  exact JH hcd Ah Ax
 ·have hcd:trC r n=3:=by unfold trC;rw[AA hi,htr]
  replace b0:=An b0 b2;replace K2:=((K2.below b2 K2.lt).alloc (.cells (AV A0 n0 c0 A1 n1 c1 r.src r.c r.s r.h) 221)).alloc (.cells DU 223);clear e0 e1 K0 K1 HLA;have hz:=b0.size;replace b0:Below w w ((w2.alloc (.cells (AV A0 n0 c0 A1 n1 c1 r.src r.c r.s r.h) 221)).alloc (.cells DU 223)):=Ax
  go_upto_region 2 with fail
  generalize(w2.alloc _).alloc _=w3 at K2 b0⊢;have e2:=K2.cell;have f2:=K2.frozen;have g2:=K2.lt;go_wp2;refine AS (v:=.tuple (Dr none 0 0 0 false 0 0 3)) (by simp[results,results180,go_sem,e2,g2]) rfl ?_
  exact JH hcd Ah Ax
 ·have hcd:trC r n=0:=by unfold trC;rw[AA hi,htr]
  obtain⟨-,hll,-,hlast⟩:=HOK.out _ _ _ htr;have hl100:l.length≤100:=by have:=Ac hi;omega
  clear hll;replace b0:=An b0 b2;simp only;have HEN:Hid (en=l.length):=T.en;have hq2:w+1+1<w2.heap.size:=by have:=K2.lt;have:=b2.size;omega
  have hw1:w+1+1<w1.heap.size:=K2.lt;replace K2:=((K2.below b2 K2.lt).alloc (.cells (AV A0 n0 c0 A1 n1 c1 r.src r.c r.s r.h) 221)).alloc (.cells (Dj EA en ec SA sn sc DA an ac) 223);clear e0 e1 K0 K1 b2;have KR:=(Blk.newN (g:=w2) w2 221 (AV A0 n0 c0 A1 n1 c1 r.src r.c r.s r.h) Cr).alloc (.cells (Dj EA en ec SA sn sc DA an ac) 223);have KT:=Blk.newN (g:=w2+1) (w2.alloc (.cells (AV A0 n0 c0 A1 n1 c1 r.src r.c r.s r.h) 221)) 223 (Dj EA en ec SA sn sc DA an ac) Cr;have T3:=T.below (show Below w2 w2 ((w2.alloc (.cells (AV A0 n0 c0 A1 n1 c1 r.src r.c r.s r.h) 221)).alloc (.cells (Dj EA en ec SA sn sc DA an ac) 223)) from Ax);have hz:=b0.size;replace b0:Below w w ((w2.alloc (.cells (AV A0 n0 c0 A1 n1 c1 r.src r.c r.s r.h) 221)).alloc (.cells (Dj EA en ec SA sn sc DA an ac) 223)):=Ax
  go_upto_region 4 with fail
  generalize(w2.alloc _).alloc _=w3 at K2 KR KT T3 b0⊢;obtain⟨QR,hQR⟩: ∃q,w2.heap.size=q:=⟨_,rfl⟩;obtain⟨QT,hQT⟩: ∃q,w2.heap.size+1=q:=⟨_,rfl⟩;rw[hQT] at KT⊢;rw[hQR] at KR⊢;have n2:QR≠w.heap.size+1+1:=Aa;have n3:QT≠w.heap.size+1+1:=Aa;clear hQR hQT hz hq2 T;have HL:=fun(W:World) (b:Below w3 w3 W)=>HLA ⟨EA,en,ec⟩ ⟨SA,sn,sc⟩ ⟨DA,an,ac⟩ l W w1.heap.size (T3.below b) hl100;rw[←hlast] at HL;simp only at HL;have HT3:=Ai T3;clear HLA T3 hlast;unfold Hy at HL;have hs0: ∀o,w3.cell? ⟨QT,o,none⟩=((Dj EA en ec SA sn sc DA an ac):Array Value)[o]? :=KT.cell;have hs1: ∀o,w3.cell? ⟨QR,o,none⟩=((AV A0 n0 c0 A1 n1 c1 r.src r.c r.s r.h):Array Value)[o]? :=KR.cell
  go_region_held3 (fun w'=>(∀o,w'.cell? ⟨QT,o,none⟩=((Dj EA en ec SA sn sc DA an ac):Array Value)[o]?)∧(∀o,w'.cell? ⟨QR,o,none⟩=((AV A0 n0 c0 A1 n1 c1 r.src r.c r.s r.h):Array Value)[o]?))
   (exact IJ)
   (first
    |((fail_if_success (clear hbu0));go_at_call 227;refine(HL _ Ax).mono ?_;rintro e u0 ⟨rfl,bu0⟩;have hbu0:Below w3 w3 u0:=(show Below w3 w3 _ from Ax).trans (bu0.mono C9);have hzu0:=hbu0.size;have hxu0:=bu0.size;(try simp at hxu0);have hs0u0: ∀o,u0.cell? ⟨QT,o,none⟩=((Dj EA en ec SA sn sc DA an ac):Array Value)[o]? :=fun o=>(KT.below hbu0 KT.lt).cell o;have hy0u0:QT<u0.heap.size:=(KT.below hbu0 KT.lt).lt;have hs1u0: ∀o,u0.cell? ⟨QR,o,none⟩=((AV A0 n0 c0 A1 n1 c1 r.src r.c r.s r.h):Array Value)[o]? :=fun o=>(KR.below hbu0 KR.lt).cell o;have hy1u0:QR<u0.heap.size:=(KR.below hbu0 KR.lt).lt;have es0u0:=fun o=>(K2.below hbu0 K2.lt).cell o;have fs0u0:=fun o=>(K2.below hbu0 K2.lt).frozen o;have gs0u0:=(K2.below hbu0 K2.lt).lt))
  all_goals
   have B5:=An b0 hbu0;have T5:=HT3.out.below hbu0;go_wp2;refine AS (v:=.tuple (Dr EA en ec x.k x.dn x.lo x.hi 0)) (by simp[results,results180,go_sem,es0u0]) rfl ?_
   refine Or.inr ⟨x,l,⟨EA,en,ec⟩,hcd,hi,htr,rfl,HEN.out,by have:=HEN.out;simp only;omega,?_,fun ad e h=>by have h1:w1≤ad.block:=T5.be ad e h;omega,Ax⟩
   have T6:DI _ w1.heap.size ⟨EA,en,ec⟩ ⟨SA,sn,sc⟩ ⟨DA,an,ac⟩ l:=(((T5.cell (b:=w.heap.size+1+1) (i:=0) hw1 (ZI x.k)).cell (b:=w.heap.size+1+1) (i:=1) hw1 (.bool x.dn)).cell (b:=w.heap.size+1+1) (i:=2) hw1 (ZI x.lo)).cell (b:=w.heap.size+1+1) (i:=3) hw1 (ZI x.hi);exact T6.re
def fD (e:Int):UInt8:=if e=1 then 99 else if e=2 then 116 else if e=3 then 115 else 98
def hisL (evs:List Int):Bs:=evs.map fD
theorem Ts {evs:List Int} {k:Nat} (hk:k<evs.length):hisL (evs.take (k+1))=hisL (evs.take k)++ [fD (evs.getD k 0)]:=by
 unfold hisL;rw[List.take_succ_eq_append_getElem hk,List.map_append,CJ hk];rfl
theorem I9 (A:Option Addr) (n c:Nat) (evs:List Int) (w:World) (hn:n≤100) (hr:Rd w A n (ints evs)) (ha:BV evs 1 4=true):
  (BT 182 #[.slice A n c] w (.string ⟨(hisL evs).toArray⟩):Prop):=by
 have hl:evs.length=n:=by have:=hr.len;exact this
 have HW:=fun(W:World) (R:Rd W A n (ints evs))=>Fb A n c evs 1 4 W Aa R;rw[ha] at HW;have hI: ¬(100:Int)<(n:Int):=Aa;have x1:(ByteArray.mk #[99,116,115,98]).extract 0 1=⟨#[99]⟩:=Ah;have x2:(ByteArray.mk #[99,116,115,98]).extract 1 2=⟨#[116]⟩:=Ah;have x3:(ByteArray.mk #[99,116,115,98]).extract 2 3=⟨#[115]⟩:=Ah;have x4:(ByteArray.mk #[99,116,115,98]).extract 3 4=⟨#[98]⟩:=Ah
 go_enter func182,ntmps182
 go_wp2_with fail
 refine(HW _ hr).mono ?_;rintro e w' ⟨rfl,rfl⟩;clear HW
 go_wp2_with fail
 go_loopw [3,16] (fun t i wr=> ∃k:Nat,k≤n∧i=.int .i64 k∧t=.string ⟨(hisL (evs.take k)).toArray⟩∧Below w w wr) (fun _ i _=>n-(intOf i).toNat)
 case atStart=>exact⟨0,AZ _,rfl,rfl,AP _ _⟩
 case round=>
  obtain⟨k,hk,rfl,rfl,b⟩:=hrel
  by_cases hlt:k<n
  ·have hltI:(k:Int)<(n:Int):=Aa;obtain⟨ad,hA,hc⟩:=(hr.below b).int hlt;subst hA;have HT:=Ai (Ts (evs:=evs) (k:=k) Aa);have hv:=EZ ha (k:=k) Aa;have HL:=fun(u:Bs)=>AY (hisL (evs.take k)) u;have htl:(hisL (evs.take k)).length=k:=by unfold hisL;rw[List.length_map,Ju];omega
   have hll: ¬9223372036854775807<(hisL (evs.take k)).length+1:=Aa;clear htl;generalize hisL (evs.take k)=t at*;generalize evs.getD k 0=v at*;obtain rfl|rfl|rfl|rfl:v=1∨v=2∨v=3∨v=4:=Aa
   ·go_wp2
    go_roundw
    case rel=>exact⟨k+1,by omega,by go_num,(by first|(rw[HT.out];rfl)|exact(AN Value.string (HL _)).trans (by rw[HT.out];rfl)),b⟩
    case measure=>simp[intOf];omega
   ·go_wp2
    go_roundw
    case rel=>exact⟨k+1,by omega,by go_num,(by first|(rw[HT.out];rfl)|exact(AN Value.string (HL _)).trans (by rw[HT.out];rfl)),b⟩
    case measure=>simp[intOf];omega
   ·go_wp2
    go_roundw
    case rel=>exact⟨k+1,by omega,by go_num,(by first|(rw[HT.out];rfl)|exact(AN Value.string (HL _)).trans (by rw[HT.out];rfl)),b⟩
    case measure=>simp[intOf];omega
   ·go_wp2
    go_roundw
    case rel=>exact⟨k+1,by omega,by go_num,(by first|(rw[HT.out];rfl)|exact(AN Value.string (HL _)).trans (by rw[HT.out];rfl)),b⟩
    case measure=>simp[intOf];omega
  ·obtain rfl:n=k:=Aa;have ht:evs.take n=evs:=ED Aa;have hltI: ¬(n:Int)<(n:Int):=Aa;rw[ht];go_wp2;go_ret;exact⟨rfl,b⟩
end Go.Proofs.YtkndcebhjcfphaaGreatDoor
