import Derived.Test.YtkndcebhjcfphaaGreatDoorZAb
import Derived.Test.YtkndcebhjcfphaaGreatDoorZG
import Derived.StillTailTactics
namespace Go.Proofs.YtkndcebhjcfphaaGreatDoor
open Go.RowKit Go.Proofs.Tryz
set_option maxRecDepth 100000
set_option maxHeartbeats 4000000
set_option linter.all false
theorem ZJ (A:Option Addr) (n c:Nat) (w:World) (_:n<=9223372036854775807):
  (GK 74 #[.slice A n c] w (ZI n):Prop):=by
 go_enter func74,ntmps74
 go_wp2;go_ret;exact⟨rfl,rfl⟩
theorem MM (b f:Option Addr) (n m c d:Nat) (ts k:List Int) (w:World) (G:GY ts k) (q:Rd w b n (ints ts)) (r:Rd w f m (ints k)):
  (BT 286 #[CH b n c f m d] w (.bool true):Prop):=by
 have a:=Br w 205 (CH b n c f m d);have i:Below w w (w.alloc (.cells (CH b n c f m d) 205)):=BU;have y:=q.len;have z:=r.len;have g:=G.n0;have v:=G.n1;have x:=G.eq;obtain rfl:n=m:=Aa;have A:inR (n:Int) 1 40=true:=CN Aa Aa;have t:=Ai G.ris;have HV:=Ai G.lev;clear G y z x g;have p:n<=40:=by have:=Ac A;omega
 clear v
 go_enter func286,ntmps286
 go_upto_region 1 with fail
 generalize w.alloc _=B at a i⊢;have u:=a.cell;have g:=a.lt
 go_wp2_with fail
 refine(ZJ _ _ _ _ Aa).mono ?_;rintro e s ⟨rfl,rfl⟩
 go_wp2_with fail
 refine(As _ _ _ _).mono ?_;rintro e s ⟨rfl,rfl⟩
 go_wp2_with fail
 refine(Fx _ _ _ ts _ _ Aa (q.below i)).mono ?_;rw[t.out];rintro e C ⟨rfl,j⟩;have l:=An i j;replace a:=a.below j g;replace u:=a.cell;replace g:=a.lt;clear j
 go_wp2_with fail
 refine(Fb _ _ _ k _ _ _ Aa (r.below l)).mono ?_;rw[HV.out];rintro e s ⟨rfl,rfl⟩;go_wp2;go_ret;exact⟨rfl,l⟩
def lvLo (ts ls:List Int) (t:Int):Int:=if levC ts t=0 then levLo ts ls t else 0
def lvHi (ts ls:List Int) (t:Int):Int:=if levC ts t=0 then levHi ts ls t else 0
theorem Uc (A0 A1:Option Addr) (n c d:Nat) (ts f:List Int) (t:Int) (w:World) (G:GY ts f) (r0:Rd w A0 n (ints ts)) (r1:Rd w A1 n (ints f)) (ai:0<=t) (aj:t<=1000000):
  (BT 287 (EK A0 n c A1 n d t) w (.tuple (BN (lvLo ts f t) (lvHi ts f t) (levC ts t))):Prop):=by
 have R:ts.length=n:=r0.len;have Q:=am G.ris;have n0:=G.n0;have n1:n<=40:=by have:=G.n1;omega
 have T:=Ai G;have x:inR t 0 1000000=true:=CN ai aj
 go_enter func287,ntmps287
 go_upto_region 1 with fail
 generalize hG:(w.alloc _).alloc _=w1;obtain⟨O,z,p⟩:=Qg hG;clear hG;have g2:=O.lt;have q:=z.lt;have e2:=O.cell
 go_wp2_with fail
 refine(Px _ _ _ ts t _ Aa (r0.below p) Q).mono ?_;rintro e M ⟨rfl,b2⟩;replace O:=O.below b2 g2;replace z:=z.below b2 q;replace p:=An p b2;replace g2:=O.lt;replace q:=z.lt;replace e2:=O.cell;have C:=z.cell;have D:=z.frozen;clear b2;have ah:=bR ts t;have E:=λh h2=>XR (t:=t) Q h h2;have I:=cE (t:=t) Q n0;have H:=λh h2=>cD (t:=t) Q h h2;rw[R] at ah E I H;have S:Hid (∀h:cutN ts t<n,ts.getD (cutN ts t) 0=t->levC ts t=0):=E;have N:Hid ((cutN ts t=0∧ ¬ts.getD 0 0=t)∨cutN ts t=n->levC ts t=4):=I;have U:Hid (cutN ts t≠0->cutN ts t<n->levC ts t=0):=H;have l:Hid (levLo ts f t=if ts.getD (cutN ts t) 0=t then f.getD (cutN ts t) 0 else f.getD (cutN ts t-1) 0+(f.getD (cutN ts t) 0-f.getD (cutN ts t-1) 0)*(t-ts.getD (cutN ts t-1) 0)/(ts.getD (cutN ts t) 0-ts.getD (cutN ts t-1) 0)):=rfl;have j:Hid (levHi ts f t=if ts.getD (cutN ts t) 0=t then f.getD (cutN ts t) 0 else f.getD (cutN ts t-1) 0+ -(-((f.getD (cutN ts t) 0-f.getD (cutN ts t-1) 0)*(t-ts.getD (cutN ts t-1) 0))/(ts.getD (cutN ts t) 0-ts.getD (cutN ts t-1) 0))):=rfl;have V:=Ai Q;have F:=Ai (LG (ts:=ts) (t:=t));clear E I H Q G n0;generalize cutN ts t=i at*
 by_cases hi:i<n
 ·obtain⟨ad,rfl,hx⟩:=(r0.below p).int hi;obtain⟨bd,rfl,hy⟩:=(r1.below p).int hi
  by_cases r:ts.getD i 0=t
  ·have m:Hid (levC ts t=0):=S.out hi r;have HV:Hid (lvLo ts f t=f.getD i 0∧lvHi ts f t=f.getD i 0):=by unfold Hid lvLo lvHi;rw[m.out,AA rfl,AA rfl,l.out,j.out,AA r,AA r];exact⟨rfl,rfl⟩
   have hd1:decide (i<n)=true:=BC hi;have hd2:decide (ts.getD i 0=t)=true:=BC r;rw[hd1,hd2];generalize f.getD i 0=y at*;clear hx hd2 r S N U l j
   go_wp2_with fail
   refine(As _ _ _ _).mono ?_;rw[x];rintro e Z ⟨rfl,rfl⟩
   go_wp2_with fail
   go_still_tail 11,We51ceQ
   have u:Blk M.drew (w.heap.size+1) 136 Cq:=z;have W:Below w w M.drew:=CO p;change wpList _ _ _ _ _ M.drew;clear e2 C D g2 q;generalize M.drew=w3 at u W⊢;have C:=u.cell;have D:=u.frozen;have q:=u.lt;go_wp2;refine AS (v:=.tuple (BN y y 0)) (by simp[results,results287,go_sem,C,D,q]) rfl ⟨by rw[HV.out.1,HV.out.2,m.out],?_⟩
   repeat(first|with_reducible exact W|refine Below.setCell ?_ (by simp<;>omega) _)
  ·have hd1:decide (i<n)=true:=BC hi;have hd2:decide (ts.getD i 0=t)=false:=BR r
   by_cases h0:i=0
   ·have m:Hid (levC ts t=4):=N.out (.inl ⟨h0,by rw[<-h0];exact r⟩)
    have HV:Hid (lvLo ts f t=0∧lvHi ts f t=0):=by unfold Hid lvLo lvHi;rw[m.out];exact⟨rfl,rfl⟩
    rw[hd1,hd2];clear hx hy hd2 r S N U l j F;subst h0
    go_wp2_with fail
    refine(As _ _ _ _).mono ?_;rw[x];rintro e Z ⟨rfl,rfl⟩;go_wp2;refine AS (v:=.tuple (BN 0 0 4)) (by simp[results,results287,go_sem,C,D,q]) rfl ⟨by rw[HV.out.1,HV.out.2,m.out],?_⟩
    repeat(first|with_reducible exact p|refine Below.setCell ?_ (by simp<;>omega) _)
   ·obtain⟨k,rfl⟩: ∃k,i=k+1:=⟨i-1,by omega⟩
    have m:Hid (levC ts t=0):=U.out h0 hi
    have HV:Hid (lvLo ts f t=f.getD k 0+(f.getD (k+1) 0-f.getD k 0)*(t-ts.getD k 0)/(ts.getD (k+1) 0-ts.getD k 0)∧lvHi ts f t=f.getD k 0+ -(-((f.getD (k+1) 0-f.getD k 0)*(t-ts.getD k 0))/(ts.getD (k+1) 0-ts.getD k 0))):=by
     have a:=l.out;have b:=j.out;rw[Ak r,Nat.add_sub_cancel] at a b;unfold Hid lvLo lvHi;rw[m.out,AA rfl,AA rfl,a,b];exact⟨rfl,rfl⟩
    obtain⟨_,⟨⟩,ak⟩:=(r0.below p).int (show k<n by omega)
    obtain⟨_,⟨⟩,an⟩:=(r1.below p).int (show k<n by omega)
    have hz:=V.out k (k+1) Aa (by rw[R];exact hi)
    have hA:=T.out.tm (k:=k) (by rw[R];omega)
    have hB:=T.out.tm (k:=k+1) (by rw[R];exact hi)
    have hC:=T.out.lv (k:=k) (by rw[R];omega)
    have hD:=T.out.lv (k:=k+1) (by rw[R];exact hi)
    rw[hd1,hd2];clear hd2 r S N U l j F;generalize ts.getD k 0=s at*;generalize ts.getD (k+1) 0=L at*;generalize f.getD k 0=Y at*;generalize f.getD (k+1) 0=lB at*;have hp:=VL (a:=lB-Y) (b:=t-s) (A:=4000) (B:=1000000) Aa Aa Aa Aa;obtain⟨g,X⟩: ∃b,(lB-Y)*(t-s)=b:=⟨_,rfl⟩;rw[X] at hp HV;have aG:(k:Int)+1<(n:Int):=Aa;have av: ¬((k:Int)+1=(n:Int)):=Aa;have aw: ¬((k:Int)+1=0):=Aa;have aA:(0:Int)<=(k:Int):=Aa;have aB:(k:Int)<(n:Int):=Aa;have aC:(0:Int)<=(k:Int)+1:=Aa;have aD:((k:Int)+1).toNat=k+1:=Aa;have aE:k<n:=Aa;rw[Bf ad (k+1) Aa] at hx;rw[Bf bd (k+1) Aa] at hy;have w1:=Bg (k:Int);have aK:=Bg (L-s);have aM:=Bg (lB-Y);have aN:=Bg (t-s);have aO:=Bg g;have aF:((k:Int)+1==0)=false:=W7;have au:((k:Int)+1==(n:Int))=false:=W7
    go_wp2_with fail
    refine(As _ _ _ _).mono ?_;rw[x];rintro e Z ⟨rfl,rfl⟩
    go_wp2_with fail
    go_quiet (fail)
    revert nq;intro J
    go_wp2_with fail
    go_quiet (fail)
    revert nq;intro K;have qb:=Fc (a:=g) (b:=L-s) Aa Aa Aa;have qc:=Fc (a:= -g) (b:=L-s) Aa Aa Aa
    go_wp2_with fail
    refine(Ec g (L-s) _ Aa Aa Aa Aa).mono ?_;rintro e Z ⟨rfl,rfl⟩
    go_wp2_with fail
    refine(Ex g (L-s) _ Aa Aa Aa Aa).mono ?_;rintro e Z ⟨rfl,rfl⟩;have u:Blk (M.drewN (J+K)) (w.heap.size+1) 136 Cq:=z;have W:Below w w (M.drewN (J+K)):=Ba p _;clear e2 C D g2 q hx hy ak an X;generalize M.drewN (J+K)=w3 at u W⊢;have C:=u.cell;have D:=u.frozen;have q:=u.lt;go_wp2;refine AS (v:=.tuple (BN (Y+g/(L-s)) (Y+ -(-g/(L-s))) 0)) (by simp[results,results287,go_sem,C,D,q]) rfl ⟨by rw[HV.out.1,HV.out.2,m.out],?_⟩
    repeat(first|with_reducible exact W|refine Below.setCell ?_ (by simp<;>omega) _)
 ·obtain rfl:n=i:=Aa;have m:Hid (levC ts t=4):=N.out (.inr rfl);have HV:Hid (lvLo ts f t=0∧lvHi ts f t=0):=by unfold Hid lvLo lvHi;rw[m.out];exact⟨rfl,rfl⟩
  have hd1:decide (n<n)=false:=BR (Nat.lt_irrefl _);have aH:((n:Int)==0)=false:=by rw[Ea];have:=T.out.n0;omega
  rw[hd1,Bool.false_and];clear S N U l j F hd1
  go_wp2_with fail
  refine(As _ _ _ _).mono ?_;rw[x];rintro e Z ⟨rfl,rfl⟩;go_wp2;refine AS (v:=.tuple (BN (0) (0) 4)) (by simp[results,results287,go_sem,C,D,q]) rfl ⟨by rw[HV.out.1,HV.out.2,m.out],?_⟩
  repeat(first|with_reducible exact p|refine Below.setCell ?_ (by simp<;>omega) _)
theorem Tb {a b M:Int} (g: -M<=a) (i:a<=M): -M<=a/b∧a/b<=M:=by
 have d: ∀b:Int,0<b-> -M<=a/b∧a/b<=M:=λb c=>by
  constructor
  ·refine Int.le_ediv_of_mul_le c ?_;have: -M*b<= -M*1:=Int.mul_le_mul_of_nonpos_left Aa Aa;omega
  ·rcases Int.le_total 0 a with h|h
   ·have:=Int.ediv_le_self b h;omega
   ·have j:a/b*b<=a:=Int.ediv_mul_le a Aa;rcases Eg 0 (a/b) with h6|h6
    ·have:=Int.mul_pos h6 c;omega
    ·omega
 rcases Int.lt_trichotomy b 0 with c|c|c
 ·have f:=d (-b) Aa;rw[Int.ediv_neg] at f;omega
 ·subst c;rw[Int.ediv_zero];omega
 ·exact d b c
theorem GY.tmA {ts a:List Int} (G:GY ts a) (k:Nat):0<=ts.getD k 0∧ts.getD k 0<=1000000:=by
 by_cases h:k<ts.length
 ·exact G.tm h
 ·rw[DE,List.getElem?_eq_none Aa];simp
theorem GY.lvA {ts a:List Int} (G:GY ts a) (k:Nat): -2000<=a.getD k 0∧a.getD k 0<=2000:=by
 by_cases h:k<ts.length
 ·exact G.lv h
 ·rw[DE,List.getElem?_eq_none (by have:=G.eq;omega)];simp
theorem dS {ts c:List Int} {t:Int} (G:GY ts c) (j:0<=t) (k:t<=1000000): -5000000000<=lvLo ts c t∧lvLo ts c t<=5000000000∧ -5000000000<=lvHi ts c t∧lvHi ts c t<=5000000000:=by
 have f:=G.lvA (cutN ts t);have g:=G.lvA (cutN ts t-1);have i:=G.tmA (cutN ts t-1);have d:=VL (a:=c.getD (cutN ts t) 0-c.getD (cutN ts t-1) 0) (b:=t-ts.getD (cutN ts t-1) 0) (A:=4000) (B:=1000000) Aa Aa Aa Aa;have e1:=Tb (a:=Ko ts c t) (b:=ZL ts t) (M:=4000000000) (by unfold Ko;omega) (by unfold Ko;omega)
 have e2:=Tb (a:= -Ko ts c t) (b:=ZL ts t) (M:=4000000000) (by unfold Ko;omega) (by unfold Ko;omega)
 unfold lvLo lvHi levLo levHi;clear d
 split
 ·split<;>omega
 ·omega
def redB (ts ls:List Int) (t x y d r:Int):Bool:=DP x y (MT d r (lvLo ts ls t) (lvHi ts ls t)) (MU d r (lvLo ts ls t) (lvHi ts ls t))
def EP (ts ls:List Int) (t x y d r:Int):Int:=if levC ts t=0 then(if redB ts ls t x y d r=true then 0 else 3) else 4
def H6 (ts ls:List Int) (t x y d r:Int):Value:=if EP ts ls t x y d r=0 then .agg (Ziiii x y (MT d r (lvLo ts ls t) (lvHi ts ls t)) (MU d r (lvLo ts ls t) (lvHi ts ls t))) else .agg C8
theorem Ub (ts:List Int) (t:Int):levC ts t=0∨levC ts t=4:=by unfold levC;split<;>simp
theorem CW (x y d r:Int) (w:World) (j: -2000<=d) (k:d<=1000000) (l:0<=r) (m:r<=5000):
  (BT 232 #[Ziiii x y d r] w (Zii (d-r) (d+r)):Prop):=by
 go_enter func232,ntmps232
 go_upto_region 1 with fail
 generalize b:(w.alloc _).alloc _=n;obtain⟨c,a,f⟩:=Qg b;clear b;have e1:=c.cell;have e2:=a.cell;have i:=a.frozen;have g:=a.lt;go_wp2;refine AS (v:=.agg (Zii (d-r) (d+r))) (by simp[results,results232,go_sem,e2,g]) rfl ⟨rfl,?_⟩
 repeat(first|with_reducible exact f|refine Below.setCell ?_ (by simp<;>omega) _)
theorem N5 (B C:Option Addr) (n c q:Nat) (ts j:List Int) (t x y d r:Int) (w:World) (G:GY ts j) (r0:Rd w B n (ints ts)) (r1:Rd w C n (ints j)) (X:0<=t) (Y:t<=1000000) (hs:DP x y d r=true):
  (BT 230 #[Ziiii x y d r,CH B n c C n q,ZI t] w (.tuple #[H6 ts j t x y d r,ZI (EP ts j t x y d r)]):Prop):=by
 have k:=((Br w 65 (Ziiii x y d r)).alloc (.cells (CH B n c C n q) 205)).alloc (.cells C8 65);have z:=(Blk.newN (g:=w+1) (w.alloc (.cells (Ziiii x y d r) 65)) 205 (CH B n c C n q) Cr).alloc (.cells C8 65);have f:=Blk.newN (g:=w+1+1) ((w.alloc (.cells (Ziiii x y d r) 65)).alloc (.cells (CH B n c C n q) 205)) 65 C8 Cr;have l:Below w w (((w.alloc (.cells (Ziiii x y d r) 65)).alloc (.cells (CH B n c C n q) 205)).alloc (.cells C8 65)):=Ax;have HG:=Ai G;have aE:=dS G X Y;have HS:=Ai hs
 have hd:(-2000<=d∧d<=1000000)∧0<=r∧r<=5000:=by
  unfold DP at hs;simp only[CD] at hs;exact⟨Ac hs.1.2,Ac hs.2⟩
 have I:Hid (EP ts j t x y d r=if levC ts t=0 then(if redB ts j t x y d r=true then 0 else 3) else 4):=rfl;have J:Hid (H6 ts j t x y d r=if EP ts j t x y d r=0 then .agg (Ziiii x y (MT d r (lvLo ts j t) (lvHi ts j t)) (MU d r (lvLo ts j t) (lvHi ts j t))) else .agg C8):=rfl;have O:Hid (redB ts j t x y d r=DP x y (MT d r (lvLo ts j t) (lvHi ts j t)) (MU d r (lvLo ts j t) (lvHi ts j t))):=rfl;have ap:=Ub ts t;clear hs G
 go_enter func230,ntmps230
 go_upto_region 1 with fail
 generalize((w.alloc _).alloc _).alloc _=w1 at k z f l⊢;have s:=k.lt;have g4:=z.lt;have p:=f.lt;have e3:=k.cell
 go_wp2_with fail
 refine(EM x y d r _).mono ?_;rw[HS.out];rintro e w2 ⟨rfl,S⟩;replace k:=k.below S s;replace z:=z.below S g4;replace f:=f.below S p;replace l:=An l S;replace s:=k.lt;replace g4:=z.lt;replace p:=f.lt;replace e4:=z.cell;clear S
 go_wp2_with fail
 refine(MM B C n n c q ts j _ HG.out (r0.below l) (r1.below l)).mono ?_;rintro e w3 ⟨rfl,T⟩;replace k:=k.below T s;replace z:=z.below T g4;replace f:=f.below T p;replace l:=An l T;replace s:=k.lt;replace p:=f.lt;replace e4:=z.cell;clear T
 go_wp2_with fail
 refine(Uc B C n c q ts j t _ HG.out (r0.below l) (r1.below l) X Y).mono ?_;rintro e L ⟨rfl,b4⟩;replace k:=k.below b4 s;replace f:=f.below b4 p;replace l:=An l b4;replace s:=k.lt;replace p:=f.lt;replace W:=f.cell;replace f6:=f.frozen;clear b4;clear HG r0 r1;generalize lvLo ts j t=lo at*;generalize lvHi ts j t=hi at*;generalize redB ts j t x y d r=rb at*;generalize levC ts t=lc at*;rcases ap with rfl|rfl
 rotate_left
 ·have HV:Hid (H6 ts j t x y d r=.agg C8∧EP ts j t x y d r=4):=by
   have a:=I.out;rw[Ak Ah] at a;have b:=J.out;rw[a,Ak Ah] at b;exact⟨b,a⟩
  go_wp2;refine AS (v:=.tuple (EJ 0 0 0 0 4)) (by simp[results,results230,go_sem,W,p]) rfl ⟨by rw[HV.out.1,HV.out.2],?_⟩
  have aF:=l.size
  repeat(first|with_reducible exact l|refine Below.setCell ?_ (by simp<;>omega) _|refine Below.alloc ?_ (by simp<;>omega) _)
 go_upto_region 4 with fail
 have F:=Br L 136 (Zii lo hi);have b5:Below L L (L.alloc (.cells (Zii lo hi) 136)):=BU;replace k:=k.below b5 s;replace f:=f.below b5 p;replace l:=An l b5;replace s:=k.lt;replace p:=f.lt;replace e3:=k.cell;clear b5;generalize L.alloc _=w5 at*;have g8:=F.lt;generalize L.heap.size=p8 at*
 go_wp2_with fail
 refine(CW x y d r _ hd.1.1 hd.1.2 hd.2.1 hd.2.2).mono ?_;rintro e M ⟨rfl,U⟩;replace F:=F.below U g8;replace g8:=F.lt;replace k:=k.below U s;replace f:=f.below U p;replace l:=An l U;replace s:=k.lt;replace p:=f.lt;clear U
 go_upto_region 7 with fail
 have R:=Br M 136 (Zii (d-r) (d+r));have V:Below M M (M.alloc (.cells (Zii (d-r) (d+r)) 136)):=BU;replace F:=F.below V g8;replace e8:=F.cell;replace k:=k.below V s;replace f:=f.below V p;replace l:=An l V;replace s:=k.lt;replace p:=f.lt;clear V;generalize M.alloc _=w7 at*;generalize M.heap.size=aG at*;have am:=R.cell;have u1:=Bg (d-r-hi);have u2:=Bg (d+r-lo)
 go_quiet (fail)
 revert nq;intro Z
 go_wp2_with fail
 have N:Hid (MT d r lo hi=(d-r-hi+(d+r-lo))/2∧MU d r lo hi= -(-(d+r-lo-(d-r-hi))/2)):=⟨rfl,rfl⟩;have u3:=Bg (d-r-hi+(d+r-lo));have u4:=Bg (d+r-lo-(d-r-hi));have m1: -4611686018427387904<=d-r-hi+(d+r-lo)∧d-r-hi+(d+r-lo)<=4611686018427387904:=Aa;have m2: -4611686018427387904<=d+r-lo-(d-r-hi)∧d+r-lo-(d-r-hi)<=4611686018427387904:=Aa;have b8:Below w7 w7 (w7.drewN Z):=BW _ _;replace k:=k.below b8 s;replace f:=f.below b8 p;replace l:=An l b8;replace s:=k.lt;replace p:=f.lt;replace e3:=k.cell;clear b8;clear F R e8 am g8 u1 u2;generalize w7.drewN Z=K at*;generalize d-r-hi=low at*;generalize d+r-lo=i at*;have hS: ∀o,K.cell? ⟨w,o,none⟩= (Ziiii x y d r:Array Value)[o]? :=e3
 go_region_held3 (λw'=> ∀o,w'.cell? ⟨w,o,none⟩= (Ziiii x y d r:Array Value)[o]?)
  (first|(with_reducible assumption)|((with_reducible refine AK ?_ ?_ _)<;>first|(with_reducible assumption)|omega|(simp;done)|(simp;omega))|((with_reducible refine AC ?_);(with_reducible refine AK ?_ ?_ _)<;>first|(with_reducible assumption)|omega|(simp;done)|(simp;omega))|(intro o;go_keep))
  (first
   |(go_at_call 241;refine(Ec (low+i) 2 _ m1.1 m1.2 Ah Ah).mono ?_;rintro e w' ⟨rfl,rfl⟩)
   |(go_at_call 196;refine(Ex (i-low) 2 _ m2.1 m2.2 Ah Ah).mono ?_;rintro e w' ⟨rfl,rfl⟩))
 all_goals
  have u:=Br K 65 (Ziiii x y ((low+i)/2) (-(-(i-low)/2)));have b9:Below K K (K.alloc (.cells (Ziiii x y ((low+i)/2) (-(-(i-low)/2))) 65)):=BU;replace f:=f.below b9 p;replace l:=An l b9;clear b9 k z s g4 e3 e4 W f6 hS u3 u4 m1 m2;replace p:=f.lt;generalize K.alloc _=w9 at*;generalize K.heap.size=aH at*;have HB:=O.out;rw[N.out.1,N.out.2] at HB;have aj:=Ai HB;clear HB;have Q:Hid (H6 ts j t x y d r=if EP ts j t x y d r=0 then .agg (Ziiii x y ((low+i)/2) (-(-(i-low)/2))) else .agg C8):=by have a:=J.out;rw[N.out.1,N.out.2] at a;exact a
  clear J O N;generalize(low+i)/2=D at*;generalize-(-(i-low)/2)=E at*;have an:=u.cell;have ao:=u.lt
  go_wp2_with fail
  refine(EM x y D E _).mono ?_;rw[<-aj.out];rintro e ax ⟨rfl,H⟩;have A:Below w9 w9 ax:=EE (m:=1) H;clear H;replace f:=f.below A p;replace u:=u.below A ao;replace l:=An l A;replace p:=f.lt;have W:=f.cell;have f6:=f.frozen;replace an:=u.cell;clear A
  cases rb
  ·have HV:Hid (H6 ts j t x y d r=.agg C8∧EP ts j t x y d r=3):=by
    have a:EP ts j t x y d r=3:=by simpa using I.out
    have b:=Q.out;rw[a] at b;exact⟨by simpa using b,a⟩
   go_wp2;refine AS (v:=.tuple (EJ 0 0 0 0 3)) (by simp[results,results230,go_sem,W,p]) rfl ⟨by rw[HV.out.1,HV.out.2],?_⟩
   repeat(first|with_reducible exact l|refine Below.setCell ?_ (by simp<;>omega) _|refine Below.alloc ?_ (by simp<;>omega) _)
  ·have HV:Hid (H6 ts j t x y d r=.agg (Ziiii x y D E)∧EP ts j t x y d r=0):=by
    have a:EP ts j t x y d r=0:=by simpa using I.out
    have b:=Q.out;rw[a] at b;exact⟨by simpa using b,a⟩
   go_wp2;refine AS (v:=.tuple (EJ x y D E 0)) (by simp[results,results230,go_sem,W,p]) rfl ⟨by rw[HV.out.1,HV.out.2],?_⟩
   repeat(first|with_reducible exact l|refine Below.setCell ?_ (by simp<;>omega) _|refine Below.alloc ?_ (by simp<;>omega) _)
theorem MY (b f:Option Addr) (n m c d:Nat) (ts i:List Int) (w:World) (G:GY ts i) (q:Rd w b n (ints ts)) (r:Rd w f m (ints i)):
  (BT 308 #[CH b n c f m d] w (.bool true):Prop):=by
 have a:=Br w 205 (CH b n c f m d);have j:Below w w (w.alloc (.cells (CH b n c f m d) 205)):=BU;have x:=q.len;have y:=r.len;have g:=G.n0;have u:=G.n1;have v:=G.eq;obtain rfl:n=m:=Aa;have s:=Ai G.ris;have HV:Hid (Hn i 40 (-2000) 2000=true):=by show _=_;unfold Hn;rw[G.lev,BC Aa];rfl
 have k0:(0:Int)<(n:Int):=Aa;have z:(n:Int)<=40:=Aa;have k2:0<n:=Aa;have p:n<=40:=Aa;clear G x y v g u
 go_enter func308,ntmps308
 go_upto_region 1 with fail
 generalize w.alloc _=B at a j⊢;have t:=a.cell;have g:=a.lt
 go_wp2_with fail
 refine(Fy _ _ _ ts _ _ Aa (q.below j)).mono ?_;rw[s.out];rintro e C ⟨rfl,k⟩;have l:=An j k;replace a:=a.below k g;replace t:=a.cell;replace g:=a.lt;clear k
 go_wp2_with fail
 refine(Gw _ _ _ i _ _ _ _ Aa (r.below l)).mono ?_;rw[HV.out];rintro e A ⟨rfl,rfl⟩;go_wp2;go_ret;exact⟨rfl,l⟩
theorem Rz (A0 A1:Option Addr) (n c d:Nat) (ts f:List Int) (t:Int) (w:World) (G:GY ts f) (D:Rd w A0 n (ints ts)) (Y:Rd w A1 n (ints f)) (aM:0<=t) (aN:t<=1000000) (T:ts.getD 0 0<=t) (S:t<=ts.getD (n-1) 0):
  (BT 309 (EK A0 n c A1 n d t) w (Zii (levLo ts f t) (levHi ts f t)):Prop):=by
 have l0:ts.length=n:=D.len;have hR:=Ai (am G.ris);have n0:=G.n0;have n1:n<=40:=by have:=G.n1;omega
 have HG:=Ai G;have ag:=Ai T;have af:=Ai S;have j:=Ai l0;have aK:1<=n:=Aa;clear G T S n0 l0
 go_enter func309,ntmps309
 go_upto_region 1 with fail
 generalize hG:(w.alloc _).alloc _=w1;obtain⟨K2,O,J⟩:=Qg hG;clear hG;replace D:=D.below J;replace Y:=Y.below J;have g2:=K2.lt;have r:=O.lt;have e2:=K2.cell
 go_wp2_with fail
 go_loopw [5] (λv5 wr=> ∃k:Nat,k<n∧v5=.int .i64 k∧ts.getD k 0<=t∧wr=w1) (λv5 _=>n-(intOf v5).toNat)
 case atStart=>exact⟨0,by omega,rfl,ag.out,rfl⟩
 case round=>
  obtain⟨k,hk,rfl,E,rfl⟩:=hrel;have N:=Ai E;clear E;have aJ:(k:Int)<(n:Int):=Aa;have aF:(0:Int)<=(k:Int):=Aa;have aG:(0:Int)<=(k:Int)+1:=Aa;have aH:((k:Int)+1).toNat=k+1:=Aa;have l:(k+1<n∧ts.getD (k+1) 0<=t)∨(k+1<n∧ ¬ts.getD (k+1) 0<=t)∨k+1=n:=Aa;rcases l with⟨z,s⟩|l
  ·obtain⟨I,rfl,u⟩:=D.int z;rw[Bf I (k+1) Aa] at u;have hd:=BC s;have H2:=Ai s;have C:(k:Int)+1<(n:Int):=Aa;clear s;generalize ts.getD (k+1) 0=x at u hd
   go_wp2_with fail
   go_roundw
   case rel=>exact⟨k+1,z,by go_num,H2.out,by first|rfl|trivial⟩
   case measure=>simp[intOf];omega
  ·by_cases K:ts.getD k 0=t
   ·have HC:Hid (cutN ts t=k):=IL (by have:=j.out;omega) (λa ha=>by have:=hR.out a k ha (by have:=j.out;omega);omega) (λ_=>by omega)
    have HV:Hid (levLo ts f t=f.getD k 0∧levHi ts f t=f.getD k 0):=by unfold Hid levLo levHi;rw[HC.out,AA K,AA K];exact⟨rfl,rfl⟩
    obtain⟨I,rfl,u⟩:=D.int hk;obtain⟨bd,rfl,V⟩:=Y.int hk;rw[K] at u;generalize f.getD k 0=y at*;rcases l with⟨z,s⟩|z
    ·obtain⟨_,⟨⟩,F⟩:=D.int z;rw[Bf I (k+1) Aa] at F;have hd:=BR s;have C:(k:Int)+1<(n:Int):=Aa;clear s;generalize ts.getD (k+1) 0=x at F hd
     go_upto_region 5 with fail
     go_still_tail 11,We51ceQ
     have i:Blk wr.drew (w.heap.size+1) 136 Cq:=O;have q:Below w w wr.drew:=CO J;change wpList _ _ _ _ _ wr.drew;clear e2 g2 r u V F;generalize wr.drew=M at i q⊢;have R:=i.cell;have f4:=i.frozen;have r:=i.lt;go_wp2;refine AS (v:=.agg (Zii y y)) (by simp[results,results309,go_sem,R,r]) rfl ⟨by rw[HV.out.1,HV.out.2],?_⟩
     repeat(first|with_reducible exact q|refine Below.setCell ?_ (by simp<;>omega) _)
    ·have aI: ¬(k:Int)+1<(n:Int):=Aa
     go_upto_region 5 with fail
     go_still_tail 11,We51ceQ
     have i:Blk wr.drew (w.heap.size+1) 136 Cq:=O;have q:Below w w wr.drew:=CO J;change wpList _ _ _ _ _ wr.drew;clear e2 g2 r u V;generalize wr.drew=M at i q⊢;have R:=i.cell;have f4:=i.frozen;have r:=i.lt;go_wp2;refine AS (v:=.agg (Zii y y)) (by simp[results,results309,go_sem,R,r]) rfl ⟨by rw[HV.out.1,HV.out.2],?_⟩
     repeat(first|with_reducible exact q|refine Below.setCell ?_ (by simp<;>omega) _)
   ·have E:=N.out
    have aj:k+1<n∧ ¬ts.getD (k+1) 0<=t:=by
     rcases l with h|h
     ·exact h
     ·have:=af.out;rw[show n-1=k by omega] at this
      omega
    obtain⟨z,s⟩:=aj;have hz:=hR.out k (k+1) Aa (by have:=j.out;omega)
    have HC:Hid (cutN ts t=k+1):=IL (by have:=j.out;omega) (λa ha=>by
     by_cases e:a=k
     ·subst e;omega
     ·have:=hR.out a k Aa (by have:=j.out;omega);omega) (λ_=>by omega)
    have HV:Hid (levLo ts f t=f.getD k 0+(f.getD (k+1) 0-f.getD k 0)*(t-ts.getD k 0)/(ts.getD (k+1) 0-ts.getD k 0)∧levHi ts f t=f.getD k 0+ -(-((f.getD (k+1) 0-f.getD k 0)*(t-ts.getD k 0))/(ts.getD (k+1) 0-ts.getD k 0))):=by
     have U: ¬ts.getD (k+1) 0=t:=Aa;unfold Hid levLo levHi Ko ZL;rw[HC.out,Nat.add_sub_cancel,Ak U,Ak U];exact⟨rfl,rfl⟩
    obtain⟨I,rfl,an⟩:=D.int hk;obtain⟨bd,rfl,X⟩:=Y.int hk;obtain⟨_,⟨⟩,u⟩:=D.int z;obtain⟨_,⟨⟩,V⟩:=Y.int z;have hA:=HG.out.tmA k;have hB:=HG.out.tmA (k+1);have hC:=HG.out.lvA k;have hD:=HG.out.lvA (k+1);rw[Bf I (k+1) Aa] at u;rw[Bf bd (k+1) Aa] at V;have hd:=BR s;have aE:decide (ts.getD k 0=t)=false:=BR K;have aD:(ts.getD k 0==t)=false:=by rw[Ea];exact K
    have C:(k:Int)+1<(n:Int):=Aa;clear s K HC N l;generalize ts.getD k 0=p at*;generalize ts.getD (k+1) 0=H at*;generalize f.getD k 0=L at*;generalize f.getD (k+1) 0=lB at*;have hp:=VL (a:=lB-L) (b:=t-p) (A:=4000) (B:=1000000) Aa Aa Aa Aa;obtain⟨g,al⟩: ∃b,(lB-L)*(t-p)=b:=⟨_,rfl⟩;rw[al] at hp HV;have aQ:=Bg ((k:Int)+1);have aR:=Bg (H-p);have aS:=Bg (lB-L);have aT:=Bg (t-p);have aU:=Bg g
    go_upto_region 6 with fail
    go_quiet (fail)
    revert nq;intro m;have qb:=Fc (a:=g) (b:=H-p) Aa Aa Aa;have qc:=Fc (a:= -g) (b:=H-p) Aa Aa Aa
    go_upto_region 7 with fail
    have E2: ∀o,(wr.drewN m).cell? ⟨w,o,none⟩=((CH (some I) n c (some bd) n d):Array Value)[o]? :=e2;have i:Blk (wr.drewN m) (w.heap.size+1) 136 Cq:=O;have q:Below w w (wr.drewN m):=Ba J _;have Y0:(wr.drewN m).cell? (bd.add k)=ZS L:=X;clear e2 g2 r u an V X K2 O J;generalize wr.drewN m=M at E2 i q Y0⊢;have cF:=λW=>Ee g (H-p) W Aa Aa Aa Aa;have cC:=λW=>EB g (H-p) W Aa Aa Aa Aa
    go_still_tail 19,We51ceQ
    still_call ((cF _).mono λ_ _ h=>⟨h.1,h.2.symm⟩)
    repeat still_step
    still_call ((cC _).mono λ_ _ h=>⟨h.1,h.2.symm⟩)
    repeat still_step
    refine wpStill_nil ?_;have Z:Blk M.drew (w.heap.size+1) 136 Cq:=i;have Q:Below w w M.drew:=CO q;change wpList _ _ _ _ _ M.drew;clear cF cC E2 i q Y0;generalize M.drew=w4 at Z Q⊢;have R:=Z.cell;have f4:=Z.frozen;have r:=Z.lt;go_wp2;refine AS (v:=.agg (Zii (L+g/(H-p)) (L+ -(-g/(H-p))))) (by simp[results,results309,go_sem,R,r]) rfl ⟨by rw[HV.out.1,HV.out.2],?_⟩
    repeat(first|with_reducible exact Q|refine Below.setCell ?_ (by simp<;>omega) _)
theorem MZ (F x:Option Addr) (n c d:Nat) (ts b:List Int) (t:Int) (w:World) (G:GY ts b) (C:Rd w F n (ints ts)) (Z:Rd w x n (ints b)) (A:0<=t) (B:t<=1000000):
  (BT 267 (EK F n c x n d t) w (.tuple (BN (lvLo ts b t) (lvHi ts b t) (levC ts t))):Prop):=by
 have Y:ts.length=n:=C.len;have n0:1<=n:=by have:=G.n0;omega
 have n1:n<=40:=by have:=G.n1;omega
 have T:=Ai G;have O:inR t 0 1000000=true:=CN A B;have g:Hid (levC ts t=if inR t (ts.getD 0 0) (ts.getD (n-1) 0)=true then 0 else 4):=by unfold Hid levC Ua;rw[Y];rfl
 clear G Y
 go_enter func267,ntmps267
 go_upto_region 1 with fail
 generalize V:(w.alloc _).alloc _=w1;obtain⟨r,s,i⟩:=Qg V;clear V;have N:=r.lt;have k:=s.lt;have e2:=r.cell
 go_wp2_with fail
 refine(MY F x n n c d ts b _ T.out (C.below i) (Z.below i)).mono ?_;rintro e u ⟨rfl,D⟩;replace r:=r.below D N;replace s:=s.below D k;replace i:=An i D;replace e2:=r.cell;clear D
 go_wp2_with fail
 refine(Ay _ _ _ _).mono ?_;rw[O];rintro e E ⟨rfl,rfl⟩
 go_upto_region 5 with fail
 obtain⟨U,rfl,l⟩:=(C.below i).int (show 0<n by omega)
 obtain⟨_,⟨⟩,p⟩:=(C.below i).int (show n-1<n by omega)
 rw[Gu] at l;obtain⟨m,rfl⟩: ∃m,n=m+1:=⟨n-1,by omega⟩
 simp only[Nat.add_sub_cancel] at p g;have aa:(0:Int)<=(m:Int):=Aa;have ab:(m:Int)<(m:Int)+1:=Aa;have ac:(0:Int)<(m:Int)+1:=Aa;have u1:=Bg (m:Int);rcases jt (inR t (ts.getD 0 0) (ts.getD m 0)) with q|q
 rotate_left
 ·have y:Hid (levC ts t=4):=by show _=_;rw[g.out,q];rfl
  have HV:Hid (lvLo ts b t=0∧lvHi ts b t=0):=by unfold Hid lvLo lvHi;rw[y.out];exact⟨rfl,rfl⟩
  clear g;generalize ts.getD 0 0=R at*;generalize ts.getD m 0=S at*;have z: ∀W,Calls prog 84 (Ziii t R S) W λe E=>e=.returned (.bool false)∧W=E:=λW=>by rw[<-q];exact Ay _ _ _ _
  go_quiet ((go_at_call 84;with_reducible exact Hq (z _)))
  revert nq;intro a;have f:Blk (u.drewN a) (w.heap.size+1) 136 Cq:=s;have j:Below w w (u.drewN a):=Ba i _;clear l p r s i e2 N k z;generalize u.drewN a=w3 at f j⊢;have L:=f.cell;have M:=f.frozen;have k:=f.lt;go_wp2;refine AS (v:=.tuple (BN (0) (0) 4)) (by simp[results,results267,go_sem,L,M,k]) rfl ⟨by rw[HV.out.1,HV.out.2,y.out],?_⟩
  repeat(first|with_reducible exact j|refine Below.setCell ?_ (by simp<;>omega) _)
 ·have y:Hid (levC ts t=0):=by show _=_;rw[g.out,q];rfl
  have HV:Hid (lvLo ts b t=levLo ts b t∧lvHi ts b t=levHi ts b t):=by unfold Hid lvLo lvHi;rw[y.out];exact⟨rfl,rfl⟩
  have Q:=Ac q;have X:=Rz (some U) x (m+1) c d ts b t;have I:=Ai Q.1;have J:Hid (t<=ts.getD (m+1-1) 0):=Q.2;clear g Q;generalize ts.getD 0 0=R at l q;generalize ts.getD m 0=S at p q;have z: ∀W,Calls prog 84 (Ziii t R S) W λe E=>e=.returned (.bool true)∧W=E:=λW=>by rw[<-q];exact Ay _ _ _ _
  go_quiet ((go_at_call 84;with_reducible exact Hq (z _)))
  revert nq;intro a;have H:Blk (u.drewN a) w.heap.size 205 (CH (some U) (m+1) c x (m+1) d):=r;have f:Blk (u.drewN a) (w.heap.size+1) 136 Cq:=s;have j:Below w w (u.drewN a):=Ba i _;clear l p r s i e2 N k z;generalize u.drewN a=w3 at H f j⊢;have e2:=H.cell;have k:=f.lt
  go_wp2_with fail
  refine(X _ T.out (C.below j) (Z.below j) A B I.out J.out).mono ?_;rintro e w4 ⟨rfl,K⟩;replace f:=f.below K k;replace j:=An j K;clear K e2 H X;replace k:=f.lt;have L:=f.cell;have M:=f.frozen;generalize levLo ts b t=lo at*;generalize levHi ts b t=hi at*;go_wp2;refine AS (v:=.tuple (BN (lo) (hi) 0)) (by simp[results,results267,go_sem,L,M,k]) rfl ⟨by rw[HV.out.1,HV.out.2,y.out],?_⟩
  repeat(first|with_reducible exact j|refine Below.setCell ?_ (by simp<;>omega) _)
theorem CZ (x y d r:Int) (w:World) (j: -2000<=d) (k:d<=1000000) (l:0<=r) (m:r<=5000):
  (BT 214 #[Ziiii x y d r] w (Zii (d-r) (d+r)):Prop):=by
 go_enter func214,ntmps214
 go_upto_region 1 with fail
 generalize b:(w.alloc _).alloc _=n;obtain⟨c,a,f⟩:=Qg b;clear b;have e1:=c.cell;have e2:=a.cell;have i:=a.frozen;have g:=a.lt;go_wp2;refine AS (v:=.agg (Zii (d-r) (d+r))) (by simp[results,results214,go_sem,e2,g]) rfl ⟨rfl,?_⟩
 repeat(first|with_reducible exact f|refine Below.setCell ?_ (by simp<;>omega) _)
theorem OU (C F:Option Addr) (n c q:Nat) (ts i:List Int) (t x y d r:Int) (w:World) (G:GY ts i) (r0:Rd w C n (ints ts)) (r1:Rd w F n (ints i)) (W:0<=t) (X:t<=1000000) (hs:DP x y d r=true):
  (BT 212 #[Ziiii x y d r,CH C n c F n q,ZI t] w (.tuple #[H6 ts i t x y d r,ZI (EP ts i t x y d r)]):Prop):=by
 have k:=((Br w 65 (Ziiii x y d r)).alloc (.cells (CH C n c F n q) 205)).alloc (.cells C8 65);have K:=(Blk.newN (g:=w+1) (w.alloc (.cells (Ziiii x y d r) 65)) 205 (CH C n c F n q) Cr).alloc (.cells C8 65);have j:=Blk.newN (g:=w+1+1) ((w.alloc (.cells (Ziiii x y d r) 65)).alloc (.cells (CH C n c F n q) 205)) 65 C8 Cr;have l:Below w w (((w.alloc (.cells (Ziiii x y d r) 65)).alloc (.cells (CH C n c F n q) 205)).alloc (.cells C8 65)):=Ax;have HG:=Ai G;have aF:=dS G W X;have HS:=Ai hs
 have hd:(-2000<=d∧d<=1000000)∧0<=r∧r<=5000:=by
  unfold DP at hs;simp only[CD] at hs;exact⟨Ac hs.1.2,Ac hs.2⟩
 have H:Hid (EP ts i t x y d r=if levC ts t=0 then(if redB ts i t x y d r=true then 0 else 3) else 4):=rfl;have I:Hid (H6 ts i t x y d r=if EP ts i t x y d r=0 then .agg (Ziiii x y (MT d r (lvLo ts i t) (lvHi ts i t)) (MU d r (lvLo ts i t) (lvHi ts i t))) else .agg C8):=rfl;have O:Hid (redB ts i t x y d r=DP x y (MT d r (lvLo ts i t) (lvHi ts i t)) (MU d r (lvLo ts i t) (lvHi ts i t))):=rfl;have ap:=Ub ts t;clear hs G
 go_enter func212,ntmps212
 go_upto_region 1 with fail
 generalize((w.alloc _).alloc _).alloc _=w1 at k K j l⊢;have s:=k.lt;have g4:=K.lt;have p:=j.lt;have e3:=k.cell
 go_wp2_with fail
 refine(GR x y d r _).mono ?_;rw[HS.out];rintro e w2 ⟨rfl,Y⟩;have S:Below w1 w1 w2:=by rw[Y];exact(AP _ _).alloc Bk _
 clear Y;replace k:=k.below S s;replace K:=K.below S g4;replace j:=j.below S p;replace l:=An l S;replace s:=k.lt;replace p:=j.lt;replace e4:=K.cell;clear S
 go_wp2_with fail
 refine(MZ C F n c q ts i t _ HG.out (r0.below l) (r1.below l) W X).mono ?_;rintro e L ⟨rfl,b4⟩;replace k:=k.below b4 s;replace j:=j.below b4 p;replace l:=An l b4;replace s:=k.lt;replace p:=j.lt;replace V:=j.cell;replace f6:=j.frozen;clear b4;clear HG r0 r1;generalize lvLo ts i t=lo at*;generalize lvHi ts i t=hi at*;generalize redB ts i t x y d r=rb at*;generalize levC ts t=lc at*;rcases ap with rfl|rfl
 rotate_left
 ·have HV:Hid (H6 ts i t x y d r=.agg C8∧EP ts i t x y d r=4):=by
   have a:=H.out;rw[Ak Ah] at a;have b:=I.out;rw[a,Ak Ah] at b;exact⟨b,a⟩
  go_wp2;refine AS (v:=.tuple (EJ 0 0 0 0 4)) (by simp[results,results212,go_sem,V,p]) rfl ⟨by rw[HV.out.1,HV.out.2],?_⟩
  have aG:=l.size
  repeat(first|with_reducible exact l|refine Below.setCell ?_ (by simp<;>omega) _|refine Below.alloc ?_ (by simp<;>omega) _)
 go_upto_region 4 with fail
 have A:=Br L 136 (Zii lo hi);have b5:Below L L (L.alloc (.cells (Zii lo hi) 136)):=BU;replace k:=k.below b5 s;replace j:=j.below b5 p;replace l:=An l b5;replace s:=k.lt;replace p:=j.lt;replace e3:=k.cell;clear b5;generalize L.alloc _=w5 at*;have g8:=A.lt;generalize L.heap.size=p8 at*
 go_wp2_with fail
 refine(CZ x y d r _ hd.1.1 hd.1.2 hd.2.1 hd.2.2).mono ?_;rintro e M ⟨rfl,T⟩;replace A:=A.below T g8;replace g8:=A.lt;replace k:=k.below T s;replace j:=j.below T p;replace l:=An l T;replace s:=k.lt;replace p:=j.lt;clear T
 go_upto_region 7 with fail
 have R:=Br M 136 (Zii (d-r) (d+r));have U:Below M M (M.alloc (.cells (Zii (d-r) (d+r)) 136)):=BU;replace A:=A.below U g8;replace e8:=A.cell;replace k:=k.below U s;replace j:=j.below U p;replace l:=An l U;replace s:=k.lt;replace p:=j.lt;clear U;generalize M.alloc _=w7 at*;generalize M.heap.size=aH at*;have am:=R.cell;have u1:=Bg (d-r-hi);have u2:=Bg (d+r-lo)
 go_quiet (fail)
 revert nq;intro Z
 go_wp2_with fail
 have N:Hid (MT d r lo hi=(d-r-hi+(d+r-lo))/2∧MU d r lo hi= -(-(d+r-lo-(d-r-hi))/2)):=⟨rfl,rfl⟩;have u3:=Bg (d-r-hi+(d+r-lo));have u4:=Bg (d+r-lo-(d-r-hi));have m1: -4611686018427387904<=d-r-hi+(d+r-lo)∧d-r-hi+(d+r-lo)<=4611686018427387904:=Aa;have m2: -4611686018427387904<=d+r-lo-(d-r-hi)∧d+r-lo-(d-r-hi)<=4611686018427387904:=Aa;have b8:Below w7 w7 (w7.drewN Z):=BW _ _;replace k:=k.below b8 s;replace j:=j.below b8 p;replace l:=An l b8;replace s:=k.lt;replace p:=j.lt;replace e3:=k.cell;clear b8;clear A R e8 am g8 u1 u2;generalize w7.drewN Z=J at*;generalize d-r-hi=low at*;generalize d+r-lo=f at*;have hS: ∀o,J.cell? ⟨w,o,none⟩= (Ziiii x y d r:Array Value)[o]? :=e3
 go_region_held3 (λw'=> ∀o,w'.cell? ⟨w,o,none⟩= (Ziiii x y d r:Array Value)[o]?)
  (first|(with_reducible assumption)|((with_reducible refine AK ?_ ?_ _)<;>first|(with_reducible assumption)|omega|(simp;done)|(simp;omega))|((with_reducible refine AC ?_);(with_reducible refine AK ?_ ?_ _)<;>first|(with_reducible assumption)|omega|(simp;done)|(simp;omega))|(intro o;go_keep))
  (first
   |(go_at_call 210;refine(Ee (low+f) 2 _ m1.1 m1.2 Ah Ah).mono ?_;rintro e w' ⟨rfl,rfl⟩)
   |(go_at_call 167;refine(EB (f-low) 2 _ m2.1 m2.2 Ah Ah).mono ?_;rintro e w' ⟨rfl,rfl⟩))
 all_goals
  have u:=Br J 65 (Ziiii x y ((low+f)/2) (-(-(f-low)/2)));have b9:Below J J (J.alloc (.cells (Ziiii x y ((low+f)/2) (-(-(f-low)/2))) 65)):=BU;replace j:=j.below b9 p;replace l:=An l b9;clear b9 k K s g4 e3 e4 V f6 hS u3 u4 m1 m2;replace p:=j.lt;generalize J.alloc _=w9 at*;generalize J.heap.size=aI at*;have HB:=O.out;rw[N.out.1,N.out.2] at HB;have ak:=Ai HB;clear HB;have Q:Hid (H6 ts i t x y d r=if EP ts i t x y d r=0 then .agg (Ziiii x y ((low+f)/2) (-(-(f-low)/2))) else .agg C8):=by have a:=I.out;rw[N.out.1,N.out.2] at a;exact a
  clear I O N;generalize(low+f)/2=D at*;generalize-(-(f-low)/2)=E at*;have an:=u.cell;have ao:=u.lt
  go_wp2_with fail
  refine(GR x y D E _).mono ?_;rw[<-ak.out];rintro e aa ⟨rfl,B⟩;have z:Below w9 w9 aa:=EE (m:=1) (show Below w9.drew.heap.size w9.drew aa by rw[B];exact(AP _ _).alloc Bk _)
  clear B;replace j:=j.below z p;replace u:=u.below z ao;replace l:=An l z;replace p:=j.lt;have V:=j.cell;have f6:=j.frozen;replace an:=u.cell;clear z
  cases rb
  ·have HV:Hid (H6 ts i t x y d r=.agg C8∧EP ts i t x y d r=3):=by
    have a:EP ts i t x y d r=3:=by simpa using H.out
    have b:=Q.out;rw[a] at b;exact⟨by simpa using b,a⟩
   go_wp2;refine AS (v:=.tuple (EJ 0 0 0 0 3)) (by simp[results,results212,go_sem,V,p]) rfl ⟨by rw[HV.out.1,HV.out.2],?_⟩
   repeat(first|with_reducible exact l|refine Below.setCell ?_ (by simp<;>omega) _|refine Below.alloc ?_ (by simp<;>omega) _)
  ·have HV:Hid (H6 ts i t x y d r=.agg (Ziiii x y D E)∧EP ts i t x y d r=0):=by
    have a:EP ts i t x y d r=0:=by simpa using H.out
    have b:=Q.out;rw[a] at b;exact⟨by simpa using b,a⟩
   go_wp2;refine AS (v:=.tuple (EJ x y D E 0)) (by simp[results,results212,go_sem,V,p]) rfl ⟨by rw[HV.out.1,HV.out.2],?_⟩
   repeat(first|with_reducible exact l|refine Below.setCell ?_ (by simp<;>omega) _|refine Below.alloc ?_ (by simp<;>omega) _)
theorem FU {xs:List Int} {n:Nat} (h:FT xs n=true):CP xs n=true∧n<=200:=by
 have:FT xs n=(CP xs n && decide ((n:Int)<=200)):=rfl;rw[this,CD,BP] at h;exact⟨h.1,by omega⟩
theorem LX {t k l x y d r:Int} (h:recB t k l x y d r=true):0<=t∧t<=1000000:=by
 unfold recB at h;rw[CD] at h;exact Ac h.1
theorem VX {t l x y d r:Int} (h:recB t 1 l x y d r=true): -2000<=l∧l<=2000:=by
 unfold recB at h;rw[CD,AA rfl,CD] at h;exact Ac h.2.1
theorem Ut {t l x y d r:Int} (h:recB t 2 l x y d r=true):DP x y d r=true:=by
 unfold recB at h;rw[CD,Ak Ah,AA rfl,CD] at h;exact h.2.2
theorem WR {xs:List Int} {n:Nat} (h:CP xs n=true) {p:Int×Int} (f:p∈gTo xs n):0<=p.1∧p.1<=1000000∧ -2000<=p.2∧p.2<=2000:=by
 obtain⟨i,hi,d,rfl⟩:=(R9 xs n p).1 f;have a:recB (recT xs i) (recK xs i) (recL xs i) (xs.getD (i*7+3) 0) (xs.getD (i*7+4) 0) (xs.getD (i*7+5) 0) (xs.getD (i*7+6) 0)=true:=GS h hi;have b:=LX a;rw[d.1] at a;have c:=VX a;exact⟨b.1,b.2,c.1,c.2⟩
theorem de {p:List (Int×Int)} {m:Int} (hs:SS p) (d: ∀q∈p,0<=q.1∧q.1<m):FF (fstL p) m=true:=by
 unfold FF Fq;rw[List.all_eq_true];intro j a;have a:=Eo.1 a;rw[Ik] at a;have b:=d _ (EH a);unfold EQ;rw[Nc a,BC b.1,BC b.2,Ha,Ha]
 by_cases c:j=0
 ·rw[BC c];rfl
 ·rw[Nc (show j-1<p.length by omega)]
  have:=(List.pairwise_iff_getElem.1 hs) (j-1) j Aa a Aa;rw[BC this,Bool.or_true]
theorem Tj {xs:List Int} {n:Nat} (h:gaugeC xs n=0):FT xs n=true∧Dk xs n=⟨fstL (gTo xs n),sndL (gTo xs n)⟩∧GY (fstL (gTo xs n)) (sndL (gTo xs n)):=by
 unfold gaugeC at h
 split at h
 ·rename_i hl
  split at h
  ·cases h
  ·rename_i h0
   split at h
   ·rename_i h1
    have b:=(FU hl).1;refine⟨hl,by unfold Dk DY;rw[AA hl,AA h1],⟨by rw[Ik];omega,by rw[Ik];omega,de (Lx xs n) λq a=> ?_,by rw[Ik,UD],?_⟩⟩
    ·have:=WR b a;omega
    ·unfold BV;rw[List.all_eq_true];intro x c;unfold sndL at c;obtain⟨q,a,rfl⟩:=List.mem_map.1 c;have:=WR b a;exact CN this.2.2.1 this.2.2.2
   ·cases h
 ·cases h
def GC (ts ls xs:List Int) (i:Nat):Int:=EP ts ls (xs.getD (i*7) 0) (xs.getD (i*7+3) 0) (xs.getD (i*7+4) 0) (xs.getD (i*7+5) 0) (xs.getD (i*7+6) 0)
def Gz (ts ls xs:List Int) (i:Nat):List Int:= [xs.getD (i*7+3) 0,xs.getD (i*7+4) 0,MT (xs.getD (i*7+5) 0) (xs.getD (i*7+6) 0) (lvLo ts ls (xs.getD (i*7) 0)) (lvHi ts ls (xs.getD (i*7) 0)),MU (xs.getD (i*7+5) 0) (xs.getD (i*7+6) 0) (lvLo ts ls (xs.getD (i*7) 0)) (lvHi ts ls (xs.getD (i*7) 0))]
def repL (ts ls xs:List Int):Nat->List Int
 |0=> []
 |k+1=>if recK xs k=2∧GC ts ls xs k=0 then repL ts ls xs k++Gz ts ls xs k else repL ts ls xs k
def repN (ts ls xs:List Int):Nat->Nat
 |0=>0
 |k+1=>if recK xs k=2∧ ¬GC ts ls xs k=0 then repN ts ls xs k+1 else repN ts ls xs k
theorem Sg (ts a xs:List Int): ∀k,repN ts a xs k<=k
 |0=>Cp _
 |k+1=>by
  have:=Sg ts a xs k;unfold repN
  split<;>omega
def rpT (xs:List Int) (n:Nat):List Int:=fstL (gTo xs n)
def rpS (xs:List Int) (n:Nat):List Int:=sndL (gTo xs n)
def UR (xs:List Int) (n:Nat):List Int:=if gaugeC xs n=0 then repL (rpT xs n) (rpS xs n) xs n else []
def YH (xs:List Int) (n:Nat):Int:=if gaugeC xs n=0 then(repN (rpT xs n) (rpS xs n) xs n:Int) else 0
theorem Qx {ts a:List Int} {t x y d r:Int} (h:EP ts a t x y d r=0):H6 ts a t x y d r=.agg (Ziiii x y (MT d r (lvLo ts a t) (lvHi ts a t)) (MU d r (lvLo ts a t) (lvHi ts a t))):=by unfold H6;rw[AA h]
theorem Qw {ts a:List Int} {t x y d r:Int} (h: ¬EP ts a t x y d r=0):H6 ts a t x y d r=.agg C8:=by unfold H6;rw[Ak h]
theorem Iy (w:World) (a b c d:Int) (e:TypeId):Rd (w.alloc (.cells (Ziiii a b c d) e)) (some ⟨w,0,none⟩) (1*4) (ints [a,b,c,d]):=by
 refine⟨rfl,λ_=>⟨_,rfl,λi hi=> ?_⟩⟩;rw[CE,(Br w e (Ziiii a b c d)).cell]
 simp[ints]
theorem DS:(prog.info? 65).map (λi=>(i.zero.map (·.cells.size),i.size,i.bytes))=some (some 4,4,32):=We51ceQ
theorem Fg {w:World} {p:Addr} {v:Value} (h:w.cell? p=some v) (b:p.block<w.heap.size) (a:Obj):(w.alloc a).cell? p=some v:=(JX ((AP _ w).alloc Bk a) b).trans h
theorem G7 {w:World} {p:Addr} {v:Value} (h:w.cell? p=some v):w.drew.cell? p=some v:=h
theorem GM {w:World} {p:Addr} {v u:Value} {g i:Nat} (h:w.cell? p=some v) (a:p.block≠g):(w.setCell ⟨g,i,none⟩ u).cell? p=some v:=(World.cell?_setCell_other _ _ _ _ (λc=>a (by rw[<-c]))).trans h
def ff (ys:List Int) (n:Nat):Prop:= ∀j,j<n->DP (ys.getD (j*4) 0) (ys.getD (j*4+1) 0) (ys.getD (j*4+2) 0) (ys.getD (j*4+3) 0)=true
def cnt2 (xs:List Int):Nat->Nat
 |0=>0
 |k+1=>if recK xs k=2 then cnt2 xs k+1 else cnt2 xs k
theorem WK (xs:List Int): ∀k,cnt2 xs k<=k
 |0=>Cp _
 |k+1=>by
  have:=WK xs k;unfold cnt2
  split<;>omega
theorem Qy (ts d xs:List Int): ∀k,(repL ts d xs k).length+4*repN ts d xs k=4*cnt2 xs k
 |0=>rfl
 |k+1=>by
  have f:=Qy ts d xs k;unfold repL repN cnt2
  by_cases a:recK xs k=2
  ·by_cases b:GC ts d xs k=0
   ·rw[AA ⟨a,b⟩,Ak (λc=>c.2 b),AA a,Dy];show _+4+_=_;omega
   ·rw[Ak (λc=>b c.2),AA ⟨a,b⟩,AA a];omega
  ·rw[Ak (λc=>a c.1),Ak (λc=>a c.1),Ak a];omega
theorem Xb (ts a xs:List Int): ∀k,∃m,(repL ts a xs k).length=m*4∧ff (repL ts a xs k) m
 |0=>⟨0,rfl,λj h=>absurd h (Nat.not_lt_zero _)⟩
 |k+1=>by
  obtain⟨m,c,d⟩:=Xb ts a xs k;unfold repL
  split
  ·rename_i h
   refine⟨m+1,by rw[Dy,c];show m*4+4=_;omega,λj g=> ?_⟩
   by_cases e:j<m
   ·have e1: ∀i,i<m*4->(repL ts a xs k++Gz ts a xs k).getD i 0=(repL ts a xs k).getD i 0:=λi hi=>by
     rw[DE,List.getElem?_append_left Aa,<-DE]
    rw[e1 _ Aa,e1 _ Aa,e1 _ Aa,e1 _ Aa];exact d j e
   ·have f:j=m:=Aa;subst f
    have e2: ∀i,(repL ts a xs k++Gz ts a xs k).getD (j*4+i) 0=(Gz ts a xs k).getD i 0:=λi=>by
     rw[DE,List.getElem?_append_right Aa,c,Nat.add_sub_cancel_left,<-DE]
    have e20:=e2 0;rw[Hb] at e20;rw[e20,e2 1,e2 2,e2 3];have b:=h.2;unfold GC EP at b
    split at b
    ·split at b
     ·rename_i hb
      unfold redB at hb;exact hb
     ·cases b
    ·cases b
  ·exact⟨m,c,d⟩
