import Derived.Test.YtkndcebhjcfphaaGreatDoorZG
import Derived.Test.YtkndcebhjcfphaaGreatDoorZX
import Derived.StillTailTactics
namespace Go.Proofs.YtkndcebhjcfphaaGreatDoor
open Go.RowKit Go.Proofs.Tryz
set_option maxRecDepth 100000
set_option maxHeartbeats 4000000
set_option linter.all false
theorem ZJ (A:Option Addr) (n c:Nat) (w:World) (_:n≤9223372036854775807):
  (GK 74 #[.slice A n c] w (ZI n):Prop):=by
 go_enter func74,ntmps74
 go_wp2;go_ret;exact⟨rfl,rfl⟩
theorem MM (A0 A1:Option Addr) (n m c d:Nat) (ts ls:List Int) (w:World) (G:GY ts ls) (r0:Rd w A0 n (ints ts)) (r1:Rd w A1 m (ints ls)):
  (BT 286 #[CH A0 n c A1 m d] w (.bool true):Prop):=by
 have K0:=Br w 205 (CH A0 n c A1 m d);have b0:Below w w (w.alloc (.cells (CH A0 n c A1 m d) 205)):=BU;have l0:=r0.len;have l1:=r1.len;have g0:=G.n0;have g1:=G.n1;have ge:=G.eq;obtain rfl:n=m:=Aa;have q0:inR (n:Int) 1 40=true:=CN Aa Aa;have HR:=Ai G.ris;have HV:=Ai G.lev;clear G l0 l1 ge g0;have hn40:n≤40:=by have:=Ac q0;omega
 clear g1
 go_enter func286,ntmps286
 go_upto_region 1 with fail
 generalize w.alloc _=w1 at K0 b0⊢;have e0:=K0.cell;have g0:=K0.lt
 go_wp2_with fail
 refine(ZJ _ _ _ _ Aa).mono ?_;rintro e w' ⟨rfl,rfl⟩
 go_wp2_with fail
 refine(As _ _ _ _).mono ?_;rintro e w' ⟨rfl,rfl⟩
 go_wp2_with fail
 refine(Fx _ _ _ ts _ _ Aa (r0.below b0)).mono ?_;rw[HR.out];rintro e w2 ⟨rfl,b2⟩;have b3:=An b0 b2;replace K0:=K0.below b2 g0;replace e0:=K0.cell;replace g0:=K0.lt;clear b2
 go_wp2_with fail
 refine(Fb _ _ _ ls _ _ _ Aa (r1.below b3)).mono ?_;rw[HV.out];rintro e w' ⟨rfl,rfl⟩;go_wp2;go_ret;exact⟨rfl,b3⟩
def lvLo (ts ls:List Int) (t:Int):Int:=if levC ts t=0 then levLo ts ls t else 0
def lvHi (ts ls:List Int) (t:Int):Int:=if levC ts t=0 then levHi ts ls t else 0
theorem Uc (A0 A1:Option Addr) (n c d:Nat) (ts ls:List Int) (t:Int) (w:World) (G:GY ts ls) (r0:Rd w A0 n (ints ts)) (r1:Rd w A1 n (ints ls)) (ht0:0≤t) (ht1:t≤1000000):
  (BT 287 (EK A0 n c A1 n d t) w (.tuple (BN (lvLo ts ls t) (lvHi ts ls t) (levC ts t))):Prop):=by
 have l0:ts.length=n:=r0.len;have hR:=am G.ris;have n0:=G.n0;have n1:n≤40:=by have:=G.n1;omega
 have HG:=Ai G;have hin:inR t 0 1000000=true:=CN ht0 ht1
 go_enter func287,ntmps287
 go_upto_region 1 with fail
 generalize hG:(w.alloc _).alloc _=w1;obtain⟨K2,K4,b0⟩:=Qg hG;clear hG;have g2:=K2.lt;have g4:=K4.lt;have e2:=K2.cell
 go_wp2_with fail
 refine(Px _ _ _ ts t _ Aa (r0.below b0) hR).mono ?_;rintro e w2 ⟨rfl,b2⟩;replace K2:=K2.below b2 g2;replace K4:=K4.below b2 g4;replace b0:=An b0 b2;replace g2:=K2.lt;replace g4:=K4.lt;replace e2:=K2.cell;have e4:=K4.cell;have f4:=K4.frozen;clear b2;have hcl:=bR ts t;have FND:=fun h h2=>XR (t:=t) hR h h2;have OUT:=cE (t:=t) hR n0;have MID:=fun h h2=>cD (t:=t) hR h h2;rw[l0] at hcl FND OUT MID;have HF:Hid (∀h:cutN ts t<n,ts.getD (cutN ts t) 0=t→levC ts t=0):=FND;have HO:Hid ((cutN ts t=0∧ ¬ts.getD 0 0=t)∨cutN ts t=n→levC ts t=4):=OUT;have HM:Hid (cutN ts t≠0→cutN ts t<n→levC ts t=0):=MID;have HLo:Hid (levLo ts ls t=if ts.getD (cutN ts t) 0=t then ls.getD (cutN ts t) 0 else ls.getD (cutN ts t-1) 0+(ls.getD (cutN ts t) 0-ls.getD (cutN ts t-1) 0)*(t-ts.getD (cutN ts t-1) 0)/(ts.getD (cutN ts t) 0-ts.getD (cutN ts t-1) 0)):=rfl;have HHi:Hid (levHi ts ls t=if ts.getD (cutN ts t) 0=t then ls.getD (cutN ts t) 0 else ls.getD (cutN ts t-1) 0+ -(-((ls.getD (cutN ts t) 0-ls.getD (cutN ts t-1) 0)*(t-ts.getD (cutN ts t-1) 0))/(ts.getD (cutN ts t) 0-ts.getD (cutN ts t-1) 0))):=rfl;have HRIS:=Ai hR;have HCF:=Ai (LG (ts:=ts) (t:=t));clear FND OUT MID hR G n0;generalize cutN ts t=i at*
 by_cases hi:i<n
 ·obtain⟨ad,rfl,hx⟩:=(r0.below b0).int hi;obtain⟨bd,rfl,hy⟩:=(r1.below b0).int hi
  by_cases he:ts.getD i 0=t
  ·have HC:Hid (levC ts t=0):=HF.out hi he;have HV:Hid (lvLo ts ls t=ls.getD i 0∧lvHi ts ls t=ls.getD i 0):=by unfold Hid lvLo lvHi;rw[HC.out,AA rfl,AA rfl,HLo.out,HHi.out,AA he,AA he];exact⟨rfl,rfl⟩
   have hd1:decide (i<n)=true:=BC hi;have hd2:decide (ts.getD i 0=t)=true:=BC he;rw[hd1,hd2];generalize ls.getD i 0=y at*;clear hx hd2 he HF HO HM HLo HHi
   go_wp2_with fail
   refine(As _ _ _ _).mono ?_;rw[hin];rintro e w' ⟨rfl,rfl⟩
   go_wp2_with fail
   go_still_tail 11,We51ceQ
   have D4:Blk w2.drew (w.heap.size+1) 136 Cq:=K4;have db:Below w w w2.drew:=CO b0;change wpList _ _ _ _ _ w2.drew;clear e2 e4 f4 g2 g4;generalize w2.drew=w3 at D4 db⊢;have e4:=D4.cell;have f4:=D4.frozen;have g4:=D4.lt;go_wp2;refine AS (v:=.tuple (BN y y 0)) (by simp[results,results287,go_sem,e4,f4,g4]) rfl ⟨by rw[HV.out.1,HV.out.2,HC.out],?_⟩
   repeat(first|with_reducible exact db|refine Below.setCell ?_ (by simp<;>omega) _)
  ·have hd1:decide (i<n)=true:=BC hi;have hd2:decide (ts.getD i 0=t)=false:=BR he
   by_cases h0:i=0
   ·have HC:Hid (levC ts t=4):=HO.out (.inl ⟨h0,by rw[←h0];exact he⟩)
    have HV:Hid (lvLo ts ls t=0∧lvHi ts ls t=0):=by unfold Hid lvLo lvHi;rw[HC.out];exact⟨rfl,rfl⟩
    rw[hd1,hd2];clear hx hy hd2 he HF HO HM HLo HHi HCF;subst h0
    go_wp2_with fail
    refine(As _ _ _ _).mono ?_;rw[hin];rintro e w' ⟨rfl,rfl⟩;go_wp2;refine AS (v:=.tuple (BN 0 0 4)) (by simp[results,results287,go_sem,e4,f4,g4]) rfl ⟨by rw[HV.out.1,HV.out.2,HC.out],?_⟩
    repeat(first|with_reducible exact b0|refine Below.setCell ?_ (by simp<;>omega) _)
   ·obtain⟨k,rfl⟩: ∃k,i=k+1:=⟨i-1,by omega⟩
    have HC:Hid (levC ts t=0):=HM.out h0 hi
    have HV:Hid (lvLo ts ls t=ls.getD k 0+(ls.getD (k+1) 0-ls.getD k 0)*(t-ts.getD k 0)/(ts.getD (k+1) 0-ts.getD k 0)∧lvHi ts ls t=ls.getD k 0+ -(-((ls.getD (k+1) 0-ls.getD k 0)*(t-ts.getD k 0))/(ts.getD (k+1) 0-ts.getD k 0))):=by
     have a:=HLo.out;have b:=HHi.out;rw[Ak he,Nat.add_sub_cancel] at a b;unfold Hid lvLo lvHi;rw[HC.out,AA rfl,AA rfl,a,b];exact⟨rfl,rfl⟩
    obtain⟨_,⟨⟩,hx0⟩:=(r0.below b0).int (show k<n by omega)
    obtain⟨_,⟨⟩,hy0⟩:=(r1.below b0).int (show k<n by omega)
    have hz:=HRIS.out k (k+1) Aa (by rw[l0];exact hi)
    have hA:=HG.out.tm (k:=k) (by rw[l0];omega)
    have hB:=HG.out.tm (k:=k+1) (by rw[l0];exact hi)
    have hC:=HG.out.lv (k:=k) (by rw[l0];omega)
    have hD:=HG.out.lv (k:=k+1) (by rw[l0];exact hi)
    rw[hd1,hd2];clear hd2 he HF HO HM HLo HHi HCF;generalize ts.getD k 0=tA at*;generalize ts.getD (k+1) 0=tB at*;generalize ls.getD k 0=lA at*;generalize ls.getD (k+1) 0=lB at*;have hp:=VL (a:=lB-lA) (b:=t-tA) (A:=4000) (B:=1000000) Aa Aa Aa Aa;obtain⟨by_,hby⟩: ∃b,(lB-lA)*(t-tA)=b:=⟨_,rfl⟩;rw[hby] at hp HV;have hkI:(k:Int)+1<(n:Int):=Aa;have hkI2: ¬((k:Int)+1=(n:Int)):=Aa;have hkI3: ¬((k:Int)+1=0):=Aa;have hk0:(0:Int)≤(k:Int):=Aa;have hk1:(k:Int)<(n:Int):=Aa;have hk2:(0:Int)≤(k:Int)+1:=Aa;have hk3:((k:Int)+1).toNat=k+1:=Aa;have hk4:k<n:=Aa;rw[Bf ad (k+1) Aa] at hx;rw[Bf bd (k+1) Aa] at hy;have w1:=Bg (k:Int);have w2':=Bg (tB-tA);have w3':=Bg (lB-lA);have w4':=Bg (t-tA);have w5':=Bg by_;have hkB:((k:Int)+1==0)=false:=E8;have hkB2:((k:Int)+1==(n:Int))=false:=E8
    go_wp2_with fail
    refine(As _ _ _ _).mono ?_;rw[hin];rintro e w' ⟨rfl,rfl⟩
    go_wp2_with fail
    go_quiet (fail)
    revert nq;intro nq1
    go_wp2_with fail
    go_quiet (fail)
    revert nq;intro nq2;have qb:=Fc (a:=by_) (b:=tB-tA) Aa Aa Aa;have qc:=Fc (a:= -by_) (b:=tB-tA) Aa Aa Aa
    go_wp2_with fail
    refine(Ec by_ (tB-tA) _ Aa Aa Aa Aa).mono ?_;rintro e w' ⟨rfl,rfl⟩
    go_wp2_with fail
    refine(Ex by_ (tB-tA) _ Aa Aa Aa Aa).mono ?_;rintro e w' ⟨rfl,rfl⟩;have D4:Blk (w2.drewN (nq1+nq2)) (w.heap.size+1) 136 Cq:=K4;have db:Below w w (w2.drewN (nq1+nq2)):=Ba b0 _;clear e2 e4 f4 g2 g4 hx hy hx0 hy0 hby;generalize w2.drewN (nq1+nq2)=w3 at D4 db⊢;have e4:=D4.cell;have f4:=D4.frozen;have g4:=D4.lt;go_wp2;refine AS (v:=.tuple (BN (lA+by_/(tB-tA)) (lA+ -(-by_/(tB-tA))) 0)) (by simp[results,results287,go_sem,e4,f4,g4]) rfl ⟨by rw[HV.out.1,HV.out.2,HC.out],?_⟩
    repeat(first|with_reducible exact db|refine Below.setCell ?_ (by simp<;>omega) _)
 ·obtain rfl:n=i:=Aa;have HC:Hid (levC ts t=4):=HO.out (.inr rfl);have HV:Hid (lvLo ts ls t=0∧lvHi ts ls t=0):=by unfold Hid lvLo lvHi;rw[HC.out];exact⟨rfl,rfl⟩
  have hd1:decide (n<n)=false:=BR (Nat.lt_irrefl _);have hnB:((n:Int)==0)=false:=by rw[Ea];have:=HG.out.n0;omega
  rw[hd1,Bool.false_and];clear HF HO HM HLo HHi HCF hd1
  go_wp2_with fail
  refine(As _ _ _ _).mono ?_;rw[hin];rintro e w' ⟨rfl,rfl⟩;go_wp2;refine AS (v:=.tuple (BN (0) (0) 4)) (by simp[results,results287,go_sem,e4,f4,g4]) rfl ⟨by rw[HV.out.1,HV.out.2,HC.out],?_⟩
  repeat(first|with_reducible exact b0|refine Below.setCell ?_ (by simp<;>omega) _)
theorem Tb {a b M:Int} (h1: -M≤a) (h2:a≤M): -M≤a/b∧a/b≤M:=by
 have key: ∀b:Int,0<b→ -M≤a/b∧a/b≤M:=fun b hb=>by
  constructor
  ·refine Int.le_ediv_of_mul_le hb ?_;have: -M*b≤ -M*1:=Int.mul_le_mul_of_nonpos_left Aa Aa;omega
  ·rcases Int.le_total 0 a with h|h
   ·have:=Int.ediv_le_self b h;omega
   ·have h5:a/b*b≤a:=Int.ediv_mul_le a Aa;rcases Eg 0 (a/b) with h6|h6
    ·have:=Int.mul_pos h6 hb;omega
    ·omega
 rcases Int.lt_trichotomy b 0 with hb|hb|hb
 ·have h3:=key (-b) Aa;rw[Int.ediv_neg] at h3;omega
 ·subst hb;rw[Int.ediv_zero];omega
 ·exact key b hb
theorem GY.tmA {ts ls:List Int} (G:GY ts ls) (k:Nat):0≤ts.getD k 0∧ts.getD k 0≤1000000:=by
 by_cases h:k<ts.length
 ·exact G.tm h
 ·rw[DE,List.getElem?_eq_none Aa];simp
theorem GY.lvA {ts ls:List Int} (G:GY ts ls) (k:Nat): -2000≤ls.getD k 0∧ls.getD k 0≤2000:=by
 by_cases h:k<ts.length
 ·exact G.lv h
 ·rw[DE,List.getElem?_eq_none (by have:=G.eq;omega)];simp
theorem dS {ts ls:List Int} {t:Int} (G:GY ts ls) (h0:0≤t) (h1:t≤1000000): -5000000000≤lvLo ts ls t∧lvLo ts ls t≤5000000000∧ -5000000000≤lvHi ts ls t∧lvHi ts ls t≤5000000000:=by
 have a1:=G.lvA (cutN ts t);have a2:=G.lvA (cutN ts t-1);have a3:=G.tmA (cutN ts t-1);have hp:=VL (a:=ls.getD (cutN ts t) 0-ls.getD (cutN ts t-1) 0) (b:=t-ts.getD (cutN ts t-1) 0) (A:=4000) (B:=1000000) Aa Aa Aa Aa;have e1:=Tb (a:=Ko ts ls t) (b:=ZL ts t) (M:=4000000000) (by unfold Ko;omega) (by unfold Ko;omega)
 have e2:=Tb (a:= -Ko ts ls t) (b:=ZL ts t) (M:=4000000000) (by unfold Ko;omega) (by unfold Ko;omega)
 unfold lvLo lvHi levLo levHi;clear hp
 split
 ·split<;>omega
 ·omega
def redB (ts ls:List Int) (t x y d r:Int):Bool:=DP x y (MT d r (lvLo ts ls t) (lvHi ts ls t)) (MU d r (lvLo ts ls t) (lvHi ts ls t))
def EP (ts ls:List Int) (t x y d r:Int):Int:=if levC ts t=0 then(if redB ts ls t x y d r=true then 0 else 3) else 4
def H6 (ts ls:List Int) (t x y d r:Int):Value:=if EP ts ls t x y d r=0 then .agg (Ziiii x y (MT d r (lvLo ts ls t) (lvHi ts ls t)) (MU d r (lvLo ts ls t) (lvHi ts ls t))) else .agg C8
theorem Ub (ts:List Int) (t:Int):levC ts t=0∨levC ts t=4:=by unfold levC;split<;>simp
theorem CW (x y d r:Int) (w:World) (h1: -2000≤d) (h2:d≤1000000) (h3:0≤r) (h4:r≤5000):
  (BT 232 #[Ziiii x y d r] w (Zii (d-r) (d+r)):Prop):=by
 go_enter func232,ntmps232
 go_upto_region 1 with fail
 generalize hG:(w.alloc _).alloc _=w1;obtain⟨K1,K2,b0⟩:=Qg hG;clear hG;have e1:=K1.cell;have e2:=K2.cell;have f2:=K2.frozen;have g2:=K2.lt;go_wp2;refine AS (v:=.agg (Zii (d-r) (d+r))) (by simp[results,results232,go_sem,e2,g2]) rfl ⟨rfl,?_⟩
 repeat(first|with_reducible exact b0|refine Below.setCell ?_ (by simp<;>omega) _)
theorem N5 (A0 A1:Option Addr) (n c q:Nat) (ts ls:List Int) (t x y d r:Int) (w:World) (G:GY ts ls) (r0:Rd w A0 n (ints ts)) (r1:Rd w A1 n (ints ls)) (ht0:0≤t) (ht1:t≤1000000) (hs:DP x y d r=true):
  (BT 230 #[Ziiii x y d r,CH A0 n c A1 n q,ZI t] w (.tuple #[H6 ts ls t x y d r,ZI (EP ts ls t x y d r)]):Prop):=by
 have K3:=((Br w 65 (Ziiii x y d r)).alloc (.cells (CH A0 n c A1 n q) 205)).alloc (.cells C8 65);have K4:=(Blk.newN (g:=w+1) (w.alloc (.cells (Ziiii x y d r) 65)) 205 (CH A0 n c A1 n q) Cr).alloc (.cells C8 65);have K6:=Blk.newN (g:=w+1+1) ((w.alloc (.cells (Ziiii x y d r) 65)).alloc (.cells (CH A0 n c A1 n q) 205)) 65 C8 Cr;have b0:Below w w (((w.alloc (.cells (Ziiii x y d r) 65)).alloc (.cells (CH A0 n c A1 n q) 205)).alloc (.cells C8 65)):=Ax;have HG:=Ai G;have hbd:=dS G ht0 ht1;have HS:=Ai hs
 have hd:(-2000≤d∧d≤1000000)∧0≤r∧r≤5000:=by
  unfold DP at hs;simp only[CD] at hs;exact⟨Ac hs.1.2,Ac hs.2⟩
 have HRC:Hid (EP ts ls t x y d r=if levC ts t=0 then(if redB ts ls t x y d r=true then 0 else 3) else 4):=rfl;have HRV:Hid (H6 ts ls t x y d r=if EP ts ls t x y d r=0 then .agg (Ziiii x y (MT d r (lvLo ts ls t) (lvHi ts ls t)) (MU d r (lvLo ts ls t) (lvHi ts ls t))) else .agg C8):=rfl;have HRB:Hid (redB ts ls t x y d r=DP x y (MT d r (lvLo ts ls t) (lvHi ts ls t)) (MU d r (lvLo ts ls t) (lvHi ts ls t))):=rfl;have hlc:=Ub ts t;clear hs G
 go_enter func230,ntmps230
 go_upto_region 1 with fail
 generalize((w.alloc _).alloc _).alloc _=w1 at K3 K4 K6 b0⊢;have g3:=K3.lt;have g4:=K4.lt;have g6:=K6.lt;have e3:=K3.cell
 go_wp2_with fail
 refine(EM x y d r _).mono ?_;rw[HS.out];rintro e w2 ⟨rfl,b2⟩;replace K3:=K3.below b2 g3;replace K4:=K4.below b2 g4;replace K6:=K6.below b2 g6;replace b0:=An b0 b2;replace g3:=K3.lt;replace g4:=K4.lt;replace g6:=K6.lt;replace e4:=K4.cell;clear b2
 go_wp2_with fail
 refine(MM A0 A1 n n c q ts ls _ HG.out (r0.below b0) (r1.below b0)).mono ?_;rintro e w3 ⟨rfl,b3⟩;replace K3:=K3.below b3 g3;replace K4:=K4.below b3 g4;replace K6:=K6.below b3 g6;replace b0:=An b0 b3;replace g3:=K3.lt;replace g6:=K6.lt;replace e4:=K4.cell;clear b3
 go_wp2_with fail
 refine(Uc A0 A1 n c q ts ls t _ HG.out (r0.below b0) (r1.below b0) ht0 ht1).mono ?_;rintro e w4 ⟨rfl,b4⟩;replace K3:=K3.below b4 g3;replace K6:=K6.below b4 g6;replace b0:=An b0 b4;replace g3:=K3.lt;replace g6:=K6.lt;replace e6:=K6.cell;replace f6:=K6.frozen;clear b4;clear HG r0 r1;generalize lvLo ts ls t=lo at*;generalize lvHi ts ls t=hi at*;generalize redB ts ls t x y d r=rb at*;generalize levC ts t=lc at*;rcases hlc with rfl|rfl
 rotate_left
 ·have HV:Hid (H6 ts ls t x y d r=.agg C8∧EP ts ls t x y d r=4):=by
   have a:=HRC.out;rw[Ak Ah] at a;have b:=HRV.out;rw[a,Ak Ah] at b;exact⟨b,a⟩
  go_wp2;refine AS (v:=.tuple (EJ 0 0 0 0 4)) (by simp[results,results230,go_sem,e6,g6]) rfl ⟨by rw[HV.out.1,HV.out.2],?_⟩
  have hsz:=b0.size
  repeat(first|with_reducible exact b0|refine Below.setCell ?_ (by simp<;>omega) _|refine Below.alloc ?_ (by simp<;>omega) _)
 go_upto_region 4 with fail
 have K8:=Br w4 136 (Zii lo hi);have b5:Below w4 w4 (w4.alloc (.cells (Zii lo hi) 136)):=BU;replace K3:=K3.below b5 g3;replace K6:=K6.below b5 g6;replace b0:=An b0 b5;replace g3:=K3.lt;replace g6:=K6.lt;replace e3:=K3.cell;clear b5;generalize w4.alloc _=w5 at*;have g8:=K8.lt;generalize w4.heap.size=p8 at*
 go_wp2_with fail
 refine(CW x y d r _ hd.1.1 hd.1.2 hd.2.1 hd.2.2).mono ?_;rintro e w6 ⟨rfl,b6⟩;replace K8:=K8.below b6 g8;replace g8:=K8.lt;replace K3:=K3.below b6 g3;replace K6:=K6.below b6 g6;replace b0:=An b0 b6;replace g3:=K3.lt;replace g6:=K6.lt;clear b6
 go_upto_region 7 with fail
 have K10:=Br w6 136 (Zii (d-r) (d+r));have b7:Below w6 w6 (w6.alloc (.cells (Zii (d-r) (d+r)) 136)):=BU;replace K8:=K8.below b7 g8;replace e8:=K8.cell;replace K3:=K3.below b7 g3;replace K6:=K6.below b7 g6;replace b0:=An b0 b7;replace g3:=K3.lt;replace g6:=K6.lt;clear b7;generalize w6.alloc _=w7 at*;generalize w6.heap.size=p10 at*;have e10:=K10.cell;have u1:=Bg (d-r-hi);have u2:=Bg (d+r-lo)
 go_quiet (fail)
 revert nq;intro nq1
 go_wp2_with fail
 have HD:Hid (MT d r lo hi=(d-r-hi+(d+r-lo))/2∧MU d r lo hi= -(-(d+r-lo-(d-r-hi))/2)):=⟨rfl,rfl⟩;have u3:=Bg (d-r-hi+(d+r-lo));have u4:=Bg (d+r-lo-(d-r-hi));have m1: -4611686018427387904≤d-r-hi+(d+r-lo)∧d-r-hi+(d+r-lo)≤4611686018427387904:=Aa;have m2: -4611686018427387904≤d+r-lo-(d-r-hi)∧d+r-lo-(d-r-hi)≤4611686018427387904:=Aa;have b8:Below w7 w7 (w7.drewN nq1):=BW _ _;replace K3:=K3.below b8 g3;replace K6:=K6.below b8 g6;replace b0:=An b0 b8;replace g3:=K3.lt;replace g6:=K6.lt;replace e3:=K3.cell;clear b8;clear K8 K10 e8 e10 g8 u1 u2;generalize w7.drewN nq1=w8 at*;generalize d-r-hi=low at*;generalize d+r-lo=high at*;have hS: ∀o,w8.cell? ⟨w,o,none⟩= (Ziiii x y d r:Array Value)[o]? :=e3
 go_region_held3 (fun w'=> ∀o,w'.cell? ⟨w,o,none⟩= (Ziiii x y d r:Array Value)[o]?)
  (first|(with_reducible assumption)|((with_reducible refine AK ?_ ?_ _)<;>first|(with_reducible assumption)|omega|(simp;done)|(simp;omega))|((with_reducible refine AC ?_);(with_reducible refine AK ?_ ?_ _)<;>first|(with_reducible assumption)|omega|(simp;done)|(simp;omega))|(intro o;go_keep))
  (first
   |(go_at_call 241;refine(Ec (low+high) 2 _ m1.1 m1.2 Ah Ah).mono ?_;rintro e w' ⟨rfl,rfl⟩)
   |(go_at_call 196;refine(Ex (high-low) 2 _ m2.1 m2.2 Ah Ah).mono ?_;rintro e w' ⟨rfl,rfl⟩))
 all_goals
  have K13:=Br w8 65 (Ziiii x y ((low+high)/2) (-(-(high-low)/2)));have b9:Below w8 w8 (w8.alloc (.cells (Ziiii x y ((low+high)/2) (-(-(high-low)/2))) 65)):=BU;replace K6:=K6.below b9 g6;replace b0:=An b0 b9;clear b9 K3 K4 g3 g4 e3 e4 e6 f6 hS u3 u4 m1 m2;replace g6:=K6.lt;generalize w8.alloc _=w9 at*;generalize w8.heap.size=p13 at*;have HB:=HRB.out;rw[HD.out.1,HD.out.2] at HB;have HBH:=Ai HB;clear HB;have HVV:Hid (H6 ts ls t x y d r=if EP ts ls t x y d r=0 then .agg (Ziiii x y ((low+high)/2) (-(-(high-low)/2))) else .agg C8):=by have a:=HRV.out;rw[HD.out.1,HD.out.2] at a;exact a
  clear HRV HRB HD;generalize(low+high)/2=D at*;generalize-(-(high-low)/2)=E at*;have e13:=K13.cell;have g13:=K13.lt
  go_wp2_with fail
  refine(EM x y D E _).mono ?_;rw[←HBH.out];rintro e w10 ⟨rfl,b10'⟩;have b10:Below w9 w9 w10:=EE (m:=1) b10';clear b10';replace K6:=K6.below b10 g6;replace K13:=K13.below b10 g13;replace b0:=An b0 b10;replace g6:=K6.lt;have e6:=K6.cell;have f6:=K6.frozen;replace e13:=K13.cell;clear b10
  cases rb
  ·have HV:Hid (H6 ts ls t x y d r=.agg C8∧EP ts ls t x y d r=3):=by
    have a:EP ts ls t x y d r=3:=by simpa using HRC.out
    have b:=HVV.out;rw[a] at b;exact⟨by simpa using b,a⟩
   go_wp2;refine AS (v:=.tuple (EJ 0 0 0 0 3)) (by simp[results,results230,go_sem,e6,g6]) rfl ⟨by rw[HV.out.1,HV.out.2],?_⟩
   repeat(first|with_reducible exact b0|refine Below.setCell ?_ (by simp<;>omega) _|refine Below.alloc ?_ (by simp<;>omega) _)
  ·have HV:Hid (H6 ts ls t x y d r=.agg (Ziiii x y D E)∧EP ts ls t x y d r=0):=by
    have a:EP ts ls t x y d r=0:=by simpa using HRC.out
    have b:=HVV.out;rw[a] at b;exact⟨by simpa using b,a⟩
   go_wp2;refine AS (v:=.tuple (EJ x y D E 0)) (by simp[results,results230,go_sem,e6,g6]) rfl ⟨by rw[HV.out.1,HV.out.2],?_⟩
   repeat(first|with_reducible exact b0|refine Below.setCell ?_ (by simp<;>omega) _|refine Below.alloc ?_ (by simp<;>omega) _)
theorem MY (A0 A1:Option Addr) (n m c d:Nat) (ts ls:List Int) (w:World) (G:GY ts ls) (r0:Rd w A0 n (ints ts)) (r1:Rd w A1 m (ints ls)):
  (BT 308 #[CH A0 n c A1 m d] w (.bool true):Prop):=by
 have K0:=Br w 205 (CH A0 n c A1 m d);have b0:Below w w (w.alloc (.cells (CH A0 n c A1 m d) 205)):=BU;have l0:=r0.len;have l1:=r1.len;have g0:=G.n0;have g1:=G.n1;have ge:=G.eq;obtain rfl:n=m:=Aa;have HR:=Ai G.ris;have HV:Hid (Hn ls 40 (-2000) 2000=true):=by show _=_;unfold Hn;rw[G.lev,BC Aa];rfl
 have k0:(0:Int)<(n:Int):=Aa;have k1:(n:Int)≤40:=Aa;have k2:0<n:=Aa;have hn40:n≤40:=Aa;clear G l0 l1 ge g0 g1
 go_enter func308,ntmps308
 go_upto_region 1 with fail
 generalize w.alloc _=w1 at K0 b0⊢;have e0:=K0.cell;have g0:=K0.lt
 go_wp2_with fail
 refine(Fy _ _ _ ts _ _ Aa (r0.below b0)).mono ?_;rw[HR.out];rintro e w2 ⟨rfl,b2⟩;have b3:=An b0 b2;replace K0:=K0.below b2 g0;replace e0:=K0.cell;replace g0:=K0.lt;clear b2
 go_wp2_with fail
 refine(Gw _ _ _ ls _ _ _ _ Aa (r1.below b3)).mono ?_;rw[HV.out];rintro e w' ⟨rfl,rfl⟩;go_wp2;go_ret;exact⟨rfl,b3⟩
theorem Rz (A0 A1:Option Addr) (n c d:Nat) (ts ls:List Int) (t:Int) (w:World) (G:GY ts ls) (r0:Rd w A0 n (ints ts)) (r1:Rd w A1 n (ints ls)) (ht0:0≤t) (ht1:t≤1000000) (hlo:ts.getD 0 0≤t) (hhi:t≤ts.getD (n-1) 0):
  (BT 309 (EK A0 n c A1 n d t) w (Zii (levLo ts ls t) (levHi ts ls t)):Prop):=by
 have l0:ts.length=n:=r0.len;have hR:=Ai (am G.ris);have n0:=G.n0;have n1:n≤40:=by have:=G.n1;omega
 have HG:=Ai G;have HLO:=Ai hlo;have HHI:=Ai hhi;have HL0:=Ai l0;have hnp:1≤n:=Aa;clear G hlo hhi n0 l0
 go_enter func309,ntmps309
 go_upto_region 1 with fail
 generalize hG:(w.alloc _).alloc _=w1;obtain⟨K2,K4,b0⟩:=Qg hG;clear hG;replace r0:=r0.below b0;replace r1:=r1.below b0;have g2:=K2.lt;have g4:=K4.lt;have e2:=K2.cell
 go_wp2_with fail
 go_loopw [5] (fun v5 wr=> ∃k:Nat,k<n∧v5=.int .i64 k∧ts.getD k 0≤t∧wr=w1) (fun v5 _=>n-(intOf v5).toNat)
 case atStart=>exact⟨0,by omega,rfl,HLO.out,rfl⟩
 case round=>
  obtain⟨k,hk,rfl,hkt,rfl⟩:=hrel;have HKT:=Ai hkt;clear hkt;have hkI:(k:Int)<(n:Int):=Aa;have hk0:(0:Int)≤(k:Int):=Aa;have hk2:(0:Int)≤(k:Int)+1:=Aa;have hk3:((k:Int)+1).toNat=k+1:=Aa;have hst:(k+1<n∧ts.getD (k+1) 0≤t)∨(k+1<n∧ ¬ts.getD (k+1) 0≤t)∨k+1=n:=Aa;rcases hst with⟨h1,h2⟩|hst
  ·obtain⟨ad,rfl,hx⟩:=r0.int h1;rw[Bf ad (k+1) Aa] at hx;have hd:=BC h2;have H2:=Ai h2;have hkI2:(k:Int)+1<(n:Int):=Aa;clear h2;generalize ts.getD (k+1) 0=x at hx hd
   go_wp2_with fail
   go_roundw
   case rel=>exact⟨k+1,h1,by go_num,H2.out,by first|rfl|trivial⟩
   case measure=>simp[intOf];omega
  ·by_cases he:ts.getD k 0=t
   ·have HC:Hid (cutN ts t=k):=IL (by have:=HL0.out;omega) (fun a ha=>by have:=hR.out a k ha (by have:=HL0.out;omega);omega) (fun _=>by omega)
    have HV:Hid (levLo ts ls t=ls.getD k 0∧levHi ts ls t=ls.getD k 0):=by unfold Hid levLo levHi;rw[HC.out,AA he,AA he];exact⟨rfl,rfl⟩
    obtain⟨ad,rfl,hx⟩:=r0.int hk;obtain⟨bd,rfl,hy⟩:=r1.int hk;rw[he] at hx;generalize ls.getD k 0=y at*;rcases hst with⟨h1,h2⟩|h1
    ·obtain⟨_,⟨⟩,hx1⟩:=r0.int h1;rw[Bf ad (k+1) Aa] at hx1;have hd:=BR h2;have hkI2:(k:Int)+1<(n:Int):=Aa;clear h2;generalize ts.getD (k+1) 0=x at hx1 hd
     go_upto_region 5 with fail
     go_still_tail 11,We51ceQ
     have D4:Blk wr.drew (w.heap.size+1) 136 Cq:=K4;have db:Below w w wr.drew:=CO b0;change wpList _ _ _ _ _ wr.drew;clear e2 g2 g4 hx hy hx1;generalize wr.drew=w3 at D4 db⊢;have e4:=D4.cell;have f4:=D4.frozen;have g4:=D4.lt;go_wp2;refine AS (v:=.agg (Zii y y)) (by simp[results,results309,go_sem,e4,g4]) rfl ⟨by rw[HV.out.1,HV.out.2],?_⟩
     repeat(first|with_reducible exact db|refine Below.setCell ?_ (by simp<;>omega) _)
    ·have hkC: ¬(k:Int)+1<(n:Int):=Aa
     go_upto_region 5 with fail
     go_still_tail 11,We51ceQ
     have D4:Blk wr.drew (w.heap.size+1) 136 Cq:=K4;have db:Below w w wr.drew:=CO b0;change wpList _ _ _ _ _ wr.drew;clear e2 g2 g4 hx hy;generalize wr.drew=w3 at D4 db⊢;have e4:=D4.cell;have f4:=D4.frozen;have g4:=D4.lt;go_wp2;refine AS (v:=.agg (Zii y y)) (by simp[results,results309,go_sem,e4,g4]) rfl ⟨by rw[HV.out.1,HV.out.2],?_⟩
     repeat(first|with_reducible exact db|refine Below.setCell ?_ (by simp<;>omega) _)
   ·have hkt:=HKT.out
    have h12:k+1<n∧ ¬ts.getD (k+1) 0≤t:=by
     rcases hst with h|h
     ·exact h
     ·have:=HHI.out;rw[show n-1=k by omega] at this
      omega
    obtain⟨h1,h2⟩:=h12;have hz:=hR.out k (k+1) Aa (by have:=HL0.out;omega)
    have HC:Hid (cutN ts t=k+1):=IL (by have:=HL0.out;omega) (fun a ha=>by
     by_cases e:a=k
     ·subst e;omega
     ·have:=hR.out a k Aa (by have:=HL0.out;omega);omega) (fun _=>by omega)
    have HV:Hid (levLo ts ls t=ls.getD k 0+(ls.getD (k+1) 0-ls.getD k 0)*(t-ts.getD k 0)/(ts.getD (k+1) 0-ts.getD k 0)∧levHi ts ls t=ls.getD k 0+ -(-((ls.getD (k+1) 0-ls.getD k 0)*(t-ts.getD k 0))/(ts.getD (k+1) 0-ts.getD k 0))):=by
     have hne: ¬ts.getD (k+1) 0=t:=Aa;unfold Hid levLo levHi Ko ZL;rw[HC.out,Nat.add_sub_cancel,Ak hne,Ak hne];exact⟨rfl,rfl⟩
    obtain⟨ad,rfl,hx0⟩:=r0.int hk;obtain⟨bd,rfl,hy0⟩:=r1.int hk;obtain⟨_,⟨⟩,hx⟩:=r0.int h1;obtain⟨_,⟨⟩,hy⟩:=r1.int h1;have hA:=HG.out.tmA k;have hB:=HG.out.tmA (k+1);have hC:=HG.out.lvA k;have hD:=HG.out.lvA (k+1);rw[Bf ad (k+1) Aa] at hx;rw[Bf bd (k+1) Aa] at hy;have hd:=BR h2;have he':decide (ts.getD k 0=t)=false:=BR he;have hb1:(ts.getD k 0==t)=false:=by rw[Ea];exact he
    have hkI2:(k:Int)+1<(n:Int):=Aa;clear h2 he HC HKT hst;generalize ts.getD k 0=tA at*;generalize ts.getD (k+1) 0=tB at*;generalize ls.getD k 0=lA at*;generalize ls.getD (k+1) 0=lB at*;have hp:=VL (a:=lB-lA) (b:=t-tA) (A:=4000) (B:=1000000) Aa Aa Aa Aa;obtain⟨by_,hby⟩: ∃b,(lB-lA)*(t-tA)=b:=⟨_,rfl⟩;rw[hby] at hp HV;have w1':=Bg ((k:Int)+1);have w2':=Bg (tB-tA);have w3':=Bg (lB-lA);have w4':=Bg (t-tA);have w5':=Bg by_
    go_upto_region 6 with fail
    go_quiet (fail)
    revert nq;intro nq1;have qb:=Fc (a:=by_) (b:=tB-tA) Aa Aa Aa;have qc:=Fc (a:= -by_) (b:=tB-tA) Aa Aa Aa
    go_upto_region 7 with fail
    have E2: ∀o,(wr.drewN nq1).cell? ⟨w,o,none⟩=((CH (some ad) n c (some bd) n d):Array Value)[o]? :=e2;have D4:Blk (wr.drewN nq1) (w.heap.size+1) 136 Cq:=K4;have db:Below w w (wr.drewN nq1):=Ba b0 _;have Y0:(wr.drewN nq1).cell? (bd.add k)=ZS lA:=hy0;clear e2 g2 g4 hx hx0 hy hy0 K2 K4 b0;generalize wr.drewN nq1=w3 at E2 D4 db Y0⊢;have cF:=fun W=>Ee by_ (tB-tA) W Aa Aa Aa Aa;have cC:=fun W=>EB by_ (tB-tA) W Aa Aa Aa Aa
    go_still_tail 19,We51ceQ
    still_call ((cF _).mono fun _ _ h=>⟨h.1,h.2.symm⟩)
    repeat still_step
    still_call ((cC _).mono fun _ _ h=>⟨h.1,h.2.symm⟩)
    repeat still_step
    refine wpStill_nil ?_;have D5:Blk w3.drew (w.heap.size+1) 136 Cq:=D4;have db5:Below w w w3.drew:=CO db;change wpList _ _ _ _ _ w3.drew;clear cF cC E2 D4 db Y0;generalize w3.drew=w4 at D5 db5⊢;have e4:=D5.cell;have f4:=D5.frozen;have g4:=D5.lt;go_wp2;refine AS (v:=.agg (Zii (lA+by_/(tB-tA)) (lA+ -(-by_/(tB-tA))))) (by simp[results,results309,go_sem,e4,g4]) rfl ⟨by rw[HV.out.1,HV.out.2],?_⟩
    repeat(first|with_reducible exact db5|refine Below.setCell ?_ (by simp<;>omega) _)
theorem MZ (A0 A1:Option Addr) (n c d:Nat) (ts ls:List Int) (t:Int) (w:World) (G:GY ts ls) (r0:Rd w A0 n (ints ts)) (r1:Rd w A1 n (ints ls)) (ht0:0≤t) (ht1:t≤1000000):
  (BT 267 (EK A0 n c A1 n d t) w (.tuple (BN (lvLo ts ls t) (lvHi ts ls t) (levC ts t))):Prop):=by
 have l0:ts.length=n:=r0.len;have n0:1≤n:=by have:=G.n0;omega
 have n1:n≤40:=by have:=G.n1;omega
 have HG:=Ai G;have hin:inR t 0 1000000=true:=CN ht0 ht1;have HLC:Hid (levC ts t=if inR t (ts.getD 0 0) (ts.getD (n-1) 0)=true then 0 else 4):=by unfold Hid levC Ua;rw[l0];rfl
 clear G l0
 go_enter func267,ntmps267
 go_upto_region 1 with fail
 generalize hG:(w.alloc _).alloc _=w1;obtain⟨K2,K4,b0⟩:=Qg hG;clear hG;have g2:=K2.lt;have g4:=K4.lt;have e2:=K2.cell
 go_wp2_with fail
 refine(MY A0 A1 n n c d ts ls _ HG.out (r0.below b0) (r1.below b0)).mono ?_;rintro e w2 ⟨rfl,b2⟩;replace K2:=K2.below b2 g2;replace K4:=K4.below b2 g4;replace b0:=An b0 b2;replace e2:=K2.cell;clear b2
 go_wp2_with fail
 refine(Ay _ _ _ _).mono ?_;rw[hin];rintro e w' ⟨rfl,rfl⟩
 go_upto_region 5 with fail
 obtain⟨ad,rfl,hx0⟩:=(r0.below b0).int (show 0<n by omega)
 obtain⟨_,⟨⟩,hx1⟩:=(r0.below b0).int (show n-1<n by omega)
 rw[Gu] at hx0;obtain⟨m,rfl⟩: ∃m,n=m+1:=⟨n-1,by omega⟩
 simp only[Nat.add_sub_cancel] at hx1 HLC;have hm0:(0:Int)≤(m:Int):=Aa;have hm1:(m:Int)<(m:Int)+1:=Aa;have hm3:(0:Int)<(m:Int)+1:=Aa;have u1:=Bg (m:Int);rcases BA (inR t (ts.getD 0 0) (ts.getD m 0)) with q|q
 rotate_left
 ·have HC:Hid (levC ts t=4):=by show _=_;rw[HLC.out,q];rfl
  have HV:Hid (lvLo ts ls t=0∧lvHi ts ls t=0):=by unfold Hid lvLo lvHi;rw[HC.out];exact⟨rfl,rfl⟩
  clear HLC;generalize ts.getD 0 0=x0 at*;generalize ts.getD m 0=x1 at*;have hI: ∀W,Calls prog 84 (Ziii t x0 x1) W fun e w'=>e=.returned (.bool false)∧W=w':=fun W=>by rw[←q];exact Ay _ _ _ _
  go_quiet ((go_at_call 84;with_reducible exact Hq (hI _)))
  revert nq;intro nq1;have D4:Blk (w2.drewN nq1) (w.heap.size+1) 136 Cq:=K4;have db:Below w w (w2.drewN nq1):=Ba b0 _;clear hx0 hx1 K2 K4 b0 e2 g2 g4 hI;generalize w2.drewN nq1=w3 at D4 db⊢;have e4:=D4.cell;have f4:=D4.frozen;have g4:=D4.lt;go_wp2;refine AS (v:=.tuple (BN (0) (0) 4)) (by simp[results,results267,go_sem,e4,f4,g4]) rfl ⟨by rw[HV.out.1,HV.out.2,HC.out],?_⟩
  repeat(first|with_reducible exact db|refine Below.setCell ?_ (by simp<;>omega) _)
 ·have HC:Hid (levC ts t=0):=by show _=_;rw[HLC.out,q];rfl
  have HV:Hid (lvLo ts ls t=levLo ts ls t∧lvHi ts ls t=levHi ts ls t):=by unfold Hid lvLo lvHi;rw[HC.out];exact⟨rfl,rfl⟩
  have q':=Ac q;have hL:=Rz (some ad) A1 (m+1) c d ts ls t;have HQ1:=Ai q'.1;have HQ2:Hid (t≤ts.getD (m+1-1) 0):=q'.2;clear HLC q';generalize ts.getD 0 0=x0 at hx0 q;generalize ts.getD m 0=x1 at hx1 q;have hI: ∀W,Calls prog 84 (Ziii t x0 x1) W fun e w'=>e=.returned (.bool true)∧W=w':=fun W=>by rw[←q];exact Ay _ _ _ _
  go_quiet ((go_at_call 84;with_reducible exact Hq (hI _)))
  revert nq;intro nq1;have D2:Blk (w2.drewN nq1) w.heap.size 205 (CH (some ad) (m+1) c A1 (m+1) d):=K2;have D4:Blk (w2.drewN nq1) (w.heap.size+1) 136 Cq:=K4;have db:Below w w (w2.drewN nq1):=Ba b0 _;clear hx0 hx1 K2 K4 b0 e2 g2 g4 hI;generalize w2.drewN nq1=w3 at D2 D4 db⊢;have e2:=D2.cell;have g4:=D4.lt
  go_wp2_with fail
  refine(hL _ HG.out (r0.below db) (r1.below db) ht0 ht1 HQ1.out HQ2.out).mono ?_;rintro e w4 ⟨rfl,b4⟩;replace D4:=D4.below b4 g4;replace db:=An db b4;clear b4 e2 D2 hL;replace g4:=D4.lt;have e4:=D4.cell;have f4:=D4.frozen;generalize levLo ts ls t=lo at*;generalize levHi ts ls t=hi at*;go_wp2;refine AS (v:=.tuple (BN (lo) (hi) 0)) (by simp[results,results267,go_sem,e4,f4,g4]) rfl ⟨by rw[HV.out.1,HV.out.2,HC.out],?_⟩
  repeat(first|with_reducible exact db|refine Below.setCell ?_ (by simp<;>omega) _)
theorem CZ (x y d r:Int) (w:World) (h1: -2000≤d) (h2:d≤1000000) (h3:0≤r) (h4:r≤5000):
  (BT 214 #[Ziiii x y d r] w (Zii (d-r) (d+r)):Prop):=by
 go_enter func214,ntmps214
 go_upto_region 1 with fail
 generalize hG:(w.alloc _).alloc _=w1;obtain⟨K1,K2,b0⟩:=Qg hG;clear hG;have e1:=K1.cell;have e2:=K2.cell;have f2:=K2.frozen;have g2:=K2.lt;go_wp2;refine AS (v:=.agg (Zii (d-r) (d+r))) (by simp[results,results214,go_sem,e2,g2]) rfl ⟨rfl,?_⟩
 repeat(first|with_reducible exact b0|refine Below.setCell ?_ (by simp<;>omega) _)
theorem OU (A0 A1:Option Addr) (n c q:Nat) (ts ls:List Int) (t x y d r:Int) (w:World) (G:GY ts ls) (r0:Rd w A0 n (ints ts)) (r1:Rd w A1 n (ints ls)) (ht0:0≤t) (ht1:t≤1000000) (hs:DP x y d r=true):
  (BT 212 #[Ziiii x y d r,CH A0 n c A1 n q,ZI t] w (.tuple #[H6 ts ls t x y d r,ZI (EP ts ls t x y d r)]):Prop):=by
 have K3:=((Br w 65 (Ziiii x y d r)).alloc (.cells (CH A0 n c A1 n q) 205)).alloc (.cells C8 65);have K4:=(Blk.newN (g:=w+1) (w.alloc (.cells (Ziiii x y d r) 65)) 205 (CH A0 n c A1 n q) Cr).alloc (.cells C8 65);have K6:=Blk.newN (g:=w+1+1) ((w.alloc (.cells (Ziiii x y d r) 65)).alloc (.cells (CH A0 n c A1 n q) 205)) 65 C8 Cr;have b0:Below w w (((w.alloc (.cells (Ziiii x y d r) 65)).alloc (.cells (CH A0 n c A1 n q) 205)).alloc (.cells C8 65)):=Ax;have HG:=Ai G;have hbd:=dS G ht0 ht1;have HS:=Ai hs
 have hd:(-2000≤d∧d≤1000000)∧0≤r∧r≤5000:=by
  unfold DP at hs;simp only[CD] at hs;exact⟨Ac hs.1.2,Ac hs.2⟩
 have HRC:Hid (EP ts ls t x y d r=if levC ts t=0 then(if redB ts ls t x y d r=true then 0 else 3) else 4):=rfl;have HRV:Hid (H6 ts ls t x y d r=if EP ts ls t x y d r=0 then .agg (Ziiii x y (MT d r (lvLo ts ls t) (lvHi ts ls t)) (MU d r (lvLo ts ls t) (lvHi ts ls t))) else .agg C8):=rfl;have HRB:Hid (redB ts ls t x y d r=DP x y (MT d r (lvLo ts ls t) (lvHi ts ls t)) (MU d r (lvLo ts ls t) (lvHi ts ls t))):=rfl;have hlc:=Ub ts t;clear hs G
 go_enter func212,ntmps212
 go_upto_region 1 with fail
 generalize((w.alloc _).alloc _).alloc _=w1 at K3 K4 K6 b0⊢;have g3:=K3.lt;have g4:=K4.lt;have g6:=K6.lt;have e3:=K3.cell
 go_wp2_with fail
 refine(GR x y d r _).mono ?_;rw[HS.out];rintro e w2 ⟨rfl,hw2⟩;have b2:Below w1 w1 w2:=by rw[hw2];exact(AP _ _).alloc Bk _
 clear hw2;replace K3:=K3.below b2 g3;replace K4:=K4.below b2 g4;replace K6:=K6.below b2 g6;replace b0:=An b0 b2;replace g3:=K3.lt;replace g6:=K6.lt;replace e4:=K4.cell;clear b2
 go_wp2_with fail
 refine(MZ A0 A1 n c q ts ls t _ HG.out (r0.below b0) (r1.below b0) ht0 ht1).mono ?_;rintro e w4 ⟨rfl,b4⟩;replace K3:=K3.below b4 g3;replace K6:=K6.below b4 g6;replace b0:=An b0 b4;replace g3:=K3.lt;replace g6:=K6.lt;replace e6:=K6.cell;replace f6:=K6.frozen;clear b4;clear HG r0 r1;generalize lvLo ts ls t=lo at*;generalize lvHi ts ls t=hi at*;generalize redB ts ls t x y d r=rb at*;generalize levC ts t=lc at*;rcases hlc with rfl|rfl
 rotate_left
 ·have HV:Hid (H6 ts ls t x y d r=.agg C8∧EP ts ls t x y d r=4):=by
   have a:=HRC.out;rw[Ak Ah] at a;have b:=HRV.out;rw[a,Ak Ah] at b;exact⟨b,a⟩
  go_wp2;refine AS (v:=.tuple (EJ 0 0 0 0 4)) (by simp[results,results212,go_sem,e6,g6]) rfl ⟨by rw[HV.out.1,HV.out.2],?_⟩
  have hsz:=b0.size
  repeat(first|with_reducible exact b0|refine Below.setCell ?_ (by simp<;>omega) _|refine Below.alloc ?_ (by simp<;>omega) _)
 go_upto_region 4 with fail
 have K8:=Br w4 136 (Zii lo hi);have b5:Below w4 w4 (w4.alloc (.cells (Zii lo hi) 136)):=BU;replace K3:=K3.below b5 g3;replace K6:=K6.below b5 g6;replace b0:=An b0 b5;replace g3:=K3.lt;replace g6:=K6.lt;replace e3:=K3.cell;clear b5;generalize w4.alloc _=w5 at*;have g8:=K8.lt;generalize w4.heap.size=p8 at*
 go_wp2_with fail
 refine(CZ x y d r _ hd.1.1 hd.1.2 hd.2.1 hd.2.2).mono ?_;rintro e w6 ⟨rfl,b6⟩;replace K8:=K8.below b6 g8;replace g8:=K8.lt;replace K3:=K3.below b6 g3;replace K6:=K6.below b6 g6;replace b0:=An b0 b6;replace g3:=K3.lt;replace g6:=K6.lt;clear b6
 go_upto_region 7 with fail
 have K10:=Br w6 136 (Zii (d-r) (d+r));have b7:Below w6 w6 (w6.alloc (.cells (Zii (d-r) (d+r)) 136)):=BU;replace K8:=K8.below b7 g8;replace e8:=K8.cell;replace K3:=K3.below b7 g3;replace K6:=K6.below b7 g6;replace b0:=An b0 b7;replace g3:=K3.lt;replace g6:=K6.lt;clear b7;generalize w6.alloc _=w7 at*;generalize w6.heap.size=p10 at*;have e10:=K10.cell;have u1:=Bg (d-r-hi);have u2:=Bg (d+r-lo)
 go_quiet (fail)
 revert nq;intro nq1
 go_wp2_with fail
 have HD:Hid (MT d r lo hi=(d-r-hi+(d+r-lo))/2∧MU d r lo hi= -(-(d+r-lo-(d-r-hi))/2)):=⟨rfl,rfl⟩;have u3:=Bg (d-r-hi+(d+r-lo));have u4:=Bg (d+r-lo-(d-r-hi));have m1: -4611686018427387904≤d-r-hi+(d+r-lo)∧d-r-hi+(d+r-lo)≤4611686018427387904:=Aa;have m2: -4611686018427387904≤d+r-lo-(d-r-hi)∧d+r-lo-(d-r-hi)≤4611686018427387904:=Aa;have b8:Below w7 w7 (w7.drewN nq1):=BW _ _;replace K3:=K3.below b8 g3;replace K6:=K6.below b8 g6;replace b0:=An b0 b8;replace g3:=K3.lt;replace g6:=K6.lt;replace e3:=K3.cell;clear b8;clear K8 K10 e8 e10 g8 u1 u2;generalize w7.drewN nq1=w8 at*;generalize d-r-hi=low at*;generalize d+r-lo=high at*;have hS: ∀o,w8.cell? ⟨w,o,none⟩= (Ziiii x y d r:Array Value)[o]? :=e3
 go_region_held3 (fun w'=> ∀o,w'.cell? ⟨w,o,none⟩= (Ziiii x y d r:Array Value)[o]?)
  (first|(with_reducible assumption)|((with_reducible refine AK ?_ ?_ _)<;>first|(with_reducible assumption)|omega|(simp;done)|(simp;omega))|((with_reducible refine AC ?_);(with_reducible refine AK ?_ ?_ _)<;>first|(with_reducible assumption)|omega|(simp;done)|(simp;omega))|(intro o;go_keep))
  (first
   |(go_at_call 210;refine(Ee (low+high) 2 _ m1.1 m1.2 Ah Ah).mono ?_;rintro e w' ⟨rfl,rfl⟩)
   |(go_at_call 167;refine(EB (high-low) 2 _ m2.1 m2.2 Ah Ah).mono ?_;rintro e w' ⟨rfl,rfl⟩))
 all_goals
  have K13:=Br w8 65 (Ziiii x y ((low+high)/2) (-(-(high-low)/2)));have b9:Below w8 w8 (w8.alloc (.cells (Ziiii x y ((low+high)/2) (-(-(high-low)/2))) 65)):=BU;replace K6:=K6.below b9 g6;replace b0:=An b0 b9;clear b9 K3 K4 g3 g4 e3 e4 e6 f6 hS u3 u4 m1 m2;replace g6:=K6.lt;generalize w8.alloc _=w9 at*;generalize w8.heap.size=p13 at*;have HB:=HRB.out;rw[HD.out.1,HD.out.2] at HB;have HBH:=Ai HB;clear HB;have HVV:Hid (H6 ts ls t x y d r=if EP ts ls t x y d r=0 then .agg (Ziiii x y ((low+high)/2) (-(-(high-low)/2))) else .agg C8):=by have a:=HRV.out;rw[HD.out.1,HD.out.2] at a;exact a
  clear HRV HRB HD;generalize(low+high)/2=D at*;generalize-(-(high-low)/2)=E at*;have e13:=K13.cell;have g13:=K13.lt
  go_wp2_with fail
  refine(GR x y D E _).mono ?_;rw[←HBH.out];rintro e w10 ⟨rfl,hw10⟩;have b10:Below w9 w9 w10:=EE (m:=1) (show Below w9.drew.heap.size w9.drew w10 by rw[hw10];exact(AP _ _).alloc Bk _)
  clear hw10;replace K6:=K6.below b10 g6;replace K13:=K13.below b10 g13;replace b0:=An b0 b10;replace g6:=K6.lt;have e6:=K6.cell;have f6:=K6.frozen;replace e13:=K13.cell;clear b10
  cases rb
  ·have HV:Hid (H6 ts ls t x y d r=.agg C8∧EP ts ls t x y d r=3):=by
    have a:EP ts ls t x y d r=3:=by simpa using HRC.out
    have b:=HVV.out;rw[a] at b;exact⟨by simpa using b,a⟩
   go_wp2;refine AS (v:=.tuple (EJ 0 0 0 0 3)) (by simp[results,results212,go_sem,e6,g6]) rfl ⟨by rw[HV.out.1,HV.out.2],?_⟩
   repeat(first|with_reducible exact b0|refine Below.setCell ?_ (by simp<;>omega) _|refine Below.alloc ?_ (by simp<;>omega) _)
  ·have HV:Hid (H6 ts ls t x y d r=.agg (Ziiii x y D E)∧EP ts ls t x y d r=0):=by
    have a:EP ts ls t x y d r=0:=by simpa using HRC.out
    have b:=HVV.out;rw[a] at b;exact⟨by simpa using b,a⟩
   go_wp2;refine AS (v:=.tuple (EJ x y D E 0)) (by simp[results,results212,go_sem,e6,g6]) rfl ⟨by rw[HV.out.1,HV.out.2],?_⟩
   repeat(first|with_reducible exact b0|refine Below.setCell ?_ (by simp<;>omega) _|refine Below.alloc ?_ (by simp<;>omega) _)
theorem FU {xs:List Int} {n:Nat} (h:FT xs n=true):CP xs n=true∧n≤200:=by
 have:FT xs n=(CP xs n && decide ((n:Int)≤200)):=rfl;rw[this,CD,BP] at h;exact⟨h.1,by omega⟩
theorem LX {t k l x y d r:Int} (h:Cm t k l x y d r=true):0≤t∧t≤1000000:=by
 unfold Cm at h;rw[CD] at h;exact Ac h.1
theorem VX {t l x y d r:Int} (h:Cm t 1 l x y d r=true): -2000≤l∧l≤2000:=by
 unfold Cm at h;rw[CD,AA rfl,CD] at h;exact Ac h.2.1
theorem Ut {t l x y d r:Int} (h:Cm t 2 l x y d r=true):DP x y d r=true:=by
 unfold Cm at h;rw[CD,Ak Ah,AA rfl,CD] at h;exact h.2.2
theorem WR {xs:List Int} {n:Nat} (h:CP xs n=true) {p:Int×Int} (hp:p∈gTo xs n):0≤p.1∧p.1≤1000000∧ -2000≤p.2∧p.2≤2000:=by
 obtain⟨i,hi,hl,rfl⟩:=(R9 xs n p).1 hp;have h1:Cm (recT xs i) (recK xs i) (recL xs i) (xs.getD (i*7+3) 0) (xs.getD (i*7+4) 0) (xs.getD (i*7+5) 0) (xs.getD (i*7+6) 0)=true:=GS h hi;have h2:=LX h1;rw[hl.1] at h1;have h3:=VX h1;exact⟨h2.1,h2.2,h3.1,h3.2⟩
theorem de {p:List (Int×Int)} {m:Int} (hs:SS p) (hb: ∀q∈p,0≤q.1∧q.1<m):FF (fstL p) m=true:=by
 unfold FF Fq;rw[List.all_eq_true];intro j hj;have hj:=Eo.1 hj;rw[Ik] at hj;have h1:=hb _ (EH hj);unfold EQ;rw[Nc hj,BC h1.1,BC h1.2,Ha,Ha]
 by_cases h0:j=0
 ·rw[BC h0];rfl
 ·rw[Nc (show j-1<p.length by omega)]
  have:=(List.pairwise_iff_getElem.1 hs) (j-1) j Aa hj Aa;rw[BC this,Bool.or_true]
theorem Tj {xs:List Int} {n:Nat} (h:gaugeC xs n=0):FT xs n=true∧Dk xs n=⟨fstL (gTo xs n),sndL (gTo xs n)⟩∧GY (fstL (gTo xs n)) (sndL (gTo xs n)):=by
 unfold gaugeC at h
 split at h
 ·rename_i hl
  split at h
  ·cases h
  ·rename_i h0
   split at h
   ·rename_i h1
    have hr:=(FU hl).1;refine⟨hl,by unfold Dk DY;rw[AA hl,AA h1],⟨by rw[Ik];omega,by rw[Ik];omega,de (Lx xs n) fun q hq=> ?_,by rw[Ik,UD],?_⟩⟩
    ·have:=WR hr hq;omega
    ·unfold BV;rw[List.all_eq_true];intro x hx;unfold sndL at hx;obtain⟨q,hq,rfl⟩:=List.mem_map.1 hx;have:=WR hr hq;exact CN this.2.2.1 this.2.2.2
   ·cases h
 ·cases h
def GC (ts ls xs:List Int) (i:Nat):Int:=EP ts ls (xs.getD (i*7) 0) (xs.getD (i*7+3) 0) (xs.getD (i*7+4) 0) (xs.getD (i*7+5) 0) (xs.getD (i*7+6) 0)
def Gz (ts ls xs:List Int) (i:Nat):List Int:= [xs.getD (i*7+3) 0,xs.getD (i*7+4) 0,MT (xs.getD (i*7+5) 0) (xs.getD (i*7+6) 0) (lvLo ts ls (xs.getD (i*7) 0)) (lvHi ts ls (xs.getD (i*7) 0)),MU (xs.getD (i*7+5) 0) (xs.getD (i*7+6) 0) (lvLo ts ls (xs.getD (i*7) 0)) (lvHi ts ls (xs.getD (i*7) 0))]
def repL (ts ls xs:List Int):Nat→List Int
 |0=> []
 |k+1=>if recK xs k=2∧GC ts ls xs k=0 then repL ts ls xs k++Gz ts ls xs k else repL ts ls xs k
def repN (ts ls xs:List Int):Nat→Nat
 |0=>0
 |k+1=>if recK xs k=2∧ ¬GC ts ls xs k=0 then repN ts ls xs k+1 else repN ts ls xs k
theorem Sg (ts ls xs:List Int): ∀k,repN ts ls xs k≤k
 |0=>Cp _
 |k+1=>by
  have:=Sg ts ls xs k;unfold repN
  split<;>omega
def rpT (xs:List Int) (n:Nat):List Int:=fstL (gTo xs n)
def rpS (xs:List Int) (n:Nat):List Int:=sndL (gTo xs n)
def UR (xs:List Int) (n:Nat):List Int:=if gaugeC xs n=0 then repL (rpT xs n) (rpS xs n) xs n else []
def YH (xs:List Int) (n:Nat):Int:=if gaugeC xs n=0 then(repN (rpT xs n) (rpS xs n) xs n:Int) else 0
theorem Qx {ts ls:List Int} {t x y d r:Int} (h:EP ts ls t x y d r=0):H6 ts ls t x y d r=.agg (Ziiii x y (MT d r (lvLo ts ls t) (lvHi ts ls t)) (MU d r (lvLo ts ls t) (lvHi ts ls t))):=by unfold H6;rw[AA h]
theorem Qw {ts ls:List Int} {t x y d r:Int} (h: ¬EP ts ls t x y d r=0):H6 ts ls t x y d r=.agg C8:=by unfold H6;rw[Ak h]
theorem Iy (w:World) (a b c d:Int) (e:TypeId):Rd (w.alloc (.cells (Ziiii a b c d) e)) (some ⟨w,0,none⟩) (1*4) (ints [a,b,c,d]):=by
 refine⟨rfl,fun _=>⟨_,rfl,fun i hi=> ?_⟩⟩;rw[CE,(Br w e (Ziiii a b c d)).cell]
 simp[ints]
theorem DS:(prog.info? 65).map (fun i=>(i.zero.map (·.cells.size),i.size,i.bytes))=some (some 4,4,32):=We51ceQ
theorem Fg {w:World} {p:Addr} {v:Value} (h:w.cell? p=some v) (hp:p.block<w.heap.size) (ob:Obj):(w.alloc ob).cell? p=some v:=(JX ((AP _ w).alloc Bk ob) hp).trans h
theorem E3 {w:World} {p:Addr} {v:Value} (h:w.cell? p=some v):w.drew.cell? p=some v:=h
theorem GM {w:World} {p:Addr} {v u:Value} {g i:Nat} (h:w.cell? p=some v) (hp:p.block≠g):(w.setCell ⟨g,i,none⟩ u).cell? p=some v:=(World.cell?_setCell_other _ _ _ _ (fun c=>hp (by rw[←c]))).trans h
def ff (ys:List Int) (n:Nat):Prop:= ∀j,j<n→DP (ys.getD (j*4) 0) (ys.getD (j*4+1) 0) (ys.getD (j*4+2) 0) (ys.getD (j*4+3) 0)=true
def cnt2 (xs:List Int):Nat→Nat
 |0=>0
 |k+1=>if recK xs k=2 then cnt2 xs k+1 else cnt2 xs k
theorem WK (xs:List Int): ∀k,cnt2 xs k≤k
 |0=>Cp _
 |k+1=>by
  have:=WK xs k;unfold cnt2
  split<;>omega
theorem Qy (ts ls xs:List Int): ∀k,(repL ts ls xs k).length+4*repN ts ls xs k=4*cnt2 xs k
 |0=>rfl
 |k+1=>by
  have ih:=Qy ts ls xs k;unfold repL repN cnt2
  by_cases h1:recK xs k=2
  ·by_cases h2:GC ts ls xs k=0
   ·rw[AA ⟨h1,h2⟩,Ak (fun c=>c.2 h2),AA h1,Dy];show _+4+_=_;omega
   ·rw[Ak (fun c=>h2 c.2),AA ⟨h1,h2⟩,AA h1];omega
  ·rw[Ak (fun c=>h1 c.1),Ak (fun c=>h1 c.1),Ak h1];omega
theorem Xb (ts ls xs:List Int): ∀k,∃m,(repL ts ls xs k).length=m*4∧ff (repL ts ls xs k) m
 |0=>⟨0,rfl,fun j h=>absurd h (Nat.not_lt_zero _)⟩
 |k+1=>by
  obtain⟨m,hm,hs⟩:=Xb ts ls xs k;unfold repL
  split
  ·rename_i h
   refine⟨m+1,by rw[Dy,hm];show m*4+4=_;omega,fun j hj=> ?_⟩
   by_cases e:j<m
   ·have e1: ∀i,i<m*4→(repL ts ls xs k++Gz ts ls xs k).getD i 0=(repL ts ls xs k).getD i 0:=fun i hi=>by
     rw[DE,List.getElem?_append_left Aa,←DE]
    rw[e1 _ Aa,e1 _ Aa,e1 _ Aa,e1 _ Aa];exact hs j e
   ·have ej:j=m:=Aa;subst ej
    have e2: ∀i,(repL ts ls xs k++Gz ts ls xs k).getD (j*4+i) 0=(Gz ts ls xs k).getD i 0:=fun i=>by
     rw[DE,List.getElem?_append_right Aa,hm,Nat.add_sub_cancel_left,←DE]
    have e20:=e2 0;rw[Hb] at e20;rw[e20,e2 1,e2 2,e2 3];have h2:=h.2;unfold GC EP at h2
    split at h2
    ·split at h2
     ·rename_i hb
      unfold redB at hb;exact hb
     ·cases h2
    ·cases h2
  ·exact⟨m,hm,hs⟩
end Go.Proofs.YtkndcebhjcfphaaGreatDoor
