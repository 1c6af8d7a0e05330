import Derived.Test.YtkndcebhjcfphaaGreatDoorZAlx1
namespace Go.Proofs.YtkndcebhjcfphaaGreatDoor
open Go.RowKit Go.Proofs.Tryz
set_option maxRecDepth 100000
set_option maxHeartbeats 4000000
set_option linter.all false
theorem GD {h:AG} {b:Ae} {w:World} (ok:D9 b) (hr:Ag w (Ar h b)): ∀(W:World),Below w w W→
  Calls prog 169 #[.slice h.log.A h.log.n h.log.c] W fun e w'=> ∃(k:Hd) (v:Int),e=.returned (.tuple (FK k.A k.n k.c v (sdC b)))∧k.n=sdN b∧k.n≤k.c∧Rd w' k.A (k.n*4) (ints (sdL b))∧Below W W w':=fun W bb=>by
 have hl:b.log.length=h.log.n*7:=hr.tail.tail.head.len;have hN:b.log.length/7=h.log.n:=Aa;have h200:=ok.n;refine(OV h.log.A h.log.n h.log.c b.log W Aa (hr.tail.tail.head.below bb)).mono ?_;rintro e w' ⟨k,rfl,hk,hc,R,-,b1⟩;refine⟨k,YH b.log h.log.n,?_,?_,hc,?_,b1⟩
 ·unfold sdC Ro;rw[hN]
 ·have:=R.len;have e:sdL b=UR b.log h.log.n:=by unfold sdL V7;rw[hN]
  rw[←e,(Ld ok).1] at this;omega
 ·have e:sdL b=UR b.log h.log.n:=by unfold sdL V7;rw[hN]
  rw[e];exact R
theorem LD {c:Int} (h: ¬c=0) (t:Bs):cdT t c=erT c:=Ak h
theorem NM (s:Bs) (A:Option Addr) (c:Nat) (h:AG) (b:Ae) (w:World) (ok:D9 b) (hr:Ag w (Ar h b)) (hn:Rd w A 0 (ints (Co s))):
  Calls prog 132 #[At h b,.string ⟨#[115,104,111,97,108,101,115,116]⟩,.slice A 0 c] w (EY (shT b) w):=by
 have HRL:=fun(W:World) (bb:Below w w W)=>GD ok hr W bb;obtain⟨hlen,h200,hv⟩:=Ld ok;have hcb:=L3 b;have HT:Hid (shT b=if sdC b=0 then(if sdN b=0 then erT 4 else joinI [32] (Fw (sdL b) (shlTo (sdL b) (sdN b)))) else erT (sdC b)):=rfl;unfold EY At;obtain⟨⟨DA,dn,dc⟩,⟨SA,sn,sc⟩,⟨LA,ln,lc⟩⟩:=h;have b0:Below w w (w.alloc (.cells (Ad DA dn dc SA sn sc b LA ln lc) 35)):=BU;have KB:=Br w 35 (Ad DA dn dc SA sn sc b LA ln lc);replace HRL:=HRL _ b0;simp only at HRL;generalize shT b=R at*;generalize sdC b=cd at*;generalize sdL b=xs at*;generalize sdN b=m at*;clear hr hn ok
 go_enter func132,ntmps132
 go_upto_region 1 with fail
 generalize w.alloc _=w0 at*;have hb:=KB.cell
 go_upto_region 2 with(go_at_call 169;refine HRL.mono ?_;rintro e w1 ⟨⟨kA,kn,kc⟩,v,rfl,hkm,hkc,R1,b1⟩)
 clear HRL hb KB
 (try simp only at hkm hkc R1)
 subst hkm;have b01:=An b0 b1
 by_cases h:cd=0
 ·subst h;rw[AA rfl] at HT
  by_cases h0:kn=0
  ·subst h0;have HS:=F8 kA 0 kc xs w1 hv R1;rw[show dH xs 0=.tuple (Zii 0 4) from rfl] at HS;have HR:Hid (cdT [] 4=R):=(LD Ah []).trans (HT.out.trans (AA rfl)).symm;clear HT
   go_wp2_with (go_at_call 170;refine HS.mono ?_;rintro e w2 ⟨rfl,b2⟩)
   refine AS (v:=.tuple #[.string ⟨#[]⟩,ZI 4]) (by simp[results,results132,go_sem]) rfl ⟨[],4,rfl,by decide,HR.out,(An b01 b2)⟩
  ·have HS:=F8 kA kn kc xs w1 hv R1;rw[show dH xs kn=.tuple (Zii (shlTo xs kn:Int) 0) from Ak h0] at HS;have hi:=Lf xs (show 0<kn by omega) kn Bk
   have HR:Hid (cdT (joinI [32] (Fw xs (shlTo xs kn))) 0=R):=by
    unfold Hid cdT;rw[AA rfl];exact(HT.out.trans (Ak h0)).symm
   obtain⟨ad,rfl,RI⟩:=WP R1 hi;have HX:=fun(c:Nat) (V:World) (bb:Below w1 w1 V)=>L8 (some (ad.add (shlTo xs kn*4))) c (Fw xs (shlTo xs kn)) V (RI.below bb) (Qm hv hi);generalize joinI [32] (Fw xs (shlTo xs kn))=J at*;generalize shlTo xs kn=i at*;clear HT RI R1 hv h0
   go_wp2_with (first|(go_at_call 170;refine HS.mono ?_;rintro e w2 ⟨rfl,b2⟩)|(go_at_call 171;refine(HX _ _ b2).mono ?_;rintro e w3 ⟨rfl,b3⟩))
   refine AS (v:=.tuple #[.string ⟨J.toArray⟩,ZI 0]) (by simp[results,results132,go_sem]) rfl ⟨J,0,rfl,by decide,HR.out,b01.trans ((An b2 b3).mono b01.size)⟩
 ·have HR:Hid (cdT [] cd=R):=(LD h []).trans (HT.out.trans (Ak h)).symm;have hc2:(cd !=0)=true:=by rw[bne_iff_ne];exact h
  clear HT h;go_wp2;refine AS (v:=.tuple #[.string ⟨#[]⟩,ZI cd]) (by simp[results,results132,go_sem]) rfl ⟨[],cd,rfl,hcb,HR.out,b01⟩
theorem SX (s:Bs) (A:Option Addr) (c:Nat) (h:AG) (b:Ae) (w:World) (ok:D9 b) (hr:Ag w (Ar h b)) (hn:Rd w A 3 (ints (Co s))):
  Calls prog 132 #[At h b,.string ⟨#[99,108,101,97,110]⟩,.slice A 3 c] w (EY (clT b s) w):=by
 have HRL:=fun(W:World) (bb:Below w w W)=>GD ok hr W bb;obtain⟨hlen,h200,hv⟩:=Ld ok;have hcb:=L3 b;have hcc:0≤ccC b s∧ccC b s≤1000:=Zg _ _ _ _ _;have HT:Hid (clT b s=if sdC b=0 then cdT (Lib.itoa ((Y4 b s).length:Int)++ [47]++Lib.itoa (sdN b:Int)) (ccC b s) else erT (sdC b)):=rfl;have HCL: ∀(kA:Option Addr) (kc:Nat) (V:World),Rd V kA (sdN b*4) (ints (sdL b))→Calls prog 172 #[.slice kA (sdN b) kc,Ziii (cmI s 0) (cmI s 1) (cmI s 2)] V fun e w'=> ∃(h:Hd) (v:Int),e=.returned (.tuple (FK h.A h.n h.c v (ccC b s)))∧h.n=(Y4 b s).length∧Below V V w':=fun kA kc V R=>P5 (cmI s 0) (cmI s 1) (cmI s 2) kA (sdN b) kc (sdL b) V Aa R
 have hck:(Y4 b s).length≤sdN b:=by
  unfold Y4 fk
  split
  ·have:=M8 (sdL b) (cmI s 0) (cmI s 1) (cmI s 2) (List.range (sdN b));rw[List.length_range] at this;exact this
  ·exact AZ _
 obtain⟨ad,rfl⟩: ∃ad,A=some ad:=by obtain⟨ad,h,_⟩:=hn.int (k:=0) Ah;exact⟨ad,h⟩
 have hc0:w.cell? ad=some (.int .i64 (cmI s 0)):=Pn hn Ah;have hc1:w.cell? ⟨ad.block,ad.off+1,none⟩=some (.int .i64 (cmI s 1)):=GV hn Ah Ah;have hc2:w.cell? ⟨ad.block,ad.off+2,none⟩=some (.int .i64 (cmI s 2)):=GV hn Ah Ah;unfold EY At;obtain⟨⟨DA,dn,dc⟩,⟨SA,sn,sc⟩,⟨LA,ln,lc⟩⟩:=h;have b0:Below w w (w.alloc (.cells (Ad DA dn dc SA sn sc b LA ln lc) 35)):=BU;have KB:=Br w 35 (Ad DA dn dc SA sn sc b LA ln lc);replace HRL:=HRL _ b0;simp only at HRL;generalize clT b s=R at*;generalize sdC b=cd at*;generalize sdL b=xs at*;generalize ccC b s=cc at*;generalize(Y4 b s).length=m at*;generalize sdN b=kn at*;generalize cmI s 0=x0 at*;generalize cmI s 1=x1 at*;generalize cmI s 2=x2 at*;have had:=Gr w ad hc0;clear hr hn ok
 go_enter func132,ntmps132
 go_upto_region 1 with fail
 generalize w.alloc _=w0 at*;have hb:=KB.cell
 go_upto_region 2 with(go_at_call 169;refine HRL.mono ?_;rintro e w1 ⟨⟨kA,kn',kc⟩,v,rfl,hkm,hkc,R1,b1⟩)
 clear HRL hb KB
 (try simp only at hkm hkc R1)
 subst hkm;have b01:=An b0 b1
 by_cases h:cd=0
 ·subst h;have HR:=Ai (HT.out.trans (AA rfl)).symm;replace hc0:=Cg b01 hc0 had;replace hc1:=Cg b01 hc1 had;replace hc2:=Cg b01 hc2 had;replace had:=CM had b01.size;have hA:=HCL kA kc w1.drew R1;have l1:=Bm (m:Int) Aa Aa;have l2:=Bm (kn':Int) Aa Aa;clear HT HCL
  go_upto_region 11 with fail
  go_region_held3 (fun w'=>w'.cell? ad=some (.int .i64 x0)∧w'.cell? ⟨ad.block,ad.off+1,none⟩=some (.int .i64 x1)∧w'.cell? ⟨ad.block,ad.off+2,none⟩=some (.int .i64 x2))
   (exact Cs)
   (first
    |(go_at_call 172;(with_reducible refine hA.mono ?_);rintro e u ⟨⟨hA',hn',hc'⟩,v2,rfl,hkk,b4⟩;have bu:Below w1 w1 u:=EE (m:=1) b4;have hd0:=Cg bu hc0 had;have hd1:=Cg bu hc1 had;have hd2:=(JX bu (p:=⟨ad.block,ad.off+2,none⟩) had).trans hc2))
  (try simp only at hkk)
  subst hkk;have D1:=fun V=>Ct hn' V Aa;have D2:=fun V=>Ct kn' V Aa;rw[Ih] at D1 D2;generalize Lib.itoa (hn':Int)=I1 at*;generalize Lib.itoa (kn':Int)=I2 at*;obtain⟨S1,hS1⟩: ∃S1,I1++ [47]=S1:=⟨_,rfl⟩;obtain⟨S2,hS2⟩: ∃S2,S1++I2=S2:=⟨_,rfl⟩;rw[hS1,hS2] at HR;have k1:S1.length=I1.length+1:=by rw[←hS1,Dy];rfl
  have p1: ¬9223372036854775807<I1.length+1:=Aa;have p2: ¬9223372036854775807<S1.length+I2.length:=Aa;have s1:((⟨I1.toArray⟩:ByteArray)++⟨#[47]⟩)=⟨S1.toArray⟩:=by rw[←hS1];exact AY I1 [47]
  have s2:((⟨S1.toArray⟩:ByteArray)++⟨I2.toArray⟩)=⟨S2.toArray⟩:=by rw[←hS2];exact AY S1 I2
  have bu2:=An b01 bu;clear hS1 hS2 k1 l1 l2 hck hlen h200 hv hA R1 hc0 hc1 hc2 hd0 hd1 hd2 had
  go_wp2_with (first
   |(go_at_call 88;(fail_if_success (clear b5));(with_reducible refine(D1 _).mono ?_);rintro e w2 ⟨rfl,b5⟩)
   |(go_at_call 88;(with_reducible refine(D2 _).mono ?_);rintro e w3 ⟨rfl,b6⟩))
  refine AS (v:=.tuple #[.string ⟨S2.toArray⟩,ZI cc]) (by simp[results,results132,go_sem]) rfl ⟨S2,cc,rfl,hcc,HR.out,bu2.trans ((An b5 b6).mono bu2.size)⟩
 ·have HR:Hid (cdT [] cd=R):=(LD h []).trans (HT.out.trans (Ak h)).symm;have hc2:(cd !=0)=true:=by rw[bne_iff_ne];exact h
  clear HT h;go_wp2;refine AS (v:=.tuple #[.string ⟨#[]⟩,ZI cd]) (by simp[results,results132,go_sem]) rfl ⟨[],cd,rfl,hcb,HR.out,b01⟩
theorem U8 (s:Bs) (A:Option Addr) (c:Nat) (h:AG) (b:Ae) (w:World) (ok:D9 b) (hr:Ag w (Ar h b)) (hn:Rd w A 3 (ints (Co s))):
  Calls prog 132 #[At h b,.string ⟨#[103,114,105,100]⟩,.slice A 3 c] w (EY (grT b s) w):=by
 have HRL:=fun(W:World) (bb:Below w w W)=>GD ok hr W bb;obtain⟨hlen,h200,hv⟩:=Ld ok;have hcb:=L3 b;have hgb:0≤ggC b s∧ggC b s≤1000:=Zx _ _ _ _ _;have hmb:=ZQ (ggR b s);have hmd:=fun(h:ggC b s=0)=>dT (dN ok h);have HT:Hid (grT b s=if sdC b=0 then(if ggC b s=0 then cdT (ivT (mdL (ggR b s)) (mdH (ggR b s))) (mdC (ggR b s)) else erT (ggC b s)) else erT (sdC b)):=rfl;have HG: ∀(kA:Option Addr) (kc:Nat) (V:World),Rd V kA (sdN b*4) (ints (sdL b))→Calls prog 173 #[ZI (cmI s 0),ZI (cmI s 1),ZI (cmI s 2),.slice kA (sdN b) kc] V (GZ (ggR b s) (ggC b s) V):=fun kA kc V R=>P7 (cmI s 0) (cmI s 1) (cmI s 2) kA (sdN b) kc (sdL b) V Aa R;have HM:=fun(k:Bh) (V:World) (o:Cl k) (R:Ag V (AO k (ggR b s)))=>Li k (ggR b s) V o R;unfold GZ Bd at HG;unfold Bd at HM;obtain⟨ad,rfl⟩: ∃ad,A=some ad:=by obtain⟨ad,h,_⟩:=hn.int (k:=0) Ah;exact⟨ad,h⟩
 have hc0:w.cell? ad=some (.int .i64 (cmI s 0)):=Pn hn Ah;have hc1:w.cell? ⟨ad.block,ad.off+1,none⟩=some (.int .i64 (cmI s 1)):=GV hn Ah Ah;have hc2:w.cell? ⟨ad.block,ad.off+2,none⟩=some (.int .i64 (cmI s 2)):=GV hn Ah Ah;unfold EY At;obtain⟨⟨DA,dn,dc⟩,⟨SA,sn,sc⟩,⟨LA,ln,lc⟩⟩:=h;have b0:Below w w (w.alloc (.cells (Ad DA dn dc SA sn sc b LA ln lc) 35)):=BU;have KB:=Br w 35 (Ad DA dn dc SA sn sc b LA ln lc);replace HRL:=HRL _ b0;simp only at HRL;generalize grT b s=R at*;generalize sdC b=cd at*;generalize sdL b=xs at*;generalize ggC b s=gc at*;generalize ggR b s=gr at*;generalize sdN b=kn at*;generalize cmI s 0=x0 at*;generalize cmI s 1=x1 at*;generalize cmI s 2=x2 at*;have had:=Gr w ad hc0;clear hr hn ok
 go_enter func132,ntmps132
 go_upto_region 1 with fail
 generalize w.alloc _=w0 at*;have hb:=KB.cell
 go_upto_region 2 with(go_at_call 169;refine HRL.mono ?_;rintro e w1 ⟨⟨kA,kn',kc⟩,v,rfl,hkm,hkc,R1,b1⟩)
 clear HRL hb KB
 (try simp only at hkm hkc R1)
 subst hkm;have b01:=An b0 b1
 by_cases h:cd=0
 ·subst h;have HR:=Ai (HT.out.trans (AA rfl));replace hc0:=Cg b01 hc0 had;replace hc1:=Cg b01 hc1 had;replace hc2:=Cg b01 hc2 had;replace had:=CM had b01.size;have HG1:=fun(V:World) (bb:Below w1 w1 V)=>HG kA kc V (R1.below bb);clear HT HG R1
  go_upto_region 13 with fail
  have bA:Below w1 w1 (w1.alloc (.cells Fa 181)):=BU;have hA:=HG1 w1.drew GJ;have hB:=HG1 (w1.alloc (.cells Fa 181)).drew (CO bA);have KZ:=Blk.drew (Br w1 181 Fa)
  go_cut [16,17] (fun v16 v17 wx=> ∃(q:Nat) (XA:Option Addr) (xn xc:Nat) (YA:Option Addr) (yn yc:Nat),v16=.pointer (some ⟨q,0,none⟩)∧v17=.int .i64 gc∧Blk wx q 181 (AH gr.size gr.wide gr.high XA xn xc YA yn yc)∧Cl ⟨⟨XA,xn,xc⟩,⟨YA,yn,yc⟩⟩∧Ag wx (AO ⟨⟨XA,xn,xc⟩,⟨YA,yn,yc⟩⟩ gr)∧Below w1 w1 wx)
  case first=>
   go_region_held3 (fun w'=>w'.cell? ad=some (.int .i64 x0)∧w'.cell? ⟨ad.block,ad.off+1,none⟩=some (.int .i64 x1)∧w'.cell? ⟨ad.block,ad.off+2,none⟩=some (.int .i64 x2))
    (exact Cs)
    (first
     |(go_at_call 173;(with_reducible refine hA.mono ?_);rintro e u ⟨⟨⟨XA,xn,xc⟩,⟨YA,yn,yc⟩⟩,rfl,okk,RG,WG,-,b4⟩;have bu:Below w1 w1 u:=EE (m:=1) b4;have z0:=Cg bu hc0 had;have y0:=CM had bu.size;have z1:=Cg bu hc1 had;have y1:=CM had bu.size;have z2:=Cg bu hc2 had;have y2:=CM had bu.size;have KU:=Br u 181 (AH gr.size gr.wide gr.high XA xn xc YA yn yc);have bU:Below w1 w1 (u.alloc (.cells (AH gr.size gr.wide gr.high XA xn xc YA yn yc) 181)):=bu.trans (((AP _ _).alloc Bk _).mono bu.size))
     |(go_at_call 173;(with_reducible refine hB.mono ?_);rintro e u ⟨⟨⟨XA,xn,xc⟩,⟨YA,yn,yc⟩⟩,rfl,okk,RG,WG,-,b4⟩;have bu:Below w1 w1 u:=(CO bA).trans (b4.mono bA.size);have z0:=Cg bu hc0 had;have y0:=CM had bu.size;have z1:=Cg bu hc1 had;have y1:=CM had bu.size;have z2:=Cg bu hc2 had;have y2:=CM had bu.size;have KU:=KZ.below b4 KZ.lt;have fU:=KU.frozen;have cU:=KU.cell;have hgu:=KU.lt))
   all_goals
    go_wp2_with fail
    go_meet
    first
     |exact⟨u.heap.size,XA,xn,xc,YA,yn,yc,rfl,rfl,KU,okk,RG.below BU,bU⟩
     |exact⟨w1.heap.size,XA,xn,xc,YA,yn,yc,rfl,rfl,(((((KU.set_ 0 _).set_ 1 _).set_ 2 _).set_ 3 _).set_ 4 _),okk,Qu RG WG Cr,(((((bu.setCell (p:=⟨w1,0,none⟩) Bk _).setCell (p:=⟨w1,1,none⟩) Bk _).setCell (p:=⟨w1,2,none⟩) Bk _).setCell (p:=⟨w1,3,none⟩) Bk _).setCell (p:=⟨w1,4,none⟩) Bk _)⟩
  case rest=>
   obtain⟨q,XA,xn,xc,YA,yn,yc,rfl,rfl,KQ,okk,RG,bw⟩:=hcut;have bw5:=An b01 bw;have eq:=KQ.cell;clear HG1 bA hA hB KZ hc0 hc1 hc2 had
   by_cases h2:gc=0
   ·subst h2;have HR2:Hid (cdT (ivT (mdL gr) (mdH gr)) (mdC gr)=R):=(HR.out.trans (AA rfl)).symm;obtain⟨hm1,hm2⟩:=hmd rfl;have HM5:=HM ⟨⟨XA,xn,xc⟩,⟨YA,yn,yc⟩⟩ _ okk RG;simp only at HM5;have HI:=fun V=>Kl (mdL gr) (mdH gr) V hm1.1 hm1.2 hm2.1 hm2.2;generalize ivT (mdL gr) (mdH gr)=I at*;generalize mdL gr=x at*;generalize mdH gr=y at*;generalize mdC gr=z at*;clear HR HM hmd hm1 hm2 okk RG
    go_upto_region 17 with(go_at_call 174;refine HM5.mono ?_;rintro e w6 ⟨rfl,b6⟩)
    have al:Below w6 w6 (w6.alloc (.cells (Zii x y) 136)):=BU;have X:=Br w6 136 (Zii x y);have b7:=An b6 al;clear al eq KQ HM5;generalize w6.alloc _=w7 at X b7⊢;generalize w6.heap.size=q6 at X⊢;have eX:=X.cell
    go_wp2_with (go_at_call 125;refine(HI _).mono ?_;rintro e w8 ⟨rfl,b8⟩)
    refine AS (v:=.tuple #[.string ⟨I.toArray⟩,ZI z]) (by simp[results,results132,go_sem]) rfl ⟨I,z,rfl,hmb,HR2.out,bw5.trans ((An b7 b8).mono bw5.size)⟩
   ·have HR2:Hid (cdT [] gc=R):=(LD h2 []).trans (HR.out.trans (Ak h2)).symm;have hc2':(gc !=0)=true:=by rw[bne_iff_ne];exact h2
    clear HR HM hmd h2;go_wp2;refine AS (v:=.tuple #[.string ⟨#[]⟩,ZI gc]) (by simp[results,results132,go_sem]) rfl ⟨[],gc,rfl,hgb,HR2.out,bw5⟩
 ·have HR:Hid (cdT [] cd=R):=(LD h []).trans (HT.out.trans (Ak h)).symm;have hc2:(cd !=0)=true:=by rw[bne_iff_ne];exact h
  clear HT h;go_wp2;refine AS (v:=.tuple #[.string ⟨#[]⟩,ZI cd]) (by simp[results,results132,go_sem]) rfl ⟨[],cd,rfl,hcb,HR.out,b01⟩
theorem Ov (s:Bs) (A:Option Addr) (c:Nat) (h:AG) (b:Ae) (w:World) (ok:D9 b) (hr:Ag w (Ar h b)) (hn:Rd w A 0 (ints (Co s))):
  Calls prog 96 #[At h b,.string ⟨#[115,104,111,97,108,101,115,116]⟩,.slice A 0 c] w (EY (shT b) w):=by
 have HC:=fun(W:World) (bb:Below w w W)=>NM s A c h b W ok (hr.below bb) (hn.below bb);unfold EY At at*;generalize shT b=R at*;obtain⟨⟨DA,dn,dc⟩,⟨SA,sn,sc⟩,⟨LA,ln,lc⟩⟩:=h;have b0:Below w w (w.alloc (.cells (Ad DA dn dc SA sn sc b LA ln lc) 35)):=BU;have KB:=Br w 35 (Ad DA dn dc SA sn sc b LA ln lc);have HC1:=HC _ b0;simp only at HC1;clear HC hr hn ok
 go_enter func96,ntmps96
 go_upto_region 24 with fail
 generalize w.alloc _=w1 at*;have hb:=KB.cell
 go_wp2_with (go_at_call 132;refine HC1.mono ?_;rintro e w3 ⟨t,cd,rfl,hcd,HT,b3⟩;have HTT:=Ai HT;clear HT)
 refine AS (v:=.tuple #[.string ⟨t.toArray⟩,ZI cd]) (by simp[results,results96,go_sem]) rfl ⟨t,cd,rfl,hcd,HTT.out,(An b0 b3)⟩
theorem Uo (s:Bs) (A:Option Addr) (c:Nat) (h:AG) (b:Ae) (w:World) (ok:D9 b) (hr:Ag w (Ar h b)) (hn:Rd w A 3 (ints (Co s))):
  Calls prog 96 #[At h b,.string ⟨#[99,108,101,97,110]⟩,.slice A 3 c] w (EY (clT b s) w):=by
 have HC:=fun(W:World) (bb:Below w w W)=>SX s A c h b W ok (hr.below bb) (hn.below bb);unfold EY At at*;generalize clT b s=R at*;obtain⟨⟨DA,dn,dc⟩,⟨SA,sn,sc⟩,⟨LA,ln,lc⟩⟩:=h;have b0:Below w w (w.alloc (.cells (Ad DA dn dc SA sn sc b LA ln lc) 35)):=BU;have KB:=Br w 35 (Ad DA dn dc SA sn sc b LA ln lc);have HC1:=HC _ b0;simp only at HC1;clear HC hr hn ok
 go_enter func96,ntmps96
 go_upto_region 24 with fail
 generalize w.alloc _=w1 at*;have hb:=KB.cell
 go_wp2_with (go_at_call 132;refine HC1.mono ?_;rintro e w3 ⟨t,cd,rfl,hcd,HT,b3⟩;have HTT:=Ai HT;clear HT)
 refine AS (v:=.tuple #[.string ⟨t.toArray⟩,ZI cd]) (by simp[results,results96,go_sem]) rfl ⟨t,cd,rfl,hcd,HTT.out,(An b0 b3)⟩
theorem VT (s:Bs) (A:Option Addr) (c:Nat) (h:AG) (b:Ae) (w:World) (ok:D9 b) (hr:Ag w (Ar h b)) (hn:Rd w A 3 (ints (Co s))):
  Calls prog 96 #[At h b,.string ⟨#[103,114,105,100]⟩,.slice A 3 c] w (EY (grT b s) w):=by
 have HC:=fun(W:World) (bb:Below w w W)=>U8 s A c h b W ok (hr.below bb) (hn.below bb);unfold EY At at*;generalize grT b s=R at*;obtain⟨⟨DA,dn,dc⟩,⟨SA,sn,sc⟩,⟨LA,ln,lc⟩⟩:=h;have b0:Below w w (w.alloc (.cells (Ad DA dn dc SA sn sc b LA ln lc) 35)):=BU;have KB:=Br w 35 (Ad DA dn dc SA sn sc b LA ln lc);have HC1:=HC _ b0;simp only at HC1;clear HC hr hn ok
 go_enter func96,ntmps96
 go_upto_region 24 with fail
 generalize w.alloc _=w1 at*;have hb:=KB.cell
 go_wp2_with (go_at_call 132;refine HC1.mono ?_;rintro e w3 ⟨t,cd,rfl,hcd,HT,b3⟩;have HTT:=Ai HT;clear HT)
 refine AS (v:=.tuple #[.string ⟨t.toArray⟩,ZI cd]) (by simp[results,results96,go_sem]) rfl ⟨t,cd,rfl,hcd,HTT.out,(An b0 b3)⟩
def DQ (h0:AG) (b':Ae) (t:Bs) (w:World) (e:Ending) (w':World):Prop:=
 ∃h:AG,e=.returned (.tuple #[At h b',.string ⟨t.toArray⟩])∧Ag w' (Ar h b')∧(∀q,some q∈BK h→some q∈BK h0∨w.heap.size≤q)∧Below w w w'
theorem Cc {s:Bs} (hs:s.length≤100000) (hb:Dm s=true) {l:Bs} (hw:cmH s=l) {k:Nat} (hl:(Co s).length=k) (w:World):
  Calls prog 58 #[.string ⟨s.toArray⟩] w fun e w'=> ∃(A:Option Addr) (c:Nat),e=.returned (.tuple #[.string ⟨l.toArray⟩,.slice A k c,.bool true])∧Rd w' A k (ints (Co s))∧Below w w w':=by
 refine(Jp s w Aa).mono ?_;rintro e w' ⟨u,A,n,c,h1,h2,h3⟩;obtain⟨h4,_,h5,h6⟩:=h2 hb;rw[hw] at h4;rw[hl] at h5;subst h4;subst h5;exact⟨A,c,by rw[h1,hb],h6,h3⟩
theorem VR {s:Bs} (hs:s.length≤100000) (hb:Dm s=false) (w:World):
  Calls prog 58 #[.string ⟨s.toArray⟩] w fun e w'=> ∃(u:Bs) (A:Option Addr) (n c:Nat),e=.returned (.tuple #[.string ⟨u.toArray⟩,.slice A n c,.bool false])∧Below w w w':=by
 refine(Jp s w Aa).mono ?_;rintro e w' ⟨u,A,n,c,h1,h2,h3⟩;exact⟨u,A,n,c,by rw[h1,hb],h3⟩
theorem Ra {w:World} {g:Nat} {t:TypeId} {a0 a1 a2 a3 a4 a5 a6 v0 v1 v2 v3 v4 v5 v6:Value} (k:Blk w g t #[a0,a1,a2,a3,a4,a5,a6]):Blk (((((((w.setCell ⟨g,0,none⟩ v0).setCell ⟨g,1,none⟩ v1).setCell ⟨g,2,none⟩ v2).setCell ⟨g,3,none⟩ v3).setCell ⟨g,4,none⟩ v4).setCell ⟨g,5,none⟩ v5).setCell ⟨g,6,none⟩ v6) g t #[v0,v1,v2,v3,v4,v5,v6]:=by
 have k0:Blk (w.setCell ⟨g,0,none⟩ v0) g t #[v0,a1,a2,a3,a4,a5,a6]:=k.set_ 0 v0;have k1:Blk ((w.setCell ⟨g,0,none⟩ v0).setCell ⟨g,1,none⟩ v1) g t #[v0,v1,a2,a3,a4,a5,a6]:=k0.set_ 1 v1;have k2:Blk (((w.setCell ⟨g,0,none⟩ v0).setCell ⟨g,1,none⟩ v1).setCell ⟨g,2,none⟩ v2) g t #[v0,v1,v2,a3,a4,a5,a6]:=k1.set_ 2 v2;have k3:Blk ((((w.setCell ⟨g,0,none⟩ v0).setCell ⟨g,1,none⟩ v1).setCell ⟨g,2,none⟩ v2).setCell ⟨g,3,none⟩ v3) g t #[v0,v1,v2,v3,a4,a5,a6]:=k2.set_ 3 v3;have k4:Blk (((((w.setCell ⟨g,0,none⟩ v0).setCell ⟨g,1,none⟩ v1).setCell ⟨g,2,none⟩ v2).setCell ⟨g,3,none⟩ v3).setCell ⟨g,4,none⟩ v4) g t #[v0,v1,v2,v3,v4,a5,a6]:=k3.set_ 4 v4;have k5:Blk ((((((w.setCell ⟨g,0,none⟩ v0).setCell ⟨g,1,none⟩ v1).setCell ⟨g,2,none⟩ v2).setCell ⟨g,3,none⟩ v3).setCell ⟨g,4,none⟩ v4).setCell ⟨g,5,none⟩ v5) g t #[v0,v1,v2,v3,v4,v5,a6]:=k4.set_ 5 v5;have k6:Blk (((((((w.setCell ⟨g,0,none⟩ v0).setCell ⟨g,1,none⟩ v1).setCell ⟨g,2,none⟩ v2).setCell ⟨g,3,none⟩ v3).setCell ⟨g,4,none⟩ v4).setCell ⟨g,5,none⟩ v5).setCell ⟨g,6,none⟩ v6) g t #[v0,v1,v2,v3,v4,v5,v6]:=k5.set_ 6 v6;exact k6
theorem Q9 {w:World} {g p:Nat} {t:TypeId} {cs:Array Value} {v0 v1 v2 v3 v4 v5 v6:Value} (k:Blk w p t cs) (h:p≠g):Blk (((((((w.setCell ⟨g,0,none⟩ v0).setCell ⟨g,1,none⟩ v1).setCell ⟨g,2,none⟩ v2).setCell ⟨g,3,none⟩ v3).setCell ⟨g,4,none⟩ v4).setCell ⟨g,5,none⟩ v5).setCell ⟨g,6,none⟩ v6) p t cs:=
 ((((((k.far (p:=⟨g,0,none⟩) h v0).far (p:=⟨g,1,none⟩) h v1).far (p:=⟨g,2,none⟩) h v2).far (p:=⟨g,3,none⟩) h v3).far (p:=⟨g,4,none⟩) h v4).far (p:=⟨g,5,none⟩) h v5).far (p:=⟨g,6,none⟩) h v6
theorem dj (s:Bs) (h:AG) (b:Ae) (w:World) (ok:D9 b) (hr:Ag w (Ar h b)) (hs:s.length≤100000) (hb:Dm s=false):
  Calls prog 59 #[At h b,.string ⟨s.toArray⟩] w (DQ h (bsNext b s) (bsOut b s) w):=by
 have HP:=fun V=>VR hs hb V;have HR:Hid (bsNext b s=b∧bsOut b s=erT 6):=⟨(Ni hb).2,(Ni hb).1⟩;obtain⟨⟨DA,dn,dc⟩,⟨SA,sn,sc⟩,⟨LA,ln,lc⟩⟩:=h;have hrl:=hr.lo;have b0:Below w w ((w.alloc (.cells (Ad DA dn dc SA sn sc b LA ln lc) 35)).alloc (.cells Ap 35)):=Ax;have KB:=(Br w 35 (Ad DA dn dc SA sn sc b LA ln lc)).alloc (.cells Ap 35);have KO:=Blk.newN (g:=w+1) (w.alloc (.cells (Ad DA dn dc SA sn sc b LA ln lc) 35)) 35 Ap Cr;have HN0: ∀(g:Nat),w.heap.size≤g→ ∀z∈(Ar ⟨⟨DA,dn,dc⟩,⟨SA,sn,sc⟩,⟨LA,ln,lc⟩⟩ b).map Sl.row,z≠some g:=fun g hg z hz c=>by have:=hrl z hz _ c;omega
 have BB: ∀W,Below w w W→Ag W (Ar ⟨⟨DA,dn,dc⟩,⟨SA,sn,sc⟩,⟨LA,ln,lc⟩⟩ b):=fun W bb=>hr.below bb;unfold DQ At;generalize bsNext b s=b' at*;generalize bsOut b s=T at*;have HD: ∀(V:World),Calls prog 88 #[ZI 6] V fun e w2=>e=.returned (.string ⟨(Lib.itoa 6).toArray⟩)∧Below V V w2:=fun V=>Ct 6 V Aa;have l1:=Bm 6 Aa Aa;have HE:Hid (erT 6= [101,114,114,111,114,32]++Lib.itoa 6):=rfl;generalize Lib.itoa 6=I at*;obtain⟨E,hE⟩: ∃E,[101,114,114,111,114,32]++I=E:=⟨_,rfl⟩;have p1: ¬9223372036854775807<6+I.length:=Aa;have s1:((⟨#[101,114,114,111,114,32]⟩:ByteArray)++⟨I.toArray⟩)=⟨E.toArray⟩:=by rw[←hE];exact AY [101,114,114,111,114,32] I
 have HEE:Hid (erT 6=E):=HE.out.trans hE;clear hE HE l1;clear hr hb ok hrl
 go_enter func59,ntmps59
 go_upto_region 1 with fail
 generalize(w.alloc _).alloc _=w1 at*;have gB1:=KB.lt;have gO1:=KO.lt
 go_upto_region 3 with(go_at_call 58;refine(HP _).mono ?_;rintro e w2 ⟨v,A,n,c,rfl,b2⟩)
 have KB2:=KB.below b2 gB1;have KO2:=KO.below b2 gO1;have bx:=An b0 b2;clear HP KB KO b2;have qb:=KB2.lt;have qo:=KO2.lt;have hb:=KB2.cell
 go_region_held3 (fun w'=> ∀o,w'.cell? ⟨w,o,none⟩=((Ad DA dn dc SA sn sc b LA ln lc):Array Value)[o]?)
  (exact Cs)
  (first
   |(go_at_call 88;(with_reducible refine(HD _).mono ?_);rintro e u ⟨rfl,b4⟩;have bu:Below w2 w2 u:=EE (m:=1) b4;have hbu: ∀o,u.cell? ⟨w,o,none⟩=((Ad DA dn dc SA sn sc b LA ln lc):Array Value)[o]? :=fun o=>(KB2.below bu qb).cell o;have ku:=KO2.below bu qo;have eu:=ku.cell;have fu:=ku.frozen;have gu:=ku.lt))
 have bf:=An bx bu;go_wp2;refine AS (v:=.tuple #[Ad DA dn dc SA sn sc b LA ln lc,.string ⟨E.toArray⟩]) (by simp[results,results59,go_sem,eu,gu]) rfl ?_
 exact⟨⟨⟨DA,dn,dc⟩,⟨SA,sn,sc⟩,⟨LA,ln,lc⟩⟩,by rw[HR.out.1,HR.out.2,HEE.out],by rw[HR.out.1];exact Bt (BB _ bf) (HN0 _ Aa),fun _ hq=> .inl hq,BH bf Aa⟩
theorem ES {nm:Bs} (hnm:nm=Av∨nm=AM∨nm=Ca∨nm=AW∨nm=AX∨nm=Bo) (s:Bs) (h:AG) (b b1 b':Ae) (T:Bs) (m k:Nat) (w:World) (hr:Ag w (Ar h b))
  (HP: ∀V,Calls prog 58 #[.string ⟨s.toArray⟩] V fun e w'=> ∃(A:Option Addr) (c:Nat),e=.returned (.tuple #[.string ⟨nm.toArray⟩,.slice A k c,.bool true])∧Rd w' A k (ints (Co s))∧Below V V w')
  (HS: ∀(A:Option Addr) (c:Nat) (V:World),Below w w V→Rd V A k (ints (Co s))→Calls prog 95 #[At h b,.string ⟨s.toArray⟩,.string ⟨nm.toArray⟩,.slice A k c] V (CG h b' (m:Int) V))
  (hm:m≤1000) (h0:m=0→b1=b'∧T=H5) (h1: ¬m=0→b1=b∧T=erT (m:Int)):
  Calls prog 59 #[At h b,.string ⟨s.toArray⟩] w (DQ h b1 T w):=by
 obtain⟨⟨DA,dn,dc⟩,⟨SA,sn,sc⟩,⟨LA,ln,lc⟩⟩:=h;have hrl:=hr.lo;have b0:Below w w ((w.alloc (.cells (Ad DA dn dc SA sn sc b LA ln lc) 35)).alloc (.cells Ap 35)):=Ax;have KB:=(Br w 35 (Ad DA dn dc SA sn sc b LA ln lc)).alloc (.cells Ap 35);have KO:=Blk.newN (g:=w+1) (w.alloc (.cells (Ad DA dn dc SA sn sc b LA ln lc) 35)) 35 Ap Cr;have HN0: ∀(g:Nat),w.heap.size≤g→ ∀z∈(Ar ⟨⟨DA,dn,dc⟩,⟨SA,sn,sc⟩,⟨LA,ln,lc⟩⟩ b).map Sl.row,z≠some g:=fun g hg z hz c=>by have:=hrl z hz _ c;omega
 have BB: ∀W,Below w w W→Ag W (Ar ⟨⟨DA,dn,dc⟩,⟨SA,sn,sc⟩,⟨LA,ln,lc⟩⟩ b):=fun W bb=>hr.below bb;unfold CG at HS;unfold DQ;unfold At at*;have H0:=Ai h0;have H1:=Ai h1;have HD:=fun V=>Ct m V Aa;rw[Ih] at HD;have l1:=Bm (m:Int) Aa Aa;have HE:Hid (erT (m:Int)= [101,114,114,111,114,32]++Lib.itoa (m:Int)):=rfl;generalize Lib.itoa (m:Int)=I at*;obtain⟨E,hE⟩: ∃E,[101,114,114,111,114,32]++I=E:=⟨_,rfl⟩;have p1: ¬9223372036854775807<6+I.length:=Aa;have s1:((⟨#[101,114,114,111,114,32]⟩:ByteArray)++⟨I.toArray⟩)=⟨E.toArray⟩:=by rw[←hE];exact AY [101,114,114,111,114,32] I
 have HEE:Hid (erT (m:Int)=E):=HE.out.trans hE;clear hE HE l1;clear hr h0 h1;rcases hnm with rfl|rfl|rfl|rfl|rfl|rfl
 all_goals
  first
  |unfold Av at*
  |unfold AM at*
  |unfold Ca at*
  |unfold AW at*
  |unfold AX at*
  |unfold Bo at*
 all_goals
  go_enter func59,ntmps59
  go_upto_region 1 with fail
  generalize(w.alloc _).alloc _=w1 at*;have gB1:=KB.lt;have gO1:=KO.lt
  go_upto_region 4 with(go_at_call 58;refine(HP _).mono ?_;rintro e w2 ⟨A,c,rfl,R,b2⟩)
  have KB2:=KB.below b2 gB1;have hb2:=KB2.cell;have gB2:=KB2.lt;have al:Below w2 w2 (w2.alloc (.cells (Ad DA dn dc SA sn sc b LA ln lc) 35)):=BU;have KN:=Br w2 35 (Ad DA dn dc SA sn sc b LA ln lc);have KB3:=KB2.below al gB2;have KO3:=(KO.below b2 gO1).below al (KO.below b2 gO1).lt;have b3:=b0.trans ((An b2 al).mono b0.size);have R3:=R.below al;have hz2:=b2.size;clear HP KB KO R al
  go_upto_region 13 with fail
  generalize w2.alloc _=w3 at*;obtain⟨g9,hg9⟩: ∃g,w2.heap.size=g:=⟨_,rfl⟩;rw[hg9] at KN hz2⊢;clear hg9 hb2 gB2 KB2 b2;have hb3:=KB3.cell;have gB3:=KB3.lt;have gO3:=KO3.lt;have g93:=KN.lt;have HS3:=HS A c w3 b3 R3;clear HS
  go_upto_region 14 with(go_at_call 95;refine HS3.mono ?_;rintro e w4 ⟨⟨⟨XA,xn,xc⟩,⟨YA,yn,yc⟩,⟨ZA,zn,zc⟩⟩,rfl,RR,HQ,b4⟩;have K9:=KN.below b4 g93;have e9:=K9.cell;have f9:=K9.frozen;have g94:=K9.lt)
  (try simp only at RR HQ)
  have KB5:=Q9 (v0:=.slice XA xn xc) (v1:=.slice YA yn yc) (v2:=.int .i64 b'.source) (v3:=.int .i64 b'.cos) (v4:=.int .i64 b'.sin) (v5:=.int .i64 b'.hyp) (v6:=.slice ZA zn zc) (KB3.below b4 gB3) (show w.heap.size≠g9 by omega)
  have KO5:=Q9 (v0:=.slice XA xn xc) (v1:=.slice YA yn yc) (v2:=.int .i64 b'.source) (v3:=.int .i64 b'.cos) (v4:=.int .i64 b'.sin) (v5:=.int .i64 b'.hyp) (v6:=.slice ZA zn zc) (KO3.below b4 gO3) (show w.heap.size+1≠g9 by omega)
  have K95:=Ra (v0:=.slice XA xn xc) (v1:=.slice YA yn yc) (v2:=.int .i64 b'.source) (v3:=.int .i64 b'.cos) (v4:=.int .i64 b'.sin) (v5:=.int .i64 b'.hyp) (v6:=.slice ZA zn zc) K9;have HQR:Hid (∀q,some q∈BK ⟨⟨XA,xn,xc⟩,⟨YA,yn,yc⟩,⟨ZA,zn,zc⟩⟩→some q∈BK ⟨⟨DA,dn,dc⟩,⟨SA,sn,sc⟩,⟨LA,ln,lc⟩⟩∨w3.heap.size≤q):=HQ
  have HN5: ∀(g:Nat),w.heap.size≤g→g<w3→ ∀z∈(Ar ⟨⟨XA,xn,xc⟩,⟨YA,yn,yc⟩,⟨ZA,zn,zc⟩⟩ b').map Sl.row,z≠some g:=fun g h1 h2 z hz c=>by
   subst c;rcases HQR.out g hz with h3|h3
   ·have:=hrl _ h3 _ rfl;omega
   ·omega
  have RR5:=Bt (a1:=.slice XA xn xc) (a2:=.slice YA yn yc) (a3:=.int .i64 b'.source) (a4:=.int .i64 b'.cos) (a5:=.int .i64 b'.sin) (a6:=.int .i64 b'.hyp) (a7:=.slice ZA zn zc) RR (HN5 g9 Aa g93);have b5:=BH (g:=g9) (a:=.slice XA xn xc) (b:=.slice YA yn yc) (c:=.int .i64 b'.source) (d:=.int .i64 b'.cos) (e:=.int .i64 b'.sin) (f:=.int .i64 b'.hyp) (h:=.slice ZA zn zc) (An b3 b4) Aa;clear HQ RR K9 KN KB3 KO3 e9 f9 g94 hb3 b4 HS3;generalize((((((w4.setCell ⟨g9,0,none⟩ (.slice XA xn xc)).setCell ⟨g9,1,none⟩ (.slice YA yn yc)).setCell ⟨g9,2,none⟩ (ZI b'.source)).setCell ⟨g9,3,none⟩ (ZI b'.cos)).setCell ⟨g9,4,none⟩ (ZI b'.sin)).setCell ⟨g9,5,none⟩ (ZI b'.hyp)).setCell ⟨g9,6,none⟩ (.slice ZA zn zc)=w5 at*
  by_cases hz:m=0
  ·subst hz;have HR:=Ai (H0.out rfl);have e5:=K95.cell;have eo:=KO5.cell;have fo:=KO5.frozen;have go_:=KO5.lt;clear H0 H1 HD HEE KB5;go_wp2;refine AS (v:=.tuple #[Ad XA xn xc YA yn yc b' ZA zn zc,.string ⟨#[111,107]⟩]) (by simp[results,results59,go_sem,eo,go_]) rfl ?_
   exact⟨⟨⟨XA,xn,xc⟩,⟨YA,yn,yc⟩,⟨ZA,zn,zc⟩⟩,by rw[HR.out.1,HR.out.2];rfl,by rw[HR.out.1];exact Bt RR5 (HN5 _ Aa gO3),fun q hq=>(HQR.out q hq).imp id (fun h=>by have:=b3.size;omega),BH b5 Aa⟩
  ·have HR:=Ai (H1.out hz);have hmc:((m:Int) !=0)=true:=QV;clear H0 H1 K95 RR5 HQR HN5
   go_upto_region 15 with fail
   have qb:=KB5.lt;have qo:=KO5.lt;have hb:=KB5.cell
   go_region_held3 (fun w'=> ∀o,w'.cell? ⟨w,o,none⟩=((Ad DA dn dc SA sn sc b LA ln lc):Array Value)[o]?)
    (exact Cs)
    (first
     |(go_at_call 88;(with_reducible refine(HD _).mono ?_);rintro e u ⟨rfl,b4⟩;have bu:Below w5 w5 u:=EE (m:=1) b4;have hbu: ∀o,u.cell? ⟨w,o,none⟩=((Ad DA dn dc SA sn sc b LA ln lc):Array Value)[o]? :=fun o=>(KB5.below bu qb).cell o;have ku:=KO5.below bu qo;have eu:=ku.cell;have fu:=ku.frozen;have gu:=ku.lt))
   have bf:=An b5 bu;go_wp2;refine AS (v:=.tuple #[Ad DA dn dc SA sn sc b LA ln lc,.string ⟨E.toArray⟩]) (by simp[results,results59,go_sem,eu,gu]) rfl ?_
   exact⟨⟨⟨DA,dn,dc⟩,⟨SA,sn,sc⟩,⟨LA,ln,lc⟩⟩,by rw[HR.out.1,HR.out.2,HEE.out],by rw[HR.out.1];exact Bt (BB _ bf) (HN0 _ Aa),fun _ hq=> .inl hq,BH bf Aa⟩
theorem Dz (s:Bs) (h:AG) (b:Ae) (T wd:Bs) (k:Nat) (w:World) (hr:Ag w (Ar h b))
  (HP: ∀V,Calls prog 58 #[.string ⟨s.toArray⟩] V fun e w'=> ∃(A:Option Addr) (c:Nat),e=.returned (.tuple #[.string ⟨wd.toArray⟩,.slice A k c,.bool true])∧Rd w' A k (ints (Co s))∧Below V V w')
  (HS: ∀(A:Option Addr) (c:Nat) (V:World),Below w w V→Rd V A k (ints (Co s))→Calls prog 96 #[At h b,.string ⟨wd.toArray⟩,.slice A k c] V (EY T V))
  (n0: ¬wd=Av) (n1: ¬wd=AM) (n2: ¬wd=Ca) (n3: ¬wd=AW) (n4: ¬wd=AX) (n5: ¬wd=Bo):
  Calls prog 59 #[At h b,.string ⟨s.toArray⟩] w (DQ h b T w):=by
 unfold Av at n0;have q0:=Ea.2 n0;unfold AM at n1;have q1:=Ea.2 n1;unfold Ca at n2;have q2:=Ea.2 n2;unfold AW at n3;have q3:=Ea.2 n3;unfold AX at n4;have q4:=Ea.2 n4;unfold Bo at n5;have q5:=Ea.2 n5;obtain⟨⟨DA,dn,dc⟩,⟨SA,sn,sc⟩,⟨LA,ln,lc⟩⟩:=h;have hrl:=hr.lo;have b0:Below w w ((w.alloc (.cells (Ad DA dn dc SA sn sc b LA ln lc) 35)).alloc (.cells Ap 35)):=Ax;have KB:=(Br w 35 (Ad DA dn dc SA sn sc b LA ln lc)).alloc (.cells Ap 35);have KO:=Blk.newN (g:=w+1) (w.alloc (.cells (Ad DA dn dc SA sn sc b LA ln lc) 35)) 35 Ap Cr;have HN0: ∀(g:Nat),w.heap.size≤g→ ∀z∈(Ar ⟨⟨DA,dn,dc⟩,⟨SA,sn,sc⟩,⟨LA,ln,lc⟩⟩ b).map Sl.row,z≠some g:=fun g hg z hz c=>by have:=hrl z hz _ c;omega
 have BB: ∀W,Below w w W→Ag W (Ar ⟨⟨DA,dn,dc⟩,⟨SA,sn,sc⟩,⟨LA,ln,lc⟩⟩ b):=fun W bb=>hr.below bb;unfold EY at HS;unfold DQ;unfold At at*;clear hr
 go_enter func59,ntmps59
 go_upto_region 1 with fail
 generalize(w.alloc _).alloc _=w1 at*;have gB1:=KB.lt;have gO1:=KO.lt
 go_upto_region 4 with(go_at_call 58;refine(HP _).mono ?_;rintro e w2 ⟨A,c,rfl,R,b2⟩)
 have KB2:=KB.below b2 gB1;have hb2:=KB2.cell;have gB2:=KB2.lt;have al:Below w2 w2 (w2.alloc (.cells (Ad DA dn dc SA sn sc b LA ln lc) 35)):=BU;have KN:=Br w2 35 (Ad DA dn dc SA sn sc b LA ln lc);have KB3:=KB2.below al gB2;have KO3:=(KO.below b2 gO1).below al (KO.below b2 gO1).lt;have b3:=b0.trans ((An b2 al).mono b0.size);have R3:=R.below al;clear HP KB KO R al
 go_upto_region 6 with fail
 generalize w2.alloc _=w3 at*;obtain⟨g9,hg9⟩: ∃g,w2.heap.size=g:=⟨_,rfl⟩;rw[hg9] at KN⊢;clear hg9 hb2 gB2 KB2 b2;have hb3:=KB3.cell;have gB3:=KB3.lt;have gO3:=KO3.lt;have g93:=KN.lt;have HS3:=HS A c w3 b3 R3;clear HS n0 n1 n2 n3 n4 n5 q0 q1 q2 q3 q4 q5
 go_upto_region 14 with(go_at_call 96;refine HS3.mono ?_;rintro e w4 ⟨t,cd,rfl,hcd,HT,b4⟩;have HTT:=Ai HT;clear HT)
 have K9:=KN.below b4 g93;have KB4:=KB3.below b4 gB3;have KO4:=KO3.below b4 gO3;have b5:=An b3 b4;clear KN KB3 KO3 hb3 b4 HS3
 by_cases hz:cd=0
 ·subst hz;have HR:Hid (t=T):=by have:=HTT.out;unfold cdT at this;rw[AA rfl] at this;exact this
  have e9:=K9.cell;have eo:=KO4.cell;have fo:=KO4.frozen;have go_:=KO4.lt;clear HTT;go_wp2;refine AS (v:=.tuple #[Ad DA dn dc SA sn sc b LA ln lc,.string ⟨t.toArray⟩]) (by simp[results,results59,go_sem,eo,go_]) rfl ?_
  exact⟨⟨⟨DA,dn,dc⟩,⟨SA,sn,sc⟩,⟨LA,ln,lc⟩⟩,by rw[HR.out],Bt (BB _ b5) (HN0 _ Aa),fun _ hq=> .inl hq,BH b5 Aa⟩
 ·obtain⟨m,rfl⟩: ∃m:Nat,cd=(m:Int):=⟨cd.toNat,by omega⟩
  have HR:Hid (erT (m:Int)=T):=by have:=HTT.out;rw[LD hz] at this;exact this
  have hmc:((m:Int) !=0)=true:=by rw[bne_iff_ne];exact hz
  have HD:=fun V=>Ct m V Aa;rw[Ih] at HD;have l1:=Bm (m:Int) Aa Aa;have HE:Hid (erT (m:Int)= [101,114,114,111,114,32]++Lib.itoa (m:Int)):=rfl;generalize Lib.itoa (m:Int)=I at*;obtain⟨E,hE⟩: ∃E,[101,114,114,111,114,32]++I=E:=⟨_,rfl⟩;have p1: ¬9223372036854775807<6+I.length:=Aa;have s1:((⟨#[101,114,114,111,114,32]⟩:ByteArray)++⟨I.toArray⟩)=⟨E.toArray⟩:=by rw[←hE];exact AY [101,114,114,111,114,32] I
  have HEE:Hid (erT (m:Int)=E):=HE.out.trans hE;clear hE HE l1;clear HTT K9;have HEQ:Hid (T=E):=HR.out.symm.trans HEE.out
  go_upto_region 15 with fail
  have qb:=KB4.lt;have qo:=KO4.lt;have hb:=KB4.cell
  go_region_held3 (fun w'=> ∀o,w'.cell? ⟨w,o,none⟩=((Ad DA dn dc SA sn sc b LA ln lc):Array Value)[o]?)
   (exact Cs)
   (first
    |(go_at_call 88;(with_reducible refine(HD _).mono ?_);rintro e u ⟨rfl,b4⟩;have bu:Below w4 w4 u:=EE (m:=1) b4;have hbu: ∀o,u.cell? ⟨w,o,none⟩=((Ad DA dn dc SA sn sc b LA ln lc):Array Value)[o]? :=fun o=>(KB4.below bu qb).cell o;have ku:=KO4.below bu qo;have eu:=ku.cell;have fu:=ku.frozen;have gu:=ku.lt))
  have bf:=An b5 bu;go_wp2;refine AS (v:=.tuple #[Ad DA dn dc SA sn sc b LA ln lc,.string ⟨E.toArray⟩]) (by simp[results,results59,go_sem,eu,gu]) rfl ?_
  exact⟨⟨⟨DA,dn,dc⟩,⟨SA,sn,sc⟩,⟨LA,ln,lc⟩⟩,by rw[HEQ.out],Bt (BB _ bf) (HN0 _ Aa),fun _ hq=> .inl hq,BH bf Aa⟩
theorem V9 (s:Bs) (h:AG) (b:Ae) (w:World) (ok:D9 b) (hr:Ag w (Ar h b)) (hs:s.length≤100000) (hb:Dm s=true) (hw:cmH s=AM) (hl:(Co s).length=1):
  Calls prog 59 #[At h b,.string ⟨s.toArray⟩] w (DQ h (bsNext b s) (bsOut b s) w):=by
 rw[(Hp (b:=b) hb hw).1,(Hp (b:=b) hb hw).2]
 by_cases hc:inR (cmI s 0) 0 ((b.depths.length:Int)-1)=true
 ·rw[AA hc,AA hc];exact ES (.inr (.inl rfl)) s h b _ (if inR (cmI s 0) 0 ((b.depths.length:Int)-1)=true then {b with source:=cmI s 0} else b) H5 0 1 w hr (fun V=>Cc hs hb hw hl V) (fun A c V bb R=>by have H:=ON s A c h b V ok (hr.below bb) R;rw[show(if inR (cmI s 0) 0 ((b.depths.length:Int)-1)=true then 0 else 2:Int)=((0:Nat):Int) from AA hc] at H;exact H) Ah (fun _=>⟨(AA hc).symm,rfl⟩) (fun h=>absurd rfl h)
 ·rw[Ak hc,Ak hc];exact ES (.inr (.inl rfl)) s h b _ (if inR (cmI s 0) 0 ((b.depths.length:Int)-1)=true then {b with source:=cmI s 0} else b) (erT 2) 2 1 w hr (fun V=>Cc hs hb hw hl V) (fun A c V bb R=>by have H:=ON s A c h b V ok (hr.below bb) R;rw[show(if inR (cmI s 0) 0 ((b.depths.length:Int)-1)=true then 0 else 2:Int)=((2:Nat):Int) from Ak hc] at H;exact H) Ah (fun h=>by cases h) (fun _=>⟨rfl,rfl⟩)
theorem dq (s:Bs) (h:AG) (b:Ae) (w:World) (ok:D9 b) (hr:Ag w (Ar h b)) (hs:s.length≤100000) (hb:Dm s=true) (hw:cmH s=Ca) (hl:(Co s).length=3):
  Calls prog 59 #[At h b,.string ⟨s.toArray⟩] w (DQ h (bsNext b s) (bsOut b s) w):=by
 rw[(Nk (b:=b) hb hw).1,(Nk (b:=b) hb hw).2]
 by_cases hc:Gj (cmI s 0) (cmI s 1)=true∧inR (cmI s 2) 0 1=true
 ·rw[AA hc,AA hc];exact ES (.inr (.inr (.inl rfl))) s h b _ (if Gj (cmI s 0) (cmI s 1)=true∧inR (cmI s 2) 0 1=true then {b with cos:=mkC (cmI s 0) (cmI s 1),sin:=mkS (cmI s 0) (cmI s 1) (decide (cmI s 2=1)),hyp:=mkH (cmI s 0) (cmI s 1)} else b) H5 0 3 w hr (fun V=>Cc hs hb hw hl V) (fun A c V bb R=>by have H:=Xf s A c h b V ok (hr.below bb) R;rw[show(if Gj (cmI s 0) (cmI s 1)=true∧inR (cmI s 2) 0 1=true then 0 else 2:Int)=((0:Nat):Int) from AA hc] at H;exact H) Ah (fun _=>⟨(AA hc).symm,rfl⟩) (fun h=>absurd rfl h)
 ·rw[Ak hc,Ak hc];exact ES (.inr (.inr (.inl rfl))) s h b _ (if Gj (cmI s 0) (cmI s 1)=true∧inR (cmI s 2) 0 1=true then {b with cos:=mkC (cmI s 0) (cmI s 1),sin:=mkS (cmI s 0) (cmI s 1) (decide (cmI s 2=1)),hyp:=mkH (cmI s 0) (cmI s 1)} else b) (erT 2) 2 3 w hr (fun V=>Cc hs hb hw hl V) (fun A c V bb R=>by have H:=Xf s A c h b V ok (hr.below bb) R;rw[show(if Gj (cmI s 0) (cmI s 1)=true∧inR (cmI s 2) 0 1=true then 0 else 2:Int)=((2:Nat):Int) from Ak hc] at H;exact H) Ah (fun h=>by cases h) (fun _=>⟨rfl,rfl⟩)
theorem Uz (s:Bs) (h:AG) (b:Ae) (w:World) (ok:D9 b) (hr:Ag w (Ar h b)) (hs:s.length≤100000) (hb:Dm s=true) (hw:cmH s=Av)  :
  Calls prog 59 #[At h b,.string ⟨s.toArray⟩] w (DQ h (bsNext b s) (bsOut b s) w):=by
 rw[(Gk (b:=b) hb hw).1,(Gk (b:=b) hb hw).2]
 by_cases hc:Fm (cmT s)=true
 ·rw[AA hc,AA hc];exact ES (.inl rfl) s h b _ (if Fm (cmT s)=true then {b with depths:=rpD (cmT s),speeds:=rpV (cmT s),source:=0} else b) H5 0 (Co s).length w hr (fun V=>Cc hs hb hw rfl V) (fun A c V bb R=>by have H:=Mx s A (Co s).length c h b V (hr.below bb) hs hb hw;rw[show(if Fm (cmT s)=true then 0 else 6:Int)=((0:Nat):Int) from AA hc] at H;exact H) Ah (fun _=>⟨(AA hc).symm,rfl⟩) (fun h=>absurd rfl h)
 ·rw[Ak hc,Ak hc];exact ES (.inl rfl) s h b _ (if Fm (cmT s)=true then {b with depths:=rpD (cmT s),speeds:=rpV (cmT s),source:=0} else b) (erT 6) 6 (Co s).length w hr (fun V=>Cc hs hb hw rfl V) (fun A c V bb R=>by have H:=Mx s A (Co s).length c h b V (hr.below bb) hs hb hw;rw[show(if Fm (cmT s)=true then 0 else 6:Int)=((6:Nat):Int) from Ak hc] at H;exact H) Ah (fun h=>by cases h) (fun _=>⟨rfl,rfl⟩)
theorem Yk (s:Bs) (h:AG) (b:Ae) (w:World) (ok:D9 b) (hr:Ag w (Ar h b)) (hs:s.length≤100000) (hb:Dm s=true) (hw:cmH s=AW) (hl:(Co s).length=2):
  Calls prog 59 #[At h b,.string ⟨s.toArray⟩] w (DQ h (bsNext b s) (bsOut b s) w):=by
 rw[(IW (b:=b) hb hw).1,(IW (b:=b) hb hw).2]
 obtain⟨m,hm,hm2⟩: ∃m:Nat,adC b (cmI s 0) 1 (cmI s 1) 0 0 0 0=(m:Int)∧m≤1000:=by
  refine⟨(adC b (cmI s 0) 1 (cmI s 1) 0 0 0 0).toNat,?_,?_⟩
  ·unfold adC;split;(·split<;>rfl);·rfl
  ·unfold adC;split;(·split<;>decide);·decide
 have HC:=Lz b (cmI s 0) 1 (cmI s 1) 0 0 0 0
 have HN: ¬adC b (cmI s 0) 1 (cmI s 1) 0 0 0 0=0→addB b (cmI s 0) 1 (cmI s 1) 0 0 0 0=b:=fun h=>by
  unfold adC at h;unfold addB;refine Ak (fun c=>h ?_);rw[AA c.1];exact AA c.2
 rw[hm] at HC HN;refine ES (.inr (.inr (.inr (.inl rfl)))) s h b _ (addB b (cmI s 0) 1 (cmI s 1) 0 0 0 0) _ m 2 w hr (fun V=>Cc hs hb hw hl V) (fun A c V bb R=>by have H:=Yo s A c h b V ok (hr.below bb) R;rw[hm] at H;exact H) hm2 (fun h=>⟨rfl,?_⟩) (fun h=>⟨HN Aa,?_⟩)
 ·rcases HC with⟨_,h2⟩|⟨h1,_⟩
  ·exact h2
  ·exact absurd Aa h1
 ·rcases HC with⟨h1,_⟩|⟨_,h2⟩
  ·exact absurd h1 Aa
  ·exact h2
theorem Yl (s:Bs) (h:AG) (b:Ae) (w:World) (ok:D9 b) (hr:Ag w (Ar h b)) (hs:s.length≤100000) (hb:Dm s=true) (hw:cmH s=AX) (hl:(Co s).length=5):
  Calls prog 59 #[At h b,.string ⟨s.toArray⟩] w (DQ h (bsNext b s) (bsOut b s) w):=by
 rw[(IX (b:=b) hb hw).1,(IX (b:=b) hb hw).2]
 obtain⟨m,hm,hm2⟩: ∃m:Nat,adC b (cmI s 0) 2 0 (cmI s 1) (cmI s 2) (cmI s 3) (cmI s 4)=(m:Int)∧m≤1000:=by
  refine⟨(adC b (cmI s 0) 2 0 (cmI s 1) (cmI s 2) (cmI s 3) (cmI s 4)).toNat,?_,?_⟩
  ·unfold adC;split;(·split<;>rfl);·rfl
  ·unfold adC;split;(·split<;>decide);·decide
 have HC:=Lz b (cmI s 0) 2 0 (cmI s 1) (cmI s 2) (cmI s 3) (cmI s 4)
 have HN: ¬adC b (cmI s 0) 2 0 (cmI s 1) (cmI s 2) (cmI s 3) (cmI s 4)=0→addB b (cmI s 0) 2 0 (cmI s 1) (cmI s 2) (cmI s 3) (cmI s 4)=b:=fun h=>by
  unfold adC at h;unfold addB;refine Ak (fun c=>h ?_);rw[AA c.1];exact AA c.2
 rw[hm] at HC HN;refine ES (.inr (.inr (.inr (.inr (.inl rfl))))) s h b _ (addB b (cmI s 0) 2 0 (cmI s 1) (cmI s 2) (cmI s 3) (cmI s 4)) _ m 5 w hr (fun V=>Cc hs hb hw hl V) (fun A c V bb R=>by have H:=Ys s A c h b V ok (hr.below bb) R;rw[hm] at H;exact H) hm2 (fun h=>⟨rfl,?_⟩) (fun h=>⟨HN Aa,?_⟩)
 ·rcases HC with⟨_,h2⟩|⟨h1,_⟩
  ·exact h2
  ·exact absurd Aa h1
 ·rcases HC with⟨h1,_⟩|⟨_,h2⟩
  ·exact absurd h1 Aa
  ·exact h2
theorem av (s:Bs) (h:AG) (b:Ae) (w:World) (ok:D9 b) (hr:Ag w (Ar h b)) (hs:s.length≤100000) (hb:Dm s=true) (hw:cmH s=Bo) (hl:(Co s).length=1):
  Calls prog 59 #[At h b,.string ⟨s.toArray⟩] w (DQ h (bsNext b s) (bsOut b s) w):=by
 rw[(Kv (b:=b) hb hw).1,(Kv (b:=b) hb hw).2]
 obtain⟨m,hm,hm2⟩: ∃m:Nat,adC b (cmI s 0) 3 0 0 0 0 0=(m:Int)∧m≤1000:=by
  refine⟨(adC b (cmI s 0) 3 0 0 0 0 0).toNat,?_,?_⟩
  ·unfold adC;split;(·split<;>rfl);·rfl
  ·unfold adC;split;(·split<;>decide);·decide
 have HC:=Lz b (cmI s 0) 3 0 0 0 0 0
 have HN: ¬adC b (cmI s 0) 3 0 0 0 0 0=0→addB b (cmI s 0) 3 0 0 0 0 0=b:=fun h=>by
  unfold adC at h;unfold addB;refine Ak (fun c=>h ?_);rw[AA c.1];exact AA c.2
 rw[hm] at HC HN;refine ES (.inr (.inr (.inr (.inr (.inr rfl))))) s h b _ (addB b (cmI s 0) 3 0 0 0 0 0) _ m 1 w hr (fun V=>Cc hs hb hw hl V) (fun A c V bb R=>by have H:=aA s A c h b V ok (hr.below bb) R;rw[hm] at H;exact H) hm2 (fun h=>⟨rfl,?_⟩) (fun h=>⟨HN Aa,?_⟩)
 ·rcases HC with⟨_,h2⟩|⟨h1,_⟩
  ·exact h2
  ·exact absurd Aa h1
 ·rcases HC with⟨h1,_⟩|⟨_,h2⟩
  ·exact absurd h1 Aa
  ·exact h2
theorem Ym (s:Bs) (h:AG) (b:Ae) (w:World) (ok:D9 b) (hr:Ag w (Ar h b)) (hs:s.length≤100000) (hb:Dm s=true) (hw:cmH s=By) (hl:(Co s).length=1):
  Calls prog 59 #[At h b,.string ⟨s.toArray⟩] w (DQ h (bsNext b s) (bsOut b s) w):=by
 rw[(IY (b:=b) hb hw).1,(IY (b:=b) hb hw).2];exact Dz s h b _ By 1 w hr (fun V=>Cc hs hb hw hl V) (fun A c V bb R=>Up s A c h b V ok (hr.below bb) R) Ah Ah Ah Ah Ah Ah
theorem aw (s:Bs) (h:AG) (b:Ae) (w:World) (ok:D9 b) (hr:Ag w (Ar h b)) (hs:s.length≤100000) (hb:Dm s=true) (hw:cmH s=Cj) (hl:(Co s).length=6):
  Calls prog 59 #[At h b,.string ⟨s.toArray⟩] w (DQ h (bsNext b s) (bsOut b s) w):=by
 rw[(Kw (b:=b) hb hw).1,(Kw (b:=b) hb hw).2];exact Dz s h b _ Cj 6 w hr (fun V=>Cc hs hb hw hl V) (fun A c V bb R=>VU s A c h b V ok (hr.below bb) R) Ah Ah Ah Ah Ah Ah
theorem Sk (s:Bs) (h:AG) (b:Ae) (w:World) (ok:D9 b) (hr:Ag w (Ar h b)) (hs:s.length≤100000) (hb:Dm s=true) (hw:cmH s=AQ) (hl:(Co s).length=0):
  Calls prog 59 #[At h b,.string ⟨s.toArray⟩] w (DQ h (bsNext b s) (bsOut b s) w):=by
 rw[(FD (b:=b) hb hw).1,(FD (b:=b) hb hw).2];exact Dz s h b _ AQ 0 w hr (fun V=>Cc hs hb hw hl V) (fun A c V bb R=>Ov s A c h b V ok (hr.below bb) R) Ah Ah Ah Ah Ah Ah
theorem Yj (s:Bs) (h:AG) (b:Ae) (w:World) (ok:D9 b) (hr:Ag w (Ar h b)) (hs:s.length≤100000) (hb:Dm s=true) (hw:cmH s=Bw) (hl:(Co s).length=3):
  Calls prog 59 #[At h b,.string ⟨s.toArray⟩] w (DQ h (bsNext b s) (bsOut b s) w):=by
 rw[(IV (b:=b) hb hw).1,(IV (b:=b) hb hw).2];exact Dz s h b _ Bw 3 w hr (fun V=>Cc hs hb hw hl V) (fun A c V bb R=>Uo s A c h b V ok (hr.below bb) R) Ah Ah Ah Ah Ah Ah
theorem au (s:Bs) (h:AG) (b:Ae) (w:World) (ok:D9 b) (hr:Ag w (Ar h b)) (hs:s.length≤100000) (hb:Dm s=true) (hw:cmH s=Ci) (hl:(Co s).length=3):
  Calls prog 59 #[At h b,.string ⟨s.toArray⟩] w (DQ h (bsNext b s) (bsOut b s) w):=by
 rw[(Ku (b:=b) hb hw).1,(Ku (b:=b) hb hw).2];exact Dz s h b _ Ci 3 w hr (fun V=>Cc hs hb hw hl V) (fun A c V bb R=>VT s A c h b V ok (hr.below bb) R) Ah Ah Ah Ah Ah Ah
theorem V8 (s:Bs) (h:AG) (b:Ae) (w:World) (ok:D9 b) (hr:Ag w (Ar h b)) (hs:s.length≤100000) (hb:Dm s=true) (hw:cmH s=Bi) (hl:(Co s).length=3):
  Calls prog 59 #[At h b,.string ⟨s.toArray⟩] w (DQ h (bsNext b s) (bsOut b s) w):=by
 rw[(Ho (b:=b) hb hw).1,(Ho (b:=b) hb hw).2];exact Dz s h b _ Bi 3 w hr (fun V=>Cc hs hb hw hl V) (fun A c V bb R=>Sc s A c h b V ok (hr.below bb) R) Ah Ah Ah Ah Ah Ah
theorem ax (s:Bs) (h:AG) (b:Ae) (w:World) (ok:D9 b) (hr:Ag w (Ar h b)) (hs:s.length≤100000) (hb:Dm s=true) (hw:cmH s=Ck) (hl:(Co s).length=3):
  Calls prog 59 #[At h b,.string ⟨s.toArray⟩] w (DQ h (bsNext b s) (bsOut b s) w):=by
 rw[(Kx (b:=b) hb hw).1,(Kx (b:=b) hb hw).2];exact Dz s h b _ Ck 3 w hr (fun V=>Cc hs hb hw hl V) (fun A c V bb R=>VV s A c h b V ok (hr.below bb) R) Ah Ah Ah Ah Ah Ah
theorem dm (s:Bs) (h:AG) (b:Ae) (w:World) (ok:D9 b) (hr:Ag w (Ar h b)) (hs:s.length≤100000) (hb:Dm s=true) (hw:cmH s=CX) (hl:(Co s).length=0):
  Calls prog 59 #[At h b,.string ⟨s.toArray⟩] w (DQ h (bsNext b s) (bsOut b s) w):=by
 rw[(Nj (b:=b) hb hw).1,(Nj (b:=b) hb hw).2];exact Dz s h b _ CX 0 w hr (fun V=>Cc hs hb hw hl V) (fun A c V bb R=>Ya s A c h b V ok (hr.below bb) R) Ah Ah Ah Ah Ah Ah
theorem Yi (s:Bs) (h:AG) (b:Ae) (w:World) (ok:D9 b) (hr:Ag w (Ar h b)) (hs:s.length≤100000) (hb:Dm s=true) (hw:cmH s=BE) (hl:(Co s).length=0):
  Calls prog 59 #[At h b,.string ⟨s.toArray⟩] w (DQ h (bsNext b s) (bsOut b s) w):=by
 rw[(IU (b:=b) hb hw).1,(IU (b:=b) hb hw).2];exact Dz s h b _ BE 0 w hr (fun V=>Cc hs hb hw hl V) (fun A c V bb R=>Un s A c h b V ok (hr.below bb) R) Ah Ah Ah Ah Ah Ah
theorem Vy (s:Bs) (h:AG) (b:Ae) (w:World) (ok:D9 b) (hr:Ag w (Ar h b)) (hs:s.length≤100000):
  Calls prog 59 #[At h b,.string ⟨s.toArray⟩] w (DQ h (bsNext b s) (bsOut b s) w):=by
 rcases BA (Dm s) with hb|hb
 ·by_cases hp:cmH s=Av
  ·exact Uz s h b w ok hr hs hb hp
  ·rcases S0 hb hp with⟨h1,h2⟩|⟨h1,h2⟩|⟨h1,h2⟩|⟨h1,h2⟩|⟨h1,h2⟩|⟨h1,h2⟩|⟨h1,h2⟩|⟨h1,h2⟩|⟨h1,h2⟩|⟨h1,h2⟩|⟨h1,h2⟩|⟨h1,h2⟩|⟨h1,h2⟩|⟨h1,h2⟩
   ·exact Sk s h b w ok hr hs hb h1 h2
   ·exact dm s h b w ok hr hs hb h1 h2
   ·exact Yi s h b w ok hr hs hb h1 h2
   ·exact V9 s h b w ok hr hs hb h1 h2
   ·exact av s h b w ok hr hs hb h1 h2
   ·exact Ym s h b w ok hr hs hb h1 h2
   ·exact Yk s h b w ok hr hs hb h1 h2
   ·exact dq s h b w ok hr hs hb h1 h2
   ·exact Yj s h b w ok hr hs hb h1 h2
   ·exact au s h b w ok hr hs hb h1 h2
   ·exact V8 s h b w ok hr hs hb h1 h2
   ·exact ax s h b w ok hr hs hb h1 h2
   ·exact Yl s h b w ok hr hs hb h1 h2
   ·exact aw s h b w ok hr hs hb h1 h2
 ·exact dj s h b w ok hr hs hb
def gh (h:AG) (B:Ae):Array Value:= (Ad h.depths.A h.depths.n h.depths.c h.speeds.A h.speeds.n h.speeds.c B h.log.A h.log.n h.log.c)
structure fX (W:World) (n0 g:Nat) (h:AG) (B:Ae) (O:Hd):Prop where
 blk:Blk W g 35 (gh h B)
 rd:Ag W (Ar h B)
 far: ∀q,some q∈BK h→q≠g∧O.row≠some q∧n0<q
theorem LB {W:World} {h:AG} {B:Ae} (R:Ag W (Ar h B)): ∀q,some q∈BK h→q<W:=fun q hq=>R.lo _ hq q rfl
theorem Xx {h:AG} {B:Ae} {g:Nat} (H: ∀q,some q∈BK h→q≠g): ∀z∈(Ar h B).map Sl.row,z≠some g:=fun z hz c=>by subst c;exact H g hz rfl
theorem VW {W W':World} {h:AG} {B:Ae} {row:Option Nat} (R:Ag W (Ar h B)) (gg:W.grownBy W' row) (H: ∀q,some q∈BK h→row≠some q):Ag W' (Ar h B):=fun s hs=>
 (R s hs).grown gg (fun ad e h0 c=>H ad.block (by have:=List.mem_map_of_mem (f:=Sl.row) hs;unfold Sl.row at this;rw[GL e h0] at this;exact this) c)
theorem Nm {w:World} {h:AG} {b:Ae} {g:Nat} {a1 a2 a3 a4 a5 a6 a7:Value} (R:Ag w (Ar h b)) (H: ∀q,some q∈BK h→q≠g):Ag (((((((w.setCell ⟨g,0,none⟩ a1).setCell ⟨g,1,none⟩ a2).setCell ⟨g,2,none⟩ a3).setCell ⟨g,3,none⟩ a4).setCell ⟨g,4,none⟩ a5).setCell ⟨g,5,none⟩ a6).setCell ⟨g,6,none⟩ a7) (Ar h b):=Bt R (Xx H)
def YK (ls:List Bs) (w:World) (e:Ending) (w':World):Prop:=
 ∃(h:AG) (O:Hd),e=.returned (.tuple #[At h (bsAll ls AE),.slice O.A O.n O.c])∧Ag w' (Ar h (bsAll ls AE))∧(∀q,some q∈BK h→w<q)∧O.n=ls.length∧Rd w' O.A O.n (strs (bsOuts ls AE))∧Below w w w'
theorem Vx (A:Option Addr) (n c:Nat) (ls:List Bs) (w:World) (hn:n≤1048576) (hr:Rd w A n (strs ls)) (hs: ∀x∈ls,x.length≤100000):
  Calls prog 32 #[.slice A n c] w (YK ls w):=by
 have hll:ls.length=n:=by have:=hr.1;unfold strs at this;simpa using this
 have HLS:Hid (∀k,k<n→(ls.getD k []).length≤100000∧ls.take (k+1)=ls.take k++ [ls.getD k []]):=fun k hk=>by
  have h2:k<ls.length:=Aa;have e2:ls.getD k []=ls[k]:=by rw[DE,Db h2];rfl
  rw[e2];exact⟨hs _ (EH h2),List.take_succ_eq_append_getElem h2⟩
 have HTA:Hid (ls.take n=ls):=ED Aa;have HLL:=Ai hll;clear hll hs;have K0:=Br w 35 Ap;have b0:Below w w (w.alloc (.cells Ap 35)):=BU
 go_enter func32,ntmps32
 go_upto_region 1 with fail
 generalize w.alloc _=w1 at*;have g0:=K0.lt
 go_upto_region 2 with(go_at_call 21;refine(L6 _).mono ?_;rintro e w2 ⟨⟨⟨DA,dn,dc⟩,⟨SA,sn,sc⟩,⟨LA,ln,lc⟩⟩,rfl,-,R2,W2,-,b2⟩;unfold At AE)
 (try simp only)
 have hlo:=LB R2;have hhi:=fun q (hq:some q∈BK ⟨⟨DA,dn,dc⟩,⟨SA,sn,sc⟩,⟨LA,ln,lc⟩⟩)=>W2.hi _ hq q rfl;have al:Below w2 w2 (w2.alloc (.cells (Bp DA dn dc SA sn sc 0 4 3 5 LA ln lc) 35)):=BU;have ae:Below w2 w2 ((w2.alloc (.cells (Bp DA dn dc SA sn sc 0 4 3 5 LA ln lc) 35)).alloc (.cells #[] 9)):=Ax;have S4:fX ((w2.alloc (.cells (Bp DA dn dc SA sn sc 0 4 3 5 LA ln lc) 35)).alloc (.cells #[] 9)) w.heap.size w2.heap.size ⟨⟨DA,dn,dc⟩,⟨SA,sn,sc⟩,⟨LA,ln,lc⟩⟩ AE ⟨some ⟨w2+1,0,none⟩,0,0⟩:=⟨(Br w2 35 (Bp DA dn dc SA sn sc 0 4 3 5 LA ln lc)).alloc _,R2.below ae,fun q hq=>⟨by have:=hlo q hq;omega,(fun c=>by cases c),by have:=hhi q hq;omega⟩⟩
 have b4:=b0.trans ((An b2 ae).mono b0.size);have K4:=(K0.below b2 g0).below ae (K0.below b2 g0).lt;have hz2:=b2.size;clear R2 W2 b2 al hlo hhi K0 ae
 go_upto_region 3 with fail
 generalize(w2.alloc _).alloc _=w4 at*;obtain⟨g,hg⟩: ∃g,w2.heap.size=g:=⟨_,rfl⟩;rw[hg] at S4 hz2⊢;have hg0:w<g:=Aa;clear hg
 go_wp2_with fail
 go_loopw [5,6] (fun v i wr=> ∃(k:Nat) (h:AG) (O:Hd),k≤n∧i=.int .i64 k∧v=.slice O.A O.n O.c∧fX wr w.heap.size g h (bsAll (ls.take k) AE) O∧AR wr (g+1) 1 O (strs (bsOuts (ls.take k) AE))∧O.n=k∧Blk wr w.heap.size 35 Ap∧D9 (bsAll (ls.take k) AE)∧Below w w wr) (fun _ i _=>n-(intOf i).toNat)
 case atStart=>exact⟨0,_,⟨some ⟨g+1,0,none⟩,0,0⟩,AZ _,rfl,rfl,S4,AR.empty _ _ _ _,rfl,K4,Qe,b4⟩
 case round=>
  clear S4 K4 b4;obtain⟨k,⟨⟨DA,dn,dc⟩,⟨SA,sn,sc⟩,⟨LA,ln,lc⟩⟩,⟨OA,on,oc⟩,hk,rfl,rfl,SR,OR,hon,K0,okb,br⟩:=hrel;obtain rfl:on=k:=hon;have rlt:=OR.rowlt;have hlo:=LB SR.rd;have g0:=K0.lt;have SRF:=SR.far;have SRD:=SR.rd;have KB:Blk wr g 35 (Bp DA dn dc SA sn sc (bsAll (ls.take on) AE).source (bsAll (ls.take on) AE).cos (bsAll (ls.take on) AE).sin (bsAll (ls.take on) AE).hyp LA ln lc):=SR.blk;have gB:=KB.lt
  by_cases hlt:on<n
  ·have hltI:(on:Int)<(n:Int):=Aa;obtain⟨ad,rfl,hx⟩:=(hr.below br).str hlt;obtain⟨h1,h2⟩:=HLS.out on hlt;have HR:=fun(V:World) (bb:Below wr wr V)=>Vy (ls.getD on []) ⟨⟨DA,dn,dc⟩,⟨SA,sn,sc⟩,⟨LA,ln,lc⟩⟩ (bsAll (ls.take on) AE) V okb (SRD.below bb) h1;have HNX:Hid (bsAll (ls.take (on+1)) AE=bsNext (bsAll (ls.take on) AE) (ls.getD on [])):=by unfold Hid;rw[h2,Jy]
   have HOK:Hid (D9 (bsNext (bsAll (ls.take on) AE) (ls.getD on []))):=cM okb _;have HOU:Hid (strs (bsOuts (ls.take (on+1)) AE)=strs (bsOuts (ls.take on) AE)++strs [bsOut (bsAll (ls.take on) AE) (ls.getD on [])]):=by unfold Hid;rw[h2,Ig,O9]
   have h63:on+1≤1099511627776:=Aa;have had:=Gr wr (ad.add on) hx;unfold DQ At at HR;generalize bsNext (bsAll (ls.take on) AE) (ls.getD on [])=b' at*;generalize bsOut (bsAll (ls.take on) AE) (ls.getD on [])=t at*;generalize bsOuts (ls.take on) AE=us at*;generalize bsAll (ls.take on) AE=b at*;generalize ls.getD on []=y at*;simp only at HR;have hb:=KB.cell;clear h1 h2 SR okb SRD
   go_upto_region 6 with fail
   have bA:Below wr wr (wr.alloc (.cells Ap 35)):=BU;have hA:=HR wr.drew GJ;have hB:=HR (wr.alloc (.cells Ap 35)).drew (CO bA);have KZ:=Blk.drew (Br wr 35 Ap)
   go_cut [7,8] (fun v7 v8 wx=> ∃(q:Nat) (XA:Option Addr) (xn xc:Nat) (YA:Option Addr) (yn yc:Nat) (ZA:Option Addr) (zn zc:Nat),v7=.pointer (some ⟨q,0,none⟩)∧v8=.string ⟨t.toArray⟩∧Blk wx q 35 (Ad XA xn xc YA yn yc b' ZA zn zc)∧wr.heap.size≤q∧Ag wx (Ar ⟨⟨XA,xn,xc⟩,⟨YA,yn,yc⟩,⟨ZA,zn,zc⟩⟩ b')∧(∀p,some p∈BK ⟨⟨XA,xn,xc⟩,⟨YA,yn,yc⟩,⟨ZA,zn,zc⟩⟩→some p∈BK ⟨⟨DA,dn,dc⟩,⟨SA,sn,sc⟩,⟨LA,ln,lc⟩⟩∨wr.heap.size≤p)∧Below wr wr wx)
   case first=>
    go_region_held3 (fun w'=>(∀o,w'.cell? ⟨g,o,none⟩=((Ad DA dn dc SA sn sc b LA ln lc):Array Value)[o]?)∧w'.cell? (ad.add on)=some (.string ⟨y.toArray⟩))
     (exact Cs)
     (first
      |(go_at_call 59;(with_reducible refine hA.mono ?_);rintro e u ⟨⟨⟨XA,xn,xc⟩,⟨YA,yn,yc⟩,⟨ZA,zn,zc⟩⟩,rfl,RR,HQ,b4⟩;have bu:Below wr wr u:=EE (m:=1) b4;have z0:(∀o,u.cell? ⟨g,o,none⟩=((Ad DA dn dc SA sn sc b LA ln lc):Array Value)[o]?):=fun o=>(KB.below bu gB).cell o;have y0:=CM gB bu.size;have z1:u.cell? (ad.add on)=some (.string ⟨y.toArray⟩):=(JX bu (p:=ad.add on) had).trans hx;have y1:=CM had bu.size;have KU:=Br u 35 (Ad XA xn xc YA yn yc b' ZA zn zc);have bU:Below wr wr (u.alloc (.cells (Ad XA xn xc YA yn yc b' ZA zn zc) 35)):=bu.trans (((AP _ _).alloc Bk _).mono bu.size))
      |(go_at_call 59;(with_reducible refine hB.mono ?_);rintro e u ⟨⟨⟨XA,xn,xc⟩,⟨YA,yn,yc⟩,⟨ZA,zn,zc⟩⟩,rfl,RR,HQ,b4⟩;have bu:Below wr wr u:=(CO bA).trans (b4.mono bA.size);have z0:(∀o,u.cell? ⟨g,o,none⟩=((Ad DA dn dc SA sn sc b LA ln lc):Array Value)[o]?):=fun o=>(KB.below bu gB).cell o;have y0:=CM gB bu.size;have z1:u.cell? (ad.add on)=some (.string ⟨y.toArray⟩):=(JX bu (p:=ad.add on) had).trans hx;have y1:=CM had bu.size;have KU:=KZ.below b4 KZ.lt;have fU:=KU.frozen;have cU:=KU.cell;have hgu:=KU.lt))
    all_goals
     go_wp2_with fail
     go_meet
     first
      |(clear fU;exact⟨wr.heap.size,XA,xn,xc,YA,yn,yc,ZA,zn,zc,rfl,rfl,Ra KU,Cp _,Nm RR (fun p hp=>by rcases HQ p hp with h|h;(·have:=hlo p h;omega);(·simp at h;omega)),fun p hp=>(HQ p hp).imp id (fun h=>by simp at h;omega),BH bu Bk⟩)
      |exact⟨u.heap.size,XA,xn,xc,YA,yn,yc,ZA,zn,zc,rfl,rfl,KU,bu.size,RR.below BU,fun p hp=>(HQ p hp).imp id (fun h=>by simp at h;omega),bU⟩
   case rest=>
    obtain⟨q,XA,xn,xc,YA,yn,yc,ZA,zn,zc,rfl,rfl,KQ,hq,RR,HQ,bw⟩:=hcut;have KBc:=KB.below bw gB;have K0c:=K0.below bw g0;have eQ:=KQ.cell;have eB:=KBc.cell;have fB:=KBc.frozen
    have NR: ∀p,some p∈BK ⟨⟨XA,xn,xc⟩,⟨YA,yn,yc⟩,⟨ZA,zn,zc⟩⟩→p≠g∧(⟨OA,on,oc⟩:Hd).row≠some p∧w.heap.size<p:=fun p hp=>by
     rcases HQ p hp with h|h
     ·exact SRF p h
     ·exact⟨by omega,(fun c=>by have:=(rlt p c).2;omega),by omega⟩
    have KG7:=Ra (v0:=.slice XA xn xc) (v1:=.slice YA yn yc) (v2:=.int .i64 b'.source) (v3:=.int .i64 b'.cos) (v4:=.int .i64 b'.sin) (v5:=.int .i64 b'.hyp) (v6:=.slice ZA zn zc) KBc;have K07:=Q9 (g:=g) (v0:=.slice XA xn xc) (v1:=.slice YA yn yc) (v2:=.int .i64 b'.source) (v3:=.int .i64 b'.cos) (v4:=.int .i64 b'.sin) (v5:=.int .i64 b'.hyp) (v6:=.slice ZA zn zc) K0c (show w.heap.size≠g by omega)
    have RR7:=Nm (g:=g) (a1:=.slice XA xn xc) (a2:=.slice YA yn yc) (a3:=.int .i64 b'.source) (a4:=.int .i64 b'.cos) (a5:=.int .i64 b'.sin) (a6:=.int .i64 b'.hyp) (a7:=.slice ZA zn zc) RR (fun p hp=>(NR p hp).1);have O7:=Nl (g:=g) (a:=.slice XA xn xc) (b:=.slice YA yn yc) (c:=.int .i64 b'.source) (d:=.int .i64 b'.cos) (e:=.int .i64 b'.sin) (f:=.int .i64 b'.hyp) (k:=.slice ZA zn zc) (OR.below bw) (Nat.lt_succ_self g);have b7:=BH (g:=g) (a:=.slice XA xn xc) (b:=.slice YA yn yc) (c:=.int .i64 b'.source) (d:=.int .i64 b'.cos) (e:=.int .i64 b'.sin) (f:=.int .i64 b'.hyp) (h:=.slice ZA zn zc) (An br bw) Aa;clear KB K0 KBc K0c RR OR HR bA hA hB KZ hx had hb HQ
    go_upto_region 8 with fail
    generalize((((((wc.setCell ⟨g,0,none⟩ (.slice XA xn xc)).setCell ⟨g,1,none⟩ (.slice YA yn yc)).setCell ⟨g,2,none⟩ (ZI b'.source)).setCell ⟨g,3,none⟩ (ZI b'.cos)).setCell ⟨g,4,none⟩ (ZI b'.sin)).setCell ⟨g,5,none⟩ (ZI b'.hyp)).setCell ⟨g,6,none⟩ (.slice ZA zn zc)=w7 at*;clear eQ eB fB KQ bw;have ba:Below w7 w7 (w7.alloc (.cells #[.string ⟨t.toArray⟩] 9)):=BU;have O8:=O7.below ba;have RE:=Se w7 t 9;have KG8:=KG7.below ba KG7.lt;have K08:=K07.below ba K07.lt;have RR8:=RR7.below ba;have b8:=An b7 ba;have hB8:g+1≤(w7.alloc (.cells #[.string ⟨t.toArray⟩] 9)).heap.size:=KG8.lt;clear O7 KG7 K07 RR7 ba
    go_wp2_with (at_builtin;refine Aj rfl _ _ 22 rfl 9 1 16 underlying22 Ic Ah (g+1) ⟨OA,on,oc⟩ _ rfl O8 _ 1 1 (strs [t]) rfl RE (Iv t) h63 Ah hB8 ?_;intro G wg hGn HG gg hat;have HGN:=Ai hGn;clear hGn)
    have KG9:=KG8.grown gg (fun e=>by have:=(rlt _ e).1;omega)
    have K09:=K08.grown gg (fun e=>by have:=(rlt _ e).1;omega)
    have RR9:=VW RR8 gg (fun p hp=>(NR p hp).2.1);have b9:Below w w wg:=b8.grown gg b8.size (fun q e=>by have:=(rlt q e).1;omega)
    have hlo8:=LB RR8
    have SB9:fX wg w.heap.size g ⟨⟨XA,xn,xc⟩,⟨YA,yn,yc⟩,⟨ZA,zn,zc⟩⟩ b' G:=⟨KG9,RR9,fun p hp=>⟨(NR p hp).1,(fun c=>by
     rcases hat with h|⟨x,h,hx⟩
     ·rw[h] at c;exact(NR p hp).2.1 c
     ·rw[h] at c;injection c with c;have:=hlo8 p hp;omega),(NR p hp).2.2⟩⟩
    go_roundw
    case rel=>exact⟨on+1,⟨⟨XA,xn,xc⟩,⟨YA,yn,yc⟩,⟨ZA,zn,zc⟩⟩,G,by omega,by go_num,rfl,by rw[HNX.out];exact SB9,by rw[HOU.out];exact HG,HGN.out,K09,by rw[HNX.out];exact HOK.out,b9⟩
    case measure=>simp[intOf];omega
  ·obtain rfl:on=n:=Aa;have e0:=K0.cell;have f0:=K0.frozen;have eB:=KB.cell;have hltI: ¬(on:Int)<(on:Int):=Aa;rw[HTA.out] at OR eB SRD;have FR:=Nm (g:=w) (a1:=.slice DA dn dc) (a2:=.slice SA sn sc) (a3:=.int .i64 (bsAll ls AE).source) (a4:=.int .i64 (bsAll ls AE).cos) (a5:=.int .i64 (bsAll ls AE).sin) (a6:=.int .i64 (bsAll ls AE).hyp) (a7:=.slice LA ln lc) SRD (fun p hp=>by have:=(SRF p hp).2.2;omega)
   have FO:=(Nl (g:=w) (a:=.slice DA dn dc) (b:=.slice SA sn sc) (c:=.int .i64 (bsAll ls AE).source) (d:=.int .i64 (bsAll ls AE).cos) (e:=.int .i64 (bsAll ls AE).sin) (f:=.int .i64 (bsAll ls AE).hyp) (k:=.slice LA ln lc) OR Aa).rd1;have FB:=BH (g:=w) (a:=.slice DA dn dc) (b:=.slice SA sn sc) (c:=.int .i64 (bsAll ls AE).source) (d:=.int .i64 (bsAll ls AE).cos) (e:=.int .i64 (bsAll ls AE).sin) (f:=.int .i64 (bsAll ls AE).hyp) (h:=.slice LA ln lc) br Bk;have HFA:Hid (∀q,some q∈BK ⟨⟨DA,dn,dc⟩,⟨SA,sn,sc⟩,⟨LA,ln,lc⟩⟩→w<q):=fun q hq=>(SRF q hq).2.2;have HFN:Hid (on=ls.length):=HLL.out.symm;clear SR OR SRF SRD KB K0 hlo rlt HLS HTA;go_wp2;refine AS (v:=.tuple #[Bp DA dn dc SA sn sc (bsAll ls AE).source (bsAll ls AE).cos (bsAll ls AE).sin (bsAll ls AE).hyp LA ln lc,.slice OA on oc]) (by simp[results,results32,go_sem,e0,g0]) rfl ?_
   exact⟨⟨⟨DA,dn,dc⟩,⟨SA,sn,sc⟩,⟨LA,ln,lc⟩⟩,⟨OA,on,oc⟩,rfl,FR,HFA.out,HFN.out,FO,FB⟩
def ie (s:Bs) (w:World) (e:Ending) (w':World):Prop:=
 ∃H:Hd,e=.returned (.tuple (Gb H.A H.n H.c (rnC s)))∧H.n=(roL s).length∧Rd w' H.A H.n (strs (roL s))∧Below w w w'
theorem XY (s:Bs) (w:World) (hs:s.length≤100000) (A:Option Addr) (c:Nat) (R:Rd w A (lnL s).length (strs (lnL s))):
  Calls prog 32 #[.slice A (lnL s).length c] w (YK (lnL s) w):=
 Vx A (lnL s).length c (lnL s) w (by have:=JF s;rw[←WU] at this;omega) R (fun x hx=>by have:=(Qq hx).1;omega)
theorem hU (s:Bs) (w:World) (hs:s.length≤1048576):
  Calls prog 7 #[.string ⟨s.toArray⟩] w (ie s w):=by
 have HF:=fun V=>TM s V hs;have HL:=fun V=>Kj s V hs;rcases BA (fitB s) with hf|hf
 ·have h4:s.length≤4000:=by
   unfold fitB at hf;rw[CD,BP] at hf;exact hf.1
  have HR:Hid (roL s=bsOuts (lnL s) AE∧rnC s=0):=⟨AA hf,AA hf⟩;have HA:=fun(V:World) (A:Option Addr) (c:Nat) (R:Rd V A (lnL s).length (strs (lnL s)))=>XY s V Aa A c R;have HB:Hid ((bsOuts (lnL s) AE).length=(lnL s).length):=NH _ _;rw[hf] at HF;unfold YK At at HA;unfold ie;generalize bsAll (lnL s) AE=b at*;generalize bsOuts (lnL s) AE=us at*;generalize lnL s=ls at*;clear hf
  go_enter func7,ntmps7
  go_wp2_with (first
   |(go_at_call 31;refine(HF _).mono ?_;rintro e w1 ⟨rfl,b1⟩)
   |(go_at_call 33;refine(HL _).mono ?_;rintro e w2 ⟨A,c,rfl,R2,b2⟩)
   |(go_at_call 32;refine(HA _ _ _ R2).mono ?_;rintro e w3 ⟨⟨⟨DA,dn,dc⟩,⟨SA,sn,sc⟩,⟨LA,ln,lc⟩⟩,⟨OA,on,oc⟩,rfl,-,-,hon,RO,b3⟩;have HON:Hid (on=ls.length):=hon;clear hon))
  have ba:Below w3 w3 (w3.alloc (.cells (Ad DA dn dc SA sn sc b LA ln lc) 35)):=BU;have RO4:=RO.below ba;have b4:=b1.trans ((b2.trans ((An b3 ba).mono b2.size)).mono b1.size);refine AS (v:=.tuple (Gb OA on oc 0)) (by simp[results,results7,go_sem]) rfl ?_
  exact⟨⟨OA,on,oc⟩,by rw[HR.out.2],by rw[HR.out.1,HB.out];exact HON.out,by rw[HR.out.1];exact RO4,b4⟩
 ·have hf': ¬fitB s=true:=by rw[hf];decide
  have HR:Hid (roL s= []∧rnC s=3):=⟨Ak hf',Ak hf'⟩;rw[hf] at HF;clear hf hf'
  go_enter func7,ntmps7
  go_wp2_with (go_at_call 31;refine(HF _).mono ?_;rintro e w1 ⟨rfl,b1⟩)
  refine AS (v:=.tuple (Gb none 0 0 3)) (by simp[results,results7,go_sem]) rfl ?_
  exact⟨⟨none,0,0⟩,by rw[HR.out.2],by rw[HR.out.1];rfl,by rw[HR.out.1];exact Rd.nil _ _,b1⟩
theorem hZ (l:Bs) (w:World) (hs:l.length≤9223372036854775807) (T:Dq w):
  (BT 3 #[.string ⟨l.toArray⟩] w (.bool true):Prop):=by
 have hz:=Bj l
 by_cases h:(1048576:Int)<(l.length:Int)
 ·go_enter func3,ntmps3
  go_wp2_with fail
  go_ret;exact⟨rfl,AP _ _⟩
 have HS:=fun W=>hU l W Aa;have HI:=fun(W:World) (T:Dq W)=>hP l W Aa T;have hlen:=gW l;unfold ie at HS;unfold ii at HI;generalize roL l=us at HS HI hlen;generalize rnC l=cd at HS HI
 go_enter func3,ntmps3
 go_wp2_with fail
 refine(HS _).mono ?_;rintro e w1 ⟨⟨A0,a0,c0⟩,rfl,hn0,R0,b1⟩;simp only at hn0 R0;have HN:=Ai hn0;have ha0:a0≤80:=Aa;clear hn0 hlen;have X0:Ag w1 [⟨A0,a0,strs us⟩]:=Ag.cons R0 (Ag.nil _);have lo0:=X0.lo;clear X0
 go_wp2_with fail
 refine(HI _ (T.below b1)).mono ?_;rintro e w2 ⟨⟨A1,a1,c1⟩,rfl,hn1,R1,W1,b2⟩;simp only at hn1 R1 W1;obtain rfl:a0=a1:=HN.out.trans hn1.symm;have hi1:Hi [blkp A1 a0] w1.heap.size:=(AB.cons (s:=⟨A1,a0,strs us⟩) W1 (AB.nil _ _)).hi;have hbz:=b1.size;have hB:=b2.size;clear hn1;replace R0:=R0.below b2;replace b2:=Jk b1 b2;clear b1
 go_wp2_with fail
 refine(gY A1 A0 a0 c1 c0 us _ Aa R1 R0).mono ?_;rintro e w3 ⟨rfl,b3⟩;replace R0:=R0.below b3;replace W1:=W1.below R1 b3;replace R1:=R1.below b3;replace hB:=Ch hB b3.size;replace b3:=Jk b2 b3;clear b2
 have HM:Calls prog 10 (Gb A1 a0 c1 1) w3 fun e w'=>e=.returned (ZI (1+(a0:Int)))∧A9 w3 w' [blkp A1 a0]∧Rd w' A1 a0 (strs (markL 1 a0))∧Wr w' w1.heap.size A1 a0:=
  ia A1 a0 c1 (strs us) 1 w1.heap.size w3 Aa Ah Ah R1 W1 hB
 have HH: ∀W,Rd W A1 a0 (strs (markL 1 a0))→Calls prog 11 (Gb A1 a0 c1 1) W fun e w'=>e=.returned (ZI (1+(a0:Int)))∧Below W W w':=fun W R=>
  hO A1 a0 c1 1 W Aa Ah Ah R
 go_wp2_with fail
 refine HM.mono ?_;rintro e w4 ⟨rfl,t,R2,-⟩;have o0:H7 [blkp A1 a0] [blkp A0 a0]:=H7.up lo0 hi1;replace R0:=R0.touch t o0;have b4:=U2 b3 t Bk (hi1.mono hbz);clear b3 t o0 hi1 lo0 HM R1 W1 hB hbz
 go_wp2_with fail
 refine(HH _ R2).mono ?_;rintro e w5 ⟨rfl,b5⟩;replace R0:=R0.below b5;replace R2:=R2.below b5;replace b5:=Jk b4 b5;clear b4
 go_wp2_with fail
 refine(HI _ (T.below b5)).mono ?_;rintro e w6 ⟨⟨A5,a5,c5⟩,rfl,hn5,R5,-,b6⟩;simp only at hn5 R5;obtain rfl:a0=a5:=HN.out.trans hn5.symm;clear hn5 HN;replace R0:=R0.below b6;replace R2:=R2.below b6;replace b6:=Jk b5 b6;clear b5
 go_wp2_with fail
 refine(gY A5 A0 a0 c5 c0 us _ Aa R5 R0).mono ?_;rintro e w7 ⟨rfl,b7⟩;replace R2:=R2.below b7;replace b7:=Jk b6 b7;clear b6 R0 R5
 go_wp2_with fail
 refine(HH _ R2).mono ?_;rintro e w8 ⟨rfl,b8⟩;replace b8:=Jk b7 b8;clear b7;go_wp2;go_ret;exact⟨rfl,b8⟩
theorem gX (w:World) (s:ByteArray) (hs:s.size≤maxLen) (T:Dq w):
  (BT 3 #[.string s] w (.bool true):Prop):=by
 have h:=hZ s.data.toList w (by unfold maxLen at hs;simpa using hs) T
 rw[Sa] at h;exact h
end Go.Proofs.YtkndcebhjcfphaaGreatDoor
