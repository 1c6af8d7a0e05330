import Derived.Test.YtkndcebhjcfphaaGreatDoorZAc
import Derived.Test.YtkndcebhjcfphaaGreatDoorZAj
namespace Go.Proofs.YtkndcebhjcfphaaGreatDoor
open Go.RowKit Go.Proofs.Tryz
set_option maxRecDepth 100000
set_option maxHeartbeats 4000000
set_option linter.all false
theorem Hr {g:Nat} {D S L:Hd} {b:Ae} {w:World} (K:Bz w g D S L b) (ok:D9 b): ∀(W:World),Below w w W→
  Calls prog 185 #[.slice L.A L.n L.c] W fun e w'=> ∃(h:Hd) (v:Int),e=.returned (.tuple (FK h.A h.n h.c v (sdC b)))∧h.n=sdN b∧h.n≤h.c∧Rd w' h.A (h.n*4) (ints (sdL b))∧Below W W w':=fun W bb=>by
 have hl:b.log.length=L.n*7:=by have:=K.l.len;unfold ints at this;simpa using this
 have hN:b.log.length/7=L.n:=Aa;have h200:=ok.n;refine(N7 L.A L.n L.c b.log W Aa K.l.nc (K.l.rd.below bb)).mono ?_;rintro e w' ⟨h,rfl,hk,hc,R,-,b1⟩;refine⟨h,YH b.log L.n,?_,?_,hc,?_,b1⟩
 ·unfold sdC Ro;rw[hN]
 ·have:=R.len;have e:sdL b=UR b.log L.n:=by unfold sdL V7;rw[hN]
  rw[←e,(Ld ok).1] at this;omega
 ·have e:sdL b=UR b.log L.n:=by unfold sdL V7;rw[hN]
  rw[e];exact R
theorem WP {w:World} {A:Option Addr} {n k:Nat} {xs:List Int} (h:Rd w A (n*4) (ints xs)) (hk:k<n): ∃ad,A=some ad∧Rd w (some (ad.add (k*4))) (1*4) (ints (Fw xs k)):=by
 obtain⟨ad,rfl,-⟩:=h.int (k:=k*4) Aa;refine⟨ad,rfl,by simp[ints,Fw],fun _=>⟨_,rfl,fun i hi=> ?_⟩⟩
 have e:(ad.add (k*4)).add i=ad.add (k*4+i):=by
  rcases Nat.eq_zero_or_pos i with rfl|hi0
  ·rw[Gu];rfl
  ·rw[Hf _ i Aa,Hf _ (k*4+i) Aa];unfold Addr.add
   split<;>simp_all [Nat.add_assoc]
 rw[e];obtain⟨ad',h1,h2⟩:=h.int (k:=k*4+i) Aa
 cases h1
 rw[h2];obtain rfl|rfl|rfl|rfl:i=0∨i=1∨i=2∨i=3:=Aa
 all_goals rfl
theorem Qm {xs:List Int} {n k:Nat} (h:BJ xs n=true) (hk:k<n):BJ (Fw xs k) 1=true:=by
 unfold BJ at h⊢;rw[CD] at h;have:=IC h.1 hk;unfold Fk at this;unfold Dg;simp only[I6,List.range_zero,List.nil_append,List.all_cons,List.all_nil,Bool.and_true];unfold Fk Fw;simp only[Nat.zero_mul,Nat.zero_add,List.getD_cons_zero,List.getD_cons_succ];rw[this]
 rfl
theorem Su (g:Nat) (D S L:Hd) (b:Ae) (w:World) (K:Bz w g D S L b) (ok:D9 b) (T:CK w):
  Calls prog 142 #[.pointer (some ⟨g,0,none⟩)] w (CU (shT b) w):=by
 have HRL:=Hr K ok w E9;obtain⟨hlen,h200,hv⟩:=Ld ok;have hcb:=L3 b;have HT:Hid (shT b=if sdC b=0 then(if sdN b=0 then erT 4 else joinI [32] (Fw (sdL b) (shlTo (sdL b) (sdN b)))) else erT (sdC b)):=rfl;have HF:=fun(c:Int) (h0:0≤c) (h1:c≤1000) (V:World) (bb:Below w w V)=>Cx c V h0 h1 (T.below bb);unfold CU;generalize shT b=R at*;generalize sdC b=cd at*;generalize sdL b=xs at*;generalize sdN b=m at*;have KB:=K.blk;have hb:=KB.cell;clear K ok
 go_enter func142,ntmps142
 go_upto_region 2 with(go_at_call 185;refine HRL.mono ?_;rintro e w1 ⟨⟨kA,kn,kc⟩,v,rfl,hkm,hkc,R1,b1⟩)
 clear HRL hb KB
 (try simp only at hkm hkc R1)
 subst hkm;have T1:=T.below b1
 by_cases h:cd=0
 ·subst h;rw[AA rfl] at HT
  by_cases h0:kn=0
  ·subst h0;have HS:=FL kA 0 kc xs w1 hv R1;rw[show dH xs 0=.tuple (Zii 0 4) from rfl] at HS;have HR:Hid (R=erT 4):=HT.out.trans (AA rfl);have HF4:=HF 4 Ah Ah;generalize erT 4=E at*;clear HT HF
   go_wp2_with (first|(go_at_call 186;refine HS.mono ?_;rintro e w2 ⟨rfl,b2⟩)|(go_at_call 100;refine(HF4 _ (An b1 b2)).mono ?_;rintro e w3 ⟨rfl,b3⟩))
   go_ret;rw[HR.out];exact⟨rfl,b1.trans ((An b2 b3).mono b1.size)⟩
  ·have HS:=FL kA kn kc xs w1 hv R1;rw[show dH xs kn=.tuple (Zii (shlTo xs kn:Int) 0) from Ak h0] at HS;have hi:=Lf xs (show 0<kn by omega) kn Bk
   have HR:Hid (R=joinI [32] (Fw xs (shlTo xs kn))):=HT.out.trans (Ak h0);obtain⟨ad,rfl,RI⟩:=WP R1 hi;have HX:=fun(c:Nat) (V:World) (bb:Below w1 w1 V)=>LP (some (ad.add (shlTo xs kn*4))) c (Fw xs (shlTo xs kn)) V (RI.below bb) (Qm hv hi) (T1.below bb);generalize joinI [32] (Fw xs (shlTo xs kn))=J at*;generalize shlTo xs kn=i at*;clear HT HF RI R1 hv h0
   go_wp2_with (go_at_call 186;refine HS.mono ?_;rintro e w2 ⟨rfl,b2⟩)
   refine(HX _ _ b2).mono ?_;rintro e w3 ⟨rfl,b3⟩;go_wp2;go_ret;rw[HR.out];exact⟨rfl,b1.trans ((An b2 b3).mono b1.size)⟩
 ·have HR:Hid (R=erT cd):=HT.out.trans (Ak h);have hc2:(cd !=0)=true:=by rw[bne_iff_ne];exact h
  have HFc:=HF cd hcb.1 hcb.2;generalize erT cd=E at*;clear HT HF h hcb
  go_wp2_with (go_at_call 100;refine(HFc _ b1).mono ?_;rintro e w2 ⟨rfl,b2⟩)
  go_ret;rw[HR.out];exact⟨rfl,(An b1 b2)⟩
theorem SZ (s:Bs) (A:Option Addr) (c:Nat) (g:Nat) (D S L:Hd) (b:Ae) (w:World) (K:Bz w g D S L b) (ok:D9 b) (hr:Rd w A 3 (ints (Co s))) (T:CK w):
  Calls prog 143 #[.pointer (some ⟨g,0,none⟩),.slice A 3 c] w (CU (clT b s) w):=by
 have HRL:=Hr K ok w E9;obtain⟨hlen,h200,hv⟩:=Ld ok;have hcb:=L3 b;have hcc:0≤ccC b s∧ccC b s≤1000:=Zg _ _ _ _ _;have HT:Hid (clT b s=if sdC b=0 then cdT (Lib.itoa ((Y4 b s).length:Int)++ [47]++Lib.itoa (sdN b:Int)) (ccC b s) else erT (sdC b)):=rfl;have HF:=fun(V:World) (bb:Below w w V)=>Cx (sdC b) V hcb.1 hcb.2 (T.below bb);have HCL: ∀(kA:Option Addr) (kc:Nat) (V:World),Rd V kA (sdN b*4) (ints (sdL b))→Calls prog 188 #[.slice kA (sdN b) kc,Ziii (cmI s 0) (cmI s 1) (cmI s 2)] V fun e w'=> ∃(h:Hd) (v:Int),e=.returned (.tuple (FK h.A h.n h.c v (ccC b s)))∧h.n=(Y4 b s).length∧Below V V w':=fun kA kc V R=>PJ (cmI s 0) (cmI s 1) (cmI s 2) kA (sdN b) kc (sdL b) V Aa R
 have hck:(Y4 b s).length≤sdN b:=by
  unfold Y4 fk
  split
  ·have:=M8 (sdL b) (cmI s 0) (cmI s 1) (cmI s 2) (List.range (sdN b));rw[List.length_range] at this;exact this
  ·exact AZ _
 obtain⟨ad,rfl⟩: ∃ad,A=some ad:=by obtain⟨ad,h,_⟩:=hr.int (k:=0) Ah;exact⟨ad,h⟩
 have hc0:w.cell? ad=some (.int .i64 (cmI s 0)):=Pn hr Ah;have hc1:w.cell? ⟨ad.block,ad.off+1,none⟩=some (.int .i64 (cmI s 1)):=GV hr Ah Ah;have hc2:w.cell? ⟨ad.block,ad.off+2,none⟩=some (.int .i64 (cmI s 2)):=GV hr Ah Ah;unfold CU;generalize clT b s=R at*;generalize sdC b=cd at*;generalize sdL b=xs at*;generalize ccC b s=cc at*;generalize(Y4 b s).length=m at*;generalize sdN b=kn at*;generalize cmI s 0=x0 at*;generalize cmI s 1=x1 at*;generalize cmI s 2=x2 at*;have had:=Gr w ad hc0;have KB:=K.blk;have hb:=KB.cell;clear K ok hr
 go_enter func143,ntmps143
 go_upto_region 2 with(go_at_call 185;refine HRL.mono ?_;rintro e w1 ⟨⟨kA,kn',kc⟩,v,rfl,hkm,hkc,R1,b1⟩)
 clear HRL hb KB
 (try simp only at hkm hkc R1)
 subst hkm;have T1:=T.below b1
 by_cases h:cd=0
 ·subst h;have HR:Hid (R=cdT (Lib.itoa (m:Int)++ [47]++Lib.itoa (kn':Int)) cc):=HT.out.trans (AA rfl);replace hc0:=Cg b1 hc0 had;replace hc1:=Cg b1 hc1 had;replace hc2:=Cg b1 hc2 had;replace had:=CM had b1.size;have hA:=HCL kA kc w1.drew R1;have l1:=Bm (m:Int) Aa Aa;have l2:=Bm (kn':Int) Aa Aa;clear HT HF HCL
  go_upto_region 4 with fail
  go_region_held3 (fun w'=>w'.cell? ad=some (.int .i64 x0)∧w'.cell? ⟨ad.block,ad.off+1,none⟩=some (.int .i64 x1)∧w'.cell? ⟨ad.block,ad.off+2,none⟩=some (.int .i64 x2))
   (exact Cs)
   (first
    |(go_at_call 188;(with_reducible refine hA.mono ?_);rintro e u ⟨⟨hA',hn',hc'⟩,v2,rfl,hkk,b4⟩;have bu:Below w1 w1 u:=EE (m:=1) b4;have hd0:=Cg bu hc0 had;have hd1:=Cg bu hc1 had;have hd2:=(JX bu (p:=⟨ad.block,ad.off+2,none⟩) had).trans hc2))
  (try simp only at hkk)
  subst hkk;have Tu:=T1.below bu;have hL1:=fun V=>Ok hA' hn' hc' V Aa;have hL2:=fun V=>Ok kA kn' kc V Aa;have D1:=fun(V:World) (bb:Below u u V)=>BY (hn':Int) V Aa Aa (Tu.below bb);have D2:=fun(V:World) (bb:Below u u V)=>BY (kn':Int) V Aa Aa (Tu.below bb);have HU:=fun(V:World) (bb:Below u u V)=>Ep (Lib.itoa (hn':Int)++ [47]++Lib.itoa (kn':Int)) cc V hcc.1 hcc.2 (Tu.below bb);generalize hRR:cdT (Lib.itoa (hn':Int)++ [47]++Lib.itoa (kn':Int)) cc=RR at*;clear hRR;generalize Lib.itoa (hn':Int)=I1 at*;generalize Lib.itoa (kn':Int)=I2 at*;obtain⟨S1,hS1⟩: ∃S1,I1++ [47]=S1:=⟨_,rfl⟩;obtain⟨S2,hS2⟩: ∃S2,S1++I2=S2:=⟨_,rfl⟩;rw[hS1,hS2] at HU;have k1:S1.length=I1.length+1:=by rw[←hS1,Dy];rfl
  have p1: ¬9223372036854775807<I1.length+1:=Aa;have p2: ¬9223372036854775807<S1.length+I2.length:=Aa;have s1:((⟨I1.toArray⟩:ByteArray)++⟨#[47]⟩)=⟨S1.toArray⟩:=by rw[←hS1];exact AY I1 [47]
  have s2:((⟨S1.toArray⟩:ByteArray)++⟨I2.toArray⟩)=⟨S2.toArray⟩:=by rw[←hS2];exact AY S1 I2
  clear hS1 hS2 k1 l1 l2 hck T T1 hlen h200 hv hA R1 hc0 hc1 hc2 hd0 hd1 hd2 had
  go_wp2_with (first
   |(go_at_call 189;(first|(with_reducible refine(hL1 _).mono ?_)|(with_reducible refine(hL2 _).mono ?_));rintro e w' ⟨rfl,rfl⟩)
   |(go_at_call 134;(fail_if_success (clear b5));(with_reducible refine(D1 _ E9).mono ?_);rintro e w2 ⟨rfl,b5⟩)
   |(go_at_call 134;(with_reducible refine(D2 _ b5).mono ?_);rintro e w3 ⟨rfl,b6⟩;have b7:=(An b5 b6))
   |(go_at_call 146;(with_reducible refine(HU _ b7).mono ?_);rintro e w4 ⟨rfl,b8⟩))
  go_ret;rw[HR.out];exact⟨rfl,b1.trans ((bu.trans ((An b7 b8).mono bu.size)).mono b1.size)⟩
 ·have HR:Hid (R=erT cd):=HT.out.trans (Ak h);have hc2':(cd !=0)=true:=by rw[bne_iff_ne];exact h
  generalize erT cd=E at*;clear HT h hcb
  go_wp2_with (go_at_call 100;refine(HF _ b1).mono ?_;rintro e w2 ⟨rfl,b2⟩)
  go_ret;rw[HR.out];exact⟨rfl,(An b1 b2)⟩
end Go.Proofs.YtkndcebhjcfphaaGreatDoor
