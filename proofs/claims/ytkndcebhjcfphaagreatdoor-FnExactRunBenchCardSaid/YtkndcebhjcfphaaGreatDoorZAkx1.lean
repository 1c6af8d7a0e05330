import Derived.Test.YtkndcebhjcfphaaGreatDoorZAk
namespace Go.Proofs.YtkndcebhjcfphaaGreatDoor
open Go.RowKit Go.Proofs.Tryz
set_option maxRecDepth 100000
set_option maxHeartbeats 4000000
set_option linter.all false
theorem Qu {w:World} {l:List Sl} {g B:Nat} {a b c d e:Value} (h:Ag w l) (hw:AB w B l) (hB:g<B):Ag (((((w.setCell ⟨g,0,none⟩ a).setCell ⟨g,1,none⟩ b).setCell ⟨g,2,none⟩ c).setCell ⟨g,3,none⟩ d).setCell ⟨g,4,none⟩ e) l:=by
 have hne: ∀s∈l.map Sl.row,s≠some g:=fun s hs c=>by have:=hw.hi s hs g c;omega
 exact(((((h.cell_ hne).cell_ hne).cell_ hne).cell_ hne).cell_ hne)
theorem To (s:Bs) (A:Option Addr) (c:Nat) (g:Nat) (D S L:Hd) (b:Ae) (w:World) (K:Bz w g D S L b) (ok:D9 b) (hr:Rd w A 3 (ints (Co s))) (T:CK w):
  Calls prog 144 #[.pointer (some ⟨g,0,none⟩),.slice A 3 c] w (CU (grT b s) w):=by
 have HRL:=Hr K ok w E9;obtain⟨hlen,h200,hv⟩:=Ld ok;have hcb:=L3 b;have hgb:0≤ggC b s∧ggC b s≤1000:=Zx _ _ _ _ _;have hmb:=ZQ (ggR b s);have hmd:=fun(h:ggC b s=0)=>dT (dN ok h);have HT:Hid (grT b s=if sdC b=0 then(if ggC b s=0 then cdT (ivT (mdL (ggR b s)) (mdH (ggR b s))) (mdC (ggR b s)) else erT (ggC b s)) else erT (sdC b)):=rfl;have HF:=fun(V:World) (bb:Below w w V)=>Cx (sdC b) V hcb.1 hcb.2 (T.below bb);have HF2:=fun(V:World) (bb:Below w w V)=>Cx (ggC b s) V hgb.1 hgb.2 (T.below bb);have HG: ∀(kA:Option Addr) (kc:Nat) (V:World),Rd V kA (sdN b*4) (ints (sdL b))→Calls prog 190 #[ZI (cmI s 0),ZI (cmI s 1),ZI (cmI s 2),.slice kA (sdN b) kc] V (GZ (ggR b s) (ggC b s) V):=fun kA kc V R=>PL (cmI s 0) (cmI s 1) (cmI s 2) kA (sdN b) kc (sdL b) V Aa R;have HM:=fun(k:Bh) (V:World) (o:Cl k) (R:Ag V (AO k (ggR b s)))=>Kc k (ggR b s) V o R;unfold GZ Bd at HG;unfold Bd at HM;obtain⟨ad,rfl⟩: ∃ad,A=some ad:=by obtain⟨ad,h,_⟩:=hr.int (k:=0) Ah;exact⟨ad,h⟩
 have hc0:w.cell? ad=some (.int .i64 (cmI s 0)):=Pn hr Ah;have hc1:w.cell? ⟨ad.block,ad.off+1,none⟩=some (.int .i64 (cmI s 1)):=GV hr Ah Ah;have hc2:w.cell? ⟨ad.block,ad.off+2,none⟩=some (.int .i64 (cmI s 2)):=GV hr Ah Ah;unfold CU;generalize grT b s=R at*;generalize sdC b=cd at*;generalize sdL b=xs at*;generalize ggC b s=gc at*;generalize ggR b s=gr at*;generalize sdN b=kn at*;generalize cmI s 0=x0 at*;generalize cmI s 1=x1 at*;generalize cmI s 2=x2 at*;have had:=Gr w ad hc0;have KB:=K.blk;have hb:=KB.cell;clear K ok hr
 go_enter func144,ntmps144
 go_upto_region 2 with(go_at_call 185;refine HRL.mono ?_;rintro e w1 ⟨⟨kA,kn',kc⟩,v,rfl,hkm,hkc,R1,b1⟩)
 clear HRL hb KB
 (try simp only at hkm hkc R1)
 subst hkm;have T1:=T.below b1
 by_cases h:cd=0
 ·subst h;have HR:=Ai (HT.out.trans (AA rfl));have HF2':=fun(V:World) (bb:Below w1 w1 V)=>HF2 V (An b1 bb);replace hc0:=Cg b1 hc0 had;replace hc1:=Cg b1 hc1 had;replace hc2:=Cg b1 hc2 had;replace had:=CM had b1.size;have HG1:=fun(V:World) (bb:Below w1 w1 V)=>HG kA kc V (R1.below bb);clear HT HF HF2 HG R1
  go_upto_region 4 with fail
  have bA:Below w1 w1 (w1.alloc (.cells Fa 181)):=BU;have hA:=HG1 w1.drew GJ;have hB:=HG1 (w1.alloc (.cells Fa 181)).drew (CO bA);have KZ:=Blk.drew (Br w1 181 Fa)
  go_cut [7,8] (fun v7 v8 wx=> ∃(q:Nat) (XA:Option Addr) (xn xc:Nat) (YA:Option Addr) (yn yc:Nat),v7=.int .i64 gc∧v8=.pointer (some ⟨q,0,none⟩)∧Blk wx q 181 (AH gr.size gr.wide gr.high XA xn xc YA yn yc)∧Cl ⟨⟨XA,xn,xc⟩,⟨YA,yn,yc⟩⟩∧Ag wx (AO ⟨⟨XA,xn,xc⟩,⟨YA,yn,yc⟩⟩ gr)∧Below w1 w1 wx)
  case first=>
   go_region_held3 (fun w'=>w'.cell? ad=some (.int .i64 x0)∧w'.cell? ⟨ad.block,ad.off+1,none⟩=some (.int .i64 x1)∧w'.cell? ⟨ad.block,ad.off+2,none⟩=some (.int .i64 x2))
    (exact Cs)
    (first
     |(go_at_call 190;(with_reducible refine hA.mono ?_);rintro e u ⟨⟨⟨XA,xn,xc⟩,⟨YA,yn,yc⟩⟩,rfl,okk,RG,WG,-,b4⟩;have bu:Below w1 w1 u:=EE (m:=1) b4;have z0:=Cg bu hc0 had;have y0:=CM had bu.size;have z1:=Cg bu hc1 had;have y1:=CM had bu.size;have z2:=Cg bu hc2 had;have y2:=CM had bu.size;have KU:=Br u 181 (AH gr.size gr.wide gr.high XA xn xc YA yn yc);have bU:Below w1 w1 (u.alloc (.cells (AH gr.size gr.wide gr.high XA xn xc YA yn yc) 181)):=bu.trans (((AP _ _).alloc Bk _).mono bu.size))
     |(go_at_call 190;(with_reducible refine hB.mono ?_);rintro e u ⟨⟨⟨XA,xn,xc⟩,⟨YA,yn,yc⟩⟩,rfl,okk,RG,WG,-,b4⟩;have bu:Below w1 w1 u:=(CO bA).trans (b4.mono bA.size);have z0:=Cg bu hc0 had;have y0:=CM had bu.size;have z1:=Cg bu hc1 had;have y1:=CM had bu.size;have z2:=Cg bu hc2 had;have y2:=CM had bu.size;have KU:=KZ.below b4 KZ.lt;have fU:=KU.frozen;have cU:=KU.cell;have hgu:=KU.lt))
   all_goals
    go_wp2_with fail
    go_meet
    first
     |exact⟨u.heap.size,XA,xn,xc,YA,yn,yc,rfl,rfl,KU,okk,RG.below BU,bU⟩
     |exact⟨w1.heap.size,XA,xn,xc,YA,yn,yc,rfl,rfl,(((((KU.set_ 0 _).set_ 1 _).set_ 2 _).set_ 3 _).set_ 4 _),okk,Qu RG WG Cr,(((((bu.setCell (p:=⟨w1,0,none⟩) Bk _).setCell (p:=⟨w1,1,none⟩) Bk _).setCell (p:=⟨w1,2,none⟩) Bk _).setCell (p:=⟨w1,3,none⟩) Bk _).setCell (p:=⟨w1,4,none⟩) Bk _)⟩
  case rest=>
   obtain⟨q,XA,xn,xc,YA,yn,yc,rfl,rfl,KQ,okk,RG,bw⟩:=hcut;obtain⟨w5,rfl⟩: ∃x:World,x=wc:=⟨_,rfl⟩;have T5:=T1.below bw;have eq:=KQ.cell;have HF5:=HF2' w5 bw;clear HG1 HF2' bA hA hB KZ hc0 hc1 hc2 had
   by_cases h2:gc=0
   ·subst h2;have HR2:Hid (R=cdT (ivT (mdL gr) (mdH gr)) (mdC gr)):=HR.out.trans (AA rfl);obtain⟨hm1,hm2⟩:=hmd rfl;have HM5:=HM ⟨⟨XA,xn,xc⟩,⟨YA,yn,yc⟩⟩ w5 okk RG;simp only at HM5;have HI:=fun(V:World) (bb:Below w5 w5 V)=>Ob (mdL gr) (mdH gr) V hm1.1 hm1.2 hm2.1 hm2.2 (T5.below bb);have HU:=fun(V:World) (bb:Below w5 w5 V)=>Ep (ivT (mdL gr) (mdH gr)) (mdC gr) V hmb.1 hmb.2 (T5.below bb);generalize cdT (ivT (mdL gr) (mdH gr)) (mdC gr)=RR at*;generalize ivT (mdL gr) (mdH gr)=I at*;generalize mdL gr=x at*;generalize mdH gr=y at*;generalize mdC gr=z at*;clear HR HM HF5 hmd hm1 hm2 hmb okk RG
    go_upto_region 8 with(go_at_call 191;refine HM5.mono ?_;rintro e w6 ⟨rfl,b6⟩)
    have al:Below w6 w6 (w6.alloc (.cells (Zii x y) 136)):=BU;have X:=Br w6 136 (Zii x y);have b7:=An b6 al;clear al eq KQ HM5;generalize w6.alloc _=w7 at X b7⊢;generalize w6.heap.size=q6 at X⊢;have eX:=X.cell
    go_wp2_with (first|(go_at_call 183;refine(HI _ b7).mono ?_;rintro e w8 ⟨rfl,b8⟩;have b9:=(An b7 b8))|(go_at_call 146;refine(HU _ b9).mono ?_;rintro e w9 ⟨rfl,b10⟩))
    go_ret;rw[HR2.out];exact⟨rfl,b1.trans ((bw.trans ((An b9 b10).mono bw.size)).mono b1.size)⟩
   ·have HR2:Hid (R=erT gc):=HR.out.trans (Ak h2);have hc2':(gc !=0)=true:=by rw[bne_iff_ne];exact h2
    generalize erT gc=E at*;clear HR HM hmd h2 hgb
    go_wp2_with (go_at_call 100;refine HF5.mono ?_;rintro e w6 ⟨rfl,b6⟩)
    go_ret;rw[HR2.out];exact⟨rfl,b1.trans ((An bw b6).mono b1.size)⟩
 ·have HR:Hid (R=erT cd):=HT.out.trans (Ak h);have hc2':(cd !=0)=true:=by rw[bne_iff_ne];exact h
  generalize erT cd=E at*;clear HT h hcb
  go_wp2_with (go_at_call 100;refine(HF _ b1).mono ?_;rintro e w2 ⟨rfl,b2⟩)
  go_ret;rw[HR.out];exact⟨rfl,(An b1 b2)⟩
theorem ZK (A:Option Addr) (n c:Nat) (w:World) (_:n≤9223372036854775807):
  (GK 149 #[.slice A n c] w (ZI n):Prop):=by
 go_enter func149,ntmps149
 go_wp2;go_ret;exact⟨rfl,rfl⟩
theorem dR {w:World} {g:Nat} {D S L:Hd} {b:Ae} (K:Bz w g D S L b):L.n=lgN b:=by
 have hl:b.log.length=L.n*7:=by have:=K.l.len;unfold ints at this;simpa using this
 unfold lgN;omega
theorem Xw (s:Bs) (A:Option Addr) (n c:Nat) (g:Nat) (D S L:Hd) (b:Ae) (w:World) (K:Bz w g D S L b) (ok:D9 b) (hn:n=1) (hr:Rd w A n (ints (Co s))) (T:CK w):
  Calls prog 104 #[.pointer (some ⟨g,0,none⟩),.string ⟨#[116,114,97,99,101]⟩,.slice A n c] w (CU (trT b (cmI s 0)) w):=by
 subst hn;have H:=Wq (cmI s 0) g D S L b w K ok T;obtain⟨ad,rfl⟩: ∃ad,A=some ad:=by obtain⟨ad,h,_⟩:=hr.int (k:=0) Ah;exact⟨ad,h⟩
 have hc0:w.cell? ad=some (.int .i64 (cmI s 0)):=Pn hr Ah;unfold CU at*;generalize trT b (cmI s 0)=R at*;generalize cmI s 0=x0 at*;clear K ok hr T
 go_enter func104,ntmps104
 go_wp2_with (go_at_call 140;refine H.mono ?_;rintro e w1 ⟨rfl,b9⟩)
 go_ret;exact⟨rfl,b9⟩
theorem YX (s:Bs) (A:Option Addr) (n c:Nat) (g:Nat) (D S L:Hd) (b:Ae) (w:World) (K:Bz w g D S L b) (ok:D9 b) (hn:n=6) (hr:Rd w A n (ints (Co s))) (T:CK w):
  Calls prog 104 #[.pointer (some ⟨g,0,none⟩),.string ⟨#[109,101,101,116]⟩,.slice A n c] w (CU (meT b s) w):=by
 subst hn;have H:=cG s A c g D S L b w K ok hr T;unfold CU at*;generalize meT b s=R at*;clear K ok hr T
 go_enter func104,ntmps104
 go_wp2_with (go_at_call 141;refine H.mono ?_;rintro e w1 ⟨rfl,b9⟩)
 go_ret;exact⟨rfl,b9⟩
theorem Xv (s:Bs) (A:Option Addr) (n c:Nat) (g:Nat) (D S L:Hd) (b:Ae) (w:World) (K:Bz w g D S L b) (ok:D9 b) (hn:n=3) (hr:Rd w A n (ints (Co s))) (T:CK w):
  Calls prog 104 #[.pointer (some ⟨g,0,none⟩),.string ⟨#[99,108,101,97,110]⟩,.slice A n c] w (CU (clT b s) w):=by
 subst hn;have H:=SZ s A c g D S L b w K ok hr T;unfold CU at*;generalize clT b s=R at*;clear K ok hr T
 go_enter func104,ntmps104
 go_wp2_with (go_at_call 143;refine H.mono ?_;rintro e w1 ⟨rfl,b9⟩)
 go_ret;exact⟨rfl,b9⟩
theorem YW (s:Bs) (A:Option Addr) (n c:Nat) (g:Nat) (D S L:Hd) (b:Ae) (w:World) (K:Bz w g D S L b) (ok:D9 b) (hn:n=3) (hr:Rd w A n (ints (Co s))) (T:CK w):
  Calls prog 104 #[.pointer (some ⟨g,0,none⟩),.string ⟨#[103,114,105,100]⟩,.slice A n c] w (CU (grT b s) w):=by
 subst hn;have H:=To s A c g D S L b w K ok hr T;unfold CU at*;generalize grT b s=R at*;clear K ok hr T
 go_enter func104,ntmps104
 go_wp2_with (go_at_call 144;refine H.mono ?_;rintro e w1 ⟨rfl,b9⟩)
 go_ret;exact⟨rfl,b9⟩
theorem Q2 (s:Bs) (A:Option Addr) (n c:Nat) (g:Nat) (D S L:Hd) (b:Ae) (w:World) (K:Bz w g D S L b) (ok:D9 b) (hn:n=0) (hr:Rd w A n (ints (Co s))) (T:CK w):
  Calls prog 104 #[.pointer (some ⟨g,0,none⟩),.string ⟨#[115,104,111,97,108,101,115,116]⟩,.slice A n c] w (CU (shT b) w):=by
 subst hn;have H:=Su g D S L b w K ok T;unfold CU at*;generalize shT b=R at*;clear K ok hr T
 go_enter func104,ntmps104
 go_wp2_with (go_at_call 142;refine H.mono ?_;rintro e w1 ⟨rfl,b9⟩)
 go_ret;exact⟨rfl,b9⟩
theorem U0 (s:Bs) (A:Option Addr) (n c:Nat) (g:Nat) (D S L:Hd) (b:Ae) (w:World) (K:Bz w g D S L b) (ok:D9 b) (hn:n=3) (hr:Rd w A n (ints (Co s))) (T:CK w):
  Calls prog 104 #[.pointer (some ⟨g,0,none⟩),.string ⟨#[99,104,97,110,99,101]⟩,.slice A n c] w (CU (chT s) w):=by
 subst hn;have HX:=fun W=>Kf (cmI s 0) (cmI s 1) (cmI s 2) W;unfold Ww at HX;have hv:=aK (cmI s 0) (cmI s 1) (cmI s 2);have hc:=aJ (cmI s 0) (cmI s 1) (cmI s 2);have HD:=fun(V:World) (bb:Below w w V)=>BY (tcV (cmI s 0) (cmI s 1) (cmI s 2)) V Aa hv.2 (T.below bb);have HU:=fun(V:World) (bb:Below w w V)=>Ep (Lib.itoa (tcV (cmI s 0) (cmI s 1) (cmI s 2))) (tcC (cmI s 0) (cmI s 1) (cmI s 2)) V hc.1 hc.2 (T.below bb);have hR:chT s=cdT (Lib.itoa (tcV (cmI s 0) (cmI s 1) (cmI s 2))) (tcC (cmI s 0) (cmI s 1) (cmI s 2)):=rfl;rw[←hR] at HU;clear hR;obtain⟨ad,rfl⟩: ∃ad,A=some ad:=by obtain⟨ad,h,_⟩:=hr.int (k:=0) Ah;exact⟨ad,h⟩
 have hc0:w.cell? ad=some (.int .i64 (cmI s 0)):=Pn hr Ah;have hc1:w.cell? ⟨ad.block,ad.off+1,none⟩=some (.int .i64 (cmI s 1)):=GV hr Ah Ah;have hc2:w.cell? ⟨ad.block,ad.off+2,none⟩=some (.int .i64 (cmI s 2)):=GV hr Ah Ah;unfold CU at*;generalize chT s=R at*;generalize Lib.itoa (tcV (cmI s 0) (cmI s 1) (cmI s 2))=I at*;generalize tcV (cmI s 0) (cmI s 1) (cmI s 2)=v at*;generalize tcC (cmI s 0) (cmI s 1) (cmI s 2)=q at*;generalize cmI s 0=x0 at*;generalize cmI s 1=x1 at*;generalize cmI s 2=x2 at*;have had:=Gr w ad hc0;have hA:=HX w.drew;clear K ok hr T HX hv hc
 go_enter func104,ntmps104
 go_upto_region 13 with fail
 go_region_held3 (fun w'=>w'.cell? ad=some (.int .i64 x0)∧w'.cell? ⟨ad.block,ad.off+1,none⟩=some (.int .i64 x1)∧w'.cell? ⟨ad.block,ad.off+2,none⟩=some (.int .i64 x2))
  (exact Cs)
  (first
   |(go_at_call 145;(with_reducible refine hA.mono ?_);rintro e u ⟨rfl,b4⟩;have bu:Below w w u:=EE (m:=1) b4;have hd0:=Cg bu hc0 had;have hd1:=Cg bu hc1 had;have hd2:=(JX bu (p:=⟨ad.block,ad.off+2,none⟩) had).trans hc2))
 go_wp2_with (first|(go_at_call 134;refine(HD _ bu).mono ?_;rintro e w1 ⟨rfl,b5⟩;have b6:=(An bu b5))|(go_at_call 146;refine(HU _ b6).mono ?_;rintro e w2 ⟨rfl,b7⟩;have b9:=(An b6 b7)))
 go_ret;exact⟨rfl,b9⟩
theorem YY (s:Bs) (A:Option Addr) (n c:Nat) (g:Nat) (D S L:Hd) (b:Ae) (w:World) (K:Bz w g D S L b) (ok:D9 b) (hn:n=3) (hr:Rd w A n (ints (Co s))) (T:CK w):
  Calls prog 104 #[.pointer (some ⟨g,0,none⟩),.string ⟨#[112,108,97,110]⟩,.slice A n c] w (CU (plT s) w):=by
 subst hn;have HX:=fun W=>LM (cmI s 0) (cmI s 1) (cmI s 2) W;unfold Ny at HX;have hv:=Zp (cmI s 0) (cmI s 1) (cmI s 2);have hc:=Zk (cmI s 0) (cmI s 1) (cmI s 2);have HJ:=fun(A:Option Addr) (n c:Nat) (V:World) (bb:Below w w V) (hr:Rd V A n (ints (evQ (cmI s 0) (cmI s 1) (cmI s 2))))=>FN A n c (evQ (cmI s 0) (cmI s 1) (cmI s 2)) [32] V (by have:=hr.len;omega) Ah hr hv.2 (T.below bb)
 have HU:=fun(V:World) (bb:Below w w V)=>Ep (joinI [32] (evQ (cmI s 0) (cmI s 1) (cmI s 2))) (evC (cmI s 0) (cmI s 1) (cmI s 2)) V hc.1 hc.2 (T.below bb);have hR:plT s=cdT (joinI [32] (evQ (cmI s 0) (cmI s 1) (cmI s 2))) (evC (cmI s 0) (cmI s 1) (cmI s 2)):=rfl;rw[←hR] at HU;clear hR;obtain⟨ad,rfl⟩: ∃ad,A=some ad:=by obtain⟨ad,h,_⟩:=hr.int (k:=0) Ah;exact⟨ad,h⟩
 have hc0:w.cell? ad=some (.int .i64 (cmI s 0)):=Pn hr Ah;have hc1:w.cell? ⟨ad.block,ad.off+1,none⟩=some (.int .i64 (cmI s 1)):=GV hr Ah Ah;have hc2:w.cell? ⟨ad.block,ad.off+2,none⟩=some (.int .i64 (cmI s 2)):=GV hr Ah Ah;unfold CU at*;generalize plT s=R at*;generalize joinI [32] (evQ (cmI s 0) (cmI s 1) (cmI s 2))=I at*;generalize evQ (cmI s 0) (cmI s 1) (cmI s 2)=v at*;generalize evC (cmI s 0) (cmI s 1) (cmI s 2)=q at*;generalize cmI s 0=x0 at*;generalize cmI s 1=x1 at*;generalize cmI s 2=x2 at*;have had:=Gr w ad hc0;have hA:=HX w.drew;clear K ok hr T HX hv hc
 go_enter func104,ntmps104
 go_upto_region 16 with fail
 go_region_held3 (fun w'=>w'.cell? ad=some (.int .i64 x0)∧w'.cell? ⟨ad.block,ad.off+1,none⟩=some (.int .i64 x1)∧w'.cell? ⟨ad.block,ad.off+2,none⟩=some (.int .i64 x2))
  (exact Cs)
  (first
   |(go_at_call 147;(with_reducible refine hA.mono ?_);rintro e u ⟨EA,en,ec,rfl,RV,b4⟩;have bu:Below w w u:=EE (m:=1) b4;have hd0:=Cg bu hc0 had;have hd1:=Cg bu hc1 had;have hd2:=(JX bu (p:=⟨ad.block,ad.off+2,none⟩) had).trans hc2))
 go_wp2_with (first|(go_at_call 148;refine(HJ _ _ _ _ bu RV).mono ?_;rintro e w1 ⟨rfl,b5⟩;have b6:=(An bu b5))|(go_at_call 146;refine(HU _ b6).mono ?_;rintro e w2 ⟨rfl,b7⟩;have b9:=(An b6 b7)))
 go_ret;exact⟨rfl,b9⟩
theorem bH (s:Bs) (A:Option Addr) (n c:Nat) (g:Nat) (D S L:Hd) (b:Ae) (w:World) (K:Bz w g D S L b) (ok:D9 b) (hn:n=0) (hr:Rd w A n (ints (Co s))) (T:CK w):
  Calls prog 104 #[.pointer (some ⟨g,0,none⟩),.string ⟨#[108,111,103]⟩,.slice A n c] w (CU (Lib.itoa (lgN b:Int)) w):=by
 subst hn;have hn:=dR K;have h200:lgN b≤200:=ok.n;have KB:=K.blk;have hb:=KB.cell;rw[hn] at hb;have HL:=fun V=>ZK L.A (lgN b) L.c V Aa;have HD:=fun(V:World) (bb:Below w w V)=>BY (lgN b:Int) V Aa Aa (T.below bb);unfold CU at*;generalize Lib.itoa (lgN b:Int)=R at*;generalize lgN b=k at*;clear K KB ok hr T hn
 go_enter func104,ntmps104
 go_wp2_with (first|(go_at_call 149;refine(HL _).mono ?_;rintro e w' ⟨rfl,rfl⟩)|(go_at_call 134;refine(HD _ E9).mono ?_;rintro e w1 ⟨rfl,b9⟩))
 go_ret;exact⟨rfl,b9⟩
theorem Xu (s:Bs) (A:Option Addr) (n c:Nat) (g:Nat) (D S L:Hd) (b:Ae) (w:World) (K:Bz w g D S L b) (ok:D9 b) (hn:n=0) (hr:Rd w A n (ints (Co s))) (T:CK w):
  Calls prog 104 #[.pointer (some ⟨g,0,none⟩),.string ⟨#[99,104,101,99,107]⟩,.slice A n c] w (CU (Lib.itoa (chkFold (lgT b.log (lgN b)))) w):=by
 subst hn;have hn:=dR K;have h200:lgN b≤200:=ok.n;have hlog:CP b.log (lgN b)=true:=ok.log;have KB:=K.blk;have hb:=KB.cell;rw[hn] at hb;have RL:=K.l.rd;rw[hn] at RL;have HL:=Uf L.A (lgN b) L.c b.log w h200 hlog RL T;have hlen:=Kq hlog (lgN b) Bk;have HC:=fun V=>Dn ⟨(lgT b.log (lgN b)).toArray⟩ V (by rw[Bj];unfold maxLen;omega)
 rw[show(ByteArray.mk (lgT b.log (lgN b)).toArray).data.toList=lgT b.log (lgN b) from rfl] at HC;have hck:=CV (lgT b.log (lgN b));have HD:=fun(V:World) (bb:Below w w V)=>BY (chkFold (lgT b.log (lgN b))) V Aa Aa (T.below bb);unfold CU at*;generalize Lib.itoa (chkFold (lgT b.log (lgN b)))=R at*;generalize chkFold (lgT b.log (lgN b))=ck at*;generalize lgT b.log (lgN b)=tx at*;generalize lgN b=k at*;clear K KB ok hr T hn RL hlog h200 hlen
 go_enter func104,ntmps104
 go_wp2_with (first|(go_at_call 151;refine HL.mono ?_;rintro e w1 ⟨rfl,b1⟩)|(go_at_call 150;refine(HC _).mono ?_;rintro e w' ⟨rfl,rfl⟩)|(go_at_call 134;refine(HD _ b1).mono ?_;rintro e w2 ⟨rfl,b2⟩;have b9:=(An b1 b2)))
 go_ret;exact⟨rfl,b9⟩
theorem WE {B g:Nat} {D S L:Hd} {b:Ae} {w:World} (K:F9 B w g D S L b) {q:Nat} (h:w≤q):Qb g D S L q:=by
 have h1:=K.box.blk.lt;refine⟨by omega,fun e=> ?_,fun e=> ?_,fun e=> ?_⟩
 ·have:=K.box.d.rowlt q e;omega
 ·have:=K.box.s.rowlt q e;omega
 ·have:=(K.box.l.rowlt q e).2;omega
theorem Qb.below {B g:Nat} {D S L:Hd} {b:Ae} {w:World} (K:F9 B w g D S L b) {A:Option Addr} {n k:Nat} (hn:n=k) (h0:0<k) (h: ∀ad,A=some ad→0<n→w≤ad.block): ∀ad,A=some ad→Qb g D S L ad.block:=fun ad e=>WE K (h ad e Aa)
theorem Vd (t:Bs) (V:World):(YC 101 #[.string ⟨([112,114,111,102,105,108,101,32]++t:Bs).toArray⟩,.string ⟨#[112,114,111,102,105,108,101,32]⟩] V (.tuple #[.string ⟨t.toArray⟩,.bool true]):Prop):=by
 refine(Gn ⟨([112,114,111,102,105,108,101,32]++t:Bs).toArray⟩ ⟨#[112,114,111,102,105,108,101,32]⟩ V).mono fun e w' h=>⟨?_,h.2⟩;have h1:e=.returned (.tuple #[.string ⟨(Lib.trimPrefix ([112,114,111,102,105,108,101,32]++t) [112,114,111,102,105,108,101,32]).toArray⟩,.bool (Lib.hasPrefix ([112,114,111,102,105,108,101,32]++t) [112,114,111,102,105,108,101,32])]):=h.1;have h2:Lib.hasPrefix ([112,114,111,102,105,108,101,32]++t) [112,114,111,102,105,108,101,32]=true:=by unfold Lib.hasPrefix;rw[List.isPrefixOf_iff_prefix];exact⟨t,rfl⟩
 have h3:Lib.trimPrefix ([112,114,111,102,105,108,101,32]++t) [112,114,111,102,105,108,101,32]=t:=by unfold Lib.trimPrefix;rw[AA h2];rfl
 rw[h1,h2,h3]
theorem CI (s:Bs) (h:Lib.hasPrefix s [112,114,111,102,105,108,101,32]=false) (V:World):(YC 101 #[.string ⟨s.toArray⟩,.string ⟨#[112,114,111,102,105,108,101,32]⟩] V (.tuple #[.string ⟨s.toArray⟩,.bool false]):Prop):=by
 refine(Gn ⟨s.toArray⟩ ⟨#[112,114,111,102,105,108,101,32]⟩ V).mono fun e w' k=>⟨?_,k.2⟩;have h1:e=.returned (.tuple #[.string ⟨(Lib.trimPrefix s [112,114,111,102,105,108,101,32]).toArray⟩,.bool (Lib.hasPrefix s [112,114,111,102,105,108,101,32])]):=k.1;have h3:Lib.trimPrefix s [112,114,111,102,105,108,101,32]=s:=by unfold Lib.trimPrefix;rw[Ak (by rw[h];decide)]
 rw[h1,h,h3]
theorem CY {s:Bs} {w:World} (hs:s.length≤100000) (T:Dq w) (hb:Dm s=true) {l:Bs} (hw:cmH s=l) {k:Nat} (hl:(Co s).length=k):
  Calls prog 57 #[.string ⟨s.toArray⟩] w fun e w'=> ∃(A:Option Addr) (c:Nat),e=.returned (.tuple #[.string ⟨l.toArray⟩,.slice A k c,.bool true])∧Rd w' A k (ints (Co s))∧(∀ad,A=some ad→0<k→w≤ad.block)∧Below w w w':=by
 refine(Iq s w Aa T).mono ?_;rintro e w' ⟨u,A,n,c,h1,h2,h3⟩;obtain⟨h4,_,h5,h6,h7⟩:=h2 hb;rw[hw] at h4;rw[hl] at h5;subst h4;subst h5;exact⟨A,c,by rw[h1,hb],h6,h7,h3⟩
theorem ZN (s:Bs) (B g:Nat) (D S L:Hd) (b:Ae) (w:World) (K:F9 B w g D S L b) (hs:s.length≤100000) (T:Dq w) (hb:Dm s=false):
  Calls prog 63 #[.pointer (some ⟨g,0,none⟩),.string ⟨s.toArray⟩] w (Dw B g D S L (bsNext b s) (bsOut b s) w):=by
 have HP:=Iq s w Aa T;unfold fm at HP;rw[hb] at HP;rw[(Ni (b:=b) hb).1,(Ni (b:=b) hb).2];unfold Dw;have HF:=fun(V:World) (bb:Below w w V)=>Cx 6 V Ah Ah (T.below bb).tab;generalize erT 6=E at*;clear hb T
 go_enter func63,ntmps63
 go_wp2_with (first|(go_at_call 57;refine HP.mono ?_;rintro e w1 ⟨u,A,n,c,rfl,-,b1⟩)|(go_at_call 100;refine(HF _ b1).mono ?_;rintro e w2 ⟨rfl,b2⟩))
 go_ret;exact⟨rfl,Cw K (An b1 b2)⟩
theorem RW (s:Bs) (B g:Nat) (D S L:Hd) (b:Ae) (w:World) (K:F9 B w g D S L b) (hs:s.length≤100000) (T:Dq w) (hb:Dm s=true) (hw:cmH s=Av):
  Calls prog 63 #[.pointer (some ⟨g,0,none⟩),.string ⟨s.toArray⟩] w (Dw B g D S L (bsNext b s) (bsOut b s) w):=by
 have HP:=CY hs T hb hw rfl;rw[(Gk (b:=b) hb hw).1,(Gk (b:=b) hb hw).2]
 have hlen:(cmT s).length≤100000:=by
  have h1:=AN List.length (Na hw hb).1;rw[Dy] at h1;omega
 have HS:=fun(V:World) (bb:Below w w V)=>OJ (cmT s) B g D S L b V (K.below bb) hlen (T.below bb);have HC:=fun V=>Vd (cmT s) V;rw[←(Na hw hb).1] at HC;generalize(if Fm (cmT s)=true then {b with depths:=rpD (cmT s),speeds:=rpV (cmT s),source:=0} else b)=b' at*;generalize(if Fm (cmT s)=true then H5 else erT 6)=t at*;generalize cmT s=x at*;unfold Dw at*;clear hb T hlen K
 go_enter func63,ntmps63
 go_upto_region 2 with(go_at_call 57;refine HP.mono ?_;rintro e w1 ⟨A,c,rfl,R,hnew,b1⟩)
 clear HP;clear R hnew;have HS1:=HS _ b1;clear HS
 go_wp2_with (first|(go_at_call 101;refine(HC _).mono ?_;rintro e w' ⟨rfl,rfl⟩)|(go_at_call 102;refine HS1.mono ?_;rintro e w2 ⟨rfl,bk⟩))
 go_ret;exact⟨rfl,Hc b1 bk⟩
theorem Ue (s:Bs) (B g:Nat) (D S L:Hd) (b:Ae) (w:World) (K:F9 B w g D S L b) (hs:s.length≤100000) (T:Dq w) (hb:Dm s=true) (hw:cmH s=AM) (hl:(Co s).length=1):
  Calls prog 63 #[.pointer (some ⟨g,0,none⟩),.string ⟨s.toArray⟩] w (Dw B g D S L (bsNext b s) (bsOut b s) w):=by
 have HP:=CY hs T hb hw hl;have HO1:=Ai (Hp (b:=b) hb hw).1;have HO2:=Ai (Hp (b:=b) hb hw).2;have HC:=fun V=>CI s (DN DM) V;unfold Dw;generalize bsOut b s=tt at*;generalize bsNext b s=bb at*;clear hb
 go_enter func63,ntmps63
 go_upto_region 2 with(go_at_call 57;refine HP.mono ?_;rintro e w1 ⟨A,c,rfl,R,hnew,b1⟩)
 clear HP
 have HX:Calls prog 103 #[.pointer (some ⟨g,0,none⟩),.string ⟨AM.toArray⟩,.slice A 1 c] w1 (GG B g D S L bb tt w1):=by
  rw[HO1.out,HO2.out];exact PD A c (Co s) B g D S L b w1 (K.below b1) R (Qb.below K rfl Ah hnew) (T.below b1).tab
 unfold GG at HX;clear R hnew K T hw hl
 go_wp2_with (first|(go_at_call 101;refine(HC _).mono ?_;rintro e w' ⟨rfl,rfl⟩)|(go_at_call 103;refine HX.mono ?_;rintro e w2 ⟨rfl,bk⟩))
 go_ret;exact⟨rfl,Hc b1 bk⟩
theorem ZP (s:Bs) (B g:Nat) (D S L:Hd) (b:Ae) (w:World) (K:F9 B w g D S L b) (hs:s.length≤100000) (T:Dq w) (hb:Dm s=true) (hw:cmH s=Ca) (hl:(Co s).length=3):
  Calls prog 63 #[.pointer (some ⟨g,0,none⟩),.string ⟨s.toArray⟩] w (Dw B g D S L (bsNext b s) (bsOut b s) w):=by
 have HP:=CY hs T hb hw hl;have HO1:=Ai (Nk (b:=b) hb hw).1;have HO2:=Ai (Nk (b:=b) hb hw).2;have HC:=fun V=>CI s (DN DM) V;unfold Dw;generalize bsOut b s=tt at*;generalize bsNext b s=bb at*;clear hb
 go_enter func63,ntmps63
 go_upto_region 2 with(go_at_call 57;refine HP.mono ?_;rintro e w1 ⟨A,c,rfl,R,hnew,b1⟩)
 clear HP
 have HX:Calls prog 103 #[.pointer (some ⟨g,0,none⟩),.string ⟨Ca.toArray⟩,.slice A 3 c] w1 (GG B g D S L bb tt w1):=by
  rw[HO1.out,HO2.out];exact U3 A c (Co s) B g D S L b w1 (K.below b1) R (Qb.below K rfl Ah hnew) (T.below b1).tab
 unfold GG at HX;clear R hnew K T hw hl
 go_wp2_with (first|(go_at_call 101;refine(HC _).mono ?_;rintro e w' ⟨rfl,rfl⟩)|(go_at_call 103;refine HX.mono ?_;rintro e w2 ⟨rfl,bk⟩))
 go_ret;exact⟨rfl,Hc b1 bk⟩
theorem VD (s:Bs) (B g:Nat) (D S L:Hd) (b:Ae) (w:World) (K:F9 B w g D S L b) (hs:s.length≤100000) (T:Dq w) (hb:Dm s=true) (hw:cmH s=AW) (hl:(Co s).length=2):
  Calls prog 63 #[.pointer (some ⟨g,0,none⟩),.string ⟨s.toArray⟩] w (Dw B g D S L (bsNext b s) (bsOut b s) w):=by
 have HP:=CY hs T hb hw hl;have HO1:=Ai (IW (b:=b) hb hw).1;have HO2:=Ai (IW (b:=b) hb hw).2;have HC:=fun V=>CI s (DN DM) V;unfold Dw;generalize bsOut b s=tt at*;generalize bsNext b s=bb at*;clear hb
 go_enter func63,ntmps63
 go_upto_region 2 with(go_at_call 57;refine HP.mono ?_;rintro e w1 ⟨A,c,rfl,R,hnew,b1⟩)
 clear HP
 have HX:Calls prog 103 #[.pointer (some ⟨g,0,none⟩),.string ⟨AW.toArray⟩,.slice A 2 c] w1 (GG B g D S L bb tt w1):=by
  rw[HO1.out,HO2.out];exact Rc A c (Co s) B g D S L b w1 (K.below b1) R (Qb.below K rfl Ah hnew) (T.below b1).tab
 unfold GG at HX;clear R hnew K T hw hl
 go_wp2_with (first|(go_at_call 101;refine(HC _).mono ?_;rintro e w' ⟨rfl,rfl⟩)|(go_at_call 103;refine HX.mono ?_;rintro e w2 ⟨rfl,bk⟩))
 go_ret;exact⟨rfl,Hc b1 bk⟩
theorem VE (s:Bs) (B g:Nat) (D S L:Hd) (b:Ae) (w:World) (K:F9 B w g D S L b) (hs:s.length≤100000) (T:Dq w) (hb:Dm s=true) (hw:cmH s=AX) (hl:(Co s).length=5):
  Calls prog 63 #[.pointer (some ⟨g,0,none⟩),.string ⟨s.toArray⟩] w (Dw B g D S L (bsNext b s) (bsOut b s) w):=by
 have HP:=CY hs T hb hw hl;have HO1:=Ai (IX (b:=b) hb hw).1;have HO2:=Ai (IX (b:=b) hb hw).2;have HC:=fun V=>CI s (DN DM) V;unfold Dw;generalize bsOut b s=tt at*;generalize bsNext b s=bb at*;clear hb
 go_enter func63,ntmps63
 go_upto_region 2 with(go_at_call 57;refine HP.mono ?_;rintro e w1 ⟨A,c,rfl,R,hnew,b1⟩)
 clear HP
 have HX:Calls prog 103 #[.pointer (some ⟨g,0,none⟩),.string ⟨AX.toArray⟩,.slice A 5 c] w1 (GG B g D S L bb tt w1):=by
  rw[HO1.out,HO2.out];exact Re A c (Co s) B g D S L b w1 (K.below b1) R (Qb.below K rfl Ah hnew) (T.below b1).tab
 unfold GG at HX;clear R hnew K T hw hl
 go_wp2_with (first|(go_at_call 101;refine(HC _).mono ?_;rintro e w' ⟨rfl,rfl⟩)|(go_at_call 103;refine HX.mono ?_;rintro e w2 ⟨rfl,bk⟩))
 go_ret;exact⟨rfl,Hc b1 bk⟩
theorem XT (s:Bs) (B g:Nat) (D S L:Hd) (b:Ae) (w:World) (K:F9 B w g D S L b) (hs:s.length≤100000) (T:Dq w) (hb:Dm s=true) (hw:cmH s=Bo) (hl:(Co s).length=1):
  Calls prog 63 #[.pointer (some ⟨g,0,none⟩),.string ⟨s.toArray⟩] w (Dw B g D S L (bsNext b s) (bsOut b s) w):=by
 have HP:=CY hs T hb hw hl;have HO1:=Ai (Kv (b:=b) hb hw).1;have HO2:=Ai (Kv (b:=b) hb hw).2;have HC:=fun V=>CI s (DN DM) V;unfold Dw;generalize bsOut b s=tt at*;generalize bsNext b s=bb at*;clear hb
 go_enter func63,ntmps63
 go_upto_region 2 with(go_at_call 57;refine HP.mono ?_;rintro e w1 ⟨A,c,rfl,R,hnew,b1⟩)
 clear HP
 have HX:Calls prog 103 #[.pointer (some ⟨g,0,none⟩),.string ⟨Bo.toArray⟩,.slice A 1 c] w1 (GG B g D S L bb tt w1):=by
  rw[HO1.out,HO2.out];exact SW A c (Co s) B g D S L b w1 (K.below b1) R (Qb.below K rfl Ah hnew) (T.below b1).tab
 unfold GG at HX;clear R hnew K T hw hl
 go_wp2_with (first|(go_at_call 101;refine(HC _).mono ?_;rintro e w' ⟨rfl,rfl⟩)|(go_at_call 103;refine HX.mono ?_;rintro e w2 ⟨rfl,bk⟩))
 go_ret;exact⟨rfl,Hc b1 bk⟩
theorem VF (s:Bs) (B g:Nat) (D S L:Hd) (b:Ae) (w:World) (K:F9 B w g D S L b) (hs:s.length≤100000) (T:Dq w) (hb:Dm s=true) (hw:cmH s=By) (hl:(Co s).length=1):
  Calls prog 63 #[.pointer (some ⟨g,0,none⟩),.string ⟨s.toArray⟩] w (Dw B g D S L (bsNext b s) (bsOut b s) w):=by
 have HP:=CY hs T hb hw hl;have HO1:=Ai (IY (b:=b) hb hw).1;have HO2:=Ai (IY (b:=b) hb hw).2;have HC:=fun V=>CI s (DN DM) V;unfold Dw;generalize bsOut b s=tt at*;generalize bsNext b s=bb at*;clear hb
 go_enter func63,ntmps63
 go_upto_region 2 with(go_at_call 57;refine HP.mono ?_;rintro e w1 ⟨A,c,rfl,R,hnew,b1⟩)
 clear HP;have HN:=Dd A 1 c By g w1 Ah Ah Ah Ah Ah
 have HX:Calls prog 104 #[.pointer (some ⟨g,0,none⟩),.string ⟨By.toArray⟩,.slice A 1 c] w1 (CU tt w1):=by
  rw[HO1.out];exact Xw s A 1 c g D S L b w1 (K.below b1).box K.ok rfl R (T.below b1).tab
 unfold CU at HX;clear R hnew T hw hl
 go_wp2_with (first|(go_at_call 101;refine(HC _).mono ?_;rintro e w' ⟨rfl,rfl⟩)|(go_at_call 103;refine HN.mono ?_;rintro e w' ⟨rfl,rfl⟩)|(go_at_call 104;refine HX.mono ?_;rintro e w2 ⟨rfl,b2⟩))
 go_ret;rw[HO2.out];exact⟨rfl,Cw K (An b1 b2)⟩
theorem XU (s:Bs) (B g:Nat) (D S L:Hd) (b:Ae) (w:World) (K:F9 B w g D S L b) (hs:s.length≤100000) (T:Dq w) (hb:Dm s=true) (hw:cmH s=Cj) (hl:(Co s).length=6):
  Calls prog 63 #[.pointer (some ⟨g,0,none⟩),.string ⟨s.toArray⟩] w (Dw B g D S L (bsNext b s) (bsOut b s) w):=by
 have HP:=CY hs T hb hw hl;have HO1:=Ai (Kw (b:=b) hb hw).1;have HO2:=Ai (Kw (b:=b) hb hw).2;have HC:=fun V=>CI s (DN DM) V;unfold Dw;generalize bsOut b s=tt at*;generalize bsNext b s=bb at*;clear hb
 go_enter func63,ntmps63
 go_upto_region 2 with(go_at_call 57;refine HP.mono ?_;rintro e w1 ⟨A,c,rfl,R,hnew,b1⟩)
 clear HP;have HN:=Dd A 6 c Cj g w1 Ah Ah Ah Ah Ah
 have HX:Calls prog 104 #[.pointer (some ⟨g,0,none⟩),.string ⟨Cj.toArray⟩,.slice A 6 c] w1 (CU tt w1):=by
  rw[HO1.out];exact YX s A 6 c g D S L b w1 (K.below b1).box K.ok rfl R (T.below b1).tab
 unfold CU at HX;clear R hnew T hw hl
 go_wp2_with (first|(go_at_call 101;refine(HC _).mono ?_;rintro e w' ⟨rfl,rfl⟩)|(go_at_call 103;refine HN.mono ?_;rintro e w' ⟨rfl,rfl⟩)|(go_at_call 104;refine HX.mono ?_;rintro e w2 ⟨rfl,b2⟩))
 go_ret;rw[HO2.out];exact⟨rfl,Cw K (An b1 b2)⟩
theorem PU (s:Bs) (B g:Nat) (D S L:Hd) (b:Ae) (w:World) (K:F9 B w g D S L b) (hs:s.length≤100000) (T:Dq w) (hb:Dm s=true) (hw:cmH s=AQ) (hl:(Co s).length=0):
  Calls prog 63 #[.pointer (some ⟨g,0,none⟩),.string ⟨s.toArray⟩] w (Dw B g D S L (bsNext b s) (bsOut b s) w):=by
 have HP:=CY hs T hb hw hl;have HO1:=Ai (FD (b:=b) hb hw).1;have HO2:=Ai (FD (b:=b) hb hw).2;have HC:=fun V=>CI s (DN DM) V;unfold Dw;generalize bsOut b s=tt at*;generalize bsNext b s=bb at*;clear hb
 go_enter func63,ntmps63
 go_upto_region 2 with(go_at_call 57;refine HP.mono ?_;rintro e w1 ⟨A,c,rfl,R,hnew,b1⟩)
 clear HP;have HN:=Dd A 0 c AQ g w1 Ah Ah Ah Ah Ah
 have HX:Calls prog 104 #[.pointer (some ⟨g,0,none⟩),.string ⟨AQ.toArray⟩,.slice A 0 c] w1 (CU tt w1):=by
  rw[HO1.out];exact Q2 s A 0 c g D S L b w1 (K.below b1).box K.ok rfl R (T.below b1).tab
 unfold CU at HX;clear R hnew T hw hl
 go_wp2_with (first|(go_at_call 101;refine(HC _).mono ?_;rintro e w' ⟨rfl,rfl⟩)|(go_at_call 103;refine HN.mono ?_;rintro e w' ⟨rfl,rfl⟩)|(go_at_call 104;refine HX.mono ?_;rintro e w2 ⟨rfl,b2⟩))
 go_ret;rw[HO2.out];exact⟨rfl,Cw K (An b1 b2)⟩
theorem VC (s:Bs) (B g:Nat) (D S L:Hd) (b:Ae) (w:World) (K:F9 B w g D S L b) (hs:s.length≤100000) (T:Dq w) (hb:Dm s=true) (hw:cmH s=Bw) (hl:(Co s).length=3):
  Calls prog 63 #[.pointer (some ⟨g,0,none⟩),.string ⟨s.toArray⟩] w (Dw B g D S L (bsNext b s) (bsOut b s) w):=by
 have HP:=CY hs T hb hw hl;have HO1:=Ai (IV (b:=b) hb hw).1;have HO2:=Ai (IV (b:=b) hb hw).2;have HC:=fun V=>CI s (DN DM) V;unfold Dw;generalize bsOut b s=tt at*;generalize bsNext b s=bb at*;clear hb
 go_enter func63,ntmps63
 go_upto_region 2 with(go_at_call 57;refine HP.mono ?_;rintro e w1 ⟨A,c,rfl,R,hnew,b1⟩)
 clear HP;have HN:=Dd A 3 c Bw g w1 Ah Ah Ah Ah Ah
 have HX:Calls prog 104 #[.pointer (some ⟨g,0,none⟩),.string ⟨Bw.toArray⟩,.slice A 3 c] w1 (CU tt w1):=by
  rw[HO1.out];exact Xv s A 3 c g D S L b w1 (K.below b1).box K.ok rfl R (T.below b1).tab
 unfold CU at HX;clear R hnew T hw hl
 go_wp2_with (first|(go_at_call 101;refine(HC _).mono ?_;rintro e w' ⟨rfl,rfl⟩)|(go_at_call 103;refine HN.mono ?_;rintro e w' ⟨rfl,rfl⟩)|(go_at_call 104;refine HX.mono ?_;rintro e w2 ⟨rfl,b2⟩))
 go_ret;rw[HO2.out];exact⟨rfl,Cw K (An b1 b2)⟩
theorem XS (s:Bs) (B g:Nat) (D S L:Hd) (b:Ae) (w:World) (K:F9 B w g D S L b) (hs:s.length≤100000) (T:Dq w) (hb:Dm s=true) (hw:cmH s=Ci) (hl:(Co s).length=3):
  Calls prog 63 #[.pointer (some ⟨g,0,none⟩),.string ⟨s.toArray⟩] w (Dw B g D S L (bsNext b s) (bsOut b s) w):=by
 have HP:=CY hs T hb hw hl;have HO1:=Ai (Ku (b:=b) hb hw).1;have HO2:=Ai (Ku (b:=b) hb hw).2;have HC:=fun V=>CI s (DN DM) V;unfold Dw;generalize bsOut b s=tt at*;generalize bsNext b s=bb at*;clear hb
 go_enter func63,ntmps63
 go_upto_region 2 with(go_at_call 57;refine HP.mono ?_;rintro e w1 ⟨A,c,rfl,R,hnew,b1⟩)
 clear HP;have HN:=Dd A 3 c Ci g w1 Ah Ah Ah Ah Ah
 have HX:Calls prog 104 #[.pointer (some ⟨g,0,none⟩),.string ⟨Ci.toArray⟩,.slice A 3 c] w1 (CU tt w1):=by
  rw[HO1.out];exact YW s A 3 c g D S L b w1 (K.below b1).box K.ok rfl R (T.below b1).tab
 unfold CU at HX;clear R hnew T hw hl
 go_wp2_with (first|(go_at_call 101;refine(HC _).mono ?_;rintro e w' ⟨rfl,rfl⟩)|(go_at_call 103;refine HN.mono ?_;rintro e w' ⟨rfl,rfl⟩)|(go_at_call 104;refine HX.mono ?_;rintro e w2 ⟨rfl,b2⟩))
 go_ret;rw[HO2.out];exact⟨rfl,Cw K (An b1 b2)⟩
theorem Ud (s:Bs) (B g:Nat) (D S L:Hd) (b:Ae) (w:World) (K:F9 B w g D S L b) (hs:s.length≤100000) (T:Dq w) (hb:Dm s=true) (hw:cmH s=Bi) (hl:(Co s).length=3):
  Calls prog 63 #[.pointer (some ⟨g,0,none⟩),.string ⟨s.toArray⟩] w (Dw B g D S L (bsNext b s) (bsOut b s) w):=by
 have HP:=CY hs T hb hw hl;have HO1:=Ai (Ho (b:=b) hb hw).1;have HO2:=Ai (Ho (b:=b) hb hw).2;have HC:=fun V=>CI s (DN DM) V;unfold Dw;generalize bsOut b s=tt at*;generalize bsNext b s=bb at*;clear hb
 go_enter func63,ntmps63
 go_upto_region 2 with(go_at_call 57;refine HP.mono ?_;rintro e w1 ⟨A,c,rfl,R,hnew,b1⟩)
 clear HP;have HN:=Dd A 3 c Bi g w1 Ah Ah Ah Ah Ah
 have HX:Calls prog 104 #[.pointer (some ⟨g,0,none⟩),.string ⟨Bi.toArray⟩,.slice A 3 c] w1 (CU tt w1):=by
  rw[HO1.out];exact U0 s A 3 c g D S L b w1 (K.below b1).box K.ok rfl R (T.below b1).tab
 unfold CU at HX;clear R hnew T hw hl
 go_wp2_with (first|(go_at_call 101;refine(HC _).mono ?_;rintro e w' ⟨rfl,rfl⟩)|(go_at_call 103;refine HN.mono ?_;rintro e w' ⟨rfl,rfl⟩)|(go_at_call 104;refine HX.mono ?_;rintro e w2 ⟨rfl,b2⟩))
 go_ret;rw[HO2.out];exact⟨rfl,Cw K (An b1 b2)⟩
theorem XW (s:Bs) (B g:Nat) (D S L:Hd) (b:Ae) (w:World) (K:F9 B w g D S L b) (hs:s.length≤100000) (T:Dq w) (hb:Dm s=true) (hw:cmH s=Ck) (hl:(Co s).length=3):
  Calls prog 63 #[.pointer (some ⟨g,0,none⟩),.string ⟨s.toArray⟩] w (Dw B g D S L (bsNext b s) (bsOut b s) w):=by
 have HP:=CY hs T hb hw hl;have HO1:=Ai (Kx (b:=b) hb hw).1;have HO2:=Ai (Kx (b:=b) hb hw).2;have HC:=fun V=>CI s (DN DM) V;unfold Dw;generalize bsOut b s=tt at*;generalize bsNext b s=bb at*;clear hb
 go_enter func63,ntmps63
 go_upto_region 2 with(go_at_call 57;refine HP.mono ?_;rintro e w1 ⟨A,c,rfl,R,hnew,b1⟩)
 clear HP;have HN:=Dd A 3 c Ck g w1 Ah Ah Ah Ah Ah
 have HX:Calls prog 104 #[.pointer (some ⟨g,0,none⟩),.string ⟨Ck.toArray⟩,.slice A 3 c] w1 (CU tt w1):=by
  rw[HO1.out];exact YY s A 3 c g D S L b w1 (K.below b1).box K.ok rfl R (T.below b1).tab
 unfold CU at HX;clear R hnew T hw hl
 go_wp2_with (first|(go_at_call 101;refine(HC _).mono ?_;rintro e w' ⟨rfl,rfl⟩)|(go_at_call 103;refine HN.mono ?_;rintro e w' ⟨rfl,rfl⟩)|(go_at_call 104;refine HX.mono ?_;rintro e w2 ⟨rfl,b2⟩))
 go_ret;rw[HO2.out];exact⟨rfl,Cw K (An b1 b2)⟩
theorem ZO (s:Bs) (B g:Nat) (D S L:Hd) (b:Ae) (w:World) (K:F9 B w g D S L b) (hs:s.length≤100000) (T:Dq w) (hb:Dm s=true) (hw:cmH s=CX) (hl:(Co s).length=0):
  Calls prog 63 #[.pointer (some ⟨g,0,none⟩),.string ⟨s.toArray⟩] w (Dw B g D S L (bsNext b s) (bsOut b s) w):=by
 have HP:=CY hs T hb hw hl;have HO1:=Ai (Nj (b:=b) hb hw).1;have HO2:=Ai (Nj (b:=b) hb hw).2;have HC:=fun V=>CI s (DN DM) V;unfold Dw;generalize bsOut b s=tt at*;generalize bsNext b s=bb at*;clear hb
 go_enter func63,ntmps63
 go_upto_region 2 with(go_at_call 57;refine HP.mono ?_;rintro e w1 ⟨A,c,rfl,R,hnew,b1⟩)
 clear HP;have HN:=Dd A 0 c CX g w1 Ah Ah Ah Ah Ah
 have HX:Calls prog 104 #[.pointer (some ⟨g,0,none⟩),.string ⟨CX.toArray⟩,.slice A 0 c] w1 (CU tt w1):=by
  rw[HO1.out];exact bH s A 0 c g D S L b w1 (K.below b1).box K.ok rfl R (T.below b1).tab
 unfold CU at HX;clear R hnew T hw hl
 go_wp2_with (first|(go_at_call 101;refine(HC _).mono ?_;rintro e w' ⟨rfl,rfl⟩)|(go_at_call 103;refine HN.mono ?_;rintro e w' ⟨rfl,rfl⟩)|(go_at_call 104;refine HX.mono ?_;rintro e w2 ⟨rfl,b2⟩))
 go_ret;rw[HO2.out];exact⟨rfl,Cw K (An b1 b2)⟩
theorem VB (s:Bs) (B g:Nat) (D S L:Hd) (b:Ae) (w:World) (K:F9 B w g D S L b) (hs:s.length≤100000) (T:Dq w) (hb:Dm s=true) (hw:cmH s=BE) (hl:(Co s).length=0):
  Calls prog 63 #[.pointer (some ⟨g,0,none⟩),.string ⟨s.toArray⟩] w (Dw B g D S L (bsNext b s) (bsOut b s) w):=by
 have HP:=CY hs T hb hw hl;have HO1:=Ai (IU (b:=b) hb hw).1;have HO2:=Ai (IU (b:=b) hb hw).2;have HC:=fun V=>CI s (DN DM) V;unfold Dw;generalize bsOut b s=tt at*;generalize bsNext b s=bb at*;clear hb
 go_enter func63,ntmps63
 go_upto_region 2 with(go_at_call 57;refine HP.mono ?_;rintro e w1 ⟨A,c,rfl,R,hnew,b1⟩)
 clear HP;have HN:=Dd A 0 c BE g w1 Ah Ah Ah Ah Ah
 have HX:Calls prog 104 #[.pointer (some ⟨g,0,none⟩),.string ⟨BE.toArray⟩,.slice A 0 c] w1 (CU tt w1):=by
  rw[HO1.out];exact Xu s A 0 c g D S L b w1 (K.below b1).box K.ok rfl R (T.below b1).tab
 unfold CU at HX;clear R hnew T hw hl
 go_wp2_with (first|(go_at_call 101;refine(HC _).mono ?_;rintro e w' ⟨rfl,rfl⟩)|(go_at_call 103;refine HN.mono ?_;rintro e w' ⟨rfl,rfl⟩)|(go_at_call 104;refine HX.mono ?_;rintro e w2 ⟨rfl,b2⟩))
 go_ret;rw[HO2.out];exact⟨rfl,Cw K (An b1 b2)⟩
theorem ZM (s:Bs) (B g:Nat) (D S L:Hd) (b:Ae) (w:World) (K:F9 B w g D S L b) (hs:s.length≤100000) (T:Dq w):
  Calls prog 63 #[.pointer (some ⟨g,0,none⟩),.string ⟨s.toArray⟩] w (Dw B g D S L (bsNext b s) (bsOut b s) w):=by
 rcases BA (Dm s) with hb|hb
 ·by_cases h:cmH s=Av
  ·exact RW s B g D S L b w K hs T hb h
  ·rcases S0 hb h with⟨h1,h2⟩|⟨h1,h2⟩|⟨h1,h2⟩|⟨h1,h2⟩|⟨h1,h2⟩|⟨h1,h2⟩|⟨h1,h2⟩|⟨h1,h2⟩|⟨h1,h2⟩|⟨h1,h2⟩|⟨h1,h2⟩|⟨h1,h2⟩|⟨h1,h2⟩|⟨h1,h2⟩
   ·exact PU s B g D S L b w K hs T hb h1 h2
   ·exact ZO s B g D S L b w K hs T hb h1 h2
   ·exact VB s B g D S L b w K hs T hb h1 h2
   ·exact Ue s B g D S L b w K hs T hb h1 h2
   ·exact XT s B g D S L b w K hs T hb h1 h2
   ·exact VF s B g D S L b w K hs T hb h1 h2
   ·exact VD s B g D S L b w K hs T hb h1 h2
   ·exact ZP s B g D S L b w K hs T hb h1 h2
   ·exact VC s B g D S L b w K hs T hb h1 h2
   ·exact XS s B g D S L b w K hs T hb h1 h2
   ·exact Ud s B g D S L b w K hs T hb h1 h2
   ·exact XW s B g D S L b w K hs T hb h1 h2
   ·exact VE s B g D S L b w K hs T hb h1 h2
   ·exact XU s B g D S L b w K hs T hb h1 h2
 ·exact ZN s B g D S L b w K hs T hb
end Go.Proofs.YtkndcebhjcfphaaGreatDoor
