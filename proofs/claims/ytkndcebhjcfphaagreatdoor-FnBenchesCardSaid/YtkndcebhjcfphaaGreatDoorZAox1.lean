import Derived.Test.YtkndcebhjcfphaaGreatDoorZAo
namespace Go.Proofs.YtkndcebhjcfphaaGreatDoor
open Go.RowKit Go.Proofs.Tryz
set_option maxRecDepth 100000
set_option maxHeartbeats 4000000
set_option linter.all false
theorem Qu {w:World} {l:List Sl} {g B:Nat} {a b c d e:Value} (h:Ag w l) (hw:AB w B l) (j:g<B):Ag (((((w.setCell ⟨g,0,none⟩ a).setCell ⟨g,1,none⟩ b).setCell ⟨g,2,none⟩ c).setCell ⟨g,3,none⟩ d).setCell ⟨g,4,none⟩ e) l:=by
 have f: ∀s∈l.map Sl.row,s≠some g:=λs i c=>by have:=hw.hi s i g c;omega
 exact(((((h.cell_ f).cell_ f).cell_ f).cell_ f).cell_ f)
theorem To (s:Bs) (A:Option Addr) (c:Nat) (g:Nat) (D S L:Hd) (b:Ae) (w:World) (K:Bz w g D S L b) (ok:jw b) (hr:Rd w A 3 (ints (Co s))) (T:CK w):
  Calls prog 144 #[.pointer (some ⟨g,0,none⟩),.slice A 3 c] w (CU (grT b s) w):=by
 have aj:=Hr K ok w G6;obtain⟨aQ,aN,hv⟩:=Ld ok;have hcb:=L3 b;have Q:0<=ggC b s∧ggC b s<=1000:=Zx _ _ _ _ _;have Y:=ZQ (ggR b s);have Z:=λ(h:ggC b s=0)=>dT (dN ok h);have HT:Hid (grT b s=if sdC b=0 then(if ggC b s=0 then cdT (ivT (mdL (ggR b s)) (mdH (ggR b s))) (mdC (ggR b s)) else erT (ggC b s)) else erT (sdC b)):=rfl;have HF:=λ(V:World) (B:Below w w V)=>Cx (sdC b) V hcb.1 hcb.2 (T.below B);have ah:=λ(V:World) (B:Below w w V)=>Cx (ggC b s) V Q.1 Q.2 (T.below B);have HG: ∀(kA:Option Addr) (kc:Nat) (V:World),Rd V kA (sdN b*4) (ints (sdL b))->Calls prog 190 #[ZI (cmI s 0),ZI (cmI s 1),ZI (cmI s 2),.slice kA (sdN b) kc] V (GZ (ggR b s) (ggC b s) V):=λkA kc V R=>PL (cmI s 0) (cmI s 1) (cmI s 2) kA (sdN b) kc (sdL b) V Aa R;have HM:=λ(k:Bh) (V:World) (o:Cl k) (R:Ag V (AO k (ggR b s)))=>Kc k (ggR b s) V o R;unfold GZ Bd at HG;unfold Bd at HM;obtain⟨j,rfl⟩: ∃j,A=some j:=by obtain⟨j,h,_⟩:=hr.int (k:=0) Ah;exact⟨j,h⟩
 have hc0:w.cell? j=some (.int .i64 (cmI s 0)):=Pn hr Ah;have hc1:w.cell? ⟨j.block,j.off+1,none⟩=some (.int .i64 (cmI s 1)):=GV hr Ah Ah;have hc2:w.cell? ⟨j.block,j.off+2,none⟩=some (.int .i64 (cmI s 2)):=GV hr Ah Ah;unfold CU;generalize grT b s=R at*;generalize sdC b=cd at*;generalize sdL b=xs at*;generalize ggC b s=gc at*;generalize ggR b s=d at*;generalize sdN b=kn at*;generalize cmI s 0=x0 at*;generalize cmI s 1=x1 at*;generalize cmI s 2=x2 at*;have a:=Gr w j hc0;have KB:=K.blk;have hb:=KB.cell;clear K ok hr
 go_enter func144,ntmps144
 go_upto_region 2 with(go_at_call 185;refine aj.mono ?_;rintro e f ⟨⟨kA,a4,kc⟩,v,rfl,ao,aF,R1,n⟩)
 clear aj hb KB
 (try simp only at ao aF R1)
 subst ao;have T1:=T.below n
 by_cases h:cd=0
 ·subst h;have HR:=Ai (HT.out.trans (AA rfl));have J:=λ(V:World) (B:Below f f V)=>ah V (An n B);replace hc0:=Cg n hc0 a;replace hc1:=Cg n hc1 a;replace hc2:=Cg n hc2 a;replace a:=CM a n.size;have M:=λ(V:World) (B:Below f f V)=>HG kA kc V (R1.below B);clear HT HF ah HG R1
  go_upto_region 4 with fail
  have bA:Below f f (f.alloc (.cells Fa 181)):=BU;have hA:=M f.drew GJ;have hB:=M (f.alloc (.cells Fa 181)).drew (CO bA);have KZ:=Blk.drew (Br f 181 Fa)
  go_cut [7,8] (λv7 v8 wx=> ∃(q:Nat) (r:Option Addr) (F C:Nat) (t:Option Addr) (H G:Nat),v7=.int .i64 gc∧v8=.pointer (some ⟨q,0,none⟩)∧Blk wx q 181 (AH d.size d.wide d.high r F C t H G)∧Cl ⟨⟨r,F,C⟩,⟨t,H,G⟩⟩∧Ag wx (AO ⟨⟨r,F,C⟩,⟨t,H,G⟩⟩ d)∧Below f f wx)
  case first=>
   go_region_held3 (λw'=>w'.cell? j=some (.int .i64 x0)∧w'.cell? ⟨j.block,j.off+1,none⟩=some (.int .i64 x1)∧w'.cell? ⟨j.block,j.off+2,none⟩=some (.int .i64 x2))
    (exact Cs)
    (first
     |(go_at_call 190;(with_reducible refine hA.mono ?_);rintro e u ⟨⟨⟨r,F,C⟩,⟨t,H,G⟩⟩,rfl,l,RG,WG,-,b4⟩;have i:Below f f u:=EE (m:=1) b4;have z0:=Cg i hc0 a;have y0:=CM a i.size;have z1:=Cg i hc1 a;have y1:=CM a i.size;have z2:=Cg i hc2 a;have y2:=CM a i.size;have KU:=Br u 181 (AH d.size d.wide d.high r F C t H G);have bU:Below f f (u.alloc (.cells (AH d.size d.wide d.high r F C t H G) 181)):=i.trans (((AP _ _).alloc Bk _).mono i.size))
     |(go_at_call 190;(with_reducible refine hB.mono ?_);rintro e u ⟨⟨⟨r,F,C⟩,⟨t,H,G⟩⟩,rfl,l,RG,WG,-,b4⟩;have i:Below f f u:=(CO bA).trans (b4.mono bA.size);have z0:=Cg i hc0 a;have y0:=CM a i.size;have z1:=Cg i hc1 a;have y1:=CM a i.size;have z2:=Cg i hc2 a;have y2:=CM a i.size;have KU:=KZ.below b4 KZ.lt;have fU:=KU.frozen;have cU:=KU.cell;have a3:=KU.lt))
   all_goals
    go_wp2_with fail
    go_meet
    first
     |exact⟨u.heap.size,r,F,C,t,H,G,rfl,rfl,KU,l,RG.below BU,bU⟩
     |exact⟨f.heap.size,r,F,C,t,H,G,rfl,rfl,(((((KU.set_ 0 _).set_ 1 _).set_ 2 _).set_ 3 _).set_ 4 _),l,Qu RG WG Cr,(((((i.setCell (p:=⟨f,0,none⟩) Bk _).setCell (p:=⟨f,1,none⟩) Bk _).setCell (p:=⟨f,2,none⟩) Bk _).setCell (p:=⟨f,3,none⟩) Bk _).setCell (p:=⟨f,4,none⟩) Bk _)⟩
  case rest=>
   obtain⟨q,r,F,C,t,H,G,rfl,rfl,KQ,l,RG,bw⟩:=hcut;obtain⟨w5,rfl⟩: ∃x:World,x=wc:=⟨_,rfl⟩;have T5:=T1.below bw;have eq:=KQ.cell;have ai:=J w5 bw;clear M J bA hA hB KZ hc0 hc1 hc2 a
   by_cases h2:gc=0
   ·subst h2;have O:Hid (R=cdT (ivT (mdL d) (mdH d)) (mdC d)):=HR.out.trans (AA rfl);obtain⟨U,W⟩:=Z rfl;have N:=HM ⟨⟨r,F,C⟩,⟨t,H,G⟩⟩ w5 l RG;simp only at N;have HI:=λ(V:World) (B:Below w5 w5 V)=>Ob (mdL d) (mdH d) V U.1 U.2 W.1 W.2 (T5.below B);have HU:=λ(V:World) (B:Below w5 w5 V)=>Ep (ivT (mdL d) (mdH d)) (mdC d) V Y.1 Y.2 (T5.below B);generalize cdT (ivT (mdL d) (mdH d)) (mdC d)=RR at*;generalize ivT (mdL d) (mdH d)=I at*;generalize mdL d=x at*;generalize mdH d=y at*;generalize mdC d=z at*;clear HR HM ai Z U W Y l RG
    go_upto_region 8 with(go_at_call 191;refine N.mono ?_;rintro e w6 ⟨rfl,b6⟩)
    have al:Below w6 w6 (w6.alloc (.cells (Zii x y) 136)):=BU;have X:=Br w6 136 (Zii x y);have b7:=An b6 al;clear al eq KQ N;generalize w6.alloc _=w7 at X b7⊢;generalize w6.heap.size=q6 at X⊢;have eX:=X.cell
    go_wp2_with (first|(go_at_call 183;refine(HI _ b7).mono ?_;rintro e w8 ⟨rfl,b8⟩;have b9:=(An b7 b8))|(go_at_call 146;refine(HU _ b9).mono ?_;rintro e w9 ⟨rfl,aC⟩))
    go_ret;rw[O.out];exact⟨rfl,n.trans ((bw.trans ((An b9 aC).mono bw.size)).mono n.size)⟩
   ·have O:Hid (R=erT gc):=HR.out.trans (Ak h2);have an:(gc !=0)=true:=by rw[bne_iff_ne];exact h2
    generalize erT gc=E at*;clear HR HM Z h2 Q
    go_wp2_with (go_at_call 100;refine ai.mono ?_;rintro e w6 ⟨rfl,b6⟩)
    go_ret;rw[O.out];exact⟨rfl,n.trans ((An bw b6).mono n.size)⟩
 ·have HR:Hid (R=erT cd):=HT.out.trans (Ak h);have an:(cd !=0)=true:=by rw[bne_iff_ne];exact h
  generalize erT cd=E at*;clear HT h hcb
  go_wp2_with (go_at_call 100;refine(HF _ n).mono ?_;rintro e w2 ⟨rfl,b2⟩)
  go_ret;rw[HR.out];exact⟨rfl,(An n b2)⟩
theorem ZK (A:Option Addr) (n c:Nat) (w:World) (_:n<=9223372036854775807):
  (GK 149 #[.slice A n c] w (ZI n):Prop):=by
 go_enter func149,ntmps149
 go_wp2;go_ret;exact⟨rfl,rfl⟩
theorem dR {w:World} {g:Nat} {D S L:Hd} {b:Ae} (K:Bz w g D S L b):L.n=lgN b:=by
 have a:b.log.length=L.n*7:=by have:=K.l.len;unfold ints at this;simpa using this
 unfold lgN;omega
theorem Xw (s:Bs) (A:Option Addr) (n c:Nat) (g:Nat) (D S L:Hd) (b:Ae) (w:World) (K:Bz w g D S L b) (ok:jw b) (i:n=1) (d:Rd w A n (ints (Co s))) (T:CK w):
  Calls prog 104 #[.pointer (some ⟨g,0,none⟩),.string ⟨#[116,114,97,99,101]⟩,.slice A n c] w (CU (trT b (cmI s 0)) w):=by
 subst i;have H:=Wq (cmI s 0) g D S L b w K ok T;obtain⟨a,rfl⟩: ∃a,A=some a:=by obtain⟨a,h,_⟩:=d.int (k:=0) Ah;exact⟨a,h⟩
 have hc0:w.cell? a=some (.int .i64 (cmI s 0)):=Pn d Ah;unfold CU at*;generalize trT b (cmI s 0)=R at*;generalize cmI s 0=l at*;clear K ok d T
 go_enter func104,ntmps104
 go_wp2_with (go_at_call 140;refine H.mono ?_;rintro e j ⟨rfl,f⟩)
 go_ret;exact⟨rfl,f⟩
theorem YX (s:Bs) (A:Option Addr) (n c:Nat) (g:Nat) (D S L:Hd) (b:Ae) (w:World) (K:Bz w g D S L b) (ok:jw b) (f:n=6) (a:Rd w A n (ints (Co s))) (T:CK w):
  Calls prog 104 #[.pointer (some ⟨g,0,none⟩),.string ⟨#[109,101,101,116]⟩,.slice A n c] w (CU (meT b s) w):=by
 subst f;have H:=cG s A c g D S L b w K ok a T;unfold CU at*;generalize meT b s=R at*;clear K ok a T
 go_enter func104,ntmps104
 go_wp2_with (go_at_call 141;refine H.mono ?_;rintro e i ⟨rfl,d⟩)
 go_ret;exact⟨rfl,d⟩
theorem Xv (s:Bs) (A:Option Addr) (n c:Nat) (g:Nat) (D S L:Hd) (b:Ae) (w:World) (K:Bz w g D S L b) (ok:jw b) (f:n=3) (a:Rd w A n (ints (Co s))) (T:CK w):
  Calls prog 104 #[.pointer (some ⟨g,0,none⟩),.string ⟨#[99,108,101,97,110]⟩,.slice A n c] w (CU (clT b s) w):=by
 subst f;have H:=SZ s A c g D S L b w K ok a T;unfold CU at*;generalize clT b s=R at*;clear K ok a T
 go_enter func104,ntmps104
 go_wp2_with (go_at_call 143;refine H.mono ?_;rintro e i ⟨rfl,d⟩)
 go_ret;exact⟨rfl,d⟩
theorem YW (s:Bs) (A:Option Addr) (n c:Nat) (g:Nat) (D S L:Hd) (b:Ae) (w:World) (K:Bz w g D S L b) (ok:jw b) (f:n=3) (a:Rd w A n (ints (Co s))) (T:CK w):
  Calls prog 104 #[.pointer (some ⟨g,0,none⟩),.string ⟨#[103,114,105,100]⟩,.slice A n c] w (CU (grT b s) w):=by
 subst f;have H:=To s A c g D S L b w K ok a T;unfold CU at*;generalize grT b s=R at*;clear K ok a T
 go_enter func104,ntmps104
 go_wp2_with (go_at_call 144;refine H.mono ?_;rintro e i ⟨rfl,d⟩)
 go_ret;exact⟨rfl,d⟩
theorem Q2 (s:Bs) (A:Option Addr) (n c:Nat) (g:Nat) (D S L:Hd) (b:Ae) (w:World) (K:Bz w g D S L b) (ok:jw b) (d:n=0) (f:Rd w A n (ints (Co s))) (T:CK w):
  Calls prog 104 #[.pointer (some ⟨g,0,none⟩),.string ⟨#[115,104,111,97,108,101,115,116]⟩,.slice A n c] w (CU (shT b) w):=by
 subst d;have H:=Su g D S L b w K ok T;unfold CU at*;generalize shT b=R at*;clear K ok f T
 go_enter func104,ntmps104
 go_wp2_with (go_at_call 142;refine H.mono ?_;rintro e i ⟨rfl,a⟩)
 go_ret;exact⟨rfl,a⟩
theorem U0 (s:Bs) (A:Option Addr) (n c:Nat) (g:Nat) (D S L:Hd) (b:Ae) (w:World) (K:Bz w g D S L b) (ok:jw b) (H:n=3) (i:Rd w A n (ints (Co s))) (T:CK w):
  Calls prog 104 #[.pointer (some ⟨g,0,none⟩),.string ⟨#[99,104,97,110,99,101]⟩,.slice A n c] w (CU (chT s) w):=by
 subst H;have j:=λW=>Kf (cmI s 0) (cmI s 1) (cmI s 2) W;unfold Ww at j;have hv:=aK (cmI s 0) (cmI s 1) (cmI s 2);have r:=aJ (cmI s 0) (cmI s 1) (cmI s 2);have z:=λ(V:World) (l:Below w w V)=>BY (tcV (cmI s 0) (cmI s 1) (cmI s 2)) V Aa hv.2 (T.below l);have t:=λ(V:World) (l:Below w w V)=>Ep (Lib.itoa (tcV (cmI s 0) (cmI s 1) (cmI s 2))) (tcC (cmI s 0) (cmI s 1) (cmI s 2)) V r.1 r.2 (T.below l);have y:chT s=cdT (Lib.itoa (tcV (cmI s 0) (cmI s 1) (cmI s 2))) (tcC (cmI s 0) (cmI s 1) (cmI s 2)):=rfl;rw[<-y] at t;clear y;obtain⟨a,rfl⟩: ∃a,A=some a:=by obtain⟨a,h,_⟩:=i.int (k:=0) Ah;exact⟨a,h⟩
 have hc0:w.cell? a=some (.int .i64 (cmI s 0)):=Pn i Ah;have hc1:w.cell? ⟨a.block,a.off+1,none⟩=some (.int .i64 (cmI s 1)):=GV i Ah Ah;have hc2:w.cell? ⟨a.block,a.off+2,none⟩=some (.int .i64 (cmI s 2)):=GV i Ah Ah;unfold CU at*;generalize chT s=R at*;generalize Lib.itoa (tcV (cmI s 0) (cmI s 1) (cmI s 2))=I at*;generalize tcV (cmI s 0) (cmI s 1) (cmI s 2)=v at*;generalize tcC (cmI s 0) (cmI s 1) (cmI s 2)=q at*;generalize cmI s 0=J at*;generalize cmI s 1=M at*;generalize cmI s 2=N at*;have d:=Gr w a hc0;have G:=j w.drew;clear K ok i T j hv r
 go_enter func104,ntmps104
 go_upto_region 13 with fail
 go_region_held3 (λw'=>w'.cell? a=some (.int .i64 J)∧w'.cell? ⟨a.block,a.off+1,none⟩=some (.int .i64 M)∧w'.cell? ⟨a.block,a.off+2,none⟩=some (.int .i64 N))
  (exact Cs)
  (first
   |(go_at_call 145;(with_reducible refine G.mono ?_);rintro e u ⟨rfl,B⟩;have f:Below w w u:=EE (m:=1) B;have hd0:=Cg f hc0 d;have hd1:=Cg f hc1 d;have hd2:=(JX f (p:=⟨a.block,a.off+2,none⟩) d).trans hc2))
 go_wp2_with (first|(go_at_call 134;refine(z _ f).mono ?_;rintro e O ⟨rfl,C⟩;have x:=(An f C))|(go_at_call 146;refine(t _ x).mono ?_;rintro e Q ⟨rfl,E⟩;have F:=(An x E)))
 go_ret;exact⟨rfl,F⟩
theorem YY (s:Bs) (A:Option Addr) (n c:Nat) (g:Nat) (D S L:Hd) (b:Ae) (w:World) (K:Bz w g D S L b) (ok:jw b) (J:n=3) (d:Rd w A n (ints (Co s))) (T:CK w):
  Calls prog 104 #[.pointer (some ⟨g,0,none⟩),.string ⟨#[112,108,97,110]⟩,.slice A n c] w (CU (plT s) w):=by
 subst J;have j:=λW=>LM (cmI s 0) (cmI s 1) (cmI s 2) W;unfold Ny at j;have hv:=Zp (cmI s 0) (cmI s 1) (cmI s 2);have r:=Zk (cmI s 0) (cmI s 1) (cmI s 2);have z:=λ(A:Option Addr) (n c:Nat) (V:World) (l:Below w w V) (d:Rd V A n (ints (evQ (cmI s 0) (cmI s 1) (cmI s 2))))=>FN A n c (evQ (cmI s 0) (cmI s 1) (cmI s 2)) [32] V (by have:=d.len;omega) Ah d hv.2 (T.below l)
 have t:=λ(V:World) (l:Below w w V)=>Ep (joinI [32] (evQ (cmI s 0) (cmI s 1) (cmI s 2))) (evC (cmI s 0) (cmI s 1) (cmI s 2)) V r.1 r.2 (T.below l);have y:plT s=cdT (joinI [32] (evQ (cmI s 0) (cmI s 1) (cmI s 2))) (evC (cmI s 0) (cmI s 1) (cmI s 2)):=rfl;rw[<-y] at t;clear y;obtain⟨a,rfl⟩: ∃a,A=some a:=by obtain⟨a,h,_⟩:=d.int (k:=0) Ah;exact⟨a,h⟩
 have hc0:w.cell? a=some (.int .i64 (cmI s 0)):=Pn d Ah;have hc1:w.cell? ⟨a.block,a.off+1,none⟩=some (.int .i64 (cmI s 1)):=GV d Ah Ah;have hc2:w.cell? ⟨a.block,a.off+2,none⟩=some (.int .i64 (cmI s 2)):=GV d Ah Ah;unfold CU at*;generalize plT s=R at*;generalize joinI [32] (evQ (cmI s 0) (cmI s 1) (cmI s 2))=I at*;generalize evQ (cmI s 0) (cmI s 1) (cmI s 2)=v at*;generalize evC (cmI s 0) (cmI s 1) (cmI s 2)=q at*;generalize cmI s 0=M at*;generalize cmI s 1=N at*;generalize cmI s 2=O at*;have f:=Gr w a hc0;have H:=j w.drew;clear K ok d T j hv r
 go_enter func104,ntmps104
 go_upto_region 16 with fail
 go_region_held3 (λw'=>w'.cell? a=some (.int .i64 M)∧w'.cell? ⟨a.block,a.off+1,none⟩=some (.int .i64 N)∧w'.cell? ⟨a.block,a.off+2,none⟩=some (.int .i64 O))
  (exact Cs)
  (first
   |(go_at_call 147;(with_reducible refine H.mono ?_);rintro e u ⟨Q,X,U,rfl,B,C⟩;have i:Below w w u:=EE (m:=1) C;have hd0:=Cg i hc0 f;have hd1:=Cg i hc1 f;have hd2:=(JX i (p:=⟨a.block,a.off+2,none⟩) f).trans hc2))
 go_wp2_with (first|(go_at_call 148;refine(z _ _ _ _ i B).mono ?_;rintro e Y ⟨rfl,E⟩;have x:=(An i E))|(go_at_call 146;refine(t _ x).mono ?_;rintro e Z ⟨rfl,F⟩;have G:=(An x F)))
 go_ret;exact⟨rfl,G⟩
theorem bH (s:Bs) (A:Option Addr) (n c:Nat) (g:Nat) (D S L:Hd) (b:Ae) (w:World) (K:Bz w g D S L b) (ok:jw b) (a:n=0) (q:Rd w A n (ints (Co s))) (T:CK w):
  Calls prog 104 #[.pointer (some ⟨g,0,none⟩),.string ⟨#[108,111,103]⟩,.slice A n c] w (CU (Lib.itoa (lgN b:Int)) w):=by
 subst a;have a:=dR K;have f:lgN b<=200:=ok.n;have d:=K.blk;have p:=d.cell;rw[a] at p;have j:=λV=>ZK L.A (lgN b) L.c V Aa;have i:=λ(V:World) (m:Below w w V)=>BY (lgN b:Int) V Aa Aa (T.below m);unfold CU at*;generalize Lib.itoa (lgN b:Int)=R at*;generalize lgN b=k at*;clear K d ok q T a
 go_enter func104,ntmps104
 go_wp2_with (first|(go_at_call 149;refine(j _).mono ?_;rintro e r ⟨rfl,rfl⟩)|(go_at_call 134;refine(i _ G6).mono ?_;rintro e t ⟨rfl,l⟩))
 go_ret;exact⟨rfl,l⟩
theorem Xu (s:Bs) (A:Option Addr) (n c:Nat) (g:Nat) (D S L:Hd) (b:Ae) (w:World) (K:Bz w g D S L b) (ok:jw b) (i:n=0) (B:Rd w A n (ints (Co s))) (T:CK w):
  Calls prog 104 #[.pointer (some ⟨g,0,none⟩),.string ⟨#[99,104,101,99,107]⟩,.slice A n c] w (CU (Lib.itoa (chkFold (lgT b.log (lgN b)))) w):=by
 subst i;have i:=dR K;have d:lgN b<=200:=ok.n;have a:CP b.log (lgN b)=true:=ok.log;have p:=K.blk;have y:=p.cell;rw[i] at y;have j:=K.l.rd;rw[i] at j;have t:=Uf L.A (lgN b) L.c b.log w d a j T;have f:=Kq a (lgN b) Bk;have m:=λV=>Dn ⟨(lgT b.log (lgN b)).toArray⟩ V (by rw[Bj];unfold maxLen;omega)
 rw[show(ByteArray.mk (lgT b.log (lgN b)).toArray).data.toList=lgT b.log (lgN b) from rfl] at m;have z:=CV (lgT b.log (lgN b));have r:=λ(V:World) (x:Below w w V)=>BY (chkFold (lgT b.log (lgN b))) V Aa Aa (T.below x);unfold CU at*;generalize Lib.itoa (chkFold (lgT b.log (lgN b)))=R at*;generalize chkFold (lgT b.log (lgN b))=C at*;generalize lgT b.log (lgN b)=tx at*;generalize lgN b=k at*;clear K p ok B T i j a d f
 go_enter func104,ntmps104
 go_wp2_with (first|(go_at_call 151;refine t.mono ?_;rintro e F ⟨rfl,q⟩)|(go_at_call 150;refine(m _).mono ?_;rintro e E ⟨rfl,rfl⟩)|(go_at_call 134;refine(r _ q).mono ?_;rintro e G ⟨rfl,u⟩;have v:=(An q u)))
 go_ret;exact⟨rfl,v⟩
theorem WE {B g:Nat} {D S L:Hd} {b:Ae} {w:World} (K:F9 B w g D S L b) {q:Nat} (h:w<=q):Qb g D S L q:=by
 have a:=K.box.blk.lt;refine⟨by omega,λe=> ?_,λe=> ?_,λe=> ?_⟩
 ·have:=K.box.d.rowlt q e;omega
 ·have:=K.box.s.rowlt q e;omega
 ·have:=(K.box.l.rowlt q e).2;omega
theorem Qb.below {B g:Nat} {D S L:Hd} {b:Ae} {w:World} (K:F9 B w g D S L b) {A:Option Addr} {n k:Nat} (d:n=k) (c:0<k) (h: ∀a,A=some a->0<n->w<=a.block): ∀a,A=some a->Qb g D S L a.block:=λa e=>WE K (h a e Aa)
theorem Vd (t:Bs) (V:World):(YC 101 #[.string ⟨([112,114,111,102,105,108,101,32]++t:Bs).toArray⟩,.string ⟨#[112,114,111,102,105,108,101,32]⟩] V (.tuple #[.string ⟨t.toArray⟩,.bool true]):Prop):=by
 refine(Gn ⟨([112,114,111,102,105,108,101,32]++t:Bs).toArray⟩ ⟨#[112,114,111,102,105,108,101,32]⟩ V).mono λe d h=>⟨?_,h.2⟩;have b:e=.returned (.tuple #[.string ⟨(Lib.trimPrefix ([112,114,111,102,105,108,101,32]++t) [112,114,111,102,105,108,101,32]).toArray⟩,.bool (Lib.hasPrefix ([112,114,111,102,105,108,101,32]++t) [112,114,111,102,105,108,101,32])]):=h.1;have a:Lib.hasPrefix ([112,114,111,102,105,108,101,32]++t) [112,114,111,102,105,108,101,32]=true:=by unfold Lib.hasPrefix;rw[List.isPrefixOf_iff_prefix];exact⟨t,rfl⟩
 have c:Lib.trimPrefix ([112,114,111,102,105,108,101,32]++t) [112,114,111,102,105,108,101,32]=t:=by unfold Lib.trimPrefix;rw[AA a];rfl
 rw[b,a,c]
theorem CI (s:Bs) (h:Lib.hasPrefix s [112,114,111,102,105,108,101,32]=false) (V:World):(YC 101 #[.string ⟨s.toArray⟩,.string ⟨#[112,114,111,102,105,108,101,32]⟩] V (.tuple #[.string ⟨s.toArray⟩,.bool false]):Prop):=by
 refine(Gn ⟨s.toArray⟩ ⟨#[112,114,111,102,105,108,101,32]⟩ V).mono λe c k=>⟨?_,k.2⟩;have a:e=.returned (.tuple #[.string ⟨(Lib.trimPrefix s [112,114,111,102,105,108,101,32]).toArray⟩,.bool (Lib.hasPrefix s [112,114,111,102,105,108,101,32])]):=k.1;have b:Lib.trimPrefix s [112,114,111,102,105,108,101,32]=s:=by unfold Lib.trimPrefix;rw[Ak (by rw[h];decide)]
 rw[a,h,b]
theorem CY {s:Bs} {w:World} (hs:s.length<=100000) (T:Dq w) (g:Dm s=true) {l:Bs} (hw:cmH s=l) {k:Nat} (r:(Co s).length=k):
  Calls prog 57 #[.string ⟨s.toArray⟩] w λe a=> ∃(A:Option Addr) (c:Nat),e=.returned (.tuple #[.string ⟨l.toArray⟩,.slice A k c,.bool true])∧Rd a A k (ints (Co s))∧(∀b,A=some b->0<k->w<=b.block)∧Below w w a:=by
 refine(Iq s w Aa T).mono ?_;rintro e a ⟨u,A,n,c,i,j,m⟩;obtain⟨d,_,f,p,q⟩:=j g;rw[hw] at d;rw[r] at f;subst d;subst f;exact⟨A,c,by rw[i,g],p,q,m⟩
theorem ZN (s:Bs) (B g:Nat) (D S L:Hd) (b:Ae) (w:World) (K:F9 B w g D S L b) (hs:s.length<=100000) (T:Dq w) (a:Dm s=false):
  Calls prog 63 #[.pointer (some ⟨g,0,none⟩),.string ⟨s.toArray⟩] w (Dw B g D S L (bsNext b s) (bsOut b s) w):=by
 have d:=Iq s w Aa T;unfold fm at d;rw[a] at d;rw[(Ni (b:=b) a).1,(Ni (b:=b) a).2];unfold Dw;have i:=λ(V:World) (k:Below w w V)=>Cx 6 V Ah Ah (T.below k).tab;generalize erT 6=E at*;clear a T
 go_enter func63,ntmps63
 go_wp2_with (first|(go_at_call 57;refine d.mono ?_;rintro e l ⟨u,A,n,c,rfl,-,f⟩)|(go_at_call 100;refine(i _ f).mono ?_;rintro e m ⟨rfl,j⟩))
 go_ret;exact⟨rfl,Cw K (An f j)⟩
theorem RW (s:Bs) (B g:Nat) (D S L:Hd) (b:Ae) (w:World) (K:F9 B w g D S L b) (hs:s.length<=100000) (T:Dq w) (d:Dm s=true) (hw:cmH s=Av):
  Calls prog 63 #[.pointer (some ⟨g,0,none⟩),.string ⟨s.toArray⟩] w (Dw B g D S L (bsNext b s) (bsOut b s) w):=by
 have k:=CY hs T d hw rfl;rw[(Gk (b:=b) d hw).1,(Gk (b:=b) d hw).2]
 have a:(cmT s).length<=100000:=by
  have q:=AN List.length (Na hw d).1;rw[Dy] at q;omega
 have l:=λ(V:World) (n:Below w w V)=>OJ (cmT s) B g D S L b V (K.below n) a (T.below n);have j:=λV=>Vd (cmT s) V;rw[<-(Na hw d).1] at j;generalize(if Fm (cmT s)=true then {b with depths:=rpD (cmT s),speeds:=rpV (cmT s),source:=0} else b)=r at*;generalize(if Fm (cmT s)=true then H5 else erT 6)=t at*;generalize cmT s=x at*;unfold Dw at*;clear d T a K
 go_enter func63,ntmps63
 go_upto_region 2 with(go_at_call 57;refine k.mono ?_;rintro e v ⟨A,c,rfl,R,f,m⟩)
 clear k;clear R f;have i:=l _ m;clear l
 go_wp2_with (first|(go_at_call 101;refine(j _).mono ?_;rintro e u ⟨rfl,rfl⟩)|(go_at_call 102;refine i.mono ?_;rintro e y ⟨rfl,p⟩))
 go_ret;exact⟨rfl,Hc m p⟩
theorem Ue (s:Bs) (B g:Nat) (D S L:Hd) (b:Ae) (w:World) (K:F9 B w g D S L b) (hs:s.length<=100000) (T:Dq w) (d:Dm s=true) (hw:cmH s=AM) (n:(Co s).length=1):
  Calls prog 63 #[.pointer (some ⟨g,0,none⟩),.string ⟨s.toArray⟩] w (Dw B g D S L (bsNext b s) (bsOut b s) w):=by
 have l:=CY hs T d hw n;have f:=Ai (Hp (b:=b) d hw).1;have i:=Ai (Hp (b:=b) d hw).2;have p:=λV=>CI s (DN jv) V;unfold Dw;generalize bsOut b s=t at*;generalize bsNext b s=q at*;clear d
 go_enter func63,ntmps63
 go_upto_region 2 with(go_at_call 57;refine l.mono ?_;rintro e k ⟨A,c,rfl,R,a,j⟩)
 clear l
 have m:Calls prog 103 #[.pointer (some ⟨g,0,none⟩),.string ⟨AM.toArray⟩,.slice A 1 c] k (GG B g D S L q t k):=by
  rw[f.out,i.out];exact jU A c (Co s) B g D S L b k (K.below j) R (Qb.below K rfl Ah a) (T.below j).tab
 unfold GG at m;clear R a K T hw n
 go_wp2_with (first|(go_at_call 101;refine(p _).mono ?_;rintro e u ⟨rfl,rfl⟩)|(go_at_call 103;refine m.mono ?_;rintro e v ⟨rfl,r⟩))
 go_ret;exact⟨rfl,Hc j r⟩
theorem ZP (s:Bs) (B g:Nat) (D S L:Hd) (b:Ae) (w:World) (K:F9 B w g D S L b) (hs:s.length<=100000) (T:Dq w) (d:Dm s=true) (hw:cmH s=Ca) (n:(Co s).length=3):
  Calls prog 63 #[.pointer (some ⟨g,0,none⟩),.string ⟨s.toArray⟩] w (Dw B g D S L (bsNext b s) (bsOut b s) w):=by
 have l:=CY hs T d hw n;have f:=Ai (Nk (b:=b) d hw).1;have i:=Ai (Nk (b:=b) d hw).2;have p:=λV=>CI s (DN jv) V;unfold Dw;generalize bsOut b s=t at*;generalize bsNext b s=q at*;clear d
 go_enter func63,ntmps63
 go_upto_region 2 with(go_at_call 57;refine l.mono ?_;rintro e k ⟨A,c,rfl,R,a,j⟩)
 clear l
 have m:Calls prog 103 #[.pointer (some ⟨g,0,none⟩),.string ⟨Ca.toArray⟩,.slice A 3 c] k (GG B g D S L q t k):=by
  rw[f.out,i.out];exact U3 A c (Co s) B g D S L b k (K.below j) R (Qb.below K rfl Ah a) (T.below j).tab
 unfold GG at m;clear R a K T hw n
 go_wp2_with (first|(go_at_call 101;refine(p _).mono ?_;rintro e u ⟨rfl,rfl⟩)|(go_at_call 103;refine m.mono ?_;rintro e v ⟨rfl,r⟩))
 go_ret;exact⟨rfl,Hc j r⟩
theorem VD (s:Bs) (B g:Nat) (D S L:Hd) (b:Ae) (w:World) (K:F9 B w g D S L b) (hs:s.length<=100000) (T:Dq w) (d:Dm s=true) (hw:cmH s=AW) (n:(Co s).length=2):
  Calls prog 63 #[.pointer (some ⟨g,0,none⟩),.string ⟨s.toArray⟩] w (Dw B g D S L (bsNext b s) (bsOut b s) w):=by
 have l:=CY hs T d hw n;have f:=Ai (IW (b:=b) d hw).1;have i:=Ai (IW (b:=b) d hw).2;have p:=λV=>CI s (DN jv) V;unfold Dw;generalize bsOut b s=t at*;generalize bsNext b s=q at*;clear d
 go_enter func63,ntmps63
 go_upto_region 2 with(go_at_call 57;refine l.mono ?_;rintro e k ⟨A,c,rfl,R,a,j⟩)
 clear l
 have m:Calls prog 103 #[.pointer (some ⟨g,0,none⟩),.string ⟨AW.toArray⟩,.slice A 2 c] k (GG B g D S L q t k):=by
  rw[f.out,i.out];exact Rc A c (Co s) B g D S L b k (K.below j) R (Qb.below K rfl Ah a) (T.below j).tab
 unfold GG at m;clear R a K T hw n
 go_wp2_with (first|(go_at_call 101;refine(p _).mono ?_;rintro e u ⟨rfl,rfl⟩)|(go_at_call 103;refine m.mono ?_;rintro e v ⟨rfl,r⟩))
 go_ret;exact⟨rfl,Hc j r⟩
theorem VE (s:Bs) (B g:Nat) (D S L:Hd) (b:Ae) (w:World) (K:F9 B w g D S L b) (hs:s.length<=100000) (T:Dq w) (d:Dm s=true) (hw:cmH s=AX) (n:(Co s).length=5):
  Calls prog 63 #[.pointer (some ⟨g,0,none⟩),.string ⟨s.toArray⟩] w (Dw B g D S L (bsNext b s) (bsOut b s) w):=by
 have l:=CY hs T d hw n;have f:=Ai (IX (b:=b) d hw).1;have i:=Ai (IX (b:=b) d hw).2;have p:=λV=>CI s (DN jv) V;unfold Dw;generalize bsOut b s=t at*;generalize bsNext b s=q at*;clear d
 go_enter func63,ntmps63
 go_upto_region 2 with(go_at_call 57;refine l.mono ?_;rintro e k ⟨A,c,rfl,R,a,j⟩)
 clear l
 have m:Calls prog 103 #[.pointer (some ⟨g,0,none⟩),.string ⟨AX.toArray⟩,.slice A 5 c] k (GG B g D S L q t k):=by
  rw[f.out,i.out];exact Re A c (Co s) B g D S L b k (K.below j) R (Qb.below K rfl Ah a) (T.below j).tab
 unfold GG at m;clear R a K T hw n
 go_wp2_with (first|(go_at_call 101;refine(p _).mono ?_;rintro e u ⟨rfl,rfl⟩)|(go_at_call 103;refine m.mono ?_;rintro e v ⟨rfl,r⟩))
 go_ret;exact⟨rfl,Hc j r⟩
theorem XT (s:Bs) (B g:Nat) (D S L:Hd) (b:Ae) (w:World) (K:F9 B w g D S L b) (hs:s.length<=100000) (T:Dq w) (d:Dm s=true) (hw:cmH s=Bo) (n:(Co s).length=1):
  Calls prog 63 #[.pointer (some ⟨g,0,none⟩),.string ⟨s.toArray⟩] w (Dw B g D S L (bsNext b s) (bsOut b s) w):=by
 have l:=CY hs T d hw n;have f:=Ai (Kv (b:=b) d hw).1;have i:=Ai (Kv (b:=b) d hw).2;have p:=λV=>CI s (DN jv) V;unfold Dw;generalize bsOut b s=t at*;generalize bsNext b s=q at*;clear d
 go_enter func63,ntmps63
 go_upto_region 2 with(go_at_call 57;refine l.mono ?_;rintro e k ⟨A,c,rfl,R,a,j⟩)
 clear l
 have m:Calls prog 103 #[.pointer (some ⟨g,0,none⟩),.string ⟨Bo.toArray⟩,.slice A 1 c] k (GG B g D S L q t k):=by
  rw[f.out,i.out];exact SW A c (Co s) B g D S L b k (K.below j) R (Qb.below K rfl Ah a) (T.below j).tab
 unfold GG at m;clear R a K T hw n
 go_wp2_with (first|(go_at_call 101;refine(p _).mono ?_;rintro e u ⟨rfl,rfl⟩)|(go_at_call 103;refine m.mono ?_;rintro e v ⟨rfl,r⟩))
 go_ret;exact⟨rfl,Hc j r⟩
theorem VF (s:Bs) (B g:Nat) (D S L:Hd) (b:Ae) (w:World) (K:F9 B w g D S L b) (hs:s.length<=100000) (T:Dq w) (d:Dm s=true) (hw:cmH s=By) (n:(Co s).length=1):
  Calls prog 63 #[.pointer (some ⟨g,0,none⟩),.string ⟨s.toArray⟩] w (Dw B g D S L (bsNext b s) (bsOut b s) w):=by
 have l:=CY hs T d hw n;have i:=Ai (IY (b:=b) d hw).1;have j:=Ai (IY (b:=b) d hw).2;have p:=λV=>CI s (DN jv) V;unfold Dw;generalize bsOut b s=t at*;generalize bsNext b s=v at*;clear d
 go_enter func63,ntmps63
 go_upto_region 2 with(go_at_call 57;refine l.mono ?_;rintro e f ⟨A,c,rfl,R,a,k⟩)
 clear l;have q:=Dd A 1 c By g f Ah Ah Ah Ah Ah
 have m:Calls prog 104 #[.pointer (some ⟨g,0,none⟩),.string ⟨By.toArray⟩,.slice A 1 c] f (CU t f):=by
  rw[i.out];exact Xw s A 1 c g D S L b f (K.below k).box K.ok rfl R (T.below k).tab
 unfold CU at m;clear R a T hw n
 go_wp2_with (first|(go_at_call 101;refine(p _).mono ?_;rintro e u ⟨rfl,rfl⟩)|(go_at_call 103;refine q.mono ?_;rintro e u ⟨rfl,rfl⟩)|(go_at_call 104;refine m.mono ?_;rintro e x ⟨rfl,r⟩))
 go_ret;rw[j.out];exact⟨rfl,Cw K (An k r)⟩
theorem XU (s:Bs) (B g:Nat) (D S L:Hd) (b:Ae) (w:World) (K:F9 B w g D S L b) (hs:s.length<=100000) (T:Dq w) (d:Dm s=true) (hw:cmH s=Cj) (n:(Co s).length=6):
  Calls prog 63 #[.pointer (some ⟨g,0,none⟩),.string ⟨s.toArray⟩] w (Dw B g D S L (bsNext b s) (bsOut b s) w):=by
 have l:=CY hs T d hw n;have i:=Ai (Kw (b:=b) d hw).1;have j:=Ai (Kw (b:=b) d hw).2;have p:=λV=>CI s (DN jv) V;unfold Dw;generalize bsOut b s=t at*;generalize bsNext b s=v at*;clear d
 go_enter func63,ntmps63
 go_upto_region 2 with(go_at_call 57;refine l.mono ?_;rintro e f ⟨A,c,rfl,R,a,k⟩)
 clear l;have q:=Dd A 6 c Cj g f Ah Ah Ah Ah Ah
 have m:Calls prog 104 #[.pointer (some ⟨g,0,none⟩),.string ⟨Cj.toArray⟩,.slice A 6 c] f (CU t f):=by
  rw[i.out];exact YX s A 6 c g D S L b f (K.below k).box K.ok rfl R (T.below k).tab
 unfold CU at m;clear R a T hw n
 go_wp2_with (first|(go_at_call 101;refine(p _).mono ?_;rintro e u ⟨rfl,rfl⟩)|(go_at_call 103;refine q.mono ?_;rintro e u ⟨rfl,rfl⟩)|(go_at_call 104;refine m.mono ?_;rintro e x ⟨rfl,r⟩))
 go_ret;rw[j.out];exact⟨rfl,Cw K (An k r)⟩
theorem PU (s:Bs) (B g:Nat) (D S L:Hd) (b:Ae) (w:World) (K:F9 B w g D S L b) (hs:s.length<=100000) (T:Dq w) (d:Dm s=true) (hw:cmH s=AQ) (n:(Co s).length=0):
  Calls prog 63 #[.pointer (some ⟨g,0,none⟩),.string ⟨s.toArray⟩] w (Dw B g D S L (bsNext b s) (bsOut b s) w):=by
 have l:=CY hs T d hw n;have i:=Ai (FD (b:=b) d hw).1;have j:=Ai (FD (b:=b) d hw).2;have p:=λV=>CI s (DN jv) V;unfold Dw;generalize bsOut b s=t at*;generalize bsNext b s=v at*;clear d
 go_enter func63,ntmps63
 go_upto_region 2 with(go_at_call 57;refine l.mono ?_;rintro e f ⟨A,c,rfl,R,a,k⟩)
 clear l;have q:=Dd A 0 c AQ g f Ah Ah Ah Ah Ah
 have m:Calls prog 104 #[.pointer (some ⟨g,0,none⟩),.string ⟨AQ.toArray⟩,.slice A 0 c] f (CU t f):=by
  rw[i.out];exact Q2 s A 0 c g D S L b f (K.below k).box K.ok rfl R (T.below k).tab
 unfold CU at m;clear R a T hw n
 go_wp2_with (first|(go_at_call 101;refine(p _).mono ?_;rintro e u ⟨rfl,rfl⟩)|(go_at_call 103;refine q.mono ?_;rintro e u ⟨rfl,rfl⟩)|(go_at_call 104;refine m.mono ?_;rintro e x ⟨rfl,r⟩))
 go_ret;rw[j.out];exact⟨rfl,Cw K (An k r)⟩
theorem VC (s:Bs) (B g:Nat) (D S L:Hd) (b:Ae) (w:World) (K:F9 B w g D S L b) (hs:s.length<=100000) (T:Dq w) (d:Dm s=true) (hw:cmH s=Bw) (n:(Co s).length=3):
  Calls prog 63 #[.pointer (some ⟨g,0,none⟩),.string ⟨s.toArray⟩] w (Dw B g D S L (bsNext b s) (bsOut b s) w):=by
 have l:=CY hs T d hw n;have i:=Ai (IV (b:=b) d hw).1;have j:=Ai (IV (b:=b) d hw).2;have p:=λV=>CI s (DN jv) V;unfold Dw;generalize bsOut b s=t at*;generalize bsNext b s=v at*;clear d
 go_enter func63,ntmps63
 go_upto_region 2 with(go_at_call 57;refine l.mono ?_;rintro e f ⟨A,c,rfl,R,a,k⟩)
 clear l;have q:=Dd A 3 c Bw g f Ah Ah Ah Ah Ah
 have m:Calls prog 104 #[.pointer (some ⟨g,0,none⟩),.string ⟨Bw.toArray⟩,.slice A 3 c] f (CU t f):=by
  rw[i.out];exact Xv s A 3 c g D S L b f (K.below k).box K.ok rfl R (T.below k).tab
 unfold CU at m;clear R a T hw n
 go_wp2_with (first|(go_at_call 101;refine(p _).mono ?_;rintro e u ⟨rfl,rfl⟩)|(go_at_call 103;refine q.mono ?_;rintro e u ⟨rfl,rfl⟩)|(go_at_call 104;refine m.mono ?_;rintro e x ⟨rfl,r⟩))
 go_ret;rw[j.out];exact⟨rfl,Cw K (An k r)⟩
theorem XS (s:Bs) (B g:Nat) (D S L:Hd) (b:Ae) (w:World) (K:F9 B w g D S L b) (hs:s.length<=100000) (T:Dq w) (d:Dm s=true) (hw:cmH s=Ci) (n:(Co s).length=3):
  Calls prog 63 #[.pointer (some ⟨g,0,none⟩),.string ⟨s.toArray⟩] w (Dw B g D S L (bsNext b s) (bsOut b s) w):=by
 have l:=CY hs T d hw n;have i:=Ai (Ku (b:=b) d hw).1;have j:=Ai (Ku (b:=b) d hw).2;have p:=λV=>CI s (DN jv) V;unfold Dw;generalize bsOut b s=t at*;generalize bsNext b s=v at*;clear d
 go_enter func63,ntmps63
 go_upto_region 2 with(go_at_call 57;refine l.mono ?_;rintro e f ⟨A,c,rfl,R,a,k⟩)
 clear l;have q:=Dd A 3 c Ci g f Ah Ah Ah Ah Ah
 have m:Calls prog 104 #[.pointer (some ⟨g,0,none⟩),.string ⟨Ci.toArray⟩,.slice A 3 c] f (CU t f):=by
  rw[i.out];exact YW s A 3 c g D S L b f (K.below k).box K.ok rfl R (T.below k).tab
 unfold CU at m;clear R a T hw n
 go_wp2_with (first|(go_at_call 101;refine(p _).mono ?_;rintro e u ⟨rfl,rfl⟩)|(go_at_call 103;refine q.mono ?_;rintro e u ⟨rfl,rfl⟩)|(go_at_call 104;refine m.mono ?_;rintro e x ⟨rfl,r⟩))
 go_ret;rw[j.out];exact⟨rfl,Cw K (An k r)⟩
theorem Ud (s:Bs) (B g:Nat) (D S L:Hd) (b:Ae) (w:World) (K:F9 B w g D S L b) (hs:s.length<=100000) (T:Dq w) (d:Dm s=true) (hw:cmH s=Bi) (n:(Co s).length=3):
  Calls prog 63 #[.pointer (some ⟨g,0,none⟩),.string ⟨s.toArray⟩] w (Dw B g D S L (bsNext b s) (bsOut b s) w):=by
 have l:=CY hs T d hw n;have i:=Ai (Ho (b:=b) d hw).1;have j:=Ai (Ho (b:=b) d hw).2;have p:=λV=>CI s (DN jv) V;unfold Dw;generalize bsOut b s=t at*;generalize bsNext b s=v at*;clear d
 go_enter func63,ntmps63
 go_upto_region 2 with(go_at_call 57;refine l.mono ?_;rintro e f ⟨A,c,rfl,R,a,k⟩)
 clear l;have q:=Dd A 3 c Bi g f Ah Ah Ah Ah Ah
 have m:Calls prog 104 #[.pointer (some ⟨g,0,none⟩),.string ⟨Bi.toArray⟩,.slice A 3 c] f (CU t f):=by
  rw[i.out];exact U0 s A 3 c g D S L b f (K.below k).box K.ok rfl R (T.below k).tab
 unfold CU at m;clear R a T hw n
 go_wp2_with (first|(go_at_call 101;refine(p _).mono ?_;rintro e u ⟨rfl,rfl⟩)|(go_at_call 103;refine q.mono ?_;rintro e u ⟨rfl,rfl⟩)|(go_at_call 104;refine m.mono ?_;rintro e x ⟨rfl,r⟩))
 go_ret;rw[j.out];exact⟨rfl,Cw K (An k r)⟩
theorem XW (s:Bs) (B g:Nat) (D S L:Hd) (b:Ae) (w:World) (K:F9 B w g D S L b) (hs:s.length<=100000) (T:Dq w) (d:Dm s=true) (hw:cmH s=Ck) (n:(Co s).length=3):
  Calls prog 63 #[.pointer (some ⟨g,0,none⟩),.string ⟨s.toArray⟩] w (Dw B g D S L (bsNext b s) (bsOut b s) w):=by
 have l:=CY hs T d hw n;have i:=Ai (Kx (b:=b) d hw).1;have j:=Ai (Kx (b:=b) d hw).2;have p:=λV=>CI s (DN jv) V;unfold Dw;generalize bsOut b s=t at*;generalize bsNext b s=v at*;clear d
 go_enter func63,ntmps63
 go_upto_region 2 with(go_at_call 57;refine l.mono ?_;rintro e f ⟨A,c,rfl,R,a,k⟩)
 clear l;have q:=Dd A 3 c Ck g f Ah Ah Ah Ah Ah
 have m:Calls prog 104 #[.pointer (some ⟨g,0,none⟩),.string ⟨Ck.toArray⟩,.slice A 3 c] f (CU t f):=by
  rw[i.out];exact YY s A 3 c g D S L b f (K.below k).box K.ok rfl R (T.below k).tab
 unfold CU at m;clear R a T hw n
 go_wp2_with (first|(go_at_call 101;refine(p _).mono ?_;rintro e u ⟨rfl,rfl⟩)|(go_at_call 103;refine q.mono ?_;rintro e u ⟨rfl,rfl⟩)|(go_at_call 104;refine m.mono ?_;rintro e x ⟨rfl,r⟩))
 go_ret;rw[j.out];exact⟨rfl,Cw K (An k r)⟩
theorem ZO (s:Bs) (B g:Nat) (D S L:Hd) (b:Ae) (w:World) (K:F9 B w g D S L b) (hs:s.length<=100000) (T:Dq w) (d:Dm s=true) (hw:cmH s=CX) (n:(Co s).length=0):
  Calls prog 63 #[.pointer (some ⟨g,0,none⟩),.string ⟨s.toArray⟩] w (Dw B g D S L (bsNext b s) (bsOut b s) w):=by
 have l:=CY hs T d hw n;have i:=Ai (Nj (b:=b) d hw).1;have j:=Ai (Nj (b:=b) d hw).2;have p:=λV=>CI s (DN jv) V;unfold Dw;generalize bsOut b s=t at*;generalize bsNext b s=v at*;clear d
 go_enter func63,ntmps63
 go_upto_region 2 with(go_at_call 57;refine l.mono ?_;rintro e f ⟨A,c,rfl,R,a,k⟩)
 clear l;have q:=Dd A 0 c CX g f Ah Ah Ah Ah Ah
 have m:Calls prog 104 #[.pointer (some ⟨g,0,none⟩),.string ⟨CX.toArray⟩,.slice A 0 c] f (CU t f):=by
  rw[i.out];exact bH s A 0 c g D S L b f (K.below k).box K.ok rfl R (T.below k).tab
 unfold CU at m;clear R a T hw n
 go_wp2_with (first|(go_at_call 101;refine(p _).mono ?_;rintro e u ⟨rfl,rfl⟩)|(go_at_call 103;refine q.mono ?_;rintro e u ⟨rfl,rfl⟩)|(go_at_call 104;refine m.mono ?_;rintro e x ⟨rfl,r⟩))
 go_ret;rw[j.out];exact⟨rfl,Cw K (An k r)⟩
theorem VB (s:Bs) (B g:Nat) (D S L:Hd) (b:Ae) (w:World) (K:F9 B w g D S L b) (hs:s.length<=100000) (T:Dq w) (d:Dm s=true) (hw:cmH s=BE) (n:(Co s).length=0):
  Calls prog 63 #[.pointer (some ⟨g,0,none⟩),.string ⟨s.toArray⟩] w (Dw B g D S L (bsNext b s) (bsOut b s) w):=by
 have l:=CY hs T d hw n;have i:=Ai (IU (b:=b) d hw).1;have j:=Ai (IU (b:=b) d hw).2;have p:=λV=>CI s (DN jv) V;unfold Dw;generalize bsOut b s=t at*;generalize bsNext b s=v at*;clear d
 go_enter func63,ntmps63
 go_upto_region 2 with(go_at_call 57;refine l.mono ?_;rintro e f ⟨A,c,rfl,R,a,k⟩)
 clear l;have q:=Dd A 0 c BE g f Ah Ah Ah Ah Ah
 have m:Calls prog 104 #[.pointer (some ⟨g,0,none⟩),.string ⟨BE.toArray⟩,.slice A 0 c] f (CU t f):=by
  rw[i.out];exact Xu s A 0 c g D S L b f (K.below k).box K.ok rfl R (T.below k).tab
 unfold CU at m;clear R a T hw n
 go_wp2_with (first|(go_at_call 101;refine(p _).mono ?_;rintro e u ⟨rfl,rfl⟩)|(go_at_call 103;refine q.mono ?_;rintro e u ⟨rfl,rfl⟩)|(go_at_call 104;refine m.mono ?_;rintro e x ⟨rfl,r⟩))
 go_ret;rw[j.out];exact⟨rfl,Cw K (An k r)⟩
theorem ZM (s:Bs) (B g:Nat) (D S L:Hd) (b:Ae) (w:World) (K:F9 B w g D S L b) (hs:s.length<=100000) (T:Dq w):
  Calls prog 63 #[.pointer (some ⟨g,0,none⟩),.string ⟨s.toArray⟩] w (Dw B g D S L (bsNext b s) (bsOut b s) w):=by
 rcases jt (Dm s) with hb|hb
 ·by_cases h:cmH s=Av
  ·exact RW s B g D S L b w K hs T hb h
  ·rcases iL hb h with⟨a,c⟩|⟨a,c⟩|⟨a,c⟩|⟨a,c⟩|⟨a,c⟩|⟨a,c⟩|⟨a,c⟩|⟨a,c⟩|⟨a,c⟩|⟨a,c⟩|⟨a,c⟩|⟨a,c⟩|⟨a,c⟩|⟨a,c⟩
   ·exact PU s B g D S L b w K hs T hb a c
   ·exact ZO s B g D S L b w K hs T hb a c
   ·exact VB s B g D S L b w K hs T hb a c
   ·exact Ue s B g D S L b w K hs T hb a c
   ·exact XT s B g D S L b w K hs T hb a c
   ·exact VF s B g D S L b w K hs T hb a c
   ·exact VD s B g D S L b w K hs T hb a c
   ·exact ZP s B g D S L b w K hs T hb a c
   ·exact VC s B g D S L b w K hs T hb a c
   ·exact XS s B g D S L b w K hs T hb a c
   ·exact Ud s B g D S L b w K hs T hb a c
   ·exact XW s B g D S L b w K hs T hb a c
   ·exact VE s B g D S L b w K hs T hb a c
   ·exact XU s B g D S L b w K hs T hb a c
 ·exact ZN s B g D S L b w K hs T hb
