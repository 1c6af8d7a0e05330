import Derived.Test.YtkndcebhjcfphaaGreatDoorZApx1
import Derived.Test.YtkndcebhjcfphaaGreatDoorZZ
namespace Go.Proofs.YtkndcebhjcfphaaGreatDoor
open Go.RowKit Go.Proofs.Tryz
set_option maxRecDepth 100000
set_option maxHeartbeats 4000000
set_option linter.all false
theorem GD {h:AG} {b:Ae} {w:World} (ok:jw b) (g:Ag w (Ar h b)): ∀(W:World),Below w w W->
  Calls prog 169 #[.slice h.log.A h.log.n h.log.c] W λe d=> ∃(k:Hd) (v:Int),e=.returned (.tuple (FK k.A k.n k.c v (sdC b)))∧k.n=sdN b∧k.n<=k.c∧Rd d k.A (k.n*4) (ints (sdL b))∧Below W W d:=λW j=>by
 have p:b.log.length=h.log.n*7:=g.tail.tail.head.len;have a:b.log.length/7=h.log.n:=Aa;have f:=ok.n;refine(OV h.log.A h.log.n h.log.c b.log W Aa (g.tail.tail.head.below j)).mono ?_;rintro e d ⟨k,rfl,m,l,R,-,i⟩;refine⟨k,YH b.log h.log.n,?_,?_,l,?_,i⟩
 ·unfold sdC Ro;rw[a]
 ·have:=R.len;have e:sdL b=UR b.log h.log.n:=by unfold sdL V7;rw[a]
  rw[<-e,(Ld ok).1] at this;omega
 ·have e:sdL b=UR b.log h.log.n:=by unfold sdL V7;rw[a]
  rw[e];exact R
theorem LD {c:Int} (h: ¬c=0) (t:Bs):cdT t c=erT c:=Ak h
theorem NM (s:Bs) (A:Option Addr) (c:Nat) (h:AG) (b:Ae) (w:World) (ok:jw b) (K:Ag w (Ar h b)) (Z:Rd w A 0 (ints (Co s))):
  Calls prog 132 #[At h b,.string ⟨#[115,104,111,97,108,101,115,116]⟩,.slice A 0 c] w (EY (shT b) w):=by
 have d:=λ(W:World) (x:Below w w W)=>GD ok K W x;obtain⟨I,H,hv⟩:=Ld ok;have hcb:=L3 b;have j:Hid (shT b=if sdC b=0 then(if sdN b=0 then erT 4 else joinI [32] (Fw (sdL b) (shlTo (sdL b) (sdN b)))) else erT (sdC b)):=rfl;unfold EY At;obtain⟨⟨z,dn,G⟩,⟨E,Q,O⟩,⟨C,ln,N⟩⟩:=h;have F:Below w w (w.alloc (.cells (Ad z dn G E Q O b C ln N) 35)):=BU;have B:=Br w 35 (Ad z dn G E Q O b C ln N);replace d:=d _ F;simp only at d;generalize shT b=R at*;generalize sdC b=p at*;generalize sdL b=a at*;generalize sdN b=m at*;clear K Z ok
 go_enter func132,ntmps132
 go_upto_region 1 with fail
 generalize w.alloc _=w0 at*;have Y:=B.cell
 go_upto_region 2 with(go_at_call 169;refine d.mono ?_;rintro e u ⟨⟨L,f,M⟩,v,rfl,q,y,n,U⟩)
 clear d Y B
 (try simp only at q y n)
 subst q;have g:=An F U
 by_cases h:p=0
 ·subst h;rw[AA rfl] at j
  by_cases t:f=0
  ·subst t;have l:=F8 L 0 M a u hv n;rw[show dH a 0=.tuple (Zii 0 4) from rfl] at l;have k:Hid (cdT [] 4=R):=(LD Ah []).trans (j.out.trans (AA rfl)).symm;clear j
   go_wp2_with (go_at_call 170;refine l.mono ?_;rintro e w2 ⟨rfl,r⟩)
   refine AS (v:=.tuple #[.string ⟨#[]⟩,ZI 4]) (by simp[results,results132,go_sem]) rfl ⟨[],4,rfl,by decide,k.out,(An g r)⟩
  ·have l:=F8 L f M a u hv n;rw[show dH a f=.tuple (Zii (shlTo a f:Int) 0) from Ak t] at l;have hi:=Lf a (show 0<f by omega) f Bk
   have k:Hid (cdT (joinI [32] (Fw a (shlTo a f))) 0=R):=by
    unfold Hid cdT;rw[AA rfl];exact(j.out.trans (Ak t)).symm
   obtain⟨T,rfl,D⟩:=WP n hi;have S:=λ(c:Nat) (V:World) (x:Below u u V)=>L8 (some (T.add (shlTo a f*4))) c (Fw a (shlTo a f)) V (D.below x) (Qm hv hi);generalize joinI [32] (Fw a (shlTo a f))=J at*;generalize shlTo a f=i at*;clear j D n hv t
   go_wp2_with (first|(go_at_call 170;refine l.mono ?_;rintro e w2 ⟨rfl,r⟩)|(go_at_call 171;refine(S _ _ r).mono ?_;rintro e w3 ⟨rfl,X⟩))
   refine AS (v:=.tuple #[.string ⟨J.toArray⟩,ZI 0]) (by simp[results,results132,go_sem]) rfl ⟨J,0,rfl,by decide,k.out,g.trans ((An r X).mono g.size)⟩
 ·have k:Hid (cdT [] p=R):=(LD h []).trans (j.out.trans (Ak h)).symm;have hc2:(p !=0)=true:=by rw[bne_iff_ne];exact h
  clear j h;go_wp2;refine AS (v:=.tuple #[.string ⟨#[]⟩,ZI p]) (by simp[results,results132,go_sem]) rfl ⟨[],p,rfl,hcb,k.out,g⟩
theorem SX (s:Bs) (A:Option Addr) (c:Nat) (h:AG) (b:Ae) (w:World) (ok:jw b) (hr:Ag w (Ar h b)) (G:Rd w A 3 (ints (Co s))):
  Calls prog 132 #[At h b,.string ⟨#[99,108,101,97,110]⟩,.slice A 3 c] w (EY (clT b s) w):=by
 have g:=λ(W:World) (bb:Below w w W)=>GD ok hr W bb;obtain⟨F,C,hv⟩:=Ld ok;have hcb:=L3 b;have Q:0<=ccC b s∧ccC b s<=1000:=Zg _ _ _ _ _;have L:Hid (clT b s=if sdC b=0 then cdT (Lib.itoa ((Y4 b s).length:Int)++ [47]++Lib.itoa (sdN b:Int)) (ccC b s) else erT (sdC b)):=rfl;have t: ∀(r:Option Addr) (I:Nat) (V:World),Rd V r (sdN b*4) (ints (sdL b))->Calls prog 172 #[.slice r (sdN b) I,Ziii (cmI s 0) (cmI s 1) (cmI s 2)] V λe J=> ∃(h:Hd) (v:Int),e=.returned (.tuple (FK h.A h.n h.c v (ccC b s)))∧h.n=(Y4 b s).length∧Below V V J:=λr I V R=>P5 (cmI s 0) (cmI s 1) (cmI s 2) r (sdN b) I (sdL b) V Aa R
 have S:(Y4 b s).length<=sdN b:=by
  unfold Y4 fk
  split
  ·have:=M8 (sdL b) (cmI s 0) (cmI s 1) (cmI s 2) (List.range (sdN b));rw[List.length_range] at this;exact this
  ·exact AZ _
 obtain⟨d,rfl⟩: ∃d,A=some d:=by obtain⟨d,h,_⟩:=G.int (k:=0) Ah;exact⟨d,h⟩
 have hc0:w.cell? d=some (.int .i64 (cmI s 0)):=Pn G Ah;have hc1:w.cell? ⟨d.block,d.off+1,none⟩=some (.int .i64 (cmI s 1)):=GV G Ah Ah;have hc2:w.cell? ⟨d.block,d.off+2,none⟩=some (.int .i64 (cmI s 2)):=GV G Ah Ah;unfold EY At;obtain⟨⟨Z,dn,dc⟩,⟨SA,sn,sc⟩,⟨LA,ln,lc⟩⟩:=h;have b0:Below w w (w.alloc (.cells (Ad Z dn dc SA sn sc b LA ln lc) 35)):=BU;have KB:=Br w 35 (Ad Z dn dc SA sn sc b LA ln lc);replace g:=g _ b0;simp only at g;generalize clT b s=R at*;generalize sdC b=B at*;generalize sdL b=xs at*;generalize ccC b s=cc at*;generalize(Y4 b s).length=m at*;generalize sdN b=kn at*;generalize cmI s 0=x0 at*;generalize cmI s 1=x1 at*;generalize cmI s 2=x2 at*;have a:=Gr w d hc0;clear hr G ok
 go_enter func132,ntmps132
 go_upto_region 1 with fail
 generalize w.alloc _=w0 at*;have hb:=KB.cell
 go_upto_region 2 with(go_at_call 169;refine g.mono ?_;rintro e U ⟨⟨r,q,I⟩,v,rfl,E,T,O,b1⟩)
 clear g hb KB
 (try simp only at E T O)
 subst E;have f:=An b0 b1
 by_cases h:B=0
 ·subst h;have K:=Ai (L.out.trans (AA rfl)).symm;replace hc0:=Cg f hc0 a;replace hc1:=Cg f hc1 a;replace hc2:=Cg f hc2 a;replace a:=CM a f.size;have hA:=t r I U.drew O;have l1:=Bm (m:Int) Aa Aa;have l2:=Bm (q:Int) Aa Aa;clear L t
  go_upto_region 11 with fail
  go_region_held3 (λJ=>J.cell? d=some (.int .i64 x0)∧J.cell? ⟨d.block,d.off+1,none⟩=some (.int .i64 x1)∧J.cell? ⟨d.block,d.off+2,none⟩=some (.int .i64 x2))
   (exact Cs)
   (first
    |(go_at_call 172;(with_reducible refine hA.mono ?_);rintro e u ⟨⟨ar,H,av⟩,v2,rfl,D,b4⟩;have N:Below U U u:=EE (m:=1) b4;have hd0:=Cg N hc0 a;have hd1:=Cg N hc1 a;have hd2:=(JX N (p:=⟨d.block,d.off+2,none⟩) a).trans hc2))
  (try simp only at D)
  subst D;have X:=λV=>Ct H V Aa;have Y:=λV=>Ct q V Aa;rw[Ih] at X Y;generalize Lib.itoa (H:Int)=x at*;generalize Lib.itoa (q:Int)=M at*;obtain⟨j,i⟩: ∃j,x++ [47]=j:=⟨_,rfl⟩;obtain⟨y,l⟩: ∃y,j++M=y:=⟨_,rfl⟩;rw[i,l] at K;have k1:j.length=x.length+1:=by rw[<-i,Dy];rfl
  have p1: ¬9223372036854775807<x.length+1:=Aa;have p2: ¬9223372036854775807<j.length+M.length:=Aa;have s1:((⟨x.toArray⟩:ByteArray)++⟨#[47]⟩)=⟨j.toArray⟩:=by rw[<-i];exact AY x [47]
  have s2:((⟨j.toArray⟩:ByteArray)++⟨M.toArray⟩)=⟨y.toArray⟩:=by rw[<-l];exact AY j M
  have z:=An f N;clear i l k1 l1 l2 S F C hv hA O hc0 hc1 hc2 hd0 hd1 hd2 a
  go_wp2_with (first
   |(go_at_call 88;(fail_if_success (clear b5));(with_reducible refine(X _).mono ?_);rintro e w2 ⟨rfl,b5⟩)
   |(go_at_call 88;(with_reducible refine(Y _).mono ?_);rintro e w3 ⟨rfl,b6⟩))
  refine AS (v:=.tuple #[.string ⟨y.toArray⟩,ZI cc]) (by simp[results,results132,go_sem]) rfl ⟨y,cc,rfl,Q,K.out,z.trans ((An b5 b6).mono z.size)⟩
 ·have K:Hid (cdT [] B=R):=(LD h []).trans (L.out.trans (Ak h)).symm;have hc2:(B !=0)=true:=by rw[bne_iff_ne];exact h
  clear L h;go_wp2;refine AS (v:=.tuple #[.string ⟨#[]⟩,ZI B]) (by simp[results,results132,go_sem]) rfl ⟨[],B,rfl,hcb,K.out,f⟩
theorem U8 (s:Bs) (A:Option Addr) (c:Nat) (h:AG) (b:Ae) (w:World) (ok:jw b) (hr:Ag w (Ar h b)) (hn:Rd w A 3 (ints (Co s))):
  Calls prog 132 #[At h b,.string ⟨#[103,114,105,100]⟩,.slice A 3 c] w (EY (grT b s) w):=by
 have n:=λ(W:World) (bb:Below w w W)=>GD ok hr W bb;obtain⟨aI,aE,hv⟩:=Ld ok;have hcb:=L3 b;have an:0<=ggC b s∧ggC b s<=1000:=Zx _ _ _ _ _;have ap:=ZQ (ggR b s);have M:=λ(h:ggC b s=0)=>dT (dN ok h);have HT:Hid (grT b s=if sdC b=0 then(if ggC b s=0 then cdT (ivT (mdL (ggR b s)) (mdH (ggR b s))) (mdC (ggR b s)) else erT (ggC b s)) else erT (sdC b)):=rfl;have HG: ∀(T:Option Addr) (kc:Nat) (V:World),Rd V T (sdN b*4) (ints (sdL b))->Calls prog 173 #[ZI (cmI s 0),ZI (cmI s 1),ZI (cmI s 2),.slice T (sdN b) kc] V (GZ (ggR b s) (ggC b s) V):=λT kc V R=>P7 (cmI s 0) (cmI s 1) (cmI s 2) T (sdN b) kc (sdL b) V Aa R;have HM:=λ(k:Bh) (V:World) (o:Cl k) (R:Ag V (AO k (ggR b s)))=>Li k (ggR b s) V o R;unfold GZ Bd at HG;unfold Bd at HM;obtain⟨i,rfl⟩: ∃i,A=some i:=by obtain⟨i,h,_⟩:=hn.int (k:=0) Ah;exact⟨i,h⟩
 have hc0:w.cell? i=some (.int .i64 (cmI s 0)):=Pn hn Ah;have hc1:w.cell? ⟨i.block,i.off+1,none⟩=some (.int .i64 (cmI s 1)):=GV hn Ah Ah;have hc2:w.cell? ⟨i.block,i.off+2,none⟩=some (.int .i64 (cmI s 2)):=GV hn Ah Ah;unfold EY At;obtain⟨⟨DA,dn,dc⟩,⟨SA,sn,sc⟩,⟨LA,ln,lc⟩⟩:=h;have b0:Below w w (w.alloc (.cells (Ad DA dn dc SA sn sc b LA ln lc) 35)):=BU;have KB:=Br w 35 (Ad DA dn dc SA sn sc b LA ln lc);replace n:=n _ b0;simp only at n;generalize grT b s=R at*;generalize sdC b=Y at*;generalize sdL b=xs at*;generalize ggC b s=S at*;generalize ggR b s=f at*;generalize sdN b=kn at*;generalize cmI s 0=x0 at*;generalize cmI s 1=x1 at*;generalize cmI s 2=x2 at*;have a:=Gr w i hc0;clear hr hn ok
 go_enter func132,ntmps132
 go_upto_region 1 with fail
 generalize w.alloc _=w0 at*;have hb:=KB.cell
 go_upto_region 2 with(go_at_call 169;refine n.mono ?_;rintro e d ⟨⟨T,a0,kc⟩,v,rfl,aa,ao,R1,b1⟩)
 clear n hb KB
 (try simp only at aa ao R1)
 subst aa;have j:=An b0 b1
 by_cases h:Y=0
 ·subst h;have N:=Ai (HT.out.trans (AA rfl));replace hc0:=Cg j hc0 a;replace hc1:=Cg j hc1 a;replace hc2:=Cg j hc2 a;replace a:=CM a j.size;have F:=λ(V:World) (bb:Below d d V)=>HG T kc V (R1.below bb);clear HT HG R1
  go_upto_region 13 with fail
  have bA:Below d d (d.alloc (.cells Fa 181)):=BU;have hA:=F d.drew GJ;have hB:=F (d.alloc (.cells Fa 181)).drew (CO bA);have KZ:=Blk.drew (Br d 181 Fa)
  go_cut [16,17] (λaq ar wx=> ∃(q:Nat) (r:Option Addr) (C B:Nat) (t:Option Addr) (E D:Nat),aq=.pointer (some ⟨q,0,none⟩)∧ar=.int .i64 S∧Blk wx q 181 (AH f.size f.wide f.high r C B t E D)∧Cl ⟨⟨r,C,B⟩,⟨t,E,D⟩⟩∧Ag wx (AO ⟨⟨r,C,B⟩,⟨t,E,D⟩⟩ f)∧Below d d wx)
  case first=>
   go_region_held3 (λw'=>w'.cell? i=some (.int .i64 x0)∧w'.cell? ⟨i.block,i.off+1,none⟩=some (.int .i64 x1)∧w'.cell? ⟨i.block,i.off+2,none⟩=some (.int .i64 x2))
    (exact Cs)
    (first
     |(go_at_call 173;(with_reducible refine hA.mono ?_);rintro e u ⟨⟨⟨r,C,B⟩,⟨t,E,D⟩⟩,rfl,l,Q,WG,-,b4⟩;have g:Below d d u:=EE (m:=1) b4;have z0:=Cg g hc0 a;have y0:=CM a g.size;have z1:=Cg g hc1 a;have y1:=CM a g.size;have z2:=Cg g hc2 a;have y2:=CM a g.size;have O:=Br u 181 (AH f.size f.wide f.high r C B t E D);have bU:Below d d (u.alloc (.cells (AH f.size f.wide f.high r C B t E D) 181)):=g.trans (((AP _ _).alloc Bk _).mono g.size))
     |(go_at_call 173;(with_reducible refine hB.mono ?_);rintro e u ⟨⟨⟨r,C,B⟩,⟨t,E,D⟩⟩,rfl,l,Q,WG,-,b4⟩;have g:Below d d u:=(CO bA).trans (b4.mono bA.size);have z0:=Cg g hc0 a;have y0:=CM a g.size;have z1:=Cg g hc1 a;have y1:=CM a g.size;have z2:=Cg g hc2 a;have y2:=CM a g.size;have O:=KZ.below b4 KZ.lt;have fU:=O.frozen;have cU:=O.cell;have aV:=O.lt))
   all_goals
    go_wp2_with fail
    go_meet
    first
     |exact⟨u.heap.size,r,C,B,t,E,D,rfl,rfl,O,l,Q.below BU,bU⟩
     |exact⟨d.heap.size,r,C,B,t,E,D,rfl,rfl,(((((O.set_ 0 _).set_ 1 _).set_ 2 _).set_ 3 _).set_ 4 _),l,Qu Q WG Cr,(((((g.setCell (p:=⟨d,0,none⟩) Bk _).setCell (p:=⟨d,1,none⟩) Bk _).setCell (p:=⟨d,2,none⟩) Bk _).setCell (p:=⟨d,3,none⟩) Bk _).setCell (p:=⟨d,4,none⟩) Bk _)⟩
  case rest=>
   obtain⟨q,r,C,B,t,E,D,rfl,rfl,KQ,l,Q,bw⟩:=hcut;have J:=An j bw;have eq:=KQ.cell;clear F bA hA hB KZ hc0 hc1 hc2 a
   by_cases Z:S=0
   ·subst Z;have H:Hid (cdT (ivT (mdL f) (mdH f)) (mdC f)=R):=(N.out.trans (AA rfl)).symm;obtain⟨K,L⟩:=M rfl;have G:=HM ⟨⟨r,C,B⟩,⟨t,E,D⟩⟩ _ l Q;simp only at G;have HI:=λV=>Kl (mdL f) (mdH f) V K.1 K.2 L.1 L.2;generalize ivT (mdL f) (mdH f)=I at*;generalize mdL f=x at*;generalize mdH f=y at*;generalize mdC f=z at*;clear N HM M K L l Q
    go_upto_region 17 with(go_at_call 174;refine G.mono ?_;rintro e U ⟨rfl,b6⟩)
    have al:Below U U (U.alloc (.cells (Zii x y) 136)):=BU;have X:=Br U 136 (Zii x y);have b7:=An b6 al;clear al eq KQ G;generalize U.alloc _=w7 at X b7⊢;generalize U.heap.size=q6 at X⊢;have eX:=X.cell
    go_wp2_with (go_at_call 125;refine(HI _).mono ?_;rintro e w8 ⟨rfl,b8⟩)
    refine AS (v:=.tuple #[.string ⟨I.toArray⟩,ZI z]) (by simp[results,results132,go_sem]) rfl ⟨I,z,rfl,ap,H.out,J.trans ((An b7 b8).mono J.size)⟩
   ·have H:Hid (cdT [] S=R):=(LD Z []).trans (N.out.trans (Ak Z)).symm;have aH:(S !=0)=true:=by rw[bne_iff_ne];exact Z
    clear N HM M Z;go_wp2;refine AS (v:=.tuple #[.string ⟨#[]⟩,ZI S]) (by simp[results,results132,go_sem]) rfl ⟨[],S,rfl,an,H.out,J⟩
 ·have N:Hid (cdT [] Y=R):=(LD h []).trans (HT.out.trans (Ak h)).symm;have hc2:(Y !=0)=true:=by rw[bne_iff_ne];exact h
  clear HT h;go_wp2;refine AS (v:=.tuple #[.string ⟨#[]⟩,ZI Y]) (by simp[results,results132,go_sem]) rfl ⟨[],Y,rfl,hcb,N.out,j⟩
theorem Ov (s:Bs) (A:Option Addr) (c:Nat) (h:AG) (b:Ae) (w:World) (ok:jw b) (u:Ag w (Ar h b)) (r:Rd w A 0 (ints (Co s))):
  Calls prog 96 #[At h b,.string ⟨#[115,104,111,97,108,101,115,116]⟩,.slice A 0 c] w (EY (shT b) w):=by
 have i:=λ(W:World) (n:Below w w W)=>NM s A c h b W ok (u.below n) (r.below n);unfold EY At at*;generalize shT b=R at*;obtain⟨⟨g,dn,q⟩,⟨l,z,y⟩,⟨k,ln,x⟩⟩:=h;have m:Below w w (w.alloc (.cells (Ad g dn q l z y b k ln x) 35)):=BU;have B:=Br w 35 (Ad g dn q l z y b k ln x);have a:=i _ m;simp only at a;clear i u r ok
 go_enter func96,ntmps96
 go_upto_region 24 with fail
 generalize w.alloc _=E at*;have D:=B.cell
 go_wp2_with (go_at_call 132;refine a.mono ?_;rintro e F ⟨t,p,rfl,f,j,C⟩;have d:=Ai j;clear j)
 refine AS (v:=.tuple #[.string ⟨t.toArray⟩,ZI p]) (by simp[results,results96,go_sem]) rfl ⟨t,p,rfl,f,d.out,(An m C)⟩
theorem Uo (s:Bs) (A:Option Addr) (c:Nat) (h:AG) (b:Ae) (w:World) (ok:jw b) (u:Ag w (Ar h b)) (r:Rd w A 3 (ints (Co s))):
  Calls prog 96 #[At h b,.string ⟨#[99,108,101,97,110]⟩,.slice A 3 c] w (EY (clT b s) w):=by
 have i:=λ(W:World) (n:Below w w W)=>SX s A c h b W ok (u.below n) (r.below n);unfold EY At at*;generalize clT b s=R at*;obtain⟨⟨g,dn,q⟩,⟨l,z,y⟩,⟨k,ln,x⟩⟩:=h;have m:Below w w (w.alloc (.cells (Ad g dn q l z y b k ln x) 35)):=BU;have B:=Br w 35 (Ad g dn q l z y b k ln x);have a:=i _ m;simp only at a;clear i u r ok
 go_enter func96,ntmps96
 go_upto_region 24 with fail
 generalize w.alloc _=E at*;have D:=B.cell
 go_wp2_with (go_at_call 132;refine a.mono ?_;rintro e F ⟨t,p,rfl,f,j,C⟩;have d:=Ai j;clear j)
 refine AS (v:=.tuple #[.string ⟨t.toArray⟩,ZI p]) (by simp[results,results96,go_sem]) rfl ⟨t,p,rfl,f,d.out,(An m C)⟩
theorem VT (s:Bs) (A:Option Addr) (c:Nat) (h:AG) (b:Ae) (w:World) (ok:jw b) (u:Ag w (Ar h b)) (r:Rd w A 3 (ints (Co s))):
  Calls prog 96 #[At h b,.string ⟨#[103,114,105,100]⟩,.slice A 3 c] w (EY (grT b s) w):=by
 have i:=λ(W:World) (n:Below w w W)=>U8 s A c h b W ok (u.below n) (r.below n);unfold EY At at*;generalize grT b s=R at*;obtain⟨⟨g,dn,q⟩,⟨l,z,y⟩,⟨k,ln,x⟩⟩:=h;have m:Below w w (w.alloc (.cells (Ad g dn q l z y b k ln x) 35)):=BU;have B:=Br w 35 (Ad g dn q l z y b k ln x);have a:=i _ m;simp only at a;clear i u r ok
 go_enter func96,ntmps96
 go_upto_region 24 with fail
 generalize w.alloc _=E at*;have D:=B.cell
 go_wp2_with (go_at_call 132;refine a.mono ?_;rintro e F ⟨t,p,rfl,f,j,C⟩;have d:=Ai j;clear j)
 refine AS (v:=.tuple #[.string ⟨t.toArray⟩,ZI p]) (by simp[results,results96,go_sem]) rfl ⟨t,p,rfl,f,d.out,(An m C)⟩
def DQ (h0:AG) (b':Ae) (t:Bs) (w:World) (e:Ending) (w':World):Prop:=
 ∃h:AG,e=.returned (.tuple #[At h b',.string ⟨t.toArray⟩])∧Ag w' (Ar h b')∧(∀q,some q∈BK h->some q∈BK h0∨w.heap.size<=q)∧Below w w w'
theorem Cc {s:Bs} (hs:s.length<=100000) (f:Dm s=true) {l:Bs} (hw:cmH s=l) {k:Nat} (p:(Co s).length=k) (w:World):
  Calls prog 58 #[.string ⟨s.toArray⟩] w λe a=> ∃(A:Option Addr) (c:Nat),e=.returned (.tuple #[.string ⟨l.toArray⟩,.slice A k c,.bool true])∧Rd a A k (ints (Co s))∧Below w w a:=by
 refine(Jp s w Aa).mono ?_;rintro e a ⟨u,A,n,c,g,i,j⟩;obtain⟨b,_,d,m⟩:=i f;rw[hw] at b;rw[p] at d;subst b;subst d;exact⟨A,c,by rw[g,f],m,j⟩
theorem VR {s:Bs} (hs:s.length<=100000) (f:Dm s=false) (w:World):
  Calls prog 58 #[.string ⟨s.toArray⟩] w λe a=> ∃(u:Bs) (A:Option Addr) (n c:Nat),e=.returned (.tuple #[.string ⟨u.toArray⟩,.slice A n c,.bool false])∧Below w w a:=by
 refine(Jp s w Aa).mono ?_;rintro e a ⟨u,A,n,c,b,g,d⟩;exact⟨u,A,n,c,by rw[b,f],d⟩
theorem Ra {w:World} {g:Nat} {t:TypeId} {a a1 a2 a3 a4 a5 a6 v0 v1 v2 v3 v4 v5 v6:Value} (k:Blk w g t #[a,a1,a2,a3,a4,a5,a6]):Blk (((((((w.setCell ⟨g,0,none⟩ v0).setCell ⟨g,1,none⟩ v1).setCell ⟨g,2,none⟩ v2).setCell ⟨g,3,none⟩ v3).setCell ⟨g,4,none⟩ v4).setCell ⟨g,5,none⟩ v5).setCell ⟨g,6,none⟩ v6) g t #[v0,v1,v2,v3,v4,v5,v6]:=by
 have k0:Blk (w.setCell ⟨g,0,none⟩ v0) g t #[v0,a1,a2,a3,a4,a5,a6]:=k.set_ 0 v0;have b:Blk ((w.setCell ⟨g,0,none⟩ v0).setCell ⟨g,1,none⟩ v1) g t #[v0,v1,a2,a3,a4,a5,a6]:=k0.set_ 1 v1;have k2:Blk (((w.setCell ⟨g,0,none⟩ v0).setCell ⟨g,1,none⟩ v1).setCell ⟨g,2,none⟩ v2) g t #[v0,v1,v2,a3,a4,a5,a6]:=b.set_ 2 v2;have k3:Blk ((((w.setCell ⟨g,0,none⟩ v0).setCell ⟨g,1,none⟩ v1).setCell ⟨g,2,none⟩ v2).setCell ⟨g,3,none⟩ v3) g t #[v0,v1,v2,v3,a4,a5,a6]:=k2.set_ 3 v3;have k4:Blk (((((w.setCell ⟨g,0,none⟩ v0).setCell ⟨g,1,none⟩ v1).setCell ⟨g,2,none⟩ v2).setCell ⟨g,3,none⟩ v3).setCell ⟨g,4,none⟩ v4) g t #[v0,v1,v2,v3,v4,a5,a6]:=k3.set_ 4 v4;have k5:Blk ((((((w.setCell ⟨g,0,none⟩ v0).setCell ⟨g,1,none⟩ v1).setCell ⟨g,2,none⟩ v2).setCell ⟨g,3,none⟩ v3).setCell ⟨g,4,none⟩ v4).setCell ⟨g,5,none⟩ v5) g t #[v0,v1,v2,v3,v4,v5,a6]:=k4.set_ 5 v5;have k6:Blk (((((((w.setCell ⟨g,0,none⟩ v0).setCell ⟨g,1,none⟩ v1).setCell ⟨g,2,none⟩ v2).setCell ⟨g,3,none⟩ v3).setCell ⟨g,4,none⟩ v4).setCell ⟨g,5,none⟩ v5).setCell ⟨g,6,none⟩ v6) g t #[v0,v1,v2,v3,v4,v5,v6]:=k5.set_ 6 v6;exact k6
theorem Q9 {w:World} {g p:Nat} {t:TypeId} {cs:Array Value} {v0 v1 v2 v3 v4 v5 v6:Value} (k:Blk w p t cs) (h:p≠g):Blk (((((((w.setCell ⟨g,0,none⟩ v0).setCell ⟨g,1,none⟩ v1).setCell ⟨g,2,none⟩ v2).setCell ⟨g,3,none⟩ v3).setCell ⟨g,4,none⟩ v4).setCell ⟨g,5,none⟩ v5).setCell ⟨g,6,none⟩ v6) p t cs:=
 ((((((k.far (p:=⟨g,0,none⟩) h v0).far (p:=⟨g,1,none⟩) h v1).far (p:=⟨g,2,none⟩) h v2).far (p:=⟨g,3,none⟩) h v3).far (p:=⟨g,4,none⟩) h v4).far (p:=⟨g,5,none⟩) h v5).far (p:=⟨g,6,none⟩) h v6
theorem dj (s:Bs) (h:AG) (b:Ae) (w:World) (ok:jw b) (M:Ag w (Ar h b)) (hs:s.length<=100000) (r:Dm s=false):
  Calls prog 59 #[At h b,.string ⟨s.toArray⟩] w (DQ h (bsNext b s) (bsOut b s) w):=by
 have Q:=λV=>VR hs r V;have D:Hid (bsNext b s=b∧bsOut b s=erT 6):=⟨(Ni r).2,(Ni r).1⟩;obtain⟨⟨a,dn,i⟩,⟨f,l,k⟩,⟨d,ln,j⟩⟩:=h;have t:=M.lo;have X:Below w w ((w.alloc (.cells (Ad a dn i f l k b d ln j) 35)).alloc (.cells Ap 35)):=Ax;have F:=(Br w 35 (Ad a dn i f l k b d ln j)).alloc (.cells Ap 35);have G:=Blk.newN (g:=w+1) (w.alloc (.cells (Ad a dn i f l k b d ln j) 35)) 35 Ap Cr;have C: ∀(g:Nat),w.heap.size<=g-> ∀z∈(Ar ⟨⟨a,dn,i⟩,⟨f,l,k⟩,⟨d,ln,j⟩⟩ b).map Sl.row,z≠some g:=λg hg z hz c=>by have:=t z hz _ c;omega
 have S: ∀W,Below w w W->Ag W (Ar ⟨⟨a,dn,i⟩,⟨f,l,k⟩,⟨d,ln,j⟩⟩ b):=λW Z=>M.below Z;unfold DQ At;generalize bsNext b s=b' at*;generalize bsOut b s=T at*;have U: ∀(V:World),Calls prog 88 #[ZI 6] V λe y=>e=.returned (.string ⟨(Lib.itoa 6).toArray⟩)∧Below V V y:=λV=>Ct 6 V Aa;have l1:=Bm 6 Aa Aa;have O:Hid (erT 6= [101,114,114,111,114,32]++Lib.itoa 6):=rfl;generalize Lib.itoa 6=I at*;obtain⟨E,L⟩: ∃E,[101,114,114,111,114,32]++I=E:=⟨_,rfl⟩;have p1: ¬9223372036854775807<6+I.length:=Aa;have s1:((⟨#[101,114,114,111,114,32]⟩:ByteArray)++⟨I.toArray⟩)=⟨E.toArray⟩:=by rw[<-L];exact AY [101,114,114,111,114,32] I
 have B:Hid (erT 6=E):=O.out.trans L;clear L O l1;clear M r ok t
 go_enter func59,ntmps59
 go_upto_region 1 with fail
 generalize(w.alloc _).alloc _=w1 at*;have J:=F.lt;have K:=G.lt
 go_upto_region 3 with(go_at_call 58;refine(Q _).mono ?_;rintro e y ⟨v,A,n,c,rfl,x⟩)
 have p:=F.below x J;have q:=G.below x K;have bx:=An X x;clear Q F G x;have qb:=p.lt;have qo:=q.lt;have r:=p.cell
 go_region_held3 (λw'=> ∀o,w'.cell? ⟨w,o,none⟩=((Ad a dn i f l k b d ln j):Array Value)[o]?)
  (exact Cs)
  (first
   |(go_at_call 88;(with_reducible refine(U _).mono ?_);rintro e u ⟨rfl,Y⟩;have H:Below y y u:=EE (m:=1) Y;have ad: ∀o,u.cell? ⟨w,o,none⟩=((Ad a dn i f l k b d ln j):Array Value)[o]? :=λo=>(p.below H qb).cell o;have N:=q.below H qo;have eu:=N.cell;have fu:=N.frozen;have gu:=N.lt))
 have R:=An bx H;go_wp2;refine AS (v:=.tuple #[Ad a dn i f l k b d ln j,.string ⟨E.toArray⟩]) (by simp[results,results59,go_sem,eu,gu]) rfl ?_
 exact⟨⟨⟨a,dn,i⟩,⟨f,l,k⟩,⟨d,ln,j⟩⟩,by rw[D.out.1,D.out.2,B.out],by rw[D.out.1];exact Bt (S _ R) (C _ Aa),λ_ hq=> .inl hq,BH R Aa⟩
theorem ES {nm:Bs} (aM:nm=Av∨nm=AM∨nm=Ca∨nm=AW∨nm=AX∨nm=Bo) (s:Bs) (h:AG) (b b1 i:Ae) (T:Bs) (m k:Nat) (w:World) (hr:Ag w (Ar h b))
  (HP: ∀V,Calls prog 58 #[.string ⟨s.toArray⟩] V λe w'=> ∃(A:Option Addr) (c:Nat),e=.returned (.tuple #[.string ⟨nm.toArray⟩,.slice A k c,.bool true])∧Rd w' A k (ints (Co s))∧Below V V w')
  (HS: ∀(A:Option Addr) (c:Nat) (V:World),Below w w V->Rd V A k (ints (Co s))->Calls prog 95 #[At h b,.string ⟨s.toArray⟩,.string ⟨nm.toArray⟩,.slice A k c] V (CG h i (m:Int) V))
  (hm:m<=1000) (h0:m=0->b1=i∧T=H5) (h1: ¬m=0->b1=b∧T=erT (m:Int)):
  Calls prog 59 #[At h b,.string ⟨s.toArray⟩] w (DQ h b1 T w):=by
 obtain⟨⟨j,dn,p⟩,⟨n,x,t⟩,⟨l,ln,r⟩⟩:=h;have ao:=hr.lo;have b0:Below w w ((w.alloc (.cells (Ad j dn p n x t b l ln r) 35)).alloc (.cells Ap 35)):=Ax;have KB:=(Br w 35 (Ad j dn p n x t b l ln r)).alloc (.cells Ap 35);have KO:=Blk.newN (g:=w+1) (w.alloc (.cells (Ad j dn p n x t b l ln r) 35)) 35 Ap Cr;have ax: ∀(g:Nat),w.heap.size<=g-> ∀z∈(Ar ⟨⟨j,dn,p⟩,⟨n,x,t⟩,⟨l,ln,r⟩⟩ b).map Sl.row,z≠some g:=λg hg z hz c=>by have:=ao z hz _ c;omega
 have BB: ∀W,Below w w W->Ag W (Ar ⟨⟨j,dn,p⟩,⟨n,x,t⟩,⟨l,ln,r⟩⟩ b):=λW bb=>hr.below bb;unfold CG at HS;unfold DQ;unfold At at*;have H0:=Ai h0;have H1:=Ai h1;have HD:=λV=>Ct m V Aa;rw[Ih] at HD;have l1:=Bm (m:Int) Aa Aa;have HE:Hid (erT (m:Int)= [101,114,114,111,114,32]++Lib.itoa (m:Int)):=rfl;generalize Lib.itoa (m:Int)=I at*;obtain⟨E,hE⟩: ∃E,[101,114,114,111,114,32]++I=E:=⟨_,rfl⟩;have p1: ¬9223372036854775807<6+I.length:=Aa;have s1:((⟨#[101,114,114,111,114,32]⟩:ByteArray)++⟨I.toArray⟩)=⟨E.toArray⟩:=by rw[<-hE];exact AY [101,114,114,111,114,32] I
 have ad:Hid (erT (m:Int)=E):=HE.out.trans hE;clear hE HE l1;clear hr h0 h1;rcases aM with rfl|rfl|rfl|rfl|rfl|rfl
 all_goals
  first
  |unfold Av at*
  |unfold AM at*
  |unfold Ca at*
  |unfold AW at*
  |unfold AX at*
  |unfold Bo at*
 all_goals
  go_enter func59,ntmps59
  go_upto_region 1 with fail
  generalize(w.alloc _).alloc _=w1 at*;have aG:=KB.lt;have ak:=KO.lt
  go_upto_region 4 with(go_at_call 58;refine(HP _).mono ?_;rintro e w2 ⟨A,c,rfl,R,b2⟩)
  have N:=KB.below b2 aG;have aK:=N.cell;have aj:=N.lt;have al:Below w2 w2 (w2.alloc (.cells (Ad j dn p n x t b l ln r) 35)):=BU;have KN:=Br w2 35 (Ad j dn p n x t b l ln r);have O:=N.below al aj;have Y:=(KO.below b2 ak).below al (KO.below b2 ak).lt;have b3:=b0.trans ((An b2 al).mono b0.size);have R3:=R.below al;have aP:=b2.size;clear HP KB KO R al
  go_upto_region 13 with fail
  generalize w2.alloc _=w3 at*;obtain⟨B,an⟩: ∃g,w2.heap.size=g:=⟨_,rfl⟩;rw[an] at KN aP⊢;clear an aK aj N b2;have aL:=O.cell;have aH:=O.lt;have am:=Y.lt;have ai:=KN.lt;have ae:=HS A c w3 b3 R3;clear HS
  go_upto_region 14 with(go_at_call 95;refine ae.mono ?_;rintro e w4 ⟨⟨⟨C,H,G⟩,⟨D,K,J⟩,⟨F,M,L⟩⟩,rfl,RR,HQ,Z⟩;have K9:=KN.below Z ai;have e9:=K9.cell;have f9:=K9.frozen;have aF:=K9.lt)
  (try simp only at RR HQ)
  have Q:=Q9 (v0:=.slice C H G) (v1:=.slice D K J) (v2:=.int .i64 i.source) (v3:=.int .i64 i.cos) (v4:=.int .i64 i.sin) (v5:=.int .i64 i.hyp) (v6:=.slice F M L) (O.below Z aH) (show w.heap.size≠B by omega)
  have y:=Q9 (v0:=.slice C H G) (v1:=.slice D K J) (v2:=.int .i64 i.source) (v3:=.int .i64 i.cos) (v4:=.int .i64 i.sin) (v5:=.int .i64 i.hyp) (v6:=.slice F M L) (Y.below Z am) (show w.heap.size+1≠B by omega)
  have ag:=Ra (v0:=.slice C H G) (v1:=.slice D K J) (v2:=.int .i64 i.source) (v3:=.int .i64 i.cos) (v4:=.int .i64 i.sin) (v5:=.int .i64 i.hyp) (v6:=.slice F M L) K9;have U:Hid (∀q,some q∈BK ⟨⟨C,H,G⟩,⟨D,K,J⟩,⟨F,M,L⟩⟩->some q∈BK ⟨⟨j,dn,p⟩,⟨n,x,t⟩,⟨l,ln,r⟩⟩∨w3.heap.size<=q):=HQ
  have S: ∀(g:Nat),w.heap.size<=g->g<w3-> ∀z∈(Ar ⟨⟨C,H,G⟩,⟨D,K,J⟩,⟨F,M,L⟩⟩ i).map Sl.row,z≠some g:=λg h1 h2 z hz c=>by
   subst c;rcases U.out g hz with h3|h3
   ·have:=ao _ h3 _ rfl;omega
   ·omega
  have ah:=Bt (a1:=.slice C H G) (a2:=.slice D K J) (a3:=.int .i64 i.source) (a4:=.int .i64 i.cos) (a5:=.int .i64 i.sin) (a6:=.int .i64 i.hyp) (a7:=.slice F M L) RR (S B Aa ai);have b5:=BH (g:=B) (a:=.slice C H G) (b:=.slice D K J) (c:=.int .i64 i.source) (d:=.int .i64 i.cos) (e:=.int .i64 i.sin) (f:=.int .i64 i.hyp) (h:=.slice F M L) (An b3 Z) Aa;clear HQ RR K9 KN O Y e9 f9 aF aL Z ae;generalize((((((w4.setCell ⟨B,0,none⟩ (.slice C H G)).setCell ⟨B,1,none⟩ (.slice D K J)).setCell ⟨B,2,none⟩ (ZI i.source)).setCell ⟨B,3,none⟩ (ZI i.cos)).setCell ⟨B,4,none⟩ (ZI i.sin)).setCell ⟨B,5,none⟩ (ZI i.hyp)).setCell ⟨B,6,none⟩ (.slice F M L)=w5 at*
  by_cases hz:m=0
  ·subst hz;have X:=Ai (H0.out rfl);have e5:=ag.cell;have eo:=y.cell;have fo:=y.frozen;have go_:=y.lt;clear H0 H1 HD ad Q;go_wp2;refine AS (v:=.tuple #[Ad C H G D K J i F M L,.string ⟨#[111,107]⟩]) (by simp[results,results59,go_sem,eo,go_]) rfl ?_
   exact⟨⟨⟨C,H,G⟩,⟨D,K,J⟩,⟨F,M,L⟩⟩,by rw[X.out.1,X.out.2];rfl,by rw[X.out.1];exact Bt ah (S _ Aa am),λq hq=>(U.out q hq).imp id (λh=>by have:=b3.size;omega),BH b5 Aa⟩
  ·have X:=Ai (H1.out hz);have bn:((m:Int) !=0)=true:=QV;clear H0 H1 ag ah U S
   go_upto_region 15 with fail
   have qb:=Q.lt;have qo:=y.lt;have hb:=Q.cell
   go_region_held3 (λw'=> ∀o,w'.cell? ⟨w,o,none⟩=((Ad j dn p n x t b l ln r):Array Value)[o]?)
    (exact Cs)
    (first
     |(go_at_call 88;(with_reducible refine(HD _).mono ?_);rintro e u ⟨rfl,Z⟩;have bu:Below w5 w5 u:=EE (m:=1) Z;have bl: ∀o,u.cell? ⟨w,o,none⟩=((Ad j dn p n x t b l ln r):Array Value)[o]? :=λo=>(Q.below bu qb).cell o;have ku:=y.below bu qo;have eu:=ku.cell;have fu:=ku.frozen;have gu:=ku.lt))
   have bf:=An b5 bu;go_wp2;refine AS (v:=.tuple #[Ad j dn p n x t b l ln r,.string ⟨E.toArray⟩]) (by simp[results,results59,go_sem,eu,gu]) rfl ?_
   exact⟨⟨⟨j,dn,p⟩,⟨n,x,t⟩,⟨l,ln,r⟩⟩,by rw[X.out.1,X.out.2,ad.out],by rw[X.out.1];exact Bt (BB _ bf) (ax _ Aa),λ_ hq=> .inl hq,BH bf Aa⟩
theorem ju (s:Bs) (h:AG) (b:Ae) (T wd:Bs) (k:Nat) (w:World) (hr:Ag w (Ar h b))
  (HP: ∀V,Calls prog 58 #[.string ⟨s.toArray⟩] V λe Q=> ∃(A:Option Addr) (c:Nat),e=.returned (.tuple #[.string ⟨wd.toArray⟩,.slice A k c,.bool true])∧Rd Q A k (ints (Co s))∧Below V V Q)
  (Y: ∀(A:Option Addr) (c:Nat) (V:World),Below w w V->Rd V A k (ints (Co s))->Calls prog 96 #[At h b,.string ⟨wd.toArray⟩,.slice A k c] V (EY T V))
  (n0: ¬wd=Av) (n1: ¬wd=AM) (n2: ¬wd=Ca) (n3: ¬wd=AW) (n4: ¬wd=AX) (n5: ¬wd=Bo):
  Calls prog 59 #[At h b,.string ⟨s.toArray⟩] w (DQ h b T w):=by
 unfold Av at n0;have q0:=Ea.2 n0;unfold AM at n1;have q1:=Ea.2 n1;unfold Ca at n2;have q2:=Ea.2 n2;unfold AW at n3;have q3:=Ea.2 n3;unfold AX at n4;have q4:=Ea.2 n4;unfold Bo at n5;have q5:=Ea.2 n5;obtain⟨⟨a,dn,i⟩,⟨f,n,l⟩,⟨d,ln,j⟩⟩:=h;have an:=hr.lo;have b0:Below w w ((w.alloc (.cells (Ad a dn i f n l b d ln j) 35)).alloc (.cells Ap 35)):=Ax;have Z:=(Br w 35 (Ad a dn i f n l b d ln j)).alloc (.cells Ap 35);have O:=Blk.newN (g:=w+1) (w.alloc (.cells (Ad a dn i f n l b d ln j) 35)) 35 Ap Cr;have F: ∀(g:Nat),w.heap.size<=g-> ∀z∈(Ar ⟨⟨a,dn,i⟩,⟨f,n,l⟩,⟨d,ln,j⟩⟩ b).map Sl.row,z≠some g:=λg hg z M c=>by have:=an z M _ c;omega
 have BB: ∀W,Below w w W->Ag W (Ar ⟨⟨a,dn,i⟩,⟨f,n,l⟩,⟨d,ln,j⟩⟩ b):=λW bb=>hr.below bb;unfold EY at Y;unfold DQ;unfold At at*;clear hr
 go_enter func59,ntmps59
 go_upto_region 1 with fail
 generalize(w.alloc _).alloc _=w1 at*;have ae:=Z.lt;have K:=O.lt
 go_upto_region 4 with(go_at_call 58;refine(HP _).mono ?_;rintro e D ⟨A,c,rfl,R,H⟩)
 have r:=Z.below H ae;have ai:=r.cell;have J:=r.lt;have al:Below D D (D.alloc (.cells (Ad a dn i f n l b d ln j) 35)):=BU;have N:=Br D 35 (Ad a dn i f n l b d ln j);have x:=r.below al J;have B:=(O.below H K).below al (O.below H K).lt;have b3:=b0.trans ((An H al).mono b0.size);have R3:=R.below al;clear HP Z O R al
 go_upto_region 6 with fail
 generalize D.alloc _=w3 at*;obtain⟨g9,L⟩: ∃g,D.heap.size=g:=⟨_,rfl⟩;rw[L] at N⊢;clear L ai J r H;have aj:=x.cell;have af:=x.lt;have ag:=B.lt;have ad:=N.lt;have G:=Y A c w3 b3 R3;clear Y n0 n1 n2 n3 n4 n5 q0 q1 q2 q3 q4 q5
 go_upto_region 14 with(go_at_call 96;refine G.mono ?_;rintro e w4 ⟨t,cd,rfl,aN,HT,C⟩;have q:=Ai HT;clear HT)
 have K9:=N.below C ad;have y:=x.below C af;have p:=B.below C ag;have b5:=An b3 C;clear N x B aj C G
 by_cases M:cd=0
 ·subst M;have X:Hid (t=T):=by have:=q.out;unfold cdT at this;rw[AA rfl] at this;exact this
  have e9:=K9.cell;have eo:=p.cell;have fo:=p.frozen;have go_:=p.lt;clear q;go_wp2;refine AS (v:=.tuple #[Ad a dn i f n l b d ln j,.string ⟨t.toArray⟩]) (by simp[results,results59,go_sem,eo,go_]) rfl ?_
  exact⟨⟨⟨a,dn,i⟩,⟨f,n,l⟩,⟨d,ln,j⟩⟩,by rw[X.out],Bt (BB _ b5) (F _ Aa),λ_ hq=> .inl hq,BH b5 Aa⟩
 ·obtain⟨m,rfl⟩: ∃m:Nat,cd=(m:Int):=⟨cd.toNat,by omega⟩
  have X:Hid (erT (m:Int)=T):=by have:=q.out;rw[LD M] at this;exact this
  have aO:((m:Int) !=0)=true:=by rw[bne_iff_ne];exact M
  have HD:=λV=>Ct m V Aa;rw[Ih] at HD;have l1:=Bm (m:Int) Aa Aa;have HE:Hid (erT (m:Int)= [101,114,114,111,114,32]++Lib.itoa (m:Int)):=rfl;generalize Lib.itoa (m:Int)=I at*;obtain⟨E,hE⟩: ∃E,[101,114,114,111,114,32]++I=E:=⟨_,rfl⟩;have p1: ¬9223372036854775807<6+I.length:=Aa;have s1:((⟨#[101,114,114,111,114,32]⟩:ByteArray)++⟨I.toArray⟩)=⟨E.toArray⟩:=by rw[<-hE];exact AY [101,114,114,111,114,32] I
  have S:Hid (erT (m:Int)=E):=HE.out.trans hE;clear hE HE l1;clear q K9;have U:Hid (T=E):=X.out.symm.trans S.out
  go_upto_region 15 with fail
  have qb:=y.lt;have qo:=p.lt;have hb:=y.cell
  go_region_held3 (λQ=> ∀o,Q.cell? ⟨w,o,none⟩=((Ad a dn i f n l b d ln j):Array Value)[o]?)
   (exact Cs)
   (first
    |(go_at_call 88;(with_reducible refine(HD _).mono ?_);rintro e u ⟨rfl,C⟩;have bu:Below w4 w4 u:=EE (m:=1) C;have aM: ∀o,u.cell? ⟨w,o,none⟩=((Ad a dn i f n l b d ln j):Array Value)[o]? :=λo=>(y.below bu qb).cell o;have ku:=p.below bu qo;have eu:=ku.cell;have fu:=ku.frozen;have gu:=ku.lt))
  have bf:=An b5 bu;go_wp2;refine AS (v:=.tuple #[Ad a dn i f n l b d ln j,.string ⟨E.toArray⟩]) (by simp[results,results59,go_sem,eu,gu]) rfl ?_
  exact⟨⟨⟨a,dn,i⟩,⟨f,n,l⟩,⟨d,ln,j⟩⟩,by rw[U.out],Bt (BB _ bf) (F _ Aa),λ_ hq=> .inl hq,BH bf Aa⟩
theorem V9 (s:Bs) (h:AG) (b:Ae) (w:World) (ok:jw b) (f:Ag w (Ar h b)) (hs:s.length<=100000) (d:Dm s=true) (hw:cmH s=AM) (i:(Co s).length=1):
  Calls prog 59 #[At h b,.string ⟨s.toArray⟩] w (DQ h (bsNext b s) (bsOut b s) w):=by
 rw[(Hp (b:=b) d hw).1,(Hp (b:=b) d hw).2]
 by_cases a:inR (cmI s 0) 0 ((b.depths.length:Int)-1)=true
 ·rw[AA a,AA a];exact ES (.inr (.inl rfl)) s h b _ (if inR (cmI s 0) 0 ((b.depths.length:Int)-1)=true then {b with source:=cmI s 0} else b) H5 0 1 w f (λV=>Cc hs d hw i V) (λA c V g R=>by have H:=ON s A c h b V ok (f.below g) R;rw[show(if inR (cmI s 0) 0 ((b.depths.length:Int)-1)=true then 0 else 2:Int)=((0:Nat):Int) from AA a] at H;exact H) Ah (λ_=>⟨(AA a).symm,rfl⟩) (λh=>absurd rfl h)
 ·rw[Ak a,Ak a];exact ES (.inr (.inl rfl)) s h b _ (if inR (cmI s 0) 0 ((b.depths.length:Int)-1)=true then {b with source:=cmI s 0} else b) (erT 2) 2 1 w f (λV=>Cc hs d hw i V) (λA c V g R=>by have H:=ON s A c h b V ok (f.below g) R;rw[show(if inR (cmI s 0) 0 ((b.depths.length:Int)-1)=true then 0 else 2:Int)=((2:Nat):Int) from Ak a] at H;exact H) Ah (λh=>by cases h) (λ_=>⟨rfl,rfl⟩)
theorem dq (s:Bs) (h:AG) (b:Ae) (w:World) (ok:jw b) (f:Ag w (Ar h b)) (hs:s.length<=100000) (d:Dm s=true) (hw:cmH s=Ca) (i:(Co s).length=3):
  Calls prog 59 #[At h b,.string ⟨s.toArray⟩] w (DQ h (bsNext b s) (bsOut b s) w):=by
 rw[(Nk (b:=b) d hw).1,(Nk (b:=b) d hw).2]
 by_cases a:Gj (cmI s 0) (cmI s 1)=true∧inR (cmI s 2) 0 1=true
 ·rw[AA a,AA a];exact ES (.inr (.inr (.inl rfl))) s h b _ (if Gj (cmI s 0) (cmI s 1)=true∧inR (cmI s 2) 0 1=true then {b with cos:=mkC (cmI s 0) (cmI s 1),sin:=mkS (cmI s 0) (cmI s 1) (decide (cmI s 2=1)),hyp:=mkH (cmI s 0) (cmI s 1)} else b) H5 0 3 w f (λV=>Cc hs d hw i V) (λA c V g R=>by have H:=Xf s A c h b V ok (f.below g) R;rw[show(if Gj (cmI s 0) (cmI s 1)=true∧inR (cmI s 2) 0 1=true then 0 else 2:Int)=((0:Nat):Int) from AA a] at H;exact H) Ah (λ_=>⟨(AA a).symm,rfl⟩) (λh=>absurd rfl h)
 ·rw[Ak a,Ak a];exact ES (.inr (.inr (.inl rfl))) s h b _ (if Gj (cmI s 0) (cmI s 1)=true∧inR (cmI s 2) 0 1=true then {b with cos:=mkC (cmI s 0) (cmI s 1),sin:=mkS (cmI s 0) (cmI s 1) (decide (cmI s 2=1)),hyp:=mkH (cmI s 0) (cmI s 1)} else b) (erT 2) 2 3 w f (λV=>Cc hs d hw i V) (λA c V g R=>by have H:=Xf s A c h b V ok (f.below g) R;rw[show(if Gj (cmI s 0) (cmI s 1)=true∧inR (cmI s 2) 0 1=true then 0 else 2:Int)=((2:Nat):Int) from Ak a] at H;exact H) Ah (λh=>by cases h) (λ_=>⟨rfl,rfl⟩)
theorem Uz (s:Bs) (h:AG) (b:Ae) (w:World) (ok:jw b) (f:Ag w (Ar h b)) (hs:s.length<=100000) (d:Dm s=true) (hw:cmH s=Av)  :
  Calls prog 59 #[At h b,.string ⟨s.toArray⟩] w (DQ h (bsNext b s) (bsOut b s) w):=by
 rw[(Gk (b:=b) d hw).1,(Gk (b:=b) d hw).2]
 by_cases a:Fm (cmT s)=true
 ·rw[AA a,AA a];exact ES (.inl rfl) s h b _ (if Fm (cmT s)=true then {b with depths:=rpD (cmT s),speeds:=rpV (cmT s),source:=0} else b) H5 0 (Co s).length w f (λV=>Cc hs d hw rfl V) (λA c V g R=>by have H:=Mx s A (Co s).length c h b V (f.below g) hs d hw;rw[show(if Fm (cmT s)=true then 0 else 6:Int)=((0:Nat):Int) from AA a] at H;exact H) Ah (λ_=>⟨(AA a).symm,rfl⟩) (λh=>absurd rfl h)
 ·rw[Ak a,Ak a];exact ES (.inl rfl) s h b _ (if Fm (cmT s)=true then {b with depths:=rpD (cmT s),speeds:=rpV (cmT s),source:=0} else b) (erT 6) 6 (Co s).length w f (λV=>Cc hs d hw rfl V) (λA c V g R=>by have H:=Mx s A (Co s).length c h b V (f.below g) hs d hw;rw[show(if Fm (cmT s)=true then 0 else 6:Int)=((6:Nat):Int) from Ak a] at H;exact H) Ah (λh=>by cases h) (λ_=>⟨rfl,rfl⟩)
theorem Yk (s:Bs) (h:AG) (b:Ae) (w:World) (ok:jw b) (l:Ag w (Ar h b)) (hs:s.length<=100000) (g:Dm s=true) (hw:cmH s=AW) (p:(Co s).length=2):
  Calls prog 59 #[At h b,.string ⟨s.toArray⟩] w (DQ h (bsNext b s) (bsOut b s) w):=by
 rw[(IW (b:=b) g hw).1,(IW (b:=b) g hw).2]
 obtain⟨m,k,i⟩: ∃m:Nat,adC b (cmI s 0) 1 (cmI s 1) 0 0 0 0=(m:Int)∧m<=1000:=by
  refine⟨(adC b (cmI s 0) 1 (cmI s 1) 0 0 0 0).toNat,?_,?_⟩
  ·unfold adC;split;(·split<;>rfl);·rfl
  ·unfold adC;split;(·split<;>decide);·decide
 have a:=Lz b (cmI s 0) 1 (cmI s 1) 0 0 0 0
 have j: ¬adC b (cmI s 0) 1 (cmI s 1) 0 0 0 0=0->addB b (cmI s 0) 1 (cmI s 1) 0 0 0 0=b:=λh=>by
  unfold adC at h;unfold addB;refine Ak (λc=>h ?_);rw[AA c.1];exact AA c.2
 rw[k] at a j;refine ES (.inr (.inr (.inr (.inl rfl)))) s h b _ (addB b (cmI s 0) 1 (cmI s 1) 0 0 0 0) _ m 2 w l (λV=>Cc hs g hw p V) (λA c V n R=>by have H:=Yo s A c h b V ok (l.below n) R;rw[k] at H;exact H) i (λh=>⟨rfl,?_⟩) (λh=>⟨j Aa,?_⟩)
 ·rcases a with⟨_,f⟩|⟨d,_⟩
  ·exact f
  ·exact absurd Aa d
 ·rcases a with⟨d,_⟩|⟨_,f⟩
  ·exact absurd d Aa
  ·exact f
theorem Yl (s:Bs) (h:AG) (b:Ae) (w:World) (ok:jw b) (l:Ag w (Ar h b)) (hs:s.length<=100000) (g:Dm s=true) (hw:cmH s=AX) (p:(Co s).length=5):
  Calls prog 59 #[At h b,.string ⟨s.toArray⟩] w (DQ h (bsNext b s) (bsOut b s) w):=by
 rw[(IX (b:=b) g hw).1,(IX (b:=b) g hw).2]
 obtain⟨m,k,i⟩: ∃m:Nat,adC b (cmI s 0) 2 0 (cmI s 1) (cmI s 2) (cmI s 3) (cmI s 4)=(m:Int)∧m<=1000:=by
  refine⟨(adC b (cmI s 0) 2 0 (cmI s 1) (cmI s 2) (cmI s 3) (cmI s 4)).toNat,?_,?_⟩
  ·unfold adC;split;(·split<;>rfl);·rfl
  ·unfold adC;split;(·split<;>decide);·decide
 have a:=Lz b (cmI s 0) 2 0 (cmI s 1) (cmI s 2) (cmI s 3) (cmI s 4)
 have j: ¬adC b (cmI s 0) 2 0 (cmI s 1) (cmI s 2) (cmI s 3) (cmI s 4)=0->addB b (cmI s 0) 2 0 (cmI s 1) (cmI s 2) (cmI s 3) (cmI s 4)=b:=λh=>by
  unfold adC at h;unfold addB;refine Ak (λc=>h ?_);rw[AA c.1];exact AA c.2
 rw[k] at a j;refine ES (.inr (.inr (.inr (.inr (.inl rfl))))) s h b _ (addB b (cmI s 0) 2 0 (cmI s 1) (cmI s 2) (cmI s 3) (cmI s 4)) _ m 5 w l (λV=>Cc hs g hw p V) (λA c V n R=>by have H:=Ys s A c h b V ok (l.below n) R;rw[k] at H;exact H) i (λh=>⟨rfl,?_⟩) (λh=>⟨j Aa,?_⟩)
 ·rcases a with⟨_,f⟩|⟨d,_⟩
  ·exact f
  ·exact absurd Aa d
 ·rcases a with⟨d,_⟩|⟨_,f⟩
  ·exact absurd d Aa
  ·exact f
theorem av (s:Bs) (h:AG) (b:Ae) (w:World) (ok:jw b) (l:Ag w (Ar h b)) (hs:s.length<=100000) (g:Dm s=true) (hw:cmH s=Bo) (p:(Co s).length=1):
  Calls prog 59 #[At h b,.string ⟨s.toArray⟩] w (DQ h (bsNext b s) (bsOut b s) w):=by
 rw[(Kv (b:=b) g hw).1,(Kv (b:=b) g hw).2]
 obtain⟨m,k,i⟩: ∃m:Nat,adC b (cmI s 0) 3 0 0 0 0 0=(m:Int)∧m<=1000:=by
  refine⟨(adC b (cmI s 0) 3 0 0 0 0 0).toNat,?_,?_⟩
  ·unfold adC;split;(·split<;>rfl);·rfl
  ·unfold adC;split;(·split<;>decide);·decide
 have a:=Lz b (cmI s 0) 3 0 0 0 0 0
 have j: ¬adC b (cmI s 0) 3 0 0 0 0 0=0->addB b (cmI s 0) 3 0 0 0 0 0=b:=λh=>by
  unfold adC at h;unfold addB;refine Ak (λc=>h ?_);rw[AA c.1];exact AA c.2
 rw[k] at a j;refine ES (.inr (.inr (.inr (.inr (.inr rfl))))) s h b _ (addB b (cmI s 0) 3 0 0 0 0 0) _ m 1 w l (λV=>Cc hs g hw p V) (λA c V n R=>by have H:=aA s A c h b V ok (l.below n) R;rw[k] at H;exact H) i (λh=>⟨rfl,?_⟩) (λh=>⟨j Aa,?_⟩)
 ·rcases a with⟨_,f⟩|⟨d,_⟩
  ·exact f
  ·exact absurd Aa d
 ·rcases a with⟨d,_⟩|⟨_,f⟩
  ·exact absurd d Aa
  ·exact f
theorem Ym (s:Bs) (h:AG) (b:Ae) (w:World) (ok:jw b) (d:Ag w (Ar h b)) (hs:s.length<=100000) (a:Dm s=true) (hw:cmH s=By) (g:(Co s).length=1):
  Calls prog 59 #[At h b,.string ⟨s.toArray⟩] w (DQ h (bsNext b s) (bsOut b s) w):=by
 rw[(IY (b:=b) a hw).1,(IY (b:=b) a hw).2];exact ju s h b _ By 1 w d (λV=>Cc hs a hw g V) (λA c V f R=>Up s A c h b V ok (d.below f) R) Ah Ah Ah Ah Ah Ah
theorem aw (s:Bs) (h:AG) (b:Ae) (w:World) (ok:jw b) (d:Ag w (Ar h b)) (hs:s.length<=100000) (a:Dm s=true) (hw:cmH s=Cj) (g:(Co s).length=6):
  Calls prog 59 #[At h b,.string ⟨s.toArray⟩] w (DQ h (bsNext b s) (bsOut b s) w):=by
 rw[(Kw (b:=b) a hw).1,(Kw (b:=b) a hw).2];exact ju s h b _ Cj 6 w d (λV=>Cc hs a hw g V) (λA c V f R=>VU s A c h b V ok (d.below f) R) Ah Ah Ah Ah Ah Ah
theorem Sk (s:Bs) (h:AG) (b:Ae) (w:World) (ok:jw b) (d:Ag w (Ar h b)) (hs:s.length<=100000) (a:Dm s=true) (hw:cmH s=AQ) (g:(Co s).length=0):
  Calls prog 59 #[At h b,.string ⟨s.toArray⟩] w (DQ h (bsNext b s) (bsOut b s) w):=by
 rw[(FD (b:=b) a hw).1,(FD (b:=b) a hw).2];exact ju s h b _ AQ 0 w d (λV=>Cc hs a hw g V) (λA c V f R=>Ov s A c h b V ok (d.below f) R) Ah Ah Ah Ah Ah Ah
theorem Yj (s:Bs) (h:AG) (b:Ae) (w:World) (ok:jw b) (d:Ag w (Ar h b)) (hs:s.length<=100000) (a:Dm s=true) (hw:cmH s=Bw) (g:(Co s).length=3):
  Calls prog 59 #[At h b,.string ⟨s.toArray⟩] w (DQ h (bsNext b s) (bsOut b s) w):=by
 rw[(IV (b:=b) a hw).1,(IV (b:=b) a hw).2];exact ju s h b _ Bw 3 w d (λV=>Cc hs a hw g V) (λA c V f R=>Uo s A c h b V ok (d.below f) R) Ah Ah Ah Ah Ah Ah
theorem au (s:Bs) (h:AG) (b:Ae) (w:World) (ok:jw b) (d:Ag w (Ar h b)) (hs:s.length<=100000) (a:Dm s=true) (hw:cmH s=Ci) (g:(Co s).length=3):
  Calls prog 59 #[At h b,.string ⟨s.toArray⟩] w (DQ h (bsNext b s) (bsOut b s) w):=by
 rw[(Ku (b:=b) a hw).1,(Ku (b:=b) a hw).2];exact ju s h b _ Ci 3 w d (λV=>Cc hs a hw g V) (λA c V f R=>VT s A c h b V ok (d.below f) R) Ah Ah Ah Ah Ah Ah
theorem V8 (s:Bs) (h:AG) (b:Ae) (w:World) (ok:jw b) (d:Ag w (Ar h b)) (hs:s.length<=100000) (a:Dm s=true) (hw:cmH s=Bi) (g:(Co s).length=3):
  Calls prog 59 #[At h b,.string ⟨s.toArray⟩] w (DQ h (bsNext b s) (bsOut b s) w):=by
 rw[(Ho (b:=b) a hw).1,(Ho (b:=b) a hw).2];exact ju s h b _ Bi 3 w d (λV=>Cc hs a hw g V) (λA c V f R=>Sc s A c h b V ok (d.below f) R) Ah Ah Ah Ah Ah Ah
theorem ax (s:Bs) (h:AG) (b:Ae) (w:World) (ok:jw b) (d:Ag w (Ar h b)) (hs:s.length<=100000) (a:Dm s=true) (hw:cmH s=Ck) (g:(Co s).length=3):
  Calls prog 59 #[At h b,.string ⟨s.toArray⟩] w (DQ h (bsNext b s) (bsOut b s) w):=by
 rw[(Kx (b:=b) a hw).1,(Kx (b:=b) a hw).2];exact ju s h b _ Ck 3 w d (λV=>Cc hs a hw g V) (λA c V f R=>VV s A c h b V ok (d.below f) R) Ah Ah Ah Ah Ah Ah
theorem dm (s:Bs) (h:AG) (b:Ae) (w:World) (ok:jw b) (d:Ag w (Ar h b)) (hs:s.length<=100000) (a:Dm s=true) (hw:cmH s=CX) (g:(Co s).length=0):
  Calls prog 59 #[At h b,.string ⟨s.toArray⟩] w (DQ h (bsNext b s) (bsOut b s) w):=by
 rw[(Nj (b:=b) a hw).1,(Nj (b:=b) a hw).2];exact ju s h b _ CX 0 w d (λV=>Cc hs a hw g V) (λA c V f R=>Ya s A c h b V ok (d.below f) R) Ah Ah Ah Ah Ah Ah
theorem Yi (s:Bs) (h:AG) (b:Ae) (w:World) (ok:jw b) (d:Ag w (Ar h b)) (hs:s.length<=100000) (a:Dm s=true) (hw:cmH s=BE) (g:(Co s).length=0):
  Calls prog 59 #[At h b,.string ⟨s.toArray⟩] w (DQ h (bsNext b s) (bsOut b s) w):=by
 rw[(IU (b:=b) a hw).1,(IU (b:=b) a hw).2];exact ju s h b _ BE 0 w d (λV=>Cc hs a hw g V) (λA c V f R=>Un s A c h b V ok (d.below f) R) Ah Ah Ah Ah Ah Ah
theorem Vy (s:Bs) (h:AG) (b:Ae) (w:World) (ok:jw b) (d:Ag w (Ar h b)) (hs:s.length<=100000):
  Calls prog 59 #[At h b,.string ⟨s.toArray⟩] w (DQ h (bsNext b s) (bsOut b s) w):=by
 rcases jt (Dm s) with hb|hb
 ·by_cases f:cmH s=Av
  ·exact Uz s h b w ok d hs hb f
  ·rcases iL hb f with⟨a,c⟩|⟨a,c⟩|⟨a,c⟩|⟨a,c⟩|⟨a,c⟩|⟨a,c⟩|⟨a,c⟩|⟨a,c⟩|⟨a,c⟩|⟨a,c⟩|⟨a,c⟩|⟨a,c⟩|⟨a,c⟩|⟨a,c⟩
   ·exact Sk s h b w ok d hs hb a c
   ·exact dm s h b w ok d hs hb a c
   ·exact Yi s h b w ok d hs hb a c
   ·exact V9 s h b w ok d hs hb a c
   ·exact av s h b w ok d hs hb a c
   ·exact Ym s h b w ok d hs hb a c
   ·exact Yk s h b w ok d hs hb a c
   ·exact dq s h b w ok d hs hb a c
   ·exact Yj s h b w ok d hs hb a c
   ·exact au s h b w ok d hs hb a c
   ·exact V8 s h b w ok d hs hb a c
   ·exact ax s h b w ok d hs hb a c
   ·exact Yl s h b w ok d hs hb a c
   ·exact aw s h b w ok d hs hb a c
 ·exact dj s h b w ok d hs hb
def gh (h:AG) (B:Ae):Array Value:= (Ad h.depths.A h.depths.n h.depths.c h.speeds.A h.speeds.n h.speeds.c B h.log.A h.log.n h.log.c)
structure fX (W:World) (n0 g:Nat) (h:AG) (B:Ae) (O:Hd):Prop where
 blk:Blk W g 35 (gh h B)
 rd:Ag W (Ar h B)
 far: ∀q,some q∈BK h->q≠g∧O.row≠some q∧n0<q
theorem LB {W:World} {h:AG} {B:Ae} (R:Ag W (Ar h B)): ∀q,some q∈BK h->q<W:=λq a=>R.lo _ a q rfl
theorem Xx {h:AG} {B:Ae} {g:Nat} (H: ∀q,some q∈BK h->q≠g): ∀z∈(Ar h B).map Sl.row,z≠some g:=λz a c=>by subst c;exact H g a rfl
theorem VW {W a:World} {h:AG} {B:Ae} {row:Option Nat} (R:Ag W (Ar h B)) (gg:W.grownBy a row) (H: ∀q,some q∈BK h->row≠some q):Ag a (Ar h B):=λs b=>
 (R s b).grown gg (λd e g c=>H d.block (by have:=List.mem_map_of_mem (f:=Sl.row) b;unfold Sl.row at this;rw[GL e g] at this;exact this) c)
theorem Nm {w:World} {h:AG} {b:Ae} {g:Nat} {a1 a2 a3 a4 a5 a6 a7:Value} (R:Ag w (Ar h b)) (H: ∀q,some q∈BK h->q≠g):Ag (((((((w.setCell ⟨g,0,none⟩ a1).setCell ⟨g,1,none⟩ a2).setCell ⟨g,2,none⟩ a3).setCell ⟨g,3,none⟩ a4).setCell ⟨g,4,none⟩ a5).setCell ⟨g,5,none⟩ a6).setCell ⟨g,6,none⟩ a7) (Ar h b):=Bt R (Xx H)
def YK (ls:List Bs) (w:World) (e:Ending) (w':World):Prop:=
 ∃(h:AG) (O:Hd),e=.returned (.tuple #[At h (bsAll ls AE),.slice O.A O.n O.c])∧Ag w' (Ar h (bsAll ls AE))∧(∀q,some q∈BK h->w<q)∧O.n=ls.length∧Rd w' O.A O.n (BO (bsOuts ls AE))∧Below w w w'
theorem Vx (A:Option Addr) (n c:Nat) (j:List Bs) (w:World) (hn:n<=1048576) (hr:Rd w A n (BO j)) (hs: ∀x∈j,x.length<=100000):
  Calls prog 32 #[.slice A n c] w (YK j w):=by
 have aL:j.length=n:=by have:=hr.1;unfold BO at this;simpa using this
 have aw:Hid (∀k,k<n->(j.getD k []).length<=100000∧j.take (k+1)=j.take k++ [j.getD k []]):=λk hk=>by
  have h2:k<j.length:=Aa;have e2:j.getD k []=j[k]:=by rw[DE,Db h2];rfl
  rw[e2];exact⟨hs _ (EH h2),List.take_succ_eq_append_getElem h2⟩
 have az:Hid (j.take n=j):=ED Aa;have bc:=Ai aL;clear aL hs;have W:=Br w 35 Ap;have b0:Below w w (w.alloc (.cells Ap 35)):=BU
 go_enter func32,ntmps32
 go_upto_region 1 with fail
 generalize w.alloc _=w1 at*;have g0:=W.lt
 go_upto_region 2 with(go_at_call 21;refine(L6 _).mono ?_;rintro e U ⟨⟨⟨s,dn,F⟩,⟨B,J,I⟩,⟨z,ln,H⟩⟩,rfl,-,R2,W2,-,b2⟩;unfold At AE)
 (try simp only)
 have Z:=LB R2;have aK:=λq (hq:some q∈BK ⟨⟨s,dn,F⟩,⟨B,J,I⟩,⟨z,ln,H⟩⟩)=>W2.hi _ hq q rfl;have al:Below U U (U.alloc (.cells (Bp s dn F B J I 0 4 3 5 z ln H) 35)):=BU;have ae:Below U U ((U.alloc (.cells (Bp s dn F B J I 0 4 3 5 z ln H) 35)).alloc (.cells #[] 9)):=Ax;have S4:fX ((U.alloc (.cells (Bp s dn F B J I 0 4 3 5 z ln H) 35)).alloc (.cells #[] 9)) w.heap.size U.heap.size ⟨⟨s,dn,F⟩,⟨B,J,I⟩,⟨z,ln,H⟩⟩ AE ⟨some ⟨U+1,0,none⟩,0,0⟩:=⟨(Br U 35 (Bp s dn F B J I 0 4 3 5 z ln H)).alloc _,R2.below ae,λq hq=>⟨by have:=Z q hq;omega,(λc=>by cases c),by have:=aK q hq;omega⟩⟩
 have b4:=b0.trans ((An b2 ae).mono b0.size);have K4:=(W.below b2 g0).below ae (W.below b2 g0).lt;have bD:=b2.size;clear R2 W2 b2 al Z aK W ae
 go_upto_region 3 with fail
 generalize(U.alloc _).alloc _=w4 at*;obtain⟨g,hg⟩: ∃g,U.heap.size=g:=⟨_,rfl⟩;rw[hg] at S4 bD⊢;have cd:w<g:=Aa;clear hg
 go_wp2_with fail
 go_loopw [5,6] (λv i wr=> ∃(k:Nat) (h:AG) (O:Hd),k<=n∧i=.int .i64 k∧v=.slice O.A O.n O.c∧fX wr w.heap.size g h (bsAll (j.take k) AE) O∧AR wr (g+1) 1 O (BO (bsOuts (j.take k) AE))∧O.n=k∧Blk wr w.heap.size 35 Ap∧jw (bsAll (j.take k) AE)∧Below w w wr) (λ_ i _=>n-(intOf i).toNat)
 case atStart=>exact⟨0,_,⟨some ⟨g+1,0,none⟩,0,0⟩,AZ _,rfl,rfl,S4,AR.empty _ _ _ _,rfl,K4,Qe,b4⟩
 case round=>
  clear S4 K4 b4;obtain⟨k,⟨⟨s,dn,F⟩,⟨B,J,I⟩,⟨z,ln,H⟩⟩,⟨OA,l,oc⟩,hk,rfl,rfl,SR,OR,bC,W,an,br⟩:=hrel;obtain rfl:l=k:=bC;have aa:=OR.rowlt;have Z:=LB SR.rd;have g0:=W.lt;have ac:=SR.far;have X:=SR.rd;have KB:Blk wr g 35 (Bp s dn F B J I (bsAll (j.take l) AE).source (bsAll (j.take l) AE).cos (bsAll (j.take l) AE).sin (bsAll (j.take l) AE).hyp z ln H):=SR.blk;have gB:=KB.lt
  by_cases aN:l<n
  ·have aO:(l:Int)<(n:Int):=Aa;obtain⟨ad,rfl,hx⟩:=(hr.below br).str aN;obtain⟨h1,h2⟩:=aw.out l aN;have HR:=λ(V:World) (bb:Below wr wr V)=>Vy (j.getD l []) ⟨⟨s,dn,F⟩,⟨B,J,I⟩,⟨z,ln,H⟩⟩ (bsAll (j.take l) AE) V an (X.below bb) h1;have ax:Hid (bsAll (j.take (l+1)) AE=bsNext (bsAll (j.take l) AE) (j.getD l [])):=by unfold Hid;rw[h2,Jy]
   have bd:Hid (jw (bsNext (bsAll (j.take l) AE) (j.getD l []))):=cM an _;have be:Hid (BO (bsOuts (j.take (l+1)) AE)=BO (bsOuts (j.take l) AE)++BO [bsOut (bsAll (j.take l) AE) (j.getD l [])]):=by unfold Hid;rw[h2,Ig,O9]
   have bx:l+1<=1099511627776:=Aa;have Y:=Gr wr (ad.add l) hx;unfold DQ At at HR;generalize bsNext (bsAll (j.take l) AE) (j.getD l [])=r at*;generalize bsOut (bsAll (j.take l) AE) (j.getD l [])=t at*;generalize bsOuts (j.take l) AE=us at*;generalize bsAll (j.take l) AE=b at*;generalize j.getD l []=y at*;simp only at HR;have hb:=KB.cell;clear h1 h2 SR an X
   go_upto_region 6 with fail
   have bA:Below wr wr (wr.alloc (.cells Ap 35)):=BU;have hA:=HR wr.drew GJ;have hB:=HR (wr.alloc (.cells Ap 35)).drew (CO bA);have KZ:=Blk.drew (Br wr 35 Ap)
   go_cut [7,8] (λv7 v8 wx=> ∃(q:Nat) (C:Option Addr) (L K:Nat) (D:Option Addr) (N M:Nat) (E:Option Addr) (R Q:Nat),v7=.pointer (some ⟨q,0,none⟩)∧v8=.string ⟨t.toArray⟩∧Blk wx q 35 (Ad C L K D N M r E R Q)∧wr.heap.size<=q∧Ag wx (Ar ⟨⟨C,L,K⟩,⟨D,N,M⟩,⟨E,R,Q⟩⟩ r)∧(∀p,some p∈BK ⟨⟨C,L,K⟩,⟨D,N,M⟩,⟨E,R,Q⟩⟩->some p∈BK ⟨⟨s,dn,F⟩,⟨B,J,I⟩,⟨z,ln,H⟩⟩∨wr.heap.size<=p)∧Below wr wr wx)
   case first=>
    go_region_held3 (λw'=>(∀o,w'.cell? ⟨g,o,none⟩=((Ad s dn F B J I b z ln H):Array Value)[o]?)∧w'.cell? (ad.add l)=some (.string ⟨y.toArray⟩))
     (exact Cs)
     (first
      |(go_at_call 59;(with_reducible refine hA.mono ?_);rintro e u ⟨⟨⟨C,L,K⟩,⟨D,N,M⟩,⟨E,R,Q⟩⟩,rfl,RR,HQ,b4⟩;have T:Below wr wr u:=EE (m:=1) b4;have z0:(∀o,u.cell? ⟨g,o,none⟩=((Ad s dn F B J I b z ln H):Array Value)[o]?):=λo=>(KB.below T gB).cell o;have y0:=CM gB T.size;have z1:u.cell? (ad.add l)=some (.string ⟨y.toArray⟩):=(JX T (p:=ad.add l) Y).trans hx;have y1:=CM Y T.size;have KU:=Br u 35 (Ad C L K D N M r E R Q);have bU:Below wr wr (u.alloc (.cells (Ad C L K D N M r E R Q) 35)):=T.trans (((AP _ _).alloc Bk _).mono T.size))
      |(go_at_call 59;(with_reducible refine hB.mono ?_);rintro e u ⟨⟨⟨C,L,K⟩,⟨D,N,M⟩,⟨E,R,Q⟩⟩,rfl,RR,HQ,b4⟩;have T:Below wr wr u:=(CO bA).trans (b4.mono bA.size);have z0:(∀o,u.cell? ⟨g,o,none⟩=((Ad s dn F B J I b z ln H):Array Value)[o]?):=λo=>(KB.below T gB).cell o;have y0:=CM gB T.size;have z1:u.cell? (ad.add l)=some (.string ⟨y.toArray⟩):=(JX T (p:=ad.add l) Y).trans hx;have y1:=CM Y T.size;have KU:=KZ.below b4 KZ.lt;have fU:=KU.frozen;have cU:=KU.cell;have ce:=KU.lt))
    all_goals
     go_wp2_with fail
     go_meet
     first
      |(clear fU;exact⟨wr.heap.size,C,L,K,D,N,M,E,R,Q,rfl,rfl,Ra KU,Cp _,Nm RR (λp S=>by rcases HQ p S with h|h;(·have:=Z p h;omega);(·simp at h;omega)),λp S=>(HQ p S).imp id (λh=>by simp at h;omega),BH T Bk⟩)
      |exact⟨u.heap.size,C,L,K,D,N,M,E,R,Q,rfl,rfl,KU,T.size,RR.below BU,λp S=>(HQ p S).imp id (λh=>by simp at h;omega),bU⟩
   case rest=>
    obtain⟨q,C,L,K,D,N,M,E,R,Q,rfl,rfl,KQ,hq,RR,HQ,bw⟩:=hcut;have ab:=KB.below bw gB;have aA:=W.below bw g0;have eQ:=KQ.cell;have eB:=ab.cell;have fB:=ab.frozen
    have NR: ∀p,some p∈BK ⟨⟨C,L,K⟩,⟨D,N,M⟩,⟨E,R,Q⟩⟩->p≠g∧(⟨OA,l,oc⟩:Hd).row≠some p∧w.heap.size<p:=λp S=>by
     rcases HQ p S with h|h
     ·exact ac p h
     ·exact⟨by omega,(λc=>by have:=(aa p c).2;omega),by omega⟩
    have ai:=Ra (v0:=.slice C L K) (v1:=.slice D N M) (v2:=.int .i64 r.source) (v3:=.int .i64 r.cos) (v4:=.int .i64 r.sin) (v5:=.int .i64 r.hyp) (v6:=.slice E R Q) ab;have ah:=Q9 (g:=g) (v0:=.slice C L K) (v1:=.slice D N M) (v2:=.int .i64 r.source) (v3:=.int .i64 r.cos) (v4:=.int .i64 r.sin) (v5:=.int .i64 r.hyp) (v6:=.slice E R Q) aA (show w.heap.size≠g by omega)
    have aD:=Nm (g:=g) (a1:=.slice C L K) (a2:=.slice D N M) (a3:=.int .i64 r.source) (a4:=.int .i64 r.cos) (a5:=.int .i64 r.sin) (a6:=.int .i64 r.hyp) (a7:=.slice E R Q) RR (λp S=>(NR p S).1);have O7:=Nl (g:=g) (a:=.slice C L K) (b:=.slice D N M) (c:=.int .i64 r.source) (d:=.int .i64 r.cos) (e:=.int .i64 r.sin) (f:=.int .i64 r.hyp) (k:=.slice E R Q) (OR.below bw) (Nat.lt_succ_self g);have b7:=BH (g:=g) (a:=.slice C L K) (b:=.slice D N M) (c:=.int .i64 r.source) (d:=.int .i64 r.cos) (e:=.int .i64 r.sin) (f:=.int .i64 r.hyp) (h:=.slice E R Q) (An br bw) Aa;clear KB W ab aA RR OR HR bA hA hB KZ hx Y hb HQ
    go_upto_region 8 with fail
    generalize((((((wc.setCell ⟨g,0,none⟩ (.slice C L K)).setCell ⟨g,1,none⟩ (.slice D N M)).setCell ⟨g,2,none⟩ (ZI r.source)).setCell ⟨g,3,none⟩ (ZI r.cos)).setCell ⟨g,4,none⟩ (ZI r.sin)).setCell ⟨g,5,none⟩ (ZI r.hyp)).setCell ⟨g,6,none⟩ (.slice E R Q)=w7 at*;clear eQ eB fB KQ bw;have ba:Below w7 w7 (w7.alloc (.cells #[.string ⟨t.toArray⟩] 9)):=BU;have O8:=O7.below ba;have RE:=Se w7 t 9;have aB:=ai.below ba ai.lt;have bf:=ah.below ba ah.lt;have aE:=aD.below ba;have b8:=An b7 ba;have bz:g+1<=(w7.alloc (.cells #[.string ⟨t.toArray⟩] 9)).heap.size:=aB.lt;clear O7 ai ah aD ba
    go_wp2_with (at_builtin;refine Aj rfl _ _ 22 rfl 9 1 16 underlying22 Ic Ah (g+1) ⟨OA,l,oc⟩ _ rfl O8 _ 1 1 (BO [t]) rfl RE (Iv t) bx Ah bz ?_;intro G wg aJ HG gg bB;have a9:=Ai aJ;clear aJ)
    have bh:=aB.grown gg (λe=>by have:=(aa _ e).1;omega)
    have bg:=bf.grown gg (λe=>by have:=(aa _ e).1;omega)
    have bl:=VW aE gg (λp S=>(NR p S).2.1);have b9:Below w w wg:=b8.grown gg b8.size (λq e=>by have:=(aa q e).1;omega)
    have aM:=LB aE
    have bo:fX wg w.heap.size g ⟨⟨C,L,K⟩,⟨D,N,M⟩,⟨E,R,Q⟩⟩ r G:=⟨bh,bl,λp S=>⟨(NR p S).1,(λc=>by
     rcases bB with h|⟨x,h,hx⟩
     ·rw[h] at c;exact(NR p S).2.1 c
     ·rw[h] at c;injection c with c;have:=aM p S;omega),(NR p S).2.2⟩⟩
    go_roundw
    case rel=>exact⟨l+1,⟨⟨C,L,K⟩,⟨D,N,M⟩,⟨E,R,Q⟩⟩,G,by omega,by go_num,rfl,by rw[ax.out];exact bo,by rw[be.out];exact HG,a9.out,bg,by rw[ax.out];exact bd.out,b9⟩
    case measure=>simp[intOf];omega
  ·obtain rfl:l=n:=Aa;have e0:=W.cell;have f0:=W.frozen;have eB:=KB.cell;have aO: ¬(l:Int)<(l:Int):=Aa;rw[az.out] at OR eB X;have FR:=Nm (g:=w) (a1:=.slice s dn F) (a2:=.slice B J I) (a3:=.int .i64 (bsAll j AE).source) (a4:=.int .i64 (bsAll j AE).cos) (a5:=.int .i64 (bsAll j AE).sin) (a6:=.int .i64 (bsAll j AE).hyp) (a7:=.slice z ln H) X (λp S=>by have:=(ac p S).2.2;omega)
   have FO:=(Nl (g:=w) (a:=.slice s dn F) (b:=.slice B J I) (c:=.int .i64 (bsAll j AE).source) (d:=.int .i64 (bsAll j AE).cos) (e:=.int .i64 (bsAll j AE).sin) (f:=.int .i64 (bsAll j AE).hyp) (k:=.slice z ln H) OR Aa).rd1;have FB:=BH (g:=w) (a:=.slice s dn F) (b:=.slice B J I) (c:=.int .i64 (bsAll j AE).source) (d:=.int .i64 (bsAll j AE).cos) (e:=.int .i64 (bsAll j AE).sin) (f:=.int .i64 (bsAll j AE).hyp) (h:=.slice z ln H) br Bk;have a0:Hid (∀q,some q∈BK ⟨⟨s,dn,F⟩,⟨B,J,I⟩,⟨z,ln,H⟩⟩->w<q):=λq hq=>(ac q hq).2.2;have a8:Hid (l=j.length):=bc.out.symm;clear SR OR ac X KB W Z aa aw az;go_wp2;refine AS (v:=.tuple #[Bp s dn F B J I (bsAll j AE).source (bsAll j AE).cos (bsAll j AE).sin (bsAll j AE).hyp z ln H,.slice OA l oc]) (by simp[results,results32,go_sem,e0,g0]) rfl ?_
   exact⟨⟨⟨s,dn,F⟩,⟨B,J,I⟩,⟨z,ln,H⟩⟩,⟨OA,l,oc⟩,rfl,FR,a0.out,a8.out,FO,FB⟩
def UX (s:Bs) (w:World) (e:Ending) (w':World):Prop:=
 ∃h:AG,e=.returned (.tuple #[At h (baR s),ZI (rnC s)])∧Ag w' (Ar h (baR s))∧Below w w w'
theorem XY (s:Bs) (w:World) (hs:s.length<=100000) (A:Option Addr) (c:Nat) (R:Rd w A (lnL s).length (BO (lnL s))):
  Calls prog 32 #[.slice A (lnL s).length c] w (YK (lnL s) w):=
 Vx A (lnL s).length c (lnL s) w (by have:=JF s;rw[<-WU] at this;omega) R (λx a=>by have:=(Qq a).1;omega)
theorem JI (s:Bs) (w:World) (hs:s.length<=1048576):
  Calls prog 12 #[.string ⟨s.toArray⟩] w (UX s w):=by
 have n:=λV=>TM s V hs;have K:=λV=>Kj s V hs;have i:=Br w 35 Ap;have E:Below w w (w.alloc (.cells Ap 35)):=BU;rcases jt (fitB s) with hf|hf
 ·have h4:s.length<=4000:=by
   unfold fitB at hf;rw[CD,BP] at hf;exact hf.1
  have k:Hid (baR s=bsAll (lnL s) AE∧rnC s=0):=⟨AA hf,AA hf⟩;have C:=λ(V:World) (A:Option Addr) (c:Nat) (R:Rd V A (lnL s).length (BO (lnL s)))=>XY s V Aa A c R;rw[hf] at n;unfold YK At at C;unfold UX At;rw[k.out.1,k.out.2];generalize bsAll (lnL s) AE=b at*;generalize lnL s=ls at*;clear hf
  go_enter func12,ntmps12
  go_upto_region 1 with fail
  generalize w.alloc _=S at*;have l:=i.lt
  go_upto_region 4 with(first
   |(go_at_call 31;refine(n _).mono ?_;rintro e T ⟨rfl,f⟩)
   |(go_at_call 33;refine(K _).mono ?_;rintro e w2 ⟨A,c,rfl,M,F⟩)
   |(go_at_call 32;refine(C _ _ _ M).mono ?_;rintro e z ⟨⟨⟨m,dn,t⟩,⟨r,y,x⟩,⟨q,ln,u⟩⟩,⟨U,on,oc⟩,rfl,N,g,-,-,O⟩))
  have B:Below z z (z.alloc (.cells (Ad m dn t r y x b q ln u) 35)):=BU;have L:=Br z 35 (Ad m dn t r y x b q ln u);have d:=f.trans ((An F O).mono f.size);have a:=((i.below d l).below B (i.below d l).lt);have D:=N.below B;have G:=E.trans ((An d B).mono E.size)
  have J: ∀p,some p∈BK ⟨⟨m,dn,t⟩,⟨r,y,x⟩,⟨q,ln,u⟩⟩->p≠w.heap.size:=λp hp=>by
   have X:=g p hp;have Y:=f.size;have Z:=F.size;omega
  clear N g B d O F f M C K n i;generalize z.alloc _=w4 at*;have H:=a.cell;have Q:=a.frozen;have I:=a.lt;have W:=L.cell;clear a L l;go_wp2;refine AS (v:=.tuple (BQ m dn t r y x b q ln u 0)) (by simp[results,results12,go_sem,H,I]) rfl ?_
  exact⟨⟨⟨m,dn,t⟩,⟨r,y,x⟩,⟨q,ln,u⟩⟩,rfl,Nm D J,BH G Bk⟩
 ·have j: ¬fitB s=true:=by rw[hf];decide
  have k:Hid (baR s=Wt∧rnC s=3):=⟨Ak j,Ak j⟩;rw[hf] at n;clear hf j
  go_enter func12,ntmps12
  go_upto_region 1 with fail
  generalize w.alloc _=S at*;have l:=i.lt
  go_upto_region 2 with(go_at_call 31;refine(n _).mono ?_;rintro e T ⟨rfl,f⟩)
  have a:=i.below f l;have H:=a.cell;have Q:=a.frozen;have I:=a.lt;have G:=An E f;clear i a f l;go_wp2;refine AS (v:=.tuple #[Ap,ZI 3]) (by simp[results,results12,go_sem,H,I]) rfl ?_
  refine⟨⟨⟨none,0,0⟩,⟨none,0,0⟩,⟨none,0,0⟩⟩,by rw[k.out.1,k.out.2];rfl,?_,BH G Bk⟩
  rw[k.out.1];exact Ag.cons (s:=⟨none,0,[]⟩) (Rd.nil _ _) (Ag.cons (s:=⟨none,0,[]⟩) (Rd.nil _ _) (Ag.cons (s:=⟨none,0,[]⟩) (Rd.nil _ _) (Ag.nil _)))
theorem Blk.far7 {W:World} {Q g:Nat} {t:TypeId} {cs:Array Value} (B:Blk W Q t cs) (h:Q≠g) (a b c d e f k:Value):Blk (((((((W.setCell ⟨g,0,none⟩ a).setCell ⟨g,1,none⟩ b).setCell ⟨g,2,none⟩ c).setCell ⟨g,3,none⟩ d).setCell ⟨g,4,none⟩ e).setCell ⟨g,5,none⟩ f).setCell ⟨g,6,none⟩ k) Q t cs:=
 ((((((B.far (p:=⟨g,0,none⟩) h a).far (p:=⟨g,1,none⟩) h b).far (p:=⟨g,2,none⟩) h c).far (p:=⟨g,3,none⟩) h d).far (p:=⟨g,4,none⟩) h e).far (p:=⟨g,5,none⟩) h f).far (p:=⟨g,6,none⟩) h k
theorem jL (A:Option Addr) (n c:Nat) (O:List Int) (w:World) (r:Rd w A n (ir O)) (hx: ∀x∈O,0<=x∧x<=255) (hn:n<=4096):
  Calls prog 19 #[.slice A n c] w λe G=> ∃(h:AG) (l:Ae),e=.returned (At h l)∧GW h∧Ag G (Ar h l)∧Below w w G:=by
 have I:Below w w (w.alloc (.cells Ap 35)):=BU;have K:=Br w 35 Ap;have r0:=r.below I
 go_enter func19,ntmps19
 go_wp2_with fail
 generalize w.alloc _=w0 at I K r0⊢;refine(iD A n c O _ r0 hx hn).mono ?_;rintro e w1 ⟨g,rfl,S1,F⟩;have aw:=K.lt;replace K:=K.below F K.lt;have hg:=S1.lt;replace F:=An I F;clear I r0
 go_wp2_with fail
 refine(jR _ g _ S1).mono ?_;rintro e u ⟨⟨a,f,j⟩,⟨d,i,m⟩,L,M,k,x,y,z,rfl,h0,h1,T⟩;simp only at h0 h1;have Y:g<u:=CM hg.1 T.D.size;replace K:=K.nx T.D.gr Aa;have hQ:=K.lt
 go_upto_region 3 with fail
 have B:=(Br u 30 (CH a f j d i m)).alloc (.cells (Ziii x y z) 32);have J:=Blk.newN (g:=u+1) (u.alloc (.cells (CH a f j d i m) 30)) 32 (Ziii x y z) Cr;replace T:=(T.al (.cells (CH a f j d i m) 30)).al (.cells (Ziii x y z) 32);replace K:=(K.alloc (.cells (CH a f j d i m) 30)).alloc (.cells (Ziii x y z) 32);generalize(u.alloc _).alloc _=w3 at B J T K⊢;generalize u.heap.size=Q at B J hQ Y⊢;have S:=B.cell;have gB:=B.lt;have U:=J.cell;have gJ:=J.lt;have W:Q≠w.heap.size:=Aa;have X:Q+1≠w.heap.size:=Aa
 go_region_held3 (λG=>(∀o,G.cell? ⟨Q,o,none⟩=((CH a f j d i m):Array Value)[o]?)∧(∀o,G.cell? ⟨Q+1,o,none⟩=((Ziii x y z):Array Value)[o]?))
  (first|(with_reducible exact⟨S,U⟩)|(with_reducible exact⟨cS,cT⟩)|(exact⟨S,U⟩))
  (first|(go_at_call 46;(with_reducible refine(jX _ g _ T.dr.D.src).mono ?_);rintro e u1 ⟨⟨p,q,t⟩,N,rfl,V,-,R2,hq,C⟩;have E:=T.dr.next C.gr C.src;have au:=T.dr.D.size;have K:=(Blk.drew K).nx C.gr (by omega);have J:=(Blk.drew J).nx C.gr (by omega);have B:=(Blk.drew B).nx C.gr (by omega);have S:=B.cell;have gB:=B.lt;have U:=J.cell;have gJ:=J.lt;have cK:=K.cell;have fK:=K.frozen;have gK:=K.lt;have cS:=λo=>(B.far7 W (.slice a f j) (.slice d i m) (ZI k) (ZI x) (ZI y) (ZI z) (.slice p q t)).cell o;have cT:=λo=>(J.far7 X (.slice a f j) (.slice d i m) (ZI k) (ZI x) (ZI y) (ZI z) (.slice p q t)).cell o))
 all_goals
  have ax:=F.size;have RB:Ag u1 (Ar ⟨⟨a,f,j⟩,⟨d,i,m⟩,⟨p,q,t⟩⟩ ⟨L,M,k,x,y,z,N⟩):=Ag.cons (s:=⟨a,f,ints L⟩) E.R.head (Ag.cons (s:=⟨d,i,ints M⟩) E.R.tail.head (Ag.cons (s:=⟨p,q*7,ints N⟩) R2 (Ag.nil _)))
  have Z: ∀s∈(Ar ⟨⟨a,f,j⟩,⟨d,i,m⟩,⟨p,q,t⟩⟩ ⟨L,M,k,x,y,z,N⟩).map Sl.row,s≠some w.heap.size:=λs hs e=>by
   simp only[Ar,List.map_cons,List.map_nil,CC,I5,or_false] at hs;rcases hs with h|h|h
   ·have:=E.H s (by rw[h];exact C5 ..) _ e;omega
   ·have:=E.H s (by rw[h];exact Hz _ (C5 ..)) _ e;omega
   ·rw[h] at e;have:=hq _ e;omega
  go_wp2;refine AS (v:=.agg (Bp a f j d i m k x y z p q t)) (by simp[results,results19,go_sem,cK,gK]) rfl ⟨⟨⟨a,f,j⟩,⟨d,i,m⟩,⟨p,q,t⟩⟩,⟨L,M,k,x,y,z,N⟩,rfl,⟨by simp only;omega,by simp only;omega,by simp only at V⊢;omega⟩,Bt RB Z,?_⟩
  exact BH (jh F E.D.gr Bk (λb e=>by injection e with e;omega)) Bk
theorem j4 {s:Bs} (h:rnC s=0):benchLB (baR s)=true:=by
 unfold rnC at h;unfold baR
 split at h
 ·next hf=>rw[AA hf];exact(j5 (lnL s) Qe).valid
 ·cases h
theorem jP (w:World) (A:Option Addr) (n c:Nat) (zs:List Int) (G:ArgB w A n c zs) (T:Dq w):
  (BT 5 #[.slice A n c] w (.bool true):Prop):=by
 have aK:=G.max
 by_cases hb:(4096:Int)<(n:Int)
 ·go_enter func5,ntmps5
  go_wp2_with (go_at_call 17;refine(iZ _ _ _ _ Aa).mono ?_;rintro e E ⟨rfl,rfl⟩)
  go_ret;exact⟨rfl,AP _ _⟩
 have aJ:decide ((4096:Int)<(n:Int))=false:=by simpa using hb
 have az:n<=4096:=Aa
 go_enter func5,ntmps5
 go_wp2_with fail
 refine(iZ _ _ _ _ Aa).mono ?_;rintro e E ⟨rfl,rfl⟩
 go_wp2_with fail
 refine(jV A n c zs _ G.rd G.byte az).mono ?_;rintro e w1 ⟨l,rfl,hl,b1⟩;clear aJ hb aK;have HS:=λW=>JI l W Aa;have HI:=λ(W:World) (T:Dq W)=>JB l W Aa T;have HV:Hid (rnC l=0->benchLB (baR l)=true):=j4;unfold UX At at HS;unfold YL At at HI;generalize baR l=F at*;generalize rnC l=cd at*
 go_wp2_with fail
 refine(HI _ (T.below b1)).mono ?_;rintro e w2 ⟨⟨⟨A1,n1,c1⟩,⟨E1,m1,d1⟩,⟨F1,l1,q1⟩⟩,rfl,z,g,-,-,b2⟩;replace b2:=Jk b1 b2;clear b1
 go_wp2_with fail
 generalize v:(w2.alloc _)=w3;obtain⟨a,b3⟩:=EX v;clear v;replace g:=g.below b3;replace b3:=Jk b2 b3;clear b2;generalize w2.heap.size=aG at a⊢;refine(HS _).mono ?_;rintro e w4 ⟨⟨⟨A2,n2,c2⟩,⟨E2,m2,d2⟩,⟨F2,l2,q2⟩⟩,rfl,k,b4⟩;replace g:=g.below b4;replace a:=a.below b4 a.lt;replace b4:=Jk b3 b4;clear b3
 go_wp2_with fail
 generalize v:(w4.alloc _)=w5;obtain⟨d,L⟩:=EX v;clear v;replace g:=g.below L;replace k:=k.below L;replace a:=a.below L a.lt;replace L:=Jk b4 L;clear b4;generalize w4.heap.size=aH at d⊢;refine(jL A n c zs _ (G.rd.below L) G.byte az).mono ?_;rintro e w6 ⟨⟨⟨O,n3,Z⟩,⟨Q,m3,d3⟩,⟨S,l3,q3⟩⟩,X,rfl,ah,x,M⟩;replace g:=g.below M;replace k:=k.below M;replace a:=a.below M a.lt;replace d:=d.below M d.lt;replace M:=Jk L M;clear L;unfold At;simp only
 go_wp2_with fail
 generalize v:(w6.alloc _)=w7;obtain⟨f,K⟩:=EX v;clear v;replace g:=g.below K;replace k:=k.below K;replace x:=x.below K;replace a:=a.below K a.lt;replace d:=d.below K d.lt;replace K:=Jk M K;clear M;generalize w6.heap.size=aI at f⊢;refine(jI _).mono ?_;rintro e w8 ⟨⟨⟨A4,n4,c4⟩,⟨E4,m4,d4⟩,⟨F4,l4,q4⟩⟩,rfl,aL,u,-,-,H⟩;replace g:=g.below H;replace k:=k.below H;replace x:=x.below H;replace a:=a.below H a.lt;replace d:=d.below H d.lt;replace f:=f.below H f.lt;replace H:=Jk K H;clear K;unfold At AE;simp only
 go_wp2_with fail
 generalize v:(w8.alloc _)=w9;obtain⟨q,y⟩:=EX v;clear v;replace g:=g.below y;replace k:=k.below y;replace x:=x.below y;replace u:=u.below y;replace a:=a.below y a.lt;replace d:=d.below y d.lt;replace f:=f.below y f.lt;replace y:=Jk H y;clear H;generalize w8.heap.size=bu at q⊢;refine(L6 _).mono ?_;rintro e aB ⟨⟨⟨A5,n5,c5⟩,⟨E5,m5,d5⟩,⟨F5,l5,q5⟩⟩,rfl,aM,J,-,-,j⟩;replace g:=g.below j;replace k:=k.below j;replace x:=x.below j;replace u:=u.below j;replace a:=a.below j a.lt;replace d:=d.below j d.lt;replace f:=f.below j f.lt;replace q:=q.below j q.lt;replace j:=Jk y j;clear y;unfold At AE;simp only
 go_wp2_with fail
 generalize v:(aB.alloc _)=t;obtain⟨I,i⟩:=EX v;clear v;replace g:=g.below i;replace k:=k.below i;replace x:=x.below i;replace u:=u.below i;replace J:=J.below i;replace a:=a.below i a.lt;replace d:=d.below i d.lt;replace f:=f.below i f.lt;replace q:=q.below i q.lt;replace i:=Jk j i;clear j;generalize aB.heap.size=bw at I⊢;have e1:n1=n2:=(Rd.len g.head).symm.trans (Rd.len k.head);have e2:m1=m2:=(Rd.len g.tail.head).symm.trans (Rd.len k.tail.head);have e3:l1=l2:=by have:=(Rd.len g.tail.tail.head).symm.trans (Rd.len k.tail.tail.head);simp only at this;omega
 have e4:n4=2:=(Rd.len u.head).symm;have e5:m4=2:=(Rd.len u.tail.head).symm;have e6:l4=0:=by have:0=l4*7:=Rd.len u.tail.tail.head;omega
 have e7:n5=2:=(Rd.len J.head).symm;have e8:m5=2:=(Rd.len J.tail.head).symm;subst e1 e2 e3 e4 e5 e6 e7 e8;have o1:=z.1;have o2:=z.2.1;have o3:=z.2.2;simp only at o1 o2 o3;have an: ∀V:World,Ag V (Ar ⟨⟨O,n3,Z⟩,⟨Q,m3,d3⟩,⟨S,l3,q3⟩⟩ X)->Calls prog 24 #[Ad O n3 Z Q m3 d3 X S l3 q3] V λe E=>e=.returned (.bool (benchLB X))∧Below V V E:=λV R=>jE ⟨⟨O,n3,Z⟩,⟨Q,m3,d3⟩,⟨S,l3,q3⟩⟩ X V ah R;have ao: ∀V:World,Ag V (Ar ⟨⟨O,n3,Z⟩,⟨Q,m3,d3⟩,⟨S,l3,q3⟩⟩ X)->Calls prog 25 #[Ad O n3 Z Q m3 d3 X S l3 q3] V λe E=>e=.returned (.bool (benchLB X))∧Below V V E:=λV R=>jJ ⟨⟨O,n3,Z⟩,⟨Q,m3,d3⟩,⟨S,l3,q3⟩⟩ X V ah R;have ap: ∀V:World,Ag V (Ar ⟨⟨A1,n1,c1⟩,⟨E1,m1,d1⟩,⟨F1,l1,q1⟩⟩ F)->Calls prog 24 #[Ad A1 n1 c1 E1 m1 d1 F F1 l1 q1] V λe E=>e=.returned (.bool (benchLB F))∧Below V V E:=λV R=>jE ⟨⟨A1,n1,c1⟩,⟨E1,m1,d1⟩,⟨F1,l1,q1⟩⟩ F V z R;clear z ah aL aM HS HI;generalize benchLB X=bx at*;generalize benchLB F=bn at*;have B:=a.lt;have C:=d.lt;have D:=f.lt;have p:=a.cell;have r:=d.cell;have s:=f.cell;have bd:Below t t t.drew:=GJ;have U:=g.below bd;have Y:=k.below bd
 go_wp2_with fail
 have N:=i;clear i;have m:=AP t.heap.size t
 go_region_held3 (λE=>(∀o,E.cell? ⟨aG,o,none⟩=((Ad A1 n1 c1 E1 m1 d1 F F1 l1 q1):Array Value)[o]?)∧(∀o,E.cell? ⟨aH,o,none⟩=((Ad A2 n1 c2 E2 m1 d2 F F2 l1 q2):Array Value)[o]?)∧(∀o,E.cell? ⟨aI,o,none⟩=((Ad O n3 Z Q m3 d3 X S l3 q3):Array Value)[o]?))
  (first|(with_reducible exact⟨p,r,s⟩)|(exact⟨p,r,s⟩))
  (first
   |(go_at_call 22;(with_reducible refine(jB A1 E1 A2 E2 n1 m1 c1 d1 c2 d2 F.depths F.speeds _ o1 o2 U.head U.tail.head Y.head Y.tail.head).mono ?_);rintro e v1 ⟨rfl,b⟩;have b:=(Below.trans bd (Below.mono b bd.size):Below t t _);have a:=a.below b a.lt;have B:=a.lt;have p:=a.cell;have d:=d.below b d.lt;have C:=d.lt;have r:=d.cell;have f:=f.below b f.lt;have D:=f.lt;have s:=f.cell;have m:=Jk m b)
   |(go_at_call 23;(with_reducible refine(jH F1 F2 l1 q1 q2 F.log _ o3 (g.below m).tail.tail.head (k.below m).tail.tail.head).mono ?_);rintro e v2 ⟨rfl,b⟩;have a:=a.below b a.lt;have B:=a.lt;have p:=a.cell;have d:=d.below b d.lt;have C:=d.lt;have r:=d.cell;have f:=f.below b f.lt;have D:=f.lt;have s:=f.cell;have m:=Jk m b)
   |(go_at_call 24;(with_reducible refine(an _ (x.below m)).mono ?_);rintro e v3 ⟨rfl,b⟩;have a:=a.below b a.lt;have B:=a.lt;have p:=a.cell;have d:=d.below b d.lt;have C:=d.lt;have r:=d.cell;have f:=f.below b f.lt;have D:=f.lt;have s:=f.cell;have m:=Jk m b)
   |(go_at_call 25;(with_reducible refine(ao _ (x.below m)).mono ?_);rintro e v4 ⟨rfl,b⟩;have a:=a.below b a.lt;have B:=a.lt;have p:=a.cell;have d:=d.below b d.lt;have C:=d.lt;have r:=d.cell;have f:=f.below b f.lt;have D:=f.lt;have s:=f.cell;have m:=Jk m b))
 all_goals
  replace g:=g.below m;replace u:=u.below m;replace J:=J.below m;replace q:=q.below m q.lt;replace I:=I.below m I.lt;replace N:=Jk N m;clear k x U Y an ao bd b m;have au:=q.cell;have av:=I.cell
  go_wp2_with fail
  refine(jB A4 E4 A5 E5 2 2 c4 d4 c5 d5 [0,1000] [1500000,1500000] _ Ah Ah u.head u.tail.head J.head J.tail.head).mono ?_;rintro e v5 ⟨rfl,b⟩;replace g:=g.below b;replace a:=a.below b a.lt;replace N:=Jk N b;replace q:=q.below b q.lt;replace I:=I.below b I.lt;clear u J d f C D r s B p au av b;have p:=a.cell;have au:=q.cell;have av:=I.cell
  by_cases ay:cd=0
  ·have ax:bn=true:=HV.out ay;subst ay;rw[ax] at ap;clear ax HV
   go_wp2_with fail
   refine(ap _ g).mono ?_;rintro e v6 ⟨rfl,b⟩;replace N:=Jk N b;go_wp2;go_ret;exact⟨rfl,N⟩
  ·go_wp2;go_ret;exact⟨rfl,N⟩
