import Derived.Test.YtkndcebhjcfphaaGreatDoorZAi
import Derived.Test.YtkndcebhjcfphaaGreatDoorZU
import Derived.Test.YtkndcebhjcfphaaGreatDoorZY
import Derived.Test.YtkndcebhjcfphaaGreatDoorZYx1
namespace Go.Proofs.YtkndcebhjcfphaaGreatDoor
open Go.RowKit Go.Proofs.Tryz
set_option maxRecDepth 100000
set_option maxHeartbeats 4000000
set_option linter.all false
def erT (c:Int):Bs:= [101,114,114,111,114,32]++Lib.itoa c
def H5:Bs:= [111,107]
def cdT (t:Bs) (c:Int):Bs:=if c=0 then t else erT c
def ivT (a b:Int):Bs:=Lib.itoa a++ [46,46]++Lib.itoa b
def orD (t:Bs):Bs:=if t= [] then [45] else t
def cmI (s:Bs) (i:Nat):Int:=(Co s).getD i 0
def rayB (b:Ae):Al:=⟨b.depths,b.speeds,b.source.toNat,b.cos,b.sin,b.hyp⟩
def Qk (b:Ae) (n:Int):Int->Al:=fanR b.depths b.speeds b.source.toNat n (decide (0<b.sin))
def trT (b:Ae) (n:Int):Bs:=if trC (rayB b) n=0 then(match (rayB b).tr n.toNat with|some (x,l)=>orD (hisL (C2 l))++ [32]++ivT x.lo x.hi|none=> []) else erT (trC (rayB b) n)
def meC (b:Ae) (s:Bs):Int:=ocC (Qk b (cmI s 0)) b.depths.length (cmI s 0) (cmI s 1) (cmI s 2) (cmI s 3) (cmI s 4) (cmI s 5)
def meL (b:Ae) (s:Bs):List Int:=ocL (Qk b (cmI s 0)) b.depths.length (cmI s 0) (cmI s 1) (cmI s 2) (cmI s 3) (cmI s 4) (cmI s 5)
def meT (b:Ae) (s:Bs):Bs:=if meC b s=0 then(if meL b s= [] then [110,111,110,101] else joinI [32] (meL b s)) else erT (meC b s)
def sdL (b:Ae):List Int:=V7 b.log
def sdN (b:Ae):Nat:=(V7 b.log).length/4
def sdC (b:Ae):Int:=Ro b.log
def shT (b:Ae):Bs:=if sdC b=0 then(if sdN b=0 then erT 4 else joinI [32] (Fw (sdL b) (shlTo (sdL b) (sdN b)))) else erT (sdC b)
def ccC (b:Ae) (s:Bs):Int:=Po (sdL b) (sdN b) (cmI s 0) (cmI s 1) (cmI s 2)
def Y4 (b:Ae) (s:Bs):List Nat:=fk (sdL b) (sdN b) (cmI s 0) (cmI s 1) (cmI s 2)
def clT (b:Ae) (s:Bs):Bs:=if sdC b=0 then cdT (Lib.itoa ((Y4 b s).length:Int)++ [47]++Lib.itoa (sdN b:Int)) (ccC b s) else erT (sdC b)
def ggC (b:Ae) (s:Bs):Int:=Qn (cmI s 0) (cmI s 1) (cmI s 2) (sdL b) (sdN b)
def ggR (b:Ae) (s:Bs):Am:=UQ (cmI s 0) (cmI s 1) (cmI s 2) (sdL b) (sdN b)
def grT (b:Ae) (s:Bs):Bs:=if sdC b=0 then(if ggC b s=0 then cdT (ivT (mdL (ggR b s)) (mdH (ggR b s))) (mdC (ggR b s)) else erT (ggC b s)) else erT (sdC b)
def chT (s:Bs):Bs:=cdT (Lib.itoa (tcV (cmI s 0) (cmI s 1) (cmI s 2))) (tcC (cmI s 0) (cmI s 1) (cmI s 2))
def plT (s:Bs):Bs:=cdT (joinI [32] (evQ (cmI s 0) (cmI s 1) (cmI s 2))) (evC (cmI s 0) (cmI s 1) (cmI s 2))
def lgN (b:Ae):Nat:=b.log.length/7
def Qc (b:Ae) (t k l x y d r:Int):Bs:=if recB t k l x y d r=true then(if lgN b<200 then H5 else erT 3) else erT 2
def aU (b:Ae) (s:Bs):Bs:=
 if cmH s=By then trT b (cmI s 0)
 else if cmH s=Cj then meT b s
 else if cmH s=AQ then shT b
 else if cmH s=Bw then clT b s
 else if cmH s=Ci then grT b s
 else if cmH s=Bi then chT s
 else if cmH s=Ck then plT s
 else if cmH s=CX then Lib.itoa (lgN b:Int)
 else Lib.itoa (chkFold (lgT b.log (lgN b)))
def bsOut (b:Ae) (s:Bs):Bs:=
 if Dm s=true then
  (if cmH s=Av then(if Fm (cmT s)=true then H5 else erT 6)
   else if cmH s=AM then(if inR (cmI s 0) 0 ((b.depths.length:Int)-1)=true then H5 else erT 2)
   else if cmH s=Ca then(if Gj (cmI s 0) (cmI s 1)=true∧inR (cmI s 2) 0 1=true then H5 else erT 2)
   else if cmH s=AW then Qc b (cmI s 0) 1 (cmI s 1) 0 0 0 0
   else if cmH s=AX then Qc b (cmI s 0) 2 0 (cmI s 1) (cmI s 2) (cmI s 3) (cmI s 4)
   else if cmH s=Bo then Qc b (cmI s 0) 3 0 0 0 0 0
   else aU b s)
 else erT 6
def bsAll:List Bs->Ae->Ae
 | [],b=>b
 |s::t,b=>bsAll t (bsNext b s)
def bsOuts:List Bs->Ae->List Bs
 | [],_=> []
 |s::t,b=>bsOut b s::bsOuts t (bsNext b s)
theorem Jy: ∀(t:List Bs) (b:Ae) (s:Bs),bsAll (t++ [s]) b=bsNext (bsAll t b) s
 | [],_,_=>rfl
 |x::t,b,s=>Jy t (bsNext b x) s
theorem Ig: ∀(t:List Bs) (b:Ae) (s:Bs),bsOuts (t++ [s]) b=bsOuts t b++ [bsOut (bsAll t b) s]
 | [],_,_=>rfl
 |x::t,b,s=>by
  show bsOut b x::bsOuts (t++ [s]) (bsNext b x)=_;rw[Ig t];rfl
theorem j5: ∀(t:List Bs) {b:Ae},jw b->jw (bsAll t b)
 | [],_,h=>h
 |s::t,_,h=>j5 t (cM h s)
theorem NH: ∀(t:List Bs) (b:Ae),(bsOuts t b).length=t.length
 | [],_=>rfl
 |s::t,b=>by
  show(bsOuts t (bsNext b s)).length+1=t.length+1;rw[NH t]
theorem KF {b:Ae} (h:jw b):A8 (rayB b):=⟨h.prof,h.dir,by have:=Ac h.src;show b.source.toNat<b.depths.length;omega⟩
theorem Cx (c:Int) (w:World) (j:0<=c) (k:c<=1000) (T:CK w):
  (BT 100 #[ZI c] w (.string ⟨(erT c).toArray⟩):Prop):=by
 have D:=BY c w Aa Aa T;have f:Hid (erT c= [101,114,114,111,114,32]++Lib.itoa c):=rfl;have i:=Bm c Aa Aa;generalize Lib.itoa c=S at*;obtain⟨d,a⟩: ∃d,[101,114,114,111,114,32]++S=d:=⟨_,rfl⟩;have m:((⟨#[101,114,114,111,114,32]⟩:ByteArray)++⟨S.toArray⟩)=⟨d.toArray⟩:=by rw[<-a];exact AY [101,114,114,111,114,32] S
 have l: ¬9223372036854775807<6+S.length:=Aa;have g:Hid (erT c=d):=f.out.trans a;clear a i f
 go_enter func100,ntmps100
 go_wp2_with (go_at_call 134;refine D.mono ?_;rintro e n ⟨rfl,b⟩)
 go_ret;rw[g.out];exact⟨rfl,b⟩
theorem Ep (t:Bs) (c:Int) (w:World) (d:0<=c) (f:c<=1000) (T:CK w):
  (BT 146 #[.string ⟨t.toArray⟩,ZI c] w (.string ⟨(cdT t c).toArray⟩):Prop):=by
 have F:=Cx c w d f T
 by_cases h:c=0
 ·have a:Hid (cdT t c=t):=AA h;subst h
  go_enter func146,ntmps146
  go_wp2;go_ret;rw[a.out];exact⟨rfl,AP _ _⟩
 ·have a:Hid (cdT t c=erT c):=Ak h;have g:(c==0)=false:=by rw[Ea];exact h
  generalize erT c=E at*
  go_enter func146,ntmps146
  go_wp2_with (go_at_call 100;refine F.mono ?_;rintro e i ⟨rfl,b⟩)
  go_ret;rw[a.out];exact⟨rfl,b⟩
theorem Ob (a b:Int) (w:World) (ha: -9223372036854775808<a) (r:a<=9223372036854775807) (z: -9223372036854775808<b) (s:b<=9223372036854775807) (T:CK w):
  (BT 183 #[Zii a b] w (.string ⟨(ivT a b).toArray⟩):Prop):=by
 have g:Below w w (w.alloc (.cells (Zii a b) 136)):=BU;have y:=Br w 136 (Zii a b);have x:Hid (ivT a b=Lib.itoa a++ [46,46]++Lib.itoa b):=rfl;have B:=Bm a Aa Aa;have C:=Bm b Aa Aa;have v:=λ(W:World) (T:CK W)=>BY a W Aa Aa T;have u:=λ(W:World) (T:CK W)=>BY b W Aa Aa T;generalize Lib.itoa a=S at*;generalize Lib.itoa b=R at*;obtain⟨k,j⟩: ∃k,S++ [46,46]=k:=⟨_,rfl⟩;obtain⟨n,l⟩: ∃n,k++R=n:=⟨_,rfl⟩;have q:Hid (ivT a b=n):=by unfold Hid;rw[x.out,j,l]
 have A:k.length=S.length+2:=by rw[<-j,Dy];rfl
 have D: ¬9223372036854775807<S.length+2:=Aa;have E: ¬9223372036854775807<k.length+R.length:=Aa;have F:((⟨S.toArray⟩:ByteArray)++⟨#[46,46]⟩)=⟨k.toArray⟩:=by rw[<-j];exact AY S [46,46]
 have G:((⟨k.toArray⟩:ByteArray)++⟨R.toArray⟩)=⟨n.toArray⟩:=by rw[<-l];exact AY k R
 have f:=T.below g;clear j l x A B C T ha r z s
 go_enter func183,ntmps183
 go_upto_region 1 with fail
 generalize w.alloc _=p at*;have d:=y.lt;have i:=y.cell;have m:CK p.drew:=f;have bd:Below p p p.drew:=GJ
 go_region_held3 (λw'=>(∀o,w'.cell? ⟨w,o,none⟩=((Zii a b):Array Value)[o]?))
  (first|(exact i))
  (first
   |(go_at_call 134;(with_reducible refine(v _ m).mono ?_);rintro e t ⟨rfl,b⟩;have b:=An bd b;have i:=Dc i b d;have f:=CK.below f b;have c:=b.size;have d:=CM d c;have g:=(An g b))
   |(go_at_call 134;(with_reducible refine(v _ f).mono ?_);rintro e t ⟨rfl,b⟩;have i:=Dc i b d;have f:=CK.below f b;have c:=b.size;have d:=CM d c;have g:=(An g b))
   |(go_at_call 134;(with_reducible refine(u _ m).mono ?_);rintro e t ⟨rfl,b⟩;have b:=An bd b;have i:=Dc i b d;have f:=CK.below f b;have c:=b.size;have d:=CM d c;have g:=(An g b))
   |(go_at_call 134;(with_reducible refine(u _ f).mono ?_);rintro e t ⟨rfl,b⟩;have i:=Dc i b d;have f:=CK.below f b;have c:=b.size;have d:=CM d c;have g:=(An g b)))
 all_goals
  go_wp2;go_ret;rw[q.out];exact⟨rfl,g⟩
theorem Kl (a b:Int) (w:World) (ha: -9223372036854775808<a) (p:a<=9223372036854775807) (x: -9223372036854775808<b) (q:b<=9223372036854775807):
  (BT 125 #[Zii a b] w (.string ⟨(ivT a b).toArray⟩):Prop):=by
 have f:Below w w (w.alloc (.cells (Zii a b) 136)):=BU;have v:=Br w 136 (Zii a b);have u:Hid (ivT a b=Lib.itoa a++ [46,46]++Lib.itoa b):=rfl;have z:=Bm a Aa Aa;have A:=Bm b Aa Aa;have t:=λW=>Ek a W Aa Aa;have s:=λW=>Ek b W Aa Aa;generalize Lib.itoa a=S at*;generalize Lib.itoa b=R at*;obtain⟨j,i⟩: ∃j,S++ [46,46]=j:=⟨_,rfl⟩;obtain⟨m,k⟩: ∃m,j++R=m:=⟨_,rfl⟩;have n:Hid (ivT a b=m):=by unfold Hid;rw[u.out,i,k]
 have y:j.length=S.length+2:=by rw[<-i,Dy];rfl
 have B: ¬9223372036854775807<S.length+2:=Aa;have C: ¬9223372036854775807<j.length+R.length:=Aa;have D:((⟨S.toArray⟩:ByteArray)++⟨#[46,46]⟩)=⟨j.toArray⟩:=by rw[<-i];exact AY S [46,46]
 have E:((⟨j.toArray⟩:ByteArray)++⟨R.toArray⟩)=⟨m.toArray⟩:=by rw[<-k];exact AY j R
 clear i k u y z A ha p x q
 go_enter func125,ntmps125
 go_upto_region 1 with fail
 generalize w.alloc _=l at*;have d:=v.lt;have g:=v.cell;have bd:Below l l l.drew:=GJ
 go_region_held3 (λw'=>(∀o,w'.cell? ⟨w,o,none⟩=((Zii a b):Array Value)[o]?))
  (first|(exact g))
  (first
   |(go_at_call 89;(with_reducible refine(t l.drew).mono ?_);rintro e r ⟨rfl,b⟩;have b:=An bd b;have g:=Dc g b d;have c:=b.size;have d:=CM d c;have f:=(An f b))
   |(go_at_call 89;(with_reducible refine(t _).mono ?_);rintro e r ⟨rfl,b⟩;have g:=Dc g b d;have c:=b.size;have d:=CM d c;have f:=(An f b))
   |(go_at_call 89;(with_reducible refine(s l.drew).mono ?_);rintro e r ⟨rfl,b⟩;have b:=An bd b;have g:=Dc g b d;have c:=b.size;have d:=CM d c;have f:=(An f b))
   |(go_at_call 89;(with_reducible refine(s _).mono ?_);rintro e r ⟨rfl,b⟩;have g:=Dc g b d;have c:=b.size;have d:=CM d c;have f:=(An f b)))
 all_goals
  go_wp2;go_ret;rw[n.out];exact⟨rfl,f⟩
theorem VQ (t:Bs) (w:World):
  (YC 181 #[.string ⟨t.toArray⟩] w (.string ⟨(orD t).toArray⟩):Prop):=by
 by_cases h:t= []
 ·subst h
  go_enter func181,ntmps181
  go_wp2;go_ret;exact⟨rfl,rfl⟩
 ·have c:Hid (orD t=t):=Ak h;have d:t.isEmpty=false:=by cases t with|nil=>exact absurd rfl h|cons a b=>rfl
  clear h
  go_enter func181,ntmps181
  go_wp2;go_ret;rw[c.out];exact⟨rfl,rfl⟩
structure Bz (w:World) (g:Nat) (D S L:Hd) (b:Ae):Prop where
 blk:Blk w g 35 (Ad D.A D.n D.c S.A S.n S.c b L.A L.n L.c)
 d:Rd w D.A D.n (ints b.depths)
 s:Rd w S.A S.n (ints b.speeds)
 l:AR w (g+1) 7 L (ints b.log)
 dn:D.n=b.depths.length
 sn:S.n=b.speeds.length
 dg: ∀ad,D.A=some ad->0<D.n->ad.block≠g
 sg: ∀ad,S.A=some ad->0<S.n->ad.block≠g
 dl: ∀ad,D.A=some ad->0<D.n->L.row≠some ad.block
 sl: ∀ad,S.A=some ad->0<S.n->L.row≠some ad.block
theorem Bz.below {w w':World} {g:Nat} {D S L:Hd} {b:Ae} (h:Bz w g D S L b) (k:Below w w w'):Bz w' g D S L b:=
 ⟨h.blk.below k h.blk.lt,h.d.below k,h.s.below k,h.l.below k,h.dn,h.sn,h.dg,h.sg,h.dl,h.sl⟩
theorem PY (x:Int) (g:Nat) (D S L:Hd) (b:Ae) (w:World) (K:Bz w g D S L b) (hd:b.depths.length<=12) (f:inR x 0 ((b.depths.length:Int)-1)=false) (T:CK w):
  (BT 137 #[.pointer (some ⟨g,0,none⟩),ZI x] w (.string ⟨(erT 2).toArray⟩):Prop):=by
 obtain⟨i,dn,m⟩:=D;obtain⟨j,q,p⟩:=S;obtain⟨r,ln,t⟩:=L;have a:Hid (dn=b.depths.length):=K.dn;have n:dn<=12:=by have:=a.out;omega
 have s:=λo=>K.blk.cell o;have c:=λW=>FM i j dn q m p x W Aa;rw[a.out,f] at c;rw[<-a.out] at c;have F:=λ(V:World) (l:Below w w V)=>Cx 2 V Ah Ah (T.below l);generalize erT 2=E at*;clear K f hd T
 go_enter func137,ntmps137
 go_upto_region 2 with(go_at_call 49;refine(c _).mono ?_;rintro e u ⟨rfl,d⟩)
 go_wp2_with (go_at_call 100;refine(F _ d).mono ?_;rintro e v ⟨rfl,k⟩)
 go_ret;exact⟨rfl,(An d k)⟩
theorem Cb {w:World} {A:Option Addr} {n:Nat} {us:List Value} (h:Rd w A n us) {p:Addr} (c: ∀a,A=some a->0<n->a.block≠p.block) (u:Value):Rd (w.setCell p u) A n us:=h.keep λa e b=>Below.heap_setCell w p u a.block (c a e b)
theorem Wp {w c:World} (b:Below w w c) (p:Addr) (u:Value):A9 w (c.setCell p u) [some p.block]:=by
 have t0:A9 w c [some p.block]:=⟨b.os,b.tape,b.output,b.size,λk d _=>b.block k d⟩;refine⟨t0.os,t0.tape,t0.output,by simpa using t0.size,λk d a=> ?_⟩
 exact(Below.heap_setCell c p u k (λe=>a (some p.block) Cr (by rw[e]))).trans (t0.block k d a)
theorem Cu {w:World} {B K:Nat} {h:Hd} {us:List Value} (o:AR w B K h us) {p:Addr} (a:p.block<B) (u:Value):AR (w.setCell p u) B K h us:=o.grown (Bc (JU _ _) (.inl rfl) _) (λb e c=>by have:=(o.rowlt _ e).1;cases c;omega)
theorem Sm (x:Int) (g:Nat) (D S L:Hd) (b:Ae) (w:World) (K:Bz w g D S L b) (hd:b.depths.length<=12) (q:inR x 0 ((b.depths.length:Int)-1)=true):
  Calls prog 137 #[.pointer (some ⟨g,0,none⟩),ZI x] w λe i=>e=.returned (.string ⟨H5.toArray⟩)∧Bz i g D S L {b with source:=x}∧A9 w i [some g]:=by
 have m:=λ(V:World) (a:Below w w V)=>K.below a
 have f:Hid (∀V,Below w w V->Bz (V.setCell ⟨g,2,none⟩ (ZI x)) g D S L {b with source:=x}∧A9 w (V.setCell ⟨g,2,none⟩ (ZI x)) [some g]):=λV a=>by
  have k:=m V a;exact⟨⟨k.blk.set_ 2 (ZI x),Cb k.d k.dg _,Cb k.s k.sg _,Cu k.l (Nat.lt_succ_self g) _,k.dn,k.sn,k.dg,k.sg,k.dl,k.sl⟩,Wp a ⟨g,2,none⟩ _⟩
 generalize p:(λe i=>e=Ending.returned (.string ⟨H5.toArray⟩)∧Bz i g D S L {b with source:=x}∧A9 w i [some g])=Q;have u:Hid (∀V,Below w w V->Q (.returned (.string ⟨H5.toArray⟩)) (V.setCell ⟨g,2,none⟩ (ZI x))):=λV a=>by subst p;exact⟨rfl,f.out V a⟩
 clear p f m;obtain⟨r,dn,y⟩:=D;obtain⟨v,B,A⟩:=S;obtain⟨E,ln,H⟩:=L;have c:Hid (dn=b.depths.length):=K.dn;have z:dn<=12:=by have:=c.out;omega
 have F:=λo=>K.blk.cell o;have C:=λ(V:World) (a:Below w w V)=>(K.blk.below a K.blk.lt).cell;have t:=λ(V:World) (a:Below w w V)=>K.blk.below a K.blk.lt;have j:=λW=>FM r v dn B y A x W Aa;rw[c.out,q] at j;rw[<-c.out] at j;clear K q hd
 go_enter func137,ntmps137
 go_upto_region 3 with(go_at_call 49;refine(j _).mono ?_;rintro e I ⟨rfl,n⟩)
 have G:=λo=>(t _ n).frozen o
 go_wp2_with fail
 exact u.out _ n
theorem Wf (m n:Int) (g:Nat) (D S L:Hd) (b:Ae) (w:World) (K:Bz w g D S L b) (y:Gj m n=true):
  Calls prog 138 #[.pointer (some ⟨g,0,none⟩),ZI m,ZI n,ZI 1] w λe j=>e=.returned (.string ⟨H5.toArray⟩)∧Bz j g D S L {b with cos:=mkC m n,sin:=mkS m n true,hyp:=mkH m n}∧A9 w j [some g]:=by
 have f:=λW=>C3 m n true W;unfold YB Xp at f;simp only[y,if_true] at f;have A:=λW=>As 1 0 1 W
 have r:Hid (∀V,Below w w V->Bz (((V.setCell ⟨g,3,none⟩ (ZI (mkC m n))).setCell ⟨g,4,none⟩ (ZI (mkS m n true))).setCell ⟨g,5,none⟩ (ZI (mkH m n))) g D S L {b with cos:=mkC m n,sin:=mkS m n true,hyp:=mkH m n}∧A9 w (((V.setCell ⟨g,3,none⟩ (ZI (mkC m n))).setCell ⟨g,4,none⟩ (ZI (mkS m n true))).setCell ⟨g,5,none⟩ (ZI (mkH m n))) [some g]):=λV a=>by
  have k:=K.below a;refine⟨⟨((k.blk.set_ 3 _).set_ 4 _).set_ 5 _,Cb (Cb (Cb k.d k.dg _) k.dg _) k.dg _,Cb (Cb (Cb k.s k.sg _) k.sg _) k.sg _,Cu (Cu (Cu k.l (Nat.lt_succ_self g) _) (Nat.lt_succ_self g) _) (Nat.lt_succ_self g) _,k.dn,k.sn,k.dg,k.sg,k.dl,k.sl⟩,?_⟩;refine⟨a.os,a.tape,a.output,by simpa using a.size,λq C v=> ?_⟩
  have i:q≠g:=λe=>v (some g) Cr (by rw[e])
  exact((Below.heap_setCell _ _ _ q i).trans ((Below.heap_setCell _ _ _ q i).trans (Below.heap_setCell _ _ _ q i))).trans (a.block q C)
 generalize x:(λe j=>e=Ending.returned (.string ⟨H5.toArray⟩)∧Bz j g D S L {b with cos:=mkC m n,sin:=mkS m n true,hyp:=mkH m n}∧A9 w j [some g])=Q;have z:Hid (∀V,Below w w V->Q (.returned (.string ⟨H5.toArray⟩)) (((V.setCell ⟨g,3,none⟩ (ZI (mkC m n))).setCell ⟨g,4,none⟩ (ZI (mkS m n true))).setCell ⟨g,5,none⟩ (ZI (mkH m n)))):=λV a=>by subst x;exact⟨rfl,r.out V a⟩
 clear x r;have u:=λ(V:World) (a:Below w w V)=>K.blk.below a K.blk.lt;generalize mkC m n=c at*;generalize mkS m n true=s at*;generalize mkH m n=h at*;clear y
 go_enter func138,ntmps138
 go_upto_region 2 with(go_at_call 179;refine(f _).mono ?_;rintro e p ⟨rfl,B⟩)
 have al:Below p p (p.alloc (.cells (Ziii c s h) 32)):=BU;have X:=Br p 32 (Ziii c s h);have t:=An B al;clear al;generalize p.alloc _=F at X t⊢;generalize p.heap.size=q at X⊢;have e1:=λo=>(u _ t).cell o;have E:=λo=>(u _ t).frozen o;have e2:=X.cell;clear K u
 go_wp2_with (go_at_call 73;refine(A _).mono ?_;rintro e j ⟨rfl,rfl⟩)
 exact z.out _ t
theorem We (m n:Int) (g:Nat) (D S L:Hd) (b:Ae) (w:World) (K:Bz w g D S L b) (y:Gj m n=true):
  Calls prog 138 #[.pointer (some ⟨g,0,none⟩),ZI m,ZI n,ZI 0] w λe j=>e=.returned (.string ⟨H5.toArray⟩)∧Bz j g D S L {b with cos:=mkC m n,sin:=mkS m n false,hyp:=mkH m n}∧A9 w j [some g]:=by
 have f:=λW=>C3 m n false W;unfold YB Xp at f;simp only[y,if_true] at f;have A:=λW=>As 0 0 1 W
 have r:Hid (∀V,Below w w V->Bz (((V.setCell ⟨g,3,none⟩ (ZI (mkC m n))).setCell ⟨g,4,none⟩ (ZI (mkS m n false))).setCell ⟨g,5,none⟩ (ZI (mkH m n))) g D S L {b with cos:=mkC m n,sin:=mkS m n false,hyp:=mkH m n}∧A9 w (((V.setCell ⟨g,3,none⟩ (ZI (mkC m n))).setCell ⟨g,4,none⟩ (ZI (mkS m n false))).setCell ⟨g,5,none⟩ (ZI (mkH m n))) [some g]):=λV a=>by
  have k:=K.below a;refine⟨⟨((k.blk.set_ 3 _).set_ 4 _).set_ 5 _,Cb (Cb (Cb k.d k.dg _) k.dg _) k.dg _,Cb (Cb (Cb k.s k.sg _) k.sg _) k.sg _,Cu (Cu (Cu k.l (Nat.lt_succ_self g) _) (Nat.lt_succ_self g) _) (Nat.lt_succ_self g) _,k.dn,k.sn,k.dg,k.sg,k.dl,k.sl⟩,?_⟩;refine⟨a.os,a.tape,a.output,by simpa using a.size,λq C v=> ?_⟩
  have i:q≠g:=λe=>v (some g) Cr (by rw[e])
  exact((Below.heap_setCell _ _ _ q i).trans ((Below.heap_setCell _ _ _ q i).trans (Below.heap_setCell _ _ _ q i))).trans (a.block q C)
 generalize x:(λe j=>e=Ending.returned (.string ⟨H5.toArray⟩)∧Bz j g D S L {b with cos:=mkC m n,sin:=mkS m n false,hyp:=mkH m n}∧A9 w j [some g])=Q;have z:Hid (∀V,Below w w V->Q (.returned (.string ⟨H5.toArray⟩)) (((V.setCell ⟨g,3,none⟩ (ZI (mkC m n))).setCell ⟨g,4,none⟩ (ZI (mkS m n false))).setCell ⟨g,5,none⟩ (ZI (mkH m n)))):=λV a=>by subst x;exact⟨rfl,r.out V a⟩
 clear x r;have u:=λ(V:World) (a:Below w w V)=>K.blk.below a K.blk.lt;generalize mkC m n=c at*;generalize mkS m n false=s at*;generalize mkH m n=h at*;clear y
 go_enter func138,ntmps138
 go_upto_region 2 with(go_at_call 179;refine(f _).mono ?_;rintro e p ⟨rfl,B⟩)
 have al:Below p p (p.alloc (.cells (Ziii c s h) 32)):=BU;have X:=Br p 32 (Ziii c s h);have t:=An B al;clear al;generalize p.alloc _=F at X t⊢;generalize p.heap.size=q at X⊢;have e1:=λo=>(u _ t).cell o;have E:=λo=>(u _ t).frozen o;have e2:=X.cell;clear K u
 go_wp2_with (go_at_call 73;refine(A _).mono ?_;rintro e j ⟨rfl,rfl⟩)
 exact z.out _ t
theorem Wd (m n b:Int) (g:Nat) (w:World) (f:Gj m n=false) (T:CK w):
  (BT 138 #[.pointer (some ⟨g,0,none⟩),ZI m,ZI n,ZI b] w (.string ⟨(erT 2).toArray⟩):Prop):=by
 have a:=λW=>C3 m n (decide (b=1)) W;unfold YB at a;simp only[f,Ie,if_false] at a;have F:=λ(V:World) (k:Below w w V)=>Cx 2 V Ah Ah (T.below k);generalize erT 2=E at*;clear f T
 by_cases hw:b=1
 all_goals
  first
   |(subst hw;rw[BC rfl] at a)
   |(have l:(b==1)=false:=(by rw[Ea];exact hw);rw[BR hw] at a)
  go_enter func138,ntmps138
  go_upto_region 2 with(go_at_call 179;refine(a _).mono ?_;rintro e c ⟨rfl,i⟩)
  have al:Below c c (c.alloc (.cells Gd 32)):=BU;have d:=An i al;clear al;generalize c.alloc _=p at d⊢
  go_wp2_with (go_at_call 100;refine(F _ d).mono ?_;rintro e q ⟨rfl,j⟩)
  go_ret;exact⟨rfl,(An d j)⟩
theorem Wg (m n a:Int) (g:Nat) (w:World) (j:Gj m n=true) (hw:inR a 0 1=false) (T:CK w):
  (BT 138 #[.pointer (some ⟨g,0,none⟩),ZI m,ZI n,ZI a] w (.string ⟨(erT 2).toArray⟩):Prop):=by
 have b:=λW=>C3 m n false W;unfold YB Xp at b;simp only[j,if_true] at b;have F:=λ(V:World) (p:Below w w V)=>Cx 2 V Ah Ah (T.below p);have i:=λW=>As a 0 1 W;rw[hw] at i;have q: ¬a=1:=by have:=Qo hw;omega
 have r:(a==1)=false:=by rw[Ea];exact q
 generalize erT 2=E at*;generalize mkC m n=c at*;generalize mkS m n false=s at*;generalize mkH m n=h at*;clear j T hw
 go_enter func138,ntmps138
 go_upto_region 2 with(go_at_call 179;refine(b _).mono ?_;rintro e d ⟨rfl,k⟩)
 have al:Below d d (d.alloc (.cells (Ziii c s h) 32)):=BU;have f:=An k al;clear al;generalize d.alloc _=u at f⊢
 go_wp2_with (first|(go_at_call 73;refine(i _).mono ?_;rintro e t ⟨rfl,rfl⟩)|(go_at_call 100;refine(F _ f).mono ?_;rintro e v ⟨rfl,l⟩))
 go_ret;exact⟨rfl,(An f l)⟩
theorem UZ (t k l x y d r:Int) (g:Nat) (w:World) (c:recB t k l x y d r=false) (T:CK w):
  (BT 139 #[.pointer (some ⟨g,0,none⟩),AD t k l x y d r] w (.string ⟨(erT 2).toArray⟩):Prop):=by
 have a:=λW=>Ed t k l x y d r W;rw[c] at a;have F:=λ(V:World) (m:Below w w V)=>Cx 2 V Ah Ah (T.below m);generalize erT 2=E at*;have f:Below w w (w.alloc (.cells (AD t k l x y d r) 67)):=BU;have X:=Br w 67 (AD t k l x y d r);clear c T
 go_enter func139,ntmps139
 go_upto_region 1 with fail
 generalize w.alloc _=p at*;have n:=X.cell
 go_upto_region 2 with(go_at_call 81;refine(a _).mono ?_;rintro e q ⟨rfl,i⟩)
 have b:=An f i
 go_wp2_with (go_at_call 100;refine(F _ b).mono ?_;rintro e s ⟨rfl,j⟩)
 go_ret;exact⟨rfl,(An b j)⟩
theorem SJ (t k l x y d r:Int) (g:Nat) (D S L:Hd) (b:Ae) (w:World) (K:Bz w g D S L b) (u:L.n=200) (m:recB t k l x y d r=true) (T:CK w):
  (BT 139 #[.pointer (some ⟨g,0,none⟩),AD t k l x y d r] w (.string ⟨(erT 3).toArray⟩):Prop):=by
 have i:=λW=>Ed t k l x y d r W;rw[m] at i;have F:=λ(V:World) (c:Below w w V)=>Cx 3 V Ah Ah (T.below c);generalize erT 3=E at*;have f:=λ(V:World) (c:Below w w V)=>K.blk.below c K.blk.lt;obtain⟨v,ln,A⟩:=L;obtain rfl:ln=200:=u;have p:Below w w (w.alloc (.cells (AD t k l x y d r) 67)):=BU;have X:=Br w 67 (AD t k l x y d r);clear m T K
 go_enter func139,ntmps139
 go_upto_region 1 with fail
 generalize w.alloc _=B at*;have s:=X.cell
 go_upto_region 3 with(go_at_call 81;refine(i _).mono ?_;rintro e C ⟨rfl,j⟩)
 have a:=An p j;have z:=λo=>(f _ a).cell o;clear s X j f
 go_wp2_with (go_at_call 100;refine(F _ a).mono ?_;rintro e G ⟨rfl,q⟩)
 go_ret;exact⟨rfl,(An a q)⟩
theorem Na {s:Bs} (h:cmH s=Av) (g:Dm s=true):s= [112,114,111,102,105,108,101,32]++cmT s∧(32:UInt8)∉cmT s:=by
 have c:=(J1 h).1;rw[g] at c;have d:=c.symm;rw[CD,BP] at d;have a:=d.1;unfold cmH UP at h;unfold cmT UP;unfold UP at a;rcases e:splitC 32 s with _|⟨x,t⟩
 ·rw[e] at a;cases a
 ·rw[e] at a h;have j:x=Av:=h;rcases Nn e with⟨rfl,_,_⟩|⟨r,rfl,m,f⟩
  ·cases a
  ·rcases t with _|⟨y,_|⟨z,t⟩⟩
   ·cases a
   ·rcases Nn f with⟨_,rfl,k⟩|⟨l,rfl,i,b⟩
    ·subst j;exact⟨rfl,k⟩
    ·exact absurd b (CT 32 l)
   ·simp at a
theorem XD {s:Bs} (h: ¬cmH s=Av): ∀r:Bs,¬s= [112,114,111,102,105,108,101,32]++r:=by
 rintro r rfl
 apply h
 unfold cmH UP;have e:([112,114,111,102,105,108,101,32]:Bs)++r=Av++32::r:=rfl;rw[e,jx r Ah]
 rfl
theorem DN {s:Bs} (h: ¬cmH s=Av):Lib.hasPrefix s [112,114,111,102,105,108,101,32]=false:=by
 rcases jt (Lib.hasPrefix s [112,114,111,102,105,108,101,32]) with o|o
 ·unfold Lib.hasPrefix at o;rw[List.isPrefixOf_iff_prefix] at o;obtain⟨r,a⟩:=o;exact absurd a.symm (XD h r)
 ·exact o
theorem dZ {s:Bs} (g:Dm s=true) (h: ¬cmH s=Av):arI (cmH s)=((Co s).length:Int)∧ ∀x∈Co s,-1000000000000<x∧x<1000000000000:=by
 obtain⟨c,f⟩:=LF h;rw[g] at c;have a:=c.symm;rw[CD,BP] at a;rw[f];refine⟨by rw[List.length_map];exact a.2,λx d=> ?_⟩
 rw[List.mem_map] at d;obtain⟨y,i,rfl⟩:=d;have b:=a.1;unfold C7 at b;rw[List.all_eq_true] at b;exact(Xg (b y i)).2
theorem iL {s:Bs} (n:Dm s=true) (h: ¬cmH s=Av):
  (cmH s=AQ∧(Co s).length=0)∨
  (cmH s=CX∧(Co s).length=0)∨
  (cmH s=BE∧(Co s).length=0)∨
  (cmH s=AM∧(Co s).length=1)∨
  (cmH s=Bo∧(Co s).length=1)∨
  (cmH s=By∧(Co s).length=1)∨
  (cmH s=AW∧(Co s).length=2)∨
  (cmH s=Ca∧(Co s).length=3)∨
  (cmH s=Bw∧(Co s).length=3)∨
  (cmH s=Ci∧(Co s).length=3)∨
  (cmH s=Bi∧(Co s).length=3)∨
  (cmH s=Ck∧(Co s).length=3)∨
  (cmH s=AX∧(Co s).length=5)∨
  (cmH s=Cj∧(Co s).length=6):=by
 have a:=(dZ n h).1;generalize cmH s=l at*;generalize(Co s).length=k at*;unfold arI at a
 by_cases d:l=AQ∨l=CX∨l=BE
 ·rw[AA d] at a;have b:k=0:=Aa;subst b;rcases d with c|c|c<;>subst c<;>simp
 rw[Ak d] at a
 by_cases f:l=AM∨l=Bo∨l=By
 ·rw[AA f] at a;have b:k=1:=Aa;subst b;rcases f with c|c|c<;>subst c<;>simp
 rw[Ak f] at a
 by_cases g:l=AW
 ·rw[AA g] at a;have b:k=2:=Aa;subst b;subst g
  simp
 rw[Ak g] at a
 by_cases i:l=Ca∨l=Bw∨l=Ci∨l=Bi∨l=Ck
 ·rw[AA i] at a;have b:k=3:=Aa;subst b;rcases i with c|c|c|c|c<;>subst c<;>simp
 rw[Ak i] at a
 by_cases j:l=AX
 ·rw[AA j] at a;have b:k=5:=Aa;subst b;subst j
  simp
 rw[Ak j] at a
 by_cases m:l=Cj
 ·rw[AA m] at a;have b:k=6:=Aa;subst b;subst m
  simp
 rw[Ak m] at a;omega
theorem Ni {b:Ae} {s:Bs} (a:Dm s=false):bsOut b s=erT 6∧bsNext b s=b:=by
 unfold bsOut bsNext;rw[Ak (by rw[a];decide),Ak (by rw[a];decide)]
 exact⟨rfl,rfl⟩
theorem Gk {b:Ae} {s:Bs} (a:Dm s=true) (h:cmH s=Av):bsOut b s=(if Fm (cmT s)=true then H5 else erT 6)∧bsNext b s=(if Fm (cmT s)=true then {b with depths:=rpD (cmT s),speeds:=rpV (cmT s),source:=0} else b):=by
 unfold bsOut bsNext;rw[AA a,AA a,AA h,AA h];exact⟨rfl,rfl⟩
theorem Hp {b:Ae} {s:Bs} (a:Dm s=true) (h:cmH s=AM):bsOut b s=(if inR (cmI s 0) 0 ((b.depths.length:Int)-1)=true then H5 else erT 2)∧bsNext b s=(if inR (cmI s 0) 0 ((b.depths.length:Int)-1)=true then {b with source:=cmI s 0} else b):=by
 unfold bsOut bsNext;rw[AA a,AA a,h]
 constructor
 ·rw[Ak (show¬AM=Av by decide),AA rfl]
 ·rw[Ak (show¬AM=Av by decide),AA rfl];rfl
theorem Nk {b:Ae} {s:Bs} (a:Dm s=true) (h:cmH s=Ca):bsOut b s=(if Gj (cmI s 0) (cmI s 1)=true∧inR (cmI s 2) 0 1=true then H5 else erT 2)∧bsNext b s=(if Gj (cmI s 0) (cmI s 1)=true∧inR (cmI s 2) 0 1=true then {b with cos:=mkC (cmI s 0) (cmI s 1),sin:=mkS (cmI s 0) (cmI s 1) (decide (cmI s 2=1)),hyp:=mkH (cmI s 0) (cmI s 1)} else b):=by
 unfold bsOut bsNext;rw[AA a,AA a,h]
 constructor
 ·rw[Ak (show¬Ca=Av by decide),Ak (show¬Ca=AM by decide),AA rfl]
 ·rw[Ak (show¬Ca=Av by decide),Ak (show¬Ca=AM by decide),AA rfl];rfl
theorem IW {b:Ae} {s:Bs} (a:Dm s=true) (h:cmH s=AW):bsOut b s=(Qc b (cmI s 0) 1 (cmI s 1) 0 0 0 0)∧bsNext b s=(addB b (cmI s 0) 1 (cmI s 1) 0 0 0 0):=by
 unfold bsOut bsNext;rw[AA a,AA a,h]
 constructor
 ·rw[Ak (show¬AW=Av by decide),Ak (show¬AW=AM by decide),Ak (show¬AW=Ca by decide),AA rfl]
 ·rw[Ak (show¬AW=Av by decide),Ak (show¬AW=AM by decide),Ak (show¬AW=Ca by decide),AA rfl];rfl
theorem IX {b:Ae} {s:Bs} (a:Dm s=true) (h:cmH s=AX):bsOut b s=(Qc b (cmI s 0) 2 0 (cmI s 1) (cmI s 2) (cmI s 3) (cmI s 4))∧bsNext b s=(addB b (cmI s 0) 2 0 (cmI s 1) (cmI s 2) (cmI s 3) (cmI s 4)):=by
 unfold bsOut bsNext;rw[AA a,AA a,h]
 constructor
 ·rw[Ak (show¬AX=Av by decide),Ak (show¬AX=AM by decide),Ak (show¬AX=Ca by decide),Ak (show¬AX=AW by decide),AA rfl]
 ·rw[Ak (show¬AX=Av by decide),Ak (show¬AX=AM by decide),Ak (show¬AX=Ca by decide),Ak (show¬AX=AW by decide),AA rfl];rfl
theorem Kv {b:Ae} {s:Bs} (a:Dm s=true) (h:cmH s=Bo):bsOut b s=(Qc b (cmI s 0) 3 0 0 0 0 0)∧bsNext b s=(addB b (cmI s 0) 3 0 0 0 0 0):=by
 unfold bsOut bsNext;rw[AA a,AA a,h]
 constructor
 ·rw[Ak (show¬Bo=Av by decide),Ak (show¬Bo=AM by decide),Ak (show¬Bo=Ca by decide),Ak (show¬Bo=AW by decide),Ak (show¬Bo=AX by decide),AA rfl]
 ·rw[Ak (show¬Bo=Av by decide),Ak (show¬Bo=AM by decide),Ak (show¬Bo=Ca by decide),Ak (show¬Bo=AW by decide),Ak (show¬Bo=AX by decide),AA rfl];rfl
theorem IY {b:Ae} {s:Bs} (a:Dm s=true) (h:cmH s=By):bsOut b s=(trT b (cmI s 0))∧bsNext b s=b:=by
 unfold bsOut bsNext aU;rw[AA a,AA a,h]
 constructor
 ·rw[Ak (show¬By=Av by decide),Ak (show¬By=AM by decide),Ak (show¬By=Ca by decide),Ak (show¬By=AW by decide),Ak (show¬By=AX by decide),Ak (show¬By=Bo by decide),AA rfl]
 ·rw[Ak (show¬By=Av by decide),Ak (show¬By=AM by decide),Ak (show¬By=Ca by decide),Ak (show¬By=AW by decide),Ak (show¬By=AX by decide),Ak (show¬By=Bo by decide)]
theorem Kw {b:Ae} {s:Bs} (a:Dm s=true) (h:cmH s=Cj):bsOut b s=(meT b s)∧bsNext b s=b:=by
 unfold bsOut bsNext aU;rw[AA a,AA a,h]
 constructor
 ·rw[Ak (show¬Cj=Av by decide),Ak (show¬Cj=AM by decide),Ak (show¬Cj=Ca by decide),Ak (show¬Cj=AW by decide),Ak (show¬Cj=AX by decide),Ak (show¬Cj=Bo by decide),Ak (show¬Cj=By by decide),AA rfl]
 ·rw[Ak (show¬Cj=Av by decide),Ak (show¬Cj=AM by decide),Ak (show¬Cj=Ca by decide),Ak (show¬Cj=AW by decide),Ak (show¬Cj=AX by decide),Ak (show¬Cj=Bo by decide)]
theorem FD {b:Ae} {s:Bs} (a:Dm s=true) (h:cmH s=AQ):bsOut b s=(shT b)∧bsNext b s=b:=by
 unfold bsOut bsNext aU;rw[AA a,AA a,h]
 constructor
 ·rw[Ak (show¬AQ=Av by decide),Ak (show¬AQ=AM by decide),Ak (show¬AQ=Ca by decide),Ak (show¬AQ=AW by decide),Ak (show¬AQ=AX by decide),Ak (show¬AQ=Bo by decide),Ak (show¬AQ=By by decide),Ak (show¬AQ=Cj by decide),AA rfl]
 ·rw[Ak (show¬AQ=Av by decide),Ak (show¬AQ=AM by decide),Ak (show¬AQ=Ca by decide),Ak (show¬AQ=AW by decide),Ak (show¬AQ=AX by decide),Ak (show¬AQ=Bo by decide)]
theorem IV {b:Ae} {s:Bs} (a:Dm s=true) (h:cmH s=Bw):bsOut b s=(clT b s)∧bsNext b s=b:=by
 unfold bsOut bsNext aU;rw[AA a,AA a,h]
 constructor
 ·rw[Ak (show¬Bw=Av by decide),Ak (show¬Bw=AM by decide),Ak (show¬Bw=Ca by decide),Ak (show¬Bw=AW by decide),Ak (show¬Bw=AX by decide),Ak (show¬Bw=Bo by decide),Ak (show¬Bw=By by decide),Ak (show¬Bw=Cj by decide),Ak (show¬Bw=AQ by decide),AA rfl]
 ·rw[Ak (show¬Bw=Av by decide),Ak (show¬Bw=AM by decide),Ak (show¬Bw=Ca by decide),Ak (show¬Bw=AW by decide),Ak (show¬Bw=AX by decide),Ak (show¬Bw=Bo by decide)]
theorem Ku {b:Ae} {s:Bs} (a:Dm s=true) (h:cmH s=Ci):bsOut b s=(grT b s)∧bsNext b s=b:=by
 unfold bsOut bsNext aU;rw[AA a,AA a,h]
 constructor
 ·rw[Ak (show¬Ci=Av by decide),Ak (show¬Ci=AM by decide),Ak (show¬Ci=Ca by decide),Ak (show¬Ci=AW by decide),Ak (show¬Ci=AX by decide),Ak (show¬Ci=Bo by decide),Ak (show¬Ci=By by decide),Ak (show¬Ci=Cj by decide),Ak (show¬Ci=AQ by decide),Ak (show¬Ci=Bw by decide),AA rfl]
 ·rw[Ak (show¬Ci=Av by decide),Ak (show¬Ci=AM by decide),Ak (show¬Ci=Ca by decide),Ak (show¬Ci=AW by decide),Ak (show¬Ci=AX by decide),Ak (show¬Ci=Bo by decide)]
theorem Ho {b:Ae} {s:Bs} (a:Dm s=true) (h:cmH s=Bi):bsOut b s=(chT s)∧bsNext b s=b:=by
 unfold bsOut bsNext aU;rw[AA a,AA a,h]
 constructor
 ·rw[Ak (show¬Bi=Av by decide),Ak (show¬Bi=AM by decide),Ak (show¬Bi=Ca by decide),Ak (show¬Bi=AW by decide),Ak (show¬Bi=AX by decide),Ak (show¬Bi=Bo by decide),Ak (show¬Bi=By by decide),Ak (show¬Bi=Cj by decide),Ak (show¬Bi=AQ by decide),Ak (show¬Bi=Bw by decide),Ak (show¬Bi=Ci by decide),AA rfl]
 ·rw[Ak (show¬Bi=Av by decide),Ak (show¬Bi=AM by decide),Ak (show¬Bi=Ca by decide),Ak (show¬Bi=AW by decide),Ak (show¬Bi=AX by decide),Ak (show¬Bi=Bo by decide)]
theorem Kx {b:Ae} {s:Bs} (a:Dm s=true) (h:cmH s=Ck):bsOut b s=(plT s)∧bsNext b s=b:=by
 unfold bsOut bsNext aU;rw[AA a,AA a,h]
 constructor
 ·rw[Ak (show¬Ck=Av by decide),Ak (show¬Ck=AM by decide),Ak (show¬Ck=Ca by decide),Ak (show¬Ck=AW by decide),Ak (show¬Ck=AX by decide),Ak (show¬Ck=Bo by decide),Ak (show¬Ck=By by decide),Ak (show¬Ck=Cj by decide),Ak (show¬Ck=AQ by decide),Ak (show¬Ck=Bw by decide),Ak (show¬Ck=Ci by decide),Ak (show¬Ck=Bi by decide),AA rfl]
 ·rw[Ak (show¬Ck=Av by decide),Ak (show¬Ck=AM by decide),Ak (show¬Ck=Ca by decide),Ak (show¬Ck=AW by decide),Ak (show¬Ck=AX by decide),Ak (show¬Ck=Bo by decide)]
theorem Nj {b:Ae} {s:Bs} (a:Dm s=true) (h:cmH s=CX):bsOut b s=(Lib.itoa (lgN b:Int))∧bsNext b s=b:=by
 unfold bsOut bsNext aU;rw[AA a,AA a,h]
 constructor
 ·rw[Ak (show¬CX=Av by decide),Ak (show¬CX=AM by decide),Ak (show¬CX=Ca by decide),Ak (show¬CX=AW by decide),Ak (show¬CX=AX by decide),Ak (show¬CX=Bo by decide),Ak (show¬CX=By by decide),Ak (show¬CX=Cj by decide),Ak (show¬CX=AQ by decide),Ak (show¬CX=Bw by decide),Ak (show¬CX=Ci by decide),Ak (show¬CX=Bi by decide),Ak (show¬CX=Ck by decide),AA rfl]
 ·rw[Ak (show¬CX=Av by decide),Ak (show¬CX=AM by decide),Ak (show¬CX=Ca by decide),Ak (show¬CX=AW by decide),Ak (show¬CX=AX by decide),Ak (show¬CX=Bo by decide)]
theorem IU {b:Ae} {s:Bs} (a:Dm s=true) (h:cmH s=BE):bsOut b s=(Lib.itoa (chkFold (lgT b.log (lgN b))))∧bsNext b s=b:=by
 unfold bsOut bsNext aU;rw[AA a,AA a,h]
 constructor
 ·rw[Ak (show¬BE=Av by decide),Ak (show¬BE=AM by decide),Ak (show¬BE=Ca by decide),Ak (show¬BE=AW by decide),Ak (show¬BE=AX by decide),Ak (show¬BE=Bo by decide),Ak (show¬BE=By by decide),Ak (show¬BE=Cj by decide),Ak (show¬BE=AQ by decide),Ak (show¬BE=Bw by decide),Ak (show¬BE=Ci by decide),Ak (show¬BE=Bi by decide),Ak (show¬BE=Ck by decide),Ak (show¬BE=CX by decide)]
 ·rw[Ak (show¬BE=Av by decide),Ak (show¬BE=AM by decide),Ak (show¬BE=Ca by decide),Ak (show¬BE=AW by decide),Ak (show¬BE=AX by decide),Ak (show¬BE=Bo by decide)]
