import Derived.Test.YtkndcebhjcfphaaGreatDoorZAe
import Derived.Test.YtkndcebhjcfphaaGreatDoorZS
import Derived.Test.YtkndcebhjcfphaaGreatDoorZV
import Derived.Test.YtkndcebhjcfphaaGreatDoorZVx1
namespace Go.Proofs.YtkndcebhjcfphaaGreatDoor
open Go.RowKit Go.Proofs.Tryz
set_option maxRecDepth 100000
set_option maxHeartbeats 4000000
set_option linter.all false
def erT (c:Int):Bs:= [101,114,114,111,114,32]++Lib.itoa c
def H5:Bs:= [111,107]
def cdT (t:Bs) (c:Int):Bs:=if c=0 then t else erT c
def ivT (a b:Int):Bs:=Lib.itoa a++ [46,46]++Lib.itoa b
def orD (t:Bs):Bs:=if t= [] then [45] else t
def cmI (s:Bs) (i:Nat):Int:=(Co s).getD i 0
def rayB (b:Ae):Al:=⟨b.depths,b.speeds,b.source.toNat,b.cos,b.sin,b.hyp⟩
def Qk (b:Ae) (n:Int):Int→Al:=fanR b.depths b.speeds b.source.toNat n (decide (0<b.sin))
def trT (b:Ae) (n:Int):Bs:=if trC (rayB b) n=0 then(match (rayB b).tr n.toNat with|some (x,l)=>orD (hisL (C2 l))++ [32]++ivT x.lo x.hi|none=> []) else erT (trC (rayB b) n)
def meC (b:Ae) (s:Bs):Int:=ocC (Qk b (cmI s 0)) b.depths.length (cmI s 0) (cmI s 1) (cmI s 2) (cmI s 3) (cmI s 4) (cmI s 5)
def meL (b:Ae) (s:Bs):List Int:=ocL (Qk b (cmI s 0)) b.depths.length (cmI s 0) (cmI s 1) (cmI s 2) (cmI s 3) (cmI s 4) (cmI s 5)
def meT (b:Ae) (s:Bs):Bs:=if meC b s=0 then(if meL b s= [] then [110,111,110,101] else joinI [32] (meL b s)) else erT (meC b s)
def sdL (b:Ae):List Int:=V7 b.log
def sdN (b:Ae):Nat:=(V7 b.log).length/4
def sdC (b:Ae):Int:=Ro b.log
def shT (b:Ae):Bs:=if sdC b=0 then(if sdN b=0 then erT 4 else joinI [32] (Fw (sdL b) (shlTo (sdL b) (sdN b)))) else erT (sdC b)
def ccC (b:Ae) (s:Bs):Int:=Po (sdL b) (sdN b) (cmI s 0) (cmI s 1) (cmI s 2)
def Y4 (b:Ae) (s:Bs):List Nat:=fk (sdL b) (sdN b) (cmI s 0) (cmI s 1) (cmI s 2)
def clT (b:Ae) (s:Bs):Bs:=if sdC b=0 then cdT (Lib.itoa ((Y4 b s).length:Int)++ [47]++Lib.itoa (sdN b:Int)) (ccC b s) else erT (sdC b)
def ggC (b:Ae) (s:Bs):Int:=Qn (cmI s 0) (cmI s 1) (cmI s 2) (sdL b) (sdN b)
def ggR (b:Ae) (s:Bs):Am:=UQ (cmI s 0) (cmI s 1) (cmI s 2) (sdL b) (sdN b)
def grT (b:Ae) (s:Bs):Bs:=if sdC b=0 then(if ggC b s=0 then cdT (ivT (mdL (ggR b s)) (mdH (ggR b s))) (mdC (ggR b s)) else erT (ggC b s)) else erT (sdC b)
def chT (s:Bs):Bs:=cdT (Lib.itoa (tcV (cmI s 0) (cmI s 1) (cmI s 2))) (tcC (cmI s 0) (cmI s 1) (cmI s 2))
def plT (s:Bs):Bs:=cdT (joinI [32] (evQ (cmI s 0) (cmI s 1) (cmI s 2))) (evC (cmI s 0) (cmI s 1) (cmI s 2))
def lgN (b:Ae):Nat:=b.log.length/7
def Qc (b:Ae) (t k l x y d r:Int):Bs:=if Cm t k l x y d r=true then(if lgN b<200 then H5 else erT 3) else erT 2
def aU (b:Ae) (s:Bs):Bs:=
 if cmH s=By then trT b (cmI s 0)
 else if cmH s=Cj then meT b s
 else if cmH s=AQ then shT b
 else if cmH s=Bw then clT b s
 else if cmH s=Ci then grT b s
 else if cmH s=Bi then chT s
 else if cmH s=Ck then plT s
 else if cmH s=CX then Lib.itoa (lgN b:Int)
 else Lib.itoa (chkFold (lgT b.log (lgN b)))
def bsOut (b:Ae) (s:Bs):Bs:=
 if Dm s=true then
  (if cmH s=Av then(if Fm (cmT s)=true then H5 else erT 6)
   else if cmH s=AM then(if inR (cmI s 0) 0 ((b.depths.length:Int)-1)=true then H5 else erT 2)
   else if cmH s=Ca then(if Gj (cmI s 0) (cmI s 1)=true∧inR (cmI s 2) 0 1=true then H5 else erT 2)
   else if cmH s=AW then Qc b (cmI s 0) 1 (cmI s 1) 0 0 0 0
   else if cmH s=AX then Qc b (cmI s 0) 2 0 (cmI s 1) (cmI s 2) (cmI s 3) (cmI s 4)
   else if cmH s=Bo then Qc b (cmI s 0) 3 0 0 0 0 0
   else aU b s)
 else erT 6
def bsAll:List Bs→Ae→Ae
 | [],b=>b
 |s::t,b=>bsAll t (bsNext b s)
def bsOuts:List Bs→Ae→List Bs
 | [],_=> []
 |s::t,b=>bsOut b s::bsOuts t (bsNext b s)
theorem Jy: ∀(t:List Bs) (b:Ae) (s:Bs),bsAll (t++ [s]) b=bsNext (bsAll t b) s
 | [],_,_=>rfl
 |x::t,b,s=>Jy t (bsNext b x) s
theorem Ig: ∀(t:List Bs) (b:Ae) (s:Bs),bsOuts (t++ [s]) b=bsOuts t b++ [bsOut (bsAll t b) s]
 | [],_,_=>rfl
 |x::t,b,s=>by
  show bsOut b x::bsOuts (t++ [s]) (bsNext b x)=_;rw[Ig t];rfl
theorem NH: ∀(t:List Bs) (b:Ae),(bsOuts t b).length=t.length
 | [],_=>rfl
 |s::t,b=>by
  show(bsOuts t (bsNext b s)).length+1=t.length+1;rw[NH t]
theorem KF {b:Ae} (h:D9 b):A8 (rayB b):=⟨h.prof,h.dir,by have:=Ac h.src;show b.source.toNat<b.depths.length;omega⟩
theorem Cx (c:Int) (w:World) (h0:0≤c) (h1:c≤1000) (T:CK w):
  (BT 100 #[ZI c] w (.string ⟨(erT c).toArray⟩):Prop):=by
 have D:=BY c w Aa Aa T;have HE:Hid (erT c= [101,114,114,111,114,32]++Lib.itoa c):=rfl;have l1:=Bm c Aa Aa;generalize Lib.itoa c=S at*;obtain⟨S1,hS1⟩: ∃S1,[101,114,114,111,114,32]++S=S1:=⟨_,rfl⟩;have s1:((⟨#[101,114,114,111,114,32]⟩:ByteArray)++⟨S.toArray⟩)=⟨S1.toArray⟩:=by rw[←hS1];exact AY [101,114,114,111,114,32] S
 have p1: ¬9223372036854775807<6+S.length:=Aa;have HS:Hid (erT c=S1):=HE.out.trans hS1;clear hS1 l1 HE
 go_enter func100,ntmps100
 go_wp2_with (go_at_call 134;refine D.mono ?_;rintro e w1 ⟨rfl,b⟩)
 go_ret;rw[HS.out];exact⟨rfl,b⟩
theorem Ep (t:Bs) (c:Int) (w:World) (h0:0≤c) (h1:c≤1000) (T:CK w):
  (BT 146 #[.string ⟨t.toArray⟩,ZI c] w (.string ⟨(cdT t c).toArray⟩):Prop):=by
 have F:=Cx c w h0 h1 T
 by_cases h:c=0
 ·have HC:Hid (cdT t c=t):=AA h;subst h
  go_enter func146,ntmps146
  go_wp2;go_ret;rw[HC.out];exact⟨rfl,AP _ _⟩
 ·have HC:Hid (cdT t c=erT c):=Ak h;have h2:(c==0)=false:=by rw[Ea];exact h
  generalize erT c=E at*
  go_enter func146,ntmps146
  go_wp2_with (go_at_call 100;refine F.mono ?_;rintro e w1 ⟨rfl,b⟩)
  go_ret;rw[HC.out];exact⟨rfl,b⟩
theorem Ob (a b:Int) (w:World) (ha: -9223372036854775808<a) (ha2:a≤9223372036854775807) (hb: -9223372036854775808<b) (hb2:b≤9223372036854775807) (T:CK w):
  (BT 183 #[Zii a b] w (.string ⟨(ivT a b).toArray⟩):Prop):=by
 have b0:Below w w (w.alloc (.cells (Zii a b) 136)):=BU;have K0:=Br w 136 (Zii a b);have HT:Hid (ivT a b=Lib.itoa a++ [46,46]++Lib.itoa b):=rfl;have l1:=Bm a Aa Aa;have l2:=Bm b Aa Aa;have DV:=fun(W:World) (T:CK W)=>BY a W Aa Aa T;have DG:=fun(W:World) (T:CK W)=>BY b W Aa Aa T;generalize Lib.itoa a=S at*;generalize Lib.itoa b=R at*;obtain⟨S1,hS1⟩: ∃S1,S++ [46,46]=S1:=⟨_,rfl⟩;obtain⟨S2,hS2⟩: ∃S2,S1++R=S2:=⟨_,rfl⟩;have HT2:Hid (ivT a b=S2):=by unfold Hid;rw[HT.out,hS1,hS2]
 have k1:S1.length=S.length+2:=by rw[←hS1,Dy];rfl
 have p1: ¬9223372036854775807<S.length+2:=Aa;have p2: ¬9223372036854775807<S1.length+R.length:=Aa;have s1:((⟨S.toArray⟩:ByteArray)++⟨#[46,46]⟩)=⟨S1.toArray⟩:=by rw[←hS1];exact AY S [46,46]
 have s2:((⟨S1.toArray⟩:ByteArray)++⟨R.toArray⟩)=⟨S2.toArray⟩:=by rw[←hS2];exact AY S1 R
 have T1:=T.below b0;clear hS1 hS2 HT k1 l1 l2 T ha ha2 hb hb2
 go_enter func183,ntmps183
 go_upto_region 1 with fail
 generalize w.alloc _=w1 at*;have gb:=K0.lt;have hB:=K0.cell;have T1d:CK w1.drew:=T1;have bd:Below w1 w1 w1.drew:=GJ
 go_region_held3 (fun w'=>(∀o,w'.cell? ⟨w,o,none⟩=((Zii a b):Array Value)[o]?))
  (first|(exact hB))
  (first
   |(go_at_call 134;(with_reducible refine(DV _ T1d).mono ?_);rintro e u1 ⟨rfl,b⟩;have b:=An bd b;have hB:=Dc hB b gb;have T1:=CK.below T1 b;have hbb:=b.size;have gb:=CM gb hbb;have b0:=(An b0 b))
   |(go_at_call 134;(with_reducible refine(DV _ T1).mono ?_);rintro e u1 ⟨rfl,b⟩;have hB:=Dc hB b gb;have T1:=CK.below T1 b;have hbb:=b.size;have gb:=CM gb hbb;have b0:=(An b0 b))
   |(go_at_call 134;(with_reducible refine(DG _ T1d).mono ?_);rintro e u1 ⟨rfl,b⟩;have b:=An bd b;have hB:=Dc hB b gb;have T1:=CK.below T1 b;have hbb:=b.size;have gb:=CM gb hbb;have b0:=(An b0 b))
   |(go_at_call 134;(with_reducible refine(DG _ T1).mono ?_);rintro e u1 ⟨rfl,b⟩;have hB:=Dc hB b gb;have T1:=CK.below T1 b;have hbb:=b.size;have gb:=CM gb hbb;have b0:=(An b0 b)))
 all_goals
  go_wp2;go_ret;rw[HT2.out];exact⟨rfl,b0⟩
theorem Kl (a b:Int) (w:World) (ha: -9223372036854775808<a) (ha2:a≤9223372036854775807) (hb: -9223372036854775808<b) (hb2:b≤9223372036854775807):
  (BT 125 #[Zii a b] w (.string ⟨(ivT a b).toArray⟩):Prop):=by
 have b0:Below w w (w.alloc (.cells (Zii a b) 136)):=BU;have K0:=Br w 136 (Zii a b);have HT:Hid (ivT a b=Lib.itoa a++ [46,46]++Lib.itoa b):=rfl;have l1:=Bm a Aa Aa;have l2:=Bm b Aa Aa;have DV:=fun W=>Ek a W Aa Aa;have DG:=fun W=>Ek b W Aa Aa;generalize Lib.itoa a=S at*;generalize Lib.itoa b=R at*;obtain⟨S1,hS1⟩: ∃S1,S++ [46,46]=S1:=⟨_,rfl⟩;obtain⟨S2,hS2⟩: ∃S2,S1++R=S2:=⟨_,rfl⟩;have HT2:Hid (ivT a b=S2):=by unfold Hid;rw[HT.out,hS1,hS2]
 have k1:S1.length=S.length+2:=by rw[←hS1,Dy];rfl
 have p1: ¬9223372036854775807<S.length+2:=Aa;have p2: ¬9223372036854775807<S1.length+R.length:=Aa;have s1:((⟨S.toArray⟩:ByteArray)++⟨#[46,46]⟩)=⟨S1.toArray⟩:=by rw[←hS1];exact AY S [46,46]
 have s2:((⟨S1.toArray⟩:ByteArray)++⟨R.toArray⟩)=⟨S2.toArray⟩:=by rw[←hS2];exact AY S1 R
 clear hS1 hS2 HT k1 l1 l2 ha ha2 hb hb2
 go_enter func125,ntmps125
 go_upto_region 1 with fail
 generalize w.alloc _=w1 at*;have gb:=K0.lt;have hB:=K0.cell;have bd:Below w1 w1 w1.drew:=GJ
 go_region_held3 (fun w'=>(∀o,w'.cell? ⟨w,o,none⟩=((Zii a b):Array Value)[o]?))
  (first|(exact hB))
  (first
   |(go_at_call 89;(with_reducible refine(DV w1.drew).mono ?_);rintro e u1 ⟨rfl,b⟩;have b:=An bd b;have hB:=Dc hB b gb;have hbb:=b.size;have gb:=CM gb hbb;have b0:=(An b0 b))
   |(go_at_call 89;(with_reducible refine(DV _).mono ?_);rintro e u1 ⟨rfl,b⟩;have hB:=Dc hB b gb;have hbb:=b.size;have gb:=CM gb hbb;have b0:=(An b0 b))
   |(go_at_call 89;(with_reducible refine(DG w1.drew).mono ?_);rintro e u1 ⟨rfl,b⟩;have b:=An bd b;have hB:=Dc hB b gb;have hbb:=b.size;have gb:=CM gb hbb;have b0:=(An b0 b))
   |(go_at_call 89;(with_reducible refine(DG _).mono ?_);rintro e u1 ⟨rfl,b⟩;have hB:=Dc hB b gb;have hbb:=b.size;have gb:=CM gb hbb;have b0:=(An b0 b)))
 all_goals
  go_wp2;go_ret;rw[HT2.out];exact⟨rfl,b0⟩
theorem VQ (t:Bs) (w:World):
  (YC 181 #[.string ⟨t.toArray⟩] w (.string ⟨(orD t).toArray⟩):Prop):=by
 by_cases h:t= []
 ·subst h
  go_enter func181,ntmps181
  go_wp2;go_ret;exact⟨rfl,rfl⟩
 ·have HC:Hid (orD t=t):=Ak h;have h2:t.isEmpty=false:=by cases t with|nil=>exact absurd rfl h|cons a b=>rfl
  clear h
  go_enter func181,ntmps181
  go_wp2;go_ret;rw[HC.out];exact⟨rfl,rfl⟩
structure Bz (w:World) (g:Nat) (D S L:Hd) (b:Ae):Prop where
 blk:Blk w g 35 (Ad D.A D.n D.c S.A S.n S.c b L.A L.n L.c)
 d:Rd w D.A D.n (ints b.depths)
 s:Rd w S.A S.n (ints b.speeds)
 l:AR w (g+1) 7 L (ints b.log)
 dn:D.n=b.depths.length
 sn:S.n=b.speeds.length
 dg: ∀ad,D.A=some ad→0<D.n→ad.block≠g
 sg: ∀ad,S.A=some ad→0<S.n→ad.block≠g
 dl: ∀ad,D.A=some ad→0<D.n→L.row≠some ad.block
 sl: ∀ad,S.A=some ad→0<S.n→L.row≠some ad.block
theorem Bz.below {w w':World} {g:Nat} {D S L:Hd} {b:Ae} (h:Bz w g D S L b) (k:Below w w w'):Bz w' g D S L b:=
 ⟨h.blk.below k h.blk.lt,h.d.below k,h.s.below k,h.l.below k,h.dn,h.sn,h.dg,h.sg,h.dl,h.sl⟩
theorem PY (x:Int) (g:Nat) (D S L:Hd) (b:Ae) (w:World) (K:Bz w g D S L b) (hd:b.depths.length≤12) (hx:inR x 0 ((b.depths.length:Int)-1)=false) (T:CK w):
  (BT 137 #[.pointer (some ⟨g,0,none⟩),ZI x] w (.string ⟨(erT 2).toArray⟩):Prop):=by
 obtain⟨DA,dn,dc⟩:=D;obtain⟨SA,sn,sc⟩:=S;obtain⟨LA,ln,lc⟩:=L;have hdn:Hid (dn=b.depths.length):=K.dn;have hdl:dn≤12:=by have:=hdn.out;omega
 have e0:=fun o=>K.blk.cell o;have HK:=fun W=>FM DA SA dn sn dc sc x W Aa;rw[hdn.out,hx] at HK;rw[←hdn.out] at HK;have F:=fun(V:World) (bb:Below w w V)=>Cx 2 V Ah Ah (T.below bb);generalize erT 2=E at*;clear K hx hd T
 go_enter func137,ntmps137
 go_upto_region 2 with(go_at_call 49;refine(HK _).mono ?_;rintro e w1 ⟨rfl,b1⟩)
 go_wp2_with (go_at_call 100;refine(F _ b1).mono ?_;rintro e w2 ⟨rfl,b2⟩)
 go_ret;exact⟨rfl,(An b1 b2)⟩
theorem Cb {w:World} {A:Option Addr} {n:Nat} {us:List Value} (h:Rd w A n us) {p:Addr} (hr: ∀ad,A=some ad→0<n→ad.block≠p.block) (u:Value):Rd (w.setCell p u) A n us:=h.keep fun ad e h0=>Below.heap_setCell w p u ad.block (hr ad e h0)
theorem Wp {w w1:World} (b:Below w w w1) (p:Addr) (u:Value):A9 w (w1.setCell p u) [some p.block]:=by
 have t0:A9 w w1 [some p.block]:=⟨b.os,b.tape,b.output,b.size,fun k hk _=>b.block k hk⟩;refine⟨t0.os,t0.tape,t0.output,by simpa using t0.size,fun k hk hne=> ?_⟩
 exact(Below.heap_setCell w1 p u k (fun e=>hne (some p.block) Cr (by rw[e]))).trans (t0.block k hk hne)
theorem Cu {w:World} {B K:Nat} {h:Hd} {us:List Value} (o:AR w B K h us) {p:Addr} (hr:p.block<B) (u:Value):AR (w.setCell p u) B K h us:=o.grown (Bc (JU _ _) (.inl rfl) _) (fun b e c=>by have:=(o.rowlt _ e).1;cases c;omega)
theorem Sm (x:Int) (g:Nat) (D S L:Hd) (b:Ae) (w:World) (K:Bz w g D S L b) (hd:b.depths.length≤12) (hx:inR x 0 ((b.depths.length:Int)-1)=true):
  Calls prog 137 #[.pointer (some ⟨g,0,none⟩),ZI x] w fun e w'=>e=.returned (.string ⟨H5.toArray⟩)∧Bz w' g D S L {b with source:=x}∧A9 w w' [some g]:=by
 have KB:=fun(V:World) (bb:Below w w V)=>K.below bb
 have FIN:Hid (∀V,Below w w V→Bz (V.setCell ⟨g,2,none⟩ (ZI x)) g D S L {b with source:=x}∧A9 w (V.setCell ⟨g,2,none⟩ (ZI x)) [some g]):=fun V bb=>by
  have k:=KB V bb;exact⟨⟨k.blk.set_ 2 (ZI x),Cb k.d k.dg _,Cb k.s k.sg _,Cu k.l (Nat.lt_succ_self g) _,k.dn,k.sn,k.dg,k.sg,k.dl,k.sl⟩,Wp bb ⟨g,2,none⟩ _⟩
 generalize hQ:(fun e w'=>e=Ending.returned (.string ⟨H5.toArray⟩)∧Bz w' g D S L {b with source:=x}∧A9 w w' [some g])=Q;have HQ:Hid (∀V,Below w w V→Q (.returned (.string ⟨H5.toArray⟩)) (V.setCell ⟨g,2,none⟩ (ZI x))):=fun V bb=>by subst hQ;exact⟨rfl,FIN.out V bb⟩
 clear hQ FIN KB;obtain⟨DA,dn,dc⟩:=D;obtain⟨SA,sn,sc⟩:=S;obtain⟨LA,ln,lc⟩:=L;have hdn:Hid (dn=b.depths.length):=K.dn;have hdl:dn≤12:=by have:=hdn.out;omega
 have e0:=fun o=>K.blk.cell o;have EW:=fun(V:World) (bb:Below w w V)=>(K.blk.below bb K.blk.lt).cell;have EO:=fun(V:World) (bb:Below w w V)=>K.blk.below bb K.blk.lt;have HK:=fun W=>FM DA SA dn sn dc sc x W Aa;rw[hdn.out,hx] at HK;rw[←hdn.out] at HK;clear K hx hd
 go_enter func137,ntmps137
 go_upto_region 3 with(go_at_call 49;refine(HK _).mono ?_;rintro e w1 ⟨rfl,b1⟩)
 have f1:=fun o=>(EO _ b1).frozen o
 go_wp2_with fail
 exact HQ.out _ b1
theorem Wf (m n:Int) (g:Nat) (D S L:Hd) (b:Ae) (w:World) (K:Bz w g D S L b) (hm:Gj m n=true):
  Calls prog 138 #[.pointer (some ⟨g,0,none⟩),ZI m,ZI n,ZI 1] w fun e w'=>e=.returned (.string ⟨H5.toArray⟩)∧Bz w' g D S L {b with cos:=mkC m n,sin:=mkS m n true,hyp:=mkH m n}∧A9 w w' [some g]:=by
 have HMK:=fun W=>C3 m n true W;unfold YB Xp at HMK;simp only[hm,if_true] at HMK;have HW:=fun W=>As 1 0 1 W
 have FIN:Hid (∀V,Below w w V→Bz (((V.setCell ⟨g,3,none⟩ (ZI (mkC m n))).setCell ⟨g,4,none⟩ (ZI (mkS m n true))).setCell ⟨g,5,none⟩ (ZI (mkH m n))) g D S L {b with cos:=mkC m n,sin:=mkS m n true,hyp:=mkH m n}∧A9 w (((V.setCell ⟨g,3,none⟩ (ZI (mkC m n))).setCell ⟨g,4,none⟩ (ZI (mkS m n true))).setCell ⟨g,5,none⟩ (ZI (mkH m n))) [some g]):=fun V bb=>by
  have k:=K.below bb;refine⟨⟨((k.blk.set_ 3 _).set_ 4 _).set_ 5 _,Cb (Cb (Cb k.d k.dg _) k.dg _) k.dg _,Cb (Cb (Cb k.s k.sg _) k.sg _) k.sg _,Cu (Cu (Cu k.l (Nat.lt_succ_self g) _) (Nat.lt_succ_self g) _) (Nat.lt_succ_self g) _,k.dn,k.sn,k.dg,k.sg,k.dl,k.sl⟩,?_⟩;refine⟨bb.os,bb.tape,bb.output,by simpa using bb.size,fun q hq hne=> ?_⟩
  have hqg:q≠g:=fun e=>hne (some g) Cr (by rw[e])
  exact((Below.heap_setCell _ _ _ q hqg).trans ((Below.heap_setCell _ _ _ q hqg).trans (Below.heap_setCell _ _ _ q hqg))).trans (bb.block q hq)
 generalize hQ:(fun e w'=>e=Ending.returned (.string ⟨H5.toArray⟩)∧Bz w' g D S L {b with cos:=mkC m n,sin:=mkS m n true,hyp:=mkH m n}∧A9 w w' [some g])=Q;have HQ:Hid (∀V,Below w w V→Q (.returned (.string ⟨H5.toArray⟩)) (((V.setCell ⟨g,3,none⟩ (ZI (mkC m n))).setCell ⟨g,4,none⟩ (ZI (mkS m n true))).setCell ⟨g,5,none⟩ (ZI (mkH m n)))):=fun V bb=>by subst hQ;exact⟨rfl,FIN.out V bb⟩
 clear hQ FIN;have EO:=fun(V:World) (bb:Below w w V)=>K.blk.below bb K.blk.lt;generalize mkC m n=c at*;generalize mkS m n true=s at*;generalize mkH m n=h at*;clear hm
 go_enter func138,ntmps138
 go_upto_region 2 with(go_at_call 179;refine(HMK _).mono ?_;rintro e w1 ⟨rfl,b1⟩)
 have al:Below w1 w1 (w1.alloc (.cells (Ziii c s h) 32)):=BU;have X:=Br w1 32 (Ziii c s h);have b2:=An b1 al;clear al;generalize w1.alloc _=w2 at X b2⊢;generalize w1.heap.size=q at X⊢;have e1:=fun o=>(EO _ b2).cell o;have f1:=fun o=>(EO _ b2).frozen o;have e2:=X.cell;clear K EO
 go_wp2_with (go_at_call 73;refine(HW _).mono ?_;rintro e w' ⟨rfl,rfl⟩)
 exact HQ.out _ b2
theorem We (m n:Int) (g:Nat) (D S L:Hd) (b:Ae) (w:World) (K:Bz w g D S L b) (hm:Gj m n=true):
  Calls prog 138 #[.pointer (some ⟨g,0,none⟩),ZI m,ZI n,ZI 0] w fun e w'=>e=.returned (.string ⟨H5.toArray⟩)∧Bz w' g D S L {b with cos:=mkC m n,sin:=mkS m n false,hyp:=mkH m n}∧A9 w w' [some g]:=by
 have HMK:=fun W=>C3 m n false W;unfold YB Xp at HMK;simp only[hm,if_true] at HMK;have HW:=fun W=>As 0 0 1 W
 have FIN:Hid (∀V,Below w w V→Bz (((V.setCell ⟨g,3,none⟩ (ZI (mkC m n))).setCell ⟨g,4,none⟩ (ZI (mkS m n false))).setCell ⟨g,5,none⟩ (ZI (mkH m n))) g D S L {b with cos:=mkC m n,sin:=mkS m n false,hyp:=mkH m n}∧A9 w (((V.setCell ⟨g,3,none⟩ (ZI (mkC m n))).setCell ⟨g,4,none⟩ (ZI (mkS m n false))).setCell ⟨g,5,none⟩ (ZI (mkH m n))) [some g]):=fun V bb=>by
  have k:=K.below bb;refine⟨⟨((k.blk.set_ 3 _).set_ 4 _).set_ 5 _,Cb (Cb (Cb k.d k.dg _) k.dg _) k.dg _,Cb (Cb (Cb k.s k.sg _) k.sg _) k.sg _,Cu (Cu (Cu k.l (Nat.lt_succ_self g) _) (Nat.lt_succ_self g) _) (Nat.lt_succ_self g) _,k.dn,k.sn,k.dg,k.sg,k.dl,k.sl⟩,?_⟩;refine⟨bb.os,bb.tape,bb.output,by simpa using bb.size,fun q hq hne=> ?_⟩
  have hqg:q≠g:=fun e=>hne (some g) Cr (by rw[e])
  exact((Below.heap_setCell _ _ _ q hqg).trans ((Below.heap_setCell _ _ _ q hqg).trans (Below.heap_setCell _ _ _ q hqg))).trans (bb.block q hq)
 generalize hQ:(fun e w'=>e=Ending.returned (.string ⟨H5.toArray⟩)∧Bz w' g D S L {b with cos:=mkC m n,sin:=mkS m n false,hyp:=mkH m n}∧A9 w w' [some g])=Q;have HQ:Hid (∀V,Below w w V→Q (.returned (.string ⟨H5.toArray⟩)) (((V.setCell ⟨g,3,none⟩ (ZI (mkC m n))).setCell ⟨g,4,none⟩ (ZI (mkS m n false))).setCell ⟨g,5,none⟩ (ZI (mkH m n)))):=fun V bb=>by subst hQ;exact⟨rfl,FIN.out V bb⟩
 clear hQ FIN;have EO:=fun(V:World) (bb:Below w w V)=>K.blk.below bb K.blk.lt;generalize mkC m n=c at*;generalize mkS m n false=s at*;generalize mkH m n=h at*;clear hm
 go_enter func138,ntmps138
 go_upto_region 2 with(go_at_call 179;refine(HMK _).mono ?_;rintro e w1 ⟨rfl,b1⟩)
 have al:Below w1 w1 (w1.alloc (.cells (Ziii c s h) 32)):=BU;have X:=Br w1 32 (Ziii c s h);have b2:=An b1 al;clear al;generalize w1.alloc _=w2 at X b2⊢;generalize w1.heap.size=q at X⊢;have e1:=fun o=>(EO _ b2).cell o;have f1:=fun o=>(EO _ b2).frozen o;have e2:=X.cell;clear K EO
 go_wp2_with (go_at_call 73;refine(HW _).mono ?_;rintro e w' ⟨rfl,rfl⟩)
 exact HQ.out _ b2
theorem Wd (m n way:Int) (g:Nat) (w:World) (hm:Gj m n=false) (T:CK w):
  (BT 138 #[.pointer (some ⟨g,0,none⟩),ZI m,ZI n,ZI way] w (.string ⟨(erT 2).toArray⟩):Prop):=by
 have HMK:=fun W=>C3 m n (decide (way=1)) W;unfold YB at HMK;simp only[hm,Ie,if_false] at HMK;have F:=fun(V:World) (bb:Below w w V)=>Cx 2 V Ah Ah (T.below bb);generalize erT 2=E at*;clear hm T
 by_cases hw:way=1
 all_goals
  first
   |(subst hw;rw[BC rfl] at HMK)
   |(have c2:(way==1)=false:=(by rw[Ea];exact hw);rw[BR hw] at HMK)
  go_enter func138,ntmps138
  go_upto_region 2 with(go_at_call 179;refine(HMK _).mono ?_;rintro e w1 ⟨rfl,b1⟩)
  have al:Below w1 w1 (w1.alloc (.cells Gd 32)):=BU;have b2:=An b1 al;clear al;generalize w1.alloc _=w2 at b2⊢
  go_wp2_with (go_at_call 100;refine(F _ b2).mono ?_;rintro e w3 ⟨rfl,b3⟩)
  go_ret;exact⟨rfl,(An b2 b3)⟩
theorem Wg (m n way:Int) (g:Nat) (w:World) (hm:Gj m n=true) (hw:inR way 0 1=false) (T:CK w):
  (BT 138 #[.pointer (some ⟨g,0,none⟩),ZI m,ZI n,ZI way] w (.string ⟨(erT 2).toArray⟩):Prop):=by
 have HMK:=fun W=>C3 m n false W;unfold YB Xp at HMK;simp only[hm,if_true] at HMK;have F:=fun(V:World) (bb:Below w w V)=>Cx 2 V Ah Ah (T.below bb);have HW:=fun W=>As way 0 1 W;rw[hw] at HW;have h1: ¬way=1:=by have:=Qo hw;omega
 have c2:(way==1)=false:=by rw[Ea];exact h1
 generalize erT 2=E at*;generalize mkC m n=c at*;generalize mkS m n false=s at*;generalize mkH m n=h at*;clear hm T hw
 go_enter func138,ntmps138
 go_upto_region 2 with(go_at_call 179;refine(HMK _).mono ?_;rintro e w1 ⟨rfl,b1⟩)
 have al:Below w1 w1 (w1.alloc (.cells (Ziii c s h) 32)):=BU;have b2:=An b1 al;clear al;generalize w1.alloc _=w2 at b2⊢
 go_wp2_with (first|(go_at_call 73;refine(HW _).mono ?_;rintro e w' ⟨rfl,rfl⟩)|(go_at_call 100;refine(F _ b2).mono ?_;rintro e w3 ⟨rfl,b3⟩))
 go_ret;exact⟨rfl,(An b2 b3)⟩
theorem UZ (t k l x y d r:Int) (g:Nat) (w:World) (hb:Cm t k l x y d r=false) (T:CK w):
  (BT 139 #[.pointer (some ⟨g,0,none⟩),AD t k l x y d r] w (.string ⟨(erT 2).toArray⟩):Prop):=by
 have HR:=fun W=>Ed t k l x y d r W;rw[hb] at HR;have F:=fun(V:World) (bb:Below w w V)=>Cx 2 V Ah Ah (T.below bb);generalize erT 2=E at*;have b0:Below w w (w.alloc (.cells (AD t k l x y d r) 67)):=BU;have X:=Br w 67 (AD t k l x y d r);clear hb T
 go_enter func139,ntmps139
 go_upto_region 1 with fail
 generalize w.alloc _=w1 at*;have e0:=X.cell
 go_upto_region 2 with(go_at_call 81;refine(HR _).mono ?_;rintro e w2 ⟨rfl,b2⟩)
 have b3:=An b0 b2
 go_wp2_with (go_at_call 100;refine(F _ b3).mono ?_;rintro e w4 ⟨rfl,b4⟩)
 go_ret;exact⟨rfl,(An b3 b4)⟩
theorem SJ (t k l x y d r:Int) (g:Nat) (D S L:Hd) (b:Ae) (w:World) (K:Bz w g D S L b) (hn:L.n=200) (hb:Cm t k l x y d r=true) (T:CK w):
  (BT 139 #[.pointer (some ⟨g,0,none⟩),AD t k l x y d r] w (.string ⟨(erT 3).toArray⟩):Prop):=by
 have HR:=fun W=>Ed t k l x y d r W;rw[hb] at HR;have F:=fun(V:World) (bb:Below w w V)=>Cx 3 V Ah Ah (T.below bb);generalize erT 3=E at*;have EO:=fun(V:World) (bb:Below w w V)=>K.blk.below bb K.blk.lt;obtain⟨LA,ln,lc⟩:=L;obtain rfl:ln=200:=hn;have b0:Below w w (w.alloc (.cells (AD t k l x y d r) 67)):=BU;have X:=Br w 67 (AD t k l x y d r);clear hb T K
 go_enter func139,ntmps139
 go_upto_region 1 with fail
 generalize w.alloc _=w1 at*;have e0:=X.cell
 go_upto_region 3 with(go_at_call 81;refine(HR _).mono ?_;rintro e w2 ⟨rfl,b2⟩)
 have b3:=An b0 b2;have e3:=fun o=>(EO _ b3).cell o;clear e0 X b2 EO
 go_wp2_with (go_at_call 100;refine(F _ b3).mono ?_;rintro e w4 ⟨rfl,b4⟩)
 go_ret;exact⟨rfl,(An b3 b4)⟩
theorem Na {s:Bs} (h:cmH s=Av) (hb:Dm s=true):s= [112,114,111,102,105,108,101,32]++cmT s∧(32:UInt8)∉cmT s:=by
 have h2:=(J1 h).1;rw[hb] at h2;have h3:=h2.symm;rw[CD,BP] at h3;have hl:=h3.1;unfold cmH UP at h;unfold cmT UP;unfold UP at hl;rcases e:splitC 32 s with _|⟨x,t⟩
 ·rw[e] at hl;cases hl
 ·rw[e] at hl h;have hx:x=Av:=h;rcases Nn e with⟨rfl,_,_⟩|⟨r,rfl,hn,er⟩
  ·cases hl
  ·rcases t with _|⟨y,_|⟨z,t⟩⟩
   ·cases hl
   ·rcases Nn er with⟨_,rfl,hy⟩|⟨r2,rfl,hn2,er2⟩
    ·subst hx;exact⟨rfl,hy⟩
    ·exact absurd er2 (CT 32 r2)
   ·simp at hl
theorem XD {s:Bs} (h: ¬cmH s=Av): ∀r:Bs,¬s= [112,114,111,102,105,108,101,32]++r:=by
 rintro r rfl
 apply h
 unfold cmH UP;have e:([112,114,111,102,105,108,101,32]:Bs)++r=Av++32::r:=rfl;rw[e,D7 r Ah]
 rfl
theorem DN {s:Bs} (h: ¬cmH s=Av):Lib.hasPrefix s [112,114,111,102,105,108,101,32]=false:=by
 rcases BA (Lib.hasPrefix s [112,114,111,102,105,108,101,32]) with o|o
 ·unfold Lib.hasPrefix at o;rw[List.isPrefixOf_iff_prefix] at o;obtain⟨r,hr⟩:=o;exact absurd hr.symm (XD h r)
 ·exact o
theorem dZ {s:Bs} (hb:Dm s=true) (h: ¬cmH s=Av):arI (cmH s)=((Co s).length:Int)∧ ∀x∈Co s,-1000000000000<x∧x<1000000000000:=by
 obtain⟨h1,h2⟩:=LF h;rw[hb] at h1;have h3:=h1.symm;rw[CD,BP] at h3;rw[h2];refine⟨by rw[List.length_map];exact h3.2,fun x hx=> ?_⟩
 rw[List.mem_map] at hx;obtain⟨y,hy,rfl⟩:=hx;have h4:=h3.1;unfold C7 at h4;rw[List.all_eq_true] at h4;exact(Xg (h4 y hy)).2
theorem S0 {s:Bs} (hb:Dm s=true) (h: ¬cmH s=Av):
  (cmH s=AQ∧(Co s).length=0)∨
  (cmH s=CX∧(Co s).length=0)∨
  (cmH s=BE∧(Co s).length=0)∨
  (cmH s=AM∧(Co s).length=1)∨
  (cmH s=Bo∧(Co s).length=1)∨
  (cmH s=By∧(Co s).length=1)∨
  (cmH s=AW∧(Co s).length=2)∨
  (cmH s=Ca∧(Co s).length=3)∨
  (cmH s=Bw∧(Co s).length=3)∨
  (cmH s=Ci∧(Co s).length=3)∨
  (cmH s=Bi∧(Co s).length=3)∨
  (cmH s=Ck∧(Co s).length=3)∨
  (cmH s=AX∧(Co s).length=5)∨
  (cmH s=Cj∧(Co s).length=6):=by
 have hl:=(dZ hb h).1;generalize cmH s=l at*;generalize(Co s).length=k at*;unfold arI at hl
 by_cases c1:l=AQ∨l=CX∨l=BE
 ·rw[AA c1] at hl;have hk:k=0:=Aa;subst hk;rcases c1 with c|c|c<;>subst c<;>simp
 rw[Ak c1] at hl
 by_cases c2:l=AM∨l=Bo∨l=By
 ·rw[AA c2] at hl;have hk:k=1:=Aa;subst hk;rcases c2 with c|c|c<;>subst c<;>simp
 rw[Ak c2] at hl
 by_cases c3:l=AW
 ·rw[AA c3] at hl;have hk:k=2:=Aa;subst hk;subst c3
  simp
 rw[Ak c3] at hl
 by_cases c4:l=Ca∨l=Bw∨l=Ci∨l=Bi∨l=Ck
 ·rw[AA c4] at hl;have hk:k=3:=Aa;subst hk;rcases c4 with c|c|c|c|c<;>subst c<;>simp
 rw[Ak c4] at hl
 by_cases c5:l=AX
 ·rw[AA c5] at hl;have hk:k=5:=Aa;subst hk;subst c5
  simp
 rw[Ak c5] at hl
 by_cases c6:l=Cj
 ·rw[AA c6] at hl;have hk:k=6:=Aa;subst hk;subst c6
  simp
 rw[Ak c6] at hl;omega
theorem Ni {b:Ae} {s:Bs} (hb:Dm s=false):bsOut b s=erT 6∧bsNext b s=b:=by
 unfold bsOut bsNext;rw[Ak (by rw[hb];decide),Ak (by rw[hb];decide)]
 exact⟨rfl,rfl⟩
theorem Gk {b:Ae} {s:Bs} (hb:Dm s=true) (h:cmH s=Av):bsOut b s=(if Fm (cmT s)=true then H5 else erT 6)∧bsNext b s=(if Fm (cmT s)=true then {b with depths:=rpD (cmT s),speeds:=rpV (cmT s),source:=0} else b):=by
 unfold bsOut bsNext;rw[AA hb,AA hb,AA h,AA h];exact⟨rfl,rfl⟩
theorem Hp {b:Ae} {s:Bs} (hb:Dm s=true) (h:cmH s=AM):bsOut b s=(if inR (cmI s 0) 0 ((b.depths.length:Int)-1)=true then H5 else erT 2)∧bsNext b s=(if inR (cmI s 0) 0 ((b.depths.length:Int)-1)=true then {b with source:=cmI s 0} else b):=by
 unfold bsOut bsNext;rw[AA hb,AA hb,h]
 constructor
 ·rw[Ak (show¬AM=Av by decide),AA rfl]
 ·rw[Ak (show¬AM=Av by decide),AA rfl];rfl
theorem Nk {b:Ae} {s:Bs} (hb:Dm s=true) (h:cmH s=Ca):bsOut b s=(if Gj (cmI s 0) (cmI s 1)=true∧inR (cmI s 2) 0 1=true then H5 else erT 2)∧bsNext b s=(if Gj (cmI s 0) (cmI s 1)=true∧inR (cmI s 2) 0 1=true then {b with cos:=mkC (cmI s 0) (cmI s 1),sin:=mkS (cmI s 0) (cmI s 1) (decide (cmI s 2=1)),hyp:=mkH (cmI s 0) (cmI s 1)} else b):=by
 unfold bsOut bsNext;rw[AA hb,AA hb,h]
 constructor
 ·rw[Ak (show¬Ca=Av by decide),Ak (show¬Ca=AM by decide),AA rfl]
 ·rw[Ak (show¬Ca=Av by decide),Ak (show¬Ca=AM by decide),AA rfl];rfl
theorem IW {b:Ae} {s:Bs} (hb:Dm s=true) (h:cmH s=AW):bsOut b s=(Qc b (cmI s 0) 1 (cmI s 1) 0 0 0 0)∧bsNext b s=(addB b (cmI s 0) 1 (cmI s 1) 0 0 0 0):=by
 unfold bsOut bsNext;rw[AA hb,AA hb,h]
 constructor
 ·rw[Ak (show¬AW=Av by decide),Ak (show¬AW=AM by decide),Ak (show¬AW=Ca by decide),AA rfl]
 ·rw[Ak (show¬AW=Av by decide),Ak (show¬AW=AM by decide),Ak (show¬AW=Ca by decide),AA rfl];rfl
theorem IX {b:Ae} {s:Bs} (hb:Dm s=true) (h:cmH s=AX):bsOut b s=(Qc b (cmI s 0) 2 0 (cmI s 1) (cmI s 2) (cmI s 3) (cmI s 4))∧bsNext b s=(addB b (cmI s 0) 2 0 (cmI s 1) (cmI s 2) (cmI s 3) (cmI s 4)):=by
 unfold bsOut bsNext;rw[AA hb,AA hb,h]
 constructor
 ·rw[Ak (show¬AX=Av by decide),Ak (show¬AX=AM by decide),Ak (show¬AX=Ca by decide),Ak (show¬AX=AW by decide),AA rfl]
 ·rw[Ak (show¬AX=Av by decide),Ak (show¬AX=AM by decide),Ak (show¬AX=Ca by decide),Ak (show¬AX=AW by decide),AA rfl];rfl
theorem Kv {b:Ae} {s:Bs} (hb:Dm s=true) (h:cmH s=Bo):bsOut b s=(Qc b (cmI s 0) 3 0 0 0 0 0)∧bsNext b s=(addB b (cmI s 0) 3 0 0 0 0 0):=by
 unfold bsOut bsNext;rw[AA hb,AA hb,h]
 constructor
 ·rw[Ak (show¬Bo=Av by decide),Ak (show¬Bo=AM by decide),Ak (show¬Bo=Ca by decide),Ak (show¬Bo=AW by decide),Ak (show¬Bo=AX by decide),AA rfl]
 ·rw[Ak (show¬Bo=Av by decide),Ak (show¬Bo=AM by decide),Ak (show¬Bo=Ca by decide),Ak (show¬Bo=AW by decide),Ak (show¬Bo=AX by decide),AA rfl];rfl
theorem IY {b:Ae} {s:Bs} (hb:Dm s=true) (h:cmH s=By):bsOut b s=(trT b (cmI s 0))∧bsNext b s=b:=by
 unfold bsOut bsNext aU;rw[AA hb,AA hb,h]
 constructor
 ·rw[Ak (show¬By=Av by decide),Ak (show¬By=AM by decide),Ak (show¬By=Ca by decide),Ak (show¬By=AW by decide),Ak (show¬By=AX by decide),Ak (show¬By=Bo by decide),AA rfl]
 ·rw[Ak (show¬By=Av by decide),Ak (show¬By=AM by decide),Ak (show¬By=Ca by decide),Ak (show¬By=AW by decide),Ak (show¬By=AX by decide),Ak (show¬By=Bo by decide)]
theorem Kw {b:Ae} {s:Bs} (hb:Dm s=true) (h:cmH s=Cj):bsOut b s=(meT b s)∧bsNext b s=b:=by
 unfold bsOut bsNext aU;rw[AA hb,AA hb,h]
 constructor
 ·rw[Ak (show¬Cj=Av by decide),Ak (show¬Cj=AM by decide),Ak (show¬Cj=Ca by decide),Ak (show¬Cj=AW by decide),Ak (show¬Cj=AX by decide),Ak (show¬Cj=Bo by decide),Ak (show¬Cj=By by decide),AA rfl]
 ·rw[Ak (show¬Cj=Av by decide),Ak (show¬Cj=AM by decide),Ak (show¬Cj=Ca by decide),Ak (show¬Cj=AW by decide),Ak (show¬Cj=AX by decide),Ak (show¬Cj=Bo by decide)]
theorem FD {b:Ae} {s:Bs} (hb:Dm s=true) (h:cmH s=AQ):bsOut b s=(shT b)∧bsNext b s=b:=by
 unfold bsOut bsNext aU;rw[AA hb,AA hb,h]
 constructor
 ·rw[Ak (show¬AQ=Av by decide),Ak (show¬AQ=AM by decide),Ak (show¬AQ=Ca by decide),Ak (show¬AQ=AW by decide),Ak (show¬AQ=AX by decide),Ak (show¬AQ=Bo by decide),Ak (show¬AQ=By by decide),Ak (show¬AQ=Cj by decide),AA rfl]
 ·rw[Ak (show¬AQ=Av by decide),Ak (show¬AQ=AM by decide),Ak (show¬AQ=Ca by decide),Ak (show¬AQ=AW by decide),Ak (show¬AQ=AX by decide),Ak (show¬AQ=Bo by decide)]
theorem IV {b:Ae} {s:Bs} (hb:Dm s=true) (h:cmH s=Bw):bsOut b s=(clT b s)∧bsNext b s=b:=by
 unfold bsOut bsNext aU;rw[AA hb,AA hb,h]
 constructor
 ·rw[Ak (show¬Bw=Av by decide),Ak (show¬Bw=AM by decide),Ak (show¬Bw=Ca by decide),Ak (show¬Bw=AW by decide),Ak (show¬Bw=AX by decide),Ak (show¬Bw=Bo by decide),Ak (show¬Bw=By by decide),Ak (show¬Bw=Cj by decide),Ak (show¬Bw=AQ by decide),AA rfl]
 ·rw[Ak (show¬Bw=Av by decide),Ak (show¬Bw=AM by decide),Ak (show¬Bw=Ca by decide),Ak (show¬Bw=AW by decide),Ak (show¬Bw=AX by decide),Ak (show¬Bw=Bo by decide)]
theorem Ku {b:Ae} {s:Bs} (hb:Dm s=true) (h:cmH s=Ci):bsOut b s=(grT b s)∧bsNext b s=b:=by
 unfold bsOut bsNext aU;rw[AA hb,AA hb,h]
 constructor
 ·rw[Ak (show¬Ci=Av by decide),Ak (show¬Ci=AM by decide),Ak (show¬Ci=Ca by decide),Ak (show¬Ci=AW by decide),Ak (show¬Ci=AX by decide),Ak (show¬Ci=Bo by decide),Ak (show¬Ci=By by decide),Ak (show¬Ci=Cj by decide),Ak (show¬Ci=AQ by decide),Ak (show¬Ci=Bw by decide),AA rfl]
 ·rw[Ak (show¬Ci=Av by decide),Ak (show¬Ci=AM by decide),Ak (show¬Ci=Ca by decide),Ak (show¬Ci=AW by decide),Ak (show¬Ci=AX by decide),Ak (show¬Ci=Bo by decide)]
theorem Ho {b:Ae} {s:Bs} (hb:Dm s=true) (h:cmH s=Bi):bsOut b s=(chT s)∧bsNext b s=b:=by
 unfold bsOut bsNext aU;rw[AA hb,AA hb,h]
 constructor
 ·rw[Ak (show¬Bi=Av by decide),Ak (show¬Bi=AM by decide),Ak (show¬Bi=Ca by decide),Ak (show¬Bi=AW by decide),Ak (show¬Bi=AX by decide),Ak (show¬Bi=Bo by decide),Ak (show¬Bi=By by decide),Ak (show¬Bi=Cj by decide),Ak (show¬Bi=AQ by decide),Ak (show¬Bi=Bw by decide),Ak (show¬Bi=Ci by decide),AA rfl]
 ·rw[Ak (show¬Bi=Av by decide),Ak (show¬Bi=AM by decide),Ak (show¬Bi=Ca by decide),Ak (show¬Bi=AW by decide),Ak (show¬Bi=AX by decide),Ak (show¬Bi=Bo by decide)]
theorem Kx {b:Ae} {s:Bs} (hb:Dm s=true) (h:cmH s=Ck):bsOut b s=(plT s)∧bsNext b s=b:=by
 unfold bsOut bsNext aU;rw[AA hb,AA hb,h]
 constructor
 ·rw[Ak (show¬Ck=Av by decide),Ak (show¬Ck=AM by decide),Ak (show¬Ck=Ca by decide),Ak (show¬Ck=AW by decide),Ak (show¬Ck=AX by decide),Ak (show¬Ck=Bo by decide),Ak (show¬Ck=By by decide),Ak (show¬Ck=Cj by decide),Ak (show¬Ck=AQ by decide),Ak (show¬Ck=Bw by decide),Ak (show¬Ck=Ci by decide),Ak (show¬Ck=Bi by decide),AA rfl]
 ·rw[Ak (show¬Ck=Av by decide),Ak (show¬Ck=AM by decide),Ak (show¬Ck=Ca by decide),Ak (show¬Ck=AW by decide),Ak (show¬Ck=AX by decide),Ak (show¬Ck=Bo by decide)]
theorem Nj {b:Ae} {s:Bs} (hb:Dm s=true) (h:cmH s=CX):bsOut b s=(Lib.itoa (lgN b:Int))∧bsNext b s=b:=by
 unfold bsOut bsNext aU;rw[AA hb,AA hb,h]
 constructor
 ·rw[Ak (show¬CX=Av by decide),Ak (show¬CX=AM by decide),Ak (show¬CX=Ca by decide),Ak (show¬CX=AW by decide),Ak (show¬CX=AX by decide),Ak (show¬CX=Bo by decide),Ak (show¬CX=By by decide),Ak (show¬CX=Cj by decide),Ak (show¬CX=AQ by decide),Ak (show¬CX=Bw by decide),Ak (show¬CX=Ci by decide),Ak (show¬CX=Bi by decide),Ak (show¬CX=Ck by decide),AA rfl]
 ·rw[Ak (show¬CX=Av by decide),Ak (show¬CX=AM by decide),Ak (show¬CX=Ca by decide),Ak (show¬CX=AW by decide),Ak (show¬CX=AX by decide),Ak (show¬CX=Bo by decide)]
theorem IU {b:Ae} {s:Bs} (hb:Dm s=true) (h:cmH s=BE):bsOut b s=(Lib.itoa (chkFold (lgT b.log (lgN b))))∧bsNext b s=b:=by
 unfold bsOut bsNext aU;rw[AA hb,AA hb,h]
 constructor
 ·rw[Ak (show¬BE=Av by decide),Ak (show¬BE=AM by decide),Ak (show¬BE=Ca by decide),Ak (show¬BE=AW by decide),Ak (show¬BE=AX by decide),Ak (show¬BE=Bo by decide),Ak (show¬BE=By by decide),Ak (show¬BE=Cj by decide),Ak (show¬BE=AQ by decide),Ak (show¬BE=Bw by decide),Ak (show¬BE=Ci by decide),Ak (show¬BE=Bi by decide),Ak (show¬BE=Ck by decide),Ak (show¬BE=CX by decide)]
 ·rw[Ak (show¬BE=Av by decide),Ak (show¬BE=AM by decide),Ak (show¬BE=Ca by decide),Ak (show¬BE=AW by decide),Ak (show¬BE=AX by decide),Ak (show¬BE=Bo by decide)]
end Go.Proofs.YtkndcebhjcfphaaGreatDoor
