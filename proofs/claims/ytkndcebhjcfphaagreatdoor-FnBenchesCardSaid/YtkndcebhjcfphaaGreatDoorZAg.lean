import Derived.Test.YtkndcebhjcfphaaGreatDoorZAa
import Derived.Test.YtkndcebhjcfphaaGreatDoorZAc
namespace Go.Proofs.YtkndcebhjcfphaaGreatDoor
open Go.RowKit Go.Proofs.Tryz
set_option maxRecDepth 100000
set_option maxHeartbeats 4000000
set_option linter.all false
theorem Mb {a M:Int} (f: -M<=a) (b:a<=M) (d:0<=M):0<=a*a∧a*a<=M*M:=by
 rcases Eg a 0 with c|c
 ·have e:a*a=(-a)*(-a):=by rw[Int.neg_mul_neg]
  rw[e];exact⟨Du Aa Aa,CL Aa Aa Aa d⟩
 ·exact⟨Du c c,CL b b c d⟩
theorem Wj (a b:Int) (w:World) (ha: -10000<=a∧a<=10000) (c: -10000<=b∧b<=10000):
  (GK 382 (Zii a b) w (ZI (a*a+b*b)):Prop):=by
 have d:=Mb ha.1 ha.2 Ah;have f:=Mb c.1 c.2 Ah;have g:=Bg (a*a);have i:=Bg (b*b);have j:=Bg (a*a+b*b);clear d f
 go_enter func382,ntmps382
 go_wp2;go_ret;exact⟨rfl,rfl⟩
theorem Vp (x y d r f g R:Int) (w:World) (p:0<=x∧x<=10000) (q:0<=y∧y<=10000) (m:0<=f∧f<=10000) (n:0<=g∧g<=10000) (l:0<=R∧R<=10000):
  (BT 377 #[Ziiii x y d r,ZI f,ZI g,ZI R] w (.bool (decide ((f-x)*(f-x)+(g-y)*(g-y)<=R*R))):Prop):=by
 have k:=Mb (a:=R) (M:=10000) Aa l.2 Ah;have s:=Bg (x-f);have t:=Bg (y-g);have u:=Bg (R*R);have i:=λW=>Wj (x-f) (y-g) W Aa Aa;have e1:Hid (∀a b:Int,(a-b)*(a-b)=(b-a)*(b-a)):=λa b=>by rw[<-Int.neg_mul_neg,Int.neg_sub]
 have j:Below w w (w.alloc (.cells (Ziiii x y d r) 65)):=BU;have K:=Br w 65 (Ziiii x y d r);clear k
 go_enter func377,ntmps377
 go_upto_region 1 with fail
 generalize w.alloc _=z at*;have c:=K.cell
 go_wp2_with (go_at_call 382;refine(i _).mono ?_;rintro e v ⟨rfl,rfl⟩)
 go_ret;exact⟨Af (by rw[e1.out f x,e1.out g y]),j⟩
def Dv (ks:List Nat):List Value:=ints (ks.map λk:Nat=>(k:Int))
theorem FW (a b:List Nat):Dv (a++b)=Dv a++Dv b:=by unfold Dv ints;simp
theorem ko {ks:List Nat} {i:Nat} (h:i<ks.length):(ks.map λk:Nat=>(k:Int)).getD i 0=((ks.getD i 0:Nat):Int):=by
 rw[DE,List.getElem?_map,DE,Db h];rfl
theorem Ok (A:Option Addr) (n c:Nat) (w:World) (_:n<=9223372036854775807):
  (GK 189 #[.slice A n c] w (ZI n):Prop):=by
 go_enter func189,ntmps189
 go_wp2;go_ret;exact⟨rfl,rfl⟩
theorem bE (A:Option Addr) (n c:Nat) (w:World) (l:n<=200):
  Calls prog 291 #[.slice A n c] w λe p=> ∃h:Hd,e=.returned (.slice h.A h.n h.c)∧h.n=n∧Rd p h.A h.n (Dv (List.range n))∧Below w w p:=by
 go_enter func291,ntmps291
 go_wp2_with (go_at_call 189;refine(Ok _ _ _ _ Aa).mono ?_;rintro e p ⟨rfl,rfl⟩)
 go_loopw [3,7] (λv i wr=> ∃(k:Nat) (h:Hd),k<=n∧i=.int .i64 k∧v=.slice h.A h.n h.c∧h.n=k∧AR wr w.heap.size 1 h (Dv (List.range k))∧Below w w wr) (λ_ i _=>n-(intOf i).toNat)
 case atStart=>exact⟨0,⟨none,0,0⟩,AZ _,rfl,rfl,rfl,AR.nil _ _ _,AP _ _⟩
 case round=>
  obtain⟨k,⟨r,a,t⟩,F,rfl,rfl,u,O,b⟩:=hrel;simp only at u;subst u
  by_cases D:a<n
  ·have d:(a:Int)<(n:Int):=Aa;have j:a+1<=1099511627776:=Aa;have H:=b.size;have y:=BD wr (a:Int) 2;have s:=O.below ((AP _ wr).alloc Bk (.cells #[ZI a] 2));have g:Below w w (wr.alloc (.cells #[ZI a] 2)):=Ax;have m:=g.size
   go_wp2_with (at_builtin;refine Aj rfl _ _ 28 rfl 2 1 8 underlying28 AJ Ah w.heap.size ⟨r,a,t⟩ _ rfl s _ 1 1 (ints [(a:Int)]) rfl y (Ao _) j Ah m ?_;intro G I l E B C;have f:=Ai l;clear l)
   have z:=g.grown B g.size (λq e=>by have:=(s.rowlt q e).1;omega)
   go_roundw
   case rel=>exact⟨a+1,G,by omega,by go_num,rfl,f.out,by rw[I6,FW];exact E,z⟩
   case measure=>simp[intOf];omega
  ·obtain rfl:n=a:=Aa;have d: ¬(n:Int)<(n:Int):=Aa;have x:=Ai O.rd1;clear O;go_wp2;go_ret;exact⟨⟨r,n,t⟩,rfl,rfl,x.out,b⟩
theorem Rd.nat {w:World} {A:Option Addr} {n k:Nat} {ks:List Nat} (h:Rd w A n (Dv ks)) (d:k<n) (f:ks.length=n): ∃a,A=some a∧w.cell? (a.add k)=ZS ((ks.getD k 0:Nat):Int):=by
 obtain⟨a,b,c⟩:=h.int d;exact⟨a,b,by rw[c,ko Aa]⟩
theorem NN (A B:Option Addr) (n c m d:Nat) (xs:List Int) (ks:List Nat) (w:World) (y:n<=200) (hm:m<=200) (Y:Rd w A (n*4) (ints xs)) (T:Rd w B m (Dv ks)) (V:ks.length=m) (u: ∀k∈ks,k<n):
  Calls prog 235 (CH A n c B m d) w λe H=> ∃h:Hd,e=.returned (.slice h.A h.n h.c)∧h.n=m∧Rd H h.A (h.n*4) (ints (selS xs ks))∧Below w w H:=by
 go_enter func235,ntmps235
 go_wp2_with fail
 go_loopw [5,10] (λv i wr=> ∃(k:Nat) (h:Hd),k<=m∧i=.int .i64 k∧v=.slice h.A h.n h.c∧h.n=k∧AR wr w.heap.size 4 h (ints (selS xs (ks.take k)))∧Below w w wr) (λ_ i _=>m-(intOf i).toNat)
 case atStart=>exact⟨0,⟨none,0,0⟩,AZ _,rfl,rfl,rfl,AR.nil _ _ _,AP _ _⟩
 case round=>
  obtain⟨k,⟨C,a,E⟩,U,rfl,rfl,F,O,b⟩:=hrel;simp only at F;subst F
  by_cases x:a<m
  ·have f:(a:Int)<(m:Int):=Aa;have t:a+1<=1099511627776:=Aa;obtain⟨_,R,hc⟩:=(T.below b).nat x V;subst R;have W:ks.getD a 0<n:=u _ (by rw[DE,Db Aa];exact EH _)
   have K:Hid (selS xs (ks.take (a+1))=selS xs (ks.take a)++Fw xs (ks.getD a 0)):=by
    unfold Hid;rw[<-L4,List.take_succ_eq_append_getElem Aa,DE,Db Aa];rfl
   generalize ks.getD a 0=q at*;have X:(q:Int)<(n:Int):=Aa;obtain⟨_,Q,h0,h1,h2,h3⟩:=(Y.below b).fourS W;subst Q;have I:Hid (Fw xs q= [xs.getD (q*4) 0,xs.getD (q*4+1) 0,xs.getD (q*4+2) 0,xs.getD (q*4+3) 0]):=rfl;generalize xs.getD (q*4) 0=g at*;generalize xs.getD (q*4+1) 0=j at*;generalize xs.getD (q*4+2) 0=l at*;generalize xs.getD (q*4+3) 0=p at*;have hz:=b.size;have L:=Iy wr g j l p 65;have D:=O.below ((AP _ wr).alloc Bk (.cells (Ziiii g j l p) 65));have s:Below w w (wr.alloc (.cells (Ziiii g j l p) 65)):=Ax;have z:=s.size
   go_wp2_with (at_builtin;refine Aj rfl _ _ 171 rfl 65 4 32 underlying171 DS Ah w.heap.size ⟨C,a,E⟩ _ rfl D _ 1 1 (ints [g,j,l,p]) rfl L (Ao _) t Ah z ?_;intro G wg y Z N S;have r:=Ai y;clear y)
   have M:=s.grown N s.size (λq e=>by have:=(D.rowlt q e).1;omega)
   go_roundw
   case rel=>exact⟨a+1,G,by omega,by go_num,rfl,r.out,by rw[K.out,I.out,js];exact Z,M⟩
   case measure=>simp[intOf];omega
  ·obtain rfl:m=a:=Aa;have f: ¬(m:Int)<(m:Int):=Aa;rw[show ks.take m=ks from ED Aa] at O;have J:=Ai O.rd;clear O;go_wp2;go_ret;exact⟨⟨C,m,E⟩,rfl,rfl,J.out,b⟩
theorem On (R L M:Int) (A:Option Addr) (n c i:Nat) (ys:List Int) (w:World) (hv:BJ ys n=true) (hi:i<n) (hR:0<=R∧R<=10000) (hr:Rd w A (n*4) (ints ys)):
  Calls prog 364 #[Ziii R L M,.slice A n c,ZI i] w λe r=> ∃h:Hd,e=.returned (.slice h.A h.n h.c)∧h.n=(nrL ys R i n).length∧Rd r h.A h.n (Dv (nrL ys R i n))∧Below w w r:=by
 have az:n<=200:=Ft;have bi:=Fd hv hi;have HV:=Ai hv;have aT:(i:Int)<(n:Int):=Aa;have b0:Below w w (w.alloc (.cells (Ziii R L M) 178)):=Ax;have H:=Br w 178 (Ziii R L M);obtain⟨m,hA,-⟩:=hr.fourS hi;subst hA
 have N:Hid (∀k,k<n-> ∀V,Below w w V->V.cell? (m.add (k*4))=ZS (ys.getD (k*4) 0)∧V.cell? ⟨(m.add (k*4)).block,(m.add (k*4)).off+1,none⟩=ZS (ys.getD (k*4+1) 0)∧V.cell? ⟨(m.add (k*4)).block,(m.add (k*4)).off+2,none⟩=ZS (ys.getD (k*4+2) 0)∧V.cell? ⟨(m.add (k*4)).block,(m.add (k*4)).off+3,none⟩=ZS (ys.getD (k*4+3) 0)):=λk hk V b=>by
  obtain⟨_,aw,h⟩:=(hr.below b).fourS hk
  cases aw
  exact h
 clear hv hr
 go_enter func364,ntmps364
 go_upto_region 2 with fail
 generalize w.alloc _=w0 at b0 H⊢
 go_wp2_with fail
 go_loopw [7,12] (λv j wr=> ∃(k:Nat) (h:Hd),k<=n∧j=.int .i64 k∧v=.slice h.A h.n h.c∧h.n=(nrL ys R i k).length∧AR wr (w.heap.size+1) 1 h (Dv (nrL ys R i k))∧Blk wr w.heap.size 178 (Ziii R L M)∧Below w w wr) (λ_ j _=>n-(intOf j).toNat)
 case atStart=>exact⟨0,⟨none,0,0⟩,AZ _,rfl,rfl,rfl,AR.nil _ _ _,H,b0⟩
 case round=>
  clear b0 H;obtain⟨k,⟨HA,Y,hC⟩,hk,rfl,rfl,hh,O,H,b⟩:=hrel;simp only at hh;have s:=Ai hh;clear hh
  by_cases Z:k<n
  ·have aa:(k:Int)<(n:Int):=Aa;have aA:=LU ys R i k;have av:Y+1<=1099511627776:=by have:=s.out;omega
   have bk:=Fd HV.out Z;have ax:=N.out k Z wr b;have HS:Hid (nrL ys R i (k+1)=if fl ys R i k=true then nrL ys R i k++ [k] else nrL ys R i k):=rfl;have HB:Hid (fl ys R i k=(!decide (k=i) && decide ((ys.getD (i*4) 0-ys.getD (k*4) 0)*(ys.getD (i*4) 0-ys.getD (k*4) 0)+(ys.getD (i*4+1) 0-ys.getD (k*4+1) 0)*(ys.getD (i*4+1) 0-ys.getD (k*4+1) 0)<=R*R))):=rfl;have g:=N.out i hi;clear aA;generalize ys.getD (k*4) 0=x at*;generalize ys.getD (k*4+1) 0=y at*;generalize ys.getD (k*4+2) 0=C at*;generalize ys.getD (k*4+3) 0=D at*;generalize ys.getD (i*4) 0=y0 at*;generalize ys.getD (i*4+1) 0=y1 at*;generalize ys.getD (i*4+2) 0=y2 at*;generalize ys.getD (i*4+3) 0=y3 at*;obtain⟨k0,k1,k2,k3⟩:=ax;have ac:=b.size;have p:=Br wr 65 (Ziiii x y C D);have al:Below wr wr (wr.alloc (.cells (Ziiii x y C D) 65)):=BU;have J:=b.trans (al.mono ac);have O1:=O.below al;have d:=H.below al H.lt
   go_upto_region 5 with fail
   generalize wr.alloc _=f at p O1 d J⊢;generalize wr.heap.size=F at p⊢;clear k0 k1 k2 k3 al b O H ac;obtain⟨i0,i1,i2,i3⟩:=g f J
   by_cases K:k=i
   ·have E:Hid (nrL ys R i (k+1)=nrL ys R i k):=by unfold Hid;rw[HS.out,HB.out,BC K];rfl
    go_quiet (fail)
    revert nq;intro nq;go_wp2
    go_roundw
    case rel=>exact⟨k+1,⟨HA,Y,hC⟩,by omega,by go_num,rfl,by rw[E.out];exact s.out,by rw[E.out];exact O1.below (BW f nq),d.below (BW f nq) d.lt,Ba J nq⟩
    case measure=>simp[intOf];omega
   ·have c3:((k:Int) !=(i:Int))=true:=QV;have z:=λW=>Vp x y C D y0 y1 R W bk.1 bk.2.1 bi.1 bi.2.1 hR
    by_cases hd:(y0-x)*(y0-x)+(y1-y)*(y1-y)<=R*R
    ·have E:Hid (nrL ys R i (k+1)=nrL ys R i k++ [k]):=by unfold Hid;rw[HS.out,HB.out,BR K,BC hd];rfl
     rw[BC hd] at z;have HI':=λ(V:World) (c:Below f f V)=>g V (An J c);clear g;have eS: ∀o,f.cell? ⟨F,o,none⟩=((Ziiii x y C D):Array Value)[o]? :=p.cell;have eR: ∀o,f.cell? ⟨w,o,none⟩=((Ziii R L M):Array Value)[o]? :=d.cell
     go_region_held3 (λr=>(∀o,r.cell? ⟨F,o,none⟩=((Ziiii x y C D):Array Value)[o]?)∧(∀o,r.cell? ⟨w,o,none⟩=((Ziii R L M):Array Value)[o]?)∧r.cell? (m.add (i*4))=ZS y0∧r.cell? ⟨(m.add (i*4)).block,(m.add (i*4)).off+1,none⟩=ZS y1)
      (exact Wz)
      (first|((fail_if_success (clear a));go_at_call 377;refine(z _).mono ?_;rintro e l ⟨rfl,t⟩;have a:Below f f l:=(show Below f f _ from Ax).trans (t.mono C9);have ae:=a.size;have u:=t.size;(try simp at u);have T: ∀o,l.cell? ⟨F,o,none⟩=((Ziiii x y C D):Array Value)[o]? :=λo=>(p.below a p.lt).cell o;have X:F<l:=(p.below a p.lt).lt;have S: ∀o,l.cell? ⟨w,o,none⟩=((Ziii R L M):Array Value)[o]? :=λo=>(d.below a d.lt).cell o;have U:w<l.heap.size:=(d.below a d.lt).lt))
     all_goals
      have b2:=An J a;have aC:=b2.size;have O2:=O1.below a;have B:=d.below a d.lt;have R3:=BD l (k:Int) 2;have I:Below l l (l.alloc (.cells #[ZI k] 2)):=BU;have O3:=O2.below I;have Q:=B.below I B.lt;have b3:=b2.trans (I.mono aC);have aD:w+1<=(l.alloc (.cells #[ZI k] 2)).heap.size:=Q.lt
      go_wp2_with (at_builtin;refine Aj rfl _ _ 28 rfl 2 1 8 underlying28 AJ Ah (w.heap.size+1) ⟨HA,Y,hC⟩ _ rfl O3 _ 1 1 (ints [(k:Int)]) rfl R3 (Ao _) av Ah aD ?_;intro G wg hn oG gg aS;have ao:=Ai hn;clear hn)
      have ab:=O3.rowlt;have b4:=b3.grown gg b3.size (λq e=>by have:=(ab q e).1;omega)
      have aq:=Q.grown gg (λe=>by have:=(ab _ e).1;omega)
      go_roundw
      case rel=>exact⟨k+1,G,by omega,by go_num,rfl,by rw[E.out,ao.out,Dy,s.out];rfl,by rw[E.out,FW];exact oG,aq,b4⟩
      case measure=>simp[intOf];omega
    ·have E:Hid (nrL ys R i (k+1)=nrL ys R i k):=by unfold Hid;rw[HS.out,HB.out,BR K,BR hd];rfl
     rw[BR hd] at z;have HI':=λ(V:World) (c:Below f f V)=>g V (An J c);clear g;have eS: ∀o,f.cell? ⟨F,o,none⟩=((Ziiii x y C D):Array Value)[o]? :=p.cell;have eR: ∀o,f.cell? ⟨w,o,none⟩=((Ziii R L M):Array Value)[o]? :=d.cell
     go_region_held3 (λr=>(∀o,r.cell? ⟨F,o,none⟩=((Ziiii x y C D):Array Value)[o]?)∧(∀o,r.cell? ⟨w,o,none⟩=((Ziii R L M):Array Value)[o]?)∧r.cell? (m.add (i*4))=ZS y0∧r.cell? ⟨(m.add (i*4)).block,(m.add (i*4)).off+1,none⟩=ZS y1)
      (exact Wz)
      (first|((fail_if_success (clear a));go_at_call 377;refine(z _).mono ?_;rintro e l ⟨rfl,t⟩;have a:Below f f l:=(show Below f f _ from Ax).trans (t.mono C9);have ae:=a.size;have u:=t.size;(try simp at u);have T: ∀o,l.cell? ⟨F,o,none⟩=((Ziiii x y C D):Array Value)[o]? :=λo=>(p.below a p.lt).cell o;have X:F<l:=(p.below a p.lt).lt;have S: ∀o,l.cell? ⟨w,o,none⟩=((Ziii R L M):Array Value)[o]? :=λo=>(d.below a d.lt).cell o;have U:w<l.heap.size:=(d.below a d.lt).lt))
     all_goals
      have b2:=An J a;have O2:=O1.below a;have B:=d.below a d.lt;go_wp2
      go_roundw
      case rel=>exact⟨k+1,⟨HA,Y,hC⟩,by omega,by go_num,rfl,by rw[E.out];exact s.out,by rw[E.out];exact O2,B,b2⟩
      case measure=>simp[intOf];omega
  ·obtain rfl:n=k:=Aa;have aa: ¬(n:Int)<(n:Int):=Aa;have HR:=Ai O.rd1;clear O;go_wp2;go_ret;exact⟨⟨HA,Y,hC⟩,rfl,s.out,HR.out,b⟩
theorem Xs (a b c d R L M:Int) (g:Nat) (t:TypeId) (w:World) (K:Blk w g t (Ziii R L M)) (n:0<=M∧M<=1000000) (hd: -2000000<=d∧d<=2000000):
  (BT 348 #[Zii a b,Zii c d,.pointer (some ⟨g,0,none⟩)] w (.bool (decide (d+M<a))):Prop):=by
 have p:=Bg (d+M);have k:Below w w ((w.alloc (.cells (Zii a b) 136)).alloc (.cells (Zii c d) 136)):=Ax;have f:=(K.alloc (.cells (Zii a b) 136)).alloc (.cells (Zii c d) 136);have i:=(Br w 136 (Zii a b)).alloc (.cells (Zii c d) 136);have j:=Blk.newN (g:=w+1) (w.alloc (.cells (Zii a b) 136)) 136 (Zii c d) Cr
 go_enter func348,ntmps348
 go_upto_region 1 with fail
 generalize(w.alloc _).alloc _=q at*;have e1:=f.cell;have l:=i.cell;have m:=j.cell;go_wp2;go_ret;exact⟨rfl,k⟩
theorem Wi (R L M:Int) (A:Option Addr) (n c i k:Nat) (ys:List Int) (F H G y:Nat) (tA tL tI tR:TypeId) (w:World) (hv:BJ ys n=true) (hi:i<n) (hk:k<n) (aq:k≠i) (hM:0<=M∧M<=1000000) (I:Rd w A (n*4) (ints ys))
  (X:Blk w F tA #[.func (.func 348) #[] #[.pointer (some ⟨y,0,none⟩)]]) (Z:Blk w H tL #[.slice A n c]) (Y:Blk w G tI #[ZI i]) (KR:Blk w y tR (Ziii R L M)):
  (BT 366 #[ZI k,.pointer (some ⟨F,0,none⟩),.pointer (some ⟨H,0,none⟩),.pointer (some ⟨G,0,none⟩)] w (.bool (!(apB ys M i k))):Prop):=by
 have s:=Fd hv hi;have t:=Fd hv hk;obtain⟨f,hA,-⟩:=I.fourS hi;subst hA;have T:Hid (apB ys M i k=decide (ys.getD (k*4+2) 0+ys.getD (k*4+3) 0+M<ys.getD (i*4+2) 0-ys.getD (i*4+3) 0)):=rfl
 have U: ∀V,Below w w V->(V.cell? ⟨F,0,none⟩=some (.func (.func 348) #[] #[.pointer (some ⟨y,0,none⟩)]))∧(V.cell? ⟨H,0,none⟩=some (.slice (some f) n c))∧(V.cell? ⟨G,0,none⟩=ZS i)∧V.cell? (f.add (i*4))=ZS (ys.getD (i*4) 0)∧V.cell? ⟨(f.add (i*4)).block,(f.add (i*4)).off+1,none⟩=ZS (ys.getD (i*4+1) 0)∧V.cell? ⟨(f.add (i*4)).block,(f.add (i*4)).off+2,none⟩=ZS (ys.getD (i*4+2) 0)∧V.cell? ⟨(f.add (i*4)).block,(f.add (i*4)).off+3,none⟩=ZS (ys.getD (i*4+3) 0)∧V.cell? (f.add (k*4))=ZS (ys.getD (k*4) 0)∧V.cell? ⟨(f.add (k*4)).block,(f.add (k*4)).off+1,none⟩=ZS (ys.getD (k*4+1) 0)∧V.cell? ⟨(f.add (k*4)).block,(f.add (k*4)).off+2,none⟩=ZS (ys.getD (k*4+2) 0)∧V.cell? ⟨(f.add (k*4)).block,(f.add (k*4)).off+3,none⟩=ZS (ys.getD (k*4+3) 0):=λV b=>by
  obtain⟨_,h1,x0,N,O,x3⟩:=(I.below b).fourS hi;obtain⟨_,h2,y0,Q,S,y3⟩:=(I.below b).fourS hk
  cases h1
  cases h2
  exact⟨(X.below b X.lt).cell 0,(Z.below b Z.lt).cell 0,(Y.below b Y.lt).cell 0,x0,N,O,x3,y0,Q,S,y3⟩
 have j:=λ(a b c d:Int) (W:World) (bb:Below w w W) (hd: -2000000<=d∧d<=2000000)=>Xs a b c d R L M y tR W (KR.below bb KR.lt) hM hd;clear I X Z Y KR hv;generalize ys.getD (k*4) 0=N at*;generalize ys.getD (k*4+1) 0=Q at*;generalize ys.getD (k*4+2) 0=D at*;generalize ys.getD (k*4+3) 0=J at*;have q:=λW=>CW N Q D J W t.2.2.1.1 t.2.2.1.2 t.2.2.2.1 t.2.2.2.2;generalize ys.getD (i*4) 0=O at*;generalize ys.getD (i*4+1) 0=S at*;generalize ys.getD (i*4+2) 0=E at*;generalize ys.getD (i*4+3) 0=K at*;have r:=λW=>CW O S E K W s.2.2.1.1 s.2.2.1.2 s.2.2.2.1 s.2.2.2.2;have p:=λ(W:World) (bb:Below w w W)=>j (E-K) (E+K) (D-J) (D+J) W bb Aa;have ap:(i:Int)<(n:Int):=Aa;have ar:(k:Int)<(n:Int):=Aa;obtain⟨f1,f2,f3,f4,f5,f6,f7,f8,f9,ai,aj⟩:=U w G6;clear j s t
 go_enter func366,ntmps366
 go_upto_region 1 with fail
 go_region_held3 (λV=>(V.cell? ⟨F,0,none⟩=some (.func (.func 348) #[] #[.pointer (some ⟨y,0,none⟩)]))∧(V.cell? ⟨H,0,none⟩=some (.slice (some f) n c))∧(V.cell? ⟨G,0,none⟩=ZS i)∧V.cell? (f.add (i*4))=ZS O∧V.cell? ⟨(f.add (i*4)).block,(f.add (i*4)).off+1,none⟩=ZS S∧V.cell? ⟨(f.add (i*4)).block,(f.add (i*4)).off+2,none⟩=ZS E∧V.cell? ⟨(f.add (i*4)).block,(f.add (i*4)).off+3,none⟩=ZS K∧V.cell? (f.add (k*4))=ZS N∧V.cell? ⟨(f.add (k*4)).block,(f.add (k*4)).off+1,none⟩=ZS Q∧V.cell? ⟨(f.add (k*4)).block,(f.add (k*4)).off+2,none⟩=ZS D∧V.cell? ⟨(f.add (k*4)).block,(f.add (k*4)).off+3,none⟩=ZS J)
  (first|(exact U _ Ax))
  (first
   |((fail_if_success (clear l));go_at_call 232;(with_reducible refine(r _).mono ?_);rintro e u0 ⟨rfl,u⟩;have l:Below w w u0:=(show Below w w _ from Ax).trans (u.mono C9);have ae:=l.size;have z:=u.size;(try simp at z))
   |((fail_if_success (clear m));go_at_call 232;(with_reducible refine(q _).mono ?_);rintro e u1 ⟨rfl,v⟩;have m:Below w w u1:=(show Below w w _ from Ax).trans (v.mono C9);have af:=m.size;have B:=v.size;(try simp at B))
   |((fail_if_success (clear g));go_at_call 348;(with_reducible refine(p _ Ax).mono ?_);rintro e u2 ⟨rfl,x⟩;have g:Below w w u2:=(show Below w w _ from Ax).trans (x.mono C9);have ag:=g.size;have C:=x.size;(try simp at C)))
 all_goals
  clear U q r p;go_wp2;go_ret;exact⟨Af (by rw[T.out]),g⟩
theorem VN (ys:List Int) (R:Int) (i:Nat): ∀n,∀k∈nrL ys R i n,k≠i
 |0,_,h=>by cases h
 |n+1,k,h=>by
  unfold nrL at h
  split at h
  ·next c=>
   rw[List.mem_append] at h;rcases h with h|h
   ·exact VN ys R i n k h
   ·rw[DD] at h;subst h;intro e;subst e;unfold fl at c;rw[BC (show k=k from rfl)] at c;exact absurd c (by rw[Bool.not_true,Bool.false_and];decide)
  ·exact VN ys R i n k h
theorem km {f:Nat->Bool} {ks:List Nat} {k:Nat} (a:k<ks.length) (h:f (ks.getD k 0)=false):ks.all f=false:=by
 rw[List.all_eq_false];refine⟨ks.getD k 0,?_,by rw[h];decide⟩
 rw[DE,Db a];exact EH _
theorem aH {f:Nat->Bool} {ks:List Nat} {k:Nat} (b:k<ks.length) (h:(ks.take k).all f=true) (a:f (ks.getD k 0)=true):(ks.take (k+1)).all f=true:=by
 rw[List.take_succ_eq_append_getElem b,List.all_append,h,Ha];rw[DE,Db b] at a
 simpa using a
theorem Il {ks:List Nat} {k:Nat} (a:k<ks.length):ks.getD k 0∈ks:=by
 rw[DE,Db a];exact EH _
theorem Tv (R L M:Int) (A B:Option Addr) (n c m d i:Nat) (ys:List Int) (ks:List Nat) (F H G I:Nat) (S U T V:TypeId) (w:World) (hv:BJ ys n=true) (hi:i<n) (hM:0<=M∧M<=1000000) (hm:m<=200) (O:ks.length=m) (r: ∀k∈ks,k<n) (s: ∀k∈ks,k≠i) (Q:Rd w A (n*4) (ints ys)) (N:Rd w B m (Dv ks))
  (x:Blk w F S #[.func (.func 348) #[] #[.pointer (some ⟨I,0,none⟩)]]) (z:Blk w H U #[.slice A n c]) (y:Blk w G T #[ZI i]) (C:Blk w I V (Ziii R L M)):
  Calls prog 378 #[.slice B m d,.func (.func 366) #[] #[.pointer (some ⟨F,0,none⟩),.pointer (some ⟨H,0,none⟩),.pointer (some ⟨G,0,none⟩)]] w λe w'=> ∃v:Int,e=.returned (ZI v)∧(decide (v ≥ 0))=(!(ks.all (apB ys M i)))∧Below w w w':=by
 have q:=Ai O;have t:=Ai r;have u:=Ai s;have K:=λ(k:Nat) (h:k<n) (hh:k≠i) (W:World) (b:Below w w W)=>Wi R L M A n c i k ys F H G I S U T V W hv hi h hh hM (Q.below b) (x.below b x.lt) (z.below b z.lt) (y.below b y.lt) (C.below b C.lt);have Y:=λ(W:World) (b:Below w w W)=>N.below b;clear O r s hv Q x z y C N
 go_enter func378,ntmps378
 go_wp2
 go_loopw [8] (λv wr=> ∃k:Nat,k<=m∧v=.int .i64 k∧(ks.take k).all (apB ys M i)=true∧Below w w wr)
  (λi _=>m-(intOf i).toNat)
 case atStart=>exact⟨0,AZ _,rfl,rfl,AP _ _⟩
 case round=>
  obtain⟨k,af,rfl,g,a⟩:=hrel;have J:=Ai g;clear g
  by_cases f:k<m
  ·obtain⟨bd,rfl,hx⟩:=(Y wr a).nat f q.out;have j:=Il (ks:=ks) (k:=k) (by rw[q.out];exact f)
   have l:=K (ks.getD k 0) (t.out _ j) (u.out _ j);have Z:Hid (apB ys M i (ks.getD k 0)=true->(ks.take (k+1)).all (apB ys M i)=true):=λh=>aH (by rw[q.out];exact f) J.out h
   have X:Hid (apB ys M i (ks.getD k 0)=false->ks.all (apB ys M i)=false):=λh=>km (by rw[q.out];exact f) h
   have ad:(0:Int)<=(k:Int):=Aa;have ae:(k:Int)<(m:Int):=Aa;clear j K;generalize ks.getD k 0=kk at*;rcases jt (apB ys M i kk) with h|h
   ·have p:=Ai h;clear h
    go_wp2_with fail
    refine(l _ a).mono ?_;rw[p.out];rintro e w1 ⟨rfl,D⟩;have E:=An a D;go_wp2
    go_roundw
    case rel=>exact⟨k+1,by omega,by go_num,Z.out p.out,E⟩
    case measure=>simp[intOf];omega
   ·have p:=Ai h;clear h
    go_wp2_with fail
    refine(l _ a).mono ?_;rw[p.out];rintro e w1 ⟨rfl,D⟩;have E:=An a D;go_wp2;go_ret;exact⟨k,rfl,by rw[X.out p.out];simp,E⟩
  ·obtain rfl:k=m:=Aa;have HT:Hid (ks.all (apB ys M i)=true):=by have:=J.out;rw[<-q.out,List.take_length] at this;exact this
   go_wp2;go_ret;exact⟨-1,rfl,by rw[HT.out];rfl,a⟩
theorem NQ (R L M:Int) (A B:Option Addr) (n c m d i:Nat) (ys:List Int) (ks:List Nat) (f j g l:Nat) (y C z D:TypeId) (w:World) (hv:BJ ys n=true) (hi:i<n) (F:0<=M∧M<=1000000) (H:m<=200) (u:ks.length=m) (a: ∀k∈ks,k<n) (b: ∀k∈ks,k≠i) (x:Rd w A (n*4) (ints ys)) (t:Rd w B m (Dv ks))
  (p:Blk w f y #[.func (.func 348) #[] #[.pointer (some ⟨l,0,none⟩)]]) (r:Blk w j C #[.slice A n c]) (q:Blk w g z #[ZI i]) (s:Blk w l D (Ziii R L M)):
  (BT 365 #[.slice B m d,.func (.func 366) #[] #[.pointer (some ⟨f,0,none⟩),.pointer (some ⟨j,0,none⟩),.pointer (some ⟨g,0,none⟩)]] w (.bool (!(ks.all (apB ys M i)))):Prop):=by
 have E:=Tv R L M A B n c m d i ys ks f j g l y C z D w hv hi F H u a b x t p r q s;clear hv u a b x t p r q s
 go_enter func365,ntmps365
 go_wp2_with (go_at_call 378;refine E.mono ?_;rintro e I ⟨v,rfl,hv,G⟩)
 go_ret;exact⟨Af (by rw[<-hv]),G⟩
theorem Tz (R L M:Int) (A:Option Addr) (n c i:Nat) (ys:List Int) (q:Nat) (tR:TypeId) (w:World) (hv:BJ ys n=true) (hi:i<n) (hR:0<=R∧R<=10000) (hM:0<=M∧M<=1000000) (Y:Rd w A (n*4) (ints ys)) (S:Blk w q tR (Ziii R L M)):
  (BT 347 #[Ziii R L M,.slice A n c,ZI i,.func (.func 348) #[] #[.pointer (some ⟨q,0,none⟩)]] w (.bool (Rl ys n R L M i)):Prop):=by
 have X:n<=200:=Ft;have HV:=Ai hv;have Z:=Ai hi;have D:Hid (Rl ys n R L M i=(decide (L<=((nrL ys R i n).length:Int)) && (nrL ys R i n).all (apB ys M i))):=rfl;have T:Below w w ((((w.alloc (.cells (Ziii R L M) 178)).alloc (.cells #[.slice A n c] 171)).alloc (.cells #[ZI i] 3)).alloc (.cells #[.func (.func 348) #[] #[.pointer (some ⟨q,0,none⟩)]] 336)):=Ax;have I:=(((Br w 178 (Ziii R L M)).alloc (.cells #[.slice A n c] 171)).alloc (.cells #[ZI i] 3)).alloc (.cells #[.func (.func 348) #[] #[.pointer (some ⟨q,0,none⟩)]] 336);have J:=((Blk.newN (g:=w+1) (w.alloc (.cells (Ziii R L M) 178)) 171 #[.slice A n c] Cr).alloc (.cells #[ZI i] 3)).alloc (.cells #[.func (.func 348) #[] #[.pointer (some ⟨q,0,none⟩)]] 336);have K:=(Blk.newN (g:=w.heap.size+2) ((w.alloc (.cells (Ziii R L M) 178)).alloc (.cells #[.slice A n c] 171)) 3 #[ZI i] Cr).alloc (.cells #[.func (.func 348) #[] #[.pointer (some ⟨q,0,none⟩)]] 336);have Q:=Blk.newN (g:=w.heap.size+3) (((w.alloc (.cells (Ziii R L M) 178)).alloc (.cells #[.slice A n c] 171)).alloc (.cells #[ZI i] 3)) 336 #[.func (.func 348) #[] #[.pointer (some ⟨q,0,none⟩)]] Cr;clear hv hi
 go_enter func347,ntmps347
 go_upto_region 1 with fail
 generalize(((w.alloc _).alloc _).alloc _).alloc _=w1 at*;have c0:=I.cell;have c1:=J.cell;have c2:=K.cell
 go_upto_region 2 with(go_at_call 364;refine(On R L M A n c i ys w1 HV.out Z.out hR (Y.below T)).mono ?_;rintro e f ⟨⟨B,m,d⟩,rfl,hm,y,z⟩;have j:Hid (m=(nrL ys R i n).length):=hm;clear hm)
 have E:=An T z;have t:=I.below z I.lt;have k:=J.below z J.lt;have l:=K.below z K.lt;have p:=Q.below z Q.lt;have u:=λ(V:World) (b:Below w w V)=>S.below b S.lt;have s:=λ(V:World) (b:Below w w V)=>Y.below b;clear I J K Q c0 c1 c2 T z Y S;have x:m<=200:=by have:=LU ys R i n;have:=j.out;omega
 have e0:=t.cell;have a:=λW=>FQ B m d W Aa
 by_cases F:L<=(m:Int)
 ·have v:decide (L<=(m:Int))=true:=BC F;have N:=Ai v;have C:=λ(V:World) (b:Below f f V)=>NQ R L M A B n c m d i ys (nrL ys R i n) (w.heap.size+3) (w.heap.size+1) (w.heap.size+2) q _ _ _ tR V HV.out Z.out hM x j.out.symm (LU ys R i n).2 (VN ys R i n) (s V (An E b)) (y.below b) (p.below b p.lt) (k.below b k.lt) (l.below b l.lt) (u V (An E b));clear s u y k l p
  go_region_held3 (λw'=> ∀o,w'.cell? ⟨w,o,none⟩=((Ziii R L M):Array Value)[o]?)
   (first|(with_reducible assumption)|((with_reducible refine AC ?_);(with_reducible assumption))|(exact λo=>(t.below Ax t.lt).cell o))
   (first
    |((fail_if_success (clear G));go_at_call 74;(with_reducible refine(a _).mono ?_);rintro e u0 ⟨rfl,H⟩;have G:Below f f u0:=H▸(show Below f f _ from Ax);subst H)
    |((fail_if_success (clear r));go_at_call 365;(with_reducible refine(C _ Ax).mono ?_);rintro e u1 ⟨rfl,U⟩;have r:Below f f u1:=(show Below f f _ from Ax).trans (U.mono C9)))
  all_goals
   clear C a;go_wp2;go_ret;exact⟨Af (by rw[D.out,<-j.out,N.out];simp),(An E r)⟩
 ·have v:decide (L<=(m:Int))=false:=BR F;have N:=Ai v;clear s u y k l p;have HQ:=Ai E;clear E;have O:=λW=>(a W).mono λ_ _ h=>(⟨h.1,h.2.symm⟩:_∧_=W);clear a
  go_quiet ((go_at_call 74;exact Calls.quiet_of_same (O _)))
  revert nq;intro nq;go_wp2;go_ret;exact⟨Af (by rw[D.out,<-j.out,N.out];rfl),Ba HQ.out nq⟩
theorem Vo (R L M:Int) (A:Option Addr) (n c i:Nat) (ys:List Int) (w:World) (hv:BJ ys n=true) (hi:i<n) (j:0<=R∧R<=10000) (g:0<=M∧M<=1000000) (b:Rd w A (n*4) (ints ys)):
  (BT 328 #[Ziii R L M,.slice A n c,ZI i] w (.bool (Rl ys n R L M i)):Prop):=by
 have a:Below w w (w.alloc (.cells (Ziii R L M) 178)):=Ax;have K:=Br w 178 (Ziii R L M);have d:=Tz R L M A n c i ys _ _ _ hv hi j g (b.below a) K;clear hv hi b
 go_enter func328,ntmps328
 go_upto_region 1 with fail
 generalize w.alloc _=l at*;have k:=K.cell
 go_wp2_with (go_at_call 347;refine d.mono ?_;rintro e m ⟨rfl,f⟩)
 go_ret;exact⟨rfl,(An a f)⟩
theorem Le (xs:List Int): ∀(a:List Nat) (i o:Nat),i<a.length->o<4->(selS xs a).getD (i*4+o) 0=xs.getD (a.getD i 0*4+o) 0
 | [],i,o,h,_=>by cases h
 |k::t,0,o,_,ho=>by
  show(Fw xs k++selS xs t).getD (0*4+o) 0=xs.getD (k*4+o) 0;rw[DE,List.getElem?_append_left (by show _<4;omega),Nat.zero_mul,Nat.zero_add]
  match o,ho with
  |0,_=>rfl
  |1,_=>rfl
  |2,_=>rfl
  |3,_=>rfl
 |k::t,i+1,o,h,ho=>by
  show(Fw xs k++selS xs t).getD ((i+1)*4+o) 0=xs.getD (t.getD i 0*4+o) 0;rw[DE,List.getElem?_append_right (by show 4<=_;omega),show(i+1)*4+o-(Fw xs k).length=i*4+o by show(i+1)*4+o-4=_;omega,<-DE]
  exact Le xs t i o CB ho
theorem Xc {xs:List Int} {n:Nat} {ks:List Nat} (hv:BJ xs n=true) (c: ∀k∈ks,k<n) (f:ks.length<=200):BJ (selS xs ks) ks.length=true:=by
 unfold BJ at hv⊢;rw[CD] at hv⊢;refine⟨?_,by rw[BP];omega⟩
 have b:=hv.1;unfold Dg at b⊢;rw[List.all_eq_true] at b⊢;intro i hi;have a:=Eo.1 hi;have:=b (ks.getD i 0) (Eo.2 (c _ (Il a)));unfold Fk at this⊢;have d:=Le xs ks i 0 a Aa;rw[Hb,Hb] at d;rw[d,Le xs ks i 1 a Aa,Le xs ks i 2 a Aa,Le xs ks i 3 a Aa];exact this
theorem U9 (R L M:Int) (A B:Option Addr) (n c m d:Nat) (xs:List Int) (ks:List Nat) (w:World) (hv:BJ xs n=true) (hR:0<=R∧R<=10000) (hM:0<=M∧M<=1000000) (hm:m<=200) (hr:Rd w A (n*4) (ints xs)) (hk:Rd w B m (Dv ks)) (H:ks.length=m) (l: ∀k∈ks,k<n):
  Calls prog 292 #[Ziii R L M,.slice A n c,.slice B m d] w λe w'=> ∃h:Hd,e=.returned (.slice h.A h.n h.c)∧h.n=(Cy xs R L M ks).length∧Rd w' h.A h.n (Dv (Cy xs R L M ks))∧Below w w w':=by
 have r:n<=200:=Ft;have C:=Ai (Xc hv l Aa);have HL:=Ai H;have z:Hid (Cy xs R L M ks=keepTo (selS xs ks) m R L M ks m):=by unfold Hid Cy;rw[H]
 rw[H] at C;have S:Below w w (w.alloc (.cells (Ziii R L M) 178)):=Ax;have K:=Br w 178 (Ziii R L M);have y:=NN A B n c m d xs ks _ r hm (hr.below S) (hk.below S) H l;clear H l hv hr
 go_enter func292,ntmps292
 go_upto_region 1 with fail
 generalize w.alloc _=w1 at*
 go_upto_region 2 with(go_at_call 235;refine y.mono ?_;rintro e u ⟨⟨D,p,q⟩,rfl,hp,i,Y⟩)
 obtain rfl:p=m:=hp;have s:Rd u D (p*4) (ints (selS xs ks)):=i;have W:=An S Y;have K2:=K.below Y K.lt;have N:=W.size;have g2:=K2.lt;clear y K S Y i;generalize selS xs ks=a at*;go_wp2
 go_loopw [8,16] (λv j wr=> ∃(k:Nat) (h:Hd),k<=p∧j=.int .i64 k∧v=.slice h.A h.n h.c∧h.n=(keepTo a p R L M ks k).length∧AR wr u.heap.size 1 h (Dv (keepTo a p R L M ks k))∧Below u u wr) (λ_ j _=>p-(intOf j).toNat)
 case atStart=>exact⟨0,⟨none,0,0⟩,AZ _,rfl,rfl,rfl,AR.nil _ _ _,AP _ _⟩
 case round=>
  obtain⟨k,⟨U,F,hC⟩,aA,rfl,rfl,hh,O,b⟩:=hrel;have g:Hid (F=(keepTo a p R L M ks k).length):=hh;clear hh
  by_cases I:k<p
  ·have J:(k:Int)<(p:Int):=Aa;have Z:F+1<=1099511627776:=by have:=g.out;have:=FP a p R L M ks k;omega
   obtain⟨bd,hB,hc⟩:=(hk.below (W.trans (b.mono N))).nat I HL.out;subst hB;have HS:Hid (keepTo a p R L M ks (k+1)=if Rl a p R L M k=true then keepTo a p R L M ks k else keepTo a p R L M ks k++ [ks.getD k 0]):=rfl;generalize ks.getD k 0=Q at*;have KW:=(K2.below b g2).cell;have f:=Vo R L M D p q k a wr C.out I hR hM (s.below b);have t:=b.size;rcases jt (Rl a p R L M k) with hd|hd
   ·have E:Hid (keepTo a p R L M ks (k+1)=keepTo a p R L M ks k):=by unfold Hid;rw[HS.out,AA hd]
    rw[hd] at f;clear hd
    go_wp2_with (go_at_call 328;refine f.mono ?_;rintro e T ⟨rfl,x⟩)
    go_roundw
    case rel=>exact⟨k+1,⟨U,F,hC⟩,by omega,by go_num,rfl,by rw[E.out];exact g.out,by rw[E.out];exact O.below x,b.trans (x.mono t)⟩
    case measure=>simp[intOf];omega
   ·have E:Hid (keepTo a p R L M ks (k+1)=keepTo a p R L M ks k++ [Q]):=by unfold Hid;rw[HS.out,Ak (by rw[hd];decide)]
    rw[hd] at f;clear hd
    go_upto_region 7 with(go_at_call 328;refine f.mono ?_;rintro e T ⟨rfl,x⟩)
    have b4:=b.trans (x.mono t);have O3:=O.below x;clear O x b f KW hc t;have aD:=b4.size;have R1:=BD T (Q:Int) 2;have O1:=O3.below ((AP _ T).alloc Bk (.cells #[ZI Q] 2));have X:Below u u (T.alloc (.cells #[ZI Q] 2)):=Ax;have ab:=X.size
    go_wp2_with (at_builtin;refine Aj rfl _ _ 28 rfl 2 1 8 underlying28 AJ Ah u.heap.size ⟨U,F,hC⟩ _ rfl O1 _ 1 1 (ints [(Q:Int)]) rfl R1 (Ao _) Z Ah ab ?_;intro G wg hn oG gg ay;have V:=Ai hn;clear hn)
    have b6:=X.grown gg X.size (λq e=>by have:=(O1.rowlt q e).1;omega)
    go_roundw
    case rel=>exact⟨k+1,G,by omega,by go_num,rfl,by rw[E.out,Dy];exact V.out.trans (by rw[<-g.out];rfl),by rw[E.out,FW];exact oG,b6⟩
    case measure=>simp[intOf];omega
  ·obtain rfl:k=p:=Aa;have J: ¬(k:Int)<(k:Int):=Aa;have HR:=Ai O.rd1;clear O;go_wp2;go_ret;exact⟨⟨U,F,hC⟩,rfl,by rw[z.out];exact g.out,by rw[z.out];exact HR.out,W.trans (b.mono N)⟩
def gw:Value->Nat
 | .slice _ n _=>n
 |_=>0
theorem Zd {xs:List Int} {R L M:Int} {ks:List Nat} (h:(Cy xs R L M ks).length≠ks.length):(Cy xs R L M ks).length<ks.length:=by
 have:=DW xs R L M ks;omega
theorem XC (R L M:Int) (A:Option Addr) (n c:Nat) (xs:List Int) (w:World) (hv:BJ xs n=true) (hR:0<=R∧R<=10000) (hM:0<=M∧M<=1000000) (hr:Rd w A (n*4) (ints xs)):
  Calls prog 234 #[Ziii R L M,.slice A n c] w λe w'=> ∃(h:Hd) (v:Int),e=.returned (.tuple (Gb h.A h.n h.c v))∧h.n=(LE xs R L M (List.range n)).length∧Rd w' h.A h.n (Dv (LE xs R L M (List.range n)))∧Below w w w':=by
 have z:n<=200:=Ft;have HV:=Ai hv;clear hv;have b0:Below w w (w.alloc (.cells (Ziii R L M) 178)):=Ax;have K:=Br w 178 (Ziii R L M);have T:=λ(V:World) (b:Below w w V)=>hr.below b;clear hr
 go_enter func234,ntmps234
 go_upto_region 1 with fail
 generalize w.alloc _=w1 at*;have E:=bE A n c w1 z
 go_upto_region 2 with(go_at_call 291;refine E.mono ?_;rintro e w2 ⟨⟨D,p,q⟩,rfl,hp,r,l⟩)
 obtain rfl:p=n:=hp;have i:Rd w2 D p (Dv (List.range p)):=r;have b2:=An b0 l;have K2:=K.below l K.lt;clear E K b0 l r;generalize u:List.range p=C at*;have s:Hid (C.length=p∧ ∀k∈C,k<p):=by subst u;exact⟨List.length_range,λk S=>Eo.1 S⟩
 have G:Hid (List.range p=C):=u;clear u
 go_loopw [6,7] (λv cnt wr=> ∃(a:List Nat) (h:Hd) (j:Int),v=.slice h.A h.n h.c∧cnt=.int .i64 j∧h.n=a.length∧Rd wr h.A h.n (Dv a)∧(∀k∈a,k<p)∧a.length<=200∧LE xs R L M C=LE xs R L M a∧Below w w wr∧Blk wr w.heap.size 178 (Ziii R L M)) (λv _ _=>gw v)
 case atStart=>exact⟨C,⟨D,p,q⟩,0,rfl,rfl,s.out.1.symm,i,s.out.2,by have:=s.out.1;omega,rfl,b2,K2⟩
 case round=>
  clear b2 K2 i;obtain⟨a,⟨N,t,W⟩,j,rfl,rfl,hh,S,H,ap,he,b,Q⟩:=hrel;have f:Hid (t=a.length):=hh;have HE:=Ai he;have F:=Ai H;have X:t<=200:=by have:=f.out;omega
  clear hh he H;have x:Rd wr N t (Dv a):=S;clear S;have e0:=Q.cell;have HO:=U9 R L M A N p c t W xs a wr HV.out hR hM X (T wr b) x f.out.symm F.out
  go_upto_region 3 with(go_at_call 292;refine HO.mono ?_;rintro e w3 ⟨⟨B,m,d⟩,rfl,hm,I,l⟩;have g:Hid (m=(Cy xs R L M a).length):=hm;clear hm)
  have J:Rd w3 B m (Dv (Cy xs R L M a)):=I;have b3:=An b l;have U:=Q.below l Q.lt;have Y:=x.below l;clear HO e0 I l b Q x;have y:m<=200:=by have:=g.out;have:=f.out;have:=DW xs R L M a;omega
  by_cases Z:m=t
  ·have O:Hid ((Cy xs R L M a).length=a.length):=by rw[<-g.out,<-f.out];exact Z
   have HF:Hid (LE xs R L M C=a):=HE.out.trans (NP O.out);subst Z;go_wp2;refine AS (v:=.tuple (Gb N m W j)) (by simp[results,results234,go_sem]) rfl ?_
   exact⟨⟨N,m,W⟩,j,rfl,by rw[G.out,HF.out];exact f.out,by rw[G.out,HF.out];exact Y,b3⟩
  ·have O:Hid (¬(Cy xs R L M a).length=a.length):=by rw[<-g.out,<-f.out];exact Z
   have aq:m<t:=by have:=Zd O.out;rw[<-g.out,<-f.out] at this;exact this
   have c2:((m:Int)==(t:Int))=false:=W7;go_wp2
   go_roundw
   case rel=>exact⟨Cy xs R L M a,⟨B,m,d⟩,_,rfl,rfl,g.out,J,λk h=>F.out k (Jz k h),by rw[<-g.out];exact y,HE.out.trans (Zc O.out),b3,U⟩
   case measure=>simp[gw];omega
theorem cW (w:World) (x:Int) (e:TypeId) (g:Nat) (hg:w.heap.size=g):Rd (w.alloc (.cells #[ZI x] e)) (some ⟨g,0,none⟩) 1 (ints [x]):=by
 subst hg;exact BD w x e
theorem N4 (R L M:Int) (w:World):
  (BT 290 #[Ziii R L M] w (.bool (ruB R L M)):Prop):=by
 have c:=λ(A:Option Addr) (W:World) (r:Rd W A 1 (ints [R]))=>Ir A 1 1 [R] W Aa r;have f:=λW=>As L 1 200 W;have g:=λW=>As M 0 1000000 W;have d:Hid (ruB R L M=(inR R 0 10000 && (inR L 1 200 && inR M 0 1000000))):=rfl;have i:BV [R] 0 10000=inR R 0 10000:=by unfold BV;simp
 rw[i] at c;clear i;have fin: ∀b,ruB R L M=b-> ∀W,Below w w W->(Ending.returned (.bool b)=Ending.returned (.bool (ruB R L M))∧Below w w W):=λb h W k=>⟨by rw[h],k⟩
 have a:=Ai fin;clear fin
 rcases jt (inR R 0 10000) with h1|h1<;>rcases jt (inR L 1 200) with h2|h2<;>rcases jt (inR M 0 1000000) with h3|h3<;>(
  rw[h1,h2,h3] at d;rw[h1] at c;rw[h2] at f;rw[h3] at g;clear h1 h2 h3
  go_enter func290,ntmps290
  go_wp2_with (first|(go_at_call 153;refine(c _ _ (cW _ _ _ _ (by simp))).mono ?_;rintro e j ⟨rfl,rfl⟩)|(go_at_call 73;with_reducible refine(f _).mono ?_;rintro e j ⟨rfl,rfl⟩)|(go_at_call 73;with_reducible refine(g _).mono ?_;rintro e j ⟨rfl,rfl⟩))
  go_ret;exact a.out _ d.out _ Ax)
def Mg (xs:List Int) (n:Nat) (R L M:Int) (w:World) (e:Ending) (w':World):Prop:=
 ∃(h:Hd) (v:Int),e=.returned (.tuple (FK h.A h.n h.c v (Po xs n R L M)))∧h.n=(fk xs n R L M).length∧Below w w w'
theorem Qz {xs:List Int} {n:Nat} {R L M:Int} {w w':World} (a:Po xs n R L M=1) (b:Below w w w'):
  Mg xs n R L M w (.returned (.tuple (FK none 0 0 0 1))) w':=
 ⟨⟨none,0,0⟩,0,by rw[a],by unfold fk;rw[a];rfl,b⟩
theorem Uw {xs:List Int} {n m c:Nat} {A:Option Addr} {v R L M:Int} {w w':World} (a:Po xs n R L M=0) (d:m=(LE xs R L M (List.range n)).length) (b:Below w w w'):
  Mg xs n R L M w (.returned (.tuple (FK A m c v 0))) w':=
 ⟨⟨A,m,c⟩,v,by rw[a],by unfold fk;rw[a];exact d,b⟩
theorem WI {xs:List Int} {R L M:Int} {a:List Nat}: ∀k∈LE xs R L M a,k∈a:=by
 have: ∀f a,∀k∈clF xs R L M f a,k∈a:=by
  intro f
  induction f with
  |zero=>intro a k h;exact h
  |succ f ih=>
   intro a k h;unfold clF at h
   split at h
   ·exact h
   ·exact Jz _ (ih _ _ h)
 exact this _ a
theorem LO (R L M:Int) (A:Option Addr) (n c:Nat) (xs:List Int) (w:World) (t:n<=1048576) (p:Rd w A (n*4) (ints xs)):
  (BT 233 #[.slice A n c,Ziii R L M] w (ZI (Po xs n R L M)):Prop):=by
 have k:Below w w (w.alloc (.cells (Ziii R L M) 178)):=Ax;have K:=Br w 178 (Ziii R L M);have i:=De A n c xs _ t (p.below k);have j:=λW=>N4 R L M W;have g:Hid (Po xs n R L M=if(BJ xs n && ruB R L M)=true then 0 else 1):=rfl;clear p;rcases jt (BJ xs n) with h1|h1
 ·rcases jt (ruB R L M) with h2|h2
  ·have a:Hid (Po xs n R L M=0):=by unfold Hid;rw[g.out,h1,h2];rfl
   rw[h1] at i;rw[h2] at j;clear h1 h2 g
   go_enter func233,ntmps233
   go_upto_region 1 with fail
   generalize w.alloc _=q at*
   go_wp2_with (first|(go_at_call 231;with_reducible refine i.mono ?_;rintro e r ⟨rfl,b⟩;have s:=λo=>(K.below b K.lt).cell o;have d:=An k b;have f:=d.size;clear b)|(go_at_call 290;with_reducible refine(j _).mono ?_;rintro e u ⟨rfl,l⟩;have m:=d.trans (l.mono f)))
   go_ret;exact⟨by rw[a.out];rfl,m⟩
  ·have a:Hid (Po xs n R L M=1):=by unfold Hid;rw[g.out,h1,h2];rfl
   rw[h1] at i;rw[h2] at j;clear h1 h2 g
   go_enter func233,ntmps233
   go_upto_region 1 with fail
   generalize w.alloc _=q at*
   go_wp2_with (first|(go_at_call 231;with_reducible refine i.mono ?_;rintro e r ⟨rfl,b⟩;have s:=λo=>(K.below b K.lt).cell o;have d:=An k b;have f:=d.size;clear b)|(go_at_call 290;with_reducible refine(j _).mono ?_;rintro e u ⟨rfl,l⟩;have m:=d.trans (l.mono f)))
   go_ret;exact⟨by rw[a.out];rfl,m⟩
 ·have a:Hid (Po xs n R L M=1):=by unfold Hid;rw[g.out,h1];rfl
  rw[h1] at i;clear h1 g j
  go_enter func233,ntmps233
  go_upto_region 1 with fail
  generalize w.alloc _=q at*
  go_wp2_with (go_at_call 231;with_reducible refine i.mono ?_;rintro e r ⟨rfl,b⟩;have d:=(An k b))
  go_ret;exact⟨by rw[a.out];rfl,d⟩
theorem PJ (R L M:Int) (A:Option Addr) (n c:Nat) (xs:List Int) (w:World) (Z:n<=1048576) (G:Rd w A (n*4) (ints xs)):
  Calls prog 188 #[.slice A n c,Ziii R L M] w (Mg xs n R L M w):=by
 have y:Below w w (w.alloc (.cells (Ziii R L M) 178)):=Ax;have K:=Br w 178 (Ziii R L M);have g:=LO R L M A n c xs _ Z (G.below y);have t:=λ(V:World) (b:Below w w V)=>G.below b;clear G
 by_cases h:(BJ xs n && ruB R L M)=true
 ·have f:Hid (Po xs n R L M=0):=AA h;rw[CD] at h;have J:=Ai h.1;have j:=h.2;unfold ruB at j;rw[CD,CD] at j;have Y:=Ac j.1;have X:=Ac j.2.2;have s:n<=200:=by have:=J.out;unfold BJ at this;rw[CD,BP] at this;omega
  clear h j;rw[f.out] at g;generalize a:Mg xs n R L M w=l
  have i:Hid (∀(B:Option Addr) (m d:Nat) (v:Int) (V:World),m=(LE xs R L M (List.range n)).length->Below w w V->l (.returned (.tuple (FK B m d v 0))) V):=by
   subst a;exact λB m d v V z F=>Uw f.out z F
  clear a
  go_enter func188,ntmps188
  go_upto_region 1 with fail
  generalize w.alloc _=w1 at*;have O:=K.cell
  go_upto_region 4 with(go_at_call 233;refine g.mono ?_;rintro e w2 ⟨rfl,u⟩;have T:=K.below u K.lt;have x:=An y u;clear u)
  have I:=x.size;have e2:=T.cell;clear O g K y
  go_upto_region 5 with(go_at_call 234;refine(XC R L M A n c xs _ J.out Y X (t _ x)).mono ?_;rintro e w4 ⟨⟨B,m,d⟩,v,rfl,z,H,U⟩;have E:Hid (m=(LE xs R L M (List.range n)).length):=z;clear z)
  have N:=x.trans (U.mono I);have r:m<=200:=by have h:=M8 xs R L M (List.range n);rw[List.length_range] at h;have:=E.out;omega
  have C:=NN A B n c m d xs (LE xs R L M (List.range n)) w4 s r (t _ N) H E.out.symm (λk h=>Eo.1 (WI k h))
  go_wp2_with (go_at_call 235;refine C.mono ?_;rintro e w6 ⟨⟨D,p,q⟩,rfl,Q,-,W⟩;have S:Hid (p=m):=Q;clear Q)
  refine AS (v:=.tuple (FK D p q v 0)) (by simp[results,results188,go_sem]) rfl ?_
  exact i.out _ _ _ _ _ (S.out.trans E.out) (An N W)
 ·have f:Hid (Po xs n R L M=1):=Ak h;clear h;rw[f.out] at g;generalize a:Mg xs n R L M w=l
  have i:Hid (∀(V:World),Below w w V->l (.returned (.tuple (FK none 0 0 0 1))) V):=by
   subst a;exact λV F=>Qz f.out F
  clear a
  go_enter func188,ntmps188
  go_upto_region 1 with fail
  generalize w.alloc _=w1 at*;have O:=K.cell
  go_wp2_with (go_at_call 233;refine g.mono ?_;rintro e w2 ⟨rfl,u⟩;have x:=(An y u))
  refine AS (v:=.tuple (FK none 0 0 0 1)) (by simp[results,results188,go_sem]) rfl ?_
  exact i.out _ x
theorem PS (a b c d R:Int) (w:World) (ha:0<=a∧a<=10000) (g:0<=b∧b<=10000) (i:0<=c∧c<=10000) (hd:0<=d∧d<=10000) (f:0<=R∧R<=10000):
  (YC 335 #[ZI a,ZI b,ZI c,ZI d,ZI R] w (.bool (decide ((a-c)*(a-c)+(b-d)*(b-d)<=R*R))):Prop):=by
 have j:=Mb (a:=a-c) (M:=10000) Aa Aa Ah;have k:=Mb (a:=b-d) (M:=10000) Aa Aa Ah;have l:=Mb (a:=R) (M:=10000) Aa f.2 Ah;have m:=Bg (a-c);have n:=Bg (b-d);have p:=Bg ((a-c)*(a-c));have q:=Bg ((b-d)*(b-d));have r:=Bg ((a-c)*(a-c)+(b-d)*(b-d));have s:=Bg (R*R);clear j k l ha g i hd f
 go_enter func335,ntmps335
 go_wp2;go_ret;exact⟨rfl,rfl⟩
theorem TK (R L M:Int) (A:Option Addr) (n c i:Nat) (ys:List Int) (w:World) (hv:BJ ys n=true) (hi:i<n) (hR:0<=R∧R<=10000) (hr:Rd w A (n*4) (ints ys)):
  Calls prog 310 #[.slice A n c,Ziii R L M,ZI i] w λe w'=> ∃h:Hd,e=.returned (.slice h.A h.n h.c)∧h.n=(nrL ys R i n).length∧Rd w' h.A h.n (Dv (nrL ys R i n))∧Below w w w':=by
 have ac:n<=200:=Ft;have bi:=Fd hv hi;have HV:=Ai hv;have aJ:(i:Int)<(n:Int):=Aa;have X:Below w w (w.alloc (.cells (Ziii R L M) 178)):=Ax;have U:Below w w ((w.alloc (.cells (Ziii R L M) 178)).alloc (.cells #[] 2)):=Ax;have N:=(Br w 178 (Ziii R L M)).alloc (.cells #[] 2);have S:AR ((w.alloc (.cells (Ziii R L M) 178)).alloc (.cells #[] 2)) (w.heap.size+1) 1 ⟨some ⟨w+1,0,none⟩,0,0⟩ (Dv []):=AR.empty _ _ _ _;obtain⟨T,hA,-⟩:=hr.fourS hi;subst hA
 have t:Hid (∀k,k<n-> ∀V,Below w w V->V.cell? (T.add (k*4))=ZS (ys.getD (k*4) 0)∧V.cell? ⟨(T.add (k*4)).block,(T.add (k*4)).off+1,none⟩=ZS (ys.getD (k*4+1) 0)):=λk hk V b=>by
  obtain⟨_,Z,h⟩:=(hr.below b).fourS hk
  cases Z
  exact⟨h.1,h.2.1⟩
 clear hv hr X
 go_enter func310,ntmps310
 go_upto_region 2 with fail
 generalize(w.alloc _).alloc _=w0 at U N S⊢;generalize(some (⟨w+1,0,none⟩:Addr))=PA at*
 go_wp2_with fail
 go_loopw [7,8] (λv j wr=> ∃(k:Nat) (h:Hd),k<=n∧j=.int .i64 k∧v=.slice h.A h.n h.c∧h.n=(nrL ys R i k).length∧AR wr (w.heap.size+1) 1 h (Dv (nrL ys R i k))∧Blk wr w.heap.size 178 (Ziii R L M)∧Below w w wr) (λ_ j _=>n-(intOf j).toNat)
 case atStart=>exact⟨0,⟨PA,0,0⟩,AZ _,rfl,rfl,rfl,S,N,U⟩
 case round=>
  clear U N S;obtain⟨k,⟨E,r,H⟩,hk,rfl,rfl,hh,O,a,l⟩:=hrel;have d:Hid (r=(nrL ys R i k).length):=hh;clear hh
  by_cases y:k<n
  ·have z:(k:Int)<(n:Int):=Aa;have Y:r+1<=1099511627776:=by have:=d.out;have:=LU ys R i k;omega
   have bk:=Fd HV.out y;have ab:=t.out k y wr l;have aa:=t.out i hi wr l;have K:Hid (nrL ys R i (k+1)=if fl ys R i k=true then nrL ys R i k++ [k] else nrL ys R i k):=rfl;have I:Hid (fl ys R i k=(!decide (k=i) && decide ((ys.getD (i*4) 0-ys.getD (k*4) 0)*(ys.getD (i*4) 0-ys.getD (k*4) 0)+(ys.getD (i*4+1) 0-ys.getD (k*4+1) 0)*(ys.getD (i*4+1) 0-ys.getD (k*4+1) 0)<=R*R))):=rfl;generalize ys.getD (k*4) 0=x0 at*;generalize ys.getD (k*4+1) 0=x1 at*;generalize ys.getD (i*4) 0=y0 at*;generalize ys.getD (i*4+1) 0=y1 at*;obtain⟨k0,k1⟩:=ab;obtain⟨i0,i1⟩:=aa;have eR:=a.cell;have C:=l.size
   by_cases p:k=i
   ·have g:Hid (nrL ys R i (k+1)=nrL ys R i k):=by unfold Hid;rw[K.out,I.out,BC p];rfl
    clear k0 k1 i0 i1 eR
    go_upto_region 5 with fail
    go_quiet (fail)
    revert nq;intro nq;go_wp2
    go_roundw
    case rel=>exact⟨k+1,⟨E,r,H⟩,by omega,by go_num,rfl,by rw[g.out];exact d.out,by rw[g.out];exact O.below (BW wr nq),a.below (BW wr nq) a.lt,Ba l nq⟩
    case measure=>simp[intOf];omega
   ·have c3:((k:Int) !=(i:Int))=true:=QV;have f:=λW=>PS y0 y1 x0 x1 R W bi.1 bi.2.1 bk.1 bk.2.1 hR
    by_cases s:(y0-x0)*(y0-x0)+(y1-x1)*(y1-x1)<=R*R
    ·have g:Hid (nrL ys R i (k+1)=nrL ys R i k++ [k]):=by unfold Hid;rw[K.out,I.out,BR p,BC s];rfl
     rw[BC s] at f;clear s
     go_upto_region 5 with fail
     go_quiet ((go_at_call 335;exact Calls.quiet_of_same (f _)))
     revert nq;intro nq;have F:=BW wr nq;have b2:=l.trans (F.mono C);have O2:=O.below F;have u:=a.below F a.lt;clear k0 k1 i0 i1 eR f F O a l C;generalize wr.drewN nq=D at*;have af:=b2.size;have R3:=BD D (k:Int) 2;have m:Below D D (D.alloc (.cells #[ZI k] 2)):=BU;have O3:=O2.below m;have x:=u.below m u.lt;have b3:=b2.trans (m.mono af);have ag:w+1<=(D.alloc (.cells #[ZI k] 2)).heap.size:=x.lt
     go_wp2_with (at_builtin;refine Aj rfl _ _ 28 rfl 2 1 8 underlying28 AJ Ah (w.heap.size+1) ⟨E,r,H⟩ _ rfl O3 _ 1 1 (ints [(k:Int)]) rfl R3 (Ao _) Y Ah ag ?_;intro G wg hn oG gg aI;have J:=Ai hn;clear hn)
     have B:=O3.rowlt;have b4:=b3.grown gg b3.size (λq e=>by have:=(B q e).1;omega)
     have Q:=x.grown gg (λe=>by have:=(B _ e).1;omega)
     go_roundw
     case rel=>exact⟨k+1,G,by omega,by go_num,rfl,by rw[g.out,J.out,Dy,d.out];rfl,by rw[g.out,FW];exact oG,Q,b4⟩
     case measure=>simp[intOf];omega
    ·have g:Hid (nrL ys R i (k+1)=nrL ys R i k):=by unfold Hid;rw[K.out,I.out,BR p,BR s];rfl
     rw[BR s] at f;clear s
     go_upto_region 5 with fail
     go_quiet ((go_at_call 335;exact Calls.quiet_of_same (f _)))
     revert nq;intro nq;go_wp2
     go_roundw
     case rel=>exact⟨k+1,⟨E,r,H⟩,by omega,by go_num,rfl,by rw[g.out];exact d.out,by rw[g.out];exact O.below (BW wr nq),a.below (BW wr nq) a.lt,Ba l nq⟩
     case measure=>simp[intOf];omega
  ·obtain rfl:n=k:=Aa;have z: ¬(n:Int)<(n:Int):=Aa;have HR:=Ai O.rd1;clear O;go_wp2;go_ret;exact⟨⟨E,r,H⟩,rfl,d.out,HR.out,l⟩
def spTo (ys:List Int) (n:Nat) (R L M:Int):Nat->List Nat
 |0=> []
 |i+1=>if Rl ys n R L M i=true then spTo ys n R L M i++ [i] else spTo ys n R L M i
theorem Lg (ys:List Int) (n:Nat) (R L M:Int): ∀i,(spTo ys n R L M i).length<=i∧ ∀k∈spTo ys n R L M i,k<i
 |0=>⟨Cp _,λ_ h=>by cases h⟩
 |i+1=>by
  obtain⟨a,b⟩:=Lg ys n R L M i;unfold spTo
  split
  ·refine⟨by simp;omega,λk c=> ?_⟩
   rw[List.mem_append] at c;rcases c with c|c
   ·have:=b k c;omega
   ·rw[DD] at c;omega
  ·exact⟨by omega,λk c=>by have:=b k c;omega⟩
theorem Lh (ys:List Int) (n:Nat) (R L M:Int) (j:Nat): ∀i,j<i->(j∈spTo ys n R L M i↔Rl ys n R L M j=true)
 |0,h=>by omega
 |i+1,h=>by
  have b:=(Lg ys n R L M i).2;unfold spTo
  by_cases e:j=i
  ·subst e
   split
   ·next c=>exact⟨λ_=>c,λ_=>by simp⟩
   ·next c=>exact⟨λh=>by have:=b j h;omega,λh=>absurd h c⟩
  ·have a:=Lh ys n R L M j i Aa
   split
   ·rw[List.mem_append,DD];exact⟨λh=>h.elim a.1 (λh=>absurd h e),λh=>Or.inl (a.2 h)⟩
   ·exact a
theorem PT (R L M:Int) (A:Option Addr) (n c:Nat) (ys:List Int) (w:World) (hv:BJ ys n=true) (hR:0<=R∧R<=10000) (hM:0<=M∧M<=1000000) (hr:Rd w A (n*4) (ints ys)):
  Calls prog 269 #[.slice A n c,Ziii R L M,.bool true] w λe w'=> ∃h:Hd,e=.returned (.slice h.A h.n h.c)∧h.n=(spTo ys n R L M n).length∧Rd w' h.A h.n (Dv (spTo ys n R L M n))∧Below w w w':=by
 have aQ:n<=200:=Ft;have HV:=Ai hv;have z:=λ(V:World) (b:Below w w V)=>hr.below b;clear hv hr
 go_enter func269,ntmps269
 go_upto_region 2 with fail
 generalize u:(w.alloc _).alloc _=w0;obtain⟨KR,_,b0⟩:=Qg u;clear u;have O0:AR w0 (w.heap.size+1) 1 ⟨some ⟨w+1,0,none⟩,0,0⟩ (Dv []):=AR.empty _ _ _ _;generalize(some (⟨w+1,0,none⟩:Addr))=PA at*
 go_wp2_with fail
 go_loopw [7,8] (λv j wr=> ∃(i:Nat) (h:Hd),i<=n∧j=.int .i64 i∧v=.slice h.A h.n h.c∧h.n=(spTo ys n R L M i).length∧AR wr (w.heap.size+1) 1 h (Dv (spTo ys n R L M i))∧Blk wr w.heap.size 178 (Ziii R L M)∧Below w w wr) (λ_ j _=>n-(intOf j).toNat)
 case atStart=>exact⟨0,⟨PA,0,0⟩,AZ _,rfl,rfl,rfl,O0,KR,b0⟩
 case round=>
  clear b0 KR O0;obtain⟨i,⟨HA,hN,hC⟩,hi,rfl,rfl,hh,O,r,Z⟩:=hrel;have p:Hid (hN=(spTo ys n R L M i).length):=hh;clear hh
  by_cases I:i<n
  ·have aj:(i:Int)<(n:Int):=Aa;have aL:hN+1<=1099511627776:=by have:=p.out;have:=Lg ys n R L M i;omega
   have bi:=Fd HV.out I;have HS:Hid (spTo ys n R L M (i+1)=if Rl ys n R L M i=true then spTo ys n R L M i++ [i] else spTo ys n R L M i):=rfl;have aA:Hid (Rl ys n R L M i=(decide (L<=((nrL ys R i n).length:Int)) && (nrL ys R i n).all (apB ys M i))):=rfl;have y:=(LU ys R i n);have aC:=Ai y;have aO:=y.1;clear y;have T:=λ(V:World) (b:Below w w V)=>TK R L M A n c i ys V HV.out I hR (z V b);have eR:=r.cell;have ap:=Z.size
   go_upto_region 6 with(go_at_call 310;refine(T _ Z).mono ?_;rintro e w2 ⟨⟨B,m,d⟩,rfl,hm,al,bu⟩;have a:Hid (m=(nrL ys R i n).length):=hm;clear hm)
   have aP:m<=200:=by have:=a.out;omega
   have b2:=Z.trans (bu.mono ap);have O2:=O.below bu;have s:=r.below bu r.lt;clear O r eR bu Z ap T aO;have aR:=b2.size;have x:Rd w2 B m (Dv (nrL ys R i n)):=al;clear al;generalize nrL ys R i n=f at*;obtain⟨ad,hA,i0,i1,i2,i3⟩:=(z _ b2).fourS I;subst hA;have ay:Hid (∀k,apB ys M i k=decide (ys.getD (k*4+2) 0+ys.getD (k*4+3) 0+M<ys.getD (i*4+2) 0-ys.getD (i*4+3) 0)):=λ_=>rfl;generalize ys.getD (i*4) 0=y0 at*;generalize ys.getD (i*4+1) 0=y1 at*;generalize ys.getD (i*4+2) 0=y2 at*;generalize ys.getD (i*4+3) 0=y3 at*;have S:=λW=>CZ y0 y1 y2 y3 W bi.2.2.1.1 bi.2.2.1.2 bi.2.2.2.1 bi.2.2.2.2;have eR:=s.cell
   go_upto_region 8 with(go_at_call 214;refine(S _).mono ?_;rintro e w3 ⟨rfl,ab⟩)
   generalize u:w3.alloc _=w4;obtain⟨K3,X⟩:=EX u;clear u;have l:Below w2 w2 w4:=An ab X;generalize w3.heap.size=gB at K3⊢;have b4:=b2.trans (l.mono aR);have O4:=O2.below l;have E:=s.below l s.lt;have am:=x.below l;clear X l ab O2 s x b2 eR i0 i1 i2 i3 S;have aq:=b4.size;have aK:=K3.lt;have af:=E.lt
   go_wp2_with fail
   go_loopw [10,12] (λsp mm wr=> ∃k:Nat,k<=m∧mm=.int .i64 k∧sp=.bool (decide (L<=(m:Int)) && (f.take k).all (apB ys M i))∧Below w4 w4 wr) (λ_ mm _=>m-(intOf mm).toNat)
   case atStart=>exact⟨0,AZ _,rfl,by simp,AP _ _⟩
   case round=>
    obtain⟨k,hk,rfl,rfl,b⟩:=hrel
    by_cases ak:k<m
    ·have J:(k:Int)<(m:Int):=Aa;have b5:=b4.trans (b.mono aq);obtain⟨bd,hB,hc⟩:=(am.below b).nat ak a.out.symm;subst hB;have ah:=aC.out.2 _ (Il (ks:=f) (k:=k) (by have:=a.out;omega))
     have D:Hid ((f.take (k+1)).all (apB ys M i)=((f.take k).all (apB ys M i) && apB ys M i (f.getD k 0))):=by
      unfold Hid;have ai:k<f.length:=by have:=a.out;omega
      rw[List.take_succ_eq_append_getElem ai,List.all_append,DE,Db ai]
      simp
     generalize f.getD k 0=K at*;have bg:(K:Int)<(n:Int):=Aa;have bk:=Fd HV.out ah;obtain⟨_,aM,j0,j1,j2,j3⟩:=(z _ b5).fourS ah
     cases aM
     have N:=ay.out K;have t:=Ai N;clear N;generalize ys.getD (K*4) 0=x0 at*;generalize ys.getD (K*4+1) 0=x1 at*;generalize ys.getD (K*4+2) 0=x2 at*;generalize ys.getD (K*4+3) 0=x3 at*;have Q:=λW=>CZ x0 x1 x2 x3 W bk.2.2.1.1 bk.2.2.1.2 bk.2.2.2.1 bk.2.2.2.2;generalize ao:(decide (L<=(m:Int)) && (f.take k).all (apB ys M i))=sp;have C:=Ai ao;clear ao
     go_upto_region 12 with(go_at_call 214;refine(Q _).mono ?_;rintro e w6 ⟨rfl,ac⟩)
     generalize u:w6.alloc _=w7;obtain⟨K6,Y⟩:=EX u;clear u;have ae:=An ac Y;generalize w6.heap.size=gO at K6⊢;have b7:=An b ae;have aE:=K3.below b7 aK;have aF:=E.below b7 af;have e1:=K6.cell;have e2:=aE.cell;have e3:=aF.cell;clear Y ac ae b j0 j1 j2 j3 hc Q;have u1:=Bg (x2+x3+M)
     cases sp with
     |true=>
      by_cases hd:x2+x3+M<y2-y3
      ·have g:Hid ((decide (L<=(m:Int)) && (f.take (k+1)).all (apB ys M i))=true):=by unfold Hid;rw[D.out,<-Bool.and_assoc,C.out,t.out,BC hd];rfl
       go_wp2_with fail
       go_roundw
       case rel=>exact⟨k+1,by omega,by go_num,by rw[g.out],b7⟩
       case measure=>simp[intOf];omega
      ·have g:Hid ((decide (L<=(m:Int)) && (f.take (k+1)).all (apB ys M i))=false):=by unfold Hid;rw[D.out,<-Bool.and_assoc,C.out,t.out,BR hd];rfl
       go_wp2_with fail
       go_roundw
       case rel=>exact⟨k+1,by omega,by go_num,by rw[g.out],b7⟩
       case measure=>simp[intOf];omega
     |false=>
      have g:Hid ((decide (L<=(m:Int)) && (f.take (k+1)).all (apB ys M i))=false):=by unfold Hid;rw[D.out,<-Bool.and_assoc,C.out];rfl
      go_wp2_with fail
      go_roundw
      case rel=>exact⟨k+1,by omega,by go_num,by rw[g.out],b7⟩
      case measure=>simp[intOf];omega
    ·obtain rfl:m=k:=Aa;have J: ¬(m:Int)<(m:Int):=Aa;have az:Hid (Rl ys n R L M i=(decide (L<=(m:Int)) && (f.take m).all (apB ys M i))):=by unfold Hid;rw[aA.out,<-a.out,ED (by have:=a.out;omega)]
     rw[<-az.out];have b8:=b4.trans (b.mono aq);have O8:=O4.below b;have F:=E.below b af;have aT:=b8.size;rcases jt (Rl ys n R L M i) with hq|hq
     ·have g:Hid (spTo ys n R L M (i+1)=spTo ys n R L M i++ [i]):=by unfold Hid;rw[HS.out,AA hq]
      rw[hq];clear hq;have R3:=BD wr (i:Int) 2;have H:Below wr wr (wr.alloc (.cells #[ZI i] 2)):=BU;have O3:=O8.below H;have U:=F.below H F.lt;have b3:=b8.trans (H.mono aT);have aS:w+1<=(wr.alloc (.cells #[ZI i] 2)).heap.size:=U.lt
      go_wp2_with (at_builtin;refine Aj rfl _ _ 28 rfl 2 1 8 underlying28 AJ Ah (w.heap.size+1) ⟨HA,hN,hC⟩ _ rfl O3 _ 1 1 (ints [(i:Int)]) rfl R3 (Ao _) aL Ah aS ?_;intro G wg hn oG gg bH;have aB:=Ai hn;clear hn)
      have an:=O3.rowlt;have b9:=b3.grown gg b3.size (λq e=>by have:=(an q e).1;omega)
      have aG:=U.grown gg (λe=>by have:=(an _ e).1;omega)
      go_roundw
      case rel=>exact⟨i+1,G,by omega,by go_num,rfl,by rw[g.out,aB.out,Dy,p.out];rfl,by rw[g.out,FW];exact oG,aG,b9⟩
      case measure=>simp[intOf];omega
     ·have g:Hid (spTo ys n R L M (i+1)=spTo ys n R L M i):=by unfold Hid;rw[HS.out,Ak (by rw[hq];decide)]
      rw[hq];clear hq
      go_wp2_with fail
      go_roundw
      case rel=>exact⟨i+1,⟨HA,hN,hC⟩,by omega,by go_num,rfl,by rw[g.out];exact p.out,by rw[g.out];exact O8,F,b8⟩
      case measure=>simp[intOf];omega
  ·obtain rfl:n=i:=Aa;have aj: ¬(n:Int)<(n:Int):=Aa;have HR:=Ai O.rd1;clear O;go_wp2;go_ret;exact⟨⟨HA,hN,hC⟩,rfl,p.out,HR.out,Z⟩
theorem dv {ys:List Int} {n:Nat} {R L M:Int} {m:Nat}:(spTo ys n R L M m).length=0↔ ∀j,j<m->Rl ys n R L M j=false:=by
 constructor
 ·intro h j g;have f:=List.length_eq_zero_iff.1 h;have:=Lh ys n R L M j m g;rw[f] at this;rcases jt (Rl ys n R L M j) with c|c
  ·exact absurd (this.2 c) Cr
  ·exact c
 ·intro h
  cases hs:spTo ys n R L M m with
  |nil=>rfl
  |cons a t=>
   have d:a∈spTo ys n R L M m:=by rw[hs];simp
   have b:=(Lg ys n R L M m).2 a d;have:=(Lh ys n R L M a m b).1 d;rw[h a b] at this
   cases this
theorem du {xs:List Int} {R L M:Int} {ks:List Nat}:(spTo (selS xs ks) ks.length R L M ks.length).length=0↔(Cy xs R L M ks).length=ks.length:=by
 rw[dv];unfold Cy;exact⟨λh=>Mm h,λh=>(Oe Bk h).2⟩
theorem ep {ys:List Int} {n:Nat} {R L M:Int} {m j:Nat} (h:j<m):decide (j∈spTo ys n R L M m)=Rl ys n R L M j:=by
 have:=Lh ys n R L M j m h;rw[Bool.eq_iff_iff,BP];exact this
theorem TB (A:Option Addr) (m d j:Nat) (ks:List Nat) (w:World) (E:m<=200) (y:Rd w A m (Dv ks)) (u:ks.length=m):
  (BT 270 (Gb A m d j) w (.bool (decide (j∈ks))):Prop):=by
 have n:=Ai u;clear u
 go_enter func270,ntmps270
 go_wp2
 go_loopw [5] (λi wr=> ∃k:Nat,k<=m∧i=.int .i64 k∧(∀q,q<k->ks.getD q 0≠j)∧Below w w wr) (λi _=>m-(intOf i).toNat)
 case atStart=>exact⟨0,AZ _,rfl,λq h=>by omega,AP _ _⟩
 case round=>
  obtain⟨k,z,rfl,f,b⟩:=hrel;have a:=Ai f;clear f
  by_cases t:k<m
  ·have c:(k:Int)<(m:Int):=Aa;obtain⟨B,rfl,D⟩:=(y.below b).nat t n.out;have p:Hid (ks.getD k 0∈ks):=Il (by have:=n.out;omega)
   have r:Hid (ks.getD k 0≠j-> ∀q,q<k+1->ks.getD q 0≠j):=λh q v=>by
    by_cases e:q=k
    ·subst e;exact h
    ·exact a.out q Aa
   generalize ks.getD k 0=x at*
   by_cases g:x=j
   ·have l:Hid (decide (j∈ks)=true):=by unfold Hid;rw[BP,<-g];exact p.out
    go_wp2;go_ret;exact⟨Af (by rw[l.out]),b⟩
   ·have C:((x:Int)==(j:Int))=false:=W7;go_wp2
    go_roundw
    case rel=>exact⟨k+1,by omega,by go_num,r.out g,b⟩
    case measure=>simp[intOf];omega
  ·obtain rfl:m=k:=Aa;have c: ¬(m:Int)<(m:Int):=Aa
   have l:Hid (decide (j∈ks)=false):=by
    unfold Hid;rw[decide_eq_false_iff_not];intro s;obtain⟨q,v,g⟩:=List.getElem_of_mem s;have:=a.out q (by have:=n.out;omega)
    rw[DE,Db v] at this;exact this g
   go_wp2;go_ret;exact⟨Af (by rw[l.out]),b⟩
theorem TL (A B:Option Addr) (n c m d:Nat) (xs:List Int) (ks:List Nat) (w:World) (y:n<=200) (hm:m<=200) (Y:Rd w A (n*4) (ints xs)) (T:Rd w B m (Dv ks)) (V:ks.length=m) (u: ∀k∈ks,k<n):
  Calls prog 217 (CH A n c B m d) w λe H=> ∃h:Hd,e=.returned (.slice h.A h.n h.c)∧h.n=m∧Rd H h.A (h.n*4) (ints (selS xs ks))∧Below w w H:=by
 go_enter func217,ntmps217
 go_wp2_with fail
 go_loopw [5,6] (λv i wr=> ∃(k:Nat) (h:Hd),k<=m∧i=.int .i64 k∧v=.slice h.A h.n h.c∧h.n=k∧AR wr w.heap.size 4 h (ints (selS xs (ks.take k)))∧Below w w wr) (λ_ i _=>m-(intOf i).toNat)
 case atStart=>exact⟨0,⟨some ⟨w,0,none⟩,0,0⟩,AZ _,rfl,rfl,rfl,AR.empty _ _ _ _,(AP _ _).alloc Bk _⟩
 case round=>
  obtain⟨k,⟨C,a,E⟩,U,rfl,rfl,F,O,b⟩:=hrel;simp only at F;subst F
  by_cases x:a<m
  ·have f:(a:Int)<(m:Int):=Aa;have t:a+1<=1099511627776:=Aa;obtain⟨_,R,hc⟩:=(T.below b).nat x V;subst R;have W:ks.getD a 0<n:=u _ (by rw[DE,Db Aa];exact EH _)
   have K:Hid (selS xs (ks.take (a+1))=selS xs (ks.take a)++Fw xs (ks.getD a 0)):=by
    unfold Hid;rw[<-L4,List.take_succ_eq_append_getElem Aa,DE,Db Aa];rfl
   generalize ks.getD a 0=q at*;have X:(q:Int)<(n:Int):=Aa;obtain⟨_,Q,h0,h1,h2,h3⟩:=(Y.below b).fourS W;subst Q;have I:Hid (Fw xs q= [xs.getD (q*4) 0,xs.getD (q*4+1) 0,xs.getD (q*4+2) 0,xs.getD (q*4+3) 0]):=rfl;generalize xs.getD (q*4) 0=g at*;generalize xs.getD (q*4+1) 0=j at*;generalize xs.getD (q*4+2) 0=l at*;generalize xs.getD (q*4+3) 0=p at*;have hz:=b.size;have L:=Iy wr g j l p 65;have D:=O.below ((AP _ wr).alloc Bk (.cells (Ziiii g j l p) 65));have s:Below w w (wr.alloc (.cells (Ziiii g j l p) 65)):=Ax;have z:=s.size
   go_wp2_with (at_builtin;refine Aj rfl _ _ 171 rfl 65 4 32 underlying171 DS Ah w.heap.size ⟨C,a,E⟩ _ rfl D _ 1 1 (ints [g,j,l,p]) rfl L (Ao _) t Ah z ?_;intro G wg y Z N S;have r:=Ai y;clear y)
   have M:=s.grown N s.size (λq e=>by have:=(D.rowlt q e).1;omega)
   go_roundw
   case rel=>exact⟨a+1,G,by omega,by go_num,rfl,r.out,by rw[K.out,I.out,js];exact Z,M⟩
   case measure=>simp[intOf];omega
  ·obtain rfl:m=a:=Aa;have f: ¬(m:Int)<(m:Int):=Aa;rw[show ks.take m=ks from ED Aa] at O;have J:=Ai O.rd;clear O;go_wp2;go_ret;exact⟨⟨C,m,E⟩,rfl,rfl,J.out,b⟩
def gp (ys:List Int) (p:Nat) (R L M:Int) (ks:List Nat) (w4:World) (v i:Value) (w5:World):Prop:=
 ∃(k:Nat) (h:Hd),k<=p∧i=.int .i64 k∧v=.slice h.A h.n h.c∧h.n=(keepTo ys p R L M ks k).length∧AR w5 w4.heap.size 1 h (Dv (keepTo ys p R L M ks k))∧Below w4 w4 w5
theorem Vr {ys:List Int} {p:Nat} {R L M:Int} {ks:List Nat} {a d:World} {i:Value} (k:Nat) (h:Hd) (f:k<=p) (hi:i=.int .i64 k) (g:h.n=(keepTo ys p R L M ks k).length) (O:AR d a.heap.size 1 h (Dv (keepTo ys p R L M ks k))) (b:Below a a d):gp ys p R L M ks a (.slice h.A h.n h.c) i d:=⟨k,h,f,hi,rfl,g,O,b⟩
def dF (R L M:Int) (n:Nat) (xs:List Int) (w:World) (e:Ending) (w':World):Prop:= ∃(h:Hd) (v:Int),e=.returned (.tuple (Gb h.A h.n h.c v))∧h.n=(LE xs R L M (List.range n)).length∧Rd w' h.A h.n (Dv (LE xs R L M (List.range n)))∧Below w w w'
theorem TJ (R L M:Int) (A:Option Addr) (n c:Nat) (xs:List Int) (w:World) (hv:BJ xs n=true) (hR:0<=R∧R<=10000) (hM:0<=M∧M<=1000000) (hr:Rd w A (n*4) (ints xs)):
  Calls prog 216 #[.slice A n c,Ziii R L M,ZI 200] w (dF R L M n xs w):=by
 have bs:n<=200:=Ft;have HV:=Ai hv;have b0:Below w w ((w.alloc (.cells (Ziii R L M) 178)).alloc (.cells #[] 2)):=Ax;have KR:=(Br w 178 (Ziii R L M)).alloc (.cells #[] 2);have O0:AR ((w.alloc (.cells (Ziii R L M) 178)).alloc (.cells #[] 2)) (w.heap.size+1) 1 ⟨some ⟨w+1,0,none⟩,0,0⟩ (Dv []):=AR.empty _ _ _ _;have bc:=λ(V:World) (b:Below w w V)=>hr.below b;clear hv hr;generalize T:dF R L M n xs w=bh
 have Q:Hid (∀(B:Option Addr) (m d:Nat) (v:Int) (ks:List Nat) (V:World),LE xs R L M (List.range n)=ks->m=ks.length->Rd V B m (Dv ks)->Below w w V->bh (.returned (.tuple (Gb B m d v))) V):=by
  subst T;exact λB m d v ks V K hm J hb=>⟨⟨B,m,d⟩,v,rfl,by rw[K];exact hm,by rw[K];exact J,hb⟩
 clear T
 go_enter func216,ntmps216
 go_upto_region 2 with fail
 generalize(w.alloc _).alloc _=w0 at b0 KR O0⊢;generalize(some (⟨w+1,0,none⟩:Addr))=PA at*
 go_wp2_with fail
 go_loopw [8,9] (λv i wr=> ∃(k:Nat) (h:Hd),k<=n∧i=.int .i64 k∧v=.slice h.A h.n h.c∧h.n=k∧AR wr (w.heap.size+1) 1 h (Dv (List.range k))∧Blk wr w.heap.size 178 (Ziii R L M)∧Below w w wr) (λ_ i _=>n-(intOf i).toNat)
 case atStart=>exact⟨0,⟨PA,0,0⟩,AZ _,rfl,rfl,rfl,O0,KR,b0⟩
 case round=>
  clear b0 KR O0;obtain⟨k,⟨HA,a,hC⟩,K,rfl,rfl,hl,O,H,b⟩:=hrel;simp only at hl;subst hl;have hz:=b.size
  by_cases ah:a<n
  ·have u:(a:Int)<(n:Int):=Aa;have C:a+1<=1099511627776:=Aa;have R1:=BD wr (a:Int) 2;have aa:Below wr wr (wr.alloc (.cells #[ZI a] 2)):=BU;have O1:=O.below aa;have r:=H.below aa H.lt;have b2:=b.trans (aa.mono hz);have aj:w+1<=(wr.alloc (.cells #[ZI a] 2)).heap.size:=r.lt
   go_wp2_with (at_builtin;refine Aj rfl _ _ 28 rfl 2 1 8 underlying28 AJ Ah (w.heap.size+1) ⟨HA,a,hC⟩ _ rfl O1 _ 1 1 (ints [(a:Int)]) rfl R1 (Ao _) C Ah aj ?_;intro G wg U oG gg aN;have y:=Ai U;clear U)
   have aV:=O1.rowlt;have b3:=b2.grown gg b2.size (λq e=>by have:=(aV q e).1;omega)
   have z:=r.grown gg (λe=>by have:=(aV _ e).1;omega)
   go_roundw
   case rel=>exact⟨a+1,G,by omega,by go_num,rfl,y.out,by rw[I6,FW];exact oG,z,b3⟩
   case measure=>simp[intOf];omega
  ·obtain rfl:n=a:=Aa;have u: ¬(n:Int)<(n:Int):=Aa;have t:Rd wr HA n (Dv (List.range n)):=O.rd1;clear O hz K ah;generalize ae:List.range n=r0 at t;have Z:Hid (r0.length=n∧ ∀k∈r0,k<n):=by subst ae;exact⟨List.length_range,λk K=>Eo.1 K⟩
   have ax:Hid (List.range n=r0):=ae;clear ae
   go_wp2_with fail
   go_loopw [8,10] (λv cnt w1=> ∃(ks:List Nat) (h:Hd) (j:Nat),v=.slice h.A h.n h.c∧cnt=.int .i64 (j:Int)∧h.n=ks.length∧j+ks.length<=200∧Rd w1 h.A h.n (Dv ks)∧(∀k∈ks,k<n)∧LE xs R L M r0=LE xs R L M ks∧Below w w w1∧Blk w1 w.heap.size 178 (Ziii R L M)) (λ_ cnt _=>200-(intOf cnt).toNat)
   case atStart=>exact⟨r0,⟨HA,n,hC⟩,0,rfl,rfl,Z.out.1.symm,by have:=Z.out.1;omega,t,Z.out.2,rfl,b,H⟩
   case round=>
    clear b H t u;obtain⟨ks,⟨HB,p,bU⟩,j,rfl,rfl,hh,hj,K,aQ,he,b,KR⟩:=hrel
    rename World=>wq
    have l:Hid (p=ks.length):=hh;have HE:=Ai he;have Y:=Ai aQ;have bw:p<=200:=by have:=l.out;omega
    have ca:j+p<=200:=by have:=l.out;omega
    have af:Rd wq HB p (Dv ks):=K;clear hh he aQ hj K;have gK:=KR.lt
    by_cases b1:j<200
    ·have br:(j:Int)<200:=Aa;have aE:Below wq wq (wq.alloc (.cells #[] 65)):=BU
     go_upto_region 9 with fail
     go_wp2_with fail
     go_loopw [11,12] (λv i w1=> ∃(k:Nat) (h:Hd),k<=p∧i=.int .i64 k∧v=.slice h.A h.n h.c∧h.n=k∧AR w1 wq.heap.size 4 h (ints (selS xs (ks.take k)))∧Below wq wq w1) (λ_ i _=>p-(intOf i).toNat)
     case atStart=>exact⟨0,⟨some ⟨wq,0,none⟩,0,0⟩,AZ _,rfl,rfl,rfl,AR.empty _ _ _ _,aE⟩
     case round=>
      clear aE;obtain⟨k,⟨HD,a,aL⟩,cc,rfl,rfl,hh,O,bo⟩:=hrel;obtain rfl:a=k:=hh;have b3:=An b bo
      by_cases ah:a<p
      ·have u:(a:Int)<(p:Int):=Aa;have C:a+1<=1099511627776:=Aa;obtain⟨bd,hB,hc⟩:=(af.below bo).nat ah l.out.symm;subst hB;have N:a<ks.length:=by have:=l.out;omega
       have hq:ks.getD a 0<n:=Y.out _ (Il N)
       have HS:Hid (selS xs (ks.take (a+1))=selS xs (ks.take a)++Fw xs (ks.getD a 0)):=by
        unfold Hid;rw[<-L4,List.take_succ_eq_append_getElem N,DE,Db N];rfl
       clear N;generalize ks.getD a 0=q at*;have cf:(q:Int)<(n:Int):=Aa;obtain⟨ad,hA,h0,h1,h2,h3⟩:=(bc _ b3).fourS hq;subst hA;have HF:Hid (Fw xs q= [xs.getD (q*4) 0,xs.getD (q*4+1) 0,xs.getD (q*4+2) 0,xs.getD (q*4+3) 0]):=rfl;generalize xs.getD (q*4) 0=x0 at*;generalize xs.getD (q*4+1) 0=x1 at*;generalize xs.getD (q*4+2) 0=x2 at*;generalize xs.getD (q*4+3) 0=x3 at*;have hz:=bo.size;have R1:=Iy wr x0 x1 x2 x3 65;have aF:Below (wr).heap.size wr ((wr).alloc (.cells (Ziiii x0 x1 x2 x3) 65)):=BU;have O1:=O.below aF;have b2:=bo.trans (aF.mono hz);have aj:=b2.size
       go_wp2_with (at_builtin;refine Aj rfl _ _ 171 rfl 65 4 32 underlying171 DS Ah wq.heap.size ⟨HD,a,aL⟩ _ rfl O1 _ 1 1 (ints [x0,x1,x2,x3]) rfl R1 (Ao _) C Ah aj ?_;intro G wg U oG gg aN;have y:=Ai U;clear U)
       have b4:=b2.grown gg b2.size (λq e=>by have:=(O1.rowlt q e).1;omega)
       go_roundw
       case rel=>exact⟨a+1,G,by omega,by go_num,rfl,y.out,by rw[HS.out,HF.out,js];exact oG,b4⟩
       case measure=>simp[intOf];omega
      ·obtain rfl:p=a:=Aa;have u: ¬(p:Int)<(p:Int):=Aa;have X:Rd wr HD (p*4) (ints (selS xs ks)):=by have:=O.rd;rwa [show ks.take p=ks from ED (by have:=l.out;omega)] at this
       have be:Hid (BJ (selS xs ks) p=true):=by have:=Xc HV.out Y.out (by have:=l.out;omega);rw[<-l.out] at this;exact this
       have ay:Hid ((spTo (selS xs ks) p R L M p).length=0↔(Cy xs R L M ks).length=ks.length):=by have:=du (xs:=xs) (R:=R) (L:=L) (M:=M) (ks:=ks);rw[<-l.out] at this;rw[<-l.out];exact this
       have au:Hid (Cy xs R L M ks=keepTo (selS xs ks) p R L M ks p):=by unfold Hid Cy;rw[<-l.out]
       have r:=KR.below bo gK;have aR:=af.below bo;clear O bo;generalize selS xs ks=g at*;have az:=PT R L M HD p aL g wr be.out hR hM X;have eR:=r.cell
       go_upto_region 14 with(go_at_call 269;refine az.mono ?_;rintro e w4 ⟨⟨S4,m4,d4⟩,rfl,aT,a0,I⟩;have F:Hid (m4=(spTo g p R L M p).length):=aT;clear aT)
       have b4:=An b3 I;have z:=r.below I r.lt;have ag:=aR.below I;have W:Rd w4 S4 m4 (Dv (spTo g p R L M p)):=a0;clear eR r aR a0 az I b3 X
       by_cases h0:m4=0
       ·have HF:Hid (LE xs R L M r0=ks):=HE.out.trans (NP (ay.out.1 (by rw[<-F.out];exact h0)))
        subst h0;go_wp2;exact Q.out _ _ _ _ _ _ (by rw[ax.out,HF.out]) l.out ag b4
       ·have aU:m4<=200:=by have:=(Lg g p R L M p).1;have:=F.out;omega
        have aK: ¬(m4:Int)=0:=Aa;have aM:Hid (¬(Cy xs R L M ks).length=ks.length):=λh=>h0 (by rw[F.out];exact ay.out.2 h)
        have aS:Hid ((Cy xs R L M ks).length<p):=by have:=Zd aM.out;rw[<-l.out] at this;exact this
        have aG:Below w4 w4 (w4.alloc (.cells #[] 2)):=BU;have bn:=z.lt;clear h0
        go_upto_region 16 with fail
        have aO:((m4:Int)==0)=false:=by rw[Ea];exact aK
        rw[aO];clear aO aK
        go_wp2_with fail
        go_loopw [14,15] (gp g p R L M ks w4) (λ_ i _=>p-(intOf i).toNat)
        case atStart=>exact Vr 0 ⟨some ⟨w4,0,none⟩,0,0⟩ (AZ _) rfl rfl (AR.empty _ _ _ _) aG
        case round=>
         clear aG;obtain⟨k,⟨HQ,s,ac⟩,cb,rfl,rfl,aP,O5,S⟩:=hrel;have E:Hid (s=(keepTo g p R L M ks k).length):=aP;clear aP;have ak:=S.size
         by_cases D:k<p
         ·have ai:(k:Int)<(p:Int):=Aa;have C:s+1<=1099511627776:=by have:=E.out;have:=FP g p R L M ks k;omega
          have f:=TB S4 m4 d4 k (spTo g p R L M p) wr aU (W.below S) F.out.symm;rw[ep D] at f;have aw:Hid (k+1<=p):=D;have HS:Hid (keepTo g p R L M ks (k+1)=if Rl g p R L M k=true then keepTo g p R L M ks k else keepTo g p R L M ks k++ [ks.getD k 0]):=rfl;rcases jt (Rl g p R L M k) with J|J
          ·have HW:Hid (keepTo g p R L M ks (k+1)=keepTo g p R L M ks k):=by unfold Hid;rw[HS.out,AA J]
           rw[J] at f;clear J
           go_wp2_with (go_at_call 270;refine f.mono ?_;rintro e w6 ⟨rfl,x⟩)
           go_roundw
           case rel=>exact Vr (k+1) ⟨HQ,s,ac⟩ aw.out (by go_num) (by rw[HW.out];exact E.out) (by rw[HW.out];exact O5.below x) (S.trans (x.mono ak))
           case measure=>simp[intOf];omega
          ·have HW:Hid (keepTo g p R L M ks (k+1)=keepTo g p R L M ks k++ [ks.getD k 0]):=by unfold Hid;rw[HS.out,Ak (by rw[J];decide)]
           rw[J] at f;clear J
           go_upto_region 20 with(go_at_call 270;refine f.mono ?_;rintro e w6 ⟨rfl,x⟩)
           have b6:=S.trans (x.mono ak);have O6:=O5.below x;clear O5 S x f ak;obtain⟨bd,hB,hc⟩:=(ag.below b6).nat D l.out.symm;subst hB;generalize ks.getD k 0=q at*;have bx:=b6.size;have R1:=BD w6 (q:Int) 2;have aH:Below w6 w6 (w6.alloc (.cells #[ZI q] 2)):=BU;have O7:=O6.below aH;have b7:=b6.trans (aH.mono bx);have bz:=b7.size
           go_wp2_with (at_builtin;refine Aj rfl _ _ 28 rfl 2 1 8 underlying28 AJ Ah w4.heap.size ⟨HQ,s,ac⟩ _ rfl O7 _ 1 1 (ints [(q:Int)]) rfl R1 (Ao _) C Ah bz ?_;intro G wg U oG gg aN;have y:=Ai U;clear U)
           have b8:=b7.grown gg b7.size (λq e=>by have:=(O7.rowlt q e).1;omega)
           go_roundw
           case rel=>exact Vr (k+1) G aw.out (by go_num) (by rw[HW.out,y.out,Dy,E.out];rfl) (by rw[HW.out,FW];exact oG) b8
           case measure=>simp[intOf];omega
         ·obtain rfl:k=p:=Aa;have ai: ¬(k:Int)<(k:Int):=Aa;have bu:Rd wr HQ s (Dv (Cy xs R L M ks)):=by rw[au.out];exact O5.rd1
          have b9:=An b4 S;have bf:=z.below S bn;have bb:Hid (s=(Cy xs R L M ks).length):=by unfold Hid;rw[au.out];exact E.out
          have u1:=Bg ((j:Int)+1);clear O5 S z ag W
          go_wp2_with fail
          go_roundw
          case rel=>exact⟨Cy xs R L M ks,⟨HQ,s,ac⟩,j+1,rfl,by go_num,bb.out,by have:=aS.out;omega,bu,λq h=>Y.out q (Jz q h),HE.out.trans (Zc aM.out),b9,bf⟩
          case measure=>simp[intOf];omega
    ·have br: ¬(j:Int)<200:=Aa;have HF:Hid (LE xs R L M r0=ks):=HE.out.trans (NP (by have:=l.out;have:=DW xs R L M ks;omega))
     go_wp2;exact Q.out _ _ _ _ _ _ (by rw[ax.out,HF.out]) l.out af b
theorem OS (R L M:Int) (w:World):
  (BT 268 #[Ziii R L M] w (.bool (ruB R L M)):Prop):=by
 have g:=λW=>Ay R 0 10000 W;have d:=λW=>Ay L 1 200 W;have f:=λW=>Ay M 0 1000000 W;have c:Hid (ruB R L M=(inR R 0 10000 && (inR L 1 200 && inR M 0 1000000))):=rfl;have fin: ∀b,ruB R L M=b-> ∀W,Below w w W->(Ending.returned (.bool b)=Ending.returned (.bool (ruB R L M))∧Below w w W):=λb h W j=>⟨by rw[h],j⟩
 have a:=Ai fin;clear fin
 rcases jt (inR R 0 10000) with h1|h1<;>rcases jt (inR L 1 200) with h2|h2<;>rcases jt (inR M 0 1000000) with h3|h3<;>(
  rw[h1,h2,h3] at c;rw[h1] at g;rw[h2] at d;rw[h3] at f;clear h1 h2 h3
  go_enter func268,ntmps268
  go_wp2_with (first|(go_at_call 84;with_reducible refine(g _).mono ?_;rintro e i ⟨rfl,rfl⟩)|(go_at_call 84;with_reducible refine(d _).mono ?_;rintro e i ⟨rfl,rfl⟩)|(go_at_call 84;with_reducible refine(f _).mono ?_;rintro e i ⟨rfl,rfl⟩))
  go_ret;exact a.out _ c.out _ Ax)
theorem L7 (R L M:Int) (A:Option Addr) (n c:Nat) (xs:List Int) (w:World) (t:n<=1048576) (p:Rd w A (n*4) (ints xs)):
  (BT 215 #[.slice A n c,Ziii R L M] w (ZI (Po xs n R L M)):Prop):=by
 have k:Below w w (w.alloc (.cells (Ziii R L M) 178)):=Ax;have K:=Br w 178 (Ziii R L M);have i:=Dh A n c xs _ t (p.below k);have j:=λW=>OS R L M W;have g:Hid (Po xs n R L M=if(BJ xs n && ruB R L M)=true then 0 else 1):=rfl;clear p;rcases jt (BJ xs n) with h1|h1
 ·rcases jt (ruB R L M) with h2|h2
  ·have a:Hid (Po xs n R L M=0):=by unfold Hid;rw[g.out,h1,h2];rfl
   rw[h1] at i;rw[h2] at j;clear h1 h2 g
   go_enter func215,ntmps215
   go_upto_region 1 with fail
   generalize w.alloc _=q at*
   go_wp2_with (first|(go_at_call 213;with_reducible refine i.mono ?_;rintro e r ⟨rfl,b⟩;have s:=λo=>(K.below b K.lt).cell o;have d:=An k b;have f:=d.size;clear b)|(go_at_call 268;with_reducible refine(j _).mono ?_;rintro e u ⟨rfl,l⟩;have m:=d.trans (l.mono f)))
   go_ret;exact⟨by rw[a.out];rfl,m⟩
  ·have a:Hid (Po xs n R L M=1):=by unfold Hid;rw[g.out,h1,h2];rfl
   rw[h1] at i;rw[h2] at j;clear h1 h2 g
   go_enter func215,ntmps215
   go_upto_region 1 with fail
   generalize w.alloc _=q at*
   go_wp2_with (first|(go_at_call 213;with_reducible refine i.mono ?_;rintro e r ⟨rfl,b⟩;have s:=λo=>(K.below b K.lt).cell o;have d:=An k b;have f:=d.size;clear b)|(go_at_call 268;with_reducible refine(j _).mono ?_;rintro e u ⟨rfl,l⟩;have m:=d.trans (l.mono f)))
   go_ret;exact⟨by rw[a.out];rfl,m⟩
 ·have a:Hid (Po xs n R L M=1):=by unfold Hid;rw[g.out,h1];rfl
  rw[h1] at i;clear h1 g j
  go_enter func215,ntmps215
  go_upto_region 1 with fail
  generalize w.alloc _=q at*
  go_wp2_with (go_at_call 213;with_reducible refine i.mono ?_;rintro e r ⟨rfl,b⟩;have d:=(An k b))
  go_ret;exact⟨by rw[a.out];rfl,d⟩
theorem P5 (R L M:Int) (A:Option Addr) (n c:Nat) (xs:List Int) (w:World) (Z:n<=1048576) (G:Rd w A (n*4) (ints xs)):
  Calls prog 172 #[.slice A n c,Ziii R L M] w (Mg xs n R L M w):=by
 have y:Below w w (w.alloc (.cells (Ziii R L M) 178)):=Ax;have K:=Br w 178 (Ziii R L M);have g:=L7 R L M A n c xs _ Z (G.below y);have t:=λ(V:World) (b:Below w w V)=>G.below b;clear G
 by_cases h:(BJ xs n && ruB R L M)=true
 ·have f:Hid (Po xs n R L M=0):=AA h;rw[CD] at h;have J:=Ai h.1;have j:=h.2;unfold ruB at j;rw[CD,CD] at j;have Y:=Ac j.1;have X:=Ac j.2.2;have s:n<=200:=by have:=J.out;unfold BJ at this;rw[CD,BP] at this;omega
  clear h j;rw[f.out] at g;generalize a:Mg xs n R L M w=l
  have i:Hid (∀(B:Option Addr) (m d:Nat) (v:Int) (V:World),m=(LE xs R L M (List.range n)).length->Below w w V->l (.returned (.tuple (FK B m d v 0))) V):=by
   subst a;exact λB m d v V z F=>Uw f.out z F
  clear a
  go_enter func172,ntmps172
  go_upto_region 1 with fail
  generalize w.alloc _=w1 at*;have O:=K.cell
  go_upto_region 4 with(go_at_call 215;refine g.mono ?_;rintro e w2 ⟨rfl,u⟩;have T:=K.below u K.lt;have x:=An y u;clear u)
  have I:=x.size;have e2:=T.cell;clear O g K y
  go_upto_region 5 with(go_at_call 216;refine(TJ R L M A n c xs _ J.out Y X (t _ x)).mono ?_;rintro e w4 ⟨⟨B,m,d⟩,v,rfl,z,H,U⟩;have E:Hid (m=(LE xs R L M (List.range n)).length):=z;clear z)
  have N:=x.trans (U.mono I);have r:m<=200:=by have h:=M8 xs R L M (List.range n);rw[List.length_range] at h;have:=E.out;omega
  have C:=TL A B n c m d xs (LE xs R L M (List.range n)) w4 s r (t _ N) H E.out.symm (λk h=>Eo.1 (WI k h))
  go_wp2_with (go_at_call 217;refine C.mono ?_;rintro e w6 ⟨⟨D,p,q⟩,rfl,Q,-,W⟩;have S:Hid (p=m):=Q;clear Q)
  refine AS (v:=.tuple (FK D p q v 0)) (by simp[results,results172,go_sem]) rfl ?_
  exact i.out _ _ _ _ _ (S.out.trans E.out) (An N W)
 ·have f:Hid (Po xs n R L M=1):=Ak h;clear h;rw[f.out] at g;generalize a:Mg xs n R L M w=l
  have i:Hid (∀(V:World),Below w w V->l (.returned (.tuple (FK none 0 0 0 1))) V):=by
   subst a;exact λV F=>Qz f.out F
  clear a
  go_enter func172,ntmps172
  go_upto_region 1 with fail
  generalize w.alloc _=w1 at*;have O:=K.cell
  go_wp2_with (go_at_call 215;refine g.mono ?_;rintro e w2 ⟨rfl,u⟩;have x:=(An y u))
  refine AS (v:=.tuple (FK none 0 0 0 1)) (by simp[results,results172,go_sem]) rfl ?_
  exact i.out _ x
