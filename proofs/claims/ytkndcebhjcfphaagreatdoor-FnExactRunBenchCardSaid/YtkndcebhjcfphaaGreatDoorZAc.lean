import Derived.Test.YtkndcebhjcfphaaGreatDoorZW
import Derived.Test.YtkndcebhjcfphaaGreatDoorZY
namespace Go.Proofs.YtkndcebhjcfphaaGreatDoor
open Go.RowKit Go.Proofs.Tryz
set_option maxRecDepth 100000
set_option maxHeartbeats 4000000
set_option linter.all false
theorem Mb {a M:Int} (h0: -M≤a) (h1:a≤M) (hM:0≤M):0≤a*a∧a*a≤M*M:=by
 rcases Eg a 0 with c|c
 ·have e:a*a=(-a)*(-a):=by rw[Int.neg_mul_neg]
  rw[e];exact⟨Du Aa Aa,CL Aa Aa Aa hM⟩
 ·exact⟨Du c c,CL h1 h1 c hM⟩
theorem Wj (a b:Int) (w:World) (ha: -10000≤a∧a≤10000) (hb: -10000≤b∧b≤10000):
  (GK 382 (Zii a b) w (ZI (a*a+b*b)):Prop):=by
 have h1:=Mb ha.1 ha.2 Ah;have h2:=Mb hb.1 hb.2 Ah;have u1:=Bg (a*a);have u2:=Bg (b*b);have u3:=Bg (a*a+b*b);clear h1 h2
 go_enter func382,ntmps382
 go_wp2;go_ret;exact⟨rfl,rfl⟩
theorem Vp (x y d r px py R:Int) (w:World) (hx:0≤x∧x≤10000) (hy:0≤y∧y≤10000) (hp:0≤px∧px≤10000) (hq:0≤py∧py≤10000) (hR:0≤R∧R≤10000):
  (BT 377 #[Ziiii x y d r,ZI px,ZI py,ZI R] w (.bool (decide ((px-x)*(px-x)+(py-y)*(py-y)≤R*R))):Prop):=by
 have h1:=Mb (a:=R) (M:=10000) Aa hR.2 Ah;have u1:=Bg (x-px);have u2:=Bg (y-py);have u3:=Bg (R*R);have HS:=fun W=>Wj (x-px) (y-py) W Aa Aa;have e1:Hid (∀a b:Int,(a-b)*(a-b)=(b-a)*(b-a)):=fun a b=>by rw[←Int.neg_mul_neg,Int.neg_sub]
 have b0:Below w w (w.alloc (.cells (Ziiii x y d r) 65)):=BU;have K:=Br w 65 (Ziiii x y d r);clear h1
 go_enter func377,ntmps377
 go_upto_region 1 with fail
 generalize w.alloc _=w1 at*;have c:=K.cell
 go_wp2_with (go_at_call 382;refine(HS _).mono ?_;rintro e w' ⟨rfl,rfl⟩)
 go_ret;exact⟨Af (by rw[e1.out px x,e1.out py y]),b0⟩
def Dv (ks:List Nat):List Value:=ints (ks.map fun k:Nat=>(k:Int))
theorem FW (a b:List Nat):Dv (a++b)=Dv a++Dv b:=by unfold Dv ints;simp
theorem cK {ks:List Nat} {i:Nat} (h:i<ks.length):(ks.map fun k:Nat=>(k:Int)).getD i 0=((ks.getD i 0:Nat):Int):=by
 rw[DE,List.getElem?_map,DE,Db h];rfl
theorem Ok (A:Option Addr) (n c:Nat) (w:World) (_:n≤9223372036854775807):
  (GK 189 #[.slice A n c] w (ZI n):Prop):=by
 go_enter func189,ntmps189
 go_wp2;go_ret;exact⟨rfl,rfl⟩
theorem bE (A:Option Addr) (n c:Nat) (w:World) (hn:n≤200):
  Calls prog 291 #[.slice A n c] w fun e w'=> ∃h:Hd,e=.returned (.slice h.A h.n h.c)∧h.n=n∧Rd w' h.A h.n (Dv (List.range n))∧Below w w w':=by
 go_enter func291,ntmps291
 go_wp2_with (go_at_call 189;refine(Ok _ _ _ _ Aa).mono ?_;rintro e w' ⟨rfl,rfl⟩)
 go_loopw [3,7] (fun v i wr=> ∃(k:Nat) (h:Hd),k≤n∧i=.int .i64 k∧v=.slice h.A h.n h.c∧h.n=k∧AR wr w.heap.size 1 h (Dv (List.range k))∧Below w w wr) (fun _ i _=>n-(intOf i).toNat)
 case atStart=>exact⟨0,⟨none,0,0⟩,AZ _,rfl,rfl,rfl,AR.nil _ _ _,AP _ _⟩
 case round=>
  obtain⟨k,⟨HA,hN,hC⟩,hk,rfl,rfl,hl,O,b⟩:=hrel;simp only at hl;subst hl
  by_cases hlt:hN<n
  ·have hltI:(hN:Int)<(n:Int):=Aa;have h63:hN+1≤1099511627776:=Aa;have hz:=b.size;have R1:=BD wr (hN:Int) 2;have O1:=O.below ((AP _ wr).alloc Bk (.cells #[ZI hN] 2));have b2:Below w w (wr.alloc (.cells #[ZI hN] 2)):=Ax;have hz2:=b2.size
   go_wp2_with (at_builtin;refine Aj rfl _ _ 28 rfl 2 1 8 underlying28 AJ Ah w.heap.size ⟨HA,hN,hC⟩ _ rfl O1 _ 1 1 (ints [(hN:Int)]) rfl R1 (Ao _) h63 Ah hz2 ?_;intro G wg hn oG gg hat;have HNG:=Ai hn;clear hn)
   have b3:=b2.grown gg b2.size (fun q e=>by have:=(O1.rowlt q e).1;omega)
   go_roundw
   case rel=>exact⟨hN+1,G,by omega,by go_num,rfl,HNG.out,by rw[I6,FW];exact oG,b3⟩
   case measure=>simp[intOf];omega
  ·obtain rfl:n=hN:=Aa;have hltI: ¬(n:Int)<(n:Int):=Aa;have HR:=Ai O.rd1;clear O;go_wp2;go_ret;exact⟨⟨HA,n,hC⟩,rfl,rfl,HR.out,b⟩
theorem Rd.nat {w:World} {A:Option Addr} {n k:Nat} {ks:List Nat} (h:Rd w A n (Dv ks)) (hk:k<n) (hl:ks.length=n): ∃ad,A=some ad∧w.cell? (ad.add k)=ZS ((ks.getD k 0:Nat):Int):=by
 obtain⟨ad,hA,hc⟩:=h.int hk;exact⟨ad,hA,by rw[hc,cK Aa]⟩
theorem NN (A B:Option Addr) (n c m d:Nat) (xs:List Int) (ks:List Nat) (w:World) (hn:n≤200) (hm:m≤200) (hr:Rd w A (n*4) (ints xs)) (hk:Rd w B m (Dv ks)) (hl:ks.length=m) (hin: ∀k∈ks,k<n):
  Calls prog 235 (CH A n c B m d) w fun e w'=> ∃h:Hd,e=.returned (.slice h.A h.n h.c)∧h.n=m∧Rd w' h.A (h.n*4) (ints (selS xs ks))∧Below w w w':=by
 go_enter func235,ntmps235
 go_wp2_with fail
 go_loopw [5,10] (fun v i wr=> ∃(k:Nat) (h:Hd),k≤m∧i=.int .i64 k∧v=.slice h.A h.n h.c∧h.n=k∧AR wr w.heap.size 4 h (ints (selS xs (ks.take k)))∧Below w w wr) (fun _ i _=>m-(intOf i).toNat)
 case atStart=>exact⟨0,⟨none,0,0⟩,AZ _,rfl,rfl,rfl,AR.nil _ _ _,AP _ _⟩
 case round=>
  obtain⟨k,⟨HA,hN,hC⟩,hkm,rfl,rfl,hh,O,b⟩:=hrel;simp only at hh;subst hh
  by_cases hlt:hN<m
  ·have hltI:(hN:Int)<(m:Int):=Aa;have h63:hN+1≤1099511627776:=Aa;obtain⟨_,hB,hc⟩:=(hk.below b).nat hlt hl;subst hB;have hq:ks.getD hN 0<n:=hin _ (by rw[DE,Db Aa];exact EH _)
   have HS:Hid (selS xs (ks.take (hN+1))=selS xs (ks.take hN)++Fw xs (ks.getD hN 0)):=by
    unfold Hid;rw[←L4,List.take_succ_eq_append_getElem Aa,DE,Db Aa];rfl
   generalize ks.getD hN 0=q at*;have hqI:(q:Int)<(n:Int):=Aa;obtain⟨_,hA,h0,h1,h2,h3⟩:=(hr.below b).fourS hq;subst hA;have HF:Hid (Fw xs q= [xs.getD (q*4) 0,xs.getD (q*4+1) 0,xs.getD (q*4+2) 0,xs.getD (q*4+3) 0]):=rfl;generalize xs.getD (q*4) 0=x0 at*;generalize xs.getD (q*4+1) 0=x1 at*;generalize xs.getD (q*4+2) 0=x2 at*;generalize xs.getD (q*4+3) 0=x3 at*;have hz:=b.size;have R1:=Iy wr x0 x1 x2 x3 65;have O1:=O.below ((AP _ wr).alloc Bk (.cells (Ziiii x0 x1 x2 x3) 65));have b2:Below w w (wr.alloc (.cells (Ziiii x0 x1 x2 x3) 65)):=Ax;have hz2:=b2.size
   go_wp2_with (at_builtin;refine Aj rfl _ _ 171 rfl 65 4 32 underlying171 DS Ah w.heap.size ⟨HA,hN,hC⟩ _ rfl O1 _ 1 1 (ints [x0,x1,x2,x3]) rfl R1 (Ao _) h63 Ah hz2 ?_;intro G wg hn oG gg hat;have HNG:=Ai hn;clear hn)
   have b3:=b2.grown gg b2.size (fun q e=>by have:=(O1.rowlt q e).1;omega)
   go_roundw
   case rel=>exact⟨hN+1,G,by omega,by go_num,rfl,HNG.out,by rw[HS.out,HF.out,B8];exact oG,b3⟩
   case measure=>simp[intOf];omega
  ·obtain rfl:m=hN:=Aa;have hltI: ¬(m:Int)<(m:Int):=Aa;rw[show ks.take m=ks from ED Aa] at O;have HR:=Ai O.rd;clear O;go_wp2;go_ret;exact⟨⟨HA,m,hC⟩,rfl,rfl,HR.out,b⟩
theorem On (R L M:Int) (A:Option Addr) (n c i:Nat) (ys:List Int) (w:World) (hv:BJ ys n=true) (hi:i<n) (hR:0≤R∧R≤10000) (hr:Rd w A (n*4) (ints ys)):
  Calls prog 364 #[Ziii R L M,.slice A n c,ZI i] w fun e w'=> ∃h:Hd,e=.returned (.slice h.A h.n h.c)∧h.n=(nrL ys R i n).length∧Rd w' h.A h.n (Dv (nrL ys R i n))∧Below w w w':=by
 have hn200:n≤200:=Ft;have bi:=Fd hv hi;have HV:=Ai hv;have hiI:(i:Int)<(n:Int):=Aa;have b0:Below w w (w.alloc (.cells (Ziii R L M) 178)):=Ax;have KR:=Br w 178 (Ziii R L M);obtain⟨ad,hA,-⟩:=hr.fourS hi;subst hA
 have HRD:Hid (∀k,k<n→ ∀V,Below w w V→V.cell? (ad.add (k*4))=ZS (ys.getD (k*4) 0)∧V.cell? ⟨(ad.add (k*4)).block,(ad.add (k*4)).off+1,none⟩=ZS (ys.getD (k*4+1) 0)∧V.cell? ⟨(ad.add (k*4)).block,(ad.add (k*4)).off+2,none⟩=ZS (ys.getD (k*4+2) 0)∧V.cell? ⟨(ad.add (k*4)).block,(ad.add (k*4)).off+3,none⟩=ZS (ys.getD (k*4+3) 0)):=fun k hk V b=>by
  obtain⟨_,hA',h⟩:=(hr.below b).fourS hk
  cases hA'
  exact h
 clear hv hr
 go_enter func364,ntmps364
 go_upto_region 2 with fail
 generalize w.alloc _=w0 at b0 KR⊢
 go_wp2_with fail
 go_loopw [7,12] (fun v j wr=> ∃(k:Nat) (h:Hd),k≤n∧j=.int .i64 k∧v=.slice h.A h.n h.c∧h.n=(nrL ys R i k).length∧AR wr (w.heap.size+1) 1 h (Dv (nrL ys R i k))∧Blk wr w.heap.size 178 (Ziii R L M)∧Below w w wr) (fun _ j _=>n-(intOf j).toNat)
 case atStart=>exact⟨0,⟨none,0,0⟩,AZ _,rfl,rfl,rfl,AR.nil _ _ _,KR,b0⟩
 case round=>
  clear b0 KR;obtain⟨k,⟨HA,hN,hC⟩,hk,rfl,rfl,hh,O,KR,b⟩:=hrel;simp only at hh;have HHN:=Ai hh;clear hh
  by_cases hlt:k<n
  ·have hltI:(k:Int)<(n:Int):=Aa;have hnr:=LU ys R i k;have h63:hN+1≤1099511627776:=by have:=HHN.out;omega
   have bk:=Fd HV.out hlt;have hck:=HRD.out k hlt wr b;have HS:Hid (nrL ys R i (k+1)=if fl ys R i k=true then nrL ys R i k++ [k] else nrL ys R i k):=rfl;have HB:Hid (fl ys R i k=(!decide (k=i) && decide ((ys.getD (i*4) 0-ys.getD (k*4) 0)*(ys.getD (i*4) 0-ys.getD (k*4) 0)+(ys.getD (i*4+1) 0-ys.getD (k*4+1) 0)*(ys.getD (i*4+1) 0-ys.getD (k*4+1) 0)≤R*R))):=rfl;have HRDi:=HRD.out i hi;clear hnr;generalize ys.getD (k*4) 0=x0 at*;generalize ys.getD (k*4+1) 0=x1 at*;generalize ys.getD (k*4+2) 0=x2 at*;generalize ys.getD (k*4+3) 0=x3 at*;generalize ys.getD (i*4) 0=y0 at*;generalize ys.getD (i*4+1) 0=y1 at*;generalize ys.getD (i*4+2) 0=y2 at*;generalize ys.getD (i*4+3) 0=y3 at*;obtain⟨k0,k1,k2,k3⟩:=hck;have hzb:=b.size;have KS:=Br wr 65 (Ziiii x0 x1 x2 x3);have al:Below wr wr (wr.alloc (.cells (Ziiii x0 x1 x2 x3) 65)):=BU;have b1:=b.trans (al.mono hzb);have O1:=O.below al;have KR1:=KR.below al KR.lt
   go_upto_region 5 with fail
   generalize wr.alloc _=w2 at KS O1 KR1 b1⊢;generalize wr.heap.size=q2 at KS⊢;clear k0 k1 k2 k3 al b O KR hzb;obtain⟨i0,i1,i2,i3⟩:=HRDi w2 b1
   by_cases hki:k=i
   ·have HW:Hid (nrL ys R i (k+1)=nrL ys R i k):=by unfold Hid;rw[HS.out,HB.out,BC hki];rfl
    go_quiet (fail)
    revert nq;intro nq;go_wp2
    go_roundw
    case rel=>exact⟨k+1,⟨HA,hN,hC⟩,by omega,by go_num,rfl,by rw[HW.out];exact HHN.out,by rw[HW.out];exact O1.below (BW w2 nq),KR1.below (BW w2 nq) KR1.lt,Ba b1 nq⟩
    case measure=>simp[intOf];omega
   ·have c3:((k:Int) !=(i:Int))=true:=QV;have HNE:=fun W=>Vp x0 x1 x2 x3 y0 y1 R W bk.1 bk.2.1 bi.1 bi.2.1 hR
    by_cases hd:(y0-x0)*(y0-x0)+(y1-x1)*(y1-x1)≤R*R
    ·have HW:Hid (nrL ys R i (k+1)=nrL ys R i k++ [k]):=by unfold Hid;rw[HS.out,HB.out,BR hki,BC hd];rfl
     rw[BC hd] at HNE;have HI':=fun(V:World) (c:Below w2 w2 V)=>HRDi V (An b1 c);clear HRDi;have eS: ∀o,w2.cell? ⟨q2,o,none⟩=((Ziiii x0 x1 x2 x3):Array Value)[o]? :=KS.cell;have eR: ∀o,w2.cell? ⟨w,o,none⟩=((Ziii R L M):Array Value)[o]? :=KR1.cell
     go_region_held3 (fun w'=>(∀o,w'.cell? ⟨q2,o,none⟩=((Ziiii x0 x1 x2 x3):Array Value)[o]?)∧(∀o,w'.cell? ⟨w,o,none⟩=((Ziii R L M):Array Value)[o]?)∧w'.cell? (ad.add (i*4))=ZS y0∧w'.cell? ⟨(ad.add (i*4)).block,(ad.add (i*4)).off+1,none⟩=ZS y1)
      (exact Wz)
      (first|((fail_if_success (clear hbu0));go_at_call 377;refine(HNE _).mono ?_;rintro e u0 ⟨rfl,bu0⟩;have hbu0:Below w2 w2 u0:=(show Below w2 w2 _ from Ax).trans (bu0.mono C9);have hzu0:=hbu0.size;have hxu0:=bu0.size;(try simp at hxu0);have eSu0: ∀o,u0.cell? ⟨q2,o,none⟩=((Ziiii x0 x1 x2 x3):Array Value)[o]? :=fun o=>(KS.below hbu0 KS.lt).cell o;have gSu0:q2<u0:=(KS.below hbu0 KS.lt).lt;have eRu0: ∀o,u0.cell? ⟨w,o,none⟩=((Ziii R L M):Array Value)[o]? :=fun o=>(KR1.below hbu0 KR1.lt).cell o;have gRu0:w<u0.heap.size:=(KR1.below hbu0 KR1.lt).lt))
     all_goals
      have b2:=An b1 hbu0;have hz2:=b2.size;have O2:=O1.below hbu0;have KR2:=KR1.below hbu0 KR1.lt;have R3:=BD u0 (k:Int) 2;have al2:Below u0 u0 (u0.alloc (.cells #[ZI k] 2)):=BU;have O3:=O2.below al2;have KR3:=KR2.below al2 KR2.lt;have b3:=b2.trans (al2.mono hz2);have hz3:w+1≤(u0.alloc (.cells #[ZI k] 2)).heap.size:=KR3.lt
      go_wp2_with (at_builtin;refine Aj rfl _ _ 28 rfl 2 1 8 underlying28 AJ Ah (w.heap.size+1) ⟨HA,hN,hC⟩ _ rfl O3 _ 1 1 (ints [(k:Int)]) rfl R3 (Ao _) h63 Ah hz3 ?_;intro G wg hn oG gg hat;have HNG:=Ai hn;clear hn)
      have hrl:=O3.rowlt;have b4:=b3.grown gg b3.size (fun q e=>by have:=(hrl q e).1;omega)
      have KR4:=KR3.grown gg (fun e=>by have:=(hrl _ e).1;omega)
      go_roundw
      case rel=>exact⟨k+1,G,by omega,by go_num,rfl,by rw[HW.out,HNG.out,Dy,HHN.out];rfl,by rw[HW.out,FW];exact oG,KR4,b4⟩
      case measure=>simp[intOf];omega
    ·have HW:Hid (nrL ys R i (k+1)=nrL ys R i k):=by unfold Hid;rw[HS.out,HB.out,BR hki,BR hd];rfl
     rw[BR hd] at HNE;have HI':=fun(V:World) (c:Below w2 w2 V)=>HRDi V (An b1 c);clear HRDi;have eS: ∀o,w2.cell? ⟨q2,o,none⟩=((Ziiii x0 x1 x2 x3):Array Value)[o]? :=KS.cell;have eR: ∀o,w2.cell? ⟨w,o,none⟩=((Ziii R L M):Array Value)[o]? :=KR1.cell
     go_region_held3 (fun w'=>(∀o,w'.cell? ⟨q2,o,none⟩=((Ziiii x0 x1 x2 x3):Array Value)[o]?)∧(∀o,w'.cell? ⟨w,o,none⟩=((Ziii R L M):Array Value)[o]?)∧w'.cell? (ad.add (i*4))=ZS y0∧w'.cell? ⟨(ad.add (i*4)).block,(ad.add (i*4)).off+1,none⟩=ZS y1)
      (exact Wz)
      (first|((fail_if_success (clear hbu0));go_at_call 377;refine(HNE _).mono ?_;rintro e u0 ⟨rfl,bu0⟩;have hbu0:Below w2 w2 u0:=(show Below w2 w2 _ from Ax).trans (bu0.mono C9);have hzu0:=hbu0.size;have hxu0:=bu0.size;(try simp at hxu0);have eSu0: ∀o,u0.cell? ⟨q2,o,none⟩=((Ziiii x0 x1 x2 x3):Array Value)[o]? :=fun o=>(KS.below hbu0 KS.lt).cell o;have gSu0:q2<u0:=(KS.below hbu0 KS.lt).lt;have eRu0: ∀o,u0.cell? ⟨w,o,none⟩=((Ziii R L M):Array Value)[o]? :=fun o=>(KR1.below hbu0 KR1.lt).cell o;have gRu0:w<u0.heap.size:=(KR1.below hbu0 KR1.lt).lt))
     all_goals
      have b2:=An b1 hbu0;have O2:=O1.below hbu0;have KR2:=KR1.below hbu0 KR1.lt;go_wp2
      go_roundw
      case rel=>exact⟨k+1,⟨HA,hN,hC⟩,by omega,by go_num,rfl,by rw[HW.out];exact HHN.out,by rw[HW.out];exact O2,KR2,b2⟩
      case measure=>simp[intOf];omega
  ·obtain rfl:n=k:=Aa;have hltI: ¬(n:Int)<(n:Int):=Aa;have HR:=Ai O.rd1;clear O;go_wp2;go_ret;exact⟨⟨HA,hN,hC⟩,rfl,HHN.out,HR.out,b⟩
theorem Xs (a b c d R L M:Int) (g:Nat) (t:TypeId) (w:World) (K:Blk w g t (Ziii R L M)) (hM:0≤M∧M≤1000000) (hd: -2000000≤d∧d≤2000000):
  (BT 348 #[Zii a b,Zii c d,.pointer (some ⟨g,0,none⟩)] w (.bool (decide (d+M<a))):Prop):=by
 have u1:=Bg (d+M);have b0:Below w w ((w.alloc (.cells (Zii a b) 136)).alloc (.cells (Zii c d) 136)):=Ax;have K1:=(K.alloc (.cells (Zii a b) 136)).alloc (.cells (Zii c d) 136);have KX:=(Br w 136 (Zii a b)).alloc (.cells (Zii c d) 136);have KY:=Blk.newN (g:=w+1) (w.alloc (.cells (Zii a b) 136)) 136 (Zii c d) Cr
 go_enter func348,ntmps348
 go_upto_region 1 with fail
 generalize(w.alloc _).alloc _=w1 at*;have e1:=K1.cell;have eX:=KX.cell;have eY:=KY.cell;go_wp2;go_ret;exact⟨rfl,b0⟩
theorem Wi (R L M:Int) (A:Option Addr) (n c i k:Nat) (ys:List Int) (gA gL gI gR:Nat) (tA tL tI tR:TypeId) (w:World) (hv:BJ ys n=true) (hi:i<n) (hk:k<n) (hik:k≠i) (hM:0≤M∧M≤1000000) (hr:Rd w A (n*4) (ints ys))
  (KA:Blk w gA tA #[.func (.func 348) #[] #[.pointer (some ⟨gR,0,none⟩)]]) (KL:Blk w gL tL #[.slice A n c]) (KI:Blk w gI tI #[ZI i]) (KR:Blk w gR tR (Ziii R L M)):
  (BT 366 #[ZI k,.pointer (some ⟨gA,0,none⟩),.pointer (some ⟨gL,0,none⟩),.pointer (some ⟨gI,0,none⟩)] w (.bool (!(apB ys M i k))):Prop):=by
 have bi:=Fd hv hi;have bk:=Fd hv hk;obtain⟨ad,hA,-⟩:=hr.fourS hi;subst hA;have HAP:Hid (apB ys M i k=decide (ys.getD (k*4+2) 0+ys.getD (k*4+3) 0+M<ys.getD (i*4+2) 0-ys.getD (i*4+3) 0)):=rfl
 have HK: ∀V,Below w w V→(V.cell? ⟨gA,0,none⟩=some (.func (.func 348) #[] #[.pointer (some ⟨gR,0,none⟩)]))∧(V.cell? ⟨gL,0,none⟩=some (.slice (some ad) n c))∧(V.cell? ⟨gI,0,none⟩=ZS i)∧V.cell? (ad.add (i*4))=ZS (ys.getD (i*4) 0)∧V.cell? ⟨(ad.add (i*4)).block,(ad.add (i*4)).off+1,none⟩=ZS (ys.getD (i*4+1) 0)∧V.cell? ⟨(ad.add (i*4)).block,(ad.add (i*4)).off+2,none⟩=ZS (ys.getD (i*4+2) 0)∧V.cell? ⟨(ad.add (i*4)).block,(ad.add (i*4)).off+3,none⟩=ZS (ys.getD (i*4+3) 0)∧V.cell? (ad.add (k*4))=ZS (ys.getD (k*4) 0)∧V.cell? ⟨(ad.add (k*4)).block,(ad.add (k*4)).off+1,none⟩=ZS (ys.getD (k*4+1) 0)∧V.cell? ⟨(ad.add (k*4)).block,(ad.add (k*4)).off+2,none⟩=ZS (ys.getD (k*4+2) 0)∧V.cell? ⟨(ad.add (k*4)).block,(ad.add (k*4)).off+3,none⟩=ZS (ys.getD (k*4+3) 0):=fun V b=>by
  obtain⟨_,h1,x0,x1,x2,x3⟩:=(hr.below b).fourS hi;obtain⟨_,h2,y0,y1,y2,y3⟩:=(hr.below b).fourS hk
  cases h1
  cases h2
  exact⟨(KA.below b KA.lt).cell 0,(KL.below b KL.lt).cell 0,(KI.below b KI.lt).cell 0,x0,x1,x2,x3,y0,y1,y2,y3⟩
 have HAPC:=fun(a b c d:Int) (W:World) (bb:Below w w W) (hd: -2000000≤d∧d≤2000000)=>Xs a b c d R L M gR tR W (KR.below bb KR.lt) hM hd;clear hr KA KL KI KR hv;generalize ys.getD (k*4) 0=x1 at*;generalize ys.getD (k*4+1) 0=y1 at*;generalize ys.getD (k*4+2) 0=d1 at*;generalize ys.getD (k*4+3) 0=r1 at*;have HB1:=fun W=>CW x1 y1 d1 r1 W bk.2.2.1.1 bk.2.2.1.2 bk.2.2.2.1 bk.2.2.2.2;generalize ys.getD (i*4) 0=x2 at*;generalize ys.getD (i*4+1) 0=y2 at*;generalize ys.getD (i*4+2) 0=d2 at*;generalize ys.getD (i*4+3) 0=r2 at*;have HB2:=fun W=>CW x2 y2 d2 r2 W bi.2.2.1.1 bi.2.2.1.2 bi.2.2.2.1 bi.2.2.2.2;have HA3:=fun(W:World) (bb:Below w w W)=>HAPC (d2-r2) (d2+r2) (d1-r1) (d1+r1) W bb Aa;have hiI:(i:Int)<(n:Int):=Aa;have hkI:(k:Int)<(n:Int):=Aa;obtain⟨f1,f2,f3,f4,f5,f6,f7,f8,f9,f10,f11⟩:=HK w E9;clear HAPC bi bk
 go_enter func366,ntmps366
 go_upto_region 1 with fail
 go_region_held3 (fun V=>(V.cell? ⟨gA,0,none⟩=some (.func (.func 348) #[] #[.pointer (some ⟨gR,0,none⟩)]))∧(V.cell? ⟨gL,0,none⟩=some (.slice (some ad) n c))∧(V.cell? ⟨gI,0,none⟩=ZS i)∧V.cell? (ad.add (i*4))=ZS x2∧V.cell? ⟨(ad.add (i*4)).block,(ad.add (i*4)).off+1,none⟩=ZS y2∧V.cell? ⟨(ad.add (i*4)).block,(ad.add (i*4)).off+2,none⟩=ZS d2∧V.cell? ⟨(ad.add (i*4)).block,(ad.add (i*4)).off+3,none⟩=ZS r2∧V.cell? (ad.add (k*4))=ZS x1∧V.cell? ⟨(ad.add (k*4)).block,(ad.add (k*4)).off+1,none⟩=ZS y1∧V.cell? ⟨(ad.add (k*4)).block,(ad.add (k*4)).off+2,none⟩=ZS d1∧V.cell? ⟨(ad.add (k*4)).block,(ad.add (k*4)).off+3,none⟩=ZS r1)
  (first|(exact HK _ Ax))
  (first
   |((fail_if_success (clear hbu0));go_at_call 232;(with_reducible refine(HB2 _).mono ?_);rintro e u0 ⟨rfl,bu0⟩;have hbu0:Below w w u0:=(show Below w w _ from Ax).trans (bu0.mono C9);have hzu0:=hbu0.size;have hxu0:=bu0.size;(try simp at hxu0))
   |((fail_if_success (clear hbu1));go_at_call 232;(with_reducible refine(HB1 _).mono ?_);rintro e u1 ⟨rfl,bu1⟩;have hbu1:Below w w u1:=(show Below w w _ from Ax).trans (bu1.mono C9);have hzu1:=hbu1.size;have hxu1:=bu1.size;(try simp at hxu1))
   |((fail_if_success (clear hbu2));go_at_call 348;(with_reducible refine(HA3 _ Ax).mono ?_);rintro e u2 ⟨rfl,bu2⟩;have hbu2:Below w w u2:=(show Below w w _ from Ax).trans (bu2.mono C9);have hzu2:=hbu2.size;have hxu2:=bu2.size;(try simp at hxu2)))
 all_goals
  clear HK HB1 HB2 HA3;go_wp2;go_ret;exact⟨Af (by rw[HAP.out]),hbu2⟩
theorem VN (ys:List Int) (R:Int) (i:Nat): ∀n,∀k∈nrL ys R i n,k≠i
 |0,_,h=>by cases h
 |n+1,k,h=>by
  unfold nrL at h
  split at h
  ·next c=>
   rw[List.mem_append] at h;rcases h with h|h
   ·exact VN ys R i n k h
   ·rw[DD] at h;subst h;intro e;subst e;unfold fl at c;rw[BC (show k=k from rfl)] at c;exact absurd c (by rw[Bool.not_true,Bool.false_and];decide)
  ·exact VN ys R i n k h
theorem bF {f:Nat→Bool} {ks:List Nat} {k:Nat} (hk:k<ks.length) (h:f (ks.getD k 0)=false):ks.all f=false:=by
 rw[List.all_eq_false];refine⟨ks.getD k 0,?_,by rw[h];decide⟩
 rw[DE,Db hk];exact EH _
theorem aH {f:Nat→Bool} {ks:List Nat} {k:Nat} (hk:k<ks.length) (h:(ks.take k).all f=true) (h2:f (ks.getD k 0)=true):(ks.take (k+1)).all f=true:=by
 rw[List.take_succ_eq_append_getElem hk,List.all_append,h,Ha];rw[DE,Db hk] at h2
 simpa using h2
theorem Il {ks:List Nat} {k:Nat} (hk:k<ks.length):ks.getD k 0∈ks:=by
 rw[DE,Db hk];exact EH _
theorem Tv (R L M:Int) (A B:Option Addr) (n c m d i:Nat) (ys:List Int) (ks:List Nat) (gA gL gI gR:Nat) (tA tL tI tR:TypeId) (w:World) (hv:BJ ys n=true) (hi:i<n) (hM:0≤M∧M≤1000000) (hm:m≤200) (hl:ks.length=m) (hin: ∀k∈ks,k<n) (hne: ∀k∈ks,k≠i) (hr:Rd w A (n*4) (ints ys)) (hk:Rd w B m (Dv ks))
  (KA:Blk w gA tA #[.func (.func 348) #[] #[.pointer (some ⟨gR,0,none⟩)]]) (KL:Blk w gL tL #[.slice A n c]) (KI:Blk w gI tI #[ZI i]) (KR:Blk w gR tR (Ziii R L M)):
  Calls prog 378 #[.slice B m d,.func (.func 366) #[] #[.pointer (some ⟨gA,0,none⟩),.pointer (some ⟨gL,0,none⟩),.pointer (some ⟨gI,0,none⟩)]] w fun e w'=> ∃v:Int,e=.returned (ZI v)∧(decide (v ≥ 0))=(!(ks.all (apB ys M i)))∧Below w w w':=by
 have HL:=Ai hl;have HIN:=Ai hin;have HNE:=Ai hne;have HC:=fun(k:Nat) (h:k<n) (hh:k≠i) (W:World) (b:Below w w W)=>Wi R L M A n c i k ys gA gL gI gR tA tL tI tR W hv hi h hh hM (hr.below b) (KA.below b KA.lt) (KL.below b KL.lt) (KI.below b KI.lt) (KR.below b KR.lt);have HR:=fun(W:World) (b:Below w w W)=>hk.below b;clear hl hin hne hv hr KA KL KI KR hk
 go_enter func378,ntmps378
 go_wp2
 go_loopw [8] (fun v wr=> ∃k:Nat,k≤m∧v=.int .i64 k∧(ks.take k).all (apB ys M i)=true∧Below w w wr)
  (fun i _=>m-(intOf i).toNat)
 case atStart=>exact⟨0,AZ _,rfl,rfl,AP _ _⟩
 case round=>
  obtain⟨k,hkm,rfl,hall,hbel⟩:=hrel;have HA:=Ai hall;clear hall
  by_cases hlt:k<m
  ·obtain⟨bd,rfl,hx⟩:=(HR wr hbel).nat hlt HL.out;have hm1:=Il (ks:=ks) (k:=k) (by rw[HL.out];exact hlt)
   have HC1:=HC (ks.getD k 0) (HIN.out _ hm1) (HNE.out _ hm1);have HS:Hid (apB ys M i (ks.getD k 0)=true→(ks.take (k+1)).all (apB ys M i)=true):=fun h=>aH (by rw[HL.out];exact hlt) HA.out h
   have HF:Hid (apB ys M i (ks.getD k 0)=false→ks.all (apB ys M i)=false):=fun h=>bF (by rw[HL.out];exact hlt) h
   have hi0:(0:Int)≤(k:Int):=Aa;have hi1:(k:Int)<(m:Int):=Aa;clear hm1 HC;generalize ks.getD k 0=kk at*;rcases BA (apB ys M i kk) with h|h
   ·have HH:=Ai h;clear h
    go_wp2_with fail
    refine(HC1 _ hbel).mono ?_;rw[HH.out];rintro e w1 ⟨rfl,b1⟩;have b2:=An hbel b1;go_wp2
    go_roundw
    case rel=>exact⟨k+1,by omega,by go_num,HS.out HH.out,b2⟩
    case measure=>simp[intOf];omega
   ·have HH:=Ai h;clear h
    go_wp2_with fail
    refine(HC1 _ hbel).mono ?_;rw[HH.out];rintro e w1 ⟨rfl,b1⟩;have b2:=An hbel b1;go_wp2;go_ret;exact⟨k,rfl,by rw[HF.out HH.out];simp,b2⟩
  ·obtain rfl:k=m:=Aa;have HT:Hid (ks.all (apB ys M i)=true):=by have:=HA.out;rw[←HL.out,List.take_length] at this;exact this
   go_wp2;go_ret;exact⟨-1,rfl,by rw[HT.out];rfl,hbel⟩
theorem NQ (R L M:Int) (A B:Option Addr) (n c m d i:Nat) (ys:List Int) (ks:List Nat) (gA gL gI gR:Nat) (tA tL tI tR:TypeId) (w:World) (hv:BJ ys n=true) (hi:i<n) (hM:0≤M∧M≤1000000) (hm:m≤200) (hl:ks.length=m) (hin: ∀k∈ks,k<n) (hne: ∀k∈ks,k≠i) (hr:Rd w A (n*4) (ints ys)) (hk:Rd w B m (Dv ks))
  (KA:Blk w gA tA #[.func (.func 348) #[] #[.pointer (some ⟨gR,0,none⟩)]]) (KL:Blk w gL tL #[.slice A n c]) (KI:Blk w gI tI #[ZI i]) (KR:Blk w gR tR (Ziii R L M)):
  (BT 365 #[.slice B m d,.func (.func 366) #[] #[.pointer (some ⟨gA,0,none⟩),.pointer (some ⟨gL,0,none⟩),.pointer (some ⟨gI,0,none⟩)]] w (.bool (!(ks.all (apB ys M i)))):Prop):=by
 have HI:=Tv R L M A B n c m d i ys ks gA gL gI gR tA tL tI tR w hv hi hM hm hl hin hne hr hk KA KL KI KR;clear hv hl hin hne hr hk KA KL KI KR
 go_enter func365,ntmps365
 go_wp2_with (go_at_call 378;refine HI.mono ?_;rintro e w' ⟨v,rfl,hv,hb⟩)
 go_ret;exact⟨Af (by rw[←hv]),hb⟩
theorem Tz (R L M:Int) (A:Option Addr) (n c i:Nat) (ys:List Int) (gR:Nat) (tR:TypeId) (w:World) (hv:BJ ys n=true) (hi:i<n) (hR:0≤R∧R≤10000) (hM:0≤M∧M≤1000000) (hr:Rd w A (n*4) (ints ys)) (KR:Blk w gR tR (Ziii R L M)):
  (BT 347 #[Ziii R L M,.slice A n c,ZI i,.func (.func 348) #[] #[.pointer (some ⟨gR,0,none⟩)]] w (.bool (Rl ys n R L M i)):Prop):=by
 have hn200:n≤200:=Ft;have HV:=Ai hv;have HI:=Ai hi;have HDP:Hid (Rl ys n R L M i=(decide (L≤((nrL ys R i n).length:Int)) && (nrL ys R i n).all (apB ys M i))):=rfl;have b0:Below w w ((((w.alloc (.cells (Ziii R L M) 178)).alloc (.cells #[.slice A n c] 171)).alloc (.cells #[ZI i] 3)).alloc (.cells #[.func (.func 348) #[] #[.pointer (some ⟨gR,0,none⟩)]] 336)):=Ax;have K0:=(((Br w 178 (Ziii R L M)).alloc (.cells #[.slice A n c] 171)).alloc (.cells #[ZI i] 3)).alloc (.cells #[.func (.func 348) #[] #[.pointer (some ⟨gR,0,none⟩)]] 336);have K1:=((Blk.newN (g:=w+1) (w.alloc (.cells (Ziii R L M) 178)) 171 #[.slice A n c] Cr).alloc (.cells #[ZI i] 3)).alloc (.cells #[.func (.func 348) #[] #[.pointer (some ⟨gR,0,none⟩)]] 336);have K2:=(Blk.newN (g:=w.heap.size+2) ((w.alloc (.cells (Ziii R L M) 178)).alloc (.cells #[.slice A n c] 171)) 3 #[ZI i] Cr).alloc (.cells #[.func (.func 348) #[] #[.pointer (some ⟨gR,0,none⟩)]] 336);have K3:=Blk.newN (g:=w.heap.size+3) (((w.alloc (.cells (Ziii R L M) 178)).alloc (.cells #[.slice A n c] 171)).alloc (.cells #[ZI i] 3)) 336 #[.func (.func 348) #[] #[.pointer (some ⟨gR,0,none⟩)]] Cr;clear hv hi
 go_enter func347,ntmps347
 go_upto_region 1 with fail
 generalize(((w.alloc _).alloc _).alloc _).alloc _=w1 at*;have c0:=K0.cell;have c1:=K1.cell;have c2:=K2.cell
 go_upto_region 2 with(go_at_call 364;refine(On R L M A n c i ys w1 HV.out HI.out hR (hr.below b0)).mono ?_;rintro e w2 ⟨⟨B,m,d⟩,rfl,hm,hnb,bu⟩;have HM2:Hid (m=(nrL ys R i n).length):=hm;clear hm)
 have b1:=An b0 bu;have K0':=K0.below bu K0.lt;have K1':=K1.below bu K1.lt;have K2':=K2.below bu K2.lt;have K3':=K3.below bu K3.lt;have KRw:=fun(V:World) (bb:Below w w V)=>KR.below bb KR.lt;have HRw:=fun(V:World) (bb:Below w w V)=>hr.below bb;clear K0 K1 K2 K3 c0 c1 c2 b0 bu hr KR;have hm200:m≤200:=by have:=LU ys R i n;have:=HM2.out;omega
 have e0:=K0'.cell;have HLEN:=fun W=>FQ B m d W Aa
 by_cases hLm:L≤(m:Int)
 ·have hg2:decide (L≤(m:Int))=true:=BC hLm;have HG:=Ai hg2;have HCA:=fun(V:World) (bb:Below w2 w2 V)=>NQ R L M A B n c m d i ys (nrL ys R i n) (w.heap.size+3) (w.heap.size+1) (w.heap.size+2) gR _ _ _ tR V HV.out HI.out hM hm200 HM2.out.symm (LU ys R i n).2 (VN ys R i n) (HRw V (An b1 bb)) (hnb.below bb) (K3'.below bb K3'.lt) (K1'.below bb K1'.lt) (K2'.below bb K2'.lt) (KRw V (An b1 bb));clear HRw KRw hnb K1' K2' K3'
  go_region_held3 (fun w'=> ∀o,w'.cell? ⟨w,o,none⟩=((Ziii R L M):Array Value)[o]?)
   (first|(with_reducible assumption)|((with_reducible refine AC ?_);(with_reducible assumption))|(exact fun o=>(K0'.below Ax K0'.lt).cell o))
   (first
    |((fail_if_success (clear hbu0));go_at_call 74;(with_reducible refine(HLEN _).mono ?_);rintro e u0 ⟨rfl,hu0⟩;have hbu0:Below w2 w2 u0:=hu0▸(show Below w2 w2 _ from Ax);subst hu0)
    |((fail_if_success (clear hbu1));go_at_call 365;(with_reducible refine(HCA _ Ax).mono ?_);rintro e u1 ⟨rfl,bu1⟩;have hbu1:Below w2 w2 u1:=(show Below w2 w2 _ from Ax).trans (bu1.mono C9)))
  all_goals
   clear HCA HLEN;go_wp2;go_ret;exact⟨Af (by rw[HDP.out,←HM2.out,HG.out];simp),(An b1 hbu1)⟩
 ·have hg2:decide (L≤(m:Int))=false:=BR hLm;have HG:=Ai hg2;clear HRw KRw hnb K1' K2' K3';have HQ:=Ai b1;clear b1;have HLQ:=fun W=>(HLEN W).mono fun _ _ h=>(⟨h.1,h.2.symm⟩:_∧_=W);clear HLEN
  go_quiet ((go_at_call 74;exact Calls.quiet_of_same (HLQ _)))
  revert nq;intro nq;go_wp2;go_ret;exact⟨Af (by rw[HDP.out,←HM2.out,HG.out];rfl),Ba HQ.out nq⟩
theorem Vo (R L M:Int) (A:Option Addr) (n c i:Nat) (ys:List Int) (w:World) (hv:BJ ys n=true) (hi:i<n) (hR:0≤R∧R≤10000) (hM:0≤M∧M≤1000000) (hr:Rd w A (n*4) (ints ys)):
  (BT 328 #[Ziii R L M,.slice A n c,ZI i] w (.bool (Rl ys n R L M i)):Prop):=by
 have b0:Below w w (w.alloc (.cells (Ziii R L M) 178)):=Ax;have K:=Br w 178 (Ziii R L M);have HC:=Tz R L M A n c i ys _ _ _ hv hi hR hM (hr.below b0) K;clear hv hi hr
 go_enter func328,ntmps328
 go_upto_region 1 with fail
 generalize w.alloc _=w1 at*;have e0:=K.cell
 go_wp2_with (go_at_call 347;refine HC.mono ?_;rintro e w2 ⟨rfl,b2⟩)
 go_ret;exact⟨rfl,(An b0 b2)⟩
theorem Le (xs:List Int): ∀(ks:List Nat) (i o:Nat),i<ks.length→o<4→(selS xs ks).getD (i*4+o) 0=xs.getD (ks.getD i 0*4+o) 0
 | [],i,o,h,_=>by cases h
 |k::t,0,o,_,ho=>by
  show(Fw xs k++selS xs t).getD (0*4+o) 0=xs.getD (k*4+o) 0;rw[DE,List.getElem?_append_left (by show _<4;omega),Nat.zero_mul,Nat.zero_add]
  match o,ho with
  |0,_=>rfl
  |1,_=>rfl
  |2,_=>rfl
  |3,_=>rfl
 |k::t,i+1,o,h,ho=>by
  show(Fw xs k++selS xs t).getD ((i+1)*4+o) 0=xs.getD (t.getD i 0*4+o) 0;rw[DE,List.getElem?_append_right (by show 4≤_;omega),show(i+1)*4+o-(Fw xs k).length=i*4+o by show(i+1)*4+o-4=_;omega,←DE]
  exact Le xs t i o CB ho
theorem Xc {xs:List Int} {n:Nat} {ks:List Nat} (hv:BJ xs n=true) (hin: ∀k∈ks,k<n) (hl:ks.length≤200):BJ (selS xs ks) ks.length=true:=by
 unfold BJ at hv⊢;rw[CD] at hv⊢;refine⟨?_,by rw[BP];omega⟩
 have h1:=hv.1;unfold Dg at h1⊢;rw[List.all_eq_true] at h1⊢;intro i hi;have hi':=Eo.1 hi;have:=h1 (ks.getD i 0) (Eo.2 (hin _ (Il hi')));unfold Fk at this⊢;have e0:=Le xs ks i 0 hi' Aa;rw[Hb,Hb] at e0;rw[e0,Le xs ks i 1 hi' Aa,Le xs ks i 2 hi' Aa,Le xs ks i 3 hi' Aa];exact this
theorem U9 (R L M:Int) (A B:Option Addr) (n c m d:Nat) (xs:List Int) (ks:List Nat) (w:World) (hv:BJ xs n=true) (hR:0≤R∧R≤10000) (hM:0≤M∧M≤1000000) (hm:m≤200) (hr:Rd w A (n*4) (ints xs)) (hk:Rd w B m (Dv ks)) (hl:ks.length=m) (hin: ∀k∈ks,k<n):
  Calls prog 292 #[Ziii R L M,.slice A n c,.slice B m d] w fun e w'=> ∃h:Hd,e=.returned (.slice h.A h.n h.c)∧h.n=(Cy xs R L M ks).length∧Rd w' h.A h.n (Dv (Cy xs R L M ks))∧Below w w w':=by
 have hn200:n≤200:=Ft;have HV2:=Ai (Xc hv hin Aa);have HL:=Ai hl;have HCO:Hid (Cy xs R L M ks=keepTo (selS xs ks) m R L M ks m):=by unfold Hid Cy;rw[hl]
 rw[hl] at HV2;have b0:Below w w (w.alloc (.cells (Ziii R L M) 178)):=Ax;have K:=Br w 178 (Ziii R L M);have HCH:=NN A B n c m d xs ks _ hn200 hm (hr.below b0) (hk.below b0) hl hin;clear hl hin hv hr
 go_enter func292,ntmps292
 go_upto_region 1 with fail
 generalize w.alloc _=w1 at*
 go_upto_region 2 with(go_at_call 235;refine HCH.mono ?_;rintro e w2 ⟨⟨D,p,q⟩,rfl,hp,hsel,bu⟩)
 obtain rfl:p=m:=hp;have hsel2:Rd w2 D (p*4) (ints (selS xs ks)):=hsel;have b2:=An b0 bu;have K2:=K.below bu K.lt;have hz2:=b2.size;have g2:=K2.lt;clear HCH K b0 bu hsel;generalize selS xs ks=ys at*;go_wp2
 go_loopw [8,16] (fun v j wr=> ∃(k:Nat) (h:Hd),k≤p∧j=.int .i64 k∧v=.slice h.A h.n h.c∧h.n=(keepTo ys p R L M ks k).length∧AR wr w2.heap.size 1 h (Dv (keepTo ys p R L M ks k))∧Below w2 w2 wr) (fun _ j _=>p-(intOf j).toNat)
 case atStart=>exact⟨0,⟨none,0,0⟩,AZ _,rfl,rfl,rfl,AR.nil _ _ _,AP _ _⟩
 case round=>
  obtain⟨k,⟨HA,hN,hC⟩,hkm,rfl,rfl,hh,O,b⟩:=hrel;have HHN:Hid (hN=(keepTo ys p R L M ks k).length):=hh;clear hh
  by_cases hlt:k<p
  ·have hltI:(k:Int)<(p:Int):=Aa;have h63:hN+1≤1099511627776:=by have:=HHN.out;have:=FP ys p R L M ks k;omega
   obtain⟨bd,hB,hc⟩:=(hk.below (b2.trans (b.mono hz2))).nat hlt HL.out;subst hB;have HS:Hid (keepTo ys p R L M ks (k+1)=if Rl ys p R L M k=true then keepTo ys p R L M ks k else keepTo ys p R L M ks k++ [ks.getD k 0]):=rfl;generalize ks.getD k 0=kk at*;have KW:=(K2.below b g2).cell;have HDD:=Vo R L M D p q k ys wr HV2.out hlt hR hM (hsel2.below b);have hzb:=b.size;rcases BA (Rl ys p R L M k) with hd|hd
   ·have HW:Hid (keepTo ys p R L M ks (k+1)=keepTo ys p R L M ks k):=by unfold Hid;rw[HS.out,AA hd]
    rw[hd] at HDD;clear hd
    go_wp2_with (go_at_call 328;refine HDD.mono ?_;rintro e w3 ⟨rfl,b3⟩)
    go_roundw
    case rel=>exact⟨k+1,⟨HA,hN,hC⟩,by omega,by go_num,rfl,by rw[HW.out];exact HHN.out,by rw[HW.out];exact O.below b3,b.trans (b3.mono hzb)⟩
    case measure=>simp[intOf];omega
   ·have HW:Hid (keepTo ys p R L M ks (k+1)=keepTo ys p R L M ks k++ [kk]):=by unfold Hid;rw[HS.out,Ak (by rw[hd];decide)]
    rw[hd] at HDD;clear hd
    go_upto_region 7 with(go_at_call 328;refine HDD.mono ?_;rintro e w3 ⟨rfl,b3⟩)
    have b4:=b.trans (b3.mono hzb);have O3:=O.below b3;clear O b3 b HDD KW hc hzb;have hz3:=b4.size;have R1:=BD w3 (kk:Int) 2;have O1:=O3.below ((AP _ w3).alloc Bk (.cells #[ZI kk] 2));have b5:Below w2 w2 (w3.alloc (.cells #[ZI kk] 2)):=Ax;have hz5:=b5.size
    go_wp2_with (at_builtin;refine Aj rfl _ _ 28 rfl 2 1 8 underlying28 AJ Ah w2.heap.size ⟨HA,hN,hC⟩ _ rfl O1 _ 1 1 (ints [(kk:Int)]) rfl R1 (Ao _) h63 Ah hz5 ?_;intro G wg hn oG gg hat;have HNG:=Ai hn;clear hn)
    have b6:=b5.grown gg b5.size (fun q e=>by have:=(O1.rowlt q e).1;omega)
    go_roundw
    case rel=>exact⟨k+1,G,by omega,by go_num,rfl,by rw[HW.out,Dy];exact HNG.out.trans (by rw[←HHN.out];rfl),by rw[HW.out,FW];exact oG,b6⟩
    case measure=>simp[intOf];omega
  ·obtain rfl:k=p:=Aa;have hltI: ¬(k:Int)<(k:Int):=Aa;have HR:=Ai O.rd1;clear O;go_wp2;go_ret;exact⟨⟨HA,hN,hC⟩,rfl,by rw[HCO.out];exact HHN.out,by rw[HCO.out];exact HR.out,b2.trans (b.mono hz2)⟩
def gw:Value→Nat
 | .slice _ n _=>n
 |_=>0
theorem Zd {xs:List Int} {R L M:Int} {ks:List Nat} (h:(Cy xs R L M ks).length≠ks.length):(Cy xs R L M ks).length<ks.length:=by
 have:=DW xs R L M ks;omega
theorem XC (R L M:Int) (A:Option Addr) (n c:Nat) (xs:List Int) (w:World) (hv:BJ xs n=true) (hR:0≤R∧R≤10000) (hM:0≤M∧M≤1000000) (hr:Rd w A (n*4) (ints xs)):
  Calls prog 234 #[Ziii R L M,.slice A n c] w fun e w'=> ∃(h:Hd) (v:Int),e=.returned (.tuple (Gb h.A h.n h.c v))∧h.n=(LE xs R L M (List.range n)).length∧Rd w' h.A h.n (Dv (LE xs R L M (List.range n)))∧Below w w w':=by
 have hn200:n≤200:=Ft;have HV:=Ai hv;clear hv;have b0:Below w w (w.alloc (.cells (Ziii R L M) 178)):=Ax;have K:=Br w 178 (Ziii R L M);have HRD:=fun(V:World) (b:Below w w V)=>hr.below b;clear hr
 go_enter func234,ntmps234
 go_upto_region 1 with fail
 generalize w.alloc _=w1 at*;have HAL:=bE A n c w1 hn200
 go_upto_region 2 with(go_at_call 291;refine HAL.mono ?_;rintro e w2 ⟨⟨D,p,q⟩,rfl,hp,hall,bu⟩)
 obtain rfl:p=n:=hp;have hall2:Rd w2 D p (Dv (List.range p)):=hall;have b2:=An b0 bu;have K2:=K.below bu K.lt;clear HAL K b0 bu hall;generalize hR0:List.range p=r0 at*;have HR0:Hid (r0.length=p∧ ∀k∈r0,k<p):=by subst hR0;exact⟨List.length_range,fun k hk=>Eo.1 hk⟩
 have HRR:Hid (List.range p=r0):=hR0;clear hR0
 go_loopw [6,7] (fun v cnt wr=> ∃(ks:List Nat) (h:Hd) (j:Int),v=.slice h.A h.n h.c∧cnt=.int .i64 j∧h.n=ks.length∧Rd wr h.A h.n (Dv ks)∧(∀k∈ks,k<p)∧ks.length≤200∧LE xs R L M r0=LE xs R L M ks∧Below w w wr∧Blk wr w.heap.size 178 (Ziii R L M)) (fun v _ _=>gw v)
 case atStart=>exact⟨r0,⟨D,p,q⟩,0,rfl,rfl,HR0.out.1.symm,hall2,HR0.out.2,by have:=HR0.out.1;omega,rfl,b2,K2⟩
 case round=>
  clear b2 K2 hall2;obtain⟨ks,⟨HA,hN,hC⟩,j,rfl,rfl,hh,hk,hin,hks,he,b,KR⟩:=hrel;have HHN:Hid (hN=ks.length):=hh;have HE:=Ai he;have HIN:=Ai hin;have hN2:hN≤200:=by have:=HHN.out;omega
  clear hh he hin;have hk2:Rd wr HA hN (Dv ks):=hk;clear hk;have e0:=KR.cell;have HO:=U9 R L M A HA p c hN hC xs ks wr HV.out hR hM hN2 (HRD wr b) hk2 HHN.out.symm HIN.out
  go_upto_region 3 with(go_at_call 292;refine HO.mono ?_;rintro e w3 ⟨⟨B,m,d⟩,rfl,hm,hnx,bu⟩;have HMN:Hid (m=(Cy xs R L M ks).length):=hm;clear hm)
  have hnx2:Rd w3 B m (Dv (Cy xs R L M ks)):=hnx;have b3:=An b bu;have KR3:=KR.below bu KR.lt;have hk3:=hk2.below bu;clear HO e0 hnx bu b KR hk2;have hm200:m≤200:=by have:=HMN.out;have:=HHN.out;have:=DW xs R L M ks;omega
  by_cases hq:m=hN
  ·have HQ:Hid ((Cy xs R L M ks).length=ks.length):=by rw[←HMN.out,←HHN.out];exact hq
   have HF:Hid (LE xs R L M r0=ks):=HE.out.trans (NP HQ.out);subst hq;go_wp2;refine AS (v:=.tuple (Gb HA m hC j)) (by simp[results,results234,go_sem]) rfl ?_
   exact⟨⟨HA,m,hC⟩,j,rfl,by rw[HRR.out,HF.out];exact HHN.out,by rw[HRR.out,HF.out];exact hk3,b3⟩
  ·have HQ:Hid (¬(Cy xs R L M ks).length=ks.length):=by rw[←HMN.out,←HHN.out];exact hq
   have hlt:m<hN:=by have:=Zd HQ.out;rw[←HMN.out,←HHN.out] at this;exact this
   have c2:((m:Int)==(hN:Int))=false:=E8;go_wp2
   go_roundw
   case rel=>exact⟨Cy xs R L M ks,⟨B,m,d⟩,_,rfl,rfl,HMN.out,hnx2,fun k h=>HIN.out k (Jz k h),by rw[←HMN.out];exact hm200,HE.out.trans (Zc HQ.out),b3,KR3⟩
   case measure=>simp[gw];omega
theorem cW (w:World) (x:Int) (e:TypeId) (g:Nat) (hg:w.heap.size=g):Rd (w.alloc (.cells #[ZI x] e)) (some ⟨g,0,none⟩) 1 (ints [x]):=by
 subst hg;exact BD w x e
theorem N4 (R L M:Int) (w:World):
  (BT 290 #[Ziii R L M] w (.bool (ruB R L M)):Prop):=by
 have HO:=fun(A:Option Addr) (W:World) (r:Rd W A 1 (ints [R]))=>Ir A 1 1 [R] W Aa r;have HL:=fun W=>As L 1 200 W;have HM:=fun W=>As M 0 1000000 W;have HB:Hid (ruB R L M=(inR R 0 10000 && (inR L 1 200 && inR M 0 1000000))):=rfl;have ha:BV [R] 0 10000=inR R 0 10000:=by unfold BV;simp
 rw[ha] at HO;clear ha;have fin: ∀b,ruB R L M=b→ ∀W,Below w w W→(Ending.returned (.bool b)=Ending.returned (.bool (ruB R L M))∧Below w w W):=fun b h W hb=>⟨by rw[h],hb⟩
 have FIN:=Ai fin;clear fin
 rcases BA (inR R 0 10000) with h1|h1<;>rcases BA (inR L 1 200) with h2|h2<;>rcases BA (inR M 0 1000000) with h3|h3<;>(
  rw[h1,h2,h3] at HB;rw[h1] at HO;rw[h2] at HL;rw[h3] at HM;clear h1 h2 h3
  go_enter func290,ntmps290
  go_wp2_with (first|(go_at_call 153;refine(HO _ _ (cW _ _ _ _ (by simp))).mono ?_;rintro e w' ⟨rfl,rfl⟩)|(go_at_call 73;with_reducible refine(HL _).mono ?_;rintro e w' ⟨rfl,rfl⟩)|(go_at_call 73;with_reducible refine(HM _).mono ?_;rintro e w' ⟨rfl,rfl⟩))
  go_ret;exact FIN.out _ HB.out _ Ax)
def Mg (xs:List Int) (n:Nat) (R L M:Int) (w:World) (e:Ending) (w':World):Prop:=
 ∃(h:Hd) (v:Int),e=.returned (.tuple (FK h.A h.n h.c v (Po xs n R L M)))∧h.n=(fk xs n R L M).length∧Below w w w'
theorem Qz {xs:List Int} {n:Nat} {R L M:Int} {w w':World} (hc:Po xs n R L M=1) (hb:Below w w w'):
  Mg xs n R L M w (.returned (.tuple (FK none 0 0 0 1))) w':=
 ⟨⟨none,0,0⟩,0,by rw[hc],by unfold fk;rw[hc];rfl,hb⟩
theorem Uw {xs:List Int} {n m c:Nat} {A:Option Addr} {v R L M:Int} {w w':World} (hc:Po xs n R L M=0) (hm:m=(LE xs R L M (List.range n)).length) (hb:Below w w w'):
  Mg xs n R L M w (.returned (.tuple (FK A m c v 0))) w':=
 ⟨⟨A,m,c⟩,v,by rw[hc],by unfold fk;rw[hc];exact hm,hb⟩
theorem WI {xs:List Int} {R L M:Int} {ks:List Nat}: ∀k∈LE xs R L M ks,k∈ks:=by
 have: ∀f ks,∀k∈clF xs R L M f ks,k∈ks:=by
  intro f
  induction f with
  |zero=>intro ks k h;exact h
  |succ f ih=>
   intro ks k h;unfold clF at h
   split at h
   ·exact h
   ·exact Jz _ (ih _ _ h)
 exact this _ ks
theorem LO (R L M:Int) (A:Option Addr) (n c:Nat) (xs:List Int) (w:World) (hn:n≤1048576) (hr:Rd w A (n*4) (ints xs)):
  (BT 233 #[.slice A n c,Ziii R L M] w (ZI (Po xs n R L M)):Prop):=by
 have b0:Below w w (w.alloc (.cells (Ziii R L M) 178)):=Ax;have K:=Br w 178 (Ziii R L M);have HS:=De A n c xs _ hn (hr.below b0);have HU:=fun W=>N4 R L M W;have HC:Hid (Po xs n R L M=if(BJ xs n && ruB R L M)=true then 0 else 1):=rfl;clear hr;rcases BA (BJ xs n) with h1|h1
 ·rcases BA (ruB R L M) with h2|h2
  ·have HCC:Hid (Po xs n R L M=0):=by unfold Hid;rw[HC.out,h1,h2];rfl
   rw[h1] at HS;rw[h2] at HU;clear h1 h2 HC
   go_enter func233,ntmps233
   go_upto_region 1 with fail
   generalize w.alloc _=w1 at*
   go_wp2_with (first|(go_at_call 231;with_reducible refine HS.mono ?_;rintro e w2 ⟨rfl,b2⟩;have e0:=fun o=>(K.below b2 K.lt).cell o;have b3:=An b0 b2;have hz3:=b3.size;clear b2)|(go_at_call 290;with_reducible refine(HU _).mono ?_;rintro e w4 ⟨rfl,b4⟩;have b5:=b3.trans (b4.mono hz3)))
   go_ret;exact⟨by rw[HCC.out];rfl,b5⟩
  ·have HCC:Hid (Po xs n R L M=1):=by unfold Hid;rw[HC.out,h1,h2];rfl
   rw[h1] at HS;rw[h2] at HU;clear h1 h2 HC
   go_enter func233,ntmps233
   go_upto_region 1 with fail
   generalize w.alloc _=w1 at*
   go_wp2_with (first|(go_at_call 231;with_reducible refine HS.mono ?_;rintro e w2 ⟨rfl,b2⟩;have e0:=fun o=>(K.below b2 K.lt).cell o;have b3:=An b0 b2;have hz3:=b3.size;clear b2)|(go_at_call 290;with_reducible refine(HU _).mono ?_;rintro e w4 ⟨rfl,b4⟩;have b5:=b3.trans (b4.mono hz3)))
   go_ret;exact⟨by rw[HCC.out];rfl,b5⟩
 ·have HCC:Hid (Po xs n R L M=1):=by unfold Hid;rw[HC.out,h1];rfl
  rw[h1] at HS;clear h1 HC HU
  go_enter func233,ntmps233
  go_upto_region 1 with fail
  generalize w.alloc _=w1 at*
  go_wp2_with (go_at_call 231;with_reducible refine HS.mono ?_;rintro e w2 ⟨rfl,b2⟩;have b3:=(An b0 b2))
  go_ret;exact⟨by rw[HCC.out];rfl,b3⟩
theorem PJ (R L M:Int) (A:Option Addr) (n c:Nat) (xs:List Int) (w:World) (hn:n≤1048576) (hr:Rd w A (n*4) (ints xs)):
  Calls prog 188 #[.slice A n c,Ziii R L M] w (Mg xs n R L M w):=by
 have b0:Below w w (w.alloc (.cells (Ziii R L M) 178)):=Ax;have K:=Br w 178 (Ziii R L M);have HRC:=LO R L M A n c xs _ hn (hr.below b0);have HRD:=fun(V:World) (b:Below w w V)=>hr.below b;clear hr
 by_cases h:(BJ xs n && ruB R L M)=true
 ·have HCC:Hid (Po xs n R L M=0):=AA h;rw[CD] at h;have HS:=Ai h.1;have hru:=h.2;unfold ruB at hru;rw[CD,CD] at hru;have hR:=Ac hru.1;have hM:=Ac hru.2.2;have hn200:n≤200:=by have:=HS.out;unfold BJ at this;rw[CD,BP] at this;omega
  clear h hru;rw[HCC.out] at HRC;generalize hRET:Mg xs n R L M w=RET
  have HRET:Hid (∀(B:Option Addr) (m d:Nat) (v:Int) (V:World),m=(LE xs R L M (List.range n)).length→Below w w V→RET (.returned (.tuple (FK B m d v 0))) V):=by
   subst hRET;exact fun B m d v V hm hb=>Uw HCC.out hm hb
  clear hRET
  go_enter func188,ntmps188
  go_upto_region 1 with fail
  generalize w.alloc _=w1 at*;have e0:=K.cell
  go_upto_region 4 with(go_at_call 233;refine HRC.mono ?_;rintro e w2 ⟨rfl,b2⟩;have K2:=K.below b2 K.lt;have b3:=An b0 b2;clear b2)
  have hz3:=b3.size;have e2:=K2.cell;clear e0 HRC K b0
  go_upto_region 5 with(go_at_call 234;refine(XC R L M A n c xs _ HS.out hR hM (HRD _ b3)).mono ?_;rintro e w4 ⟨⟨B,m,d⟩,v,rfl,hm,hrd,b4⟩;have HM:Hid (m=(LE xs R L M (List.range n)).length):=hm;clear hm)
  have b5:=b3.trans (b4.mono hz3);have hm200:m≤200:=by have h:=M8 xs R L M (List.range n);rw[List.length_range] at h;have:=HM.out;omega
  have HCH:=NN A B n c m d xs (LE xs R L M (List.range n)) w4 hn200 hm200 (HRD _ b5) hrd HM.out.symm (fun k h=>Eo.1 (WI k h))
  go_wp2_with (go_at_call 235;refine HCH.mono ?_;rintro e w6 ⟨⟨D,p,q⟩,rfl,hp,-,b6⟩;have HP:Hid (p=m):=hp;clear hp)
  refine AS (v:=.tuple (FK D p q v 0)) (by simp[results,results188,go_sem]) rfl ?_
  exact HRET.out _ _ _ _ _ (HP.out.trans HM.out) (An b5 b6)
 ·have HCC:Hid (Po xs n R L M=1):=Ak h;clear h;rw[HCC.out] at HRC;generalize hRET:Mg xs n R L M w=RET
  have HRET:Hid (∀(V:World),Below w w V→RET (.returned (.tuple (FK none 0 0 0 1))) V):=by
   subst hRET;exact fun V hb=>Qz HCC.out hb
  clear hRET
  go_enter func188,ntmps188
  go_upto_region 1 with fail
  generalize w.alloc _=w1 at*;have e0:=K.cell
  go_wp2_with (go_at_call 233;refine HRC.mono ?_;rintro e w2 ⟨rfl,b2⟩;have b3:=(An b0 b2))
  refine AS (v:=.tuple (FK none 0 0 0 1)) (by simp[results,results188,go_sem]) rfl ?_
  exact HRET.out _ b3
theorem PS (a b c d R:Int) (w:World) (ha:0≤a∧a≤10000) (hb:0≤b∧b≤10000) (hc:0≤c∧c≤10000) (hd:0≤d∧d≤10000) (hR:0≤R∧R≤10000):
  (YC 335 #[ZI a,ZI b,ZI c,ZI d,ZI R] w (.bool (decide ((a-c)*(a-c)+(b-d)*(b-d)≤R*R))):Prop):=by
 have q1:=Mb (a:=a-c) (M:=10000) Aa Aa Ah;have q2:=Mb (a:=b-d) (M:=10000) Aa Aa Ah;have q3:=Mb (a:=R) (M:=10000) Aa hR.2 Ah;have u1:=Bg (a-c);have u2:=Bg (b-d);have u3:=Bg ((a-c)*(a-c));have u4:=Bg ((b-d)*(b-d));have u5:=Bg ((a-c)*(a-c)+(b-d)*(b-d));have u6:=Bg (R*R);clear q1 q2 q3 ha hb hc hd hR
 go_enter func335,ntmps335
 go_wp2;go_ret;exact⟨rfl,rfl⟩
theorem TK (R L M:Int) (A:Option Addr) (n c i:Nat) (ys:List Int) (w:World) (hv:BJ ys n=true) (hi:i<n) (hR:0≤R∧R≤10000) (hr:Rd w A (n*4) (ints ys)):
  Calls prog 310 #[.slice A n c,Ziii R L M,ZI i] w fun e w'=> ∃h:Hd,e=.returned (.slice h.A h.n h.c)∧h.n=(nrL ys R i n).length∧Rd w' h.A h.n (Dv (nrL ys R i n))∧Below w w w':=by
 have hn200:n≤200:=Ft;have bi:=Fd hv hi;have HV:=Ai hv;have hiI:(i:Int)<(n:Int):=Aa;have b00:Below w w (w.alloc (.cells (Ziii R L M) 178)):=Ax;have b0:Below w w ((w.alloc (.cells (Ziii R L M) 178)).alloc (.cells #[] 2)):=Ax;have KR:=(Br w 178 (Ziii R L M)).alloc (.cells #[] 2);have O0:AR ((w.alloc (.cells (Ziii R L M) 178)).alloc (.cells #[] 2)) (w.heap.size+1) 1 ⟨some ⟨w+1,0,none⟩,0,0⟩ (Dv []):=AR.empty _ _ _ _;obtain⟨ad,hA,-⟩:=hr.fourS hi;subst hA
 have HRD:Hid (∀k,k<n→ ∀V,Below w w V→V.cell? (ad.add (k*4))=ZS (ys.getD (k*4) 0)∧V.cell? ⟨(ad.add (k*4)).block,(ad.add (k*4)).off+1,none⟩=ZS (ys.getD (k*4+1) 0)):=fun k hk V b=>by
  obtain⟨_,hA',h⟩:=(hr.below b).fourS hk
  cases hA'
  exact⟨h.1,h.2.1⟩
 clear hv hr b00
 go_enter func310,ntmps310
 go_upto_region 2 with fail
 generalize(w.alloc _).alloc _=w0 at b0 KR O0⊢;generalize(some (⟨w+1,0,none⟩:Addr))=PA at*
 go_wp2_with fail
 go_loopw [7,8] (fun v j wr=> ∃(k:Nat) (h:Hd),k≤n∧j=.int .i64 k∧v=.slice h.A h.n h.c∧h.n=(nrL ys R i k).length∧AR wr (w.heap.size+1) 1 h (Dv (nrL ys R i k))∧Blk wr w.heap.size 178 (Ziii R L M)∧Below w w wr) (fun _ j _=>n-(intOf j).toNat)
 case atStart=>exact⟨0,⟨PA,0,0⟩,AZ _,rfl,rfl,rfl,O0,KR,b0⟩
 case round=>
  clear b0 KR O0;obtain⟨k,⟨HA,hN,hC⟩,hk,rfl,rfl,hh,O,KR1,b1⟩:=hrel;have HHN:Hid (hN=(nrL ys R i k).length):=hh;clear hh
  by_cases hlt:k<n
  ·have hltI:(k:Int)<(n:Int):=Aa;have h63:hN+1≤1099511627776:=by have:=HHN.out;have:=LU ys R i k;omega
   have bk:=Fd HV.out hlt;have hck:=HRD.out k hlt wr b1;have hci:=HRD.out i hi wr b1;have HS:Hid (nrL ys R i (k+1)=if fl ys R i k=true then nrL ys R i k++ [k] else nrL ys R i k):=rfl;have HB:Hid (fl ys R i k=(!decide (k=i) && decide ((ys.getD (i*4) 0-ys.getD (k*4) 0)*(ys.getD (i*4) 0-ys.getD (k*4) 0)+(ys.getD (i*4+1) 0-ys.getD (k*4+1) 0)*(ys.getD (i*4+1) 0-ys.getD (k*4+1) 0)≤R*R))):=rfl;generalize ys.getD (k*4) 0=x0 at*;generalize ys.getD (k*4+1) 0=x1 at*;generalize ys.getD (i*4) 0=y0 at*;generalize ys.getD (i*4+1) 0=y1 at*;obtain⟨k0,k1⟩:=hck;obtain⟨i0,i1⟩:=hci;have eR:=KR1.cell;have hz1:=b1.size
   by_cases hki:k=i
   ·have HW:Hid (nrL ys R i (k+1)=nrL ys R i k):=by unfold Hid;rw[HS.out,HB.out,BC hki];rfl
    clear k0 k1 i0 i1 eR
    go_upto_region 5 with fail
    go_quiet (fail)
    revert nq;intro nq;go_wp2
    go_roundw
    case rel=>exact⟨k+1,⟨HA,hN,hC⟩,by omega,by go_num,rfl,by rw[HW.out];exact HHN.out,by rw[HW.out];exact O.below (BW wr nq),KR1.below (BW wr nq) KR1.lt,Ba b1 nq⟩
    case measure=>simp[intOf];omega
   ·have c3:((k:Int) !=(i:Int))=true:=QV;have HNE:=fun W=>PS y0 y1 x0 x1 R W bi.1 bi.2.1 bk.1 bk.2.1 hR
    by_cases hd:(y0-x0)*(y0-x0)+(y1-x1)*(y1-x1)≤R*R
    ·have HW:Hid (nrL ys R i (k+1)=nrL ys R i k++ [k]):=by unfold Hid;rw[HS.out,HB.out,BR hki,BC hd];rfl
     rw[BC hd] at HNE;clear hd
     go_upto_region 5 with fail
     go_quiet ((go_at_call 335;exact Calls.quiet_of_same (HNE _)))
     revert nq;intro nq;have bq:=BW wr nq;have b2:=b1.trans (bq.mono hz1);have O2:=O.below bq;have KR2:=KR1.below bq KR1.lt;clear k0 k1 i0 i1 eR HNE bq O KR1 b1 hz1;generalize wr.drewN nq=u0 at*;have hz2:=b2.size;have R3:=BD u0 (k:Int) 2;have al2:Below u0 u0 (u0.alloc (.cells #[ZI k] 2)):=BU;have O3:=O2.below al2;have KR3:=KR2.below al2 KR2.lt;have b3:=b2.trans (al2.mono hz2);have hz3:w+1≤(u0.alloc (.cells #[ZI k] 2)).heap.size:=KR3.lt
     go_wp2_with (at_builtin;refine Aj rfl _ _ 28 rfl 2 1 8 underlying28 AJ Ah (w.heap.size+1) ⟨HA,hN,hC⟩ _ rfl O3 _ 1 1 (ints [(k:Int)]) rfl R3 (Ao _) h63 Ah hz3 ?_;intro G wg hn oG gg hat;have HNG:=Ai hn;clear hn)
     have hrl:=O3.rowlt;have b4:=b3.grown gg b3.size (fun q e=>by have:=(hrl q e).1;omega)
     have KR4:=KR3.grown gg (fun e=>by have:=(hrl _ e).1;omega)
     go_roundw
     case rel=>exact⟨k+1,G,by omega,by go_num,rfl,by rw[HW.out,HNG.out,Dy,HHN.out];rfl,by rw[HW.out,FW];exact oG,KR4,b4⟩
     case measure=>simp[intOf];omega
    ·have HW:Hid (nrL ys R i (k+1)=nrL ys R i k):=by unfold Hid;rw[HS.out,HB.out,BR hki,BR hd];rfl
     rw[BR hd] at HNE;clear hd
     go_upto_region 5 with fail
     go_quiet ((go_at_call 335;exact Calls.quiet_of_same (HNE _)))
     revert nq;intro nq;go_wp2
     go_roundw
     case rel=>exact⟨k+1,⟨HA,hN,hC⟩,by omega,by go_num,rfl,by rw[HW.out];exact HHN.out,by rw[HW.out];exact O.below (BW wr nq),KR1.below (BW wr nq) KR1.lt,Ba b1 nq⟩
     case measure=>simp[intOf];omega
  ·obtain rfl:n=k:=Aa;have hltI: ¬(n:Int)<(n:Int):=Aa;have HR:=Ai O.rd1;clear O;go_wp2;go_ret;exact⟨⟨HA,hN,hC⟩,rfl,HHN.out,HR.out,b1⟩
def spTo (ys:List Int) (n:Nat) (R L M:Int):Nat→List Nat
 |0=> []
 |i+1=>if Rl ys n R L M i=true then spTo ys n R L M i++ [i] else spTo ys n R L M i
theorem Lg (ys:List Int) (n:Nat) (R L M:Int): ∀i,(spTo ys n R L M i).length≤i∧ ∀k∈spTo ys n R L M i,k<i
 |0=>⟨Cp _,fun _ h=>by cases h⟩
 |i+1=>by
  obtain⟨a,b⟩:=Lg ys n R L M i;unfold spTo
  split
  ·refine⟨by simp;omega,fun k hk=> ?_⟩
   rw[List.mem_append] at hk;rcases hk with hk|hk
   ·have:=b k hk;omega
   ·rw[DD] at hk;omega
  ·exact⟨by omega,fun k hk=>by have:=b k hk;omega⟩
theorem Lh (ys:List Int) (n:Nat) (R L M:Int) (j:Nat): ∀i,j<i→(j∈spTo ys n R L M i↔Rl ys n R L M j=true)
 |0,h=>by omega
 |i+1,h=>by
  have hb:=(Lg ys n R L M i).2;unfold spTo
  by_cases e:j=i
  ·subst e
   split
   ·next c=>exact⟨fun _=>c,fun _=>by simp⟩
   ·next c=>exact⟨fun h=>by have:=hb j h;omega,fun h=>absurd h c⟩
  ·have ih:=Lh ys n R L M j i Aa
   split
   ·rw[List.mem_append,DD];exact⟨fun h=>h.elim ih.1 (fun h=>absurd h e),fun h=>Or.inl (ih.2 h)⟩
   ·exact ih
theorem PT (R L M:Int) (A:Option Addr) (n c:Nat) (ys:List Int) (w:World) (hv:BJ ys n=true) (hR:0≤R∧R≤10000) (hM:0≤M∧M≤1000000) (hr:Rd w A (n*4) (ints ys)):
  Calls prog 269 #[.slice A n c,Ziii R L M,.bool true] w fun e w'=> ∃h:Hd,e=.returned (.slice h.A h.n h.c)∧h.n=(spTo ys n R L M n).length∧Rd w' h.A h.n (Dv (spTo ys n R L M n))∧Below w w w':=by
 have hn200:n≤200:=Ft;have HV:=Ai hv;have HRW:=fun(V:World) (b:Below w w V)=>hr.below b;clear hv hr
 go_enter func269,ntmps269
 go_upto_region 2 with fail
 generalize hG:(w.alloc _).alloc _=w0;obtain⟨KR,_,b0⟩:=Qg hG;clear hG;have O0:AR w0 (w.heap.size+1) 1 ⟨some ⟨w+1,0,none⟩,0,0⟩ (Dv []):=AR.empty _ _ _ _;generalize(some (⟨w+1,0,none⟩:Addr))=PA at*
 go_wp2_with fail
 go_loopw [7,8] (fun v j wr=> ∃(i:Nat) (h:Hd),i≤n∧j=.int .i64 i∧v=.slice h.A h.n h.c∧h.n=(spTo ys n R L M i).length∧AR wr (w.heap.size+1) 1 h (Dv (spTo ys n R L M i))∧Blk wr w.heap.size 178 (Ziii R L M)∧Below w w wr) (fun _ j _=>n-(intOf j).toNat)
 case atStart=>exact⟨0,⟨PA,0,0⟩,AZ _,rfl,rfl,rfl,O0,KR,b0⟩
 case round=>
  clear b0 KR O0;obtain⟨i,⟨HA,hN,hC⟩,hi,rfl,rfl,hh,O,KR1,b1⟩:=hrel;have HHN:Hid (hN=(spTo ys n R L M i).length):=hh;clear hh
  by_cases hlt:i<n
  ·have hltI:(i:Int)<(n:Int):=Aa;have h63:hN+1≤1099511627776:=by have:=HHN.out;have:=Lg ys n R L M i;omega
   have bi:=Fd HV.out hlt;have HS:Hid (spTo ys n R L M (i+1)=if Rl ys n R L M i=true then spTo ys n R L M i++ [i] else spTo ys n R L M i):=rfl;have HDP:Hid (Rl ys n R L M i=(decide (L≤((nrL ys R i n).length:Int)) && (nrL ys R i n).all (apB ys M i))):=rfl;have HNB:=(LU ys R i n);have HNN:=Ai HNB;have hle:=HNB.1;clear HNB;have HNR:=fun(V:World) (b:Below w w V)=>TK R L M A n c i ys V HV.out hlt hR (HRW V b);have eR:=KR1.cell;have hz1:=b1.size
   go_upto_region 6 with(go_at_call 310;refine(HNR _ b1).mono ?_;rintro e w2 ⟨⟨B,m,d⟩,rfl,hm,hnb,bu⟩;have HM2:Hid (m=(nrL ys R i n).length):=hm;clear hm)
   have hm200:m≤200:=by have:=HM2.out;omega
   have b2:=b1.trans (bu.mono hz1);have O2:=O.below bu;have KR2:=KR1.below bu KR1.lt;clear O KR1 eR bu b1 hz1 HNR hle;have hz2:=b2.size;have hnb2:Rd w2 B m (Dv (nrL ys R i n)):=hnb;clear hnb;generalize nrL ys R i n=nb at*;obtain⟨ad,hA,i0,i1,i2,i3⟩:=(HRW _ b2).fourS hlt;subst hA;have HAP:Hid (∀k,apB ys M i k=decide (ys.getD (k*4+2) 0+ys.getD (k*4+3) 0+M<ys.getD (i*4+2) 0-ys.getD (i*4+3) 0)):=fun _=>rfl;generalize ys.getD (i*4) 0=y0 at*;generalize ys.getD (i*4+1) 0=y1 at*;generalize ys.getD (i*4+2) 0=y2 at*;generalize ys.getD (i*4+3) 0=y3 at*;have HB2:=fun W=>CZ y0 y1 y2 y3 W bi.2.2.1.1 bi.2.2.1.2 bi.2.2.2.1 bi.2.2.2.2;have eR:=KR2.cell
   go_upto_region 8 with(go_at_call 214;refine(HB2 _).mono ?_;rintro e w3 ⟨rfl,bu3⟩)
   generalize hG:w3.alloc _=w4;obtain⟨K3,al3⟩:=EX hG;clear hG;have bu4:Below w2 w2 w4:=An bu3 al3;generalize w3.heap.size=gB at K3⊢;have b4:=b2.trans (bu4.mono hz2);have O4:=O2.below bu4;have KR4:=KR2.below bu4 KR2.lt;have hnb4:=hnb2.below bu4;clear al3 bu4 bu3 O2 KR2 hnb2 b2 eR i0 i1 i2 i3 HB2;have hz4:=b4.size;have gB4:=K3.lt;have gR4:=KR4.lt
   go_wp2_with fail
   go_loopw [10,12] (fun sp mm wr=> ∃k:Nat,k≤m∧mm=.int .i64 k∧sp=.bool (decide (L≤(m:Int)) && (nb.take k).all (apB ys M i))∧Below w4 w4 wr) (fun _ mm _=>m-(intOf mm).toNat)
   case atStart=>exact⟨0,AZ _,rfl,by simp,AP _ _⟩
   case round=>
    obtain⟨k,hk,rfl,rfl,b⟩:=hrel
    by_cases hltm:k<m
    ·have hltmI:(k:Int)<(m:Int):=Aa;have b5:=b4.trans (b.mono hz4);obtain⟨bd,hB,hc⟩:=(hnb4.below b).nat hltm HM2.out.symm;subst hB;have hkk:=HNN.out.2 _ (Il (ks:=nb) (k:=k) (by have:=HM2.out;omega))
     have HTK:Hid ((nb.take (k+1)).all (apB ys M i)=((nb.take k).all (apB ys M i) && apB ys M i (nb.getD k 0))):=by
      unfold Hid;have hlk:k<nb.length:=by have:=HM2.out;omega
      rw[List.take_succ_eq_append_getElem hlk,List.all_append,DE,Db hlk]
      simp
     generalize nb.getD k 0=kk at*;have hkkI:(kk:Int)<(n:Int):=Aa;have bk:=Fd HV.out hkk;obtain⟨_,hA2,j0,j1,j2,j3⟩:=(HRW _ b5).fourS hkk
     cases hA2
     have HAK:=HAP.out kk;have HAKH:=Ai HAK;clear HAK;generalize ys.getD (kk*4) 0=x0 at*;generalize ys.getD (kk*4+1) 0=x1 at*;generalize ys.getD (kk*4+2) 0=x2 at*;generalize ys.getD (kk*4+3) 0=x3 at*;have HB1:=fun W=>CZ x0 x1 x2 x3 W bk.2.2.1.1 bk.2.2.1.2 bk.2.2.2.1 bk.2.2.2.2;generalize hsp:(decide (L≤(m:Int)) && (nb.take k).all (apB ys M i))=sp;have HSP:=Ai hsp;clear hsp
     go_upto_region 12 with(go_at_call 214;refine(HB1 _).mono ?_;rintro e w6 ⟨rfl,bu6⟩)
     generalize hG:w6.alloc _=w7;obtain⟨K6,al6⟩:=EX hG;clear hG;have bu7:=An bu6 al6;generalize w6.heap.size=gO at K6⊢;have b7:=An b bu7;have KB7:=K3.below b7 gB4;have KR7:=KR4.below b7 gR4;have e1:=K6.cell;have e2:=KB7.cell;have e3:=KR7.cell;clear al6 bu6 bu7 b j0 j1 j2 j3 hc HB1;have u1:=Bg (x2+x3+M)
     cases sp with
     |true=>
      by_cases hd:x2+x3+M<y2-y3
      ·have HW:Hid ((decide (L≤(m:Int)) && (nb.take (k+1)).all (apB ys M i))=true):=by unfold Hid;rw[HTK.out,←Bool.and_assoc,HSP.out,HAKH.out,BC hd];rfl
       go_wp2_with fail
       go_roundw
       case rel=>exact⟨k+1,by omega,by go_num,by rw[HW.out],b7⟩
       case measure=>simp[intOf];omega
      ·have HW:Hid ((decide (L≤(m:Int)) && (nb.take (k+1)).all (apB ys M i))=false):=by unfold Hid;rw[HTK.out,←Bool.and_assoc,HSP.out,HAKH.out,BR hd];rfl
       go_wp2_with fail
       go_roundw
       case rel=>exact⟨k+1,by omega,by go_num,by rw[HW.out],b7⟩
       case measure=>simp[intOf];omega
     |false=>
      have HW:Hid ((decide (L≤(m:Int)) && (nb.take (k+1)).all (apB ys M i))=false):=by unfold Hid;rw[HTK.out,←Bool.and_assoc,HSP.out];rfl
      go_wp2_with fail
      go_roundw
      case rel=>exact⟨k+1,by omega,by go_num,by rw[HW.out],b7⟩
      case measure=>simp[intOf];omega
    ·obtain rfl:m=k:=Aa;have hltmI: ¬(m:Int)<(m:Int):=Aa;have HDD:Hid (Rl ys n R L M i=(decide (L≤(m:Int)) && (nb.take m).all (apB ys M i))):=by unfold Hid;rw[HDP.out,←HM2.out,ED (by have:=HM2.out;omega)]
     rw[←HDD.out];have b8:=b4.trans (b.mono hz4);have O8:=O4.below b;have KR8:=KR4.below b gR4;have hz8:=b8.size;rcases BA (Rl ys n R L M i) with hq|hq
     ·have HW:Hid (spTo ys n R L M (i+1)=spTo ys n R L M i++ [i]):=by unfold Hid;rw[HS.out,AA hq]
      rw[hq];clear hq;have R3:=BD wr (i:Int) 2;have al2:Below wr wr (wr.alloc (.cells #[ZI i] 2)):=BU;have O3:=O8.below al2;have KR3:=KR8.below al2 KR8.lt;have b3:=b8.trans (al2.mono hz8);have hz3:w+1≤(wr.alloc (.cells #[ZI i] 2)).heap.size:=KR3.lt
      go_wp2_with (at_builtin;refine Aj rfl _ _ 28 rfl 2 1 8 underlying28 AJ Ah (w.heap.size+1) ⟨HA,hN,hC⟩ _ rfl O3 _ 1 1 (ints [(i:Int)]) rfl R3 (Ao _) h63 Ah hz3 ?_;intro G wg hn oG gg hat;have HNG:=Ai hn;clear hn)
      have hrl:=O3.rowlt;have b9:=b3.grown gg b3.size (fun q e=>by have:=(hrl q e).1;omega)
      have KR9:=KR3.grown gg (fun e=>by have:=(hrl _ e).1;omega)
      go_roundw
      case rel=>exact⟨i+1,G,by omega,by go_num,rfl,by rw[HW.out,HNG.out,Dy,HHN.out];rfl,by rw[HW.out,FW];exact oG,KR9,b9⟩
      case measure=>simp[intOf];omega
     ·have HW:Hid (spTo ys n R L M (i+1)=spTo ys n R L M i):=by unfold Hid;rw[HS.out,Ak (by rw[hq];decide)]
      rw[hq];clear hq
      go_wp2_with fail
      go_roundw
      case rel=>exact⟨i+1,⟨HA,hN,hC⟩,by omega,by go_num,rfl,by rw[HW.out];exact HHN.out,by rw[HW.out];exact O8,KR8,b8⟩
      case measure=>simp[intOf];omega
  ·obtain rfl:n=i:=Aa;have hltI: ¬(n:Int)<(n:Int):=Aa;have HR:=Ai O.rd1;clear O;go_wp2;go_ret;exact⟨⟨HA,hN,hC⟩,rfl,HHN.out,HR.out,b1⟩
theorem dv {ys:List Int} {n:Nat} {R L M:Int} {m:Nat}:(spTo ys n R L M m).length=0↔ ∀j,j<m→Rl ys n R L M j=false:=by
 constructor
 ·intro h j hj;have he:=List.length_eq_zero_iff.1 h;have:=Lh ys n R L M j m hj;rw[he] at this;rcases BA (Rl ys n R L M j) with c|c
  ·exact absurd (this.2 c) Cr
  ·exact c
 ·intro h
  cases hs:spTo ys n R L M m with
  |nil=>rfl
  |cons a t=>
   have hm:a∈spTo ys n R L M m:=by rw[hs];simp
   have hl:=(Lg ys n R L M m).2 a hm;have:=(Lh ys n R L M a m hl).1 hm;rw[h a hl] at this
   cases this
theorem du {xs:List Int} {R L M:Int} {ks:List Nat}:(spTo (selS xs ks) ks.length R L M ks.length).length=0↔(Cy xs R L M ks).length=ks.length:=by
 rw[dv];unfold Cy;exact⟨fun h=>Mm h,fun h=>(Oe Bk h).2⟩
theorem ep {ys:List Int} {n:Nat} {R L M:Int} {m j:Nat} (h:j<m):decide (j∈spTo ys n R L M m)=Rl ys n R L M j:=by
 have:=Lh ys n R L M j m h;rw[Bool.eq_iff_iff,BP];exact this
theorem TB (A:Option Addr) (m d j:Nat) (ks:List Nat) (w:World) (hm:m≤200) (hk:Rd w A m (Dv ks)) (hl:ks.length=m):
  (BT 270 (Gb A m d j) w (.bool (decide (j∈ks))):Prop):=by
 have HL:=Ai hl;clear hl
 go_enter func270,ntmps270
 go_wp2
 go_loopw [5] (fun i wr=> ∃k:Nat,k≤m∧i=.int .i64 k∧(∀q,q<k→ks.getD q 0≠j)∧Below w w wr) (fun i _=>m-(intOf i).toNat)
 case atStart=>exact⟨0,AZ _,rfl,fun q h=>by omega,AP _ _⟩
 case round=>
  obtain⟨k,hkm,rfl,hno,b⟩:=hrel;have HNO:=Ai hno;clear hno
  by_cases hlt:k<m
  ·have hltI:(k:Int)<(m:Int):=Aa;obtain⟨ad,rfl,hc⟩:=(hk.below b).nat hlt HL.out;have HME:Hid (ks.getD k 0∈ks):=Il (by have:=HL.out;omega)
   have HST:Hid (ks.getD k 0≠j→ ∀q,q<k+1→ks.getD q 0≠j):=fun h q hq=>by
    by_cases e:q=k
    ·subst e;exact h
    ·exact HNO.out q Aa
   generalize ks.getD k 0=kk at*
   by_cases he:kk=j
   ·have HD:Hid (decide (j∈ks)=true):=by unfold Hid;rw[BP,←he];exact HME.out
    go_wp2;go_ret;exact⟨Af (by rw[HD.out]),b⟩
   ·have c2:((kk:Int)==(j:Int))=false:=E8;go_wp2
    go_roundw
    case rel=>exact⟨k+1,by omega,by go_num,HST.out he,b⟩
    case measure=>simp[intOf];omega
  ·obtain rfl:m=k:=Aa;have hltI: ¬(m:Int)<(m:Int):=Aa
   have HD:Hid (decide (j∈ks)=false):=by
    unfold Hid;rw[decide_eq_false_iff_not];intro hin;obtain⟨q,hq,he⟩:=List.getElem_of_mem hin;have:=HNO.out q (by have:=HL.out;omega)
    rw[DE,Db hq] at this;exact this he
   go_wp2;go_ret;exact⟨Af (by rw[HD.out]),b⟩
theorem TL (A B:Option Addr) (n c m d:Nat) (xs:List Int) (ks:List Nat) (w:World) (hn:n≤200) (hm:m≤200) (hr:Rd w A (n*4) (ints xs)) (hk:Rd w B m (Dv ks)) (hl:ks.length=m) (hin: ∀k∈ks,k<n):
  Calls prog 217 (CH A n c B m d) w fun e w'=> ∃h:Hd,e=.returned (.slice h.A h.n h.c)∧h.n=m∧Rd w' h.A (h.n*4) (ints (selS xs ks))∧Below w w w':=by
 go_enter func217,ntmps217
 go_wp2_with fail
 go_loopw [5,6] (fun v i wr=> ∃(k:Nat) (h:Hd),k≤m∧i=.int .i64 k∧v=.slice h.A h.n h.c∧h.n=k∧AR wr w.heap.size 4 h (ints (selS xs (ks.take k)))∧Below w w wr) (fun _ i _=>m-(intOf i).toNat)
 case atStart=>exact⟨0,⟨some ⟨w,0,none⟩,0,0⟩,AZ _,rfl,rfl,rfl,AR.empty _ _ _ _,(AP _ _).alloc Bk _⟩
 case round=>
  obtain⟨k,⟨HA,hN,hC⟩,hkm,rfl,rfl,hh,O,b⟩:=hrel;simp only at hh;subst hh
  by_cases hlt:hN<m
  ·have hltI:(hN:Int)<(m:Int):=Aa;have h63:hN+1≤1099511627776:=Aa;obtain⟨_,hB,hc⟩:=(hk.below b).nat hlt hl;subst hB;have hq:ks.getD hN 0<n:=hin _ (by rw[DE,Db Aa];exact EH _)
   have HS:Hid (selS xs (ks.take (hN+1))=selS xs (ks.take hN)++Fw xs (ks.getD hN 0)):=by
    unfold Hid;rw[←L4,List.take_succ_eq_append_getElem Aa,DE,Db Aa];rfl
   generalize ks.getD hN 0=q at*;have hqI:(q:Int)<(n:Int):=Aa;obtain⟨_,hA,h0,h1,h2,h3⟩:=(hr.below b).fourS hq;subst hA;have HF:Hid (Fw xs q= [xs.getD (q*4) 0,xs.getD (q*4+1) 0,xs.getD (q*4+2) 0,xs.getD (q*4+3) 0]):=rfl;generalize xs.getD (q*4) 0=x0 at*;generalize xs.getD (q*4+1) 0=x1 at*;generalize xs.getD (q*4+2) 0=x2 at*;generalize xs.getD (q*4+3) 0=x3 at*;have hz:=b.size;have R1:=Iy wr x0 x1 x2 x3 65;have O1:=O.below ((AP _ wr).alloc Bk (.cells (Ziiii x0 x1 x2 x3) 65));have b2:Below w w (wr.alloc (.cells (Ziiii x0 x1 x2 x3) 65)):=Ax;have hz2:=b2.size
   go_wp2_with (at_builtin;refine Aj rfl _ _ 171 rfl 65 4 32 underlying171 DS Ah w.heap.size ⟨HA,hN,hC⟩ _ rfl O1 _ 1 1 (ints [x0,x1,x2,x3]) rfl R1 (Ao _) h63 Ah hz2 ?_;intro G wg hn oG gg hat;have HNG:=Ai hn;clear hn)
   have b3:=b2.grown gg b2.size (fun q e=>by have:=(O1.rowlt q e).1;omega)
   go_roundw
   case rel=>exact⟨hN+1,G,by omega,by go_num,rfl,HNG.out,by rw[HS.out,HF.out,B8];exact oG,b3⟩
   case measure=>simp[intOf];omega
  ·obtain rfl:m=hN:=Aa;have hltI: ¬(m:Int)<(m:Int):=Aa;rw[show ks.take m=ks from ED Aa] at O;have HR:=Ai O.rd;clear O;go_wp2;go_ret;exact⟨⟨HA,m,hC⟩,rfl,rfl,HR.out,b⟩
def gp (ys:List Int) (p:Nat) (R L M:Int) (ks:List Nat) (w4:World) (v i:Value) (w5:World):Prop:=
 ∃(k:Nat) (h:Hd),k≤p∧i=.int .i64 k∧v=.slice h.A h.n h.c∧h.n=(keepTo ys p R L M ks k).length∧AR w5 w4.heap.size 1 h (Dv (keepTo ys p R L M ks k))∧Below w4 w4 w5
theorem Vr {ys:List Int} {p:Nat} {R L M:Int} {ks:List Nat} {w4 w5:World} {i:Value} (k:Nat) (h:Hd) (hk:k≤p) (hi:i=.int .i64 k) (hn:h.n=(keepTo ys p R L M ks k).length) (O:AR w5 w4.heap.size 1 h (Dv (keepTo ys p R L M ks k))) (b:Below w4 w4 w5):gp ys p R L M ks w4 (.slice h.A h.n h.c) i w5:=⟨k,h,hk,hi,rfl,hn,O,b⟩
def dF (R L M:Int) (n:Nat) (xs:List Int) (w:World) (e:Ending) (w':World):Prop:= ∃(h:Hd) (v:Int),e=.returned (.tuple (Gb h.A h.n h.c v))∧h.n=(LE xs R L M (List.range n)).length∧Rd w' h.A h.n (Dv (LE xs R L M (List.range n)))∧Below w w w'
theorem TJ (R L M:Int) (A:Option Addr) (n c:Nat) (xs:List Int) (w:World) (hv:BJ xs n=true) (hR:0≤R∧R≤10000) (hM:0≤M∧M≤1000000) (hr:Rd w A (n*4) (ints xs)):
  Calls prog 216 #[.slice A n c,Ziii R L M,ZI 200] w (dF R L M n xs w):=by
 have hn200:n≤200:=Ft;have HV:=Ai hv;have b0:Below w w ((w.alloc (.cells (Ziii R L M) 178)).alloc (.cells #[] 2)):=Ax;have KR:=(Br w 178 (Ziii R L M)).alloc (.cells #[] 2);have O0:AR ((w.alloc (.cells (Ziii R L M) 178)).alloc (.cells #[] 2)) (w.heap.size+1) 1 ⟨some ⟨w+1,0,none⟩,0,0⟩ (Dv []):=AR.empty _ _ _ _;have HRW:=fun(V:World) (b:Below w w V)=>hr.below b;clear hv hr;generalize hRET:dF R L M n xs w=RET
 have HRET:Hid (∀(B:Option Addr) (m d:Nat) (v:Int) (ks:List Nat) (V:World),LE xs R L M (List.range n)=ks→m=ks.length→Rd V B m (Dv ks)→Below w w V→RET (.returned (.tuple (Gb B m d v))) V):=by
  subst hRET;exact fun B m d v ks V hk hm hd hb=>⟨⟨B,m,d⟩,v,rfl,by rw[hk];exact hm,by rw[hk];exact hd,hb⟩
 clear hRET
 go_enter func216,ntmps216
 go_upto_region 2 with fail
 generalize(w.alloc _).alloc _=w0 at b0 KR O0⊢;generalize(some (⟨w+1,0,none⟩:Addr))=PA at*
 go_wp2_with fail
 go_loopw [8,9] (fun v i wr=> ∃(k:Nat) (h:Hd),k≤n∧i=.int .i64 k∧v=.slice h.A h.n h.c∧h.n=k∧AR wr (w.heap.size+1) 1 h (Dv (List.range k))∧Blk wr w.heap.size 178 (Ziii R L M)∧Below w w wr) (fun _ i _=>n-(intOf i).toNat)
 case atStart=>exact⟨0,⟨PA,0,0⟩,AZ _,rfl,rfl,rfl,O0,KR,b0⟩
 case round=>
  clear b0 KR O0;obtain⟨k,⟨HA,hN,hC⟩,hk,rfl,rfl,hl,O,KR1,b⟩:=hrel;simp only at hl;subst hl;have hz:=b.size
  by_cases hlt:hN<n
  ·have hltI:(hN:Int)<(n:Int):=Aa;have h63:hN+1≤1099511627776:=Aa;have R1:=BD wr (hN:Int) 2;have al2:Below wr wr (wr.alloc (.cells #[ZI hN] 2)):=BU;have O1:=O.below al2;have KR3:=KR1.below al2 KR1.lt;have b2:=b.trans (al2.mono hz);have hz2:w+1≤(wr.alloc (.cells #[ZI hN] 2)).heap.size:=KR3.lt
   go_wp2_with (at_builtin;refine Aj rfl _ _ 28 rfl 2 1 8 underlying28 AJ Ah (w.heap.size+1) ⟨HA,hN,hC⟩ _ rfl O1 _ 1 1 (ints [(hN:Int)]) rfl R1 (Ao _) h63 Ah hz2 ?_;intro G wg hn oG gg hat;have HNG:=Ai hn;clear hn)
   have hrl:=O1.rowlt;have b3:=b2.grown gg b2.size (fun q e=>by have:=(hrl q e).1;omega)
   have KR4:=KR3.grown gg (fun e=>by have:=(hrl _ e).1;omega)
   go_roundw
   case rel=>exact⟨hN+1,G,by omega,by go_num,rfl,HNG.out,by rw[I6,FW];exact oG,KR4,b3⟩
   case measure=>simp[intOf];omega
  ·obtain rfl:n=hN:=Aa;have hltI: ¬(n:Int)<(n:Int):=Aa;have hall2:Rd wr HA n (Dv (List.range n)):=O.rd1;clear O hz hk hlt;generalize hR0:List.range n=r0 at hall2;have HR0:Hid (r0.length=n∧ ∀k∈r0,k<n):=by subst hR0;exact⟨List.length_range,fun k hk=>Eo.1 hk⟩
   have HRR:Hid (List.range n=r0):=hR0;clear hR0
   go_wp2_with fail
   go_loopw [8,10] (fun v cnt w1=> ∃(ks:List Nat) (h:Hd) (j:Nat),v=.slice h.A h.n h.c∧cnt=.int .i64 (j:Int)∧h.n=ks.length∧j+ks.length≤200∧Rd w1 h.A h.n (Dv ks)∧(∀k∈ks,k<n)∧LE xs R L M r0=LE xs R L M ks∧Below w w w1∧Blk w1 w.heap.size 178 (Ziii R L M)) (fun _ cnt _=>200-(intOf cnt).toNat)
   case atStart=>exact⟨r0,⟨HA,n,hC⟩,0,rfl,rfl,HR0.out.1.symm,by have:=HR0.out.1;omega,hall2,HR0.out.2,rfl,b,KR1⟩
   case round=>
    clear b KR1 hall2 hltI;obtain⟨ks,⟨HB,p,hC2⟩,j,rfl,rfl,hh,hj,hk,hin,he,b,KR⟩:=hrel
    rename World=>wq
    have HH:Hid (p=ks.length):=hh;have HE:=Ai he;have HIN:=Ai hin;have hp200:p≤200:=by have:=HH.out;omega
    have hjp:j+p≤200:=by have:=HH.out;omega
    have hk2:Rd wq HB p (Dv ks):=hk;clear hh he hin hj hk;have gK:=KR.lt
    by_cases hj2:j<200
    ·have hjI:(j:Int)<200:=Aa;have al0:Below wq wq (wq.alloc (.cells #[] 65)):=BU
     go_upto_region 9 with fail
     go_wp2_with fail
     go_loopw [11,12] (fun v i w1=> ∃(k:Nat) (h:Hd),k≤p∧i=.int .i64 k∧v=.slice h.A h.n h.c∧h.n=k∧AR w1 wq.heap.size 4 h (ints (selS xs (ks.take k)))∧Below wq wq w1) (fun _ i _=>p-(intOf i).toNat)
     case atStart=>exact⟨0,⟨some ⟨wq,0,none⟩,0,0⟩,AZ _,rfl,rfl,rfl,AR.empty _ _ _ _,al0⟩
     case round=>
      clear al0;obtain⟨k,⟨HD,hN,hC3⟩,hkm,rfl,rfl,hh,O,bo⟩:=hrel;obtain rfl:hN=k:=hh;have b3:=An b bo
      by_cases hlt:hN<p
      ·have hltI:(hN:Int)<(p:Int):=Aa;have h63:hN+1≤1099511627776:=Aa;obtain⟨bd,hB,hc⟩:=(hk2.below bo).nat hlt HH.out.symm;subst hB;have hlk:hN<ks.length:=by have:=HH.out;omega
       have hq:ks.getD hN 0<n:=HIN.out _ (Il hlk)
       have HS:Hid (selS xs (ks.take (hN+1))=selS xs (ks.take hN)++Fw xs (ks.getD hN 0)):=by
        unfold Hid;rw[←L4,List.take_succ_eq_append_getElem hlk,DE,Db hlk];rfl
       clear hlk;generalize ks.getD hN 0=q at*;have hqI:(q:Int)<(n:Int):=Aa;obtain⟨ad,hA,h0,h1,h2,h3⟩:=(HRW _ b3).fourS hq;subst hA;have HF:Hid (Fw xs q= [xs.getD (q*4) 0,xs.getD (q*4+1) 0,xs.getD (q*4+2) 0,xs.getD (q*4+3) 0]):=rfl;generalize xs.getD (q*4) 0=x0 at*;generalize xs.getD (q*4+1) 0=x1 at*;generalize xs.getD (q*4+2) 0=x2 at*;generalize xs.getD (q*4+3) 0=x3 at*;have hz:=bo.size;have R1:=Iy wr x0 x1 x2 x3 65;have al1:Below (wr).heap.size wr ((wr).alloc (.cells (Ziiii x0 x1 x2 x3) 65)):=BU;have O1:=O.below al1;have b2:=bo.trans (al1.mono hz);have hz2:=b2.size
       go_wp2_with (at_builtin;refine Aj rfl _ _ 171 rfl 65 4 32 underlying171 DS Ah wq.heap.size ⟨HD,hN,hC3⟩ _ rfl O1 _ 1 1 (ints [x0,x1,x2,x3]) rfl R1 (Ao _) h63 Ah hz2 ?_;intro G wg hn oG gg hat;have HNG:=Ai hn;clear hn)
       have b4:=b2.grown gg b2.size (fun q e=>by have:=(O1.rowlt q e).1;omega)
       go_roundw
       case rel=>exact⟨hN+1,G,by omega,by go_num,rfl,HNG.out,by rw[HS.out,HF.out,B8];exact oG,b4⟩
       case measure=>simp[intOf];omega
      ·obtain rfl:p=hN:=Aa;have hltI: ¬(p:Int)<(p:Int):=Aa;have hsel:Rd wr HD (p*4) (ints (selS xs ks)):=by have:=O.rd;rwa [show ks.take p=ks from ED (by have:=HH.out;omega)] at this
       have HV2:Hid (BJ (selS xs ks) p=true):=by have:=Xc HV.out HIN.out (by have:=HH.out;omega);rw[←HH.out] at this;exact this
       have HSM:Hid ((spTo (selS xs ks) p R L M p).length=0↔(Cy xs R L M ks).length=ks.length):=by have:=du (xs:=xs) (R:=R) (L:=L) (M:=M) (ks:=ks);rw[←HH.out] at this;rw[←HH.out];exact this
       have HCO:Hid (Cy xs R L M ks=keepTo (selS xs ks) p R L M ks p):=by unfold Hid Cy;rw[←HH.out]
       have KR3:=KR.below bo gK;have hk3:=hk2.below bo;clear O bo;generalize selS xs ks=ys at*;have HSP:=PT R L M HD p hC3 ys wr HV2.out hR hM hsel;have eR:=KR3.cell
       go_upto_region 14 with(go_at_call 269;refine HSP.mono ?_;rintro e w4 ⟨⟨S4,m4,d4⟩,rfl,hm4,hs4,bu4⟩;have HM4:Hid (m4=(spTo ys p R L M p).length):=hm4;clear hm4)
       have b4:=An b3 bu4;have KR4:=KR3.below bu4 KR3.lt;have hk4:=hk3.below bu4;have hs42:Rd w4 S4 m4 (Dv (spTo ys p R L M p)):=hs4;clear eR KR3 hk3 hs4 HSP bu4 b3 hsel
       by_cases h0:m4=0
       ·have HF:Hid (LE xs R L M r0=ks):=HE.out.trans (NP (HSM.out.1 (by rw[←HM4.out];exact h0)))
        subst h0;go_wp2;exact HRET.out _ _ _ _ _ _ (by rw[HRR.out,HF.out]) HH.out hk4 b4
       ·have hm4p:m4≤200:=by have:=(Lg ys p R L M p).1;have:=HM4.out;omega
        have h0I: ¬(m4:Int)=0:=Aa;have hNE:Hid (¬(Cy xs R L M ks).length=ks.length):=fun h=>h0 (by rw[HM4.out];exact HSM.out.2 h)
        have hlt2:Hid ((Cy xs R L M ks).length<p):=by have:=Zd hNE.out;rw[←HH.out] at this;exact this
        have al5:Below w4 w4 (w4.alloc (.cells #[] 2)):=BU;have gK4:=KR4.lt;clear h0
        go_upto_region 16 with fail
        have hbz:((m4:Int)==0)=false:=by rw[Ea];exact h0I
        rw[hbz];clear hbz h0I
        go_wp2_with fail
        go_loopw [14,15] (gp ys p R L M ks w4) (fun _ i _=>p-(intOf i).toNat)
        case atStart=>exact Vr 0 ⟨some ⟨w4,0,none⟩,0,0⟩ (AZ _) rfl rfl (AR.empty _ _ _ _) al5
        case round=>
         clear al5;obtain⟨k,⟨HQ,hN5,hC5⟩,hk5,rfl,rfl,hh5,O5,b5⟩:=hrel;have HHN:Hid (hN5=(keepTo ys p R L M ks k).length):=hh5;clear hh5;have hz5:=b5.size
         by_cases hlt5:k<p
         ·have hltI5:(k:Int)<(p:Int):=Aa;have h63:hN5+1≤1099511627776:=by have:=HHN.out;have:=FP ys p R L M ks k;omega
          have HHAS:=TB S4 m4 d4 k (spTo ys p R L M p) wr hm4p (hs42.below b5) HM4.out.symm;rw[ep hlt5] at HHAS;have HK1:Hid (k+1≤p):=hlt5;have HS:Hid (keepTo ys p R L M ks (k+1)=if Rl ys p R L M k=true then keepTo ys p R L M ks k else keepTo ys p R L M ks k++ [ks.getD k 0]):=rfl;rcases BA (Rl ys p R L M k) with hd|hd
          ·have HW:Hid (keepTo ys p R L M ks (k+1)=keepTo ys p R L M ks k):=by unfold Hid;rw[HS.out,AA hd]
           rw[hd] at HHAS;clear hd
           go_wp2_with (go_at_call 270;refine HHAS.mono ?_;rintro e w6 ⟨rfl,bu6⟩)
           go_roundw
           case rel=>exact Vr (k+1) ⟨HQ,hN5,hC5⟩ HK1.out (by go_num) (by rw[HW.out];exact HHN.out) (by rw[HW.out];exact O5.below bu6) (b5.trans (bu6.mono hz5))
           case measure=>simp[intOf];omega
          ·have HW:Hid (keepTo ys p R L M ks (k+1)=keepTo ys p R L M ks k++ [ks.getD k 0]):=by unfold Hid;rw[HS.out,Ak (by rw[hd];decide)]
           rw[hd] at HHAS;clear hd
           go_upto_region 20 with(go_at_call 270;refine HHAS.mono ?_;rintro e w6 ⟨rfl,bu6⟩)
           have b6:=b5.trans (bu6.mono hz5);have O6:=O5.below bu6;clear O5 b5 bu6 HHAS hz5;obtain⟨bd,hB,hc⟩:=(hk4.below b6).nat hlt5 HH.out.symm;subst hB;generalize ks.getD k 0=q at*;have hz6:=b6.size;have R1:=BD w6 (q:Int) 2;have al6:Below w6 w6 (w6.alloc (.cells #[ZI q] 2)):=BU;have O7:=O6.below al6;have b7:=b6.trans (al6.mono hz6);have hz7:=b7.size
           go_wp2_with (at_builtin;refine Aj rfl _ _ 28 rfl 2 1 8 underlying28 AJ Ah w4.heap.size ⟨HQ,hN5,hC5⟩ _ rfl O7 _ 1 1 (ints [(q:Int)]) rfl R1 (Ao _) h63 Ah hz7 ?_;intro G wg hn oG gg hat;have HNG:=Ai hn;clear hn)
           have b8:=b7.grown gg b7.size (fun q e=>by have:=(O7.rowlt q e).1;omega)
           go_roundw
           case rel=>exact Vr (k+1) G HK1.out (by go_num) (by rw[HW.out,HNG.out,Dy,HHN.out];rfl) (by rw[HW.out,FW];exact oG) b8
           case measure=>simp[intOf];omega
         ·obtain rfl:k=p:=Aa;have hltI5: ¬(k:Int)<(k:Int):=Aa;have hnx:Rd wr HQ hN5 (Dv (Cy xs R L M ks)):=by rw[HCO.out];exact O5.rd1
          have b9:=An b4 b5;have KR9:=KR4.below b5 gK4;have HN9:Hid (hN5=(Cy xs R L M ks).length):=by unfold Hid;rw[HCO.out];exact HHN.out
          have u1:=Bg ((j:Int)+1);clear O5 b5 KR4 hk4 hs42
          go_wp2_with fail
          go_roundw
          case rel=>exact⟨Cy xs R L M ks,⟨HQ,hN5,hC5⟩,j+1,rfl,by go_num,HN9.out,by have:=hlt2.out;omega,hnx,fun q h=>HIN.out q (Jz q h),HE.out.trans (Zc hNE.out),b9,KR9⟩
          case measure=>simp[intOf];omega
    ·have hjI: ¬(j:Int)<200:=Aa;have HF:Hid (LE xs R L M r0=ks):=HE.out.trans (NP (by have:=HH.out;have:=DW xs R L M ks;omega))
     go_wp2;exact HRET.out _ _ _ _ _ _ (by rw[HRR.out,HF.out]) HH.out hk2 b
theorem OS (R L M:Int) (w:World):
  (BT 268 #[Ziii R L M] w (.bool (ruB R L M)):Prop):=by
 have HO:=fun W=>Ay R 0 10000 W;have HL:=fun W=>Ay L 1 200 W;have HM:=fun W=>Ay M 0 1000000 W;have HB:Hid (ruB R L M=(inR R 0 10000 && (inR L 1 200 && inR M 0 1000000))):=rfl;have fin: ∀b,ruB R L M=b→ ∀W,Below w w W→(Ending.returned (.bool b)=Ending.returned (.bool (ruB R L M))∧Below w w W):=fun b h W hb=>⟨by rw[h],hb⟩
 have FIN:=Ai fin;clear fin
 rcases BA (inR R 0 10000) with h1|h1<;>rcases BA (inR L 1 200) with h2|h2<;>rcases BA (inR M 0 1000000) with h3|h3<;>(
  rw[h1,h2,h3] at HB;rw[h1] at HO;rw[h2] at HL;rw[h3] at HM;clear h1 h2 h3
  go_enter func268,ntmps268
  go_wp2_with (first|(go_at_call 84;with_reducible refine(HO _).mono ?_;rintro e w' ⟨rfl,rfl⟩)|(go_at_call 84;with_reducible refine(HL _).mono ?_;rintro e w' ⟨rfl,rfl⟩)|(go_at_call 84;with_reducible refine(HM _).mono ?_;rintro e w' ⟨rfl,rfl⟩))
  go_ret;exact FIN.out _ HB.out _ Ax)
theorem L7 (R L M:Int) (A:Option Addr) (n c:Nat) (xs:List Int) (w:World) (hn:n≤1048576) (hr:Rd w A (n*4) (ints xs)):
  (BT 215 #[.slice A n c,Ziii R L M] w (ZI (Po xs n R L M)):Prop):=by
 have b0:Below w w (w.alloc (.cells (Ziii R L M) 178)):=Ax;have K:=Br w 178 (Ziii R L M);have HS:=Dh A n c xs _ hn (hr.below b0);have HU:=fun W=>OS R L M W;have HC:Hid (Po xs n R L M=if(BJ xs n && ruB R L M)=true then 0 else 1):=rfl;clear hr;rcases BA (BJ xs n) with h1|h1
 ·rcases BA (ruB R L M) with h2|h2
  ·have HCC:Hid (Po xs n R L M=0):=by unfold Hid;rw[HC.out,h1,h2];rfl
   rw[h1] at HS;rw[h2] at HU;clear h1 h2 HC
   go_enter func215,ntmps215
   go_upto_region 1 with fail
   generalize w.alloc _=w1 at*
   go_wp2_with (first|(go_at_call 213;with_reducible refine HS.mono ?_;rintro e w2 ⟨rfl,b2⟩;have e0:=fun o=>(K.below b2 K.lt).cell o;have b3:=An b0 b2;have hz3:=b3.size;clear b2)|(go_at_call 268;with_reducible refine(HU _).mono ?_;rintro e w4 ⟨rfl,b4⟩;have b5:=b3.trans (b4.mono hz3)))
   go_ret;exact⟨by rw[HCC.out];rfl,b5⟩
  ·have HCC:Hid (Po xs n R L M=1):=by unfold Hid;rw[HC.out,h1,h2];rfl
   rw[h1] at HS;rw[h2] at HU;clear h1 h2 HC
   go_enter func215,ntmps215
   go_upto_region 1 with fail
   generalize w.alloc _=w1 at*
   go_wp2_with (first|(go_at_call 213;with_reducible refine HS.mono ?_;rintro e w2 ⟨rfl,b2⟩;have e0:=fun o=>(K.below b2 K.lt).cell o;have b3:=An b0 b2;have hz3:=b3.size;clear b2)|(go_at_call 268;with_reducible refine(HU _).mono ?_;rintro e w4 ⟨rfl,b4⟩;have b5:=b3.trans (b4.mono hz3)))
   go_ret;exact⟨by rw[HCC.out];rfl,b5⟩
 ·have HCC:Hid (Po xs n R L M=1):=by unfold Hid;rw[HC.out,h1];rfl
  rw[h1] at HS;clear h1 HC HU
  go_enter func215,ntmps215
  go_upto_region 1 with fail
  generalize w.alloc _=w1 at*
  go_wp2_with (go_at_call 213;with_reducible refine HS.mono ?_;rintro e w2 ⟨rfl,b2⟩;have b3:=(An b0 b2))
  go_ret;exact⟨by rw[HCC.out];rfl,b3⟩
theorem P5 (R L M:Int) (A:Option Addr) (n c:Nat) (xs:List Int) (w:World) (hn:n≤1048576) (hr:Rd w A (n*4) (ints xs)):
  Calls prog 172 #[.slice A n c,Ziii R L M] w (Mg xs n R L M w):=by
 have b0:Below w w (w.alloc (.cells (Ziii R L M) 178)):=Ax;have K:=Br w 178 (Ziii R L M);have HRC:=L7 R L M A n c xs _ hn (hr.below b0);have HRD:=fun(V:World) (b:Below w w V)=>hr.below b;clear hr
 by_cases h:(BJ xs n && ruB R L M)=true
 ·have HCC:Hid (Po xs n R L M=0):=AA h;rw[CD] at h;have HS:=Ai h.1;have hru:=h.2;unfold ruB at hru;rw[CD,CD] at hru;have hR:=Ac hru.1;have hM:=Ac hru.2.2;have hn200:n≤200:=by have:=HS.out;unfold BJ at this;rw[CD,BP] at this;omega
  clear h hru;rw[HCC.out] at HRC;generalize hRET:Mg xs n R L M w=RET
  have HRET:Hid (∀(B:Option Addr) (m d:Nat) (v:Int) (V:World),m=(LE xs R L M (List.range n)).length→Below w w V→RET (.returned (.tuple (FK B m d v 0))) V):=by
   subst hRET;exact fun B m d v V hm hb=>Uw HCC.out hm hb
  clear hRET
  go_enter func172,ntmps172
  go_upto_region 1 with fail
  generalize w.alloc _=w1 at*;have e0:=K.cell
  go_upto_region 4 with(go_at_call 215;refine HRC.mono ?_;rintro e w2 ⟨rfl,b2⟩;have K2:=K.below b2 K.lt;have b3:=An b0 b2;clear b2)
  have hz3:=b3.size;have e2:=K2.cell;clear e0 HRC K b0
  go_upto_region 5 with(go_at_call 216;refine(TJ R L M A n c xs _ HS.out hR hM (HRD _ b3)).mono ?_;rintro e w4 ⟨⟨B,m,d⟩,v,rfl,hm,hrd,b4⟩;have HM:Hid (m=(LE xs R L M (List.range n)).length):=hm;clear hm)
  have b5:=b3.trans (b4.mono hz3);have hm200:m≤200:=by have h:=M8 xs R L M (List.range n);rw[List.length_range] at h;have:=HM.out;omega
  have HCH:=TL A B n c m d xs (LE xs R L M (List.range n)) w4 hn200 hm200 (HRD _ b5) hrd HM.out.symm (fun k h=>Eo.1 (WI k h))
  go_wp2_with (go_at_call 217;refine HCH.mono ?_;rintro e w6 ⟨⟨D,p,q⟩,rfl,hp,-,b6⟩;have HP:Hid (p=m):=hp;clear hp)
  refine AS (v:=.tuple (FK D p q v 0)) (by simp[results,results172,go_sem]) rfl ?_
  exact HRET.out _ _ _ _ _ (HP.out.trans HM.out) (An b5 b6)
 ·have HCC:Hid (Po xs n R L M=1):=Ak h;clear h;rw[HCC.out] at HRC;generalize hRET:Mg xs n R L M w=RET
  have HRET:Hid (∀(V:World),Below w w V→RET (.returned (.tuple (FK none 0 0 0 1))) V):=by
   subst hRET;exact fun V hb=>Qz HCC.out hb
  clear hRET
  go_enter func172,ntmps172
  go_upto_region 1 with fail
  generalize w.alloc _=w1 at*;have e0:=K.cell
  go_wp2_with (go_at_call 215;refine HRC.mono ?_;rintro e w2 ⟨rfl,b2⟩;have b3:=(An b0 b2))
  refine AS (v:=.tuple (FK none 0 0 0 1)) (by simp[results,results172,go_sem]) rfl ?_
  exact HRET.out _ b3
end Go.Proofs.YtkndcebhjcfphaaGreatDoor
