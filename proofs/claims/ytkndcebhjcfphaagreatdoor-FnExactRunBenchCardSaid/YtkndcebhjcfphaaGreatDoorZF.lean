import Derived.Test.YtkndcebhjcfphaaGreatDoorZC
import Derived.Test.YtkndcebhjcfphaaGreatDoorZD
import Derived.Deep.DeepCutAuto
namespace Go.Proofs.YtkndcebhjcfphaaGreatDoor
open Go.RowKit Go.Proofs.Tryz
set_option maxRecDepth 100000
set_option maxHeartbeats 4000000
set_option linter.all false
theorem Cn (a:Addr) (i j:Nat) (h:j≠0):(⟨(a.add i).block,(a.add i).off+j,none⟩:Addr)=a.add (i+j):=by rw[←Bf _ j h,Bv]
theorem Rd.seven {w:World} {A:Option Addr} {n k:Nat} {xs:List Int} (h:Rd w A (n*7) (ints xs)) (hk:k<n): ∃ad,A=some ad∧w.cell? (ad.add (k*7))=ZS (xs.getD (k*7) 0)∧w.cell? ⟨(ad.add (k*7)).block,(ad.add (k*7)).off+1,none⟩=ZS (xs.getD (k*7+1) 0)∧w.cell? ⟨(ad.add (k*7)).block,(ad.add (k*7)).off+2,none⟩=ZS (xs.getD (k*7+2) 0)∧w.cell? ⟨(ad.add (k*7)).block,(ad.add (k*7)).off+3,none⟩=ZS (xs.getD (k*7+3) 0)∧w.cell? ⟨(ad.add (k*7)).block,(ad.add (k*7)).off+4,none⟩=ZS (xs.getD (k*7+4) 0)∧w.cell? ⟨(ad.add (k*7)).block,(ad.add (k*7)).off+5,none⟩=ZS (xs.getD (k*7+5) 0)∧w.cell? ⟨(ad.add (k*7)).block,(ad.add (k*7)).off+6,none⟩=ZS (xs.getD (k*7+6) 0):=by
 obtain⟨ad,rfl,h0⟩:=h.int (show k*7+0<n*7 by omega)
 obtain⟨_,⟨⟩,h1⟩:=h.int (show k*7+1<n*7 by omega)
 obtain⟨_,⟨⟩,h2⟩:=h.int (show k*7+2<n*7 by omega)
 obtain⟨_,⟨⟩,h3⟩:=h.int (show k*7+3<n*7 by omega)
 obtain⟨_,⟨⟩,h4⟩:=h.int (show k*7+4<n*7 by omega)
 obtain⟨_,⟨⟩,h5⟩:=h.int (show k*7+5<n*7 by omega)
 obtain⟨_,⟨⟩,h6⟩:=h.int (show k*7+6<n*7 by omega)
 rw[Hb] at h0;rw[←Cn _ _ 1 Ah] at h1;rw[←Cn _ _ 2 Ah] at h2;rw[←Cn _ _ 3 Ah] at h3;rw[←Cn _ _ 4 Ah] at h4;rw[←Cn _ _ 5 Ah] at h5;rw[←Cn _ _ 6 Ah] at h6;exact⟨_,rfl,h0,h1,h2,h3,h4,h5,h6⟩
def FY (xs:List Int) (k:Nat):Bool:=Cm (xs.getD (k*7) 0) (xs.getD (k*7+1) 0) (xs.getD (k*7+2) 0) (xs.getD (k*7+3) 0) (xs.getD (k*7+4) 0) (xs.getD (k*7+5) 0) (xs.getD (k*7+6) 0)
def CP (xs:List Int) (n:Nat):Bool:=(List.range n).all (FY xs)
theorem FZ (xs:List Int) (n:Nat):CP xs (n+1)=(CP xs n && FY xs n):=by unfold CP;rw[I6,List.all_append];simp
theorem Mw {xs:List Int} {k n:Nat} (h:FY xs k=false) (hk:k<n):CP xs n=false:=by
 unfold CP;rw[JV];intro c;have:=List.all_eq_true.1 c k (Eo.2 hk);rw[h] at this
 cases this
theorem GS {xs:List Int} {k n:Nat} (h:CP xs n=true) (hk:k<n):FY xs k=true:=List.all_eq_true.1 h k (Eo.2 hk)
def FT (xs:List Int) (n:Nat):Bool:=CP xs n && decide ((n:Int)≤200)
theorem Jj (t k l x y d r:Int) (w:World):
  (BT 80 #[AD t k l x y d r] w (.bool (!(Cm t k l x y d r))):Prop):=by
 have b0:Below w w (w.alloc (.cells (fM t k l x y d r) 67)):=BU;unfold fM at b0;rcases BA (Cm t k l x y d r) with h|h
 all_goals
  go_enter func80,ntmps80
  go_wp2_with fail
  refine(Ed t k l x y d r _).mono ?_;rintro e w1 ⟨rfl,b1⟩;have b2:=An b0 b1;go_wp2;go_ret;exact⟨Af (by rw[h];rfl),b2⟩
theorem MN (A:Option Addr) (n c:Nat) (xs:List Int) (w:World) (hn:n≤9223372036854775807) (hr:Rd w A (n*7) (ints xs)):
  Calls prog 112 #[.slice A n c,.func (.func 80) #[] #[]] w fun e w'=> ∃v:Int,e=.returned (ZI v)∧(decide (v ≥ 0))= !(CP xs n)∧Below w w w':=by
 go_enter func112,ntmps112
 go_wp2
 go_loopw [8] (fun i wr=> ∃k:Nat,k≤n∧i=.int .i64 k∧CP xs k=true∧Below w w wr)
  (fun i _=>n-(intOf i).toNat)
 case atStart=>exact⟨0,AZ _,rfl,rfl,AP _ _⟩
 case round=>
  obtain⟨k,hk,rfl,hall,hbel⟩:=hrel;have HA:=Ai hall;clear hall
  by_cases hlt:k<n
  ·skip
   obtain⟨ad,rfl,hx0,hx1,hx2,hx3,hx4,hx5,hx6⟩:=(hr.below hbel).seven hlt;have HS:Hid (CP xs (k+1)=(CP xs k && FY xs k)):=FZ xs k;have HF:Hid (FY xs k=false→CP xs n=false):=fun h=>Mw h hlt;have HP:Hid (FY xs k=Cm (xs.getD (k*7) 0) (xs.getD (k*7+1) 0) (xs.getD (k*7+2) 0) (xs.getD (k*7+3) 0) (xs.getD (k*7+4) 0) (xs.getD (k*7+5) 0) (xs.getD (k*7+6) 0)):=rfl;have hi0:(0:Int)≤(k:Int):=Aa;have hi1:(k:Int)<(n:Int):=Aa;generalize xs.getD (k*7) 0=x0 at*;generalize xs.getD (k*7+1) 0=x1 at*;generalize xs.getD (k*7+2) 0=x2 at*;generalize xs.getD (k*7+3) 0=x3 at*;generalize xs.getD (k*7+4) 0=x4 at*;generalize xs.getD (k*7+5) 0=x5 at*;generalize xs.getD (k*7+6) 0=x6 at*;rcases BA (Cm x0 x1 x2 x3 x4 x5 x6) with h|h
   ·have HH:=Ai h
    go_wp2_with fail
    refine(Jj x0 x1 x2 x3 x4 x5 x6 _).mono ?_;rw[HH.out];rintro e w1 ⟨rfl,b1⟩;have b2:=An hbel b1;go_wp2
    go_roundw
    case rel=>exact⟨k+1,by omega,by go_num,by rw[HS.out,HA.out,HP.out,HH.out];rfl,b2⟩
    case measure=>simp[intOf];omega
   ·have HH:=Ai h
    go_wp2_with fail
    refine(Jj x0 x1 x2 x3 x4 x5 x6 _).mono ?_;rw[HH.out];rintro e w1 ⟨rfl,b1⟩;have b2:=An hbel b1;go_wp2;go_ret;exact⟨k,rfl,by rw[HF.out (by rw[HP.out,HH.out])];simp,b2⟩
  ·obtain rfl:k=n:=Aa;go_wp2;go_ret;exact⟨-1,rfl,by rw[HA.out];rfl,hbel⟩
theorem JA (A:Option Addr) (n c:Nat) (xs:List Int) (w:World) (hn:n≤9223372036854775807) (hr:Rd w A (n*7) (ints xs)):
  (BT 79 #[.slice A n c,.func (.func 80) #[] #[]] w (.bool (!(CP xs n))):Prop):=by
 go_enter func79,ntmps79
 go_wp2_with (go_at_call 112;refine(MN _ _ _ xs _ hn hr).mono ?_;rintro e w' ⟨v,rfl,hv,hb⟩)
 go_ret;exact⟨Af (by rw[←hv]),hb⟩
theorem XK (A:Option Addr) (n c:Nat) (xs:List Int) (w:World) (hn:n≤9223372036854775807) (hr:Rd w A (n*7) (ints xs)):
  (BT 51 #[.slice A n c] w (.bool (FT xs n)):Prop):=by
 have HL:Hid (FT xs n=(CP xs n && decide ((n:Int)≤200))):=rfl
 by_cases h:(n:Int)≤200
 ·go_enter func51,ntmps51
  go_wp2_with (go_at_call 79;refine(JA _ _ _ xs _ hn hr).mono ?_;rintro e w' ⟨rfl,hb⟩)
  go_ret;exact⟨Af (by rw[HL.out,BC h];simp),hb⟩
 ·go_enter func51,ntmps51
  go_wp2_with fail
  go_ret;exact⟨Af (by rw[HL.out,BR Aa];simp),AP _ _⟩
theorem Oi (A:Option Addr) (n c:Nat) (xs:List Int) (w:World) (hn:n≤9223372036854775807) (hr:Rd w A (n*7) (ints xs)):
  (BT 53 #[.slice A n c] w (.bool (FT xs n)):Prop):=by
 have HL:Hid (FT xs n=(CP xs n && decide ((n:Int)≤200))):=rfl
 go_enter func53,ntmps53
 go_wp2
 go_loopw [3] (fun i wr=> ∃k:Nat,k≤n∧i=.int .i64 k∧CP xs k=true∧Below w w wr)
  (fun i _=>n-(intOf i).toNat)
 case atStart=>exact⟨0,AZ _,rfl,rfl,AP _ _⟩
 case round=>
  obtain⟨k,hk,rfl,hall,hbel⟩:=hrel;have HA:=Ai hall;clear hall
  by_cases hlt:k<n
  ·skip
   obtain⟨ad,rfl,hx0,hx1,hx2,hx3,hx4,hx5,hx6⟩:=(hr.below hbel).seven hlt;have HS:Hid (CP xs (k+1)=(CP xs k && FY xs k)):=FZ xs k;have HF:Hid (FY xs k=false→CP xs n=false):=fun h=>Mw h hlt;have HP:Hid (FY xs k=Cm (xs.getD (k*7) 0) (xs.getD (k*7+1) 0) (xs.getD (k*7+2) 0) (xs.getD (k*7+3) 0) (xs.getD (k*7+4) 0) (xs.getD (k*7+5) 0) (xs.getD (k*7+6) 0)):=rfl;have hi0:(0:Int)≤(k:Int):=Aa;have hi1:(k:Int)<(n:Int):=Aa;generalize xs.getD (k*7) 0=x0 at*;generalize xs.getD (k*7+1) 0=x1 at*;generalize xs.getD (k*7+2) 0=x2 at*;generalize xs.getD (k*7+3) 0=x3 at*;generalize xs.getD (k*7+4) 0=x4 at*;generalize xs.getD (k*7+5) 0=x5 at*;generalize xs.getD (k*7+6) 0=x6 at*;rcases BA (Cm x0 x1 x2 x3 x4 x5 x6) with h|h
   ·have HH:=Ai h
    go_wp2_with fail
    refine(Dt x0 x1 x2 x3 x4 x5 x6 _).mono ?_;rw[HH.out];rintro e w1 ⟨rfl,b1⟩;have b2:=An hbel b1;go_wp2
    go_roundw
    case rel=>exact⟨k+1,by omega,by go_num,by rw[HS.out,HA.out,HP.out,HH.out];rfl,b2⟩
    case measure=>simp[intOf];omega
   ·have HH:=Ai h
    go_wp2_with fail
    refine(Dt x0 x1 x2 x3 x4 x5 x6 _).mono ?_;rw[HH.out];rintro e w1 ⟨rfl,b1⟩;have b2:=An hbel b1;go_wp2;go_ret;exact⟨Af (by rw[HL.out,HF.out (by rw[HP.out,HH.out])];rfl),b2⟩
  ·obtain rfl:k=n:=Aa;go_wp2;go_ret;exact⟨Af (by rw[HL.out,HA.out];rfl),hbel⟩
structure AG where
 depths:Hd
 speeds:Hd
 log:Hd
structure Ae where
 depths:List Int
 speeds:List Int
 source:Int
 cos:Int
 sin:Int
 hyp:Int
 log:List Int
def At (h:AG) (l:Ae):Value:=.agg #[.slice h.depths.A h.depths.n h.depths.c,.slice h.speeds.A h.speeds.n h.speeds.c,.int .i64 l.source,.int .i64 l.cos,.int .i64 l.sin,.int .i64 l.hyp,.slice h.log.A h.log.n h.log.c]
def Ar (h:AG) (l:Ae):List Sl:= [⟨h.depths.A,h.depths.n,ints l.depths⟩,⟨h.speeds.A,h.speeds.n,ints l.speeds⟩,⟨h.log.A,(h.log.n*7),ints l.log⟩]
def BK (h:AG):List (Option Nat):= [blkp h.depths.A h.depths.n,blkp h.speeds.A h.speeds.n,blkp h.log.A (h.log.n*7)]
def GW (h:AG):Prop:=h.depths.n≤1048576∧h.speeds.n≤1048576∧h.log.n≤1048576
section
variable (a b c d e f g h i j k l a1 b1 c1 d1 e1 f1 g1 h1 i1 j1 k1 l1:Int)(A B C D E F G A1 B1 C1 D1 E1 F1 G1:Option Addr)(m n o p q r s t u v w x y z m1 n1 o1 p1 q1 r1 s1 t1 u1 v1 w1 x1 y1 z1:Nat)(X Y Z X1 Y1 Z1:Bool)(T:Ae)
def BQ(_:Option Addr)(_ _:Nat)(_:Option Addr)(_ _:Nat)(_:Ae)(_:Option Addr)(_ _:Nat)(_:Int):ZT:=.m
instance:CoeDep ZT (BQ A m n B o p T C q r e) (Array Value):=⟨#[.agg #[.slice A m n,.slice B o p,.int .i64 T.source,.int .i64 T.cos,.int .i64 T.sin,.int .i64 T.hyp,.slice C q r],.int .i64 e]⟩
def Ad(_:Option Addr)(_ _:Nat)(_:Option Addr)(_ _:Nat)(_:Ae)(_:Option Addr)(_ _:Nat):ZT:=.m
instance:CoeDep ZT (Ad A m n B o p T C q r) (Array Value):=⟨#[.slice A m n,.slice B o p,.int .i64 T.source,.int .i64 T.cos,.int .i64 T.sin,.int .i64 T.hyp,.slice C q r]⟩
instance:CoeDep ZT (Ad A m n B o p T C q r) Value:=⟨.agg (Ad A m n B o p T C q r)⟩
end
def BI (n m:Nat) (ds ss:List Int):Bool:=inR (n:Int) 2 12 && (decide ((m:Int)=(n:Int)) && (FF ds 1000001 && (decide (ds.getD 0 0=0) && BV ss 1300000 1700000)))
theorem FQ (A:Option Addr) (n c:Nat) (w:World) (_:n≤9223372036854775807):
  (GK 74 #[.slice A n c] w (ZI n):Prop):=by
 go_enter func74,ntmps74
 go_wp2;go_ret;exact⟨rfl,rfl⟩
theorem EL (A0 A1:Option Addr) (n m c d:Nat) (ds ss:List Int) (w:World) (hn:n≤9223372036854775807) (hm:m≤9223372036854775807) (r0:Rd w A0 n (ints ds)) (r1:Rd w A1 m (ints ss)):
  (BT 48 #[CH A0 n c A1 m d] w (.bool (BI n m ds ss)):Prop):=by
 have HL1:=Ai r1.len
 go_enter func48,ntmps48
 go_upto_region 1 with fail
 generalize hG:w.alloc _=w1;obtain⟨K0,b0⟩:=EX hG;clear hG;have e0:=K0.cell;have g0:=K0.lt;rcases BA (inR (n:Int) 2 12) with q0|q0
 rotate_left
 ·skip
  have HV:Hid (BI n m ds ss=false):=by unfold Hid BI;simp[q0]
  go_wp2_with fail
  refine(FQ _ _ _ _ hn).mono ?_;rintro e w' ⟨rfl,rfl⟩
  go_wp2_with fail
  refine(As _ _ _ _).mono ?_;rintro e w' ⟨rfl,rfl⟩;go_wp2;go_ret;exact⟨Af (by first|exact HV.out.symm|(rw[HV.out];done)|(rw[HV.out];simp;done)),b0⟩
 by_cases q1:(m:Int)=(n:Int)
 rotate_left
 ·have HV:Hid (BI n m ds ss=false):=by unfold Hid BI;simp[q0,q1]
  go_wp2_with fail
  refine(FQ _ _ _ _ hn).mono ?_;rintro e w' ⟨rfl,rfl⟩
  go_wp2_with fail
  refine(As _ _ _ _).mono ?_;rintro e w' ⟨rfl,rfl⟩;go_wp2;go_ret;exact⟨Af (by first|exact HV.out.symm|(rw[HV.out];done)|(rw[HV.out];simp;done)),b0⟩
 obtain rfl:n=m:=Aa;rcases BA (FF ds 1000001) with q2|q2
 rotate_left
 ·skip
  have HV:Hid (BI n n ds ss=false):=by unfold Hid BI;simp[q2]
  go_wp2_with fail
  refine(FQ _ _ _ _ hn).mono ?_;rintro e w' ⟨rfl,rfl⟩
  go_wp2_with fail
  refine(As _ _ _ _).mono ?_;rintro e w' ⟨rfl,rfl⟩
  go_wp2_with fail
  refine(Fx _ _ _ ds _ _ (by have:=Ac q0;omega) (r0.below b0)).mono ?_
  rintro e w2 ⟨rfl,b2⟩;have b3:=An b0 b2;replace K0:=K0.below b2 g0;replace e0:=K0.cell;clear b2;have hpos:0<n:=by have:=Ac q0;omega
  obtain⟨ad,rfl,hx⟩:=(r0.below b3).int (show 0<n by have:=Ac q0;omega)
  rw[Gu] at hx;go_wp2;go_ret;exact⟨Af (by first|exact HV.out.symm|(rw[HV.out];done)|(rw[HV.out];simp;done)),b3⟩
 by_cases q3:ds.getD 0 0=0
 rotate_left
 ·skip
  have HV:Hid (BI n n ds ss=false):=by unfold Hid BI;simp[q3,-List.getD_eq_getElem?_getD]
  go_wp2_with fail
  refine(FQ _ _ _ _ hn).mono ?_;rintro e w' ⟨rfl,rfl⟩
  go_wp2_with fail
  refine(As _ _ _ _).mono ?_;rintro e w' ⟨rfl,rfl⟩
  go_wp2_with fail
  refine(Fx _ _ _ ds _ _ (by have:=Ac q0;omega) (r0.below b0)).mono ?_
  rintro e w2 ⟨rfl,b2⟩;have b3:=An b0 b2;replace K0:=K0.below b2 g0;replace e0:=K0.cell;clear b2;have hpos:0<n:=by have:=Ac q0;omega
  obtain⟨ad,rfl,hx⟩:=(r0.below b3).int (show 0<n by have:=Ac q0;omega)
  rw[Gu] at hx;generalize ds.getD 0 0=x at*;go_wp2;go_ret;exact⟨Af (by first|exact HV.out.symm|(rw[HV.out];done)|(rw[HV.out];simp;done)),b3⟩
 have HV:Hid (BI n n ds ss=BV ss 1300000 1700000):=by unfold Hid BI;simp[q0,q2,q3,-List.getD_eq_getElem?_getD]
 go_wp2_with fail
 refine(FQ _ _ _ _ hn).mono ?_;rintro e w' ⟨rfl,rfl⟩
 go_wp2_with fail
 refine(As _ _ _ _).mono ?_;rintro e w' ⟨rfl,rfl⟩
 go_wp2_with fail
 refine(Fx _ _ _ ds _ _ (by have:=Ac q0;omega) (r0.below b0)).mono ?_
 rintro e w2 ⟨rfl,b2⟩;have b3:=An b0 b2;replace K0:=K0.below b2 g0;replace e0:=K0.cell;clear b2;have hpos:0<n:=by have:=Ac q0;omega
 obtain⟨ad,rfl,hx⟩:=(r0.below b3).int (show 0<n by have:=Ac q0;omega)
 rw[Gu] at hx;rw[q3] at hx
 go_wp2_with fail
 refine(Fb _ _ _ ss _ _ _ hm (r1.below b3)).mono ?_;rintro e w' ⟨rfl,rfl⟩;go_wp2;go_ret;exact⟨Af (by first|exact HV.out.symm|(rw[HV.out];done)|(rw[HV.out];simp;done)),b3⟩
theorem Cv (A0 A1:Option Addr) (n m c d:Nat) (ds ss:List Int) (w:World) (hn:n≤9223372036854775807) (hm:m≤9223372036854775807) (r0:Rd w A0 n (ints ds)) (r1:Rd w A1 m (ints ss)):
  (BT 82 #[CH A0 n c A1 m d] w (.bool (BI n m ds ss)):Prop):=by
 have HL1:=Ai r1.len
 go_enter func82,ntmps82
 go_upto_region 1 with fail
 generalize hG:w.alloc _=w1;obtain⟨K0,b0⟩:=EX hG;clear hG;have e0:=K0.cell;have g0:=K0.lt;rcases BA (inR (n:Int) 2 12) with q0|q0
 rotate_left
 ·skip
  have HV:Hid (BI n m ds ss=false):=by unfold Hid BI;simp[q0]
  by_cases k:(n:Int)<2
  ·skip
   go_wp2;go_ret;exact⟨Af (by first|exact HV.out.symm|(rw[HV.out];done)|(rw[HV.out];simp;done)),b0⟩
  ·have k2:(12:Int)<(n:Int):=by have:=Qo q0;omega
   go_wp2;go_ret;exact⟨Af (by first|exact HV.out.symm|(rw[HV.out];done)|(rw[HV.out];simp;done)),b0⟩
 have k1: ¬(n:Int)<2:=by have:=Ac q0;omega
 have k2: ¬(12:Int)<(n:Int):=by have:=Ac q0;omega
 by_cases q1:(m:Int)=(n:Int)
 rotate_left
 ·have HV:Hid (BI n m ds ss=false):=by unfold Hid BI;simp[q0,q1]
  go_wp2;go_ret;exact⟨Af (by first|exact HV.out.symm|(rw[HV.out];done)|(rw[HV.out];simp;done)),b0⟩
 obtain rfl:n=m:=Aa;rcases BA (FF ds 1000001) with q2|q2
 rotate_left
 ·skip
  have HV:Hid (BI n n ds ss=false):=by unfold Hid BI;simp[q2]
  go_wp2_with fail
  refine(Fy _ _ _ ds _ _ (by have:=Ac q0;omega) (r0.below b0)).mono ?_
  rintro e w2 ⟨rfl,b2⟩;have b3:=An b0 b2;replace K0:=K0.below b2 g0;replace e0:=K0.cell;clear b2;have hpos:0<n:=by have:=Ac q0;omega
  obtain⟨ad,rfl,hx⟩:=(r0.below b3).int (show 0<n by have:=Ac q0;omega)
  rw[Gu] at hx;go_wp2;go_ret;exact⟨Af (by first|exact HV.out.symm|(rw[HV.out];done)|(rw[HV.out];simp;done)),b3⟩
 by_cases q3:ds.getD 0 0=0
 rotate_left
 ·skip
  have HV:Hid (BI n n ds ss=false):=by unfold Hid BI;simp[q3,-List.getD_eq_getElem?_getD]
  go_wp2_with fail
  refine(Fy _ _ _ ds _ _ (by have:=Ac q0;omega) (r0.below b0)).mono ?_
  rintro e w2 ⟨rfl,b2⟩;have b3:=An b0 b2;replace K0:=K0.below b2 g0;replace e0:=K0.cell;clear b2;have hpos:0<n:=by have:=Ac q0;omega
  obtain⟨ad,rfl,hx⟩:=(r0.below b3).int (show 0<n by have:=Ac q0;omega)
  rw[Gu] at hx;generalize ds.getD 0 0=x at*;go_wp2;go_ret;exact⟨Af (by first|exact HV.out.symm|(rw[HV.out];done)|(rw[HV.out];simp;done)),b3⟩
 have HV:Hid (BI n n ds ss=BV ss 1300000 1700000):=by unfold Hid BI;simp[q0,q2,q3,-List.getD_eq_getElem?_getD]
 go_wp2_with fail
 refine(Fy _ _ _ ds _ _ (by have:=Ac q0;omega) (r0.below b0)).mono ?_
 rintro e w2 ⟨rfl,b2⟩;have b3:=An b0 b2;replace K0:=K0.below b2 g0;replace e0:=K0.cell;clear b2;have hpos:0<n:=by have:=Ac q0;omega
 obtain⟨ad,rfl,hx⟩:=(r0.below b3).int (show 0<n by have:=Ac q0;omega)
 rw[Gu] at hx;rw[q3] at hx
 go_wp2_with fail
 have HO:Hid (Hn ss 12 1300000 1700000=BV ss 1300000 1700000):=by
  unfold Hid Hn;rw[HL1.out,BC (by have:=Ac q0;omega),Ha]
 refine(Gw _ _ _ ss _ _ _ _ hm (r1.below b3)).mono ?_;rintro e w' ⟨rfl,rfl⟩;rw[HO.out];go_wp2;go_ret;exact⟨Af (by first|exact HV.out.symm|(rw[HV.out];done)|(rw[HV.out];simp;done)),b3⟩
theorem TN (A0 A1:Option Addr) (n m c d:Nat) (w:World) (hn:n≤9223372036854775807):
  (BT 77 #[CH A0 n c A1 m d] w (ZI ((n:Int)-1)):Prop):=by
 have b0:Below w w (w.alloc (.cells (CH A0 n c A1 m d) 30)):=BU
 go_enter func77,ntmps77
 go_wp2_with (go_at_call 74;refine(FQ _ _ _ _ hn).mono ?_;rintro e w' ⟨rfl,rfl⟩)
 go_ret;exact⟨rfl,b0⟩
theorem FM (A0 A1:Option Addr) (n m c d:Nat) (x:Int) (w:World) (hn:n≤9223372036854775807):
  (BT 49 (EK A0 n c A1 m d x) w (.bool (inR x 0 ((n:Int)-1))):Prop):=by
 have b0:Below w w (w.alloc (.cells (CH A0 n c A1 m d) 30)):=BU
 go_enter func49,ntmps49
 go_wp2_with fail
 refine(TN _ _ _ _ _ _ _ hn).mono ?_;rintro e w1 ⟨rfl,b1⟩;have b2:=An b0 b1
 go_wp2_with fail
 refine(As _ _ _ _).mono ?_;rintro e w' ⟨rfl,rfl⟩;go_wp2;go_ret;exact⟨rfl,b2⟩
def codeB (n m:Nat) (ds ss:List Int) (x x3 x4 x5:Int):Int:=if(BI n m ds ss && DO x3 x4 x5)=true then(if inR x 0 ((n:Int)-1)=true then 0 else 2) else 1
theorem TE (A0 A1:Option Addr) (n m c d:Nat) (ds ss:List Int) (x x3 x4 x5:Int) (w:World) (hn:n≤9223372036854775807) (hm:m≤9223372036854775807) (r0:Rd w A0 n (ints ds)) (r1:Rd w A1 m (ints ss)):
  (BT 52 #[CH A0 n c A1 m d,ZI x,Ziii x3 x4 x5,ZI 0] w (ZI (codeB n m ds ss x x3 x4 x5)):Prop):=by
 have HB:Hid (codeB n m ds ss x x3 x4 x5=if(BI n m ds ss && DO x3 x4 x5)=true then(if inR x 0 ((n:Int)-1)=true then 0 else 2) else 1):=rfl;generalize codeB n m ds ss x x3 x4 x5=res at HB⊢
 go_enter func52,ntmps52
 go_upto_region 1 with fail
 generalize hG:(w.alloc _).alloc _=w1;obtain⟨K0,K1,b0⟩:=Qg hG;clear hG;have e0:=K0.cell;have g0:=K0.lt;have g1:=K1.lt;rcases BA (BI n m ds ss) with q0|q0
 rotate_left
 ·skip
  go_wp2_with fail
  refine(Cv A0 A1 n m c d ds ss _ hn hm (r0.below b0) (r1.below b0)).mono ?_;rintro e w2 ⟨rfl,b2⟩;replace b0:=An b0 b2;clear b2;have HV:Hid (res=1):=by rw[HB.out];unfold Hid;simp[q0]
  go_wp2;go_ret;exact⟨Bb DL,b0⟩
 have hlen:(2:Int)≤(n:Int)∧(n:Int)≤12:=by
  unfold BI at q0;rw[CD] at q0;exact Ac q0.1
 obtain⟨len1,len2⟩:=hlen;rcases BA (DO x3 x4 x5) with q1|q1
 rotate_left
 ·skip
  go_wp2_with fail
  refine(Cv A0 A1 n m c d ds ss _ hn hm (r0.below b0) (r1.below b0)).mono ?_;rintro e w2 ⟨rfl,b2⟩;replace K1:=K1.below b2 g1;replace e1:=K1.cell;replace b0:=An b0 b2;clear b2
  go_wp2_with fail
  refine(Dp x3 x4 x5 _).mono ?_;rintro e w3 ⟨rfl,b3⟩;replace b0:=An b0 b3;clear b3;have HV:Hid (res=1):=by rw[HB.out];unfold Hid;simp[q1]
  go_wp2;go_ret;exact⟨Bb DL,b0⟩
 have q3:inR 0 0 ((n:Int)-1)=true:=CN Aa Aa;rcases BA (inR x 0 ((n:Int)-1)) with q2|q2
 rotate_left
 ·skip
  go_wp2_with fail
  refine(Cv A0 A1 n m c d ds ss _ hn hm (r0.below b0) (r1.below b0)).mono ?_;rintro e w2 ⟨rfl,b2⟩;replace K0:=K0.below b2 g0;replace g0:=K0.lt;replace K1:=K1.below b2 g1;replace e1:=K1.cell;replace b0:=An b0 b2;clear b2
  go_wp2_with fail
  refine(Dp x3 x4 x5 _).mono ?_;rintro e w3 ⟨rfl,b3⟩;replace K0:=K0.below b3 g0;replace e0:=K0.cell;replace b0:=An b0 b3;clear b3
  go_wp2_with fail
  refine(Ay _ _ _ _).mono ?_;rintro e w' ⟨rfl,rfl⟩;have HV:Hid (res=2):=by rw[HB.out];unfold Hid;simp[q0,q1,q2]
  go_wp2;go_ret;exact⟨Bb DL,b0⟩
 go_wp2_with fail
 refine(Cv A0 A1 n m c d ds ss _ hn hm (r0.below b0) (r1.below b0)).mono ?_;rintro e w2 ⟨rfl,b2⟩;replace K0:=K0.below b2 g0;replace g0:=K0.lt;replace K1:=K1.below b2 g1;replace e1:=K1.cell;replace b0:=An b0 b2;clear b2
 go_wp2_with fail
 refine(Dp x3 x4 x5 _).mono ?_;rintro e w3 ⟨rfl,b3⟩;replace K0:=K0.below b3 g0;replace e0:=K0.cell;replace b0:=An b0 b3;clear b3
 go_wp2_with fail
 refine(Ay _ _ _ _).mono ?_;rintro e w' ⟨rfl,rfl⟩
 go_wp2_with fail
 refine(Ay _ _ _ _).mono ?_;rintro e w' ⟨rfl,rfl⟩;have HV:Hid (res=0):=by rw[HB.out];unfold Hid;simp[q0,q1,q2]
 go_wp2;go_ret;exact⟨Bb DL,b0⟩


def isq:Nat→Nat
 |0=>0
 |n+1=>if(isq n+1)*(isq n+1)≤n+1 then isq n+1 else isq n
theorem ZC: ∀n,isq n*isq n≤n∧n<(isq n+1)*(isq n+1)
 |0=>by simp[isq]
 |n+1=>by
  have ih:=ZC n;unfold isq
  split
  ·next h=>
   refine⟨h,?_⟩;have e:(isq n+1+1)*(isq n+1+1)=(isq n+1)*(isq n+1)+2*(isq n+1)+1:=by rw[Nat.add_mul,Nat.mul_add];omega
   omega
  ·next h=>exact⟨by omega,by omega⟩
def rD (n:Int):Int:=(isq n.toNat:Int)
def rU (n:Int):Int:=if rD n*rD n<n then rD n+1 else rD n
theorem Mv {n:Int} (h:0≤n):0≤rD n∧rD n*rD n≤n∧n<(rD n+1)*(rD n+1):=by
 have b:=ZC n.toNat;unfold rD;refine⟨Int.natCast_nonneg _,?_,?_⟩
 ·rw[←Int.natCast_mul];omega
 ·have e:((isq n.toNat:Int)+1)*((isq n.toNat:Int)+1)=(((isq n.toNat+1)*(isq n.toNat+1):Nat):Int):=by push_cast;rfl
  rw[e];omega
theorem OZ {a b:Int} (ha:0≤a) (hb:0≤b) (h:a*a<(b+1)*(b+1)):a≤b:=by
 rcases Eg b a with c|c
 ·exfalso
  have h1:b+1≤a:=c;have h2:(b+1)*(b+1)≤a*a:=CL h1 h1 Aa ha;omega
 ·exact c
theorem dU {n r:Int} (h0:0≤r) (h1:r*r≤n) (h2:n<(r+1)*(r+1)):rD n=r:=by
 have hn:0≤n:=Int.le_trans (Du h0 h0) h1;obtain⟨b0,b1,b2⟩:=Mv hn;have c1:=OZ b0 h0 Aa;have c2:=OZ h0 b0 Aa;omega
theorem eU {n:Int} (h:1≤n):1≤rD n:=by
 obtain⟨b0,b1,b2⟩:=Mv (n:=n) Aa;rcases Eg (rD n) 1 with c|c
 ·have e:rD n=0:=Aa;rw[e] at b2;omega
 ·exact c
theorem Z9 {n:Int} {M:Int} (h:0≤n) (hM:0≤M) (hn:n<(M+1)*(M+1)):rD n≤M:=by
 obtain⟨b0,b1,b2⟩:=Mv h;exact OZ b0 hM Aa
theorem aa {n:Int}:rD n≤rU n∧rU n≤rD n+1:=by unfold rU;split<;>omega
structure Al where
 ds:List Int
 ss:List Int
 src:Nat
 c:Int
 s:Int
 h:Int
structure A8 (r:Al):Prop where
 prof:BI r.ds.length r.ss.length r.ds r.ss=true
 dir:DO r.c r.s r.h=true
 src:r.src<r.ds.length
def Al.wh (r:Al):Int:=r.h*r.ss.getD r.src 0
def Al.pt (r:Al) (k:Nat):Int:=r.c*r.ss.getD k 0
def Al.sq (r:Al) (k:Nat):Int:=r.wh*r.wh-r.pt k*r.pt k
def Al.can (r:Al) (k:Nat):Bool:=decide (r.pt k<r.wh)
def Al.thick (r:Al) (a b:Nat):Int:=((r.ds.getD b 0-r.ds.getD a 0).natAbs:Int)
def Al.rise (r:Al) (a b:Nat):Int:=r.pt b-r.pt a
def Al.crN (r:Al) (a b:Nat):Int:=r.thick a b*(r.pt a+r.pt b)
def Al.crLo (r:Al) (a b:Nat):Int:=r.crN a b/(rU (r.sq a)+rU (r.sq b))
def Al.crHi (r:Al) (a b:Nat):Int:= -(-(r.crN a b)/(rD (r.sq a)+rD (r.sq b)))
def Al.tuLo (r:Al) (a b:Nat):Int:=2*r.thick a b*rD (r.sq a)/r.rise a b
def Al.tuHi (r:Al) (a b:Nat):Int:= -(-(2*r.thick a b*rU (r.sq a))/r.rise a b)
def isV (x:Int):Bool:=inR x (-1000000000000) 1000000000000
def Al.paLo (r:Al) (a b:Nat):Int:=if r.can b=true then r.crLo a b else r.tuLo a b
def Al.paHi (r:Al) (a b:Nat):Int:=if r.can b=true then r.crHi a b else r.tuHi a b
structure En where
 k:Nat
 dn:Bool
 lo:Int
 hi:Int
def Al.first (r:Al):En:=⟨r.src,decide (0<r.s),0,0⟩
def Al.nxt (r:Al) (x:En):Option (Nat×Nat):=
 if x.dn=true then(if x.k+1<r.ds.length then some (x.k,x.k+1) else none)
 else if 0<x.k then some (x.k,x.k-1) else none
structure AU where
 st:En
 ev:Int
 lo:Int
 hi:Int
def Al.step (r:Al) (x:En):Option AU:=
 match r.nxt x with
 |none=>some ⟨⟨x.k,!x.dn,x.lo,x.hi⟩,if x.dn=true then 4 else 3,0,0⟩
 |some (a,b)=>
  if isV (r.paLo a b)=true∧isV (r.paHi a b)=true∧isV (x.lo+r.paLo a b)=true∧isV (x.hi+r.paHi a b)=true then
   (if r.can b=true then some ⟨⟨b,x.dn,x.lo+r.paLo a b,x.hi+r.paHi a b⟩,1,r.paLo a b,r.paHi a b⟩
    else some ⟨⟨x.k,!x.dn,x.lo+r.paLo a b,x.hi+r.paHi a b⟩,2,r.paLo a b,r.paHi a b⟩)
  else none
structure Jt (r:Al) (x:En):Prop where
 k:x.k<r.ds.length
 can:r.can x.k=true
 lo:isV x.lo=true
 hi:isV x.hi=true
def Al.tr (r:Al):Nat→Option (En×List AU)
 |0=>some (r.first,[])
 |n+1=>match r.tr n with
  |none=>none
  |some (x,l)=>match r.step x with
   |none=>none
   |some y=>some (y.st,l++ [y])
theorem ed {c s h:Int} (hd:DO c s h=true):1≤c∧c≤1000∧1≤h∧h≤1000∧c<h∧ -1000≤s∧s≤1000∧s≠0:=by
 unfold DO at hd;simp only[CD,Bool.not_eq_true',BP,decide_eq_false_iff_not] at hd;obtain⟨h1,h2,h3,h4,h5,-⟩:=hd;obtain⟨a1,a2⟩:=Ac h1;obtain⟨b1,b2⟩:=Ac h2;obtain⟨d1,d2⟩:=Ac h3;refine⟨b1,b2,a1,a2,?_,d1,d2,h4⟩
 have hs:1≤s*s:=by
  rcases Int.lt_or_gt_of_ne h4 with o|o
  ·have:=CL (show 1≤ -s by omega) (show 1≤ -s by omega) Aa Aa;rw[Int.neg_mul_neg] at this;omega
  ·have:=CL (show 1≤s by omega) (show 1≤s by omega) Aa Aa;omega
 rcases Eg c h with o|o
 ·exact o
 ·exfalso
  have:=CL o o Aa Aa;omega
section
variable {r : Al} (R : A8 r)
include R
theorem A8.len:2≤r.ds.length∧r.ds.length≤12∧r.ss.length=r.ds.length:=by
 have h:=R.prof;unfold BI at h;simp only[CD,BP] at h;have:=Ac h.1;refine⟨by omega,by omega,by have:=h.2.1;omega⟩
theorem A8.sp {k:Nat} (hk:k<r.ds.length):1300000≤r.ss.getD k 0∧r.ss.getD k 0≤1700000:=by
 have h:=R.prof;unfold BI at h;simp only[CD,BP] at h;exact EZ h.2.2.2.2 (by have:=R.len;omega)
theorem A8.dp {k:Nat} (hk:k<r.ds.length):0≤r.ds.getD k 0∧r.ds.getD k 0≤1000000:=by
 have h:=R.prof;unfold BI at h;simp only[CD,BP] at h;have:=Sh h.2.2.1 (r.ds.getD k 0) (by rw[CJ hk];exact EH hk)
 omega
theorem A8.dir':1≤r.c∧r.c≤1000∧1≤r.h∧r.h≤1000∧r.c<r.h∧ -1000≤r.s∧r.s≤1000∧r.s≠0:=ed R.dir
theorem A8.pt_bd {k:Nat} (hk:k<r.ds.length):1300000≤r.pt k∧r.pt k≤1700000000:=by
 obtain⟨c1,c2,-⟩:=R.dir';obtain⟨s1,s2⟩:=R.sp hk;have h1:=CL c1 s1 Aa Aa;have h2:=CL c2 s2 Aa Aa;unfold Al.pt;omega
theorem A8.wh_bd:1300000≤r.wh∧r.wh≤1700000000:=by
 obtain⟨-,-,c1,c2,-⟩:=R.dir';obtain⟨s1,s2⟩:=R.sp R.src;have h1:=CL c1 s1 Aa Aa;have h2:=CL c2 s2 Aa Aa;unfold Al.wh;omega
theorem A8.can_src:r.can r.src=true:=by
 obtain⟨-,-,-,-,c1,-⟩:=R.dir';obtain⟨s1,s2⟩:=R.sp R.src;unfold Al.can Al.pt Al.wh;rw[BP];exact Int.mul_lt_mul_of_pos_right c1 Aa
theorem A8.whwh:0≤r.wh*r.wh∧r.wh*r.wh≤2890000000000000000:=by
 obtain⟨h1,h2⟩:=R.wh_bd;have a:=CL h2 h2 Aa Aa;have b:=Du (show 0≤r.wh by omega) (show 0≤r.wh by omega)
 omega
theorem A8.ptpt {k:Nat} (hk:k<r.ds.length):0≤r.pt k*r.pt k∧r.pt k*r.pt k≤2890000000000000000:=by
 obtain⟨h1,h2⟩:=R.pt_bd hk;have a:=CL h2 h2 Aa Aa;have b:=Du (show 0≤r.pt k by omega) (show 0≤r.pt k by omega)
 omega
theorem A8.sq_bd {k:Nat} (hk:k<r.ds.length): -2890000000000000000≤r.sq k∧r.sq k≤2890000000000000000:=by
 have:=R.whwh;have:=R.ptpt hk;unfold Al.sq;omega
omit R in
theorem OY (k:Nat):(r.wh-r.pt k)*(r.wh+r.pt k)=r.sq k:=by
 unfold Al.sq;rw[Int.sub_mul,Int.mul_add,Int.mul_add,Int.mul_comm (r.pt k) r.wh];omega
theorem A8.can_iff {k:Nat} (hk:k<r.ds.length):r.can k=decide (0<r.sq k):=by
 obtain⟨h1,-⟩:=R.wh_bd;obtain⟨p1,-⟩:=R.pt_bd hk;unfold Al.can;rw[decide_eq_decide,←OY]
 constructor
 ·intro h;exact Int.mul_pos Aa Aa
 ·intro h;rcases Eg (r.pt k) r.wh with o|o
  ·exact o
  ·have:=Du (show 0≤r.pt k-r.wh by omega) (show 0≤r.wh+r.pt k by omega)
   have e:(r.pt k-r.wh)*(r.wh+r.pt k)= -((r.wh-r.pt k)*(r.wh+r.pt k)):=by rw[←Int.neg_mul];congr 1;omega
   omega
theorem A8.sq1 {k:Nat} (hk:k<r.ds.length) (h:r.can k=true):1≤r.sq k:=by
 rw[R.can_iff hk,BP] at h;omega
theorem A8.rD_bd' {k:Nat} (hk:k<r.ds.length) (h:r.can k=true):1≤rD (r.sq k)∧rD (r.sq k)≤1700000000∧1≤rU (r.sq k)∧rU (r.sq k)≤1700000001:=by
 have h1:=R.sq1 hk h;have h2:=(R.sq_bd hk).2;have a:=eU h1;have b:=Z9 (n:=r.sq k) (M:=1700000000) Aa Aa Aa;have c:= @aa (r.sq k);omega
theorem A8.thick_bd {a b:Nat} (ha:a<r.ds.length) (hb:b<r.ds.length):0≤r.thick a b∧r.thick a b≤1000000:=by
 have:=R.dp ha;have:=R.dp hb;unfold Al.thick;omega
theorem A8.crN_bd {a b:Nat} (ha:a<r.ds.length) (hb:b<r.ds.length):0≤r.crN a b∧r.crN a b≤3400000000000000:=by
 obtain⟨t1,t2⟩:=R.thick_bd ha hb;have:=R.pt_bd ha;have:=R.pt_bd hb;have h1:=CL t2 (show r.pt a+r.pt b≤3400000000 by omega) Aa Aa
 have h2:=Du t1 (show 0≤r.pt a+r.pt b by omega)
 unfold Al.crN;omega
theorem A8.tuN_bd {a b:Nat} (ha:a<r.ds.length) (hb:b<r.ds.length) {q:Int} (h0:0≤q) (h1:q≤1700000001):0≤2*r.thick a b*q∧2*r.thick a b*q≤3500000000000000:=by
 obtain⟨t1,t2⟩:=R.thick_bd ha hb;have h1:=CL (show 2*r.thick a b≤2000000 by omega) h1 Aa Aa
 have h2:=Du (show 0≤2*r.thick a b by omega) h0
 omega
theorem A8.rise_bd {a b:Nat} (ha:a<r.ds.length) (hb:b<r.ds.length) (h1:r.can a=true) (h2:r.can b=false):1≤r.rise a b∧r.rise a b≤1700000000:=by
 have:=R.pt_bd ha;have:=R.pt_bd hb;unfold Al.can at h1 h2;rw[BP] at h1;rw[decide_eq_false_iff_not] at h2;unfold Al.rise;omega
omit R in
theorem Rk {n b M:Int} (h0:0≤n) (hM:n≤M) (hb:1≤b):0≤n/b∧n/b≤M∧0≤ -(-n/b)∧ -(-n/b)≤M:=by
 have a1:=Int.ediv_nonneg h0 (show 0≤b by omega)
 have a2:=Int.ediv_le_self b h0;have a3: -n/b<1:=Int.ediv_lt_of_lt_mul Aa Aa
 have a4: -M≤ -n/b:=Int.le_ediv_of_mul_le Aa (by
  have:=Gq hb (show 0≤M by omega)
  rw[Int.neg_mul];omega)
 omega
theorem A8.pa_bd {a b:Nat} (ha:a<r.ds.length) (hb:b<r.ds.length) (h:r.can a=true):0≤r.paLo a b∧r.paLo a b≤3500000000000000∧0≤r.paHi a b∧r.paHi a b≤3500000000000000:=by
 have qa:=R.rD_bd' ha h;unfold Al.paLo Al.paHi;rcases BA (r.can b) with o|o
 ·rw[AA o,AA o];have qb:=R.rD_bd' hb o;obtain⟨n0,n1⟩:=R.crN_bd ha hb;have d1:=Rk (b:=rU (r.sq a)+rU (r.sq b)) n0 n1 Aa;have d2:=Rk (b:=rD (r.sq a)+rD (r.sq b)) n0 n1 Aa;unfold Al.crLo Al.crHi;omega
 ·rw[Ak (by rw[o];decide),Ak (by rw[o];decide)]
  obtain⟨r1,r2⟩:=R.rise_bd ha hb h o;have n1:=R.tuN_bd ha hb (q:=rD (r.sq a)) Aa Aa;have n2:=R.tuN_bd ha hb (q:=rU (r.sq a)) Aa Aa;have d1:=Rk (b:=r.rise a b) n1.1 n1.2 r1;have d2:=Rk (b:=r.rise a b) n2.1 n2.2 r1;unfold Al.tuLo Al.tuHi;omega
theorem A8.nxt_in {x:En} (X:Jt r x) {a b:Nat} (h:r.nxt x=some (a,b)):a=x.k∧b<r.ds.length:=by
 unfold Al.nxt at h;have:=X.k
 split at h
 ·split at h
  ·simp only[Gs,Prod.mk.injEq] at h;omega
  ·cases h
 ·split at h
  ·simp only[Gs,Prod.mk.injEq] at h;omega
  ·cases h
theorem A8.first_ok:Jt r r.first:=⟨R.src,R.can_src,rfl,rfl⟩
theorem A8.step_ok {x:En} (X:Jt r x) {y:AU} (h:r.step x=some y):Jt r y.st:=by
 unfold Al.step at h
 split at h
 ·injection h with h;subst h;exact⟨X.k,X.can,X.lo,X.hi⟩
 ·next a b e=>
  obtain⟨rfl,hb⟩:=R.nxt_in X e
  split at h
  ·next g=>
   split at h
   ·next o=>injection h with h;subst h;exact⟨hb,o,g.2.2.1,g.2.2.2⟩
   ·injection h with h;subst h;exact⟨X.k,X.can,g.2.2.1,g.2.2.2⟩
  ·cases h
theorem A8.tr_ok: ∀n x l,r.tr n=some (x,l)→Jt r x∧l.length=n∧(∀y∈l,Jt r y.st∧1≤y.ev∧y.ev≤4)∧x=((l.getLast?.map AU.st).getD r.first):=by
 intro n
 induction n with
 |zero=>intro x l h;simp only[Al.tr,Gs,Prod.mk.injEq] at h;obtain⟨rfl,rfl⟩:=h;exact⟨R.first_ok,rfl,fun _ h=>by(cases h),rfl⟩
 |succ n ih=>
  intro x l h;simp only[Al.tr] at h
  split at h
  ·cases h
  ·next x0 l0 e=>
   obtain⟨i1,i2,i3,i4⟩:=ih x0 l0 e
   split at h
   ·cases h
   ·next y e2=>
    simp only[Gs,Prod.mk.injEq] at h;obtain⟨rfl,rfl⟩:=h;have k:=R.step_ok i1 e2;refine⟨k,by simp[i2],fun z hz=> ?_,by simp⟩
    rw[List.mem_append] at hz;rcases hz with hz|hz
    ·exact i3 z hz
    ·rw[DD] at hz;subst hz;refine⟨k,?_⟩;unfold Al.step at e2
     split at e2
     ·injection e2 with e2;subst e2;simp only;split<;>omega
     ·split at e2
      ·split at e2
       ·injection e2 with e2;subst e2;simp only;omega
       ·injection e2 with e2;subst e2;simp only;omega
      ·cases e2
end
def sumN (f:Nat→Int):Nat→Int
 |0=>0
 |m+1=>sumN f m+f m
theorem Lr {f g:Nat→Int}: ∀m,(∀j,j<m→f j≤g j)→sumN f m≤sumN g m
 |0,_=>Int.le_refl _
 |m+1,h=>by
  have a:=Lr m fun j hj=>h j Aa;have b:=h m Aa;show sumN f m+f m≤sumN g m+g m;omega
theorem Pa {f g:Nat→Int} {d:Int} {j0:Nat}: ∀m,j0<m→(∀j,j<m→f j≤g j)→f j0+d≤g j0→sumN f m+d≤sumN g m
 |0,h,_,_=>absurd h Aa
 |m+1,h,hl,hd=>by
  show sumN f m+f m+d≤sumN g m+g m
  by_cases hj:j0=m
  ·subst hj;have:=Lr j0 fun j hj=>hl j Aa;omega
  ·have a:=Pa m Aa (fun j hj=>hl j Aa) hd;have b:=hl m Aa;omega
theorem UI (f g:Nat→Int): ∀m,sumN (fun j=>f j+g j) m=sumN f m+sumN g m
 |0=>rfl
 |m+1=>by
  have:=UI f g m;show sumN (fun j=>f j+g j) m+(f m+g m)=sumN f m+f m+(sumN g m+g m);omega
theorem UJ (f:Nat→Int) (c:Int): ∀m,sumN (fun j=>f j*c) m=sumN f m*c
 |0=>by show(0:Int)=0*c;rw[Int.zero_mul]
 |m+1=>by
  have:=UJ f c m;show sumN (fun j=>f j*c) m+f m*c=(sumN f m+f m)*c;rw[Int.add_mul,this]
def thk (ds:List Int) (j:Nat):Int:=ds.getD (j+1) 0-ds.getD j 0
theorem UK (ds:List Int): ∀m,sumN (thk ds) m=ds.getD m 0-ds.getD 0 0
 |0=>by show(0:Int)=_;omega
 |m+1=>by
  have:=UK ds m;show sumN (thk ds) m+(ds.getD (m+1) 0-ds.getD m 0)=_;omega
theorem Yf {xs:List Int} {n:Int} (h:FF xs n=true) {k:Nat} (hk:k+1<xs.length):xs.getD k 0<xs.getD (k+1) 0:=by
 unfold FF Fq at h;rw[List.all_eq_true] at h;have h2:=h (k+1) (Eo.2 hk);unfold EQ at h2;simp only[CD,Bool.or_eq_true,BP] at h2;have:=h2.2.2;rw[show k+1-1=k by omega] at this
 omega
def Al.lev (r:Al) (j:Nat):Bool:=r.can j && (r.can (j+1) && (decide (500*(r.wh-r.pt j)<r.wh) && decide (500*(r.wh-r.pt (j+1))<r.wh)))
def Al.tur (r:Al) (j:Nat):Bool:=r.can j !=r.can (j+1)
def Uj (src j:Nat) (x:En):Int:=
 if src<j then
  (if j<x.k then(if x.dn=true then 2 else 1) else if x.k=j then(if x.dn=true then 0 else 3) else(if x.dn=true then 1 else 2))
 else
  (if x.k<j+1 then(if x.dn=true then 1 else 2) else if x.k=j+1 then(if x.dn=true then 3 else 0) else(if x.dn=true then 2 else 1))
def Al.wt (r:Al) (j n:Nat) (x:En):Int:=
 if r.lev j=true then 29200*((n:Int)+Uj r.src j x-1) else if r.tur j=true then 11070*(n:Int) else 141*(n:Int)
structure Xn (r:Al):Prop where
 ok:A8 r
 out: ∀j,r.lev j=true→j≠r.src∧j+1≠r.src
def Al.rch (r:Al) (x:En):Prop:= ∀i,(r.src≤i∧i≤x.k)∨(x.k≤i∧i≤r.src)→r.can i=true
section
variable {r : Al} (R : A8 r)
include R
theorem A8.thk_bd {j:Nat} (hj:j+1<r.ds.length):0<thk r.ds j:=by
 have h:=R.prof;unfold BI at h;simp only[CD] at h;have:=Yf h.2.2.1 hj;unfold thk;omega
theorem A8.thick_dn {j:Nat} (hj:j+1<r.ds.length):r.thick j (j+1)=thk r.ds j∧r.thick (j+1) j=thk r.ds j:=by
 have:=R.thk_bd hj;unfold Al.thick thk at*;omega
theorem A8.thk_sum:sumN (thk r.ds) (r.ds.length-1)≤1000000:=by
 have hl:=R.len;have a:=R.dp (k:=r.ds.length-1) Aa;have b:=R.dp (k:=0) Aa;rw[UK];omega
omit R in
theorem Rb {t P D Q:Int} (ht:0≤t) (hD:0<D) (h:P≤Q*D): -(-(t*P)/D)≤t*Q:=by
 have h1:t*P≤t*(Q*D):=Gq h ht;have h2: -(t*Q)≤ -(t*P)/D:=Int.le_ediv_of_mul_le hD (by rw[Int.neg_mul,Ga];omega)
 omega
theorem A8.near {k:Nat} (hk:k<r.ds.length) (hc:r.can k=true) (hl:500*(r.wh-r.pt k)<r.wh):r.wh≤29200*rD (r.sq k):=by
 have w:=R.wh_bd;have p:=R.pt_bd hk;have hs:=R.sq1 hk hc;obtain⟨q0,q1,q2⟩:=Mv (n:=r.sq k) Aa;have hf:(r.wh-r.pt k)*(r.wh+r.pt k)=r.sq k:=OY k;unfold Al.can at hc;rw[BP] at hc;have hm:=CL (show 1≤r.wh-r.pt k by omega) (show r.wh+r.pt k≤r.wh+r.pt k by omega) Aa Aa
 rw[hf] at hm;generalize r.wh=W at*;generalize r.pt k=P at*;generalize r.sq k=S at*;generalize rD S=q at*;rcases Eg (29200*q) W with c|c
 ·exfalso
  rcases Eg W 14000000 with d|d
  ·have:=Gq (show q+1≤480 by omega) (show 0≤q+1 by omega)
   omega
  ·have:=Gq (show q+1≤58220 by omega) (show 0≤q+1 by omega)
   omega
 ·exact c
theorem A8.far {k:Nat} (hk:k<r.ds.length) (hc:r.can k=true) (hl: ¬500*(r.wh-r.pt k)<r.wh):2*r.wh≤47*rD (r.sq k):=by
 have w:=R.wh_bd;have p:=R.pt_bd hk;have hs:=R.sq1 hk hc;obtain⟨q0,q1,q2⟩:=Mv (n:=r.sq k) Aa;have hf:(r.wh-r.pt k)*(r.wh+r.pt k)=r.sq k:=OY k;have hm:=CL (show r.wh≤500*(r.wh-r.pt k) by omega) (show r.wh≤r.wh+r.pt k by omega) Aa Aa
 rw[Ga,hf] at hm;generalize r.wh=W at*;generalize r.pt k=P at*;generalize r.sq k=S at*;generalize rD S=q at*;rcases Eg (23*q+22) W with c|c
 ·exfalso
  have h1:=CL (show 23*(q+1)≤W by omega) (show 23*(q+1)≤W by omega) Aa Aa
  rw[Ga,Int.mul_left_comm (q+1) 23 (q+1)] at h1;omega
 ·omega
theorem A8.cr_lev {a b:Nat} (ha:a<r.ds.length) (hb:b<r.ds.length) (ca:r.can a=true) (cb:r.can b=true) (la:500*(r.wh-r.pt a)<r.wh) (lb:500*(r.wh-r.pt b)<r.wh):r.crHi a b≤r.thick a b*29200:=by
 have qa:=R.rD_bd' ha ca;have qb:=R.rD_bd' hb cb;have na:=R.near ha ca la;have nb:=R.near hb cb lb;have ta:=R.thick_bd ha hb;unfold Al.can at ca cb;rw[BP] at ca cb;exact Rb ta.1 Aa (by rw[Int.mul_add];omega)
theorem A8.cr_far {a b:Nat} (ha:a<r.ds.length) (hb:b<r.ds.length) (ca:r.can a=true) (cb:r.can b=true) (h: ¬(500*(r.wh-r.pt a)<r.wh∧500*(r.wh-r.pt b)<r.wh)):r.crHi a b≤r.thick a b*47:=by
 have qa:=R.rD_bd' ha ca;have qb:=R.rD_bd' hb cb;have ta:=R.thick_bd ha hb
 have hk:2*r.wh≤47*rD (r.sq a)∨2*r.wh≤47*rD (r.sq b):=by
  rcases Eg (500*(r.wh-r.pt a)) r.wh with c|c
  ·exact Or.inr (R.far hb cb fun d=>h ⟨c,d⟩)
  ·exact Or.inl (R.far ha ca Aa)
 unfold Al.can at ca cb;rw[BP] at ca cb;exact Rb ta.1 Aa (by rw[Int.mul_add];omega)
theorem A8.tu_le {a b:Nat} (ha:a<r.ds.length) (hb:b<r.ds.length) (ca:r.can a=true) (cb:r.can b=false):r.tuHi a b≤r.thick a b*3690:=by
 have ta:=R.thick_bd ha hb;have w:=R.wh_bd;have p:=R.pt_bd ha;obtain⟨c1,-⟩:=R.dir';have sb:=R.sp hb;have rb:=R.rise_bd ha hb ca cb;have hs:=R.sq1 ha ca;obtain⟨q0,q1,q2⟩:=Mv (n:=r.sq a) Aa;have hf:(r.wh-r.pt a)*(r.wh+r.pt a)=r.sq a:=OY a;have hu:= @aa (r.sq a);have hrise:r.rise a b=r.c*(r.ss.getD b 0-r.ss.getD a 0):=by unfold Al.rise Al.pt;rw[Int.mul_sub]
 have hwp:r.wh≤r.pt b:=by unfold Al.can at cb;rw[decide_eq_false_iff_not] at cb;omega
 have hpb:r.pt b≤r.c*1700000:=Gq sb.2 Aa
 have hcr:r.c≤r.rise a b:=by
  rw[hrise]
  have hd:1≤r.ss.getD b 0-r.ss.getD a 0:=by
   rcases Eg (r.ss.getD b 0-r.ss.getD a 0) 1 with o|o
   ·exfalso
    have:=Du (show 0≤r.c by omega) (show 0≤ -(r.ss.getD b 0-r.ss.getD a 0) by omega)
    rw[Int.mul_neg,←hrise] at this;omega
   ·exact o
  have:=Gq hd (show 0≤r.c by omega)
  omega
 have hri:r.rise a b=r.pt b-r.pt a:=rfl;have hca:r.pt a<r.wh:=by unfold Al.can at ca;rwa [BP] at ca
 have hm:=CL (show r.wh-r.pt a≤r.rise a b by omega) (show r.wh+r.pt a≤3400000*r.rise a b by omega) Aa Aa
 rw[hf,Int.mul_left_comm] at hm
 have hq:rD (r.sq a)≤1844*r.rise a b:=by
  generalize rD (r.sq a)=q at*;generalize r.rise a b=z at*;rcases Eg (1844*z) q with o|o
  ·exfalso
   have h1:=CL (show 1844*z≤q by omega) (show 1844*z≤q by omega) Aa Aa
   rw[Ga,Int.mul_left_comm z 1844 z] at h1;have h2:=CL (show 1≤z by omega) (show 1≤z by omega) Aa Aa
   omega
  ·exact o
 have e:2*r.thick a b*rU (r.sq a)=r.thick a b*(2*rU (r.sq a)):=by rw[Int.mul_comm 2,Ga]
 unfold Al.tuHi;rw[e];exact Rb ta.1 Aa Aa
end
theorem Z6 (s j:Nat) (x:En):0≤Uj s j x∧Uj s j x≤3:=by
 unfold Uj
 repeat' split
 all_goals omega
theorem X7 (s j:Nat) (d:Bool) (lo hi:Int) (h1:j≠s) (h2:j+1≠s):1≤Uj s j ⟨s,d,lo,hi⟩:=by
 unfold Uj
 repeat' split
 all_goals(simp only at*;omega)
theorem Wk {r:Al} {x:En} {y:AU} (h:r.step x=some y):
  (y.st.k=x.k∧y.st.dn= !x.dn∧y.st.hi=x.hi∧((x.dn=true∧r.ds.length≤x.k+1)∨(x.dn=false∧x.k=0)))∨
  (∃b,((x.dn=true∧b=x.k+1∧b<r.ds.length)∨(x.dn=false∧x.k=b+1))∧r.can b=true∧y.st.k=b∧y.st.dn=x.dn∧y.st.hi=x.hi+r.paHi x.k b)∨
  (∃b,((x.dn=true∧b=x.k+1∧b<r.ds.length)∨(x.dn=false∧x.k=b+1))∧r.can b=false∧y.st.k=x.k∧y.st.dn= !x.dn∧y.st.hi=x.hi+r.paHi x.k b):=by
 unfold Al.step at h
 split at h
 ·next e=>
  injection h with h;subst h;refine Or.inl ⟨rfl,rfl,rfl,?_⟩;unfold Al.nxt at e
  split at e
  ·next d=>
   split at e
   ·cases e
   ·exact Or.inl ⟨d,by omega⟩
  ·next d=>
   split at e
   ·cases e
   ·exact Or.inr ⟨by simpa using d,by omega⟩
 ·next a b e=>
  have hab:a=x.k∧((x.dn=true∧b=x.k+1∧b<r.ds.length)∨(x.dn=false∧x.k=b+1)):=by
   unfold Al.nxt at e
   split at e
   ·next d=>
    split at e
    ·simp only[Gs,Prod.mk.injEq] at e;exact⟨e.1.symm,Or.inl ⟨d,by omega,by omega⟩⟩
    ·cases e
   ·next d=>
    split at e
    ·simp only[Gs,Prod.mk.injEq] at e;exact⟨e.1.symm,Or.inr ⟨by simpa using d,by omega⟩⟩
    ·cases e
  obtain⟨rfl,hb⟩:=hab
  split at h
  ·split at h
   ·next o=>
    injection h with h;subst h;exact Or.inr (Or.inl ⟨b,hb,o,rfl,rfl,rfl⟩)
   ·next o=>
    injection h with h;subst h;exact Or.inr (Or.inr ⟨b,hb,by simpa using o,rfl,rfl,rfl⟩)
  ·cases h
theorem Hk {r:Al} {j:Nat} (h:r.lev j=true):r.can j=true∧r.can (j+1)=true∧500*(r.wh-r.pt j)<r.wh∧500*(r.wh-r.pt (j+1))<r.wh:=by
 unfold Al.lev at h;simp only[CD,BP] at h;exact⟨h.1,h.2.1,h.2.2.1,h.2.2.2⟩
theorem aS {r:Al} {j n:Nat} {x y:En} (h:r.lev j=true→Uj r.src j x≤Uj r.src j y+1):r.wt j n x≤r.wt j (n+1) y:=by
 unfold Al.wt
 split
 ·next c=>have:=h c;omega
 ·split<;>omega
section
variable {r : Al} (F : Xn r)
include F
theorem Xn.step {x:En} {y:AU} (X:Jt r x) (hr:r.rch x) (h:r.step x=some y) (n:Nat):
  r.rch y.st∧(∀j,j+1<r.ds.length→r.wt j n x≤r.wt j (n+1) y.st)∧
  (y.st.hi=x.hi∨ ∃j0,j0+1<r.ds.length∧ ∃q,y.st.hi≤x.hi+thk r.ds j0*q∧r.wt j0 n x+3*q≤r.wt j0 (n+1) y.st):=by
 have hX:=X.k;have hsrc:=F.ok.src;have hlen:=F.ok.len;rcases Wk h with⟨e1,e2,e3,hb⟩|⟨b,hb,cb,e1,e2,e3⟩|⟨b,hb,cb,e1,e2,e3⟩
 ·refine⟨fun i hi=>hr i (by rw[e1] at hi;exact hi),fun j hj=>aS fun hl=> ?_,Or.inl e3⟩
  have ho:=F.out j hl;rcases hb with⟨d,hb⟩|⟨d,hb⟩
  ·unfold Uj;rw[e1,e2,d];simp only[Bool.not_true,if_true,Ie,if_false]
   repeat' split
   all_goals omega
  ·unfold Uj;rw[e1,e2,d];simp only[Bool.not_false,if_true,Ie,if_false]
   repeat' split
   all_goals omega
 ·have hbl:b<r.ds.length:=Aa
  obtain⟨j0,hj0,hj⟩: ∃j0,j0+1<r.ds.length∧((x.k=j0∧b=j0+1∧x.dn=true)∨(x.k=j0+1∧b=j0∧x.dn=false)):=by
   rcases hb with⟨d,h1,h2⟩|⟨d,h1⟩
   ·exact⟨x.k,by omega,Or.inl ⟨rfl,h1,d⟩⟩
   ·exact⟨b,by omega,Or.inr ⟨h1,rfl,d⟩⟩
  have hth:r.thick x.k b=thk r.ds j0:=by
   have:=F.ok.thick_dn hj0;rcases hj with⟨h1,h2,-⟩|⟨h1,h2,-⟩
   ·rw[h1,h2];exact this.1
   ·rw[h1,h2];exact this.2
  have hpa:r.paHi x.k b=r.crHi x.k b:=by unfold Al.paHi;rw[AA cb]
  refine⟨fun i hi=> ?_,fun j hj'=> ?_,Or.inr ⟨j0,hj0,?_⟩⟩
  ·rw[e1] at hi
   by_cases hib:i=b
   ·rw[hib];exact cb
   ·exact hr i Aa
  ·refine aS fun hl=> ?_;unfold Uj;rw[e1,e2];rcases hj with⟨h1,h2,d⟩|⟨h1,h2,d⟩
   ·rw[d,h1,h2];simp only[if_true]
    repeat' split
    all_goals omega
   ·rw[d,h1,h2];simp only[Ie,if_false]
    repeat' split
    all_goals omega
  ·by_cases hl:r.lev j0=true
   ·refine⟨29200,?_,?_⟩
    ·rw[e3,hpa,←hth];obtain⟨-,-,l1,l2⟩:=Hk hl;have:=F.ok.cr_lev X.k hbl X.can cb (by rcases hj with⟨h1,h2,-⟩|⟨h1,h2,-⟩<;>rw[h1]<;>assumption) (by rcases hj with⟨h1,h2,-⟩|⟨h1,h2,-⟩<;>rw[h2]<;>assumption)
     omega
    ·unfold Al.wt;rw[AA hl,AA hl]
     have:Uj r.src j0 x+2≤Uj r.src j0 y.st:=by
      unfold Uj;rw[e1,e2];rcases hj with⟨h1,h2,d⟩|⟨h1,h2,d⟩
      ·rw[d,h1,h2];simp only[if_true]
       repeat' split
       all_goals omega
      ·rw[d,h1,h2];simp only[Ie,if_false]
       repeat' split
       all_goals(first|omega|(exfalso;simp_all;done))
     omega
   ·have hcan:r.can j0=true∧r.can (j0+1)=true:=by
     have hxc:=X.can;rcases hj with⟨h1,h2,-⟩|⟨h1,h2,-⟩
     ·rw[h1] at hxc;rw[h2] at cb;exact⟨hxc,cb⟩
     ·rw[h1] at hxc;rw[h2] at cb;exact⟨cb,hxc⟩
    have htu: ¬r.tur j0=true:=by unfold Al.tur;rw[hcan.1,hcan.2];decide
    refine⟨47,?_,?_⟩
    ·rw[e3,hpa,←hth]
     have hn: ¬(500*(r.wh-r.pt x.k)<r.wh∧500*(r.wh-r.pt b)<r.wh):=fun c=>hl (by
      unfold Al.lev;rw[hcan.1,hcan.2,Ha,Ha];rcases hj with⟨h1,h2,-⟩|⟨h1,h2,-⟩
      ·rw[h1,h2] at c;rw[BC c.1,BC c.2];rfl
      ·rw[h1,h2] at c;rw[BC c.1,BC c.2];rfl)
     have:=F.ok.cr_far X.k hbl X.can cb hn;omega
    ·unfold Al.wt;rw[Ak hl,Ak hl,Ak htu,Ak htu];omega
 ·have hbl:b<r.ds.length:=Aa
  obtain⟨j0,hj0,hj⟩: ∃j0,j0+1<r.ds.length∧((x.k=j0∧b=j0+1∧x.dn=true)∨(x.k=j0+1∧b=j0∧x.dn=false)):=by
   rcases hb with⟨d,h1,h2⟩|⟨d,h1⟩
   ·exact⟨x.k,by omega,Or.inl ⟨rfl,h1,d⟩⟩
   ·exact⟨b,by omega,Or.inr ⟨h1,rfl,d⟩⟩
  have hth:r.thick x.k b=thk r.ds j0:=by
   have:=F.ok.thick_dn hj0;rcases hj with⟨h1,h2,-⟩|⟨h1,h2,-⟩
   ·rw[h1,h2];exact this.1
   ·rw[h1,h2];exact this.2
  have hpa:r.paHi x.k b=r.tuHi x.k b:=by unfold Al.paHi;rw[Ak (by rw[cb];decide)]
  have hxc:=X.can
  have hnc: ∀i,(r.src≤i∧i≤x.k)∨(x.k≤i∧i≤r.src)→i≠b:=fun i hi c=>by
   have:=hr i hi;rw[c,cb] at this
   cases this
  have htu:r.tur j0=true:=by
   unfold Al.tur;rcases hj with⟨h1,h2,-⟩|⟨h1,h2,-⟩
   ·rw[h1] at hxc;rw[h2] at cb;rw[hxc,cb];rfl
   ·rw[h1] at hxc;rw[h2] at cb;rw[hxc,cb];rfl
  have hnl: ¬r.lev j0=true:=fun c=>by
   obtain⟨c1,c2,-⟩:=Hk c;unfold Al.tur at htu;rw[c1,c2] at htu
   cases htu
  refine⟨fun i hi=>hr i (by rw[e1] at hi;exact hi),fun j hj'=> ?_,Or.inr ⟨j0,hj0,3690,?_,?_⟩⟩
  ·refine aS fun hl=> ?_;have ho:=F.out j hl;have hjj:j≠j0:=fun c=>hnl (c▸hl);have hb1:=hnc b;unfold Uj;rw[e1,e2];rcases hj with⟨h1,h2,d⟩|⟨h1,h2,d⟩
   ·rw[d,h1];simp only[Bool.not_true,if_true,Ie,if_false]
    repeat' split
    all_goals omega
   ·rw[d,h1];simp only[Bool.not_false,if_true,Ie,if_false]
    repeat' split
    all_goals omega
  ·rw[e3,hpa,←hth];have:=F.ok.tu_le X.k hbl hxc cb;omega
  ·unfold Al.wt;rw[Ak hnl,Ak hnl,AA htu,AA htu];omega
theorem Xn.inv: ∀n x l,r.tr n=some (x,l)→r.rch x∧3*x.hi≤sumN (fun j=>thk r.ds j*r.wt j n x) (r.ds.length-1):=by
 intro n
 induction n with
 |zero=>
  intro x l h;simp only[Al.tr,Gs,Prod.mk.injEq] at h;obtain⟨rfl,-⟩:=h;refine⟨fun i hi=> ?_,?_⟩
  ·have:i=r.src:=by unfold Al.first at hi;simp only at hi;omega
   rw[this];exact F.ok.can_src
  ·have h0:sumN (fun _=>0) (r.ds.length-1)≤sumN (fun j=>thk r.ds j*r.wt j 0 r.first) (r.ds.length-1):=Lr _ fun j hj=>by
    have ht:=F.ok.thk_bd (j:=j) Aa;refine Du Aa ?_;unfold Al.wt
    split
    ·next c=>
     have ho:=F.out j c;have:=X7 r.src j (decide (0<r.s)) 0 0 ho.1 ho.2;have e:Uj r.src j r.first=Uj r.src j ⟨r.src,decide (0<r.s),0,0⟩:=rfl;rw[e];omega
    ·split<;>omega
   have h1: ∀m,sumN (fun _=>0) m=0:=fun m=>by
    induction m with
    |zero=>rfl
    |succ m ih=>show sumN (fun _=>0) m+0=0;omega
   rw[h1] at h0;show 3*(0:Int)≤_;omega
 |succ n ih=>
  intro x l h;simp only[Al.tr] at h
  split at h
  ·cases h
  ·next x0 l0 e=>
   obtain⟨i1,i2⟩:=ih x0 l0 e
   split at h
   ·cases h
   ·next y e2=>
    simp only[Gs,Prod.mk.injEq] at h;obtain⟨rfl,-⟩:=h;have X:=(F.ok.tr_ok n x0 l0 e).1;obtain⟨s1,s2,s3⟩:=F.step X i1 e2 n;refine⟨s1,?_⟩
    have hm: ∀j,j<r.ds.length-1→thk r.ds j*r.wt j n x0≤thk r.ds j*r.wt j (n+1) y.st:=fun j hj=>
     Gq (s2 j Aa) (by have:=F.ok.thk_bd (j:=j) Aa;omega)
    rcases s3 with s3|⟨j0,hj0,q,hq1,hq2⟩
    ·rw[s3];have:=Lr (f:=fun j=>thk r.ds j*r.wt j n x0) (g:=fun j=>thk r.ds j*r.wt j (n+1) y.st) (r.ds.length-1) hm;omega
    ·have ht:=F.ok.thk_bd hj0
     have hd:thk r.ds j0*r.wt j0 n x0+3*(thk r.ds j0*q)≤thk r.ds j0*r.wt j0 (n+1) y.st:=by
      have:=Gq hq2 (show 0≤thk r.ds j0 by omega)
      rw[Int.mul_add,Int.mul_left_comm] at this;exact this
     have:=Pa (f:=fun j=>thk r.ds j*r.wt j n x0) (g:=fun j=>thk r.ds j*r.wt j (n+1) y.st) (d:=3*(thk r.ds j0*q)) (j0:=j0) (r.ds.length-1) Aa hm hd;omega
end
structure YJ (r q:Al):Prop where
 fr:Xn r
 fq:Xn q
 ds:q.ds=r.ds
 a: ∀j,j+1<r.ds.length→r.lev j=true→ ¬q.lev j=true∧ ¬q.tur j=true
 b: ∀j,j+1<r.ds.length→q.lev j=true→ ¬r.lev j=true∧ ¬r.tur j=true
theorem YJ.sum {r q:Al} (N:YJ r q) {n:Nat} (hn:n≤100) {x y:En} {l m:List AU} (h1:r.tr n=some (x,l)) (h2:q.tr n=some (y,m)):x.hi+y.hi≤1000000000000:=by
 have i1:=(N.fr.inv n x l h1).2;have i2:=(N.fq.inv n y m h2).2;rw[N.ds] at i2;have hs:=N.fr.ok.thk_sum;have e:=UI (fun j=>thk r.ds j*r.wt j n x) (fun j=>thk r.ds j*q.wt j n y) (r.ds.length-1)
 have hc:sumN (fun j=>thk r.ds j*r.wt j n x+thk r.ds j*q.wt j n y) (r.ds.length-1)≤sumN (fun j=>thk r.ds j*3000000) (r.ds.length-1):=Lr _ fun j hj=>by
  have ht:=N.fr.ok.thk_bd (j:=j) Aa;rw[←Int.mul_add];refine Gq ?_ Aa;have p1:=Z6 r.src j x;have p2:=Z6 q.src j y;have ha:=N.a j Aa;have hb:=N.b j Aa;unfold Al.wt
  by_cases l1:r.lev j=true
  ·obtain⟨c1,c2⟩:=ha l1;rw[AA l1,Ak c1,Ak c2];omega
  ·rw[Ak l1]
   by_cases l2:q.lev j=true
   ·obtain⟨-,c2⟩:=hb l2;rw[Ak c2,AA l2];omega
   ·rw[Ak l2]
    split<;>split<;>omega
 rw[UJ] at hc;omega
theorem ez {a b m:Int} (h0:0≤a) (h1:a<b) (hm:m=(a+b+1)/2):a<m∧m≤b:=Aa
theorem OW {m M:Int} (h0:0≤m) (h1:m≤M):0≤m*m∧m*m≤M*M:=⟨Du h0 h0,CL h1 h1 h0 Aa⟩
theorem aq {n a b:Int} (h:0≤a) (hab: ¬a<b) (hle:a≤b) (h1:a*a≤n) (h2:n<(b+1)*(b+1)):a=rD n:=by
 obtain rfl:a=b:=Aa;exact(dU h h1 h2).symm
theorem Yg {n a b:Int} (h:0≤a) (hab: ¬1<b-a) (hle:a<b) (h1:a*a≤n) (h2:n<b*b):a=rD n:=by
 obtain rfl:b=a+1:=Aa;exact(dU h h1 h2).symm
theorem KM (n:Int) (w:World) (h0:0≤n) (h1:n≤4000000000000000000):
  (GK 379 #[ZI n] w (ZI (rD n)):Prop):=by
 go_enter func379,ntmps379
 go_wp2_with fail
 go_loopw [3,4] (fun x y wr=> ∃a b:Int,x=.int .i64 a∧y=.int .i64 b∧0≤a∧a≤b∧b≤2000000000∧a*a≤n∧n<(b+1)*(b+1)∧wr=w) (fun x y _=>(intOf y-intOf x).toNat)
 case atStart=>exact⟨0,2000000000,rfl,rfl,by omega,by omega,by omega,by omega,by omega,rfl⟩
 case round=>
  obtain⟨a,b,rfl,rfl,a0,ab,b1,ha,hb,rfl⟩:=hrel;have HA:=Ai ha;have HB:=Ai hb;clear ha hb
  by_cases hlt:a<b
  ·obtain⟨m,hm⟩: ∃m,m=(a+b+1)/2:=⟨_,rfl⟩;have hd:(a+b+1).tdiv 2=m:=by rw[hm];exact Int.tdiv_eq_ediv_of_nonneg Aa
   obtain⟨m0,m1⟩:=ez a0 hlt hm;obtain⟨q0,q1⟩:=OW (m:=m) (M:=2000000000) Aa Aa;have hd2:(a+b+1)/2=m:=hm.symm;clear hm;have w1:=Bg (a+b);have w2:=Bg (a+b+1);have w3:=Bg m;have w4:=Bg (m*m);have w5:=Bg (m-1)
   by_cases hc:m*m≤n
   ·have HC:=Ai hc;go_wp2
    go_roundw
    case rel=>exact⟨m,b,rfl,rfl,by omega,m1,b1,HC.out,HB.out,by first|rfl|trivial⟩
    case measure=>simp only[intOf];omega
   ·have HC:Hid (n<(m-1+1)*(m-1+1)):=by unfold Hid;rw[show m-1+1=m by omega];omega
    go_wp2
    go_roundw
    case rel=>exact⟨a,m-1,rfl,by first|rfl|rw[w5],a0,by omega,by omega,HA.out,HC.out,by first|rfl|trivial⟩
    case measure=>simp only[intOf];omega
  ·have HV:Hid (a=rD n):=aq a0 hlt ab HA.out HB.out;go_wp2;go_ret;exact⟨Bb HV.out,rfl⟩
theorem Mn (n:Int) (w:World) (h0:0≤n) (h1:n≤4000000000000000000):
  (GK 349 #[ZI n] w (ZI (rD n)):Prop):=by
 go_enter func349,ntmps349
 go_wp2_with fail
 go_loopw [3,4] (fun x y wr=> ∃a b:Int,x=.int .i64 a∧y=.int .i64 b∧0≤a∧a<b∧b≤2000000001∧a*a≤n∧n<b*b∧wr=w) (fun x y _=>(intOf y-intOf x).toNat)
 case atStart=>exact⟨0,2000000001,rfl,rfl,by omega,by omega,by omega,by omega,by omega,rfl⟩
 case round=>
  obtain⟨a,b,rfl,rfl,a0,ab,b1,ha,hb,rfl⟩:=hrel;have HA:=Ai ha;have HB:=Ai hb;clear ha hb;have w0:=Bg (b-a)
  by_cases hlt:1<b-a
  ·obtain⟨m,hm⟩: ∃m,m=(a+b)/2:=⟨_,rfl⟩;have hd:(a+b).tdiv 2=m:=by rw[hm];exact Int.tdiv_eq_ediv_of_nonneg Aa
   have m0:a<m∧m<b:=Aa;obtain⟨m0,m1⟩:=m0;obtain⟨q0,q1⟩:=OW (m:=m) (M:=2000000001) Aa Aa;have hd2:(a+b)/2=m:=hm.symm;clear hm;have w1:=Bg (a+b);have w3:=Bg m;have w4:=Bg (m*m)
   by_cases hc:m*m≤n
   ·have HC:=Ai hc;go_wp2
    go_roundw
    case rel=>exact⟨m,b,rfl,rfl,by omega,m1,b1,HC.out,HB.out,by first|rfl|trivial⟩
    case measure=>simp only[intOf];omega
   ·have HC:Hid (n<m*m):=by unfold Hid;omega
    go_wp2
    go_roundw
    case rel=>exact⟨a,m,rfl,rfl,a0,by omega,by omega,HA.out,HC.out,by first|rfl|trivial⟩
    case measure=>simp only[intOf];omega
  ·have HV:Hid (a=rD n):=Yg a0 hlt ab HA.out HB.out;go_wp2;go_ret;exact⟨Bb HV.out,rfl⟩
theorem V6 (n:Int) (w:World) (h0:0≤n) (h1:n≤4000000000000000000):
  (GK 380 #[ZI n] w (ZI (rU n)):Prop):=by
 have hr:=Z9 (n:=n) (M:=2000000000) h0 Aa Aa;have hr0:=(Mv h0).1;have HU:Hid (rU n=if rD n*rD n<n then rD n+1 else rD n):=rfl;have HR:=KM n w h0 h1;generalize rU n=u at*;generalize rD n=r at*;obtain⟨q0,q1⟩:=OW (m:=r) (M:=2000000000) hr0 hr;have w4:=Bg (r*r);have w5:=Bg (r+1)
 go_enter func380,ntmps380
 go_wp2_with fail
 refine HR.mono ?_;rintro e w' ⟨rfl,rfl⟩
 by_cases hc:r*r<n
 ·have HV:Hid (r+1=u):=by rw[HU.out,AA hc];rfl
  go_wp2;go_ret;exact⟨Bb HV.out,rfl⟩
 ·have HV:Hid (r=u):=by rw[HU.out,Ak hc];rfl
  have g3:decide (r*r<n)=false:=by simpa using hc
  go_wp2;go_ret;exact⟨Bb HV.out,rfl⟩
theorem PP (n:Int) (w:World) (h0:0≤n) (h1:n≤4000000000000000000):
  (GK 350 #[ZI n] w (ZI (rU n)):Prop):=by
 have hr:=Z9 (n:=n) (M:=2000000000) h0 Aa Aa;have hr0:=(Mv h0).1;have HU:Hid (rU n=if rD n*rD n<n then rD n+1 else rD n):=rfl;have HR:=Mn n w h0 h1;generalize rU n=u at*;generalize rD n=r at*;obtain⟨q0,q1⟩:=OW (m:=r) (M:=2000000000) hr0 hr;have w4:=Bg (r*r);have w5:=Bg (r+1)
 go_enter func350,ntmps350
 go_wp2_with fail
 refine HR.mono ?_;rintro e w' ⟨rfl,rfl⟩
 by_cases hc:r*r<n
 ·have HV:Hid (r+1=u):=by rw[HU.out,AA hc];rfl
  go_wp2;go_ret;exact⟨Bb HV.out,rfl⟩
 ·have HV:Hid (r=u):=by rw[HU.out,Ak hc];rfl
  have g3:decide (r*r<n)=false:=by simpa using hc
  go_wp2;go_ret;exact⟨Bb HV.out,rfl⟩
theorem LW {n:Int} (h:n≤0):rD n=0∧rU n=0:=by
 have e:rD n=0:=by
  unfold rD;rw[show n.toNat=0 by omega];rfl
 refine⟨e,?_⟩;unfold rU;rw[e,Ak Aa]
theorem Mo (n:Int) (w:World) (h0:n≤0):
  (GK 349 #[ZI n] w (ZI 0):Prop):=by
 go_enter func349,ntmps349
 go_wp2_with fail
 go_loopw [3,4] (fun x y wr=> ∃b:Int,x=.int .i64 0∧y=.int .i64 b∧1≤b∧b≤2000000001∧wr=w) (fun x y _=>(intOf y-intOf x).toNat)
 case atStart=>exact⟨2000000001,rfl,rfl,by omega,by omega,rfl⟩
 case round=>
  obtain⟨b,rfl,rfl,b0,b1,rfl⟩:=hrel;have w0:IntKind.i64.wrap (b-0)=b:=by rw[Int.sub_zero];exact Ff _ Aa
  have w00:=Bg b
  by_cases hlt:1<b
  ·obtain⟨m,hm⟩: ∃m,m=b/2:=⟨_,rfl⟩;have hd:b.tdiv 2=m:=by rw[hm];exact Int.tdiv_eq_ediv_of_nonneg Aa
   have m0:1≤m∧m<b:=Aa;obtain⟨m0,m1⟩:=m0;obtain⟨q0,q1⟩:=OW (m:=m) (M:=2000000001) Aa Aa;have q2:=CL m0 m0 Aa Aa;have hd2:b/2=m:=hm.symm;clear hm;have w3:=Bg m;have w4:=Bg (m*m);have hc: ¬m*m≤n:=Aa;go_wp2
   go_roundw
   case rel=>exact⟨m,rfl,rfl,m0,by omega,by first|rfl|trivial⟩
   case measure=>simp only[intOf];omega
  ·go_wp2;go_ret;exact⟨rfl,rfl⟩
theorem TC (n:Int) (w:World) (h1:n≤4000000000000000000):
  (GK 349 #[ZI n] w (ZI (rD n)):Prop):=by
 rcases Eg n 0 with h|h
 ·rw[(LW Aa).1];exact Mo n w Aa
 ·exact Mn n w h h1
theorem PO (n:Int) (w:World) (h1:n≤4000000000000000000):
  (GK 350 #[ZI n] w (ZI (rU n)):Prop):=by
 rcases Eg n 0 with h|h
 ·rw[(LW Aa).2];have HR:=Mo n w Aa
  go_enter func350,ntmps350
  go_wp2_with fail
  refine HR.mono ?_;rintro e w' ⟨rfl,rfl⟩;go_wp2;go_ret;exact⟨rfl,rfl⟩
 ·exact PP n w h h1

structure Wv (w:World) (B:Nat) (l:List Sl):Prop where
 rd:Ag w l
 wr:AB w B l
theorem Wv.below {w w':World} {B:Nat} {l:List Sl} (X:Wv w B l) (b:Below w w w'):Wv w' B l:=⟨X.rd.below b,X.wr.below X.rd b⟩
def AE:Ae:=⟨[0,1000],[1500000,1500000],0,4,3,5,[]⟩
def fs (w:World) (e:Ending) (w':World):Prop:=
 ∃h,e=.returned (At h AE)∧GW h∧Ag w' (Ar h AE)∧AB w' w.heap.size (Ar h AE)∧Dx (BK h)∧Below w w w'
theorem WW (w:World):fs w (.returned (Bp (some ⟨w+1,0,none⟩) 2 2 (some ⟨w+1+1,0,none⟩) 2 2 0 4 3 5 none 0 0)) (((w.alloc (.cells (Bp (some ⟨w+1,0,none⟩) 2 2 (some ⟨w+1+1,0,none⟩) 2 2 0 4 3 5 none 0 0) 35)).alloc (.cells (Zii 0 1000) 2)).alloc (.cells (Zii 1500000 1500000) 2)):=by
 have z1:(w.alloc (.cells (Bp (some ⟨w+1,0,none⟩) 2 2 (some ⟨w+1+1,0,none⟩) 2 2 0 4 3 5 none 0 0) 35)).heap.size=w.heap.size+1:=Cr;have z2:((w.alloc (.cells (Bp (some ⟨w+1,0,none⟩) 2 2 (some ⟨w+1+1,0,none⟩) 2 2 0 4 3 5 none 0 0) 35)).alloc (.cells (Zii 0 1000) 2)).heap.size=w.heap.size+1+1:=Cr;have B1:=(Blk.newN (g:=w+1) (w.alloc (.cells (Bp (some ⟨w+1,0,none⟩) 2 2 (some ⟨w+1+1,0,none⟩) 2 2 0 4 3 5 none 0 0) 35)) 2 (Zii 0 1000) z1).alloc (.cells (Zii 1500000 1500000) 2);have B2:=Blk.newN (g:=w+1+1) ((w.alloc (.cells (Bp (some ⟨w+1,0,none⟩) 2 2 (some ⟨w+1+1,0,none⟩) 2 2 0 4 3 5 none 0 0) 35)).alloc (.cells (Zii 0 1000) 2)) 2 (Zii 1500000 1500000) z2
 have R1:Rd _ (some ⟨w+1,0,none⟩) 2 (ints [0,1000]):=B1.rd rfl (fun i hi=>by
  match i,hi with
  |0,_=>rfl
  |1,_=>rfl)
 have R2:Rd _ (some ⟨w+1+1,0,none⟩) 2 (ints [1500000,1500000]):=B2.rd rfl (fun i hi=>by
  match i,hi with
  |0,_=>rfl
  |1,_=>rfl)
 have W1:=B1.wr (B:=w.heap.size) Aa 2;have W2:=B2.wr (B:=w.heap.size) Aa 2
 refine⟨⟨⟨some ⟨w+1,0,none⟩,2,2⟩,⟨some ⟨w+1+1,0,none⟩,2,2⟩,⟨none,0,0⟩⟩,rfl,⟨by show 2≤1048576;decide,by show 2≤1048576;decide,by show 0≤1048576;decide⟩,
  Ag.cons (s:=⟨some ⟨w+1,0,none⟩,2,ints [0,1000]⟩) R1 (Ag.cons (s:=⟨some ⟨w+1+1,0,none⟩,2,ints [1500000,1500000]⟩) R2 (Ag.cons (s:=⟨none,0,[]⟩) (Rd.nil _ _) (Ag.nil _))),
  AB.cons (s:=⟨some ⟨w+1,0,none⟩,2,ints [0,1000]⟩) W1 (AB.cons (s:=⟨some ⟨w+1+1,0,none⟩,2,ints [1500000,1500000]⟩) W2 (AB.cons (s:=⟨none,0,[]⟩) (fun h=>absurd h Ah) (AB.nil _ _))),?_,Ax⟩
 refine Dx.step (B:=w.heap.size+1+1) (fun b e=>by simp[blkp,YD] at e;omega) (Hi.cons (fun b e=>by simp[blkp,YD] at e;omega) (Hi.cons (fun b e=>by simp[blkp] at e) (Hi.nil _))) (Dx.step (B:=w.heap.size+1+1+1) (fun b e=>by simp[blkp,YD] at e;omega) (Hi.cons (fun b e=>by simp[blkp] at e) (Hi.nil _)) (Dx.one _))
theorem L6 (w:World):Calls prog 21 #[] w (fs w):=by
 go_enter func21,ntmps21
 go_wp2;exact AS (v:=.agg (Bp (some ⟨w+1,0,none⟩) 2 2 (some ⟨w+1+1,0,none⟩) 2 2 0 4 3 5 none 0 0)) (by simp[results,results21,go_sem]) rfl (WW w)
end Go.Proofs.YtkndcebhjcfphaaGreatDoor
