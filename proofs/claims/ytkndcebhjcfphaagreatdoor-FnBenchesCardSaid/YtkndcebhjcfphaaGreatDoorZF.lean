import Derived.Test.YtkndcebhjcfphaaGreatDoorZB
import Derived.Test.YtkndcebhjcfphaaGreatDoorZC
import Derived.Test.YtkndcebhjcfphaaGreatDoorZD
import Derived.Deep.DeepCutAuto
namespace Go.Proofs.YtkndcebhjcfphaaGreatDoor
open Go.RowKit Go.Proofs.Tryz
set_option maxRecDepth 100000
set_option maxHeartbeats 4000000
set_option linter.all false
theorem Cn (a:Addr) (i j:Nat) (h:j≠0):(⟨(a.add i).block,(a.add i).off+j,none⟩:Addr)=a.add (i+j):=by rw[<-Bf _ j h,Bv]
theorem Rd.seven {w:World} {A:Option Addr} {n k:Nat} {xs:List Int} (h:Rd w A (n*7) (ints xs)) (O:k<n): ∃H,A=some H∧w.cell? (H.add (k*7))=ZS (xs.getD (k*7) 0)∧w.cell? ⟨(H.add (k*7)).block,(H.add (k*7)).off+1,none⟩=ZS (xs.getD (k*7+1) 0)∧w.cell? ⟨(H.add (k*7)).block,(H.add (k*7)).off+2,none⟩=ZS (xs.getD (k*7+2) 0)∧w.cell? ⟨(H.add (k*7)).block,(H.add (k*7)).off+3,none⟩=ZS (xs.getD (k*7+3) 0)∧w.cell? ⟨(H.add (k*7)).block,(H.add (k*7)).off+4,none⟩=ZS (xs.getD (k*7+4) 0)∧w.cell? ⟨(H.add (k*7)).block,(H.add (k*7)).off+5,none⟩=ZS (xs.getD (k*7+5) 0)∧w.cell? ⟨(H.add (k*7)).block,(H.add (k*7)).off+6,none⟩=ZS (xs.getD (k*7+6) 0):=by
 obtain⟨H,rfl,I⟩:=h.int (show k*7+0<n*7 by omega)
 obtain⟨_,⟨⟩,h1⟩:=h.int (show k*7+1<n*7 by omega)
 obtain⟨_,⟨⟩,J⟩:=h.int (show k*7+2<n*7 by omega)
 obtain⟨_,⟨⟩,K⟩:=h.int (show k*7+3<n*7 by omega)
 obtain⟨_,⟨⟩,L⟩:=h.int (show k*7+4<n*7 by omega)
 obtain⟨_,⟨⟩,M⟩:=h.int (show k*7+5<n*7 by omega)
 obtain⟨_,⟨⟩,N⟩:=h.int (show k*7+6<n*7 by omega)
 rw[Hb] at I;rw[<-Cn _ _ 1 Ah] at h1;rw[<-Cn _ _ 2 Ah] at J;rw[<-Cn _ _ 3 Ah] at K;rw[<-Cn _ _ 4 Ah] at L;rw[<-Cn _ _ 5 Ah] at M;rw[<-Cn _ _ 6 Ah] at N;exact⟨_,rfl,I,h1,J,K,L,M,N⟩
def FY (xs:List Int) (k:Nat):Bool:=recB (xs.getD (k*7) 0) (xs.getD (k*7+1) 0) (xs.getD (k*7+2) 0) (xs.getD (k*7+3) 0) (xs.getD (k*7+4) 0) (xs.getD (k*7+5) 0) (xs.getD (k*7+6) 0)
def CP (xs:List Int) (n:Nat):Bool:=(List.range n).all (FY xs)
theorem FZ (xs:List Int) (n:Nat):CP xs (n+1)=(CP xs n && FY xs n):=by unfold CP;rw[I6,List.all_append];simp
theorem Mw {xs:List Int} {k n:Nat} (h:FY xs k=false) (H:k<n):CP xs n=false:=by
 unfold CP;rw[JV];intro c;have:=List.all_eq_true.1 c k (Eo.2 H);rw[h] at this
 cases this
theorem GS {xs:List Int} {k n:Nat} (h:CP xs n=true) (H:k<n):FY xs k=true:=List.all_eq_true.1 h k (Eo.2 H)
def FT (xs:List Int) (n:Nat):Bool:=CP xs n && decide ((n:Int)<=200)
theorem Jj (t k l x y d r:Int) (w:World):
  (BT 80 #[AD t k l x y d r] w (.bool (!(recB t k l x y d r))):Prop):=by
 have H:Below w w (w.alloc (.cells (fM t k l x y d r) 67)):=BU;unfold fM at H;rcases jt (recB t k l x y d r) with h|h
 all_goals
  go_enter func80,ntmps80
  go_wp2_with fail
  refine(Ed t k l x y d r _).mono ?_;rintro e w1 ⟨rfl,b1⟩;have I:=An H b1;go_wp2;go_ret;exact⟨Af (by rw[h];rfl),I⟩
theorem MN (A:Option Addr) (n c:Nat) (xs:List Int) (w:World) (hn:n<=9223372036854775807) (hr:Rd w A (n*7) (ints xs)):
  Calls prog 112 #[.slice A n c,.func (.func 80) #[] #[]] w λe w'=> ∃v:Int,e=.returned (ZI v)∧(decide (v ≥ 0))= !(CP xs n)∧Below w w w':=by
 go_enter func112,ntmps112
 go_wp2
 go_loopw [8] (λi wr=> ∃k:Nat,k<=n∧i=.int .i64 k∧CP xs k=true∧Below w w wr)
  (λi _=>n-(intOf i).toNat)
 case atStart=>exact⟨0,AZ _,rfl,rfl,AP _ _⟩
 case round=>
  obtain⟨k,hk,rfl,I,H⟩:=hrel;have V:=Ai I;clear I
  by_cases K:k<n
  ·skip
   obtain⟨ad,rfl,ag,ah,ai,aj,ak,al,am⟩:=(hr.below H).seven K;have HS:Hid (CP xs (k+1)=(CP xs k && FY xs k)):=FZ xs k;have HF:Hid (FY xs k=false->CP xs n=false):=λh=>Mw h K;have W:Hid (FY xs k=recB (xs.getD (k*7) 0) (xs.getD (k*7+1) 0) (xs.getD (k*7+2) 0) (xs.getD (k*7+3) 0) (xs.getD (k*7+4) 0) (xs.getD (k*7+5) 0) (xs.getD (k*7+6) 0)):=rfl;have ac:(0:Int)<=(k:Int):=Aa;have ae:(k:Int)<(n:Int):=Aa;generalize xs.getD (k*7) 0=M at*;generalize xs.getD (k*7+1) 0=x1 at*;generalize xs.getD (k*7+2) 0=N at*;generalize xs.getD (k*7+3) 0=O at*;generalize xs.getD (k*7+4) 0=Q at*;generalize xs.getD (k*7+5) 0=S at*;generalize xs.getD (k*7+6) 0=U at*;rcases jt (recB M x1 N O Q S U) with h|h
   ·have J:=Ai h
    go_wp2_with fail
    refine(Jj M x1 N O Q S U _).mono ?_;rw[J.out];rintro e w1 ⟨rfl,b1⟩;have L:=An H b1;go_wp2
    go_roundw
    case rel=>exact⟨k+1,by omega,by go_num,by rw[HS.out,V.out,W.out,J.out];rfl,L⟩
    case measure=>simp[intOf];omega
   ·have J:=Ai h
    go_wp2_with fail
    refine(Jj M x1 N O Q S U _).mono ?_;rw[J.out];rintro e w1 ⟨rfl,b1⟩;have L:=An H b1;go_wp2;go_ret;exact⟨k,rfl,by rw[HF.out (by rw[W.out,J.out])];simp,L⟩
  ·obtain rfl:k=n:=Aa;go_wp2;go_ret;exact⟨-1,rfl,by rw[V.out];rfl,H⟩
theorem JA (A:Option Addr) (n c:Nat) (xs:List Int) (w:World) (I:n<=9223372036854775807) (J:Rd w A (n*7) (ints xs)):
  (BT 79 #[.slice A n c,.func (.func 80) #[] #[]] w (.bool (!(CP xs n))):Prop):=by
 go_enter func79,ntmps79
 go_wp2_with (go_at_call 112;refine(MN _ _ _ xs _ I J).mono ?_;rintro e K ⟨v,rfl,hv,H⟩)
 go_ret;exact⟨Af (by rw[<-hv]),H⟩
theorem XK (A:Option Addr) (n c:Nat) (xs:List Int) (w:World) (J:n<=9223372036854775807) (K:Rd w A (n*7) (ints xs)):
  (BT 51 #[.slice A n c] w (.bool (FT xs n)):Prop):=by
 have H:Hid (FT xs n=(CP xs n && decide ((n:Int)<=200))):=rfl
 by_cases h:(n:Int)<=200
 ·go_enter func51,ntmps51
  go_wp2_with (go_at_call 79;refine(JA _ _ _ xs _ J K).mono ?_;rintro e L ⟨rfl,I⟩)
  go_ret;exact⟨Af (by rw[H.out,BC h];simp),I⟩
 ·go_enter func51,ntmps51
  go_wp2_with fail
  go_ret;exact⟨Af (by rw[H.out,BR Aa];simp),AP _ _⟩
theorem Oi (A:Option Addr) (n c:Nat) (xs:List Int) (w:World) (hn:n<=9223372036854775807) (hr:Rd w A (n*7) (ints xs)):
  (BT 53 #[.slice A n c] w (.bool (FT xs n)):Prop):=by
 have W:Hid (FT xs n=(CP xs n && decide ((n:Int)<=200))):=rfl
 go_enter func53,ntmps53
 go_wp2
 go_loopw [3] (λi wr=> ∃k:Nat,k<=n∧i=.int .i64 k∧CP xs k=true∧Below w w wr)
  (λi _=>n-(intOf i).toNat)
 case atStart=>exact⟨0,AZ _,rfl,rfl,AP _ _⟩
 case round=>
  obtain⟨k,hk,rfl,I,H⟩:=hrel;have V:=Ai I;clear I
  by_cases K:k<n
  ·skip
   obtain⟨ad,rfl,ah,ai,aj,ak,al,am,an⟩:=(hr.below H).seven K;have HS:Hid (CP xs (k+1)=(CP xs k && FY xs k)):=FZ xs k;have HF:Hid (FY xs k=false->CP xs n=false):=λh=>Mw h K;have HP:Hid (FY xs k=recB (xs.getD (k*7) 0) (xs.getD (k*7+1) 0) (xs.getD (k*7+2) 0) (xs.getD (k*7+3) 0) (xs.getD (k*7+4) 0) (xs.getD (k*7+5) 0) (xs.getD (k*7+6) 0)):=rfl;have ae:(0:Int)<=(k:Int):=Aa;have af:(k:Int)<(n:Int):=Aa;generalize xs.getD (k*7) 0=M at*;generalize xs.getD (k*7+1) 0=x1 at*;generalize xs.getD (k*7+2) 0=N at*;generalize xs.getD (k*7+3) 0=O at*;generalize xs.getD (k*7+4) 0=Q at*;generalize xs.getD (k*7+5) 0=S at*;generalize xs.getD (k*7+6) 0=U at*;rcases jt (recB M x1 N O Q S U) with h|h
   ·have J:=Ai h
    go_wp2_with fail
    refine(Dt M x1 N O Q S U _).mono ?_;rw[J.out];rintro e w1 ⟨rfl,b1⟩;have L:=An H b1;go_wp2
    go_roundw
    case rel=>exact⟨k+1,by omega,by go_num,by rw[HS.out,V.out,HP.out,J.out];rfl,L⟩
    case measure=>simp[intOf];omega
   ·have J:=Ai h
    go_wp2_with fail
    refine(Dt M x1 N O Q S U _).mono ?_;rw[J.out];rintro e w1 ⟨rfl,b1⟩;have L:=An H b1;go_wp2;go_ret;exact⟨Af (by rw[W.out,HF.out (by rw[HP.out,J.out])];rfl),L⟩
  ·obtain rfl:k=n:=Aa;go_wp2;go_ret;exact⟨Af (by rw[W.out,V.out];rfl),H⟩
structure AG where
 depths:Hd
 speeds:Hd
 log:Hd
structure Ae where
 depths:List Int
 speeds:List Int
 source:Int
 cos:Int
 sin:Int
 hyp:Int
 log:List Int
def At (h:AG) (l:Ae):Value:=.agg #[.slice h.depths.A h.depths.n h.depths.c,.slice h.speeds.A h.speeds.n h.speeds.c,.int .i64 l.source,.int .i64 l.cos,.int .i64 l.sin,.int .i64 l.hyp,.slice h.log.A h.log.n h.log.c]
def Ar (h:AG) (l:Ae):List Sl:= [⟨h.depths.A,h.depths.n,ints l.depths⟩,⟨h.speeds.A,h.speeds.n,ints l.speeds⟩,⟨h.log.A,(h.log.n*7),ints l.log⟩]
def BK (h:AG):List (Option Nat):= [blkp h.depths.A h.depths.n,blkp h.speeds.A h.speeds.n,blkp h.log.A (h.log.n*7)]
def GW (h:AG):Prop:=h.depths.n<=1048576∧h.speeds.n<=1048576∧h.log.n<=1048576
section
variable (a b c d e f g h i j k l a1 b1 c1 d1 e1 f1 g1 h1 i1 j1 k1 l1:Int)(A B C D E F G A1 B1 C1 D1 E1 F1 G1:Option Addr)(m n o p q r s t u v w x y z m1 n1 o1 p1 q1 r1 s1 t1 u1 v1 w1 x1 y1 z1:Nat)(X Y Z X1 Y1 Z1:Bool)(T:Ae)
def BQ(_:Option Addr)(_ _:Nat)(_:Option Addr)(_ _:Nat)(_:Ae)(_:Option Addr)(_ _:Nat)(_:Int):ZT:=.m
instance:CoeDep ZT (BQ A m n B o p T C q r e) (Array Value):=⟨#[.agg #[.slice A m n,.slice B o p,.int .i64 T.source,.int .i64 T.cos,.int .i64 T.sin,.int .i64 T.hyp,.slice C q r],.int .i64 e]⟩
def Ad(_:Option Addr)(_ _:Nat)(_:Option Addr)(_ _:Nat)(_:Ae)(_:Option Addr)(_ _:Nat):ZT:=.m
instance:CoeDep ZT (Ad A m n B o p T C q r) (Array Value):=⟨#[.slice A m n,.slice B o p,.int .i64 T.source,.int .i64 T.cos,.int .i64 T.sin,.int .i64 T.hyp,.slice C q r]⟩
instance:CoeDep ZT (Ad A m n B o p T C q r) Value:=⟨.agg (Ad A m n B o p T C q r)⟩
end
def BI (n m:Nat) (ds ss:List Int):Bool:=inR (n:Int) 2 12 && (decide ((m:Int)=(n:Int)) && (FF ds 1000001 && (decide (ds.getD 0 0=0) && BV ss 1300000 1700000)))
theorem FQ (A:Option Addr) (n c:Nat) (w:World) (_:n<=9223372036854775807):
  (GK 74 #[.slice A n c] w (ZI n):Prop):=by
 go_enter func74,ntmps74
 go_wp2;go_ret;exact⟨rfl,rfl⟩
theorem EL (A0 A1:Option Addr) (n m c d:Nat) (H M:List Int) (w:World) (U:n<=9223372036854775807) (hm:m<=9223372036854775807) (S:Rd w A0 n (ints H)) (r1:Rd w A1 m (ints M)):
  (BT 48 #[CH A0 n c A1 m d] w (.bool (BI n m H M)):Prop):=by
 have ag:=Ai r1.len
 go_enter func48,ntmps48
 go_upto_region 1 with fail
 generalize hG:w.alloc _=w1;obtain⟨I,N⟩:=EX hG;clear hG;have V:=I.cell;have W:=I.lt;rcases jt (inR (n:Int) 2 12) with q0|q0
 rotate_left
 ·skip
  have HV:Hid (BI n m H M=false):=by unfold Hid BI;simp[q0]
  go_wp2_with fail
  refine(FQ _ _ _ _ U).mono ?_;rintro e K ⟨rfl,rfl⟩
  go_wp2_with fail
  refine(As _ _ _ _).mono ?_;rintro e K ⟨rfl,rfl⟩;go_wp2;go_ret;exact⟨Af (by first|exact HV.out.symm|(rw[HV.out];done)|(rw[HV.out];simp;done)),N⟩
 by_cases q1:(m:Int)=(n:Int)
 rotate_left
 ·have HV:Hid (BI n m H M=false):=by unfold Hid BI;simp[q0,q1]
  go_wp2_with fail
  refine(FQ _ _ _ _ U).mono ?_;rintro e K ⟨rfl,rfl⟩
  go_wp2_with fail
  refine(As _ _ _ _).mono ?_;rintro e K ⟨rfl,rfl⟩;go_wp2;go_ret;exact⟨Af (by first|exact HV.out.symm|(rw[HV.out];done)|(rw[HV.out];simp;done)),N⟩
 obtain rfl:n=m:=Aa;rcases jt (FF H 1000001) with q2|q2
 rotate_left
 ·skip
  have HV:Hid (BI n n H M=false):=by unfold Hid BI;simp[q2]
  go_wp2_with fail
  refine(FQ _ _ _ _ U).mono ?_;rintro e K ⟨rfl,rfl⟩
  go_wp2_with fail
  refine(As _ _ _ _).mono ?_;rintro e K ⟨rfl,rfl⟩
  go_wp2_with fail
  refine(Fx _ _ _ H _ _ (by have:=Ac q0;omega) (S.below N)).mono ?_
  rintro e w2 ⟨rfl,J⟩;have L:=An N J;replace I:=I.below J W;replace V:=I.cell;clear J;have O:0<n:=by have:=Ac q0;omega
  obtain⟨ad,rfl,Q⟩:=(S.below L).int (show 0<n by have:=Ac q0;omega)
  rw[Gu] at Q;go_wp2;go_ret;exact⟨Af (by first|exact HV.out.symm|(rw[HV.out];done)|(rw[HV.out];simp;done)),L⟩
 by_cases q3:H.getD 0 0=0
 rotate_left
 ·skip
  have HV:Hid (BI n n H M=false):=by unfold Hid BI;simp[q3,-List.getD_eq_getElem?_getD]
  go_wp2_with fail
  refine(FQ _ _ _ _ U).mono ?_;rintro e K ⟨rfl,rfl⟩
  go_wp2_with fail
  refine(As _ _ _ _).mono ?_;rintro e K ⟨rfl,rfl⟩
  go_wp2_with fail
  refine(Fx _ _ _ H _ _ (by have:=Ac q0;omega) (S.below N)).mono ?_
  rintro e w2 ⟨rfl,J⟩;have L:=An N J;replace I:=I.below J W;replace V:=I.cell;clear J;have O:0<n:=by have:=Ac q0;omega
  obtain⟨ad,rfl,Q⟩:=(S.below L).int (show 0<n by have:=Ac q0;omega)
  rw[Gu] at Q;generalize H.getD 0 0=x at*;go_wp2;go_ret;exact⟨Af (by first|exact HV.out.symm|(rw[HV.out];done)|(rw[HV.out];simp;done)),L⟩
 have HV:Hid (BI n n H M=BV M 1300000 1700000):=by unfold Hid BI;simp[q0,q2,q3,-List.getD_eq_getElem?_getD]
 go_wp2_with fail
 refine(FQ _ _ _ _ U).mono ?_;rintro e K ⟨rfl,rfl⟩
 go_wp2_with fail
 refine(As _ _ _ _).mono ?_;rintro e K ⟨rfl,rfl⟩
 go_wp2_with fail
 refine(Fx _ _ _ H _ _ (by have:=Ac q0;omega) (S.below N)).mono ?_
 rintro e w2 ⟨rfl,J⟩;have L:=An N J;replace I:=I.below J W;replace V:=I.cell;clear J;have O:0<n:=by have:=Ac q0;omega
 obtain⟨ad,rfl,Q⟩:=(S.below L).int (show 0<n by have:=Ac q0;omega)
 rw[Gu] at Q;rw[q3] at Q
 go_wp2_with fail
 refine(Fb _ _ _ M _ _ _ hm (r1.below L)).mono ?_;rintro e K ⟨rfl,rfl⟩;go_wp2;go_ret;exact⟨Af (by first|exact HV.out.symm|(rw[HV.out];done)|(rw[HV.out];simp;done)),L⟩
theorem Cv (A0 A1:Option Addr) (n m c d:Nat) (H K:List Int) (w:World) (hn:n<=9223372036854775807) (hm:m<=9223372036854775807) (Q:Rd w A0 n (ints H)) (r1:Rd w A1 m (ints K)):
  (BT 82 #[CH A0 n c A1 m d] w (.bool (BI n m H K)):Prop):=by
 have S:=Ai r1.len
 go_enter func82,ntmps82
 go_upto_region 1 with fail
 generalize hG:w.alloc _=w1;obtain⟨I,L⟩:=EX hG;clear hG;have U:=I.cell;have V:=I.lt;rcases jt (inR (n:Int) 2 12) with q0|q0
 rotate_left
 ·skip
  have HV:Hid (BI n m H K=false):=by unfold Hid BI;simp[q0]
  by_cases k:(n:Int)<2
  ·skip
   go_wp2;go_ret;exact⟨Af (by first|exact HV.out.symm|(rw[HV.out];done)|(rw[HV.out];simp;done)),L⟩
  ·have k2:(12:Int)<(n:Int):=by have:=Qo q0;omega
   go_wp2;go_ret;exact⟨Af (by first|exact HV.out.symm|(rw[HV.out];done)|(rw[HV.out];simp;done)),L⟩
 have k1: ¬(n:Int)<2:=by have:=Ac q0;omega
 have k2: ¬(12:Int)<(n:Int):=by have:=Ac q0;omega
 by_cases q1:(m:Int)=(n:Int)
 rotate_left
 ·have HV:Hid (BI n m H K=false):=by unfold Hid BI;simp[q0,q1]
  go_wp2;go_ret;exact⟨Af (by first|exact HV.out.symm|(rw[HV.out];done)|(rw[HV.out];simp;done)),L⟩
 obtain rfl:n=m:=Aa;rcases jt (FF H 1000001) with q2|q2
 rotate_left
 ·skip
  have HV:Hid (BI n n H K=false):=by unfold Hid BI;simp[q2]
  go_wp2_with fail
  refine(Fy _ _ _ H _ _ (by have:=Ac q0;omega) (Q.below L)).mono ?_
  rintro e w2 ⟨rfl,J⟩;have M:=An L J;replace I:=I.below J V;replace U:=I.cell;clear J;have N:0<n:=by have:=Ac q0;omega
  obtain⟨ad,rfl,O⟩:=(Q.below M).int (show 0<n by have:=Ac q0;omega)
  rw[Gu] at O;go_wp2;go_ret;exact⟨Af (by first|exact HV.out.symm|(rw[HV.out];done)|(rw[HV.out];simp;done)),M⟩
 by_cases W:H.getD 0 0=0
 rotate_left
 ·skip
  have HV:Hid (BI n n H K=false):=by unfold Hid BI;simp[W,-List.getD_eq_getElem?_getD]
  go_wp2_with fail
  refine(Fy _ _ _ H _ _ (by have:=Ac q0;omega) (Q.below L)).mono ?_
  rintro e w2 ⟨rfl,J⟩;have M:=An L J;replace I:=I.below J V;replace U:=I.cell;clear J;have N:0<n:=by have:=Ac q0;omega
  obtain⟨ad,rfl,O⟩:=(Q.below M).int (show 0<n by have:=Ac q0;omega)
  rw[Gu] at O;generalize H.getD 0 0=x at*;go_wp2;go_ret;exact⟨Af (by first|exact HV.out.symm|(rw[HV.out];done)|(rw[HV.out];simp;done)),M⟩
 have HV:Hid (BI n n H K=BV K 1300000 1700000):=by unfold Hid BI;simp[q0,q2,W,-List.getD_eq_getElem?_getD]
 go_wp2_with fail
 refine(Fy _ _ _ H _ _ (by have:=Ac q0;omega) (Q.below L)).mono ?_
 rintro e w2 ⟨rfl,J⟩;have M:=An L J;replace I:=I.below J V;replace U:=I.cell;clear J;have N:0<n:=by have:=Ac q0;omega
 obtain⟨ad,rfl,O⟩:=(Q.below M).int (show 0<n by have:=Ac q0;omega)
 rw[Gu] at O;rw[W] at O
 go_wp2_with fail
 have HO:Hid (Hn K 12 1300000 1700000=BV K 1300000 1700000):=by
  unfold Hid Hn;rw[S.out,BC (by have:=Ac q0;omega),Ha]
 refine(Gw _ _ _ K _ _ _ _ hm (r1.below M)).mono ?_;rintro e w' ⟨rfl,rfl⟩;rw[HO.out];go_wp2;go_ret;exact⟨Af (by first|exact HV.out.symm|(rw[HV.out];done)|(rw[HV.out];simp;done)),M⟩
theorem TN (H A1:Option Addr) (n m c d:Nat) (w:World) (J:n<=9223372036854775807):
  (BT 77 #[CH H n c A1 m d] w (ZI ((n:Int)-1)):Prop):=by
 have I:Below w w (w.alloc (.cells (CH H n c A1 m d) 30)):=BU
 go_enter func77,ntmps77
 go_wp2_with (go_at_call 74;refine(FQ _ _ _ _ J).mono ?_;rintro e K ⟨rfl,rfl⟩)
 go_ret;exact⟨rfl,I⟩
theorem FM (H A1:Option Addr) (n m c d:Nat) (x:Int) (w:World) (K:n<=9223372036854775807):
  (BT 49 (EK H n c A1 m d x) w (.bool (inR x 0 ((n:Int)-1))):Prop):=by
 have I:Below w w (w.alloc (.cells (CH H n c A1 m d) 30)):=BU
 go_enter func49,ntmps49
 go_wp2_with fail
 refine(TN _ _ _ _ _ _ _ K).mono ?_;rintro e w1 ⟨rfl,b1⟩;have J:=An I b1
 go_wp2_with fail
 refine(As _ _ _ _).mono ?_;rintro e L ⟨rfl,rfl⟩;go_wp2;go_ret;exact⟨rfl,J⟩
def benchB (h:AG) (l:Ae):Bool:=BI h.depths.n h.speeds.n l.depths l.speeds && (inR l.source 0 ((h.depths.n:Int)-1) && (DO l.cos l.sin l.hyp && FT l.log h.log.n))
theorem jM (h:AG) (l:Ae) (w:World) (hm:h.depths.n<=9223372036854775807∧h.speeds.n<=9223372036854775807∧h.log.n<=9223372036854775807) (hr:Ag w (Ar h l)):
  (BT 24 #[At h l] w (.bool (benchB h l)):Prop):=by
 obtain⟨U,m1,m6⟩:=hm;have r0:=hr.head;have r1:=hr.tail.head;have r6:=hr.tail.tail.head;obtain⟨⟨M,K,N⟩,⟨A1,n1,c1⟩,⟨A6,n6,c6⟩⟩:=h;obtain⟨S,l1,V,x3,x4,x5,l6⟩:=l;clear hr;unfold At;simp only at*;have HB:Hid (benchB ⟨⟨M,K,N⟩,⟨A1,n1,c1⟩,⟨A6,n6,c6⟩⟩ ⟨S,l1,V,x3,x4,x5,l6⟩=(BI K n1 S l1 && (inR V 0 ((K:Int)-1) && (DO x3 x4 x5 && FT l6 n6)))):=rfl;generalize benchB ⟨⟨M,K,N⟩,⟨A1,n1,c1⟩,⟨A6,n6,c6⟩⟩ ⟨S,l1,V,x3,x4,x5,l6⟩=Q at HB⊢
 go_enter func24,ntmps24
 go_upto_region 1 with fail
 generalize hG:w.alloc _=w1;obtain⟨I,H⟩:=EX hG;clear hG;have e0:=I.cell;have O:=I.lt;rcases jt (BI K n1 S l1) with q0|q0
 rotate_left
 ·skip
  go_wp2_with fail
  refine(EL M A1 K n1 N c1 S l1 _ U m1 (r0.below H) (r1.below H)).mono ?_;rintro e w2 ⟨rfl,J⟩;replace H:=An H J;clear J;have HV:Hid (Q=false):=by rw[HB.out];unfold Hid;simp[q0]
  go_wp2;go_ret;exact⟨Af DL,H⟩
 rcases jt (inR V 0 ((K:Int)-1)) with q1|q1
 rotate_left
 ·skip
  go_wp2_with fail
  refine(EL M A1 K n1 N c1 S l1 _ U m1 (r0.below H) (r1.below H)).mono ?_;rintro e w2 ⟨rfl,J⟩;replace I:=I.below J O;replace e0:=I.cell;replace H:=An H J;clear J
  go_wp2_with fail
  refine(FM M A1 K n1 N c1 V _ U).mono ?_;rintro e w3 ⟨rfl,L⟩;replace H:=An H L;clear L;have HV:Hid (Q=false):=by rw[HB.out];unfold Hid;simp[q1]
  go_wp2;go_ret;exact⟨Af DL,H⟩
 rcases jt (DO x3 x4 x5) with q2|q2
 rotate_left
 ·skip
  go_wp2_with fail
  refine(EL M A1 K n1 N c1 S l1 _ U m1 (r0.below H) (r1.below H)).mono ?_;rintro e w2 ⟨rfl,J⟩;replace I:=I.below J O;replace e0:=I.cell;replace O:=I.lt;replace H:=An H J;clear J
  go_wp2_with fail
  refine(FM M A1 K n1 N c1 V _ U).mono ?_;rintro e w3 ⟨rfl,L⟩;replace I:=I.below L O;replace e0:=I.cell;replace H:=An H L;clear L
  go_wp2_with fail
  refine(Jb x3 x4 x5 _).mono ?_;rintro e w4 ⟨rfl,W⟩;replace H:=An H W;clear W;have HV:Hid (Q=false):=by rw[HB.out];unfold Hid;simp[q2]
  go_wp2;go_ret;exact⟨Af DL,H⟩
 go_wp2_with fail
 refine(EL M A1 K n1 N c1 S l1 _ U m1 (r0.below H) (r1.below H)).mono ?_;rintro e w2 ⟨rfl,J⟩;replace I:=I.below J O;replace e0:=I.cell;replace O:=I.lt;replace H:=An H J;clear J
 go_wp2_with fail
 refine(FM M A1 K n1 N c1 V _ U).mono ?_;rintro e w3 ⟨rfl,L⟩;replace I:=I.below L O;replace e0:=I.cell;replace O:=I.lt;replace H:=An H L;clear L
 go_wp2_with fail
 refine(Jb x3 x4 x5 _).mono ?_;rintro e w4 ⟨rfl,W⟩;replace I:=I.below W O;replace e0:=I.cell;replace H:=An H W;clear W
 go_wp2_with fail
 refine(XK A6 n6 c6 l6 _ m6 (r6.below H)).mono ?_;rintro e w5 ⟨rfl,b5⟩;replace H:=An H b5;have HV:Hid (Q=FT l6 n6):=by rw[HB.out];unfold Hid;simp[q0,q1,q2]
 go_wp2;go_ret;exact⟨Af DL,H⟩
def codeB (n m:Nat) (ds ss:List Int) (x x3 x4 x5:Int):Int:=if(BI n m ds ss && DO x3 x4 x5)=true then(if inR x 0 ((n:Int)-1)=true then 0 else 2) else 1
theorem TE (U A1:Option Addr) (n m c d:Nat) (M N:List Int) (x x3 Q S:Int) (w:World) (hn:n<=9223372036854775807) (hm:m<=9223372036854775807) (r0:Rd w U n (ints M)) (r1:Rd w A1 m (ints N)):
  (BT 52 #[CH U n c A1 m d,ZI x,Ziii x3 Q S,ZI 0] w (ZI (codeB n m M N x x3 Q S)):Prop):=by
 have W:Hid (codeB n m M N x x3 Q S=if(BI n m M N && DO x3 Q S)=true then(if inR x 0 ((n:Int)-1)=true then 0 else 2) else 1):=rfl;generalize codeB n m M N x x3 Q S=O at W⊢
 go_enter func52,ntmps52
 go_upto_region 1 with fail
 generalize hG:(w.alloc _).alloc _=w1;obtain⟨J,K,H⟩:=Qg hG;clear hG;have e0:=J.cell;have V:=J.lt;have g1:=K.lt;rcases jt (BI n m M N) with q0|q0
 rotate_left
 ·skip
  go_wp2_with fail
  refine(Cv U A1 n m c d M N _ hn hm (r0.below H) (r1.below H)).mono ?_;rintro e w2 ⟨rfl,I⟩;replace H:=An H I;clear I;have HV:Hid (O=1):=by rw[W.out];unfold Hid;simp[q0]
  go_wp2;go_ret;exact⟨Bb DL,H⟩
 have aa:(2:Int)<=(n:Int)∧(n:Int)<=12:=by
  unfold BI at q0;rw[CD] at q0;exact Ac q0.1
 obtain⟨ah,ai⟩:=aa;rcases jt (DO x3 Q S) with q1|q1
 rotate_left
 ·skip
  go_wp2_with fail
  refine(Cv U A1 n m c d M N _ hn hm (r0.below H) (r1.below H)).mono ?_;rintro e w2 ⟨rfl,I⟩;replace K:=K.below I g1;replace e1:=K.cell;replace H:=An H I;clear I
  go_wp2_with fail
  refine(Dp x3 Q S _).mono ?_;rintro e w3 ⟨rfl,L⟩;replace H:=An H L;clear L;have HV:Hid (O=1):=by rw[W.out];unfold Hid;simp[q1]
  go_wp2;go_ret;exact⟨Bb DL,H⟩
 have q3:inR 0 0 ((n:Int)-1)=true:=CN Aa Aa;rcases jt (inR x 0 ((n:Int)-1)) with q2|q2
 rotate_left
 ·skip
  go_wp2_with fail
  refine(Cv U A1 n m c d M N _ hn hm (r0.below H) (r1.below H)).mono ?_;rintro e w2 ⟨rfl,I⟩;replace J:=J.below I V;replace V:=J.lt;replace K:=K.below I g1;replace e1:=K.cell;replace H:=An H I;clear I
  go_wp2_with fail
  refine(Dp x3 Q S _).mono ?_;rintro e w3 ⟨rfl,L⟩;replace J:=J.below L V;replace e0:=J.cell;replace H:=An H L;clear L
  go_wp2_with fail
  refine(Ay _ _ _ _).mono ?_;rintro e w' ⟨rfl,rfl⟩;have HV:Hid (O=2):=by rw[W.out];unfold Hid;simp[q0,q1,q2]
  go_wp2;go_ret;exact⟨Bb DL,H⟩
 go_wp2_with fail
 refine(Cv U A1 n m c d M N _ hn hm (r0.below H) (r1.below H)).mono ?_;rintro e w2 ⟨rfl,I⟩;replace J:=J.below I V;replace V:=J.lt;replace K:=K.below I g1;replace e1:=K.cell;replace H:=An H I;clear I
 go_wp2_with fail
 refine(Dp x3 Q S _).mono ?_;rintro e w3 ⟨rfl,L⟩;replace J:=J.below L V;replace e0:=J.cell;replace H:=An H L;clear L
 go_wp2_with fail
 refine(Ay _ _ _ _).mono ?_;rintro e w' ⟨rfl,rfl⟩
 go_wp2_with fail
 refine(Ay _ _ _ _).mono ?_;rintro e w' ⟨rfl,rfl⟩;have HV:Hid (O=0):=by rw[W.out];unfold Hid;simp[q0,q1,q2]
 go_wp2;go_ret;exact⟨Bb DL,H⟩
theorem jO (h:AG) (l:Ae) (w:World) (hm:h.depths.n<=9223372036854775807∧h.speeds.n<=9223372036854775807∧h.log.n<=9223372036854775807) (hr:Ag w (Ar h l)):
  (BT 25 #[At h l] w (.bool (benchB h l)):Prop):=by
 obtain⟨m0,m1,m6⟩:=hm;have r0:=hr.head;have r1:=hr.tail.head;have r6:=hr.tail.tail.head;obtain⟨⟨W,H,c0⟩,⟨A1,n1,c1⟩,⟨A6,U,c6⟩⟩:=h;obtain⟨J,l1,K,L,M,N,S⟩:=l;clear hr;unfold At;simp only at*;have HB:Hid (benchB ⟨⟨W,H,c0⟩,⟨A1,n1,c1⟩,⟨A6,U,c6⟩⟩ ⟨J,l1,K,L,M,N,S⟩=(BI H n1 J l1 && (inR K 0 ((H:Int)-1) && (DO L M N && FT S U)))):=rfl;generalize benchB ⟨⟨W,H,c0⟩,⟨A1,n1,c1⟩,⟨A6,U,c6⟩⟩ ⟨J,l1,K,L,M,N,S⟩=V at HB⊢
 go_enter func25,ntmps25
 go_upto_region 1 with fail
 generalize hG:w.alloc _=w1;obtain⟨Q,I⟩:=EX hG;clear hG;have e0:=Q.cell;have g0:=Q.lt;have HC:Hid (codeB H n1 J l1 K L M N=if(BI H n1 J l1 && DO L M N)=true then(if inR K 0 ((H:Int)-1)=true then 0 else 2) else 1):=rfl
 by_cases q0:codeB H n1 J l1 K L M N=0
 rotate_left
 ·go_wp2_with fail
  refine(TE W A1 H n1 c0 c1 J l1 K L M N _ m0 m1 (r0.below I) (r1.below I)).mono ?_;rintro e w2 ⟨rfl,O⟩;replace I:=An I O;clear O
  have HV:Hid (V=false):=by
   rw[HB.out];unfold Hid;rw[HC.out] at q0
   cases a:BI H n1 J l1<;>cases b:DO L M N<;>cases cc:inR K 0 ((H:Int)-1)<;>simp[a,b,cc] at q0⊢
  go_wp2;go_ret;exact⟨Af DL,I⟩
 have HV:Hid (V=FT S U):=by
  rw[HB.out];unfold Hid;rw[HC.out] at q0
  cases a:BI H n1 J l1<;>cases b:DO L M N<;>cases cc:inR K 0 ((H:Int)-1)<;>simp[a,b,cc] at q0⊢
 go_wp2_with fail
 refine(TE W A1 H n1 c0 c1 J l1 K L M N _ m0 m1 (r0.below I) (r1.below I)).mono ?_;rintro e w2 ⟨rfl,O⟩;replace Q:=Q.below O g0;replace e0:=Q.cell;replace I:=An I O;clear O
 go_wp2_with fail
 refine(Oi A6 U c6 S _ m6 (r6.below I)).mono ?_;rintro e w5 ⟨rfl,b5⟩;replace I:=An I b5;go_wp2;go_ret;exact⟨Af DL,I⟩

def benchLB (l:Ae):Bool:=BI l.depths.length l.speeds.length l.depths l.speeds && (inR l.source 0 ((l.depths.length:Int)-1) && (DO l.cos l.sin l.hyp && FT l.log (l.log.length/7)))
theorem jQ {h:AG} {l:Ae} {w:World} (H:Ag w (Ar h l)):benchB h l=benchLB l:=by
 have I:l.depths.length=h.depths.n:=Rd.len H.head;have a1:l.speeds.length=h.speeds.n:=Rd.len H.tail.head;have J:l.log.length=h.log.n*7:=Rd.len H.tail.tail.head;unfold benchB benchLB;rw[I,a1,J,Nat.mul_div_cancel _ Ah]
theorem jE (h:AG) (l:Ae) (w:World) (ok:GW h) (H:Ag w (Ar h l)):
  (BT 24 #[At h l] w (.bool (benchLB l)):Prop):=by
 obtain⟨a,b,c⟩:=ok;rw[<-jQ H];exact jM h l w ⟨by omega,by omega,by omega⟩ H
theorem jJ (h:AG) (l:Ae) (w:World) (ok:GW h) (H:Ag w (Ar h l)):
  (BT 25 #[At h l] w (.bool (benchLB l)):Prop):=by
 obtain⟨a,b,c⟩:=ok;rw[<-jQ H];exact jO h l w ⟨by omega,by omega,by omega⟩ H
def isq:Nat->Nat
 |0=>0
 |n+1=>if(isq n+1)*(isq n+1)<=n+1 then isq n+1 else isq n
theorem ZC: ∀n,isq n*isq n<=n∧n<(isq n+1)*(isq n+1)
 |0=>by simp[isq]
 |n+1=>by
  have H:=ZC n;unfold isq
  split
  ·next h=>
   refine⟨h,?_⟩;have e:(isq n+1+1)*(isq n+1+1)=(isq n+1)*(isq n+1)+2*(isq n+1)+1:=by rw[Nat.add_mul,Nat.mul_add];omega
   omega
  ·next h=>exact⟨by omega,by omega⟩
def rD (n:Int):Int:=(isq n.toNat:Int)
def rU (n:Int):Int:=if rD n*rD n<n then rD n+1 else rD n
theorem Mv {n:Int} (h:0<=n):0<=rD n∧rD n*rD n<=n∧n<(rD n+1)*(rD n+1):=by
 have b:=ZC n.toNat;unfold rD;refine⟨Int.natCast_nonneg _,?_,?_⟩
 ·rw[<-Int.natCast_mul];omega
 ·have e:((isq n.toNat:Int)+1)*((isq n.toNat:Int)+1)=(((isq n.toNat+1)*(isq n.toNat+1):Nat):Int):=by push_cast;rfl
  rw[e];omega
theorem OZ {a b:Int} (ha:0<=a) (I:0<=b) (h:a*a<(b+1)*(b+1)):a<=b:=by
 rcases Eg b a with c|c
 ·exfalso
  have h1:b+1<=a:=c;have H:(b+1)*(b+1)<=a*a:=CL h1 h1 Aa ha;omega
 ·exact c
theorem dU {n r:Int} (H:0<=r) (h1:r*r<=n) (M:n<(r+1)*(r+1)):rD n=r:=by
 have J:0<=n:=Int.le_trans (Du H H) h1;obtain⟨I,b1,K⟩:=Mv J;have c1:=OZ I H Aa;have L:=OZ H I Aa;omega
theorem eU {n:Int} (h:1<=n):1<=rD n:=by
 obtain⟨I,b1,H⟩:=Mv (n:=n) Aa;rcases Eg (rD n) 1 with c|c
 ·have e:rD n=0:=Aa;rw[e] at H;omega
 ·exact c
theorem Z9 {n:Int} {M:Int} (h:0<=n) (I:0<=M) (K:n<(M+1)*(M+1)):rD n<=M:=by
 obtain⟨H,b1,J⟩:=Mv h;exact OZ H I Aa
theorem aa {n:Int}:rD n<=rU n∧rU n<=rD n+1:=by unfold rU;split<;>omega
structure Al where
 ds:List Int
 ss:List Int
 src:Nat
 c:Int
 s:Int
 h:Int
structure A8 (r:Al):Prop where
 prof:BI r.ds.length r.ss.length r.ds r.ss=true
 dir:DO r.c r.s r.h=true
 src:r.src<r.ds.length
def Al.wh (r:Al):Int:=r.h*r.ss.getD r.src 0
def Al.pt (r:Al) (k:Nat):Int:=r.c*r.ss.getD k 0
def Al.sq (r:Al) (k:Nat):Int:=r.wh*r.wh-r.pt k*r.pt k
def Al.can (r:Al) (k:Nat):Bool:=decide (r.pt k<r.wh)
def Al.thick (r:Al) (a b:Nat):Int:=((r.ds.getD b 0-r.ds.getD a 0).natAbs:Int)
def Al.rise (r:Al) (a b:Nat):Int:=r.pt b-r.pt a
def Al.crN (r:Al) (a b:Nat):Int:=r.thick a b*(r.pt a+r.pt b)
def Al.crLo (r:Al) (a b:Nat):Int:=r.crN a b/(rU (r.sq a)+rU (r.sq b))
def Al.crHi (r:Al) (a b:Nat):Int:= -(-(r.crN a b)/(rD (r.sq a)+rD (r.sq b)))
def Al.tuLo (r:Al) (a b:Nat):Int:=2*r.thick a b*rD (r.sq a)/r.rise a b
def Al.tuHi (r:Al) (a b:Nat):Int:= -(-(2*r.thick a b*rU (r.sq a))/r.rise a b)
def isV (x:Int):Bool:=inR x (-1000000000000) 1000000000000
def Al.paLo (r:Al) (a b:Nat):Int:=if r.can b=true then r.crLo a b else r.tuLo a b
def Al.paHi (r:Al) (a b:Nat):Int:=if r.can b=true then r.crHi a b else r.tuHi a b
structure En where
 k:Nat
 dn:Bool
 lo:Int
 hi:Int
def Al.first (r:Al):En:=⟨r.src,decide (0<r.s),0,0⟩
def Al.nxt (r:Al) (x:En):Option (Nat×Nat):=
 if x.dn=true then(if x.k+1<r.ds.length then some (x.k,x.k+1) else none)
 else if 0<x.k then some (x.k,x.k-1) else none
structure AU where
 st:En
 ev:Int
 lo:Int
 hi:Int
def Al.step (r:Al) (x:En):Option AU:=
 match r.nxt x with
 |none=>some ⟨⟨x.k,!x.dn,x.lo,x.hi⟩,if x.dn=true then 4 else 3,0,0⟩
 |some (a,b)=>
  if isV (r.paLo a b)=true∧isV (r.paHi a b)=true∧isV (x.lo+r.paLo a b)=true∧isV (x.hi+r.paHi a b)=true then
   (if r.can b=true then some ⟨⟨b,x.dn,x.lo+r.paLo a b,x.hi+r.paHi a b⟩,1,r.paLo a b,r.paHi a b⟩
    else some ⟨⟨x.k,!x.dn,x.lo+r.paLo a b,x.hi+r.paHi a b⟩,2,r.paLo a b,r.paHi a b⟩)
  else none
structure Jt (r:Al) (x:En):Prop where
 k:x.k<r.ds.length
 can:r.can x.k=true
 lo:isV x.lo=true
 hi:isV x.hi=true
def Al.tr (r:Al):Nat->Option (En×List AU)
 |0=>some (r.first,[])
 |n+1=>match r.tr n with
  |none=>none
  |some (x,l)=>match r.step x with
   |none=>none
   |some y=>some (y.st,l++ [y])
theorem ed {c s h:Int} (hd:DO c s h=true):1<=c∧c<=1000∧1<=h∧h<=1000∧c<h∧ -1000<=s∧s<=1000∧s≠0:=by
 unfold DO at hd;simp only[CD,Bool.not_eq_true',BP,decide_eq_false_iff_not] at hd;obtain⟨h1,L,M,H,N,-⟩:=hd;obtain⟨a1,I⟩:=Ac h1;obtain⟨b1,J⟩:=Ac L;obtain⟨d1,K⟩:=Ac M;refine⟨b1,J,a1,I,?_,d1,K,H⟩
 have O:1<=s*s:=by
  rcases Int.lt_or_gt_of_ne H with o|o
  ·have:=CL (show 1<= -s by omega) (show 1<= -s by omega) Aa Aa;rw[Int.neg_mul_neg] at this;omega
  ·have:=CL (show 1<=s by omega) (show 1<=s by omega) Aa Aa;omega
 rcases Eg c h with o|o
 ·exact o
 ·exfalso
  have:=CL o o Aa Aa;omega
section
variable {r : Al} (R : A8 r)
include R
theorem A8.len:2<=r.ds.length∧r.ds.length<=12∧r.ss.length=r.ds.length:=by
 have h:=R.prof;unfold BI at h;simp only[CD,BP] at h;have:=Ac h.1;refine⟨by omega,by omega,by have:=h.2.1;omega⟩
theorem A8.sp {k:Nat} (H:k<r.ds.length):1300000<=r.ss.getD k 0∧r.ss.getD k 0<=1700000:=by
 have h:=R.prof;unfold BI at h;simp only[CD,BP] at h;exact EZ h.2.2.2.2 (by have:=R.len;omega)
theorem A8.dp {k:Nat} (H:k<r.ds.length):0<=r.ds.getD k 0∧r.ds.getD k 0<=1000000:=by
 have h:=R.prof;unfold BI at h;simp only[CD,BP] at h;have:=Sh h.2.2.1 (r.ds.getD k 0) (by rw[CJ H];exact EH H)
 omega
theorem A8.dir':1<=r.c∧r.c<=1000∧1<=r.h∧r.h<=1000∧r.c<r.h∧ -1000<=r.s∧r.s<=1000∧r.s≠0:=ed R.dir
theorem A8.pt_bd {k:Nat} (I:k<r.ds.length):1300000<=r.pt k∧r.pt k<=1700000000:=by
 obtain⟨c1,H,-⟩:=R.dir';obtain⟨s1,J⟩:=R.sp I;have h1:=CL c1 s1 Aa Aa;have K:=CL H J Aa Aa;unfold Al.pt;omega
theorem A8.wh_bd:1300000<=r.wh∧r.wh<=1700000000:=by
 obtain⟨-,-,c1,H,-⟩:=R.dir';obtain⟨s1,I⟩:=R.sp R.src;have h1:=CL c1 s1 Aa Aa;have J:=CL H I Aa Aa;unfold Al.wh;omega
theorem A8.can_src:r.can r.src=true:=by
 obtain⟨-,-,-,-,c1,-⟩:=R.dir';obtain⟨s1,H⟩:=R.sp R.src;unfold Al.can Al.pt Al.wh;rw[BP];exact Int.mul_lt_mul_of_pos_right c1 Aa
theorem A8.whwh:0<=r.wh*r.wh∧r.wh*r.wh<=2890000000000000000:=by
 obtain⟨h1,H⟩:=R.wh_bd;have a:=CL H H Aa Aa;have b:=Du (show 0<=r.wh by omega) (show 0<=r.wh by omega)
 omega
theorem A8.ptpt {k:Nat} (I:k<r.ds.length):0<=r.pt k*r.pt k∧r.pt k*r.pt k<=2890000000000000000:=by
 obtain⟨h1,H⟩:=R.pt_bd I;have a:=CL H H Aa Aa;have b:=Du (show 0<=r.pt k by omega) (show 0<=r.pt k by omega)
 omega
theorem A8.sq_bd {k:Nat} (H:k<r.ds.length): -2890000000000000000<=r.sq k∧r.sq k<=2890000000000000000:=by
 have:=R.whwh;have:=R.ptpt H;unfold Al.sq;omega
omit R in
theorem OY (k:Nat):(r.wh-r.pt k)*(r.wh+r.pt k)=r.sq k:=by
 unfold Al.sq;rw[Int.sub_mul,Int.mul_add,Int.mul_add,Int.mul_comm (r.pt k) r.wh];omega
theorem A8.can_iff {k:Nat} (H:k<r.ds.length):r.can k=decide (0<r.sq k):=by
 obtain⟨h1,-⟩:=R.wh_bd;obtain⟨p1,-⟩:=R.pt_bd H;unfold Al.can;rw[decide_eq_decide,<-OY]
 constructor
 ·intro h;exact Int.mul_pos Aa Aa
 ·intro h;rcases Eg (r.pt k) r.wh with o|o
  ·exact o
  ·have:=Du (show 0<=r.pt k-r.wh by omega) (show 0<=r.wh+r.pt k by omega)
   have e:(r.pt k-r.wh)*(r.wh+r.pt k)= -((r.wh-r.pt k)*(r.wh+r.pt k)):=by rw[<-Int.neg_mul];congr 1;omega
   omega
theorem A8.sq1 {k:Nat} (H:k<r.ds.length) (h:r.can k=true):1<=r.sq k:=by
 rw[R.can_iff H,BP] at h;omega
theorem A8.rD_bd' {k:Nat} (H:k<r.ds.length) (h:r.can k=true):1<=rD (r.sq k)∧rD (r.sq k)<=1700000000∧1<=rU (r.sq k)∧rU (r.sq k)<=1700000001:=by
 have h1:=R.sq1 H h;have I:=(R.sq_bd H).2;have a:=eU h1;have b:=Z9 (n:=r.sq k) (M:=1700000000) Aa Aa Aa;have c:= @aa (r.sq k);omega
theorem A8.thick_bd {a b:Nat} (ha:a<r.ds.length) (H:b<r.ds.length):0<=r.thick a b∧r.thick a b<=1000000:=by
 have:=R.dp ha;have:=R.dp H;unfold Al.thick;omega
theorem A8.crN_bd {a b:Nat} (ha:a<r.ds.length) (H:b<r.ds.length):0<=r.crN a b∧r.crN a b<=3400000000000000:=by
 obtain⟨t1,t2⟩:=R.thick_bd ha H;have:=R.pt_bd ha;have:=R.pt_bd H;have h1:=CL t2 (show r.pt a+r.pt b<=3400000000 by omega) Aa Aa
 have I:=Du t1 (show 0<=r.pt a+r.pt b by omega)
 unfold Al.crN;omega
theorem A8.tuN_bd {a b:Nat} (ha:a<r.ds.length) (I:b<r.ds.length) {q:Int} (H:0<=q) (h1:q<=1700000001):0<=2*r.thick a b*q∧2*r.thick a b*q<=3500000000000000:=by
 obtain⟨t1,t2⟩:=R.thick_bd ha I;have h1:=CL (show 2*r.thick a b<=2000000 by omega) h1 Aa Aa
 have J:=Du (show 0<=2*r.thick a b by omega) H
 omega
theorem A8.rise_bd {a b:Nat} (ha:a<r.ds.length) (I:b<r.ds.length) (h1:r.can a=true) (H:r.can b=false):1<=r.rise a b∧r.rise a b<=1700000000:=by
 have:=R.pt_bd ha;have:=R.pt_bd I;unfold Al.can at h1 H;rw[BP] at h1;rw[decide_eq_false_iff_not] at H;unfold Al.rise;omega
omit R in
theorem Rk {n b M:Int} (H:0<=n) (N:n<=M) (I:1<=b):0<=n/b∧n/b<=M∧0<= -(-n/b)∧ -(-n/b)<=M:=by
 have a1:=Int.ediv_nonneg H (show 0<=b by omega)
 have J:=Int.ediv_le_self b H;have K: -n/b<1:=Int.ediv_lt_of_lt_mul Aa Aa
 have L: -M<= -n/b:=Int.le_ediv_of_mul_le Aa (by
  have:=Gq I (show 0<=M by omega)
  rw[Int.neg_mul];omega)
 omega
theorem A8.pa_bd {a b:Nat} (ha:a<r.ds.length) (H:b<r.ds.length) (h:r.can a=true):0<=r.paLo a b∧r.paLo a b<=3500000000000000∧0<=r.paHi a b∧r.paHi a b<=3500000000000000:=by
 have L:=R.rD_bd' ha h;unfold Al.paLo Al.paHi;rcases jt (r.can b) with o|o
 ·rw[AA o,AA o];have M:=R.rD_bd' H o;obtain⟨I,n1⟩:=R.crN_bd ha H;have d1:=Rk (b:=rU (r.sq a)+rU (r.sq b)) I n1 Aa;have K:=Rk (b:=rD (r.sq a)+rD (r.sq b)) I n1 Aa;unfold Al.crLo Al.crHi;omega
 ·rw[Ak (by rw[o];decide),Ak (by rw[o];decide)]
  obtain⟨r1,N⟩:=R.rise_bd ha H h o;have n1:=R.tuN_bd ha H (q:=rD (r.sq a)) Aa Aa;have J:=R.tuN_bd ha H (q:=rU (r.sq a)) Aa Aa;have d1:=Rk (b:=r.rise a b) n1.1 n1.2 r1;have K:=Rk (b:=r.rise a b) J.1 J.2 r1;unfold Al.tuLo Al.tuHi;omega
theorem A8.nxt_in {x:En} (X:Jt r x) {a b:Nat} (h:r.nxt x=some (a,b)):a=x.k∧b<r.ds.length:=by
 unfold Al.nxt at h;have:=X.k
 split at h
 ·split at h
  ·simp only[Gs,Prod.mk.injEq] at h;omega
  ·cases h
 ·split at h
  ·simp only[Gs,Prod.mk.injEq] at h;omega
  ·cases h
theorem A8.first_ok:Jt r r.first:=⟨R.src,R.can_src,rfl,rfl⟩
theorem A8.step_ok {x:En} (X:Jt r x) {y:AU} (h:r.step x=some y):Jt r y.st:=by
 unfold Al.step at h
 split at h
 ·injection h with h;subst h;exact⟨X.k,X.can,X.lo,X.hi⟩
 ·next a b e=>
  obtain⟨rfl,H⟩:=R.nxt_in X e
  split at h
  ·next g=>
   split at h
   ·next o=>injection h with h;subst h;exact⟨H,o,g.2.2.1,g.2.2.2⟩
   ·injection h with h;subst h;exact⟨X.k,X.can,g.2.2.1,g.2.2.2⟩
  ·cases h
theorem A8.tr_ok: ∀n x l,r.tr n=some (x,l)->Jt r x∧l.length=n∧(∀y∈l,Jt r y.st∧1<=y.ev∧y.ev<=4)∧x=((l.getLast?.map AU.st).getD r.first):=by
 intro n
 induction n with
 |zero=>intro x l h;simp only[Al.tr,Gs,Prod.mk.injEq] at h;obtain⟨rfl,rfl⟩:=h;exact⟨R.first_ok,rfl,λ_ h=>by(cases h),rfl⟩
 |succ n ih=>
  intro x l h;simp only[Al.tr] at h
  split at h
  ·cases h
  ·next x0 l0 e=>
   obtain⟨i1,I,J,K⟩:=ih x0 l0 e
   split at h
   ·cases h
   ·next y e2=>
    simp only[Gs,Prod.mk.injEq] at h;obtain⟨rfl,rfl⟩:=h;have k:=R.step_ok i1 e2;refine⟨k,by simp[I],λz H=> ?_,by simp⟩
    rw[List.mem_append] at H;rcases H with H|H
    ·exact J z H
    ·rw[DD] at H;subst H;refine⟨k,?_⟩;unfold Al.step at e2
     split at e2
     ·injection e2 with e2;subst e2;simp only;split<;>omega
     ·split at e2
      ·split at e2
       ·injection e2 with e2;subst e2;simp only;omega
       ·injection e2 with e2;subst e2;simp only;omega
      ·cases e2
end
def sumN (f:Nat->Int):Nat->Int
 |0=>0
 |m+1=>sumN f m+f m
theorem Lr {f g:Nat->Int}: ∀m,(∀j,j<m->f j<=g j)->sumN f m<=sumN g m
 |0,_=>Int.le_refl _
 |m+1,h=>by
  have a:=Lr m λj H=>h j Aa;have b:=h m Aa;show sumN f m+f m<=sumN g m+g m;omega
theorem Pa {f g:Nat->Int} {d:Int} {j0:Nat}: ∀m,j0<m->(∀j,j<m->f j<=g j)->f j0+d<=g j0->sumN f m+d<=sumN g m
 |0,h,_,_=>absurd h Aa
 |m+1,h,hl,hd=>by
  show sumN f m+f m+d<=sumN g m+g m
  by_cases H:j0=m
  ·subst H;have:=Lr j0 λj H=>hl j Aa;omega
  ·have a:=Pa m Aa (λj H=>hl j Aa) hd;have b:=hl m Aa;omega
theorem UI (f g:Nat->Int): ∀m,sumN (λj=>f j+g j) m=sumN f m+sumN g m
 |0=>rfl
 |m+1=>by
  have:=UI f g m;show sumN (λj=>f j+g j) m+(f m+g m)=sumN f m+f m+(sumN g m+g m);omega
theorem UJ (f:Nat->Int) (c:Int): ∀m,sumN (λj=>f j*c) m=sumN f m*c
 |0=>by show(0:Int)=0*c;rw[Int.zero_mul]
 |m+1=>by
  have:=UJ f c m;show sumN (λj=>f j*c) m+f m*c=(sumN f m+f m)*c;rw[Int.add_mul,this]
def thk (ds:List Int) (j:Nat):Int:=ds.getD (j+1) 0-ds.getD j 0
theorem UK (H:List Int): ∀m,sumN (thk H) m=H.getD m 0-H.getD 0 0
 |0=>by show(0:Int)=_;omega
 |m+1=>by
  have:=UK H m;show sumN (thk H) m+(H.getD (m+1) 0-H.getD m 0)=_;omega
theorem Yf {xs:List Int} {n:Int} (h:FF xs n=true) {k:Nat} (I:k+1<xs.length):xs.getD k 0<xs.getD (k+1) 0:=by
 unfold FF Fq at h;rw[List.all_eq_true] at h;have H:=h (k+1) (Eo.2 I);unfold EQ at H;simp only[CD,Bool.or_eq_true,BP] at H;have:=H.2.2;rw[show k+1-1=k by omega] at this
 omega
def Al.lev (r:Al) (j:Nat):Bool:=r.can j && (r.can (j+1) && (decide (500*(r.wh-r.pt j)<r.wh) && decide (500*(r.wh-r.pt (j+1))<r.wh)))
def Al.tur (r:Al) (j:Nat):Bool:=r.can j !=r.can (j+1)
def Uj (src j:Nat) (x:En):Int:=
 if src<j then
  (if j<x.k then(if x.dn=true then 2 else 1) else if x.k=j then(if x.dn=true then 0 else 3) else(if x.dn=true then 1 else 2))
 else
  (if x.k<j+1 then(if x.dn=true then 1 else 2) else if x.k=j+1 then(if x.dn=true then 3 else 0) else(if x.dn=true then 2 else 1))
def Al.wt (r:Al) (j n:Nat) (x:En):Int:=
 if r.lev j=true then 29200*((n:Int)+Uj r.src j x-1) else if r.tur j=true then 11070*(n:Int) else 141*(n:Int)
structure Xn (r:Al):Prop where
 ok:A8 r
 out: ∀j,r.lev j=true->j≠r.src∧j+1≠r.src
def Al.rch (r:Al) (x:En):Prop:= ∀i,(r.src<=i∧i<=x.k)∨(x.k<=i∧i<=r.src)->r.can i=true
section
variable {r : Al} (R : A8 r)
include R
theorem A8.thk_bd {j:Nat} (H:j+1<r.ds.length):0<thk r.ds j:=by
 have h:=R.prof;unfold BI at h;simp only[CD] at h;have:=Yf h.2.2.1 H;unfold thk;omega
theorem A8.thick_dn {j:Nat} (H:j+1<r.ds.length):r.thick j (j+1)=thk r.ds j∧r.thick (j+1) j=thk r.ds j:=by
 have:=R.thk_bd H;unfold Al.thick thk at*;omega
theorem A8.thk_sum:sumN (thk r.ds) (r.ds.length-1)<=1000000:=by
 have H:=R.len;have a:=R.dp (k:=r.ds.length-1) Aa;have b:=R.dp (k:=0) Aa;rw[UK];omega
omit R in
theorem Rb {t P D Q:Int} (I:0<=t) (H:0<D) (h:P<=Q*D): -(-(t*P)/D)<=t*Q:=by
 have h1:t*P<=t*(Q*D):=Gq h I;have J: -(t*Q)<= -(t*P)/D:=Int.le_ediv_of_mul_le H (by rw[Int.neg_mul,Ga];omega)
 omega
theorem A8.near {k:Nat} (I:k<r.ds.length) (H:r.can k=true) (L:500*(r.wh-r.pt k)<r.wh):r.wh<=29200*rD (r.sq k):=by
 have w:=R.wh_bd;have p:=R.pt_bd I;have M:=R.sq1 I H;obtain⟨N,q1,O⟩:=Mv (n:=r.sq k) Aa;have J:(r.wh-r.pt k)*(r.wh+r.pt k)=r.sq k:=OY k;unfold Al.can at H;rw[BP] at H;have K:=CL (show 1<=r.wh-r.pt k by omega) (show r.wh+r.pt k<=r.wh+r.pt k by omega) Aa Aa
 rw[J] at K;generalize r.wh=W at*;generalize r.pt k=P at*;generalize r.sq k=S at*;generalize rD S=q at*;rcases Eg (29200*q) W with c|c
 ·exfalso
  rcases Eg W 14000000 with d|d
  ·have:=Gq (show q+1<=480 by omega) (show 0<=q+1 by omega)
   omega
  ·have:=Gq (show q+1<=58220 by omega) (show 0<=q+1 by omega)
   omega
 ·exact c
theorem A8.far {k:Nat} (H:k<r.ds.length) (I:r.can k=true) (L: ¬500*(r.wh-r.pt k)<r.wh):2*r.wh<=47*rD (r.sq k):=by
 have w:=R.wh_bd;have p:=R.pt_bd H;have M:=R.sq1 H I;obtain⟨N,q1,O⟩:=Mv (n:=r.sq k) Aa;have J:(r.wh-r.pt k)*(r.wh+r.pt k)=r.sq k:=OY k;have K:=CL (show r.wh<=500*(r.wh-r.pt k) by omega) (show r.wh<=r.wh+r.pt k by omega) Aa Aa
 rw[Ga,J] at K;generalize r.wh=W at*;generalize r.pt k=P at*;generalize r.sq k=S at*;generalize rD S=q at*;rcases Eg (23*q+22) W with c|c
 ·exfalso
  have h1:=CL (show 23*(q+1)<=W by omega) (show 23*(q+1)<=W by omega) Aa Aa
  rw[Ga,Int.mul_left_comm (q+1) 23 (q+1)] at h1;omega
 ·omega
theorem A8.cr_lev {a b:Nat} (ha:a<r.ds.length) (J:b<r.ds.length) (H:r.can a=true) (I:r.can b=true) (K:500*(r.wh-r.pt a)<r.wh) (lb:500*(r.wh-r.pt b)<r.wh):r.crHi a b<=r.thick a b*29200:=by
 have O:=R.rD_bd' ha H;have Q:=R.rD_bd' J I;have M:=R.near ha H K;have N:=R.near J I lb;have L:=R.thick_bd ha J;unfold Al.can at H I;rw[BP] at H I;exact Rb L.1 Aa (by rw[Int.mul_add];omega)
theorem A8.cr_far {a b:Nat} (ha:a<r.ds.length) (J:b<r.ds.length) (H:r.can a=true) (I:r.can b=true) (h: ¬(500*(r.wh-r.pt a)<r.wh∧500*(r.wh-r.pt b)<r.wh)):r.crHi a b<=r.thick a b*47:=by
 have M:=R.rD_bd' ha H;have N:=R.rD_bd' J I;have K:=R.thick_bd ha J
 have L:2*r.wh<=47*rD (r.sq a)∨2*r.wh<=47*rD (r.sq b):=by
  rcases Eg (500*(r.wh-r.pt a)) r.wh with c|c
  ·exact Or.inr (R.far J I λd=>h ⟨c,d⟩)
  ·exact Or.inl (R.far ha H Aa)
 unfold Al.can at H I;rw[BP] at H I;exact Rb K.1 Aa (by rw[Int.mul_add];omega)
theorem A8.tu_le {a b:Nat} (ha:a<r.ds.length) (K:b<r.ds.length) (I:r.can a=true) (J:r.can b=false):r.tuHi a b<=r.thick a b*3690:=by
 have W:=R.thick_bd ha K;have w:=R.wh_bd;have p:=R.pt_bd ha;obtain⟨c1,-⟩:=R.dir';have V:=R.sp K;have rb:=R.rise_bd ha K I J;have hs:=R.sq1 ha I;obtain⟨q0,q1,q2⟩:=Mv (n:=r.sq a) Aa;have N:(r.wh-r.pt a)*(r.wh+r.pt a)=r.sq a:=OY a;have hu:= @aa (r.sq a);have H:r.rise a b=r.c*(r.ss.getD b 0-r.ss.getD a 0):=by unfold Al.rise Al.pt;rw[Int.mul_sub]
 have U:r.wh<=r.pt b:=by unfold Al.can at J;rw[decide_eq_false_iff_not] at J;omega
 have Q:r.pt b<=r.c*1700000:=Gq V.2 Aa
 have L:r.c<=r.rise a b:=by
  rw[H]
  have M:1<=r.ss.getD b 0-r.ss.getD a 0:=by
   rcases Eg (r.ss.getD b 0-r.ss.getD a 0) 1 with o|o
   ·exfalso
    have:=Du (show 0<=r.c by omega) (show 0<= -(r.ss.getD b 0-r.ss.getD a 0) by omega)
    rw[Int.mul_neg,<-H] at this;omega
   ·exact o
  have:=Gq M (show 0<=r.c by omega)
  omega
 have S:r.rise a b=r.pt b-r.pt a:=rfl;have hca:r.pt a<r.wh:=by unfold Al.can at I;rwa [BP] at I
 have O:=CL (show r.wh-r.pt a<=r.rise a b by omega) (show r.wh+r.pt a<=3400000*r.rise a b by omega) Aa Aa
 rw[N,Int.mul_left_comm] at O
 have hq:rD (r.sq a)<=1844*r.rise a b:=by
  generalize rD (r.sq a)=q at*;generalize r.rise a b=z at*;rcases Eg (1844*z) q with o|o
  ·exfalso
   have h1:=CL (show 1844*z<=q by omega) (show 1844*z<=q by omega) Aa Aa
   rw[Ga,Int.mul_left_comm z 1844 z] at h1;have h2:=CL (show 1<=z by omega) (show 1<=z by omega) Aa Aa
   omega
  ·exact o
 have e:2*r.thick a b*rU (r.sq a)=r.thick a b*(2*rU (r.sq a)):=by rw[Int.mul_comm 2,Ga]
 unfold Al.tuHi;rw[e];exact Rb W.1 Aa Aa
end
theorem Z6 (s j:Nat) (x:En):0<=Uj s j x∧Uj s j x<=3:=by
 unfold Uj
 repeat' split
 all_goals omega
theorem X7 (s j:Nat) (d:Bool) (lo hi:Int) (h1:j≠s) (H:j+1≠s):1<=Uj s j ⟨s,d,lo,hi⟩:=by
 unfold Uj
 repeat' split
 all_goals(simp only at*;omega)
theorem Wk {r:Al} {x:En} {y:AU} (h:r.step x=some y):
  (y.st.k=x.k∧y.st.dn= !x.dn∧y.st.hi=x.hi∧((x.dn=true∧r.ds.length<=x.k+1)∨(x.dn=false∧x.k=0)))∨
  (∃b,((x.dn=true∧b=x.k+1∧b<r.ds.length)∨(x.dn=false∧x.k=b+1))∧r.can b=true∧y.st.k=b∧y.st.dn=x.dn∧y.st.hi=x.hi+r.paHi x.k b)∨
  (∃b,((x.dn=true∧b=x.k+1∧b<r.ds.length)∨(x.dn=false∧x.k=b+1))∧r.can b=false∧y.st.k=x.k∧y.st.dn= !x.dn∧y.st.hi=x.hi+r.paHi x.k b):=by
 unfold Al.step at h
 split at h
 ·next e=>
  injection h with h;subst h;refine Or.inl ⟨rfl,rfl,rfl,?_⟩;unfold Al.nxt at e
  split at e
  ·next d=>
   split at e
   ·cases e
   ·exact Or.inl ⟨d,by omega⟩
  ·next d=>
   split at e
   ·cases e
   ·exact Or.inr ⟨by simpa using d,by omega⟩
 ·next a b e=>
  have H:a=x.k∧((x.dn=true∧b=x.k+1∧b<r.ds.length)∨(x.dn=false∧x.k=b+1)):=by
   unfold Al.nxt at e
   split at e
   ·next d=>
    split at e
    ·simp only[Gs,Prod.mk.injEq] at e;exact⟨e.1.symm,Or.inl ⟨d,by omega,by omega⟩⟩
    ·cases e
   ·next d=>
    split at e
    ·simp only[Gs,Prod.mk.injEq] at e;exact⟨e.1.symm,Or.inr ⟨by simpa using d,by omega⟩⟩
    ·cases e
  obtain⟨rfl,I⟩:=H
  split at h
  ·split at h
   ·next o=>
    injection h with h;subst h;exact Or.inr (Or.inl ⟨b,I,o,rfl,rfl,rfl⟩)
   ·next o=>
    injection h with h;subst h;exact Or.inr (Or.inr ⟨b,I,by simpa using o,rfl,rfl,rfl⟩)
  ·cases h
theorem Hk {r:Al} {j:Nat} (h:r.lev j=true):r.can j=true∧r.can (j+1)=true∧500*(r.wh-r.pt j)<r.wh∧500*(r.wh-r.pt (j+1))<r.wh:=by
 unfold Al.lev at h;simp only[CD,BP] at h;exact⟨h.1,h.2.1,h.2.2.1,h.2.2.2⟩
theorem aS {r:Al} {j n:Nat} {x y:En} (h:r.lev j=true->Uj r.src j x<=Uj r.src j y+1):r.wt j n x<=r.wt j (n+1) y:=by
 unfold Al.wt
 split
 ·next c=>have:=h c;omega
 ·split<;>omega
section
variable {r : Al} (F : Xn r)
include F
theorem Xn.step {x:En} {y:AU} (X:Jt r x) (hr:r.rch x) (h:r.step x=some y) (n:Nat):
  r.rch y.st∧(∀j,j+1<r.ds.length->r.wt j n x<=r.wt j (n+1) y.st)∧
  (y.st.hi=x.hi∨ ∃I,I+1<r.ds.length∧ ∃q,y.st.hi<=x.hi+thk r.ds I*q∧r.wt I n x+3*q<=r.wt I (n+1) y.st):=by
 have hX:=X.k;have ah:=F.ok.src;have ag:=F.ok.len;rcases Wk h with⟨e1,e2,e3,W⟩|⟨b,W,L,e1,e2,e3⟩|⟨b,W,L,e1,e2,e3⟩
 ·refine⟨λi hi=>hr i (by rw[e1] at hi;exact hi),λj N=>aS λO=> ?_,Or.inl e3⟩
  have ho:=F.out j O;rcases W with⟨d,W⟩|⟨d,W⟩
  ·unfold Uj;rw[e1,e2,d];simp only[Bool.not_true,if_true,Ie,if_false]
   repeat' split
   all_goals omega
  ·unfold Uj;rw[e1,e2,d];simp only[Bool.not_false,if_true,Ie,if_false]
   repeat' split
   all_goals omega
 ·have S:b<r.ds.length:=Aa
  obtain⟨I,Q,N⟩: ∃I,I+1<r.ds.length∧((x.k=I∧b=I+1∧x.dn=true)∨(x.k=I+1∧b=I∧x.dn=false)):=by
   rcases W with⟨d,h1,H⟩|⟨d,h1⟩
   ·exact⟨x.k,by omega,Or.inl ⟨rfl,h1,d⟩⟩
   ·exact⟨b,by omega,Or.inr ⟨h1,rfl,d⟩⟩
  have V:r.thick x.k b=thk r.ds I:=by
   have:=F.ok.thick_dn Q;rcases N with⟨h1,H,-⟩|⟨h1,H,-⟩
   ·rw[h1,H];exact this.1
   ·rw[h1,H];exact this.2
  have U:r.paHi x.k b=r.crHi x.k b:=by unfold Al.paHi;rw[AA L]
  refine⟨λi hi=> ?_,λj ae=> ?_,Or.inr ⟨I,Q,?_⟩⟩
  ·rw[e1] at hi
   by_cases ad:i=b
   ·rw[ad];exact L
   ·exact hr i Aa
  ·refine aS λO=> ?_;unfold Uj;rw[e1,e2];rcases N with⟨h1,H,d⟩|⟨h1,H,d⟩
   ·rw[d,h1,H];simp only[if_true]
    repeat' split
    all_goals omega
   ·rw[d,h1,H];simp only[Ie,if_false]
    repeat' split
    all_goals omega
  ·by_cases O:r.lev I=true
   ·refine⟨29200,?_,?_⟩
    ·rw[e3,U,<-V];obtain⟨-,-,l1,l2⟩:=Hk O;have:=F.ok.cr_lev X.k S X.can L (by rcases N with⟨h1,H,-⟩|⟨h1,H,-⟩<;>rw[h1]<;>assumption) (by rcases N with⟨h1,H,-⟩|⟨h1,H,-⟩<;>rw[H]<;>assumption)
     omega
    ·unfold Al.wt;rw[AA O,AA O]
     have:Uj r.src I x+2<=Uj r.src I y.st:=by
      unfold Uj;rw[e1,e2];rcases N with⟨h1,H,d⟩|⟨h1,H,d⟩
      ·rw[d,h1,H];simp only[if_true]
       repeat' split
       all_goals omega
      ·rw[d,h1,H];simp only[Ie,if_false]
       repeat' split
       all_goals(first|omega|(exfalso;simp_all;done))
     omega
   ·have M:r.can I=true∧r.can (I+1)=true:=by
     have J:=X.can;rcases N with⟨h1,H,-⟩|⟨h1,H,-⟩
     ·rw[h1] at J;rw[H] at L;exact⟨J,L⟩
     ·rw[h1] at J;rw[H] at L;exact⟨L,J⟩
    have K: ¬r.tur I=true:=by unfold Al.tur;rw[M.1,M.2];decide
    refine⟨47,?_,?_⟩
    ·rw[e3,U,<-V]
     have hn: ¬(500*(r.wh-r.pt x.k)<r.wh∧500*(r.wh-r.pt b)<r.wh):=λc=>O (by
      unfold Al.lev;rw[M.1,M.2,Ha,Ha];rcases N with⟨h1,H,-⟩|⟨h1,H,-⟩
      ·rw[h1,H] at c;rw[BC c.1,BC c.2];rfl
      ·rw[h1,H] at c;rw[BC c.1,BC c.2];rfl)
     have:=F.ok.cr_far X.k S X.can L hn;omega
    ·unfold Al.wt;rw[Ak O,Ak O,Ak K,Ak K];omega
 ·have S:b<r.ds.length:=Aa
  obtain⟨I,Q,N⟩: ∃I,I+1<r.ds.length∧((x.k=I∧b=I+1∧x.dn=true)∨(x.k=I+1∧b=I∧x.dn=false)):=by
   rcases W with⟨d,h1,H⟩|⟨d,h1⟩
   ·exact⟨x.k,by omega,Or.inl ⟨rfl,h1,d⟩⟩
   ·exact⟨b,by omega,Or.inr ⟨h1,rfl,d⟩⟩
  have V:r.thick x.k b=thk r.ds I:=by
   have:=F.ok.thick_dn Q;rcases N with⟨h1,H,-⟩|⟨h1,H,-⟩
   ·rw[h1,H];exact this.1
   ·rw[h1,H];exact this.2
  have U:r.paHi x.k b=r.tuHi x.k b:=by unfold Al.paHi;rw[Ak (by rw[L];decide)]
  have J:=X.can
  have af: ∀i,(r.src<=i∧i<=x.k)∨(x.k<=i∧i<=r.src)->i≠b:=λi hi c=>by
   have:=hr i hi;rw[c,L] at this
   cases this
  have K:r.tur I=true:=by
   unfold Al.tur;rcases N with⟨h1,H,-⟩|⟨h1,H,-⟩
   ·rw[h1] at J;rw[H] at L;rw[J,L];rfl
   ·rw[h1] at J;rw[H] at L;rw[J,L];rfl
  have aa: ¬r.lev I=true:=λc=>by
   obtain⟨c1,c2,-⟩:=Hk c;unfold Al.tur at K;rw[c1,c2] at K
   cases K
  refine⟨λi hi=>hr i (by rw[e1] at hi;exact hi),λj ae=> ?_,Or.inr ⟨I,Q,3690,?_,?_⟩⟩
  ·refine aS λO=> ?_;have ho:=F.out j O;have ak:j≠I:=λc=>aa (c▸O);have aj:=af b;unfold Uj;rw[e1,e2];rcases N with⟨h1,H,d⟩|⟨h1,H,d⟩
   ·rw[d,h1];simp only[Bool.not_true,if_true,Ie,if_false]
    repeat' split
    all_goals omega
   ·rw[d,h1];simp only[Bool.not_false,if_true,Ie,if_false]
    repeat' split
    all_goals omega
  ·rw[e3,U,<-V];have:=F.ok.tu_le X.k S J L;omega
  ·unfold Al.wt;rw[Ak aa,Ak aa,AA K,AA K];omega
theorem Xn.inv: ∀n x l,r.tr n=some (x,l)->r.rch x∧3*x.hi<=sumN (λj=>thk r.ds j*r.wt j n x) (r.ds.length-1):=by
 intro n
 induction n with
 |zero=>
  intro x l h;simp only[Al.tr,Gs,Prod.mk.injEq] at h;obtain⟨rfl,-⟩:=h;refine⟨λi hi=> ?_,?_⟩
  ·have:i=r.src:=by unfold Al.first at hi;simp only at hi;omega
   rw[this];exact F.ok.can_src
  ·have K:sumN (λ_=>0) (r.ds.length-1)<=sumN (λj=>thk r.ds j*r.wt j 0 r.first) (r.ds.length-1):=Lr _ λj M=>by
    have N:=F.ok.thk_bd (j:=j) Aa;refine Du Aa ?_;unfold Al.wt
    split
    ·next c=>
     have J:=F.out j c;have:=X7 r.src j (decide (0<r.s)) 0 0 J.1 J.2;have e:Uj r.src j r.first=Uj r.src j ⟨r.src,decide (0<r.s),0,0⟩:=rfl;rw[e];omega
    ·split<;>omega
   have h1: ∀m,sumN (λ_=>0) m=0:=λm=>by
    induction m with
    |zero=>rfl
    |succ m ih=>show sumN (λ_=>0) m+0=0;omega
   rw[h1] at K;show 3*(0:Int)<=_;omega
 |succ n ih=>
  intro x l h;simp only[Al.tr] at h
  split at h
  ·cases h
  ·next x0 l0 e=>
   obtain⟨i1,Q⟩:=ih x0 l0 e
   split at h
   ·cases h
   ·next y e2=>
    simp only[Gs,Prod.mk.injEq] at h;obtain⟨rfl,-⟩:=h;have X:=(F.ok.tr_ok n x0 l0 e).1;obtain⟨s1,O,H⟩:=F.step X i1 e2 n;refine⟨s1,?_⟩
    have I: ∀j,j<r.ds.length-1->thk r.ds j*r.wt j n x0<=thk r.ds j*r.wt j (n+1) y.st:=λj M=>
     Gq (O j Aa) (by have:=F.ok.thk_bd (j:=j) Aa;omega)
    rcases H with H|⟨j0,hj0,q,hq1,hq2⟩
    ·rw[H];have:=Lr (f:=λj=>thk r.ds j*r.wt j n x0) (g:=λj=>thk r.ds j*r.wt j (n+1) y.st) (r.ds.length-1) I;omega
    ·have N:=F.ok.thk_bd hj0
     have L:thk r.ds j0*r.wt j0 n x0+3*(thk r.ds j0*q)<=thk r.ds j0*r.wt j0 (n+1) y.st:=by
      have:=Gq hq2 (show 0<=thk r.ds j0 by omega)
      rw[Int.mul_add,Int.mul_left_comm] at this;exact this
     have:=Pa (f:=λj=>thk r.ds j*r.wt j n x0) (g:=λj=>thk r.ds j*r.wt j (n+1) y.st) (d:=3*(thk r.ds j0*q)) (j0:=j0) (r.ds.length-1) Aa I L;omega
end
structure YJ (r q:Al):Prop where
 fr:Xn r
 fq:Xn q
 ds:q.ds=r.ds
 a: ∀j,j+1<r.ds.length->r.lev j=true-> ¬q.lev j=true∧ ¬q.tur j=true
 b: ∀j,j+1<r.ds.length->q.lev j=true-> ¬r.lev j=true∧ ¬r.tur j=true
theorem YJ.sum {r q:Al} (N:YJ r q) {n:Nat} (S:n<=100) {x y:En} {l m:List AU} (h1:r.tr n=some (x,l)) (J:q.tr n=some (y,m)):x.hi+y.hi<=1000000000000:=by
 have i1:=(N.fr.inv n x l h1).2;have O:=(N.fq.inv n y m J).2;rw[N.ds] at O;have U:=N.fr.ok.thk_sum;have e:=UI (λj=>thk r.ds j*r.wt j n x) (λj=>thk r.ds j*q.wt j n y) (r.ds.length-1)
 have M:sumN (λj=>thk r.ds j*r.wt j n x+thk r.ds j*q.wt j n y) (r.ds.length-1)<=sumN (λj=>thk r.ds j*3000000) (r.ds.length-1):=Lr _ λj Q=>by
  have V:=N.fr.ok.thk_bd (j:=j) Aa;rw[<-Int.mul_add];refine Gq ?_ Aa;have p1:=Z6 r.src j x;have W:=Z6 q.src j y;have K:=N.a j Aa;have L:=N.b j Aa;unfold Al.wt
  by_cases l1:r.lev j=true
  ·obtain⟨c1,H⟩:=K l1;rw[AA l1,Ak c1,Ak H];omega
  ·rw[Ak l1]
   by_cases I:q.lev j=true
   ·obtain⟨-,H⟩:=L I;rw[Ak H,AA I];omega
   ·rw[Ak I]
    split<;>split<;>omega
 rw[UJ] at M;omega
theorem ez {a b m:Int} (H:0<=a) (h1:a<b) (I:m=(a+b+1)/2):a<m∧m<=b:=Aa
theorem OW {m M:Int} (H:0<=m) (h1:m<=M):0<=m*m∧m*m<=M*M:=⟨Du H H,CL h1 h1 H Aa⟩
theorem aq {n a b:Int} (h:0<=a) (I: ¬a<b) (J:a<=b) (h1:a*a<=n) (H:n<(b+1)*(b+1)):a=rD n:=by
 obtain rfl:a=b:=Aa;exact(dU h h1 H).symm
theorem Yg {n a b:Int} (h:0<=a) (I: ¬1<b-a) (J:a<b) (h1:a*a<=n) (H:n<b*b):a=rD n:=by
 obtain rfl:b=a+1:=Aa;exact(dU h h1 H).symm
theorem KM (n:Int) (w:World) (W:0<=n) (h1:n<=4000000000000000000):
  (GK 379 #[ZI n] w (ZI (rD n)):Prop):=by
 go_enter func379,ntmps379
 go_wp2_with fail
 go_loopw [3,4] (λx y wr=> ∃a b:Int,x=.int .i64 a∧y=.int .i64 b∧0<=a∧a<=b∧b<=2000000000∧a*a<=n∧n<(b+1)*(b+1)∧wr=w) (λx y _=>(intOf y-intOf x).toNat)
 case atStart=>exact⟨0,2000000000,rfl,rfl,by omega,by omega,by omega,by omega,by omega,rfl⟩
 case round=>
  obtain⟨a,b,rfl,rfl,K,S,b1,O,Q,rfl⟩:=hrel;have L:=Ai O;have N:=Ai Q;clear O Q
  by_cases H:a<b
  ·obtain⟨m,I⟩: ∃m,m=(a+b+1)/2:=⟨_,rfl⟩;have hd:(a+b+1).tdiv 2=m:=by rw[I];exact Int.tdiv_eq_ediv_of_nonneg Aa
   obtain⟨m0,m1⟩:=ez K H I;obtain⟨q0,q1⟩:=OW (m:=m) (M:=2000000000) Aa Aa;have hd2:(a+b+1)/2=m:=I.symm;clear I;have w1:=Bg (a+b);have w2:=Bg (a+b+1);have w3:=Bg m;have w4:=Bg (m*m);have V:=Bg (m-1)
   by_cases U:m*m<=n
   ·have J:=Ai U;go_wp2
    go_roundw
    case rel=>exact⟨m,b,rfl,rfl,by omega,m1,b1,J.out,N.out,by first|rfl|trivial⟩
    case measure=>simp only[intOf];omega
   ·have J:Hid (n<(m-1+1)*(m-1+1)):=by unfold Hid;rw[show m-1+1=m by omega];omega
    go_wp2
    go_roundw
    case rel=>exact⟨a,m-1,rfl,by first|rfl|rw[V],K,by omega,by omega,L.out,J.out,by first|rfl|trivial⟩
    case measure=>simp only[intOf];omega
  ·have HV:Hid (a=rD n):=aq K H S L.out N.out;go_wp2;go_ret;exact⟨Bb HV.out,rfl⟩
theorem Mn (n:Int) (w:World) (W:0<=n) (h1:n<=4000000000000000000):
  (GK 349 #[ZI n] w (ZI (rD n)):Prop):=by
 go_enter func349,ntmps349
 go_wp2_with fail
 go_loopw [3,4] (λx y wr=> ∃a b:Int,x=.int .i64 a∧y=.int .i64 b∧0<=a∧a<b∧b<=2000000001∧a*a<=n∧n<b*b∧wr=w) (λx y _=>(intOf y-intOf x).toNat)
 case atStart=>exact⟨0,2000000001,rfl,rfl,by omega,by omega,by omega,by omega,by omega,rfl⟩
 case round=>
  obtain⟨a,b,rfl,rfl,N,U,b1,O,Q,rfl⟩:=hrel;have K:=Ai O;have L:=Ai Q;clear O Q;have w0:=Bg (b-a)
  by_cases I:1<b-a
  ·obtain⟨m,J⟩: ∃m,m=(a+b)/2:=⟨_,rfl⟩;have hd:(a+b).tdiv 2=m:=by rw[J];exact Int.tdiv_eq_ediv_of_nonneg Aa
   have S:a<m∧m<b:=Aa;obtain⟨S,m1⟩:=S;obtain⟨q0,q1⟩:=OW (m:=m) (M:=2000000001) Aa Aa;have hd2:(a+b)/2=m:=J.symm;clear J;have w1:=Bg (a+b);have w3:=Bg m;have w4:=Bg (m*m)
   by_cases V:m*m<=n
   ·have H:=Ai V;go_wp2
    go_roundw
    case rel=>exact⟨m,b,rfl,rfl,by omega,m1,b1,H.out,L.out,by first|rfl|trivial⟩
    case measure=>simp only[intOf];omega
   ·have H:Hid (n<m*m):=by unfold Hid;omega
    go_wp2
    go_roundw
    case rel=>exact⟨a,m,rfl,rfl,N,by omega,by omega,K.out,H.out,by first|rfl|trivial⟩
    case measure=>simp only[intOf];omega
  ·have HV:Hid (a=rD n):=Yg N I U K.out L.out;go_wp2;go_ret;exact⟨Bb HV.out,rfl⟩
theorem V6 (n:Int) (w:World) (H:0<=n) (h1:n<=4000000000000000000):
  (GK 380 #[ZI n] w (ZI (rU n)):Prop):=by
 have N:=Z9 (n:=n) (M:=2000000000) H Aa Aa;have J:=(Mv H).1;have K:Hid (rU n=if rD n*rD n<n then rD n+1 else rD n):=rfl;have L:=KM n w H h1;generalize rU n=u at*;generalize rD n=r at*;obtain⟨Q,q1⟩:=OW (m:=r) (M:=2000000000) J N;have U:=Bg (r*r);have V:=Bg (r+1)
 go_enter func380,ntmps380
 go_wp2_with fail
 refine L.mono ?_;rintro e S ⟨rfl,rfl⟩
 by_cases I:r*r<n
 ·have HV:Hid (r+1=u):=by rw[K.out,AA I];rfl
  go_wp2;go_ret;exact⟨Bb HV.out,rfl⟩
 ·have HV:Hid (r=u):=by rw[K.out,Ak I];rfl
  have O:decide (r*r<n)=false:=by simpa using I
  go_wp2;go_ret;exact⟨Bb HV.out,rfl⟩
theorem PP (n:Int) (w:World) (H:0<=n) (h1:n<=4000000000000000000):
  (GK 350 #[ZI n] w (ZI (rU n)):Prop):=by
 have N:=Z9 (n:=n) (M:=2000000000) H Aa Aa;have J:=(Mv H).1;have K:Hid (rU n=if rD n*rD n<n then rD n+1 else rD n):=rfl;have L:=Mn n w H h1;generalize rU n=u at*;generalize rD n=r at*;obtain⟨Q,q1⟩:=OW (m:=r) (M:=2000000000) J N;have U:=Bg (r*r);have V:=Bg (r+1)
 go_enter func350,ntmps350
 go_wp2_with fail
 refine L.mono ?_;rintro e S ⟨rfl,rfl⟩
 by_cases I:r*r<n
 ·have HV:Hid (r+1=u):=by rw[K.out,AA I];rfl
  go_wp2;go_ret;exact⟨Bb HV.out,rfl⟩
 ·have HV:Hid (r=u):=by rw[K.out,Ak I];rfl
  have O:decide (r*r<n)=false:=by simpa using I
  go_wp2;go_ret;exact⟨Bb HV.out,rfl⟩
theorem LW {n:Int} (h:n<=0):rD n=0∧rU n=0:=by
 have e:rD n=0:=by
  unfold rD;rw[show n.toNat=0 by omega];rfl
 refine⟨e,?_⟩;unfold rU;rw[e,Ak Aa]
theorem Mo (n:Int) (w:World) (N:n<=0):
  (GK 349 #[ZI n] w (ZI 0):Prop):=by
 go_enter func349,ntmps349
 go_wp2_with fail
 go_loopw [3,4] (λx y wr=> ∃b:Int,x=.int .i64 0∧y=.int .i64 b∧1<=b∧b<=2000000001∧wr=w) (λx y _=>(intOf y-intOf x).toNat)
 case atStart=>exact⟨2000000001,rfl,rfl,by omega,by omega,rfl⟩
 case round=>
  obtain⟨b,rfl,rfl,L,b1,rfl⟩:=hrel;have V:IntKind.i64.wrap (b-0)=b:=by rw[Int.sub_zero];exact Ff _ Aa
  have K:=Bg b
  by_cases J:1<b
  ·obtain⟨m,I⟩: ∃m,m=b/2:=⟨_,rfl⟩;have Q:b.tdiv 2=m:=by rw[I];exact Int.tdiv_eq_ediv_of_nonneg Aa
   have H:1<=m∧m<b:=Aa;obtain⟨H,m1⟩:=H;obtain⟨S,q1⟩:=OW (m:=m) (M:=2000000001) Aa Aa;have U:=CL H H Aa Aa;have hd2:b/2=m:=I.symm;clear I;have W:=Bg m;have w4:=Bg (m*m);have O: ¬m*m<=n:=Aa;go_wp2
   go_roundw
   case rel=>exact⟨m,rfl,rfl,H,by omega,by first|rfl|trivial⟩
   case measure=>simp only[intOf];omega
  ·go_wp2;go_ret;exact⟨rfl,rfl⟩
theorem TC (n:Int) (w:World) (h1:n<=4000000000000000000):
  (GK 349 #[ZI n] w (ZI (rD n)):Prop):=by
 rcases Eg n 0 with h|h
 ·rw[(LW Aa).1];exact Mo n w Aa
 ·exact Mn n w h h1
theorem PO (n:Int) (w:World) (h1:n<=4000000000000000000):
  (GK 350 #[ZI n] w (ZI (rU n)):Prop):=by
 rcases Eg n 0 with h|h
 ·rw[(LW Aa).2];have H:=Mo n w Aa
  go_enter func350,ntmps350
  go_wp2_with fail
  refine H.mono ?_;rintro e I ⟨rfl,rfl⟩;go_wp2;go_ret;exact⟨rfl,rfl⟩
 ·exact PP n w h h1

structure Wv (w:World) (B:Nat) (l:List Sl):Prop where
 rd:Ag w l
 wr:AB w B l
theorem Wv.below {w w':World} {B:Nat} {l:List Sl} (X:Wv w B l) (b:Below w w w'):Wv w' B l:=⟨X.rd.below b,X.wr.below X.rd b⟩
def AE:Ae:=⟨[0,1000],[1500000,1500000],0,4,3,5,[]⟩
def fs (w:World) (e:Ending) (w':World):Prop:=
 ∃h,e=.returned (At h AE)∧GW h∧Ag w' (Ar h AE)∧AB w' w.heap.size (Ar h AE)∧Dx (BK h)∧Below w w w'
theorem WW (w:World):fs w (.returned (Bp (some ⟨w+1,0,none⟩) 2 2 (some ⟨w+1+1,0,none⟩) 2 2 0 4 3 5 none 0 0)) (((w.alloc (.cells (Bp (some ⟨w+1,0,none⟩) 2 2 (some ⟨w+1+1,0,none⟩) 2 2 0 4 3 5 none 0 0) 35)).alloc (.cells (Zii 0 1000) 2)).alloc (.cells (Zii 1500000 1500000) 2)):=by
 have z1:(w.alloc (.cells (Bp (some ⟨w+1,0,none⟩) 2 2 (some ⟨w+1+1,0,none⟩) 2 2 0 4 3 5 none 0 0) 35)).heap.size=w.heap.size+1:=Cr;have M:((w.alloc (.cells (Bp (some ⟨w+1,0,none⟩) 2 2 (some ⟨w+1+1,0,none⟩) 2 2 0 4 3 5 none 0 0) 35)).alloc (.cells (Zii 0 1000) 2)).heap.size=w.heap.size+1+1:=Cr;have B1:=(Blk.newN (g:=w+1) (w.alloc (.cells (Bp (some ⟨w+1,0,none⟩) 2 2 (some ⟨w+1+1,0,none⟩) 2 2 0 4 3 5 none 0 0) 35)) 2 (Zii 0 1000) z1).alloc (.cells (Zii 1500000 1500000) 2);have H:=Blk.newN (g:=w+1+1) ((w.alloc (.cells (Bp (some ⟨w+1,0,none⟩) 2 2 (some ⟨w+1+1,0,none⟩) 2 2 0 4 3 5 none 0 0) 35)).alloc (.cells (Zii 0 1000) 2)) 2 (Zii 1500000 1500000) M
 have I:Rd _ (some ⟨w+1,0,none⟩) 2 (ints [0,1000]):=B1.rd rfl (λi hi=>by
  match i,hi with
  |0,_=>rfl
  |1,_=>rfl)
 have J:Rd _ (some ⟨w+1+1,0,none⟩) 2 (ints [1500000,1500000]):=H.rd rfl (λi hi=>by
  match i,hi with
  |0,_=>rfl
  |1,_=>rfl)
 have K:=B1.wr (B:=w.heap.size) Aa 2;have L:=H.wr (B:=w.heap.size) Aa 2
 refine⟨⟨⟨some ⟨w+1,0,none⟩,2,2⟩,⟨some ⟨w+1+1,0,none⟩,2,2⟩,⟨none,0,0⟩⟩,rfl,⟨by show 2<=1048576;decide,by show 2<=1048576;decide,by show 0<=1048576;decide⟩,
  Ag.cons (s:=⟨some ⟨w+1,0,none⟩,2,ints [0,1000]⟩) I (Ag.cons (s:=⟨some ⟨w+1+1,0,none⟩,2,ints [1500000,1500000]⟩) J (Ag.cons (s:=⟨none,0,[]⟩) (Rd.nil _ _) (Ag.nil _))),
  AB.cons (s:=⟨some ⟨w+1,0,none⟩,2,ints [0,1000]⟩) K (AB.cons (s:=⟨some ⟨w+1+1,0,none⟩,2,ints [1500000,1500000]⟩) L (AB.cons (s:=⟨none,0,[]⟩) (λh=>absurd h Ah) (AB.nil _ _))),?_,Ax⟩
 refine Dx.step (B:=w.heap.size+1+1) (λb e=>by simp[blkp,YD] at e;omega) (Hi.cons (λb e=>by simp[blkp,YD] at e;omega) (Hi.cons (λb e=>by simp[blkp] at e) (Hi.nil _))) (Dx.step (B:=w.heap.size+1+1+1) (λb e=>by simp[blkp,YD] at e;omega) (Hi.cons (λb e=>by simp[blkp] at e) (Hi.nil _)) (Dx.one _))
theorem jI (w:World):Calls prog 20 #[] w (fs w):=by
 go_enter func20,ntmps20
 go_wp2;exact AS (v:=.agg (Bp (some ⟨w+1,0,none⟩) 2 2 (some ⟨w+1+1,0,none⟩) 2 2 0 4 3 5 none 0 0)) (by simp[results,results20,go_sem]) rfl (WW w)
theorem L6 (w:World):Calls prog 21 #[] w (fs w):=by
 go_enter func21,ntmps21
 go_wp2;exact AS (v:=.agg (Bp (some ⟨w+1,0,none⟩) 2 2 (some ⟨w+1+1,0,none⟩) 2 2 0 4 3 5 none 0 0)) (by simp[results,results21,go_sem]) rfl (WW w)
theorem jB (I A1 L B1:Option Addr) (H n1 M c1 N d1:Nat) (xs ys:List Int) (w:World) (h0:H<=1048576) (h1:n1<=1048576) (U:Rd w I H (ints xs)) (a1:Rd w A1 n1 (ints ys)) (V:Rd w L H (ints xs)) (b1:Rd w B1 n1 (ints ys)):
  (BT 22 #[CH I H M A1 n1 c1,CH L H N B1 n1 d1] w (.bool true):Prop):=by
 have K:=(Br w 30 (CH I H M A1 n1 c1)).alloc (.cells (CH L H N B1 n1 d1) 30);have J:=Blk.newN (g:=w+1) (w.alloc (.cells (CH I H M A1 n1 c1) 30)) 30 (CH L H N B1 n1 d1) Cr;have b:Below w w ((w.alloc (.cells (CH I H M A1 n1 c1) 30)).alloc (.cells (CH L H N B1 n1 d1) 30)):=Ax
 go_enter func22,ntmps22
 go_upto_region 1 with fail
 generalize(w.alloc _).alloc _=w1 at K J b⊢;have S:=K.cell;have Q:=J.cell
 go_wp2_with fail
 refine(jG I L H M N xs _ Aa (U.below b) (V.below b)).mono ?_;rintro e w2 ⟨rfl,m,rfl⟩;have O:=Ba b m;replace K:=K.drewN m;replace J:=J.drewN m;generalize w1.drewN m=w2 at K J O⊢;clear S Q b;have S:=K.cell;have Q:=J.cell
 go_wp2_with fail
 refine(jG A1 B1 n1 c1 d1 ys _ Aa (a1.below O) (b1.below O)).mono ?_;rintro e w3 ⟨rfl,m,rfl⟩;have W:=Ba O m;go_wp2;go_ret;exact⟨rfl,W⟩
theorem jH (A B:Option Addr) (n c d:Nat) (xs:List Int) (w:World) (hn:n<=1048576) (ha:Rd w A (n*7) (ints xs)) (J:Rd w B (n*7) (ints xs)):
  (BT 23 (CH A n c B n d) w (.bool true):Prop):=by
 go_enter func23,ntmps23
 go_wp2
 go_loopw [5] (λi wr=> ∃k:Nat,k<=n∧i=.int .i64 k∧Below w w wr) (λi _=>n-(intOf i).toNat)
 case atStart=>exact⟨0,AZ _,rfl,AP _ _⟩
 case round=>
  obtain⟨k,hk,rfl,b⟩:=hrel
  by_cases H:k<n
  ·have I:(k:Int)<(n:Int):=Aa;have K:(0:Int)<=(k:Int):=Aa;obtain⟨V,rfl,M,a1,N,O,Q,S,U⟩:=(ha.below b).seven H;obtain⟨bd,rfl,W,c1,c2,c3,c4,c5,c6⟩:=(J.below b).seven H;generalize xs.getD (k*7) 0=x0 at*;generalize xs.getD (k*7+1) 0=x1 at*;generalize xs.getD (k*7+2) 0=x2 at*;generalize xs.getD (k*7+3) 0=x3 at*;generalize xs.getD (k*7+4) 0=x4 at*;generalize xs.getD (k*7+5) 0=x5 at*;generalize xs.getD (k*7+6) 0=x6 at*
   go_wp2_with fail
   go_quiet (fail)
   revert nq;intro L
   go_wp2_with fail
   go_roundw
   case rel=>exact⟨k+1,by omega,by go_num,Ba b _⟩
   case measure=>simp[intOf];omega
  ·obtain rfl:k=n:=Aa;go_wp2;go_ret;exact⟨rfl,b⟩
