import Derived.Test.YtkndcebhjcfphaaGreatDoorZC
import Derived.StillTailTactics
namespace Go.Proofs.YtkndcebhjcfphaaGreatDoor
open Go.RowKit Go.Proofs.Tryz
set_option maxRecDepth 100000
set_option maxHeartbeats 4000000
set_option linter.all false
theorem Rd.two {w:World} {A:Option Addr} {n k:Nat} {xs:List Int} (h:Rd w A (n*2) (ints xs)) (hk:k<n):
  ∃ad,A=some ad∧w.cell? (ad.add (k*2))=ZS (xs.getD (k*2) 0)∧w.cell? ⟨(ad.add (k*2)).block,(ad.add (k*2)).off+1,none⟩=ZS (xs.getD (k*2+1) 0):=by
 obtain⟨ad,e0,hx0⟩:=h.int (show k*2<n*2 by omega)
 obtain⟨ad',e1,hx1⟩:=h.int (show k*2+1<n*2 by omega)
 rw[e0] at e1;injection e1 with e1;subst e1;rw[←Bv,Bf _ 1 Ah] at hx1;exact⟨ad,e0,hx0,hx1⟩
theorem Ja (h:Bh) (l:Am) (w:World) (ok:Cl h) (hr:Ag w (AO h l)):
  (BT 239 #[Bd h l] w (.bool (Dl l)):Prop):=by
 obtain⟨m3,m4⟩:=ok;have r3:=hr.head;have r4:=hr.tail.head;obtain⟨⟨A3,n3,c3⟩,⟨A4,n4,c4⟩⟩:=h;obtain⟨x0,x1,x2,l3,l4⟩:=l;clear hr;unfold Bd;simp only at*
 have HO:Hid (Dl ⟨x0,x1,x2,l3,l4⟩=(DK x0 x1 x2 && decide ((n3:Int)=x1*x2) && decide (n4*2=n3*2) && Cz l3 l4 n3)):=by
  unfold Hid Dl Im;simp only;rw[r3.len,r4.len]
 have hb0:Below w w (w.alloc (.cells (AH x0 x1 x2 A3 n3 c3 A4 n4 c4) 181)):=BU;rcases BA (DK x0 x1 x2) with h0|h0
 case inr=>
  go_enter func239,ntmps239
  go_wp2_with fail
  go_quiet ((first|(go_at_call 236;exact Hq (DF _ _ _ _))))
  go_wp2;go_ret;exact⟨Af (by rw[HO.out,h0];rfl),Ba hb0 _⟩
 have i0:=Fh h0;have hmul:=Nd i0.2.1.1 i0.2.1.2 i0.2.2.1 i0.2.2.2;have hwr:=Bg (x1*x2)
 by_cases e1:(n3:Int)=x1*x2
 case neg=>
  have q2:((n3:Int) !=x1*x2)=true:=by simpa using e1
  have HE:=Ai e1;clear e1
  go_enter func239,ntmps239
  go_wp2_with fail
  go_quiet ((first|(go_at_call 236;exact Hq (DF _ _ _ _))|(go_at_call 74;exact Hq (LS _ _ _ _ (by omega)))))
  go_wp2;go_ret;exact⟨Af (by rw[HO.out,h0,BR HE.out];rfl),Ba hb0 _⟩
 have q1:((n3:Int)==x1*x2)=true:=by simpa using e1
 have q2:((n3:Int) !=x1*x2)=false:=by simpa using e1
 have HE:=Ai e1;clear e1
 by_cases e2:n4=n3
 case neg=>
  have q4:((n4:Int) !=(n3:Int))=true:=Bq;have HF:Hid (¬n4*2=n3*2):=by unfold Hid;omega
  clear e2
  go_enter func239,ntmps239
  go_wp2_with fail
  go_quiet ((first|(go_at_call 236;exact Hq (DF _ _ _ _))|(go_at_call 74;exact Hq (LS _ _ _ _ (by omega)))))
  go_wp2;go_ret;exact⟨Af (by rw[HO.out,BR HF.out];simp),Ba hb0 _⟩
 subst e2;have HG:Hid (Dl ⟨x0,x1,x2,l3,l4⟩=Cz l3 l4 n4):=by unfold Hid;rw[HO.out,h0,BC HE.out,BC rfl];rfl
 clear HO
 go_enter func239,ntmps239
 go_wp2_with fail
 have K0:=Br w 181 (AH x0 x1 x2 A3 n4 c3 A4 n4 c4)
 go_quiet ((first|(go_at_call 236;exact Hq (DF _ _ _ _))|(go_at_call 74;exact Hq (LS _ _ _ _ (by omega)))))
 have hb1:=Ba hb0 nq;have K1:=K0.drewN nq;have r3:=r3.below hb1;have r4:=r4.below hb1;generalize(w.alloc _).drewN nq=w1 at hb1 K1 r3 r4⊢;have c1:=K1.cell;clear hwr h0 K0 hb0;go_wp2;clear c1
 go_loopw [36] (fun i wr=> ∃k:Nat,k≤n4∧i=.int .i64 k∧Cz l3 l4 k=true∧Below w1 w1 wr) (fun i _=>n4-(intOf i).toNat)
 case atStart=>exact⟨0,AZ _,rfl,rfl,AP _ _⟩
 case round=>
  obtain⟨k,hk,rfl,hall,hbel⟩:=hrel;have HA:=Ai hall;clear hall q1 q2;have KR:=K1.below hbel K1.lt;have cr:=KR.cell
  by_cases hlt:k<n4
  ·have HS:Hid (Cz l3 l4 (k+1)=(Cz l3 l4 k && CQ (l3.getD k 0) (l4.getD (k*2) 0) (l4.getD (k*2+1) 0))):=Ka l3 l4 k;have HB:Hid (CQ (l3.getD k 0) (l4.getD (k*2) 0) (l4.getD (k*2+1) 0)=false→Cz l3 l4 n4=false):=fun h=>Jl h hlt;have R4:=r4.below hbel;obtain⟨a3,rfl,hx⟩:=(r3.below hbel).int hlt;obtain⟨a4,rfl,hy0,hy1⟩:=R4.two hlt
   have R4': ∀W,Below wr wr W→W.cell? (a4.add (k*2))=ZS (l4.getD (k*2) 0)∧W.cell? ⟨(a4.add (k*2)).block,(a4.add (k*2)).off+1,none⟩=ZS (l4.getD (k*2+1) 0):=fun W b=>by
    obtain⟨a5,e5,h5,h6⟩:=(R4.below b).two hlt;injection e5 with e5;subst e5;exact⟨h5,h6⟩
   generalize l3.getD k 0=x at*;generalize l4.getD (k*2) 0=y at*;generalize l4.getD (k*2+1) 0=z at*;have HC:Hid (CQ x y z=(inR x (-1) 1000000000000 && XL y z && !(decide (x=0) && !(decide (y=0) && decide (z=0))))):=rfl;rcases BA (inR x (-1) 1000000000000) with g1|g1
   case inr=>
    go_wp2_with (go_at_call 73;refine(As _ _ _ _).mono ?_;rintro e w' ⟨rfl,rfl⟩)
    go_ret;exact⟨Af (by rw[HG.out,HB.out (by rw[HC.out,g1];rfl)]),(An hb1 hbel)⟩
   go_wp2_with (go_at_call 73;refine(As _ _ _ _).mono ?_;rintro e w' ⟨rfl,rfl⟩)
   refine(JC y z _).mono ?_;rintro e w2 ⟨rfl,b2⟩;have hb2:=Y2 hbel b2 Bk;have K2:=KR.below b2 KR.lt;have c2:=K2.cell;have hy:=R4' _ b2;obtain⟨hy0',hy1'⟩:=hy;clear cr hx hy0 hy1 R4 R4';rcases BA (XL y z) with g2|g2
   case inr=>
    go_wp2;go_ret;exact⟨Af (by rw[HG.out,HB.out (by rw[HC.out,g1,g2];rfl)]),(An hb1 hb2)⟩
   by_cases g3:x=0
   case neg=>
    have f3:(x==0)=false:=by simpa using g3
    have HV:Hid (CQ x y z=true):=by unfold Hid;rw[HC.out,g1,g2,BR g3];rfl
    clear g3;go_wp2
    go_roundw
    case rel=>exact⟨k+1,by omega,by go_num,by rw[HS.out,HA.out,HV.out];rfl,hb2⟩
    case measure=>simp[intOf];omega
   subst g3
   by_cases g4:y=0
   case neg=>
    have f4:(y==0)=false:=by simpa using g4
    have HV:Hid (CQ 0 y z=false):=by unfold Hid;rw[HC.out,g1,g2,BR g4];simp
    clear g4;go_wp2;go_ret;exact⟨Af (by rw[HG.out,HB.out HV.out]),(An hb1 hb2)⟩
   subst g4
   by_cases g5:z=0
   case neg=>
    have f5:(z==0)=false:=by simpa using g5
    have HV:Hid (CQ 0 0 z=false):=by unfold Hid;rw[HC.out,g1,g2,BR g5];simp
    clear g5;go_wp2;go_ret;exact⟨Af (by rw[HG.out,HB.out HV.out]),(An hb1 hb2)⟩
   subst g5;have HV:Hid (CQ 0 0 0=true):=by unfold Hid;rw[HC.out,g1,g2];rfl
   go_wp2
   go_roundw
   case rel=>exact⟨k+1,by omega,by go_num,by rw[HS.out,HA.out,HV.out];rfl,hb2⟩
   case measure=>simp[intOf];omega
  ·obtain rfl:k=n4:=Aa;go_wp2;go_ret;exact⟨Af (by rw[HG.out,HA.out]),(An hb1 hbel)⟩
theorem Jf (h:Bh) (l:Am) (w:World) (ok:Cl h) (hr:Ag w (AO h l)):
  (BT 222 #[Bd h l] w (.bool (Dl l)):Prop):=by
 obtain⟨m3,m4⟩:=ok;have r3:=hr.head;have r4:=hr.tail.head;obtain⟨⟨A3,n3,c3⟩,⟨A4,n4,c4⟩⟩:=h;obtain⟨x0,x1,x2,l3,l4⟩:=l;clear hr;unfold Bd;simp only at*
 have HO:Hid (Dl ⟨x0,x1,x2,l3,l4⟩=(DK x0 x1 x2 && decide ((n3:Int)=x1*x2) && decide (n4*2=n3*2) && Cz l3 l4 n3)):=by
  unfold Hid Dl Im;simp only;rw[r3.len,r4.len]
 have hb0:Below w w (w.alloc (.cells (AH x0 x1 x2 A3 n3 c3 A4 n4 c4) 181)):=BU;rcases BA (DK x0 x1 x2) with h0|h0
 case inr=>
  go_enter func222,ntmps222
  go_wp2_with (go_at_call 218;refine(Fj _ _ _ _).mono ?_;rintro e w' ⟨rfl,rfl⟩)
  go_ret;exact⟨Af (by rw[HO.out,h0];rfl),hb0⟩
 have i0:=Fh h0;have hmul:=Nd i0.2.1.1 i0.2.1.2 i0.2.2.1 i0.2.2.2;have hwr:=Bg (x1*x2)
 by_cases e1:(n3:Int)=x1*x2
 case neg=>
  have q2:((n3:Int) !=x1*x2)=true:=by simpa using e1
  have HE:=Ai e1;clear e1
  go_enter func222,ntmps222
  go_wp2_with (go_at_call 218;refine(Fj _ _ _ _).mono ?_;rintro e w' ⟨rfl,rfl⟩)
  go_ret;exact⟨Af (by rw[HO.out,h0,BR HE.out];rfl),hb0⟩
 have q1:((n3:Int)==x1*x2)=true:=by simpa using e1
 have q2:((n3:Int) !=x1*x2)=false:=by simpa using e1
 have HE:=Ai e1;clear e1
 by_cases e2:n4=n3
 case neg=>
  have q4:((n4:Int) !=(n3:Int))=true:=Bq;have HF:Hid (¬n4*2=n3*2):=by unfold Hid;omega
  clear e2
  go_enter func222,ntmps222
  go_wp2_with (go_at_call 218;refine(Fj _ _ _ _).mono ?_;rintro e w' ⟨rfl,rfl⟩)
  go_ret;exact⟨Af (by rw[HO.out,BR HF.out];simp),hb0⟩
 subst e2;have HG:Hid (Dl ⟨x0,x1,x2,l3,l4⟩=Cz l3 l4 n4):=by unfold Hid;rw[HO.out,h0,BC HE.out,BC rfl];rfl
 clear HO
 go_enter func222,ntmps222
 go_wp2_with (go_at_call 218;refine(Fj _ _ _ _).mono ?_;rintro e w' ⟨rfl,rfl⟩)
 have K1:=Br w 181 (AH x0 x1 x2 A3 n4 c3 A4 n4 c4);have r3:=r3.below hb0;have r4:=r4.below hb0;have hb1:=hb0;generalize(w.alloc _)=w1 at hb1 K1 r3 r4⊢;clear hwr h0 hb0
 go_loopw [3] (fun i wr=> ∃k:Nat,k≤n4∧i=.int .i64 k∧Cz l3 l4 k=true∧Below w1 w1 wr) (fun i _=>n4-(intOf i).toNat)
 case atStart=>exact⟨0,AZ _,rfl,rfl,AP _ _⟩
 case round=>
  obtain⟨k,hk,rfl,hall,hbel⟩:=hrel;have HA:=Ai hall;clear hall q1 q2;have KR:=K1.below hbel K1.lt;have cr:=KR.cell
  by_cases hlt:k<n4
  ·have HS:Hid (Cz l3 l4 (k+1)=(Cz l3 l4 k && CQ (l3.getD k 0) (l4.getD (k*2) 0) (l4.getD (k*2+1) 0))):=Ka l3 l4 k;have HB:Hid (CQ (l3.getD k 0) (l4.getD (k*2) 0) (l4.getD (k*2+1) 0)=false→Cz l3 l4 n4=false):=fun h=>Jl h hlt;have R4:=r4.below hbel;obtain⟨a3,rfl,hx⟩:=(r3.below hbel).int hlt;obtain⟨a4,rfl,hy0,hy1⟩:=R4.two hlt
   have R3': ∀W,Below wr wr W→W.cell? (a3.add k)=ZS (l3.getD k 0):=fun W b=>by
    obtain⟨a5,e5,h5⟩:=((r3.below hbel).below b).int hlt;injection e5 with e5;subst e5;exact h5
   have R4': ∀W,Below wr wr W→W.cell? (a4.add (k*2))=ZS (l4.getD (k*2) 0)∧W.cell? ⟨(a4.add (k*2)).block,(a4.add (k*2)).off+1,none⟩=ZS (l4.getD (k*2+1) 0):=fun W b=>by
    obtain⟨a5,e5,h5,h6⟩:=(R4.below b).two hlt;injection e5 with e5;subst e5;exact⟨h5,h6⟩
   generalize l3.getD k 0=x at*;generalize l4.getD (k*2) 0=y at*;generalize l4.getD (k*2+1) 0=z at*;have HC:Hid (CQ x y z=(inR x (-1) 1000000000000 && XL y z && !(decide (x=0) && !(decide (y=0) && decide (z=0))))):=rfl;rcases BA (inR x (-1) 1000000000000) with g1|g1
   case inr=>
    go_wp2_with (go_at_call 84;refine(Ay _ _ _ _).mono ?_;rintro e w' ⟨rfl,rfl⟩)
    go_ret;exact⟨Af (by rw[HG.out,HB.out (by rw[HC.out,g1];rfl)]),(An hb1 hbel)⟩
   go_wp2_with (go_at_call 84;refine(Ay _ _ _ _).mono ?_;rintro e w' ⟨rfl,rfl⟩)
   refine(JJ y z _).mono ?_;rintro e w2 ⟨rfl,b2⟩;have hb2:=Y2 hbel b2 Bk;have K2:=KR.below b2 KR.lt;have c2:=K2.cell;have hy:=R4' _ b2;obtain⟨hy0',hy1'⟩:=hy;have hx2:=R3' _ b2;clear cr hx hy0 hy1 R4 R4' R3';rcases BA (XL y z) with g2|g2
   case inr=>
    go_wp2;go_ret;exact⟨Af (by rw[HG.out,HB.out (by rw[HC.out,g1,g2];rfl)]),(An hb1 hb2)⟩
   by_cases g3:x=0
   case neg=>
    have f3:(x==0)=false:=by simpa using g3
    have HV:Hid (CQ x y z=true):=by unfold Hid;rw[HC.out,g1,g2,BR g3];rfl
    clear g3;go_wp2
    go_roundw
    case rel=>exact⟨k+1,by omega,by go_num,by rw[HS.out,HA.out,HV.out];rfl,hb2⟩
    case measure=>simp[intOf];omega
   subst g3
   by_cases g4:y=0
   case neg=>
    have f4:(y==0)=false:=by simpa using g4
    have HV:Hid (CQ 0 y z=false):=by unfold Hid;rw[HC.out,g1,g2,BR g4];simp
    clear g4;go_wp2;go_ret;exact⟨Af (by rw[HG.out,HB.out HV.out]),(An hb1 hb2)⟩
   subst g4
   by_cases g5:z=0
   case neg=>
    have f5:(z==0)=false:=by simpa using g5
    have HV:Hid (CQ 0 0 z=false):=by unfold Hid;rw[HC.out,g1,g2,BR g5];simp
    clear g5;go_wp2;go_ret;exact⟨Af (by rw[HG.out,HB.out HV.out]),(An hb1 hb2)⟩
   subst g5;have HV:Hid (CQ 0 0 0=true):=by unfold Hid;rw[HC.out,g1,g2];rfl
   go_wp2
   go_roundw
   case rel=>exact⟨k+1,by omega,by go_num,by rw[HS.out,HA.out,HV.out];rfl,hb2⟩
   case measure=>simp[intOf];omega
  ·obtain rfl:k=n4:=Aa;go_wp2;go_ret;exact⟨Af (by rw[HG.out,HA.out]),(An hb1 hbel)⟩
end Go.Proofs.YtkndcebhjcfphaaGreatDoor
