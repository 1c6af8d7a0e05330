import Derived.Test.YtkndcebhjcfphaaGreatDoorZC
import Derived.StillTailTactics
namespace Go.Proofs.YtkndcebhjcfphaaGreatDoor
open Go.RowKit Go.Proofs.Tryz
set_option maxRecDepth 100000
set_option maxHeartbeats 4000000
set_option linter.all false
theorem Rd.two {w:World} {A:Option Addr} {n k:Nat} {xs:List Int} (h:Rd w A (n*2) (ints xs)) (g:k<n):
  ∃a,A=some a∧w.cell? (a.add (k*2))=ZS (xs.getD (k*2) 0)∧w.cell? ⟨(a.add (k*2)).block,(a.add (k*2)).off+1,none⟩=ZS (xs.getD (k*2+1) 0):=by
 obtain⟨a,d,c⟩:=h.int (show k*2<n*2 by omega)
 obtain⟨f,e1,b⟩:=h.int (show k*2+1<n*2 by omega)
 rw[d] at e1;injection e1 with e1;subst e1;rw[<-Bv,Bf _ 1 Ah] at b;exact⟨a,d,c,b⟩
theorem Ja (h:Bh) (l:Am) (w:World) (ok:Cl h) (S:Ag w (AO h l)):
  (BT 239 #[Bd h l] w (.bool (Dl l)):Prop):=by
 obtain⟨m3,m4⟩:=ok;have C:=S.head;have D:=S.tail.head;obtain⟨⟨X,q,c3⟩,⟨Y,f,c4⟩⟩:=h;obtain⟨u,j,m,g,d⟩:=l;clear S;unfold Bd;simp only at*
 have A:Hid (Dl ⟨u,j,m,g,d⟩=(DK u j m && decide ((q:Int)=j*m) && decide (f*2=q*2) && Cz g d q)):=by
  unfold Hid Dl Im;simp only;rw[C.len,D.len]
 have n:Below w w (w.alloc (.cells (AH u j m X q c3 Y f c4) 181)):=BU;rcases jt (DK u j m) with h0|h0
 case inr=>
  go_enter func239,ntmps239
  go_wp2_with fail
  go_quiet ((first|(go_at_call 236;exact Hq (DF _ _ _ _))))
  go_wp2;go_ret;exact⟨Af (by rw[A.out,h0];rfl),Ba n _⟩
 have J:=Fh h0;have ad:=Nd J.2.1.1 J.2.1.2 J.2.2.1 J.2.2.2;have T:=Bg (j*m)
 by_cases e1:(q:Int)=j*m
 case neg=>
  have q2:((q:Int) !=j*m)=true:=by simpa using e1
  have L:=Ai e1;clear e1
  go_enter func239,ntmps239
  go_wp2_with fail
  go_quiet ((first|(go_at_call 236;exact Hq (DF _ _ _ _))|(go_at_call 74;exact Hq (LS _ _ _ _ (by omega)))))
  go_wp2;go_ret;exact⟨Af (by rw[A.out,h0,BR L.out];rfl),Ba n _⟩
 have q1:((q:Int)==j*m)=true:=by simpa using e1
 have q2:((q:Int) !=j*m)=false:=by simpa using e1
 have L:=Ai e1;clear e1
 by_cases e2:f=q
 case neg=>
  have q4:((f:Int) !=(q:Int))=true:=Bq;have HF:Hid (¬f*2=q*2):=by unfold Hid;omega
  clear e2
  go_enter func239,ntmps239
  go_wp2_with fail
  go_quiet ((first|(go_at_call 236;exact Hq (DF _ _ _ _))|(go_at_call 74;exact Hq (LS _ _ _ _ (by omega)))))
  go_wp2;go_ret;exact⟨Af (by rw[A.out,BR HF.out];simp),Ba n _⟩
 subst e2;have v:Hid (Dl ⟨u,j,m,g,d⟩=Cz g d f):=by unfold Hid;rw[A.out,h0,BC L.out,BC rfl];rfl
 clear A
 go_enter func239,ntmps239
 go_wp2_with fail
 have K0:=Br w 181 (AH u j m X f c3 Y f c4)
 go_quiet ((first|(go_at_call 236;exact Hq (DF _ _ _ _))|(go_at_call 74;exact Hq (LS _ _ _ _ (by omega)))))
 have c:=Ba n nq;have F:=K0.drewN nq;have C:=C.below c;have D:=D.below c;generalize(w.alloc _).drewN nq=w1 at c F C D⊢;have c1:=F.cell;clear T h0 K0 n;go_wp2;clear c1
 go_loopw [36] (λi wr=> ∃k:Nat,k<=f∧i=.int .i64 k∧Cz g d k=true∧Below w1 w1 wr) (λi _=>f-(intOf i).toNat)
 case atStart=>exact⟨0,AZ _,rfl,rfl,AP _ _⟩
 case round=>
  obtain⟨k,hk,rfl,s,a⟩:=hrel;have K:=Ai s;clear s q1 q2;have M:=F.below a F.lt;have cr:=M.cell
  by_cases r:k<f
  ·have Z:Hid (Cz g d (k+1)=(Cz g d k && CQ (g.getD k 0) (d.getD (k*2) 0) (d.getD (k*2+1) 0))):=Ka g d k;have E:Hid (CQ (g.getD k 0) (d.getD (k*2) 0) (d.getD (k*2+1) 0)=false->Cz g d f=false):=λh=>Jl h r;have N:=D.below a;obtain⟨a3,rfl,hx⟩:=(C.below a).int r;obtain⟨O,rfl,U,V⟩:=N.two r
   have B: ∀W,Below wr wr W->W.cell? (O.add (k*2))=ZS (d.getD (k*2) 0)∧W.cell? ⟨(O.add (k*2)).block,(O.add (k*2)).off+1,none⟩=ZS (d.getD (k*2+1) 0):=λW b=>by
    obtain⟨a5,R,h5,h6⟩:=(N.below b).two r;injection R with R;subst R;exact⟨h5,h6⟩
   generalize g.getD k 0=x at*;generalize d.getD (k*2) 0=y at*;generalize d.getD (k*2+1) 0=z at*;have t:Hid (CQ x y z=(inR x (-1) 1000000000000 && XL y z && !(decide (x=0) && !(decide (y=0) && decide (z=0))))):=rfl;rcases jt (inR x (-1) 1000000000000) with g1|g1
   case inr=>
    go_wp2_with (go_at_call 73;refine(As _ _ _ _).mono ?_;rintro e w' ⟨rfl,rfl⟩)
    go_ret;exact⟨Af (by rw[v.out,E.out (by rw[t.out,g1];rfl)]),(An c a)⟩
   go_wp2_with (go_at_call 73;refine(As _ _ _ _).mono ?_;rintro e w' ⟨rfl,rfl⟩)
   refine(JC y z _).mono ?_;rintro e w2 ⟨rfl,Q⟩;have p:=Y2 a Q Bk;have K2:=M.below Q M.lt;have c2:=K2.cell;have hy:=B _ Q;obtain⟨ae,af⟩:=hy;clear cr hx U V N B;rcases jt (XL y z) with g2|g2
   case inr=>
    go_wp2;go_ret;exact⟨Af (by rw[v.out,E.out (by rw[t.out,g1,g2];rfl)]),(An c p)⟩
   by_cases G:x=0
   case neg=>
    have f3:(x==0)=false:=by simpa using G
    have HV:Hid (CQ x y z=true):=by unfold Hid;rw[t.out,g1,g2,BR G];rfl
    clear G;go_wp2
    go_roundw
    case rel=>exact⟨k+1,by omega,by go_num,by rw[Z.out,K.out,HV.out];rfl,p⟩
    case measure=>simp[intOf];omega
   subst G
   by_cases H:y=0
   case neg=>
    have f4:(y==0)=false:=by simpa using H
    have HV:Hid (CQ 0 y z=false):=by unfold Hid;rw[t.out,g1,g2,BR H];simp
    clear H;go_wp2;go_ret;exact⟨Af (by rw[v.out,E.out HV.out]),(An c p)⟩
   subst H
   by_cases I:z=0
   case neg=>
    have f5:(z==0)=false:=by simpa using I
    have HV:Hid (CQ 0 0 z=false):=by unfold Hid;rw[t.out,g1,g2,BR I];simp
    clear I;go_wp2;go_ret;exact⟨Af (by rw[v.out,E.out HV.out]),(An c p)⟩
   subst I;have HV:Hid (CQ 0 0 0=true):=by unfold Hid;rw[t.out,g1,g2];rfl
   go_wp2
   go_roundw
   case rel=>exact⟨k+1,by omega,by go_num,by rw[Z.out,K.out,HV.out];rfl,p⟩
   case measure=>simp[intOf];omega
  ·obtain rfl:k=f:=Aa;go_wp2;go_ret;exact⟨Af (by rw[v.out,K.out]),(An c a)⟩
theorem Jf (h:Bh) (l:Am) (w:World) (ok:Cl h) (V:Ag w (AO h l)):
  (BT 222 #[Bd h l] w (.bool (Dl l)):Prop):=by
 obtain⟨m3,m4⟩:=ok;have v:=V.head;have F:=V.tail.head;obtain⟨⟨A3,r,c3⟩,⟨A4,j,c4⟩⟩:=h;obtain⟨A,m,n,g,c⟩:=l;clear V;unfold Bd;simp only at*
 have C:Hid (Dl ⟨A,m,n,g,c⟩=(DK A m n && decide ((r:Int)=m*n) && decide (j*2=r*2) && Cz g c r)):=by
  unfold Hid Dl Im;simp only;rw[v.len,F.len]
 have d:Below w w (w.alloc (.cells (AH A m n A3 r c3 A4 j c4) 181)):=BU;rcases jt (DK A m n) with h0|h0
 case inr=>
  go_enter func222,ntmps222
  go_wp2_with (go_at_call 218;refine(Fj _ _ _ _).mono ?_;rintro e G ⟨rfl,rfl⟩)
  go_ret;exact⟨Af (by rw[C.out,h0];rfl),d⟩
 have M:=Fh h0;have af:=Nd M.2.1.1 M.2.1.2 M.2.2.1 M.2.2.2;have X:=Bg (m*n)
 by_cases e1:(r:Int)=m*n
 case neg=>
  have q2:((r:Int) !=m*n)=true:=by simpa using e1
  have O:=Ai e1;clear e1
  go_enter func222,ntmps222
  go_wp2_with (go_at_call 218;refine(Fj _ _ _ _).mono ?_;rintro e G ⟨rfl,rfl⟩)
  go_ret;exact⟨Af (by rw[C.out,h0,BR O.out];rfl),d⟩
 have q1:((r:Int)==m*n)=true:=by simpa using e1
 have q2:((r:Int) !=m*n)=false:=by simpa using e1
 have O:=Ai e1;clear e1
 by_cases e2:j=r
 case neg=>
  have q4:((j:Int) !=(r:Int))=true:=Bq;have HF:Hid (¬j*2=r*2):=by unfold Hid;omega
  clear e2
  go_enter func222,ntmps222
  go_wp2_with (go_at_call 218;refine(Fj _ _ _ _).mono ?_;rintro e G ⟨rfl,rfl⟩)
  go_ret;exact⟨Af (by rw[C.out,BR HF.out];simp),d⟩
 subst e2;have B:Hid (Dl ⟨A,m,n,g,c⟩=Cz g c j):=by unfold Hid;rw[C.out,h0,BC O.out,BC rfl];rfl
 clear C
 go_enter func222,ntmps222
 go_wp2_with (go_at_call 218;refine(Fj _ _ _ _).mono ?_;rintro e G ⟨rfl,rfl⟩)
 have Q:=Br w 181 (AH A m n A3 j c3 A4 j c4);have v:=v.below d;have F:=F.below d;have f:=d;generalize(w.alloc _)=w1 at f Q v F⊢;clear X h0 d
 go_loopw [3] (λi wr=> ∃k:Nat,k<=j∧i=.int .i64 k∧Cz g c k=true∧Below w1 w1 wr) (λi _=>j-(intOf i).toNat)
 case atStart=>exact⟨0,AZ _,rfl,rfl,AP _ _⟩
 case round=>
  obtain⟨k,hk,rfl,s,a⟩:=hrel;have N:=Ai s;clear s q1 q2;have R:=Q.below a Q.lt;have cr:=R.cell
  by_cases q:k<j
  ·have HS:Hid (Cz g c (k+1)=(Cz g c k && CQ (g.getD k 0) (c.getD (k*2) 0) (c.getD (k*2+1) 0))):=Ka g c k;have H:Hid (CQ (g.getD k 0) (c.getD (k*2) 0) (c.getD (k*2+1) 0)=false->Cz g c j=false):=λh=>Jl h q;have S:=F.below a;obtain⟨a3,rfl,hx⟩:=(v.below a).int q;obtain⟨T,rfl,Y,Z⟩:=S.two q
   have D: ∀W,Below wr wr W->W.cell? (a3.add k)=ZS (g.getD k 0):=λW b=>by
    obtain⟨a5,t,U⟩:=((v.below a).below b).int q;injection t with t;subst t;exact U
   have E: ∀W,Below wr wr W->W.cell? (T.add (k*2))=ZS (c.getD (k*2) 0)∧W.cell? ⟨(T.add (k*2)).block,(T.add (k*2)).off+1,none⟩=ZS (c.getD (k*2+1) 0):=λW b=>by
    obtain⟨a5,t,U,h6⟩:=(S.below b).two q;injection t with t;subst t;exact⟨U,h6⟩
   generalize g.getD k 0=x at*;generalize c.getD (k*2) 0=y at*;generalize c.getD (k*2+1) 0=z at*;have u:Hid (CQ x y z=(inR x (-1) 1000000000000 && XL y z && !(decide (x=0) && !(decide (y=0) && decide (z=0))))):=rfl;rcases jt (inR x (-1) 1000000000000) with g1|g1
   case inr=>
    go_wp2_with (go_at_call 84;refine(Ay _ _ _ _).mono ?_;rintro e G ⟨rfl,rfl⟩)
    go_ret;exact⟨Af (by rw[B.out,H.out (by rw[u.out,g1];rfl)]),(An f a)⟩
   go_wp2_with (go_at_call 84;refine(Ay _ _ _ _).mono ?_;rintro e G ⟨rfl,rfl⟩)
   refine(JJ y z _).mono ?_;rintro e w2 ⟨rfl,I⟩;have p:=Y2 a I Bk;have K2:=R.below I R.lt;have c2:=K2.cell;have hy:=E _ I;obtain⟨ag,ah⟩:=hy;have ar:=D _ I;clear cr hx Y Z S E D;rcases jt (XL y z) with g2|g2
   case inr=>
    go_wp2;go_ret;exact⟨Af (by rw[B.out,H.out (by rw[u.out,g1,g2];rfl)]),(An f p)⟩
   by_cases J:x=0
   case neg=>
    have f3:(x==0)=false:=by simpa using J
    have HV:Hid (CQ x y z=true):=by unfold Hid;rw[u.out,g1,g2,BR J];rfl
    clear J;go_wp2
    go_roundw
    case rel=>exact⟨k+1,by omega,by go_num,by rw[HS.out,N.out,HV.out];rfl,p⟩
    case measure=>simp[intOf];omega
   subst J
   by_cases K:y=0
   case neg=>
    have f4:(y==0)=false:=by simpa using K
    have HV:Hid (CQ 0 y z=false):=by unfold Hid;rw[u.out,g1,g2,BR K];simp
    clear K;go_wp2;go_ret;exact⟨Af (by rw[B.out,H.out HV.out]),(An f p)⟩
   subst K
   by_cases L:z=0
   case neg=>
    have f5:(z==0)=false:=by simpa using L
    have HV:Hid (CQ 0 0 z=false):=by unfold Hid;rw[u.out,g1,g2,BR L];simp
    clear L;go_wp2;go_ret;exact⟨Af (by rw[B.out,H.out HV.out]),(An f p)⟩
   subst L;have HV:Hid (CQ 0 0 0=true):=by unfold Hid;rw[u.out,g1,g2];rfl
   go_wp2
   go_roundw
   case rel=>exact⟨k+1,by omega,by go_num,by rw[HS.out,N.out,HV.out];rfl,p⟩
   case measure=>simp[intOf];omega
  ·obtain rfl:k=j:=Aa;go_wp2;go_ret;exact⟨Af (by rw[B.out,N.out]),(An f a)⟩
