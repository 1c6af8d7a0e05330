import Derived.Test.YtkndcebhjcfphaaGreatDoorZYx4
namespace Go.Proofs.YtkndcebhjcfphaaGreatDoor
open Go.RowKit Go.Proofs.Tryz
set_option maxRecDepth 100000
set_option maxHeartbeats 4000000
set_option linter.all false
theorem jm {n:Int} (a: -9223372036854775807<=n) (b:n<=9223372036854775807):(Lib.itoa n).length<=21:=by
 have:=Bm n Aa Aa;omega
theorem iu (L g:Nat) (w0:World) (S0:iC w0 L g):
  Calls prog 54 #[.pointer (some ⟨g,0,none⟩)] w0 (iy L g 1000 w0):=by
 have D:=Dr.start S0
 go_enter func54,ntmps54
 go_wp2_with fail
 refine(F0 L g 20 _ D.src Ah).mono ?_;rintro e w ⟨q,rfl,q0,q1,gq,Sq⟩;replace D:=D.next gq Sq;clear gq Sq S0;have hq:(q=1)∨(q=2∨q=3)∨(q=4)∨(q=5)∨(q=6∨q=7)∨(q=8∨q=9∨q=10∨q=11)∨(q=12)∨(q=13)∨(q=14)∨(q=15)∨(q=16)∨q=0∨(q=17∨q=18∨q=19):=Aa;clear q0 q1;rcases hq with(rfl)|(rfl|rfl)|(rfl)|(rfl)|(rfl|rfl)|(rfl|rfl|rfl|rfl)|(rfl)|(rfl)|(rfl)|(rfl)|(rfl)|rfl|(rfl|rfl|rfl)
 iterate 1
  ·go_wp2_with fail
   refine(Bn L g 4 _ D.src Ah Ah).mono ?_;rintro e s ⟨b,rfl,t,a⟩;replace D:=D.trans' a;clear a;obtain⟨c,v,f⟩:=G0 [115,111,117,114,99,101,32] b;have u: ¬9223372036854775807<7+b.length:=Aa;simp only[Gt,List.length_nil] at f;go_wp2;go_ret;exact G4 rfl Aa D
 iterate 2
  ·go_wp2_with fail
   refine(Bn L g 4 _ D.src Ah Ah).mono ?_;rintro e s ⟨b,rfl,t,a⟩;replace D:=D.trans' a;clear a;obtain⟨c,v,f⟩:=G0 [114,97,121,32] b;have u: ¬9223372036854775807<4+b.length:=Aa;simp only[Gt,List.length_nil] at f;obtain⟨d,G,p⟩:=G0 c [32];have E: ¬9223372036854775807<c.length+1:=Aa;simp only[Gt,List.length_nil] at p
   go_wp2_with fail
   refine(Bn L g 20 _ D.src Ah Ah).mono ?_;rintro e y ⟨i,rfl,C,a⟩;replace D:=D.trans' a;clear a;obtain⟨k,H,B⟩:=G0 d i;have F: ¬9223372036854775807<d.length+i.length:=Aa;obtain⟨l,Q,r⟩:=G0 k [32];have N: ¬9223372036854775807<k.length+1:=Aa;simp only[Gt,List.length_nil] at r
   go_wp2_with fail
   refine(Bn L g 2 _ D.src Ah Ah).mono ?_;rintro e S ⟨m,rfl,M,a⟩;replace D:=D.trans' a;clear a;obtain⟨x,R,J⟩:=G0 l m;have O: ¬9223372036854775807<l.length+m.length:=Aa;go_wp2;go_ret;exact G4 rfl Aa D
 iterate 1
  ·go_wp2_with fail
   refine(Bn L g 9 _ D.src Ah Ah).mono ?_;rintro e s ⟨b,rfl,t,a⟩;replace D:=D.trans' a;clear a;obtain⟨c,v,f⟩:=G0 [116,114,97,99,101,32] b;have u: ¬9223372036854775807<6+b.length:=Aa;simp only[Gt,List.length_nil] at f;go_wp2;go_ret;exact G4 rfl Aa D
 iterate 1
  ·go_wp2_with fail
   refine(F0 L g 20 _ D.src Ah).mono ?_;rintro e v1 ⟨z,rfl,a1,c1,g1,S1⟩;replace D:=D.next g1 S1;obtain⟨z,rfl⟩:=Int.eq_ofNat_of_zero_le a1;have u1:IntKind.i64.wrap (5+(z:Int))=((5+z:Nat):Int):=by rw[show(5:Int)+(z:Int)=((5+z:Nat):Int) by omega];exact Ff _ Aa
   have t:=iE (5+z) Aa;have ac:=λW=>Ct (5+z) W Aa;generalize Lib.decDigits (5+z)=b at*;clear c1 g1 S1 a1
   go_wp2_with fail
   refine(ac _).mono ?_;rintro e s ⟨rfl,b1⟩;replace D:=D.bel b1;clear b1;obtain⟨c,v,f⟩:=G0 [109,101,101,116,32] b;have u: ¬9223372036854775807<5+b.length:=Aa;simp only[Gt,List.length_nil] at f;obtain⟨d,G,p⟩:=G0 c [32,49,32];have E: ¬9223372036854775807<c.length+3:=Aa;simp only[Gt,List.length_nil] at p
   go_wp2_with fail
   refine(Bn L g 5 _ D.src Ah Ah).mono ?_;rintro e y ⟨i,rfl,C,a⟩;replace D:=D.trans' a;clear a;obtain⟨k,H,B⟩:=G0 d i;have F: ¬9223372036854775807<d.length+i.length:=Aa;obtain⟨l,Q,r⟩:=G0 k [32];have N: ¬9223372036854775807<k.length+1:=Aa;simp only[Gt,List.length_nil] at r
   go_wp2_with fail
   refine(Bn L g 5 _ D.src Ah Ah).mono ?_;rintro e S ⟨m,rfl,M,a⟩;replace D:=D.trans' a;clear a;obtain⟨x,R,J⟩:=G0 l m;have O: ¬9223372036854775807<l.length+m.length:=Aa;obtain⟨T,s6,l6⟩:=G0 x [32];have p6: ¬9223372036854775807<x.length+1:=Aa;simp only[Gt,List.length_nil] at l6
   go_wp2_with fail
   refine(Bn L g 3 _ D.src Ah Ah).mono ?_;rintro e w4 ⟨Z,rfl,m4,a⟩;replace D:=D.trans' a;clear a;obtain⟨U,s7,l7⟩:=G0 T Z;have p7: ¬9223372036854775807<T.length+Z.length:=Aa;obtain⟨V,s8,l8⟩:=G0 U [32];have p8: ¬9223372036854775807<U.length+1:=Aa;simp only[Gt,List.length_nil] at l8
   go_wp2_with fail
   refine(Bn L g 20000 _ D.src Ah Ah).mono ?_;rintro e w5 ⟨x5,rfl,m5,a⟩;replace D:=D.trans' a;clear a;obtain⟨E9,s9,l9⟩:=G0 V x5;have p9: ¬9223372036854775807<V.length+x5.length:=Aa;go_wp2;go_ret;exact G4 rfl Aa D
 iterate 2
  ·go_wp2_with fail
   refine(Bn L g 60 _ D.src Ah Ah).mono ?_;rintro e s ⟨b,rfl,t,a⟩;replace D:=D.trans' a;clear a;obtain⟨c,v,f⟩:=G0 [108,101,118,101,108,32] b;have u: ¬9223372036854775807<6+b.length:=Aa;simp only[Gt,List.length_nil] at f;obtain⟨d,G,p⟩:=G0 c [32];have E: ¬9223372036854775807<c.length+1:=Aa;simp only[Gt,List.length_nil] at p
   go_wp2_with fail
   refine(F0 L g 100 _ D.src Ah).mono ?_;rintro e v2 ⟨r2,rfl,a2,c2,I,X⟩;replace D:=D.next I X;have u2:=Bg (r2-50);have C:=jm (n:=r2-50) Aa Aa;have ad:=λW=>Ek (r2-50) W Aa Aa;generalize Lib.itoa (r2-50)=i at*;clear I X
   go_wp2_with fail
   refine(ad _).mono ?_;rintro e y ⟨rfl,Y⟩;replace D:=D.bel Y;clear Y;obtain⟨k,H,B⟩:=G0 d i;have F: ¬9223372036854775807<d.length+i.length:=Aa;go_wp2;go_ret;exact G4 rfl Aa D
 iterate 4
  ·go_wp2_with fail
   refine(Bn L g 60 _ D.src Ah Ah).mono ?_;rintro e s ⟨b,rfl,t,a⟩;replace D:=D.trans' a;clear a;obtain⟨c,v,f⟩:=G0 [115,111,117,110,100,32] b;have u: ¬9223372036854775807<6+b.length:=Aa;simp only[Gt,List.length_nil] at f;obtain⟨d,G,p⟩:=G0 c [32];have E: ¬9223372036854775807<c.length+1:=Aa;simp only[Gt,List.length_nil] at p
   go_wp2_with fail
   refine(Bn L g 50 _ D.src Ah Ah).mono ?_;rintro e y ⟨i,rfl,C,a⟩;replace D:=D.trans' a;clear a;obtain⟨k,H,B⟩:=G0 d i;have F: ¬9223372036854775807<d.length+i.length:=Aa;obtain⟨l,Q,r⟩:=G0 k [32];have N: ¬9223372036854775807<k.length+1:=Aa;simp only[Gt,List.length_nil] at r
   go_wp2_with fail
   refine(Bn L g 50 _ D.src Ah Ah).mono ?_;rintro e S ⟨m,rfl,M,a⟩;replace D:=D.trans' a;clear a;obtain⟨x,R,J⟩:=G0 l m;have O: ¬9223372036854775807<l.length+m.length:=Aa;obtain⟨T,s6,l6⟩:=G0 x [32];have p6: ¬9223372036854775807<x.length+1:=Aa;simp only[Gt,List.length_nil] at l6
   go_wp2_with fail
   refine(F0 L g 200 _ D.src Ah).mono ?_;rintro e v4 ⟨A,rfl,a4,c4,g4,S4⟩;replace D:=D.next g4 S4;obtain⟨A,rfl⟩:=Int.eq_ofNat_of_zero_le a4;have u4:IntKind.i64.wrap (900+(A:Int))=((900+A:Nat):Int):=by rw[show(900:Int)+(A:Int)=((900+A:Nat):Int) by omega];exact Ff _ Aa
   have m4:=iE (900+A) Aa;have ae:=λW=>Ct (900+A) W Aa;generalize Lib.decDigits (900+A)=Z at*;clear c4 g4 S4 a4
   go_wp2_with fail
   refine(ae _).mono ?_;rintro e w4 ⟨rfl,b4⟩;replace D:=D.bel b4;clear b4;obtain⟨U,s7,l7⟩:=G0 T Z;have p7: ¬9223372036854775807<T.length+Z.length:=Aa;obtain⟨V,s8,l8⟩:=G0 U [32];have p8: ¬9223372036854775807<U.length+1:=Aa;simp only[Gt,List.length_nil] at l8
   go_wp2_with fail
   refine(Bn L g 9 _ D.src Ah Ah).mono ?_;rintro e w5 ⟨x5,rfl,m5,a⟩;replace D:=D.trans' a;clear a;obtain⟨E9,s9,l9⟩:=G0 V x5;have p9: ¬9223372036854775807<V.length+x5.length:=Aa;go_wp2;go_ret;exact G4 rfl Aa D
 iterate 1
  ·go_wp2_with fail
   refine(Bn L g 60 _ D.src Ah Ah).mono ?_;rintro e s ⟨b,rfl,t,a⟩;replace D:=D.trans' a;clear a;obtain⟨c,v,f⟩:=G0 [109,97,114,107,32] b;have u: ¬9223372036854775807<5+b.length:=Aa;simp only[Gt,List.length_nil] at f;go_wp2;go_ret;exact G4 rfl Aa D
 iterate 1
  ·go_wp2_with fail
   refine(Bn L g 40 _ D.src Ah Ah).mono ?_;rintro e s ⟨b,rfl,t,a⟩;replace D:=D.trans' a;clear a;obtain⟨c,v,f⟩:=G0 [99,108,101,97,110,32] b;have u: ¬9223372036854775807<6+b.length:=Aa;simp only[Gt,List.length_nil] at f;obtain⟨d,G,p⟩:=G0 c [32];have E: ¬9223372036854775807<c.length+1:=Aa;simp only[Gt,List.length_nil] at p
   go_wp2_with fail
   refine(Bn L g 3 _ D.src Ah Ah).mono ?_;rintro e y ⟨i,rfl,C,a⟩;replace D:=D.trans' a;clear a;obtain⟨k,H,B⟩:=G0 d i;have F: ¬9223372036854775807<d.length+i.length:=Aa;obtain⟨l,Q,r⟩:=G0 k [32];have N: ¬9223372036854775807<k.length+1:=Aa;simp only[Gt,List.length_nil] at r
   go_wp2_with fail
   refine(Bn L g 30 _ D.src Ah Ah).mono ?_;rintro e S ⟨m,rfl,M,a⟩;replace D:=D.trans' a;clear a;obtain⟨x,R,J⟩:=G0 l m;have O: ¬9223372036854775807<l.length+m.length:=Aa;go_wp2;go_ret;exact G4 rfl Aa D
 iterate 1
  ·go_wp2_with fail
   refine(Bn L g 30 _ D.src Ah Ah).mono ?_;rintro e s ⟨b,rfl,t,a⟩;replace D:=D.trans' a;clear a;obtain⟨c,v,f⟩:=G0 [103,114,105,100,32] b;have u: ¬9223372036854775807<5+b.length:=Aa;simp only[Gt,List.length_nil] at f;obtain⟨d,G,p⟩:=G0 c [32];have E: ¬9223372036854775807<c.length+1:=Aa;simp only[Gt,List.length_nil] at p
   go_wp2_with fail
   refine(Bn L g 5 _ D.src Ah Ah).mono ?_;rintro e y ⟨i,rfl,C,a⟩;replace D:=D.trans' a;clear a;obtain⟨k,H,B⟩:=G0 d i;have F: ¬9223372036854775807<d.length+i.length:=Aa;obtain⟨l,Q,r⟩:=G0 k [32];have N: ¬9223372036854775807<k.length+1:=Aa;simp only[Gt,List.length_nil] at r
   go_wp2_with fail
   refine(Bn L g 5 _ D.src Ah Ah).mono ?_;rintro e S ⟨m,rfl,M,a⟩;replace D:=D.trans' a;clear a;obtain⟨x,R,J⟩:=G0 l m;have O: ¬9223372036854775807<l.length+m.length:=Aa;go_wp2;go_ret;exact G4 rfl Aa D
 iterate 1
  ·go_wp2_with fail
   refine(Bn L g 7 _ D.src Ah Ah).mono ?_;rintro e s ⟨b,rfl,t,a⟩;replace D:=D.trans' a;clear a;obtain⟨c,v,f⟩:=G0 [99,104,97,110,99,101,32] b;have u: ¬9223372036854775807<7+b.length:=Aa;simp only[Gt,List.length_nil] at f;obtain⟨d,G,p⟩:=G0 c [32];have E: ¬9223372036854775807<c.length+1:=Aa;simp only[Gt,List.length_nil] at p
   go_wp2_with fail
   refine(Bn L g 17 _ D.src Ah Ah).mono ?_;rintro e y ⟨i,rfl,C,a⟩;replace D:=D.trans' a;clear a;obtain⟨k,H,B⟩:=G0 d i;have F: ¬9223372036854775807<d.length+i.length:=Aa;obtain⟨l,Q,r⟩:=G0 k [32];have N: ¬9223372036854775807<k.length+1:=Aa;simp only[Gt,List.length_nil] at r
   go_wp2_with fail
   refine(Bn L g 7 _ D.src Ah Ah).mono ?_;rintro e S ⟨m,rfl,M,a⟩;replace D:=D.trans' a;clear a;obtain⟨x,R,J⟩:=G0 l m;have O: ¬9223372036854775807<l.length+m.length:=Aa;go_wp2;go_ret;exact G4 rfl Aa D
 iterate 1
  ·go_wp2_with fail
   refine(Bn L g 300 _ D.src Ah Ah).mono ?_;rintro e s ⟨b,rfl,t,a⟩;replace D:=D.trans' a;clear a;obtain⟨c,v,f⟩:=G0 [112,108,97,110,32] b;have u: ¬9223372036854775807<5+b.length:=Aa;simp only[Gt,List.length_nil] at f;obtain⟨d,G,p⟩:=G0 c [32];have E: ¬9223372036854775807<c.length+1:=Aa;simp only[Gt,List.length_nil] at p
   go_wp2_with fail
   refine(Bn L g 40 _ D.src Ah Ah).mono ?_;rintro e y ⟨i,rfl,C,a⟩;replace D:=D.trans' a;clear a;obtain⟨k,H,B⟩:=G0 d i;have F: ¬9223372036854775807<d.length+i.length:=Aa;obtain⟨l,Q,r⟩:=G0 k [32];have N: ¬9223372036854775807<k.length+1:=Aa;simp only[Gt,List.length_nil] at r
   go_wp2_with fail
   refine(Bn L g 20 _ D.src Ah Ah).mono ?_;rintro e S ⟨m,rfl,M,a⟩;replace D:=D.trans' a;clear a;obtain⟨x,R,J⟩:=G0 l m;have O: ¬9223372036854775807<l.length+m.length:=Aa;go_wp2;go_ret;exact G4 rfl Aa D
 ·go_wp2_with fail
  refine(iT L g _ D.src).mono ?_;rintro e s ⟨⟨DA,dn,dc⟩,⟨VA,vn,vc⟩,xs,ys,rfl,hd,hv,-,-,RD,RV,-,a⟩;simp only at hd hv RD RV;replace D:=D.trans' a;clear a
  go_wp2_with fail
  refine(iH DA VA dn vn dc vc xs ys _ Aa Aa RD RV).mono ?_;rintro e y ⟨b,rfl,t,Y⟩;replace D:=D.bel Y;clear Y RD RV;obtain⟨c,v,f⟩:=G0 [112,114,111,102,105,108,101,32] b;have u: ¬9223372036854775807<8+b.length:=Aa;simp only[Gt,List.length_nil] at f;go_wp2;go_ret;exact G4 rfl Aa D
 iterate 3
  ·have hg:=D.src.lt.1;have K:=Br w 9 #[.string ⟨#[115,104,111,97,108,101,115,116]⟩,.string ⟨#[108,111,103]⟩,.string ⟨#[99,104,101,99,107]⟩];replace D:=D.alloc (.cells #[.string ⟨#[115,104,111,97,108,101,115,116]⟩,.string ⟨#[108,111,103]⟩,.string ⟨#[99,104,101,99,107]⟩] 9)
   go_wp2_with fail
   generalize w.alloc _=s at K D⊢;generalize w.heap.size=gB at K hg⊢;refine(F0 L g 3 _ D.src Ah).mono ?_;rintro e y ⟨j,rfl,j0,j1,I,X⟩;replace D:=D.next I X;replace K:=K.nx I Aa;have gb:=K.lt;have hB:=K.cell;have hj:j=0∨j=1∨j=2:=Aa;clear K I X j0 j1;rcases hj with rfl|rfl|rfl
   all_goals
    go_wp2;go_ret;exact G4 rfl Ah D
theorem iU (L g:Nat) (w:World) (S:iC w L g):
  Calls prog 43 #[.pointer (some ⟨g,0,none⟩)] w (iy L g 30000 w):=by
 have D:=Dr.start S
 go_enter func43,ntmps43
 go_wp2_with fail
 refine(F0 L g 18 _ D.src Ah).mono ?_;rintro e Y ⟨v,rfl,m,I,x,p⟩;replace D:=D.next x p;clear x p S
 go_wp2_with fail
 go_loopw [3,4] (λa i wr=> ∃(v:Int) (t:Bs),0<=v∧v<=17∧i=.int .i64 v∧a=.string ⟨t.toArray⟩∧(t.length:Int)+1010*v<=20000∧Dr w wr L g)
  (λ_ i _=>(intOf i).toNat)
 case atStart=>exact⟨v,[],m,by omega,rfl,rfl,by simp;omega,D⟩
 case round=>
  obtain⟨v,t,m,I,rfl,rfl,j,D⟩:=hrel
  by_cases hv:0<v
  ·have T:=Bg (v-1)
   go_wp2_with fail
   refine(iu L g _ D.src).mono ?_;rintro e J ⟨u,rfl,F,f⟩;replace D:=D.trans' f;clear f
   go_wp2_with fail
   refine(F0 L g 16 _ D.src Ah).mono ?_;rintro e Z ⟨q,rfl,-,-,z,s⟩;replace D:=D.next z s;clear z s
   go_upto_if 17 with fail
   go_cut [5] (λa wx=> ∃u:Bs,a=.string ⟨u.toArray⟩∧u.length<=1001∧Dr w wx L g)
   case first=>
    by_cases E:q=0
    ·subst E
     go_wp2_with fail
     refine(ix L g u _ D.src Aa).mono ?_;rintro e w4 ⟨V,rfl,R,f⟩;replace D:=D.trans' f;go_wp2
     go_meet
     exact⟨V,rfl,by omega,D⟩
    ·have Q:(q==0)=false:=by rw[Ea];exact E
     go_wp2
     go_meet
     exact⟨u,rfl,by omega,D⟩
   case rest=>
    clear F D;obtain⟨u,rfl,F,D⟩:=hcut;obtain⟨b,d,c⟩:=G0 t u;have H: ¬9223372036854775807<t.length+u.length:=Aa;obtain⟨n,U,G⟩:=G0 b [10];have X: ¬9223372036854775807<b.length+1:=Aa;simp only[Gt,List.length_nil] at G;have K:Hid ((n.length:Int)+1010*(v-1)<=20000):=by unfold Hid;omega
    clear j c G;go_wp2
    go_roundw
    case rel=>exact⟨v-1,n,by omega,by omega,by first|rfl|go_num,by first|rfl|(rw[d,U]),K.out,D⟩
    case measure=>simp[intOf];omega
  ·obtain rfl:v=0:=Aa
   go_wp2_with fail
   refine(F0 L g 40 _ D.src Ah).mono ?_;rintro e J ⟨q,rfl,-,-,y,r⟩;replace D:=D.next y r;clear y r hv m I;have l:t.length<=20000:=Aa;clear j
   by_cases A:q=0
   ·subst A
    go_wp2_with fail
    go_loopw [3,6] (λa i wr=> ∃(k:Nat) (t:Bs),k<=72∧i=.int .i64 (k:Int)∧a=.string ⟨t.toArray⟩∧t.length<=20000+4*k∧wr=J)
     (λ_ i _=>72-(intOf i).toNat)
    case atStart=>exact⟨0,t,by omega,rfl,rfl,by omega,rfl⟩
    case round=>
     clear l;obtain⟨k,t,W,rfl,rfl,j,rfl⟩:=hrel
     by_cases O:k<72
     ·have C:(k:Int)<72:=Aa;obtain⟨b,d,c⟩:=G0 t [108,111,103,10];have H: ¬9223372036854775807<t.length+4:=Aa;simp only[Gt,List.length_nil] at c;go_wp2
      go_roundw
      case rel=>exact⟨k+1,b,by omega,by go_num,by first|rfl|rw[d],by omega,by first|rfl|trivial⟩
      case measure=>simp[intOf];omega
     ·obtain rfl:k=72:=Aa;go_wp2;go_ret;exact G4 rfl Aa D
   have M:(q==0)=false:=by rw[Ea];exact A
   by_cases B:q=1
   ·subst B;obtain⟨b,d,c⟩:=G0 t [108,111,103];have H: ¬9223372036854775807<t.length+3:=Aa;simp only[Gt,List.length_nil] at c;go_wp2;go_ret;exact G4 (by first|rfl|rw[d]) (by omega) D
   ·have N:(q==1)=false:=by rw[Ea];exact B
    go_wp2;go_ret;exact G4 rfl Aa D
theorem iG (A:Option Addr) (n c:Nat) (a:List Int) (w:World) (r:Rd w A n (ir a)) (k: ∀x∈a,0<=x∧x<=255) (i:n<=4096):
  Calls prog 26 #[.slice A n c] w λe l=> ∃t:Bs,e=.returned (.string ⟨t.toArray⟩)∧t.length<=30000∧Below w w l:=by
 go_enter func26,ntmps26
 go_wp2_with fail
 refine(iD A n c a _ r k i).mono ?_;rintro e m ⟨g,rfl,b,d⟩
 go_wp2_with fail
 refine(iU _ g _ b).mono ?_;rintro e p ⟨t,rfl,j,D⟩;have f:=D.fin d;go_wp2;go_ret;exact⟨t,rfl,j,f⟩
theorem iP (A:Option Addr) (n c:Nat) (b:List Int) (w:World) (r:Rd w A n (ir b)) (u: ∀x∈b,0<=x∧x<=255) (m:n<=4096):
  Calls prog 28 #[.slice A n c] w λe y=> ∃t:Bs,e=.returned (.string ⟨t.toArray⟩)∧t.length<=30000∧Below w w y:=by
 go_enter func28,ntmps28
 go_wp2_with fail
 refine(iD A n c b _ r u m).mono ?_;rintro e B ⟨g,rfl,l,f⟩
 go_wp2_with fail
 refine(iu _ g _ l).mono ?_;rintro e C ⟨t,rfl,z,D⟩
 go_wp2_with fail
 refine(F0 _ g 3 _ D.src Ah).mono ?_;rintro e E ⟨q,rfl,-,-,i,d⟩;replace D:=D.next i d;clear i d
 by_cases j:q=0
 ·subst j
  go_wp2_with fail
  refine(ix _ g t _ D.src Aa).mono ?_;rintro e F ⟨v,rfl,s,k⟩;have a:=(D.trans' k).fin f;go_wp2;go_ret;exact⟨v,rfl,by omega,a⟩
 ·have p:(q==0)=false:=by rw[Ea];exact j
  have a:=D.fin f;go_wp2;go_ret;exact⟨t,rfl,by omega,a⟩
