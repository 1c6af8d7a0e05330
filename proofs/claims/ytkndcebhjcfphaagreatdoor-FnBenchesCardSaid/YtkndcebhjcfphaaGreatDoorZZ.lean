import Derived.Test.YtkndcebhjcfphaaGreatDoorZYx4
namespace Go.Proofs.YtkndcebhjcfphaaGreatDoor
open Go.RowKit Go.Proofs.Tryz
set_option maxRecDepth 100000
set_option maxHeartbeats 4000000
set_option linter.all false
theorem iU (L g:Nat) (w:World) (S:iC w L g):
  Calls prog 43 #[.pointer (some ⟨g,0,none⟩)] w (iy L g 30000 w):=by
 have D:=Dr.start S
 go_enter func43,ntmps43
 go_wp2_with fail
 refine(F0 L g 18 _ D.src Ah).mono ?_;rintro e Y ⟨v,rfl,m,I,x,p⟩;replace D:=D.next x p;clear x p S
 go_wp2_with fail
 go_loopw [3,4] (λa i wr=> ∃(v:Int) (t:Bs),0<=v∧v<=17∧i=.int .i64 v∧a=.string ⟨t.toArray⟩∧(t.length:Int)+1010*v<=20000∧Dr w wr L g)
  (λ_ i _=>(intOf i).toNat)
 case atStart=>exact⟨v,[],m,by omega,rfl,rfl,by simp;omega,D⟩
 case round=>
  obtain⟨v,t,m,I,rfl,rfl,j,D⟩:=hrel
  by_cases hv:0<v
  ·have T:=Bg (v-1)
   go_wp2_with fail
   refine(iu L g _ D.src).mono ?_;rintro e J ⟨u,rfl,F,f⟩;replace D:=D.trans' f;clear f
   go_wp2_with fail
   refine(F0 L g 16 _ D.src Ah).mono ?_;rintro e Z ⟨q,rfl,-,-,z,s⟩;replace D:=D.next z s;clear z s
   go_upto_if 17 with fail
   go_cut [5] (λa wx=> ∃u:Bs,a=.string ⟨u.toArray⟩∧u.length<=1001∧Dr w wx L g)
   case first=>
    by_cases E:q=0
    ·subst E
     go_wp2_with fail
     refine(ix L g u _ D.src Aa).mono ?_;rintro e w4 ⟨V,rfl,R,f⟩;replace D:=D.trans' f;go_wp2
     go_meet
     exact⟨V,rfl,by omega,D⟩
    ·have Q:(q==0)=false:=by rw[Ea];exact E
     go_wp2
     go_meet
     exact⟨u,rfl,by omega,D⟩
   case rest=>
    clear F D;obtain⟨u,rfl,F,D⟩:=hcut;obtain⟨b,d,c⟩:=G0 t u;have H: ¬9223372036854775807<t.length+u.length:=Aa;obtain⟨n,U,G⟩:=G0 b [10];have X: ¬9223372036854775807<b.length+1:=Aa;simp only[Gt,List.length_nil] at G;have K:Hid ((n.length:Int)+1010*(v-1)<=20000):=by unfold Hid;omega
    clear j c G;go_wp2
    go_roundw
    case rel=>exact⟨v-1,n,by omega,by omega,by first|rfl|go_num,by first|rfl|(rw[d,U]),K.out,D⟩
    case measure=>simp[intOf];omega
  ·obtain rfl:v=0:=Aa
   go_wp2_with fail
   refine(F0 L g 40 _ D.src Ah).mono ?_;rintro e J ⟨q,rfl,-,-,y,r⟩;replace D:=D.next y r;clear y r hv m I;have l:t.length<=20000:=Aa;clear j
   by_cases A:q=0
   ·subst A
    go_wp2_with fail
    go_loopw [3,6] (λa i wr=> ∃(k:Nat) (t:Bs),k<=72∧i=.int .i64 (k:Int)∧a=.string ⟨t.toArray⟩∧t.length<=20000+4*k∧wr=J)
     (λ_ i _=>72-(intOf i).toNat)
    case atStart=>exact⟨0,t,by omega,rfl,rfl,by omega,rfl⟩
    case round=>
     clear l;obtain⟨k,t,W,rfl,rfl,j,rfl⟩:=hrel
     by_cases O:k<72
     ·have C:(k:Int)<72:=Aa;obtain⟨b,d,c⟩:=G0 t [108,111,103,10];have H: ¬9223372036854775807<t.length+4:=Aa;simp only[Gt,List.length_nil] at c;go_wp2
      go_roundw
      case rel=>exact⟨k+1,b,by omega,by go_num,by first|rfl|rw[d],by omega,by first|rfl|trivial⟩
      case measure=>simp[intOf];omega
     ·obtain rfl:k=72:=Aa;go_wp2;go_ret;exact G4 rfl Aa D
   have M:(q==0)=false:=by rw[Ea];exact A
   by_cases B:q=1
   ·subst B;obtain⟨b,d,c⟩:=G0 t [108,111,103];have H: ¬9223372036854775807<t.length+3:=Aa;simp only[Gt,List.length_nil] at c;go_wp2;go_ret;exact G4 (by first|rfl|rw[d]) (by omega) D
   ·have N:(q==1)=false:=by rw[Ea];exact B
    go_wp2;go_ret;exact G4 rfl Aa D
theorem jV (A:Option Addr) (n c:Nat) (a:List Int) (w:World) (r:Rd w A n (ir a)) (k: ∀x∈a,0<=x∧x<=255) (i:n<=4096):
  Calls prog 18 #[.slice A n c] w λe l=> ∃t:Bs,e=.returned (.string ⟨t.toArray⟩)∧t.length<=30000∧Below w w l:=by
 go_enter func18,ntmps18
 go_wp2_with fail
 refine(iD A n c a _ r k i).mono ?_;rintro e m ⟨g,rfl,b,d⟩
 go_wp2_with fail
 refine(iU _ g _ b).mono ?_;rintro e p ⟨t,rfl,j,D⟩;have f:=D.fin d;go_wp2;go_ret;exact⟨t,rfl,j,f⟩
