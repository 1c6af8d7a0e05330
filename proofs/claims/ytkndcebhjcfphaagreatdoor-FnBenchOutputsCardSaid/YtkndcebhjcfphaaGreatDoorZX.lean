import Derived.Test.YtkndcebhjcfphaaGreatDoorZJ
import Derived.Test.YtkndcebhjcfphaaGreatDoorZW
namespace Go.Proofs.YtkndcebhjcfphaaGreatDoor
open Go.RowKit Go.Proofs.Tryz
set_option maxRecDepth 100000
set_option maxHeartbeats 4000000
set_option linter.all false
def iy (L g n:Nat) (w:World) (e:Ending) (w':World):Prop:= ∃u:Bs,e=.returned (.string ⟨u.toArray⟩)∧u.length<=n∧Dr w w' L g
theorem G4 {L g n:Nat} {w w':World} {u:Bs} {s:ByteArray} (h:s=⟨u.toArray⟩) (a:u.length<=n) (D:Dr w w' L g):iy L g n w (.returned (.string s)) w':=⟨u,by rw[h],a,D⟩
theorem iW (t:Bs) (k:Nat):(ByteArray.mk t.toArray).extract 0 k=⟨(t.take k).toArray⟩:=by
 rw[IM];rfl
theorem iR (t:Bs) (k n:Nat) (a:n=t.length):(ByteArray.mk t.toArray).extract k n=⟨(t.drop k).toArray⟩:=by
 rw[IM]
 congr 2
 exact ED Bq
def ji:Array Value:= #[.string ⟨#[48]⟩,.string ⟨#[49]⟩,.string ⟨#[32]⟩,.string ⟨#[45]⟩,.string ⟨#[46]⟩,.string ⟨#[97]⟩,.string ⟨#[10]⟩,.string ⟨#[44]⟩]
theorem iQ (j:Nat) (h:j<8): ∃x:Bs,ji[j]? =some (.string ⟨x.toArray⟩)∧x.length=1:=by
 match j,h with
 |0,_=>exact⟨[48],rfl,rfl⟩
 |1,_=>exact⟨[49],rfl,rfl⟩
 |2,_=>exact⟨[32],rfl,rfl⟩
 |3,_=>exact⟨[45],rfl,rfl⟩
 |4,_=>exact⟨[46],rfl,rfl⟩
 |5,_=>exact⟨[97],rfl,rfl⟩
 |6,_=>exact⟨[10],rfl,rfl⟩
 |7,_=>exact⟨[44],rfl,rfl⟩
theorem ix (L g:Nat) (t:Bs) (w:World) (S:iC w L g) (ht:t.length<=1048576):
  Calls prog 56 #[.pointer (some ⟨g,0,none⟩),.string ⟨t.toArray⟩] w (iy L g (t.length+1) w):=by
 have D:=Dr.start S;have hz:=Bj t;have u1:=Bg ((t.length:Int)+1)
 go_enter func56,ntmps56
 go_wp2_with fail
 refine(F0 L g ((t.length:Int)+1) _ S Aa).mono ?_;rintro e w1 ⟨k,rfl,k0,k1,J,H⟩;have s:=D.next J H;obtain⟨k,rfl⟩:=Int.eq_ofNat_of_zero_le k0;have hk:k<=t.length:=Aa;clear D J H u1 k1
 go_wp2_with fail
 refine(F0 L g 8 _ s.src Ah).mono ?_;rintro e Q ⟨q,rfl,q0,q1,K,I⟩;have c:=s.next K I;clear s K I;have ad:(k:Int)<=(t.length:Int):=Aa
 by_cases M:q=0
 ·subst M;have W:=Ai (iW t k);go_wp2;go_ret;exact G4 W.out (by rw[Ju];omega) c
 have al:(q==0)=false:=by rw[Ea];exact M
 by_cases N:q=1
 ·subst N;have T:=iW t k;have U:=iR t k t.length rfl;have d:(t.take k).length+(t.drop k).length=t.length:=by rw[Ju,JW];omega
  generalize t.take k=a at*;generalize t.drop k=b at*;have z:a.length<=1048576:=Aa;have l:b.length<=1048576:=Aa;have u:=Ai d;clear d;have X:=F0 L g 8 _ (c.drew).src Ah;have F:=(c.alloc (.cells #[.string ⟨#[48]⟩,.string ⟨#[49]⟩,.string ⟨#[32]⟩,.string ⟨#[45]⟩,.string ⟨#[46]⟩,.string ⟨#[97]⟩,.string ⟨#[10]⟩,.string ⟨#[44]⟩] 9)).drew;have R:=Qf (Br Q 9 #[.string ⟨#[48]⟩,.string ⟨#[49]⟩,.string ⟨#[32]⟩,.string ⟨#[45]⟩,.string ⟨#[46]⟩,.string ⟨#[97]⟩,.string ⟨#[10]⟩,.string ⟨#[44]⟩]);have Y:=F0 L g 8 _ F.src Ah;have aa:=c.src.lt.1
  go_wp2_with fail
  go_region_with
   (first
    |(go_at_call 55;(with_reducible refine X.mono ?_);rintro e p ⟨j,rfl,A,B,r,y⟩;obtain⟨j,rfl⟩:=Int.eq_ofNat_of_zero_le A;have C:j<8:=Aa;have i:(j:Int)<8:=Aa;clear B;have E:=((c.drew).next r y).alloc (.cells #[.string ⟨#[48]⟩,.string ⟨#[49]⟩,.string ⟨#[32]⟩,.string ⟨#[45]⟩,.string ⟨#[46]⟩,.string ⟨#[97]⟩,.string ⟨#[10]⟩,.string ⟨#[44]⟩] 9);have j3:(j:Int)<8:=i;obtain⟨x,f,n⟩:=iQ j C;have hc3:(p.alloc (.cells #[.string ⟨#[48]⟩,.string ⟨#[49]⟩,.string ⟨#[32]⟩,.string ⟨#[45]⟩,.string ⟨#[46]⟩,.string ⟨#[97]⟩,.string ⟨#[10]⟩,.string ⟨#[44]⟩] 9)).cell? ⟨p,j,none⟩=some (.string ⟨x.toArray⟩):=((Br p 9 #[.string ⟨#[48]⟩,.string ⟨#[49]⟩,.string ⟨#[32]⟩,.string ⟨#[45]⟩,.string ⟨#[46]⟩,.string ⟨#[97]⟩,.string ⟨#[10]⟩,.string ⟨#[44]⟩]).cell j).trans f;have G:=AY a x;have V:=AY (a++x) b;have l1: ¬9223372036854775807<a.length+x.length:=Aa;have l2: ¬9223372036854775807<(a++x).length+b.length:=(by rw[Dy];omega);have l3: ¬9223372036854775807<a.length+x.length+b.length:=Aa)
    |(go_at_call 55;(with_reducible refine Y.mono ?_);rintro e p ⟨j,rfl,A,B,r,y⟩;obtain⟨j,rfl⟩:=Int.eq_ofNat_of_zero_le A;have C:j<8:=Aa;have i:(j:Int)<8:=Aa;clear B;have E:=F.next r y;have j3:(j:Int)<8:=i;obtain⟨x,f,n⟩:=iQ j C;have hc3:p.cell? ⟨Q,j,none⟩=some (.string ⟨x.toArray⟩):=((R.nx r Aa).cell j).trans f;have G:=AY a x;have V:=AY (a++x) b;have l1: ¬9223372036854775807<a.length+x.length:=Aa;have l2: ¬9223372036854775807<(a++x).length+b.length:=(by rw[Dy];omega);have l3: ¬9223372036854775807<a.length+x.length+b.length:=Aa))
  all_goals
   have v:Hid ((a++(x++b)).length<=t.length+1):=by have:=u.out;unfold Hid;rw[Dy,Dy,n];omega
   go_wp2;go_ret;exact G4 rfl v.out E
 have am:(q==1)=false:=by rw[Ea];exact N
 by_cases O:q=2
 ·subst O
  by_cases ae:k<t.length
  ·have m:(k:Int)<(t.length:Int):=Aa;have u2:=Bg ((k:Int)+1);have ab:(k:Int)+1<=(t.length:Int):=Aa;have ac:(0:Int)<=(k:Int)+1:=Aa;have af:((k:Int)+1).toNat=k+1:=Aa;have T:=iW t k;have U:=iR t (k+1) t.length rfl;have d:(t.take k).length<=1048576:=by rw[Ju];omega
   have z:(t.drop (k+1)).length<=1048576:=by rw[JW];omega
   have l:(t.take k).length+(t.drop (k+1)).length<=t.length+1:=by rw[Ju,JW];omega
   generalize t.take k=a at*;generalize t.drop (k+1)=b at*;have Z: ¬9223372036854775807<a.length+b.length:=Aa;have G:=AY a b;have u:Hid ((a++b).length<=t.length+1):=by unfold Hid;rw[Dy];exact l
   go_wp2_with fail
   go_region
   all_goals
    go_wp2;go_ret;exact G4 rfl u.out c.drew
  ·have m: ¬(k:Int)<(t.length:Int):=Aa;go_wp2;go_ret;exact G4 rfl Aa c
 ·have an:(q==2)=false:=by rw[Ea];exact O
  go_wp2;go_ret;exact G4 rfl Aa c
theorem iE (n:Nat) (h:n<=9223372036854775807):(Lib.decDigits n).length<=20:=by
 rw[Lib.decDigits_length];exact Hm 20 n Aa Ah
theorem G0 (a b:Bs): ∃E:Bs,((⟨a.toArray⟩:ByteArray)++⟨b.toArray⟩)=⟨E.toArray⟩∧E.length=a.length+b.length:=⟨a++b,AY a b,Dy⟩
theorem Bn (L g:Nat) (n:Int) (w:World) (S:iC w L g) (l:0<n) (m:n<=1000000):
  Calls prog 87 #[.pointer (some ⟨g,0,none⟩),ZI n] w (iy L g 20 w):=by
 have a:=Dr.start S
 go_enter func87,ntmps87
 go_wp2_with fail
 refine(F0 L g n _ S Aa).mono ?_;rintro e q ⟨k,rfl,k0,p,c,b⟩;have d:=a.next c b;obtain⟨k,rfl⟩:=Int.eq_ofNat_of_zero_le k0;have j:=iE k Aa;clear a c b
 go_wp2_with fail
 refine(Ct k _ Aa).mono ?_;rintro e r ⟨rfl,i⟩;have f:=d.bel i;go_wp2;go_ret;exact G4 rfl j f
