import Derived.Test.YtkndcebhjcfphaaGreatDoorZJ
import Derived.Test.YtkndcebhjcfphaaGreatDoorZW
namespace Go.Proofs.YtkndcebhjcfphaaGreatDoor
open Go.RowKit Go.Proofs.Tryz
set_option maxRecDepth 100000
set_option maxHeartbeats 4000000
set_option linter.all false
def iy (L g n:Nat) (w:World) (e:Ending) (w':World):Prop:= ∃u:Bs,e=.returned (.string ⟨u.toArray⟩)∧u.length<=n∧Dr w w' L g
theorem G4 {L g n:Nat} {w w':World} {u:Bs} {s:ByteArray} (h:s=⟨u.toArray⟩) (a:u.length<=n) (D:Dr w w' L g):iy L g n w (.returned (.string s)) w':=⟨u,by rw[h],a,D⟩
theorem iW (t:Bs) (k:Nat):(ByteArray.mk t.toArray).extract 0 k=⟨(t.take k).toArray⟩:=by
 rw[IM];rfl
theorem iR (t:Bs) (k n:Nat) (a:n=t.length):(ByteArray.mk t.toArray).extract k n=⟨(t.drop k).toArray⟩:=by
 rw[IM]
 congr 2
 exact ED Bq
def ji:Array Value:= #[.string ⟨#[48]⟩,.string ⟨#[49]⟩,.string ⟨#[32]⟩,.string ⟨#[45]⟩,.string ⟨#[46]⟩,.string ⟨#[97]⟩,.string ⟨#[10]⟩,.string ⟨#[44]⟩]
theorem iQ (j:Nat) (h:j<8): ∃x:Bs,ji[j]? =some (.string ⟨x.toArray⟩)∧x.length=1:=by
 match j,h with
 |0,_=>exact⟨[48],rfl,rfl⟩
 |1,_=>exact⟨[49],rfl,rfl⟩
 |2,_=>exact⟨[32],rfl,rfl⟩
 |3,_=>exact⟨[45],rfl,rfl⟩
 |4,_=>exact⟨[46],rfl,rfl⟩
 |5,_=>exact⟨[97],rfl,rfl⟩
 |6,_=>exact⟨[10],rfl,rfl⟩
 |7,_=>exact⟨[44],rfl,rfl⟩
theorem ix (L g:Nat) (t:Bs) (w:World) (S:iC w L g) (ht:t.length<=1048576):
  Calls prog 56 #[.pointer (some ⟨g,0,none⟩),.string ⟨t.toArray⟩] w (iy L g (t.length+1) w):=by
 have B:=Dr.start S;have hz:=Bj t;have u1:=Bg ((t.length:Int)+1)
 go_enter func56,ntmps56
 go_wp2_with fail
 refine(F0 L g ((t.length:Int)+1) _ S Aa).mono ?_;rintro e w1 ⟨k,rfl,k0,k1,H,F⟩;have r:=B.next H F;obtain⟨k,rfl⟩:=Int.eq_ofNat_of_zero_le k0;have hk:k<=t.length:=Aa;clear B H F u1 k1
 go_wp2_with fail
 refine(F0 L g 8 _ r.src Ah).mono ?_;rintro e O ⟨q,rfl,q0,q1,I,G⟩;have c:=r.next I G;clear r I G;have ac:(k:Int)<=(t.length:Int):=Aa
 by_cases J:q=0
 ·subst J;have V:=Ai (iW t k);go_wp2;go_ret;exact G4 V.out (by rw[Ju];omega) c
 have al:(q==0)=false:=by rw[Ea];exact J
 by_cases K:q=1
 ·subst K;have R:=iW t k;have T:=iR t k t.length rfl;have i:(t.take k).length+(t.drop k).length=t.length:=by rw[Ju,JW];omega
  generalize t.take k=a at*;generalize t.drop k=b at*;have ad:a.length<=1048576:=Aa;have l:b.length<=1048576:=Aa;have s:=Ai i;clear i;have W:=F0 L g 8 _ (c.drew).src Ah;have D:=(c.alloc (.cells #[.string ⟨#[48]⟩,.string ⟨#[49]⟩,.string ⟨#[32]⟩,.string ⟨#[45]⟩,.string ⟨#[46]⟩,.string ⟨#[97]⟩,.string ⟨#[10]⟩,.string ⟨#[44]⟩] 9)).drew;have Q:=Qf (Br O 9 #[.string ⟨#[48]⟩,.string ⟨#[49]⟩,.string ⟨#[32]⟩,.string ⟨#[45]⟩,.string ⟨#[46]⟩,.string ⟨#[97]⟩,.string ⟨#[10]⟩,.string ⟨#[44]⟩]);have X:=F0 L g 8 _ D.src Ah;have Z:=c.src.lt.1
  go_wp2_with fail
  go_region_with
   (first
    |(go_at_call 55;(with_reducible refine W.mono ?_);rintro e n ⟨j,rfl,y,z,p,v⟩;obtain⟨j,rfl⟩:=Int.eq_ofNat_of_zero_le y;have A:j<8:=Aa;have f:(j:Int)<8:=Aa;clear z;have C:=((c.drew).next p v).alloc (.cells #[.string ⟨#[48]⟩,.string ⟨#[49]⟩,.string ⟨#[32]⟩,.string ⟨#[45]⟩,.string ⟨#[46]⟩,.string ⟨#[97]⟩,.string ⟨#[10]⟩,.string ⟨#[44]⟩] 9);have j3:(j:Int)<8:=f;obtain⟨x,d,m⟩:=iQ j A;have hc3:(n.alloc (.cells #[.string ⟨#[48]⟩,.string ⟨#[49]⟩,.string ⟨#[32]⟩,.string ⟨#[45]⟩,.string ⟨#[46]⟩,.string ⟨#[97]⟩,.string ⟨#[10]⟩,.string ⟨#[44]⟩] 9)).cell? ⟨n,j,none⟩=some (.string ⟨x.toArray⟩):=((Br n 9 #[.string ⟨#[48]⟩,.string ⟨#[49]⟩,.string ⟨#[32]⟩,.string ⟨#[45]⟩,.string ⟨#[46]⟩,.string ⟨#[97]⟩,.string ⟨#[10]⟩,.string ⟨#[44]⟩]).cell j).trans d;have E:=AY a x;have U:=AY (a++x) b;have l1: ¬9223372036854775807<a.length+x.length:=Aa;have l2: ¬9223372036854775807<(a++x).length+b.length:=(by rw[Dy];omega);have l3: ¬9223372036854775807<a.length+x.length+b.length:=Aa)
    |(go_at_call 55;(with_reducible refine X.mono ?_);rintro e n ⟨j,rfl,y,z,p,v⟩;obtain⟨j,rfl⟩:=Int.eq_ofNat_of_zero_le y;have A:j<8:=Aa;have f:(j:Int)<8:=Aa;clear z;have C:=D.next p v;have j3:(j:Int)<8:=f;obtain⟨x,d,m⟩:=iQ j A;have hc3:n.cell? ⟨O,j,none⟩=some (.string ⟨x.toArray⟩):=((Q.nx p Aa).cell j).trans d;have E:=AY a x;have U:=AY (a++x) b;have l1: ¬9223372036854775807<a.length+x.length:=Aa;have l2: ¬9223372036854775807<(a++x).length+b.length:=(by rw[Dy];omega);have l3: ¬9223372036854775807<a.length+x.length+b.length:=Aa))
  all_goals
   have u:Hid ((a++(x++b)).length<=t.length+1):=by have:=s.out;unfold Hid;rw[Dy,Dy,m];omega
   go_wp2;go_ret;exact G4 rfl u.out C
 have am:(q==1)=false:=by rw[Ea];exact K
 by_cases M:q=2
 ·subst M
  by_cases ae:k<t.length
  ·have N:(k:Int)<(t.length:Int):=Aa;have u2:=Bg ((k:Int)+1);have aa:(k:Int)+1<=(t.length:Int):=Aa;have ab:(0:Int)<=(k:Int)+1:=Aa;have af:((k:Int)+1).toNat=k+1:=Aa;have R:=iW t k;have T:=iR t (k+1) t.length rfl;have l:(t.take k).length+(t.drop (k+1)).length<=t.length+1:=by rw[Ju,JW];omega
   generalize t.take k=a at*;generalize t.drop (k+1)=b at*;have Y: ¬9223372036854775807<a.length+b.length:=Aa;have E:=AY a b;have s:Hid ((a++b).length<=t.length+1):=by unfold Hid;rw[Dy];exact l
   go_wp2_with fail
   go_region
   all_goals
    go_wp2;go_ret;exact G4 rfl s.out c.drew
  ·go_wp2;go_ret;exact G4 rfl Aa c
 ·have an:(q==2)=false:=by rw[Ea];exact M
  go_wp2;go_ret;exact G4 rfl Aa c
theorem iE (n:Nat) (h:n<=9223372036854775807):(Lib.decDigits n).length<=20:=by
 rw[Lib.decDigits_length];exact Hm 20 n Aa Ah
theorem G0 (a b:Bs): ∃E:Bs,((⟨a.toArray⟩:ByteArray)++⟨b.toArray⟩)=⟨E.toArray⟩∧E.length=a.length+b.length:=⟨a++b,AY a b,Dy⟩
theorem R6 (L g:Nat) (n:Int) (w:World) (S:iC w L g) (l:0<n) (m:n<=1000000):
  Calls prog 87 #[.pointer (some ⟨g,0,none⟩),ZI n] w (iy L g 20 w):=by
 have a:=Dr.start S
 go_enter func87,ntmps87
 go_wp2_with fail
 refine(F0 L g n _ S Aa).mono ?_;rintro e q ⟨k,rfl,k0,p,c,b⟩;have d:=a.next c b;obtain⟨k,rfl⟩:=Int.eq_ofNat_of_zero_le k0;have j:=iE k Aa;clear a c b
 go_wp2_with fail
 refine(Ct k _ Aa).mono ?_;rintro e r ⟨rfl,i⟩;have f:=d.bel i;go_wp2;go_ret;exact G4 rfl j f
