import Derived.Test.YtkndcebhjcfphaaGreatDoorZA
import Derived.Deep.Cut
namespace Go.Proofs.YtkndcebhjcfphaaGreatDoor
open Go.RowKit Go.Proofs.Tryz
set_option maxRecDepth 100000
set_option maxHeartbeats 4000000
set_option linter.all false
def Rj (c s h:Int):Bool:=inR h 1 1000 && (inR c 1 h && (inR s (-h) h && (!decide (s=0) && (decide (c*c+s*s=h*h) && decide (((Int.gcd (Int.gcd c s:Int) h:Nat):Int)=1)))))
theorem aE {c h:Int} (a:0<=h) (b:c*c<=h*h):c<=h:=by
 by_cases k:c<=h
 ·exact k
 ·exfalso
  have e:(h+1)*(h+1)<=c*c:=CL Aa Aa Aa Aa;rw[Int.add_mul,Int.mul_add] at e;omega
theorem bW (c s h:Int):Rj c s h=DO c s h:=by
 rw[Bool.eq_iff_iff];unfold Rj DO inR;simp only[CD,BP,Bool.not_eq_true',decide_eq_false_iff_not]
 constructor
 ·rintro⟨⟨a,b⟩,⟨g,i⟩,⟨j,l⟩,d,e,f⟩;exact⟨⟨a,b⟩,⟨g,by omega⟩,⟨by omega,by omega⟩,d,e,f⟩
 ·rintro⟨⟨a,b⟩,⟨g,i⟩,⟨j,l⟩,d,e,f⟩;have p:0<=c*c:=Du Aa Aa
  have q:0<=s*s:=by
   by_cases k:0<=s
   ·exact Du k k
   ·rw[<-Int.neg_mul_neg];exact Du Aa Aa
  have m:c<=h:=aE Aa Aa;have n:s<=h:=aE Aa Aa;have r: -s<=h:=aE Aa (by rw[Int.neg_mul_neg];omega)
  exact⟨⟨a,b⟩,⟨g,m⟩,⟨by omega,n⟩,d,e,f⟩
theorem QG {x:Int} (f: -1000<=x) (d:x<=1000):0<=x*x∧x*x<=1000000:=by
 have c: ∀y:Int,0<=y->y<=1000->0<=y*y∧y*y<=1000000:=λy a b=>⟨Du a a,CL b b a Ah⟩
 by_cases k:0<=x
 ·exact c x k d
 ·have:=c (-x) Aa Aa;rw[Int.neg_mul_neg] at this;exact this
theorem Jb (c s h:Int) (w:World):
  (BT 50 #[Ziii c s h] w (.bool (DO c s h)):Prop):=by
 have a:Hid (DO c s h=DO c s h):=rfl
 go_enter func50,ntmps50
 go_upto_region 1 with fail
 generalize t:w.alloc _=C;obtain⟨v,i⟩:=EX t;clear t;have j:=v.cell;have l:=j 0;have m:=j 1;have n:=j 2;simp at l m n;clear j;rcases jt (inR h 1 1000) with r0|r0
 rotate_left
 ·skip
  have d: ∀w:World,Calls prog 73 (Ziii h 1 1000) w λe b=>e=.returned (.bool false)∧w=b:=λw=>by rw[<-r0];exact As _ _ _ _
  have HV:Hid (DO c s h=false):=by rw[a.out];unfold Hid DO;simp[r0]
  clear a
  go_wp2_with fail
  go_quiet ((first|(with_reducible exact BL (d _))|(with_reducible exact BL (f _))|(with_reducible exact BL (g _))|(go_at_call 78;exact Fn (Hg _ _ _ (by assumption) (by assumption)))))
  go_wp2;go_ret;exact⟨Af DL,Ba i _⟩
 have d: ∀w:World,Calls prog 73 (Ziii h 1 1000) w λe b=>e=.returned (.bool true)∧w=b:=λw=>by rw[<-r0];exact As _ _ _ _
 rcases jt (inR c 1 1000) with r1|r1
 rotate_left
 ·skip
  have f: ∀w:World,Calls prog 73 (Ziii c 1 1000) w λe b=>e=.returned (.bool false)∧w=b:=λw=>by rw[<-r1];exact As _ _ _ _
  have HV:Hid (DO c s h=false):=by rw[a.out];unfold Hid DO;simp[r0,r1]
  clear a
  go_wp2_with fail
  go_quiet ((first|(with_reducible exact BL (d _))|(with_reducible exact BL (f _))|(with_reducible exact BL (g _))|(go_at_call 78;exact Fn (Hg _ _ _ (by assumption) (by assumption)))))
  go_wp2;go_ret;exact⟨Af DL,Ba i _⟩
 have f: ∀w:World,Calls prog 73 (Ziii c 1 1000) w λe b=>e=.returned (.bool true)∧w=b:=λw=>by rw[<-r1];exact As _ _ _ _
 rcases jt (inR s (-1000) 1000) with r2|r2
 rotate_left
 ·skip
  have g: ∀w:World,Calls prog 73 (Ziii s (-1000) 1000) w λe b=>e=.returned (.bool false)∧w=b:=λw=>by rw[<-r2];exact As _ _ _ _
  have HV:Hid (DO c s h=false):=by rw[a.out];unfold Hid DO;simp[r0,r1,r2]
  clear a
  go_wp2_with fail
  go_quiet ((first|(with_reducible exact BL (d _))|(with_reducible exact BL (f _))|(with_reducible exact BL (g _))|(go_at_call 78;exact Fn (Hg _ _ _ (by assumption) (by assumption)))))
  go_wp2;go_ret;exact⟨Af DL,Ba i _⟩
 have g: ∀w:World,Calls prog 73 (Ziii s (-1000) 1000) w λe b=>e=.returned (.bool true)∧w=b:=λw=>by rw[<-r2];exact As _ _ _ _
 have p:=Ac r0;have q:=Ac r1;have r:=Ac r2
 by_cases k:s=0
 ·subst k;clear p q r;have HV:Hid (DO c 0 h=false):=by rw[a.out];unfold Hid DO;simp
  clear a
  go_wp2_with fail
  go_quiet ((first|(with_reducible exact BL (d _))|(with_reducible exact BL (f _))|(with_reducible exact BL (g _))|(go_at_call 78;exact Fn (Hg _ _ _ (by assumption) (by assumption)))))
  go_wp2;go_ret;exact⟨Af DL,Ba i _⟩
 have z:=QG (x:=c) Aa Aa;have B:=QG (x:=s) Aa Aa;have A:=QG (x:=h) Aa Aa;have C:=Bg (c*c);have F:=Bg (s*s);have G:=Bg (c*c+s*s);have H:=Bg (h*h);have y:c.natAbs<=1000000:=Aa;have ns:s.natAbs<=1000000:=Aa;have E:h.natAbs<=1000000:=Aa;have D:((Int.gcd c s:Nat):Int).natAbs<=1000000:=by have:=Vk y ns;omega
 clear p q r z B A
 by_cases u:c*c+s*s=h*h
 rotate_left
 ·have HV:Hid (DO c s h=false):=by rw[a.out];unfold Hid DO;simp[r0,r1,r2,k,u]
  clear a
  go_wp2_with fail
  go_quiet ((first|(with_reducible exact BL (d _))|(with_reducible exact BL (f _))|(with_reducible exact BL (g _))|(go_at_call 78;exact Fn (Hg _ _ _ (by assumption) (by assumption)))))
  go_wp2;go_ret;exact⟨Af DL,Ba i _⟩
 have HV:Hid (DO c s h=decide (((Int.gcd (Int.gcd c s:Int) h:Nat):Int)=1)):=by rw[a.out];unfold Hid DO;simp[r0,r1,r2,k,u]
 clear a
 go_wp2_with fail
 go_quiet ((first|(with_reducible exact BL (d _))|(with_reducible exact BL (f _))|(with_reducible exact BL (g _))|(go_at_call 78;exact Fn (Hg _ _ _ (by assumption) (by assumption)))))
 go_wp2;go_ret;exact⟨Af (by rw[HV.out,Bool.eq_iff_iff];simp[k]),Ba i _⟩
theorem Dp (c s h:Int) (w:World):
  (BT 83 #[Ziii c s h] w (.bool (DO c s h)):Prop):=by
 have a:Hid (DO c s h=Rj c s h):=(bW _ _ _).symm
 go_enter func83,ntmps83
 go_upto_region 1 with fail
 generalize t:w.alloc _=C;obtain⟨v,i⟩:=EX t;clear t;have j:=v.cell;have l:=j 0;have m:=j 1;have n:=j 2;simp at l m n;clear j;rcases jt (inR h 1 1000) with r0|r0
 rotate_left
 ·skip
  have d: ∀w:World,Calls prog 84 (Ziii h 1 1000) w λe b=>e=.returned (.bool false)∧w=b:=λw=>by rw[<-r0];exact Ay _ _ _ _
  have HV:Hid (DO c s h=false):=by rw[a.out];unfold Hid Rj;simp[r0]
  clear a
  go_wp2_with fail
  go_quiet ((first|(with_reducible exact BL (d _))|(with_reducible exact BL (f _))|(with_reducible exact BL (g _))|(go_at_call 116;exact Fn (D9 _ _ _ (by assumption) (by assumption)))))
  go_wp2;go_ret;exact⟨Af DL,Ba i _⟩
 have d: ∀w:World,Calls prog 84 (Ziii h 1 1000) w λe b=>e=.returned (.bool true)∧w=b:=λw=>by rw[<-r0];exact Ay _ _ _ _
 have I:=Bg (-h) (by have:=Ac r0;omega)
 rcases jt (inR c 1 h) with r1|r1
 rotate_left
 ·skip
  have f: ∀w:World,Calls prog 84 (Ziii c 1 h) w λe b=>e=.returned (.bool false)∧w=b:=λw=>by rw[<-r1];exact Ay _ _ _ _
  have HV:Hid (DO c s h=false):=by rw[a.out];unfold Hid Rj;simp[r0,r1]
  clear a
  go_wp2_with fail
  go_quiet ((first|(with_reducible exact BL (d _))|(with_reducible exact BL (f _))|(with_reducible exact BL (g _))|(go_at_call 116;exact Fn (D9 _ _ _ (by assumption) (by assumption)))))
  go_wp2;go_ret;exact⟨Af DL,Ba i _⟩
 have f: ∀w:World,Calls prog 84 (Ziii c 1 h) w λe b=>e=.returned (.bool true)∧w=b:=λw=>by rw[<-r1];exact Ay _ _ _ _
 rcases jt (inR s (-h) h) with r2|r2
 rotate_left
 ·skip
  have g: ∀w:World,Calls prog 84 (Ziii s (-h) h) w λe b=>e=.returned (.bool false)∧w=b:=λw=>by rw[<-r2];exact Ay _ _ _ _
  have HV:Hid (DO c s h=false):=by rw[a.out];unfold Hid Rj;simp[r0,r1,r2]
  clear a
  go_wp2_with fail
  go_quiet ((first|(with_reducible exact BL (d _))|(with_reducible exact BL (f _))|(with_reducible exact BL (g _))|(go_at_call 116;exact Fn (D9 _ _ _ (by assumption) (by assumption)))))
  go_wp2;go_ret;exact⟨Af DL,Ba i _⟩
 have g: ∀w:World,Calls prog 84 (Ziii s (-h) h) w λe b=>e=.returned (.bool true)∧w=b:=λw=>by rw[<-r2];exact Ay _ _ _ _
 have p:=Ac r0;have q:=Ac r1;have r:=Ac r2
 by_cases k:s=0
 ·subst k;clear p q r;have HV:Hid (DO c 0 h=false):=by rw[a.out];unfold Hid Rj;simp
  clear a
  go_wp2_with fail
  go_quiet ((first|(with_reducible exact BL (d _))|(with_reducible exact BL (f _))|(with_reducible exact BL (g _))|(go_at_call 116;exact Fn (D9 _ _ _ (by assumption) (by assumption)))))
  go_wp2;go_ret;exact⟨Af DL,Ba i _⟩
 have z:=QG (x:=c) Aa Aa;have B:=QG (x:=s) Aa Aa;have A:=QG (x:=h) Aa Aa;have C:=Bg (c*c);have F:=Bg (s*s);have G:=Bg (c*c+s*s);have H:=Bg (h*h);have y:c.natAbs<=1000000:=Aa;have ns:s.natAbs<=1000000:=Aa;have E:h.natAbs<=1000000:=Aa;have D:((Int.gcd c s:Nat):Int).natAbs<=1000000:=by have:=Vk y ns;omega
 clear p q r z B A
 by_cases u:c*c+s*s=h*h
 rotate_left
 ·have HV:Hid (DO c s h=false):=by rw[a.out];unfold Hid Rj;simp[r0,r1,r2,k,u]
  clear a
  go_wp2_with fail
  go_quiet ((first|(with_reducible exact BL (d _))|(with_reducible exact BL (f _))|(with_reducible exact BL (g _))|(go_at_call 116;exact Fn (D9 _ _ _ (by assumption) (by assumption)))))
  go_wp2;go_ret;exact⟨Af DL,Ba i _⟩
 have HV:Hid (DO c s h=decide (((Int.gcd (Int.gcd c s:Int) h:Nat):Int)=1)):=by rw[a.out];unfold Hid Rj;simp[r0,r1,r2,k,u]
 clear a
 go_wp2_with fail
 go_quiet ((first|(with_reducible exact BL (d _))|(with_reducible exact BL (f _))|(with_reducible exact BL (g _))|(go_at_call 116;exact Fn (D9 _ _ _ (by assumption) (by assumption)))))
 go_wp2;go_ret;exact⟨Af (by rw[HV.out,Bool.eq_iff_iff];simp[k]),Ba i _⟩
