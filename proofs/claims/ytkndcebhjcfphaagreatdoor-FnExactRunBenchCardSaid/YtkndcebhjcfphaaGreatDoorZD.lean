import Derived.Test.YtkndcebhjcfphaaGreatDoorZA
import Derived.Deep.Cut
namespace Go.Proofs.YtkndcebhjcfphaaGreatDoor
open Go.RowKit Go.Proofs.Tryz
set_option maxRecDepth 100000
set_option maxHeartbeats 4000000
set_option linter.all false
def Rj (c s h:Int):Bool:=inR h 1 1000 && (inR c 1 h && (inR s (-h) h && (!decide (s=0) && (decide (c*c+s*s=h*h) && decide (((Int.gcd (Int.gcd c s:Int) h:Nat):Int)=1)))))
theorem aE {c h:Int} (h0:0≤h) (hc:c*c≤h*h):c≤h:=by
 by_cases k:c≤h
 ·exact k
 ·exfalso
  have e:(h+1)*(h+1)≤c*c:=CL Aa Aa Aa Aa;rw[Int.add_mul,Int.mul_add] at e;omega
theorem bW (c s h:Int):Rj c s h=DO c s h:=by
 rw[Bool.eq_iff_iff];unfold Rj DO inR;simp only[CD,BP,Bool.not_eq_true',decide_eq_false_iff_not]
 constructor
 ·rintro⟨⟨a1,a2⟩,⟨b1,b2⟩,⟨c1,c2⟩,d,e,f⟩;exact⟨⟨a1,a2⟩,⟨b1,by omega⟩,⟨by omega,by omega⟩,d,e,f⟩
 ·rintro⟨⟨a1,a2⟩,⟨b1,b2⟩,⟨c1,c2⟩,d,e,f⟩;have p1:0≤c*c:=Du Aa Aa
  have p2:0≤s*s:=by
   by_cases k:0≤s
   ·exact Du k k
   ·rw[←Int.neg_mul_neg];exact Du Aa Aa
  have q1:c≤h:=aE Aa Aa;have q2:s≤h:=aE Aa Aa;have q3: -s≤h:=aE Aa (by rw[Int.neg_mul_neg];omega)
  exact⟨⟨a1,a2⟩,⟨b1,q1⟩,⟨by omega,q2⟩,d,e,f⟩
theorem QG {x:Int} (h1: -1000≤x) (h2:x≤1000):0≤x*x∧x*x≤1000000:=by
 have key: ∀y:Int,0≤y→y≤1000→0≤y*y∧y*y≤1000000:=fun y a b=>⟨Du a a,CL b b a Ah⟩
 by_cases k:0≤x
 ·exact key x k h2
 ·have:=key (-x) Aa Aa;rw[Int.neg_mul_neg] at this;exact this
theorem Jb (c s h:Int) (w:World):
  (BT 50 #[Ziii c s h] w (.bool (DO c s h)):Prop):=by
 have HB:Hid (DO c s h=DO c s h):=rfl
 go_enter func50,ntmps50
 go_upto_region 1 with fail
 generalize hG:w.alloc _=w1;obtain⟨K0,b0⟩:=EX hG;clear hG;have e0:=K0.cell;have e00:=e0 0;have e01:=e0 1;have e02:=e0 2;simp at e00 e01 e02;clear e0;rcases BA (inR h 1 1000) with r0|r0
 rotate_left
 ·skip
  have W0: ∀w:World,Calls prog 73 (Ziii h 1 1000) w fun e w'=>e=.returned (.bool false)∧w=w':=fun w=>by rw[←r0];exact As _ _ _ _
  have HV:Hid (DO c s h=false):=by rw[HB.out];unfold Hid DO;simp[r0]
  clear HB
  go_wp2_with fail
  go_quiet ((first|(with_reducible exact BL (W0 _))|(with_reducible exact BL (W1 _))|(with_reducible exact BL (W2 _))|(go_at_call 78;exact Fn (Hg _ _ _ (by assumption) (by assumption)))))
  go_wp2;go_ret;exact⟨Af DL,Ba b0 _⟩
 have W0: ∀w:World,Calls prog 73 (Ziii h 1 1000) w fun e w'=>e=.returned (.bool true)∧w=w':=fun w=>by rw[←r0];exact As _ _ _ _
 rcases BA (inR c 1 1000) with r1|r1
 rotate_left
 ·skip
  have W1: ∀w:World,Calls prog 73 (Ziii c 1 1000) w fun e w'=>e=.returned (.bool false)∧w=w':=fun w=>by rw[←r1];exact As _ _ _ _
  have HV:Hid (DO c s h=false):=by rw[HB.out];unfold Hid DO;simp[r0,r1]
  clear HB
  go_wp2_with fail
  go_quiet ((first|(with_reducible exact BL (W0 _))|(with_reducible exact BL (W1 _))|(with_reducible exact BL (W2 _))|(go_at_call 78;exact Fn (Hg _ _ _ (by assumption) (by assumption)))))
  go_wp2;go_ret;exact⟨Af DL,Ba b0 _⟩
 have W1: ∀w:World,Calls prog 73 (Ziii c 1 1000) w fun e w'=>e=.returned (.bool true)∧w=w':=fun w=>by rw[←r1];exact As _ _ _ _
 rcases BA (inR s (-1000) 1000) with r2|r2
 rotate_left
 ·skip
  have W2: ∀w:World,Calls prog 73 (Ziii s (-1000) 1000) w fun e w'=>e=.returned (.bool false)∧w=w':=fun w=>by rw[←r2];exact As _ _ _ _
  have HV:Hid (DO c s h=false):=by rw[HB.out];unfold Hid DO;simp[r0,r1,r2]
  clear HB
  go_wp2_with fail
  go_quiet ((first|(with_reducible exact BL (W0 _))|(with_reducible exact BL (W1 _))|(with_reducible exact BL (W2 _))|(go_at_call 78;exact Fn (Hg _ _ _ (by assumption) (by assumption)))))
  go_wp2;go_ret;exact⟨Af DL,Ba b0 _⟩
 have W2: ∀w:World,Calls prog 73 (Ziii s (-1000) 1000) w fun e w'=>e=.returned (.bool true)∧w=w':=fun w=>by rw[←r2];exact As _ _ _ _
 have b1:=Ac r0;have b2:=Ac r1;have b3:=Ac r2
 by_cases s0:s=0
 ·subst s0;clear b1 b2 b3;have HV:Hid (DO c 0 h=false):=by rw[HB.out];unfold Hid DO;simp
  clear HB
  go_wp2_with fail
  go_quiet ((first|(with_reducible exact BL (W0 _))|(with_reducible exact BL (W1 _))|(with_reducible exact BL (W2 _))|(go_at_call 78;exact Fn (Hg _ _ _ (by assumption) (by assumption)))))
  go_wp2;go_ret;exact⟨Af DL,Ba b0 _⟩
 have qc:=QG (x:=c) Aa Aa;have qs:=QG (x:=s) Aa Aa;have qh:=QG (x:=h) Aa Aa;have w1:=Bg (c*c);have w2:=Bg (s*s);have w3:=Bg (c*c+s*s);have w4:=Bg (h*h);have nc:c.natAbs≤1000000:=Aa;have ns:s.natAbs≤1000000:=Aa;have nh:h.natAbs≤1000000:=Aa;have ng:((Int.gcd c s:Nat):Int).natAbs≤1000000:=by have:=Vk nc ns;omega
 clear b1 b2 b3 qc qs qh
 by_cases py:c*c+s*s=h*h
 rotate_left
 ·have HV:Hid (DO c s h=false):=by rw[HB.out];unfold Hid DO;simp[r0,r1,r2,s0,py]
  clear HB
  go_wp2_with fail
  go_quiet ((first|(with_reducible exact BL (W0 _))|(with_reducible exact BL (W1 _))|(with_reducible exact BL (W2 _))|(go_at_call 78;exact Fn (Hg _ _ _ (by assumption) (by assumption)))))
  go_wp2;go_ret;exact⟨Af DL,Ba b0 _⟩
 have HV:Hid (DO c s h=decide (((Int.gcd (Int.gcd c s:Int) h:Nat):Int)=1)):=by rw[HB.out];unfold Hid DO;simp[r0,r1,r2,s0,py]
 clear HB
 go_wp2_with fail
 go_quiet ((first|(with_reducible exact BL (W0 _))|(with_reducible exact BL (W1 _))|(with_reducible exact BL (W2 _))|(go_at_call 78;exact Fn (Hg _ _ _ (by assumption) (by assumption)))))
 go_wp2;go_ret;exact⟨Af (by rw[HV.out,Bool.eq_iff_iff];simp[s0]),Ba b0 _⟩
theorem Dp (c s h:Int) (w:World):
  (BT 83 #[Ziii c s h] w (.bool (DO c s h)):Prop):=by
 have HB:Hid (DO c s h=Rj c s h):=(bW _ _ _).symm
 go_enter func83,ntmps83
 go_upto_region 1 with fail
 generalize hG:w.alloc _=w1;obtain⟨K0,b0⟩:=EX hG;clear hG;have e0:=K0.cell;have e00:=e0 0;have e01:=e0 1;have e02:=e0 2;simp at e00 e01 e02;clear e0;rcases BA (inR h 1 1000) with r0|r0
 rotate_left
 ·skip
  have W0: ∀w:World,Calls prog 84 (Ziii h 1 1000) w fun e w'=>e=.returned (.bool false)∧w=w':=fun w=>by rw[←r0];exact Ay _ _ _ _
  have HV:Hid (DO c s h=false):=by rw[HB.out];unfold Hid Rj;simp[r0]
  clear HB
  go_wp2_with fail
  go_quiet ((first|(with_reducible exact BL (W0 _))|(with_reducible exact BL (W1 _))|(with_reducible exact BL (W2 _))|(go_at_call 116;exact Fn (DX _ _ _ (by assumption) (by assumption)))))
  go_wp2;go_ret;exact⟨Af DL,Ba b0 _⟩
 have W0: ∀w:World,Calls prog 84 (Ziii h 1 1000) w fun e w'=>e=.returned (.bool true)∧w=w':=fun w=>by rw[←r0];exact Ay _ _ _ _
 have wn:=Bg (-h) (by have:=Ac r0;omega)
 rcases BA (inR c 1 h) with r1|r1
 rotate_left
 ·skip
  have W1: ∀w:World,Calls prog 84 (Ziii c 1 h) w fun e w'=>e=.returned (.bool false)∧w=w':=fun w=>by rw[←r1];exact Ay _ _ _ _
  have HV:Hid (DO c s h=false):=by rw[HB.out];unfold Hid Rj;simp[r0,r1]
  clear HB
  go_wp2_with fail
  go_quiet ((first|(with_reducible exact BL (W0 _))|(with_reducible exact BL (W1 _))|(with_reducible exact BL (W2 _))|(go_at_call 116;exact Fn (DX _ _ _ (by assumption) (by assumption)))))
  go_wp2;go_ret;exact⟨Af DL,Ba b0 _⟩
 have W1: ∀w:World,Calls prog 84 (Ziii c 1 h) w fun e w'=>e=.returned (.bool true)∧w=w':=fun w=>by rw[←r1];exact Ay _ _ _ _
 rcases BA (inR s (-h) h) with r2|r2
 rotate_left
 ·skip
  have W2: ∀w:World,Calls prog 84 (Ziii s (-h) h) w fun e w'=>e=.returned (.bool false)∧w=w':=fun w=>by rw[←r2];exact Ay _ _ _ _
  have HV:Hid (DO c s h=false):=by rw[HB.out];unfold Hid Rj;simp[r0,r1,r2]
  clear HB
  go_wp2_with fail
  go_quiet ((first|(with_reducible exact BL (W0 _))|(with_reducible exact BL (W1 _))|(with_reducible exact BL (W2 _))|(go_at_call 116;exact Fn (DX _ _ _ (by assumption) (by assumption)))))
  go_wp2;go_ret;exact⟨Af DL,Ba b0 _⟩
 have W2: ∀w:World,Calls prog 84 (Ziii s (-h) h) w fun e w'=>e=.returned (.bool true)∧w=w':=fun w=>by rw[←r2];exact Ay _ _ _ _
 have b1:=Ac r0;have b2:=Ac r1;have b3:=Ac r2
 by_cases s0:s=0
 ·subst s0;clear b1 b2 b3;have HV:Hid (DO c 0 h=false):=by rw[HB.out];unfold Hid Rj;simp
  clear HB
  go_wp2_with fail
  go_quiet ((first|(with_reducible exact BL (W0 _))|(with_reducible exact BL (W1 _))|(with_reducible exact BL (W2 _))|(go_at_call 116;exact Fn (DX _ _ _ (by assumption) (by assumption)))))
  go_wp2;go_ret;exact⟨Af DL,Ba b0 _⟩
 have qc:=QG (x:=c) Aa Aa;have qs:=QG (x:=s) Aa Aa;have qh:=QG (x:=h) Aa Aa;have w1:=Bg (c*c);have w2:=Bg (s*s);have w3:=Bg (c*c+s*s);have w4:=Bg (h*h);have nc:c.natAbs≤1000000:=Aa;have ns:s.natAbs≤1000000:=Aa;have nh:h.natAbs≤1000000:=Aa;have ng:((Int.gcd c s:Nat):Int).natAbs≤1000000:=by have:=Vk nc ns;omega
 clear b1 b2 b3 qc qs qh
 by_cases py:c*c+s*s=h*h
 rotate_left
 ·have HV:Hid (DO c s h=false):=by rw[HB.out];unfold Hid Rj;simp[r0,r1,r2,s0,py]
  clear HB
  go_wp2_with fail
  go_quiet ((first|(with_reducible exact BL (W0 _))|(with_reducible exact BL (W1 _))|(with_reducible exact BL (W2 _))|(go_at_call 116;exact Fn (DX _ _ _ (by assumption) (by assumption)))))
  go_wp2;go_ret;exact⟨Af DL,Ba b0 _⟩
 have HV:Hid (DO c s h=decide (((Int.gcd (Int.gcd c s:Int) h:Nat):Int)=1)):=by rw[HB.out];unfold Hid Rj;simp[r0,r1,r2,s0,py]
 clear HB
 go_wp2_with fail
 go_quiet ((first|(with_reducible exact BL (W0 _))|(with_reducible exact BL (W1 _))|(with_reducible exact BL (W2 _))|(go_at_call 116;exact Fn (DX _ _ _ (by assumption) (by assumption)))))
 go_wp2;go_ret;exact⟨Af (by rw[HV.out,Bool.eq_iff_iff];simp[s0]),Ba b0 _⟩
end Go.Proofs.YtkndcebhjcfphaaGreatDoor
