import Derived.Test.YtkndcebhjcfphaaGreatDoorZJ
import Derived.Test.YtkndcebhjcfphaaGreatDoorZR
import Derived.Test.YtkndcebhjcfphaaGreatDoorZU
namespace Go.Proofs.YtkndcebhjcfphaaGreatDoor
open Go.RowKit Go.Proofs.Tryz
set_option maxRecDepth 100000
set_option maxHeartbeats 4000000
set_option linter.all false
def Zo (a h o:Int):Int:=1+ -(-(a-2*h)/(2*h-o))
def SE (a h o:Int):Bool:=inR a 1 10000 && (inR h 1 10000 && inR o 0 10000)
def evC (a h o:Int):Int:=if SE a h o=false then 2 else if a≤2*h then 0 else if 2*h≤o then 5 else if 60<Zo a h o then 3 else 0
def Zl (h s:Int) (k:Nat):List Int:=(List.range k).map (fun i:Nat=>h+(i:Int)*s)
def Vh (a h s:Int) (k:Nat):List Int:=(List.range k).map (fun i:Nat=>min (h+(i:Int)*s) (a-h))
def evQ (a h o:Int):List Int:=if evC a h o=0 then(if a≤2*h then [h] else Vh a h (2*h-o) (Zo a h o).toNat) else []
theorem Zm (h s:Int) (k:Nat):Zl h s (k+1)=Zl h s k++ [h+(k:Int)*s]:=by unfold Zl;rw[I6,List.map_append];rfl
theorem Zn (a h s:Int) (k:Nat):Vh a h s (k+1)=Vh a h s k++ [min (h+(k:Int)*s) (a-h)]:=by unfold Vh;rw[I6,List.map_append];rfl
theorem Vi {a h o:Int} (h1: ¬a≤2*h) (h2: ¬2*h≤o):2≤Zo a h o∧a-2*h≤(Zo a h o-1)*(2*h-o)∧(Zo a h o-2)*(2*h-o)<a-2*h:=by
 have hs:0<2*h-o:=Aa;have e:=Int.mul_ediv_add_emod (-(a-2*h)) (2*h-o);have p0:=Int.emod_nonneg (-(a-2*h)) (by omega:2*h-o≠0)
 have p1:=Int.emod_lt_of_pos (-(a-2*h)) hs;unfold Zo;generalize-(a-2*h)/(2*h-o)=t at*;generalize-(a-2*h)%(2*h-o)=r at*;have q1:(1+ -t-1)*(2*h-o)= -((2*h-o)*t):=by rw[show(1+ -t-1)= -t from by omega,Int.neg_mul,Int.mul_comm]
 have q2:(1+ -t-2)*(2*h-o)= -((2*h-o)*t)-(2*h-o):=by rw[show(1+ -t-2)= -t-1 from by omega,Int.sub_mul,Int.neg_mul,Int.mul_comm,Int.one_mul]
 have q3:t<0:=by
  rcases Eg t 0 with c|c
  ·exact c
  ·have:=Du (Int.le_of_lt hs) c;omega
 rw[q1,q2];omega
theorem ei {a h o:Int} (h1: ¬a≤2*h) (h2: ¬2*h≤o) {n:Nat} (hn:Zo a h o=(n:Int)):(Zl h (2*h-o) n).set (n-1) (a-h)=Vh a h (2*h-o) n:=by
 obtain⟨b1,b2,b3⟩:=Vi h1 h2;rw[hn] at b1 b2 b3;have hs:0≤2*h-o:=Aa
 apply List.ext_getElem?
 intro i;rw[List.getElem?_set];unfold Zl Vh;rw[List.getElem?_map,List.getElem?_map,List.length_map,List.length_range];rcases Nat.lt_or_ge i n with hi|hi
 ·rw[List.getElem?_range hi]
  split
  ·next c=>
   subst c;rw[AA Aa];simp only[Option.map_some];rw[show((n-1:Nat):Int)=(n:Int)-1 from by omega,Int.min_eq_right Aa]
  ·next c=>
   have:=ME (a:=(i:Int)) (b:=(n:Int)-2) Aa hs;simp only[Option.map_some];rw[Int.min_eq_left Aa]
 ·rw[List.getElem?_eq_none (by simpa using hi)]
  split
  ·rw[Ak Aa];rfl
  ·rfl
theorem Zp (a h o:Int):(evQ a h o).length≤60∧ ∀x∈evQ a h o,-9223372036854775808<x∧x≤9223372036854775807:=by
 unfold evQ
 split
 ·next hc=>
  have hb:SE a h o=true:=by
   unfold evC at hc;rcases BA (SE a h o) with k|k
   ·exact k
   ·rw[AA k] at hc;cases hc
  unfold SE at hb;rw[CD,CD] at hb;have i1:=Ac hb.1;have i2:=Ac hb.2.1;have i3:=Ac hb.2.2
  split
  ·exact⟨by simp,fun x hx=>by rw[DD] at hx;omega⟩
  ·next h1=>
   have hq:Zo a h o≤60:=by
    unfold evC at hc;rw[Ak (by unfold SE;rw[hb.1,hb.2.1,hb.2.2];decide),Ak h1] at hc
    split at hc
    ·cases hc
    ·split at hc
     ·cases hc
     ·omega
   have ho: ¬2*h≤o:=fun k=>by
    unfold evC at hc;rw[Ak (by unfold SE;rw[hb.1,hb.2.1,hb.2.2];decide),Ak h1,AA k] at hc
    cases hc
   refine⟨by unfold Vh;rw[List.length_map,List.length_range];omega,fun x hx=> ?_⟩
   unfold Vh at hx;rw[List.mem_map] at hx;obtain⟨i,hi,rfl⟩:=hx;rw[Eo] at hi;have:=ME (a:=(i:Int)) (b:=60) Aa (by omega:0≤2*h-o)
   have:=Du (a:=(i:Int)) Aa (by omega:0≤2*h-o)
   omega
 ·exact⟨by simp,fun x hx=>by cases hx⟩
def Ny (a h o:Int) (w:World) (e:Ending) (w':World):Prop:=
 ∃A n c,e=.returned (.tuple (Gb A n c (evC a h o)))∧Rd w' A n (ints (evQ a h o))∧Below w w w'
theorem DH {a h o c:Int} {w w':World} (hc:evC a h o=c) (h0:c≠0) (b:Below w w w'):Ny a h o w (.returned (.tuple (Gb none 0 0 c))) w':=
 ⟨none,0,0,by rw[hc],by rw[show evQ a h o= [] from Ak (by rw[hc];exact h0)];exact Rd.nil _ _,b⟩
theorem QC {a h o:Int} {w w':World} {A:Option Addr} {c:Nat} (hb:SE a h o=true) (h1:a≤2*h) (r:Rd w' A 1 (ints [h])) (b:Below w w w'):Ny a h o w (.returned (.tuple (Gb A 1 c 0))) w':=by
 have hc:evC a h o=0:=by unfold evC;rw[Ak (by rw[hb];decide),AA h1]
 exact⟨A,1,c,by rw[hc],by unfold evQ;rw[AA hc,AA h1];exact r,b⟩
theorem OC {a h o:Int} {w w':World} {A:Option Addr} {n c:Nat} (hb:SE a h o=true) (h1: ¬a≤2*h) (h2: ¬2*h≤o) (hn:Zo a h o=(n:Int)) (h3:n≤60) (r:Rd w' A n (ints (Vh a h (2*h-o) n))) (b:Below w w w'):Ny a h o w (.returned (.tuple (Gb A n c 0))) w':=by
 have hc:evC a h o=0:=by unfold evC;rw[Ak (by rw[hb];decide),Ak h1,Ak h2,Ak Aa]
 exact⟨A,n,c,by rw[hc],by unfold evQ;rw[AA hc,Ak h1,hn];exact r,b⟩
theorem Mk (x:Int) (w:World):(GK 195 #[ZI x] w (.bool (inR x 1 10000)):Prop):=by
 go_enter func195,ntmps195
 go_wp2_with (go_at_call 73;refine(As _ _ _ _).mono ?_;rintro e w' ⟨rfl,rfl⟩)
 go_ret;exact⟨rfl,rfl⟩
theorem RA (x:Int) (w:World):(GK 166 #[ZI x] w (.bool (inR x 1 10000)):Prop):=by
 go_enter func166,ntmps166
 go_wp2_with (go_at_call 84;refine(Ay _ _ _ _).mono ?_;rintro e w' ⟨rfl,rfl⟩)
 go_ret;exact⟨rfl,rfl⟩
theorem Qd (x lo hi:Int):BV [x] lo hi=inR x lo hi:=by unfold BV;simp
theorem L5 (a h o:Int) (w:World):Calls prog 129 (Ziii a h o) w (Ny a h o w):=by
 have HW:=fun W=>RA a W;have HI:=fun W=>Ay h 1 10000 W;have HO:=fun W=>Ay o 0 10000 W;rcases BA (inR a 1 10000) with h1|h1
 rotate_left
 ·have hc:Hid (evC a h o=2):=AA (by unfold SE;rw[h1];rfl)
  rw[h1] at HW;clear HI HO
  go_enter func129,ntmps129
  go_wp2_with (go_at_call 166;refine(HW _).mono ?_;rintro e w' ⟨rfl,rfl⟩)
  refine AS (v:=.tuple (Gb none 0 0 2)) (by simp[results,results129,go_sem]) rfl ?_
  exact DH hc.out Ah E9
 rcases BA (inR h 1 10000) with h2|h2
 rotate_left
 ·have hc:Hid (evC a h o=2):=AA (by unfold SE;rw[h1,h2];rfl)
  rw[h1] at HW;rw[h2] at HI;clear HO
  go_enter func129,ntmps129
  go_wp2_with (first|(go_at_call 166;refine(HW _).mono ?_;rintro e w' ⟨rfl,rfl⟩)|(go_at_call 84;(with_reducible refine(HI _).mono ?_);rintro e w' ⟨rfl,rfl⟩))
  refine AS (v:=.tuple (Gb none 0 0 2)) (by simp[results,results129,go_sem]) rfl ?_
  exact DH hc.out Ah E9
 rcases BA (inR o 0 10000) with h3|h3
 rotate_left
 ·have hc:Hid (evC a h o=2):=AA (by unfold SE;rw[h1,h2,h3];rfl)
  rw[h1] at HW;rw[h2] at HI;rw[h3] at HO
  go_enter func129,ntmps129
  go_wp2_with (first|(go_at_call 166;refine(HW _).mono ?_;rintro e w' ⟨rfl,rfl⟩)|(go_at_call 84;(with_reducible refine(HI _).mono ?_);rintro e w' ⟨rfl,rfl⟩)|(go_at_call 84;(with_reducible refine(HO _).mono ?_);rintro e w' ⟨rfl,rfl⟩))
  refine AS (v:=.tuple (Gb none 0 0 2)) (by simp[results,results129,go_sem]) rfl ?_
  exact DH hc.out Ah E9
 have i1:=Ac h1;have i2:=Ac h2;have i3:=Ac h3;have hb:Hid (SE a h o=true):=by unfold Hid SE;rw[h1,h2,h3];rfl
 rw[h1] at HW;rw[h2] at HI;rw[h3] at HO;clear h1 h2 h3;have u1:=Bg (2*h)
 by_cases q1:a≤2*h
 ·go_enter func129,ntmps129
  go_wp2_with (first|(go_at_call 166;refine(HW _).mono ?_;rintro e w' ⟨rfl,rfl⟩)|(go_at_call 84;(with_reducible refine(HI _).mono ?_);rintro e w' ⟨rfl,rfl⟩)|(go_at_call 84;(with_reducible refine(HO _).mono ?_);rintro e w' ⟨rfl,rfl⟩))
  refine AS (v:=.tuple (Gb (some ⟨w,0,none⟩) 1 1 0)) (by simp[results,results129,go_sem]) rfl ?_
  exact QC hb.out q1 (BD _ _ _) Ax
 by_cases q2:2*h≤o
 ·have hc:Hid (evC a h o=5):=by unfold Hid evC;rw[Ak (by rw[hb.out];decide),Ak q1,AA q2]
  go_enter func129,ntmps129
  go_wp2_with (first|(go_at_call 166;refine(HW _).mono ?_;rintro e w' ⟨rfl,rfl⟩)|(go_at_call 84;(with_reducible refine(HI _).mono ?_);rintro e w' ⟨rfl,rfl⟩)|(go_at_call 84;(with_reducible refine(HO _).mono ?_);rintro e w' ⟨rfl,rfl⟩))
  refine AS (v:=.tuple (Gb none 0 0 5)) (by simp[results,results129,go_sem]) rfl ?_
  exact DH hc.out Ah E9
 have HQ:=Ai (And.intro q1 q2);have HC:=fun W=>EB (a-2*h) (2*h-o) W Aa Aa Aa Aa;have u2:=Bg (2*h-o);have u3:=Bg (a-2*h);have u4:=Bg (a-h);have hbd:=Vi q1 q2;have HNN:Hid (Zo a h o=1+ -(-(a-2*h)/(2*h-o))):=rfl
 have hnb: -(-(a-2*h)/(2*h-o))≤10000:=by
  have:=hbd.2.2;rw[HNN.out] at this hbd;generalize-(-(a-2*h)/(2*h-o))=q at*;rcases Eg 10000 q with c|c
  ·have:=Gq (a:=(1:Int)) (b:=2*h-o) (c:=1+q-2) Aa Aa;omega
  ·exact c
 have hn0:1≤ -(-(a-2*h)/(2*h-o)):=by have:=hbd.1;rw[HNN.out] at this;omega
 clear hbd;obtain⟨q,hq⟩: ∃q,-(-(a-2*h)/(2*h-o))=q:=⟨_,rfl⟩;rw[hq] at HC HNN hnb hn0;clear hq;have u5:=Bg (1+q)
 by_cases q3:60<1+q
 ·have hc:Hid (evC a h o=3):=by unfold Hid evC;rw[Ak (by rw[hb.out];decide),Ak q1,Ak q2,HNN.out,AA q3]
  go_enter func129,ntmps129
  go_wp2_with (first|(go_at_call 166;refine(HW _).mono ?_;rintro e w' ⟨rfl,rfl⟩)|(go_at_call 84;(with_reducible refine(HI _).mono ?_);rintro e w' ⟨rfl,rfl⟩)|(go_at_call 84;(with_reducible refine(HO _).mono ?_);rintro e w' ⟨rfl,rfl⟩)|(go_at_call 167;refine(HC _).mono ?_;rintro e w' ⟨rfl,rfl⟩))
  refine AS (v:=.tuple (Gb none 0 0 3)) (by simp[results,results129,go_sem]) rfl ?_
  exact DH hc.out Ah E9
 obtain⟨n,hn⟩: ∃n:Nat,1+q=(n:Int):=⟨(1+q).toNat,by omega⟩
 rw[hn] at HNN u5;have hn60:n≤60:=Aa;obtain⟨s,hs⟩: ∃s,2*h-o=s:=⟨_,rfl⟩;have hsb:0<s∧s≤20000:=Aa;have HS:=Ai hs;rw[hs] at HC;replace u2:IntKind.i64.wrap (2*h-o)=s:=u2.trans hs;clear hs;obtain rfl:q=(n:Int)-1:=Aa;have u6:IntKind.i64.wrap (1+((n:Int)-1))=(n:Int):=by rw[show 1+((n:Int)-1)=n from by omega];exact u5
 clear hn
 go_enter func129,ntmps129
 go_upto_region 13 with(first|(go_at_call 166;refine(HW _).mono ?_;rintro e w' ⟨rfl,rfl⟩)|(go_at_call 84;(with_reducible refine(HI _).mono ?_);rintro e w' ⟨rfl,rfl⟩)|(go_at_call 84;(with_reducible refine(HO _).mono ?_);rintro e w' ⟨rfl,rfl⟩)|(go_at_call 167;refine(HC _).mono ?_;rintro e w' ⟨rfl,rfl⟩))
 generalize hG:w.alloc _=w1;obtain⟨_,b0,hS⟩:=bJ hG;clear hG;have hz:w≤w1.heap.size:=Aa;have O0:AR w1 w.heap.size 1 ⟨some ⟨w,0,none⟩,0,0⟩ (ints []):=AR.empty _ _ _ _;clear hS;generalize(some (⟨w,0,none⟩:Addr))=PA at*
 go_wp2_with fail
 go_loopw [10,11] (fun t i wr=> ∃(k:Nat) (hd:Hd),k≤n∧t=.slice hd.A hd.n hd.c∧i=.int .i64 k∧AR wr w.heap.size 1 hd (ints (Vh a h s k))∧Below w w wr) (fun _ i _=>n-(intOf i).toNat)
 case atStart=>exact⟨0,⟨PA,0,0⟩,AZ _,rfl,rfl,O0,b0⟩
 case round=>
  clear O0 b0 hz HW HI HO HC;obtain⟨k,⟨DA,dn,dc⟩,hk,rfl,rfl,O,B⟩:=hrel
  by_cases hlt:k<n
  ·have hltI:(k:Int)<(n:Int):=Aa;have hdl:dn=k:=by have h:=O.len;unfold ints Vh at h;simp at h;omega
   have h63:dn+1≤1099511627776:=Aa;have m1:=ME (a:=(k:Int)) (b:=60) (c:=s) Aa Aa;have m2:=Du (a:=(k:Int)) (b:=s) Aa Aa;have v1:=Bg ((k:Int)*s);have v2:=Bg (h+(k:Int)*s);have HSU:=Ai (Zn a h s k);have hmin: ∃z,min (h+(k:Int)*s) (a-h)=z:=⟨_,rfl⟩;obtain⟨z,hz⟩:=hmin;have R1:Rd (wr.alloc (.cells #[ZI z] 2)) (some ⟨wr,0,none⟩) (1*1) (ints [z]):=BD _ _ _;have O1:AR (wr.alloc (.cells #[ZI z] 2)) w.heap.size 1 ⟨DA,dn,dc⟩ (ints (Vh a h s k)):=O.below BU;have hzB:=B.size;have D1:Below w w (wr.alloc (.cells #[ZI z] 2)):=Ax;have hB1:w≤(wr.alloc (.cells #[ZI z] 2)).heap.size:=Bq
   go_wp2_with (at_builtin;refine Aj rfl _ _ 28 rfl 2 1 8 underlying28 AJ Ah w.heap.size ⟨DA,dn,dc⟩ _ rfl O1 _ 1 1 (ints [z]) rfl R1 (Ao _) h63 Ah hB1 ?_;intro G1 wg1 hn1 oG1 gg1 hat1;have HNG:=Ai hn1;clear hn1)
   have D2:=D1.grown gg1 D1.size (fun b e=>(O1.rowlt _ e).1);have eL:ints (Vh a h s (k+1))=ints (Vh a h s k)++ints [z]:=by rw[HSU.out,hz];unfold ints;simp
   go_roundw
   case rel=>exact⟨k+1,G1,by omega,rfl,by go_num,by rw[eL];exact oG1,D2⟩
   case measure=>simp[intOf];omega
  ·obtain rfl:n=k:=Aa;have hltI: ¬(n:Int)<(n:Int):=Aa;have hdl:n=dn:=by have h:=O.len;unfold ints Vh at h;simp at h;omega
   subst hdl;have HR:=Ai O.rd1;go_wp2;refine AS (v:=.tuple (Gb DA n dc 0)) (by simp[results,results129,go_sem]) rfl ?_
   refine OC (n:=n) hb.out (Int.not_le.2 HQ.out.1) (Int.not_le.2 HQ.out.2) HNN.out hn60 (by rw[HS.out];exact HR.out) B
theorem LM (a h o:Int) (w:World):Calls prog 147 (Ziii a h o) w (Ny a h o w):=by
 have HW:=fun W=>Mk a W;have HI:=fun W=>Mk h W;have HO:=fun(A:Option Addr) (W:World) (r:Rd W A 1 (ints [o]))=>Ir A 1 1 [o] W Aa r;rcases BA (inR a 1 10000) with h1|h1
 rotate_left
 ·have hc:Hid (evC a h o=2):=AA (by unfold SE;rw[h1];rfl)
  rw[h1] at HW;clear HI HO
  go_enter func147,ntmps147
  go_wp2_with (go_at_call 195;(with_reducible refine(HW _).mono ?_);rintro e w' ⟨rfl,rfl⟩)
  refine AS (v:=.tuple (Gb none 0 0 2)) (by simp[results,results147,go_sem]) rfl ?_
  exact DH hc.out Ah E9
 rcases BA (inR h 1 10000) with h2|h2
 rotate_left
 ·have hc:Hid (evC a h o=2):=AA (by unfold SE;rw[h1,h2];rfl)
  rw[h1] at HW;rw[h2] at HI;clear HO
  go_enter func147,ntmps147
  go_wp2_with (first|(go_at_call 195;(with_reducible refine(HW _).mono ?_);rintro e w' ⟨rfl,rfl⟩)|(go_at_call 195;(with_reducible refine(HI _).mono ?_);rintro e w' ⟨rfl,rfl⟩))
  refine AS (v:=.tuple (Gb none 0 0 2)) (by simp[results,results147,go_sem]) rfl ?_
  exact DH hc.out Ah E9
 rcases BA (inR o 0 10000) with h3|h3
 rotate_left
 ·have hc:Hid (evC a h o=2):=AA (by unfold SE;rw[h1,h2,h3];rfl)
  rw[h1] at HW;rw[h2] at HI;rw[Qd,h3] at HO
  go_enter func147,ntmps147
  go_wp2_with (first|(go_at_call 195;(with_reducible refine(HW _).mono ?_);rintro e w' ⟨rfl,rfl⟩)|(go_at_call 195;(with_reducible refine(HI _).mono ?_);rintro e w' ⟨rfl,rfl⟩)|(go_at_call 153;refine(HO _ _ (BD _ _ _)).mono ?_;rintro e w' ⟨rfl,rfl⟩))
  refine AS (v:=.tuple (Gb none 0 0 2)) (by simp[results,results147,go_sem]) rfl ?_
  exact DH hc.out Ah Ax
 have i1:=Ac h1;have i2:=Ac h2;have i3:=Ac h3;have hb:Hid (SE a h o=true):=by unfold Hid SE;rw[h1,h2,h3];rfl
 rw[h1] at HW;rw[h2] at HI;rw[Qd,h3] at HO;clear h1 h2 h3;have u1:=Bg (2*h)
 by_cases q1:a≤2*h
 ·go_enter func147,ntmps147
  go_wp2_with (first|(go_at_call 195;(with_reducible refine(HW _).mono ?_);rintro e w' ⟨rfl,rfl⟩)|(go_at_call 195;(with_reducible refine(HI _).mono ?_);rintro e w' ⟨rfl,rfl⟩)|(go_at_call 153;refine(HO _ _ (BD _ _ _)).mono ?_;rintro e w' ⟨rfl,rfl⟩))
  refine AS (v:=.tuple (Gb (some ⟨w+1,0,none⟩) 1 1 0)) (by simp[results,results147,go_sem]) rfl ?_
  exact QC hb.out q1 (by have r:=BD (w.alloc (.cells #[ZI o] 2)) h 2;rw[show(w.alloc (.cells #[ZI o] 2)).heap.size=w.heap.size+1 from by simp] at r;exact r) Ax
 by_cases q2:2*h≤o
 ·have hc:Hid (evC a h o=5):=by unfold Hid evC;rw[Ak (by rw[hb.out];decide),Ak q1,AA q2]
  go_enter func147,ntmps147
  go_wp2_with (first|(go_at_call 195;(with_reducible refine(HW _).mono ?_);rintro e w' ⟨rfl,rfl⟩)|(go_at_call 195;(with_reducible refine(HI _).mono ?_);rintro e w' ⟨rfl,rfl⟩)|(go_at_call 153;refine(HO _ _ (BD _ _ _)).mono ?_;rintro e w' ⟨rfl,rfl⟩))
  refine AS (v:=.tuple (Gb none 0 0 5)) (by simp[results,results147,go_sem]) rfl ?_
  exact DH hc.out Ah Ax
 have HQ:=Ai (And.intro q1 q2);have HC:=fun W=>Ex (a-2*h) (2*h-o) W Aa Aa Aa Aa;have u2:=Bg (2*h-o);have u3:=Bg (a-2*h);have u4:=Bg (a-h);have hbd:=Vi q1 q2;have HNN:Hid (Zo a h o=1+ -(-(a-2*h)/(2*h-o))):=rfl
 have hnb: -(-(a-2*h)/(2*h-o))≤10000:=by
  have:=hbd.2.2;rw[HNN.out] at this hbd;generalize-(-(a-2*h)/(2*h-o))=q at*;rcases Eg 10000 q with c|c
  ·have:=Gq (a:=(1:Int)) (b:=2*h-o) (c:=1+q-2) Aa Aa;omega
  ·exact c
 have hn0:1≤ -(-(a-2*h)/(2*h-o)):=by have:=hbd.1;rw[HNN.out] at this;omega
 clear hbd;obtain⟨q,hq⟩: ∃q,-(-(a-2*h)/(2*h-o))=q:=⟨_,rfl⟩;rw[hq] at HC HNN hnb hn0;clear hq;have u5:=Bg (1+q)
 by_cases q3:60<1+q
 ·have hc:Hid (evC a h o=3):=by unfold Hid evC;rw[Ak (by rw[hb.out];decide),Ak q1,Ak q2,HNN.out,AA q3]
  go_enter func147,ntmps147
  go_wp2_with (first|(go_at_call 195;(with_reducible refine(HW _).mono ?_);rintro e w' ⟨rfl,rfl⟩)|(go_at_call 195;(with_reducible refine(HI _).mono ?_);rintro e w' ⟨rfl,rfl⟩)|(go_at_call 153;refine(HO _ _ (BD _ _ _)).mono ?_;rintro e w' ⟨rfl,rfl⟩)|(go_at_call 196;refine(HC _).mono ?_;rintro e w' ⟨rfl,rfl⟩))
  refine AS (v:=.tuple (Gb none 0 0 3)) (by simp[results,results147,go_sem]) rfl ?_
  exact DH hc.out Ah Ax
 obtain⟨n,hn⟩: ∃n:Nat,1+q=(n:Int):=⟨(1+q).toNat,by omega⟩
 rw[hn] at HNN u5;have hn60:n≤60:=Aa;obtain⟨s,hs⟩: ∃s,2*h-o=s:=⟨_,rfl⟩;have hsb:0<s∧s≤20000:=Aa;have HS:=Ai hs;rw[hs] at HC;replace u2:IntKind.i64.wrap (2*h-o)=s:=u2.trans hs;clear hs;obtain rfl:q=(n:Int)-1:=Aa;have u6:IntKind.i64.wrap (1+((n:Int)-1))=(n:Int):=by rw[show 1+((n:Int)-1)=n from by omega];exact u5
 clear hn
 go_enter func147,ntmps147
 go_upto_region 13 with(first|(go_at_call 195;(with_reducible refine(HW _).mono ?_);rintro e w' ⟨rfl,rfl⟩)|(go_at_call 195;(with_reducible refine(HI _).mono ?_);rintro e w' ⟨rfl,rfl⟩)|(go_at_call 153;refine(HO _ _ (BD _ _ _)).mono ?_;rintro e w' ⟨rfl,rfl⟩)|(go_at_call 196;refine(HC _).mono ?_;rintro e w' ⟨rfl,rfl⟩))
 generalize hG:w.alloc _=w1;obtain⟨_,b0⟩:=EX hG;clear hG;have O0:AR w1 w.heap.size 1 ⟨none,0,0⟩ (ints []):=AR.nil _ _ _
 go_wp2_with fail
 go_loopw [10,53] (fun t i wr=> ∃(k:Nat) (hd:Hd),k≤n∧t=.slice hd.A hd.n hd.c∧i=.int .i64 k∧AR wr w.heap.size 1 hd (ints (Zl h s k))∧Below w w wr) (fun _ i _=>n-(intOf i).toNat)
 case atStart=>exact⟨0,⟨none,0,0⟩,AZ _,rfl,rfl,O0,b0⟩
 case round=>
  clear O0 b0 HW HI HO HC;obtain⟨k,⟨DA,dn,dc⟩,hk,rfl,rfl,O,B⟩:=hrel
  by_cases hlt:k<n
  ·have hltI:(k:Int)<(n:Int):=Aa;have hdl:dn=k:=by have h:=O.len;unfold ints Zl at h;simp at h;omega
   have h63:dn+1≤1099511627776:=Aa;have m1:=ME (a:=(k:Int)) (b:=60) (c:=s) Aa Aa;have m2:=Du (a:=(k:Int)) (b:=s) Aa Aa;have v1:=Bg ((k:Int)*s);have v2:=Bg (h+(k:Int)*s);have HSU:=Ai (Zm h s k);have hmin: ∃z,h+(k:Int)*s=z:=⟨_,rfl⟩;obtain⟨z,hz⟩:=hmin;have R1:Rd (wr.alloc (.cells #[ZI z] 2)) (some ⟨wr,0,none⟩) (1*1) (ints [z]):=BD _ _ _;have O1:AR (wr.alloc (.cells #[ZI z] 2)) w.heap.size 1 ⟨DA,dn,dc⟩ (ints (Zl h s k)):=O.below BU;have hzB:=B.size;have D1:Below w w (wr.alloc (.cells #[ZI z] 2)):=Ax;have hB1:w≤(wr.alloc (.cells #[ZI z] 2)).heap.size:=Bq;replace v2:=v2.trans hz
   go_wp2_with (at_builtin;refine Aj rfl _ _ 28 rfl 2 1 8 underlying28 AJ Ah w.heap.size ⟨DA,dn,dc⟩ _ rfl O1 _ 1 1 (ints [z]) rfl R1 (Ao _) h63 Ah hB1 ?_;intro G1 wg1 hn1 oG1 gg1 hat1;have HNG:=Ai hn1;clear hn1)
   have D2:=D1.grown gg1 D1.size (fun b e=>(O1.rowlt _ e).1);have eL:ints (Zl h s (k+1))=ints (Zl h s k)++ints [z]:=by rw[HSU.out,hz];unfold ints;simp
   go_roundw
   case rel=>exact⟨k+1,G1,by omega,rfl,by go_num,by rw[eL];exact oG1,D2⟩
   case measure=>simp[intOf];omega
  ·obtain rfl:n=k:=Aa;have hltI: ¬(n:Int)<(n:Int):=Aa;have hdl:n=dn:=by have h:=O.len;unfold ints Zl at h;simp at h;omega
   subst hdl;have hcast:(n:Int)-1=((n-1:Nat):Int):=Aa;obtain⟨ad,hA,hx,hf⟩:=O.cell (k:=n-1) Aw;simp only at hA;subst hA;have O2:=Ai (O.set_ (k:=n-1) (ad:=ad) Aw rfl (a-h));have hba:w≤ad.block:=show w.heap.size≤ad.block from O.lowA ad rfl Aw;have u7:IntKind.i64.wrap ((n:Int)-1)=((n-1:Nat):Int):=by rw[hcast];exact Ff _ Aa
   have hn1:n-1<n:=Aa;clear hcast O;go_wp2;refine AS (v:=.tuple (Gb (some ad) n dc 0)) (by simp[results,results147,go_sem]) rfl ?_
   have hes:=ei (n:=n) (Int.not_le.2 HQ.out.1) (Int.not_le.2 HQ.out.2) HNN.out;rw[HS.out] at hes;refine OC (n:=n) hb.out (Int.not_le.2 HQ.out.1) (Int.not_le.2 HQ.out.2) HNN.out hn60 (by rw[HS.out,←hes];exact O2.out.rd1) (B.setCell (p:=ad.add (n-1)) (by rw[Aq];exact hba) _)
def Pd (n a m:Int):Bool:=(inR n 0 12 && inR a 0 16) && inR m 0 (n+1)
theorem Ry (n a:Int) (w:World):(GK 164 (Zii n a) w (.bool (inR n 0 12 && inR a 0 16)):Prop):=by
 have H1:=fun W=>Ay n 0 12 W;have H2:=fun W=>Ay a 0 16 W;rcases BA (inR n 0 12) with h1|h1
 all_goals
  rw[h1] at H1;rw[h1];clear h1;generalize inR a 0 16=b at*
  go_enter func164,ntmps164
  go_wp2_with (first|(go_at_call 84;(with_reducible refine(H1 _).mono ?_);rintro e w' ⟨rfl,rfl⟩)|(go_at_call 84;(with_reducible refine(H2 _).mono ?_);rintro e w' ⟨rfl,rfl⟩))
  go_ret;exact⟨rfl,rfl⟩
theorem Rx {a:Int} (h0:0≤a) (h1:a≤16): ∀(n:Nat) (_:n≤12) (k:Int) (_: -100≤k) (_:k≤100) (w:World),
  (GK 209 (Ziii n a k) w (ZI (exN a n k)):Prop):=by
 intro n
 induction n with
 |zero=>
  intro _ k k1 k2 w
  by_cases hk:k<0
  ·have HE:Hid (exN a 0 k=0):=Fv (Or.inl hk)
   go_enter func209,ntmps209
   go_wp2;go_ret;exact⟨by rw[HE.out];rfl,rfl⟩
  by_cases hk2:0<k
  ·have HE:Hid (exN a 0 k=0):=Fv (Or.inr hk2)
   go_enter func209,ntmps209
   go_wp2;go_ret;exact⟨by rw[HE.out];rfl,rfl⟩
  have hk3:k=0:=Aa;subst hk3;have HE:Hid (exN a 0 0=1):=rfl
  go_enter func209,ntmps209
  go_wp2;go_ret;exact⟨by rw[HE.out];rfl,rfl⟩
 |succ n ih=>
  intro hn k k1 k2 w;have hc:((n+1:Nat):Int)=(n:Int)+1:=Aa;rw[hc];clear hc
  by_cases hk:k<0
  ·have HE:Hid (exN a (n+1) k=0):=Fv (Or.inl hk);clear ih
   go_enter func209,ntmps209
   go_wp2;go_ret;exact⟨by rw[HE.out];rfl,rfl⟩
  by_cases hk2:(n:Int)+1<k
  ·have HE:Hid (exN a (n+1) k=0):=Fv (Or.inr Aa);clear ih
   go_enter func209,ntmps209
   go_wp2;go_ret;exact⟨by rw[HE.out];rfl,rfl⟩
  have HE:Hid (exN a (n+1) k=a*exN a n (k-1)+(16-a)*exN a n k):=Ak Aa;have I1:=fun W=>ih Aa (k-1) Aa Aa W;have I2:=fun W=>ih Aa k Aa Aa W;clear ih;have p:=LH h0 h1 n (k-1);have q:=LH h0 h1 n k;have hp:=Er (show n≤12 by omega)
  rw[show(16:Int) ^ 12=281474976710656 from by decide] at hp
  generalize exN a n (k-1)=x at*;generalize exN a n k=y at*;generalize(16:Int) ^ n=z at*;have a1:=Du h0 p.1;have a2:=Du (show 0≤16-a by omega) q.1
  have a3:=ME h1 p.1;have a4:=ME (show 16-a≤16 by omega) q.1
  have u1:=Bg (a*x);have u2:=Bg ((16-a)*y);have u3:=Bg (a*x+(16-a)*y);have u4:IntKind.i64.wrap ((n:Int)+1-1)=(n:Int):=by rw[show(n:Int)+1-1=n by omega];exact Ff _ Aa
  have u5:=Bg (k-1);have u6:=Bg (16-a);clear a1 a2 a3 a4 p q hp
  go_enter func209,ntmps209
  go_wp2_with fail
  refine(I1 _).mono ?_;rintro e w' ⟨rfl,rfl⟩
  go_wp2_with fail
  refine(I2 _).mono ?_;rintro e w' ⟨rfl,rfl⟩;go_wp2;go_ret;exact⟨by rw[HE.out];rfl,rfl⟩
theorem TI {a:Int} (h0:0≤a) (h1:a≤16) (n m:Nat) (hn:n≤12) (hm:m≤n+1) (w:World):
  (GK 165 (Ziii n a m) w (ZI (exS a n m (n+1-m))):Prop):=by
 have HX:=fun(k:Nat) (h:k≤n) (W:World)=>Rx h0 h1 n hn (m+k:Int) Aa Aa W
 go_enter func165,ntmps165
 go_wp2_with fail
 go_loopw [7,8] (fun t i wr=> ∃k:Nat,k≤n+1-m∧i=.int .i64 ((m:Int)+k)∧t=.int .i64 (exS a n m k)∧w=wr) (fun _ i _=>n+1-(intOf i).toNat)
 case atStart=>exact⟨0,AZ _,by simp,by unfold exS;rfl,rfl⟩
 case round=>
  obtain⟨k,hk,rfl,rfl,rfl⟩:=hrel
  by_cases hlt:k<n+1-m
  ·have hltI:(m:Int)+k≤(n:Int):=Aa;have HXk:=HX k Aa w;have HS:=Ai (Te a n m k);have p:=LH h0 h1 n (m+k:Int);have q:=Vj h0 h1 n m k;have hp:=Er (show n≤12 by omega)
   rw[show(16:Int) ^ 12=281474976710656 from by decide] at hp
   have hz:(0:Int)≤16 ^ n:=Int.pow_nonneg Ah;have hkk:=ME (show(k:Int)≤13 by omega) hz
   generalize exN a n (m+k:Int)=x at*;generalize exS a n m k=y at*;generalize(16:Int) ^ n=z at*;have u1:=Bg (y+x);have u2:IntKind.i64.wrap ((m:Int)+k+1)=(m:Int)+((k+1:Nat):Int):=by rw[show(m:Int)+((k+1:Nat):Int)=(m:Int)+k+1 by omega];exact Ff _ Aa
   clear p q hp hz hkk HX
   go_wp2_with fail
   refine HXk.mono ?_;rintro e w' ⟨rfl,rfl⟩;go_wp2
   go_roundw
   case rel=>exact⟨k+1,by omega,by first|rfl|(congr 1;omega)|go_num,by rw[HS.out],by first|trivial|rfl⟩
   case measure=>simp[intOf];omega
  ·obtain rfl:k=n+1-m:=Aa;have hltI: ¬(m:Int)+((n+1-m:Nat):Int)≤(n:Int):=Aa;clear HX;go_wp2;go_ret;exact⟨rfl,by first|trivial|rfl⟩
def fg (n a m:Int):Int:=if Pd n a m=true then exS a n.toNat m (n.toNat+1-m.toNat) else 0
def tcC (n a m:Int):Int:=if Pd n a m=true then 0 else 2
theorem Ll (n a m:Int) (w:World):(GK 128 (Ziii n a m) w (.tuple (Zii (fg n a m) (tcC n a m))):Prop):=by
 have H1:=fun W=>Ry n a W;have H2:=fun W=>Ay m 0 (n+1) W;rcases BA (inR n 0 12 && inR a 0 16) with h1|h1
 rotate_left
 ·have hv:Hid (fg n a m=0∧tcC n a m=2):=⟨Ak (by unfold Pd;rw[h1];simp),Ak (by unfold Pd;rw[h1];simp)⟩
  rw[h1] at H1
  go_enter func128,ntmps128
  go_wp2_with (go_at_call 164;refine(H1 _).mono ?_;rintro e w' ⟨rfl,rfl⟩)
  refine AS (v:=.tuple (Zii 0 2)) (by simp[results,results128,go_sem]) rfl ?_
  exact⟨by rw[hv.out.1,hv.out.2],rfl⟩
 have i1:=Ac (CD .. ▸h1:_∧_).1;have i2:=Ac (CD .. ▸h1:_∧_).2;have u1:=Bg (n+1);rcases BA (inR m 0 (n+1)) with h2|h2
 rotate_left
 ·have hv:Hid (fg n a m=0∧tcC n a m=2):=⟨Ak (by unfold Pd;rw[h1,h2];decide),Ak (by unfold Pd;rw[h1,h2];decide)⟩
  rw[h1] at H1;rw[h2] at H2;clear h1 h2
  go_enter func128,ntmps128
  go_wp2_with (first|(go_at_call 164;refine(H1 _).mono ?_;rintro e w' ⟨rfl,rfl⟩)|(go_at_call 84;refine(H2 _).mono ?_;rintro e w' ⟨rfl,rfl⟩))
  refine AS (v:=.tuple (Zii 0 2)) (by simp[results,results128,go_sem]) rfl ?_
  exact⟨by rw[hv.out.1,hv.out.2],rfl⟩
 have i3:=Ac h2;obtain⟨N,rfl⟩: ∃N:Nat,n=(N:Int):=⟨n.toNat,by omega⟩
 obtain⟨M,rfl⟩: ∃M:Nat,m=(M:Int):=⟨m.toNat,by omega⟩
 have hv:Hid (fg N a M=exS a N M (N+1-M)∧tcC N a M=0):=⟨(AA (by unfold Pd;rw[h1,h2];rfl)).trans Cr,AA (by unfold Pd;rw[h1,h2];rfl)⟩
 have HT:=fun W=>TI i2.1 i2.2 N M Aa Aa W;rw[h1] at H1;rw[h2] at H2;clear h1 h2
 go_enter func128,ntmps128
 go_wp2_with (first|(go_at_call 164;refine(H1 _).mono ?_;rintro e w' ⟨rfl,rfl⟩)|(go_at_call 84;refine(H2 _).mono ?_;rintro e w' ⟨rfl,rfl⟩)|(go_at_call 165;refine(HT _).mono ?_;rintro e w' ⟨rfl,rfl⟩))
 refine AS (v:=.tuple (Zii (exS a N M (N+1-M)) 0)) (by simp[results,results128,go_sem]) rfl ?_
 exact⟨by rw[hv.out.1,hv.out.2],rfl⟩
theorem Xy (x:Int) (n:Nat) (w:World) (h0:0≤x) (h1:x≤4096) (hn:n≤12):
  Calls prog 294 (Zii x n) w fun e w'=> ∃h:Hd,e=.returned (.slice h.A h.n h.c)∧h.n=n∧AR w' w.heap.size 1 h (ints (bitW n x))∧Below w w w':=by
 have hmk: ∀W:World,(Instr.makeSlice 28 (ZI n) (ZI n)).run prog W=.ok (.slice (some ⟨W,0,none⟩) n n) (W.alloc (.cells (madeCells #[ZI 0] n) 2)):=fun W=>ER n Aa W;have HL:Hid ((bitW n x).length=n):=NG n x;have O0:AR (w.alloc (.cells (madeCells #[ZI 0] n) 2)) w.heap.size 1 ⟨some ⟨w,0,none⟩,n,n⟩ (ints (List.replicate n 0)):=AR.made Bk Aa _
 go_enter func294,ntmps294
 go_wp2;clear hmk;generalize hG:w.alloc _=w1 at O0⊢;obtain⟨_,B0,hS⟩:=bJ hG;clear hG;clear hS
 go_loopw [11] (fun i wr=> ∃k:Nat,k≤n∧i=.int .i64 k∧AR wr w.heap.size 1 ⟨some ⟨w,0,none⟩,n,n⟩ (ints (mix (bitW n x) (List.replicate n 0) k))∧Below w w wr) (fun i _=>n-(intOf i).toNat)
 case atStart=>exact⟨0,AZ _,rfl,O0,B0⟩
 case round=>
  clear O0 B0;obtain⟨k,hk,rfl,O,hbel⟩:=hrel
  by_cases hlt:k<n
  ·obtain⟨ad,hA,hd,hf⟩:=O.cell (show k<(⟨some ⟨w,0,none⟩,n,n⟩:Hd).n from hlt);simp only at hA;injection hA with hA;subst hA;have HM:=Ai (cI (bitW n x) (List.replicate n 0) (by rw[HL.out];simp) (k:=k) (by simpa using hlt))
   have HO:=fun v=>Ai (O.set_ (ad:=⟨w,0,none⟩) hlt rfl v);rw[CE] at hd hf;simp only[CE] at HO;have hbv:(bitW n x).getD k 0=x/((2 ^ (n-1-k):Nat):Int)%2:=Ow _ hlt;rw[hbv] at HM;clear hbv O;generalize mix (bitW n x) (List.replicate n 0) k=L at*;generalize L.getD k 0=y at*;have hltI:(k:Int)<(n:Int):=Aa;have u1:=Bg ((n:Int)-1);obtain⟨s,hs⟩: ∃s:Nat,n-1-k=s:=⟨_,rfl⟩;have u2:IntKind.i64.wrap ((n:Int)-1-k)=(s:Int):=by rw[show(n:Int)-1-k=s by omega];exact Ff _ Aa
   have hs12:s≤11:=Aa;rw[hs] at HM;clear hs;rcases(show s=0∨s=1∨s=2∨s=3∨s=4∨s=5∨s=6∨s=7∨s=8∨s=9∨s=10∨s=11 by omega) with rfl|rfl|rfl|rfl|rfl|rfl|rfl|rfl|rfl|rfl|rfl|rfl
   ·have hbv:bits .and .i64 x 1=x%2:=Hv _;have HM2:=HM.out;rw[show x/((2 ^ 0:Nat):Int)=x from by simp] at HM2
    have HM3:=Ai HM2;clear HM2;go_wp2
    go_roundw
    case rel=>exact⟨k+1,by omega,by go_num,by rw[←HM3.out];exact(HO _).out,hbel.setCell Bk _⟩
    case measure=>simp[intOf];omega
   ·have hbv:bits .and .i64 (x/2) 1=(x/2)%2:=Hv _;have HM2:=HM.out;rw[show x/((2 ^ 1:Nat):Int)=x/2 from rfl] at HM2;have HM3:=Ai HM2;clear HM2;go_wp2
    go_roundw
    case rel=>exact⟨k+1,by omega,by go_num,by rw[←HM3.out];exact(HO _).out,hbel.setCell Bk _⟩
    case measure=>simp[intOf];omega
   ·have hbv:bits .and .i64 (x/4) 1=(x/4)%2:=Hv _;have HM2:=HM.out;rw[show x/((2 ^ 2:Nat):Int)=x/4 from rfl] at HM2;have HM3:=Ai HM2;clear HM2;go_wp2
    go_roundw
    case rel=>exact⟨k+1,by omega,by go_num,by rw[←HM3.out];exact(HO _).out,hbel.setCell Bk _⟩
    case measure=>simp[intOf];omega
   ·have hbv:bits .and .i64 (x/8) 1=(x/8)%2:=Hv _;have HM2:=HM.out;rw[show x/((2 ^ 3:Nat):Int)=x/8 from rfl] at HM2;have HM3:=Ai HM2;clear HM2;go_wp2
    go_roundw
    case rel=>exact⟨k+1,by omega,by go_num,by rw[←HM3.out];exact(HO _).out,hbel.setCell Bk _⟩
    case measure=>simp[intOf];omega
   ·have hbv:bits .and .i64 (x/16) 1=(x/16)%2:=Hv _;have HM2:=HM.out;rw[show x/((2 ^ 4:Nat):Int)=x/16 from rfl] at HM2;have HM3:=Ai HM2;clear HM2;go_wp2
    go_roundw
    case rel=>exact⟨k+1,by omega,by go_num,by rw[←HM3.out];exact(HO _).out,hbel.setCell Bk _⟩
    case measure=>simp[intOf];omega
   ·have hbv:bits .and .i64 (x/32) 1=(x/32)%2:=Hv _;have HM2:=HM.out;rw[show x/((2 ^ 5:Nat):Int)=x/32 from rfl] at HM2;have HM3:=Ai HM2;clear HM2;go_wp2
    go_roundw
    case rel=>exact⟨k+1,by omega,by go_num,by rw[←HM3.out];exact(HO _).out,hbel.setCell Bk _⟩
    case measure=>simp[intOf];omega
   ·have hbv:bits .and .i64 (x/64) 1=(x/64)%2:=Hv _;have HM2:=HM.out;rw[show x/((2 ^ 6:Nat):Int)=x/64 from rfl] at HM2;have HM3:=Ai HM2;clear HM2;go_wp2
    go_roundw
    case rel=>exact⟨k+1,by omega,by go_num,by rw[←HM3.out];exact(HO _).out,hbel.setCell Bk _⟩
    case measure=>simp[intOf];omega
   ·have hbv:bits .and .i64 (x/128) 1=(x/128)%2:=Hv _;have HM2:=HM.out;rw[show x/((2 ^ 7:Nat):Int)=x/128 from rfl] at HM2;have HM3:=Ai HM2;clear HM2;go_wp2
    go_roundw
    case rel=>exact⟨k+1,by omega,by go_num,by rw[←HM3.out];exact(HO _).out,hbel.setCell Bk _⟩
    case measure=>simp[intOf];omega
   ·have hbv:bits .and .i64 (x/256) 1=(x/256)%2:=Hv _;have HM2:=HM.out;rw[show x/((2 ^ 8:Nat):Int)=x/256 from rfl] at HM2;have HM3:=Ai HM2;clear HM2;go_wp2
    go_roundw
    case rel=>exact⟨k+1,by omega,by go_num,by rw[←HM3.out];exact(HO _).out,hbel.setCell Bk _⟩
    case measure=>simp[intOf];omega
   ·have hbv:bits .and .i64 (x/512) 1=(x/512)%2:=Hv _;have HM2:=HM.out;rw[show x/((2 ^ 9:Nat):Int)=x/512 from rfl] at HM2;have HM3:=Ai HM2;clear HM2;go_wp2
    go_roundw
    case rel=>exact⟨k+1,by omega,by go_num,by rw[←HM3.out];exact(HO _).out,hbel.setCell Bk _⟩
    case measure=>simp[intOf];omega
   ·have hbv:bits .and .i64 (x/1024) 1=(x/1024)%2:=Hv _;have HM2:=HM.out;rw[show x/((2 ^ 10:Nat):Int)=x/1024 from rfl] at HM2;have HM3:=Ai HM2;clear HM2;go_wp2
    go_roundw
    case rel=>exact⟨k+1,by omega,by go_num,by rw[←HM3.out];exact(HO _).out,hbel.setCell Bk _⟩
    case measure=>simp[intOf];omega
   ·have hbv:bits .and .i64 (x/2048) 1=(x/2048)%2:=Hv _;have HM2:=HM.out;rw[show x/((2 ^ 11:Nat):Int)=x/2048 from rfl] at HM2;have HM3:=Ai HM2;clear HM2;go_wp2
    go_roundw
    case rel=>exact⟨k+1,by omega,by go_num,by rw[←HM3.out];exact(HO _).out,hbel.setCell Bk _⟩
    case measure=>simp[intOf];omega
  ·obtain rfl:k=n:=Aa;have hl:=HL.out;rw[show mix (bitW k x) (List.replicate k 0) k=bitW k x from by have h:=cH (bitW k x) (List.replicate k 0) (by rw[hl];simp);rwa [List.length_replicate] at h] at O
   have HO:=Ai O;go_wp2;go_ret;exact⟨⟨some ⟨w,0,none⟩,k,k⟩,rfl,rfl,HO.out,hbel⟩
theorem Yx (A:Option Addr) (n c:Nat) (xs:List Int) (w:World) (hn:n≤12) (hr:Rd w A n (ints xs)) (hb:BV xs 0 1=true):
  (GK 244 #[.slice A n c] w (ZI xs.sum):Prop):=by
 have HL:=Ai hr.len
 go_enter func244,ntmps244
 go_wp2
 go_loopw [3,8] (fun t i wr=> ∃k:Nat,k≤n∧i=.int .i64 k∧t=.int .i64 (xs.take k).sum∧w=wr) (fun _ i _=>n-(intOf i).toNat)
 case atStart=>exact⟨0,AZ _,rfl,rfl,rfl⟩
 case round=>
  obtain⟨k,hk,rfl,rfl,rfl⟩:=hrel
  by_cases hlt:k<n
  ·obtain⟨ad,rfl,hx⟩:=hr.int hlt;have hltI:(k:Int)<(n:Int):=Aa;have h1:=EZ hb (k:=k) (by rw[HL.out];exact hlt)
   have h2:=Ls (l:=xs.take k) (by unfold BV at hb⊢;rw[List.all_eq_true] at hb⊢;exact fun v hv=>hb v (List.mem_of_mem_take hv))
   have h3:(xs.take k).length=k:=by rw[Ju,HL.out];omega
   have HS:Hid ((xs.take (k+1)).sum=(xs.take k).sum+xs.getD k 0):=by
    unfold Hid;rw[List.take_succ_eq_append_getElem (by rw[HL.out];exact hlt),List.sum_append,CJ (by rw[HL.out];exact hlt)];simp
   generalize xs.getD k 0=y at*;generalize(xs.take k).sum=z at*;have u1:=Bg (z+y);clear h1 h2 h3;go_wp2
   go_roundw
   case rel=>exact⟨k+1,by omega,by go_num,by rw[HS.out],by first|trivial|rfl⟩
   case measure=>simp[intOf];omega
  ·obtain rfl:k=n:=Aa;have hltI: ¬(k:Int)<(k:Int):=Aa;have ht:Hid (xs.take k=xs):=ED (by rw[HL.out];exact Cp _)
   go_wp2;go_ret;exact⟨Bb (by rw[ht.out]),by first|trivial|rfl⟩
theorem XB (A:Option Addr) (n c:Nat) (xs:List Int) (a:Int) (w:World) (hn:n≤12) (hr:Rd w A n (ints xs)) (h0:0≤a) (h1:a≤16):
  (GK 245 (Gb A n c a) w (ZI (casP a xs)):Prop):=by
 have HL:=Ai hr.len
 go_enter func245,ntmps245
 go_wp2
 go_loopw [5,10] (fun t i wr=> ∃k:Nat,k≤n∧i=.int .i64 k∧t=.int .i64 (casP a (xs.take k))∧w=wr) (fun _ i _=>n-(intOf i).toNat)
 case atStart=>exact⟨0,AZ _,rfl,rfl,rfl⟩
 case round=>
  obtain⟨k,hk,rfl,rfl,rfl⟩:=hrel
  by_cases hlt:k<n
  ·obtain⟨ad,rfl,hx⟩:=hr.int hlt;have hltI:(k:Int)<(n:Int):=Aa;have h2:=M7 h0 h1 (xs.take k);have h3:(xs.take k).length=k:=by rw[Ju,HL.out];omega
   rw[h3] at h2;have hp:=Er (show k≤12 by omega)
   rw[show(16:Int) ^ 12=281474976710656 from by decide] at hp
   have HS:Hid (casP a (xs.take (k+1))=casP a (xs.take k)*(if xs.getD k 0=1 then a else 16-a)):=by
    unfold Hid;rw[List.take_succ_eq_append_getElem (by rw[HL.out];exact hlt),SQ,CJ (by rw[HL.out];exact hlt)]
   generalize xs.getD k 0=y at*;generalize casP a (xs.take k)=z at*;generalize(16:Int) ^ k=pk at*;have m1:=Gq h1 h2.1;have m2:=Du h2.1 h0;have m3:=Gq (show 16-a≤16 by omega) h2.1
   have m4:=Du h2.1 (show 0≤16-a by omega)
   have u1:=Bg (z*a);have u2:=Bg (z*(16-a));have u3:=Bg (16-a);clear m1 m2 m3 m4 hp h3 h2
   by_cases hy:y=1
   ·have HV:=HS.out;rw[AA hy] at HV;have HV:=Ai HV;clear HS;go_wp2
    go_roundw
    case rel=>exact⟨k+1,by omega,by go_num,by rw[HV.out],by first|trivial|rfl⟩
    case measure=>simp[intOf];omega
   ·have HV:=HS.out;rw[Ak hy] at HV;have HV:=Ai HV;clear HS;go_wp2
    go_roundw
    case rel=>exact⟨k+1,by omega,by go_num,by rw[HV.out],by first|trivial|rfl⟩
    case measure=>simp[intOf];omega
  ·obtain rfl:k=n:=Aa;have hltI: ¬(k:Int)<(k:Int):=Aa;have ht:Hid (xs.take k=xs):=ED (by rw[HL.out];exact Cp _)
   go_wp2;go_ret;exact⟨Bb (by rw[ht.out]),by first|trivial|rfl⟩
theorem Wm (A:Option Addr) (n c:Nat) (xs:List Int) (a:Int) (L:List Int) (la:Addr) (ln lc bl ba B:Nat) (w:World) (hn:n≤12) (hr:Rd w A n (ints xs)) (hb:BV xs 0 1=true) (h0:0≤a) (h1:a≤16)
  (KL:Blk w bl 28 #[.slice (some la) ln lc]) (KA:Blk w ba 2 #[ZI a]) (O:AR w B 1 ⟨some la,ln,lc⟩ (ints L)) (hj:xs.sum.toNat<ln) (hv:0≤L.getD xs.sum.toNat 0) (hv2:L.getD xs.sum.toNat 0≤2305843009213693952):
  Calls prog 243 #[.slice A n c,.pointer (some ⟨bl,0,none⟩),.pointer (some ⟨ba,0,none⟩)] w fun e w'=>e=.returned (.tuple #[])∧w'=(w.setCell (la.add xs.sum.toNat) (ZI (L.getD xs.sum.toNat 0+casP a xs))).drew:=by
 have HS:=fun(W:World) (r:Rd W A n (ints xs))=>Yx A n c xs W hn r hb;have HC:=fun(W:World) (r:Rd W A n (ints xs))=>XB A n c xs a W hn r h0 h1;have hsb:=Ls hb;have hcb:=M7 h0 h1 xs;have hxl:=hr.len;have hp:=Er (show xs.length≤12 by omega)
 rw[show(16:Int) ^ 12=281474976710656 from by decide] at hp
 obtain⟨ad,hA,hx,hf⟩:=O.cell hj
 cases hA
 obtain⟨j,hjj⟩: ∃j:Nat,xs.sum=(j:Int):=⟨xs.sum.toNat,by omega⟩
 rw[hjj] at HS hj hx hf hv hv2⊢;simp only[Int.toNat_natCast] at hj hx hf hv hv2⊢;have hjI:(j:Int)<(ln:Int):=Aa;clear hjj hsb;generalize L.getD j 0=v at*;generalize casP a xs=cs at*;have u1:=Bg (v+cs);have r2:=Ai hr;clear hcb hp hv hv2;clear O
 go_enter func243,ntmps243
 have e1:=KL.cell;have e2:=KA.cell
 go_region_with
  (first
   |(go_at_call 244;refine(HS _ (r2.out.below Ax)).mono ?_;rintro e w' ⟨rfl,rfl⟩)
   |(go_at_call 245;refine(HC _ (r2.out.below Ax)).mono ?_;rintro e w' ⟨rfl,rfl⟩))
 all_goals
  go_end0
  exact⟨rfl,rfl⟩
theorem Rm (n:Nat) (a:Int) (la:Addr) (lc bl ba B:Nat) (w:World) (hn:n≤12) (h0:0≤a) (h1:a≤16)
  (KL:Blk w bl 28 #[.slice (some la) (n+2:Nat) lc]) (KA:Blk w ba 2 #[ZI a]) (O:AR w B 1 ⟨some la,n+2,lc⟩ (ints (tlS n a 0))) (hlB:bl≠la.block) (haB:ba≠la.block):
  Calls prog 242 #[ZI n,.func (.func 243) #[] #[.pointer (some ⟨bl,0,none⟩),.pointer (some ⟨ba,0,none⟩)]] w fun e w'=>e=.returned (.tuple #[])∧Blk w' bl 28 #[.slice (some la) (n+2:Nat) lc]∧AR w' B 1 ⟨some la,n+2,lc⟩ (ints (tlS n a (2 ^ n)))∧Below B w w':=by
 have hBs:B≤w.heap.size:=by have:=O.lowA la rfl (show 0<n+2 by omega);have:=O.rd1.lt rfl (show 0<n+2 by omega);omega
 obtain⟨M,hM⟩: ∃M:Nat,2 ^ n=M:=⟨_,rfl⟩;have hM2:M≤4096:=by rw[←hM];exact Ch (Nat.pow_le_pow_right Ah hn) Ah
 have hsh:IntKind.i64.wrap ((2:Int) ^ n)=(M:Int):=by
  rw[show(2:Int) ^ n=(M:Int) from by rw[←hM];simp]
  exact Ff _ Aa
 rw[hM];clear hM;have hp:=Er hn;rw[show(16:Int) ^ 12=281474976710656 from by decide] at hp
 have HP:=Ai hp;clear hp
 go_enter func242,ntmps242
 go_wp2_with fail
 go_loopw [7] (fun i wr=> ∃x:Nat,x≤M∧i=.int .i64 x∧Blk wr bl 28 #[.slice (some la) (n+2:Nat) lc]∧Blk wr ba 2 #[ZI a]∧AR wr B 1 ⟨some la,n+2,lc⟩ (ints (tlS n a x))∧Below B w wr) (fun i _=>M-(intOf i).toNat)
 case atStart=>exact⟨0,AZ _,rfl,KL,KA,O,AP _ _⟩
 case round=>
  clear KL KA O;obtain⟨x,hx,rfl,KL,KA,O,B2⟩:=hrel
  by_cases hlt:x<M
  ·have hltI:(x:Int)<(M:Int):=Aa;have hbs:=Xy (x:Int) n wr Aa Aa hn;have hbi:=Q4 n x;have hat:=Wn n (x:Int);obtain⟨p1,p2,p3⟩:=Wo (n:=n) h0 h1 x;have hlen:=Ht n a x;have hgm:(tlS n a x).getD (bitW n x).sum.toNat 0∈tlS n a x:=by rw[DE,Db Aa];exact EH _
   have hg0:=p1 _ hgm
   have hg1:(tlS n a x).getD (bitW n x).sum.toNat 0≤2305843009213693952:=by
    have k1:=VI p1 _ hgm;have k2:=Gq HP.out (show 0≤(x:Int) by omega)
    omega
   have HSET:Hid (tlS n a (x+1)=(tlS n a x).set (bitW n x).sum.toNat ((tlS n a x).getD (bitW n x).sum.toNat 0+casP a (bitW n x))):=rfl;have hHs:=hat.1;clear hat p1 p2 p3 hlen hgm;generalize bitW n (x:Int)=bs at*;have HH:=Ai hHs;have HI:=Ai hbi;have HG0:=Ai hg0;have HG1:=Ai hg1;clear hHs hbi hg0 hg1;generalize tlS n a x=L at*
   go_wp2_with fail
   refine hbs.mono ?_;rintro e w2 ⟨⟨hA,hN,hC⟩,rfl,hhn,o2,b2⟩;simp only at hhn;subst hhn;have KL2:=KL.below b2 KL.lt;have KA2:=KA.below b2 KA.lt;have O2:=O.below b2;have hBs2:B≤wr.heap.size:=by have:=B2.size;omega
   have B3:=B2.trans (b2.mono hBs2);have HO2:=Ai O2;clear KL KA O b2 B2 hbs
   go_wp2_with fail
   refine(Wm hA hN hC bs a L la (hN+2) lc bl ba B w2 hn o2.rd1 HI.out h0 h1 KL2 KA2 HO2.out HH.out HG0.out HG1.out).mono ?_;rintro e w3 ⟨rfl,rfl⟩;have hla:=HO2.out.lowA la rfl (show 0<hN+2 by omega)
   have hblk:(la.add bs.sum.toNat).block=la.block:=Aq _ _;have O4:=(HO2.out.set_ (k:=bs.sum.toNat) (ad:=la) HH.out rfl (L.getD bs.sum.toNat 0+casP a bs)).below GJ;have KL4:=Blk.drew (KL2.far (p:=la.add bs.sum.toNat) (by rw[hblk];exact hlB) (ZI (L.getD bs.sum.toNat 0+casP a bs)))
   have KA4:=Blk.drew (KA2.far (p:=la.add bs.sum.toNat) (by rw[hblk];exact haB) (ZI (L.getD bs.sum.toNat 0+casP a bs)))
   have B4:=(B3.setCell (p:=la.add bs.sum.toNat) (by rw[hblk];omega) (ZI (L.getD bs.sum.toNat 0+casP a bs))).drew
   rw[←HSET.out] at O4;go_wp2
   go_roundw
   case rel=>exact⟨x+1,by omega,by go_num,KL4,KA4,O4,B4⟩
   case measure=>simp[intOf];omega
  ·obtain rfl:x=M:=Aa;have hltI: ¬(x:Int)<(x:Int):=Aa;have KH:=Ai KL;have OH:=Ai O;clear KL O KA;go_wp2
   go_end0
   exact⟨rfl,KH.out,OH.out,B2⟩
theorem Yy (n:Nat) (a:Int) (w:World) (hn:n≤12) (h0:0≤a) (h1:a≤16):
  Calls prog 194 (Zii n a) w fun e w'=> ∃la lc,e=.returned (.slice (some la) (n+2:Nat) lc)∧Rd w' (some la) (n+2) (ints (tlD (tlS n a (2 ^ n)) 0))∧Below w w w':=by
 have hmk: ∀W:World,(Instr.makeSlice 28 (ZI ((n:Int)+2)) (ZI ((n:Int)+2))).run prog W=.ok (.slice (some ⟨W,0,none⟩) (n+2:Nat) (n+2:Nat)) (W.alloc (.cells (madeCells #[ZI 0] (n+2)) 2)):=fun W=>by have h:=ER (n+2) Aa W;rwa [show((n+2:Nat):Int)=(n:Int)+2 by omega] at h
 have u1:=Bg ((n:Int)+2)
 have O0:AR (((w.alloc (.cells #[ZI a] 2)).alloc (.cells (madeCells #[ZI 0] (n+2)) 2)).alloc (.cells #[.slice (some ⟨w+1,0,none⟩) (n+2:Nat) (n+2:Nat)] 28)) (w.heap.size+1) 1 ⟨some ⟨w+1,0,none⟩,n+2,n+2⟩ (ints (List.replicate (n+2) 0)):=by
  have h:=(AR.made (W:=w.alloc (.cells #[ZI a] 2)) (B:=w.heap.size+1) (n:=n+2) Cr Aa 2).below ((AP _ _).alloc Bk (.cells #[.slice (some ⟨w+1,0,none⟩) (n+2:Nat) (n+2:Nat)] 28));rw[show(w.alloc (.cells #[ZI a] 2)).heap.size=w.heap.size+1 from by simp] at h
  exact h
 have KA0:=((Blk.newN (g:=w) w 2 #[ZI a] rfl).alloc (.cells (madeCells #[ZI 0] (n+2)) 2)).alloc (.cells #[.slice (some ⟨w+1,0,none⟩) (n+2:Nat) (n+2:Nat)] 28);have KL0:=Blk.newN (g:=w+1+1) ((w.alloc (.cells #[ZI a] 2)).alloc (.cells (madeCells #[ZI 0] (n+2)) 2)) 28 #[.slice (some ⟨w+1,0,none⟩) (n+2:Nat) (n+2:Nat)] Cr;have b0:Below w w (((w.alloc (.cells #[ZI a] 2)).alloc (.cells (madeCells #[ZI 0] (n+2)) 2)).alloc (.cells #[.slice (some ⟨w+1,0,none⟩) (n+2:Nat) (n+2:Nat)] 28)):=Ax;have HE:=fun(w1:World) KL0 KA0 O0=>Rm n a ⟨w+1,0,none⟩ (n+2) (w.heap.size+1+1) w.heap.size (w.heap.size+1) w1 hn h0 h1 KL0 KA0 O0 Aw Aw;have hfin:=Wo (n:=n) h0 h1 (2 ^ n);have hlen:=Ht n a (2 ^ n);have hp:=Er hn;rw[show(16:Int) ^ 12=281474976710656 from by decide] at hp
 have hM2:2 ^ n≤4096:=Ch (Nat.pow_le_pow_right Ah hn) Ah
 have hsum:(tlS n a (2 ^ n)).sum≤2305843009213693952:=by
  generalize 2 ^ n=M at*;have k2:=Gq hp (show 0≤(M:Int) by omega)
  omega
 have hpos:=hfin.1;clear hfin hp hM2;generalize tlS n a (2 ^ n)=L at*;have HPOS:=Ai hpos;have HLEN:=Ai hlen;have HSUM:=Ai hsum;clear hpos hlen hsum
 go_enter func194,ntmps194
 go_upto_region 2 with fail
 generalize((w.alloc _).alloc _).alloc _=w1 at O0 KA0 KL0 b0⊢
 go_wp2_with fail
 refine(HE _ KL0 KA0 O0).mono ?_;rintro e w2 ⟨rfl,KL,O,b2⟩;have b3:=b0.trans (b2.mono Aa);clear HE b0 b2 hmk KL0 KA0 O0;have hst:=Yz (L:=L) (n+1) HLEN.out
 go_wp2_with fail
 go_loopw [6] (fun i wr=> ∃(k:Nat) (z:Int),k≤n+1∧i=.int .i64 z∧z=(k:Int)-1∧Blk wr (w.heap.size+1+1) 28 #[.slice (some ⟨w+1,0,none⟩) (n+2:Nat) (n+2:Nat)]∧AR wr (w.heap.size+1) 1 ⟨some ⟨w+1,0,none⟩,n+2,n+2⟩ (ints (tlD L k))∧Below w w wr) (fun i _=>(intOf i+1).toNat)
 case atStart=>exact⟨n+1,n,Cp _,rfl,by omega,KL,by rw[hst];exact O,b3⟩
 case round=>
  clear KL O b3 hst;obtain⟨k,z,hk,rfl,hz,KL,O,B⟩:=hrel;have e1:=KL.cell
  by_cases hlt:0<k
  ·obtain⟨m,rfl⟩: ∃m,k=m+1:=⟨k-1,by omega⟩
   obtain rfl:z=(m:Int):=Aa;have hltI:(0:Int)≤(m:Int):=Aa;obtain⟨_,hA,hx,hf⟩:=O.cell (k:=m) Aw
   cases hA
   obtain⟨_,hA,hy,-⟩:=O.cell (k:=m+1) Aw
   cases hA
   rw[CE] at hx hf hy;have HO:=fun v=>Ai (O.set_ (k:=m) (ad:=⟨w+1,0,none⟩) Aw rfl v);simp only[CE] at HO;have HSET:=Ai (dy (L:=L) (m:=m) (by have:=HLEN.out;omega))
   have q1:=Ta HPOS.out m;have q2:=Ta HPOS.out (m+1)
   have q3:(L.drop m).sum=(tlD L (m+1)).getD m 0+(tlD L (m+1)).getD (m+1) 0:=by
    rw[Pe Aa (by have:=HLEN.out;omega),JO Bk (by have:=HLEN.out;omega),List.drop_eq_getElem_cons (show m<L.length by have:=HLEN.out;omega),List.sum_cons,CJ (by have:=HLEN.out;omega)]
   rw[q3] at q1;have hs:=HSUM.out;generalize tlD L (m+1)=D at*;generalize D.getD m 0=x at*;generalize D.getD (m+1) 0=y at*;have u2:=Bg (x+y);have u3:=Bg ((m:Int)+1);have u4:=Bg ((m:Int)-1);clear q1 q2 q3 hs O hz
   go_upto_region 6 with fail
   go_region
   have NL:=Blk.drew (KL.far (p:=⟨w+1,m,none⟩) Aw (ZI (x+y)));have NO:=(HO (x+y)).out.below GJ;rw[HSET.out] at NO;have NB:=(B.setCell (p:=⟨w+1,m,none⟩) Aw (ZI (x+y))).drew;clear e1 KL HO hx hf hy B;generalize(wr.setCell ⟨w+1,m,none⟩ (ZI (x+y))).drew=w3 at*;go_wp2
   go_roundw
   case rel=>exact⟨m,(m:Int)-1,by omega,by go_num,rfl,NL,NO,NB⟩
   case measure=>simp[intOf]
  ·obtain rfl:k=0:=Aa;have HR:=Ai O.rd1;clear O KL;go_wp2;refine AS (v:=.slice (some ⟨w+1,0,none⟩) (n+2:Nat) (n+2:Nat)) (by simp[results,results194,go_sem]) rfl ?_
   exact⟨⟨w+1,0,none⟩,⟨n+2,rfl⟩,HR.out,B⟩
def tcV (n a m:Int):Int:=if Pd n a m=true then fR n.toNat a m.toNat else 0
theorem Rs (x:Int) (w:World):(GK 192 #[ZI x] w (.bool (inR x 0 12)):Prop):=by
 go_enter func192,ntmps192
 go_wp2_with (go_at_call 73;refine(As _ _ _ _).mono ?_;rintro e w' ⟨rfl,rfl⟩)
 go_ret;exact⟨rfl,rfl⟩
theorem Rr (x:Int) (w:World):(GK 193 #[ZI x] w (.bool (inR x 0 16)):Prop):=by
 go_enter func193,ntmps193
 go_wp2_with (go_at_call 73;refine(As _ _ _ _).mono ?_;rintro e w' ⟨rfl,rfl⟩)
 go_ret;exact⟨rfl,rfl⟩
def Ww (n a m:Int) (w:World) (e:Ending) (w':World):Prop:=e=.returned (.tuple (Zii (tcV n a m) (tcC n a m)))∧Below w w w'
theorem L2 {n a m:Int} {w w':World} (h:Pd n a m=false) (b:Below w w w'):Ww n a m w (.returned (.tuple (Zii 0 2))) w':=
 ⟨by rw[show tcV n a m=0 from Ak (by rw[h];decide),show tcC n a m=2 from Ak (by rw[h];decide)],b⟩
theorem ak {n a m:Int} {w w':World} {z:Int} (h:Pd n a m=true) (hz:z=fR n.toNat a m.toNat) (b:Below w w w'):Ww n a m w (.returned (.tuple (Zii z 0))) w':=
 ⟨by rw[show tcV n a m=z from(AA h).trans hz.symm,show tcC n a m=0 from AA h],b⟩
theorem Kf (n a m:Int) (w:World):Calls prog 145 (Ziii n a m) w (Ww n a m w):=by
 have H1:=fun W=>Rs n W;have H2:=fun W=>Rr a W;have H3:=fun W=>As m 0 (n+1) W;rcases BA (inR n 0 12) with h1|h1
 rotate_left
 ·have hv:Hid (Pd n a m=false):=by unfold Hid Pd;rw[h1];simp
  rw[h1] at H1;clear H2 H3
  go_enter func145,ntmps145
  go_wp2_with (go_at_call 192;refine(H1 _).mono ?_;rintro e w' ⟨rfl,rfl⟩)
  refine AS (v:=.tuple (Zii 0 2)) (by simp[results,results145,go_sem]) rfl ?_
  exact L2 hv.out E9
 have i1:=Ac h1;have u1:=Bg (n+1);rcases BA (inR a 0 16) with h2|h2
 rotate_left
 ·have hv:Hid (Pd n a m=false):=by unfold Hid Pd;rw[h1,h2];simp
  rw[h1] at H1;rw[h2] at H2;clear H3
  go_enter func145,ntmps145
  go_wp2_with (first|(go_at_call 192;refine(H1 _).mono ?_;rintro e w' ⟨rfl,rfl⟩)|(go_at_call 193;refine(H2 _).mono ?_;rintro e w' ⟨rfl,rfl⟩))
  refine AS (v:=.tuple (Zii 0 2)) (by simp[results,results145,go_sem]) rfl ?_
  exact L2 hv.out E9
 have i2:=Ac h2;rcases BA (inR m 0 (n+1)) with h3|h3
 rotate_left
 ·have hv:Hid (Pd n a m=false):=by unfold Hid Pd;rw[h1,h2,h3];rfl
  rw[h1] at H1;rw[h2] at H2;rw[h3] at H3;clear h1 h2 h3
  go_enter func145,ntmps145
  go_wp2_with (first|(go_at_call 192;refine(H1 _).mono ?_;rintro e w' ⟨rfl,rfl⟩)|(go_at_call 193;refine(H2 _).mono ?_;rintro e w' ⟨rfl,rfl⟩)|(go_at_call 73;refine(H3 _).mono ?_;rintro e w' ⟨rfl,rfl⟩))
  refine AS (v:=.tuple (Zii 0 2)) (by simp[results,results145,go_sem]) rfl ?_
  exact L2 hv.out E9
 have i3:=Ac h3;obtain⟨N,rfl⟩: ∃N:Nat,n=(N:Int):=⟨n.toNat,by omega⟩
 obtain⟨M,rfl⟩: ∃M:Nat,m=(M:Int):=⟨m.toNat,by omega⟩
 have hv:Hid (Pd N a M=true):=by unfold Hid Pd;rw[h1,h2,h3];rfl
 have HT:=fun W=>Yy N a W Aa i2.1 i2.2;have hD:Hid ((tlD (tlS N a (2 ^ N)) 0).getD M 0=fR N a M):=JO (AZ _) (by rw[Ht];omega)
 rw[h1] at H1;rw[h2] at H2;rw[h3] at H3;clear h1 h2 h3;have hM:M<N+2:=Aa
 go_enter func145,ntmps145
 go_upto_region 3 with(first|(go_at_call 192;refine(H1 _).mono ?_;rintro e w' ⟨rfl,rfl⟩)|(go_at_call 193;refine(H2 _).mono ?_;rintro e w' ⟨rfl,rfl⟩)|(go_at_call 73;refine(H3 _).mono ?_;rintro e w' ⟨rfl,rfl⟩))
 clear H1 H2 H3
 go_wp2_with fail
 refine(HT _).mono ?_;rintro e w2 ⟨la,lc,rfl,hr,b2⟩;obtain⟨_,hA,hx⟩:=hr.int hM
 cases hA
 generalize(tlD (tlS N a (2 ^ N)) 0).getD M 0=z at*;clear hr HT;go_wp2;refine AS (v:=.tuple (Zii z 0)) (by simp[results,results145,go_sem]) rfl ?_
 exact ak hv.out (by simp only[Int.toNat_natCast];exact hD.out) b2
end Go.Proofs.YtkndcebhjcfphaaGreatDoor
