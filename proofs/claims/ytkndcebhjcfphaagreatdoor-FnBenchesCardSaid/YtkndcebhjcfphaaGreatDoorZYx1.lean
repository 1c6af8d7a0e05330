import Derived.Test.YtkndcebhjcfphaaGreatDoorZL
import Derived.Test.YtkndcebhjcfphaaGreatDoorZT
import Derived.Test.YtkndcebhjcfphaaGreatDoorZW
namespace Go.Proofs.YtkndcebhjcfphaaGreatDoor
open Go.RowKit Go.Proofs.Tryz
set_option maxRecDepth 100000
set_option maxHeartbeats 4000000
set_option linter.all false
def Zo (a h o:Int):Int:=1+ -(-(a-2*h)/(2*h-o))
def SE (a h o:Int):Bool:=inR a 1 10000 && (inR h 1 10000 && inR o 0 10000)
def evC (a h o:Int):Int:=if SE a h o=false then 2 else if a<=2*h then 0 else if 2*h<=o then 5 else if 60<Zo a h o then 3 else 0
def Zl (h s:Int) (k:Nat):List Int:=(List.range k).map (λi:Nat=>h+(i:Int)*s)
def Vh (a h s:Int) (k:Nat):List Int:=(List.range k).map (λi:Nat=>min (h+(i:Int)*s) (a-h))
def evQ (a h o:Int):List Int:=if evC a h o=0 then(if a<=2*h then [h] else Vh a h (2*h-o) (Zo a h o).toNat) else []
theorem Zm (h s:Int) (k:Nat):Zl h s (k+1)=Zl h s k++ [h+(k:Int)*s]:=by unfold Zl;rw[I6,List.map_append];rfl
theorem Zn (a h s:Int) (k:Nat):Vh a h s (k+1)=Vh a h s k++ [min (h+(k:Int)*s) (a-h)]:=by unfold Vh;rw[I6,List.map_append];rfl
theorem Vi {a h o:Int} (g: ¬a<=2*h) (i: ¬2*h<=o):2<=Zo a h o∧a-2*h<=(Zo a h o-1)*(2*h-o)∧(Zo a h o-2)*(2*h-o)<a-2*h:=by
 have b:0<2*h-o:=Aa;have e:=Int.mul_ediv_add_emod (-(a-2*h)) (2*h-o);have j:=Int.emod_nonneg (-(a-2*h)) (by omega:2*h-o≠0)
 have k:=Int.emod_lt_of_pos (-(a-2*h)) b;unfold Zo;generalize-(a-2*h)/(2*h-o)=t at*;generalize-(a-2*h)%(2*h-o)=r at*;have d:(1+ -t-1)*(2*h-o)= -((2*h-o)*t):=by rw[show(1+ -t-1)= -t from by omega,Int.neg_mul,Int.mul_comm]
 have f:(1+ -t-2)*(2*h-o)= -((2*h-o)*t)-(2*h-o):=by rw[show(1+ -t-2)= -t-1 from by omega,Int.sub_mul,Int.neg_mul,Int.mul_comm,Int.one_mul]
 have l:t<0:=by
  rcases Eg t 0 with c|c
  ·exact c
  ·have:=Du (Int.le_of_lt b) c;omega
 rw[d,f];omega
theorem ei {a h o:Int} (j: ¬a<=2*h) (k: ¬2*h<=o) {n:Nat} (l:Zo a h o=(n:Int)):(Zl h (2*h-o) n).set (n-1) (a-h)=Vh a h (2*h-o) n:=by
 obtain⟨d,f,g⟩:=Vi j k;rw[l] at d f g;have m:0<=2*h-o:=Aa
 apply List.ext_getElem?
 intro i;rw[List.getElem?_set];unfold Zl Vh;rw[List.getElem?_map,List.getElem?_map,List.length_map,List.length_range];rcases Nat.lt_or_ge i n with hi|hi
 ·rw[List.getElem?_range hi]
  split
  ·next c=>
   subst c;rw[AA Aa];simp only[Option.map_some];rw[show((n-1:Nat):Int)=(n:Int)-1 from by omega,Int.min_eq_right Aa]
  ·next c=>
   have:=ME (a:=(i:Int)) (b:=(n:Int)-2) Aa m;simp only[Option.map_some];rw[Int.min_eq_left Aa]
 ·rw[List.getElem?_eq_none (by simpa using hi)]
  split
  ·rw[Ak Aa];rfl
  ·rfl
theorem Zp (a h o:Int):(evQ a h o).length<=60∧ ∀x∈evQ a h o,-9223372036854775808<x∧x<=9223372036854775807:=by
 unfold evQ
 split
 ·next hc=>
  have c:SE a h o=true:=by
   unfold evC at hc;rcases jt (SE a h o) with k|k
   ·exact k
   ·rw[AA k] at hc;cases hc
  unfold SE at c;rw[CD,CD] at c;have j:=Ac c.1;have l:=Ac c.2.1;have m:=Ac c.2.2
  split
  ·exact⟨by simp,λx d=>by rw[DD] at d;omega⟩
  ·next h1=>
   have g:Zo a h o<=60:=by
    unfold evC at hc;rw[Ak (by unfold SE;rw[c.1,c.2.1,c.2.2];decide),Ak h1] at hc
    split at hc
    ·cases hc
    ·split at hc
     ·cases hc
     ·omega
   have f: ¬2*h<=o:=λk=>by
    unfold evC at hc;rw[Ak (by unfold SE;rw[c.1,c.2.1,c.2.2];decide),Ak h1,AA k] at hc
    cases hc
   refine⟨by unfold Vh;rw[List.length_map,List.length_range];omega,λx d=> ?_⟩
   unfold Vh at d;rw[List.mem_map] at d;obtain⟨i,hi,rfl⟩:=d;rw[Eo] at hi;have:=ME (a:=(i:Int)) (b:=60) Aa (by omega:0<=2*h-o)
   have:=Du (a:=(i:Int)) Aa (by omega:0<=2*h-o)
   omega
 ·exact⟨by simp,λx d=>by cases d⟩
def Ny (a h o:Int) (w:World) (e:Ending) (w':World):Prop:=
 ∃A n c,e=.returned (.tuple (Gb A n c (evC a h o)))∧Rd w' A n (ints (evQ a h o))∧Below w w w'
theorem DH {a h o c:Int} {w w':World} (d:evC a h o=c) (f:c≠0) (b:Below w w w'):Ny a h o w (.returned (.tuple (Gb none 0 0 c))) w':=
 ⟨none,0,0,by rw[d],by rw[show evQ a h o= [] from Ak (by rw[d];exact f)];exact Rd.nil _ _,b⟩
theorem QC {a h o:Int} {w w':World} {A:Option Addr} {c:Nat} (g:SE a h o=true) (d:a<=2*h) (r:Rd w' A 1 (ints [h])) (b:Below w w w'):Ny a h o w (.returned (.tuple (Gb A 1 c 0))) w':=by
 have f:evC a h o=0:=by unfold evC;rw[Ak (by rw[g];decide),AA d]
 exact⟨A,1,c,by rw[f],by unfold evQ;rw[AA f,AA d];exact r,b⟩
theorem OC {a h o:Int} {w w':World} {A:Option Addr} {n c:Nat} (i:SE a h o=true) (d: ¬a<=2*h) (g: ¬2*h<=o) (j:Zo a h o=(n:Int)) (k:n<=60) (r:Rd w' A n (ints (Vh a h (2*h-o) n))) (b:Below w w w'):Ny a h o w (.returned (.tuple (Gb A n c 0))) w':=by
 have f:evC a h o=0:=by unfold evC;rw[Ak (by rw[i];decide),Ak d,Ak g,Ak Aa]
 exact⟨A,n,c,by rw[f],by unfold evQ;rw[AA f,Ak d,j];exact r,b⟩
theorem Mk (x:Int) (w:World):(GK 195 #[ZI x] w (.bool (inR x 1 10000)):Prop):=by
 go_enter func195,ntmps195
 go_wp2_with (go_at_call 73;refine(As _ _ _ _).mono ?_;rintro e a ⟨rfl,rfl⟩)
 go_ret;exact⟨rfl,rfl⟩
theorem RA (x:Int) (w:World):(GK 166 #[ZI x] w (.bool (inR x 1 10000)):Prop):=by
 go_enter func166,ntmps166
 go_wp2_with (go_at_call 84;refine(Ay _ _ _ _).mono ?_;rintro e a ⟨rfl,rfl⟩)
 go_ret;exact⟨rfl,rfl⟩
theorem Qd (x lo hi:Int):BV [x] lo hi=inR x lo hi:=by unfold BV;simp
theorem L5 (a h o:Int) (w:World):Calls prog 129 (Ziii a h o) w (Ny a h o w):=by
 have g:=λW=>RA a W;have j:=λW=>Ay h 1 10000 W;have l:=λW=>Ay o 0 10000 W;rcases jt (inR a 1 10000) with h1|h1
 rotate_left
 ·have p:Hid (evC a h o=2):=AA (by unfold SE;rw[h1];rfl)
  rw[h1] at g;clear j l
  go_enter func129,ntmps129
  go_wp2_with (go_at_call 166;refine(g _).mono ?_;rintro e d ⟨rfl,rfl⟩)
  refine AS (v:=.tuple (Gb none 0 0 2)) (by simp[results,results129,go_sem]) rfl ?_
  exact DH p.out Ah G6
 rcases jt (inR h 1 10000) with h2|h2
 rotate_left
 ·have p:Hid (evC a h o=2):=AA (by unfold SE;rw[h1,h2];rfl)
  rw[h1] at g;rw[h2] at j;clear l
  go_enter func129,ntmps129
  go_wp2_with (first|(go_at_call 166;refine(g _).mono ?_;rintro e d ⟨rfl,rfl⟩)|(go_at_call 84;(with_reducible refine(j _).mono ?_);rintro e d ⟨rfl,rfl⟩))
  refine AS (v:=.tuple (Gb none 0 0 2)) (by simp[results,results129,go_sem]) rfl ?_
  exact DH p.out Ah G6
 rcases jt (inR o 0 10000) with h3|h3
 rotate_left
 ·have p:Hid (evC a h o=2):=AA (by unfold SE;rw[h1,h2,h3];rfl)
  rw[h1] at g;rw[h2] at j;rw[h3] at l
  go_enter func129,ntmps129
  go_wp2_with (first|(go_at_call 166;refine(g _).mono ?_;rintro e d ⟨rfl,rfl⟩)|(go_at_call 84;(with_reducible refine(j _).mono ?_);rintro e d ⟨rfl,rfl⟩)|(go_at_call 84;(with_reducible refine(l _).mono ?_);rintro e d ⟨rfl,rfl⟩))
  refine AS (v:=.tuple (Gb none 0 0 2)) (by simp[results,results129,go_sem]) rfl ?_
  exact DH p.out Ah G6
 have i1:=Ac h1;have i2:=Ac h2;have i3:=Ac h3;have F:Hid (SE a h o=true):=by unfold Hid SE;rw[h1,h2,h3];rfl
 rw[h1] at g;rw[h2] at j;rw[h3] at l;clear h1 h2 h3;have u1:=Bg (2*h)
 by_cases E:a<=2*h
 ·go_enter func129,ntmps129
  go_wp2_with (first|(go_at_call 166;refine(g _).mono ?_;rintro e d ⟨rfl,rfl⟩)|(go_at_call 84;(with_reducible refine(j _).mono ?_);rintro e d ⟨rfl,rfl⟩)|(go_at_call 84;(with_reducible refine(l _).mono ?_);rintro e d ⟨rfl,rfl⟩))
  refine AS (v:=.tuple (Gb (some ⟨w,0,none⟩) 1 1 0)) (by simp[results,results129,go_sem]) rfl ?_
  exact QC F.out E (BD _ _ _) Ax
 by_cases I:2*h<=o
 ·have p:Hid (evC a h o=5):=by unfold Hid evC;rw[Ak (by rw[F.out];decide),Ak E,AA I]
  go_enter func129,ntmps129
  go_wp2_with (first|(go_at_call 166;refine(g _).mono ?_;rintro e d ⟨rfl,rfl⟩)|(go_at_call 84;(with_reducible refine(j _).mono ?_);rintro e d ⟨rfl,rfl⟩)|(go_at_call 84;(with_reducible refine(l _).mono ?_);rintro e d ⟨rfl,rfl⟩))
  refine AS (v:=.tuple (Gb none 0 0 5)) (by simp[results,results129,go_sem]) rfl ?_
  exact DH p.out Ah G6
 have X:=Ai (And.intro E I);have r:=λW=>EB (a-2*h) (2*h-o) W Aa Aa Aa Aa;have u2:=Bg (2*h-o);have u3:=Bg (a-2*h);have u4:=Bg (a-h);have m:=Vi E I;have f:Hid (Zo a h o=1+ -(-(a-2*h)/(2*h-o))):=rfl
 have S: -(-(a-2*h)/(2*h-o))<=10000:=by
  have:=m.2.2;rw[f.out] at this m;generalize-(-(a-2*h)/(2*h-o))=q at*;rcases Eg 10000 q with c|c
  ·have:=Gq (a:=(1:Int)) (b:=2*h-o) (c:=1+q-2) Aa Aa;omega
  ·exact c
 have R:1<= -(-(a-2*h)/(2*h-o)):=by have:=m.1;rw[f.out] at this;omega
 clear m;obtain⟨q,hq⟩: ∃q,-(-(a-2*h)/(2*h-o))=q:=⟨_,rfl⟩;rw[hq] at r f S R;clear hq;have u5:=Bg (1+q)
 by_cases q3:60<1+q
 ·have p:Hid (evC a h o=3):=by unfold Hid evC;rw[Ak (by rw[F.out];decide),Ak E,Ak I,f.out,AA q3]
  go_enter func129,ntmps129
  go_wp2_with (first|(go_at_call 166;refine(g _).mono ?_;rintro e d ⟨rfl,rfl⟩)|(go_at_call 84;(with_reducible refine(j _).mono ?_);rintro e d ⟨rfl,rfl⟩)|(go_at_call 84;(with_reducible refine(l _).mono ?_);rintro e d ⟨rfl,rfl⟩)|(go_at_call 167;refine(r _).mono ?_;rintro e d ⟨rfl,rfl⟩))
  refine AS (v:=.tuple (Gb none 0 0 3)) (by simp[results,results129,go_sem]) rfl ?_
  exact DH p.out Ah G6
 obtain⟨n,hn⟩: ∃n:Nat,1+q=(n:Int):=⟨(1+q).toNat,by omega⟩
 rw[hn] at f u5;have D:n<=60:=Aa;obtain⟨s,H⟩: ∃s,2*h-o=s:=⟨_,rfl⟩;have au:0<s∧s<=20000:=Aa;have HS:=Ai H;rw[H] at r;replace u2:IntKind.i64.wrap (2*h-o)=s:=u2.trans H;clear H;obtain rfl:q=(n:Int)-1:=Aa;have u6:IntKind.i64.wrap (1+((n:Int)-1))=(n:Int):=by rw[show 1+((n:Int)-1)=n from by omega];exact u5
 clear hn
 go_enter func129,ntmps129
 go_upto_region 13 with(first|(go_at_call 166;refine(g _).mono ?_;rintro e d ⟨rfl,rfl⟩)|(go_at_call 84;(with_reducible refine(j _).mono ?_);rintro e d ⟨rfl,rfl⟩)|(go_at_call 84;(with_reducible refine(l _).mono ?_);rintro e d ⟨rfl,rfl⟩)|(go_at_call 167;refine(r _).mono ?_;rintro e d ⟨rfl,rfl⟩))
 generalize hG:w.alloc _=w1;obtain⟨_,b0,hS⟩:=bJ hG;clear hG;have T:w<=w1.heap.size:=Aa;have Y:AR w1 w.heap.size 1 ⟨some ⟨w,0,none⟩,0,0⟩ (ints []):=AR.empty _ _ _ _;clear hS;generalize(some (⟨w,0,none⟩:Addr))=PA at*
 go_wp2_with fail
 go_loopw [10,11] (λt i wr=> ∃(k:Nat) (G:Hd),k<=n∧t=.slice G.A G.n G.c∧i=.int .i64 k∧AR wr w.heap.size 1 G (ints (Vh a h s k))∧Below w w wr) (λ_ i _=>n-(intOf i).toNat)
 case atStart=>exact⟨0,⟨PA,0,0⟩,AZ _,rfl,rfl,Y,b0⟩
 case round=>
  clear Y b0 T g j l r;obtain⟨k,⟨J,dn,L⟩,hk,rfl,rfl,O,B⟩:=hrel
  by_cases ar:k<n
  ·have x:(k:Int)<(n:Int):=Aa;have u:dn=k:=by have h:=O.len;unfold ints Vh at h;simp at h;omega
   have N:dn+1<=1099511627776:=Aa;have m1:=ME (a:=(k:Int)) (b:=60) (c:=s) Aa Aa;have m2:=Du (a:=(k:Int)) (b:=s) Aa Aa;have v1:=Bg ((k:Int)*s);have v2:=Bg (h+(k:Int)*s);have K:=Ai (Zn a h s k);have y: ∃z,min (h+(k:Int)*s) (a-h)=z:=⟨_,rfl⟩;obtain⟨z,T⟩:=y;have R1:Rd (wr.alloc (.cells #[ZI z] 2)) (some ⟨wr,0,none⟩) (1*1) (ints [z]):=BD _ _ _;have Z:AR (wr.alloc (.cells #[ZI z] 2)) w.heap.size 1 ⟨J,dn,L⟩ (ints (Vh a h s k)):=O.below BU;have av:=B.size;have V:Below w w (wr.alloc (.cells #[ZI z] 2)):=Ax;have Q:w<=(wr.alloc (.cells #[ZI z] 2)).heap.size:=Bq
   go_wp2_with (at_builtin;refine Aj rfl _ _ 28 rfl 2 1 8 underlying28 AJ Ah w.heap.size ⟨J,dn,L⟩ _ rfl Z _ 1 1 (ints [z]) rfl R1 (Ao _) N Ah Q ?_;intro G1 ax C U M ac;have ak:=Ai C;clear C)
   have D2:=V.grown M V.size (λb e=>(Z.rowlt _ e).1);have eL:ints (Vh a h s (k+1))=ints (Vh a h s k)++ints [z]:=by rw[K.out,T];unfold ints;simp
   go_roundw
   case rel=>exact⟨k+1,G1,by omega,rfl,by go_num,by rw[eL];exact U,D2⟩
   case measure=>simp[intOf];omega
  ·obtain rfl:n=k:=Aa;have x: ¬(n:Int)<(n:Int):=Aa;have u:n=dn:=by have h:=O.len;unfold ints Vh at h;simp at h;omega
   subst u;have HR:=Ai O.rd1;go_wp2;refine AS (v:=.tuple (Gb J n L 0)) (by simp[results,results129,go_sem]) rfl ?_
   refine OC (n:=n) F.out (Int.not_le.2 X.out.1) (Int.not_le.2 X.out.2) f.out D (by rw[HS.out];exact HR.out) B
theorem LM (a h o:Int) (w:World):Calls prog 147 (Ziii a h o) w (Ny a h o w):=by
 have g:=λW=>Mk a W;have j:=λW=>Mk h W;have m:=λ(A:Option Addr) (W:World) (r:Rd W A 1 (ints [o]))=>Ir A 1 1 [o] W Aa r;rcases jt (inR a 1 10000) with h1|h1
 rotate_left
 ·have x:Hid (evC a h o=2):=AA (by unfold SE;rw[h1];rfl)
  rw[h1] at g;clear j m
  go_enter func147,ntmps147
  go_wp2_with (go_at_call 195;(with_reducible refine(g _).mono ?_);rintro e d ⟨rfl,rfl⟩)
  refine AS (v:=.tuple (Gb none 0 0 2)) (by simp[results,results147,go_sem]) rfl ?_
  exact DH x.out Ah G6
 rcases jt (inR h 1 10000) with h2|h2
 rotate_left
 ·have x:Hid (evC a h o=2):=AA (by unfold SE;rw[h1,h2];rfl)
  rw[h1] at g;rw[h2] at j;clear m
  go_enter func147,ntmps147
  go_wp2_with (first|(go_at_call 195;(with_reducible refine(g _).mono ?_);rintro e d ⟨rfl,rfl⟩)|(go_at_call 195;(with_reducible refine(j _).mono ?_);rintro e d ⟨rfl,rfl⟩))
  refine AS (v:=.tuple (Gb none 0 0 2)) (by simp[results,results147,go_sem]) rfl ?_
  exact DH x.out Ah G6
 rcases jt (inR o 0 10000) with h3|h3
 rotate_left
 ·have x:Hid (evC a h o=2):=AA (by unfold SE;rw[h1,h2,h3];rfl)
  rw[h1] at g;rw[h2] at j;rw[Qd,h3] at m
  go_enter func147,ntmps147
  go_wp2_with (first|(go_at_call 195;(with_reducible refine(g _).mono ?_);rintro e d ⟨rfl,rfl⟩)|(go_at_call 195;(with_reducible refine(j _).mono ?_);rintro e d ⟨rfl,rfl⟩)|(go_at_call 153;refine(m _ _ (BD _ _ _)).mono ?_;rintro e d ⟨rfl,rfl⟩))
  refine AS (v:=.tuple (Gb none 0 0 2)) (by simp[results,results147,go_sem]) rfl ?_
  exact DH x.out Ah Ax
 have i1:=Ac h1;have i2:=Ac h2;have i3:=Ac h3;have K:Hid (SE a h o=true):=by unfold Hid SE;rw[h1,h2,h3];rfl
 rw[h1] at g;rw[h2] at j;rw[Qd,h3] at m;clear h1 h2 h3;have u1:=Bg (2*h)
 by_cases I:a<=2*h
 ·go_enter func147,ntmps147
  go_wp2_with (first|(go_at_call 195;(with_reducible refine(g _).mono ?_);rintro e d ⟨rfl,rfl⟩)|(go_at_call 195;(with_reducible refine(j _).mono ?_);rintro e d ⟨rfl,rfl⟩)|(go_at_call 153;refine(m _ _ (BD _ _ _)).mono ?_;rintro e d ⟨rfl,rfl⟩))
  refine AS (v:=.tuple (Gb (some ⟨w+1,0,none⟩) 1 1 0)) (by simp[results,results147,go_sem]) rfl ?_
  exact QC K.out I (by have r:=BD (w.alloc (.cells #[ZI o] 2)) h 2;rw[show(w.alloc (.cells #[ZI o] 2)).heap.size=w.heap.size+1 from by simp] at r;exact r) Ax
 by_cases N:2*h<=o
 ·have x:Hid (evC a h o=5):=by unfold Hid evC;rw[Ak (by rw[K.out];decide),Ak I,AA N]
  go_enter func147,ntmps147
  go_wp2_with (first|(go_at_call 195;(with_reducible refine(g _).mono ?_);rintro e d ⟨rfl,rfl⟩)|(go_at_call 195;(with_reducible refine(j _).mono ?_);rintro e d ⟨rfl,rfl⟩)|(go_at_call 153;refine(m _ _ (BD _ _ _)).mono ?_;rintro e d ⟨rfl,rfl⟩))
  refine AS (v:=.tuple (Gb none 0 0 5)) (by simp[results,results147,go_sem]) rfl ?_
  exact DH x.out Ah Ax
 have J:=Ai (And.intro I N);have C:=λW=>Ex (a-2*h) (2*h-o) W Aa Aa Aa Aa;have u2:=Bg (2*h-o);have u3:=Bg (a-2*h);have u4:=Bg (a-h);have u:=Vi I N;have f:Hid (Zo a h o=1+ -(-(a-2*h)/(2*h-o))):=rfl
 have Y: -(-(a-2*h)/(2*h-o))<=10000:=by
  have:=u.2.2;rw[f.out] at this u;generalize-(-(a-2*h)/(2*h-o))=q at*;rcases Eg 10000 q with c|c
  ·have:=Gq (a:=(1:Int)) (b:=2*h-o) (c:=1+q-2) Aa Aa;omega
  ·exact c
 have X:1<= -(-(a-2*h)/(2*h-o)):=by have:=u.1;rw[f.out] at this;omega
 clear u;obtain⟨q,hq⟩: ∃q,-(-(a-2*h)/(2*h-o))=q:=⟨_,rfl⟩;rw[hq] at C f Y X;clear hq;have u5:=Bg (1+q)
 by_cases q3:60<1+q
 ·have x:Hid (evC a h o=3):=by unfold Hid evC;rw[Ak (by rw[K.out];decide),Ak I,Ak N,f.out,AA q3]
  go_enter func147,ntmps147
  go_wp2_with (first|(go_at_call 195;(with_reducible refine(g _).mono ?_);rintro e d ⟨rfl,rfl⟩)|(go_at_call 195;(with_reducible refine(j _).mono ?_);rintro e d ⟨rfl,rfl⟩)|(go_at_call 153;refine(m _ _ (BD _ _ _)).mono ?_;rintro e d ⟨rfl,rfl⟩)|(go_at_call 196;refine(C _).mono ?_;rintro e d ⟨rfl,rfl⟩))
  refine AS (v:=.tuple (Gb none 0 0 3)) (by simp[results,results147,go_sem]) rfl ?_
  exact DH x.out Ah Ax
 obtain⟨n,hn⟩: ∃n:Nat,1+q=(n:Int):=⟨(1+q).toNat,by omega⟩
 rw[hn] at f u5;have H:n<=60:=Aa;obtain⟨s,M⟩: ∃s,2*h-o=s:=⟨_,rfl⟩;have az:0<s∧s<=20000:=Aa;have HS:=Ai M;rw[M] at C;replace u2:IntKind.i64.wrap (2*h-o)=s:=u2.trans M;clear M;obtain rfl:q=(n:Int)-1:=Aa;have u6:IntKind.i64.wrap (1+((n:Int)-1))=(n:Int):=by rw[show 1+((n:Int)-1)=n from by omega];exact u5
 clear hn
 go_enter func147,ntmps147
 go_upto_region 13 with(first|(go_at_call 195;(with_reducible refine(g _).mono ?_);rintro e d ⟨rfl,rfl⟩)|(go_at_call 195;(with_reducible refine(j _).mono ?_);rintro e d ⟨rfl,rfl⟩)|(go_at_call 153;refine(m _ _ (BD _ _ _)).mono ?_;rintro e d ⟨rfl,rfl⟩)|(go_at_call 196;refine(C _).mono ?_;rintro e d ⟨rfl,rfl⟩))
 generalize hG:w.alloc _=w1;obtain⟨_,b0⟩:=EX hG;clear hG;have O0:AR w1 w.heap.size 1 ⟨none,0,0⟩ (ints []):=AR.nil _ _ _
 go_wp2_with fail
 go_loopw [10,53] (λt i wr=> ∃(k:Nat) (L:Hd),k<=n∧t=.slice L.A L.n L.c∧i=.int .i64 k∧AR wr w.heap.size 1 L (ints (Zl h s k))∧Below w w wr) (λ_ i _=>n-(intOf i).toNat)
 case atStart=>exact⟨0,⟨none,0,0⟩,AZ _,rfl,rfl,O0,b0⟩
 case round=>
  clear O0 b0 g j m C;obtain⟨k,⟨DA,dn,R⟩,hk,rfl,rfl,O,B⟩:=hrel
  by_cases ay:k<n
  ·have F:(k:Int)<(n:Int):=Aa;have D:dn=k:=by have h:=O.len;unfold ints Zl at h;simp at h;omega
   have T:dn+1<=1099511627776:=Aa;have m1:=ME (a:=(k:Int)) (b:=60) (c:=s) Aa Aa;have m2:=Du (a:=(k:Int)) (b:=s) Aa Aa;have v1:=Bg ((k:Int)*s);have v2:=Bg (h+(k:Int)*s);have Q:=Ai (Zm h s k);have G: ∃z,h+(k:Int)*s=z:=⟨_,rfl⟩;obtain⟨z,hz⟩:=G;have R1:Rd (wr.alloc (.cells #[ZI z] 2)) (some ⟨wr,0,none⟩) (1*1) (ints [z]):=BD _ _ _;have O1:AR (wr.alloc (.cells #[ZI z] 2)) w.heap.size 1 ⟨DA,dn,R⟩ (ints (Zl h s k)):=O.below BU;have aA:=B.size;have D1:Below w w (wr.alloc (.cells #[ZI z] 2)):=Ax;have U:w<=(wr.alloc (.cells #[ZI z] 2)).heap.size:=Bq;replace v2:=v2.trans hz
   go_wp2_with (at_builtin;refine Aj rfl _ _ 28 rfl 2 1 8 underlying28 AJ Ah w.heap.size ⟨DA,dn,R⟩ _ rfl O1 _ 1 1 (ints [z]) rfl R1 (Ao _) T Ah U ?_;intro G1 aD y Z S aj;have au:=Ai y;clear y)
   have D2:=D1.grown S D1.size (λb e=>(O1.rowlt _ e).1);have eL:ints (Zl h s (k+1))=ints (Zl h s k)++ints [z]:=by rw[Q.out,hz];unfold ints;simp
   go_roundw
   case rel=>exact⟨k+1,G1,by omega,rfl,by go_num,by rw[eL];exact Z,D2⟩
   case measure=>simp[intOf];omega
  ·obtain rfl:n=k:=Aa;have F: ¬(n:Int)<(n:Int):=Aa;have D:n=dn:=by have h:=O.len;unfold ints Zl at h;simp at h;omega
   subst D;have l:(n:Int)-1=((n-1:Nat):Int):=Aa;obtain⟨ad,hA,hx,hf⟩:=O.cell (k:=n-1) Aw;simp only at hA;subst hA;have O2:=Ai (O.set_ (k:=n-1) (ad:=ad) Aw rfl (a-h));have V:w<=ad.block:=show w.heap.size<=ad.block from O.lowA ad rfl Aw;have u7:IntKind.i64.wrap ((n:Int)-1)=((n-1:Nat):Int):=by rw[l];exact Ff _ Aa
   have y:n-1<n:=Aa;clear l O;go_wp2;refine AS (v:=.tuple (Gb (some ad) n R 0)) (by simp[results,results147,go_sem]) rfl ?_
   have E:=ei (n:=n) (Int.not_le.2 J.out.1) (Int.not_le.2 J.out.2) f.out;rw[HS.out] at E;refine OC (n:=n) K.out (Int.not_le.2 J.out.1) (Int.not_le.2 J.out.2) f.out H (by rw[HS.out,<-E];exact O2.out.rd1) (B.setCell (p:=ad.add (n-1)) (by rw[Aq];exact V) _)
def Pd (n a m:Int):Bool:=(inR n 0 12 && inR a 0 16) && inR m 0 (n+1)
theorem Ry (n a:Int) (w:World):(GK 164 (Zii n a) w (.bool (inR n 0 12 && inR a 0 16)):Prop):=by
 have c:=λW=>Ay n 0 12 W;have d:=λW=>Ay a 0 16 W;rcases jt (inR n 0 12) with h1|h1
 all_goals
  rw[h1] at c;rw[h1];clear h1;generalize inR a 0 16=b at*
  go_enter func164,ntmps164
  go_wp2_with (first|(go_at_call 84;(with_reducible refine(c _).mono ?_);rintro e f ⟨rfl,rfl⟩)|(go_at_call 84;(with_reducible refine(d _).mono ?_);rintro e f ⟨rfl,rfl⟩))
  go_ret;exact⟨rfl,rfl⟩
theorem Rx {a:Int} (d:0<=a) (f:a<=16): ∀(n:Nat) (_:n<=12) (k:Int) (_: -100<=k) (_:k<=100) (w:World),
  (GK 209 (Ziii n a k) w (ZI (exN a n k)):Prop):=by
 intro n
 induction n with
 |zero=>
  intro _ k A k2 w
  by_cases g:k<0
  ·have b:Hid (exN a 0 k=0):=Fv (Or.inl g)
   go_enter func209,ntmps209
   go_wp2;go_ret;exact⟨by rw[b.out];rfl,rfl⟩
  by_cases c:0<k
  ·have b:Hid (exN a 0 k=0):=Fv (Or.inr c)
   go_enter func209,ntmps209
   go_wp2;go_ret;exact⟨by rw[b.out];rfl,rfl⟩
  have i:k=0:=Aa;subst i;have b:Hid (exN a 0 0=1):=rfl
  go_enter func209,ntmps209
  go_wp2;go_ret;exact⟨by rw[b.out];rfl,rfl⟩
 |succ n ih=>
  intro C k A k2 w;have j:((n+1:Nat):Int)=(n:Int)+1:=Aa;rw[j];clear j
  by_cases g:k<0
  ·have b:Hid (exN a (n+1) k=0):=Fv (Or.inl g);clear ih
   go_enter func209,ntmps209
   go_wp2;go_ret;exact⟨by rw[b.out];rfl,rfl⟩
  by_cases c:(n:Int)+1<k
  ·have b:Hid (exN a (n+1) k=0):=Fv (Or.inr Aa);clear ih
   go_enter func209,ntmps209
   go_wp2;go_ret;exact⟨by rw[b.out];rfl,rfl⟩
  have b:Hid (exN a (n+1) k=a*exN a n (k-1)+(16-a)*exN a n k):=Ak Aa;have m:=λW=>ih Aa (k-1) Aa Aa W;have r:=λW=>ih Aa k Aa Aa W;clear ih;have p:=LH d f n (k-1);have q:=LH d f n k;have l:=Er (show n<=12 by omega)
  rw[show(16:Int) ^ 12=281474976710656 from by decide] at l
  generalize exN a n (k-1)=x at*;generalize exN a n k=y at*;generalize(16:Int) ^ n=z at*;have s:=Du d p.1;have t:=Du (show 0<=16-a by omega) q.1
  have u:=ME f p.1;have v:=ME (show 16-a<=16 by omega) q.1
  have D:=Bg (a*x);have E:=Bg ((16-a)*y);have F:=Bg (a*x+(16-a)*y);have G:IntKind.i64.wrap ((n:Int)+1-1)=(n:Int):=by rw[show(n:Int)+1-1=n by omega];exact Ff _ Aa
  have H:=Bg (k-1);have I:=Bg (16-a);clear s t u v p q l
  go_enter func209,ntmps209
  go_wp2_with fail
  refine(m _).mono ?_;rintro e B ⟨rfl,rfl⟩
  go_wp2_with fail
  refine(r _).mono ?_;rintro e B ⟨rfl,rfl⟩;go_wp2;go_ret;exact⟨by rw[b.out];rfl,rfl⟩
theorem TI {a:Int} (f:0<=a) (g:a<=16) (n m:Nat) (v:n<=12) (B:m<=n+1) (w:World):
  (GK 165 (Ziii n a m) w (ZI (exS a n m (n+1-m))):Prop):=by
 have c:=λ(k:Nat) (h:k<=n) (W:World)=>Rx f g n v (m+k:Int) Aa Aa W
 go_enter func165,ntmps165
 go_wp2_with fail
 go_loopw [7,8] (λt i wr=> ∃k:Nat,k<=n+1-m∧i=.int .i64 ((m:Int)+k)∧t=.int .i64 (exS a n m k)∧w=wr) (λ_ i _=>n+1-(intOf i).toNat)
 case atStart=>exact⟨0,AZ _,by simp,by unfold exS;rfl,rfl⟩
 case round=>
  obtain⟨k,A,rfl,rfl,rfl⟩:=hrel
  by_cases u:k<n+1-m
  ·have b:(m:Int)+k<=(n:Int):=Aa;have d:=c k Aa w;have s:=Ai (Te a n m k);have p:=LH f g n (m+k:Int);have q:=Vj f g n m k;have l:=Er (show n<=12 by omega)
   rw[show(16:Int) ^ 12=281474976710656 from by decide] at l
   have r:(0:Int)<=16 ^ n:=Int.pow_nonneg Ah;have j:=ME (show(k:Int)<=13 by omega) r
   generalize exN a n (m+k:Int)=x at*;generalize exS a n m k=y at*;generalize(16:Int) ^ n=z at*;have C:=Bg (y+x);have D:IntKind.i64.wrap ((m:Int)+k+1)=(m:Int)+((k+1:Nat):Int):=by rw[show(m:Int)+((k+1:Nat):Int)=(m:Int)+k+1 by omega];exact Ff _ Aa
   clear p q l r j c
   go_wp2_with fail
   refine d.mono ?_;rintro e E ⟨rfl,rfl⟩;go_wp2
   go_roundw
   case rel=>exact⟨k+1,by omega,by first|rfl|(congr 1;omega)|go_num,by rw[s.out],by first|trivial|rfl⟩
   case measure=>simp[intOf];omega
  ·obtain rfl:k=n+1-m:=Aa;have b: ¬(m:Int)+((n+1-m:Nat):Int)<=(n:Int):=Aa;clear c;go_wp2;go_ret;exact⟨rfl,by first|trivial|rfl⟩
def fg (n a m:Int):Int:=if Pd n a m=true then exS a n.toNat m (n.toNat+1-m.toNat) else 0
def tcC (n a m:Int):Int:=if Pd n a m=true then 0 else 2
theorem Ll (n a m:Int) (w:World):(GK 128 (Ziii n a m) w (.tuple (Zii (fg n a m) (tcC n a m))):Prop):=by
 have b:=λW=>Ry n a W;have d:=λW=>Ay m 0 (n+1) W;rcases jt (inR n 0 12 && inR a 0 16) with h1|h1
 rotate_left
 ·have hv:Hid (fg n a m=0∧tcC n a m=2):=⟨Ak (by unfold Pd;rw[h1];simp),Ak (by unfold Pd;rw[h1];simp)⟩
  rw[h1] at b
  go_enter func128,ntmps128
  go_wp2_with (go_at_call 164;refine(b _).mono ?_;rintro e c ⟨rfl,rfl⟩)
  refine AS (v:=.tuple (Zii 0 2)) (by simp[results,results128,go_sem]) rfl ?_
  exact⟨by rw[hv.out.1,hv.out.2],rfl⟩
 have i:=Ac (CD .. ▸h1:_∧_).1;have f:=Ac (CD .. ▸h1:_∧_).2;have k:=Bg (n+1);rcases jt (inR m 0 (n+1)) with h2|h2
 rotate_left
 ·have hv:Hid (fg n a m=0∧tcC n a m=2):=⟨Ak (by unfold Pd;rw[h1,h2];decide),Ak (by unfold Pd;rw[h1,h2];decide)⟩
  rw[h1] at b;rw[h2] at d;clear h1 h2
  go_enter func128,ntmps128
  go_wp2_with (first|(go_at_call 164;refine(b _).mono ?_;rintro e c ⟨rfl,rfl⟩)|(go_at_call 84;refine(d _).mono ?_;rintro e c ⟨rfl,rfl⟩))
  refine AS (v:=.tuple (Zii 0 2)) (by simp[results,results128,go_sem]) rfl ?_
  exact⟨by rw[hv.out.1,hv.out.2],rfl⟩
 have j:=Ac h2;obtain⟨N,rfl⟩: ∃N:Nat,n=(N:Int):=⟨n.toNat,by omega⟩
 obtain⟨M,rfl⟩: ∃M:Nat,m=(M:Int):=⟨m.toNat,by omega⟩
 have hv:Hid (fg N a M=exS a N M (N+1-M)∧tcC N a M=0):=⟨(AA (by unfold Pd;rw[h1,h2];rfl)).trans Cr,AA (by unfold Pd;rw[h1,h2];rfl)⟩
 have g:=λW=>TI f.1 f.2 N M Aa Aa W;rw[h1] at b;rw[h2] at d;clear h1 h2
 go_enter func128,ntmps128
 go_wp2_with (first|(go_at_call 164;refine(b _).mono ?_;rintro e c ⟨rfl,rfl⟩)|(go_at_call 84;refine(d _).mono ?_;rintro e c ⟨rfl,rfl⟩)|(go_at_call 165;refine(g _).mono ?_;rintro e c ⟨rfl,rfl⟩))
 refine AS (v:=.tuple (Zii (exS a N M (N+1-M)) 0)) (by simp[results,results128,go_sem]) rfl ?_
 exact⟨by rw[hv.out.1,hv.out.2],rfl⟩
theorem Xy (x:Int) (n:Nat) (w:World) (I:0<=x) (J:x<=4096) (M:n<=12):
  Calls prog 294 (Zii x n) w λe D=> ∃h:Hd,e=.returned (.slice h.A h.n h.c)∧h.n=n∧AR D w.heap.size 1 h (ints (bitW n x))∧Below w w D:=by
 have q: ∀W:World,(Instr.makeSlice 28 (ZI n) (ZI n)).run prog W=.ok (.slice (some ⟨W,0,none⟩) n n) (W.alloc (.cells (madeCells #[ZI 0] n) 2)):=λW=>ER n Aa W;have t:Hid ((bitW n x).length=n):=NG n x;have p:AR (w.alloc (.cells (madeCells #[ZI 0] n) 2)) w.heap.size 1 ⟨some ⟨w,0,none⟩,n,n⟩ (ints (List.replicate n 0)):=AR.made Bk Aa _
 go_enter func294,ntmps294
 go_wp2;clear q;generalize u:w.alloc _=R at p⊢;obtain⟨_,r,E⟩:=bJ u;clear u;clear E
 go_loopw [11] (λi wr=> ∃k:Nat,k<=n∧i=.int .i64 k∧AR wr w.heap.size 1 ⟨some ⟨w,0,none⟩,n,n⟩ (ints (mix (bitW n x) (List.replicate n 0) k))∧Below w w wr) (λi _=>n-(intOf i).toNat)
 case atStart=>exact⟨0,AZ _,rfl,p,r⟩
 case round=>
  clear p r;obtain⟨k,K,rfl,O,d⟩:=hrel
  by_cases l:k<n
  ·obtain⟨ad,m,F,G⟩:=O.cell (show k<(⟨some ⟨w,0,none⟩,n,n⟩:Hd).n from l);simp only at m;injection m with m;subst m;have j:=Ai (cI (bitW n x) (List.replicate n 0) (by rw[t.out];simp) (k:=k) (by simpa using l))
   have g:=λv=>Ai (O.set_ (ad:=⟨w,0,none⟩) l rfl v);rw[CE] at F G;simp only[CE] at g;have f:(bitW n x).getD k 0=x/((2 ^ (n-1-k):Nat):Int)%2:=Ow _ l;rw[f] at j;clear f O;generalize mix (bitW n x) (List.replicate n 0) k=L at*;generalize L.getD k 0=y at*;have z:(k:Int)<(n:Int):=Aa;have N:=Bg ((n:Int)-1);obtain⟨s,B⟩: ∃s:Nat,n-1-k=s:=⟨_,rfl⟩;have Q:IntKind.i64.wrap ((n:Int)-1-k)=(s:Int):=by rw[show(n:Int)-1-k=s by omega];exact Ff _ Aa
   have C:s<=11:=Aa;rw[B] at j;clear B;rcases(show s=0∨s=1∨s=2∨s=3∨s=4∨s=5∨s=6∨s=7∨s=8∨s=9∨s=10∨s=11 by omega) with rfl|rfl|rfl|rfl|rfl|rfl|rfl|rfl|rfl|rfl|rfl|rfl
   ·have f:bits .and .i64 x 1=x%2:=Hv _;have a:=j.out;rw[show x/((2 ^ 0:Nat):Int)=x from by simp] at a
    have b:=Ai a;clear a;go_wp2
    go_roundw
    case rel=>exact⟨k+1,by omega,by go_num,by rw[<-b.out];exact(g _).out,d.setCell Bk _⟩
    case measure=>simp[intOf];omega
   ·have f:bits .and .i64 (x/2) 1=(x/2)%2:=Hv _;have a:=j.out;rw[show x/((2 ^ 1:Nat):Int)=x/2 from rfl] at a;have b:=Ai a;clear a;go_wp2
    go_roundw
    case rel=>exact⟨k+1,by omega,by go_num,by rw[<-b.out];exact(g _).out,d.setCell Bk _⟩
    case measure=>simp[intOf];omega
   ·have f:bits .and .i64 (x/4) 1=(x/4)%2:=Hv _;have a:=j.out;rw[show x/((2 ^ 2:Nat):Int)=x/4 from rfl] at a;have b:=Ai a;clear a;go_wp2
    go_roundw
    case rel=>exact⟨k+1,by omega,by go_num,by rw[<-b.out];exact(g _).out,d.setCell Bk _⟩
    case measure=>simp[intOf];omega
   ·have f:bits .and .i64 (x/8) 1=(x/8)%2:=Hv _;have a:=j.out;rw[show x/((2 ^ 3:Nat):Int)=x/8 from rfl] at a;have b:=Ai a;clear a;go_wp2
    go_roundw
    case rel=>exact⟨k+1,by omega,by go_num,by rw[<-b.out];exact(g _).out,d.setCell Bk _⟩
    case measure=>simp[intOf];omega
   ·have f:bits .and .i64 (x/16) 1=(x/16)%2:=Hv _;have a:=j.out;rw[show x/((2 ^ 4:Nat):Int)=x/16 from rfl] at a;have b:=Ai a;clear a;go_wp2
    go_roundw
    case rel=>exact⟨k+1,by omega,by go_num,by rw[<-b.out];exact(g _).out,d.setCell Bk _⟩
    case measure=>simp[intOf];omega
   ·have f:bits .and .i64 (x/32) 1=(x/32)%2:=Hv _;have a:=j.out;rw[show x/((2 ^ 5:Nat):Int)=x/32 from rfl] at a;have b:=Ai a;clear a;go_wp2
    go_roundw
    case rel=>exact⟨k+1,by omega,by go_num,by rw[<-b.out];exact(g _).out,d.setCell Bk _⟩
    case measure=>simp[intOf];omega
   ·have f:bits .and .i64 (x/64) 1=(x/64)%2:=Hv _;have a:=j.out;rw[show x/((2 ^ 6:Nat):Int)=x/64 from rfl] at a;have b:=Ai a;clear a;go_wp2
    go_roundw
    case rel=>exact⟨k+1,by omega,by go_num,by rw[<-b.out];exact(g _).out,d.setCell Bk _⟩
    case measure=>simp[intOf];omega
   ·have f:bits .and .i64 (x/128) 1=(x/128)%2:=Hv _;have a:=j.out;rw[show x/((2 ^ 7:Nat):Int)=x/128 from rfl] at a;have b:=Ai a;clear a;go_wp2
    go_roundw
    case rel=>exact⟨k+1,by omega,by go_num,by rw[<-b.out];exact(g _).out,d.setCell Bk _⟩
    case measure=>simp[intOf];omega
   ·have f:bits .and .i64 (x/256) 1=(x/256)%2:=Hv _;have a:=j.out;rw[show x/((2 ^ 8:Nat):Int)=x/256 from rfl] at a;have b:=Ai a;clear a;go_wp2
    go_roundw
    case rel=>exact⟨k+1,by omega,by go_num,by rw[<-b.out];exact(g _).out,d.setCell Bk _⟩
    case measure=>simp[intOf];omega
   ·have f:bits .and .i64 (x/512) 1=(x/512)%2:=Hv _;have a:=j.out;rw[show x/((2 ^ 9:Nat):Int)=x/512 from rfl] at a;have b:=Ai a;clear a;go_wp2
    go_roundw
    case rel=>exact⟨k+1,by omega,by go_num,by rw[<-b.out];exact(g _).out,d.setCell Bk _⟩
    case measure=>simp[intOf];omega
   ·have f:bits .and .i64 (x/1024) 1=(x/1024)%2:=Hv _;have a:=j.out;rw[show x/((2 ^ 10:Nat):Int)=x/1024 from rfl] at a;have b:=Ai a;clear a;go_wp2
    go_roundw
    case rel=>exact⟨k+1,by omega,by go_num,by rw[<-b.out];exact(g _).out,d.setCell Bk _⟩
    case measure=>simp[intOf];omega
   ·have f:bits .and .i64 (x/2048) 1=(x/2048)%2:=Hv _;have a:=j.out;rw[show x/((2 ^ 11:Nat):Int)=x/2048 from rfl] at a;have b:=Ai a;clear a;go_wp2
    go_roundw
    case rel=>exact⟨k+1,by omega,by go_num,by rw[<-b.out];exact(g _).out,d.setCell Bk _⟩
    case measure=>simp[intOf];omega
  ·obtain rfl:k=n:=Aa;have H:=t.out;rw[show mix (bitW k x) (List.replicate k 0) k=bitW k x from by have h:=cH (bitW k x) (List.replicate k 0) (by rw[H];simp);rwa [List.length_replicate] at h] at O
   have g:=Ai O;go_wp2;go_ret;exact⟨⟨some ⟨w,0,none⟩,k,k⟩,rfl,rfl,g.out,d⟩
theorem Yx (A:Option Addr) (n c:Nat) (xs:List Int) (w:World) (x:n<=12) (g:Rd w A n (ints xs)) (f:BV xs 0 1=true):
  (GK 244 #[.slice A n c] w (ZI xs.sum):Prop):=by
 have b:=Ai g.len
 go_enter func244,ntmps244
 go_wp2
 go_loopw [3,8] (λt i wr=> ∃k:Nat,k<=n∧i=.int .i64 k∧t=.int .i64 (xs.take k).sum∧w=wr) (λ_ i _=>n-(intOf i).toNat)
 case atStart=>exact⟨0,AZ _,rfl,rfl,rfl⟩
 case round=>
  obtain⟨k,u,rfl,rfl,rfl⟩:=hrel
  by_cases a:k<n
  ·obtain⟨s,rfl,B⟩:=g.int a;have d:(k:Int)<(n:Int):=Aa;have m:=EZ f (k:=k) (by rw[b.out];exact a)
   have p:=Ls (l:=xs.take k) (by unfold BV at f⊢;rw[List.all_eq_true] at f⊢;exact λv hv=>f v (List.mem_of_mem_take hv))
   have q:(xs.take k).length=k:=by rw[Ju,b.out];omega
   have j:Hid ((xs.take (k+1)).sum=(xs.take k).sum+xs.getD k 0):=by
    unfold Hid;rw[List.take_succ_eq_append_getElem (by rw[b.out];exact a),List.sum_append,CJ (by rw[b.out];exact a)];simp
   generalize xs.getD k 0=y at*;generalize(xs.take k).sum=z at*;have C:=Bg (z+y);clear m p q;go_wp2
   go_roundw
   case rel=>exact⟨k+1,by omega,by go_num,by rw[j.out],by first|trivial|rfl⟩
   case measure=>simp[intOf];omega
  ·obtain rfl:k=n:=Aa;have d: ¬(k:Int)<(k:Int):=Aa;have r:Hid (xs.take k=xs):=ED (by rw[b.out];exact Cp _)
   go_wp2;go_ret;exact⟨Bb (by rw[r.out]),by first|trivial|rfl⟩
theorem XB (A:Option Addr) (n c:Nat) (xs:List Int) (a:Int) (w:World) (F:n<=12) (r:Rd w A n (ints xs)) (l:0<=a) (m:a<=16):
  (GK 245 (Gb A n c a) w (ZI (casP a xs)):Prop):=by
 have g:=Ai r.len
 go_enter func245,ntmps245
 go_wp2
 go_loopw [5,10] (λt i wr=> ∃k:Nat,k<=n∧i=.int .i64 k∧t=.int .i64 (casP a (xs.take k))∧w=wr) (λ_ i _=>n-(intOf i).toNat)
 case atStart=>exact⟨0,AZ _,rfl,rfl,rfl⟩
 case round=>
  obtain⟨k,E,rfl,rfl,rfl⟩:=hrel
  by_cases b:k<n
  ·obtain⟨D,rfl,G⟩:=r.int b;have f:(k:Int)<(n:Int):=Aa;have d:=M7 l m (xs.take k);have p:(xs.take k).length=k:=by rw[Ju,g.out];omega
   rw[p] at d;have q:=Er (show k<=12 by omega)
   rw[show(16:Int) ^ 12=281474976710656 from by decide] at q
   have j:Hid (casP a (xs.take (k+1))=casP a (xs.take k)*(if xs.getD k 0=1 then a else 16-a)):=by
    unfold Hid;rw[List.take_succ_eq_append_getElem (by rw[g.out];exact b),SQ,CJ (by rw[g.out];exact b)]
   generalize xs.getD k 0=y at*;generalize casP a (xs.take k)=z at*;generalize(16:Int) ^ k=H at*;have v:=Gq m d.1;have x:=Du d.1 l;have B:=Gq (show 16-a<=16 by omega) d.1
   have C:=Du d.1 (show 0<=16-a by omega)
   have I:=Bg (z*a);have J:=Bg (z*(16-a));have K:=Bg (16-a);clear v x B C q p d
   by_cases s:y=1
   ·have HV:=j.out;rw[AA s] at HV;have HV:=Ai HV;clear j;go_wp2
    go_roundw
    case rel=>exact⟨k+1,by omega,by go_num,by rw[HV.out],by first|trivial|rfl⟩
    case measure=>simp[intOf];omega
   ·have HV:=j.out;rw[Ak s] at HV;have HV:=Ai HV;clear j;go_wp2
    go_roundw
    case rel=>exact⟨k+1,by omega,by go_num,by rw[HV.out],by first|trivial|rfl⟩
    case measure=>simp[intOf];omega
  ·obtain rfl:k=n:=Aa;have f: ¬(k:Int)<(k:Int):=Aa;have u:Hid (xs.take k=xs):=ED (by rw[g.out];exact Cp _)
   go_wp2;go_ret;exact⟨Bb (by rw[u.out]),by first|trivial|rfl⟩
theorem Wm (A:Option Addr) (n c:Nat) (xs:List Int) (a:Int) (L:List Int) (i:Addr) (ln D p m B:Nat) (w:World) (x:n<=12) (z:Rd w A n (ints xs)) (t:BV xs 0 1=true) (q:0<=a) (s:a<=16)
  (H:Blk w p 28 #[.slice (some i) ln D]) (G:Blk w m 2 #[ZI a]) (O:AR w B 1 ⟨some i,ln,D⟩ (ints L)) (f:xs.sum.toNat<ln) (hv:0<=L.getD xs.sum.toNat 0) (b:L.getD xs.sum.toNat 0<=2305843009213693952):
  Calls prog 243 #[.slice A n c,.pointer (some ⟨p,0,none⟩),.pointer (some ⟨m,0,none⟩)] w λe k=>e=.returned (.tuple #[])∧k=(w.setCell (i.add xs.sum.toNat) (ZI (L.getD xs.sum.toNat 0+casP a xs))).drew:=by
 have l:=λ(W:World) (r:Rd W A n (ints xs))=>Yx A n c xs W x r t;have F:=λ(W:World) (r:Rd W A n (ints xs))=>XB A n c xs a W x r q s;have g:=Ls t;have hcb:=M7 q s xs;have M:=z.len;have y:=Er (show xs.length<=12 by omega)
 rw[show(16:Int) ^ 12=281474976710656 from by decide] at y
 obtain⟨N,J,C,u⟩:=O.cell f
 cases J
 obtain⟨j,d⟩: ∃j:Nat,xs.sum=(j:Int):=⟨xs.sum.toNat,by omega⟩
 rw[d] at l f C u hv b⊢;simp only[Int.toNat_natCast] at f C u hv b⊢;have K:(j:Int)<(ln:Int):=Aa;clear d g;generalize L.getD j 0=v at*;generalize casP a xs=I at*;have Q:=Bg (v+I);have E:=Ai z;clear hcb y hv b;clear O
 go_enter func243,ntmps243
 have e1:=H.cell;have e2:=G.cell
 go_region_with
  (first
   |(go_at_call 244;refine(l _ (E.out.below Ax)).mono ?_;rintro e k ⟨rfl,rfl⟩)
   |(go_at_call 245;refine(F _ (E.out.below Ax)).mono ?_;rintro e k ⟨rfl,rfl⟩))
 all_goals
  go_end0
  exact⟨rfl,rfl⟩
theorem Rm (n:Nat) (a:Int) (b:Addr) (m q v B:Nat) (w:World) (N:n<=12) (h0:0<=a) (h1:a<=16)
  (f:Blk w q 28 #[.slice (some b) (n+2:Nat) m]) (j:Blk w v 2 #[ZI a]) (O:AR w B 1 ⟨some b,n+2,m⟩ (ints (tlS n a 0))) (W:q≠b.block) (V:v≠b.block):
  Calls prog 242 #[ZI n,.func (.func 243) #[] #[.pointer (some ⟨q,0,none⟩),.pointer (some ⟨v,0,none⟩)]] w λe Z=>e=.returned (.tuple #[])∧Blk Z q 28 #[.slice (some b) (n+2:Nat) m]∧AR Z B 1 ⟨some b,n+2,m⟩ (ints (tlS n a (2 ^ n)))∧Below B w Z:=by
 have an:B<=w.heap.size:=by have:=O.lowA b rfl (show 0<n+2 by omega);have:=O.rd1.lt rfl (show 0<n+2 by omega);omega
 obtain⟨M,K⟩: ∃M:Nat,2 ^ n=M:=⟨_,rfl⟩;have ap:M<=4096:=by rw[<-K];exact Ch (Nat.pow_le_pow_right Ah N) Ah
 have au:IntKind.i64.wrap ((2:Int) ^ n)=(M:Int):=by
  rw[show(2:Int) ^ n=(M:Int) from by rw[<-K];simp]
  exact Ff _ Aa
 rw[K];clear K;have X:=Er N;rw[show(16:Int) ^ 12=281474976710656 from by decide] at X
 have HP:=Ai X;clear X
 go_enter func242,ntmps242
 go_wp2_with fail
 go_loopw [7] (λi wr=> ∃x:Nat,x<=M∧i=.int .i64 x∧Blk wr q 28 #[.slice (some b) (n+2:Nat) m]∧Blk wr v 2 #[ZI a]∧AR wr B 1 ⟨some b,n+2,m⟩ (ints (tlS n a x))∧Below B w wr) (λi _=>M-(intOf i).toNat)
 case atStart=>exact⟨0,AZ _,rfl,f,j,O,AP _ _⟩
 case round=>
  clear f j O;obtain⟨x,hx,rfl,f,j,O,J⟩:=hrel
  by_cases ar:x<M
  ·have I:(x:Int)<(M:Int):=Aa;have D:=Xy (x:Int) n wr Aa Aa N;have C:=Q4 n x;have A:=Wn n (x:Int);obtain⟨Y,p2,p3⟩:=Wo (n:=n) h0 h1 x;have H:=Ht n a x;have l:(tlS n a x).getD (bitW n x).sum.toNat 0∈tlS n a x:=by rw[DE,Db Aa];exact EH _
   have E:=Y _ l
   have F:(tlS n a x).getD (bitW n x).sum.toNat 0<=2305843009213693952:=by
    have k1:=VI Y _ l;have k2:=Gq HP.out (show 0<=(x:Int) by omega)
    omega
   have r:Hid (tlS n a (x+1)=(tlS n a x).set (bitW n x).sum.toNat ((tlS n a x).getD (bitW n x).sum.toNat 0+casP a (bitW n x))):=rfl;have z:=A.1;clear A Y p2 p3 H l;generalize bitW n (x:Int)=c at*;have HH:=Ai z;have HI:=Ai C;have Q:=Ai E;have R:=Ai F;clear z C E F;generalize tlS n a x=L at*
   go_wp2_with fail
   refine D.mono ?_;rintro e w2 ⟨⟨hA,U,hC⟩,rfl,G,o2,u⟩;simp only at G;subst G;have t:=f.below u f.lt;have s:=j.below u j.lt;have O2:=O.below u;have y:B<=wr.heap.size:=by have:=J.size;omega
   have B3:=J.trans (u.mono y);have g:=Ai O2;clear f j O u J D
   go_wp2_with fail
   refine(Wm hA U hC c a L b (U+2) m q v B w2 N o2.rd1 HI.out h0 h1 t s g.out HH.out Q.out R.out).mono ?_;rintro e w3 ⟨rfl,rfl⟩;have aq:=g.out.lowA b rfl (show 0<U+2 by omega)
   have d:(b.add c.sum.toNat).block=b.block:=Aq _ _;have O4:=(g.out.set_ (k:=c.sum.toNat) (ad:=b) HH.out rfl (L.getD c.sum.toNat 0+casP a c)).below GJ;have T:=Blk.drew (t.far (p:=b.add c.sum.toNat) (by rw[d];exact W) (ZI (L.getD c.sum.toNat 0+casP a c)))
   have S:=Blk.drew (s.far (p:=b.add c.sum.toNat) (by rw[d];exact V) (ZI (L.getD c.sum.toNat 0+casP a c)))
   have B4:=(B3.setCell (p:=b.add c.sum.toNat) (by rw[d];omega) (ZI (L.getD c.sum.toNat 0+casP a c))).drew
   rw[<-r.out] at O4;go_wp2
   go_roundw
   case rel=>exact⟨x+1,by omega,by go_num,T,S,O4,B4⟩
   case measure=>simp[intOf];omega
  ·obtain rfl:x=M:=Aa;have I: ¬(x:Int)<(x:Int):=Aa;have KH:=Ai f;have OH:=Ai O;clear f O j;go_wp2
   go_end0
   exact⟨rfl,KH.out,OH.out,J⟩
theorem Yy (n:Nat) (a:Int) (w:World) (J:n<=12) (T:0<=a) (U:a<=16):
  Calls prog 194 (Zii n a) w λe w'=> ∃la lc,e=.returned (.slice (some la) (n+2:Nat) lc)∧Rd w' (some la) (n+2) (ints (tlD (tlS n a (2 ^ n)) 0))∧Below w w w':=by
 have I: ∀W:World,(Instr.makeSlice 28 (ZI ((n:Int)+2)) (ZI ((n:Int)+2))).run prog W=.ok (.slice (some ⟨W,0,none⟩) (n+2:Nat) (n+2:Nat)) (W.alloc (.cells (madeCells #[ZI 0] (n+2)) 2)):=λW=>by have h:=ER (n+2) Aa W;rwa [show((n+2:Nat):Int)=(n:Int)+2 by omega] at h
 have u1:=Bg ((n:Int)+2)
 have A:AR (((w.alloc (.cells #[ZI a] 2)).alloc (.cells (madeCells #[ZI 0] (n+2)) 2)).alloc (.cells #[.slice (some ⟨w+1,0,none⟩) (n+2:Nat) (n+2:Nat)] 28)) (w.heap.size+1) 1 ⟨some ⟨w+1,0,none⟩,n+2,n+2⟩ (ints (List.replicate (n+2) 0)):=by
  have h:=(AR.made (W:=w.alloc (.cells #[ZI a] 2)) (B:=w.heap.size+1) (n:=n+2) Cr Aa 2).below ((AP _ _).alloc Bk (.cells #[.slice (some ⟨w+1,0,none⟩) (n+2:Nat) (n+2:Nat)] 28));rw[show(w.alloc (.cells #[ZI a] 2)).heap.size=w.heap.size+1 from by simp] at h
  exact h
 have c:=((Blk.newN (g:=w) w 2 #[ZI a] rfl).alloc (.cells (madeCells #[ZI 0] (n+2)) 2)).alloc (.cells #[.slice (some ⟨w+1,0,none⟩) (n+2:Nat) (n+2:Nat)] 28);have d:=Blk.newN (g:=w+1+1) ((w.alloc (.cells #[ZI a] 2)).alloc (.cells (madeCells #[ZI 0] (n+2)) 2)) 28 #[.slice (some ⟨w+1,0,none⟩) (n+2:Nat) (n+2:Nat)] Cr;have F:Below w w (((w.alloc (.cells #[ZI a] 2)).alloc (.cells (madeCells #[ZI 0] (n+2)) 2)).alloc (.cells #[.slice (some ⟨w+1,0,none⟩) (n+2:Nat) (n+2:Nat)] 28)):=Ax;have N:=λ(w1:World) d c A=>Rm n a ⟨w+1,0,none⟩ (n+2) (w.heap.size+1+1) w.heap.size (w.heap.size+1) w1 J T U d c A Aw Aw;have j:=Wo (n:=n) T U (2 ^ n);have l:=Ht n a (2 ^ n);have K:=Er J;rw[show(16:Int) ^ 12=281474976710656 from by decide] at K
 have H:2 ^ n<=4096:=Ch (Nat.pow_le_pow_right Ah J) Ah
 have r:(tlS n a (2 ^ n)).sum<=2305843009213693952:=by
  generalize 2 ^ n=M at*;have k2:=Gq K (show 0<=(M:Int) by omega)
  omega
 have q:=j.1;clear j K H;generalize tlS n a (2 ^ n)=L at*;have f:=Ai q;have b:=Ai l;have u:=Ai r;clear q l r
 go_enter func194,ntmps194
 go_upto_region 2 with fail
 generalize((w.alloc _).alloc _).alloc _=w1 at A c d F⊢
 go_wp2_with fail
 refine(N _ d c A).mono ?_;rintro e w2 ⟨rfl,s,O,R⟩;have S:=F.trans (R.mono Aa);clear N F R I d c A;have C:=Yz (L:=L) (n+1) b.out
 go_wp2_with fail
 go_loopw [6] (λi wr=> ∃(k:Nat) (z:Int),k<=n+1∧i=.int .i64 z∧z=(k:Int)-1∧Blk wr (w.heap.size+1+1) 28 #[.slice (some ⟨w+1,0,none⟩) (n+2:Nat) (n+2:Nat)]∧AR wr (w.heap.size+1) 1 ⟨some ⟨w+1,0,none⟩,n+2,n+2⟩ (ints (tlD L k))∧Below w w wr) (λi _=>(intOf i+1).toNat)
 case atStart=>exact⟨n+1,n,Cp _,rfl,by omega,s,by rw[C];exact O,S⟩
 case round=>
  clear s O S C;obtain⟨k,z,hk,rfl,hz,s,O,B⟩:=hrel;have e1:=s.cell
  by_cases aj:0<k
  ·obtain⟨m,rfl⟩: ∃m,k=m+1:=⟨k-1,by omega⟩
   obtain rfl:z=(m:Int):=Aa;have X:(0:Int)<=(m:Int):=Aa;obtain⟨_,G,Y,V⟩:=O.cell (k:=m) Aw
   cases G
   obtain⟨_,G,Z,-⟩:=O.cell (k:=m+1) Aw
   cases G
   rw[CE] at Y V Z;have E:=λv=>Ai (O.set_ (k:=m) (ad:=⟨w+1,0,none⟩) Aw rfl v);simp only[CE] at E;have t:=Ai (dy (L:=L) (m:=m) (by have:=b.out;omega))
   have q1:=Ta f.out m;have q2:=Ta f.out (m+1)
   have q3:(L.drop m).sum=(tlD L (m+1)).getD m 0+(tlD L (m+1)).getD (m+1) 0:=by
    rw[Pe Aa (by have:=b.out;omega),JO Bk (by have:=b.out;omega),List.drop_eq_getElem_cons (show m<L.length by have:=b.out;omega),List.sum_cons,CJ (by have:=b.out;omega)]
   rw[q3] at q1;have hs:=u.out;generalize tlD L (m+1)=D at*;generalize D.getD m 0=x at*;generalize D.getD (m+1) 0=y at*;have u2:=Bg (x+y);have u3:=Bg ((m:Int)+1);have u4:=Bg ((m:Int)-1);clear q1 q2 q3 hs O hz
   go_upto_region 6 with fail
   go_region
   have NL:=Blk.drew (s.far (p:=⟨w+1,m,none⟩) Aw (ZI (x+y)));have Q:=(E (x+y)).out.below GJ;rw[t.out] at Q;have NB:=(B.setCell (p:=⟨w+1,m,none⟩) Aw (ZI (x+y))).drew;clear e1 s E Y V Z B;generalize(wr.setCell ⟨w+1,m,none⟩ (ZI (x+y))).drew=w3 at*;go_wp2
   go_roundw
   case rel=>exact⟨m,(m:Int)-1,by omega,by go_num,rfl,NL,Q,NB⟩
   case measure=>simp[intOf]
  ·obtain rfl:k=0:=Aa;have HR:=Ai O.rd1;clear O s;go_wp2;refine AS (v:=.slice (some ⟨w+1,0,none⟩) (n+2:Nat) (n+2:Nat)) (by simp[results,results194,go_sem]) rfl ?_
   exact⟨⟨w+1,0,none⟩,⟨n+2,rfl⟩,HR.out,B⟩
def tcV (n a m:Int):Int:=if Pd n a m=true then fR n.toNat a m.toNat else 0
theorem Rs (x:Int) (w:World):(GK 192 #[ZI x] w (.bool (inR x 0 12)):Prop):=by
 go_enter func192,ntmps192
 go_wp2_with (go_at_call 73;refine(As _ _ _ _).mono ?_;rintro e a ⟨rfl,rfl⟩)
 go_ret;exact⟨rfl,rfl⟩
theorem Rr (x:Int) (w:World):(GK 193 #[ZI x] w (.bool (inR x 0 16)):Prop):=by
 go_enter func193,ntmps193
 go_wp2_with (go_at_call 73;refine(As _ _ _ _).mono ?_;rintro e a ⟨rfl,rfl⟩)
 go_ret;exact⟨rfl,rfl⟩
def Ww (n a m:Int) (w:World) (e:Ending) (w':World):Prop:=e=.returned (.tuple (Zii (tcV n a m) (tcC n a m)))∧Below w w w'
theorem L2 {n a m:Int} {w w':World} (h:Pd n a m=false) (b:Below w w w'):Ww n a m w (.returned (.tuple (Zii 0 2))) w':=
 ⟨by rw[show tcV n a m=0 from Ak (by rw[h];decide),show tcC n a m=2 from Ak (by rw[h];decide)],b⟩
theorem ak {n a m:Int} {w w':World} {z:Int} (h:Pd n a m=true) (c:z=fR n.toNat a m.toNat) (b:Below w w w'):Ww n a m w (.returned (.tuple (Zii z 0))) w':=
 ⟨by rw[show tcV n a m=z from(AA h).trans c.symm,show tcC n a m=0 from AA h],b⟩
theorem Kf (n a m:Int) (w:World):Calls prog 145 (Ziii n a m) w (Ww n a m w):=by
 have b:=λW=>Rs n W;have c:=λW=>Rr a W;have f:=λW=>As m 0 (n+1) W;rcases jt (inR n 0 12) with h1|h1
 rotate_left
 ·have hv:Hid (Pd n a m=false):=by unfold Hid Pd;rw[h1];simp
  rw[h1] at b;clear c f
  go_enter func145,ntmps145
  go_wp2_with (go_at_call 192;refine(b _).mono ?_;rintro e d ⟨rfl,rfl⟩)
  refine AS (v:=.tuple (Zii 0 2)) (by simp[results,results145,go_sem]) rfl ?_
  exact L2 hv.out G6
 have s:=Ac h1;have y:=Bg (n+1);rcases jt (inR a 0 16) with h2|h2
 rotate_left
 ·have hv:Hid (Pd n a m=false):=by unfold Hid Pd;rw[h1,h2];simp
  rw[h1] at b;rw[h2] at c;clear f
  go_enter func145,ntmps145
  go_wp2_with (first|(go_at_call 192;refine(b _).mono ?_;rintro e d ⟨rfl,rfl⟩)|(go_at_call 193;refine(c _).mono ?_;rintro e d ⟨rfl,rfl⟩))
  refine AS (v:=.tuple (Zii 0 2)) (by simp[results,results145,go_sem]) rfl ?_
  exact L2 hv.out G6
 have j:=Ac h2;rcases jt (inR m 0 (n+1)) with h3|h3
 rotate_left
 ·have hv:Hid (Pd n a m=false):=by unfold Hid Pd;rw[h1,h2,h3];rfl
  rw[h1] at b;rw[h2] at c;rw[h3] at f;clear h1 h2 h3
  go_enter func145,ntmps145
  go_wp2_with (first|(go_at_call 192;refine(b _).mono ?_;rintro e d ⟨rfl,rfl⟩)|(go_at_call 193;refine(c _).mono ?_;rintro e d ⟨rfl,rfl⟩)|(go_at_call 73;refine(f _).mono ?_;rintro e d ⟨rfl,rfl⟩))
  refine AS (v:=.tuple (Zii 0 2)) (by simp[results,results145,go_sem]) rfl ?_
  exact L2 hv.out G6
 have t:=Ac h3;obtain⟨N,rfl⟩: ∃N:Nat,n=(N:Int):=⟨n.toNat,by omega⟩
 obtain⟨M,rfl⟩: ∃M:Nat,m=(M:Int):=⟨m.toNat,by omega⟩
 have hv:Hid (Pd N a M=true):=by unfold Hid Pd;rw[h1,h2,h3];rfl
 have g:=λW=>Yy N a W Aa j.1 j.2;have p:Hid ((tlD (tlS N a (2 ^ N)) 0).getD M 0=fR N a M):=JO (AZ _) (by rw[Ht];omega)
 rw[h1] at b;rw[h2] at c;rw[h3] at f;clear h1 h2 h3;have q:M<N+2:=Aa
 go_enter func145,ntmps145
 go_upto_region 3 with(first|(go_at_call 192;refine(b _).mono ?_;rintro e d ⟨rfl,rfl⟩)|(go_at_call 193;refine(c _).mono ?_;rintro e d ⟨rfl,rfl⟩)|(go_at_call 73;refine(f _).mono ?_;rintro e d ⟨rfl,rfl⟩))
 clear b c f
 go_wp2_with fail
 refine(g _).mono ?_;rintro e A ⟨u,x,rfl,i,k⟩;obtain⟨_,l,r⟩:=i.int q
 cases l
 generalize(tlD (tlS N a (2 ^ N)) 0).getD M 0=z at*;clear i g;go_wp2;refine AS (v:=.tuple (Zii z 0)) (by simp[results,results145,go_sem]) rfl ?_
 exact ak hv.out (by simp only[Int.toNat_natCast];exact p.out) k
