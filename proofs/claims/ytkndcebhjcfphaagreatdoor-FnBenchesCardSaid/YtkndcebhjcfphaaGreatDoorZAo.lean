import Derived.Test.YtkndcebhjcfphaaGreatDoorZAg
import Derived.Test.YtkndcebhjcfphaaGreatDoorZAn
namespace Go.Proofs.YtkndcebhjcfphaaGreatDoor
open Go.RowKit Go.Proofs.Tryz
set_option maxRecDepth 100000
set_option maxHeartbeats 4000000
set_option linter.all false
theorem Hr {g:Nat} {D S L:Hd} {b:Ae} {w:World} (K:Bz w g D S L b) (ok:jw b): ∀(W:World),Below w w W->
  Calls prog 185 #[.slice L.A L.n L.c] W λe d=> ∃(h:Hd) (v:Int),e=.returned (.tuple (FK h.A h.n h.c v (sdC b)))∧h.n=sdN b∧h.n<=h.c∧Rd d h.A (h.n*4) (ints (sdL b))∧Below W W d:=λW j=>by
 have p:b.log.length=L.n*7:=by have:=K.l.len;unfold ints at this;simpa using this
 have a:b.log.length/7=L.n:=Aa;have f:=ok.n;refine(N7 L.A L.n L.c b.log W Aa K.l.nc (K.l.rd.below j)).mono ?_;rintro e d ⟨h,rfl,m,k,R,-,i⟩;refine⟨h,YH b.log L.n,?_,?_,k,?_,i⟩
 ·unfold sdC Ro;rw[a]
 ·have:=R.len;have e:sdL b=UR b.log L.n:=by unfold sdL V7;rw[a]
  rw[<-e,(Ld ok).1] at this;omega
 ·have e:sdL b=UR b.log L.n:=by unfold sdL V7;rw[a]
  rw[e];exact R
theorem WP {w:World} {A:Option Addr} {n k:Nat} {xs:List Int} (h:Rd w A (n*4) (ints xs)) (f:k<n): ∃a,A=some a∧Rd w (some (a.add (k*4))) (1*4) (ints (Fw xs k)):=by
 obtain⟨a,rfl,-⟩:=h.int (k:=k*4) Aa;refine⟨a,rfl,by simp[ints,Fw],λ_=>⟨_,rfl,λi hi=> ?_⟩⟩
 have e:(a.add (k*4)).add i=a.add (k*4+i):=by
  rcases Nat.eq_zero_or_pos i with rfl|hi0
  ·rw[Gu];rfl
  ·rw[Hf _ i Aa,Hf _ (k*4+i) Aa];unfold Addr.add
   split<;>simp_all [Nat.add_assoc]
 rw[e];obtain⟨b,c,d⟩:=h.int (k:=k*4+i) Aa
 cases c
 rw[d];obtain rfl|rfl|rfl|rfl:i=0∨i=1∨i=2∨i=3:=Aa
 all_goals rfl
theorem Qm {xs:List Int} {n k:Nat} (h:BJ xs n=true) (a:k<n):BJ (Fw xs k) 1=true:=by
 unfold BJ at h⊢;rw[CD] at h;have:=IC h.1 a;unfold Fk at this;unfold Dg;simp only[I6,List.range_zero,List.nil_append,List.all_cons,List.all_nil,Bool.and_true];unfold Fk Fw;simp only[Nat.zero_mul,Nat.zero_add,List.getD_cons_zero,List.getD_cons_succ];rw[this]
 rfl
theorem Su (g:Nat) (D S L:Hd) (b:Ae) (w:World) (K:Bz w g D S L b) (ok:jw b) (T:CK w):
  Calls prog 142 #[.pointer (some ⟨g,0,none⟩)] w (CU (shT b) w):=by
 have q:=Hr K ok w G6;obtain⟨I,H,hv⟩:=Ld ok;have hcb:=L3 b;have j:Hid (shT b=if sdC b=0 then(if sdN b=0 then erT 4 else joinI [32] (Fw (sdL b) (shlTo (sdL b) (sdN b)))) else erT (sdC b)):=rfl;have n:=λ(c:Int) (l:0<=c) (X:c<=1000) (V:World) (x:Below w w V)=>Cx c V l X (T.below x);unfold CU;generalize shT b=R at*;generalize sdC b=t at*;generalize sdL b=a at*;generalize sdN b=m at*;have F:=K.blk;have Y:=F.cell;clear K ok
 go_enter func142,ntmps142
 go_upto_region 2 with(go_at_call 185;refine q.mono ?_;rintro e y ⟨⟨M,d,N⟩,v,rfl,u,C,s,f⟩)
 clear q Y F
 (try simp only at u C s)
 subst u;have U:=T.below f
 by_cases h:t=0
 ·subst h;rw[AA rfl] at j
  by_cases l:d=0
  ·subst l;have r:=FL M 0 N a y hv s;rw[show dH a 0=.tuple (Zii 0 4) from rfl] at r;have p:Hid (R=erT 4):=j.out.trans (AA rfl);have z:=n 4 Ah Ah;generalize erT 4=E at*;clear j n
   go_wp2_with (first|(go_at_call 186;refine r.mono ?_;rintro e O ⟨rfl,k⟩)|(go_at_call 100;refine(z _ (An f k)).mono ?_;rintro e Z ⟨rfl,B⟩))
   go_ret;rw[p.out];exact⟨rfl,f.trans ((An k B).mono f.size)⟩
  ·have r:=FL M d N a y hv s;rw[show dH a d=.tuple (Zii (shlTo a d:Int) 0) from Ak l] at r;have hi:=Lf a (show 0<d by omega) d Bk
   have p:Hid (R=joinI [32] (Fw a (shlTo a d))):=j.out.trans (Ak l);obtain⟨W,rfl,G⟩:=WP s hi;have Q:=λ(c:Nat) (V:World) (x:Below y y V)=>LP (some (W.add (shlTo a d*4))) c (Fw a (shlTo a d)) V (G.below x) (Qm hv hi) (U.below x);generalize joinI [32] (Fw a (shlTo a d))=J at*;generalize shlTo a d=i at*;clear j n G s hv l
   go_wp2_with (go_at_call 186;refine r.mono ?_;rintro e O ⟨rfl,k⟩)
   refine(Q _ _ k).mono ?_;rintro e Z ⟨rfl,B⟩;go_wp2;go_ret;rw[p.out];exact⟨rfl,f.trans ((An k B).mono f.size)⟩
 ·have p:Hid (R=erT t):=j.out.trans (Ak h);have hc2:(t !=0)=true:=by rw[bne_iff_ne];exact h
  have A:=n t hcb.1 hcb.2;generalize erT t=E at*;clear j n h hcb
  go_wp2_with (go_at_call 100;refine(A _ f).mono ?_;rintro e O ⟨rfl,k⟩)
  go_ret;rw[p.out];exact⟨rfl,(An f k)⟩
theorem SZ (s:Bs) (A:Option Addr) (c:Nat) (g:Nat) (D S L:Hd) (b:Ae) (w:World) (K:Bz w g D S L b) (ok:jw b) (O:Rd w A 3 (ints (Co s))) (T:CK w):
  Calls prog 143 #[.pointer (some ⟨g,0,none⟩),.slice A 3 c] w (CU (clT b s) w):=by
 have F:=Hr K ok w G6;obtain⟨N,H,hv⟩:=Ld ok;have hcb:=L3 b;have I:0<=ccC b s∧ccC b s<=1000:=Zg _ _ _ _ _;have Q:Hid (clT b s=if sdC b=0 then cdT (Lib.itoa ((Y4 b s).length:Int)++ [47]++Lib.itoa (sdN b:Int)) (ccC b s) else erT (sdC b)):=rfl;have HF:=λ(V:World) (r:Below w w V)=>Cx (sdC b) V hcb.1 hcb.2 (T.below r);have C: ∀(x:Option Addr) (z:Nat) (V:World),Rd V x (sdN b*4) (ints (sdL b))->Calls prog 188 #[.slice x (sdN b) z,Ziii (cmI s 0) (cmI s 1) (cmI s 2)] V λe B=> ∃(h:Hd) (v:Int),e=.returned (.tuple (FK h.A h.n h.c v (ccC b s)))∧h.n=(Y4 b s).length∧Below V V B:=λx z V R=>PJ (cmI s 0) (cmI s 1) (cmI s 2) x (sdN b) z (sdL b) V Aa R
 have aj:(Y4 b s).length<=sdN b:=by
  unfold Y4 fk
  split
  ·have:=M8 (sdL b) (cmI s 0) (cmI s 1) (cmI s 2) (List.range (sdN b));rw[List.length_range] at this;exact this
  ·exact AZ _
 obtain⟨d,rfl⟩: ∃d,A=some d:=by obtain⟨d,h,_⟩:=O.int (k:=0) Ah;exact⟨d,h⟩
 have hc0:w.cell? d=some (.int .i64 (cmI s 0)):=Pn O Ah;have hc1:w.cell? ⟨d.block,d.off+1,none⟩=some (.int .i64 (cmI s 1)):=GV O Ah Ah;have hc2:w.cell? ⟨d.block,d.off+2,none⟩=some (.int .i64 (cmI s 2)):=GV O Ah Ah;unfold CU;generalize clT b s=R at*;generalize sdC b=W at*;generalize sdL b=xs at*;generalize ccC b s=cc at*;generalize(Y4 b s).length=m at*;generalize sdN b=kn at*;generalize cmI s 0=x0 at*;generalize cmI s 1=x1 at*;generalize cmI s 2=x2 at*;have a:=Gr w d hc0;have KB:=K.blk;have hb:=KB.cell;clear K ok O
 go_enter func143,ntmps143
 go_upto_region 2 with(go_at_call 185;refine F.mono ?_;rintro e w1 ⟨⟨x,f,z⟩,v,rfl,M,ak,Y,j⟩)
 clear F hb KB
 (try simp only at M ak Y)
 subst M;have T1:=T.below j
 by_cases h:W=0
 ·subst h;have X:Hid (R=cdT (Lib.itoa (m:Int)++ [47]++Lib.itoa (f:Int)) cc):=Q.out.trans (AA rfl);replace hc0:=Cg j hc0 a;replace hc1:=Cg j hc1 a;replace hc2:=Cg j hc2 a;replace a:=CM a j.size;have hA:=C x z w1.drew Y;have l1:=Bm (m:Int) Aa Aa;have l2:=Bm (f:Int) Aa Aa;clear Q HF C
  go_upto_region 4 with fail
  go_region_held3 (λB=>B.cell? d=some (.int .i64 x0)∧B.cell? ⟨d.block,d.off+1,none⟩=some (.int .i64 x1)∧B.cell? ⟨d.block,d.off+2,none⟩=some (.int .i64 x2))
   (exact Cs)
   (first
    |(go_at_call 188;(with_reducible refine hA.mono ?_);rintro e u ⟨⟨ae,i,ai⟩,v2,rfl,J,b4⟩;have y:Below w1 w1 u:=EE (m:=1) b4;have hd0:=Cg y hc0 a;have hd1:=Cg y hc1 a;have hd2:=(JX y (p:=⟨d.block,d.off+2,none⟩) a).trans hc2))
  (try simp only at J)
  subst J;have Tu:=T1.below y;have af:=λV=>Ok ae i ai V Aa;have ag:=λV=>Ok x f z V Aa;have D1:=λ(V:World) (r:Below u u V)=>BY (i:Int) V Aa Aa (Tu.below r);have D2:=λ(V:World) (r:Below u u V)=>BY (f:Int) V Aa Aa (Tu.below r);have HU:=λ(V:World) (r:Below u u V)=>Ep (Lib.itoa (i:Int)++ [47]++Lib.itoa (f:Int)) cc V I.1 I.2 (Tu.below r);generalize ah:cdT (Lib.itoa (i:Int)++ [47]++Lib.itoa (f:Int)) cc=RR at*;clear ah;generalize Lib.itoa (i:Int)=G at*;generalize Lib.itoa (f:Int)=U at*;obtain⟨q,l⟩: ∃q,G++ [47]=q:=⟨_,rfl⟩;obtain⟨Z,t⟩: ∃Z,q++U=Z:=⟨_,rfl⟩;rw[l,t] at HU;have k1:q.length=G.length+1:=by rw[<-l,Dy];rfl
  have p1: ¬9223372036854775807<G.length+1:=Aa;have p2: ¬9223372036854775807<q.length+U.length:=Aa;have s1:((⟨G.toArray⟩:ByteArray)++⟨#[47]⟩)=⟨q.toArray⟩:=by rw[<-l];exact AY G [47]
  have s2:((⟨q.toArray⟩:ByteArray)++⟨U.toArray⟩)=⟨Z.toArray⟩:=by rw[<-t];exact AY q U
  clear l t k1 l1 l2 aj T T1 N H hv hA Y hc0 hc1 hc2 hd0 hd1 hd2 a
  go_wp2_with (first
   |(go_at_call 189;(first|(with_reducible refine(af _).mono ?_)|(with_reducible refine(ag _).mono ?_));rintro e B ⟨rfl,rfl⟩)
   |(go_at_call 134;(fail_if_success (clear b5));(with_reducible refine(D1 _ G6).mono ?_);rintro e w2 ⟨rfl,b5⟩)
   |(go_at_call 134;(with_reducible refine(D2 _ b5).mono ?_);rintro e w3 ⟨rfl,b6⟩;have b7:=(An b5 b6))
   |(go_at_call 146;(with_reducible refine(HU _ b7).mono ?_);rintro e w4 ⟨rfl,b8⟩))
  go_ret;rw[X.out];exact⟨rfl,j.trans ((y.trans ((An b7 b8).mono y.size)).mono j.size)⟩
 ·have X:Hid (R=erT W):=Q.out.trans (Ak h);have au:(W !=0)=true:=by rw[bne_iff_ne];exact h
  generalize erT W=E at*;clear Q h hcb
  go_wp2_with (go_at_call 100;refine(HF _ j).mono ?_;rintro e w2 ⟨rfl,b2⟩)
  go_ret;rw[X.out];exact⟨rfl,(An j b2)⟩
