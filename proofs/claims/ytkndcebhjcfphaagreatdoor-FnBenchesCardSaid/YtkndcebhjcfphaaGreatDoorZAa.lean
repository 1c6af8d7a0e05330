import Derived.Test.YtkndcebhjcfphaaGreatDoorZL
import Derived.Test.YtkndcebhjcfphaaGreatDoorZW
import Derived.Deep.RegionHeldLaw
namespace Go.Proofs.YtkndcebhjcfphaaGreatDoor
open Go.RowKit Go.Proofs.Tryz
set_option maxRecDepth 100000
set_option maxHeartbeats 4000000
set_option linter.all false
section
open Go.RowKit Go.Shelf
theorem XN (base n:Nat) (v:Value) (xs:List Bs) (a:Bs) (w:World) (h:w.ownsRow base 9 1 v n (BO xs)) (z:xs.length=n) (C:1<=n) (D:n<=1048576) (b:(Lib.join xs a).length<=140737488355328):
  (BT 197 #[v,.string ⟨a.toArray⟩] w (.string ⟨(Lib.join xs a).toArray⟩):Prop):=by
 obtain⟨B,c,rfl,k,-,s,-⟩:=Gy h
 have t: ∃g,B=some ⟨g,0,none⟩:=by
  rcases h.2 with⟨e,_⟩|⟨g,p,q,e,_⟩
  ·simp only[Value.slice.injEq] at e;omega
  ·simp only[Value.slice.injEq] at e;exact⟨g,e.1⟩
 obtain⟨g,rfl⟩:=t;have f:g<w:=k.lt rfl Aa;subst z
 have i:(xs.map λl=>(⟨l.toArray⟩:ByteArray)).map (·.data.toList)=xs:=by
  rw[List.map_map]
  conv=>rhs;rw[<-List.map_id xs]
  exact List.map_congr_left λx _=>rfl
 have h:=Lq g 0 c (xs.map λl=>(⟨l.toArray⟩:ByteArray)) ⟨a.toArray⟩ w (λj x d=>by
   rw[List.getElem?_map,Option.map_eq_some_iff] at d;obtain⟨y,m,rfl⟩:=d;have u:j<xs.length:=(List.getElem?_eq_some_iff.1 m).1;obtain⟨A,r,d⟩:=k.str u
   cases r
   rw[CE] at d;rw[Nat.zero_add,d,DE,m]
   rfl) f (by rw[List.length_map];omega) (by rw[List.length_map];exact s) (by rw[i];exact b)
 rw[i,List.length_map] at h;exact h
theorem Mc {g:Array Oper} {o:Oper} {a:Act} {K:Act->World->Prop} {Q:Exit->Act->World->Prop} {E:Prop} {w:World} (p:o.guard=none) (r x:Operand)
  (ho:o.op=.call {callee:=.builtin .append,args:= #[r,x],argTypes:= #[40,9]})
  (base:Nat) (v:Value) (n:Nat) (l s:Bs) (hs:a.eval r=v) (f:w.ownsRow base 5 1 v n (WB l)) (hv:v≠ .slice none 0 0) (D:a.eval x=.string ⟨s.toArray⟩)
  (G:n+s.length<=1099511627776) (d:base<=w)
  (h: ∀j m,m.ownsRow base 5 1 j (n+s.length) (WB (l++s))->j≠ .slice none 0 0->Below base w m->K (a.put o.dst j) m):
  if Region.wanted o (yielded g a.tmps)=true then Oper.wp prog o a w K Q else E:=by
 obtain⟨i,t,u,y,z⟩:=Xj;have F:=Bj s;have hw:Region.wanted o (yielded g a.tmps)=true:=by simp[Region.wanted,p]
 rw[AA hw];obtain⟨j,m,C,b,A,q⟩:=Lib.run_append_own_string (P:=prog) w base 40 9 o.type 5 i underlying40 underlying9 t u y z v n (WB l) f ⟨s.toArray⟩ G9 Aa d;unfold Oper.wp execOp;simp only[ho,resolve,invoke,builtin,Sem.run_bind,Sem.run_pure,Result.andThen_ok,List.map_toArray,List.map_cons,List.map_nil,hs,D,C];rw[F] at b;rw[WD,<-WC] at b;exact h j m b (λc=>hv (q.1 c).1) ((AP _ _).grown A d (λk B=>(f.lt k B).1))
theorem Z0 {w:World} {base n m:Nat} {e:TypeId} {v:Value} {us:List Value} (h:w.ownsRow base e 1 v n us) (a:n=m):w.ownsRow base e 1 v m us:=a▸h
theorem Oy (w:World) (x y z v:Int) (e:TypeId) (g:Nat) (hg:w.heap.size=g):Rd (w.alloc (.cells (Ziiii x y z v) e)) (some ⟨g,0,none⟩) 4 (ints [x,y,z,v]):=by
 subst hg
 exact(Br w e (Ziiii x y z v)).rd rfl (λi hi=>by
  match i,hi with
  |0,_=>rfl
  |1,_=>rfl
  |2,_=>rfl
  |3,_=>rfl)
theorem Fd {xs:List Int} {n k:Nat} (h:BJ xs n=true) (f:k<n):(0<=xs.getD (k*4) 0∧xs.getD (k*4) 0<=10000)∧(0<=xs.getD (k*4+1) 0∧xs.getD (k*4+1) 0<=10000)∧(-2000<=xs.getD (k*4+2) 0∧xs.getD (k*4+2) 0<=1000000)∧0<=xs.getD (k*4+3) 0∧xs.getD (k*4+3) 0<=5000:=by
 unfold BJ at h;rw[CD] at h;have:=IC h.1 f;unfold Fk DP at this;simp only[CD] at this;obtain⟨⟨⟨a,b⟩,c⟩,d⟩:=this;exact⟨Ac a,Ac b,Ac c,Ac d⟩
theorem Oc {a b c d:Int} (k:0<=a) (l:0<=b) (m: -9223372036854775808<=c) (n:0<=d) (f:a<=1000000) (g:b<=1000000) (i:c<=1000000) (j:d<=1000000):(joinI [32] [a,b,c,d]).length<=1000:=by
 have p:=Bm a Aa Aa;have q:=Bm b Aa Aa;have r:=Bm c Aa Aa;have s:=Bm d Aa Aa
 simp[joinI,Lib.join_cons,Lib.joinTail]
 omega
end
section
open Go.RowKit Go.Shelf
theorem LP (A:Option Addr) (c:Nat) (xs:List Int) (w:World) (B:Rd w A (1*4) (ints xs)) (hv:BJ xs 1=true) (T:CK w):
  (BT 187 #[.slice A 1 c] w (.string ⟨(joinI [32] xs).toArray⟩):Prop):=by
 have E:=De A 1 c xs w Ah B;rw[hv] at E;have y:=Fd hv (k:=0) Ah
 obtain⟨l,m,n,p,rfl⟩: ∃a b c d,xs= [a,b,c,d]:=by
  have Y:=B.len
  match xs,Y with
  | [a,b,c,d],_=>exact⟨a,b,c,d,rfl⟩
 simp only[Nat.zero_mul,Nat.zero_add,List.getD_cons_zero,List.getD_cons_succ] at y
 have S:=λ(W:World) (g:Nat) (R:Rd W (some ⟨g,0,none⟩) 4 (ints [l,m,n,p])) (T:CK W)=>FN (some ⟨g,0,none⟩) 4 4 [l,m,n,p] [32] W Ah Ah R (λx Q=>by
  simp only[CC,I5,or_false] at Q;obtain rfl|rfl|rfl|rfl:=Q<;>omega) T
 have X:=Oc y.1.1 y.2.1.1 (show-9223372036854775808<=n by omega) y.2.2.2.1 (show l<=1000000 by omega) (show m<=1000000 by omega) y.2.2.1.2 (show p<=1000000 by omega)
 generalize joinI [32] [l,m,n,p]=J at*;clear hv y
 go_enter func187,ntmps187
 go_wp2_with fail
 refine E.mono ?_;rintro e j ⟨rfl,C⟩;clear E;replace B:=B.below C;replace T:=T.below C
 go_wp2_with fail
 go_loopw [3,11] (λv i wr=> ∃k:Nat,k<=1∧i=.int .i64 k∧wr.ownsRow j.heap.size 9 1 v k (BO ([J].take k))∧Below j j wr) (λ_ i _=>1-(intOf i).toNat)
 case atStart=>exact⟨0,AZ _,rfl,⟨rfl,.inl ⟨rfl,rfl⟩⟩,AP _ _⟩
 case round=>
  obtain⟨k,hk,rfl,q,b⟩:=hrel
  by_cases Z:k<1
  ·obtain rfl:k=0:=Aa;obtain⟨ad,V,L,M,N,O⟩:=(B.below b).fourS (k:=0) Ah;subst V;rw[Nat.zero_mul,Gu] at L M N O;simp only[Nat.zero_add,List.getD_cons_zero,List.getD_cons_succ] at L M N O;have ab:=b.size;have G:=Br wr 65 (Ziiii l m n p);have f:(wr.alloc (.cells (Ziiii l m n p) 65)).ownsRow j.heap.size 9 1 _ 0 (BO ([J].take 0)):=Ef q BU;have z:Below j j (wr.alloc (.cells (Ziiii l m n p) 65)):=Ax
   go_upto_region 7 with fail
   generalize wr.alloc _=D at G f z⊢;generalize wr.heap.size=q8 at G⊢;have e8:=G.cell;have aa:=z.size;have U:Below j j (D.alloc (.cells (Ziiii l m n p) 2)):=Ax;have F:=S _ _ (Oy D l m n p 2 _ rfl) ((T.below z).below BU);have t:=Ef f (w':=D.alloc (.cells (Ziiii l m n p) 2)) BU
   go_wp2_with fail
   refine F.mono ?_;rintro e w3 ⟨rfl,I⟩;have u:=Ef t I;have K:=An U I;have H:=K.size
   go_wp2_with (at_builtin;refine Eu rfl _ _ rfl j.heap.size _ 0 _ J rfl rfl u rfl Ah H ?_;intro v' w' s r)
   go_roundw
   case rel=>exact⟨1,by omega,by go_num,s,K.trans r⟩
   case measure=>simp[intOf]
  ·obtain rfl:k=1:=Aa
   go_wp2_with fail
   refine(XN j.heap.size 1 _ [J] [59] _ q rfl Ah Ah (by simp[Lib.join_one];omega)).mono ?_
   rintro e D ⟨rfl,z⟩;go_wp2;go_ret;exact⟨by simp[Lib.join_one],C.trans ((An b z).mono C.size)⟩
end
section
open Go.RowKit Go.Shelf
theorem L8 (A:Option Addr) (c:Nat) (xs:List Int) (w:World) (E:Rd w A (1*4) (ints xs)) (hv:BJ xs 1=true):
  (BT 171 #[.slice A 1 c] w (.string ⟨(joinI [32] xs).toArray⟩):Prop):=by
 have Q:=Dh A 1 c xs w Ah E;rw[hv] at Q;have I:=Fd hv (k:=0) Ah
 obtain⟨r,s,t,u,rfl⟩: ∃a b c d,xs= [a,b,c,d]:=by
  have hl:=E.len
  match xs,hl with
  | [a,b,c,d],_=>exact⟨a,b,c,d,rfl⟩
 simp only[Nat.zero_mul,Nat.zero_add,List.getD_cons_zero,List.getD_cons_succ] at I
 have V:=λ(W:World) (g:Nat) (R:Rd W (some ⟨g,0,none⟩) 4 (ints [r,s,t,u]))=>EC (some ⟨g,0,none⟩) 4 4 [r,s,t,u] [32] W Ah Ah R (λx Y=>by
  simp only[CC,I5,or_false] at Y;obtain rfl|rfl|rfl|rfl:=Y<;>omega)
 have aa:=Oc I.1.1 I.2.1.1 (show-9223372036854775808<=t by omega) I.2.2.2.1 (show r<=1000000 by omega) (show s<=1000000 by omega) I.2.2.1.2 (show u<=1000000 by omega)
 generalize joinI [32] [r,s,t,u]=J at*;clear hv I
 go_enter func171,ntmps171
 go_wp2_with fail
 refine Q.mono ?_;rintro e K ⟨rfl,X⟩;clear Q;replace E:=E.below X
 go_wp2_with fail
 go_loopw [3,4] (λv i wr=> ∃k:Nat,k<=1∧i=.int .i64 k∧wr.ownsRow K.heap.size 5 1 v (if k=0 then [] else J).length (WB (if k=0 then [] else J))∧v≠ .slice none 0 0∧Below K K wr) (λ_ i _=>1-(intOf i).toNat)
 case atStart=>exact⟨0,AZ _,rfl,FI K _,(λh=>by cases h),(AP _ _).alloc Bk _⟩
 case round=>
  obtain⟨k,hk,rfl,j,L,b⟩:=hrel
  by_cases ae:k<1
  ·obtain rfl:k=0:=Aa;rw[AA rfl] at j;obtain⟨n,Z,y,z,B,C⟩:=(E.below b).fourS (k:=0) Ah;subst Z;rw[Nat.zero_mul,Gu] at y z B C;simp only[Nat.zero_add,List.getD_cons_zero,List.getD_cons_succ] at y z B C;have f:=(E.below b).lt rfl Ah;have q:=b.size
   go_upto_region 9 with fail
   have O:n.block<K.heap.size:=E.lt rfl Ah;have F:(⟨n.block,n.off+1,none⟩:Addr).block<wr.heap.size:=f;have G:(⟨n.block,n.off+2,none⟩:Addr).block<wr.heap.size:=f;have H:(⟨n.block,n.off+3,none⟩:Addr).block<wr.heap.size:=f;have bd:Below wr wr (wr.drew.alloc (.cells (Ziiii r s t u) 2)):=Ax;have p0:=(bd.cell f).trans y;have p1:=(bd.cell F).trans z;have p2:=(bd.cell G).trans B;have p3:=(bd.cell H).trans C;have U:Below wr wr (wr.alloc (.cells (Ziiii r s t u) 2)).drew:=Ax;have S:=V (wr.drew.alloc (.cells (Ziiii r s t u) 2)) _ (Oy wr.drew r s t u _ _ rfl);have T:=V (wr.alloc (.cells (Ziiii r s t u) 2)).drew _ ((Oy wr r s t u _ _ rfl).below GJ)
   go_region_held_law (λN=>N.cell? n=ZS r∧N.cell? ⟨n.block,n.off+1,none⟩=ZS s∧N.cell? ⟨n.block,n.off+2,none⟩=ZS t∧N.cell? ⟨n.block,n.off+3,none⟩=ZS u)
    (first|(exact⟨y,z,B,C⟩)|(exact⟨p0,p1,p2,p3⟩))
    (first
     |(go_at_call 127;(with_reducible refine S.mono ?_);rintro e u1 ⟨rfl,l⟩;have l:=An bd l;have y:=(l.cell f).trans y;have z:=(l.cell F).trans z;have B:=(l.cell G).trans B;have C:=(l.cell H).trans C;have j:=Ef j l;have b:=b.trans (l.mono q);have q:=b.size;have q0:=CM f l.size;have F:=CM F l.size;have G:=CM G l.size;have H:=CM H l.size)
     |(go_at_call 127;(with_reducible refine T.mono ?_);rintro e u1 ⟨rfl,l⟩;have l:=An U l;have y:=(l.cell f).trans y;have z:=(l.cell F).trans z;have B:=(l.cell G).trans B;have C:=(l.cell H).trans C;have j:=Ef j l;have b:=b.trans (l.mono q);have q:=b.size;have q0:=CM f l.size;have F:=CM F l.size;have G:=CM G l.size;have H:=CM H l.size)
     |(refine Mc rfl _ _ rfl K.heap.size _ 0 [] J rfl j L rfl (by simp only[Nat.zero_add];omega) q ?_;intro v' N D M m;have y:=(m.cell O).trans y;have z:=(m.cell (p:=⟨n.block,n.off+1,none⟩) O).trans z;have B:=(m.cell (p:=⟨n.block,n.off+2,none⟩) O).trans B;have C:=(m.cell (p:=⟨n.block,n.off+3,none⟩) O).trans C))
   all_goals
    go_wp2_with fail
    go_roundw
    case rel=>exact⟨1,by omega,by go_num,by rw[Ak Ah];exact Z0 D Cr,M,b.trans m⟩
    case measure=>simp[intOf]
  ·obtain rfl:k=1:=Aa;rw[Ak Ah] at j;obtain⟨g,cp,rfl,ab⟩:=Ui j L rfl
   go_wp2_with fail
   go_ret;exact⟨rfl,(An X b)⟩
end
