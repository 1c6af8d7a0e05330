import Derived.Test.YtkndcebhjcfphaaGreatDoorZF
import Derived.Test.YtkndcebhjcfphaaGreatDoorZH
namespace Go.Proofs.YtkndcebhjcfphaaGreatDoor
open Go.RowKit Go.Proofs.Tryz
set_option maxRecDepth 100000
set_option maxHeartbeats 4000000
set_option linter.all false
theorem AR.farL {w:World} {B K:Nat} {h:Hd} {us:List Value} (o:AR w B K h us) {p:Addr} (a:h.row≠some p.block) (u:Value):AR (w.setCell p u) B K h us:=
 o.grown (Bc (JU _ _) (.inl rfl) _) (λb e c=>a (e.trans (by rw[<-c])))
theorem Dr.set4 {w W:World} {L g:Nat} (D:Dr w W L g) (a b c d:Value):Dr w ((((W.setCell ⟨w,0,none⟩ a).setCell ⟨w,1,none⟩ b).setCell ⟨w,2,none⟩ c).setCell ⟨w,3,none⟩ d) L g:=
 (((D.set_ (p:=⟨w,0,none⟩) Bk a).set_ (p:=⟨w,1,none⟩) Bk b).set_ (p:=⟨w,2,none⟩) Bk c).set_ (p:=⟨w,3,none⟩) Bk d
theorem Dr.set7 {w W:World} {L g:Nat} (D:Dr w W L g) (a b c d e f h:Value):Dr w (((((((W.setCell ⟨w,0,none⟩ a).setCell ⟨w,1,none⟩ b).setCell ⟨w,2,none⟩ c).setCell ⟨w,3,none⟩ d).setCell ⟨w,4,none⟩ e).setCell ⟨w,5,none⟩ f).setCell ⟨w,6,none⟩ h) L g:=
 (((D.set4 a b c d).set_ (p:=⟨w,4,none⟩) Bk e).set_ (p:=⟨w,5,none⟩) Bk f).set_ (p:=⟨w,6,none⟩) Bk h
theorem jS (L g:Nat) (w:World) (S:iC w L g):
  Calls prog 109 #[.pointer (some ⟨g,0,none⟩)] w λe w'=> ∃x y d r:Int,e=.returned (Ziiii x y d r)∧Dr w w' L g:=by
 have z:=(Dr.start S).alloc (.cells C8 65);have H:=Br w 65 C8;have gS:=S.lt
 go_enter func109,ntmps109
 go_wp2_with fail
 generalize w.alloc _=w0 at z H⊢;refine(F0 L g 60 _ z.src Ah).mono ?_;rintro e w1 ⟨x,rfl,x0,x1,N,S1⟩;have D:=z.next N S1;have X:=H.nx N Aa;clear N S1 z H
 go_wp2_with fail
 refine(F0 L g 60 _ D.src Ah).mono ?_;rintro e w2 ⟨y,rfl,y0,y1,O,S2⟩;have E:=D.next O S2;have Y:=X.nx O Aa;clear O S2 D X
 go_wp2_with fail
 refine(F0 L g 90 _ E.src Ah).mono ?_;rintro e w3 ⟨d,rfl,d0,d1,R,S3⟩;have F:=E.next R S3;have Z:=Y.nx R Aa;clear R S3 E Y
 go_wp2_with fail
 refine(F0 L g 20 _ F.src Ah).mono ?_;rintro e C ⟨r,rfl,r0,r1,T,S4⟩;have V:=F.next T S4;have I:=Z.nx T Aa;clear T S4 F Z
 go_upto_region 2 with fail
 have u:=Br C 65 (Ziiii x y (1000+d) r);have A:=V.alloc (.cells (Ziiii x y (1000+d) r) 65);have J:=I.alloc (.cells (Ziiii x y (1000+d) r) 65);have U:w<C.heap.size:=I.lt;clear V I;generalize C.alloc _=w5 at u A J⊢;generalize C.heap.size=Q at u U⊢;have i:g≠Q:=Aa;generalize 1000+d=s at*
 go_wp2_with fail
 refine(F0 L g 60 _ A.src Ah).mono ?_;rintro e w6 ⟨q,rfl,q0,q1,B,S6⟩;have c:=A.next B S6;have f:=J.nx B Aa;have l:=u.nx B i;clear B S6 A J u
 by_cases hq:q=0∨q=1∨q=2
 case neg=>
  have ai:(q==0)=false:=W7;have aj:(q==1)=false:=W7;have ak:(q==2)=false:=W7;clear hq;have K:=l.cell;have m:=f.cell;have M:=f.frozen;have n:=f.lt;go_wp2;refine AS (v:=.agg (Ziiii x y s r)) (by simp[results,results109,go_sem,m,n]) rfl ⟨x,y,s,r,rfl,c.set4 _ _ _ _⟩
 rcases hq with rfl|rfl|rfl
 ·go_wp2_with fail
  refine(iA L g [1000000,1000001,-2000,-2001] 4 _ c.src rfl Ah Ah).mono ?_;rintro e w7 ⟨p,-,rfl,a,k⟩;have t:=(c.alloc _).next a k;have b:=(f.alloc _).nx a Aa;have j:=(l.alloc _).nx a i;clear c f l a k;have K:=j.cell;have fB:=j.frozen;have m:=b.cell;have M:=b.frozen;have n:=b.lt;go_wp2;refine AS (v:=.agg (Ziiii x y p r)) (by simp[results,results109,go_sem,m,n]) rfl ⟨x,y,p,r,rfl,(t.set_ (p:=⟨Q,2,none⟩) Aw _).set4 _ _ _ _⟩
 ·go_wp2_with fail
  refine(iA L g [-1,0,5000,5001] 4 _ c.src rfl Ah Ah).mono ?_;rintro e w7 ⟨p,-,rfl,a,k⟩;have t:=(c.alloc _).next a k;have b:=(f.alloc _).nx a Aa;have j:=(l.alloc _).nx a i;clear c f l a k;have K:=j.cell;have fB:=j.frozen;have m:=b.cell;have M:=b.frozen;have n:=b.lt;go_wp2;refine AS (v:=.agg (Ziiii x y s p)) (by simp[results,results109,go_sem,m,n]) rfl ⟨x,y,s,p,rfl,(t.set_ (p:=⟨Q,3,none⟩) Aw _).set4 _ _ _ _⟩
 ·go_wp2_with fail
  refine(iA L g [-1,10000,10001] 3 _ c.src rfl Ah Ah).mono ?_;rintro e w7 ⟨p,-,rfl,a,k⟩;have t:=(c.alloc _).next a k;have b:=(f.alloc _).nx a Aa;have j:=(l.alloc _).nx a i;clear c f l a k;have K:=j.cell;have fB:=j.frozen;have m:=b.cell;have M:=b.frozen;have n:=b.lt;go_wp2;refine AS (v:=.agg (Ziiii p y s r)) (by simp[results,results109,go_sem,m,n]) rfl ⟨p,y,s,r,rfl,(t.set_ (p:=⟨Q,0,none⟩) Aw _).set4 _ _ _ _⟩
theorem jT (L g:Nat) (w:World) (S:iC w L g):
  Calls prog 71 #[.pointer (some ⟨g,0,none⟩)] w λe w'=> ∃t k l x y d r:Int,e=.returned (AD t k l x y d r)∧Dr w w' L g:=by
 have U:=(Dr.start S).alloc (.cells jz 67);have K0:=Br w 67 jz;have gS:=S.lt
 go_enter func71,ntmps71
 go_wp2_with fail
 generalize w.alloc _=w0 at U K0⊢;refine(F0 L g 200 _ U.src Ah).mono ?_;rintro e w1 ⟨t,rfl,t0,t1,g1,S1⟩;have D1:=U.next g1 S1;have K1:=K0.nx g1 Aa;clear g1 S1 U K0
 go_wp2_with fail
 refine(F0 L g 3 _ D1.src Ah).mono ?_;rintro e Z ⟨k,rfl,k0,k1,g2,S2⟩;have D2:=D1.next g2 S2;have K2:=K1.nx g2 Aa;clear g2 S2 D1 K1
 go_upto_region 2 with fail
 have z:=Br Z 67 (AD t (1+k) 0 0 0 0 0);have B:=D2.alloc (.cells (AD t (1+k) 0 0 0 0 0) 67);have E:=K2.alloc (.cells (AD t (1+k) 0 0 0 0 0) 67);have ag:w<Z.heap.size:=K2.lt;clear D2 K2;generalize Z.alloc _=w3 at z B E⊢;generalize Z.heap.size=Q at z ag⊢;have n:g≠Q:=Aa;have ap:w.heap.size≠Q:=Aa;generalize 1+k=Y at*;have u:=z.cell
 have hk:Y=1∨Y=2∨((Y==1)=false∧(Y==2)=false):=by
  simp only[Ea];omega
 rcases hk with rfl|rfl|⟨hk1,hk2⟩
 case' inl=>
  go_wp2_with fail
  refine(F0 L g 400 _ B.src Ah).mono ?_;rintro e w4 ⟨v,rfl,v0,v1,V,S4⟩;have N:=B.next V S4;have T:=E.nx V Aa;have A:=z.nx V n;clear V S4 u z B E;have u:=A.cell;have I:=A.frozen;have wv:=Bg (v-200)
  go_upto_region 7 with fail
  have i: ∃a b c x y d r:Int,Blk _ Q 67 (AD a b c x y d r):=⟨_,_,_,_,_,_,_,A.set_ 2 (ZI (v-200))⟩;have j:=T.far (p:=⟨Q,2,none⟩) Aw (ZI (v-200));have f:=N.set_ (p:=⟨Q,2,none⟩) Aw (ZI (v-200));clear A T N u I wv;generalize w4.setCell ⟨Q,2,none⟩ (ZI (v-200))=w5 at i j f⊢
 case' inr.inl=>
  go_wp2_with fail
  refine(jS L g _ B.src).mono ?_;rintro e w4 ⟨x,y,d,r,rfl,R⟩;have N:=B.next R.gr R.src;have T:=E.nx R.gr Aa;have A:=z.nx R.gr n;clear R u z B E;have u:=A.cell;have I:=A.frozen
  go_upto_region 7 with fail
  have i: ∃a b c x y d r:Int,Blk _ Q 67 (AD a b c x y d r):=⟨_,_,_,_,_,_,_,(((A.set_ 3 (ZI x)).set_ 4 (ZI y)).set_ 5 (ZI d)).set_ 6 (ZI r)⟩;have j:=(((T.far (p:=⟨Q,3,none⟩) Aw (ZI x)).far (p:=⟨Q,4,none⟩) Aw (ZI y)).far (p:=⟨Q,5,none⟩) Aw (ZI d)).far (p:=⟨Q,6,none⟩) Aw (ZI r);have f:=(((N.set_ (p:=⟨Q,3,none⟩) Aw (ZI x)).set_ (p:=⟨Q,4,none⟩) Aw (ZI y)).set_ (p:=⟨Q,5,none⟩) Aw (ZI d)).set_ (p:=⟨Q,6,none⟩) Aw (ZI r);clear A T N u I;generalize(((w4.setCell ⟨Q,3,none⟩ (ZI x)).setCell ⟨Q,4,none⟩ (ZI y)).setCell ⟨Q,5,none⟩ (ZI d)).setCell ⟨Q,6,none⟩ (ZI r)=w5 at i j f⊢
 case' inr.inr=>
  go_upto_region 7 with fail
  have i: ∃a b c x y d r:Int,Blk _ Q 67 (AD a b c x y d r):=⟨_,_,_,_,_,_,_,z⟩;have j:=E;have f:=B;clear z E B u
 all_goals
  obtain⟨M,J,K,x,y,d,r,i⟩:=i
  go_wp2_with fail
  refine(F0 L g 60 _ f.src Ah).mono ?_;rintro e w6 ⟨q,rfl,-,-,X,S6⟩;replace f:=f.next X S6;replace j:=j.nx X Aa;replace i:=i.nx X n
  have hq:q=0∨q=1∨q=2∨((q==0)=false∧(q==1)=false∧(q==2)=false):=by
   simp only[Ea];omega
  clear X S6;rcases hq with rfl|rfl|rfl|⟨q0,q1,q2⟩
  ·go_wp2_with fail
   refine(iA L g [-1,1000000,1000001] 3 _ f.src rfl Ah Ah).mono ?_;rintro e w7 ⟨p,-,rfl,m,D⟩;have O:=(f.alloc _).next m D;have s:=(j.alloc _).nx m Aa;have C:=(i.alloc _).nx m n;clear f j i m D;have u:=C.cell;have I:=C.frozen;have F:=s.cell;have fK:=s.frozen;have H:=s.lt;go_wp2;refine AS (v:=.agg (AD p J K x y d r)) (by simp[results,results71,go_sem,F,H]) rfl ⟨p,J,K,x,y,d,r,rfl,(O.set_ (p:=⟨Q,0,none⟩) Aw _).set7 _ _ _ _ _ _ _⟩
  ·go_wp2_with fail
   refine(iA L g [0,4,1,2,3] 5 _ f.src rfl Ah Ah).mono ?_;rintro e w7 ⟨p,-,rfl,m,D⟩;have O:=(f.alloc _).next m D;have s:=(j.alloc _).nx m Aa;have C:=(i.alloc _).nx m n;clear f j i m D;have u:=C.cell;have I:=C.frozen;have F:=s.cell;have fK:=s.frozen;have H:=s.lt;go_wp2;refine AS (v:=.agg (AD M p K x y d r)) (by simp[results,results71,go_sem,F,H]) rfl ⟨M,p,K,x,y,d,r,rfl,(O.set_ (p:=⟨Q,1,none⟩) Aw _).set7 _ _ _ _ _ _ _⟩
  ·go_wp2_with fail
   refine(iA L g [1,2000,2001] 3 _ f.src rfl Ah Ah).mono ?_;rintro e w7 ⟨p,-,rfl,m,D⟩;have O:=(f.alloc _).next m D;have s:=(j.alloc _).nx m Aa;have C:=(i.alloc _).nx m n;clear f j i m D;have u:=C.cell;have I:=C.frozen;have F:=s.cell;have fK:=s.frozen;have H:=s.lt;go_wp2;refine AS (v:=.agg (AD M J p x y d r)) (by simp[results,results71,go_sem,F,H]) rfl ⟨M,J,p,x,y,d,r,rfl,(O.set_ (p:=⟨Q,2,none⟩) Aw _).set7 _ _ _ _ _ _ _⟩
  ·have u:=i.cell;have F:=j.cell;have fK:=j.frozen;have H:=j.lt;go_wp2;refine AS (v:=.agg (AD M J K x y d r)) (by simp[results,results71,go_sem,F,H]) rfl ⟨M,J,K,x,y,d,r,rfl,f.set7 _ _ _ _ _ _ _⟩
theorem jF (w:World) (a b c d e f g:Int) (t:TypeId):Rd (w.alloc (.cells (AD a b c d e f g) t)) (some ⟨w,0,none⟩) (1*7) (ints [a,b,c,d,e,f,g]):=by
 refine⟨rfl,λ_=>⟨_,rfl,λi hi=> ?_⟩⟩;rw[CE,(Br w t (AD a b c d e f g)).cell]
 simp[ints]
theorem jZ:(prog.info? 67).map (λi=>(i.zero.map (·.cells),i.size,i.bytes))=some (some #[.int .i64 0,.int .i64 0,.int .i64 0,.int .i64 0,.int .i64 0,.int .i64 0,.int .i64 0],7,56):=We51ceQ
theorem jW (n:Nat) (f:n<=1048576) (W:World):
  (Instr.makeSlice 33 (ZI n) (ZI n)).run prog W=.ok (.slice (some ⟨W,0,none⟩) n n) (W.alloc (.cells (madeCells jz (n*7)) 67)):=by
 have h:=jZ
 cases hi:prog.info? 67 with
 |none=>rw[hi] at h;simp at h
 |some i=>
  rw[hi] at h;simp only[Option.map_some,Gs,Prod.mk.injEq] at h;obtain⟨a,d,c⟩:=h
  cases hz0:i.zero with
  |none=>rw[hz0] at a;simp at a
  |some z=>
   have b:=GE (P:=prog) 33 67 i z underlying33 hi hz0 .i64 .i64 n n Bk (by rw[c];omega) Aa W
   rw[hz0] at a;simp only[Option.map_some,Gs] at a;rw[d,a] at b;exact b
def kb (w:World) (L g:Nat) (e:Ending) (w':World):Prop:=
 ∃(h:Hd) (xs:List Int),e=.returned (.slice h.A h.n h.c)∧h.n<=60∧h.n<=h.c∧Rd w' h.A (h.n*7) (ints xs)∧(∀q,blkp h.A (h.n*7)=some q->w<=q)∧Dr w w' L g
theorem jX (L g:Nat) (w:World) (S:iC w L g):
  Calls prog 46 #[.pointer (some ⟨g,0,none⟩)] w (kb w L g):=by
 have D0:=(Dr.start S).alloc (.cells #[] 67);have Y:=S.lt;have O0:AR (w.alloc (.cells #[] 67)) w.heap.size 7 ⟨some ⟨w,0,none⟩,0,0⟩ (ints []):=AR.empty _ _ _ _
 go_enter func46,ntmps46
 go_wp2_with fail
 generalize w.alloc _=w0 at D0 O0⊢;refine(F0 L g 12 _ D0.src Ah).mono ?_;rintro e w1 ⟨m,rfl,m0,m1,g1,S1⟩;have D1:=D0.next g1 S1;have O1:=O0.nx g1 Y.1;clear D0 O0 g1 S1
 go_wp2_with fail
 go_loopw [3,4] (λv3 v4 wr=> ∃(v:Int) (h:Hd) (xs:List Int),0<=v∧v<=11∧v4=.int .i64 v∧v3=.slice h.A h.n h.c∧(h.n:Int)+v<=11∧AR wr w.heap.size 7 h (ints xs)∧Dr w wr L g)
  (λ_ v4 _=>(intOf v4).toNat)
 case atStart=>exact⟨m,⟨some ⟨w,0,none⟩,0,0⟩,[],m0,by omega,rfl,rfl,by simp only;omega,O1,D1⟩
 case round=>
  obtain⟨v,⟨C,B,E⟩,xs,bn,bo,rfl,rfl,Z,o,D⟩:=hrel;simp only at Z;clear D1 O1
  by_cases hv:0<v
  ·have bq:=Bg (v-1)
   go_wp2_with fail
   refine(jT L g _ D.src).mono ?_;rintro e T ⟨t,k,l,x,y,d,r,rfl,E4⟩;have D4:=D.next E4.gr E4.src;have o4:=o.nx E4.gr Y.1;clear D o E4
   go_upto_region 6 with fail
   have O:=Br T 67 (AD t k l x y d r);have D5:=D4.alloc (.cells (AD t k l x y d r) 67);have o5:=o4.below ((AP _ _).alloc Bk (.cells (AD t k l x y d r) 67));have j:w<=T.heap.size:=D4.size;have aF:g<T:=D4.src.lt.1;have aa: ∀b,(⟨C,B,E⟩:Hd).row=some b->b<T:=λb e=>(o4.rowlt b e).2;clear D4 o4;generalize T.alloc _=w5 at O D5 o5⊢;generalize T.heap.size=Q at O j aF aa⊢;have c5:=O.cell;have q5:=O.lt
   go_wp2_with fail
   refine(Dt t k l x y d r _).mono ?_;rintro e w6 ⟨rfl,b6⟩;have D6:=D5.bel b6;have o6:=o5.below b6;have B6:=O.below b6 q5;clear D5 o5 O b6 c5 q5;generalize recB t k l x y d r=rb
   cases rb
   case' false=>
    go_wp2_with fail
    refine(F0 L g 4 _ D6.src Ah).mono ?_;rintro e w7 ⟨z,rfl,z0,z1,g7,S7⟩;have D7:=D6.next g7 S7;have o7:=o6.nx g7 Y.1;have B7:=B6.nx g7 Aa;clear D6 o6 B6 g7 S7
    by_cases hz:0<z
    case' pos=>
     go_wp2_with fail
     refine(F0 L g 200 _ D7.src Ah).mono ?_;rintro e w8 ⟨t2,rfl,t0,t1,g8,S8⟩;have D8:=D7.next g8 S8;have o8:=o7.nx g8 Y.1;have B8:=B7.nx g8 Aa;clear D7 o7 B7 g8 S8;have c8:=B8.cell;have f8:=B8.frozen
     go_upto_region 8 with fail
     have f: ∀(W:World) (i:Nat) (u:Value),AR W w.heap.size 7 ⟨C,B,E⟩ (ints xs)->AR (W.setCell ⟨Q,i,none⟩ u) w.heap.size 7 ⟨C,B,E⟩ (ints xs):=λW i u o=>o.farL (λe=>by have:=aa _ e;simp only at this;omega) u
     have R: ∃a b c x y d r:Int,Blk _ Q 67 (AD a b c x y d r):=⟨_,_,_,_,_,_,_,((((((B8.set_ 0 (ZI t2)).set_ 1 (ZI 1)).set_ 2 (ZI 7)).set_ 3 (ZI 0)).set_ 4 (ZI 0)).set_ 5 (ZI 0)).set_ 6 (ZI 0)⟩;have DX:=((((((D8.set_ (p:=⟨Q,0,none⟩) j (ZI t2)).set_ (p:=⟨Q,1,none⟩) j (ZI 1)).set_ (p:=⟨Q,2,none⟩) j (ZI 7)).set_ (p:=⟨Q,3,none⟩) j (ZI 0)).set_ (p:=⟨Q,4,none⟩) j (ZI 0)).set_ (p:=⟨Q,5,none⟩) j (ZI 0)).set_ (p:=⟨Q,6,none⟩) j (ZI 0);have oX:=f _ 6 (ZI 0) (f _ 5 (ZI 0) (f _ 4 (ZI 0) (f _ 3 (ZI 0) (f _ 2 (ZI 7) (f _ 1 (ZI 1) (f _ 0 (ZI t2) o8))))));clear B8 D8 o8 c8 f8 f;generalize((((((w8.setCell ⟨Q,0,none⟩ (ZI t2)).setCell ⟨Q,1,none⟩ (ZI 1)).setCell ⟨Q,2,none⟩ (ZI 7)).setCell ⟨Q,3,none⟩ (ZI 0)).setCell ⟨Q,4,none⟩ (ZI 0)).setCell ⟨Q,5,none⟩ (ZI 0)).setCell ⟨Q,6,none⟩ (ZI 0)=w9 at R DX oX⊢
    case' neg=>
     have bs:(z>0)=False:=by simpa using hz
     have R: ∃a b c x y d r:Int,Blk _ Q 67 (AD a b c x y d r):=⟨_,_,_,_,_,_,_,B7⟩;have DX:=D7;have oX:=o7
   case' true=>
    have R: ∃a b c x y d r:Int,Blk _ Q 67 (AD a b c x y d r):=⟨_,_,_,_,_,_,_,B6⟩;have DX:=D6;have oX:=o6
   all_goals
    go_upto_region 8 with fail
    obtain⟨t,k,l,x,y,d,r,R⟩:=R;have oz:=oX.below ((AP _ _).alloc Bk (.cells (AD t k l x y d r) 67));have RE:=λV=>jF V t k l x y d r 67;have X:=DX.alloc (.cells (AD t k l x y d r) 67);have M:=X.size;have K:B+1<=1099511627776:=Aa;have cB:=R.cell;have H: ∀b,(⟨C,B,E⟩:Hd).row=some b->w<=b:=λb e=>(oz.rowlt b e).1
    go_wp2_with (at_builtin;refine Aj rfl _ _ 33 rfl 67 7 56 underlying33 Gc Ah w.heap.size ⟨C,B,E⟩ _ rfl oz _ 1 1 (ints [t,k,l,x,y,d,r]) rfl (RE _) (Ao _) K Ah M ?_;intro G wg s HG gg N)
    have J:=Ai s;have F:(G.n:Int)=(B:Int)+1:=by rw[s];rfl
    have I:=Ai F;clear s N F
    go_roundw
    case rel=>exact⟨v-1,G,xs++ [t,k,l,x,y,d,r],by omega,by omega,by first|rfl|go_num,by first|rfl|rw[J.out],by have:=I.out;omega,by rw[js];exact HG,X.grown gg H⟩
    case measure=>simp[intOf];omega
  ·have aE:v=0:=Aa;subst aE
   go_wp2_with fail
   refine(F0 L g 60 _ D.src Ah).mono ?_;rintro e w2 ⟨q,rfl,q0,q1,g2,S2⟩;have U:=D.next g2 S2;have o2:=o.nx g2 Y.1;clear D o g2 S2
   by_cases h0:q=0
   ·subst h0
    go_wp2_with fail
    refine(F0 L g 2 _ U.src Ah).mono ?_;rintro e w3 ⟨y,rfl,y0,y1,g3,S3⟩;have D3:=U.next g3 S3;obtain⟨c,rfl⟩: ∃c:Nat,y=(c:Int):=⟨y.toNat,by omega⟩
    have hc:c<=1:=Aa;have aD:=jW c Aa;have DM:=D3.alloc (.cells (madeCells jz (c*7)) 67)
    have RM:Rd (w3.alloc (.cells (madeCells jz (c*7)) 67)) (some ⟨w3,0,none⟩) (c*7) (ints (List.replicate (c*7) 0)):=by
     refine⟨by simp[ints],λ_=>⟨_,rfl,λi hi=> ?_⟩⟩
     rw[CE,(Br w3 67 _).cell];rcases Nat.le_one_iff_eq_zero_or_eq_one.1 hc with rfl|rfl
     ·omega
     ·match i,hi with
      |0,_=>simp[madeCells,ints]
      |1,_=>simp[madeCells,ints]
      |2,_=>simp[madeCells,ints]
      |3,_=>simp[madeCells,ints]
      |4,_=>simp[madeCells,ints]
      |5,_=>simp[madeCells,ints]
      |6,_=>simp[madeCells,ints]
    generalize madeCells jz (c*7)=cs at aD DM RM;clear y1;go_wp2;go_ret;exact⟨⟨some ⟨w3,0,none⟩,c,c⟩,_,rfl,by simp only;omega,Cp _,RM,λq e=>by obtain⟨ad,ha,-,rfl⟩:=Df e;cases ha;exact D3.size,DM⟩
   have bk:(q==0)=false:=by rw[Ea];exact h0
   by_cases h1:q=1
   rotate_left
   ·have bl:(q==1)=false:=by rw[Ea];exact h1
    have nc:=o2.nc;have rr:=o2.rd;have ww:=o2.wr;go_wp2;go_ret;exact⟨⟨C,B,E⟩,xs,rfl,by simp only;omega,nc,rr,λq e=>ww.blockp e,U⟩
   subst h1
   go_wp2_with fail
   go_loopw [3,6] (λv3 v6 wr=> ∃(k:Nat) (h:Hd) (ys:List Int),k<=40∧v6=.int .i64 k∧v3=.slice h.A h.n h.c∧h.n<=11+k∧AR wr w.heap.size 7 h (ints ys)∧Dr w wr L g)
    (λ_ v6 _=>40-(intOf v6).toNat)
   case atStart=>exact⟨0,⟨C,B,E⟩,xs,AZ _,rfl,rfl,by simp only;omega,o2,U⟩
   case round=>
    obtain⟨k,⟨C,B,E⟩,ys,hk,rfl,rfl,aC,o,D⟩:=hrel;simp only at aC;clear o2 U Z
    by_cases bi:k<40
    ·have a6:(k:Int)<40:=Aa;have uk:=Bg (300+(k:Int));generalize bh:300+(k:Int)=kk at*;have bz:Below wr wr (wr.alloc (.cells (AD kk 1 0 0 0 0 0) 67)):=BU;have oz:=o.below bz;have RE:=jF wr kk 1 0 0 0 0 0 67;have X:=D.alloc (.cells (AD kk 1 0 0 0 0 0) 67);have M:=X.size;have K:B+1<=1099511627776:=Aa;have H: ∀b,(⟨C,B,E⟩:Hd).row=some b->w<=b:=λb e=>(oz.rowlt b e).1
     go_wp2_with (at_builtin;refine Aj rfl _ _ 33 rfl 67 7 56 underlying33 Gc Ah w.heap.size ⟨C,B,E⟩ _ rfl oz _ 1 1 (ints [kk,1,0,0,0,0,0]) rfl RE (Ao _) K Ah M ?_;intro G wg s HG gg N)
     have J:=Ai s;have F:G.n<=11+(k+1):=by rw[s];show B+1<=_;omega
     have I:=Ai F;clear s N F
     go_roundw
     case rel=>exact⟨k+1,G,ys++ [kk,1,0,0,0,0,0],by omega,by go_num,by first|rfl|rw[J.out],I.out,by rw[js];exact HG,X.grown gg H⟩
     case measure=>simp[intOf];omega
    ·obtain rfl:k=40:=Aa;have nc:=o.nc;have rr:=o.rd;have ww:=o.wr;go_wp2;go_ret;exact⟨⟨C,B,E⟩,ys,rfl,by simp only;omega,nc,rr,λq e=>ww.blockp e,D⟩
theorem Dr.trans' {w W W':World} {L g:Nat} (D:Dr w W L g) (k:Dr W W' L g):Dr w W' L g:=⟨Tq D.gr k.gr,k.src,D.lt,D.le⟩
structure iB (w W:World) (L g:Nat) (hd hv:Hd) (xs ys:List Int):Prop where
 D:Dr w W L g
 K:Blk W w.heap.size 30 QW
 oD:AR W (w.heap.size+1) 1 hd (ints xs)
 oV:AR W (w.heap.size+1) 1 hv (ints ys)
 off: ∀q,hd.row=some q->hv.row≠some q
section
variable {w W W' : World} {L g : Nat} {hd hv G : Hd} {xs ys us : List Int}
theorem iB.next (T:iB w W L g hd hv xs ys) (k:W.grownBy W' (some g)) (S:iC W' L g):iB w W' L g hd hv xs ys:=
 have h:=T.D.lt
 ⟨T.D.next k S,T.K.nx k Aa,T.oD.nx k Aa,T.oV.nx k Aa,T.off⟩
theorem iB.bel (T:iB w W L g hd hv xs ys) (b:Below W W W'):iB w W' L g hd hv xs ys:=⟨T.D.bel b,T.K.below b T.K.lt,T.oD.below b,T.oV.below b,T.off⟩
theorem iB.alloc (T:iB w W L g hd hv xs ys) (o:Obj):iB w (W.alloc o) L g hd hv xs ys:=T.bel ((AP _ _).alloc Bk o)
theorem iB.pushD (T:iB w W L g hd hv xs ys) (d:AR W' (w.heap.size+1) 1 G (ints xs++ints us)) (gg:W.grownBy W' hd.row) (a:G.row=hd.row∨ ∃q,G.row=some q∧W.heap.size<=q):iB w W' L g G hv (xs++us) ys:=by
 refine⟨T.D.grown gg (λb e=>by have:=(T.oD.rowlt b e).1;omega),T.K.grown gg (λe=>by have:=(T.oD.rowlt _ e).1;omega),by rw[js];exact d,T.oV.grown gg (λq e c=>T.off _ c e),λq e e2=> ?_⟩
 rcases a with h|⟨r,h,h'⟩
 ·exact T.off q (h▸e) e2
 ·rw[h] at e;injection e with e;have:=(T.oV.rowlt _ e2).2;omega
theorem iB.setD (T:iB w W L g hd hv xs ys) {ad:Addr} (h:0<hd.n) (e:hd.A=some ad) (v:Int):iB w (W.setCell ad (ZI v)) L g hd hv (xs.set 0 v) ys:=by
 have a:=Hd.row_mk e (by have:=T.oD.nc;omega)
 have b:=(T.oD.rowlt _ a).1;have s:=T.oD.set_ h e v;rw[Gu] at s;exact⟨T.D.set_ Aa _,T.K.far Aa _,s,T.oV.farL (T.off _ a) _,T.off⟩
theorem iB.setV (T:iB w W L g hd hv xs ys) {ad:Addr} (h:0<hv.n) (e:hv.A=some ad) (v:Int):iB w (W.setCell ad (ZI v)) L g hd hv xs (ys.set 0 v):=by
 have a:=Hd.row_mk e (by have:=T.oV.nc;omega)
 have b:=(T.oV.rowlt _ a).1;have s:=T.oV.set_ h e v;rw[Gu] at s;exact⟨T.D.set_ Aa _,T.K.far Aa _,T.oD.farL (λe2=>T.off _ e2 a) _,s,T.off⟩
theorem iB.pushV (T:iB w W L g hd hv xs ys) (d:AR W' (w.heap.size+1) 1 G (ints ys++ints us)) (gg:W.grownBy W' hv.row) (a:G.row=hv.row∨ ∃q,G.row=some q∧W.heap.size<=q):iB w W' L g hd G xs (ys++us):=by
 refine⟨T.D.grown gg (λb e=>by have:=(T.oV.rowlt b e).1;omega),T.K.grown gg (λe=>by have:=(T.oV.rowlt _ e).1;omega),T.oD.grown gg (λq e c=>T.off _ e c),by rw[js];exact d,λq e e2=> ?_⟩
 rcases a with h|⟨r,h,h'⟩
 ·exact T.off q e (h▸e2)
 ·rw[h] at e2;injection e2 with e2;have:=(T.oD.rowlt _ e).2;omega
end
def iY (L g:Nat) (w:World) (e:Ending) (w':World):Prop:=
 ∃(hd hv:Hd) (xs ys:List Int),e=.returned (CH hd.A hd.n hd.c hv.A hv.n hv.c)∧hd.n<=20∧hv.n<=20∧hd.n<=hd.c∧hv.n<=hv.c∧Rd w' hd.A hd.n (ints xs)∧Rd w' hv.A hv.n (ints ys)∧(∀q,blkp hd.A hd.n=some q∨blkp hv.A hv.n=some q->w<=q)∧Dr w w' L g
theorem iB.fin {w W:World} {L g:Nat} {hd hv:Hd} {xs ys:List Int} (T:iB w W L g hd hv xs ys) (d:hd.n<=20) (i:hv.n<=20) (a b:Value):
  iY L g w (.returned (CH hd.A hd.n hd.c hv.A hv.n hv.c)) ((W.setCell ⟨w,0,none⟩ a).setCell ⟨w,1,none⟩ b):=
 have f {B:Nat} {h:Hd} {us:List Value} (o:AR W (w.heap.size+1) 1 h us):Rd ((W.setCell ⟨w,0,none⟩ a).setCell ⟨w,1,none⟩ b) h.A h.n us:=
  ((o.farL (p:=⟨w,0,none⟩) (λe=>by have:=(o.rowlt _ e).1;simp only at this;omega) a).farL (p:=⟨w,1,none⟩) (λe=>by have:=(o.rowlt _ e).1;simp only at this;omega) b).rd1
 ⟨hd,hv,xs,ys,rfl,d,i,T.oD.nc,T.oV.nc,f (B:=0) T.oD,f (B:=0) T.oV,λq j=>by rcases j with e|e;(·have:=T.oD.wr1.blockp e;omega);(·have:=T.oV.wr1.blockp e;omega),(T.D.set_ (p:=⟨w,0,none⟩) Bk a).set_ (p:=⟨w,1,none⟩) Bk b⟩
theorem io (w:World) (x:Int) (e:TypeId):Rd (w.alloc (.cells #[ZI x] e)) (some ⟨w,0,none⟩) (1*1) (ints [x]):=jb w [x] e 1 rfl
theorem iT (L g:Nat) (w:World) (S:iC w L g):
  Calls prog 86 #[.pointer (some ⟨g,0,none⟩)] w (iY L g w):=by
 have D0:=(((Dr.start S).alloc (.cells QW 30)).alloc (.cells #[] 2)).alloc (.cells #[] 2);have K0:=((Br w 30 QW).alloc (.cells #[] 2)).alloc (.cells #[] 2)
 go_enter func86,ntmps86
 go_upto_region 2 with fail
 generalize((w.alloc _).alloc _).alloc _=w0 at D0 K0⊢;generalize(some (⟨w+1,0,none⟩:Addr))=PA;generalize(some (⟨w+1+1,0,none⟩:Addr))=PB;have T0:iB w w0 L g ⟨PA,0,0⟩ ⟨PB,0,0⟩ [] []:=⟨D0,K0,AR.empty _ _ _ _,AR.empty _ _ _ _,λq e=>by simp[Hd.row] at e⟩
 clear D0 K0
 go_wp2_with fail
 refine(F0 L g 60000 _ T0.D.src Ah).mono ?_;rintro e w1 ⟨s,rfl,s0,s1,g1,S1⟩;replace T0:=T0.next g1 S1;clear g1 S1
 go_wp2_with fail
 refine(F0 L g 4 _ T0.D.src Ah).mono ?_;rintro e w2 ⟨v,rfl,v0,v1,g2,S2⟩;replace T0:=T0.next g2 S2;clear g2 S2
 go_wp2_with fail
 obtain⟨m,hm⟩: ∃m:Int,2+v=m:=⟨_,rfl⟩;have bb:2<=m∧m<=5:=Aa;generalize aI:1480000+s=s' at*;have aj:1300000<=s'∧s'<=1700000:=Aa;rw[hm];clear hm v0 v1 s0 s1 aI
 go_loopw [3,4,5,6,7] (λt3 t4 t5 t6 t7 wr=> ∃(v d s:Int) (hd hv:Hd) (xs ys:List Int),0<=v∧v<=5∧0<=d∧d+30000*v<=150000∧1300000<=s∧s<=1700000∧t3=.slice hd.A hd.n hd.c∧t4=.slice hv.A hv.n hv.c∧t5=.int .i64 d∧t6=.int .i64 s∧t7=.int .i64 v∧(hd.n:Int)+v=m∧(hv.n:Int)+v=m∧iB w wr L g hd hv xs ys)
  (λ_ _ _ _ t7 _=>(intOf t7).toNat)
 case atStart=>exact⟨m,0,s',⟨PA,0,0⟩,⟨PB,0,0⟩,[],[],by omega,by omega,by omega,by omega,aj.1,aj.2,rfl,rfl,rfl,rfl,rfl,by simp,by simp,T0⟩
 case round=>
  obtain⟨v,d,s,⟨C,dn,y⟩,⟨Q,i,N⟩,xs,ys,v0,v1,d0,d1,s0,s1,rfl,rfl,rfl,rfl,rfl,H,J,T⟩:=hrel;simp only at H J;clear T0 aj
  by_cases aJ:0<v
  ·have bd:=Bg (v-1);have R:dn+1<=1099511627776:=Aa;have U:i+1<=1099511627776:=Aa;have af:=Ai H;have ag:=Ai J;clear H J;have j:=T.alloc (.cells #[ZI d] 2);have E:=io wr d 2;have a:w+1<=(wr.alloc (.cells #[ZI d] 2)).heap.size:=by have:=T.K.lt;simp;omega
   go_upto_region 7 with(at_builtin;refine Aj rfl _ _ 28 rfl 2 1 8 underlying28 AJ Ah (w.heap.size+1) ⟨C,dn,y⟩ _ rfl j.oD _ 1 1 (ints [d]) rfl E (Ao _) R Ah a ?_;intro G1 B t u l b;have O:=Ai t;clear t)
   have T2:=j.pushD u l b;clear T j E a u l b;have T3:=T2.alloc (.cells #[ZI s] 2);have R3:=io B s 2;have au:w+1<=(B.alloc (.cells #[ZI s] 2)).heap.size:=by have:=T2.K.lt;simp;omega
   go_upto_region 8 with(at_builtin;refine Aj rfl _ _ 28 rfl 2 1 8 underlying28 AJ Ah (w.heap.size+1) ⟨Q,i,N⟩ _ rfl T3.oV _ 1 1 (ints [s]) rfl R3 (Ao _) U Ah au ?_;intro G2 az I M F f;have V:=Ai I;clear I)
   have T4:=T3.pushV M F f;clear T2 T3 R3 au M F f;have u1:=Bg (d+500)
   go_wp2_with fail
   refine(F0 L g 20000 _ T4.D.src Ah).mono ?_;rintro e w5 ⟨x,rfl,x0,x1,g5,S5⟩;have T5:=T4.next g5 S5;clear g5 S5 T4;have u2:=Bg (d+500+x)
   go_wp2_with fail
   refine(F0 L g 41 _ T5.D.src Ah).mono ?_;rintro e w6 ⟨r,rfl,r0,r1,g6,S6⟩;have T6:=T5.next g6 S6;clear g6 S6 T5;have u3:=Bg (r-20)
   go_wp2_with fail
   refine(iA L g [500,100,1500,1] 4 _ T6.D.src rfl Ah Ah).mono ?_;rintro e w7 ⟨p,hp,rfl,g7,S7⟩;have T7:=(T6.alloc _).next g7 S7;clear g7 S7 T6
   have hz: -30000<=(r-20)*p∧(r-20)*p<=30000:=by
    simp only[CC,I5,or_false] at hp;rcases hp with rfl|rfl|rfl|rfl<;>omega
   obtain⟨z,ak⟩: ∃z,(r-20)*p=z:=⟨_,rfl⟩;rw[ak] at hz;have u4:IntKind.i64.wrap ((r-20)*p)=z:=by rw[ak];exact Ff _ Aa
   have u5:=Bg (s+z);clear hp ak;go_wp2
   go_roundw
   case rel=>exact⟨v-1,d+500+x,_,G1,G2,_,_,by omega,by omega,by omega,by omega,by split<;>(try split)<;>omega,by split<;>(try split)<;>omega,rfl,rfl,rfl,rfl,rfl,by have h1:=O.out;have h2:=af.out;omega,by have h1:=V.out;have h2:=ag.out;omega,T7⟩
   case measure=>simp[intOf];omega
  ·obtain rfl:v=0:=Aa;have R:dn+1<=1099511627776:=Aa;have U:i+1<=1099511627776:=Aa;have hd1:0<dn:=Aa;have aw:0<i:=Aa;have ai:dn<=6:=Aa;have ax:i<=6:=Aa;clear H J v0 v1 aJ
   go_wp2_with fail
   refine(F0 L g 40 _ T.D.src Ah).mono ?_;rintro e w2 ⟨q,rfl,-,-,g2,S2⟩;replace T:=T.next g2 S2;clear g2 S2
   have hq:q=0∨q=1∨q=2∨q=3∨q=4∨((q==0)=false∧(q==1)=false∧(q==2)=false∧(q==3)=false∧(q==4)=false):=by
    simp only[Ea];omega
   rcases hq with rfl|rfl|rfl|rfl|rfl|⟨q0,q1,q2,q3,q4⟩
   ·go_wp2_with fail
    refine(iA L g [1,-1] 2 _ T.D.src rfl Ah Ah).mono ?_;rintro e w3 ⟨p,-,rfl,Z,X⟩;replace T:=(T.alloc _).next Z X;clear Z X;obtain⟨ad,hA,hx,hf⟩:=T.oD.cell hd1;simp only at hA;subst hA;rw[Gu] at hx hf;replace T:=T.setD hd1 rfl p
    go_upto_region 27 with fail
    generalize w3.setCell ad (ZI p)=w4 at T⊢;clear hx hf;have Y:=λo=>T.K.cell o;have fK:=λo=>T.K.frozen o;have gK:=T.K.lt;go_wp2;refine AS (v:=.agg (CH (some ad) dn y Q i N)) (by simp[results,results86,go_sem,Y,gK]) rfl ?_
    exact T.fin (hd:=⟨(some ad),dn,y⟩) (hv:=⟨Q,i,N⟩) Aw Aw _ _
   ·go_wp2_with fail
    refine(iA L g [1300000,1299999,1700000,1700001] 4 _ T.D.src rfl Ah Ah).mono ?_;rintro e w3 ⟨p,-,rfl,Z,X⟩;replace T:=(T.alloc _).next Z X;clear Z X;obtain⟨ad,hA,hx,hf⟩:=T.oV.cell aw;simp only at hA;subst hA;rw[Gu] at hx hf;replace T:=T.setV aw rfl p
    go_upto_region 27 with fail
    generalize w3.setCell ad (ZI p)=w4 at T⊢;clear hx hf;have Y:=λo=>T.K.cell o;have fK:=λo=>T.K.frozen o;have gK:=T.K.lt;go_wp2;refine AS (v:=.agg (CH C dn y (some ad) i N)) (by simp[results,results86,go_sem,Y,gK]) rfl ?_
    exact T.fin (hd:=⟨C,dn,y⟩) (hv:=⟨(some ad),i,N⟩) Aw Aw _ _
   ·go_wp2_with fail
    refine(iA L g [1000000,1000001,5] 3 _ T.D.src rfl Ah Ah).mono ?_;rintro e w3 ⟨p,-,rfl,Z,X⟩;replace T:=(T.alloc _).next Z X;clear Z X;have j:=T.alloc (.cells #[ZI p] 2);have E:=io w3 p 2;have a:w+1<=(w3.alloc (.cells #[ZI p] 2)).heap.size:=by have:=T.K.lt;simp;omega
    go_upto_region 17 with(at_builtin;refine Aj rfl _ _ 28 rfl 2 1 8 underlying28 AJ Ah (w.heap.size+1) ⟨C,dn,y⟩ _ rfl j.oD _ 1 1 (ints [p]) rfl E (Ao _) R Ah a ?_;intro G1 B t u l b;have O:=Ai t;clear t)
    replace T:=j.pushD u l b;clear j E a u l b;have j:=T.alloc (.cells #[ZI 1500000] 2);have E:=io B 1500000 2;have a:w+1<=(B.alloc (.cells #[ZI 1500000] 2)).heap.size:=by have:=T.K.lt;simp;omega
    go_upto_region 27 with(at_builtin;refine Aj rfl _ _ 28 rfl 2 1 8 underlying28 AJ Ah (w.heap.size+1) ⟨Q,i,N⟩ _ rfl j.oV _ 1 1 (ints [1500000]) rfl E (Ao _) U Ah a ?_;intro G2 az I M F f;have V:=Ai I;clear I)
    replace T:=j.pushV M F f;clear j E a M F f;obtain⟨C,dn,y⟩:=G1;obtain⟨Q,i,N⟩:=G2;replace ai:dn<=20:=by have:=O.out;simp only at this;omega
    replace ax:i<=20:=by have:=V.out;simp only at this;omega
    have Y:=λo=>T.K.cell o;have fK:=λo=>T.K.frozen o;have gK:=T.K.lt;go_wp2;refine AS (v:=.agg (CH C dn y Q i N)) (by simp[results,results86,go_sem,Y,gK]) rfl ?_
    exact T.fin (hd:=⟨C,dn,y⟩) (hv:=⟨Q,i,N⟩) Aw Aw _ _
   ·have j:=T.alloc (.cells #[ZI d] 2);have E:=io w2 d 2;have a:w+1<=(w2.alloc (.cells #[ZI d] 2)).heap.size:=by have:=T.K.lt;simp;omega
    go_upto_region 27 with(at_builtin;refine Aj rfl _ _ 28 rfl 2 1 8 underlying28 AJ Ah (w.heap.size+1) ⟨C,dn,y⟩ _ rfl j.oD _ 1 1 (ints [d]) rfl E (Ao _) R Ah a ?_;intro G1 B t u l b;have O:=Ai t;clear t)
    replace T:=j.pushD u l b;clear j E a u l b;obtain⟨C,dn,y⟩:=G1;replace ai:dn<=20:=by have:=O.out;simp only at this;omega
    have Y:=λo=>T.K.cell o;have fK:=λo=>T.K.frozen o;have gK:=T.K.lt;go_wp2;refine AS (v:=.agg (CH C dn y Q i N)) (by simp[results,results86,go_sem,Y,gK]) rfl ?_
    exact T.fin (hd:=⟨C,dn,y⟩) (hv:=⟨Q,i,N⟩) Aw Aw _ _
   ·clear R U
    go_wp2_with fail
    go_loopw [3,4,8] (λt3 t4 t8 wr=> ∃(k:Nat) (hd hv:Hd) (xs ys:List Int),k<=13∧t3=.slice hd.A hd.n hd.c∧t4=.slice hv.A hv.n hv.c∧t8=.int .i64 (k:Int)∧hd.n=k∧hv.n=k∧iB w wr L g hd hv xs ys)
     (λ_ _ t8 _=>13-(intOf t8).toNat)
    case atStart=>exact⟨0,⟨none,0,0⟩,⟨none,0,0⟩,[],[],by omega,rfl,rfl,rfl,rfl,rfl,⟨T.D,T.K,AR.nil _ _ _,AR.nil _ _ _,λq e=>by simp[Hd.row] at e⟩⟩
    case round=>
     clear T;obtain⟨k,⟨C,dn,y⟩,⟨Q,i,N⟩,xs,ys,hk,rfl,rfl,rfl,H,J,T⟩:=hrel;simp only at H J;have af:=Ai H;have ag:=Ai J;have R:dn+1<=1099511627776:=Aa;have U:i+1<=1099511627776:=Aa;have ai:dn<=20:=Aa;have ax:i<=20:=Aa;clear H J
     go_wp2_with fail
     refine(F0 L g 2 _ T.D.src Ah).mono ?_;rintro e w3 ⟨x,rfl,x0,x1,Z,X⟩;replace T:=T.next Z X;clear Z X;have u1:=Bg (12+x)
     by_cases ba:(k:Int)<12+x
     ·have u2:=Bg (100*(k:Int));have u3:=Bg (1500000+(k:Int));have j:=T.alloc (.cells #[ZI (100*(k:Int))] 2);have E:=io w3 (100*(k:Int)) 2;have a:w+1<=(w3.alloc (.cells #[ZI (100*(k:Int))] 2)).heap.size:=by have:=T.K.lt;simp;omega
      go_upto_region 26 with(at_builtin;refine Aj rfl _ _ 28 rfl 2 1 8 underlying28 AJ Ah (w.heap.size+1) ⟨C,dn,y⟩ _ rfl j.oD _ 1 1 (ints [(100*(k:Int))]) rfl E (Ao _) R Ah a ?_;intro G1 B t u l b;have O:=Ai t;clear t)
      replace T:=j.pushD u l b;clear j E a u l b;have j:=T.alloc (.cells #[ZI (1500000+(k:Int))] 2);have E:=io B (1500000+(k:Int)) 2;have a:w+1<=(B.alloc (.cells #[ZI (1500000+(k:Int))] 2)).heap.size:=by have:=T.K.lt;simp;omega
      go_wp2_with (at_builtin;refine Aj rfl _ _ 28 rfl 2 1 8 underlying28 AJ Ah (w.heap.size+1) ⟨Q,i,N⟩ _ rfl j.oV _ 1 1 (ints [(1500000+(k:Int))]) rfl E (Ao _) U Ah a ?_;intro G2 az I M F f;have V:=Ai I;clear I)
      replace T:=j.pushV M F f;clear j E a M F f
      go_roundw
      case rel=>exact⟨k+1,G1,G2,_,_,by omega,rfl,rfl,by go_num,by have h1:=O.out;have h2:=af.out;show G1.n=k+1;rw[h1];show dn+1=k+1;rw[h2],by have h1:=V.out;have h2:=ag.out;show G2.n=k+1;rw[h1];show i+1=k+1;rw[h2],T⟩
      case measure=>simp[intOf];omega
     ·have Y:=λo=>T.K.cell o;have fK:=λo=>T.K.frozen o;have gK:=T.K.lt;go_wp2;refine AS (v:=.agg (CH C dn y Q i N)) (by simp[results,results86,go_sem,Y,gK]) rfl ?_
      exact T.fin (hd:=⟨C,dn,y⟩) (hv:=⟨Q,i,N⟩) Aw Aw _ _
   ·have Y:=λo=>T.K.cell o;have fK:=λo=>T.K.frozen o;have gK:=T.K.lt;go_wp2;refine AS (v:=.agg (CH C dn y Q i N)) (by simp[results,results86,go_sem,Y,gK]) rfl ?_
    exact T.fin (hd:=⟨C,dn,y⟩) (hv:=⟨Q,i,N⟩) Aw Aw _ _
