import Derived.Test.YtkndcebhjcfphaaGreatDoorZF
import Derived.Test.YtkndcebhjcfphaaGreatDoorZH
namespace Go.Proofs.YtkndcebhjcfphaaGreatDoor
open Go.RowKit Go.Proofs.Tryz
set_option maxRecDepth 100000
set_option maxHeartbeats 4000000
set_option linter.all false
theorem AR.farL {w:World} {B K:Nat} {h:Hd} {us:List Value} (o:AR w B K h us) {p:Addr} (a:h.row≠some p.block) (u:Value):AR (w.setCell p u) B K h us:=
 o.grown (Bc (JU _ _) (.inl rfl) _) (λb e c=>a (e.trans (by rw[<-c])))
theorem Dr.trans' {w W W':World} {L g:Nat} (D:Dr w W L g) (k:Dr W W' L g):Dr w W' L g:=⟨Tq D.gr k.gr,k.src,D.lt,D.le⟩
structure iB (w W:World) (L g:Nat) (hd hv:Hd) (xs ys:List Int):Prop where
 D:Dr w W L g
 K:Blk W w.heap.size 30 QW
 oD:AR W (w.heap.size+1) 1 hd (ints xs)
 oV:AR W (w.heap.size+1) 1 hv (ints ys)
 off: ∀q,hd.row=some q->hv.row≠some q
section
variable {w W W' : World} {L g : Nat} {hd hv G : Hd} {xs ys us : List Int}
theorem iB.next (T:iB w W L g hd hv xs ys) (k:W.grownBy W' (some g)) (S:iC W' L g):iB w W' L g hd hv xs ys:=
 have h:=T.D.lt
 ⟨T.D.next k S,T.K.nx k Aa,T.oD.nx k Aa,T.oV.nx k Aa,T.off⟩
theorem iB.bel (T:iB w W L g hd hv xs ys) (b:Below W W W'):iB w W' L g hd hv xs ys:=⟨T.D.bel b,T.K.below b T.K.lt,T.oD.below b,T.oV.below b,T.off⟩
theorem iB.alloc (T:iB w W L g hd hv xs ys) (o:Obj):iB w (W.alloc o) L g hd hv xs ys:=T.bel ((AP _ _).alloc Bk o)
theorem iB.pushD (T:iB w W L g hd hv xs ys) (d:AR W' (w.heap.size+1) 1 G (ints xs++ints us)) (gg:W.grownBy W' hd.row) (a:G.row=hd.row∨ ∃q,G.row=some q∧W.heap.size<=q):iB w W' L g G hv (xs++us) ys:=by
 refine⟨T.D.grown gg (λb e=>by have:=(T.oD.rowlt b e).1;omega),T.K.grown gg (λe=>by have:=(T.oD.rowlt _ e).1;omega),by rw[B8];exact d,T.oV.grown gg (λq e c=>T.off _ c e),λq e e2=> ?_⟩
 rcases a with h|⟨r,h,h'⟩
 ·exact T.off q (h▸e) e2
 ·rw[h] at e;injection e with e;have:=(T.oV.rowlt _ e2).2;omega
theorem iB.setD (T:iB w W L g hd hv xs ys) {ad:Addr} (h:0<hd.n) (e:hd.A=some ad) (v:Int):iB w (W.setCell ad (ZI v)) L g hd hv (xs.set 0 v) ys:=by
 have a:=Hd.row_mk e (by have:=T.oD.nc;omega)
 have b:=(T.oD.rowlt _ a).1;have s:=T.oD.set_ h e v;rw[Gu] at s;exact⟨T.D.set_ Aa _,T.K.far Aa _,s,T.oV.farL (T.off _ a) _,T.off⟩
theorem iB.setV (T:iB w W L g hd hv xs ys) {ad:Addr} (h:0<hv.n) (e:hv.A=some ad) (v:Int):iB w (W.setCell ad (ZI v)) L g hd hv xs (ys.set 0 v):=by
 have a:=Hd.row_mk e (by have:=T.oV.nc;omega)
 have b:=(T.oV.rowlt _ a).1;have s:=T.oV.set_ h e v;rw[Gu] at s;exact⟨T.D.set_ Aa _,T.K.far Aa _,T.oD.farL (λe2=>T.off _ e2 a) _,s,T.off⟩
theorem iB.pushV (T:iB w W L g hd hv xs ys) (d:AR W' (w.heap.size+1) 1 G (ints ys++ints us)) (gg:W.grownBy W' hv.row) (a:G.row=hv.row∨ ∃q,G.row=some q∧W.heap.size<=q):iB w W' L g hd G xs (ys++us):=by
 refine⟨T.D.grown gg (λb e=>by have:=(T.oV.rowlt b e).1;omega),T.K.grown gg (λe=>by have:=(T.oV.rowlt _ e).1;omega),T.oD.grown gg (λq e c=>T.off _ e c),by rw[B8];exact d,λq e e2=> ?_⟩
 rcases a with h|⟨r,h,h'⟩
 ·exact T.off q e (h▸e2)
 ·rw[h] at e2;injection e2 with e2;have:=(T.oD.rowlt _ e).2;omega
end
def iY (L g:Nat) (w:World) (e:Ending) (w':World):Prop:=
 ∃(hd hv:Hd) (xs ys:List Int),e=.returned (CH hd.A hd.n hd.c hv.A hv.n hv.c)∧hd.n<=20∧hv.n<=20∧hd.n<=hd.c∧hv.n<=hv.c∧Rd w' hd.A hd.n (ints xs)∧Rd w' hv.A hv.n (ints ys)∧(∀q,blkp hd.A hd.n=some q∨blkp hv.A hv.n=some q->w<=q)∧Dr w w' L g
theorem iB.fin {w W:World} {L g:Nat} {hd hv:Hd} {xs ys:List Int} (T:iB w W L g hd hv xs ys) (d:hd.n<=20) (i:hv.n<=20) (a b:Value):
  iY L g w (.returned (CH hd.A hd.n hd.c hv.A hv.n hv.c)) ((W.setCell ⟨w,0,none⟩ a).setCell ⟨w,1,none⟩ b):=
 have f {B:Nat} {h:Hd} {us:List Value} (o:AR W (w.heap.size+1) 1 h us):Rd ((W.setCell ⟨w,0,none⟩ a).setCell ⟨w,1,none⟩ b) h.A h.n us:=
  ((o.farL (p:=⟨w,0,none⟩) (λe=>by have:=(o.rowlt _ e).1;simp only at this;omega) a).farL (p:=⟨w,1,none⟩) (λe=>by have:=(o.rowlt _ e).1;simp only at this;omega) b).rd1
 ⟨hd,hv,xs,ys,rfl,d,i,T.oD.nc,T.oV.nc,f (B:=0) T.oD,f (B:=0) T.oV,λq j=>by rcases j with e|e;(·have:=T.oD.wr1.blockp e;omega);(·have:=T.oV.wr1.blockp e;omega),(T.D.set_ (p:=⟨w,0,none⟩) Bk a).set_ (p:=⟨w,1,none⟩) Bk b⟩
theorem io (w:World) (x:Int) (e:TypeId):Rd (w.alloc (.cells #[ZI x] e)) (some ⟨w,0,none⟩) (1*1) (ints [x]):=jb w [x] e 1 rfl
theorem iT (L g:Nat) (w:World) (S:iC w L g):
  Calls prog 86 #[.pointer (some ⟨g,0,none⟩)] w (iY L g w):=by
 have gS:=S.lt;have D0:=(((Dr.start S).alloc (.cells QW 30)).alloc (.cells #[] 2)).alloc (.cells #[] 2);have K0:=((Br w 30 QW).alloc (.cells #[] 2)).alloc (.cells #[] 2)
 go_enter func86,ntmps86
 go_upto_region 2 with fail
 generalize((w.alloc _).alloc _).alloc _=w0 at D0 K0⊢;generalize(some (⟨w+1,0,none⟩:Addr))=PA;generalize(some (⟨w+1+1,0,none⟩:Addr))=PB;have T0:iB w w0 L g ⟨PA,0,0⟩ ⟨PB,0,0⟩ [] []:=⟨D0,K0,AR.empty _ _ _ _,AR.empty _ _ _ _,λq e=>by simp[Hd.row] at e⟩
 clear D0 K0
 go_wp2_with fail
 refine(F0 L g 60000 _ T0.D.src Ah).mono ?_;rintro e w1 ⟨s,rfl,s0,s1,g1,S1⟩;replace T0:=T0.next g1 S1;clear g1 S1
 go_wp2_with fail
 refine(F0 L g 4 _ T0.D.src Ah).mono ?_;rintro e w2 ⟨v,rfl,v0,v1,g2,S2⟩;replace T0:=T0.next g2 S2;clear g2 S2
 go_wp2_with fail
 obtain⟨m,hm⟩: ∃m:Int,2+v=m:=⟨_,rfl⟩;have bb:2<=m∧m<=5:=Aa;generalize aI:1480000+s=s' at*;have aj:1300000<=s'∧s'<=1700000:=Aa;rw[hm];clear hm v0 v1 s0 s1 aI
 go_loopw [3,4,5,6,7] (λt3 t4 t5 t6 t7 wr=> ∃(v d s:Int) (hd hv:Hd) (xs ys:List Int),0<=v∧v<=5∧0<=d∧d+30000*v<=150000∧1300000<=s∧s<=1700000∧t3=.slice hd.A hd.n hd.c∧t4=.slice hv.A hv.n hv.c∧t5=.int .i64 d∧t6=.int .i64 s∧t7=.int .i64 v∧(hd.n:Int)+v=m∧(hv.n:Int)+v=m∧iB w wr L g hd hv xs ys)
  (λ_ _ _ _ t7 _=>(intOf t7).toNat)
 case atStart=>exact⟨m,0,s',⟨PA,0,0⟩,⟨PB,0,0⟩,[],[],by omega,by omega,by omega,by omega,aj.1,aj.2,rfl,rfl,rfl,rfl,rfl,by simp,by simp,T0⟩
 case round=>
  obtain⟨v,d,s,⟨F,dn,y⟩,⟨Q,i,N⟩,xs,ys,v0,v1,d0,d1,s0,s1,rfl,rfl,rfl,rfl,rfl,B,C,T⟩:=hrel;simp only at B C;clear T0 aj
  by_cases aJ:0<v
  ·have bd:=Bg (v-1);have R:dn+1<=1099511627776:=Aa;have U:i+1<=1099511627776:=Aa;have ab:=Ai B;have ac:=Ai C;clear B C;have j:=T.alloc (.cells #[ZI d] 2);have H:=io wr d 2;have a:w+1<=(wr.alloc (.cells #[ZI d] 2)).heap.size:=by have:=T.K.lt;simp;omega
   go_upto_region 7 with(at_builtin;refine Aj rfl _ _ 28 rfl 2 1 8 underlying28 AJ Ah (w.heap.size+1) ⟨F,dn,y⟩ _ rfl j.oD _ 1 1 (ints [d]) rfl H (Ao _) R Ah a ?_;intro G1 E t u l b;have O:=Ai t;clear t)
   have T2:=j.pushD u l b;clear T j H a u l b;have T3:=T2.alloc (.cells #[ZI s] 2);have R3:=io E s 2;have au:w+1<=(E.alloc (.cells #[ZI s] 2)).heap.size:=by have:=T2.K.lt;simp;omega
   go_upto_region 8 with(at_builtin;refine Aj rfl _ _ 28 rfl 2 1 8 underlying28 AJ Ah (w.heap.size+1) ⟨Q,i,N⟩ _ rfl T3.oV _ 1 1 (ints [s]) rfl R3 (Ao _) U Ah au ?_;intro G2 az J M I f;have V:=Ai J;clear J)
   have T4:=T3.pushV M I f;clear T2 T3 R3 au M I f;have u1:=Bg (d+500)
   go_wp2_with fail
   refine(F0 L g 20000 _ T4.D.src Ah).mono ?_;rintro e w5 ⟨x,rfl,x0,x1,g5,S5⟩;have T5:=T4.next g5 S5;clear g5 S5 T4;have u2:=Bg (d+500+x)
   go_wp2_with fail
   refine(F0 L g 41 _ T5.D.src Ah).mono ?_;rintro e w6 ⟨r,rfl,r0,r1,g6,S6⟩;have T6:=T5.next g6 S6;clear g6 S6 T5;have u3:=Bg (r-20)
   go_wp2_with fail
   refine(iA L g [500,100,1500,1] 4 _ T6.D.src rfl Ah Ah).mono ?_;rintro e w7 ⟨p,hp,rfl,g7,S7⟩;have T7:=(T6.alloc _).next g7 S7;clear g7 S7 T6
   have hz: -30000<=(r-20)*p∧(r-20)*p<=30000:=by
    simp only[CC,I5,or_false] at hp;rcases hp with rfl|rfl|rfl|rfl<;>omega
   obtain⟨z,ak⟩: ∃z,(r-20)*p=z:=⟨_,rfl⟩;rw[ak] at hz;have u4:IntKind.i64.wrap ((r-20)*p)=z:=by rw[ak];exact Ff _ Aa
   have u5:=Bg (s+z);clear hp ak;go_wp2
   go_roundw
   case rel=>exact⟨v-1,d+500+x,_,G1,G2,_,_,by omega,by omega,by omega,by omega,by split<;>(try split)<;>omega,by split<;>(try split)<;>omega,rfl,rfl,rfl,rfl,rfl,by have h1:=O.out;have h2:=ab.out;omega,by have h1:=V.out;have h2:=ac.out;omega,T7⟩
   case measure=>simp[intOf];omega
  ·obtain rfl:v=0:=Aa;have ab:=Ai B;have ac:=Ai C;have R:dn+1<=1099511627776:=Aa;have U:i+1<=1099511627776:=Aa;have hd1:0<dn:=Aa;have aw:0<i:=Aa;have ai:dn<=6:=Aa;have ax:i<=6:=Aa;clear B C v0 v1 aJ
   go_wp2_with fail
   refine(F0 L g 40 _ T.D.src Ah).mono ?_;rintro e w2 ⟨q,rfl,-,-,g2,S2⟩;replace T:=T.next g2 S2;clear g2 S2
   have hq:q=0∨q=1∨q=2∨q=3∨q=4∨((q==0)=false∧(q==1)=false∧(q==2)=false∧(q==3)=false∧(q==4)=false):=by
    simp only[Ea];omega
   rcases hq with rfl|rfl|rfl|rfl|rfl|⟨q0,q1,q2,q3,q4⟩
   ·go_wp2_with fail
    refine(iA L g [1,-1] 2 _ T.D.src rfl Ah Ah).mono ?_;rintro e w3 ⟨p,-,rfl,Z,X⟩;replace T:=(T.alloc _).next Z X;clear Z X;obtain⟨ad,hA,hx,hf⟩:=T.oD.cell hd1;simp only at hA;subst hA;rw[Gu] at hx hf;replace T:=T.setD hd1 rfl p
    go_upto_region 27 with fail
    generalize w3.setCell ad (ZI p)=w4 at T⊢;clear hx hf;have Y:=λo=>T.K.cell o;have fK:=λo=>T.K.frozen o;have gK:=T.K.lt;go_wp2;refine AS (v:=.agg (CH (some ad) dn y Q i N)) (by simp[results,results86,go_sem,Y,gK]) rfl ?_
    exact T.fin (hd:=⟨(some ad),dn,y⟩) (hv:=⟨Q,i,N⟩) Aw Aw _ _
   ·go_wp2_with fail
    refine(iA L g [1300000,1299999,1700000,1700001] 4 _ T.D.src rfl Ah Ah).mono ?_;rintro e w3 ⟨p,-,rfl,Z,X⟩;replace T:=(T.alloc _).next Z X;clear Z X;obtain⟨ad,hA,hx,hf⟩:=T.oV.cell aw;simp only at hA;subst hA;rw[Gu] at hx hf;replace T:=T.setV aw rfl p
    go_upto_region 27 with fail
    generalize w3.setCell ad (ZI p)=w4 at T⊢;clear hx hf;have Y:=λo=>T.K.cell o;have fK:=λo=>T.K.frozen o;have gK:=T.K.lt;go_wp2;refine AS (v:=.agg (CH F dn y (some ad) i N)) (by simp[results,results86,go_sem,Y,gK]) rfl ?_
    exact T.fin (hd:=⟨F,dn,y⟩) (hv:=⟨(some ad),i,N⟩) Aw Aw _ _
   ·go_wp2_with fail
    refine(iA L g [1000000,1000001,5] 3 _ T.D.src rfl Ah Ah).mono ?_;rintro e w3 ⟨p,-,rfl,Z,X⟩;replace T:=(T.alloc _).next Z X;clear Z X;have j:=T.alloc (.cells #[ZI p] 2);have H:=io w3 p 2;have a:w+1<=(w3.alloc (.cells #[ZI p] 2)).heap.size:=by have:=T.K.lt;simp;omega
    go_upto_region 17 with(at_builtin;refine Aj rfl _ _ 28 rfl 2 1 8 underlying28 AJ Ah (w.heap.size+1) ⟨F,dn,y⟩ _ rfl j.oD _ 1 1 (ints [p]) rfl H (Ao _) R Ah a ?_;intro G1 E t u l b;have O:=Ai t;clear t)
    replace T:=j.pushD u l b;clear j H a u l b;have j:=T.alloc (.cells #[ZI 1500000] 2);have H:=io E 1500000 2;have a:w+1<=(E.alloc (.cells #[ZI 1500000] 2)).heap.size:=by have:=T.K.lt;simp;omega
    go_upto_region 27 with(at_builtin;refine Aj rfl _ _ 28 rfl 2 1 8 underlying28 AJ Ah (w.heap.size+1) ⟨Q,i,N⟩ _ rfl j.oV _ 1 1 (ints [1500000]) rfl H (Ao _) U Ah a ?_;intro G2 az J M I f;have V:=Ai J;clear J)
    replace T:=j.pushV M I f;clear j H a M I f;obtain⟨F,dn,y⟩:=G1;obtain⟨Q,i,N⟩:=G2;replace ai:dn<=20:=by have:=O.out;simp only at this;omega
    replace ax:i<=20:=by have:=V.out;simp only at this;omega
    have Y:=λo=>T.K.cell o;have fK:=λo=>T.K.frozen o;have gK:=T.K.lt;go_wp2;refine AS (v:=.agg (CH F dn y Q i N)) (by simp[results,results86,go_sem,Y,gK]) rfl ?_
    exact T.fin (hd:=⟨F,dn,y⟩) (hv:=⟨Q,i,N⟩) Aw Aw _ _
   ·have j:=T.alloc (.cells #[ZI d] 2);have H:=io w2 d 2;have a:w+1<=(w2.alloc (.cells #[ZI d] 2)).heap.size:=by have:=T.K.lt;simp;omega
    go_upto_region 27 with(at_builtin;refine Aj rfl _ _ 28 rfl 2 1 8 underlying28 AJ Ah (w.heap.size+1) ⟨F,dn,y⟩ _ rfl j.oD _ 1 1 (ints [d]) rfl H (Ao _) R Ah a ?_;intro G1 E t u l b;have O:=Ai t;clear t)
    replace T:=j.pushD u l b;clear j H a u l b;obtain⟨F,dn,y⟩:=G1;replace ai:dn<=20:=by have:=O.out;simp only at this;omega
    have Y:=λo=>T.K.cell o;have fK:=λo=>T.K.frozen o;have gK:=T.K.lt;go_wp2;refine AS (v:=.agg (CH F dn y Q i N)) (by simp[results,results86,go_sem,Y,gK]) rfl ?_
    exact T.fin (hd:=⟨F,dn,y⟩) (hv:=⟨Q,i,N⟩) Aw Aw _ _
   ·clear R U
    go_wp2_with fail
    go_loopw [3,4,8] (λt3 t4 t8 wr=> ∃(k:Nat) (hd hv:Hd) (xs ys:List Int),k<=13∧t3=.slice hd.A hd.n hd.c∧t4=.slice hv.A hv.n hv.c∧t8=.int .i64 (k:Int)∧hd.n=k∧hv.n=k∧iB w wr L g hd hv xs ys)
     (λ_ _ t8 _=>13-(intOf t8).toNat)
    case atStart=>exact⟨0,⟨none,0,0⟩,⟨none,0,0⟩,[],[],by omega,rfl,rfl,rfl,rfl,rfl,⟨T.D,T.K,AR.nil _ _ _,AR.nil _ _ _,λq e=>by simp[Hd.row] at e⟩⟩
    case round=>
     clear T;obtain⟨k,⟨F,dn,y⟩,⟨Q,i,N⟩,xs,ys,hk,rfl,rfl,rfl,B,C,T⟩:=hrel;simp only at B C;have ab:=Ai B;have ac:=Ai C;have R:dn+1<=1099511627776:=Aa;have U:i+1<=1099511627776:=Aa;have ai:dn<=20:=Aa;have ax:i<=20:=Aa;clear B C
     go_wp2_with fail
     refine(F0 L g 2 _ T.D.src Ah).mono ?_;rintro e w3 ⟨x,rfl,x0,x1,Z,X⟩;replace T:=T.next Z X;clear Z X;have u1:=Bg (12+x)
     by_cases ba:(k:Int)<12+x
     ·have u2:=Bg (100*(k:Int));have u3:=Bg (1500000+(k:Int));have j:=T.alloc (.cells #[ZI (100*(k:Int))] 2);have H:=io w3 (100*(k:Int)) 2;have a:w+1<=(w3.alloc (.cells #[ZI (100*(k:Int))] 2)).heap.size:=by have:=T.K.lt;simp;omega
      go_upto_region 26 with(at_builtin;refine Aj rfl _ _ 28 rfl 2 1 8 underlying28 AJ Ah (w.heap.size+1) ⟨F,dn,y⟩ _ rfl j.oD _ 1 1 (ints [(100*(k:Int))]) rfl H (Ao _) R Ah a ?_;intro G1 E t u l b;have O:=Ai t;clear t)
      replace T:=j.pushD u l b;clear j H a u l b;have j:=T.alloc (.cells #[ZI (1500000+(k:Int))] 2);have H:=io E (1500000+(k:Int)) 2;have a:w+1<=(E.alloc (.cells #[ZI (1500000+(k:Int))] 2)).heap.size:=by have:=T.K.lt;simp;omega
      go_wp2_with (at_builtin;refine Aj rfl _ _ 28 rfl 2 1 8 underlying28 AJ Ah (w.heap.size+1) ⟨Q,i,N⟩ _ rfl j.oV _ 1 1 (ints [(1500000+(k:Int))]) rfl H (Ao _) U Ah a ?_;intro G2 az J M I f;have V:=Ai J;clear J)
      replace T:=j.pushV M I f;clear j H a M I f
      go_roundw
      case rel=>exact⟨k+1,G1,G2,_,_,by omega,rfl,rfl,by go_num,by have h1:=O.out;have h2:=ab.out;show G1.n=k+1;rw[h1];show dn+1=k+1;rw[h2],by have h1:=V.out;have h2:=ac.out;show G2.n=k+1;rw[h1];show i+1=k+1;rw[h2],T⟩
      case measure=>simp[intOf];omega
     ·have Y:=λo=>T.K.cell o;have fK:=λo=>T.K.frozen o;have gK:=T.K.lt;go_wp2;refine AS (v:=.agg (CH F dn y Q i N)) (by simp[results,results86,go_sem,Y,gK]) rfl ?_
      exact T.fin (hd:=⟨F,dn,y⟩) (hv:=⟨Q,i,N⟩) Aw Aw _ _
   ·have Y:=λo=>T.K.cell o;have fK:=λo=>T.K.frozen o;have gK:=T.K.lt;go_wp2;refine AS (v:=.agg (CH F dn y Q i N)) (by simp[results,results86,go_sem,Y,gK]) rfl ?_
    exact T.fin (hd:=⟨F,dn,y⟩) (hv:=⟨Q,i,N⟩) Aw Aw _ _
