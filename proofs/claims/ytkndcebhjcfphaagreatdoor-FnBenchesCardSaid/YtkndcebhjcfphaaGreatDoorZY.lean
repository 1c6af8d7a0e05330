import Derived.Test.YtkndcebhjcfphaaGreatDoorZL
import Derived.Test.YtkndcebhjcfphaaGreatDoorZW
namespace Go.Proofs.YtkndcebhjcfphaaGreatDoor
open Go.RowKit Go.Proofs.Tryz
set_option maxRecDepth 100000
set_option maxHeartbeats 4000000
set_option linter.all false
def EV (h:Ev):Value:=.agg (CH h.D.A h.D.n h.D.c h.S.A h.S.n h.S.c)
def GU (r:Al):Value:=.agg (Ziii r.c r.s r.h)
theorem VM (h:Ev) (r:Al) (w:World) (X:DR w h r) (R:A8 r):
  (BT 277 #[EV h,ZI r.src,GU r] w (.tuple #[GH h r,ZI 0]):Prop):=by
 have t:=R.prof;have z:=R.dir;have H:=R.len;have K:=R.src;rw[<-X.nd,<-X.ns] at t;have J:=X.nd;have I:=X.ns;have i:=λ(W:World) (X:DR W h r)=>EL h.D.A h.S.A h.D.n h.S.n h.D.c h.S.c r.ds r.ss W Aa Aa X.d X.s;rw[t] at i;have j:=λW=>Jb r.c r.s r.h W;rw[z] at j;have g:=λW=>FM h.D.A h.S.A h.D.n h.S.n h.D.c h.S.c (r.src:Int) W Aa;rw[show inR (r.src:Int) 0 ((h.D.n:Int)-1)=true from CN Aa Aa] at g;have u:=Ai X;clear X R t z H K J I;obtain⟨⟨B,L,E⟩,⟨C,M,F⟩⟩:=h;unfold GH EV GU;simp only at i g⊢
 go_enter func277,ntmps277
 go_upto_region 1 with fail
 generalize y:(((w.alloc _).alloc _).alloc _)=O;obtain⟨a,f,b,k⟩:=WF y;clear y;have x:=u.out.below k;have q:=a.cell
 go_wp2_with fail
 refine(i _ x).mono ?_;rintro e Q ⟨rfl,l⟩;replace k:=An k l;replace a:=a.below l a.lt;replace f:=f.below l f.lt;replace b:=b.below l b.lt;clear q l x u i;have e1:=f.cell
 go_wp2_with fail
 refine(j _).mono ?_;rintro e T ⟨rfl,m⟩;replace k:=An k m;replace a:=a.below m a.lt;replace f:=f.below m f.lt;replace b:=b.below m b.lt;clear e1 m j;have q:=a.cell
 go_wp2_with fail
 refine(g _).mono ?_;rintro e U ⟨rfl,p⟩;replace k:=An k p;replace a:=a.below p a.lt;replace f:=f.below p f.lt;replace b:=b.below p b.lt;clear q p g;have q:=a.cell;have e1:=f.cell;have e2:=b.cell;have N:=b.frozen;have G:=b.lt;go_wp2;refine AS (v:=.tuple #[AV B L E C M F r.src r.c r.s r.h,ZI 0]) (by simp[results,results277,go_sem,e2,G]) rfl ⟨rfl,Ax⟩
theorem Xh {l:List AU} {y:AU}: ∀ {k:Nat},l[k]? =some y->(No l)[k*4]? =some (.int .i64 (y.st.k:Int))∧(No l)[k*4+1]? =some (.bool y.st.dn)∧(No l)[k*4+2]? =some (.int .i64 y.st.lo)∧(No l)[k*4+3]? =some (.int .i64 y.st.hi):=by
 induction l with
 |nil=>intro k h;simp at h
 |cons z t ih=>
  intro k h;have e:No (z::t)=Ln z.st++No t:=by unfold No;simp
  have a:(Ln z.st).length=4:=rfl
  cases k with
  |zero=>simp at h;subst h;rw[e];simp[Ln]
  |succ k=>
   have:=ih (k:=k) CB;rw[e,List.getElem?_append_right Aa,List.getElem?_append_right Aa,List.getElem?_append_right Aa,List.getElem?_append_right Aa,a];rw[show(k+1)*4-4=k*4 by omega,show(k+1)*4+1-4=k*4+1 by omega,show(k+1)*4+2-4=k*4+2 by omega,show(k+1)*4+3-4=k*4+3 by omega]
   exact this
theorem Hj (h:Ev) (r:Al) (he hs ha:Hd) (l:List AU) (w:World) (B:Nat) (T:DI w B he hs ha l) (hl:l.length<=100):
  (BT 227 #[Dj he.A he.n he.c hs.A hs.n hs.c ha.A ha.n ha.c,GH h r] w (Hy ((l.getLast?.map AU.st).getD r.first)):Prop):=by
 have Y:=λW=>Ql h r W;obtain⟨F,M,L⟩:=he;obtain⟨SA,j,X⟩:=hs;obtain⟨E,I,H⟩:=ha;obtain⟨⟨C,S,J⟩,⟨D,U,K⟩⟩:=h;unfold GH at*;simp only at Y⊢;have q:j=l.length:=T.sn;have G:=Ai T;clear T
 by_cases O:l= []
 ·subst O;obtain rfl:j=0:=q
  go_enter func227,ntmps227
  go_upto_region 1 with fail
  generalize hG:(((w.alloc _).alloc _).alloc _)=w1;obtain⟨t,K1,a,u⟩:=WF hG;clear hG;have e0:=t.cell;have e1:=K1.cell
  go_wp2_with fail
  refine(Y _).mono ?_;unfold Hy;rintro e w2 ⟨rfl,Z⟩;have B2:=An u Z;replace a:=a.below Z a.lt;clear e0 e1;have e2:=a.cell;have f2:=a.frozen;have N:=a.lt;go_wp2;refine AS (v:=.agg (A7 r.first.k r.first.dn r.first.lo r.first.hi)) (by simp[results,results227,go_sem,e2,N]) rfl ⟨rfl,Ax⟩
 ·obtain⟨m,hm⟩: ∃m,l.length=m+1:=⟨l.length-1,by have:=List.length_pos_iff.2 O;omega⟩
  obtain⟨y,R⟩: ∃y,l[m]? =some y:=⟨_,Db Aa⟩;have d:l.getLast? =some y:=by rw[List.getLast?_eq_getElem?,hm];exact R
  rw[d];have f:=Xh R;obtain⟨i,x,-⟩:=G.out.rs.2 Aw;simp only at x;subst x
  have p: ∀ {V:World},Below w w V->V.cell? (i.add (m*4))=some (.int .i64 (y.st.k:Int))∧V.cell? ⟨(i.add (m*4)).block,(i.add (m*4)).off+1,none⟩=some (.bool y.st.dn)∧V.cell? ⟨(i.add (m*4)).block,(i.add (m*4)).off+2,none⟩=some (.int .i64 y.st.lo)∧V.cell? ⟨(i.add (m*4)).block,(i.add (m*4)).off+3,none⟩=some (.int .i64 y.st.hi):=by
   intro V b;obtain⟨_,x,z⟩:=(G.out.below b).rs.2 Aw
   cases x
   have hc0:=z (m*4) Aw;have hc1:=z (m*4+1) Aw;have hc2:=z (m*4+2) Aw;have hc3:=z (m*4+3) Aw;rw[f.1] at hc0;rw[f.2.1] at hc1;rw[f.2.2.1] at hc2;rw[f.2.2.2] at hc3;rw[<-Cn _ _ 1 Ah] at hc1;rw[<-Cn _ _ 2 Ah] at hc2;rw[<-Cn _ _ 3 Ah] at hc3;exact⟨hc0,hc1,hc2,hc3⟩
  have Q: ¬((j:Int)=0):=Aa;have aj:(j:Int)-1=(m:Int):=Aa;have ak:((j:Int)==0)=false:=by rw[Ea];exact Q
  have wm:=Bg (m:Int);have ai:(m:Int)<(j:Int):=Aa;clear f d R G hm q hl O;have t:=((Blk.newN (g:=w) w 223 (Dj F M L (some i) j X E I H) Cr).alloc (.cells (AV C S J D U K r.src r.c r.s r.h) 221)).alloc (.cells DJ 138);have a:=Blk.newN (g:=w+1+1) ((w.alloc (.cells (Dj F M L (some i) j X E I H) 223)).alloc (.cells (AV C S J D U K r.src r.c r.s r.h) 221)) 138 DJ Cr;have u:Below w w (((w.alloc (.cells (Dj F M L (some i) j X E I H) 223)).alloc (.cells (AV C S J D U K r.src r.c r.s r.h) 221)).alloc (.cells DJ 138)):=Ax;obtain⟨hc0,hc1,hc2,hc3⟩:=p u;clear p
  go_enter func227,ntmps227
  go_upto_region 1 with fail
  generalize(((w.alloc _).alloc _).alloc _)=w1 at t a u hc0 hc1 hc2 hc3⊢;have e0:=t.cell;have e2:=a.cell;have f2:=a.frozen;have N:=a.lt;go_wp2;refine AS (v:=.agg (A7 y.st.k y.st.dn y.st.lo y.st.hi)) (by simp[results,results227,go_sem,e2,N]) rfl ⟨rfl,Ax⟩
def dG (h:Ev) (r:Al) (n:Int) (w:World) (e:Ending) (w':World):Prop:=
 (inR n 0 100=false∧e=.returned (.tuple #[.agg #[.slice none 0 0,.slice none 0 0,ZI 0,ZI 0,ZI 0,ZI 0],DU,ZI 2])∧Below w w w')∨
 (inR n 0 100=true∧r.tr n.toNat=none∧e=.returned (.tuple #[GH h r,DU,ZI 3])∧Below w w w')∨
 ∃(x:En) (l:List AU) (he hs ha:Hd),inR n 0 100=true∧r.tr n.toNat=some (x,l)∧e=.returned (.tuple #[GH h r,Dj he.A he.n he.c hs.A hs.n hs.c ha.A ha.n ha.c,ZI 0])∧DI w' w.heap.size he hs ha l∧Below w w w'
theorem UL (h:Ev) (r:Al) (n:Int) (w:World) (X:DR w h r) (R:A8 r):
  Calls prog 226 #[EV h,ZI r.src,GU r,ZI n] w (dG h r n w):=by
 have j:=λ(W:World) (X:DR W h r)=>VM h r W X R;have J:=λ(m:Nat) (hm:m<=100) (W:World) (X:DR W h r)=>Md h r m W X R hm;have HX:=Ai X;clear X R;have E0:Hid (GH h r=GH h r):=rfl;obtain⟨⟨A0,n0,c0⟩,⟨A1,n1,c1⟩⟩:=h;unfold EV GU GH at*;simp only at j J⊢;have p:=λW=>As n 0 100 W;rcases jt (inR n 0 100) with hi|hi
 rotate_left
 ·rw[hi] at p
  go_enter func226,ntmps226
  go_upto_region 1 with fail
  generalize i:((((w.alloc _).alloc _).alloc _).alloc _)=w1;obtain⟨K,L,b,a,d⟩:=Y3 i;clear i;have z:=HX.out.below d;have e0:=K.cell;have g0:=K.lt;have e1:=L.cell;have g1:=L.lt
  go_wp2_with fail
  refine(j _ z).mono ?_;rintro e Z ⟨rfl,k⟩;replace d:=An d k;replace b:=b.below k b.lt;replace a:=a.below k a.lt;clear e0 g0 e1 g1 k K L j HX
  go_upto_region 2 with fail
  generalize i:Z.alloc _=w3;obtain⟨f,g⟩:=EX i;clear i;replace b:=b.below g b.lt;replace a:=a.below g a.lt;replace d:=An d g;clear g;generalize Z.heap.size=QR at f⊢;have e2:=b.cell;have S:=b.frozen;have V:=b.lt;have D:=a.cell;have U:=a.frozen;have Y:=a.lt
  go_wp2_with fail
  refine(p _).mono ?_;rintro e w' ⟨rfl,rfl⟩;go_wp2;refine AS (v:=.tuple #[.agg #[.slice none 0 0,.slice none 0 0,ZI 0,ZI 0,ZI 0,ZI 0],DU,ZI 2]) (by simp[results,results226,go_sem,e2,D]) rfl ?_
  exact Or.inl ⟨hi,rfl,Ax⟩
 ·obtain⟨m,rfl⟩: ∃m:Nat,n=(m:Int):=⟨n.toNat,by have:=Ac hi;omega⟩
  have hm:m<=100:=by have:=Ac hi;omega
  rw[hi] at p;have HT:=J m hm;clear J
  go_enter func226,ntmps226
  go_upto_region 1 with fail
  generalize i:((((w.alloc _).alloc _).alloc _).alloc _)=w1;obtain⟨K,L,b,a,d⟩:=Y3 i;clear i;have z:=HX.out.below d;have e0:=K.cell;have g0:=K.lt;have e1:=L.cell;have g1:=L.lt
  go_wp2_with fail
  refine(j _ z).mono ?_;rintro e Z ⟨rfl,k⟩;replace d:=An d k;replace z:=z.below k;replace b:=b.below k b.lt;replace a:=a.below k a.lt;clear e0 g0 e1 g1 k K L j HX
  go_upto_region 2 with fail
  generalize i:Z.alloc _=w3;obtain⟨f,g⟩:=EX i;clear i;replace b:=b.below g b.lt;replace a:=a.below g a.lt;replace z:=z.below g;replace d:=An d g;clear g;generalize Z.heap.size=QR at f⊢;have e2:=b.cell;have S:=b.frozen;have V:=b.lt;have D:=a.cell;have U:=a.frozen;have Y:=a.lt
  go_wp2_with fail
  refine(p _).mono ?_;rintro e w' ⟨rfl,rfl⟩;have eR:=f.cell;have Q:=HT _ z;have aq:w+1+1+1<w3.heap.size:=a.lt;clear HT
  go_wp2_with fail
  refine Q.mono ?_;clear Q eR;rintro e I (⟨N,rfl,q⟩|⟨x,l,⟨u,F,E⟩,⟨y,H,G⟩,⟨t,C,A⟩,N,rfl,T,q⟩)
  ·replace d:=An d q;replace b:=b.below q b.lt;replace a:=a.below q a.lt;replace f:=f.below q f.lt;clear e2 S V D U Y;have M:w+1+1+1<I.heap.size:=a.lt
   go_upto_region 7 with fail
   generalize i:I.alloc _=w5;obtain⟨O,g⟩:=EX i;clear i;replace f:=f.below g f.lt;replace b:=b.below g b.lt;replace a:=a.below g a.lt;replace d:=An d g;clear g;generalize I.heap.size=QT at O M⊢;have eR:=f.cell;have eT:=O.cell;have e2:=b.cell;have S:=b.frozen;have V:=b.lt;have D:=a.cell;have U:=a.frozen;have Y:=a.lt
   go_region
   all_goals
    go_wp2;refine AS (v:=.tuple #[AV A0 n0 c0 A1 n1 c1 r.src r.c r.s r.h,DU,ZI 3]) (by simp[results,results226,go_sem,e2,D]) rfl ?_
    exact Or.inr (Or.inl ⟨hi,N,rfl,Ax⟩)
  ·replace d:=An d q;replace b:=b.below q b.lt;replace a:=a.below q a.lt;replace f:=f.below q f.lt;simp only;clear e2 S V D U Y;have O:=Br I 223 (Dj u F E y H G t C A);have M:w+1+1+1<I.heap.size:=a.lt;have ay:=d.size;replace f:=f.alloc (.cells (Dj u F E y H G t C A) 223);replace b:=b.alloc (.cells (Dj u F E y H G t C A) 223);replace a:=a.alloc (.cells (Dj u F E y H G t C A) 223);have T4:=T.below ((AP _ _).alloc Bk (.cells (Dj u F E y H G t C A) 223));replace d:Below w w (I.alloc (.cells (Dj u F E y H G t C A) 223)):=Ax
   go_upto_region 7 with fail
   generalize I.alloc _=w5 at f O b a T4 d⊢;generalize I.heap.size=QT at O M⊢;have ab:=Ai T4;clear T T4;have eR:=f.cell;have eT:=O.cell;have e2:=b.cell;have S:=b.frozen;have V:=b.lt;have D:=a.cell;have U:=a.frozen;have Y:=a.lt
   go_region
   all_goals
    go_wp2;refine AS (v:=.tuple #[AV A0 n0 c0 A1 n1 c1 r.src r.c r.s r.h,Dj u F E y H G t C A,ZI 0]) (by simp[results,results226,go_sem,e2,D]) rfl ?_
    refine Or.inr (Or.inr ⟨x,l,⟨u,F,E⟩,⟨y,H,G⟩,⟨t,C,A⟩,hi,N,rfl,?_,Ax⟩);refine DI.low (B:=w3.heap.size) ?_ Aa
    repeat(first|with_reducible exact ab.out|with_reducible refine DI.drew ?_|with_reducible refine DI.cell ?_ (by omega) _)
def trC (r:Al) (n:Int):Int:=if inR n 0 100=true then(match r.tr n.toNat with|none=>3|some _=>0) else 2
def UY (r:Al) (n:Int) (w:World) (e:Ending) (w':World):Prop:=
 (trC r n≠0∧e=.returned (.tuple (G5 none 0 0 0 false 0 0 (trC r n)))∧Below w w w')∨
 ∃(x:En) (l:List AU) (he:Hd),trC r n=0∧inR n 0 100=true∧r.tr n.toNat=some (x,l)∧e=.returned (.tuple #[.slice he.A he.n he.c,Hy x,ZI 0])∧he.n=l.length∧he.n<=100∧Rd w' he.A he.n (ints (C2 l))∧(∀ad,he.A=some ad->0<he.n->w<=ad.block)∧Below w w w'
theorem JH {r:Al} {n:Int} {w w':World} {a:Int} (h:trC r n=a) (c:a≠0) (b:Below w w w'):UY r n w (.returned (.tuple (G5 none 0 0 0 false 0 0 a))) w':=Or.inl ⟨by rw[h];exact c,by rw[h],b⟩
theorem LQ (h:Ev) (r:Al) (n:Int) (w:World) (X:DR w h r) (R:A8 r):
  Calls prog 180 #[EV h,ZI r.src,GU r,ZI n] w (UY r n w):=by
 have U:=λ(W:World) (X:DR W h r)=>UL h r n W X R;have au:=Ai R.tr_ok;have u:=λ(he hs ha:Hd) (l:List AU) (W:World) (B:Nat) (T:DI W B he hs ha l) (hl:l.length<=100)=>Hj h r he hs ha l W B T hl;have HX:=Ai X;clear X R;obtain⟨⟨C,L,J⟩,⟨D,M,K⟩⟩:=h;unfold dG EV GU GH at*;simp only at U u⊢
 go_enter func180,ntmps180
 go_upto_region 1 with fail
 generalize hG:(((w.alloc _).alloc _).alloc _)=w1;obtain⟨K0,K1,d,f⟩:=WF hG;clear hG;have X1:=HX.out.below f;have e0:=K0.cell;have e1:=K1.cell;have ae:=U _ X1;clear U HX X1
 go_wp2_with fail
 refine ae.mono ?_;clear ae;rintro e j (⟨hi,rfl,I⟩|⟨hi,A,rfl,I⟩|⟨x,l,⟨p,m,t⟩,⟨F,O,N⟩,⟨E,H,G⟩,hi,A,rfl,T,I⟩)
 ·have y:trC r n=2:=by unfold trC;rw[hi];rfl
  replace f:=An f I;replace d:=((d.below I d.lt).alloc (.cells #[.slice none 0 0,.slice none 0 0,ZI 0,ZI 0,ZI 0,ZI 0] 221)).alloc (.cells DU 223);clear e0 e1 K0 K1 u;have hz:=f.size;replace f:Below w w ((j.alloc (.cells #[.slice none 0 0,.slice none 0 0,ZI 0,ZI 0,ZI 0,ZI 0] 221)).alloc (.cells DU 223)):=Ax
  go_upto_region 2 with fail
  generalize(j.alloc _).alloc _=Q at d f⊢;have e2:=d.cell;have f2:=d.frozen;have g2:=d.lt;go_wp2;refine AS (v:=.tuple (G5 none 0 0 0 false 0 0 2)) (by simp[results,results180,go_sem,e2,g2]) rfl ?_
  exact JH y Ah Ax
 ·have y:trC r n=3:=by unfold trC;rw[AA hi,A]
  replace f:=An f I;replace d:=((d.below I d.lt).alloc (.cells (AV C L J D M K r.src r.c r.s r.h) 221)).alloc (.cells DU 223);clear e0 e1 K0 K1 u;have hz:=f.size;replace f:Below w w ((j.alloc (.cells (AV C L J D M K r.src r.c r.s r.h) 221)).alloc (.cells DU 223)):=Ax
  go_upto_region 2 with fail
  generalize(j.alloc _).alloc _=Q at d f⊢;have e2:=d.cell;have f2:=d.frozen;have g2:=d.lt;go_wp2;refine AS (v:=.tuple (G5 none 0 0 0 false 0 0 3)) (by simp[results,results180,go_sem,e2,g2]) rfl ?_
  exact JH y Ah Ax
 ·have y:trC r n=0:=by unfold trC;rw[AA hi,A]
  obtain⟨-,aA,-,z⟩:=au.out _ _ _ A;have aa:l.length<=100:=by have:=Ac hi;omega
  clear aA;replace f:=An f I;simp only;have ab:Hid (m=l.length):=T.en;have aB:w+1+1<j.heap.size:=by have:=d.lt;have:=I.size;omega
  have S:w+1+1<w1.heap.size:=d.lt;replace d:=((d.below I d.lt).alloc (.cells (AV C L J D M K r.src r.c r.s r.h) 221)).alloc (.cells (Dj p m t F O N E H G) 223);clear e0 e1 K0 K1 I;have V:=(Blk.newN (g:=j) j 221 (AV C L J D M K r.src r.c r.s r.h) Cr).alloc (.cells (Dj p m t F O N E H G) 223);have Y:=Blk.newN (g:=j+1) (j.alloc (.cells (AV C L J D M K r.src r.c r.s r.h) 221)) 223 (Dj p m t F O N E H G) Cr;have T3:=T.below (show Below j j ((j.alloc (.cells (AV C L J D M K r.src r.c r.s r.h) 221)).alloc (.cells (Dj p m t F O N E H G) 223)) from Ax);have hz:=f.size;replace f:Below w w ((j.alloc (.cells (AV C L J D M K r.src r.c r.s r.h) 221)).alloc (.cells (Dj p m t F O N E H G) 223)):=Ax
  go_upto_region 4 with fail
  generalize(j.alloc _).alloc _=Q at d V Y T3 f⊢;obtain⟨QR,ai⟩: ∃q,j.heap.size=q:=⟨_,rfl⟩;obtain⟨QT,aj⟩: ∃q,j.heap.size+1=q:=⟨_,rfl⟩;rw[aj] at Y⊢;rw[ai] at V⊢;have n2:QR≠w.heap.size+1+1:=Aa;have n3:QT≠w.heap.size+1+1:=Aa;clear ai aj hz aB T;have HL:=λ(W:World) (b:Below Q Q W)=>u ⟨p,m,t⟩ ⟨F,O,N⟩ ⟨E,H,G⟩ l W w1.heap.size (T3.below b) aa;rw[<-z] at HL;simp only at HL;have av:=Ai T3;clear u T3 z;unfold Hy at HL;have aU: ∀o,Q.cell? ⟨QT,o,none⟩=((Dj p m t F O N E H G):Array Value)[o]? :=Y.cell;have aV: ∀o,Q.cell? ⟨QR,o,none⟩=((AV C L J D M K r.src r.c r.s r.h):Array Value)[o]? :=V.cell
  go_region_held3 (λw'=>(∀o,w'.cell? ⟨QT,o,none⟩=((Dj p m t F O N E H G):Array Value)[o]?)∧(∀o,w'.cell? ⟨QR,o,none⟩=((AV C L J D M K r.src r.c r.s r.h):Array Value)[o]?))
   (exact IJ)
   (first
    |((fail_if_success (clear a));go_at_call 227;refine(HL _ Ax).mono ?_;rintro e u0 ⟨rfl,ah⟩;have a:Below Q Q u0:=(show Below Q Q _ from Ax).trans (ah.mono C9);have aP:=a.size;have ak:=ah.size;(try simp at ak);have aC: ∀o,u0.cell? ⟨QT,o,none⟩=((Dj p m t F O N E H G):Array Value)[o]? :=λo=>(Y.below a Y.lt).cell o;have aE:QT<u0.heap.size:=(Y.below a Y.lt).lt;have aD: ∀o,u0.cell? ⟨QR,o,none⟩=((AV C L J D M K r.src r.c r.s r.h):Array Value)[o]? :=λo=>(V.below a V.lt).cell o;have aF:QR<u0.heap.size:=(V.below a V.lt).lt;have Z:=λo=>(d.below a d.lt).cell o;have ax:=λo=>(d.below a d.lt).frozen o;have az:=(d.below a d.lt).lt))
  all_goals
   have B5:=An f a;have T5:=av.out.below a;go_wp2;refine AS (v:=.tuple (G5 p m t x.k x.dn x.lo x.hi 0)) (by simp[results,results180,go_sem,Z]) rfl ?_
   refine Or.inr ⟨x,l,⟨p,m,t⟩,y,hi,A,rfl,ab.out,by have:=ab.out;simp only;omega,?_,λad e h=>by have h1:w1<=ad.block:=T5.be ad e h;omega,Ax⟩
   have T6:DI _ w1.heap.size ⟨p,m,t⟩ ⟨F,O,N⟩ ⟨E,H,G⟩ l:=(((T5.cell (b:=w.heap.size+1+1) (i:=0) S (ZI x.k)).cell (b:=w.heap.size+1+1) (i:=1) S (.bool x.dn)).cell (b:=w.heap.size+1+1) (i:=2) S (ZI x.lo)).cell (b:=w.heap.size+1+1) (i:=3) S (ZI x.hi);exact T6.re
def fD (e:Int):UInt8:=if e=1 then 99 else if e=2 then 116 else if e=3 then 115 else 98
def hisL (evs:List Int):Bs:=evs.map fD
theorem Ts {evs:List Int} {k:Nat} (a:k<evs.length):hisL (evs.take (k+1))=hisL (evs.take k)++ [fD (evs.getD k 0)]:=by
 unfold hisL;rw[List.take_succ_eq_append_getElem a,List.map_append,CJ a];rfl
theorem I9 (A:Option Addr) (n c:Nat) (evs:List Int) (w:World) (C:n<=100) (l:Rd w A n (ints evs)) (ha:BV evs 1 4=true):
  (BT 182 #[.slice A n c] w (.string ⟨(hisL evs).toArray⟩):Prop):=by
 have B:evs.length=n:=by have:=l.len;exact this
 have g:=λ(W:World) (R:Rd W A n (ints evs))=>Fb A n c evs 1 4 W Aa R;rw[ha] at g;have x: ¬(100:Int)<(n:Int):=Aa;have E:(ByteArray.mk #[99,116,115,98]).extract 0 1=⟨#[99]⟩:=Ah;have F:(ByteArray.mk #[99,116,115,98]).extract 1 2=⟨#[116]⟩:=Ah;have G:(ByteArray.mk #[99,116,115,98]).extract 2 3=⟨#[115]⟩:=Ah;have H:(ByteArray.mk #[99,116,115,98]).extract 3 4=⟨#[98]⟩:=Ah
 go_enter func182,ntmps182
 go_wp2_with fail
 refine(g _ l).mono ?_;rintro e D ⟨rfl,rfl⟩;clear g
 go_wp2_with fail
 go_loopw [3,16] (λt i wr=> ∃k:Nat,k<=n∧i=.int .i64 k∧t=.string ⟨(hisL (evs.take k)).toArray⟩∧Below w w wr) (λ_ i _=>n-(intOf i).toNat)
 case atStart=>exact⟨0,AZ _,rfl,rfl,AP _ _⟩
 case round=>
  obtain⟨k,z,rfl,rfl,b⟩:=hrel
  by_cases j:k<n
  ·have d:(k:Int)<(n:Int):=Aa;obtain⟨s,p,y⟩:=(l.below b).int j;subst p;have a:=Ai (Ts (evs:=evs) (k:=k) Aa);have hv:=EZ ha (k:=k) Aa;have f:=λ(u:Bs)=>AY (hisL (evs.take k)) u;have m:(hisL (evs.take k)).length=k:=by unfold hisL;rw[List.length_map,Ju];omega
   have q: ¬9223372036854775807<(hisL (evs.take k)).length+1:=Aa;clear m;generalize hisL (evs.take k)=t at*;generalize evs.getD k 0=v at*;obtain rfl|rfl|rfl|rfl:v=1∨v=2∨v=3∨v=4:=Aa
   ·go_wp2
    go_roundw
    case rel=>exact⟨k+1,by omega,by go_num,(by first|(rw[a.out];rfl)|exact(AN Value.string (f _)).trans (by rw[a.out];rfl)),b⟩
    case measure=>simp[intOf];omega
   ·go_wp2
    go_roundw
    case rel=>exact⟨k+1,by omega,by go_num,(by first|(rw[a.out];rfl)|exact(AN Value.string (f _)).trans (by rw[a.out];rfl)),b⟩
    case measure=>simp[intOf];omega
   ·go_wp2
    go_roundw
    case rel=>exact⟨k+1,by omega,by go_num,(by first|(rw[a.out];rfl)|exact(AN Value.string (f _)).trans (by rw[a.out];rfl)),b⟩
    case measure=>simp[intOf];omega
   ·go_wp2
    go_roundw
    case rel=>exact⟨k+1,by omega,by go_num,(by first|(rw[a.out];rfl)|exact(AN Value.string (f _)).trans (by rw[a.out];rfl)),b⟩
    case measure=>simp[intOf];omega
  ·obtain rfl:n=k:=Aa;have r:evs.take n=evs:=ED Aa;have d: ¬(n:Int)<(n:Int):=Aa;rw[r];go_wp2;go_ret;exact⟨rfl,b⟩
