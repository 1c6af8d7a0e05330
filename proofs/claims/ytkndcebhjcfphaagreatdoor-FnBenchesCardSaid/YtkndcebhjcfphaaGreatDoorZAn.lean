import Derived.Test.YtkndcebhjcfphaaGreatDoorZAk
import Derived.Test.YtkndcebhjcfphaaGreatDoorZAl
import Derived.Test.YtkndcebhjcfphaaGreatDoorZM
import Derived.Test.YtkndcebhjcfphaaGreatDoorZYx3
namespace Go.Proofs.YtkndcebhjcfphaaGreatDoor
open Go.RowKit Go.Proofs.Tryz
set_option maxRecDepth 100000
set_option maxHeartbeats 4000000
set_option linter.all false
structure Mf (w:World) (B:Nat) (D S:Hd):Prop where
 d:Wr w B D.A D.n
 s:Wr w B S.A S.n
 ds: ∀q,blkp D.A D.n=some q->blkp S.A S.n≠some q
theorem WY {w:World} {B:Nat} {h:Hd} {us:List Value} (o:AR w B 1 h us) {q:Nat} (e:blkp h.A h.n=some q):h.row=some q:=Gl (λa=>CM a o.nc) e
theorem UC (s:Bs) (g:Nat) (w:World) (hs:s.length<=100000) (d:Fm s=false) (T:Dq w):
  (BT 102 #[.pointer (some ⟨g,0,none⟩),.string ⟨s.toArray⟩] w (.string ⟨(erT 6).toArray⟩):Prop):=by
 have f:=(Fo s w hs T).mono (R':=λe w'=>e=.returned (.tuple Eb)∧Below w w w') (λ_ _ h=>by
  rcases h with⟨_,l,m⟩|⟨_,_,c,_⟩
  ·exact⟨l,m⟩
  ·rw[d] at c;cases c)
 have F:=λ(V:World) (k:Below w w V)=>Cx 6 V Ah Ah (T.below k).tab;generalize erT 6=E at*;clear d T
 go_enter func102,ntmps102
 go_upto_region 2 with(go_at_call 136;refine f.mono ?_;rintro e w1 ⟨rfl,i⟩)
 have al:Below w1 w1 (w1.alloc (.cells QW 30)):=BU;have a:=An i al;clear al;generalize w1.alloc _=n at a⊢
 go_wp2_with (go_at_call 100;refine(F _ a).mono ?_;rintro e p ⟨rfl,j⟩)
 go_ret;exact⟨rfl,(An a j)⟩
theorem Wb (s:Bs) (g:Nat) (D S L:Hd) (b:Ae) (w:World) (K:Bz w g D S L b) (hs:s.length<=100000) (W:Fm s=true) (T:Dq w):
  Calls prog 102 #[.pointer (some ⟨g,0,none⟩),.string ⟨s.toArray⟩] w λe w'=>e=.returned (.string ⟨H5.toArray⟩)∧ ∃v y:Hd,Bz w' g v y L {b with depths:=rpD s,speeds:=rpV s,source:=0}∧Mf w' w.heap.size v y∧A9 w w' [some g]:=by
 have x:Hid (∀(V f:World) (a hv:Hd),Below w w f->AR f w.heap.size 1 a (ints (rpD s))->AR f w.heap.size 1 hv (ints (rpV s))->(∀q,a.row=some q->hv.row≠some q)->Below f f V->Bz (((V.setCell ⟨g,0,none⟩ (.slice a.A a.n a.c)).setCell ⟨g,1,none⟩ (.slice hv.A hv.n hv.c)).setCell ⟨g,2,none⟩ (ZI 0)) g a hv L {b with depths:=rpD s,speeds:=rpV s,source:=0}∧Mf (((V.setCell ⟨g,0,none⟩ (.slice a.A a.n a.c)).setCell ⟨g,1,none⟩ (.slice hv.A hv.n hv.c)).setCell ⟨g,2,none⟩ (ZI 0)) w.heap.size a hv∧A9 w (((V.setCell ⟨g,0,none⟩ (.slice a.A a.n a.c)).setCell ⟨g,1,none⟩ (.slice hv.A hv.n hv.c)).setCell ⟨g,2,none⟩ (ZI 0)) [some g]):=λV f a hv G m p off j=>by
  have r:=An G j;have k:=K.below r;have rd:=(m.below j).rd1;have Y:=(p.below j).rd1;have gl:=K.blk.lt
  have far: ∀ {h:Hd} {Z:List Value},AR f w.heap.size 1 h Z-> ∀d,h.A=some d->0<h.n->w<=d.block:=λ{h Z} o d e i=>by
   have hc:0<h.c:=CM i o.nc;exact(o.at_ d e hc).1
  have z: ∀d,a.A=some d->0<a.n->d.block≠g:=λd e i c=>by have:=far m d e i;omega
  have C: ∀d,hv.A=some d->0<hv.n->d.block≠g:=λd e i c=>by have:=far p d e i;omega
  refine⟨⟨((k.blk.set_ 0 _).set_ 1 _).set_ 2 _,Cb (Cb (Cb rd z _) z _) z _,Cb (Cb (Cb Y C _) C _) C _,Cu (Cu (Cu k.l (Nat.lt_succ_self g) _) (Nat.lt_succ_self g) _) (Nat.lt_succ_self g) _,rd.len.symm,Y.len.symm,z,C,λd e i c=>by have H:=far m d e i;have I:=(K.l.rowlt _ c).2;omega,λd e i c=>by have H:=far p d e i;have I:=(K.l.rowlt _ c).2;omega⟩,⟨(((m.below j).wr1.set_ _).set_ _).set_ _,(((p.below j).wr1.set_ _).set_ _).set_ _,λq e1 e2=>off q (WY m e1) (WY p e2)⟩,?_⟩
  refine⟨r.os,r.tape,r.output,by simpa using r.size,λq hq J=> ?_⟩
  have u:q≠g:=λe=>J (some g) Cr (by rw[e])
  exact((Below.heap_setCell _ _ _ q u).trans ((Below.heap_setCell _ _ _ q u).trans (Below.heap_setCell _ _ _ q u))).trans (r.block q hq)
 generalize U:(λe w'=>e=Ending.returned (.string ⟨H5.toArray⟩)∧ ∃v y:Hd,Bz w' g v y L {b with depths:=rpD s,speeds:=rpV s,source:=0}∧Mf w' w.heap.size v y∧A9 w w' [some g])=Q;have N:Hid (∀(V f:World) (a hv:Hd),Below w w f->AR f w.heap.size 1 a (ints (rpD s))->AR f w.heap.size 1 hv (ints (rpV s))->(∀q,a.row=some q->hv.row≠some q)->Below f f V->Q (.returned (.string ⟨H5.toArray⟩)) (((V.setCell ⟨g,0,none⟩ (.slice a.A a.n a.c)).setCell ⟨g,1,none⟩ (.slice hv.A hv.n hv.c)).setCell ⟨g,2,none⟩ (ZI 0))):=λV f a hv G m p off j=>by subst U;exact⟨rfl,a,hv,x.out V f a hv G m p off j⟩
 have HP:=(Fo s w hs T).mono (R':=λe w'=> ∃a hv:Hd,e=.returned (.tuple #[CH a.A a.n a.c hv.A hv.n hv.c,.bool true])∧AR w' w.heap.size 1 a (ints (rpD s))∧AR w' w.heap.size 1 hv (ints (rpV s))∧(∀q,a.row=some q->hv.row≠some q)∧Below w w w') (λ_ _ h=>by
  rcases h with⟨i,_⟩|⟨a,hv,_,H,I,h3,h5,h4⟩
  ·rw[W] at i;cases i
  ·exact⟨a,hv,H,I,h3,h5,h4⟩)
 have E:=λ(V:World) (r:Below w w V)=>K.blk.below r K.blk.lt;clear U x W T hs K
 go_enter func102,ntmps102
 go_upto_region 2 with(go_at_call 136;refine HP.mono ?_;rintro e w1 ⟨⟨dA,dn,dc⟩,⟨vA,vn,vc⟩,rfl,m,p,off,j⟩)
 generalize R:w1.alloc _=w2;obtain⟨X,al⟩:=EX R;clear R;have O:=An j al;have e1:=λo=>(E _ O).cell o;have f1:=λo=>(E _ O).frozen o;have e2:=X.cell;have M:=N.out w2 w1 ⟨dA,dn,dc⟩ ⟨vA,vn,vc⟩ j m p off al;have F:=Ai M;clear E m p off j al M N
 go_wp2_with fail
 exact F.out
theorem IZ (w:World) (a b c d e f g:Int) (t:TypeId):Rd (w.alloc (.cells (AD a b c d e f g) t)) (some ⟨w,0,none⟩) (1*7) (ints [a,b,c,d,e,f,g]):=by
 refine⟨rfl,λ_=>⟨_,rfl,λi hi=> ?_⟩⟩;rw[CE,(Br w t (AD a b c d e f g)).cell]
 simp[ints]
theorem SO {w W r:World} {g:Nat} {D S L G:Hd} {b:Ae} (ys:List Int) (K:Bz w g D S L b) (a:Below w w W) (gg:W.grownBy r L.row) (z:AR r (g+1) 7 G (ints b.log++ints ys)) (i:G.row=L.row∨ ∃q,G.row=some q∧W.heap.size<=q):
  Bz (r.setCell ⟨g,6,none⟩ (.slice G.A G.n G.c)) g D S G {b with log:=b.log++ys}∧A9 w (r.setCell ⟨g,6,none⟩ (.slice G.A G.n G.c)) [some g,L.row]:=by
 have k:=K.below a;have v:L.row≠some g:=λe=>by have:=(K.l.rowlt g e).1;omega
 have m:=A9.of_grown gg;refine⟨⟨(k.blk.grown gg v).set_ 6 _,Cb (k.d.grown gg k.dl) k.dg _,Cb (k.s.grown gg k.sl) k.sg _,Cu (by rw[<-js] at z;exact z) (Nat.lt_succ_self g) _,k.dn,k.sn,k.dg,k.sg,λu e f=> ?_,λu e f=> ?_⟩,?_⟩
 ·rcases i with h|⟨q,h,p⟩
  ·rw[h];exact k.dl u e f
  ·rw[h];intro c;cases c;have:=k.d.lt e f;omega
 ·rcases i with h|⟨q,h,p⟩
  ·rw[h];exact k.sl u e f
  ·rw[h];intro c;cases c;have:=k.s.lt e f;omega
 ·refine⟨m.os.trans a.os,m.tape.trans a.tape,m.output.trans a.output,by simpa using Ch a.size m.size,λq p j=> ?_⟩
  have x:q≠g:=λe=>j (some g) Cr (by rw[e])
  exact(Below.heap_setCell _ _ _ q x).trans ((m.block q (CM p a.size) (λs y=>j s (by simp only[CC,I5,or_false] at y⊢;exact Or.inr y))).trans (a.block q p))
theorem Xr (t k l x y d r:Int) (g:Nat) (D S L:Hd) (b:Ae) (w:World) (K:Bz w g D S L b) (hn:L.n<200) (U:recB t k l x y d r=true):
  Calls prog 139 #[.pointer (some ⟨g,0,none⟩),.agg #[.int .i64 t,.int .i64 k,.int .i64 l,.int .i64 x,.int .i64 y,.int .i64 d,.int .i64 r]] w λe w'=>e=.returned (.string ⟨H5.toArray⟩)∧ ∃i:Hd,Bz w' g D S i {b with log:=b.log++ [t,k,l,x,y,d,r]}∧(i.row=L.row∨ ∃q,i.row=some q∧w.heap.size<=q)∧A9 w w' [some g,L.row]:=by
 have C:=λW=>Ed t k l x y d r W;rw[U] at C;generalize T:(λe w'=>e=Ending.returned (.string ⟨H5.toArray⟩)∧ ∃i:Hd,Bz w' g D S i {b with log:=b.log++ [t,k,l,x,y,d,r]}∧(i.row=L.row∨ ∃q,i.row=some q∧w.heap.size<=q)∧A9 w w' [some g,L.row])=Q;have N:Hid (∀(W v:World) (G:Hd),Below w w W->W.grownBy v L.row->AR v (g+1) 7 G (ints b.log++ints [t,k,l,x,y,d,r])->(G.row=L.row∨ ∃q,G.row=some q∧W.heap.size<=q)->Q (.returned (.string ⟨H5.toArray⟩)) (v.setCell ⟨g,6,none⟩ (.slice G.A G.n G.c))):=λW v G p m u a=>by subst T;exact⟨rfl,G,(SO _ K p m u a).1,a.imp id (λ⟨q,h1,h2⟩=>⟨q,h1,Ch p.size h2⟩),(SO _ K p m u a).2⟩
 clear T;have O:=λ(V:World) (p:Below w w V)=>K.below p;have b0:Below w w (w.alloc (.cells (AD t k l x y d r) 67)):=BU;have X:=Br w 67 (AD t k l x y d r);have M: ∀q,L.row=some q->g+1<=q∧q<w:=K.l.rowlt;have I:L.row≠some g:=λe=>by have:=(M g e).1;omega
 clear U
 go_enter func139,ntmps139
 go_upto_region 1 with fail
 generalize w.alloc _=w1 at*;have e0:=X.cell
 go_upto_region 3 with(go_at_call 81;refine(C _).mono ?_;rintro e f ⟨rfl,R⟩)
 have F:=An b0 R;have j:=O _ F;have e3:=λo=>j.blk.cell o;have X3:=X.below R X.lt;have eX:=X3.cell;clear e0 O C
 go_upto_region 5 with fail
 have Z:=j.l;have H:L.n+1<=1099511627776:=Aa;have J:g+1<=f.heap.size:=j.blk.lt;have af:g<f:=j.blk.lt
 go_region_law ((refine Be AI _ _ 33 AI 67 7 56 underlying33 Gc Ah (g+1) L (ints b.log) AI (Z.below Ax) _ 1 1 (ints [t,k,l,x,y,d,r]) AI (IZ _ t k l x y d r 67) (Ao _) H Ah (Ch J (show Below f f _ from Ax).size) ?_;intro G v s u m a;have Y:=Ai s;clear s;have z:=Ai (N.out _ _ _ (F.trans ((show Below f f _ from Ax).mono F.size)) m u a);have E:=((j.blk.below (show Below f f _ from Ax) j.blk.lt).grown m I);have e4:=E.cell;have f4:=E.frozen))
 all_goals
  clear m u a E N;go_wp2;exact z.out
structure F9 (B:Nat) (w:World) (g:Nat) (D S L:Hd) (b:Ae):Prop where
 box:Bz w g D S L b
 pr:Mf w B D S
 ok:jw b
 bg:B<=g
def Qb (g:Nat) (D S L:Hd) (q:Nat):Prop:=q≠g∧blkp D.A D.n≠some q∧blkp S.A S.n≠some q∧L.row≠some q
def Me (B g:Nat) (D S L:Hd) (b':Ae) (w w':World):Prop:=
 ∃D' S' L':Hd,F9 B w' g D' S' L' b'∧A9 w w' [some g,L.row]∧ ∀q,q<w.heap.size->Qb g D S L q->Qb g D' S' L' q
def Dw (B g:Nat) (D S L:Hd) (b':Ae) (t:Bs) (w:World) (e:Ending) (w':World):Prop:=
 e=.returned (.string ⟨t.toArray⟩)∧Me B g D S L b' w w'
section
variable {B g : Nat} {D S L : Hd} {b b' : Ae} {w w' w1 : World} {t : Bs}
theorem MA (r:List (Option Nat)) (k:Below w w w'):A9 w w' r:=⟨k.os,k.tape,k.output,k.size,λq a _=>k.block q a⟩
theorem Bz.offd (K:Bz w g D S L b):H7 [some g,L.row] [blkp D.A D.n]:=λs f x i q e1 e2=>by
 rw[DD.1 i] at e2;obtain⟨a,d,c,rfl⟩:=Df e2;simp only[CC,I5,or_false] at f;rcases f with rfl|rfl
 ·injection e1 with e1;exact K.dg a d c e1.symm
 ·exact K.dl a d c e1
theorem Bz.offs (K:Bz w g D S L b):H7 [some g,L.row] [blkp S.A S.n]:=λs f x i q e1 e2=>by
 rw[DD.1 i] at e2;obtain⟨a,d,c,rfl⟩:=Df e2;simp only[CC,I5,or_false] at f;rcases f with rfl|rfl
 ·injection e1 with e1;exact K.sg a d c e1.symm
 ·exact K.sl a d c e1
theorem F9.prt (K:F9 B w g D S L b) (T:A9 w w' [some g,L.row]):Mf w' B D S:=
 ⟨K.pr.d.touch K.box.d T K.box.offd,K.pr.s.touch K.box.s T K.box.offs,K.pr.ds⟩
theorem F9.below (K:F9 B w g D S L b) (k:Below w w w'):F9 B w' g D S L b:=⟨K.box.below k,K.prt (MA _ k),K.ok,K.bg⟩
theorem Cw (K:F9 B w g D S L b) (k:Below w w w'):Me B g D S L b w w':=⟨D,S,L,K.below k,MA _ k,λ_ _ h=>h⟩
theorem LC (K:F9 B w g D S L b) (x:Bz w' g D S L b') (T:A9 w w' [some g]) (ok:jw b'):Me B g D S L b' w w':=by
 have a:A9 w w' [some g,L.row]:=⟨T.os,T.tape,T.output,T.size,λk c h=>T.block k c λs d=>h s (by rw[DD.1 d];exact C5 ..)⟩
 exact⟨D,S,L,⟨x,K.prt a,ok,K.bg⟩,a,λ_ _ h=>h⟩
theorem bI {a:Hd} (K:F9 B w g D S L b) (x:Bz w' g D S a b') (T:A9 w w' [some g,L.row]) (d:a.row=L.row∨ ∃q,a.row=some q∧w.heap.size<=q) (ok:jw b'):Me B g D S L b' w w':=
 ⟨D,S,a,⟨x,K.prt T,ok,K.bg⟩,T,λq f h=>⟨h.1,h.2.1,h.2.2.1,by
  rcases d with e|⟨p,e,hp⟩
  ·rw[e];exact h.2.2.2
  ·rw[e];intro c;injection c with c;omega⟩⟩
theorem YZ {f i:Hd} (K:F9 B w g D S L b) (x:Bz w' g f i L b') (a:Mf w' w.heap.size f i) (T:A9 w w' [some g]) (ok:jw b'):Me B g D S L b' w w':=by
 have l:A9 w w' [some g,L.row]:=⟨T.os,T.tape,T.output,T.size,λk m h=>T.block k m λs n=>h s (by rw[DD.1 n];exact C5 ..)⟩
 have j:B<=w.heap.size:=by have:=K.bg;have:=K.box.blk.lt;omega
 refine⟨f,i,L,⟨x,⟨a.d.lower j,a.s.lower j,a.ds⟩,ok,K.bg⟩,l,λq p h=>⟨h.1,?_,?_,h.2.2.2⟩⟩
 ·intro c;have:=a.d.blockp c;omega
 ·intro c;have:=a.s.blockp c;omega
theorem jw.d12 (h:jw b):b.depths.length<=12:=by
 have g:=h.prof;unfold BI at g;rw[CD] at g;have:=Ac g.1;omega
end
theorem PX (x:Int) (B g:Nat) (D S L:Hd) (b:Ae) (w:World) (K:F9 B w g D S L b) (T:CK w):
  Calls prog 137 #[.pointer (some ⟨g,0,none⟩),ZI x] w (Dw B g D S L (if inR x 0 ((b.depths.length:Int)-1)=true then {b with source:=x} else b) (if inR x 0 ((b.depths.length:Int)-1)=true then H5 else erT 2) w):=by
 by_cases h:inR x 0 ((b.depths.length:Int)-1)=true
 ·rw[AA h,AA h];exact(Sm x g D S L b w K.box K.ok.d12 h).mono λe w' ⟨a,c,d⟩=>⟨a,LC K c d ⟨K.ok.prof,h,K.ok.dir,K.ok.log,K.ok.len,K.ok.n⟩⟩
 ·rw[Ak h,Ak h];exact(PY x g D S L b w K.box K.ok.d12 CB T).mono λe w' ⟨a,c⟩=>⟨a,Cw K c⟩
theorem OJ (s:Bs) (B g:Nat) (D S L:Hd) (b:Ae) (w:World) (K:F9 B w g D S L b) (hs:s.length<=100000) (T:Dq w):
  Calls prog 102 #[.pointer (some ⟨g,0,none⟩),.string ⟨s.toArray⟩] w (Dw B g D S L (if Fm s=true then {b with depths:=rpD s,speeds:=rpV s,source:=0} else b) (if Fm s=true then H5 else erT 6) w):=by
 by_cases h:Fm s=true
 ·rw[AA h,AA h];refine(Wb s g D S L b w K.box hs h T).mono λe w' ⟨d,k,l,f,i,j⟩=>⟨d,YZ K f i j ?_⟩;have a:=h;unfold Fm at a;rw[CD] at a;refine⟨a.2,?_,K.ok.dir,K.ok.log,K.ok.len,K.ok.n⟩;have c:=a.2;unfold BI at c;rw[CD] at c;have:=Ac c.1;exact CN Aw Aw
 ·rw[Ak h,Ak h];exact(UC s g w hs CB T).mono λe w' ⟨d,f⟩=>⟨d,Cw K f⟩
theorem Gv (t k l x y d r:Int) (B g:Nat) (D S L:Hd) (b:Ae) (w:World) (K:F9 B w g D S L b) (T:CK w):
  Calls prog 139 #[.pointer (some ⟨g,0,none⟩),AD t k l x y d r] w (Dw B g D S L (addB b t k l x y d r) (Qc b t k l x y d r) w):=by
 have v:b.log.length=L.n*7:=by have:=K.box.l.len;unfold ints at this;simpa using this
 have m:b.log.length/7=L.n:=Aa;have f:=M6 K.ok t k l x y d r;unfold addB at f⊢;unfold Qc lgN;rw[m] at f⊢;have j:=K.ok.n;rw[m] at j
 by_cases h:recB t k l x y d r=true
 ·by_cases a:L.n<200
  ·rw[AA ⟨h,a⟩] at f⊢;rw[AA h,AA a];exact(Xr t k l x y d r g D S L b w K.box a h).mono λe w' ⟨i,u,p,q,s⟩=>⟨i,bI K p s q f⟩
  ·rw[Ak (λc=>a c.2),AA h,Ak a];exact(SJ t k l x y d r g D S L b w K.box Aa h T).mono λe w' ⟨i,a⟩=>⟨i,Cw K a⟩
 ·rw[Ak (λc=>h c.1),Ak h];exact(UZ t k l x y d r g w CB T).mono λe w' ⟨i,a⟩=>⟨i,Cw K a⟩
theorem Wc (m n y:Int) (B g:Nat) (D S L:Hd) (b:Ae) (w:World) (K:F9 B w g D S L b) (T:CK w):
  Calls prog 138 #[.pointer (some ⟨g,0,none⟩),ZI m,ZI n,ZI y] w (Dw B g D S L (if Gj m n=true∧inR y 0 1=true then {b with cos:=mkC m n,sin:=mkS m n (decide (y=1)),hyp:=mkH m n} else b) (if Gj m n=true∧inR y 0 1=true then H5 else erT 2) w):=by
 by_cases h:Gj m n=true
 ·by_cases a:inR y 0 1=true
  ·rw[AA ⟨h,a⟩,AA ⟨h,a⟩];have f:=Ac a;have i:y=1∨y=0:=Aa;rcases i with rfl|rfl
   ·rw[show decide ((1:Int)=1)=true from rfl];exact(Wf m n g D S L b w K.box h).mono λe w' ⟨d,a,f⟩=>⟨d,LC K a f ⟨K.ok.prof,K.ok.src,Ug h true,K.ok.log,K.ok.len,K.ok.n⟩⟩
   ·rw[show decide ((0:Int)=1)=false from rfl];exact(We m n g D S L b w K.box h).mono λe w' ⟨d,a,f⟩=>⟨d,LC K a f ⟨K.ok.prof,K.ok.src,Ug h false,K.ok.log,K.ok.len,K.ok.n⟩⟩
  ·rw[Ak (λc=>a c.2),Ak (λc=>a c.2)];exact(Wg m n y g w h (by simpa using a) T).mono λe w' ⟨d,a⟩=>⟨d,Cw K a⟩
 ·rw[Ak (λc=>h c.1),Ak (λc=>h c.1)];exact(Wd m n y g w CB T).mono λe w' ⟨d,a⟩=>⟨d,Cw K a⟩
theorem ZB {x:Int} (h:isV x=true): -9223372036854775808<x∧x<=9223372036854775807:=by have:=IQ.1 h;omega
theorem aN (r:Al) (n:Int):0<=trC r n∧trC r n<=1000:=by
 unfold trC
 split
 ·split<;>omega
 ·omega
theorem dX {b:Ae} (h:jw b) {n:Nat} {x:En} {l:List AU} (i:(rayB b).tr n=some (x,l)):(-9223372036854775808<x.lo∧x.lo<=9223372036854775807)∧(-9223372036854775808<x.hi∧x.hi<=9223372036854775807)∧BV (C2 l) 1 4=true:=by
 obtain⟨a,j,c,k⟩:=(KF h).tr_ok _ _ _ i;refine⟨ZB a.lo,ZB a.hi,?_⟩;unfold BV C2;rw[List.all_eq_true];intro y d;rw[List.mem_map] at d;obtain⟨z,f,rfl⟩:=d;exact CN (c z f).2.1 (c z f).2.2
theorem Tr (l:List Int):(hisL l).length=l.length:=List.length_map ..
theorem ZX (ρ:Int->Al) (f:Nat) (n lo hi a d c:Int):0<=ocC ρ f n lo hi a d c∧ocC ρ f n lo hi a d c<=1000:=by
 unfold ocC
 split
 ·omega
 split
 ·omega
 split
 ·omega
 split<;>omega
theorem eJ {ρ:Int->Al} {f:Nat} {n lo hi a d c:Int} (h:ocC ρ f n lo hi a d c=0):Ds n lo hi=true:=by
 rcases jt (Ds n lo hi) with o|o
 ·exact o
 ·unfold ocC at h;rw[AA o] at h;cases h
theorem ZY (ρ:Int->Al) (i:Nat) (n lo hi a d c:Int):(ocL ρ i n lo hi a d c).length<=100∧ ∀x∈ocL ρ i n lo hi a d c,-9223372036854775808<x∧x<=9223372036854775807:=by
 unfold ocL
 by_cases h:ocC ρ i n lo hi a d c=0
 ·rw[AA h];have k:=Gf (eJ h);have j:=Nh (L:=ocV ρ n lo hi a d c) (show 1<=lo by omega) (show lo<=100 by omega) (hi-lo).toNat Aa
  exact⟨by omega,λx f=>by have:=j.2 x f;omega⟩
 ·rw[Ak h];exact⟨AZ _,λx f=>by cases f⟩
theorem ZZ {ρ:Int->Al} {f:Nat} {n lo hi a d c:Int} (h: ¬ocC ρ f n lo hi a d c=0):ocL ρ f n lo hi a d c= []:=Ak h
theorem XH (xs:List Int) (n:Nat):0<=gaugeC xs n∧gaugeC xs n<=1000:=by
 unfold gaugeC
 split
 ·split
  ·omega
  ·split<;>omega
 ·omega
theorem L3 (b:Ae):0<=sdC b∧sdC b<=1000:=XH _ _
theorem Zg (xs:List Int) (n:Nat) (R L M:Int):0<=Po xs n R L M∧Po xs n R L M<=1000:=by unfold Po;split<;>omega
theorem Zx (s w h:Int) (ys:List Int) (n:Nat):0<=Qn s w h ys n∧Qn s w h ys n<=1000:=by
 unfold Qn
 split
 ·split<;>omega
 ·omega
theorem ZQ (g:Am):0<=mdC g∧mdC g<=1000:=by
 unfold mdC
 split
 ·split<;>omega
 ·omega
theorem aJ (n a m:Int):0<=tcC n a m∧tcC n a m<=1000:=by unfold tcC;split<;>omega
theorem Zk (a h o:Int):0<=evC a h o∧evC a h o<=1000:=by
 unfold evC
 split
 ·omega
 split
 ·omega
 split
 ·omega
 split<;>omega
theorem aI {n a m:Int} (h:Pd n a m=true):(0<=n∧n<=12)∧(0<=a∧a<=16)∧(0<=m∧m<=n+1):=by
 unfold Pd at h;rw[CD,CD] at h;exact⟨Ac h.1.1,Ac h.1.2,Ac h.2⟩
theorem dW (n a m:Int):fg n a m=tcV n a m:=by
 unfold fg tcV
 by_cases h:Pd n a m=true
 ·rw[AA h,AA h];obtain⟨c,d,f⟩:=aI h;rw[fT n.toNat m.toNat a Aa,show((m.toNat:Nat):Int)=m by omega]
 ·rw[Ak h,Ak h]
theorem aK (n a m:Int): -9223372036854775808<tcV n a m∧tcV n a m<=9223372036854775807:=by
 rw[<-dW];unfold fg
 by_cases h:Pd n a m=true
 ·rw[AA h];obtain⟨f,c,i⟩:=aI h;have e:=Vj c.1 c.2 n.toNat m (n.toNat+1-m.toNat);have p:(16:Int) ^ n.toNat<=16 ^ 12:=Er Aa;have d:(0:Int)<=16 ^ n.toNat:=Int.pow_nonneg Ah;have q:((n.toNat+1-m.toNat:Nat):Int)<=13:=Aa;have j:=CL q p d Ah;omega
 ·rw[Ak h];omega
theorem fd (b:Ae):(sdL b).length=sdN b*4∧sdN b<=b.log.length/7∧BJ (sdL b) (sdN b)=decide ((sdN b:Int)<=200):=by
 unfold sdN sdL V7 UR
 by_cases h:gaugeC b.log (b.log.length/7)=0
 ·rw[AA h];obtain⟨m,c,d⟩:=Xb (rpT b.log (b.log.length/7)) (rpS b.log (b.log.length/7)) b.log (b.log.length/7);have f:=Qy (rpT b.log (b.log.length/7)) (rpS b.log (b.log.length/7)) b.log (b.log.length/7);have i:=WK b.log (b.log.length/7);have e:(repL (rpT b.log (b.log.length/7)) (rpS b.log (b.log.length/7)) b.log (b.log.length/7)).length/4=m:=Aa;rw[e];refine⟨c,by omega,?_⟩
  unfold BJ;rw[aC (n:=m) (λk a=>d k a),Ha]
 ·rw[Ak h];exact⟨rfl,AZ _,rfl⟩
theorem Ld {b:Ae} (h:jw b):(sdL b).length=sdN b*4∧sdN b<=200∧BJ (sdL b) (sdN b)=true:=by
 obtain⟨a,d,c⟩:=fd b;have:=h.n;exact⟨a,by omega,by rw[c,BC];omega⟩
theorem dN {b:Ae} (h:jw b) {s:Bs} (d:ggC b s=0):Dl (ggR b s)=true:=by
 obtain⟨k,l,c⟩:=Ld h;unfold ggR UQ;have hc2:=d;unfold ggC at hc2;rw[AA hc2];unfold Qn at hc2;rw[AA c] at hc2
 have a:DK (cmI s 0) (cmI s 1) (cmI s 2)=true:=by
  rcases jt (DK (cmI s 0) (cmI s 1) (cmI s 2)) with o|o
  ·exact o
  ·rw[o] at hc2;cases hc2
 unfold DK at a;rw[CD,CD] at a;have f:=Ac a.1.1;have i:=Ac a.1.2;have j:=Ac a.2;unfold BJ at c;rw[CD] at c;exact fA Aa Aa Aa Aa Aa Aa c.1 Aa
theorem WN {x k M:Int} (c:0<k) (j: -M<=x) (d:x<=M) (a:0<=M): -M<=x/k∧x/k<=M:=by
 constructor
 ·rw[Int.le_ediv_iff_mul_le c];have:=Gq (show 1<=k by omega) a
  rw[Int.neg_mul];omega
 ·have f:=Int.ediv_le_ediv c d;have i:M/k<=M:=Int.ediv_le_self _ a;omega
theorem dT {g:Am} (h:Dl g=true):(-9223372036854775808<mdL g∧mdL g<=9223372036854775807)∧(-9223372036854775808<mdH g∧mdH g<=9223372036854775807):=by
 have K:=Xo.of h;have j:=Np K g.counts.length Bk;have f:=Nd K.w0 K.w1 K.h0 K.h1;have i:=K.len
 by_cases a:knTo g g.counts.length=0
 ·rw[(Nf h a).2.1,(Nf h a).2.2];omega
 ·rw[(Ng h a).2.1,(Ng h a).2.2];have k0:0<knTo g g.counts.length:=Aa;have c:=WN (M:=1000000000000000) k0 (x:=loTo g g.counts.length) Aa Aa Aa;have d:=WN (M:=1000000000000000) k0 (x:= -hiTo g g.counts.length) Aa Aa Aa;omega
def GG (B g:Nat) (D S L:Hd) (b':Ae) (t:Bs) (w:World) (e:Ending) (w':World):Prop:=
 e=.returned (.tuple #[.string ⟨t.toArray⟩,.bool true])∧Me B g D S L b' w w'
theorem Hc {B g:Nat} {D S L:Hd} {b':Ae} {w V w':World} (a:Below w w V) (h:Me B g D S L b' V w'):Me B g D S L b' w w':=by
 obtain⟨d,i,f,K,T,F⟩:=h;refine⟨d,i,f,K,⟨T.os.trans a.os,T.tape.trans a.tape,T.output.trans a.output,Ch a.size T.size,λk c l=> ?_⟩,λq j h=>F q (CM j a.size) h⟩;exact(T.block k (CM c a.size) l).trans (a.block k c)
theorem Iz {B g:Nat} {D S L:Hd} {b':Ae} {t:Bs} {w V w':World} {e:Ending} (a:Below w w V) (h:Dw B g D S L b' t V e w'):e=.returned (.string ⟨t.toArray⟩)∧Me B g D S L b' w w':=⟨h.1,Hc a h.2⟩
theorem Eh {B g:Nat} {D S L:Hd} {b':Ae} {w w':World} {p:Addr} {v:Value} (h:Me B g D S L b' w w') (d:Qb g D S L p.block) (a:w.cell? p=some v):w'.cell? p=some v:=by
 obtain⟨j,l,k,K,T,F⟩:=h;have i:=Gr w p a;rw[<-a]
 exact World.cell?_of_block (T.block _ i λs f=>by
  simp only[CC,I5,or_false] at f;rcases f with rfl|rfl
  ·intro c;injection c with c;exact d.1 c.symm
  ·exact d.2.2.2)
theorem Hf (a:Addr) (j:Nat) (h:j≠0):a.add j=⟨a.block,a.off+j,none⟩:=by unfold Addr.add;rw[Ak h]
theorem jU (A:Option Addr) (c:Nat) (ns:List Int) (B g:Nat) (D S L:Hd) (b:Ae) (w:World) (K:F9 B w g D S L b) (i:Rd w A 1 (ints ns)) (m: ∀a,A=some a->Qb g D S L a.block) (T:CK w):
  Calls prog 103 #[.pointer (some ⟨g,0,none⟩),.string ⟨#[115,111,117,114,99,101]⟩,.slice A 1 c] w (GG B g D S L (if inR (ns.getD 0 0) 0 ((b.depths.length:Int)-1)=true then {b with source:=(ns.getD 0 0)} else b) (if inR (ns.getD 0 0) 0 ((b.depths.length:Int)-1)=true then H5 else erT 2) w):=by
 have H:=λ(V:World) (d:Below w w V)=>(PX (ns.getD 0 0) B g D S L b V (K.below d) (T.below d)).mono (R':=λe w'=>e=.returned (.string ⟨((if inR (ns.getD 0 0) 0 ((b.depths.length:Int)-1)=true then H5 else erT 2)).toArray⟩)∧Me B g D S L (if inR (ns.getD 0 0) 0 ((b.depths.length:Int)-1)=true then {b with source:=(ns.getD 0 0)} else b) w w') (λ_ _ h=>Iz d h);unfold GG;generalize f:(if inR (ns.getD 0 0) 0 ((b.depths.length:Int)-1)=true then {b with source:=(ns.getD 0 0)} else b)=b' at H⊢;generalize j:(if inR (ns.getD 0 0) 0 ((b.depths.length:Int)-1)=true then H5 else erT 2)=t at H⊢;clear f j;obtain⟨a,rfl⟩: ∃a,A=some a:=by obtain⟨a,h,_⟩:=i.int (k:=0) Ah;exact⟨a,h⟩
 have hc0:w.cell? a=some (.int .i64 (ns.getD 0 0)):=Pn i Ah;generalize ns.getD 0 0=n at*;clear m i K T
 go_enter func103,ntmps103
 go_wp2_with (go_at_call 137;refine(H _ G6).mono ?_;rintro e w1 ⟨rfl,l⟩)
 go_ret2;exact⟨rfl,l⟩
theorem U3 (A:Option Addr) (c:Nat) (ns:List Int) (B g:Nat) (D S L:Hd) (b:Ae) (w:World) (K:F9 B w g D S L b) (i:Rd w A 3 (ints ns)) (s: ∀a,A=some a->Qb g D S L a.block) (T:CK w):
  Calls prog 103 #[.pointer (some ⟨g,0,none⟩),.string ⟨#[114,97,121]⟩,.slice A 3 c] w (GG B g D S L (if Gj (ns.getD 0 0) (ns.getD 1 0)=true∧inR (ns.getD 2 0) 0 1=true then {b with cos:=mkC (ns.getD 0 0) (ns.getD 1 0),sin:=mkS (ns.getD 0 0) (ns.getD 1 0) (decide ((ns.getD 2 0)=1)),hyp:=mkH (ns.getD 0 0) (ns.getD 1 0)} else b) (if Gj (ns.getD 0 0) (ns.getD 1 0)=true∧inR (ns.getD 2 0) 0 1=true then H5 else erT 2) w):=by
 have H:=λ(V:World) (n:Below w w V)=>(Wc (ns.getD 0 0) (ns.getD 1 0) (ns.getD 2 0) B g D S L b V (K.below n) (T.below n)).mono (R':=λe w'=>e=.returned (.string ⟨((if Gj (ns.getD 0 0) (ns.getD 1 0)=true∧inR (ns.getD 2 0) 0 1=true then H5 else erT 2)).toArray⟩)∧Me B g D S L (if Gj (ns.getD 0 0) (ns.getD 1 0)=true∧inR (ns.getD 2 0) 0 1=true then {b with cos:=mkC (ns.getD 0 0) (ns.getD 1 0),sin:=mkS (ns.getD 0 0) (ns.getD 1 0) (decide ((ns.getD 2 0)=1)),hyp:=mkH (ns.getD 0 0) (ns.getD 1 0)} else b) w w') (λ_ _ h=>Iz n h);unfold GG;generalize q:(if Gj (ns.getD 0 0) (ns.getD 1 0)=true∧inR (ns.getD 2 0) 0 1=true then {b with cos:=mkC (ns.getD 0 0) (ns.getD 1 0),sin:=mkS (ns.getD 0 0) (ns.getD 1 0) (decide ((ns.getD 2 0)=1)),hyp:=mkH (ns.getD 0 0) (ns.getD 1 0)} else b)=b' at H⊢;generalize r:(if Gj (ns.getD 0 0) (ns.getD 1 0)=true∧inR (ns.getD 2 0) 0 1=true then H5 else erT 2)=t at H⊢;clear q r;obtain⟨a,rfl⟩: ∃a,A=some a:=by obtain⟨a,h,_⟩:=i.int (k:=0) Ah;exact⟨a,h⟩
 have f:=s a rfl;have hc0:w.cell? a=some (.int .i64 (ns.getD 0 0)):=Pn i Ah;have hc1:w.cell? ⟨a.block,a.off+1,none⟩=some (.int .i64 (ns.getD 1 0)):=GV i Ah Ah;have hc2:w.cell? ⟨a.block,a.off+2,none⟩=some (.int .i64 (ns.getD 2 0)):=GV i Ah Ah;generalize ns.getD 0 0=v at*;generalize ns.getD 1 0=x at*;generalize ns.getD 2 0=y at*;clear s i K T;have j:=λ(u:World) (d:Me B g D S L b' w u)=>Eh (p:=a) d f hc0;have l:=λ(u:World) (d:Me B g D S L b' w u)=>Eh (p:=⟨a.block,a.off+1,none⟩) d f hc1;have m:=λ(u:World) (d:Me B g D S L b' w u)=>Eh (p:=⟨a.block,a.off+2,none⟩) d f hc2
 go_enter func103,ntmps103
 go_upto_region 5 with fail
 go_region_held3 (λw'=>w'.cell? a=some (.int .i64 v)∧w'.cell? ⟨a.block,a.off+1,none⟩=some (.int .i64 x)∧w'.cell? ⟨a.block,a.off+2,none⟩=some (.int .i64 y))
  (exact bt)
  (first
   |(go_at_call 138;(with_reducible refine(H _ Ax).mono ?_);rintro e w1 ⟨rfl,d⟩;have hd0:=j _ d;have hd1:=l _ d;have hd2:=m _ d))
 go_wp2
 go_ret2;exact⟨rfl,d⟩
theorem Rc (A:Option Addr) (c:Nat) (ns:List Int) (B g:Nat) (D S L:Hd) (b:Ae) (w:World) (K:F9 B w g D S L b) (i:Rd w A 2 (ints ns)) (r: ∀a,A=some a->Qb g D S L a.block) (T:CK w):
  Calls prog 103 #[.pointer (some ⟨g,0,none⟩),.string ⟨#[108,101,118,101,108]⟩,.slice A 2 c] w (GG B g D S L (addB b (ns.getD 0 0) 1 (ns.getD 1 0) 0 0 0 0) (Qc b (ns.getD 0 0) 1 (ns.getD 1 0) 0 0 0 0) w):=by
 have H:=λ(V:World) (m:Below w w V)=>(Gv (ns.getD 0 0) 1 (ns.getD 1 0) 0 0 0 0 B g D S L b V (K.below m) (T.below m)).mono (R':=λe w'=>e=.returned (.string ⟨((Qc b (ns.getD 0 0) 1 (ns.getD 1 0) 0 0 0 0)).toArray⟩)∧Me B g D S L (addB b (ns.getD 0 0) 1 (ns.getD 1 0) 0 0 0 0) w w') (λ_ _ h=>Iz m h);unfold GG;generalize n:(addB b (ns.getD 0 0) 1 (ns.getD 1 0) 0 0 0 0)=b' at H⊢;generalize q:(Qc b (ns.getD 0 0) 1 (ns.getD 1 0) 0 0 0 0)=t at H⊢;clear n q;obtain⟨a,rfl⟩: ∃a,A=some a:=by obtain⟨a,h,_⟩:=i.int (k:=0) Ah;exact⟨a,h⟩
 have f:=r a rfl;have hc0:w.cell? a=some (.int .i64 (ns.getD 0 0)):=Pn i Ah;have hc1:w.cell? ⟨a.block,a.off+1,none⟩=some (.int .i64 (ns.getD 1 0)):=GV i Ah Ah;generalize ns.getD 0 0=s at*;generalize ns.getD 1 0=v at*;clear r i K T;have j:=λ(u:World) (d:Me B g D S L b' w u)=>Eh (p:=a) d f hc0;have l:=λ(u:World) (d:Me B g D S L b' w u)=>Eh (p:=⟨a.block,a.off+1,none⟩) d f hc1
 go_enter func103,ntmps103
 go_upto_region 7 with fail
 go_region_held3 (λw'=>w'.cell? a=some (.int .i64 s)∧w'.cell? ⟨a.block,a.off+1,none⟩=some (.int .i64 v))
  (exact bm)
  (first
   |(go_at_call 139;(with_reducible refine(H _ Ax).mono ?_);rintro e w1 ⟨rfl,d⟩;have hd0:=j _ d;have hd1:=l _ d))
 go_wp2
 go_ret2;exact⟨rfl,d⟩
theorem Re (A:Option Addr) (c:Nat) (ns:List Int) (B g:Nat) (D S L:Hd) (b:Ae) (w:World) (K:F9 B w g D S L b) (i:Rd w A 5 (ints ns)) (x: ∀a,A=some a->Qb g D S L a.block) (T:CK w):
  Calls prog 103 #[.pointer (some ⟨g,0,none⟩),.string ⟨#[115,111,117,110,100]⟩,.slice A 5 c] w (GG B g D S L (addB b (ns.getD 0 0) 2 0 (ns.getD 1 0) (ns.getD 2 0) (ns.getD 3 0) (ns.getD 4 0)) (Qc b (ns.getD 0 0) 2 0 (ns.getD 1 0) (ns.getD 2 0) (ns.getD 3 0) (ns.getD 4 0)) w):=by
 have H:=λ(V:World) (r:Below w w V)=>(Gv (ns.getD 0 0) 2 0 (ns.getD 1 0) (ns.getD 2 0) (ns.getD 3 0) (ns.getD 4 0) B g D S L b V (K.below r) (T.below r)).mono (R':=λe w'=>e=.returned (.string ⟨((Qc b (ns.getD 0 0) 2 0 (ns.getD 1 0) (ns.getD 2 0) (ns.getD 3 0) (ns.getD 4 0))).toArray⟩)∧Me B g D S L (addB b (ns.getD 0 0) 2 0 (ns.getD 1 0) (ns.getD 2 0) (ns.getD 3 0) (ns.getD 4 0)) w w') (λ_ _ h=>Iz r h);unfold GG;generalize s:(addB b (ns.getD 0 0) 2 0 (ns.getD 1 0) (ns.getD 2 0) (ns.getD 3 0) (ns.getD 4 0))=b' at H⊢;generalize v:(Qc b (ns.getD 0 0) 2 0 (ns.getD 1 0) (ns.getD 2 0) (ns.getD 3 0) (ns.getD 4 0))=t at H⊢;clear s v;obtain⟨a,rfl⟩: ∃a,A=some a:=by obtain⟨a,h,_⟩:=i.int (k:=0) Ah;exact⟨a,h⟩
 have f:=x a rfl;have hc0:w.cell? a=some (.int .i64 (ns.getD 0 0)):=Pn i Ah;have hc1:w.cell? ⟨a.block,a.off+1,none⟩=some (.int .i64 (ns.getD 1 0)):=GV i Ah Ah;have hc2:w.cell? ⟨a.block,a.off+2,none⟩=some (.int .i64 (ns.getD 2 0)):=GV i Ah Ah;have hc3:w.cell? ⟨a.block,a.off+3,none⟩=some (.int .i64 (ns.getD 3 0)):=GV i Ah Ah;have hc4:w.cell? ⟨a.block,a.off+4,none⟩=some (.int .i64 (ns.getD 4 0)):=GV i Ah Ah;generalize ns.getD 0 0=y at*;generalize ns.getD 1 0=z at*;generalize ns.getD 2 0=C at*;generalize ns.getD 3 0=E at*;generalize ns.getD 4 0=F at*;clear x i K T;have j:=λ(u:World) (d:Me B g D S L b' w u)=>Eh (p:=a) d f hc0;have l:=λ(u:World) (d:Me B g D S L b' w u)=>Eh (p:=⟨a.block,a.off+1,none⟩) d f hc1;have m:=λ(u:World) (d:Me B g D S L b' w u)=>Eh (p:=⟨a.block,a.off+2,none⟩) d f hc2;have n:=λ(u:World) (d:Me B g D S L b' w u)=>Eh (p:=⟨a.block,a.off+3,none⟩) d f hc3;have q:=λ(u:World) (d:Me B g D S L b' w u)=>Eh (p:=⟨a.block,a.off+4,none⟩) d f hc4
 go_enter func103,ntmps103
 go_upto_region 9 with fail
 go_region_held3 (λw'=>w'.cell? a=some (.int .i64 y)∧w'.cell? ⟨a.block,a.off+1,none⟩=some (.int .i64 z)∧w'.cell? ⟨a.block,a.off+2,none⟩=some (.int .i64 C)∧w'.cell? ⟨a.block,a.off+3,none⟩=some (.int .i64 E)∧w'.cell? ⟨a.block,a.off+4,none⟩=some (.int .i64 F))
  (exact bv)
  (first
   |(go_at_call 139;(with_reducible refine(H _ Ax).mono ?_);rintro e w1 ⟨rfl,d⟩;have hd0:=j _ d;have hd1:=l _ d;have hd2:=m _ d;have hd3:=n _ d;have hd4:=q _ d))
 go_wp2
 go_ret2;exact⟨rfl,d⟩
theorem SW (A:Option Addr) (c:Nat) (ns:List Int) (B g:Nat) (D S L:Hd) (b:Ae) (w:World) (K:F9 B w g D S L b) (i:Rd w A 1 (ints ns)) (m: ∀a,A=some a->Qb g D S L a.block) (T:CK w):
  Calls prog 103 #[.pointer (some ⟨g,0,none⟩),.string ⟨#[109,97,114,107]⟩,.slice A 1 c] w (GG B g D S L (addB b (ns.getD 0 0) 3 0 0 0 0 0) (Qc b (ns.getD 0 0) 3 0 0 0 0 0) w):=by
 have H:=λ(V:World) (d:Below w w V)=>(Gv (ns.getD 0 0) 3 0 0 0 0 0 B g D S L b V (K.below d) (T.below d)).mono (R':=λe w'=>e=.returned (.string ⟨((Qc b (ns.getD 0 0) 3 0 0 0 0 0)).toArray⟩)∧Me B g D S L (addB b (ns.getD 0 0) 3 0 0 0 0 0) w w') (λ_ _ h=>Iz d h);unfold GG;generalize f:(addB b (ns.getD 0 0) 3 0 0 0 0 0)=b' at H⊢;generalize j:(Qc b (ns.getD 0 0) 3 0 0 0 0 0)=t at H⊢;clear f j;obtain⟨a,rfl⟩: ∃a,A=some a:=by obtain⟨a,h,_⟩:=i.int (k:=0) Ah;exact⟨a,h⟩
 have hc0:w.cell? a=some (.int .i64 (ns.getD 0 0)):=Pn i Ah;generalize ns.getD 0 0=n at*;clear m i K T
 go_enter func103,ntmps103
 go_wp2_with (go_at_call 139;refine(H _ G6).mono ?_;rintro e w1 ⟨rfl,l⟩)
 go_ret2;exact⟨rfl,l⟩
theorem Dd (A:Option Addr) (n c:Nat) (l:Bs) (g:Nat) (w:World) (a: ¬l=AM) (d: ¬l=Ca) (f: ¬l=AW) (i: ¬l=AX) (j: ¬l=Bo):
  (YC 103 #[.pointer (some ⟨g,0,none⟩),.string ⟨l.toArray⟩,.slice A n c] w (.tuple #[.string ⟨#[]⟩,.bool false]):Prop):=by
 unfold AM at a;unfold Ca at d;unfold AW at f;unfold AX at i;unfold Bo at j;have k:=Ea.2 a;have k2:=Ea.2 d;have k3:=Ea.2 f;have k4:=Ea.2 i;have k5:=Ea.2 j
 go_enter func103,ntmps103
 go_wp2
 go_ret2;exact⟨rfl,rfl⟩
def CU (t:Bs) (w:World) (e:Ending) (w':World):Prop:=e=.returned (.string ⟨t.toArray⟩)∧Below w w w'
theorem Lm {b:Ae} (h:jw b):((b.source.toNat:Nat):Int)=b.source:=by have:=Ac h.src;omega
theorem af {w:World} {A:Option Addr} {n g:Nat} {us:List Value} {a b c d:Value} (h:Rd w A n us) (f: ∀i,A=some i->0<n->i.block≠g):Rd ((((w.setCell ⟨g,0,none⟩ a).setCell ⟨g,1,none⟩ b).setCell ⟨g,2,none⟩ c).setCell ⟨g,3,none⟩ d) A n us:=Cb (Cb (Cb (Cb h f _) f _) f _) f _
theorem Pf (v lo hi F:Int) (up:Bool) (evs:List Int) (n:Int) (g:Nat) (D S L:Hd) (b:Ae) (w:World) (K:Bz w g D S L b) (T:CK w)
  (HT: ∀W,Below w w W->Calls prog 180 #[CH D.A D.n D.c S.A S.n S.c,ZI b.source,Ziii b.cos b.sin b.hyp,ZI n] W λe w'=> ∃a:Hd,e=.returned (.tuple (G5 a.A a.n a.c v up lo hi F))∧Rd w' a.A a.n (ints evs)∧(∀ad,a.A=some ad->0<a.n->W<=ad.block)∧Below W W w')
  (hl:evs.length<=100) (ha:BV evs 1 4=true) (h1: -9223372036854775808<lo∧lo<=9223372036854775807) (h2: -9223372036854775808<hi∧hi<=9223372036854775807) (h3:0<=F∧F<=1000):
  Calls prog 140 #[.pointer (some ⟨g,0,none⟩),.int .i64 n] w (CU (cdT (orD (hisL evs)++ [32]++ivT lo hi) F) w):=by
 have HH:=λ(V:World) (bb:Below w w V) (a:Hd) (hr:Rd V a.A a.n (ints evs))=>I9 a.A a.n a.c evs V (by have:=hr.len;omega) hr ha
 have HO:=λV=>(VQ (hisL evs) V).mono (R':=λe w'=>e=.returned (.string ⟨(orD (hisL evs)).toArray⟩)∧V=w') (λ_ _ h=>⟨h.1,h.2.symm⟩);have HI:=λ(V:World) (bb:Below w w V)=>Ob lo hi V h1.1 h1.2 h2.1 h2.2 (T.below bb);have HU:=λ(V:World) (bb:Below w w V)=>Ep (orD (hisL evs)++ [32]++ivT lo hi) F V h3.1 h3.2 (T.below bb);have l1:=Bm lo Aa Aa;have l2:=Bm hi Aa Aa
 have l3:(orD (hisL evs)).length<=101:=by
  unfold orD
  split
  ·decide
  ·rw[Tr];omega
 have l4:(ivT lo hi).length<=100:=by unfold ivT;rw[Dy,Dy];simp only[Gt,List.length_nil];omega
 unfold CU;generalize hR:cdT (orD (hisL evs)++ [32]++ivT lo hi) F=R at HU⊢;clear hR;generalize orD (hisL evs)=O at*;generalize hisL evs=H at*;generalize ivT lo hi=I at*;obtain⟨y,s⟩: ∃y,O++ [32]=y:=⟨_,rfl⟩;obtain⟨S2,G⟩: ∃S2,y++I=S2:=⟨_,rfl⟩;rw[s,G] at HU;have k1:y.length=O.length+1:=by rw[<-s,Dy];rfl
 have p1: ¬9223372036854775807<O.length+1:=Aa;have p2: ¬9223372036854775807<y.length+I.length:=Aa;have s1:((⟨O.toArray⟩:ByteArray)++⟨#[32]⟩)=⟨y.toArray⟩:=by rw[<-s];exact AY O [32]
 have s2:((⟨y.toArray⟩:ByteArray)++⟨I.toArray⟩)=⟨S2.toArray⟩:=by rw[<-G];exact AY y I
 clear s G k1 l1 l2 l3 l4 h1 h2 h3 hl ha T;have J:=K.blk;have hg:=J.lt;obtain⟨DA,dn,dc⟩:=D;obtain⟨SA,sn,sc⟩:=S;obtain⟨LA,ln,lc⟩:=L;clear K;simp only at J HT;have hb:=J.cell
 go_enter func140,ntmps140
 go_upto_region 1 with fail
 have bA:Below w w (w.alloc (.cells DJ 138)):=BU;have hA:=HT w.drew GJ;have hB:=HT (w.alloc (.cells DJ 138)).drew (CO bA);have KZ:=Blk.drew (Br w 138 DJ)
 go_cut [5,6,7] (λv5 v6 v7 wx=> ∃(q:Nat) (a:Hd),v5=.slice a.A a.n a.c∧v6=.pointer (some ⟨q,0,none⟩)∧v7=.int .i64 F∧Blk wx q 138 (A7 v up lo hi)∧Rd wx a.A a.n (ints evs)∧Below w w wx)
 case first=>
  go_region_held3 (λw'=>(∀o,w'.cell? ⟨g,o,none⟩=((Ad DA dn dc SA sn sc b LA ln lc):Array Value)[o]?))
   (exact Cs)
   (first
    |(go_at_call 180;(with_reducible refine hA.mono ?_);rintro e u ⟨⟨U,en,Z⟩,rfl,N,ab,b4⟩;have z:Below w w u:=EE (m:=1) b4;have z0:(∀o,u.cell? ⟨g,o,none⟩=((Ad DA dn dc SA sn sc b LA ln lc):Array Value)[o]?):=λo=>(J.below z hg).cell o;have y0:=CM hg z.size;have M:=Br u 138 (A7 v up lo hi);have bU:Below w w (u.alloc (.cells (A7 v up lo hi) 138)):=z.trans (((AP _ _).alloc Bk _).mono z.size))
    |(go_at_call 180;(with_reducible refine hB.mono ?_);rintro e u ⟨⟨U,en,Z⟩,rfl,N,ab,b4⟩;have z:Below w w u:=(CO bA).trans (b4.mono bA.size);have z0:(∀o,u.cell? ⟨g,o,none⟩=((Ad DA dn dc SA sn sc b LA ln lc):Array Value)[o]?):=λo=>(J.below z hg).cell o;have y0:=CM hg z.size;have M:=KZ.below b4 KZ.lt;have fU:=M.frozen;have cU:=M.cell;have a6:=M.lt))
  all_goals
   go_wp2_with fail
   go_meet
   first
    |exact⟨u.heap.size,⟨U,en,Z⟩,rfl,rfl,rfl,M,N.below BU,bU⟩
    |exact⟨w.heap.size,⟨U,en,Z⟩,rfl,rfl,rfl,((((M.set_ 0 _).set_ 1 _).set_ 2 _).set_ 3 _),af N (λad e h=>by have h5:=ab ad e h;simp at h5;omega),((((z.setCell (p:=⟨w,0,none⟩) Bk _).setCell (p:=⟨w,1,none⟩) Bk _).setCell (p:=⟨w,2,none⟩) Bk _).setCell (p:=⟨w,3,none⟩) Bk _)⟩
 case rest=>
  obtain⟨q,⟨U,en,Z⟩,rfl,rfl,rfl,k,N,bw⟩:=hcut;obtain⟨d,rfl⟩: ∃x:World,x=wc:=⟨_,rfl⟩;have X:=λ(V:World) (Q:Below d d V)=>HH V (An bw Q) ⟨U,en,Z⟩ (N.below Q);have aw:=λ(V:World) (Q:Below d d V)=>HI V (An bw Q);have ax:=λ(V:World) (Q:Below d d V)=>HU V (An bw Q);clear HH HI HU HT hb N J hg bA hA hB KZ;simp only at X
  go_upto_region 2 with fail
  have a8: ∀o,d.cell? ⟨q,o,none⟩=((A7 v up lo hi):Array Value)[o]? :=k.cell
  go_region_held3 (λw'=>(∀o,w'.cell? ⟨q,o,none⟩=((A7 v up lo hi):Array Value)[o]?))
   (exact IJ)
   (first
    |((fail_if_success (clear i));go_at_call 182;refine(X _ Ax).mono ?_;rintro e l ⟨rfl,Y⟩;have i:Below d d l:=(show Below d d _ from Ax).trans (Y.mono C9);have aU:=i.size;have ae:=Y.size;(try simp at ae);have aG: ∀o,l.cell? ⟨q,o,none⟩=((A7 v up lo hi):Array Value)[o]? :=λo=>(k.below i k.lt).cell o;have aJ:q<l:=(k.below i k.lt).lt)
    |(go_at_call 181;refine(HO _).mono ?_;rintro e w' ⟨rfl,rfl⟩)
    |((fail_if_success (clear j));go_at_call 183;refine(aw _ Ax).mono ?_;rintro e C ⟨rfl,E⟩;have j:Below d d C:=(show Below d d _ from Ax).trans (E.mono C9);have aV:=j.size;have ag:=E.size;(try simp at ag);have aq:Below l l C:=(show Below l l _ from Ax).trans (E.mono C9);have aH: ∀o,C.cell? ⟨q,o,none⟩=((A7 v up lo hi):Array Value)[o]? :=λo=>(k.below j k.lt).cell o;have aK:q<C:=(k.below j k.lt).lt)
    |((fail_if_success (clear f));go_at_call 146;refine(ax _ Ax).mono ?_;rintro e u3 ⟨rfl,r⟩;have f:Below d d u3:=(show Below d d _ from Ax).trans (r.mono C9);have a0:=f.size;have ah:=r.size;(try simp at ah);have ar:Below l l u3:=(show Below l l _ from Ax).trans (r.mono C9);have au:Below C C u3:=(show Below C C _ from Ax).trans (r.mono C9);have aI: ∀o,u3.cell? ⟨q,o,none⟩=((A7 v up lo hi):Array Value)[o]? :=λo=>(k.below f k.lt).cell o;have aL:q<u3:=(k.below f k.lt).lt))
  all_goals
   go_wp2;go_ret;exact⟨rfl,(An bw f)⟩
theorem Wq (n:Int) (g:Nat) (D S L:Hd) (b:Ae) (w:World) (K:Bz w g D S L b) (ok:jw b) (T:CK w):
  Calls prog 140 #[.pointer (some ⟨g,0,none⟩),ZI n] w (CU (trT b n) w):=by
 have f:=λ(W:World) (c:Below w w W)=>LQ ⟨D,S⟩ (rayB b) n W ⟨K.d.below c,K.s.below c⟩ (KF ok);have C:(((rayB b).src:Nat):Int)=b.source:=Lm ok;unfold EV GU at f;rw[C] at f
 by_cases h:trC (rayB b) n=0
 ·obtain⟨x,l,i⟩: ∃x l,(rayB b).tr n.toNat=some (x,l):=by
   unfold trC at h
   split at h
   ·split at h
    ·cases h
    ·next y hy=>exact⟨y.1,y.2,hy⟩
   ·cases h
  have e:trT b n=cdT (orD (hisL (C2 l))++ [32]++ivT x.lo x.hi) 0:=by
   unfold trT cdT;rw[AA h,i,AA rfl]
  obtain⟨q,r,u⟩:=dX ok i
  have A:(C2 l).length<=100:=by
   have G:=((KF ok).tr_ok _ _ _ i).2.1
   have v:inR n 0 100=true:=by
    rcases jt (inR n 0 100) with o|o
    ·exact o
    ·unfold trC at h;rw[o] at h;cases h
   have H:=Ac v;unfold C2;rw[List.length_map];omega
  rw[e];refine Pf (x.k:Int) x.lo x.hi 0 x.dn (C2 l) n g D S L b w K T (λW c=>(f W c).mono ?_) A u q r Aa;rintro e w' (⟨m,_⟩|⟨F,E,p,_,_,a,rfl,_,_,R,z,j⟩)
  ·exact absurd h m
  ·rw[i] at a;simp only[Gs,Prod.mk.injEq] at a;obtain⟨rfl,rfl⟩:=a;exact⟨p,rfl,R,z,j⟩
 ·have e:trT b n=cdT (orD (hisL [])++ [32]++ivT 0 0) (trC (rayB b) n):=by
   unfold trT cdT;rw[Ak h,Ak h]
  rw[e];refine Pf 0 0 0 (trC (rayB b) n) false [] n g D S L b w K T (λW c=>(f W c).mono ?_) Ah rfl Aa Aa (aN _ _);rintro e w' (⟨_,rfl,j⟩|⟨F,E,p,m,_⟩)
  ·exact⟨⟨none,0,0⟩,rfl,Rd.nil _ _,(λ_ e=>by cases e),j⟩
  ·exact absurd m h
theorem cG (s:Bs) (A:Option Addr) (c:Nat) (g:Nat) (D S L:Hd) (b:Ae) (w:World) (K:Bz w g D S L b) (ok:jw b) (v:Rd w A 6 (ints (Co s))) (T:CK w):
  Calls prog 141 #[.pointer (some ⟨g,0,none⟩),.slice A 6 c] w (CU (meT b s) w):=by
 have f:=λ(W:World) (l:Below w w W)=>Ke ⟨D,S⟩ b.depths b.speeds b.source.toNat (cmI s 0) (cmI s 1) (cmI s 2) (cmI s 3) (cmI s 4) (cmI s 5) (decide (0<b.sin)) W ⟨K.d.below l,K.s.below l⟩ ⟨ok.prof,by have:=Ac ok.src;omega⟩
 unfold RetOc EV at f;rw[Lm ok] at f;have M:=ZY (Qk b (cmI s 0)) b.depths.length (cmI s 0) (cmI s 1) (cmI s 2) (cmI s 3) (cmI s 4) (cmI s 5);have I:=ZX (Qk b (cmI s 0)) b.depths.length (cmI s 0) (cmI s 1) (cmI s 2) (cmI s 3) (cmI s 4) (cmI s 5);have HN: ¬meC b s=0->meL b s= []:=λh=>ZZ h;have z:Hid (meT b s=if meC b s=0 then(if meL b s= [] then [110,111,110,101] else joinI [32] (meL b s)) else erT (meC b s)):=rfl;have f: ∀(W:World),Below w w W->Calls prog 184 #[CH D.A D.n D.c S.A S.n S.c,ZI b.source,ZI (cmI s 0),ZI (cmI s 1),ZI (cmI s 2),.bool (decide (0<b.sin)),ZI (cmI s 3),ZI (cmI s 4),ZI (cmI s 5)] W λe w'=> ∃H:Hd,e=.returned (.tuple (Gb H.A H.n H.c (meC b s)))∧H.n=(meL b s).length∧Rd w' H.A H.n (ints (meL b s))∧Below W W w':=f;change(meL b s).length<=100∧ ∀x∈meL b s,-9223372036854775808<x∧x<=9223372036854775807 at M;change 0<=meC b s∧meC b s<=1000 at I;obtain⟨a,rfl⟩: ∃a,A=some a:=by obtain⟨a,h,_⟩:=v.int (k:=0) Ah;exact⟨a,h⟩
 have hc0:w.cell? a=some (.int .i64 (cmI s 0)):=Pn v Ah;have hc1:w.cell? ⟨a.block,a.off+1,none⟩=some (.int .i64 (cmI s 1)):=GV v Ah Ah;have hc2:w.cell? ⟨a.block,a.off+2,none⟩=some (.int .i64 (cmI s 2)):=GV v Ah Ah;have hc3:w.cell? ⟨a.block,a.off+3,none⟩=some (.int .i64 (cmI s 3)):=GV v Ah Ah;have hc4:w.cell? ⟨a.block,a.off+4,none⟩=some (.int .i64 (cmI s 4)):=GV v Ah Ah;have X:w.cell? ⟨a.block,a.off+5,none⟩=some (.int .i64 (cmI s 5)):=GV v Ah Ah;unfold CU;generalize meT b s=R at*;generalize meC b s=F at*;generalize meL b s=r at*;generalize cmI s 0=x0 at*;generalize cmI s 1=x1 at*;generalize cmI s 2=x2 at*;generalize cmI s 3=x3 at*;generalize cmI s 4=x4 at*;generalize cmI s 5=x5 at*;have Q:=K.blk;have hg:=Q.lt;have i:=Gr w a hc0;obtain⟨DA,dn,dc⟩:=D;obtain⟨SA,sn,sc⟩:=S;obtain⟨LA,ln,lc⟩:=L;clear K v;simp only at Q f;have hb:=Q.cell;have hA:=f w.drew GJ
 go_enter func141,ntmps141
 go_upto_region 1 with fail
 go_region_held3 (λw'=>(∀o,w'.cell? ⟨g,o,none⟩=((Ad DA dn dc SA sn sc b LA ln lc):Array Value)[o]?)∧w'.cell? a=some (.int .i64 x0)∧w'.cell? ⟨a.block,a.off+1,none⟩=some (.int .i64 x1)∧w'.cell? ⟨a.block,a.off+2,none⟩=some (.int .i64 x2)∧w'.cell? ⟨a.block,a.off+3,none⟩=some (.int .i64 x3)∧w'.cell? ⟨a.block,a.off+4,none⟩=some (.int .i64 x4)∧w'.cell? ⟨a.block,a.off+5,none⟩=some (.int .i64 x5))
  (exact Cs)
  (first
   |(go_at_call 184;(with_reducible refine hA.mono ?_);rintro e u ⟨⟨OA,y,oc⟩,rfl,Y,C,b4⟩;have q:Hid (y=r.length):=Y;clear Y;have j:Below w w u:=EE (m:=1) b4;have af: ∀o,u.cell? ⟨g,o,none⟩=((Ad DA dn dc SA sn sc b LA ln lc):Array Value)[o]? :=λo=>(Q.below j hg).cell o;have hd0:=Cg j hc0 i;have hd1:=Cg j hc1 i;have hd2:=Cg j hc2 i;have hd3:=Cg j hc3 i;have hd4:=Cg j hc4 i;have ag:u.cell? ⟨a.block,a.off+5,none⟩=some (.int .i64 x5):=(JX j (p:=⟨a.block,a.off+5,none⟩) i).trans X))
 clear f hA hb af Q hg i hc0 hd0 hc1 hd1 hc2 hd2 hc3 hd3 hc4 hd4 X ag;have C:Rd u OA y (ints r):=C;have E:=T.below j
 by_cases h:F=0
 ·subst h
  by_cases G:r= []
  ·subst G;obtain rfl:y=0:=q.out;have N:Hid (R= [110,111,110,101]):=z.out;clear z HN;go_wp2;go_ret;rw[N.out];exact⟨rfl,j⟩
  ·have N:Hid (R=joinI [32] r):=by
    have:=z.out;rw[AA rfl,Ak G] at this;exact this
   have Z: ¬y=0:=λc=>G (Pt (by rw[<-q.out];exact c))
   have an:((y:Int)==0)=false:=W7;have HJ:=λ(V:World) (l:Below u u V)=>FN OA y oc r [32] V (by have:=q.out;omega) Ah (C.below l) M.2 (E.below l)
   have O:=λ(V:World) (l:Below u u V)=>Ep (joinI [32] r) 0 V Ah Ah (E.below l);rw[show cdT (joinI [32] r) 0=joinI [32] r from AA rfl] at O;clear z HN G M C T E Z I;generalize joinI [32] r=J at*
   go_wp2_with (first|(go_at_call 148;refine(HJ _ G6).mono ?_;rintro e w1 ⟨rfl,U⟩)|(go_at_call 146;refine(O _ U).mono ?_;rintro e w2 ⟨rfl,b2⟩))
   go_ret;rw[N.out];exact⟨rfl,j.trans ((An U b2).mono j.size)⟩
 ·have G:=HN h;subst G;obtain rfl:y=0:=q.out
  have N:Hid (R=erT F):=by
   have:=z.out;rw[Ak h] at this;exact this
  have hcb:(F==0)=false:=by rw[Ea];exact h
  have HJ:=λ(V:World) (l:Below u u V)=>FN OA 0 oc [] [32] V Aa Ah (C.below l) M.2 (E.below l);have O:=λ(V:World) (l:Below u u V)=>Ep (joinI [32] []) F V I.1 I.2 (E.below l);rw[show cdT (joinI [32] []) F=erT F from Ak h] at O;clear z HN h M C T E I;generalize joinI [32] []=J at*
  go_wp2_with (first|(go_at_call 148;refine(HJ _ G6).mono ?_;rintro e w1 ⟨rfl,U⟩)|(go_at_call 146;refine(O _ U).mono ?_;rintro e w2 ⟨rfl,b2⟩))
  go_ret;rw[N.out];exact⟨rfl,j.trans ((An U b2).mono j.size)⟩
