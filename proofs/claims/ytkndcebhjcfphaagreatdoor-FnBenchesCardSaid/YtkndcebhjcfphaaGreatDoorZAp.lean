import Derived.Test.YtkndcebhjcfphaaGreatDoorZAd
import Derived.Test.YtkndcebhjcfphaaGreatDoorZAox1
namespace Go.Proofs.YtkndcebhjcfphaaGreatDoor
open Go.RowKit Go.Proofs.Tryz
set_option maxRecDepth 100000
set_option maxHeartbeats 4000000
set_option linter.all false
def fitB (s:Bs):Bool:=decide (s.length<=4000) && decide ((lnL s).length<=80)
def Wt:Ae:=⟨[],[],0,0,0,0,[]⟩
def baR (s:Bs):Ae:=if fitB s=true then bsAll (lnL s) AE else Wt
def roL (s:Bs):List Bs:=if fitB s=true then bsOuts (lnL s) AE else []
def rnC (s:Bs):Int:=if fitB s=true then 0 else 3
theorem Qe:jw AE:=⟨by decide,by decide,by decide,rfl,rfl,by decide⟩
def QP (s:Bs) (w:World) (e:Ending) (w':World):Prop:=
 ∃(h:AG) (H:Hd),e=.returned (.tuple #[At h (baR s),.slice H.A H.n H.c,ZI (rnC s)])∧GW h∧Ag w' (Ar h (baR s))∧AB w' w.heap.size (Ar h (baR s))∧Dx (BK h)∧H.n=(roL s).length∧Rd w' H.A H.n (BO (roL s))∧Wr w' w.heap.size H.A H.n∧Below w w w'
section
variable {B g : Nat} {D S L : Hd} {b : Ae} {w w' : World}
theorem GL {A:Option Addr} {n:Nat} {ad:Addr} (e:A=some ad) (h:0<n):blkp A n=some ad.block:=by
 unfold blkp;rw[Ak Aa,e];rfl
theorem F9.grown {row:Option Nat} (K:F9 B w g D S L b) (gg:w.grownBy w' row) (f: ∀q,row=some q->Qb g D S L q):F9 B w' g D S L b:=by
 have i: ∀a,D.A=some a->0<D.n->row≠some a.block:=λa e h c=>(f _ c).2.1 (GL e h);have j: ∀a,S.A=some a->0<S.n->row≠some a.block:=λa e h c=>(f _ c).2.2.1 (GL e h);refine⟨⟨K.box.blk.grown gg (λc=>(f _ c).1 rfl),K.box.d.grown gg i,K.box.s.grown gg j,K.box.l.grown gg (λq e c=>(f _ c).2.2.2 e),K.box.dn,K.box.sn,K.box.dg,K.box.sg,K.box.dl,K.box.sl⟩,⟨K.pr.d.grown K.box.d gg i,K.pr.s.grown K.box.s gg j,K.pr.ds⟩,K.ok,K.bg⟩
theorem F9.out (K:F9 B w g D S L b):GW ⟨D,S,L⟩∧Ag w (Ar ⟨D,S,L⟩ b)∧AB w B (Ar ⟨D,S,L⟩ b)∧Dx (BK ⟨D,S,L⟩):=by
 have v:=K.bg;have y:b.log.length=L.n*7:=by have:=K.box.l.len;unfold ints at this;simpa using this
 have r:=K.ok.n;have a:=K.ok.prof;unfold BI at a;rw[CD] at a;have hd1:=Ac a.1;have e1:=K.box.dn;have e2:=K.box.sn
 refine⟨⟨by show D.n<=1048576;have:=K.ok.d12;omega,?_,by show L.n<=1048576;omega⟩,Ag.cons (s:=⟨D.A,D.n,ints b.depths⟩) K.box.d (Ag.cons (s:=⟨S.A,S.n,ints b.speeds⟩) K.box.s (Ag.cons (s:=⟨L.A,L.n*7,ints b.log⟩) K.box.l.rd (Ag.nil _))),
  AB.cons (s:=⟨D.A,D.n,ints b.depths⟩) K.pr.d (AB.cons (s:=⟨S.A,S.n,ints b.speeds⟩) K.pr.s (AB.cons (s:=⟨L.A,L.n*7,ints b.log⟩) (K.box.l.wr.lower Aa) (AB.nil _ _))),?_⟩
 ·show S.n<=1048576;have p:=a.2;rw[CD,BP] at p;have:=p.1;have:=K.ok.d12;omega
 ·have u: ∀q,blkp L.A (L.n*7)=some q->L.row=some q:=λq e=>Gl (λh=>by have:=K.box.l.nc;omega) e
  refine Dx.cons (λx m t f q e c=> ?_) (Dx.cons (λx m t f q e c=> ?_) (Dx.one _))
  ·rw[DD.1 m] at e;simp only[CC,I5,or_false] at f;rcases f with rfl|rfl
   ·exact K.pr.ds q e c
   ·obtain⟨i,k,j,rfl⟩:=Df e;exact K.box.dl i k j (u _ c)
  ·rw[DD.1 m] at e;rw[DD.1 f] at c;obtain⟨i,k,j,rfl⟩:=Df e;exact K.box.sl i k j (u _ c)
end
theorem Kd (w:World):Calls prog 20 #[] w λe w'=> ∃D S:Hd,e=.returned (Bp D.A D.n D.c S.A S.n S.c 0 4 3 5 none 0 0)∧Rd w' D.A D.n (ints AE.depths)∧Rd w' S.A S.n (ints AE.speeds)∧Mf w' w.heap.size D S∧Below w w w':=by
 have H:=WW w;obtain⟨⟨D,S,⟨A,n,c⟩⟩,a,-,R,W,d,f⟩:=H
 have m:A=none∧n=0∧c=0:=by
  unfold At at a;simp at a;obtain⟨-,-,-,-,-,-,j,k,l⟩:=a;exact⟨j.symm,k.symm,l.symm⟩
 obtain⟨rfl,rfl,rfl⟩:=m;have i:Hid (∃D S:Hd,Ending.returned (Bp (some ⟨w+1,0,none⟩) 2 2 (some ⟨w+1+1,0,none⟩) 2 2 0 4 3 5 none 0 0)=.returned (Bp D.A D.n D.c S.A S.n S.c 0 4 3 5 none 0 0)∧Rd (((w.alloc (.cells (Bp (some ⟨w+1,0,none⟩) 2 2 (some ⟨w+1+1,0,none⟩) 2 2 0 4 3 5 none 0 0) 35)).alloc (.cells (Zii 0 1000) 2)).alloc (.cells (Zii 1500000 1500000) 2)) D.A D.n (ints AE.depths)∧Rd _ S.A S.n (ints AE.speeds)∧Mf _ w.heap.size D S∧Below w w _):=⟨D,S,a,R.head,R.tail.head,⟨W.head,W.tail.head,λq e=>d.off _ (DD.2 rfl) _ (C5 ..) q e⟩,f⟩;clear R W d f a
 go_enter func20,ntmps20
 go_wp2;exact AS (v:=.agg (Bp (some ⟨w+1,0,none⟩) 2 2 (some ⟨w+1+1,0,none⟩) 2 2 0 4 3 5 none 0 0)) (by simp[results,results20,go_sem]) rfl i.out
theorem Qv {w:World} {l:List Sl} {g:Nat} {a b c d e f h:Value} (R:Ag w l) (i: ∀s∈l.map Sl.row,s≠some g):Ag (((((((w.setCell ⟨g,0,none⟩ a).setCell ⟨g,1,none⟩ b).setCell ⟨g,2,none⟩ c).setCell ⟨g,3,none⟩ d).setCell ⟨g,4,none⟩ e).setCell ⟨g,5,none⟩ f).setCell ⟨g,6,none⟩ h) l:=
 ((((((R.cell_ i).cell_ i).cell_ i).cell_ i).cell_ i).cell_ i).cell_ i
theorem QL {w:World} {B:Nat} {l:List Sl} {g:Nat} {a b c d e f h:Value} (W:AB w B l):AB (((((((w.setCell ⟨g,0,none⟩ a).setCell ⟨g,1,none⟩ b).setCell ⟨g,2,none⟩ c).setCell ⟨g,3,none⟩ d).setCell ⟨g,4,none⟩ e).setCell ⟨g,5,none⟩ f).setCell ⟨g,6,none⟩ h) B l:=
 W.cell_.cell_.cell_.cell_.cell_.cell_.cell_
theorem Nl {w:World} {B K:Nat} {h:Hd} {us:List Value} (o:AR w B K h us) {g:Nat} (hg:g<B) {a b c d e f k:Value}:AR (((((((w.setCell ⟨g,0,none⟩ a).setCell ⟨g,1,none⟩ b).setCell ⟨g,2,none⟩ c).setCell ⟨g,3,none⟩ d).setCell ⟨g,4,none⟩ e).setCell ⟨g,5,none⟩ f).setCell ⟨g,6,none⟩ k) B K h us:=
 Cu (Cu (Cu (Cu (Cu (Cu (Cu o hg _) hg _) hg _) hg _) hg _) hg _) hg _
theorem Q3 {B:Nat} {i w:World} (k:Below B i w) {g:Nat} (hg:B<=g) {a b c d e f h:Value}:Below B i (((((((w.setCell ⟨g,0,none⟩ a).setCell ⟨g,1,none⟩ b).setCell ⟨g,2,none⟩ c).setCell ⟨g,3,none⟩ d).setCell ⟨g,4,none⟩ e).setCell ⟨g,5,none⟩ f).setCell ⟨g,6,none⟩ h):=
 ((((((k.setCell (p:=⟨g,0,none⟩) hg _).setCell (p:=⟨g,1,none⟩) hg _).setCell (p:=⟨g,2,none⟩) hg _).setCell (p:=⟨g,3,none⟩) hg _).setCell (p:=⟨g,4,none⟩) hg _).setCell (p:=⟨g,5,none⟩) hg _).setCell (p:=⟨g,6,none⟩) hg _
theorem Si (s:Bs) (w:World) (hs:s.length<=1048576) (T:Dq w):
  Calls prog 34 #[.string ⟨s.toArray⟩] w (QP s w):=by
 have hz:=Bj s;have ax:=JF s;have C:=WU s;obtain⟨n,hn⟩: ∃n,(linesL s).length=n:=⟨_,rfl⟩;rw[hn] at ax C;have HN:=Ai hn;clear hn
 go_enter func34,ntmps34
 go_upto_region 1 with fail
 generalize hG:w.alloc _=w1;obtain⟨K0,b0⟩:=EX hG;clear hG;have aw:=K0.lt
 go_upto_region 2 with(first|(go_at_call 62;refine(XZ ⟨s.toArray⟩ _).mono ?_;rintro e w' ⟨rfl,rfl⟩)|(go_at_call 61;refine(iN w1.heap.size s _ hs (Br w1 9 #[.string ⟨s.toArray⟩])).mono ?_;rintro e r ⟨⟨LA,ln,lc⟩,rfl,ay,RL,-,b3⟩;have M:Hid (ln=(linesL s).length):=ay;clear ay))
 (try simp only at RL)
 have Q:Below w1 w1 r:=((AP _ w1).alloc Bk (.cells #[.string ⟨s.toArray⟩] 9)).trans b3;obtain rfl:ln=n:=M.out.trans HN.out;have I:Below w w r:=An b0 Q;have K3:=K0.below Q aw;have g3:=K3.lt;have e3:=K3.cell;have f3:=K3.frozen;clear b3 K0 Q aw
 by_cases z:fitB s=true
 rotate_left
 ·have u:Hid (baR s=Wt∧roL s= []∧rnC s=3):=⟨Ak z,Ak z,Ak z⟩
  have aC:4000<s.length∨80<ln:=by
   unfold fitB at z;rw[C,CD,BP,BP] at z;omega
  have E:Hid (∀W,Below w w W->QP s w (.returned (.tuple #[Ap,.slice none 0 0,ZI 3])) W):=λW bb=>by
   refine⟨⟨⟨none,0,0⟩,⟨none,0,0⟩,⟨none,0,0⟩⟩,⟨none,0,0⟩,by rw[u.out.1,u.out.2.2];rfl,⟨AZ _,AZ _,AZ _⟩,?_,?_,?_,by rw[u.out.2.1];rfl,by rw[u.out.2.1];exact Rd.nil _ _,λh=>absurd h Ah,bb⟩
   ·rw[u.out.1];exact Ag.cons (s:=⟨none,0,[]⟩) (Rd.nil _ _) (Ag.cons (s:=⟨none,0,[]⟩) (Rd.nil _ _) (Ag.cons (s:=⟨none,0,[]⟩) (Rd.nil _ _) (Ag.nil _)))
   ·rw[u.out.1];exact AB.cons (s:=⟨none,0,[]⟩) (λh=>absurd h Ah) (AB.cons (s:=⟨none,0,[]⟩) (λh=>absurd h Ah) (AB.cons (s:=⟨none,0,[]⟩) (λh=>absurd h Ah) (AB.nil _ _)))
   ·exact Dx.step (B:=0) (λb e=>by cases e) (Hi.cons (λb e=>by cases e) (Hi.cons (λb e=>by cases e) (Hi.nil _))) (Dx.step (B:=0) (λb e=>by cases e) (Hi.cons (λb e=>by cases e) (Hi.nil _)) (Dx.one _))
  have av:Below w w (((((((r.setCell ⟨w,0,none⟩ (.slice none 0 0)).setCell ⟨w,1,none⟩ (.slice none 0 0)).setCell ⟨w,2,none⟩ (ZI 0)).setCell ⟨w,3,none⟩ (ZI 0)).setCell ⟨w,4,none⟩ (ZI 0)).setCell ⟨w,5,none⟩ (ZI 0)).setCell ⟨w,6,none⟩ (.slice none 0 0)):=Q3 I Bk;have HF:=E.out _ av;have ai:=Ai HF;clear HF E av z HN M
  by_cases h4:4000<s.length
  ·have ar:(4000:Int)<(s.length:Int):=Aa;clear aC h4;go_wp2;exact AS (v:=.tuple #[Ap,.slice none 0 0,ZI 3]) (by simp[results,results34,go_sem,e3,g3]) rfl ai.out
  ·have ar: ¬(4000:Int)<(s.length:Int):=Aa;have a4:(80:Int)<(ln:Int):=Aa;clear aC h4;go_wp2;exact AS (v:=.tuple #[Ap,.slice none 0 0,ZI 3]) (by simp[results,results34,go_sem,e3,g3]) rfl ai.out
 ·have u:Hid (baR s=bsAll (lnL s) AE∧roL s=bsOuts (lnL s) AE∧rnC s=0):=⟨AA z,AA z,AA z⟩
  have bw:s.length<=4000∧ln<=80:=by
   unfold fitB at z;rw[C,CD,BP,BP] at z;exact z
  have ar: ¬(4000:Int)<(s.length:Int):=Aa;have a4: ¬(80:Int)<(ln:Int):=Aa
  have ak:Hid (∀k,k<ln->Lib.trimSuffix ((linesL s).getD k []) [10]=(lnL s).getD k []∧((linesL s).getD k []).length<=4000∧((lnL s).getD k []).length<=4000∧(lnL s).take (k+1)=(lnL s).take k++ [(lnL s).getD k []]):=λk hk=>by
   have h1:k<(linesL s).length:=by rw[HN.out];exact hk
   have h2:k<(lnL s).length:=by rw[C];exact hk
   have e1:(linesL s).getD k []=(linesL s)[k]:=by rw[DE,Db h1];rfl
   have e2:(lnL s).getD k []=(lnL s)[k]:=by rw[DE,Db h2];rfl
   have p1:=RZ s _ (EH h1);have p2:=(Qq (EH h2)).1;rw[e1,e2];refine⟨?_,by omega,by omega,List.take_succ_eq_append_getElem h2⟩
   simp only[lnL,List.getElem_map]
  have al:Hid ((lnL s).take ln=lnL s):=ED Aa;have T3:=T.below I;have a8:=C;clear z M C ax;generalize linesL s=xs at*;generalize lnL s=m at*
  go_upto_region 5 with(go_at_call 20;refine(Kd _).mono ?_;rintro e H ⟨⟨V,dn,dc⟩,⟨SA,sn,sc⟩,rfl,Y,Z,N,b4⟩)
  (try simp only at Y Z N)
  have KB:=Br H 35 (Bp V dn dc SA sn sc 0 4 3 5 none 0 0);have F:Below H H (H.alloc (.cells (Bp V dn dc SA sn sc 0 4 3 5 none 0 0) 35)):=BU;have ao:=Y.rowlt;have aF:=Z.rowlt;have R:=b4.size
  have S5:F9 r.heap.size (H.alloc (.cells (Bp V dn dc SA sn sc 0 4 3 5 none 0 0) 35)) H.heap.size ⟨V,dn,dc⟩ ⟨SA,sn,sc⟩ ⟨none,0,0⟩ AE:=
   ⟨⟨KB,Y.below F,Z.below F,AR.nil _ _ _,Y.len.symm,Z.len.symm,(λad e h c=>by have:=ao _ (GL e h);omega),(λad e h c=>by have:=aF _ (GL e h);omega),(λad e h=>by intro c;cases c),(λad e h=>by intro c;cases c)⟩,⟨N.d.below Y F,N.s.below Z F,N.ds⟩,Qe,R⟩
  have Q5: ∀q,q<r.heap.size->Qb H.heap.size ⟨V,dn,dc⟩ ⟨SA,sn,sc⟩ ⟨none,0,0⟩ q:=λq hq=>⟨by omega,(λe=>by have:=N.d.blockp e;omega),(λe=>by have:=N.s.blockp e;omega),(λe=>by cases e)⟩
  have b5:Below r r (H.alloc (.cells (Bp V dn dc SA sn sc 0 4 3 5 none 0 0) 35)):=b4.trans (F.mono R);clear KB F Y Z N ao aF b4
  go_upto_region 6 with fail
  generalize H.alloc _=w5 at S5 b5⊢;obtain⟨g,hg⟩: ∃g,H.heap.size=g:=⟨_,rfl⟩;rw[hg] at S5 Q5 R⊢;clear hg
  go_wp2_with fail
  go_loopw [7,25] (λv i wr=> ∃(k:Nat) (D S L O:Hd),k<=ln∧i=.int .i64 k∧v=.slice O.A O.n O.c∧F9 r.heap.size wr g D S L (bsAll (m.take k) AE)∧AR wr (g+1) 1 O (BO (bsOuts (m.take k) AE))∧O.n=k∧(∀q,O.row=some q->Qb g D S L q)∧(∀q,q<r.heap.size->Qb g D S L q)∧Below r r wr) (λ_ i _=>ln-(intOf i).toNat)
  case atStart=>exact⟨0,_,_,_,⟨none,0,0⟩,AZ _,rfl,rfl,S5,AR.nil _ _ _,rfl,(λq e=>by cases e),Q5,b5⟩
  case round=>
   clear S5 Q5 b5;obtain⟨k,D,S,L,⟨OA,j,oc⟩,hk,rfl,rfl,SR,X,bc,QO,QM,br⟩:=hrel;obtain rfl:j=k:=bc;have bW:=br.size;have J:=X.rowlt;have aD:=SR.box.l.rowlt
   by_cases az:j<ln
   ·have aA:(j:Int)<(ln:Int):=Aa;obtain⟨ad,rfl,K⟩:=(RL.below br).str az;obtain⟨h1,h2,h3,h4⟩:=ak.out j az;have HT:Calls prog 64 #[.string ⟨(xs.getD j []).toArray⟩,.string ⟨#[10]⟩] wr λe w'=>e=.returned (.string ⟨(m.getD j []).toArray⟩)∧w'=wr:=(JN ⟨(xs.getD j []).toArray⟩ ⟨#[10]⟩ wr (by rw[Bj];omega)).mono λe w' ⟨a,b⟩=>⟨by rw[<-h1];exact a,b⟩
    have HL:=ZM (m.getD j []) r.heap.size g D S L (bsAll (m.take j) AE) wr SR Aa (T3.below br);have aQ:Hid (bsAll (m.take (j+1)) AE=bsNext (bsAll (m.take j) AE) (m.getD j [])):=by unfold Hid;rw[h4,Jy]
    have aR:Hid (BO (bsOuts (m.take (j+1)) AE)=BO (bsOuts (m.take j) AE)++BO [bsOut (bsAll (m.take j) AE) (m.getD j [])]):=by unfold Hid;rw[h4,Ig,O9]
    have oT: ∀w':World,A9 wr w' [some g,L.row]->AR w' (g+1) 1 ⟨OA,j,oc⟩ (BO (bsOuts (m.take j) AE)):=λw' T=>X.touch T (λx K b e c=>by
     simp only[CC,I5,or_false] at K;rcases K with rfl|rfl
     ·injection e with e;subst e;exact(QO _ c).1 rfl
     ·exact(QO _ c).2.2.2 e)
    have bT: ∀w':World,A9 wr w' [some g,L.row]->Below r r w':=λw' T=>U2 br T Bk (λx K b e=>by
     simp only[CC,I5,or_false] at K;rcases K with rfl|rfl
     ·injection e with e;omega
     ·have:=(aD _ e).1;omega)
    have a3:j+1<=1099511627776:=Aa;unfold Dw Me at HL;generalize bsNext (bsAll (m.take j) AE) (m.getD j [])=b' at*;generalize bsOut (bsAll (m.take j) AE) (m.getD j [])=t at*;generalize bsOuts (m.take j) AE=us at*;generalize bsAll (m.take j) AE=b at*;generalize m.getD j []=y at*;generalize xs.getD j []=x at*;clear h1 h2 h3 h4 SR
    go_wp2_with (first
     |(go_at_call 64;refine HT.mono ?_;rintro e w' ⟨rfl,rfl⟩)
     |(go_at_call 63;refine HL.mono ?_;rintro e w6 ⟨rfl,D',S',L',K6,T6,F6⟩;have O6:=oT _ T6;have b6:=bT _ T6;have z6:=T6.size;have F:Below w6 w6 (w6.alloc (.cells #[.string ⟨t.toArray⟩] 9)):=(AP _ _).alloc Bk _;have O7:=O6.below F;have K7:=K6.below F;have b7:=An b6 F;have z7:=F.size;have RE:=Se w6 t 9;have a5:g+1<=(w6.alloc (.cells #[.string ⟨t.toArray⟩] 9)).heap.size:=K7.box.blk.lt)
     |(at_builtin;refine Aj rfl _ _ 22 rfl 9 1 16 underlying22 Ic Ah (g+1) ⟨OA,j,oc⟩ _ rfl O7 _ 1 1 (BO [t]) rfl RE (Iv t) a3 Ah a5 ?_;intro G wg au HG gg a6;have aO:=Ai au;clear au))
    have K8:=K7.grown gg (λq e=>F6 q (J q e).2 (QO q e));have b8:Below r r wg:=b7.grown gg b7.size (λq e=>by have:=(J q e).1;omega)
    go_roundw
    case rel=>
     refine⟨j+1,D',S',L',G,by omega,by go_num,rfl,by rw[aQ.out];exact K8,by rw[aR.out];exact HG,aO.out,λq e=> ?_,λq hq=>F6 q Aa (QM q hq),b8⟩
     rcases a6 with h|⟨p,h,hp⟩
     ·rw[h] at e;exact F6 q (J q e).2 (QO q e)
     ·rw[h] at e;injection e with e;subst e;exact WE K7 hp
    case measure=>simp[intOf];omega
   ·obtain rfl:j=ln:=Aa;obtain⟨q1,q2,q3,q4⟩:=SR.out;have eB:=λo=>SR.box.blk.cell o;have K9:=K3.below br g3;have e9:=K9.cell;have f9:=K9.frozen;have g9:=K9.lt;have b9:Below w w wr:=An I br
    have U: ∀x∈(Ar ⟨D,S,L⟩ (bsAll (m.take j) AE)).map Sl.row,x≠some w.heap.size:=λx K c=>by
     have:=q3.hi x K _ c;omega
    have aB:(bsOuts m AE).length=j:=by rw[NH,a8]
    rw[al.out] at q2 q3 U X eB;have aA: ¬(j:Int)<(j:Int):=Aa;have E:=λ(a b c d e f h:Value)=>(⟨⟨D,S,L⟩,⟨OA,j,oc⟩,by rw[u.out.1,u.out.2.2],q1,by rw[u.out.1];exact Qv q2 U,by rw[u.out.1];exact QL (q3.lower I.size),q4,by rw[u.out.2.1];exact aB.symm,by rw[u.out.2.1];exact(Nl X Aa).rd1,(Nl X Aa).wr1.lower Aa,Q3 b9 Bk⟩:QP s w (.returned (.tuple #[At ⟨D,S,L⟩ (bsAll m AE),.slice OA j oc,ZI 0])) (((((((wr.setCell ⟨w,0,none⟩ a).setCell ⟨w,1,none⟩ b).setCell ⟨w,2,none⟩ c).setCell ⟨w,3,none⟩ d).setCell ⟨w,4,none⟩ e).setCell ⟨w,5,none⟩ f).setCell ⟨w,6,none⟩ h))
    have aj:=Ai E;clear E q1 q2 q3 q4 U aB SR X QO QM K9 b9 J aD u al ak;unfold At at aj;generalize bsAll m AE=b at*;go_wp2;exact AS (v:=.tuple #[Ad D.A D.n D.c S.A S.n S.c b L.A L.n L.c,.slice OA j oc,ZI 0]) (by simp[results,results34,go_sem,e9,g9]) rfl (aj.out _ _ _ _ _ _ _)
def YL (s:Bs) (w:World) (e:Ending) (w':World):Prop:=
 ∃h:AG,e=.returned (.tuple #[At h (baR s),ZI (rnC s)])∧GW h∧Ag w' (Ar h (baR s))∧AB w' w.heap.size (Ar h (baR s))∧Dx (BK h)∧Below w w w'
theorem JB (s:Bs) (w:World) (hs:s.length<=1048576) (T:Dq w):
  Calls prog 13 #[.string ⟨s.toArray⟩] w (YL s w):=by
 have p:=Br w 35 Ap;have r:Below w w (w.alloc (.cells Ap 35)):=BU;have H:=Si s _ hs (T.below r);unfold QP At at H;unfold YL At;generalize baR s=b at*;generalize roL s=V at*;generalize rnC s=I at*;clear T
 go_enter func13,ntmps13
 go_upto_region 1 with fail
 generalize w.alloc _=X at*;have u:=p.lt
 go_upto_region 2 with(go_at_call 34;refine H.mono ?_;rintro e n ⟨⟨⟨a,dn,j⟩,⟨f,m,l⟩,⟨d,ln,k⟩⟩,⟨M,U,Q⟩,rfl,ok,R,W,F,-,-,-,t⟩)
 have i:Below n n (n.alloc (.cells (Ad a dn j f m l b d ln k) 35)):=BU;have A:=Br n 35 (Ad a dn j f m l b d ln k);have q:=(p.below t u).below i (p.below t u).lt;have E:=R.below i;have C:=W.below R i;have G:=r.trans ((An t i).mono r.size);clear i R W H p t;generalize n.alloc _=Y at*;have N:=A.cell;have J:=q.cell;have O:=q.frozen;have K:=q.lt
 have z: ∀x∈(Ar ⟨⟨a,dn,j⟩,⟨f,m,l⟩,⟨d,ln,k⟩⟩ b).map Sl.row,x≠some w.heap.size:=λx hx c=>by
  have:=C.hi x hx _ c;omega
 have y:=r.size;clear A q u;go_wp2;refine AS (v:=.tuple (BQ a dn j f m l b d ln k I)) (by simp[results,results13,go_sem,J,K]) rfl ?_
 exact⟨⟨⟨a,dn,j⟩,⟨f,m,l⟩,⟨d,ln,k⟩⟩,rfl,ok,Qv E z,QL (C.lower y),F,Q3 G Bk⟩
