import Derived.Test.YtkndcebhjcfphaaGreatDoorZAkx1
import Derived.Test.YtkndcebhjcfphaaGreatDoorZZ
namespace Go.Proofs.YtkndcebhjcfphaaGreatDoor
open Go.RowKit Go.Proofs.Tryz
set_option maxRecDepth 100000
set_option maxHeartbeats 4000000
set_option linter.all false
def fitB (s:Bs):Bool:=decide (s.length≤4000) && decide ((lnL s).length≤80)
def Wt:Ae:=⟨[],[],0,0,0,0,[]⟩
def baR (s:Bs):Ae:=if fitB s=true then bsAll (lnL s) AE else Wt
def roL (s:Bs):List Bs:=if fitB s=true then bsOuts (lnL s) AE else []
def rnC (s:Bs):Int:=if fitB s=true then 0 else 3
theorem Qe:D9 AE:=⟨by decide,by decide,by decide,rfl,rfl,by decide⟩
theorem gW (s:Bs):(roL s).length≤80:=by
 unfold roL
 split
 ·next h=>
  unfold fitB at h;rw[CD,BP,BP] at h;rw[NH];exact h.2
 ·exact AZ _
def QP (s:Bs) (w:World) (e:Ending) (w':World):Prop:=
 ∃(h:AG) (H:Hd),e=.returned (.tuple #[At h (baR s),.slice H.A H.n H.c,ZI (rnC s)])∧GW h∧Ag w' (Ar h (baR s))∧AB w' w.heap.size (Ar h (baR s))∧Dx (BK h)∧H.n=(roL s).length∧Rd w' H.A H.n (strs (roL s))∧Wr w' w.heap.size H.A H.n∧Below w w w'
section
variable {B g : Nat} {D S L : Hd} {b : Ae} {w w' : World}
theorem GL {A:Option Addr} {n:Nat} {ad:Addr} (e:A=some ad) (h:0<n):blkp A n=some ad.block:=by
 unfold blkp;rw[Ak Aa,e];rfl
theorem F9.grown {row:Option Nat} (K:F9 B w g D S L b) (gg:w.grownBy w' row) (hq: ∀q,row=some q→Qb g D S L q):F9 B w' g D S L b:=by
 have hd: ∀ad,D.A=some ad→0<D.n→row≠some ad.block:=fun ad e h c=>(hq _ c).2.1 (GL e h);have hs: ∀ad,S.A=some ad→0<S.n→row≠some ad.block:=fun ad e h c=>(hq _ c).2.2.1 (GL e h);refine⟨⟨K.box.blk.grown gg (fun c=>(hq _ c).1 rfl),K.box.d.grown gg hd,K.box.s.grown gg hs,K.box.l.grown gg (fun q e c=>(hq _ c).2.2.2 e),K.box.dn,K.box.sn,K.box.dg,K.box.sg,K.box.dl,K.box.sl⟩,⟨K.pr.d.grown K.box.d gg hd,K.pr.s.grown K.box.s gg hs,K.pr.ds⟩,K.ok,K.bg⟩
theorem F9.out (K:F9 B w g D S L b):GW ⟨D,S,L⟩∧Ag w (Ar ⟨D,S,L⟩ b)∧AB w B (Ar ⟨D,S,L⟩ b)∧Dx (BK ⟨D,S,L⟩):=by
 have hbg:=K.bg;have hl:b.log.length=L.n*7:=by have:=K.box.l.len;unfold ints at this;simpa using this
 have h200:=K.ok.n;have hd:=K.ok.prof;unfold BI at hd;rw[CD] at hd;have hd1:=Ac hd.1;have e1:=K.box.dn;have e2:=K.box.sn
 refine⟨⟨by show D.n≤1048576;have:=K.ok.d12;omega,?_,by show L.n≤1048576;omega⟩,Ag.cons (s:=⟨D.A,D.n,ints b.depths⟩) K.box.d (Ag.cons (s:=⟨S.A,S.n,ints b.speeds⟩) K.box.s (Ag.cons (s:=⟨L.A,L.n*7,ints b.log⟩) K.box.l.rd (Ag.nil _))),
  AB.cons (s:=⟨D.A,D.n,ints b.depths⟩) K.pr.d (AB.cons (s:=⟨S.A,S.n,ints b.speeds⟩) K.pr.s (AB.cons (s:=⟨L.A,L.n*7,ints b.log⟩) (K.box.l.wr.lower Aa) (AB.nil _ _))),?_⟩
 ·show S.n≤1048576;have h2:=hd.2;rw[CD,BP] at h2;have:=h2.1;have:=K.ok.d12;omega
 ·have hL: ∀q,blkp L.A (L.n*7)=some q→L.row=some q:=fun q e=>Gl (fun h=>by have:=K.box.l.nc;omega) e
  refine Dx.cons (fun x hx t ht q e c=> ?_) (Dx.cons (fun x hx t ht q e c=> ?_) (Dx.one _))
  ·rw[DD.1 hx] at e;simp only[CC,I5,or_false] at ht;rcases ht with rfl|rfl
   ·exact K.pr.ds q e c
   ·obtain⟨ad,hA,h0,rfl⟩:=Df e;exact K.box.dl ad hA h0 (hL _ c)
  ·rw[DD.1 hx] at e;rw[DD.1 ht] at c;obtain⟨ad,hA,h0,rfl⟩:=Df e;exact K.box.sl ad hA h0 (hL _ c)
end
theorem Kd (w:World):Calls prog 20 #[] w fun e w'=> ∃D S:Hd,e=.returned (Bp D.A D.n D.c S.A S.n S.c 0 4 3 5 none 0 0)∧Rd w' D.A D.n (ints AE.depths)∧Rd w' S.A S.n (ints AE.speeds)∧Mf w' w.heap.size D S∧Below w w w':=by
 have H:=WW w;obtain⟨⟨D,S,⟨A,n,c⟩⟩,he,-,R,W,Sp,bl⟩:=H
 have hx:A=none∧n=0∧c=0:=by
  unfold At at he;simp at he;obtain⟨-,-,-,-,-,-,h1,h2,h3⟩:=he;exact⟨h1.symm,h2.symm,h3.symm⟩
 obtain⟨rfl,rfl,rfl⟩:=hx;have HQ:Hid (∃D S:Hd,Ending.returned (Bp (some ⟨w+1,0,none⟩) 2 2 (some ⟨w+1+1,0,none⟩) 2 2 0 4 3 5 none 0 0)=.returned (Bp D.A D.n D.c S.A S.n S.c 0 4 3 5 none 0 0)∧Rd (((w.alloc (.cells (Bp (some ⟨w+1,0,none⟩) 2 2 (some ⟨w+1+1,0,none⟩) 2 2 0 4 3 5 none 0 0) 35)).alloc (.cells (Zii 0 1000) 2)).alloc (.cells (Zii 1500000 1500000) 2)) D.A D.n (ints AE.depths)∧Rd _ S.A S.n (ints AE.speeds)∧Mf _ w.heap.size D S∧Below w w _):=⟨D,S,he,R.head,R.tail.head,⟨W.head,W.tail.head,fun q e=>Sp.off _ (DD.2 rfl) _ (C5 ..) q e⟩,bl⟩;clear R W Sp bl he
 go_enter func20,ntmps20
 go_wp2;exact AS (v:=.agg (Bp (some ⟨w+1,0,none⟩) 2 2 (some ⟨w+1+1,0,none⟩) 2 2 0 4 3 5 none 0 0)) (by simp[results,results20,go_sem]) rfl HQ.out
theorem Qv {w:World} {l:List Sl} {g:Nat} {a b c d e f h:Value} (R:Ag w l) (hne: ∀s∈l.map Sl.row,s≠some g):Ag (((((((w.setCell ⟨g,0,none⟩ a).setCell ⟨g,1,none⟩ b).setCell ⟨g,2,none⟩ c).setCell ⟨g,3,none⟩ d).setCell ⟨g,4,none⟩ e).setCell ⟨g,5,none⟩ f).setCell ⟨g,6,none⟩ h) l:=
 ((((((R.cell_ hne).cell_ hne).cell_ hne).cell_ hne).cell_ hne).cell_ hne).cell_ hne
theorem QL {w:World} {B:Nat} {l:List Sl} {g:Nat} {a b c d e f h:Value} (W:AB w B l):AB (((((((w.setCell ⟨g,0,none⟩ a).setCell ⟨g,1,none⟩ b).setCell ⟨g,2,none⟩ c).setCell ⟨g,3,none⟩ d).setCell ⟨g,4,none⟩ e).setCell ⟨g,5,none⟩ f).setCell ⟨g,6,none⟩ h) B l:=
 W.cell_.cell_.cell_.cell_.cell_.cell_.cell_
theorem Nl {w:World} {B K:Nat} {h:Hd} {us:List Value} (o:AR w B K h us) {g:Nat} (hg:g<B) {a b c d e f k:Value}:AR (((((((w.setCell ⟨g,0,none⟩ a).setCell ⟨g,1,none⟩ b).setCell ⟨g,2,none⟩ c).setCell ⟨g,3,none⟩ d).setCell ⟨g,4,none⟩ e).setCell ⟨g,5,none⟩ f).setCell ⟨g,6,none⟩ k) B K h us:=
 Cu (Cu (Cu (Cu (Cu (Cu (Cu o hg _) hg _) hg _) hg _) hg _) hg _) hg _
theorem Q3 {B:Nat} {w0 w:World} (k:Below B w0 w) {g:Nat} (hg:B≤g) {a b c d e f h:Value}:Below B w0 (((((((w.setCell ⟨g,0,none⟩ a).setCell ⟨g,1,none⟩ b).setCell ⟨g,2,none⟩ c).setCell ⟨g,3,none⟩ d).setCell ⟨g,4,none⟩ e).setCell ⟨g,5,none⟩ f).setCell ⟨g,6,none⟩ h):=
 ((((((k.setCell (p:=⟨g,0,none⟩) hg _).setCell (p:=⟨g,1,none⟩) hg _).setCell (p:=⟨g,2,none⟩) hg _).setCell (p:=⟨g,3,none⟩) hg _).setCell (p:=⟨g,4,none⟩) hg _).setCell (p:=⟨g,5,none⟩) hg _).setCell (p:=⟨g,6,none⟩) hg _
theorem Si (s:Bs) (w:World) (hs:s.length≤1048576) (T:Dq w):
  Calls prog 34 #[.string ⟨s.toArray⟩] w (QP s w):=by
 have hz:=Bj s;have hll:=JF s;have hnn:=WU s;obtain⟨n,hn⟩: ∃n,(linesL s).length=n:=⟨_,rfl⟩;rw[hn] at hll hnn;have HN:=Ai hn;clear hn
 go_enter func34,ntmps34
 go_upto_region 1 with fail
 generalize hG:w.alloc _=w1;obtain⟨K0,b0⟩:=EX hG;clear hG;have hg0:=K0.lt
 go_upto_region 2 with(first|(go_at_call 62;refine(XZ ⟨s.toArray⟩ _).mono ?_;rintro e w' ⟨rfl,rfl⟩)|(go_at_call 61;refine(S6 w1.heap.size s _ hs (Br w1 9 #[.string ⟨s.toArray⟩])).mono ?_;rintro e w3 ⟨⟨LA,ln,lc⟩,rfl,hln,RL,-,b3⟩;have HLN:Hid (ln=(linesL s).length):=hln;clear hln))
 (try simp only at RL)
 have b13:Below w1 w1 w3:=((AP _ w1).alloc Bk (.cells #[.string ⟨s.toArray⟩] 9)).trans b3;obtain rfl:ln=n:=HLN.out.trans HN.out;have b03:Below w w w3:=An b0 b13;have K3:=K0.below b13 hg0;have g3:=K3.lt;have e3:=K3.cell;have f3:=K3.frozen;clear b3 K0 b13 hg0
 by_cases hf:fitB s=true
 rotate_left
 ·have HR:Hid (baR s=Wt∧roL s= []∧rnC s=3):=⟨Ak hf,Ak hf,Ak hf⟩
  have hor:4000<s.length∨80<ln:=by
   unfold fitB at hf;rw[hnn,CD,BP,BP] at hf;omega
  have FIN:Hid (∀W,Below w w W→QP s w (.returned (.tuple #[Ap,.slice none 0 0,ZI 3])) W):=fun W bb=>by
   refine⟨⟨⟨none,0,0⟩,⟨none,0,0⟩,⟨none,0,0⟩⟩,⟨none,0,0⟩,by rw[HR.out.1,HR.out.2.2];rfl,⟨AZ _,AZ _,AZ _⟩,?_,?_,?_,by rw[HR.out.2.1];rfl,by rw[HR.out.2.1];exact Rd.nil _ _,fun h=>absurd h Ah,bb⟩
   ·rw[HR.out.1];exact Ag.cons (s:=⟨none,0,[]⟩) (Rd.nil _ _) (Ag.cons (s:=⟨none,0,[]⟩) (Rd.nil _ _) (Ag.cons (s:=⟨none,0,[]⟩) (Rd.nil _ _) (Ag.nil _)))
   ·rw[HR.out.1];exact AB.cons (s:=⟨none,0,[]⟩) (fun h=>absurd h Ah) (AB.cons (s:=⟨none,0,[]⟩) (fun h=>absurd h Ah) (AB.cons (s:=⟨none,0,[]⟩) (fun h=>absurd h Ah) (AB.nil _ _)))
   ·exact Dx.step (B:=0) (fun b e=>by cases e) (Hi.cons (fun b e=>by cases e) (Hi.cons (fun b e=>by cases e) (Hi.nil _))) (Dx.step (B:=0) (fun b e=>by cases e) (Hi.cons (fun b e=>by cases e) (Hi.nil _)) (Dx.one _))
  have hb3:Below w w (((((((w3.setCell ⟨w,0,none⟩ (.slice none 0 0)).setCell ⟨w,1,none⟩ (.slice none 0 0)).setCell ⟨w,2,none⟩ (ZI 0)).setCell ⟨w,3,none⟩ (ZI 0)).setCell ⟨w,4,none⟩ (ZI 0)).setCell ⟨w,5,none⟩ (ZI 0)).setCell ⟨w,6,none⟩ (.slice none 0 0)):=Q3 b03 Bk;have HF:=FIN.out _ hb3;have HFF:=Ai HF;clear HF FIN hb3 hf HN HLN
  by_cases h4:4000<s.length
  ·have h4I:(4000:Int)<(s.length:Int):=Aa;clear hor h4;go_wp2;exact AS (v:=.tuple #[Ap,.slice none 0 0,ZI 3]) (by simp[results,results34,go_sem,e3,g3]) rfl HFF.out
  ·have h4I: ¬(4000:Int)<(s.length:Int):=Aa;have h8I:(80:Int)<(ln:Int):=Aa;clear hor h4;go_wp2;exact AS (v:=.tuple #[Ap,.slice none 0 0,ZI 3]) (by simp[results,results34,go_sem,e3,g3]) rfl HFF.out
 ·have HR:Hid (baR s=bsAll (lnL s) AE∧roL s=bsOuts (lnL s) AE∧rnC s=0):=⟨AA hf,AA hf,AA hf⟩
  have hfit:s.length≤4000∧ln≤80:=by
   unfold fitB at hf;rw[hnn,CD,BP,BP] at hf;exact hf
  have h4I: ¬(4000:Int)<(s.length:Int):=Aa;have h8I: ¬(80:Int)<(ln:Int):=Aa
  have HLS:Hid (∀k,k<ln→Lib.trimSuffix ((linesL s).getD k []) [10]=(lnL s).getD k []∧((linesL s).getD k []).length≤4000∧((lnL s).getD k []).length≤4000∧(lnL s).take (k+1)=(lnL s).take k++ [(lnL s).getD k []]):=fun k hk=>by
   have h1:k<(linesL s).length:=by rw[HN.out];exact hk
   have h2:k<(lnL s).length:=by rw[hnn];exact hk
   have e1:(linesL s).getD k []=(linesL s)[k]:=by rw[DE,Db h1];rfl
   have e2:(lnL s).getD k []=(lnL s)[k]:=by rw[DE,Db h2];rfl
   have p1:=RZ s _ (EH h1);have p2:=(Qq (EH h2)).1;rw[e1,e2];refine⟨?_,by omega,by omega,List.take_succ_eq_append_getElem h2⟩
   simp only[lnL,List.getElem_map]
  have HTA:Hid ((lnL s).take ln=lnL s):=ED Aa;have T3:=T.below b03;have hls:=hnn;clear hf HLN hnn hll;generalize linesL s=xs at*;generalize lnL s=ls at*
  go_upto_region 5 with(go_at_call 20;refine(Kd _).mono ?_;rintro e w4 ⟨⟨DA,dn,dc⟩,⟨SA,sn,sc⟩,rfl,RD,RS,PN,b4⟩)
  (try simp only at RD RS PN)
  have KB:=Br w4 35 (Bp DA dn dc SA sn sc 0 4 3 5 none 0 0);have ba:Below w4 w4 (w4.alloc (.cells (Bp DA dn dc SA sn sc 0 4 3 5 none 0 0) 35)):=BU;have dlt:=RD.rowlt;have slt:=RS.rowlt;have hb4:=b4.size
  have S5:F9 w3.heap.size (w4.alloc (.cells (Bp DA dn dc SA sn sc 0 4 3 5 none 0 0) 35)) w4.heap.size ⟨DA,dn,dc⟩ ⟨SA,sn,sc⟩ ⟨none,0,0⟩ AE:=
   ⟨⟨KB,RD.below ba,RS.below ba,AR.nil _ _ _,RD.len.symm,RS.len.symm,(fun ad e h c=>by have:=dlt _ (GL e h);omega),(fun ad e h c=>by have:=slt _ (GL e h);omega),(fun ad e h=>by intro c;cases c),(fun ad e h=>by intro c;cases c)⟩,⟨PN.d.below RD ba,PN.s.below RS ba,PN.ds⟩,Qe,hb4⟩
  have Q5: ∀q,q<w3.heap.size→Qb w4.heap.size ⟨DA,dn,dc⟩ ⟨SA,sn,sc⟩ ⟨none,0,0⟩ q:=fun q hq=>⟨by omega,(fun e=>by have:=PN.d.blockp e;omega),(fun e=>by have:=PN.s.blockp e;omega),(fun e=>by cases e)⟩
  have b5:Below w3 w3 (w4.alloc (.cells (Bp DA dn dc SA sn sc 0 4 3 5 none 0 0) 35)):=b4.trans (ba.mono hb4);clear KB ba RD RS PN dlt slt b4
  go_upto_region 6 with fail
  generalize w4.alloc _=w5 at S5 b5⊢;obtain⟨g,hg⟩: ∃g,w4.heap.size=g:=⟨_,rfl⟩;rw[hg] at S5 Q5 hb4⊢;clear hg
  go_wp2_with fail
  go_loopw [7,25] (fun v i wr=> ∃(k:Nat) (D S L O:Hd),k≤ln∧i=.int .i64 k∧v=.slice O.A O.n O.c∧F9 w3.heap.size wr g D S L (bsAll (ls.take k) AE)∧AR wr (g+1) 1 O (strs (bsOuts (ls.take k) AE))∧O.n=k∧(∀q,O.row=some q→Qb g D S L q)∧(∀q,q<w3.heap.size→Qb g D S L q)∧Below w3 w3 wr) (fun _ i _=>ln-(intOf i).toNat)
  case atStart=>exact⟨0,_,_,_,⟨none,0,0⟩,AZ _,rfl,rfl,S5,AR.nil _ _ _,rfl,(fun q e=>by cases e),Q5,b5⟩
  case round=>
   clear S5 Q5 b5;obtain⟨k,D,S,L,⟨OA,on,oc⟩,hk,rfl,rfl,SR,OR,hon,QO,QM,br⟩:=hrel;obtain rfl:on=k:=hon;have hbr:=br.size;have rlt:=OR.rowlt;have llt:=SR.box.l.rowlt
   by_cases hlt:on<ln
   ·have hltI:(on:Int)<(ln:Int):=Aa;obtain⟨ad,rfl,hx⟩:=(RL.below br).str hlt;obtain⟨h1,h2,h3,h4⟩:=HLS.out on hlt;have HT:Calls prog 64 #[.string ⟨(xs.getD on []).toArray⟩,.string ⟨#[10]⟩] wr fun e w'=>e=.returned (.string ⟨(ls.getD on []).toArray⟩)∧w'=wr:=(JN ⟨(xs.getD on []).toArray⟩ ⟨#[10]⟩ wr (by rw[Bj];omega)).mono fun e w' ⟨a,b⟩=>⟨by rw[←h1];exact a,b⟩
    have HL:=ZM (ls.getD on []) w3.heap.size g D S L (bsAll (ls.take on) AE) wr SR Aa (T3.below br);have HNX:Hid (bsAll (ls.take (on+1)) AE=bsNext (bsAll (ls.take on) AE) (ls.getD on [])):=by unfold Hid;rw[h4,Jy]
    have HOU:Hid (strs (bsOuts (ls.take (on+1)) AE)=strs (bsOuts (ls.take on) AE)++strs [bsOut (bsAll (ls.take on) AE) (ls.getD on [])]):=by unfold Hid;rw[h4,Ig,O9]
    have oT: ∀w':World,A9 wr w' [some g,L.row]→AR w' (g+1) 1 ⟨OA,on,oc⟩ (strs (bsOuts (ls.take on) AE)):=fun w' T=>OR.touch T (fun x hx b e c=>by
     simp only[CC,I5,or_false] at hx;rcases hx with rfl|rfl
     ·injection e with e;subst e;exact(QO _ c).1 rfl
     ·exact(QO _ c).2.2.2 e)
    have bT: ∀w':World,A9 wr w' [some g,L.row]→Below w3 w3 w':=fun w' T=>U2 br T Bk (fun x hx b e=>by
     simp only[CC,I5,or_false] at hx;rcases hx with rfl|rfl
     ·injection e with e;omega
     ·have:=(llt _ e).1;omega)
    have h63:on+1≤1099511627776:=Aa;unfold Dw Me at HL;generalize bsNext (bsAll (ls.take on) AE) (ls.getD on [])=b' at*;generalize bsOut (bsAll (ls.take on) AE) (ls.getD on [])=t at*;generalize bsOuts (ls.take on) AE=us at*;generalize bsAll (ls.take on) AE=b at*;generalize ls.getD on []=y at*;generalize xs.getD on []=x at*;clear h1 h2 h3 h4 SR
    go_wp2_with (first
     |(go_at_call 64;refine HT.mono ?_;rintro e w' ⟨rfl,rfl⟩)
     |(go_at_call 63;refine HL.mono ?_;rintro e w6 ⟨rfl,D',S',L',K6,T6,F6⟩;have O6:=oT _ T6;have b6:=bT _ T6;have z6:=T6.size;have ba:Below w6 w6 (w6.alloc (.cells #[.string ⟨t.toArray⟩] 9)):=(AP _ _).alloc Bk _;have O7:=O6.below ba;have K7:=K6.below ba;have b7:=An b6 ba;have z7:=ba.size;have RE:=Se w6 t 9;have hB7:g+1≤(w6.alloc (.cells #[.string ⟨t.toArray⟩] 9)).heap.size:=K7.box.blk.lt)
     |(at_builtin;refine Aj rfl _ _ 22 rfl 9 1 16 underlying22 Ic Ah (g+1) ⟨OA,on,oc⟩ _ rfl O7 _ 1 1 (strs [t]) rfl RE (Iv t) h63 Ah hB7 ?_;intro G wg hGn HG gg hat;have HGN:=Ai hGn;clear hGn))
    have K8:=K7.grown gg (fun q e=>F6 q (rlt q e).2 (QO q e));have b8:Below w3 w3 wg:=b7.grown gg b7.size (fun q e=>by have:=(rlt q e).1;omega)
    go_roundw
    case rel=>
     refine⟨on+1,D',S',L',G,by omega,by go_num,rfl,by rw[HNX.out];exact K8,by rw[HOU.out];exact HG,HGN.out,fun q e=> ?_,fun q hq=>F6 q Aa (QM q hq),b8⟩
     rcases hat with h|⟨p,h,hp⟩
     ·rw[h] at e;exact F6 q (rlt q e).2 (QO q e)
     ·rw[h] at e;injection e with e;subst e;exact WE K7 hp
    case measure=>simp[intOf];omega
   ·obtain rfl:on=ln:=Aa;obtain⟨q1,q2,q3,q4⟩:=SR.out;have eB:=fun o=>SR.box.blk.cell o;have K9:=K3.below br g3;have e9:=K9.cell;have f9:=K9.frozen;have g9:=K9.lt;have b9:Below w w wr:=An b03 br
    have hne: ∀x∈(Ar ⟨D,S,L⟩ (bsAll (ls.take on) AE)).map Sl.row,x≠some w.heap.size:=fun x hx c=>by
     have:=q3.hi x hx _ c;omega
    have hol:(bsOuts ls AE).length=on:=by rw[NH,hls]
    rw[HTA.out] at q2 q3 hne OR eB;have hltI: ¬(on:Int)<(on:Int):=Aa;have FIN:=fun(a b c d e f h:Value)=>(⟨⟨D,S,L⟩,⟨OA,on,oc⟩,by rw[HR.out.1,HR.out.2.2],q1,by rw[HR.out.1];exact Qv q2 hne,by rw[HR.out.1];exact QL (q3.lower b03.size),q4,by rw[HR.out.2.1];exact hol.symm,by rw[HR.out.2.1];exact(Nl OR Aa).rd1,(Nl OR Aa).wr1.lower Aa,Q3 b9 Bk⟩:QP s w (.returned (.tuple #[At ⟨D,S,L⟩ (bsAll ls AE),.slice OA on oc,ZI 0])) (((((((wr.setCell ⟨w,0,none⟩ a).setCell ⟨w,1,none⟩ b).setCell ⟨w,2,none⟩ c).setCell ⟨w,3,none⟩ d).setCell ⟨w,4,none⟩ e).setCell ⟨w,5,none⟩ f).setCell ⟨w,6,none⟩ h))
    have HFI:=Ai FIN;clear FIN q1 q2 q3 q4 hne hol SR OR QO QM K9 b9 rlt llt HR HTA HLS;unfold At at HFI;generalize bsAll ls AE=b at*;go_wp2;exact AS (v:=.tuple #[Ad D.A D.n D.c S.A S.n S.c b L.A L.n L.c,.slice OA on oc,ZI 0]) (by simp[results,results34,go_sem,e9,g9]) rfl (HFI.out _ _ _ _ _ _ _)
def ii (s:Bs) (w:World) (e:Ending) (w':World):Prop:=
 ∃H:Hd,e=.returned (.tuple (Gb H.A H.n H.c (rnC s)))∧H.n=(roL s).length∧Rd w' H.A H.n (strs (roL s))∧Wr w' w.heap.size H.A H.n∧Below w w w'
theorem hP (s:Bs) (w:World) (hs:s.length≤1048576) (T:Dq w):
  Calls prog 8 #[.string ⟨s.toArray⟩] w (ii s w):=by
 have H:=Si s w hs T;unfold QP At at H;unfold ii;generalize baR s=b at*;generalize roL s=us at*;generalize rnC s=cd at*;clear T
 go_enter func8,ntmps8
 go_wp2_with (go_at_call 34;refine H.mono ?_;rintro e w1 ⟨⟨⟨DA,dn,dc⟩,⟨SA,sn,sc⟩,⟨LA,ln,lc⟩⟩,⟨HA,hn,hc⟩,rfl,-,-,-,-,hl,R,W,b1⟩;have HL:=Ai hl;clear hl)
 refine AS (v:=.tuple (Gb HA hn hc cd)) (by simp[results,results8,go_sem]) rfl ?_
 have ba:Below w1 w1 (w1.alloc (.cells (Ad DA dn dc SA sn sc b LA ln lc) 35)):=BU;exact⟨⟨HA,hn,hc⟩,rfl,HL.out,R.below ba,W.below R ba,(An b1 ba)⟩
end Go.Proofs.YtkndcebhjcfphaaGreatDoor
