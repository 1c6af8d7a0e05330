import Derived.Test.YtkndcebhjcfphaaGreatDoorZAg
import Derived.Test.YtkndcebhjcfphaaGreatDoorZAh
import Derived.Test.YtkndcebhjcfphaaGreatDoorZK
import Derived.Test.YtkndcebhjcfphaaGreatDoorZVx3
namespace Go.Proofs.YtkndcebhjcfphaaGreatDoor
open Go.RowKit Go.Proofs.Tryz
set_option maxRecDepth 100000
set_option maxHeartbeats 4000000
set_option linter.all false
structure Mf (w:World) (B:Nat) (D S:Hd):Prop where
 d:Wr w B D.A D.n
 s:Wr w B S.A S.n
 ds: ∀q,blkp D.A D.n=some q→blkp S.A S.n≠some q
theorem WY {w:World} {B:Nat} {h:Hd} {us:List Value} (o:AR w B 1 h us) {q:Nat} (e:blkp h.A h.n=some q):h.row=some q:=Gl (fun h0=>CM h0 o.nc) e
theorem UC (s:Bs) (g:Nat) (w:World) (hs:s.length≤100000) (hb:Fm s=false) (T:Dq w):
  (BT 102 #[.pointer (some ⟨g,0,none⟩),.string ⟨s.toArray⟩] w (.string ⟨(erT 6).toArray⟩):Prop):=by
 have HP:=(Fo s w hs T).mono (R':=fun e w'=>e=.returned (.tuple Eb)∧Below w w w') (fun _ _ h=>by
  rcases h with⟨_,h1,h2⟩|⟨_,_,h0,_⟩
  ·exact⟨h1,h2⟩
  ·rw[hb] at h0;cases h0)
 have F:=fun(V:World) (bb:Below w w V)=>Cx 6 V Ah Ah (T.below bb).tab;generalize erT 6=E at*;clear hb T
 go_enter func102,ntmps102
 go_upto_region 2 with(go_at_call 136;refine HP.mono ?_;rintro e w1 ⟨rfl,b1⟩)
 have al:Below w1 w1 (w1.alloc (.cells QW 30)):=BU;have b2:=An b1 al;clear al;generalize w1.alloc _=w2 at b2⊢
 go_wp2_with (go_at_call 100;refine(F _ b2).mono ?_;rintro e w3 ⟨rfl,b3⟩)
 go_ret;exact⟨rfl,(An b2 b3)⟩
theorem Wb (s:Bs) (g:Nat) (D S L:Hd) (b:Ae) (w:World) (K:Bz w g D S L b) (hs:s.length≤100000) (hb:Fm s=true) (T:Dq w):
  Calls prog 102 #[.pointer (some ⟨g,0,none⟩),.string ⟨s.toArray⟩] w fun e w'=>e=.returned (.string ⟨H5.toArray⟩)∧ ∃D' S':Hd,Bz w' g D' S' L {b with depths:=rpD s,speeds:=rpV s,source:=0}∧Mf w' w.heap.size D' S'∧A9 w w' [some g]:=by
 have FIN:Hid (∀(V V0:World) (hd hv:Hd),Below w w V0→AR V0 w.heap.size 1 hd (ints (rpD s))→AR V0 w.heap.size 1 hv (ints (rpV s))→(∀q,hd.row=some q→hv.row≠some q)→Below V0 V0 V→Bz (((V.setCell ⟨g,0,none⟩ (.slice hd.A hd.n hd.c)).setCell ⟨g,1,none⟩ (.slice hv.A hv.n hv.c)).setCell ⟨g,2,none⟩ (ZI 0)) g hd hv L {b with depths:=rpD s,speeds:=rpV s,source:=0}∧Mf (((V.setCell ⟨g,0,none⟩ (.slice hd.A hd.n hd.c)).setCell ⟨g,1,none⟩ (.slice hv.A hv.n hv.c)).setCell ⟨g,2,none⟩ (ZI 0)) w.heap.size hd hv∧A9 w (((V.setCell ⟨g,0,none⟩ (.slice hd.A hd.n hd.c)).setCell ⟨g,1,none⟩ (.slice hv.A hv.n hv.c)).setCell ⟨g,2,none⟩ (ZI 0)) [some g]):=fun V V0 hd hv b0 od ov off b1=>by
  have bb:=An b0 b1;have k:=K.below bb;have rd:=(od.below b1).rd1;have rs:=(ov.below b1).rd1;have gl:=K.blk.lt
  have far: ∀ {h:Hd} {us:List Value},AR V0 w.heap.size 1 h us→ ∀ad,h.A=some ad→0<h.n→w≤ad.block:=fun {h us} o ad e h0=>by
   have hc:0<h.c:=CM h0 o.nc;exact(o.at_ ad e hc).1
  have dg: ∀ad,hd.A=some ad→0<hd.n→ad.block≠g:=fun ad e h0 c=>by have:=far od ad e h0;omega
  have sg: ∀ad,hv.A=some ad→0<hv.n→ad.block≠g:=fun ad e h0 c=>by have:=far ov ad e h0;omega
  refine⟨⟨((k.blk.set_ 0 _).set_ 1 _).set_ 2 _,Cb (Cb (Cb rd dg _) dg _) dg _,Cb (Cb (Cb rs sg _) sg _) sg _,Cu (Cu (Cu k.l (Nat.lt_succ_self g) _) (Nat.lt_succ_self g) _) (Nat.lt_succ_self g) _,rd.len.symm,rs.len.symm,dg,sg,fun ad e h0 c=>by have h1:=far od ad e h0;have h2:=(K.l.rowlt _ c).2;omega,fun ad e h0 c=>by have h1:=far ov ad e h0;have h2:=(K.l.rowlt _ c).2;omega⟩,⟨(((od.below b1).wr1.set_ _).set_ _).set_ _,(((ov.below b1).wr1.set_ _).set_ _).set_ _,fun q e1 e2=>off q (WY od e1) (WY ov e2)⟩,?_⟩
  refine⟨bb.os,bb.tape,bb.output,by simpa using bb.size,fun q hq hne=> ?_⟩
  have hqg:q≠g:=fun e=>hne (some g) Cr (by rw[e])
  exact((Below.heap_setCell _ _ _ q hqg).trans ((Below.heap_setCell _ _ _ q hqg).trans (Below.heap_setCell _ _ _ q hqg))).trans (bb.block q hq)
 generalize hQ:(fun e w'=>e=Ending.returned (.string ⟨H5.toArray⟩)∧ ∃D' S':Hd,Bz w' g D' S' L {b with depths:=rpD s,speeds:=rpV s,source:=0}∧Mf w' w.heap.size D' S'∧A9 w w' [some g])=Q;have HQ:Hid (∀(V V0:World) (hd hv:Hd),Below w w V0→AR V0 w.heap.size 1 hd (ints (rpD s))→AR V0 w.heap.size 1 hv (ints (rpV s))→(∀q,hd.row=some q→hv.row≠some q)→Below V0 V0 V→Q (.returned (.string ⟨H5.toArray⟩)) (((V.setCell ⟨g,0,none⟩ (.slice hd.A hd.n hd.c)).setCell ⟨g,1,none⟩ (.slice hv.A hv.n hv.c)).setCell ⟨g,2,none⟩ (ZI 0))):=fun V V0 hd hv b0 od ov off b1=>by subst hQ;exact⟨rfl,hd,hv,FIN.out V V0 hd hv b0 od ov off b1⟩
 have HP:=(Fo s w hs T).mono (R':=fun e w'=> ∃hd hv:Hd,e=.returned (.tuple #[CH hd.A hd.n hd.c hv.A hv.n hv.c,.bool true])∧AR w' w.heap.size 1 hd (ints (rpD s))∧AR w' w.heap.size 1 hv (ints (rpV s))∧(∀q,hd.row=some q→hv.row≠some q)∧Below w w w') (fun _ _ h=>by
  rcases h with⟨h0,_⟩|⟨hd,hv,_,h1,h2,h3,h5,h4⟩
  ·rw[hb] at h0;cases h0
  ·exact⟨hd,hv,h1,h2,h3,h5,h4⟩)
 have EO:=fun(V:World) (bb:Below w w V)=>K.blk.below bb K.blk.lt;clear hQ FIN hb T hs K
 go_enter func102,ntmps102
 go_upto_region 2 with(go_at_call 136;refine HP.mono ?_;rintro e w1 ⟨⟨dA,dn,dc⟩,⟨vA,vn,vc⟩,rfl,od,ov,off,b1⟩)
 generalize hG:w1.alloc _=w2;obtain⟨X,al⟩:=EX hG;clear hG;have b2:=An b1 al;have e1:=fun o=>(EO _ b2).cell o;have f1:=fun o=>(EO _ b2).frozen o;have e2:=X.cell;have HF:=HQ.out w2 w1 ⟨dA,dn,dc⟩ ⟨vA,vn,vc⟩ b1 od ov off al;have HFF:=Ai HF;clear EO od ov off b1 al HF HQ
 go_wp2_with fail
 exact HFF.out
theorem IZ (w:World) (a b c d e f g:Int) (t:TypeId):Rd (w.alloc (.cells (AD a b c d e f g) t)) (some ⟨w,0,none⟩) (1*7) (ints [a,b,c,d,e,f,g]):=by
 refine⟨rfl,fun _=>⟨_,rfl,fun i hi=> ?_⟩⟩;rw[CE,(Br w t (AD a b c d e f g)).cell]
 simp[ints]
theorem SO {w W wg:World} {g:Nat} {D S L G:Hd} {b:Ae} (ys:List Int) (K:Bz w g D S L b) (bb:Below w w W) (gg:W.grownBy wg L.row) (oG:AR wg (g+1) 7 G (ints b.log++ints ys)) (hat:G.row=L.row∨ ∃q,G.row=some q∧W.heap.size≤q):
  Bz (wg.setCell ⟨g,6,none⟩ (.slice G.A G.n G.c)) g D S G {b with log:=b.log++ys}∧A9 w (wg.setCell ⟨g,6,none⟩ (.slice G.A G.n G.c)) [some g,L.row]:=by
 have k:=K.below bb;have hg0:L.row≠some g:=fun e=>by have:=(K.l.rowlt g e).1;omega
 have tg:=A9.of_grown gg;refine⟨⟨(k.blk.grown gg hg0).set_ 6 _,Cb (k.d.grown gg k.dl) k.dg _,Cb (k.s.grown gg k.sl) k.sg _,Cu (by rw[←B8] at oG;exact oG) (Nat.lt_succ_self g) _,k.dn,k.sn,k.dg,k.sg,fun ad e h0=> ?_,fun ad e h0=> ?_⟩,?_⟩
 ·rcases hat with h|⟨q,h,hq⟩
  ·rw[h];exact k.dl ad e h0
  ·rw[h];intro c;cases c;have:=k.d.lt e h0;omega
 ·rcases hat with h|⟨q,h,hq⟩
  ·rw[h];exact k.sl ad e h0
  ·rw[h];intro c;cases c;have:=k.s.lt e h0;omega
 ·refine⟨tg.os.trans bb.os,tg.tape.trans bb.tape,tg.output.trans bb.output,by simpa using Ch bb.size tg.size,fun q hq hne=> ?_⟩
  have hqg:q≠g:=fun e=>hne (some g) Cr (by rw[e])
  exact(Below.heap_setCell _ _ _ q hqg).trans ((tg.block q (CM hq bb.size) (fun s hs=>hne s (by simp only[CC,I5,or_false] at hs⊢;exact Or.inr hs))).trans (bb.block q hq))
theorem Xr (t k l x y d r:Int) (g:Nat) (D S L:Hd) (b:Ae) (w:World) (K:Bz w g D S L b) (hn:L.n<200) (hb:Cm t k l x y d r=true):
  Calls prog 139 #[.pointer (some ⟨g,0,none⟩),.agg #[.int .i64 t,.int .i64 k,.int .i64 l,.int .i64 x,.int .i64 y,.int .i64 d,.int .i64 r]] w fun e w'=>e=.returned (.string ⟨H5.toArray⟩)∧ ∃L':Hd,Bz w' g D S L' {b with log:=b.log++ [t,k,l,x,y,d,r]}∧(L'.row=L.row∨ ∃q,L'.row=some q∧w.heap.size≤q)∧A9 w w' [some g,L.row]:=by
 have HR:=fun W=>Ed t k l x y d r W;rw[hb] at HR;generalize hQ:(fun e w'=>e=Ending.returned (.string ⟨H5.toArray⟩)∧ ∃L':Hd,Bz w' g D S L' {b with log:=b.log++ [t,k,l,x,y,d,r]}∧(L'.row=L.row∨ ∃q,L'.row=some q∧w.heap.size≤q)∧A9 w w' [some g,L.row])=Q;have HQ:Hid (∀(W wg:World) (G:Hd),Below w w W→W.grownBy wg L.row→AR wg (g+1) 7 G (ints b.log++ints [t,k,l,x,y,d,r])→(G.row=L.row∨ ∃q,G.row=some q∧W.heap.size≤q)→Q (.returned (.string ⟨H5.toArray⟩)) (wg.setCell ⟨g,6,none⟩ (.slice G.A G.n G.c))):=fun W wg G bb gg oG hat=>by subst hQ;exact⟨rfl,G,(SO _ K bb gg oG hat).1,hat.imp id (fun⟨q,h1,h2⟩=>⟨q,h1,Ch bb.size h2⟩),(SO _ K bb gg oG hat).2⟩
 clear hQ;have KB:=fun(V:World) (bb:Below w w V)=>K.below bb;have b0:Below w w (w.alloc (.cells (AD t k l x y d r) 67)):=BU;have X:=Br w 67 (AD t k l x y d r);have hlg: ∀q,L.row=some q→g+1≤q∧q<w:=K.l.rowlt;have hg0:L.row≠some g:=fun e=>by have:=(hlg g e).1;omega
 clear hb
 go_enter func139,ntmps139
 go_upto_region 1 with fail
 generalize w.alloc _=w1 at*;have e0:=X.cell
 go_upto_region 3 with(go_at_call 81;refine(HR _).mono ?_;rintro e w2 ⟨rfl,b2⟩)
 have b3:=An b0 b2;have K3:=KB _ b3;have e3:=fun o=>K3.blk.cell o;have X3:=X.below b2 X.lt;have eX:=X3.cell;clear e0 KB HR
 go_upto_region 5 with fail
 have O3:=K3.l;have h63:L.n+1≤1099511627776:=Aa;have hg3:g+1≤w2.heap.size:=K3.blk.lt;have hg2:g<w2:=K3.blk.lt
 go_region_law ((refine Be AI _ _ 33 AI 67 7 56 underlying33 Gc Ah (g+1) L (ints b.log) AI (O3.below Ax) _ 1 1 (ints [t,k,l,x,y,d,r]) AI (IZ _ t k l x y d r 67) (Ao _) h63 Ah (Ch hg3 (show Below w2 w2 _ from Ax).size) ?_;intro G wg hGn oG gg hat;have HGN:=Ai hGn;clear hGn;have HFI:=Ai (HQ.out _ _ _ (b3.trans ((show Below w2 w2 _ from Ax).mono b3.size)) gg oG hat);have KG:=((K3.blk.below (show Below w2 w2 _ from Ax) K3.blk.lt).grown gg hg0);have e4:=KG.cell;have f4:=KG.frozen))
 all_goals
  clear gg oG hat KG HQ;go_wp2;exact HFI.out
structure F9 (B:Nat) (w:World) (g:Nat) (D S L:Hd) (b:Ae):Prop where
 box:Bz w g D S L b
 pr:Mf w B D S
 ok:D9 b
 bg:B≤g
def Qb (g:Nat) (D S L:Hd) (q:Nat):Prop:=q≠g∧blkp D.A D.n≠some q∧blkp S.A S.n≠some q∧L.row≠some q
def Me (B g:Nat) (D S L:Hd) (b':Ae) (w w':World):Prop:=
 ∃D' S' L':Hd,F9 B w' g D' S' L' b'∧A9 w w' [some g,L.row]∧ ∀q,q<w.heap.size→Qb g D S L q→Qb g D' S' L' q
def Dw (B g:Nat) (D S L:Hd) (b':Ae) (t:Bs) (w:World) (e:Ending) (w':World):Prop:=
 e=.returned (.string ⟨t.toArray⟩)∧Me B g D S L b' w w'
section
variable {B g : Nat} {D S L : Hd} {b b' : Ae} {w w' w1 : World} {t : Bs}
theorem MA (r:List (Option Nat)) (k:Below w w w'):A9 w w' r:=⟨k.os,k.tape,k.output,k.size,fun q hq _=>k.block q hq⟩
theorem Bz.offd (K:Bz w g D S L b):H7 [some g,L.row] [blkp D.A D.n]:=fun s hs x hx q e1 e2=>by
 rw[DD.1 hx] at e2;obtain⟨ad,hA,h0,rfl⟩:=Df e2;simp only[CC,I5,or_false] at hs;rcases hs with rfl|rfl
 ·injection e1 with e1;exact K.dg ad hA h0 e1.symm
 ·exact K.dl ad hA h0 e1
theorem Bz.offs (K:Bz w g D S L b):H7 [some g,L.row] [blkp S.A S.n]:=fun s hs x hx q e1 e2=>by
 rw[DD.1 hx] at e2;obtain⟨ad,hA,h0,rfl⟩:=Df e2;simp only[CC,I5,or_false] at hs;rcases hs with rfl|rfl
 ·injection e1 with e1;exact K.sg ad hA h0 e1.symm
 ·exact K.sl ad hA h0 e1
theorem F9.prt (K:F9 B w g D S L b) (T:A9 w w' [some g,L.row]):Mf w' B D S:=
 ⟨K.pr.d.touch K.box.d T K.box.offd,K.pr.s.touch K.box.s T K.box.offs,K.pr.ds⟩
theorem F9.below (K:F9 B w g D S L b) (k:Below w w w'):F9 B w' g D S L b:=⟨K.box.below k,K.prt (MA _ k),K.ok,K.bg⟩
theorem Cw (K:F9 B w g D S L b) (k:Below w w w'):Me B g D S L b w w':=⟨D,S,L,K.below k,MA _ k,fun _ _ h=>h⟩
theorem LC (K:F9 B w g D S L b) (x:Bz w' g D S L b') (T:A9 w w' [some g]) (ok:D9 b'):Me B g D S L b' w w':=by
 have T2:A9 w w' [some g,L.row]:=⟨T.os,T.tape,T.output,T.size,fun k hk h=>T.block k hk fun s hs=>h s (by rw[DD.1 hs];exact C5 ..)⟩
 exact⟨D,S,L,⟨x,K.prt T2,ok,K.bg⟩,T2,fun _ _ h=>h⟩
theorem bI {L':Hd} (K:F9 B w g D S L b) (x:Bz w' g D S L' b') (T:A9 w w' [some g,L.row]) (hat:L'.row=L.row∨ ∃q,L'.row=some q∧w.heap.size≤q) (ok:D9 b'):Me B g D S L b' w w':=
 ⟨D,S,L',⟨x,K.prt T,ok,K.bg⟩,T,fun q hq h=>⟨h.1,h.2.1,h.2.2.1,by
  rcases hat with e|⟨p,e,hp⟩
  ·rw[e];exact h.2.2.2
  ·rw[e];intro c;injection c with c;omega⟩⟩
theorem YZ {D' S':Hd} (K:F9 B w g D S L b) (x:Bz w' g D' S' L b') (pr:Mf w' w.heap.size D' S') (T:A9 w w' [some g]) (ok:D9 b'):Me B g D S L b' w w':=by
 have T2:A9 w w' [some g,L.row]:=⟨T.os,T.tape,T.output,T.size,fun k hk h=>T.block k hk fun s hs=>h s (by rw[DD.1 hs];exact C5 ..)⟩
 have hb:B≤w.heap.size:=by have:=K.bg;have:=K.box.blk.lt;omega
 refine⟨D',S',L,⟨x,⟨pr.d.lower hb,pr.s.lower hb,pr.ds⟩,ok,K.bg⟩,T2,fun q hq h=>⟨h.1,?_,?_,h.2.2.2⟩⟩
 ·intro c;have:=pr.d.blockp c;omega
 ·intro c;have:=pr.s.blockp c;omega
theorem D9.d12 (h:D9 b):b.depths.length≤12:=by
 have g:=h.prof;unfold BI at g;rw[CD] at g;have:=Ac g.1;omega
end
theorem PX (x:Int) (B g:Nat) (D S L:Hd) (b:Ae) (w:World) (K:F9 B w g D S L b) (T:CK w):
  Calls prog 137 #[.pointer (some ⟨g,0,none⟩),ZI x] w (Dw B g D S L (if inR x 0 ((b.depths.length:Int)-1)=true then {b with source:=x} else b) (if inR x 0 ((b.depths.length:Int)-1)=true then H5 else erT 2) w):=by
 by_cases h:inR x 0 ((b.depths.length:Int)-1)=true
 ·rw[AA h,AA h];exact(Sm x g D S L b w K.box K.ok.d12 h).mono fun e w' ⟨h1,h2,h3⟩=>⟨h1,LC K h2 h3 ⟨K.ok.prof,h,K.ok.dir,K.ok.log,K.ok.len,K.ok.n⟩⟩
 ·rw[Ak h,Ak h];exact(PY x g D S L b w K.box K.ok.d12 CB T).mono fun e w' ⟨h1,h2⟩=>⟨h1,Cw K h2⟩
theorem OJ (s:Bs) (B g:Nat) (D S L:Hd) (b:Ae) (w:World) (K:F9 B w g D S L b) (hs:s.length≤100000) (T:Dq w):
  Calls prog 102 #[.pointer (some ⟨g,0,none⟩),.string ⟨s.toArray⟩] w (Dw B g D S L (if Fm s=true then {b with depths:=rpD s,speeds:=rpV s,source:=0} else b) (if Fm s=true then H5 else erT 6) w):=by
 by_cases h:Fm s=true
 ·rw[AA h,AA h];refine(Wb s g D S L b w K.box hs h T).mono fun e w' ⟨h1,D',S',h2,h3,h4⟩=>⟨h1,YZ K h2 h3 h4 ?_⟩;have h5:=h;unfold Fm at h5;rw[CD] at h5;refine⟨h5.2,?_,K.ok.dir,K.ok.log,K.ok.len,K.ok.n⟩;have g2:=h5.2;unfold BI at g2;rw[CD] at g2;have:=Ac g2.1;exact CN Aw Aw
 ·rw[Ak h,Ak h];exact(UC s g w hs CB T).mono fun e w' ⟨h1,h2⟩=>⟨h1,Cw K h2⟩
theorem Gv (t k l x y d r:Int) (B g:Nat) (D S L:Hd) (b:Ae) (w:World) (K:F9 B w g D S L b) (T:CK w):
  Calls prog 139 #[.pointer (some ⟨g,0,none⟩),AD t k l x y d r] w (Dw B g D S L (addB b t k l x y d r) (Qc b t k l x y d r) w):=by
 have hl:b.log.length=L.n*7:=by have:=K.box.l.len;unfold ints at this;simpa using this
 have hN:b.log.length/7=L.n:=Aa;have hok:=M6 K.ok t k l x y d r;unfold addB at hok⊢;unfold Qc lgN;rw[hN] at hok⊢;have h200:=K.ok.n;rw[hN] at h200
 by_cases h:Cm t k l x y d r=true
 ·by_cases h2:L.n<200
  ·rw[AA ⟨h,h2⟩] at hok⊢;rw[AA h,AA h2];exact(Xr t k l x y d r g D S L b w K.box h2 h).mono fun e w' ⟨h1,L',h3,h4,h5⟩=>⟨h1,bI K h3 h5 h4 hok⟩
  ·rw[Ak (fun c=>h2 c.2),AA h,Ak h2];exact(SJ t k l x y d r g D S L b w K.box Aa h T).mono fun e w' ⟨h1,h2⟩=>⟨h1,Cw K h2⟩
 ·rw[Ak (fun c=>h c.1),Ak h];exact(UZ t k l x y d r g w CB T).mono fun e w' ⟨h1,h2⟩=>⟨h1,Cw K h2⟩
theorem Wc (m n y:Int) (B g:Nat) (D S L:Hd) (b:Ae) (w:World) (K:F9 B w g D S L b) (T:CK w):
  Calls prog 138 #[.pointer (some ⟨g,0,none⟩),ZI m,ZI n,ZI y] w (Dw B g D S L (if Gj m n=true∧inR y 0 1=true then {b with cos:=mkC m n,sin:=mkS m n (decide (y=1)),hyp:=mkH m n} else b) (if Gj m n=true∧inR y 0 1=true then H5 else erT 2) w):=by
 by_cases h:Gj m n=true
 ·by_cases h2:inR y 0 1=true
  ·rw[AA ⟨h,h2⟩,AA ⟨h,h2⟩];have h3:=Ac h2;have hy:y=1∨y=0:=Aa;rcases hy with rfl|rfl
   ·rw[show decide ((1:Int)=1)=true from rfl];exact(Wf m n g D S L b w K.box h).mono fun e w' ⟨h1,h2,h3⟩=>⟨h1,LC K h2 h3 ⟨K.ok.prof,K.ok.src,Ug h true,K.ok.log,K.ok.len,K.ok.n⟩⟩
   ·rw[show decide ((0:Int)=1)=false from rfl];exact(We m n g D S L b w K.box h).mono fun e w' ⟨h1,h2,h3⟩=>⟨h1,LC K h2 h3 ⟨K.ok.prof,K.ok.src,Ug h false,K.ok.log,K.ok.len,K.ok.n⟩⟩
  ·rw[Ak (fun c=>h2 c.2),Ak (fun c=>h2 c.2)];exact(Wg m n y g w h (by simpa using h2) T).mono fun e w' ⟨h1,h2⟩=>⟨h1,Cw K h2⟩
 ·rw[Ak (fun c=>h c.1),Ak (fun c=>h c.1)];exact(Wd m n y g w CB T).mono fun e w' ⟨h1,h2⟩=>⟨h1,Cw K h2⟩
theorem ZB {x:Int} (h:isV x=true): -9223372036854775808<x∧x≤9223372036854775807:=by have:=IQ.1 h;omega
theorem aN (r:Al) (n:Int):0≤trC r n∧trC r n≤1000:=by
 unfold trC
 split
 ·split<;>omega
 ·omega
theorem dX {b:Ae} (h:D9 b) {n:Nat} {x:En} {l:List AU} (ht:(rayB b).tr n=some (x,l)):(-9223372036854775808<x.lo∧x.lo≤9223372036854775807)∧(-9223372036854775808<x.hi∧x.hi≤9223372036854775807)∧BV (C2 l) 1 4=true:=by
 obtain⟨h1,h2,h3,h4⟩:=(KF h).tr_ok _ _ _ ht;refine⟨ZB h1.lo,ZB h1.hi,?_⟩;unfold BV C2;rw[List.all_eq_true];intro y hy;rw[List.mem_map] at hy;obtain⟨z,hz,rfl⟩:=hy;exact CN (h3 z hz).2.1 (h3 z hz).2.2
theorem Tr (l:List Int):(hisL l).length=l.length:=List.length_map ..
theorem ZX (ρ:Int→Al) (kn:Nat) (n lo hi steps knot dist:Int):0≤ocC ρ kn n lo hi steps knot dist∧ocC ρ kn n lo hi steps knot dist≤1000:=by
 unfold ocC
 split
 ·omega
 split
 ·omega
 split
 ·omega
 split<;>omega
theorem eJ {ρ:Int→Al} {kn:Nat} {n lo hi steps knot dist:Int} (h:ocC ρ kn n lo hi steps knot dist=0):Ds n lo hi=true:=by
 rcases BA (Ds n lo hi) with o|o
 ·exact o
 ·unfold ocC at h;rw[AA o] at h;cases h
theorem ZY (ρ:Int→Al) (kn:Nat) (n lo hi steps knot dist:Int):(ocL ρ kn n lo hi steps knot dist).length≤100∧ ∀x∈ocL ρ kn n lo hi steps knot dist,-9223372036854775808<x∧x≤9223372036854775807:=by
 unfold ocL
 by_cases h:ocC ρ kn n lo hi steps knot dist=0
 ·rw[AA h];have hf:=Gf (eJ h);have hb:=Nh (L:=ocV ρ n lo hi steps knot dist) (show 1≤lo by omega) (show lo≤100 by omega) (hi-lo).toNat Aa
  exact⟨by omega,fun x hx=>by have:=hb.2 x hx;omega⟩
 ·rw[Ak h];exact⟨AZ _,fun x hx=>by cases hx⟩
theorem ZZ {ρ:Int→Al} {kn:Nat} {n lo hi steps knot dist:Int} (h: ¬ocC ρ kn n lo hi steps knot dist=0):ocL ρ kn n lo hi steps knot dist= []:=Ak h
theorem XH (xs:List Int) (n:Nat):0≤gaugeC xs n∧gaugeC xs n≤1000:=by
 unfold gaugeC
 split
 ·split
  ·omega
  ·split<;>omega
 ·omega
theorem L3 (b:Ae):0≤sdC b∧sdC b≤1000:=XH _ _
theorem Zg (xs:List Int) (n:Nat) (R L M:Int):0≤Po xs n R L M∧Po xs n R L M≤1000:=by unfold Po;split<;>omega
theorem Zx (s w h:Int) (ys:List Int) (n:Nat):0≤Qn s w h ys n∧Qn s w h ys n≤1000:=by
 unfold Qn
 split
 ·split<;>omega
 ·omega
theorem ZQ (g:Am):0≤mdC g∧mdC g≤1000:=by
 unfold mdC
 split
 ·split<;>omega
 ·omega
theorem aJ (n a m:Int):0≤tcC n a m∧tcC n a m≤1000:=by unfold tcC;split<;>omega
theorem Zk (a h o:Int):0≤evC a h o∧evC a h o≤1000:=by
 unfold evC
 split
 ·omega
 split
 ·omega
 split
 ·omega
 split<;>omega
theorem aI {n a m:Int} (h:Pd n a m=true):(0≤n∧n≤12)∧(0≤a∧a≤16)∧(0≤m∧m≤n+1):=by
 unfold Pd at h;rw[CD,CD] at h;exact⟨Ac h.1.1,Ac h.1.2,Ac h.2⟩
theorem dW (n a m:Int):fg n a m=tcV n a m:=by
 unfold fg tcV
 by_cases h:Pd n a m=true
 ·rw[AA h,AA h];obtain⟨h1,h2,h3⟩:=aI h;rw[fT n.toNat m.toNat a Aa,show((m.toNat:Nat):Int)=m by omega]
 ·rw[Ak h,Ak h]
theorem aK (n a m:Int): -9223372036854775808<tcV n a m∧tcV n a m≤9223372036854775807:=by
 rw[←dW];unfold fg
 by_cases h:Pd n a m=true
 ·rw[AA h];obtain⟨h1,h2,h3⟩:=aI h;have e:=Vj h2.1 h2.2 n.toNat m (n.toNat+1-m.toNat);have p:(16:Int) ^ n.toNat≤16 ^ 12:=Er Aa;have p0:(0:Int)≤16 ^ n.toNat:=Int.pow_nonneg Ah;have q:((n.toNat+1-m.toNat:Nat):Int)≤13:=Aa;have q2:=CL q p p0 Ah;omega
 ·rw[Ak h];omega
theorem fd (b:Ae):(sdL b).length=sdN b*4∧sdN b≤b.log.length/7∧BJ (sdL b) (sdN b)=decide ((sdN b:Int)≤200):=by
 unfold sdN sdL V7 UR
 by_cases h:gaugeC b.log (b.log.length/7)=0
 ·rw[AA h];obtain⟨m,hm,hs⟩:=Xb (rpT b.log (b.log.length/7)) (rpS b.log (b.log.length/7)) b.log (b.log.length/7);have hc:=Qy (rpT b.log (b.log.length/7)) (rpS b.log (b.log.length/7)) b.log (b.log.length/7);have hl:=WK b.log (b.log.length/7);have e:(repL (rpT b.log (b.log.length/7)) (rpS b.log (b.log.length/7)) b.log (b.log.length/7)).length/4=m:=Aa;rw[e];refine⟨hm,by omega,?_⟩
  unfold BJ;rw[aC (n:=m) (fun k hk=>hs k hk),Ha]
 ·rw[Ak h];exact⟨rfl,AZ _,rfl⟩
theorem Ld {b:Ae} (h:D9 b):(sdL b).length=sdN b*4∧sdN b≤200∧BJ (sdL b) (sdN b)=true:=by
 obtain⟨h1,h2,h3⟩:=fd b;have:=h.n;exact⟨h1,by omega,by rw[h3,BC];omega⟩
theorem dN {b:Ae} (h:D9 b) {s:Bs} (hc:ggC b s=0):Dl (ggR b s)=true:=by
 obtain⟨h1,h2,h3⟩:=Ld h;unfold ggR UQ;have hc2:=hc;unfold ggC at hc2;rw[AA hc2];unfold Qn at hc2;rw[AA h3] at hc2
 have hg:DK (cmI s 0) (cmI s 1) (cmI s 2)=true:=by
  rcases BA (DK (cmI s 0) (cmI s 1) (cmI s 2)) with o|o
  ·exact o
  ·rw[o] at hc2;cases hc2
 unfold DK at hg;rw[CD,CD] at hg;have a1:=Ac hg.1.1;have a2:=Ac hg.1.2;have a3:=Ac hg.2;unfold BJ at h3;rw[CD] at h3;exact fA Aa Aa Aa Aa Aa Aa h3.1 Aa
theorem WN {x k M:Int} (hk:0<k) (h1: -M≤x) (h2:x≤M) (hM:0≤M): -M≤x/k∧x/k≤M:=by
 constructor
 ·rw[Int.le_ediv_iff_mul_le hk];have:=Gq (show 1≤k by omega) hM
  rw[Int.neg_mul];omega
 ·have a1:=Int.ediv_le_ediv hk h2;have a2:M/k≤M:=Int.ediv_le_self _ hM;omega
theorem dT {g:Am} (h:Dl g=true):(-9223372036854775808<mdL g∧mdL g≤9223372036854775807)∧(-9223372036854775808<mdH g∧mdH g≤9223372036854775807):=by
 have K:=Xo.of h;have hs:=Np K g.counts.length Bk;have hl:=Nd K.w0 K.w1 K.h0 K.h1;have hn:=K.len
 by_cases h2:knTo g g.counts.length=0
 ·rw[(Nf h h2).2.1,(Nf h h2).2.2];omega
 ·rw[(Ng h h2).2.1,(Ng h h2).2.2];have k0:0<knTo g g.counts.length:=Aa;have d1:=WN (M:=1000000000000000) k0 (x:=loTo g g.counts.length) Aa Aa Aa;have d2:=WN (M:=1000000000000000) k0 (x:= -hiTo g g.counts.length) Aa Aa Aa;omega
def GG (B g:Nat) (D S L:Hd) (b':Ae) (t:Bs) (w:World) (e:Ending) (w':World):Prop:=
 e=.returned (.tuple #[.string ⟨t.toArray⟩,.bool true])∧Me B g D S L b' w w'
theorem Hc {B g:Nat} {D S L:Hd} {b':Ae} {w V w':World} (bb:Below w w V) (h:Me B g D S L b' V w'):Me B g D S L b' w w':=by
 obtain⟨D',S',L',K,T,F⟩:=h;refine⟨D',S',L',K,⟨T.os.trans bb.os,T.tape.trans bb.tape,T.output.trans bb.output,Ch bb.size T.size,fun k hk hs=> ?_⟩,fun q hq h=>F q (CM hq bb.size) h⟩;exact(T.block k (CM hk bb.size) hs).trans (bb.block k hk)
theorem Iz {B g:Nat} {D S L:Hd} {b':Ae} {t:Bs} {w V w':World} {e:Ending} (bb:Below w w V) (h:Dw B g D S L b' t V e w'):e=.returned (.string ⟨t.toArray⟩)∧Me B g D S L b' w w':=⟨h.1,Hc bb h.2⟩
theorem Eh {B g:Nat} {D S L:Hd} {b':Ae} {w w':World} {p:Addr} {v:Value} (h:Me B g D S L b' w w') (hq:Qb g D S L p.block) (hc:w.cell? p=some v):w'.cell? p=some v:=by
 obtain⟨D',S',L',K,T,F⟩:=h;have hl:=Gr w p hc;rw[←hc]
 exact World.cell?_of_block (T.block _ hl fun s hs=>by
  simp only[CC,I5,or_false] at hs;rcases hs with rfl|rfl
  ·intro c;injection c with c;exact hq.1 c.symm
  ·exact hq.2.2.2)
theorem Hf (a:Addr) (j:Nat) (h:j≠0):a.add j=⟨a.block,a.off+j,none⟩:=by unfold Addr.add;rw[Ak h]
theorem PD (A:Option Addr) (c:Nat) (ns:List Int) (B g:Nat) (D S L:Hd) (b:Ae) (w:World) (K:F9 B w g D S L b) (hr:Rd w A 1 (ints ns)) (hq: ∀ad,A=some ad→Qb g D S L ad.block) (T:CK w):
  Calls prog 103 #[.pointer (some ⟨g,0,none⟩),.string ⟨#[115,111,117,114,99,101]⟩,.slice A 1 c] w (GG B g D S L (if inR (ns.getD 0 0) 0 ((b.depths.length:Int)-1)=true then {b with source:=(ns.getD 0 0)} else b) (if inR (ns.getD 0 0) 0 ((b.depths.length:Int)-1)=true then H5 else erT 2) w):=by
 have H:=fun(V:World) (bb:Below w w V)=>(PX (ns.getD 0 0) B g D S L b V (K.below bb) (T.below bb)).mono (R':=fun e w'=>e=.returned (.string ⟨((if inR (ns.getD 0 0) 0 ((b.depths.length:Int)-1)=true then H5 else erT 2)).toArray⟩)∧Me B g D S L (if inR (ns.getD 0 0) 0 ((b.depths.length:Int)-1)=true then {b with source:=(ns.getD 0 0)} else b) w w') (fun _ _ h=>Iz bb h);unfold GG;generalize hbb:(if inR (ns.getD 0 0) 0 ((b.depths.length:Int)-1)=true then {b with source:=(ns.getD 0 0)} else b)=b' at H⊢;generalize htt:(if inR (ns.getD 0 0) 0 ((b.depths.length:Int)-1)=true then H5 else erT 2)=t at H⊢;clear hbb htt;obtain⟨ad,rfl⟩: ∃ad,A=some ad:=by obtain⟨ad,h,_⟩:=hr.int (k:=0) Ah;exact⟨ad,h⟩
 have hc0:w.cell? ad=some (.int .i64 (ns.getD 0 0)):=Pn hr Ah;generalize ns.getD 0 0=x0 at*;clear hq hr K T
 go_enter func103,ntmps103
 go_wp2_with (go_at_call 137;refine(H _ E9).mono ?_;rintro e w1 ⟨rfl,bk⟩)
 go_ret2;exact⟨rfl,bk⟩
theorem U3 (A:Option Addr) (c:Nat) (ns:List Int) (B g:Nat) (D S L:Hd) (b:Ae) (w:World) (K:F9 B w g D S L b) (hr:Rd w A 3 (ints ns)) (hq: ∀ad,A=some ad→Qb g D S L ad.block) (T:CK w):
  Calls prog 103 #[.pointer (some ⟨g,0,none⟩),.string ⟨#[114,97,121]⟩,.slice A 3 c] w (GG B g D S L (if Gj (ns.getD 0 0) (ns.getD 1 0)=true∧inR (ns.getD 2 0) 0 1=true then {b with cos:=mkC (ns.getD 0 0) (ns.getD 1 0),sin:=mkS (ns.getD 0 0) (ns.getD 1 0) (decide ((ns.getD 2 0)=1)),hyp:=mkH (ns.getD 0 0) (ns.getD 1 0)} else b) (if Gj (ns.getD 0 0) (ns.getD 1 0)=true∧inR (ns.getD 2 0) 0 1=true then H5 else erT 2) w):=by
 have H:=fun(V:World) (bb:Below w w V)=>(Wc (ns.getD 0 0) (ns.getD 1 0) (ns.getD 2 0) B g D S L b V (K.below bb) (T.below bb)).mono (R':=fun e w'=>e=.returned (.string ⟨((if Gj (ns.getD 0 0) (ns.getD 1 0)=true∧inR (ns.getD 2 0) 0 1=true then H5 else erT 2)).toArray⟩)∧Me B g D S L (if Gj (ns.getD 0 0) (ns.getD 1 0)=true∧inR (ns.getD 2 0) 0 1=true then {b with cos:=mkC (ns.getD 0 0) (ns.getD 1 0),sin:=mkS (ns.getD 0 0) (ns.getD 1 0) (decide ((ns.getD 2 0)=1)),hyp:=mkH (ns.getD 0 0) (ns.getD 1 0)} else b) w w') (fun _ _ h=>Iz bb h);unfold GG;generalize hbb:(if Gj (ns.getD 0 0) (ns.getD 1 0)=true∧inR (ns.getD 2 0) 0 1=true then {b with cos:=mkC (ns.getD 0 0) (ns.getD 1 0),sin:=mkS (ns.getD 0 0) (ns.getD 1 0) (decide ((ns.getD 2 0)=1)),hyp:=mkH (ns.getD 0 0) (ns.getD 1 0)} else b)=b' at H⊢;generalize htt:(if Gj (ns.getD 0 0) (ns.getD 1 0)=true∧inR (ns.getD 2 0) 0 1=true then H5 else erT 2)=t at H⊢;clear hbb htt;obtain⟨ad,rfl⟩: ∃ad,A=some ad:=by obtain⟨ad,h,_⟩:=hr.int (k:=0) Ah;exact⟨ad,h⟩
 have hq0:=hq ad rfl;have hc0:w.cell? ad=some (.int .i64 (ns.getD 0 0)):=Pn hr Ah;have hc1:w.cell? ⟨ad.block,ad.off+1,none⟩=some (.int .i64 (ns.getD 1 0)):=GV hr Ah Ah;have hc2:w.cell? ⟨ad.block,ad.off+2,none⟩=some (.int .i64 (ns.getD 2 0)):=GV hr Ah Ah;generalize ns.getD 0 0=x0 at*;generalize ns.getD 1 0=x1 at*;generalize ns.getD 2 0=x2 at*;clear hq hr K T;have HQ0:=fun(u:World) (bk:Me B g D S L b' w u)=>Eh (p:=ad) bk hq0 hc0;have HQ1:=fun(u:World) (bk:Me B g D S L b' w u)=>Eh (p:=⟨ad.block,ad.off+1,none⟩) bk hq0 hc1;have HQ2:=fun(u:World) (bk:Me B g D S L b' w u)=>Eh (p:=⟨ad.block,ad.off+2,none⟩) bk hq0 hc2
 go_enter func103,ntmps103
 go_upto_region 5 with fail
 go_region_held3 (fun w'=>w'.cell? ad=some (.int .i64 x0)∧w'.cell? ⟨ad.block,ad.off+1,none⟩=some (.int .i64 x1)∧w'.cell? ⟨ad.block,ad.off+2,none⟩=some (.int .i64 x2))
  (exact bt)
  (first
   |(go_at_call 138;(with_reducible refine(H _ Ax).mono ?_);rintro e w1 ⟨rfl,bk⟩;have hd0:=HQ0 _ bk;have hd1:=HQ1 _ bk;have hd2:=HQ2 _ bk))
 go_wp2
 go_ret2;exact⟨rfl,bk⟩
theorem Rc (A:Option Addr) (c:Nat) (ns:List Int) (B g:Nat) (D S L:Hd) (b:Ae) (w:World) (K:F9 B w g D S L b) (hr:Rd w A 2 (ints ns)) (hq: ∀ad,A=some ad→Qb g D S L ad.block) (T:CK w):
  Calls prog 103 #[.pointer (some ⟨g,0,none⟩),.string ⟨#[108,101,118,101,108]⟩,.slice A 2 c] w (GG B g D S L (addB b (ns.getD 0 0) 1 (ns.getD 1 0) 0 0 0 0) (Qc b (ns.getD 0 0) 1 (ns.getD 1 0) 0 0 0 0) w):=by
 have H:=fun(V:World) (bb:Below w w V)=>(Gv (ns.getD 0 0) 1 (ns.getD 1 0) 0 0 0 0 B g D S L b V (K.below bb) (T.below bb)).mono (R':=fun e w'=>e=.returned (.string ⟨((Qc b (ns.getD 0 0) 1 (ns.getD 1 0) 0 0 0 0)).toArray⟩)∧Me B g D S L (addB b (ns.getD 0 0) 1 (ns.getD 1 0) 0 0 0 0) w w') (fun _ _ h=>Iz bb h);unfold GG;generalize hbb:(addB b (ns.getD 0 0) 1 (ns.getD 1 0) 0 0 0 0)=b' at H⊢;generalize htt:(Qc b (ns.getD 0 0) 1 (ns.getD 1 0) 0 0 0 0)=t at H⊢;clear hbb htt;obtain⟨ad,rfl⟩: ∃ad,A=some ad:=by obtain⟨ad,h,_⟩:=hr.int (k:=0) Ah;exact⟨ad,h⟩
 have hq0:=hq ad rfl;have hc0:w.cell? ad=some (.int .i64 (ns.getD 0 0)):=Pn hr Ah;have hc1:w.cell? ⟨ad.block,ad.off+1,none⟩=some (.int .i64 (ns.getD 1 0)):=GV hr Ah Ah;generalize ns.getD 0 0=x0 at*;generalize ns.getD 1 0=x1 at*;clear hq hr K T;have HQ0:=fun(u:World) (bk:Me B g D S L b' w u)=>Eh (p:=ad) bk hq0 hc0;have HQ1:=fun(u:World) (bk:Me B g D S L b' w u)=>Eh (p:=⟨ad.block,ad.off+1,none⟩) bk hq0 hc1
 go_enter func103,ntmps103
 go_upto_region 7 with fail
 go_region_held3 (fun w'=>w'.cell? ad=some (.int .i64 x0)∧w'.cell? ⟨ad.block,ad.off+1,none⟩=some (.int .i64 x1))
  (exact bm)
  (first
   |(go_at_call 139;(with_reducible refine(H _ Ax).mono ?_);rintro e w1 ⟨rfl,bk⟩;have hd0:=HQ0 _ bk;have hd1:=HQ1 _ bk))
 go_wp2
 go_ret2;exact⟨rfl,bk⟩
theorem Re (A:Option Addr) (c:Nat) (ns:List Int) (B g:Nat) (D S L:Hd) (b:Ae) (w:World) (K:F9 B w g D S L b) (hr:Rd w A 5 (ints ns)) (hq: ∀ad,A=some ad→Qb g D S L ad.block) (T:CK w):
  Calls prog 103 #[.pointer (some ⟨g,0,none⟩),.string ⟨#[115,111,117,110,100]⟩,.slice A 5 c] w (GG B g D S L (addB b (ns.getD 0 0) 2 0 (ns.getD 1 0) (ns.getD 2 0) (ns.getD 3 0) (ns.getD 4 0)) (Qc b (ns.getD 0 0) 2 0 (ns.getD 1 0) (ns.getD 2 0) (ns.getD 3 0) (ns.getD 4 0)) w):=by
 have H:=fun(V:World) (bb:Below w w V)=>(Gv (ns.getD 0 0) 2 0 (ns.getD 1 0) (ns.getD 2 0) (ns.getD 3 0) (ns.getD 4 0) B g D S L b V (K.below bb) (T.below bb)).mono (R':=fun e w'=>e=.returned (.string ⟨((Qc b (ns.getD 0 0) 2 0 (ns.getD 1 0) (ns.getD 2 0) (ns.getD 3 0) (ns.getD 4 0))).toArray⟩)∧Me B g D S L (addB b (ns.getD 0 0) 2 0 (ns.getD 1 0) (ns.getD 2 0) (ns.getD 3 0) (ns.getD 4 0)) w w') (fun _ _ h=>Iz bb h);unfold GG;generalize hbb:(addB b (ns.getD 0 0) 2 0 (ns.getD 1 0) (ns.getD 2 0) (ns.getD 3 0) (ns.getD 4 0))=b' at H⊢;generalize htt:(Qc b (ns.getD 0 0) 2 0 (ns.getD 1 0) (ns.getD 2 0) (ns.getD 3 0) (ns.getD 4 0))=t at H⊢;clear hbb htt;obtain⟨ad,rfl⟩: ∃ad,A=some ad:=by obtain⟨ad,h,_⟩:=hr.int (k:=0) Ah;exact⟨ad,h⟩
 have hq0:=hq ad rfl;have hc0:w.cell? ad=some (.int .i64 (ns.getD 0 0)):=Pn hr Ah;have hc1:w.cell? ⟨ad.block,ad.off+1,none⟩=some (.int .i64 (ns.getD 1 0)):=GV hr Ah Ah;have hc2:w.cell? ⟨ad.block,ad.off+2,none⟩=some (.int .i64 (ns.getD 2 0)):=GV hr Ah Ah;have hc3:w.cell? ⟨ad.block,ad.off+3,none⟩=some (.int .i64 (ns.getD 3 0)):=GV hr Ah Ah;have hc4:w.cell? ⟨ad.block,ad.off+4,none⟩=some (.int .i64 (ns.getD 4 0)):=GV hr Ah Ah;generalize ns.getD 0 0=x0 at*;generalize ns.getD 1 0=x1 at*;generalize ns.getD 2 0=x2 at*;generalize ns.getD 3 0=x3 at*;generalize ns.getD 4 0=x4 at*;clear hq hr K T;have HQ0:=fun(u:World) (bk:Me B g D S L b' w u)=>Eh (p:=ad) bk hq0 hc0;have HQ1:=fun(u:World) (bk:Me B g D S L b' w u)=>Eh (p:=⟨ad.block,ad.off+1,none⟩) bk hq0 hc1;have HQ2:=fun(u:World) (bk:Me B g D S L b' w u)=>Eh (p:=⟨ad.block,ad.off+2,none⟩) bk hq0 hc2;have HQ3:=fun(u:World) (bk:Me B g D S L b' w u)=>Eh (p:=⟨ad.block,ad.off+3,none⟩) bk hq0 hc3;have HQ4:=fun(u:World) (bk:Me B g D S L b' w u)=>Eh (p:=⟨ad.block,ad.off+4,none⟩) bk hq0 hc4
 go_enter func103,ntmps103
 go_upto_region 9 with fail
 go_region_held3 (fun w'=>w'.cell? ad=some (.int .i64 x0)∧w'.cell? ⟨ad.block,ad.off+1,none⟩=some (.int .i64 x1)∧w'.cell? ⟨ad.block,ad.off+2,none⟩=some (.int .i64 x2)∧w'.cell? ⟨ad.block,ad.off+3,none⟩=some (.int .i64 x3)∧w'.cell? ⟨ad.block,ad.off+4,none⟩=some (.int .i64 x4))
  (exact bv)
  (first
   |(go_at_call 139;(with_reducible refine(H _ Ax).mono ?_);rintro e w1 ⟨rfl,bk⟩;have hd0:=HQ0 _ bk;have hd1:=HQ1 _ bk;have hd2:=HQ2 _ bk;have hd3:=HQ3 _ bk;have hd4:=HQ4 _ bk))
 go_wp2
 go_ret2;exact⟨rfl,bk⟩
theorem SW (A:Option Addr) (c:Nat) (ns:List Int) (B g:Nat) (D S L:Hd) (b:Ae) (w:World) (K:F9 B w g D S L b) (hr:Rd w A 1 (ints ns)) (hq: ∀ad,A=some ad→Qb g D S L ad.block) (T:CK w):
  Calls prog 103 #[.pointer (some ⟨g,0,none⟩),.string ⟨#[109,97,114,107]⟩,.slice A 1 c] w (GG B g D S L (addB b (ns.getD 0 0) 3 0 0 0 0 0) (Qc b (ns.getD 0 0) 3 0 0 0 0 0) w):=by
 have H:=fun(V:World) (bb:Below w w V)=>(Gv (ns.getD 0 0) 3 0 0 0 0 0 B g D S L b V (K.below bb) (T.below bb)).mono (R':=fun e w'=>e=.returned (.string ⟨((Qc b (ns.getD 0 0) 3 0 0 0 0 0)).toArray⟩)∧Me B g D S L (addB b (ns.getD 0 0) 3 0 0 0 0 0) w w') (fun _ _ h=>Iz bb h);unfold GG;generalize hbb:(addB b (ns.getD 0 0) 3 0 0 0 0 0)=b' at H⊢;generalize htt:(Qc b (ns.getD 0 0) 3 0 0 0 0 0)=t at H⊢;clear hbb htt;obtain⟨ad,rfl⟩: ∃ad,A=some ad:=by obtain⟨ad,h,_⟩:=hr.int (k:=0) Ah;exact⟨ad,h⟩
 have hc0:w.cell? ad=some (.int .i64 (ns.getD 0 0)):=Pn hr Ah;generalize ns.getD 0 0=x0 at*;clear hq hr K T
 go_enter func103,ntmps103
 go_wp2_with (go_at_call 139;refine(H _ E9).mono ?_;rintro e w1 ⟨rfl,bk⟩)
 go_ret2;exact⟨rfl,bk⟩
theorem Dd (A:Option Addr) (n c:Nat) (l:Bs) (g:Nat) (w:World) (h1: ¬l=AM) (h2: ¬l=Ca) (h3: ¬l=AW) (h4: ¬l=AX) (h5: ¬l=Bo):
  (YC 103 #[.pointer (some ⟨g,0,none⟩),.string ⟨l.toArray⟩,.slice A n c] w (.tuple #[.string ⟨#[]⟩,.bool false]):Prop):=by
 unfold AM at h1;unfold Ca at h2;unfold AW at h3;unfold AX at h4;unfold Bo at h5;have k1:=Ea.2 h1;have k2:=Ea.2 h2;have k3:=Ea.2 h3;have k4:=Ea.2 h4;have k5:=Ea.2 h5
 go_enter func103,ntmps103
 go_wp2
 go_ret2;exact⟨rfl,rfl⟩
def CU (t:Bs) (w:World) (e:Ending) (w':World):Prop:=e=.returned (.string ⟨t.toArray⟩)∧Below w w w'
theorem Lm {b:Ae} (h:D9 b):((b.source.toNat:Nat):Int)=b.source:=by have:=Ac h.src;omega
theorem af {w:World} {A:Option Addr} {n g:Nat} {us:List Value} {a b c d:Value} (h:Rd w A n us) (hr: ∀ad,A=some ad→0<n→ad.block≠g):Rd ((((w.setCell ⟨g,0,none⟩ a).setCell ⟨g,1,none⟩ b).setCell ⟨g,2,none⟩ c).setCell ⟨g,3,none⟩ d) A n us:=Cb (Cb (Cb (Cb h hr _) hr _) hr _) hr _
theorem Pf (kn lo hi cd:Int) (up:Bool) (evs:List Int) (n:Int) (g:Nat) (D S L:Hd) (b:Ae) (w:World) (K:Bz w g D S L b) (T:CK w)
  (HT: ∀W,Below w w W→Calls prog 180 #[CH D.A D.n D.c S.A S.n S.c,ZI b.source,Ziii b.cos b.sin b.hyp,ZI n] W fun e w'=> ∃he:Hd,e=.returned (.tuple (Dr he.A he.n he.c kn up lo hi cd))∧Rd w' he.A he.n (ints evs)∧(∀ad,he.A=some ad→0<he.n→W≤ad.block)∧Below W W w')
  (hl:evs.length≤100) (ha:BV evs 1 4=true) (h1: -9223372036854775808<lo∧lo≤9223372036854775807) (h2: -9223372036854775808<hi∧hi≤9223372036854775807) (h3:0≤cd∧cd≤1000):
  Calls prog 140 #[.pointer (some ⟨g,0,none⟩),.int .i64 n] w (CU (cdT (orD (hisL evs)++ [32]++ivT lo hi) cd) w):=by
 have HH:=fun(V:World) (bb:Below w w V) (he:Hd) (hr:Rd V he.A he.n (ints evs))=>I9 he.A he.n he.c evs V (by have:=hr.len;omega) hr ha
 have HO:=fun V=>(VQ (hisL evs) V).mono (R':=fun e w'=>e=.returned (.string ⟨(orD (hisL evs)).toArray⟩)∧V=w') (fun _ _ h=>⟨h.1,h.2.symm⟩);have HI:=fun(V:World) (bb:Below w w V)=>Ob lo hi V h1.1 h1.2 h2.1 h2.2 (T.below bb);have HU:=fun(V:World) (bb:Below w w V)=>Ep (orD (hisL evs)++ [32]++ivT lo hi) cd V h3.1 h3.2 (T.below bb);have l1:=Bm lo Aa Aa;have l2:=Bm hi Aa Aa
 have l3:(orD (hisL evs)).length≤101:=by
  unfold orD
  split
  ·decide
  ·rw[Tr];omega
 have l4:(ivT lo hi).length≤100:=by unfold ivT;rw[Dy,Dy];simp only[Gt,List.length_nil];omega
 unfold CU;generalize hR:cdT (orD (hisL evs)++ [32]++ivT lo hi) cd=R at HU⊢;clear hR;generalize orD (hisL evs)=O at*;generalize hisL evs=H at*;generalize ivT lo hi=I at*;obtain⟨S1,hS1⟩: ∃S1,O++ [32]=S1:=⟨_,rfl⟩;obtain⟨S2,hS2⟩: ∃S2,S1++I=S2:=⟨_,rfl⟩;rw[hS1,hS2] at HU;have k1:S1.length=O.length+1:=by rw[←hS1,Dy];rfl
 have p1: ¬9223372036854775807<O.length+1:=Aa;have p2: ¬9223372036854775807<S1.length+I.length:=Aa;have s1:((⟨O.toArray⟩:ByteArray)++⟨#[32]⟩)=⟨S1.toArray⟩:=by rw[←hS1];exact AY O [32]
 have s2:((⟨S1.toArray⟩:ByteArray)++⟨I.toArray⟩)=⟨S2.toArray⟩:=by rw[←hS2];exact AY S1 I
 clear hS1 hS2 k1 l1 l2 l3 l4 h1 h2 h3 hl ha T;have KB:=K.blk;have hg:=KB.lt;obtain⟨DA,dn,dc⟩:=D;obtain⟨SA,sn,sc⟩:=S;obtain⟨LA,ln,lc⟩:=L;clear K;simp only at KB HT;have hb:=KB.cell
 go_enter func140,ntmps140
 go_upto_region 1 with fail
 have bA:Below w w (w.alloc (.cells DJ 138)):=BU;have hA:=HT w.drew GJ;have hB:=HT (w.alloc (.cells DJ 138)).drew (CO bA);have KZ:=Blk.drew (Br w 138 DJ)
 go_cut [5,6,7] (fun v5 v6 v7 wx=> ∃(q:Nat) (he:Hd),v5=.slice he.A he.n he.c∧v6=.pointer (some ⟨q,0,none⟩)∧v7=.int .i64 cd∧Blk wx q 138 (A7 kn up lo hi)∧Rd wx he.A he.n (ints evs)∧Below w w wx)
 case first=>
  go_region_held3 (fun w'=>(∀o,w'.cell? ⟨g,o,none⟩=((Ad DA dn dc SA sn sc b LA ln lc):Array Value)[o]?))
   (exact Cs)
   (first
    |(go_at_call 180;(with_reducible refine hA.mono ?_);rintro e u ⟨⟨EA,en,ec⟩,rfl,RE,hEA,b4⟩;have bu:Below w w u:=EE (m:=1) b4;have z0:(∀o,u.cell? ⟨g,o,none⟩=((Ad DA dn dc SA sn sc b LA ln lc):Array Value)[o]?):=fun o=>(KB.below bu hg).cell o;have y0:=CM hg bu.size;have KU:=Br u 138 (A7 kn up lo hi);have bU:Below w w (u.alloc (.cells (A7 kn up lo hi) 138)):=bu.trans (((AP _ _).alloc Bk _).mono bu.size))
    |(go_at_call 180;(with_reducible refine hB.mono ?_);rintro e u ⟨⟨EA,en,ec⟩,rfl,RE,hEA,b4⟩;have bu:Below w w u:=(CO bA).trans (b4.mono bA.size);have z0:(∀o,u.cell? ⟨g,o,none⟩=((Ad DA dn dc SA sn sc b LA ln lc):Array Value)[o]?):=fun o=>(KB.below bu hg).cell o;have y0:=CM hg bu.size;have KU:=KZ.below b4 KZ.lt;have fU:=KU.frozen;have cU:=KU.cell;have hgu:=KU.lt))
  all_goals
   go_wp2_with fail
   go_meet
   first
    |exact⟨u.heap.size,⟨EA,en,ec⟩,rfl,rfl,rfl,KU,RE.below BU,bU⟩
    |exact⟨w.heap.size,⟨EA,en,ec⟩,rfl,rfl,rfl,((((KU.set_ 0 _).set_ 1 _).set_ 2 _).set_ 3 _),af RE (fun ad e h=>by have h5:=hEA ad e h;simp at h5;omega),((((bu.setCell (p:=⟨w,0,none⟩) Bk _).setCell (p:=⟨w,1,none⟩) Bk _).setCell (p:=⟨w,2,none⟩) Bk _).setCell (p:=⟨w,3,none⟩) Bk _)⟩
 case rest=>
  obtain⟨q,⟨EA,en,ec⟩,rfl,rfl,rfl,KQ,RE,bw⟩:=hcut;obtain⟨w5,rfl⟩: ∃x:World,x=wc:=⟨_,rfl⟩;have HH5:=fun(V:World) (b5:Below w5 w5 V)=>HH V (An bw b5) ⟨EA,en,ec⟩ (RE.below b5);have HI5:=fun(V:World) (b5:Below w5 w5 V)=>HI V (An bw b5);have HU5:=fun(V:World) (b5:Below w5 w5 V)=>HU V (An bw b5);clear HH HI HU HT hb RE KB hg bA hA hB KZ;simp only at HH5
  go_upto_region 2 with fail
  have hs0: ∀o,w5.cell? ⟨q,o,none⟩=((A7 kn up lo hi):Array Value)[o]? :=KQ.cell
  go_region_held3 (fun w'=>(∀o,w'.cell? ⟨q,o,none⟩=((A7 kn up lo hi):Array Value)[o]?))
   (exact IJ)
   (first
    |((fail_if_success (clear hbu0));go_at_call 182;refine(HH5 _ Ax).mono ?_;rintro e u0 ⟨rfl,bu0⟩;have hbu0:Below w5 w5 u0:=(show Below w5 w5 _ from Ax).trans (bu0.mono C9);have hzu0:=hbu0.size;have hxu0:=bu0.size;(try simp at hxu0);have hs0u0: ∀o,u0.cell? ⟨q,o,none⟩=((A7 kn up lo hi):Array Value)[o]? :=fun o=>(KQ.below hbu0 KQ.lt).cell o;have hy0u0:q<u0:=(KQ.below hbu0 KQ.lt).lt)
    |(go_at_call 181;refine(HO _).mono ?_;rintro e w' ⟨rfl,rfl⟩)
    |((fail_if_success (clear hbu2));go_at_call 183;refine(HI5 _ Ax).mono ?_;rintro e u2 ⟨rfl,bu2⟩;have hbu2:Below w5 w5 u2:=(show Below w5 w5 _ from Ax).trans (bu2.mono C9);have hzu2:=hbu2.size;have hxu2:=bu2.size;(try simp at hxu2);have hbu0u2:Below u0 u0 u2:=(show Below u0 u0 _ from Ax).trans (bu2.mono C9);have hs0u2: ∀o,u2.cell? ⟨q,o,none⟩=((A7 kn up lo hi):Array Value)[o]? :=fun o=>(KQ.below hbu2 KQ.lt).cell o;have hy0u2:q<u2:=(KQ.below hbu2 KQ.lt).lt)
    |((fail_if_success (clear hbu3));go_at_call 146;refine(HU5 _ Ax).mono ?_;rintro e u3 ⟨rfl,bu3⟩;have hbu3:Below w5 w5 u3:=(show Below w5 w5 _ from Ax).trans (bu3.mono C9);have hzu3:=hbu3.size;have hxu3:=bu3.size;(try simp at hxu3);have hbu0u3:Below u0 u0 u3:=(show Below u0 u0 _ from Ax).trans (bu3.mono C9);have hbu2u3:Below u2 u2 u3:=(show Below u2 u2 _ from Ax).trans (bu3.mono C9);have hs0u3: ∀o,u3.cell? ⟨q,o,none⟩=((A7 kn up lo hi):Array Value)[o]? :=fun o=>(KQ.below hbu3 KQ.lt).cell o;have hy0u3:q<u3:=(KQ.below hbu3 KQ.lt).lt))
  all_goals
   go_wp2;go_ret;exact⟨rfl,(An bw hbu3)⟩
theorem Wq (n:Int) (g:Nat) (D S L:Hd) (b:Ae) (w:World) (K:Bz w g D S L b) (ok:D9 b) (T:CK w):
  Calls prog 140 #[.pointer (some ⟨g,0,none⟩),ZI n] w (CU (trT b n) w):=by
 have H0:=fun(W:World) (bb:Below w w W)=>LQ ⟨D,S⟩ (rayB b) n W ⟨K.d.below bb,K.s.below bb⟩ (KF ok);have hs:(((rayB b).src:Nat):Int)=b.source:=Lm ok;unfold EV GU at H0;rw[hs] at H0
 by_cases h:trC (rayB b) n=0
 ·obtain⟨x,l,hx⟩: ∃x l,(rayB b).tr n.toNat=some (x,l):=by
   unfold trC at h
   split at h
   ·split at h
    ·cases h
    ·next y hy=>exact⟨y.1,y.2,hy⟩
   ·cases h
  have e:trT b n=cdT (orD (hisL (C2 l))++ [32]++ivT x.lo x.hi) 0:=by
   unfold trT cdT;rw[AA h,hx,AA rfl]
  obtain⟨h1,h2,h3⟩:=dX ok hx
  have hl:(C2 l).length≤100:=by
   have h5:=((KF ok).tr_ok _ _ _ hx).2.1
   have h6:inR n 0 100=true:=by
    rcases BA (inR n 0 100) with o|o
    ·exact o
    ·unfold trC at h;rw[o] at h;cases h
   have h7:=Ac h6;unfold C2;rw[List.length_map];omega
  rw[e];refine Pf (x.k:Int) x.lo x.hi 0 x.dn (C2 l) n g D S L b w K T (fun W bb=>(H0 W bb).mono ?_) hl h3 h1 h2 Aa;rintro e w' (⟨h0,_⟩|⟨x',l',he,_,_,hx',rfl,_,_,R,hb,bl⟩)
  ·exact absurd h h0
  ·rw[hx] at hx';simp only[Gs,Prod.mk.injEq] at hx';obtain⟨rfl,rfl⟩:=hx';exact⟨he,rfl,R,hb,bl⟩
 ·have e:trT b n=cdT (orD (hisL [])++ [32]++ivT 0 0) (trC (rayB b) n):=by
   unfold trT cdT;rw[Ak h,Ak h]
  rw[e];refine Pf 0 0 0 (trC (rayB b) n) false [] n g D S L b w K T (fun W bb=>(H0 W bb).mono ?_) Ah rfl Aa Aa (aN _ _);rintro e w' (⟨_,rfl,bl⟩|⟨x',l',he,h0,_⟩)
  ·exact⟨⟨none,0,0⟩,rfl,Rd.nil _ _,(fun _ e=>by cases e),bl⟩
  ·exact absurd h0 h
theorem cG (s:Bs) (A:Option Addr) (c:Nat) (g:Nat) (D S L:Hd) (b:Ae) (w:World) (K:Bz w g D S L b) (ok:D9 b) (hr:Rd w A 6 (ints (Co s))) (T:CK w):
  Calls prog 141 #[.pointer (some ⟨g,0,none⟩),.slice A 6 c] w (CU (meT b s) w):=by
 have HOC:=fun(W:World) (bb:Below w w W)=>Ke ⟨D,S⟩ b.depths b.speeds b.source.toNat (cmI s 0) (cmI s 1) (cmI s 2) (cmI s 3) (cmI s 4) (cmI s 5) (decide (0<b.sin)) W ⟨K.d.below bb,K.s.below bb⟩ ⟨ok.prof,by have:=Ac ok.src;omega⟩
 unfold RetOc EV at HOC;rw[Lm ok] at HOC;have HL:=ZY (Qk b (cmI s 0)) b.depths.length (cmI s 0) (cmI s 1) (cmI s 2) (cmI s 3) (cmI s 4) (cmI s 5);have HB:=ZX (Qk b (cmI s 0)) b.depths.length (cmI s 0) (cmI s 1) (cmI s 2) (cmI s 3) (cmI s 4) (cmI s 5);have HN: ¬meC b s=0→meL b s= []:=fun h=>ZZ h;have HT:Hid (meT b s=if meC b s=0 then(if meL b s= [] then [110,111,110,101] else joinI [32] (meL b s)) else erT (meC b s)):=rfl;have HOC: ∀(W:World),Below w w W→Calls prog 184 #[CH D.A D.n D.c S.A S.n S.c,ZI b.source,ZI (cmI s 0),ZI (cmI s 1),ZI (cmI s 2),.bool (decide (0<b.sin)),ZI (cmI s 3),ZI (cmI s 4),ZI (cmI s 5)] W fun e w'=> ∃H:Hd,e=.returned (.tuple (Gb H.A H.n H.c (meC b s)))∧H.n=(meL b s).length∧Rd w' H.A H.n (ints (meL b s))∧Below W W w':=HOC;change(meL b s).length≤100∧ ∀x∈meL b s,-9223372036854775808<x∧x≤9223372036854775807 at HL;change 0≤meC b s∧meC b s≤1000 at HB;obtain⟨ad,rfl⟩: ∃ad,A=some ad:=by obtain⟨ad,h,_⟩:=hr.int (k:=0) Ah;exact⟨ad,h⟩
 have hc0:w.cell? ad=some (.int .i64 (cmI s 0)):=Pn hr Ah;have hc1:w.cell? ⟨ad.block,ad.off+1,none⟩=some (.int .i64 (cmI s 1)):=GV hr Ah Ah;have hc2:w.cell? ⟨ad.block,ad.off+2,none⟩=some (.int .i64 (cmI s 2)):=GV hr Ah Ah;have hc3:w.cell? ⟨ad.block,ad.off+3,none⟩=some (.int .i64 (cmI s 3)):=GV hr Ah Ah;have hc4:w.cell? ⟨ad.block,ad.off+4,none⟩=some (.int .i64 (cmI s 4)):=GV hr Ah Ah;have hc5:w.cell? ⟨ad.block,ad.off+5,none⟩=some (.int .i64 (cmI s 5)):=GV hr Ah Ah;unfold CU;generalize meT b s=R at*;generalize meC b s=cd at*;generalize meL b s=OL at*;generalize cmI s 0=x0 at*;generalize cmI s 1=x1 at*;generalize cmI s 2=x2 at*;generalize cmI s 3=x3 at*;generalize cmI s 4=x4 at*;generalize cmI s 5=x5 at*;have KB:=K.blk;have hg:=KB.lt;have had:=Gr w ad hc0;obtain⟨DA,dn,dc⟩:=D;obtain⟨SA,sn,sc⟩:=S;obtain⟨LA,ln,lc⟩:=L;clear K hr;simp only at KB HOC;have hb:=KB.cell;have hA:=HOC w.drew GJ
 go_enter func141,ntmps141
 go_upto_region 1 with fail
 go_region_held3 (fun w'=>(∀o,w'.cell? ⟨g,o,none⟩=((Ad DA dn dc SA sn sc b LA ln lc):Array Value)[o]?)∧w'.cell? ad=some (.int .i64 x0)∧w'.cell? ⟨ad.block,ad.off+1,none⟩=some (.int .i64 x1)∧w'.cell? ⟨ad.block,ad.off+2,none⟩=some (.int .i64 x2)∧w'.cell? ⟨ad.block,ad.off+3,none⟩=some (.int .i64 x3)∧w'.cell? ⟨ad.block,ad.off+4,none⟩=some (.int .i64 x4)∧w'.cell? ⟨ad.block,ad.off+5,none⟩=some (.int .i64 x5))
  (exact Cs)
  (first
   |(go_at_call 184;(with_reducible refine hA.mono ?_);rintro e u ⟨⟨OA,on,oc⟩,rfl,hon,RO,b4⟩;have HON:Hid (on=OL.length):=hon;clear hon;have bu:Below w w u:=EE (m:=1) b4;have hb1: ∀o,u.cell? ⟨g,o,none⟩=((Ad DA dn dc SA sn sc b LA ln lc):Array Value)[o]? :=fun o=>(KB.below bu hg).cell o;have hd0:=Cg bu hc0 had;have hd1:=Cg bu hc1 had;have hd2:=Cg bu hc2 had;have hd3:=Cg bu hc3 had;have hd4:=Cg bu hc4 had;have hd5:u.cell? ⟨ad.block,ad.off+5,none⟩=some (.int .i64 x5):=(JX bu (p:=⟨ad.block,ad.off+5,none⟩) had).trans hc5))
 clear HOC hA hb hb1 KB hg had hc0 hd0 hc1 hd1 hc2 hd2 hc3 hd3 hc4 hd4 hc5 hd5;have RO:Rd u OA on (ints OL):=RO;have T2:=T.below bu
 by_cases h:cd=0
 ·subst h
  by_cases h2:OL= []
  ·subst h2;obtain rfl:on=0:=HON.out;have HR:Hid (R= [110,111,110,101]):=HT.out;clear HT HN;go_wp2;go_ret;rw[HR.out];exact⟨rfl,bu⟩
  ·have HR:Hid (R=joinI [32] OL):=by
    have:=HT.out;rw[AA rfl,Ak h2] at this;exact this
   have hon0: ¬on=0:=fun c=>h2 (Pt (by rw[←HON.out];exact c))
   have honI:((on:Int)==0)=false:=E8;have HJ:=fun(V:World) (bb:Below u u V)=>FN OA on oc OL [32] V (by have:=HON.out;omega) Ah (RO.below bb) HL.2 (T2.below bb)
   have HU:=fun(V:World) (bb:Below u u V)=>Ep (joinI [32] OL) 0 V Ah Ah (T2.below bb);rw[show cdT (joinI [32] OL) 0=joinI [32] OL from AA rfl] at HU;clear HT HN h2 HL RO T T2 hon0 HB;generalize joinI [32] OL=J at*
   go_wp2_with (first|(go_at_call 148;refine(HJ _ E9).mono ?_;rintro e w1 ⟨rfl,b1⟩)|(go_at_call 146;refine(HU _ b1).mono ?_;rintro e w2 ⟨rfl,b2⟩))
   go_ret;rw[HR.out];exact⟨rfl,bu.trans ((An b1 b2).mono bu.size)⟩
 ·have h2:=HN h;subst h2;obtain rfl:on=0:=HON.out
  have HR:Hid (R=erT cd):=by
   have:=HT.out;rw[Ak h] at this;exact this
  have hcb:(cd==0)=false:=by rw[Ea];exact h
  have HJ:=fun(V:World) (bb:Below u u V)=>FN OA 0 oc [] [32] V Aa Ah (RO.below bb) HL.2 (T2.below bb);have HU:=fun(V:World) (bb:Below u u V)=>Ep (joinI [32] []) cd V HB.1 HB.2 (T2.below bb);rw[show cdT (joinI [32] []) cd=erT cd from Ak h] at HU;clear HT HN h HL RO T T2 HB;generalize joinI [32] []=J at*
  go_wp2_with (first|(go_at_call 148;refine(HJ _ E9).mono ?_;rintro e w1 ⟨rfl,b1⟩)|(go_at_call 146;refine(HU _ b1).mono ?_;rintro e w2 ⟨rfl,b2⟩))
  go_ret;rw[HR.out];exact⟨rfl,bu.trans ((An b1 b2).mono bu.size)⟩
end Go.Proofs.YtkndcebhjcfphaaGreatDoor
