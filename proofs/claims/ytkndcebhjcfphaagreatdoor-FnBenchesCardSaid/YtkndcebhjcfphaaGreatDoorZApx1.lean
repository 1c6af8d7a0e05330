import Derived.Test.YtkndcebhjcfphaaGreatDoorZAf
import Derived.Test.YtkndcebhjcfphaaGreatDoorZAp
namespace Go.Proofs.YtkndcebhjcfphaaGreatDoor
open Go.RowKit Go.Proofs.Tryz
set_option maxRecDepth 100000
set_option maxHeartbeats 4000000
set_option linter.all false
theorem jk (s:Bs): ∃(a:List Bs) (k:Nat),splitC 10 s=a∧a.length=k+1∧lnL s=(if a.getD k []= [] then a.take k else a):=by
 have b:=CT 10 s;obtain⟨a,hw⟩: ∃a,splitC 10 s=a:=⟨_,rfl⟩;rw[hw] at b;obtain⟨k,c⟩: ∃k,a.length=k+1:=⟨a.length-1,by have:=List.length_pos_iff.2 b;omega⟩
 refine⟨a,k,hw,c,?_⟩;rw[dQ];unfold gm;rw[hw]
 have d:a.getLastD []=a.getD k []:=by
  rw[DE,List.getLastD_eq_getLast?,List.getLast?_eq_getElem?,c];rfl
 rw[d,List.dropLast_eq_take,c]
 rfl
theorem Rd.takeS {w:World} {A:Option Addr} {n k:Nat} {ws:List Bs} (h:Rd w A n (BO ws)) (d:k<=n):Rd w A k (BO (ws.take k)):=by
 have f:ws.length=n:=by have:=h.1;unfold BO at this;simpa using this
 refine⟨by unfold BO;rw[List.length_map,Ju];omega,λc=> ?_⟩
 obtain⟨a,e,b⟩:=h.2 Aa;refine⟨a,e,λi hi=> ?_⟩;rw[b i Aa];unfold BO;rw[List.map_take,List.getElem?_take,AA hi]
theorem Kj (s:Bs) (w:World) (hs:s.length<=1048576):
  Calls prog 33 #[.string ⟨s.toArray⟩] w λe m=> ∃(A:Option Addr) (c:Nat),e=.returned (.slice A (lnL s).length c)∧Rd m A (lnL s).length (BO (lnL s))∧Below w w m:=by
 have a:Calls prog 60 #[.string ⟨s.toArray⟩,.int .u8 10] w λe m=> ∃B d,e=.returned (.slice B (splitC 10 s).length d)∧Rd m B (splitC 10 s).length (BO (splitC 10 s))∧(splitC 10 s).length<=d∧Below w w m:=Fz ⟨s.toArray⟩ 10 w (by rw[Bj];exact hs)
 have j:=jy 10 s;obtain⟨n,k,hw,u,g⟩:=jk s;rw[hw,u] at a j;have z:=Ai u;have E:=Bg (k:Int);have C:IntKind.i64.wrap ((k:Int)+1-1)=(k:Int):=by rw[show(k:Int)+1-1=(k:Int) by omega];exact Ff _ Aa
 generalize lnL s=p at*;clear hw u
 by_cases b:n.getD k []= []
 ·have f:Hid (p=n.take k∧p.length=k):=⟨by rw[g,AA b],by rw[g,AA b,Ju,z.out];omega⟩
  clear g
  go_enter func33,ntmps33
  go_upto_region 2 with(go_at_call 60;refine a.mono ?_;rintro e F ⟨B,d,rfl,l,D,q⟩)
  obtain⟨i,r,y⟩:=l.str (k:=k) Aa;subst r;rw[b] at y;clear b a;go_wp2;refine AS (v:=.slice (some i) k d) (by simp[results,results33,go_sem]) rfl ⟨some i,d,by rw[f.out.2],?_,q⟩
  rw[f.out.2,f.out.1];exact l.takeS Aa
 ·have f:Hid (p=n∧p.length=k+1):=⟨by rw[g,Ak b],by rw[g,Ak b];exact z.out⟩
  have t:(n.getD k []).isEmpty=false:=by simpa using b
  clear g
  go_enter func33,ntmps33
  go_upto_region 2 with(go_at_call 60;refine a.mono ?_;rintro e F ⟨B,d,rfl,l,D,q⟩)
  obtain⟨i,r,y⟩:=l.str (k:=k) Aa;subst r;generalize n.getD k []=x at y t b;clear a;go_wp2;refine AS (v:=.slice (some i) (k+1) d) (by simp[results,results33,go_sem]) rfl ⟨some i,d,by rw[f.out.2],?_,q⟩
  rw[f.out.2,f.out.1];exact l
theorem TM (s:Bs) (w:World) (hs:s.length<=1048576):
  (BT 31 #[.string ⟨s.toArray⟩] w (.bool (fitB s)):Prop):=by
 have i:=Kj s w hs;have l:=Bj s
 by_cases a:s.length<=4000
 ·have d:Hid (fitB s=decide ((lnL s).length<=80)):=by unfold Hid fitB;rw[BC a,Ha]
  have b:(s.length:Int)<=(4000:Int):=Aa;generalize fitB s=f at*;generalize lnL s=g at*;have k:decide ((g.length:Int)<=(80:Int))=decide (g.length<=80):=by rw[decide_eq_decide];omega
  go_enter func31,ntmps31
  go_wp2_with (go_at_call 33;refine i.mono ?_;rintro e m ⟨A,c,rfl,R,j⟩)
  refine AS (v:=.bool (decide (g.length<=80))) (by simp[results,results31,go_sem]) rfl ⟨by rw[d.out],j⟩
 ·have d:Hid (fitB s=false):=by unfold Hid fitB;rw[BR a,Bool.false_and]
  have b: ¬(s.length:Int)<=(4000:Int):=Aa;generalize fitB s=f at*;clear i a
  go_enter func31,ntmps31
  go_wp2;refine AS (v:=.bool false) (by simp[results,results31,go_sem]) rfl ⟨by rw[d.out],AP _ _⟩
def adC (b:Ae) (t k l x y d r:Int):Int:=if recB t k l x y d r=true then(if lgN b<200 then 0 else 3) else 2
theorem Lz (b:Ae) (t k l x y d r:Int):(adC b t k l x y d r=0∧Qc b t k l x y d r=H5)∨(¬adC b t k l x y d r=0∧Qc b t k l x y d r=erT (adC b t k l x y d r)):=by
 unfold adC Qc
 split
 ·split
  ·exact .inl ⟨rfl,rfl⟩
  ·exact .inr ⟨by decide,rfl⟩
 ·exact .inr ⟨by decide,rfl⟩
def CG (h0:AG) (b':Ae) (c:Int) (w:World) (e:Ending) (w':World):Prop:=
 ∃h:AG,e=.returned (.tuple #[At h b',ZI c])∧Ag w' (Ar h b')∧(∀q,some q∈BK h->some q∈BK h0∨w.heap.size<=q)∧Below w w w'
theorem Bt {w:World} {h:AG} {b:Ae} {g:Nat} {a1 a2 a3 a4 a5 a6 a7:Value} (R:Ag w (Ar h b)) (a: ∀s∈(Ar h b).map Sl.row,s≠some g):Ag (((((((w.setCell ⟨g,0,none⟩ a1).setCell ⟨g,1,none⟩ a2).setCell ⟨g,2,none⟩ a3).setCell ⟨g,3,none⟩ a4).setCell ⟨g,4,none⟩ a5).setCell ⟨g,5,none⟩ a6).setCell ⟨g,6,none⟩ a7) (Ar h b):=
 ((((((R.cell_ a).cell_ a).cell_ a).cell_ a).cell_ a).cell_ a).cell_ a
theorem BH {B:Nat} {i w:World} (k:Below B i w) {g:Nat} (hg:B<=g) {a b c d e f h:Value}:Below B i (((((((w.setCell ⟨g,0,none⟩ a).setCell ⟨g,1,none⟩ b).setCell ⟨g,2,none⟩ c).setCell ⟨g,3,none⟩ d).setCell ⟨g,4,none⟩ e).setCell ⟨g,5,none⟩ f).setCell ⟨g,6,none⟩ h):=
 ((((((k.setCell (p:=⟨g,0,none⟩) hg _).setCell (p:=⟨g,1,none⟩) hg _).setCell (p:=⟨g,2,none⟩) hg _).setCell (p:=⟨g,3,none⟩) hg _).setCell (p:=⟨g,4,none⟩) hg _).setCell (p:=⟨g,5,none⟩) hg _).setCell (p:=⟨g,6,none⟩) hg _
theorem cR {X v1:World} {row:Option Nat} {E:Obj} {t k l x y d r:Int} {a:TypeId} (gg:((X.alloc E).alloc (.cells (AD t k l x y d r) a)).drew.grownBy v1 row) (b:row=none):Rd v1 (some ⟨X+1,0,none⟩) (1*7) (ints [t,k,l,x,y,d,r]):=by
 have h:=IZ (X.alloc E) t k l x y d r a;rw[World.size_alloc] at h;exact Rd.grown (show Rd ((X.alloc E).alloc (.cells (AD t k l x y d r) a)).drew _ _ _ from h) gg (λ_ _ _ c=>by rw[b] at c;cases c)
theorem cV {X v1:World} {row:Option Nat} {E:Obj} {t k l x y d r:Int} {a:TypeId} (gg:((X.alloc (.cells (AD t k l x y d r) a)).alloc E).drew.grownBy v1 row) (b:row=none):Rd v1 (some ⟨X,0,none⟩) (1*7) (ints [t,k,l,x,y,d,r]):=by
 have h:=(IZ X t k l x y d r a).below ((AP _ _).alloc Bk E);exact Rd.grown (show Rd ((X.alloc (.cells (AD t k l x y d r) a)).alloc E).drew _ _ _ from h) gg (λ_ _ _ c=>by rw[b] at c;cases c)
theorem JE (t k l x y d r:Int) (h:AG) (b:Ae) (w:World) (ok:jw b) (Q:Ag w (Ar h b)):
  Calls prog 122 #[At h b,AD t k l x y d r] w (CG h (addB b t k l x y d r) (adC b t k l x y d r) w):=by
 have hR:=λW=>Dt t k l x y d r W;have R:=Q.lo;obtain⟨⟨f,dn,m⟩,⟨i,j,u⟩,⟨F,ln,E⟩⟩:=h;have Y:=Q.head;have RS:=Q.tail.head;have Z:=Q.tail.tail.head;simp only at Y RS Z;have hl:b.log.length=ln*7:=Z.len;have a6:lgN b=ln:=by unfold lgN;omega
 have aJ:ln<=200:=by have:=ok.n;omega
 unfold At;have b0:Below w w (((w.alloc (.cells (Ad f dn m i j u b F ln E) 35)).alloc (.cells (AD t k l x y d r) 67)).alloc (.cells Ap 35)):=Ax;have V:=((Br w 35 (Ad f dn m i j u b F ln E)).alloc (.cells (AD t k l x y d r) 67)).alloc (.cells Ap 35);have KR:=(Blk.newN (g:=w+1) (w.alloc (.cells (Ad f dn m i j u b F ln E) 35)) 67 (AD t k l x y d r) Cr).alloc (.cells Ap 35);have X:=Blk.newN (g:=w+1+1) ((w.alloc (.cells (Ad f dn m i j u b F ln E) 35)).alloc (.cells (AD t k l x y d r) 67)) 35 Ap Cr
 go_enter func122,ntmps122
 go_upto_region 1 with fail
 generalize(((w.alloc _).alloc _).alloc _)=w1 at*;have eR:=KR.cell;have S:=b0.size
 have hd1: ∀(W:World) (b':Ae),Below w w W-> ∀x∈(Ar ⟨⟨f,dn,m⟩,⟨i,j,u⟩,⟨F,ln,E⟩⟩ b').map Sl.row,x≠some (w.heap.size+1+1):=λW b' bb x hx c=>by
  have L:=R x hx _ c;omega
 have BB: ∀W,Below w w W->Ag W (Ar ⟨⟨f,dn,m⟩,⟨i,j,u⟩,⟨F,ln,E⟩⟩ b):=λW bb=>Q.below bb;rcases jt (recB t k l x y d r) with L|L
 rotate_left
 ·have D:Hid (addB b t k l x y d r=b∧adC b t k l x y d r=2):=by unfold Hid addB adC;rw[L];exact⟨Ak (λc=>by cases c.1),rfl⟩
  rw[L] at hR;generalize addB b t k l x y d r=b' at*;generalize adC b t k l x y d r=cd at*;clear R Y RS Z Q
  go_wp2_with (go_at_call 72;refine(hR _).mono ?_;rintro e a ⟨rfl,H⟩;have T:=V.below H V.lt;have K:=X.below H X.lt;have e2:=T.cell;have g2:=T.lt;have e4:=K.cell;have f4:=K.frozen;have g4:=K.lt;have B:=b0.trans (H.mono S))
  refine AS (v:=.tuple (BQ f dn m i j u b F ln E 2)) (by simp[results,results122,go_sem,e4,g4]) rfl ?_
  exact⟨⟨⟨f,dn,m⟩,⟨i,j,u⟩,⟨F,ln,E⟩⟩,by rw[D.out.1,D.out.2];rfl,by rw[D.out.1];exact Bt (BB _ B) (hd1 _ b B),λ_ O=> .inl O,BH B Aa⟩
 rw[L] at hR
 go_upto_region 3 with(go_at_call 72;refine(hR _).mono ?_;rintro e a ⟨rfl,H⟩)
 have T:=V.below H V.lt;have R2:=KR.below H KR.lt;have K:=X.below H X.lt;have e2:=T.cell;have g2:=T.lt;have e4:=K.cell;have f4:=K.frozen;have g4:=K.lt;have B:=b0.trans (H.mono S);clear H V KR X b0 eR S hR
 by_cases h2:ln=200
 ·have D:Hid (addB b t k l x y d r=b∧adC b t k l x y d r=3):=by
   unfold Hid addB adC;have h3: ¬lgN b<200:=Aa;rw[AA L,Ak h3];exact⟨Ak (λc=>h3 c.2),rfl⟩
  generalize addB b t k l x y d r=b' at*;generalize adC b t k l x y d r=cd at*;subst h2;clear R Y RS Z Q R2;go_wp2;refine AS (v:=.tuple (BQ f dn m i j u b F 200 E 3)) (by simp[results,results122,go_sem,e4,g4]) rfl ?_
  exact⟨⟨⟨f,dn,m⟩,⟨i,j,u⟩,⟨F,200,E⟩⟩,by rw[D.out.1,D.out.2];rfl,by rw[D.out.1];exact Bt (BB _ B) (hd1 _ b B),λ_ O=> .inl O,BH B Aa⟩
 have D:Hid (addB b t k l x y d r= {b with log:=b.log++ [t,k,l,x,y,d,r]}∧adC b t k l x y d r=0):=by
  unfold Hid addB adC;have h3:lgN b<200:=Aa;rw[AA L,AA h3];exact⟨AA ⟨L,h3⟩,rfl⟩
 generalize addB b t k l x y d r=b' at*;generalize adC b t k l x y d r=cd at*;have a7:((ln:Int)==200)=false:=W7;have av:=Z.below B;have aS:=R2.cell;have az:=R2.lt;clear h2
 go_upto_region 5 with fail
 go_cut [] (λwx=> ∃G:Hd,Blk wx w.heap.size 35 #[.slice f dn m,.slice i j u,.int .i64 b.source,.int .i64 b.cos,.int .i64 b.sin,.int .i64 b.hyp,.slice G.A G.n G.c]∧Blk wx (w.heap.size+1+1) 35 #[.slice none 0 0,.slice none 0 0,.int .i64 0,.int .i64 0,.int .i64 0,.int .i64 0,.slice none 0 0]∧AR wx a.heap.size 7 G (ints (b.log++ [t,k,l,x,y,d,r]))∧Below w w wx)
 case first=>
  go_region_law (first
   |((fail_if_success (clear o1));refine Be (by rfl) _ _ 33 (by rfl) 67 7 56 underlying33 Gc (by decide) a.heap.size ⟨some ⟨_,0,none⟩,0,0⟩ [] (by rfl) (AR.empty _ _ _ _) _ ln E (ints b.log) (by rfl) (av.below Ax) (Ao _) (by simp only;omega) (by decide) (show Below a a _ from Ax).size ?_;intro G1 C ae o1 p aK;have ar:Hid (G1.n=0+ln):=ae;clear ae;have ah:=(R2.below (show Below a a _ from Ax) az).grown p (by simp[Hd.row]);have aV:=ah.cell;have a5:=ah.lt;have I:=(T.below (show Below a a _ from Ax) g2).grown p (by simp[Hd.row]);have ai:=(K.below (show Below a a _ from Ax) g4).grown p (by simp[Hd.row]);have aT:=I.cell;have a3:=I.lt;have M:Below w w C:=(B.trans ((show Below a a _ from Ax).mono B.size)).grown p (Ch B.size (show Below a a _ from Ax).size) (λq e=>by simp[Hd.row] at e);have aC:a<=C.heap.size:=Ch (show Below a a _ from Ax).size p.size;(first|have U:=cR p (by rfl)|have U:=cV p (by rfl)|skip))
   |(refine Be (by rfl) _ _ 33 (by rfl) 67 7 56 underlying33 Gc (by decide) a.heap.size G1 ([]++ints b.log) (by rfl) (o1.below Ax) _ 1 1 (ints [t,k,l,x,y,d,r]) (by rfl) (by first|exact IZ _ _ _ _ _ _ _ _ _|exact U) (Ao _) (by have:=ar.out;omega) (by decide) (Ch aC (show Below C C _ from Ax).size) ?_;intro G2 v2 aA o2 N aL;clear aA;have ag: ∀q,q<a.heap.size->G1.row≠some q:=λq O e=>(by have:=(o1.rowlt q e).1;omega);have J:=(I.below (show Below C C _ from Ax) I.lt).grown N (ag _ g2);have aD:=(ai.below (show Below C C _ from Ax) ai.lt).grown N (ag _ g4);have aU:=J.cell;have a1:=J.frozen;have a4:=J.lt;have ax:Below w w v2:=(M.trans ((show Below C C _ from Ax).mono M.size)).grown N (Ch M.size (show Below C C _ from Ax).size) (λq e=>by have:=(o1.rowlt q e).1;have:=B.size;omega)))
  all_goals
   go_wp2_with fail
   go_meet
   exact⟨G2,J.set_ 6 _,aD.far Aw _,Cu (by rw[List.nil_append,<-js] at o2;exact o2) g2 _,ax.setCell Bk _⟩
 case rest=>
  obtain⟨G,KG,ZG,OG,bw⟩:=hcut;have eG:=KG.cell;have e5:=ZG.cell;have f5:=ZG.frozen;have g5:=ZG.lt
  have aB: ∀z∈(Ar ⟨⟨f,dn,m⟩,⟨i,j,u⟩,G⟩ {b with log:=b.log++ [t,k,l,x,y,d,r]}).map Sl.row,z≠some (w.heap.size+1+1):=λz hz c=>by
   simp only[Ar,List.map_cons,List.map_nil,CC,I5,or_false,Sl.row] at hz;rcases hz with rfl|rfl|rfl
   ·have:=Y.rowlt _ c;omega
   ·have:=RS.rowlt _ c;omega
   ·have:=OG.wr.blockp c;omega
  have RR:Ag wc (Ar ⟨⟨f,dn,m⟩,⟨i,j,u⟩,G⟩ {b with log:=b.log++ [t,k,l,x,y,d,r]}):=Ag.cons (s:=⟨f,dn,ints b.depths⟩) (Y.below bw) (Ag.cons (s:=⟨i,j,ints b.speeds⟩) (RS.below bw) (Ag.cons (s:=⟨G.A,G.n*7,ints (b.log++ [t,k,l,x,y,d,r])⟩) OG.rd (Ag.nil _)));have au:Hid (∀q,blkp G.A (G.n*7)=some q->a<=q):=λq e=>OG.wr.blockp e;clear OG KG ZG;go_wp2;refine AS (v:=.tuple (BQ f dn m i j u b G.A G.n G.c 0)) (by simp[results,results122,go_sem,e5,g5]) rfl ?_
  exact⟨⟨⟨f,dn,m⟩,⟨i,j,u⟩,G⟩,by rw[D.out.1,D.out.2];rfl,by rw[D.out.1];exact Bt RR aB,λq O=>by
   simp only[BK,CC,I5,or_false] at O⊢;rcases O with e|e|e
   ·exact .inl (.inl e)
   ·exact .inl (.inr (.inl e))
   ·have:=au.out q e.symm;exact .inr Aa,BH bw Aa⟩
theorem Yo (s:Bs) (A:Option Addr) (c:Nat) (h:AG) (b:Ae) (w:World) (ok:jw b) (T:Ag w (Ar h b)) (H:Rd w A 2 (ints (Co s))):
  Calls prog 95 #[At h b,.string ⟨s.toArray⟩,.string ⟨#[108,101,118,101,108]⟩,.slice A 2 c] w (CG h (addB b (cmI s 0) 1 (cmI s 1) 0 0 0 0) (adC b (cmI s 0) 1 (cmI s 1) 0 0 0 0) w):=by
 have a:=λ(W:World) (bb:Below w w W)=>JE (cmI s 0) 1 (cmI s 1) 0 0 0 0 h b W ok (T.below bb);obtain⟨⟨j,dn,p⟩,⟨n,x,t⟩,⟨l,ln,r⟩⟩:=h;have C:=T.lo;have y:Below w w ((w.alloc (.cells (Ad j dn p n x t b l ln r) 35)).alloc (.cells Ap 35)):=Ax;have D:=(Br w 35 (Ad j dn p n x t b l ln r)).alloc (.cells Ap 35);have X:=Blk.newN (g:=w+1) (w.alloc (.cells (Ad j dn p n x t b l ln r) 35)) 35 Ap Cr;obtain⟨d,rfl⟩: ∃d,A=some d:=by obtain⟨d,h,_⟩:=H.int (k:=0) Ah;exact⟨d,h⟩
 have hc0:w.cell? d=some (.int .i64 (cmI s 0)):=Pn H Ah;have hc1:w.cell? ⟨d.block,d.off+1,none⟩=some (.int .i64 (cmI s 1)):=GV H Ah Ah;unfold CG At at a;unfold CG At;generalize(addB b (cmI s 0) 1 (cmI s 1) 0 0 0 0)=Y at*;generalize(adC b (cmI s 0) 1 (cmI s 1) 0 0 0 0)=cd at*;generalize cmI s 0=x0 at*;generalize cmI s 1=x1 at*;have i:=Gr w d hc0;have hd0:=Cg y hc0 i;have hd1:=Cg y hc1 i;have f:=CM i y.size;clear T H
 go_enter func95,ntmps95
 go_upto_region 18 with fail
 generalize(w.alloc _).alloc _=I at*;have hb:=D.cell;have hg:=D.lt;have U:w+1<I.heap.size:=X.lt;have hA:=a I.drew (CO y);clear a hc0 hc1
 go_region_held3 (λw'=>(∀o,w'.cell? ⟨w,o,none⟩=((Ad j dn p n x t b l ln r):Array Value)[o]?)∧w'.cell? d=some (.int .i64 x0)∧w'.cell? ⟨d.block,d.off+1,none⟩=some (.int .i64 x1))
  (exact Cs)
  (first
   |(go_at_call 122;(with_reducible refine hA.mono ?_);rintro e u ⟨⟨⟨E,K,J⟩,⟨F,M,L⟩,⟨G,O,N⟩⟩,rfl,Z,R,b4⟩;have B:Below I I u:=EE (m:=1) b4;have aj: ∀o,u.cell? ⟨w,o,none⟩=((Ad j dn p n x t b l ln r):Array Value)[o]? :=λo=>(D.below B hg).cell o;have ak:=Cg B hd0 f;have al:=Cg B hd1 f;have V:=X.below B U;have eu:=V.cell;have fu:=V.frozen;have gu:=V.lt))
 have Q:Hid (∀z∈(Ar ⟨⟨E,K,J⟩,⟨F,M,L⟩,⟨G,O,N⟩⟩ Y).map Sl.row,z≠some (w.heap.size+1)):=λz hz c=>by
  subst c;rcases R _ hz with h1|h1
  ·have:=C _ h1 _ rfl;omega
  ·simp at h1;omega
 have S:Hid (∀q,some q∈BK ⟨⟨E,K,J⟩,⟨F,M,L⟩,⟨G,O,N⟩⟩->some q∈BK ⟨⟨j,dn,p⟩,⟨n,x,t⟩,⟨l,ln,r⟩⟩∨w.heap.size<=q):=λq hq=>(R q hq).imp id (λh=>by simp at h;omega)
 have bf:=An y B;clear R C D hb;go_wp2;refine AS (v:=.tuple (BQ E K J F M L Y G O N cd)) (by simp[results,results95,go_sem,eu,gu]) rfl ?_
 exact⟨⟨⟨E,K,J⟩,⟨F,M,L⟩,⟨G,O,N⟩⟩,rfl,Bt Z Q.out,S.out,BH bf Aa⟩
theorem Ys (s:Bs) (A:Option Addr) (c:Nat) (h:AG) (b:Ae) (w:World) (ok:jw b) (T:Ag w (Ar h b)) (n:Rd w A 5 (ints (Co s))):
  Calls prog 95 #[At h b,.string ⟨s.toArray⟩,.string ⟨#[115,111,117,110,100]⟩,.slice A 5 c] w (CG h (addB b (cmI s 0) 2 0 (cmI s 1) (cmI s 2) (cmI s 3) (cmI s 4)) (adC b (cmI s 0) 2 0 (cmI s 1) (cmI s 2) (cmI s 3) (cmI s 4)) w):=by
 have i:=λ(W:World) (bb:Below w w W)=>JE (cmI s 0) 2 0 (cmI s 1) (cmI s 2) (cmI s 3) (cmI s 4) h b W ok (T.below bb);obtain⟨⟨p,dn,x⟩,⟨t,C,B⟩,⟨r,ln,y⟩⟩:=h;have D:=T.lo;have j:Below w w ((w.alloc (.cells (Ad p dn x t C B b r ln y) 35)).alloc (.cells Ap 35)):=Ax;have E:=(Br w 35 (Ad p dn x t C B b r ln y)).alloc (.cells Ap 35);have X:=Blk.newN (g:=w+1) (w.alloc (.cells (Ad p dn x t C B b r ln y) 35)) 35 Ap Cr;obtain⟨a,rfl⟩: ∃a,A=some a:=by obtain⟨a,h,_⟩:=n.int (k:=0) Ah;exact⟨a,h⟩
 have hc0:w.cell? a=some (.int .i64 (cmI s 0)):=Pn n Ah;have hc1:w.cell? ⟨a.block,a.off+1,none⟩=some (.int .i64 (cmI s 1)):=GV n Ah Ah;have hc2:w.cell? ⟨a.block,a.off+2,none⟩=some (.int .i64 (cmI s 2)):=GV n Ah Ah;have hc3:w.cell? ⟨a.block,a.off+3,none⟩=some (.int .i64 (cmI s 3)):=GV n Ah Ah;have hc4:w.cell? ⟨a.block,a.off+4,none⟩=some (.int .i64 (cmI s 4)):=GV n Ah Ah;unfold CG At at i;unfold CG At;generalize(addB b (cmI s 0) 2 0 (cmI s 1) (cmI s 2) (cmI s 3) (cmI s 4))=Y at*;generalize(adC b (cmI s 0) 2 0 (cmI s 1) (cmI s 2) (cmI s 3) (cmI s 4))=cd at*;generalize cmI s 0=x0 at*;generalize cmI s 1=x1 at*;generalize cmI s 2=x2 at*;generalize cmI s 3=x3 at*;generalize cmI s 4=x4 at*;have f:=Gr w a hc0;have hd0:=Cg j hc0 f;have hd1:=Cg j hc1 f;have hd2:=Cg j hc2 f;have hd3:=Cg j hc3 f;have hd4:=Cg j hc4 f;have d:=CM f j.size;clear T n
 go_enter func95,ntmps95
 go_upto_region 20 with fail
 generalize(w.alloc _).alloc _=I at*;have hb:=E.cell;have hg:=E.lt;have U:w+1<I.heap.size:=X.lt;have hA:=i I.drew (CO j);clear i hc0 hc1 hc2 hc3 hc4
 go_region_held3 (λw'=>(∀o,w'.cell? ⟨w,o,none⟩=((Ad p dn x t C B b r ln y):Array Value)[o]?)∧w'.cell? a=some (.int .i64 x0)∧w'.cell? ⟨a.block,a.off+1,none⟩=some (.int .i64 x1)∧w'.cell? ⟨a.block,a.off+2,none⟩=some (.int .i64 x2)∧w'.cell? ⟨a.block,a.off+3,none⟩=some (.int .i64 x3)∧w'.cell? ⟨a.block,a.off+4,none⟩=some (.int .i64 x4))
  (exact Cs)
  (first
   |(go_at_call 122;(with_reducible refine hA.mono ?_);rintro e u ⟨⟨⟨F,K,J⟩,⟨G,M,L⟩,⟨H,O,N⟩⟩,rfl,Z,R,b4⟩;have l:Below I I u:=EE (m:=1) b4;have aj: ∀o,u.cell? ⟨w,o,none⟩=((Ad p dn x t C B b r ln y):Array Value)[o]? :=λo=>(E.below l hg).cell o;have ak:=Cg l hd0 d;have al:=Cg l hd1 d;have am:=Cg l hd2 d;have an:=Cg l hd3 d;have ao:=Cg l hd4 d;have V:=X.below l U;have eu:=V.cell;have fu:=V.frozen;have gu:=V.lt))
 have Q:Hid (∀z∈(Ar ⟨⟨F,K,J⟩,⟨G,M,L⟩,⟨H,O,N⟩⟩ Y).map Sl.row,z≠some (w.heap.size+1)):=λz hz c=>by
  subst c;rcases R _ hz with h1|h1
  ·have:=D _ h1 _ rfl;omega
  ·simp at h1;omega
 have S:Hid (∀q,some q∈BK ⟨⟨F,K,J⟩,⟨G,M,L⟩,⟨H,O,N⟩⟩->some q∈BK ⟨⟨p,dn,x⟩,⟨t,C,B⟩,⟨r,ln,y⟩⟩∨w.heap.size<=q):=λq hq=>(R q hq).imp id (λh=>by simp at h;omega)
 have bf:=An j l;clear R D E hb;go_wp2;refine AS (v:=.tuple (BQ F K J G M L Y H O N cd)) (by simp[results,results95,go_sem,eu,gu]) rfl ?_
 exact⟨⟨⟨F,K,J⟩,⟨G,M,L⟩,⟨H,O,N⟩⟩,rfl,Bt Z Q.out,S.out,BH bf Aa⟩
theorem aA (s:Bs) (A:Option Addr) (c:Nat) (h:AG) (b:Ae) (w:World) (ok:jw b) (T:Ag w (Ar h b)) (S:Rd w A 1 (ints (Co s))):
  Calls prog 95 #[At h b,.string ⟨s.toArray⟩,.string ⟨#[109,97,114,107]⟩,.slice A 1 c] w (CG h (addB b (cmI s 0) 3 0 0 0 0 0) (adC b (cmI s 0) 3 0 0 0 0 0) w):=by
 have a:=λ(W:World) (bb:Below w w W)=>JE (cmI s 0) 3 0 0 0 0 0 h b W ok (T.below bb);obtain⟨⟨f,dn,l⟩,⟨j,r,p⟩,⟨i,ln,n⟩⟩:=h;have y:=T.lo;have F:Below w w ((w.alloc (.cells (Ad f dn l j r p b i ln n) 35)).alloc (.cells Ap 35)):=Ax;have B:=(Br w 35 (Ad f dn l j r p b i ln n)).alloc (.cells Ap 35);have X:=Blk.newN (g:=w+1) (w.alloc (.cells (Ad f dn l j r p b i ln n) 35)) 35 Ap Cr;obtain⟨d,rfl⟩: ∃d,A=some d:=by obtain⟨d,h,_⟩:=S.int (k:=0) Ah;exact⟨d,h⟩
 have hc0:w.cell? d=some (.int .i64 (cmI s 0)):=Pn S Ah;unfold CG At at a;unfold CG At;generalize(addB b (cmI s 0) 3 0 0 0 0 0)=Y at*;generalize(adC b (cmI s 0) 3 0 0 0 0 0)=cd at*;generalize cmI s 0=x0 at*;have t:=Gr w d hc0;have hd0:=Cg F hc0 t;have x:=CM t F.size;clear T S
 go_enter func95,ntmps95
 go_upto_region 22 with fail
 generalize(w.alloc _).alloc _=H at*;have hb:=B.cell;have hg:=B.lt;have U:w+1<H.heap.size:=X.lt;have hA:=a H.drew (CO F);clear a hc0
 go_region_held3 (λw'=>(∀o,w'.cell? ⟨w,o,none⟩=((Ad f dn l j r p b i ln n):Array Value)[o]?)∧w'.cell? d=some (.int .i64 x0))
  (exact Cs)
  (first
   |(go_at_call 122;(with_reducible refine hA.mono ?_);rintro e u ⟨⟨⟨C,J,I⟩,⟨D,L,K⟩,⟨E,N,M⟩⟩,rfl,Z,Q,b4⟩;have G:Below H H u:=EE (m:=1) b4;have aj: ∀o,u.cell? ⟨w,o,none⟩=((Ad f dn l j r p b i ln n):Array Value)[o]? :=λo=>(B.below G hg).cell o;have ak:=Cg G hd0 x;have V:=X.below G U;have eu:=V.cell;have fu:=V.frozen;have gu:=V.lt))
 have O:Hid (∀z∈(Ar ⟨⟨C,J,I⟩,⟨D,L,K⟩,⟨E,N,M⟩⟩ Y).map Sl.row,z≠some (w.heap.size+1)):=λz hz c=>by
  subst c;rcases Q _ hz with h1|h1
  ·have:=y _ h1 _ rfl;omega
  ·simp at h1;omega
 have R:Hid (∀q,some q∈BK ⟨⟨C,J,I⟩,⟨D,L,K⟩,⟨E,N,M⟩⟩->some q∈BK ⟨⟨f,dn,l⟩,⟨j,r,p⟩,⟨i,ln,n⟩⟩∨w.heap.size<=q):=λq hq=>(Q q hq).imp id (λh=>by simp at h;omega)
 have bf:=An F G;clear Q y B hb;go_wp2;refine AS (v:=.tuple (BQ C J I D L K Y E N M cd)) (by simp[results,results95,go_sem,eu,gu]) rfl ?_
 exact⟨⟨⟨C,J,I⟩,⟨D,L,K⟩,⟨E,N,M⟩⟩,rfl,Bt Z O.out,R.out,BH bf Aa⟩
theorem ON (s:Bs) (A:Option Addr) (c:Nat) (h:AG) (b:Ae) (w:World) (ok:jw b) (E:Ag w (Ar h b)) (K:Rd w A 1 (ints (Co s))):
  Calls prog 95 #[At h b,.string ⟨s.toArray⟩,.string ⟨#[115,111,117,114,99,101]⟩,.slice A 1 c] w (CG h (if inR (cmI s 0) 0 ((b.depths.length:Int)-1)=true then {b with source:=cmI s 0} else b) (if inR (cmI s 0) 0 ((b.depths.length:Int)-1)=true then 0 else 2) w):=by
 obtain⟨⟨a,dn,l⟩,⟨j,q,n⟩,⟨f,ln,m⟩⟩:=h;have D:b.depths.length=dn:=E.head.len;have I:=ok.d12;have L:=E.lo;have C:Below w w ((w.alloc (.cells (Ad a dn l j q n b f ln m) 35)).alloc (.cells Ap 35)):=Ax;have F:=(Br w 35 (Ad a dn l j q n b f ln m)).alloc (.cells Ap 35);have y:=Blk.newN (g:=w+1) (w.alloc (.cells (Ad a dn l j q n b f ln m) 35)) 35 Ap Cr;obtain⟨B,rfl⟩: ∃B,A=some B:=by obtain⟨B,h,_⟩:=K.int (k:=0) Ah;exact⟨B,h⟩
 have hc0:w.cell? B=some (.int .i64 (cmI s 0)):=Pn K Ah;rw[D] at I⊢;have r: ∀(g:Nat),w.heap.size<=g-> ∀z∈(Ar ⟨⟨a,dn,l⟩,⟨j,q,n⟩,⟨f,ln,m⟩⟩ b).map Sl.row,z≠some g:=λg X z T c=>by have:=L z T _ c;omega
 have M: ∀W,Below w w W->Ag W (Ar ⟨⟨a,dn,l⟩,⟨j,q,n⟩,⟨f,ln,m⟩⟩ b):=λW O=>E.below O;unfold CG At;generalize cmI s 0=x at*;have J:=Gr w B hc0;have hd0:=Cg C hc0 J;have d:=λW=>(Ay x 0 ((dn:Int)-1) W).mono (R':=λe U=>e=.returned (.bool (inR x 0 ((dn:Int)-1)))∧U=W) (λ_ _ h=>⟨h.1,h.2.symm⟩);have Y:=Bg ((dn:Int)-1);clear E K hc0 D;rcases jt (inR x 0 ((dn:Int)-1)) with hx|hx
 ·rw[AA hx,AA hx];rw[hx] at d;clear hx
  go_enter func95,ntmps95
  go_upto_region 9 with fail
  generalize(w.alloc _).alloc _=V at*;have R:=F.cell;have S:=F.frozen;have G:=y.cell;have Q:=y.frozen;have H:=y.lt
  go_quiet ((go_at_call 84;exact Calls.quiet_of_same (d _)))
  go_wp2;refine AS (v:=.tuple #[Bp a dn l j q n x b.cos b.sin b.hyp f ln m,ZI 0]) (by simp[results,results95,go_sem,G,H]) rfl ?_
  have N:=(M _ C).cell_ (i:=2) (u:=.int .i64 x) (r w.heap.size Bk);exact⟨⟨⟨a,dn,l⟩,⟨j,q,n⟩,⟨f,ln,m⟩⟩,rfl,Bt (b:= {b with source:=x}) N (r _ Aa),λ_ hq=> .inl hq,BH ((Ba C _).setCell (p:=⟨w,2,none⟩) Bk _) Aa⟩
 ·have t: ¬inR x 0 ((dn:Int)-1)=true:=by rw[hx];decide
  rw[Ak t,Ak t];rw[hx] at d;clear hx t
  go_enter func95,ntmps95
  go_upto_region 9 with fail
  generalize(w.alloc _).alloc _=V at*;have R:=F.cell;have G:=y.cell;have Q:=y.frozen;have H:=y.lt
  go_quiet ((go_at_call 84;exact Calls.quiet_of_same (d _)))
  go_wp2;refine AS (v:=.tuple (BQ a dn l j q n b f ln m 2)) (by simp[results,results95,go_sem,G,H]) rfl ?_
  exact⟨⟨⟨a,dn,l⟩,⟨j,q,n⟩,⟨f,ln,m⟩⟩,rfl,Bt (M _ (Ba C _)) (r _ Aa),λ_ hq=> .inl hq,BH (Ba C _) Aa⟩
theorem Yp (s:Bs) (x0 x1 x2:Int) (ad:Addr) (c:Nat) (h:AG) (b:Ae) (w:World) (N:Ag w (Ar h b)) (hc0:w.cell? ad=some (.int .i64 x0)) (hc1:w.cell? ⟨ad.block,ad.off+1,none⟩=some (.int .i64 x1)) (hc2:w.cell? ⟨ad.block,ad.off+2,none⟩=some (.int .i64 x2)) (hm:Gj x0 x1=false):
  Calls prog 95 #[At h b,.string ⟨s.toArray⟩,.string ⟨#[114,97,121]⟩,.slice (some ad) 3 c] w (CG h b 2 w):=by
 have f:=λW=>C4 x0 x1 (decide (x2=1)) W;unfold YB Xp at f;rw[Ak (by rw[hm];decide)] at f
 obtain⟨⟨k,dn,t⟩,⟨r,A,y⟩,⟨n,ln,x⟩⟩:=h;have O:=N.lo;have E:Below w w ((w.alloc (.cells (Ad k dn t r A y b n ln x) 35)).alloc (.cells Ap 35)):=Ax;have J:=(Br w 35 (Ad k dn t r A y b n ln x)).alloc (.cells Ap 35);have K:=Blk.newN (g:=w+1) (w.alloc (.cells (Ad k dn t r A y b n ln x) 35)) 35 Ap Cr;have I: ∀(g:Nat),w.heap.size<=g-> ∀z∈(Ar ⟨⟨k,dn,t⟩,⟨r,A,y⟩,⟨n,ln,x⟩⟩ b).map Sl.row,z≠some g:=λg hg z hz c=>by have:=O z hz _ c;omega
 have X: ∀W,Below w w W->Ag W (Ar ⟨⟨k,dn,t⟩,⟨r,A,y⟩,⟨n,ln,x⟩⟩ b):=λW S=>N.below S;unfold CG At;have i:=Gr w ad hc0;replace hc0:=Cg E hc0 i;replace hc1:=Cg E hc1 i;replace hc2:=Cg E hc2 i;have a:=CM i E.size;have M:decide (x2=1)=(x2==1):=by rw[Bool.eq_iff_iff,BP,beq_iff_eq]
 rw[M] at f;have B:=λ(V:World) (S:Below (((w.alloc (.cells (Ad k dn t r A y b n ln x) 35)).alloc (.cells Ap 35))).heap.size ((w.alloc (.cells (Ad k dn t r A y b n ln x) 35)).alloc (.cells Ap 35)) V)=>f V;clear N i f
 skip
 go_enter func95,ntmps95
 go_upto_region 13 with fail
 generalize(w.alloc _).alloc _=d at*;have G:Below d d (d.alloc (.cells Gd 32)):=BU;have T:=B d.drew GJ;have U:=B (d.alloc (.cells Gd 32)).drew (CO G);have L:=Blk.drew (Br d 32 Gd)
 go_cut [12,13] (λv12 v13 wx=> ∃q:Nat,v12=.pointer (some ⟨q,0,none⟩)∧v13=.int .i64 2∧Blk wx q 32 Gd∧Below d d wx)
 case first=>
  go_region_held3 (λQ=>Q.cell? ad=some (.int .i64 x0)∧Q.cell? ⟨ad.block,ad.off+1,none⟩=some (.int .i64 x1)∧Q.cell? ⟨ad.block,ad.off+2,none⟩=some (.int .i64 x2))
   (exact Cs)
   (first
    |(go_at_call 108;(with_reducible refine T.mono ?_);rintro e u ⟨rfl,F⟩;have j:Below d d u:=EE (m:=1) F;have z0:=Cg j hc0 a;have y0:=CM a j.size;have z1:=Cg j hc1 a;have y1:=CM a j.size;have z2:=Cg j hc2 a;have y2:=CM a j.size;have C:=Br u 32 Gd;have Z:Below d d (u.alloc (.cells Gd 32)):=j.trans (((AP _ _).alloc Bk _).mono j.size))
    |(go_at_call 108;(with_reducible refine U.mono ?_);rintro e u ⟨rfl,F⟩;have j:Below d d u:=(CO G).trans (F.mono G.size);have z0:=Cg j hc0 a;have y0:=CM a j.size;have z1:=Cg j hc1 a;have y1:=CM a j.size;have z2:=Cg j hc2 a;have y2:=CM a j.size;have C:=L.below F L.lt;have fU:=C.frozen;have cU:=C.cell;have ac:=C.lt))
  all_goals
   go_wp2_with fail
   go_meet
   first
    |exact⟨u.heap.size,rfl,rfl,C,Z⟩
    |exact⟨d.heap.size,rfl,rfl,(((C.set_ 0 _).set_ 1 _).set_ 2 _),(((j.setCell (p:=⟨d,0,none⟩) Bk _).setCell (p:=⟨d,1,none⟩) Bk _).setCell (p:=⟨d,2,none⟩) Bk _)⟩
 case rest=>
  obtain⟨q,rfl,rfl,Y,H⟩:=hcut;have D:=J.below H J.lt;have l:=K.below H K.lt;have hb:=D.cell;have e5:=l.cell;have f5:=l.frozen;have g5:=l.lt;have R:=An E H;clear B G T U L J K hc0 hc1 hc2 Y D l H;go_wp2;refine AS (v:=.tuple (BQ k dn t r A y b n ln x 2)) (by simp[results,results95,go_sem,e5,g5]) rfl ?_
  exact⟨⟨⟨k,dn,t⟩,⟨r,A,y⟩,⟨n,ln,x⟩⟩,rfl,Bt (X _ R) (I _ Aa),λ_ hq=> .inl hq,BH R Aa⟩
theorem Yq (s:Bs) (x0 x1 x2:Int) (ad:Addr) (c:Nat) (h:AG) (b:Ae) (w:World) (S:Ag w (Ar h b)) (hc0:w.cell? ad=some (.int .i64 x0)) (hc1:w.cell? ⟨ad.block,ad.off+1,none⟩=some (.int .i64 x1)) (hc2:w.cell? ⟨ad.block,ad.off+2,none⟩=some (.int .i64 x2)) (hm:Gj x0 x1=true) (hy:inR x2 0 1=false):
  Calls prog 95 #[At h b,.string ⟨s.toArray⟩,.string ⟨#[114,97,121]⟩,.slice (some ad) 3 c] w (CG h b 2 w):=by
 have d:=λW=>C4 x0 x1 (decide (x2=1)) W;unfold YB Xp at d;rw[AA hm] at d;have F:=λW=>(Ay x2 0 1 W).mono (R':=λe E=>e=.returned (.bool (inR x2 0 1))∧E=W) (λ_ _ h=>⟨h.1,h.2.symm⟩);obtain⟨⟨k,dn,x⟩,⟨t,B,A⟩,⟨r,ln,y⟩⟩:=h;have T:=S.lo;have G:Below w w ((w.alloc (.cells (Ad k dn x t B A b r ln y) 35)).alloc (.cells Ap 35)):=Ax;have N:=(Br w 35 (Ad k dn x t B A b r ln y)).alloc (.cells Ap 35);have O:=Blk.newN (g:=w+1) (w.alloc (.cells (Ad k dn x t B A b r ln y) 35)) 35 Ap Cr;have M: ∀(g:Nat),w.heap.size<=g-> ∀z∈(Ar ⟨⟨k,dn,x⟩,⟨t,B,A⟩,⟨r,ln,y⟩⟩ b).map Sl.row,z≠some g:=λg hg z hz c=>by have:=T z hz _ c;omega
 have BB: ∀W,Below w w W->Ag W (Ar ⟨⟨k,dn,x⟩,⟨t,B,A⟩,⟨r,ln,y⟩⟩ b):=λW bb=>S.below bb;unfold CG At;have i:=Gr w ad hc0;replace hc0:=Cg G hc0 i;replace hc1:=Cg G hc1 i;replace hc2:=Cg G hc2 i;have a:=CM i G.size;have I:decide (x2=1)=(x2==1):=by rw[Bool.eq_iff_iff,BP,beq_iff_eq]
 rw[I] at d;generalize mkC x0 x1=U at*;generalize mkH x0 x1=X at*;obtain⟨Y,J⟩: ∃v,mkS x0 x1 (x2==1)=v:=⟨_,rfl⟩;rw[J] at d;clear J I hm;have C:=λ(V:World) (bb:Below (((w.alloc (.cells (Ad k dn x t B A b r ln y) 35)).alloc (.cells Ap 35))).heap.size ((w.alloc (.cells (Ad k dn x t B A b r ln y) 35)).alloc (.cells Ap 35)) V)=>d V;clear S i d;rw[hy] at F
 go_enter func95,ntmps95
 go_upto_region 13 with fail
 generalize(w.alloc _).alloc _=f at*;have L:Below f f (f.alloc (.cells Gd 32)):=BU;have hA:=C f.drew GJ;have hB:=C (f.alloc (.cells Gd 32)).drew (CO L);have R:=Blk.drew (Br f 32 Gd)
 go_cut [12,13] (λv12 v13 wx=> ∃q:Nat,v12=.pointer (some ⟨q,0,none⟩)∧v13=.int .i64 0∧Blk wx q 32 (Ziii U Y X)∧Below f f wx)
 case first=>
  go_region_held3 (λE=>E.cell? ad=some (.int .i64 x0)∧E.cell? ⟨ad.block,ad.off+1,none⟩=some (.int .i64 x1)∧E.cell? ⟨ad.block,ad.off+2,none⟩=some (.int .i64 x2))
   (exact Cs)
   (first
    |(go_at_call 108;(with_reducible refine hA.mono ?_);rintro e u ⟨rfl,K⟩;have j:Below f f u:=EE (m:=1) K;have z0:=Cg j hc0 a;have y0:=CM a j.size;have z1:=Cg j hc1 a;have y1:=CM a j.size;have z2:=Cg j hc2 a;have y2:=CM a j.size;have D:=Br u 32 (Ziii U Y X);have bU:Below f f (u.alloc (.cells (Ziii U Y X) 32)):=j.trans (((AP _ _).alloc Bk _).mono j.size))
    |(go_at_call 108;(with_reducible refine hB.mono ?_);rintro e u ⟨rfl,K⟩;have j:Below f f u:=(CO L).trans (K.mono L.size);have z0:=Cg j hc0 a;have y0:=CM a j.size;have z1:=Cg j hc1 a;have y1:=CM a j.size;have z2:=Cg j hc2 a;have y2:=CM a j.size;have D:=R.below K R.lt;have fU:=D.frozen;have cU:=D.cell;have am:=D.lt))
  all_goals
   go_wp2_with fail
   go_meet
   first
    |exact⟨u.heap.size,rfl,rfl,D,bU⟩
    |exact⟨f.heap.size,rfl,rfl,(((D.set_ 0 _).set_ 1 _).set_ 2 _),(((j.setCell (p:=⟨f,0,none⟩) Bk _).setCell (p:=⟨f,1,none⟩) Bk _).setCell (p:=⟨f,2,none⟩) Bk _)⟩
 case rest=>
  obtain⟨q,rfl,rfl,Q,H⟩:=hcut;have z2:=Cg H hc2 a;have l:=N.below H N.lt;have n:=O.below H O.lt;have hb:=l.cell;have ak:=l.frozen;have hg:=l.lt;have e5:=n.cell;have f5:=n.frozen;have g5:=n.lt;have eq:=Q.cell;have gq:=Q.lt;have Z:=An G H;clear C L hA hB R N O hc0 hc1 hc2 Q l n H
  go_wp2_with (go_at_call 84;refine(F _).mono ?_;rintro e E ⟨rfl,rfl⟩)
  refine AS (v:=.tuple (BQ k dn x t B A b r ln y 2)) (by simp[results,results95,go_sem,e5,g5]) rfl ?_
  exact⟨⟨⟨k,dn,x⟩,⟨t,B,A⟩,⟨r,ln,y⟩⟩,rfl,Bt (BB _ Z) (M _ Aa),λ_ hq=> .inl hq,BH Z Aa⟩
theorem Yr (s:Bs) (x0 x1 x2:Int) (ad:Addr) (c:Nat) (h:AG) (b:Ae) (w:World) (Y:Ag w (Ar h b)) (hc0:w.cell? ad=some (.int .i64 x0)) (hc1:w.cell? ⟨ad.block,ad.off+1,none⟩=some (.int .i64 x1)) (hc2:w.cell? ⟨ad.block,ad.off+2,none⟩=some (.int .i64 x2)) (hm:Gj x0 x1=true) (hy:inR x2 0 1=true):
  Calls prog 95 #[At h b,.string ⟨s.toArray⟩,.string ⟨#[114,97,121]⟩,.slice (some ad) 3 c] w (CG h {b with cos:=mkC x0 x1,sin:=mkS x0 x1 (decide (x2=1)),hyp:=mkH x0 x1} 0 w):=by
 have d:=λW=>C4 x0 x1 (decide (x2=1)) W;unfold YB Xp at d;rw[AA hm] at d;have M:=λW=>(Ay x2 0 1 W).mono (R':=λe L=>e=.returned (.bool (inR x2 0 1))∧L=W) (λ_ _ h=>⟨h.1,h.2.symm⟩);obtain⟨⟨l,dn,A⟩,⟨y,D,C⟩,⟨x,ln,B⟩⟩:=h;have Z:=Y.lo;have N:Below w w ((w.alloc (.cells (Ad l dn A y D C b x ln B) 35)).alloc (.cells Ap 35)):=Ax;have S:=(Br w 35 (Ad l dn A y D C b x ln B)).alloc (.cells Ap 35);have T:=Blk.newN (g:=w+1) (w.alloc (.cells (Ad l dn A y D C b x ln B) 35)) 35 Ap Cr;have n: ∀(g:Nat),w.heap.size<=g-> ∀z∈(Ar ⟨⟨l,dn,A⟩,⟨y,D,C⟩,⟨x,ln,B⟩⟩ b).map Sl.row,z≠some g:=λg hg z hz c=>by have:=Z z hz _ c;omega
 have BB: ∀W,Below w w W->Ag W (Ar ⟨⟨l,dn,A⟩,⟨y,D,C⟩,⟨x,ln,B⟩⟩ b):=λW bb=>Y.below bb;unfold CG At;have j:=Gr w ad hc0;replace hc0:=Cg N hc0 j;replace hc1:=Cg N hc1 j;replace hc2:=Cg N hc2 j;have a:=CM j N.size;have F:decide (x2=1)=(x2==1):=by rw[Bool.eq_iff_iff,BP,beq_iff_eq]
 rw[F] at d;generalize mkC x0 x1=I at*;generalize mkH x0 x1=J at*;obtain⟨K,G⟩: ∃v,mkS x0 x1 (x2==1)=v:=⟨_,rfl⟩;rw[G] at d;rw[F,G];clear G F hm;have E:=λ(V:World) (bb:Below (((w.alloc (.cells (Ad l dn A y D C b x ln B) 35)).alloc (.cells Ap 35))).heap.size ((w.alloc (.cells (Ad l dn A y D C b x ln B) 35)).alloc (.cells Ap 35)) V)=>d V;clear Y j d;rw[hy] at M
 go_enter func95,ntmps95
 go_upto_region 13 with fail
 generalize(w.alloc _).alloc _=f at*;have R:Below f f (f.alloc (.cells Gd 32)):=BU;have hA:=E f.drew GJ;have hB:=E (f.alloc (.cells Gd 32)).drew (CO R);have X:=Blk.drew (Br f 32 Gd)
 go_cut [12,13] (λv12 v13 wx=> ∃q:Nat,v12=.pointer (some ⟨q,0,none⟩)∧v13=.int .i64 0∧Blk wx q 32 (Ziii I K J)∧Below f f wx)
 case first=>
  go_region_held3 (λL=>L.cell? ad=some (.int .i64 x0)∧L.cell? ⟨ad.block,ad.off+1,none⟩=some (.int .i64 x1)∧L.cell? ⟨ad.block,ad.off+2,none⟩=some (.int .i64 x2))
   (exact Cs)
   (first
    |(go_at_call 108;(with_reducible refine hA.mono ?_);rintro e u ⟨rfl,Q⟩;have k:Below f f u:=EE (m:=1) Q;have z0:=Cg k hc0 a;have y0:=CM a k.size;have z1:=Cg k hc1 a;have y1:=CM a k.size;have z2:=Cg k hc2 a;have y2:=CM a k.size;have H:=Br u 32 (Ziii I K J);have bU:Below f f (u.alloc (.cells (Ziii I K J) 32)):=k.trans (((AP _ _).alloc Bk _).mono k.size))
    |(go_at_call 108;(with_reducible refine hB.mono ?_);rintro e u ⟨rfl,Q⟩;have k:Below f f u:=(CO R).trans (Q.mono R.size);have z0:=Cg k hc0 a;have y0:=CM a k.size;have z1:=Cg k hc1 a;have y1:=CM a k.size;have z2:=Cg k hc2 a;have y2:=CM a k.size;have H:=X.below Q X.lt;have fU:=H.frozen;have cU:=H.cell;have ao:=H.lt))
  all_goals
   go_wp2_with fail
   go_meet
   first
    |exact⟨u.heap.size,rfl,rfl,H,bU⟩
    |exact⟨f.heap.size,rfl,rfl,(((H.set_ 0 _).set_ 1 _).set_ 2 _),(((k.setCell (p:=⟨f,0,none⟩) Bk _).setCell (p:=⟨f,1,none⟩) Bk _).setCell (p:=⟨f,2,none⟩) Bk _)⟩
 case rest=>
  obtain⟨q,rfl,rfl,U,O⟩:=hcut;have z2:=Cg O hc2 a;have r:=S.below O S.lt;have t:=T.below O T.lt;have hb:=r.cell;have am:=r.frozen;have hg:=r.lt;have e5:=t.cell;have f5:=t.frozen;have g5:=t.lt;have eq:=U.cell;have gq:=U.lt;have b5:=An N O;clear E R hA hB X S T hc0 hc1 hc2 U r t O
  go_wp2_with (go_at_call 84;refine(M _).mono ?_;rintro e L ⟨rfl,rfl⟩)
  refine AS (v:=.tuple #[Bp l dn A y D C b.source I K J x ln B,ZI 0]) (by simp[results,results95,go_sem,e5,g5]) rfl ?_
  have RQ:=(((BB _ b5).cell_ (i:=3) (u:=.int .i64 I) (n w.heap.size Bk)).cell_ (i:=4) (u:=.int .i64 K) (n w.heap.size Bk)).cell_ (i:=5) (u:=.int .i64 J) (n w.heap.size Bk);exact⟨⟨⟨l,dn,A⟩,⟨y,D,C⟩,⟨x,ln,B⟩⟩,rfl,Bt (b:= {b with cos:=I,sin:=K,hyp:=J}) RQ (n _ Aa),λ_ hq=> .inl hq,BH (((b5.setCell (p:=⟨w,3,none⟩) Bk _).setCell (p:=⟨w,4,none⟩) Bk _).setCell (p:=⟨w,5,none⟩) Bk _) Aa⟩
theorem Xf (s:Bs) (A:Option Addr) (c:Nat) (h:AG) (b:Ae) (w:World) (ok:jw b) (i:Ag w (Ar h b)) (g:Rd w A 3 (ints (Co s))):
  Calls prog 95 #[At h b,.string ⟨s.toArray⟩,.string ⟨#[114,97,121]⟩,.slice A 3 c] w (CG h (if Gj (cmI s 0) (cmI s 1)=true∧inR (cmI s 2) 0 1=true then {b with cos:=mkC (cmI s 0) (cmI s 1),sin:=mkS (cmI s 0) (cmI s 1) (decide (cmI s 2=1)),hyp:=mkH (cmI s 0) (cmI s 1)} else b) (if Gj (cmI s 0) (cmI s 1)=true∧inR (cmI s 2) 0 1=true then 0 else 2) w):=by
 obtain⟨a,rfl⟩: ∃a,A=some a:=by obtain⟨a,h,_⟩:=g.int (k:=0) Ah;exact⟨a,h⟩
 have hc0:w.cell? a=some (.int .i64 (cmI s 0)):=Pn g Ah;have hc1:w.cell? ⟨a.block,a.off+1,none⟩=some (.int .i64 (cmI s 1)):=GV g Ah Ah;have hc2:w.cell? ⟨a.block,a.off+2,none⟩=some (.int .i64 (cmI s 2)):=GV g Ah Ah
 by_cases d:Gj (cmI s 0) (cmI s 1)=true
 ·by_cases f:inR (cmI s 2) 0 1=true
  ·rw[AA ⟨d,f⟩,AA ⟨d,f⟩];exact Yr s _ _ _ a c h b w i hc0 hc1 hc2 d f
  ·rw[Ak (λk=>f k.2),Ak (λk=>f k.2)];exact Yq s _ _ _ a c h b w i hc0 hc1 hc2 d (by simpa using f)
 ·rw[Ak (λk=>d k.1),Ak (λk=>d k.1)];exact Yp s _ _ _ a c h b w i hc0 hc1 hc2 (by simpa using d)
theorem M9 {s:Bs} (hw:cmH s=Av) (c:Dm s=true):(splitC 32 s).length=2∧(splitC 32 s).getD 1 []=cmT s:=by
 have a:=(J1 hw).1;rw[c] at a;have b:=a.symm;rw[CD,BP] at b;exact⟨b.1,rfl⟩
theorem MW (s:Bs) (A:Option Addr) (n c:Nat) (h:AG) (b:Ae) (w:World) (O:Ag w (Ar h b)) (hs:s.length<=100000) (F:Dm s=true) (hw:cmH s=Av) (hp:Fm (cmT s)=false):
  Calls prog 95 #[At h b,.string ⟨s.toArray⟩,.string ⟨#[112,114,111,102,105,108,101]⟩,.slice A n c] w (CG h b 6 w):=by
 have C: ∀V,Calls prog 60 #[.string ⟨s.toArray⟩,.int .u8 32] V λe x=> ∃m d,e=.returned (.slice (some m) 2 d)∧x.cell? ⟨m.block,m.off+1,none⟩=some (.string ⟨(cmT s).toArray⟩)∧Below V V x:=λV=>by
  refine(ID s V Aa).mono ?_;rintro e x ⟨B,d,rfl,R,_,bl⟩;rw[(M9 hw F).1] at R⊢;obtain⟨m,rfl,H⟩:=R.str (k:=1) Ah;rw[(M9 hw F).2,Hf m 1 Ah] at H;exact⟨m,d,rfl,H,bl⟩
 have f:(cmT s).length<=100000:=by
  have N:=AN List.length (Na hw F).1;rw[Dy] at N;omega
 have y: ∀V,Calls prog 121 #[.string ⟨(cmT s).toArray⟩] V λe x=>e=.returned (.tuple Eb)∧Below V V x:=λV=>(Fr (cmT s) V f).mono λe x k=>by
  rcases k with⟨_,N,h2⟩|⟨_,_,X,_⟩
  ·exact⟨N,h2⟩
  ·rw[hp] at X;cases X
 obtain⟨⟨i,dn,q⟩,⟨l,u,t⟩,⟨j,ln,r⟩⟩:=h;have Q:=O.lo;have Z:Below w w ((w.alloc (.cells (Ad i dn q l u t b j ln r) 35)).alloc (.cells Ap 35)):=Ax;have J:=(Br w 35 (Ad i dn q l u t b j ln r)).alloc (.cells Ap 35);have K:=Blk.newN (g:=w+1) (w.alloc (.cells (Ad i dn q l u t b j ln r) 35)) 35 Ap Cr;have I: ∀(g:Nat),w.heap.size<=g-> ∀z∈(Ar ⟨⟨i,dn,q⟩,⟨l,u,t⟩,⟨j,ln,r⟩⟩ b).map Sl.row,z≠some g:=λg hg z hz c=>by have:=Q z hz _ c;omega
 have Y: ∀W,Below w w W->Ag W (Ar ⟨⟨i,dn,q⟩,⟨l,u,t⟩,⟨j,ln,r⟩⟩ b):=λW bb=>O.below bb;unfold CG At;generalize cmT s=tx at*;clear O f F hw
 go_enter func95,ntmps95
 go_upto_region 3 with fail
 generalize(w.alloc _).alloc _=w1 at*;have L:=J.lt;have M:=K.lt
 go_upto_region 4 with(first|(go_at_call 60;refine(C _).mono ?_;rintro e w2 ⟨m,d,rfl,H,S⟩)|(go_at_call 121;refine(y _).mono ?_;rintro e G ⟨rfl,T⟩))
 have E:=An S T;have al:Below G G (G.alloc (.cells QW 30)):=BU;have p:=An E al;have D:=J.below p L;have a:=K.below p M;clear C y H S T J K;generalize G.alloc _=w4 at*;generalize ah:G.heap.size=q3 at ⊢;have F:=D.cell;have e5:=a.cell;have f5:=a.frozen;have g5:=a.lt;have U:=An Z p;clear D a E al;go_wp2;refine AS (v:=.tuple (BQ i dn q l u t b j ln r 6)) (by simp[results,results95,go_sem,e5,g5]) rfl ?_
 exact⟨⟨⟨i,dn,q⟩,⟨l,u,t⟩,⟨j,ln,r⟩⟩,rfl,Bt (Y _ U) (I _ Aa),λ_ hq=> .inl hq,BH U Aa⟩
theorem OM (s:Bs) (A:Option Addr) (n c:Nat) (h:AG) (b:Ae) (w:World) (hr:Ag w (Ar h b)) (hs:s.length<=100000) (W:Dm s=true) (hw:cmH s=Av) (hp:Fm (cmT s)=true):
  Calls prog 95 #[At h b,.string ⟨s.toArray⟩,.string ⟨#[112,114,111,102,105,108,101]⟩,.slice A n c] w (CG h {b with depths:=rpD (cmT s),speeds:=rpV (cmT s),source:=0} 0 w):=by
 have N: ∀V,Calls prog 60 #[.string ⟨s.toArray⟩,.int .u8 32] V λe G=> ∃J d,e=.returned (.slice (some J) 2 d)∧G.cell? ⟨J.block,J.off+1,none⟩=some (.string ⟨(cmT s).toArray⟩)∧Below V V G:=λV=>by
  refine(ID s V Aa).mono ?_;rintro e G ⟨B,d,rfl,R,_,bl⟩;rw[(M9 hw W).1] at R⊢;obtain⟨J,rfl,hx⟩:=R.str (k:=1) Ah;rw[(M9 hw W).2,Hf J 1 Ah] at hx;exact⟨J,d,rfl,hx,bl⟩
 have F:(cmT s).length<=100000:=by
  have h1:=AN List.length (Na hw W).1;rw[Dy] at h1;omega
 have M: ∀V,Calls prog 121 #[.string ⟨(cmT s).toArray⟩] V λe G=> ∃y hv:Hd,e=.returned (.tuple #[CH y.A y.n y.c hv.A hv.n hv.c,.bool true])∧Rd G y.A y.n (ints (rpD (cmT s)))∧Rd G hv.A hv.n (ints (rpV (cmT s)))∧(∀q,blkp y.A y.n=some q∨blkp hv.A hv.n=some q->V<=q)∧Below V V G:=λV=>(Fr (cmT s) V F).mono λe G k=>by
  rcases k with⟨h0,_⟩|⟨y,hv,_,h1,h2,h3,h4,h5⟩
  ·rw[hp] at h0;cases h0
  ·exact⟨y,hv,h1,h2,h3,h4,h5⟩
 obtain⟨⟨X,dn,Z⟩,⟨Y,sn,sc⟩,⟨a,ln,C⟩⟩:=h;have au:=hr.lo;have b0:Below w w ((w.alloc (.cells (Ad X dn Z Y sn sc b a ln C) 35)).alloc (.cells Ap 35)):=Ax;have KB:=(Br w 35 (Ad X dn Z Y sn sc b a ln C)).alloc (.cells Ap 35);have KO:=Blk.newN (g:=w+1) (w.alloc (.cells (Ad X dn Z Y sn sc b a ln C) 35)) 35 Ap Cr;unfold CG At;have aq:=hr.tail.tail.head;generalize cmT s=tx at*;generalize rpD tx=pd at*;generalize rpV tx=pv at*;clear hr F W hw
 go_enter func95,ntmps95
 go_upto_region 3 with fail
 generalize(w.alloc _).alloc _=w1 at*;have ap:=KB.lt;have U:=KO.lt
 go_upto_region 4 with(first|(go_at_call 60;refine(N _).mono ?_;rintro e w2 ⟨J,d,rfl,hx,b2⟩)|(go_at_call 121;refine(M _).mono ?_;rintro e K ⟨⟨f,l,D⟩,⟨j,m,E⟩,rfl,RP,RV,H,b3⟩))
 have T:=An b2 b3;have al:Below K K (K.alloc (.cells (CH f l D j m E) 30)):=BU;have KP:=Br K 30 (CH f l D j m E);have x:=An T al;have I:=KB.below x ap;have t:=KO.below x U;have aN:=b2.size;have Q:=RP.below al;have S:=RV.below al;have O:=(aq.below b0).below x;have aj:Ag (K.alloc (.cells (CH f l D j m E) 30)) (Ar ⟨⟨f,l,D⟩,⟨j,m,E⟩,⟨a,ln,C⟩⟩ {b with depths:=pd,speeds:=pv,source:=0}):=Ag.cons (s:=⟨f,l,ints pd⟩) Q (Ag.cons (s:=⟨j,m,ints pv⟩) S (Ag.cons (s:=⟨a,ln*7,ints b.log⟩) O (Ag.nil _)))
 have L:Hid (∀q,some q∈BK ⟨⟨f,l,D⟩,⟨j,m,E⟩,⟨a,ln,C⟩⟩->some q∈BK ⟨⟨X,dn,Z⟩,⟨Y,sn,sc⟩,⟨a,ln,C⟩⟩∨w1.heap.size<=q):=λq hq=>by
  simp only[BK,CC,I5,or_false] at hq⊢;rcases hq with e|e|e
  ·have:=H q (.inl e.symm);exact .inr Aa
  ·have:=H q (.inr e.symm);exact .inr Aa
  ·exact .inl (.inr (.inr e))
 have r:Hid (∀(g:Nat),w.heap.size<=g->g<w1-> ∀z∈(Ar ⟨⟨f,l,D⟩,⟨j,m,E⟩,⟨a,ln,C⟩⟩ {b with depths:=pd,speeds:=pv,source:=0}).map Sl.row,z≠some g):=λg h1 h2 z hz c=>by
  subst c;rcases L.out g hz with h3|h3
  ·have:=au _ h3 _ rfl;omega
  ·omega
 clear RP RV Q S O H;clear N M hx b2 b3 KB KO;generalize K.alloc _=w4 at*;generalize aL:K.heap.size=q3 at KP⊢;have W:=I.cell;have aJ:=I.frozen;have e5:=t.cell;have f5:=t.frozen;have g5:=t.lt;have eP:=KP.cell;have b5:=An b0 x;clear KP I t T al;go_wp2;refine AS (v:=.tuple #[Bp f l D j m E 0 b.cos b.sin b.hyp a ln C,ZI 0]) (by simp[results,results95,go_sem,e5,g5]) rfl ?_
 have RQ:=((aj.cell_ (i:=0) (u:=.slice f l D) (r.out w.heap.size Bk Aa)).cell_ (i:=1) (u:=.slice j m E) (r.out w.heap.size Bk Aa)).cell_ (i:=2) (u:=.int .i64 0) (r.out w.heap.size Bk Aa);exact⟨⟨⟨f,l,D⟩,⟨j,m,E⟩,⟨a,ln,C⟩⟩,rfl,Bt (b:= {b with depths:=pd,speeds:=pv,source:=0}) RQ (r.out _ Aa U),λq hq=>(L.out q hq).imp id (λh=>by omega),BH (((b5.setCell (p:=⟨w,0,none⟩) Bk _).setCell (p:=⟨w,1,none⟩) Bk _).setCell (p:=⟨w,2,none⟩) Bk _) Aa⟩
theorem Mx (s:Bs) (A:Option Addr) (n c:Nat) (h:AG) (b:Ae) (w:World) (f:Ag w (Ar h b)) (hs:s.length<=100000) (d:Dm s=true) (hw:cmH s=Av):
  Calls prog 95 #[At h b,.string ⟨s.toArray⟩,.string ⟨#[112,114,111,102,105,108,101]⟩,.slice A n c] w (CG h (if Fm (cmT s)=true then {b with depths:=rpD (cmT s),speeds:=rpV (cmT s),source:=0} else b) (if Fm (cmT s)=true then 0 else 6) w):=by
 by_cases a:Fm (cmT s)=true
 ·rw[AA a,AA a];exact OM s A n c h b w f hs d hw a
 ·rw[Ak a,Ak a];exact MW s A n c h b w f hs d hw (by simpa using a)
def EY (T:Bs) (w:World) (e:Ending) (w':World):Prop:=
 ∃(t:Bs) (c:Int),e=.returned (.tuple #[.string ⟨t.toArray⟩,ZI c])∧(0<=c∧c<=1000)∧cdT t c=T∧Below w w w'
theorem Ih (n:Nat):Lib.decDigits n=Lib.itoa (n:Int):=rfl
theorem Ou (kn lo hi k:Int) (up:Bool) (evs:List Int) (n:Int) (j:Addr) (c:Nat) (h:AG) (b:Ae) (w:World) (hc0:w.cell? j=some (.int .i64 n))
  (HT: ∀W,Below w w W->Calls prog 123 #[CH h.depths.A h.depths.n h.depths.c h.speeds.A h.speeds.n h.speeds.c,ZI b.source,Ziii b.cos b.sin b.hyp,ZI n] W λe U=> ∃a:Hd,e=.returned (.tuple (G5 a.A a.n a.c kn up lo hi k))∧Rd U a.A a.n (ints evs)∧(∀j,a.A=some j->0<a.n->W<=j.block)∧Below W W U)
  (hl:evs.length<=100) (ha:BV evs 1 4=true) (h1: -9223372036854775808<lo∧lo<=9223372036854775807) (h2: -9223372036854775808<hi∧hi<=9223372036854775807) (h3:0<=k∧k<=1000):
  Calls prog 96 #[At h b,.string ⟨#[116,114,97,99,101]⟩,.slice (some j) 1 c] w (EY (cdT (orD (hisL evs)++ [32]++ivT lo hi) k) w):=by
 have HH:=λ(V:World) (a:Hd) (hr:Rd V a.A a.n (ints evs))=>Je a.A a.n a.c evs V (by have:=hr.len;omega) hr ha
 have HI:=λV=>Kl lo hi V h1.1 h1.2 h2.1 h2.2;have l1:=Bm lo Aa Aa;have l2:=Bm hi Aa Aa
 have l3:(orD (hisL evs)).length<=101:=by
  unfold orD
  split
  ·decide
  ·rw[Tr];omega
 have l4:(ivT lo hi).length<=100:=by unfold ivT;rw[Dy,Dy];simp only[Gt,List.length_nil];omega
 have X:Hid (orD (hisL evs)=if hisL evs= [] then [45] else hisL evs):=rfl;unfold EY At;generalize orD (hisL evs)=O at*;generalize hisL evs=H at*;generalize ivT lo hi=I at*;obtain⟨r,l⟩: ∃r,O++ [32]=r:=⟨_,rfl⟩;obtain⟨z,D⟩: ∃z,r++I=z:=⟨_,rfl⟩;rw[l,D];have k1:r.length=O.length+1:=by rw[<-l,Dy];rfl
 have p1: ¬9223372036854775807<O.length+1:=Aa;have p2: ¬9223372036854775807<r.length+I.length:=Aa;have s1:((⟨O.toArray⟩:ByteArray)++⟨#[32]⟩)=⟨r.toArray⟩:=by rw[<-l];exact AY O [32]
 have s2:((⟨r.toArray⟩:ByteArray)++⟨I.toArray⟩)=⟨z.toArray⟩:=by rw[<-D];exact AY r I
 have H3:=Ai h3;clear l D k1 l1 l2 l3 l4 h1 h2 h3 hl ha;obtain⟨⟨s,dn,C⟩,⟨B,G,F⟩,⟨y,ln,E⟩⟩:=h;have N:Below w w (w.alloc (.cells (Ad s dn C B G F b y ln E) 35)):=BU;have M:=Br w 35 (Ad s dn C B G F b y ln E);simp only at HT;have i:=Gr w j hc0;replace hc0:=Cg N hc0 i;have g:=CM i N.size;have x:=λ(V:World) (bb:Below (w.alloc (.cells (Ad s dn C B G F b y ln E) 35)).heap.size (w.alloc (.cells (Ad s dn C B G F b y ln E) 35)) V)=>HT V (An N bb);clear HT i
 go_enter func96,ntmps96
 go_upto_region 3 with fail
 generalize w.alloc _=d at*;have T:=M.lt;have hb:=M.cell;have Z:Below d d (d.alloc (.cells DJ 138)):=BU;have hA:=x d.drew GJ;have hB:=x (d.alloc (.cells DJ 138)).drew (CO Z);have KZ:=Blk.drew (Br d 138 DJ)
 go_cut [8,9,10] (λv8 v9 v10 wx=> ∃(q:Nat) (a:Hd),v8=.slice a.A a.n a.c∧v9=.pointer (some ⟨q,0,none⟩)∧v10=.int .i64 k∧Blk wx q 138 (A7 kn up lo hi)∧Rd wx a.A a.n (ints evs)∧Below d d wx)
 case first=>
  go_region_held3 (λU=>(∀o,U.cell? ⟨w,o,none⟩=((Ad s dn C B G F b y ln E):Array Value)[o]?)∧U.cell? j=some (.int .i64 n))
   (exact Cs)
   (first
    |(go_at_call 123;(with_reducible refine hA.mono ?_);rintro e u ⟨⟨L,R,Q⟩,rfl,K,S,Y⟩;have f:Below d d u:=EE (m:=1) Y;have z0:(∀o,u.cell? ⟨w,o,none⟩=((Ad s dn C B G F b y ln E):Array Value)[o]?):=λo=>(M.below f T).cell o;have y0:=CM T f.size;have z1:=Cg f hc0 g;have y1:=CM g f.size;have J:=Br u 138 (A7 kn up lo hi);have bU:Below d d (u.alloc (.cells (A7 kn up lo hi) 138)):=f.trans (((AP _ _).alloc Bk _).mono f.size))
    |(go_at_call 123;(with_reducible refine hB.mono ?_);rintro e u ⟨⟨L,R,Q⟩,rfl,K,S,Y⟩;have f:Below d d u:=(CO Z).trans (Y.mono Z.size);have z0:(∀o,u.cell? ⟨w,o,none⟩=((Ad s dn C B G F b y ln E):Array Value)[o]?):=λo=>(M.below f T).cell o;have y0:=CM T f.size;have z1:=Cg f hc0 g;have y1:=CM g f.size;have J:=KZ.below Y KZ.lt;have fU:=J.frozen;have cU:=J.cell;have aD:=J.lt))
  all_goals
   go_wp2_with fail
   go_meet
   first
    |exact⟨u.heap.size,⟨L,R,Q⟩,rfl,rfl,rfl,J,K.below BU,bU⟩
    |exact⟨d.heap.size,⟨L,R,Q⟩,rfl,rfl,rfl,((((J.set_ 0 _).set_ 1 _).set_ 2 _).set_ 3 _),af K (λj e h=>by have h5:=S j e h;simp at h5;omega),((((f.setCell (p:=⟨d,0,none⟩) Bk _).setCell (p:=⟨d,1,none⟩) Bk _).setCell (p:=⟨d,2,none⟩) Bk _).setCell (p:=⟨d,3,none⟩) Bk _)⟩
 case rest=>
  obtain⟨q,⟨L,R,Q⟩,rfl,rfl,rfl,KQ,K,bw⟩:=hcut;have t:=HH _ ⟨L,R,Q⟩ K;simp only at t;have b5:=An N bw;clear HH x hb K M T Z hA hB KZ hc0 g bw N
  go_upto_region 5 with(go_at_call 124;refine t.mono ?_;rintro e w6 ⟨rfl,b6⟩)
  have K6:=KQ.below b6 KQ.lt;have e6:=K6.cell;have b7:=An b5 b6;clear KQ K6 b6 t b5
  by_cases hE:H= []
  ·subst hE;obtain rfl:O= [45]:=X.out;clear X
   go_wp2_with (go_at_call 125;refine(HI _).mono ?_;rintro e w8 ⟨rfl,b8⟩)
   refine AS (v:=.tuple #[.string ⟨z.toArray⟩,ZI k]) (by simp[results,results96,go_sem]) rfl ⟨z,k,rfl,H3.out,rfl,(An b7 b8)⟩
  ·obtain rfl:H=O:=by have:=X.out;rw[Ak hE] at this;exact this.symm
   have aB:List.isEmpty H=false:=by simpa using hE
   clear X
   go_wp2_with (go_at_call 125;refine(HI _).mono ?_;rintro e w8 ⟨rfl,b8⟩)
   refine AS (v:=.tuple #[.string ⟨z.toArray⟩,ZI k]) (by simp[results,results96,go_sem]) rfl ⟨z,k,rfl,H3.out,rfl,(An b7 b8)⟩
theorem Up (s:Bs) (A:Option Addr) (c:Nat) (h:AG) (b:Ae) (w:World) (ok:jw b) (t:Ag w (Ar h b)) (r:Rd w A 1 (ints (Co s))):
  Calls prog 96 #[At h b,.string ⟨#[116,114,97,99,101]⟩,.slice A 1 c] w (EY (trT b (cmI s 0)) w):=by
 obtain⟨d,rfl⟩: ∃d,A=some d:=by obtain⟨d,h,_⟩:=r.int (k:=0) Ah;exact⟨d,h⟩
 have hc0:w.cell? d=some (.int .i64 (cmI s 0)):=Pn r Ah;have j:=λ(W:World) (g:Below w w W)=>L9 ⟨h.depths,h.speeds⟩ (rayB b) (cmI s 0) W ⟨t.head.below g,t.tail.head.below g⟩ (KF ok);have D:(((rayB b).src:Nat):Int)=b.source:=Lm ok;unfold EV GU at j;rw[D] at j;generalize cmI s 0=n at*
 by_cases a:trC (rayB b) n=0
 ·obtain⟨x,l,m⟩: ∃x l,(rayB b).tr n.toNat=some (x,l):=by
   unfold trC at a
   split at a
   ·split at a
    ·cases a
    ·next y hy=>exact⟨y.1,y.2,hy⟩
   ·cases a
  have e:trT b n=cdT (orD (hisL (C2 l))++ [32]++ivT x.lo x.hi) 0:=by
   unfold trT cdT;rw[AA a,m,AA rfl]
  obtain⟨i,u,v⟩:=dX ok m
  have C:(C2 l).length<=100:=by
   have H:=((KF ok).tr_ok _ _ _ m).2.1
   have z:inR n 0 100=true:=by
    rcases jt (inR n 0 100) with o|o
    ·exact o
    ·unfold trC at a;rw[o] at a;cases a
   have I:=Ac z;unfold C2;rw[List.length_map];omega
  rw[e];refine Ou (x.k:Int) x.lo x.hi 0 x.dn (C2 l) n d c h b w hc0 (λW g=>(j W g).mono ?_) C v i u Aa;rintro e F (⟨i,_⟩|⟨G,E,q,_,_,f,rfl,_,_,R,B,p⟩)
  ·exact absurd a i
  ·rw[m] at f;simp only[Gs,Prod.mk.injEq] at f;obtain⟨rfl,rfl⟩:=f;exact⟨q,rfl,R,B,p⟩
 ·have e:trT b n=cdT (orD (hisL [])++ [32]++ivT 0 0) (trC (rayB b) n):=by
   unfold trT cdT;rw[Ak a,Ak a]
  rw[e];refine Ou 0 0 0 (trC (rayB b) n) false [] n d c h b w hc0 (λW g=>(j W g).mono ?_) Ah rfl Aa Aa (aN _ _);rintro e F (⟨_,rfl,p⟩|⟨G,E,q,i,_⟩)
  ·exact⟨⟨none,0,0⟩,rfl,Rd.nil _ _,(λ_ e=>by cases e),p⟩
  ·exact absurd i a
theorem VU (s:Bs) (A:Option Addr) (c:Nat) (h:AG) (b:Ae) (w:World) (ok:jw b) (hr:Ag w (Ar h b)) (t:Rd w A 6 (ints (Co s))):
  Calls prog 96 #[At h b,.string ⟨#[109,101,101,116]⟩,.slice A 6 c] w (EY (meT b s) w):=by
 have i: ∀(W:World),Below w w W->Calls prog 126 #[CH h.depths.A h.depths.n h.depths.c h.speeds.A h.speeds.n h.speeds.c,ZI ((b.source.toNat:Nat):Int),ZI (cmI s 0),ZI (cmI s 1),ZI (cmI s 2),.bool (decide (0<b.sin)),ZI (cmI s 3),ZI (cmI s 4),ZI (cmI s 5)] W λe g=> ∃H:Hd,e=.returned (.tuple (Gb H.A H.n H.c (meC b s)))∧H.n=(meL b s).length∧Rd g H.A H.n (ints (meL b s))∧Below W W g:=λW bb=>Lj ⟨h.depths,h.speeds⟩ b.depths b.speeds b.source.toNat (cmI s 0) (cmI s 1) (cmI s 2) (cmI s 3) (cmI s 4) (cmI s 5) (decide (0<b.sin)) W ⟨hr.head.below bb,hr.tail.head.below bb⟩ ⟨ok.prof,by have:=Ac ok.src;omega⟩
 rw[Lm ok] at i;have Y:=ZY (Qk b (cmI s 0)) b.depths.length (cmI s 0) (cmI s 1) (cmI s 2) (cmI s 3) (cmI s 4) (cmI s 5);have S:=ZX (Qk b (cmI s 0)) b.depths.length (cmI s 0) (cmI s 1) (cmI s 2) (cmI s 3) (cmI s 4) (cmI s 5);have T: ¬meC b s=0->meL b s= []:=λh=>ZZ h;have F:Hid (meT b s=if meC b s=0 then(if meL b s= [] then [110,111,110,101] else joinI [32] (meL b s)) else erT (meC b s)):=rfl;change(meL b s).length<=100∧ ∀x∈meL b s,-9223372036854775808<x∧x<=9223372036854775807 at Y;change 0<=meC b s∧meC b s<=1000 at S;obtain⟨a,rfl⟩: ∃a,A=some a:=by obtain⟨a,h,_⟩:=t.int (k:=0) Ah;exact⟨a,h⟩
 have hc0:w.cell? a=some (.int .i64 (cmI s 0)):=Pn t Ah;have hc1:w.cell? ⟨a.block,a.off+1,none⟩=some (.int .i64 (cmI s 1)):=GV t Ah Ah;have hc2:w.cell? ⟨a.block,a.off+2,none⟩=some (.int .i64 (cmI s 2)):=GV t Ah Ah;have hc3:w.cell? ⟨a.block,a.off+3,none⟩=some (.int .i64 (cmI s 3)):=GV t Ah Ah;have hc4:w.cell? ⟨a.block,a.off+4,none⟩=some (.int .i64 (cmI s 4)):=GV t Ah Ah;have l:w.cell? ⟨a.block,a.off+5,none⟩=some (.int .i64 (cmI s 5)):=GV t Ah Ah;unfold EY At;generalize meT b s=R at*;generalize meC b s=C at*;generalize meL b s=z at*;generalize cmI s 0=x0 at*;generalize cmI s 1=x1 at*;generalize cmI s 2=x2 at*;generalize cmI s 3=x3 at*;generalize cmI s 4=x4 at*;generalize cmI s 5=x5 at*;obtain⟨⟨E,dn,K⟩,⟨I,Q,O⟩,⟨G,ln,N⟩⟩:=h;have j:Below w w (w.alloc (.cells (Ad E dn K I Q O b G ln N) 35)):=BU;have U:=Br w 35 (Ad E dn K I Q O b G ln N);have d:=Gr w a hc0;replace hc0:=Cg j hc0 d;replace hc1:=Cg j hc1 d;replace hc2:=Cg j hc2 d;replace hc3:=Cg j hc3 d;replace hc4:=Cg j hc4 d;replace l:=Cg j l d;have f:=CM d j.size;simp only at i;have hA:=i (w.alloc (.cells (Ad E dn K I Q O b G ln N) 35)).drew (CO j);clear hr t d i
 go_enter func96,ntmps96
 go_upto_region 9 with fail
 generalize w.alloc _=w1 at*;have hg:=U.lt;have hb:=U.cell
 go_region_held3 (λg=>(∀o,g.cell? ⟨w,o,none⟩=((Ad E dn K I Q O b G ln N):Array Value)[o]?)∧g.cell? a=some (.int .i64 x0)∧g.cell? ⟨a.block,a.off+1,none⟩=some (.int .i64 x1)∧g.cell? ⟨a.block,a.off+2,none⟩=some (.int .i64 x2)∧g.cell? ⟨a.block,a.off+3,none⟩=some (.int .i64 x3)∧g.cell? ⟨a.block,a.off+4,none⟩=some (.int .i64 x4)∧g.cell? ⟨a.block,a.off+5,none⟩=some (.int .i64 x5))
  (exact Cs)
  (first
   |(go_at_call 126;(with_reducible refine hA.mono ?_);rintro e u ⟨⟨OA,B,oc⟩,rfl,L,RO,b4⟩;have y:Hid (B=z.length):=L;clear L;have q:Below w1 w1 u:=EE (m:=1) b4;have ac: ∀o,u.cell? ⟨w,o,none⟩=((Ad E dn K I Q O b G ln N):Array Value)[o]? :=λo=>(U.below q hg).cell o;have hd0:=Cg q hc0 f;have hd1:=Cg q hc1 f;have hd2:=Cg q hc2 f;have hd3:=Cg q hc3 f;have hd4:=Cg q hc4 f;have ae:u.cell? ⟨a.block,a.off+5,none⟩=some (.int .i64 x5):=(JX q (p:=⟨a.block,a.off+5,none⟩) f).trans l))
 clear hA hb ac U hg f hc0 hd0 hc1 hd1 hc2 hd2 hc3 hd3 hc4 hd4 l ae;have RO:Rd u OA B (ints z):=RO;have bw:=An j q
 by_cases D:z= []
 ·subst D;obtain rfl:B=0:=y.out
  have Z:Hid (cdT [110,111,110,101] C=R):=by
   unfold Hid cdT
   by_cases h:C=0
   ·rw[AA h,F.out,AA h,AA rfl]
   ·rw[Ak h,F.out,Ak h]
  clear F T;have X:=Ai S;clear S;go_wp2;refine AS (v:=.tuple #[.string ⟨#[110,111,110,101]⟩,ZI C]) (by simp[results,results96,go_sem]) rfl ⟨[110,111,110,101],C,rfl,X.out,Z.out,bw⟩
 ·have h0:C=0:=by
   rcases Int.lt_trichotomy C 0 with o|o|o
   ·exact absurd (T Aa) D
   ·exact o
   ·exact absurd (T Aa) D
  subst h0
  have Z:Hid (cdT (joinI [32] z) 0=R):=by
   unfold Hid cdT;rw[AA rfl,F.out,AA rfl,Ak D]
  have M: ¬B=0:=λc=>D (Pt (by rw[<-y.out];exact c))
  have ak:((B:Int)==0)=false:=W7;have HJ:=λ(V:World) (r:Rd V OA B (ints z))=>EC OA B oc z [32] V (by have:=y.out;omega) Ah r Y.2
  clear F T D Y M S;generalize joinI [32] z=J at*
  go_wp2_with (go_at_call 127;refine(HJ _ RO).mono ?_;rintro e w3 ⟨rfl,b3⟩)
  refine AS (v:=.tuple #[.string ⟨J.toArray⟩,ZI 0]) (by simp[results,results96,go_sem]) rfl ⟨J,0,rfl,by decide,Z.out,(An bw b3)⟩
theorem Sc (s:Bs) (A:Option Addr) (c:Nat) (h:AG) (b:Ae) (w:World) (ok:jw b) (J:Ag w (Ar h b)) (i:Rd w A 3 (ints (Co s))):
  Calls prog 96 #[At h b,.string ⟨#[99,104,97,110,99,101]⟩,.slice A 3 c] w (EY (chT s) w):=by
 have l:=λW=>Ll (cmI s 0) (cmI s 1) (cmI s 2) W;rw[dW] at l;have hv:=aK (cmI s 0) (cmI s 1) (cmI s 2);have H:=aJ (cmI s 0) (cmI s 1) (cmI s 2);have C:=λV=>Ek (tcV (cmI s 0) (cmI s 1) (cmI s 2)) V hv.1 hv.2;have G:Hid (cdT (Lib.itoa (tcV (cmI s 0) (cmI s 1) (cmI s 2))) (tcC (cmI s 0) (cmI s 1) (cmI s 2))=chT s):=rfl;obtain⟨a,rfl⟩: ∃a,A=some a:=by obtain⟨a,h,_⟩:=i.int (k:=0) Ah;exact⟨a,h⟩
 have hc0:w.cell? a=some (.int .i64 (cmI s 0)):=Pn i Ah;have hc1:w.cell? ⟨a.block,a.off+1,none⟩=some (.int .i64 (cmI s 1)):=GV i Ah Ah;have hc2:w.cell? ⟨a.block,a.off+2,none⟩=some (.int .i64 (cmI s 2)):=GV i Ah Ah;unfold EY At;generalize chT s=R at*;generalize Lib.itoa (tcV (cmI s 0) (cmI s 1) (cmI s 2))=I at*;generalize tcV (cmI s 0) (cmI s 1) (cmI s 2)=v at*;generalize tcC (cmI s 0) (cmI s 1) (cmI s 2)=q at*;generalize cmI s 0=L at*;generalize cmI s 1=M at*;generalize cmI s 2=N at*;obtain⟨⟨m,dn,t⟩,⟨r,z,y⟩,⟨n,ln,x⟩⟩:=h;have g:Below w w (w.alloc (.cells (Ad m dn t r z y b n ln x) 35)):=BU;have d:=Gr w a hc0;replace hc0:=Cg g hc0 d;replace hc1:=Cg g hc1 d;replace hc2:=Cg g hc2 d;have f:=CM d g.size;have F:=l (w.alloc (.cells (Ad m dn t r z y b n ln x) 35)).drew;clear J i d l hv
 go_enter func96,ntmps96
 go_upto_region 14 with fail
 generalize w.alloc _=B at*
 go_region_held3 (λw'=>w'.cell? a=some (.int .i64 L)∧w'.cell? ⟨a.block,a.off+1,none⟩=some (.int .i64 M)∧w'.cell? ⟨a.block,a.off+2,none⟩=some (.int .i64 N))
  (exact Cs)
  (first
   |(go_at_call 128;(with_reducible refine F.mono ?_);rintro e u ⟨rfl,K⟩;have j:Below B B u:=K▸CO G6;have hd0:=Cg j hc0 f;have hd1:=Cg j hc1 f;have hd2:=(JX j (p:=⟨a.block,a.off+2,none⟩) f).trans hc2))
 have E:=An g j
 go_wp2_with (go_at_call 89;refine(C _).mono ?_;rintro e O ⟨rfl,D⟩)
 refine AS (v:=.tuple #[.string ⟨I.toArray⟩,ZI q]) (by simp[results,results96,go_sem]) rfl ⟨I,q,rfl,H,G.out,(An E D)⟩
theorem VV (s:Bs) (A:Option Addr) (c:Nat) (h:AG) (b:Ae) (w:World) (ok:jw b) (l:Ag w (Ar h b)) (i:Rd w A 3 (ints (Co s))):
  Calls prog 96 #[At h b,.string ⟨#[112,108,97,110]⟩,.slice A 3 c] w (EY (plT s) w):=by
 have r:=λW=>L5 (cmI s 0) (cmI s 1) (cmI s 2) W;unfold Ny at r;have hv:=Zp (cmI s 0) (cmI s 1) (cmI s 2);have N:=Zk (cmI s 0) (cmI s 1) (cmI s 2);have F:=λ(A:Option Addr) (n c:Nat) (V:World) (l:Rd V A n (ints (evQ (cmI s 0) (cmI s 1) (cmI s 2))))=>EC A n c (evQ (cmI s 0) (cmI s 1) (cmI s 2)) [32] V (by have:=l.len;omega) Ah l hv.2
 have M:Hid (cdT (joinI [32] (evQ (cmI s 0) (cmI s 1) (cmI s 2))) (evC (cmI s 0) (cmI s 1) (cmI s 2))=plT s):=rfl;obtain⟨a,rfl⟩: ∃a,A=some a:=by obtain⟨a,h,_⟩:=i.int (k:=0) Ah;exact⟨a,h⟩
 have hc0:w.cell? a=some (.int .i64 (cmI s 0)):=Pn i Ah;have hc1:w.cell? ⟨a.block,a.off+1,none⟩=some (.int .i64 (cmI s 1)):=GV i Ah Ah;have hc2:w.cell? ⟨a.block,a.off+2,none⟩=some (.int .i64 (cmI s 2)):=GV i Ah Ah;unfold EY At;generalize plT s=R at*;generalize joinI [32] (evQ (cmI s 0) (cmI s 1) (cmI s 2))=I at*;generalize evQ (cmI s 0) (cmI s 1) (cmI s 2)=v at*;generalize evC (cmI s 0) (cmI s 1) (cmI s 2)=q at*;generalize cmI s 0=O at*;generalize cmI s 1=Q at*;generalize cmI s 2=S at*;obtain⟨⟨t,dn,z⟩,⟨y,D,C⟩,⟨x,ln,B⟩⟩:=h;have g:Below w w (w.alloc (.cells (Ad t dn z y D C b x ln B) 35)):=BU;have d:=Gr w a hc0;replace hc0:=Cg g hc0 d;replace hc1:=Cg g hc1 d;replace hc2:=Cg g hc2 d;have f:=CM d g.size;have L:=r (w.alloc (.cells (Ad t dn z y D C b x ln B) 35)).drew;clear l i d r hv
 go_enter func96,ntmps96
 go_upto_region 17 with fail
 generalize w.alloc _=E at*
 go_region_held3 (λw'=>w'.cell? a=some (.int .i64 O)∧w'.cell? ⟨a.block,a.off+1,none⟩=some (.int .i64 Q)∧w'.cell? ⟨a.block,a.off+2,none⟩=some (.int .i64 S))
  (exact Cs)
  (first
   |(go_at_call 129;(with_reducible refine L.mono ?_);rintro e u ⟨T,X,U,rfl,G,J⟩;have j:Below E E u:=EE (m:=1) J;have hd0:=Cg j hc0 f;have hd1:=Cg j hc1 f;have hd2:=(JX j (p:=⟨a.block,a.off+2,none⟩) f).trans hc2))
 have K:=An g j
 go_wp2_with (go_at_call 127;refine(F _ _ _ _ G).mono ?_;rintro e Y ⟨rfl,H⟩)
 refine AS (v:=.tuple #[.string ⟨I.toArray⟩,ZI q]) (by simp[results,results96,go_sem]) rfl ⟨I,q,rfl,N,M.out,(An K H)⟩
theorem Ya (s:Bs) (A:Option Addr) (c:Nat) (h:AG) (b:Ae) (w:World) (ok:jw b) (m:Ag w (Ar h b)) (B:Rd w A 0 (ints (Co s))):
  Calls prog 96 #[At h b,.string ⟨#[108,111,103]⟩,.slice A 0 c] w (EY (Lib.itoa (lgN b:Int)) w):=by
 have z:b.log.length=h.log.n*7:=m.tail.tail.head.len;have a:h.log.n=lgN b:=by unfold lgN;omega
 have l:lgN b<=200:=ok.n;have f:=λV=>Ct (lgN b) V Aa;rw[Ih] at f;unfold EY At;rw[a];have y:Hid (cdT (Lib.itoa (lgN b:Int)) 0=Lib.itoa (lgN b:Int)):=AA rfl;generalize Lib.itoa (lgN b:Int)=R at*;generalize lgN b=k at*;obtain⟨⟨d,dn,j⟩,⟨i,r,q⟩,⟨g,ln,p⟩⟩:=h;simp only;clear z a m B ok;have u:Below w w (w.alloc (.cells (Ad d dn j i r q b g k p) 35)):=BU;have t:=Br w 35 (Ad d dn j i r q b g k p)
 go_enter func96,ntmps96
 go_upto_region 20 with fail
 generalize w.alloc _=D at*;have C:=t.cell
 go_wp2_with (go_at_call 88;refine(f _).mono ?_;rintro e E ⟨rfl,x⟩)
 refine AS (v:=.tuple #[.string ⟨R.toArray⟩,ZI 0]) (by simp[results,results96,go_sem]) rfl ⟨R,0,rfl,by decide,y.out,(An u x)⟩
theorem Un (s:Bs) (A:Option Addr) (c:Nat) (h:AG) (b:Ae) (w:World) (ok:jw b) (u:Ag w (Ar h b)) (N:Rd w A 0 (ints (Co s))):
  Calls prog 96 #[At h b,.string ⟨#[99,104,101,99,107]⟩,.slice A 0 c] w (EY (Lib.itoa (chkFold (lgT b.log (lgN b)))) w):=by
 have M:b.log.length=h.log.n*7:=u.tail.tail.head.len;have d:h.log.n=lgN b:=by unfold lgN;omega
 have g:lgN b<=200:=ok.n;have a:CP b.log (lgN b)=true:=ok.log;have l:=u.tail.tail.head;simp only at l;rw[d] at l;have f:FT b.log (lgN b)=true:=by unfold FT;rw[a,Ha,BP];omega
 have j:=λ(V:World) (K:Below w w V)=>M3 h.log.A (lgN b) h.log.c b.log V Aa (l.below K);rw[(Vz f).1,(Vz f).2] at j;have i:=Kq a (lgN b) Bk;have p:=λV=>Do ⟨(lgT b.log (lgN b)).toArray⟩ V (by rw[Bj];unfold maxLen;omega)
 rw[show(ByteArray.mk (lgT b.log (lgN b)).toArray).data.toList=lgT b.log (lgN b) from rfl] at p;have t:=CV (lgT b.log (lgN b));obtain⟨m,D⟩: ∃m:Nat,chkFold (lgT b.log (lgN b))=(m:Int):=⟨(chkFold (lgT b.log (lgN b))).toNat,by omega⟩
 rw[D] at p t⊢;have y:=λV=>Ct m V Aa;rw[Ih] at y;unfold EY At;rw[d];have L:Hid (cdT (Lib.itoa (m:Int)) 0=Lib.itoa (m:Int)):=AA rfl;generalize Lib.itoa (m:Int)=R at*;generalize lgT b.log (lgN b)=tx at*;generalize lgN b=k at*;obtain⟨⟨x,dn,C⟩,⟨B,G,F⟩,⟨z,ln,E⟩⟩:=h;simp only at j⊢;clear M d u N ok l a f g i D;have r:Below w w (w.alloc (.cells (Ad x dn C B G F b z k E) 35)):=BU;have H:=Br w 35 (Ad x dn C B G F b z k E);have q:=j _ r;clear j
 go_enter func96,ntmps96
 go_upto_region 22 with fail
 generalize w.alloc _=S at*;have O:=H.cell
 go_wp2_with (first|(go_at_call 130;refine q.mono ?_;rintro e T ⟨rfl,I⟩)|(go_at_call 131;refine(p _).mono ?_;rintro e Q ⟨rfl,rfl⟩)|(go_at_call 88;refine(y _).mono ?_;rintro e U ⟨rfl,J⟩))
 refine AS (v:=.tuple #[.string ⟨R.toArray⟩,ZI 0]) (by simp[results,results96,go_sem]) rfl ⟨R,0,rfl,by decide,L.out,r.trans ((An I J).mono r.size)⟩
