import Derived.Test.YtkndcebhjcfphaaGreatDoorZAb
import Derived.Test.YtkndcebhjcfphaaGreatDoorZAl
namespace Go.Proofs.YtkndcebhjcfphaaGreatDoor
open Go.RowKit Go.Proofs.Tryz
set_option maxRecDepth 100000
set_option maxHeartbeats 4000000
set_option linter.all false
theorem ey (s:Bs): ∃(ws:List Bs) (k:Nat),splitC 10 s=ws∧ws.length=k+1∧lnL s=(if ws.getD k []= [] then ws.take k else ws):=by
 have hne:=CT 10 s;obtain⟨ws,hw⟩: ∃ws,splitC 10 s=ws:=⟨_,rfl⟩;rw[hw] at hne;obtain⟨k,hk⟩: ∃k,ws.length=k+1:=⟨ws.length-1,by have:=List.length_pos_iff.2 hne;omega⟩
 refine⟨ws,k,hw,hk,?_⟩;rw[dQ];unfold gm;rw[hw]
 have h1:ws.getLastD []=ws.getD k []:=by
  rw[DE,List.getLastD_eq_getLast?,List.getLast?_eq_getElem?,hk];rfl
 rw[h1,List.dropLast_eq_take,hk]
 rfl
theorem Rd.takeS {w:World} {A:Option Addr} {n k:Nat} {ws:List Bs} (h:Rd w A n (strs ws)) (hk:k≤n):Rd w A k (strs (ws.take k)):=by
 have hl:ws.length=n:=by have:=h.1;unfold strs at this;simpa using this
 refine⟨by unfold strs;rw[List.length_map,Ju];omega,fun h0=> ?_⟩
 obtain⟨ad,e,hc⟩:=h.2 Aa;refine⟨ad,e,fun i hi=> ?_⟩;rw[hc i Aa];unfold strs;rw[List.map_take,List.getElem?_take,AA hi]
theorem Kj (s:Bs) (w:World) (hs:s.length≤1048576):
  Calls prog 33 #[.string ⟨s.toArray⟩] w fun e w'=> ∃(A:Option Addr) (c:Nat),e=.returned (.slice A (lnL s).length c)∧Rd w' A (lnL s).length (strs (lnL s))∧Below w w w':=by
 have hsp:Calls prog 60 #[.string ⟨s.toArray⟩,.int .u8 10] w fun e w'=> ∃B d,e=.returned (.slice B (splitC 10 s).length d)∧Rd w' B (splitC 10 s).length (strs (splitC 10 s))∧(splitC 10 s).length≤d∧Below w w w':=Fz ⟨s.toArray⟩ 10 w (by rw[Bj];exact hs)
 have hlen:=D8 10 s;obtain⟨ws,k,hw,hk,hl⟩:=ey s;rw[hw,hk] at hsp hlen;have HK:=Ai hk;have hwk:=Bg (k:Int);have hwk1:IntKind.i64.wrap ((k:Int)+1-1)=(k:Int):=by rw[show(k:Int)+1-1=(k:Int) by omega];exact Ff _ Aa
 generalize lnL s=ls at*;clear hw hk
 by_cases hE:ws.getD k []= []
 ·have HL:Hid (ls=ws.take k∧ls.length=k):=⟨by rw[hl,AA hE],by rw[hl,AA hE,Ju,HK.out];omega⟩
  clear hl
  go_enter func33,ntmps33
  go_upto_region 2 with(go_at_call 60;refine hsp.mono ?_;rintro e w1 ⟨B,d,rfl,hr,hd,b1⟩)
  obtain⟨ad,hA,hx⟩:=hr.str (k:=k) Aa;subst hA;rw[hE] at hx;clear hE hsp;go_wp2;refine AS (v:=.slice (some ad) k d) (by simp[results,results33,go_sem]) rfl ⟨some ad,d,by rw[HL.out.2],?_,b1⟩
  rw[HL.out.2,HL.out.1];exact hr.takeS Aa
 ·have HL:Hid (ls=ws∧ls.length=k+1):=⟨by rw[hl,Ak hE],by rw[hl,Ak hE];exact HK.out⟩
  have hE2:(ws.getD k []).isEmpty=false:=by simpa using hE
  clear hl
  go_enter func33,ntmps33
  go_upto_region 2 with(go_at_call 60;refine hsp.mono ?_;rintro e w1 ⟨B,d,rfl,hr,hd,b1⟩)
  obtain⟨ad,hA,hx⟩:=hr.str (k:=k) Aa;subst hA;generalize ws.getD k []=x at hx hE2 hE;clear hsp;go_wp2;refine AS (v:=.slice (some ad) (k+1) d) (by simp[results,results33,go_sem]) rfl ⟨some ad,d,by rw[HL.out.2],?_,b1⟩
  rw[HL.out.2,HL.out.1];exact hr
theorem TM (s:Bs) (w:World) (hs:s.length≤1048576):
  (BT 31 #[.string ⟨s.toArray⟩] w (.bool (fitB s)):Prop):=by
 have HL:=Kj s w hs;have hz:=Bj s
 by_cases h4:s.length≤4000
 ·have hF:Hid (fitB s=decide ((lnL s).length≤80)):=by unfold Hid fitB;rw[BC h4,Ha]
  have h4J:(s.length:Int)≤(4000:Int):=Aa;generalize fitB s=f at*;generalize lnL s=ls at*;have h8:decide ((ls.length:Int)≤(80:Int))=decide (ls.length≤80):=by rw[decide_eq_decide];omega
  go_enter func31,ntmps31
  go_wp2_with (go_at_call 33;refine HL.mono ?_;rintro e w1 ⟨A,c,rfl,R,b1⟩)
  refine AS (v:=.bool (decide (ls.length≤80))) (by simp[results,results31,go_sem]) rfl ⟨by rw[hF.out],b1⟩
 ·have hF:Hid (fitB s=false):=by unfold Hid fitB;rw[BR h4,Bool.false_and]
  have h4J: ¬(s.length:Int)≤(4000:Int):=Aa;generalize fitB s=f at*;clear HL h4
  go_enter func31,ntmps31
  go_wp2;refine AS (v:=.bool false) (by simp[results,results31,go_sem]) rfl ⟨by rw[hF.out],AP _ _⟩
def adC (b:Ae) (t k l x y d r:Int):Int:=if Cm t k l x y d r=true then(if lgN b<200 then 0 else 3) else 2
theorem Lz (b:Ae) (t k l x y d r:Int):(adC b t k l x y d r=0∧Qc b t k l x y d r=H5)∨(¬adC b t k l x y d r=0∧Qc b t k l x y d r=erT (adC b t k l x y d r)):=by
 unfold adC Qc
 split
 ·split
  ·exact .inl ⟨rfl,rfl⟩
  ·exact .inr ⟨by decide,rfl⟩
 ·exact .inr ⟨by decide,rfl⟩
def CG (h0:AG) (b':Ae) (c:Int) (w:World) (e:Ending) (w':World):Prop:=
 ∃h:AG,e=.returned (.tuple #[At h b',ZI c])∧Ag w' (Ar h b')∧(∀q,some q∈BK h→some q∈BK h0∨w.heap.size≤q)∧Below w w w'
theorem Bt {w:World} {h:AG} {b:Ae} {g:Nat} {a1 a2 a3 a4 a5 a6 a7:Value} (R:Ag w (Ar h b)) (hne: ∀s∈(Ar h b).map Sl.row,s≠some g):Ag (((((((w.setCell ⟨g,0,none⟩ a1).setCell ⟨g,1,none⟩ a2).setCell ⟨g,2,none⟩ a3).setCell ⟨g,3,none⟩ a4).setCell ⟨g,4,none⟩ a5).setCell ⟨g,5,none⟩ a6).setCell ⟨g,6,none⟩ a7) (Ar h b):=
 ((((((R.cell_ hne).cell_ hne).cell_ hne).cell_ hne).cell_ hne).cell_ hne).cell_ hne
theorem BH {B:Nat} {w0 w:World} (k:Below B w0 w) {g:Nat} (hg:B≤g) {a b c d e f h:Value}:Below B w0 (((((((w.setCell ⟨g,0,none⟩ a).setCell ⟨g,1,none⟩ b).setCell ⟨g,2,none⟩ c).setCell ⟨g,3,none⟩ d).setCell ⟨g,4,none⟩ e).setCell ⟨g,5,none⟩ f).setCell ⟨g,6,none⟩ h):=
 ((((((k.setCell (p:=⟨g,0,none⟩) hg _).setCell (p:=⟨g,1,none⟩) hg _).setCell (p:=⟨g,2,none⟩) hg _).setCell (p:=⟨g,3,none⟩) hg _).setCell (p:=⟨g,4,none⟩) hg _).setCell (p:=⟨g,5,none⟩) hg _).setCell (p:=⟨g,6,none⟩) hg _
theorem cR {X v1:World} {row:Option Nat} {E:Obj} {t k l x y d r:Int} {ty:TypeId} (gg:((X.alloc E).alloc (.cells (AD t k l x y d r) ty)).drew.grownBy v1 row) (hr:row=none):Rd v1 (some ⟨X+1,0,none⟩) (1*7) (ints [t,k,l,x,y,d,r]):=by
 have h:=IZ (X.alloc E) t k l x y d r ty;rw[World.size_alloc] at h;exact Rd.grown (show Rd ((X.alloc E).alloc (.cells (AD t k l x y d r) ty)).drew _ _ _ from h) gg (fun _ _ _ c=>by rw[hr] at c;cases c)
theorem cV {X v1:World} {row:Option Nat} {E:Obj} {t k l x y d r:Int} {ty:TypeId} (gg:((X.alloc (.cells (AD t k l x y d r) ty)).alloc E).drew.grownBy v1 row) (hr:row=none):Rd v1 (some ⟨X,0,none⟩) (1*7) (ints [t,k,l,x,y,d,r]):=by
 have h:=(IZ X t k l x y d r ty).below ((AP _ _).alloc Bk E);exact Rd.grown (show Rd ((X.alloc (.cells (AD t k l x y d r) ty)).alloc E).drew _ _ _ from h) gg (fun _ _ _ c=>by rw[hr] at c;cases c)
theorem JE (t k l x y d r:Int) (h:AG) (b:Ae) (w:World) (ok:D9 b) (hr:Ag w (Ar h b)):
  Calls prog 122 #[At h b,AD t k l x y d r] w (CG h (addB b t k l x y d r) (adC b t k l x y d r) w):=by
 have hR:=fun W=>Dt t k l x y d r W;have hrl:=hr.lo;obtain⟨⟨DA,dn,dc⟩,⟨SA,sn,sc⟩,⟨LA,ln,lc⟩⟩:=h;have RD:=hr.head;have RS:=hr.tail.head;have RL:=hr.tail.tail.head;simp only at RD RS RL;have hl:b.log.length=ln*7:=RL.len;have hlg:lgN b=ln:=by unfold lgN;omega
 have h200:ln≤200:=by have:=ok.n;omega
 unfold At;have b0:Below w w (((w.alloc (.cells (Ad DA dn dc SA sn sc b LA ln lc) 35)).alloc (.cells (AD t k l x y d r) 67)).alloc (.cells Ap 35)):=Ax;have KB:=((Br w 35 (Ad DA dn dc SA sn sc b LA ln lc)).alloc (.cells (AD t k l x y d r) 67)).alloc (.cells Ap 35);have KR:=(Blk.newN (g:=w+1) (w.alloc (.cells (Ad DA dn dc SA sn sc b LA ln lc) 35)) 67 (AD t k l x y d r) Cr).alloc (.cells Ap 35);have KZ:=Blk.newN (g:=w+1+1) ((w.alloc (.cells (Ad DA dn dc SA sn sc b LA ln lc) 35)).alloc (.cells (AD t k l x y d r) 67)) 35 Ap Cr
 go_enter func122,ntmps122
 go_upto_region 1 with fail
 generalize(((w.alloc _).alloc _).alloc _)=w1 at*;have eR:=KR.cell;have hz1:=b0.size
 have hd1: ∀(W:World) (b':Ae),Below w w W→ ∀x∈(Ar ⟨⟨DA,dn,dc⟩,⟨SA,sn,sc⟩,⟨LA,ln,lc⟩⟩ b').map Sl.row,x≠some (w.heap.size+1+1):=fun W b' bb x hx c=>by
  have h1:=hrl x hx _ c;omega
 have BB: ∀W,Below w w W→Ag W (Ar ⟨⟨DA,dn,dc⟩,⟨SA,sn,sc⟩,⟨LA,ln,lc⟩⟩ b):=fun W bb=>hr.below bb;rcases BA (Cm t k l x y d r) with h1|h1
 rotate_left
 ·have HA:Hid (addB b t k l x y d r=b∧adC b t k l x y d r=2):=by unfold Hid addB adC;rw[h1];exact⟨Ak (fun c=>by cases c.1),rfl⟩
  rw[h1] at hR;generalize addB b t k l x y d r=b' at*;generalize adC b t k l x y d r=cd at*;clear hrl RD RS RL hr
  go_wp2_with (go_at_call 72;refine(hR _).mono ?_;rintro e w2 ⟨rfl,b2⟩;have K2:=KB.below b2 KB.lt;have Z2:=KZ.below b2 KZ.lt;have e2:=K2.cell;have g2:=K2.lt;have e4:=Z2.cell;have f4:=Z2.frozen;have g4:=Z2.lt;have b3:=b0.trans (b2.mono hz1))
  refine AS (v:=.tuple (BQ DA dn dc SA sn sc b LA ln lc 2)) (by simp[results,results122,go_sem,e4,g4]) rfl ?_
  exact⟨⟨⟨DA,dn,dc⟩,⟨SA,sn,sc⟩,⟨LA,ln,lc⟩⟩,by rw[HA.out.1,HA.out.2];rfl,by rw[HA.out.1];exact Bt (BB _ b3) (hd1 _ b b3),fun _ hq=> .inl hq,BH b3 Aa⟩
 rw[h1] at hR
 go_upto_region 3 with(go_at_call 72;refine(hR _).mono ?_;rintro e w2 ⟨rfl,b2⟩)
 have K2:=KB.below b2 KB.lt;have R2:=KR.below b2 KR.lt;have Z2:=KZ.below b2 KZ.lt;have e2:=K2.cell;have g2:=K2.lt;have e4:=Z2.cell;have f4:=Z2.frozen;have g4:=Z2.lt;have b3:=b0.trans (b2.mono hz1);clear b2 KB KR KZ b0 eR hz1 hR
 by_cases h2:ln=200
 ·have HA:Hid (addB b t k l x y d r=b∧adC b t k l x y d r=3):=by
   unfold Hid addB adC;have h3: ¬lgN b<200:=Aa;rw[AA h1,Ak h3];exact⟨Ak (fun c=>h3 c.2),rfl⟩
  generalize addB b t k l x y d r=b' at*;generalize adC b t k l x y d r=cd at*;subst h2;clear hrl RD RS RL hr R2;go_wp2;refine AS (v:=.tuple (BQ DA dn dc SA sn sc b LA 200 lc 3)) (by simp[results,results122,go_sem,e4,g4]) rfl ?_
  exact⟨⟨⟨DA,dn,dc⟩,⟨SA,sn,sc⟩,⟨LA,200,lc⟩⟩,by rw[HA.out.1,HA.out.2];rfl,by rw[HA.out.1];exact Bt (BB _ b3) (hd1 _ b b3),fun _ hq=> .inl hq,BH b3 Aa⟩
 have HA:Hid (addB b t k l x y d r= {b with log:=b.log++ [t,k,l,x,y,d,r]}∧adC b t k l x y d r=0):=by
  unfold Hid addB adC;have h3:lgN b<200:=Aa;rw[AA h1,AA h3];exact⟨AA ⟨h1,h3⟩,rfl⟩
 generalize addB b t k l x y d r=b' at*;generalize adC b t k l x y d r=cd at*;have hnI:((ln:Int)==200)=false:=E8;have RL2:=RL.below b3;have eR2:=R2.cell;have gR2:=R2.lt;clear h2
 go_upto_region 5 with fail
 go_cut [] (fun wx=> ∃G:Hd,Blk wx w.heap.size 35 #[.slice DA dn dc,.slice SA sn sc,.int .i64 b.source,.int .i64 b.cos,.int .i64 b.sin,.int .i64 b.hyp,.slice G.A G.n G.c]∧Blk wx (w.heap.size+1+1) 35 #[.slice none 0 0,.slice none 0 0,.int .i64 0,.int .i64 0,.int .i64 0,.int .i64 0,.slice none 0 0]∧AR wx w2.heap.size 7 G (ints (b.log++ [t,k,l,x,y,d,r]))∧Below w w wx)
 case first=>
  go_region_law (first
   |((fail_if_success (clear o1));refine Be (by rfl) _ _ 33 (by rfl) 67 7 56 underlying33 Gc (by decide) w2.heap.size ⟨some ⟨_,0,none⟩,0,0⟩ [] (by rfl) (AR.empty _ _ _ _) _ ln lc (ints b.log) (by rfl) (RL2.below Ax) (Ao _) (by simp only;omega) (by decide) (show Below w2 w2 _ from Ax).size ?_;intro G1 v1 hG1 o1 gg1 hat1;have HG1:Hid (G1.n=0+ln):=hG1;clear hG1;have rr1:=(R2.below (show Below w2 w2 _ from Ax) gR2).grown gg1 (by simp[Hd.row]);have er1:=rr1.cell;have gr1:=rr1.lt;have kk1:=(K2.below (show Below w2 w2 _ from Ax) g2).grown gg1 (by simp[Hd.row]);have zz1:=(Z2.below (show Below w2 w2 _ from Ax) g4).grown gg1 (by simp[Hd.row]);have ek1:=kk1.cell;have gk1:=kk1.lt;have bz1:Below w w v1:=(b3.trans ((show Below w2 w2 _ from Ax).mono b3.size)).grown gg1 (Ch b3.size (show Below w2 w2 _ from Ax).size) (fun q e=>by simp[Hd.row] at e);have hv1:w2≤v1.heap.size:=Ch (show Below w2 w2 _ from Ax).size gg1.size;(first|have HRD:=cR gg1 (by rfl)|have HRD:=cV gg1 (by rfl)|skip))
   |(refine Be (by rfl) _ _ 33 (by rfl) 67 7 56 underlying33 Gc (by decide) w2.heap.size G1 ([]++ints b.log) (by rfl) (o1.below Ax) _ 1 1 (ints [t,k,l,x,y,d,r]) (by rfl) (by first|exact IZ _ _ _ _ _ _ _ _ _|exact HRD) (Ao _) (by have:=HG1.out;omega) (by decide) (Ch hv1 (show Below v1 v1 _ from Ax).size) ?_;intro G2 v2 hG2 o2 gg2 hat2;clear hG2;have hnr: ∀q,q<w2.heap.size→G1.row≠some q:=fun q hq e=>(by have:=(o1.rowlt q e).1;omega);have kk2:=(kk1.below (show Below v1 v1 _ from Ax) kk1.lt).grown gg2 (hnr _ g2);have zz2:=(zz1.below (show Below v1 v1 _ from Ax) zz1.lt).grown gg2 (hnr _ g4);have ek2:=kk2.cell;have fk2:=kk2.frozen;have gk2:=kk2.lt;have bz2:Below w w v2:=(bz1.trans ((show Below v1 v1 _ from Ax).mono bz1.size)).grown gg2 (Ch bz1.size (show Below v1 v1 _ from Ax).size) (fun q e=>by have:=(o1.rowlt q e).1;have:=b3.size;omega)))
  all_goals
   go_wp2_with fail
   go_meet
   exact⟨G2,kk2.set_ 6 _,zz2.far Aw _,Cu (by rw[List.nil_append,←B8] at o2;exact o2) g2 _,bz2.setCell Bk _⟩
 case rest=>
  obtain⟨G,KG,ZG,OG,bw⟩:=hcut;have eG:=KG.cell;have e5:=ZG.cell;have f5:=ZG.frozen;have g5:=ZG.lt
  have hne: ∀z∈(Ar ⟨⟨DA,dn,dc⟩,⟨SA,sn,sc⟩,G⟩ {b with log:=b.log++ [t,k,l,x,y,d,r]}).map Sl.row,z≠some (w.heap.size+1+1):=fun z hz c=>by
   simp only[Ar,List.map_cons,List.map_nil,CC,I5,or_false,Sl.row] at hz;rcases hz with rfl|rfl|rfl
   ·have:=RD.rowlt _ c;omega
   ·have:=RS.rowlt _ c;omega
   ·have:=OG.wr.blockp c;omega
  have RR:Ag wc (Ar ⟨⟨DA,dn,dc⟩,⟨SA,sn,sc⟩,G⟩ {b with log:=b.log++ [t,k,l,x,y,d,r]}):=Ag.cons (s:=⟨DA,dn,ints b.depths⟩) (RD.below bw) (Ag.cons (s:=⟨SA,sn,ints b.speeds⟩) (RS.below bw) (Ag.cons (s:=⟨G.A,G.n*7,ints (b.log++ [t,k,l,x,y,d,r])⟩) OG.rd (Ag.nil _)));have HGB:Hid (∀q,blkp G.A (G.n*7)=some q→w2≤q):=fun q e=>OG.wr.blockp e;clear OG KG ZG;go_wp2;refine AS (v:=.tuple (BQ DA dn dc SA sn sc b G.A G.n G.c 0)) (by simp[results,results122,go_sem,e5,g5]) rfl ?_
  exact⟨⟨⟨DA,dn,dc⟩,⟨SA,sn,sc⟩,G⟩,by rw[HA.out.1,HA.out.2];rfl,by rw[HA.out.1];exact Bt RR hne,fun q hq=>by
   simp only[BK,CC,I5,or_false] at hq⊢;rcases hq with e|e|e
   ·exact .inl (.inl e)
   ·exact .inl (.inr (.inl e))
   ·have:=HGB.out q e.symm;exact .inr Aa,BH bw Aa⟩
theorem Yo (s:Bs) (A:Option Addr) (c:Nat) (h:AG) (b:Ae) (w:World) (ok:D9 b) (hr:Ag w (Ar h b)) (hn:Rd w A 2 (ints (Co s))):
  Calls prog 95 #[At h b,.string ⟨s.toArray⟩,.string ⟨#[108,101,118,101,108]⟩,.slice A 2 c] w (CG h (addB b (cmI s 0) 1 (cmI s 1) 0 0 0 0) (adC b (cmI s 0) 1 (cmI s 1) 0 0 0 0) w):=by
 have HADD:=fun(W:World) (bb:Below w w W)=>JE (cmI s 0) 1 (cmI s 1) 0 0 0 0 h b W ok (hr.below bb);obtain⟨⟨DA,dn,dc⟩,⟨SA,sn,sc⟩,⟨LA,ln,lc⟩⟩:=h;have hrl:=hr.lo;have b0:Below w w ((w.alloc (.cells (Ad DA dn dc SA sn sc b LA ln lc) 35)).alloc (.cells Ap 35)):=Ax;have KB:=(Br w 35 (Ad DA dn dc SA sn sc b LA ln lc)).alloc (.cells Ap 35);have KO:=Blk.newN (g:=w+1) (w.alloc (.cells (Ad DA dn dc SA sn sc b LA ln lc) 35)) 35 Ap Cr;obtain⟨ad,rfl⟩: ∃ad,A=some ad:=by obtain⟨ad,h,_⟩:=hn.int (k:=0) Ah;exact⟨ad,h⟩
 have hc0:w.cell? ad=some (.int .i64 (cmI s 0)):=Pn hn Ah;have hc1:w.cell? ⟨ad.block,ad.off+1,none⟩=some (.int .i64 (cmI s 1)):=GV hn Ah Ah;unfold CG At at HADD;unfold CG At;generalize(addB b (cmI s 0) 1 (cmI s 1) 0 0 0 0)=b' at*;generalize(adC b (cmI s 0) 1 (cmI s 1) 0 0 0 0)=cd at*;generalize cmI s 0=x0 at*;generalize cmI s 1=x1 at*;have had:=Gr w ad hc0;have hd0:=Cg b0 hc0 had;have hd1:=Cg b0 hc1 had;have had1:=CM had b0.size;clear hr hn
 go_enter func95,ntmps95
 go_upto_region 18 with fail
 generalize(w.alloc _).alloc _=w1 at*;have hb:=KB.cell;have hg:=KB.lt;have hz1:w+1<w1.heap.size:=KO.lt;have hA:=HADD w1.drew (CO b0);clear HADD hc0 hc1
 go_region_held3 (fun w'=>(∀o,w'.cell? ⟨w,o,none⟩=((Ad DA dn dc SA sn sc b LA ln lc):Array Value)[o]?)∧w'.cell? ad=some (.int .i64 x0)∧w'.cell? ⟨ad.block,ad.off+1,none⟩=some (.int .i64 x1))
  (exact Cs)
  (first
   |(go_at_call 122;(with_reducible refine hA.mono ?_);rintro e u ⟨⟨⟨XA,xn,xc⟩,⟨YA,yn,yc⟩,⟨ZA,zn,zc⟩⟩,rfl,RR,HQ,b4⟩;have bu:Below w1 w1 u:=EE (m:=1) b4;have hbu: ∀o,u.cell? ⟨w,o,none⟩=((Ad DA dn dc SA sn sc b LA ln lc):Array Value)[o]? :=fun o=>(KB.below bu hg).cell o;have he0:=Cg bu hd0 had1;have he1:=Cg bu hd1 had1;have ku:=KO.below bu hz1;have eu:=ku.cell;have fu:=ku.frozen;have gu:=ku.lt))
 have HNE:Hid (∀z∈(Ar ⟨⟨XA,xn,xc⟩,⟨YA,yn,yc⟩,⟨ZA,zn,zc⟩⟩ b').map Sl.row,z≠some (w.heap.size+1)):=fun z hz c=>by
  subst c;rcases HQ _ hz with h1|h1
  ·have:=hrl _ h1 _ rfl;omega
  ·simp at h1;omega
 have HQ2:Hid (∀q,some q∈BK ⟨⟨XA,xn,xc⟩,⟨YA,yn,yc⟩,⟨ZA,zn,zc⟩⟩→some q∈BK ⟨⟨DA,dn,dc⟩,⟨SA,sn,sc⟩,⟨LA,ln,lc⟩⟩∨w.heap.size≤q):=fun q hq=>(HQ q hq).imp id (fun h=>by simp at h;omega)
 have bf:=An b0 bu;clear HQ hrl KB hb;go_wp2;refine AS (v:=.tuple (BQ XA xn xc YA yn yc b' ZA zn zc cd)) (by simp[results,results95,go_sem,eu,gu]) rfl ?_
 exact⟨⟨⟨XA,xn,xc⟩,⟨YA,yn,yc⟩,⟨ZA,zn,zc⟩⟩,rfl,Bt RR HNE.out,HQ2.out,BH bf Aa⟩
theorem Ys (s:Bs) (A:Option Addr) (c:Nat) (h:AG) (b:Ae) (w:World) (ok:D9 b) (hr:Ag w (Ar h b)) (hn:Rd w A 5 (ints (Co s))):
  Calls prog 95 #[At h b,.string ⟨s.toArray⟩,.string ⟨#[115,111,117,110,100]⟩,.slice A 5 c] w (CG h (addB b (cmI s 0) 2 0 (cmI s 1) (cmI s 2) (cmI s 3) (cmI s 4)) (adC b (cmI s 0) 2 0 (cmI s 1) (cmI s 2) (cmI s 3) (cmI s 4)) w):=by
 have HADD:=fun(W:World) (bb:Below w w W)=>JE (cmI s 0) 2 0 (cmI s 1) (cmI s 2) (cmI s 3) (cmI s 4) h b W ok (hr.below bb);obtain⟨⟨DA,dn,dc⟩,⟨SA,sn,sc⟩,⟨LA,ln,lc⟩⟩:=h;have hrl:=hr.lo;have b0:Below w w ((w.alloc (.cells (Ad DA dn dc SA sn sc b LA ln lc) 35)).alloc (.cells Ap 35)):=Ax;have KB:=(Br w 35 (Ad DA dn dc SA sn sc b LA ln lc)).alloc (.cells Ap 35);have KO:=Blk.newN (g:=w+1) (w.alloc (.cells (Ad DA dn dc SA sn sc b LA ln lc) 35)) 35 Ap Cr;obtain⟨ad,rfl⟩: ∃ad,A=some ad:=by obtain⟨ad,h,_⟩:=hn.int (k:=0) Ah;exact⟨ad,h⟩
 have hc0:w.cell? ad=some (.int .i64 (cmI s 0)):=Pn hn Ah;have hc1:w.cell? ⟨ad.block,ad.off+1,none⟩=some (.int .i64 (cmI s 1)):=GV hn Ah Ah;have hc2:w.cell? ⟨ad.block,ad.off+2,none⟩=some (.int .i64 (cmI s 2)):=GV hn Ah Ah;have hc3:w.cell? ⟨ad.block,ad.off+3,none⟩=some (.int .i64 (cmI s 3)):=GV hn Ah Ah;have hc4:w.cell? ⟨ad.block,ad.off+4,none⟩=some (.int .i64 (cmI s 4)):=GV hn Ah Ah;unfold CG At at HADD;unfold CG At;generalize(addB b (cmI s 0) 2 0 (cmI s 1) (cmI s 2) (cmI s 3) (cmI s 4))=b' at*;generalize(adC b (cmI s 0) 2 0 (cmI s 1) (cmI s 2) (cmI s 3) (cmI s 4))=cd at*;generalize cmI s 0=x0 at*;generalize cmI s 1=x1 at*;generalize cmI s 2=x2 at*;generalize cmI s 3=x3 at*;generalize cmI s 4=x4 at*;have had:=Gr w ad hc0;have hd0:=Cg b0 hc0 had;have hd1:=Cg b0 hc1 had;have hd2:=Cg b0 hc2 had;have hd3:=Cg b0 hc3 had;have hd4:=Cg b0 hc4 had;have had1:=CM had b0.size;clear hr hn
 go_enter func95,ntmps95
 go_upto_region 20 with fail
 generalize(w.alloc _).alloc _=w1 at*;have hb:=KB.cell;have hg:=KB.lt;have hz1:w+1<w1.heap.size:=KO.lt;have hA:=HADD w1.drew (CO b0);clear HADD hc0 hc1 hc2 hc3 hc4
 go_region_held3 (fun w'=>(∀o,w'.cell? ⟨w,o,none⟩=((Ad DA dn dc SA sn sc b LA ln lc):Array Value)[o]?)∧w'.cell? ad=some (.int .i64 x0)∧w'.cell? ⟨ad.block,ad.off+1,none⟩=some (.int .i64 x1)∧w'.cell? ⟨ad.block,ad.off+2,none⟩=some (.int .i64 x2)∧w'.cell? ⟨ad.block,ad.off+3,none⟩=some (.int .i64 x3)∧w'.cell? ⟨ad.block,ad.off+4,none⟩=some (.int .i64 x4))
  (exact Cs)
  (first
   |(go_at_call 122;(with_reducible refine hA.mono ?_);rintro e u ⟨⟨⟨XA,xn,xc⟩,⟨YA,yn,yc⟩,⟨ZA,zn,zc⟩⟩,rfl,RR,HQ,b4⟩;have bu:Below w1 w1 u:=EE (m:=1) b4;have hbu: ∀o,u.cell? ⟨w,o,none⟩=((Ad DA dn dc SA sn sc b LA ln lc):Array Value)[o]? :=fun o=>(KB.below bu hg).cell o;have he0:=Cg bu hd0 had1;have he1:=Cg bu hd1 had1;have he2:=Cg bu hd2 had1;have he3:=Cg bu hd3 had1;have he4:=Cg bu hd4 had1;have ku:=KO.below bu hz1;have eu:=ku.cell;have fu:=ku.frozen;have gu:=ku.lt))
 have HNE:Hid (∀z∈(Ar ⟨⟨XA,xn,xc⟩,⟨YA,yn,yc⟩,⟨ZA,zn,zc⟩⟩ b').map Sl.row,z≠some (w.heap.size+1)):=fun z hz c=>by
  subst c;rcases HQ _ hz with h1|h1
  ·have:=hrl _ h1 _ rfl;omega
  ·simp at h1;omega
 have HQ2:Hid (∀q,some q∈BK ⟨⟨XA,xn,xc⟩,⟨YA,yn,yc⟩,⟨ZA,zn,zc⟩⟩→some q∈BK ⟨⟨DA,dn,dc⟩,⟨SA,sn,sc⟩,⟨LA,ln,lc⟩⟩∨w.heap.size≤q):=fun q hq=>(HQ q hq).imp id (fun h=>by simp at h;omega)
 have bf:=An b0 bu;clear HQ hrl KB hb;go_wp2;refine AS (v:=.tuple (BQ XA xn xc YA yn yc b' ZA zn zc cd)) (by simp[results,results95,go_sem,eu,gu]) rfl ?_
 exact⟨⟨⟨XA,xn,xc⟩,⟨YA,yn,yc⟩,⟨ZA,zn,zc⟩⟩,rfl,Bt RR HNE.out,HQ2.out,BH bf Aa⟩
theorem aA (s:Bs) (A:Option Addr) (c:Nat) (h:AG) (b:Ae) (w:World) (ok:D9 b) (hr:Ag w (Ar h b)) (hn:Rd w A 1 (ints (Co s))):
  Calls prog 95 #[At h b,.string ⟨s.toArray⟩,.string ⟨#[109,97,114,107]⟩,.slice A 1 c] w (CG h (addB b (cmI s 0) 3 0 0 0 0 0) (adC b (cmI s 0) 3 0 0 0 0 0) w):=by
 have HADD:=fun(W:World) (bb:Below w w W)=>JE (cmI s 0) 3 0 0 0 0 0 h b W ok (hr.below bb);obtain⟨⟨DA,dn,dc⟩,⟨SA,sn,sc⟩,⟨LA,ln,lc⟩⟩:=h;have hrl:=hr.lo;have b0:Below w w ((w.alloc (.cells (Ad DA dn dc SA sn sc b LA ln lc) 35)).alloc (.cells Ap 35)):=Ax;have KB:=(Br w 35 (Ad DA dn dc SA sn sc b LA ln lc)).alloc (.cells Ap 35);have KO:=Blk.newN (g:=w+1) (w.alloc (.cells (Ad DA dn dc SA sn sc b LA ln lc) 35)) 35 Ap Cr;obtain⟨ad,rfl⟩: ∃ad,A=some ad:=by obtain⟨ad,h,_⟩:=hn.int (k:=0) Ah;exact⟨ad,h⟩
 have hc0:w.cell? ad=some (.int .i64 (cmI s 0)):=Pn hn Ah;unfold CG At at HADD;unfold CG At;generalize(addB b (cmI s 0) 3 0 0 0 0 0)=b' at*;generalize(adC b (cmI s 0) 3 0 0 0 0 0)=cd at*;generalize cmI s 0=x0 at*;have had:=Gr w ad hc0;have hd0:=Cg b0 hc0 had;have had1:=CM had b0.size;clear hr hn
 go_enter func95,ntmps95
 go_upto_region 22 with fail
 generalize(w.alloc _).alloc _=w1 at*;have hb:=KB.cell;have hg:=KB.lt;have hz1:w+1<w1.heap.size:=KO.lt;have hA:=HADD w1.drew (CO b0);clear HADD hc0
 go_region_held3 (fun w'=>(∀o,w'.cell? ⟨w,o,none⟩=((Ad DA dn dc SA sn sc b LA ln lc):Array Value)[o]?)∧w'.cell? ad=some (.int .i64 x0))
  (exact Cs)
  (first
   |(go_at_call 122;(with_reducible refine hA.mono ?_);rintro e u ⟨⟨⟨XA,xn,xc⟩,⟨YA,yn,yc⟩,⟨ZA,zn,zc⟩⟩,rfl,RR,HQ,b4⟩;have bu:Below w1 w1 u:=EE (m:=1) b4;have hbu: ∀o,u.cell? ⟨w,o,none⟩=((Ad DA dn dc SA sn sc b LA ln lc):Array Value)[o]? :=fun o=>(KB.below bu hg).cell o;have he0:=Cg bu hd0 had1;have ku:=KO.below bu hz1;have eu:=ku.cell;have fu:=ku.frozen;have gu:=ku.lt))
 have HNE:Hid (∀z∈(Ar ⟨⟨XA,xn,xc⟩,⟨YA,yn,yc⟩,⟨ZA,zn,zc⟩⟩ b').map Sl.row,z≠some (w.heap.size+1)):=fun z hz c=>by
  subst c;rcases HQ _ hz with h1|h1
  ·have:=hrl _ h1 _ rfl;omega
  ·simp at h1;omega
 have HQ2:Hid (∀q,some q∈BK ⟨⟨XA,xn,xc⟩,⟨YA,yn,yc⟩,⟨ZA,zn,zc⟩⟩→some q∈BK ⟨⟨DA,dn,dc⟩,⟨SA,sn,sc⟩,⟨LA,ln,lc⟩⟩∨w.heap.size≤q):=fun q hq=>(HQ q hq).imp id (fun h=>by simp at h;omega)
 have bf:=An b0 bu;clear HQ hrl KB hb;go_wp2;refine AS (v:=.tuple (BQ XA xn xc YA yn yc b' ZA zn zc cd)) (by simp[results,results95,go_sem,eu,gu]) rfl ?_
 exact⟨⟨⟨XA,xn,xc⟩,⟨YA,yn,yc⟩,⟨ZA,zn,zc⟩⟩,rfl,Bt RR HNE.out,HQ2.out,BH bf Aa⟩
theorem ON (s:Bs) (A:Option Addr) (c:Nat) (h:AG) (b:Ae) (w:World) (ok:D9 b) (hr:Ag w (Ar h b)) (hn:Rd w A 1 (ints (Co s))):
  Calls prog 95 #[At h b,.string ⟨s.toArray⟩,.string ⟨#[115,111,117,114,99,101]⟩,.slice A 1 c] w (CG h (if inR (cmI s 0) 0 ((b.depths.length:Int)-1)=true then {b with source:=cmI s 0} else b) (if inR (cmI s 0) 0 ((b.depths.length:Int)-1)=true then 0 else 2) w):=by
 obtain⟨⟨DA,dn,dc⟩,⟨SA,sn,sc⟩,⟨LA,ln,lc⟩⟩:=h;have hdn:b.depths.length=dn:=hr.head.len;have h12:=ok.d12;have hrl:=hr.lo;have b0:Below w w ((w.alloc (.cells (Ad DA dn dc SA sn sc b LA ln lc) 35)).alloc (.cells Ap 35)):=Ax;have KB:=(Br w 35 (Ad DA dn dc SA sn sc b LA ln lc)).alloc (.cells Ap 35);have KO:=Blk.newN (g:=w+1) (w.alloc (.cells (Ad DA dn dc SA sn sc b LA ln lc) 35)) 35 Ap Cr;obtain⟨ad,rfl⟩: ∃ad,A=some ad:=by obtain⟨ad,h,_⟩:=hn.int (k:=0) Ah;exact⟨ad,h⟩
 have hc0:w.cell? ad=some (.int .i64 (cmI s 0)):=Pn hn Ah;rw[hdn] at h12⊢;have HN0: ∀(g:Nat),w.heap.size≤g→ ∀z∈(Ar ⟨⟨DA,dn,dc⟩,⟨SA,sn,sc⟩,⟨LA,ln,lc⟩⟩ b).map Sl.row,z≠some g:=fun g hg z hz c=>by have:=hrl z hz _ c;omega
 have BB: ∀W,Below w w W→Ag W (Ar ⟨⟨DA,dn,dc⟩,⟨SA,sn,sc⟩,⟨LA,ln,lc⟩⟩ b):=fun W bb=>hr.below bb;unfold CG At;generalize cmI s 0=x0 at*;have had:=Gr w ad hc0;have hd0:=Cg b0 hc0 had;have HIN:=fun W=>(Ay x0 0 ((dn:Int)-1) W).mono (R':=fun e w'=>e=.returned (.bool (inR x0 0 ((dn:Int)-1)))∧w'=W) (fun _ _ h=>⟨h.1,h.2.symm⟩);have wd:=Bg ((dn:Int)-1);clear hr hn hc0 hdn;rcases BA (inR x0 0 ((dn:Int)-1)) with hx|hx
 ·rw[AA hx,AA hx];rw[hx] at HIN;clear hx
  go_enter func95,ntmps95
  go_upto_region 9 with fail
  generalize(w.alloc _).alloc _=w1 at*;have hb:=KB.cell;have hbf:=KB.frozen;have e5:=KO.cell;have f5:=KO.frozen;have g5:=KO.lt
  go_quiet ((go_at_call 84;exact Calls.quiet_of_same (HIN _)))
  go_wp2;refine AS (v:=.tuple #[Bp DA dn dc SA sn sc x0 b.cos b.sin b.hyp LA ln lc,ZI 0]) (by simp[results,results95,go_sem,e5,g5]) rfl ?_
  have RQ:=(BB _ b0).cell_ (i:=2) (u:=.int .i64 x0) (HN0 w.heap.size Bk);exact⟨⟨⟨DA,dn,dc⟩,⟨SA,sn,sc⟩,⟨LA,ln,lc⟩⟩,rfl,Bt (b:= {b with source:=x0}) RQ (HN0 _ Aa),fun _ hq=> .inl hq,BH ((Ba b0 _).setCell (p:=⟨w,2,none⟩) Bk _) Aa⟩
 ·have hx': ¬inR x0 0 ((dn:Int)-1)=true:=by rw[hx];decide
  rw[Ak hx',Ak hx'];rw[hx] at HIN;clear hx hx'
  go_enter func95,ntmps95
  go_upto_region 9 with fail
  generalize(w.alloc _).alloc _=w1 at*;have hb:=KB.cell;have e5:=KO.cell;have f5:=KO.frozen;have g5:=KO.lt
  go_quiet ((go_at_call 84;exact Calls.quiet_of_same (HIN _)))
  go_wp2;refine AS (v:=.tuple (BQ DA dn dc SA sn sc b LA ln lc 2)) (by simp[results,results95,go_sem,e5,g5]) rfl ?_
  exact⟨⟨⟨DA,dn,dc⟩,⟨SA,sn,sc⟩,⟨LA,ln,lc⟩⟩,rfl,Bt (BB _ (Ba b0 _)) (HN0 _ Aa),fun _ hq=> .inl hq,BH (Ba b0 _) Aa⟩
theorem Yp (s:Bs) (x0 x1 x2:Int) (ad:Addr) (c:Nat) (h:AG) (b:Ae) (w:World) (hr:Ag w (Ar h b)) (hc0:w.cell? ad=some (.int .i64 x0)) (hc1:w.cell? ⟨ad.block,ad.off+1,none⟩=some (.int .i64 x1)) (hc2:w.cell? ⟨ad.block,ad.off+2,none⟩=some (.int .i64 x2)) (hm:Gj x0 x1=false):
  Calls prog 95 #[At h b,.string ⟨s.toArray⟩,.string ⟨#[114,97,121]⟩,.slice (some ad) 3 c] w (CG h b 2 w):=by
 have HMK0:=fun W=>C4 x0 x1 (decide (x2=1)) W;unfold YB Xp at HMK0;rw[Ak (by rw[hm];decide)] at HMK0
 obtain⟨⟨DA,dn,dc⟩,⟨SA,sn,sc⟩,⟨LA,ln,lc⟩⟩:=h;have hrl:=hr.lo;have b0:Below w w ((w.alloc (.cells (Ad DA dn dc SA sn sc b LA ln lc) 35)).alloc (.cells Ap 35)):=Ax;have KB:=(Br w 35 (Ad DA dn dc SA sn sc b LA ln lc)).alloc (.cells Ap 35);have KO:=Blk.newN (g:=w+1) (w.alloc (.cells (Ad DA dn dc SA sn sc b LA ln lc) 35)) 35 Ap Cr;have HN0: ∀(g:Nat),w.heap.size≤g→ ∀z∈(Ar ⟨⟨DA,dn,dc⟩,⟨SA,sn,sc⟩,⟨LA,ln,lc⟩⟩ b).map Sl.row,z≠some g:=fun g hg z hz c=>by have:=hrl z hz _ c;omega
 have BB: ∀W,Below w w W→Ag W (Ar ⟨⟨DA,dn,dc⟩,⟨SA,sn,sc⟩,⟨LA,ln,lc⟩⟩ b):=fun W bb=>hr.below bb;unfold CG At;have had0:=Gr w ad hc0;replace hc0:=Cg b0 hc0 had0;replace hc1:=Cg b0 hc1 had0;replace hc2:=Cg b0 hc2 had0;have had:=CM had0 b0.size;have hdf:decide (x2=1)=(x2==1):=by rw[Bool.eq_iff_iff,BP,beq_iff_eq]
 rw[hdf] at HMK0;have HMK:=fun(V:World) (bb:Below (((w.alloc (.cells (Ad DA dn dc SA sn sc b LA ln lc) 35)).alloc (.cells Ap 35))).heap.size ((w.alloc (.cells (Ad DA dn dc SA sn sc b LA ln lc) 35)).alloc (.cells Ap 35)) V)=>HMK0 V;clear hr had0 HMK0
 skip
 go_enter func95,ntmps95
 go_upto_region 13 with fail
 generalize(w.alloc _).alloc _=w1 at*;have bA:Below w1 w1 (w1.alloc (.cells Gd 32)):=BU;have hA:=HMK w1.drew GJ;have hB:=HMK (w1.alloc (.cells Gd 32)).drew (CO bA);have KZ:=Blk.drew (Br w1 32 Gd)
 go_cut [12,13] (fun v12 v13 wx=> ∃q:Nat,v12=.pointer (some ⟨q,0,none⟩)∧v13=.int .i64 2∧Blk wx q 32 Gd∧Below w1 w1 wx)
 case first=>
  go_region_held3 (fun w'=>w'.cell? ad=some (.int .i64 x0)∧w'.cell? ⟨ad.block,ad.off+1,none⟩=some (.int .i64 x1)∧w'.cell? ⟨ad.block,ad.off+2,none⟩=some (.int .i64 x2))
   (exact Cs)
   (first
    |(go_at_call 108;(with_reducible refine hA.mono ?_);rintro e u ⟨rfl,b4⟩;have bu:Below w1 w1 u:=EE (m:=1) b4;have z0:=Cg bu hc0 had;have y0:=CM had bu.size;have z1:=Cg bu hc1 had;have y1:=CM had bu.size;have z2:=Cg bu hc2 had;have y2:=CM had bu.size;have KU:=Br u 32 Gd;have bU:Below w1 w1 (u.alloc (.cells Gd 32)):=bu.trans (((AP _ _).alloc Bk _).mono bu.size))
    |(go_at_call 108;(with_reducible refine hB.mono ?_);rintro e u ⟨rfl,b4⟩;have bu:Below w1 w1 u:=(CO bA).trans (b4.mono bA.size);have z0:=Cg bu hc0 had;have y0:=CM had bu.size;have z1:=Cg bu hc1 had;have y1:=CM had bu.size;have z2:=Cg bu hc2 had;have y2:=CM had bu.size;have KU:=KZ.below b4 KZ.lt;have fU:=KU.frozen;have cU:=KU.cell;have hgu:=KU.lt))
  all_goals
   go_wp2_with fail
   go_meet
   first
    |exact⟨u.heap.size,rfl,rfl,KU,bU⟩
    |exact⟨w1.heap.size,rfl,rfl,(((KU.set_ 0 _).set_ 1 _).set_ 2 _),(((bu.setCell (p:=⟨w1,0,none⟩) Bk _).setCell (p:=⟨w1,1,none⟩) Bk _).setCell (p:=⟨w1,2,none⟩) Bk _)⟩
 case rest=>
  obtain⟨q,rfl,rfl,KQ,bw⟩:=hcut;have KB5:=KB.below bw KB.lt;have KZ5:=KO.below bw KO.lt;have hb:=KB5.cell;have e5:=KZ5.cell;have f5:=KZ5.frozen;have g5:=KZ5.lt;have b5:=An b0 bw;clear HMK bA hA hB KZ KB KO hc0 hc1 hc2 KQ KB5 KZ5 bw;go_wp2;refine AS (v:=.tuple (BQ DA dn dc SA sn sc b LA ln lc 2)) (by simp[results,results95,go_sem,e5,g5]) rfl ?_
  exact⟨⟨⟨DA,dn,dc⟩,⟨SA,sn,sc⟩,⟨LA,ln,lc⟩⟩,rfl,Bt (BB _ b5) (HN0 _ Aa),fun _ hq=> .inl hq,BH b5 Aa⟩
theorem Yq (s:Bs) (x0 x1 x2:Int) (ad:Addr) (c:Nat) (h:AG) (b:Ae) (w:World) (hr:Ag w (Ar h b)) (hc0:w.cell? ad=some (.int .i64 x0)) (hc1:w.cell? ⟨ad.block,ad.off+1,none⟩=some (.int .i64 x1)) (hc2:w.cell? ⟨ad.block,ad.off+2,none⟩=some (.int .i64 x2)) (hm:Gj x0 x1=true) (hy:inR x2 0 1=false):
  Calls prog 95 #[At h b,.string ⟨s.toArray⟩,.string ⟨#[114,97,121]⟩,.slice (some ad) 3 c] w (CG h b 2 w):=by
 have HMK0:=fun W=>C4 x0 x1 (decide (x2=1)) W;unfold YB Xp at HMK0;rw[AA hm] at HMK0;have HIN:=fun W=>(Ay x2 0 1 W).mono (R':=fun e w'=>e=.returned (.bool (inR x2 0 1))∧w'=W) (fun _ _ h=>⟨h.1,h.2.symm⟩);obtain⟨⟨DA,dn,dc⟩,⟨SA,sn,sc⟩,⟨LA,ln,lc⟩⟩:=h;have hrl:=hr.lo;have b0:Below w w ((w.alloc (.cells (Ad DA dn dc SA sn sc b LA ln lc) 35)).alloc (.cells Ap 35)):=Ax;have KB:=(Br w 35 (Ad DA dn dc SA sn sc b LA ln lc)).alloc (.cells Ap 35);have KO:=Blk.newN (g:=w+1) (w.alloc (.cells (Ad DA dn dc SA sn sc b LA ln lc) 35)) 35 Ap Cr;have HN0: ∀(g:Nat),w.heap.size≤g→ ∀z∈(Ar ⟨⟨DA,dn,dc⟩,⟨SA,sn,sc⟩,⟨LA,ln,lc⟩⟩ b).map Sl.row,z≠some g:=fun g hg z hz c=>by have:=hrl z hz _ c;omega
 have BB: ∀W,Below w w W→Ag W (Ar ⟨⟨DA,dn,dc⟩,⟨SA,sn,sc⟩,⟨LA,ln,lc⟩⟩ b):=fun W bb=>hr.below bb;unfold CG At;have had0:=Gr w ad hc0;replace hc0:=Cg b0 hc0 had0;replace hc1:=Cg b0 hc1 had0;replace hc2:=Cg b0 hc2 had0;have had:=CM had0 b0.size;have hdf:decide (x2=1)=(x2==1):=by rw[Bool.eq_iff_iff,BP,beq_iff_eq]
 rw[hdf] at HMK0;generalize mkC x0 x1=vc at*;generalize mkH x0 x1=vh at*;obtain⟨vs,hvs⟩: ∃v,mkS x0 x1 (x2==1)=v:=⟨_,rfl⟩;rw[hvs] at HMK0;clear hvs hdf hm;have HMK:=fun(V:World) (bb:Below (((w.alloc (.cells (Ad DA dn dc SA sn sc b LA ln lc) 35)).alloc (.cells Ap 35))).heap.size ((w.alloc (.cells (Ad DA dn dc SA sn sc b LA ln lc) 35)).alloc (.cells Ap 35)) V)=>HMK0 V;clear hr had0 HMK0;rw[hy] at HIN
 go_enter func95,ntmps95
 go_upto_region 13 with fail
 generalize(w.alloc _).alloc _=w1 at*;have bA:Below w1 w1 (w1.alloc (.cells Gd 32)):=BU;have hA:=HMK w1.drew GJ;have hB:=HMK (w1.alloc (.cells Gd 32)).drew (CO bA);have KZ:=Blk.drew (Br w1 32 Gd)
 go_cut [12,13] (fun v12 v13 wx=> ∃q:Nat,v12=.pointer (some ⟨q,0,none⟩)∧v13=.int .i64 0∧Blk wx q 32 (Ziii vc vs vh)∧Below w1 w1 wx)
 case first=>
  go_region_held3 (fun w'=>w'.cell? ad=some (.int .i64 x0)∧w'.cell? ⟨ad.block,ad.off+1,none⟩=some (.int .i64 x1)∧w'.cell? ⟨ad.block,ad.off+2,none⟩=some (.int .i64 x2))
   (exact Cs)
   (first
    |(go_at_call 108;(with_reducible refine hA.mono ?_);rintro e u ⟨rfl,b4⟩;have bu:Below w1 w1 u:=EE (m:=1) b4;have z0:=Cg bu hc0 had;have y0:=CM had bu.size;have z1:=Cg bu hc1 had;have y1:=CM had bu.size;have z2:=Cg bu hc2 had;have y2:=CM had bu.size;have KU:=Br u 32 (Ziii vc vs vh);have bU:Below w1 w1 (u.alloc (.cells (Ziii vc vs vh) 32)):=bu.trans (((AP _ _).alloc Bk _).mono bu.size))
    |(go_at_call 108;(with_reducible refine hB.mono ?_);rintro e u ⟨rfl,b4⟩;have bu:Below w1 w1 u:=(CO bA).trans (b4.mono bA.size);have z0:=Cg bu hc0 had;have y0:=CM had bu.size;have z1:=Cg bu hc1 had;have y1:=CM had bu.size;have z2:=Cg bu hc2 had;have y2:=CM had bu.size;have KU:=KZ.below b4 KZ.lt;have fU:=KU.frozen;have cU:=KU.cell;have hgu:=KU.lt))
  all_goals
   go_wp2_with fail
   go_meet
   first
    |exact⟨u.heap.size,rfl,rfl,KU,bU⟩
    |exact⟨w1.heap.size,rfl,rfl,(((KU.set_ 0 _).set_ 1 _).set_ 2 _),(((bu.setCell (p:=⟨w1,0,none⟩) Bk _).setCell (p:=⟨w1,1,none⟩) Bk _).setCell (p:=⟨w1,2,none⟩) Bk _)⟩
 case rest=>
  obtain⟨q,rfl,rfl,KQ,bw⟩:=hcut;have z2:=Cg bw hc2 had;have KB5:=KB.below bw KB.lt;have KZ5:=KO.below bw KO.lt;have hb:=KB5.cell;have hbf:=KB5.frozen;have hg:=KB5.lt;have e5:=KZ5.cell;have f5:=KZ5.frozen;have g5:=KZ5.lt;have eq:=KQ.cell;have gq:=KQ.lt;have b5:=An b0 bw;clear HMK bA hA hB KZ KB KO hc0 hc1 hc2 KQ KB5 KZ5 bw
  go_wp2_with (go_at_call 84;refine(HIN _).mono ?_;rintro e w' ⟨rfl,rfl⟩)
  refine AS (v:=.tuple (BQ DA dn dc SA sn sc b LA ln lc 2)) (by simp[results,results95,go_sem,e5,g5]) rfl ?_
  exact⟨⟨⟨DA,dn,dc⟩,⟨SA,sn,sc⟩,⟨LA,ln,lc⟩⟩,rfl,Bt (BB _ b5) (HN0 _ Aa),fun _ hq=> .inl hq,BH b5 Aa⟩
theorem Yr (s:Bs) (x0 x1 x2:Int) (ad:Addr) (c:Nat) (h:AG) (b:Ae) (w:World) (hr:Ag w (Ar h b)) (hc0:w.cell? ad=some (.int .i64 x0)) (hc1:w.cell? ⟨ad.block,ad.off+1,none⟩=some (.int .i64 x1)) (hc2:w.cell? ⟨ad.block,ad.off+2,none⟩=some (.int .i64 x2)) (hm:Gj x0 x1=true) (hy:inR x2 0 1=true):
  Calls prog 95 #[At h b,.string ⟨s.toArray⟩,.string ⟨#[114,97,121]⟩,.slice (some ad) 3 c] w (CG h {b with cos:=mkC x0 x1,sin:=mkS x0 x1 (decide (x2=1)),hyp:=mkH x0 x1} 0 w):=by
 have HMK0:=fun W=>C4 x0 x1 (decide (x2=1)) W;unfold YB Xp at HMK0;rw[AA hm] at HMK0;have HIN:=fun W=>(Ay x2 0 1 W).mono (R':=fun e w'=>e=.returned (.bool (inR x2 0 1))∧w'=W) (fun _ _ h=>⟨h.1,h.2.symm⟩);obtain⟨⟨DA,dn,dc⟩,⟨SA,sn,sc⟩,⟨LA,ln,lc⟩⟩:=h;have hrl:=hr.lo;have b0:Below w w ((w.alloc (.cells (Ad DA dn dc SA sn sc b LA ln lc) 35)).alloc (.cells Ap 35)):=Ax;have KB:=(Br w 35 (Ad DA dn dc SA sn sc b LA ln lc)).alloc (.cells Ap 35);have KO:=Blk.newN (g:=w+1) (w.alloc (.cells (Ad DA dn dc SA sn sc b LA ln lc) 35)) 35 Ap Cr;have HN0: ∀(g:Nat),w.heap.size≤g→ ∀z∈(Ar ⟨⟨DA,dn,dc⟩,⟨SA,sn,sc⟩,⟨LA,ln,lc⟩⟩ b).map Sl.row,z≠some g:=fun g hg z hz c=>by have:=hrl z hz _ c;omega
 have BB: ∀W,Below w w W→Ag W (Ar ⟨⟨DA,dn,dc⟩,⟨SA,sn,sc⟩,⟨LA,ln,lc⟩⟩ b):=fun W bb=>hr.below bb;unfold CG At;have had0:=Gr w ad hc0;replace hc0:=Cg b0 hc0 had0;replace hc1:=Cg b0 hc1 had0;replace hc2:=Cg b0 hc2 had0;have had:=CM had0 b0.size;have hdf:decide (x2=1)=(x2==1):=by rw[Bool.eq_iff_iff,BP,beq_iff_eq]
 rw[hdf] at HMK0;generalize mkC x0 x1=vc at*;generalize mkH x0 x1=vh at*;obtain⟨vs,hvs⟩: ∃v,mkS x0 x1 (x2==1)=v:=⟨_,rfl⟩;rw[hvs] at HMK0;rw[hdf,hvs];clear hvs hdf hm;have HMK:=fun(V:World) (bb:Below (((w.alloc (.cells (Ad DA dn dc SA sn sc b LA ln lc) 35)).alloc (.cells Ap 35))).heap.size ((w.alloc (.cells (Ad DA dn dc SA sn sc b LA ln lc) 35)).alloc (.cells Ap 35)) V)=>HMK0 V;clear hr had0 HMK0;rw[hy] at HIN
 go_enter func95,ntmps95
 go_upto_region 13 with fail
 generalize(w.alloc _).alloc _=w1 at*;have bA:Below w1 w1 (w1.alloc (.cells Gd 32)):=BU;have hA:=HMK w1.drew GJ;have hB:=HMK (w1.alloc (.cells Gd 32)).drew (CO bA);have KZ:=Blk.drew (Br w1 32 Gd)
 go_cut [12,13] (fun v12 v13 wx=> ∃q:Nat,v12=.pointer (some ⟨q,0,none⟩)∧v13=.int .i64 0∧Blk wx q 32 (Ziii vc vs vh)∧Below w1 w1 wx)
 case first=>
  go_region_held3 (fun w'=>w'.cell? ad=some (.int .i64 x0)∧w'.cell? ⟨ad.block,ad.off+1,none⟩=some (.int .i64 x1)∧w'.cell? ⟨ad.block,ad.off+2,none⟩=some (.int .i64 x2))
   (exact Cs)
   (first
    |(go_at_call 108;(with_reducible refine hA.mono ?_);rintro e u ⟨rfl,b4⟩;have bu:Below w1 w1 u:=EE (m:=1) b4;have z0:=Cg bu hc0 had;have y0:=CM had bu.size;have z1:=Cg bu hc1 had;have y1:=CM had bu.size;have z2:=Cg bu hc2 had;have y2:=CM had bu.size;have KU:=Br u 32 (Ziii vc vs vh);have bU:Below w1 w1 (u.alloc (.cells (Ziii vc vs vh) 32)):=bu.trans (((AP _ _).alloc Bk _).mono bu.size))
    |(go_at_call 108;(with_reducible refine hB.mono ?_);rintro e u ⟨rfl,b4⟩;have bu:Below w1 w1 u:=(CO bA).trans (b4.mono bA.size);have z0:=Cg bu hc0 had;have y0:=CM had bu.size;have z1:=Cg bu hc1 had;have y1:=CM had bu.size;have z2:=Cg bu hc2 had;have y2:=CM had bu.size;have KU:=KZ.below b4 KZ.lt;have fU:=KU.frozen;have cU:=KU.cell;have hgu:=KU.lt))
  all_goals
   go_wp2_with fail
   go_meet
   first
    |exact⟨u.heap.size,rfl,rfl,KU,bU⟩
    |exact⟨w1.heap.size,rfl,rfl,(((KU.set_ 0 _).set_ 1 _).set_ 2 _),(((bu.setCell (p:=⟨w1,0,none⟩) Bk _).setCell (p:=⟨w1,1,none⟩) Bk _).setCell (p:=⟨w1,2,none⟩) Bk _)⟩
 case rest=>
  obtain⟨q,rfl,rfl,KQ,bw⟩:=hcut;have z2:=Cg bw hc2 had;have KB5:=KB.below bw KB.lt;have KZ5:=KO.below bw KO.lt;have hb:=KB5.cell;have hbf:=KB5.frozen;have hg:=KB5.lt;have e5:=KZ5.cell;have f5:=KZ5.frozen;have g5:=KZ5.lt;have eq:=KQ.cell;have gq:=KQ.lt;have b5:=An b0 bw;clear HMK bA hA hB KZ KB KO hc0 hc1 hc2 KQ KB5 KZ5 bw
  go_wp2_with (go_at_call 84;refine(HIN _).mono ?_;rintro e w' ⟨rfl,rfl⟩)
  refine AS (v:=.tuple #[Bp DA dn dc SA sn sc b.source vc vs vh LA ln lc,ZI 0]) (by simp[results,results95,go_sem,e5,g5]) rfl ?_
  have RQ:=(((BB _ b5).cell_ (i:=3) (u:=.int .i64 vc) (HN0 w.heap.size Bk)).cell_ (i:=4) (u:=.int .i64 vs) (HN0 w.heap.size Bk)).cell_ (i:=5) (u:=.int .i64 vh) (HN0 w.heap.size Bk);exact⟨⟨⟨DA,dn,dc⟩,⟨SA,sn,sc⟩,⟨LA,ln,lc⟩⟩,rfl,Bt (b:= {b with cos:=vc,sin:=vs,hyp:=vh}) RQ (HN0 _ Aa),fun _ hq=> .inl hq,BH (((b5.setCell (p:=⟨w,3,none⟩) Bk _).setCell (p:=⟨w,4,none⟩) Bk _).setCell (p:=⟨w,5,none⟩) Bk _) Aa⟩
theorem Xf (s:Bs) (A:Option Addr) (c:Nat) (h:AG) (b:Ae) (w:World) (ok:D9 b) (hr:Ag w (Ar h b)) (hn:Rd w A 3 (ints (Co s))):
  Calls prog 95 #[At h b,.string ⟨s.toArray⟩,.string ⟨#[114,97,121]⟩,.slice A 3 c] w (CG h (if Gj (cmI s 0) (cmI s 1)=true∧inR (cmI s 2) 0 1=true then {b with cos:=mkC (cmI s 0) (cmI s 1),sin:=mkS (cmI s 0) (cmI s 1) (decide (cmI s 2=1)),hyp:=mkH (cmI s 0) (cmI s 1)} else b) (if Gj (cmI s 0) (cmI s 1)=true∧inR (cmI s 2) 0 1=true then 0 else 2) w):=by
 obtain⟨ad,rfl⟩: ∃ad,A=some ad:=by obtain⟨ad,h,_⟩:=hn.int (k:=0) Ah;exact⟨ad,h⟩
 have hc0:w.cell? ad=some (.int .i64 (cmI s 0)):=Pn hn Ah;have hc1:w.cell? ⟨ad.block,ad.off+1,none⟩=some (.int .i64 (cmI s 1)):=GV hn Ah Ah;have hc2:w.cell? ⟨ad.block,ad.off+2,none⟩=some (.int .i64 (cmI s 2)):=GV hn Ah Ah
 by_cases hm:Gj (cmI s 0) (cmI s 1)=true
 ·by_cases hy:inR (cmI s 2) 0 1=true
  ·rw[AA ⟨hm,hy⟩,AA ⟨hm,hy⟩];exact Yr s _ _ _ ad c h b w hr hc0 hc1 hc2 hm hy
  ·rw[Ak (fun k=>hy k.2),Ak (fun k=>hy k.2)];exact Yq s _ _ _ ad c h b w hr hc0 hc1 hc2 hm (by simpa using hy)
 ·rw[Ak (fun k=>hm k.1),Ak (fun k=>hm k.1)];exact Yp s _ _ _ ad c h b w hr hc0 hc1 hc2 (by simpa using hm)
theorem M9 {s:Bs} (hw:cmH s=Av) (hb:Dm s=true):(splitC 32 s).length=2∧(splitC 32 s).getD 1 []=cmT s:=by
 have h2:=(J1 hw).1;rw[hb] at h2;have h3:=h2.symm;rw[CD,BP] at h3;exact⟨h3.1,rfl⟩
theorem MW (s:Bs) (A:Option Addr) (n c:Nat) (h:AG) (b:Ae) (w:World) (hr:Ag w (Ar h b)) (hs:s.length≤100000) (hb:Dm s=true) (hw:cmH s=Av) (hp:Fm (cmT s)=false):
  Calls prog 95 #[At h b,.string ⟨s.toArray⟩,.string ⟨#[112,114,111,102,105,108,101]⟩,.slice A n c] w (CG h b 6 w):=by
 have HSP: ∀V,Calls prog 60 #[.string ⟨s.toArray⟩,.int .u8 32] V fun e w'=> ∃ad d,e=.returned (.slice (some ad) 2 d)∧w'.cell? ⟨ad.block,ad.off+1,none⟩=some (.string ⟨(cmT s).toArray⟩)∧Below V V w':=fun V=>by
  refine(ID s V Aa).mono ?_;rintro e w' ⟨B,d,rfl,R,_,bl⟩;rw[(M9 hw hb).1] at R⊢;obtain⟨ad,rfl,hx⟩:=R.str (k:=1) Ah;rw[(M9 hw hb).2,Hf ad 1 Ah] at hx;exact⟨ad,d,rfl,hx,bl⟩
 have hlen:(cmT s).length≤100000:=by
  have h1:=AN List.length (Na hw hb).1;rw[Dy] at h1;omega
 have HRP: ∀V,Calls prog 121 #[.string ⟨(cmT s).toArray⟩] V fun e w'=>e=.returned (.tuple Eb)∧Below V V w':=fun V=>(Fr (cmT s) V hlen).mono fun e w' k=>by
  rcases k with⟨_,h1,h2⟩|⟨_,_,h0,_⟩
  ·exact⟨h1,h2⟩
  ·rw[hp] at h0;cases h0
 obtain⟨⟨DA,dn,dc⟩,⟨SA,sn,sc⟩,⟨LA,ln,lc⟩⟩:=h;have hrl:=hr.lo;have b0:Below w w ((w.alloc (.cells (Ad DA dn dc SA sn sc b LA ln lc) 35)).alloc (.cells Ap 35)):=Ax;have KB:=(Br w 35 (Ad DA dn dc SA sn sc b LA ln lc)).alloc (.cells Ap 35);have KO:=Blk.newN (g:=w+1) (w.alloc (.cells (Ad DA dn dc SA sn sc b LA ln lc) 35)) 35 Ap Cr;have HN0: ∀(g:Nat),w.heap.size≤g→ ∀z∈(Ar ⟨⟨DA,dn,dc⟩,⟨SA,sn,sc⟩,⟨LA,ln,lc⟩⟩ b).map Sl.row,z≠some g:=fun g hg z hz c=>by have:=hrl z hz _ c;omega
 have BB: ∀W,Below w w W→Ag W (Ar ⟨⟨DA,dn,dc⟩,⟨SA,sn,sc⟩,⟨LA,ln,lc⟩⟩ b):=fun W bb=>hr.below bb;unfold CG At;generalize cmT s=tx at*;clear hr hlen hb hw
 go_enter func95,ntmps95
 go_upto_region 3 with fail
 generalize(w.alloc _).alloc _=w1 at*;have gB1:=KB.lt;have gO1:=KO.lt
 go_upto_region 4 with(first|(go_at_call 60;refine(HSP _).mono ?_;rintro e w2 ⟨ad,d,rfl,hx,b2⟩)|(go_at_call 121;refine(HRP _).mono ?_;rintro e w3 ⟨rfl,b3⟩))
 have b13:=An b2 b3;have al:Below w3 w3 (w3.alloc (.cells QW 30)):=BU;have b14:=An b13 al;have KB4:=KB.below b14 gB1;have KO4:=KO.below b14 gO1;clear HSP HRP hx b2 b3 KB KO;generalize w3.alloc _=w4 at*;generalize hq3:w3.heap.size=q3 at ⊢;have hb:=KB4.cell;have e5:=KO4.cell;have f5:=KO4.frozen;have g5:=KO4.lt;have b5:=An b0 b14;clear KB4 KO4 b13 al;go_wp2;refine AS (v:=.tuple (BQ DA dn dc SA sn sc b LA ln lc 6)) (by simp[results,results95,go_sem,e5,g5]) rfl ?_
 exact⟨⟨⟨DA,dn,dc⟩,⟨SA,sn,sc⟩,⟨LA,ln,lc⟩⟩,rfl,Bt (BB _ b5) (HN0 _ Aa),fun _ hq=> .inl hq,BH b5 Aa⟩
theorem OM (s:Bs) (A:Option Addr) (n c:Nat) (h:AG) (b:Ae) (w:World) (hr:Ag w (Ar h b)) (hs:s.length≤100000) (hb:Dm s=true) (hw:cmH s=Av) (hp:Fm (cmT s)=true):
  Calls prog 95 #[At h b,.string ⟨s.toArray⟩,.string ⟨#[112,114,111,102,105,108,101]⟩,.slice A n c] w (CG h {b with depths:=rpD (cmT s),speeds:=rpV (cmT s),source:=0} 0 w):=by
 have HSP: ∀V,Calls prog 60 #[.string ⟨s.toArray⟩,.int .u8 32] V fun e w'=> ∃ad d,e=.returned (.slice (some ad) 2 d)∧w'.cell? ⟨ad.block,ad.off+1,none⟩=some (.string ⟨(cmT s).toArray⟩)∧Below V V w':=fun V=>by
  refine(ID s V Aa).mono ?_;rintro e w' ⟨B,d,rfl,R,_,bl⟩;rw[(M9 hw hb).1] at R⊢;obtain⟨ad,rfl,hx⟩:=R.str (k:=1) Ah;rw[(M9 hw hb).2,Hf ad 1 Ah] at hx;exact⟨ad,d,rfl,hx,bl⟩
 have hlen:(cmT s).length≤100000:=by
  have h1:=AN List.length (Na hw hb).1;rw[Dy] at h1;omega
 have HRP: ∀V,Calls prog 121 #[.string ⟨(cmT s).toArray⟩] V fun e w'=> ∃hd hv:Hd,e=.returned (.tuple #[CH hd.A hd.n hd.c hv.A hv.n hv.c,.bool true])∧Rd w' hd.A hd.n (ints (rpD (cmT s)))∧Rd w' hv.A hv.n (ints (rpV (cmT s)))∧(∀q,blkp hd.A hd.n=some q∨blkp hv.A hv.n=some q→V≤q)∧Below V V w':=fun V=>(Fr (cmT s) V hlen).mono fun e w' k=>by
  rcases k with⟨h0,_⟩|⟨hd,hv,_,h1,h2,h3,h4,h5⟩
  ·rw[hp] at h0;cases h0
  ·exact⟨hd,hv,h1,h2,h3,h4,h5⟩
 obtain⟨⟨DA,dn,dc⟩,⟨SA,sn,sc⟩,⟨LA,ln,lc⟩⟩:=h;have hrl:=hr.lo;have b0:Below w w ((w.alloc (.cells (Ad DA dn dc SA sn sc b LA ln lc) 35)).alloc (.cells Ap 35)):=Ax;have KB:=(Br w 35 (Ad DA dn dc SA sn sc b LA ln lc)).alloc (.cells Ap 35);have KO:=Blk.newN (g:=w+1) (w.alloc (.cells (Ad DA dn dc SA sn sc b LA ln lc) 35)) 35 Ap Cr;unfold CG At;have hRL:=hr.tail.tail.head;generalize cmT s=tx at*;generalize rpD tx=pd at*;generalize rpV tx=pv at*;clear hr hlen hb hw
 go_enter func95,ntmps95
 go_upto_region 3 with fail
 generalize(w.alloc _).alloc _=w1 at*;have gB1:=KB.lt;have gO1:=KO.lt
 go_upto_region 4 with(first|(go_at_call 60;refine(HSP _).mono ?_;rintro e w2 ⟨ad,d,rfl,hx,b2⟩)|(go_at_call 121;refine(HRP _).mono ?_;rintro e w3 ⟨⟨PA,pn,pc⟩,⟨VA,vn,vc⟩,rfl,RP,RV,HPV,b3⟩))
 have b13:=An b2 b3;have al:Below w3 w3 (w3.alloc (.cells (CH PA pn pc VA vn vc) 30)):=BU;have KP:=Br w3 30 (CH PA pn pc VA vn vc);have b14:=An b13 al;have KB4:=KB.below b14 gB1;have KO4:=KO.below b14 gO1;have hz2:=b2.size;have RP4:=RP.below al;have RV4:=RV.below al;have RL4:=(hRL.below b0).below b14;have HR4:Ag (w3.alloc (.cells (CH PA pn pc VA vn vc) 30)) (Ar ⟨⟨PA,pn,pc⟩,⟨VA,vn,vc⟩,⟨LA,ln,lc⟩⟩ {b with depths:=pd,speeds:=pv,source:=0}):=Ag.cons (s:=⟨PA,pn,ints pd⟩) RP4 (Ag.cons (s:=⟨VA,vn,ints pv⟩) RV4 (Ag.cons (s:=⟨LA,ln*7,ints b.log⟩) RL4 (Ag.nil _)))
 have HQR:Hid (∀q,some q∈BK ⟨⟨PA,pn,pc⟩,⟨VA,vn,vc⟩,⟨LA,ln,lc⟩⟩→some q∈BK ⟨⟨DA,dn,dc⟩,⟨SA,sn,sc⟩,⟨LA,ln,lc⟩⟩∨w1.heap.size≤q):=fun q hq=>by
  simp only[BK,CC,I5,or_false] at hq⊢;rcases hq with e|e|e
  ·have:=HPV q (.inl e.symm);exact .inr Aa
  ·have:=HPV q (.inr e.symm);exact .inr Aa
  ·exact .inl (.inr (.inr e))
 have HN5:Hid (∀(g:Nat),w.heap.size≤g→g<w1→ ∀z∈(Ar ⟨⟨PA,pn,pc⟩,⟨VA,vn,vc⟩,⟨LA,ln,lc⟩⟩ {b with depths:=pd,speeds:=pv,source:=0}).map Sl.row,z≠some g):=fun g h1 h2 z hz c=>by
  subst c;rcases HQR.out g hz with h3|h3
  ·have:=hrl _ h3 _ rfl;omega
  ·omega
 clear RP RV RP4 RV4 RL4 HPV;clear HSP HRP hx b2 b3 KB KO;generalize w3.alloc _=w4 at*;generalize hq3:w3.heap.size=q3 at KP⊢;have hb:=KB4.cell;have hbf:=KB4.frozen;have e5:=KO4.cell;have f5:=KO4.frozen;have g5:=KO4.lt;have eP:=KP.cell;have b5:=An b0 b14;clear KP KB4 KO4 b13 al;go_wp2;refine AS (v:=.tuple #[Bp PA pn pc VA vn vc 0 b.cos b.sin b.hyp LA ln lc,ZI 0]) (by simp[results,results95,go_sem,e5,g5]) rfl ?_
 have RQ:=((HR4.cell_ (i:=0) (u:=.slice PA pn pc) (HN5.out w.heap.size Bk Aa)).cell_ (i:=1) (u:=.slice VA vn vc) (HN5.out w.heap.size Bk Aa)).cell_ (i:=2) (u:=.int .i64 0) (HN5.out w.heap.size Bk Aa);exact⟨⟨⟨PA,pn,pc⟩,⟨VA,vn,vc⟩,⟨LA,ln,lc⟩⟩,rfl,Bt (b:= {b with depths:=pd,speeds:=pv,source:=0}) RQ (HN5.out _ Aa gO1),fun q hq=>(HQR.out q hq).imp id (fun h=>by omega),BH (((b5.setCell (p:=⟨w,0,none⟩) Bk _).setCell (p:=⟨w,1,none⟩) Bk _).setCell (p:=⟨w,2,none⟩) Bk _) Aa⟩
theorem Mx (s:Bs) (A:Option Addr) (n c:Nat) (h:AG) (b:Ae) (w:World) (hr:Ag w (Ar h b)) (hs:s.length≤100000) (hb:Dm s=true) (hw:cmH s=Av):
  Calls prog 95 #[At h b,.string ⟨s.toArray⟩,.string ⟨#[112,114,111,102,105,108,101]⟩,.slice A n c] w (CG h (if Fm (cmT s)=true then {b with depths:=rpD (cmT s),speeds:=rpV (cmT s),source:=0} else b) (if Fm (cmT s)=true then 0 else 6) w):=by
 by_cases h1:Fm (cmT s)=true
 ·rw[AA h1,AA h1];exact OM s A n c h b w hr hs hb hw h1
 ·rw[Ak h1,Ak h1];exact MW s A n c h b w hr hs hb hw (by simpa using h1)
def EY (T:Bs) (w:World) (e:Ending) (w':World):Prop:=
 ∃(t:Bs) (c:Int),e=.returned (.tuple #[.string ⟨t.toArray⟩,ZI c])∧(0≤c∧c≤1000)∧cdT t c=T∧Below w w w'
theorem Ih (n:Nat):Lib.decDigits n=Lib.itoa (n:Int):=rfl
theorem Ou (kn lo hi cd:Int) (up:Bool) (evs:List Int) (n:Int) (ad:Addr) (c:Nat) (h:AG) (b:Ae) (w:World) (hc0:w.cell? ad=some (.int .i64 n))
  (HT: ∀W,Below w w W→Calls prog 123 #[CH h.depths.A h.depths.n h.depths.c h.speeds.A h.speeds.n h.speeds.c,ZI b.source,Ziii b.cos b.sin b.hyp,ZI n] W fun e w'=> ∃he:Hd,e=.returned (.tuple (Dr he.A he.n he.c kn up lo hi cd))∧Rd w' he.A he.n (ints evs)∧(∀ad,he.A=some ad→0<he.n→W≤ad.block)∧Below W W w')
  (hl:evs.length≤100) (ha:BV evs 1 4=true) (h1: -9223372036854775808<lo∧lo≤9223372036854775807) (h2: -9223372036854775808<hi∧hi≤9223372036854775807) (h3:0≤cd∧cd≤1000):
  Calls prog 96 #[At h b,.string ⟨#[116,114,97,99,101]⟩,.slice (some ad) 1 c] w (EY (cdT (orD (hisL evs)++ [32]++ivT lo hi) cd) w):=by
 have HH:=fun(V:World) (he:Hd) (hr:Rd V he.A he.n (ints evs))=>Je he.A he.n he.c evs V (by have:=hr.len;omega) hr ha
 have HI:=fun V=>Kl lo hi V h1.1 h1.2 h2.1 h2.2;have l1:=Bm lo Aa Aa;have l2:=Bm hi Aa Aa
 have l3:(orD (hisL evs)).length≤101:=by
  unfold orD
  split
  ·decide
  ·rw[Tr];omega
 have l4:(ivT lo hi).length≤100:=by unfold ivT;rw[Dy,Dy];simp only[Gt,List.length_nil];omega
 have HO:Hid (orD (hisL evs)=if hisL evs= [] then [45] else hisL evs):=rfl;unfold EY At;generalize orD (hisL evs)=O at*;generalize hisL evs=H at*;generalize ivT lo hi=I at*;obtain⟨S1,hS1⟩: ∃S1,O++ [32]=S1:=⟨_,rfl⟩;obtain⟨S2,hS2⟩: ∃S2,S1++I=S2:=⟨_,rfl⟩;rw[hS1,hS2];have k1:S1.length=O.length+1:=by rw[←hS1,Dy];rfl
 have p1: ¬9223372036854775807<O.length+1:=Aa;have p2: ¬9223372036854775807<S1.length+I.length:=Aa;have s1:((⟨O.toArray⟩:ByteArray)++⟨#[32]⟩)=⟨S1.toArray⟩:=by rw[←hS1];exact AY O [32]
 have s2:((⟨S1.toArray⟩:ByteArray)++⟨I.toArray⟩)=⟨S2.toArray⟩:=by rw[←hS2];exact AY S1 I
 have H3:=Ai h3;clear hS1 hS2 k1 l1 l2 l3 l4 h1 h2 h3 hl ha;obtain⟨⟨DA,dn,dc⟩,⟨SA,sn,sc⟩,⟨LA,ln,lc⟩⟩:=h;have b0:Below w w (w.alloc (.cells (Ad DA dn dc SA sn sc b LA ln lc) 35)):=BU;have KB:=Br w 35 (Ad DA dn dc SA sn sc b LA ln lc);simp only at HT;have had0:=Gr w ad hc0;replace hc0:=Cg b0 hc0 had0;have had:=CM had0 b0.size;have HT1:=fun(V:World) (bb:Below (w.alloc (.cells (Ad DA dn dc SA sn sc b LA ln lc) 35)).heap.size (w.alloc (.cells (Ad DA dn dc SA sn sc b LA ln lc) 35)) V)=>HT V (An b0 bb);clear HT had0
 go_enter func96,ntmps96
 go_upto_region 3 with fail
 generalize w.alloc _=w1 at*;have hg:=KB.lt;have hb:=KB.cell;have bA:Below w1 w1 (w1.alloc (.cells DJ 138)):=BU;have hA:=HT1 w1.drew GJ;have hB:=HT1 (w1.alloc (.cells DJ 138)).drew (CO bA);have KZ:=Blk.drew (Br w1 138 DJ)
 go_cut [8,9,10] (fun v8 v9 v10 wx=> ∃(q:Nat) (he:Hd),v8=.slice he.A he.n he.c∧v9=.pointer (some ⟨q,0,none⟩)∧v10=.int .i64 cd∧Blk wx q 138 (A7 kn up lo hi)∧Rd wx he.A he.n (ints evs)∧Below w1 w1 wx)
 case first=>
  go_region_held3 (fun w'=>(∀o,w'.cell? ⟨w,o,none⟩=((Ad DA dn dc SA sn sc b LA ln lc):Array Value)[o]?)∧w'.cell? ad=some (.int .i64 n))
   (exact Cs)
   (first
    |(go_at_call 123;(with_reducible refine hA.mono ?_);rintro e u ⟨⟨EA,en,ec⟩,rfl,RE,hEA,b4⟩;have bu:Below w1 w1 u:=EE (m:=1) b4;have z0:(∀o,u.cell? ⟨w,o,none⟩=((Ad DA dn dc SA sn sc b LA ln lc):Array Value)[o]?):=fun o=>(KB.below bu hg).cell o;have y0:=CM hg bu.size;have z1:=Cg bu hc0 had;have y1:=CM had bu.size;have KU:=Br u 138 (A7 kn up lo hi);have bU:Below w1 w1 (u.alloc (.cells (A7 kn up lo hi) 138)):=bu.trans (((AP _ _).alloc Bk _).mono bu.size))
    |(go_at_call 123;(with_reducible refine hB.mono ?_);rintro e u ⟨⟨EA,en,ec⟩,rfl,RE,hEA,b4⟩;have bu:Below w1 w1 u:=(CO bA).trans (b4.mono bA.size);have z0:(∀o,u.cell? ⟨w,o,none⟩=((Ad DA dn dc SA sn sc b LA ln lc):Array Value)[o]?):=fun o=>(KB.below bu hg).cell o;have y0:=CM hg bu.size;have z1:=Cg bu hc0 had;have y1:=CM had bu.size;have KU:=KZ.below b4 KZ.lt;have fU:=KU.frozen;have cU:=KU.cell;have hgu:=KU.lt))
  all_goals
   go_wp2_with fail
   go_meet
   first
    |exact⟨u.heap.size,⟨EA,en,ec⟩,rfl,rfl,rfl,KU,RE.below BU,bU⟩
    |exact⟨w1.heap.size,⟨EA,en,ec⟩,rfl,rfl,rfl,((((KU.set_ 0 _).set_ 1 _).set_ 2 _).set_ 3 _),af RE (fun ad e h=>by have h5:=hEA ad e h;simp at h5;omega),((((bu.setCell (p:=⟨w1,0,none⟩) Bk _).setCell (p:=⟨w1,1,none⟩) Bk _).setCell (p:=⟨w1,2,none⟩) Bk _).setCell (p:=⟨w1,3,none⟩) Bk _)⟩
 case rest=>
  obtain⟨q,⟨EA,en,ec⟩,rfl,rfl,rfl,KQ,RE,bw⟩:=hcut;have HH5:=HH _ ⟨EA,en,ec⟩ RE;simp only at HH5;have b5:=An b0 bw;clear HH HT1 hb RE KB hg bA hA hB KZ hc0 had bw b0
  go_upto_region 5 with(go_at_call 124;refine HH5.mono ?_;rintro e w6 ⟨rfl,b6⟩)
  have K6:=KQ.below b6 KQ.lt;have e6:=K6.cell;have b7:=An b5 b6;clear KQ K6 b6 HH5 b5
  by_cases hE:H= []
  ·subst hE;obtain rfl:O= [45]:=HO.out;clear HO
   go_wp2_with (go_at_call 125;refine(HI _).mono ?_;rintro e w8 ⟨rfl,b8⟩)
   refine AS (v:=.tuple #[.string ⟨S2.toArray⟩,ZI cd]) (by simp[results,results96,go_sem]) rfl ⟨S2,cd,rfl,H3.out,rfl,(An b7 b8)⟩
  ·obtain rfl:H=O:=by have:=HO.out;rw[Ak hE] at this;exact this.symm
   have hE2:List.isEmpty H=false:=by simpa using hE
   clear HO
   go_wp2_with (go_at_call 125;refine(HI _).mono ?_;rintro e w8 ⟨rfl,b8⟩)
   refine AS (v:=.tuple #[.string ⟨S2.toArray⟩,ZI cd]) (by simp[results,results96,go_sem]) rfl ⟨S2,cd,rfl,H3.out,rfl,(An b7 b8)⟩
theorem Up (s:Bs) (A:Option Addr) (c:Nat) (h:AG) (b:Ae) (w:World) (ok:D9 b) (hr:Ag w (Ar h b)) (hn:Rd w A 1 (ints (Co s))):
  Calls prog 96 #[At h b,.string ⟨#[116,114,97,99,101]⟩,.slice A 1 c] w (EY (trT b (cmI s 0)) w):=by
 obtain⟨ad,rfl⟩: ∃ad,A=some ad:=by obtain⟨ad,h,_⟩:=hn.int (k:=0) Ah;exact⟨ad,h⟩
 have hc0:w.cell? ad=some (.int .i64 (cmI s 0)):=Pn hn Ah;have H0:=fun(W:World) (bb:Below w w W)=>L9 ⟨h.depths,h.speeds⟩ (rayB b) (cmI s 0) W ⟨hr.head.below bb,hr.tail.head.below bb⟩ (KF ok);have hs:(((rayB b).src:Nat):Int)=b.source:=Lm ok;unfold EV GU at H0;rw[hs] at H0;generalize cmI s 0=n at*
 by_cases h0:trC (rayB b) n=0
 ·obtain⟨x,l,hx⟩: ∃x l,(rayB b).tr n.toNat=some (x,l):=by
   unfold trC at h0
   split at h0
   ·split at h0
    ·cases h0
    ·next y hy=>exact⟨y.1,y.2,hy⟩
   ·cases h0
  have e:trT b n=cdT (orD (hisL (C2 l))++ [32]++ivT x.lo x.hi) 0:=by
   unfold trT cdT;rw[AA h0,hx,AA rfl]
  obtain⟨h1,h2,h3⟩:=dX ok hx
  have hl:(C2 l).length≤100:=by
   have h5:=((KF ok).tr_ok _ _ _ hx).2.1
   have h6:inR n 0 100=true:=by
    rcases BA (inR n 0 100) with o|o
    ·exact o
    ·unfold trC at h0;rw[o] at h0;cases h0
   have h7:=Ac h6;unfold C2;rw[List.length_map];omega
  rw[e];refine Ou (x.k:Int) x.lo x.hi 0 x.dn (C2 l) n ad c h b w hc0 (fun W bb=>(H0 W bb).mono ?_) hl h3 h1 h2 Aa;rintro e w' (⟨h1,_⟩|⟨x',l',he,_,_,hx',rfl,_,_,R,hb,bl⟩)
  ·exact absurd h0 h1
  ·rw[hx] at hx';simp only[Gs,Prod.mk.injEq] at hx';obtain⟨rfl,rfl⟩:=hx';exact⟨he,rfl,R,hb,bl⟩
 ·have e:trT b n=cdT (orD (hisL [])++ [32]++ivT 0 0) (trC (rayB b) n):=by
   unfold trT cdT;rw[Ak h0,Ak h0]
  rw[e];refine Ou 0 0 0 (trC (rayB b) n) false [] n ad c h b w hc0 (fun W bb=>(H0 W bb).mono ?_) Ah rfl Aa Aa (aN _ _);rintro e w' (⟨_,rfl,bl⟩|⟨x',l',he,h1,_⟩)
  ·exact⟨⟨none,0,0⟩,rfl,Rd.nil _ _,(fun _ e=>by cases e),bl⟩
  ·exact absurd h1 h0
theorem VU (s:Bs) (A:Option Addr) (c:Nat) (h:AG) (b:Ae) (w:World) (ok:D9 b) (hr:Ag w (Ar h b)) (hn:Rd w A 6 (ints (Co s))):
  Calls prog 96 #[At h b,.string ⟨#[109,101,101,116]⟩,.slice A 6 c] w (EY (meT b s) w):=by
 have HOC: ∀(W:World),Below w w W→Calls prog 126 #[CH h.depths.A h.depths.n h.depths.c h.speeds.A h.speeds.n h.speeds.c,ZI ((b.source.toNat:Nat):Int),ZI (cmI s 0),ZI (cmI s 1),ZI (cmI s 2),.bool (decide (0<b.sin)),ZI (cmI s 3),ZI (cmI s 4),ZI (cmI s 5)] W fun e w'=> ∃H:Hd,e=.returned (.tuple (Gb H.A H.n H.c (meC b s)))∧H.n=(meL b s).length∧Rd w' H.A H.n (ints (meL b s))∧Below W W w':=fun W bb=>Lj ⟨h.depths,h.speeds⟩ b.depths b.speeds b.source.toNat (cmI s 0) (cmI s 1) (cmI s 2) (cmI s 3) (cmI s 4) (cmI s 5) (decide (0<b.sin)) W ⟨hr.head.below bb,hr.tail.head.below bb⟩ ⟨ok.prof,by have:=Ac ok.src;omega⟩
 rw[Lm ok] at HOC;have HL:=ZY (Qk b (cmI s 0)) b.depths.length (cmI s 0) (cmI s 1) (cmI s 2) (cmI s 3) (cmI s 4) (cmI s 5);have HB:=ZX (Qk b (cmI s 0)) b.depths.length (cmI s 0) (cmI s 1) (cmI s 2) (cmI s 3) (cmI s 4) (cmI s 5);have HN: ¬meC b s=0→meL b s= []:=fun h=>ZZ h;have HT:Hid (meT b s=if meC b s=0 then(if meL b s= [] then [110,111,110,101] else joinI [32] (meL b s)) else erT (meC b s)):=rfl;change(meL b s).length≤100∧ ∀x∈meL b s,-9223372036854775808<x∧x≤9223372036854775807 at HL;change 0≤meC b s∧meC b s≤1000 at HB;obtain⟨ad,rfl⟩: ∃ad,A=some ad:=by obtain⟨ad,h,_⟩:=hn.int (k:=0) Ah;exact⟨ad,h⟩
 have hc0:w.cell? ad=some (.int .i64 (cmI s 0)):=Pn hn Ah;have hc1:w.cell? ⟨ad.block,ad.off+1,none⟩=some (.int .i64 (cmI s 1)):=GV hn Ah Ah;have hc2:w.cell? ⟨ad.block,ad.off+2,none⟩=some (.int .i64 (cmI s 2)):=GV hn Ah Ah;have hc3:w.cell? ⟨ad.block,ad.off+3,none⟩=some (.int .i64 (cmI s 3)):=GV hn Ah Ah;have hc4:w.cell? ⟨ad.block,ad.off+4,none⟩=some (.int .i64 (cmI s 4)):=GV hn Ah Ah;have hc5:w.cell? ⟨ad.block,ad.off+5,none⟩=some (.int .i64 (cmI s 5)):=GV hn Ah Ah;unfold EY At;generalize meT b s=R at*;generalize meC b s=cd at*;generalize meL b s=OL at*;generalize cmI s 0=x0 at*;generalize cmI s 1=x1 at*;generalize cmI s 2=x2 at*;generalize cmI s 3=x3 at*;generalize cmI s 4=x4 at*;generalize cmI s 5=x5 at*;obtain⟨⟨DA,dn,dc⟩,⟨SA,sn,sc⟩,⟨LA,ln,lc⟩⟩:=h;have b0:Below w w (w.alloc (.cells (Ad DA dn dc SA sn sc b LA ln lc) 35)):=BU;have KB:=Br w 35 (Ad DA dn dc SA sn sc b LA ln lc);have had0:=Gr w ad hc0;replace hc0:=Cg b0 hc0 had0;replace hc1:=Cg b0 hc1 had0;replace hc2:=Cg b0 hc2 had0;replace hc3:=Cg b0 hc3 had0;replace hc4:=Cg b0 hc4 had0;replace hc5:=Cg b0 hc5 had0;have had:=CM had0 b0.size;simp only at HOC;have hA:=HOC (w.alloc (.cells (Ad DA dn dc SA sn sc b LA ln lc) 35)).drew (CO b0);clear hr hn had0 HOC
 go_enter func96,ntmps96
 go_upto_region 9 with fail
 generalize w.alloc _=w1 at*;have hg:=KB.lt;have hb:=KB.cell
 go_region_held3 (fun w'=>(∀o,w'.cell? ⟨w,o,none⟩=((Ad DA dn dc SA sn sc b LA ln lc):Array Value)[o]?)∧w'.cell? ad=some (.int .i64 x0)∧w'.cell? ⟨ad.block,ad.off+1,none⟩=some (.int .i64 x1)∧w'.cell? ⟨ad.block,ad.off+2,none⟩=some (.int .i64 x2)∧w'.cell? ⟨ad.block,ad.off+3,none⟩=some (.int .i64 x3)∧w'.cell? ⟨ad.block,ad.off+4,none⟩=some (.int .i64 x4)∧w'.cell? ⟨ad.block,ad.off+5,none⟩=some (.int .i64 x5))
  (exact Cs)
  (first
   |(go_at_call 126;(with_reducible refine hA.mono ?_);rintro e u ⟨⟨OA,on,oc⟩,rfl,hon,RO,b4⟩;have HON:Hid (on=OL.length):=hon;clear hon;have bu:Below w1 w1 u:=EE (m:=1) b4;have hb1: ∀o,u.cell? ⟨w,o,none⟩=((Ad DA dn dc SA sn sc b LA ln lc):Array Value)[o]? :=fun o=>(KB.below bu hg).cell o;have hd0:=Cg bu hc0 had;have hd1:=Cg bu hc1 had;have hd2:=Cg bu hc2 had;have hd3:=Cg bu hc3 had;have hd4:=Cg bu hc4 had;have hd5:u.cell? ⟨ad.block,ad.off+5,none⟩=some (.int .i64 x5):=(JX bu (p:=⟨ad.block,ad.off+5,none⟩) had).trans hc5))
 clear hA hb hb1 KB hg had hc0 hd0 hc1 hd1 hc2 hd2 hc3 hd3 hc4 hd4 hc5 hd5;have RO:Rd u OA on (ints OL):=RO;have bw:=An b0 bu
 by_cases h2:OL= []
 ·subst h2;obtain rfl:on=0:=HON.out
  have HX:Hid (cdT [110,111,110,101] cd=R):=by
   unfold Hid cdT
   by_cases h:cd=0
   ·rw[AA h,HT.out,AA h,AA rfl]
   ·rw[Ak h,HT.out,Ak h]
  clear HT HN;have HB2:=Ai HB;clear HB;go_wp2;refine AS (v:=.tuple #[.string ⟨#[110,111,110,101]⟩,ZI cd]) (by simp[results,results96,go_sem]) rfl ⟨[110,111,110,101],cd,rfl,HB2.out,HX.out,bw⟩
 ·have h0:cd=0:=by
   rcases Int.lt_trichotomy cd 0 with o|o|o
   ·exact absurd (HN Aa) h2
   ·exact o
   ·exact absurd (HN Aa) h2
  subst h0
  have HX:Hid (cdT (joinI [32] OL) 0=R):=by
   unfold Hid cdT;rw[AA rfl,HT.out,AA rfl,Ak h2]
  have hon0: ¬on=0:=fun c=>h2 (Pt (by rw[←HON.out];exact c))
  have honI:((on:Int)==0)=false:=E8;have HJ:=fun(V:World) (r:Rd V OA on (ints OL))=>EC OA on oc OL [32] V (by have:=HON.out;omega) Ah r HL.2
  clear HT HN h2 HL hon0 HB;generalize joinI [32] OL=J at*
  go_wp2_with (go_at_call 127;refine(HJ _ RO).mono ?_;rintro e w3 ⟨rfl,b3⟩)
  refine AS (v:=.tuple #[.string ⟨J.toArray⟩,ZI 0]) (by simp[results,results96,go_sem]) rfl ⟨J,0,rfl,by decide,HX.out,(An bw b3)⟩
theorem Sc (s:Bs) (A:Option Addr) (c:Nat) (h:AG) (b:Ae) (w:World) (ok:D9 b) (hr:Ag w (Ar h b)) (hn:Rd w A 3 (ints (Co s))):
  Calls prog 96 #[At h b,.string ⟨#[99,104,97,110,99,101]⟩,.slice A 3 c] w (EY (chT s) w):=by
 have HX:=fun W=>Ll (cmI s 0) (cmI s 1) (cmI s 2) W;rw[dW] at HX;have hv:=aK (cmI s 0) (cmI s 1) (cmI s 2);have hc:=aJ (cmI s 0) (cmI s 1) (cmI s 2);have HD:=fun V=>Ek (tcV (cmI s 0) (cmI s 1) (cmI s 2)) V hv.1 hv.2;have hR:Hid (cdT (Lib.itoa (tcV (cmI s 0) (cmI s 1) (cmI s 2))) (tcC (cmI s 0) (cmI s 1) (cmI s 2))=chT s):=rfl;obtain⟨ad,rfl⟩: ∃ad,A=some ad:=by obtain⟨ad,h,_⟩:=hn.int (k:=0) Ah;exact⟨ad,h⟩
 have hc0:w.cell? ad=some (.int .i64 (cmI s 0)):=Pn hn Ah;have hc1:w.cell? ⟨ad.block,ad.off+1,none⟩=some (.int .i64 (cmI s 1)):=GV hn Ah Ah;have hc2:w.cell? ⟨ad.block,ad.off+2,none⟩=some (.int .i64 (cmI s 2)):=GV hn Ah Ah;unfold EY At;generalize chT s=R at*;generalize Lib.itoa (tcV (cmI s 0) (cmI s 1) (cmI s 2))=I at*;generalize tcV (cmI s 0) (cmI s 1) (cmI s 2)=v at*;generalize tcC (cmI s 0) (cmI s 1) (cmI s 2)=q at*;generalize cmI s 0=x0 at*;generalize cmI s 1=x1 at*;generalize cmI s 2=x2 at*;obtain⟨⟨DA,dn,dc⟩,⟨SA,sn,sc⟩,⟨LA,ln,lc⟩⟩:=h;have b0:Below w w (w.alloc (.cells (Ad DA dn dc SA sn sc b LA ln lc) 35)):=BU;have had0:=Gr w ad hc0;replace hc0:=Cg b0 hc0 had0;replace hc1:=Cg b0 hc1 had0;replace hc2:=Cg b0 hc2 had0;have had:=CM had0 b0.size;have hA:=HX (w.alloc (.cells (Ad DA dn dc SA sn sc b LA ln lc) 35)).drew;clear hr hn had0 HX hv
 go_enter func96,ntmps96
 go_upto_region 14 with fail
 generalize w.alloc _=w1 at*
 go_region_held3 (fun w'=>w'.cell? ad=some (.int .i64 x0)∧w'.cell? ⟨ad.block,ad.off+1,none⟩=some (.int .i64 x1)∧w'.cell? ⟨ad.block,ad.off+2,none⟩=some (.int .i64 x2))
  (exact Cs)
  (first
   |(go_at_call 128;(with_reducible refine hA.mono ?_);rintro e u ⟨rfl,hu⟩;have bu:Below w1 w1 u:=hu▸CO E9;have hd0:=Cg bu hc0 had;have hd1:=Cg bu hc1 had;have hd2:=(JX bu (p:=⟨ad.block,ad.off+2,none⟩) had).trans hc2))
 have bw:=An b0 bu
 go_wp2_with (go_at_call 89;refine(HD _).mono ?_;rintro e w3 ⟨rfl,b3⟩)
 refine AS (v:=.tuple #[.string ⟨I.toArray⟩,ZI q]) (by simp[results,results96,go_sem]) rfl ⟨I,q,rfl,hc,hR.out,(An bw b3)⟩
theorem VV (s:Bs) (A:Option Addr) (c:Nat) (h:AG) (b:Ae) (w:World) (ok:D9 b) (hr:Ag w (Ar h b)) (hn:Rd w A 3 (ints (Co s))):
  Calls prog 96 #[At h b,.string ⟨#[112,108,97,110]⟩,.slice A 3 c] w (EY (plT s) w):=by
 have HX:=fun W=>L5 (cmI s 0) (cmI s 1) (cmI s 2) W;unfold Ny at HX;have hv:=Zp (cmI s 0) (cmI s 1) (cmI s 2);have hc:=Zk (cmI s 0) (cmI s 1) (cmI s 2);have HJ:=fun(A:Option Addr) (n c:Nat) (V:World) (hr:Rd V A n (ints (evQ (cmI s 0) (cmI s 1) (cmI s 2))))=>EC A n c (evQ (cmI s 0) (cmI s 1) (cmI s 2)) [32] V (by have:=hr.len;omega) Ah hr hv.2
 have hR:Hid (cdT (joinI [32] (evQ (cmI s 0) (cmI s 1) (cmI s 2))) (evC (cmI s 0) (cmI s 1) (cmI s 2))=plT s):=rfl;obtain⟨ad,rfl⟩: ∃ad,A=some ad:=by obtain⟨ad,h,_⟩:=hn.int (k:=0) Ah;exact⟨ad,h⟩
 have hc0:w.cell? ad=some (.int .i64 (cmI s 0)):=Pn hn Ah;have hc1:w.cell? ⟨ad.block,ad.off+1,none⟩=some (.int .i64 (cmI s 1)):=GV hn Ah Ah;have hc2:w.cell? ⟨ad.block,ad.off+2,none⟩=some (.int .i64 (cmI s 2)):=GV hn Ah Ah;unfold EY At;generalize plT s=R at*;generalize joinI [32] (evQ (cmI s 0) (cmI s 1) (cmI s 2))=I at*;generalize evQ (cmI s 0) (cmI s 1) (cmI s 2)=v at*;generalize evC (cmI s 0) (cmI s 1) (cmI s 2)=q at*;generalize cmI s 0=x0 at*;generalize cmI s 1=x1 at*;generalize cmI s 2=x2 at*;obtain⟨⟨DA,dn,dc⟩,⟨SA,sn,sc⟩,⟨LA,ln,lc⟩⟩:=h;have b0:Below w w (w.alloc (.cells (Ad DA dn dc SA sn sc b LA ln lc) 35)):=BU;have had0:=Gr w ad hc0;replace hc0:=Cg b0 hc0 had0;replace hc1:=Cg b0 hc1 had0;replace hc2:=Cg b0 hc2 had0;have had:=CM had0 b0.size;have hA:=HX (w.alloc (.cells (Ad DA dn dc SA sn sc b LA ln lc) 35)).drew;clear hr hn had0 HX hv
 go_enter func96,ntmps96
 go_upto_region 17 with fail
 generalize w.alloc _=w1 at*
 go_region_held3 (fun w'=>w'.cell? ad=some (.int .i64 x0)∧w'.cell? ⟨ad.block,ad.off+1,none⟩=some (.int .i64 x1)∧w'.cell? ⟨ad.block,ad.off+2,none⟩=some (.int .i64 x2))
  (exact Cs)
  (first
   |(go_at_call 129;(with_reducible refine hA.mono ?_);rintro e u ⟨EA,en,ec,rfl,RV,b4⟩;have bu:Below w1 w1 u:=EE (m:=1) b4;have hd0:=Cg bu hc0 had;have hd1:=Cg bu hc1 had;have hd2:=(JX bu (p:=⟨ad.block,ad.off+2,none⟩) had).trans hc2))
 have bw:=An b0 bu
 go_wp2_with (go_at_call 127;refine(HJ _ _ _ _ RV).mono ?_;rintro e w3 ⟨rfl,b3⟩)
 refine AS (v:=.tuple #[.string ⟨I.toArray⟩,ZI q]) (by simp[results,results96,go_sem]) rfl ⟨I,q,rfl,hc,hR.out,(An bw b3)⟩
theorem Ya (s:Bs) (A:Option Addr) (c:Nat) (h:AG) (b:Ae) (w:World) (ok:D9 b) (hr:Ag w (Ar h b)) (hn:Rd w A 0 (ints (Co s))):
  Calls prog 96 #[At h b,.string ⟨#[108,111,103]⟩,.slice A 0 c] w (EY (Lib.itoa (lgN b:Int)) w):=by
 have hl:b.log.length=h.log.n*7:=hr.tail.tail.head.len;have hlg:h.log.n=lgN b:=by unfold lgN;omega
 have h200:lgN b≤200:=ok.n;have HD:=fun V=>Ct (lgN b) V Aa;rw[Ih] at HD;unfold EY At;rw[hlg];have hR:Hid (cdT (Lib.itoa (lgN b:Int)) 0=Lib.itoa (lgN b:Int)):=AA rfl;generalize Lib.itoa (lgN b:Int)=R at*;generalize lgN b=k at*;obtain⟨⟨DA,dn,dc⟩,⟨SA,sn,sc⟩,⟨LA,ln,lc⟩⟩:=h;simp only;clear hl hlg hr hn ok;have b0:Below w w (w.alloc (.cells (Ad DA dn dc SA sn sc b LA k lc) 35)):=BU;have KB:=Br w 35 (Ad DA dn dc SA sn sc b LA k lc)
 go_enter func96,ntmps96
 go_upto_region 20 with fail
 generalize w.alloc _=w1 at*;have hb:=KB.cell
 go_wp2_with (go_at_call 88;refine(HD _).mono ?_;rintro e w3 ⟨rfl,b3⟩)
 refine AS (v:=.tuple #[.string ⟨R.toArray⟩,ZI 0]) (by simp[results,results96,go_sem]) rfl ⟨R,0,rfl,by decide,hR.out,(An b0 b3)⟩
theorem Un (s:Bs) (A:Option Addr) (c:Nat) (h:AG) (b:Ae) (w:World) (ok:D9 b) (hr:Ag w (Ar h b)) (hn:Rd w A 0 (ints (Co s))):
  Calls prog 96 #[At h b,.string ⟨#[99,104,101,99,107]⟩,.slice A 0 c] w (EY (Lib.itoa (chkFold (lgT b.log (lgN b)))) w):=by
 have hl:b.log.length=h.log.n*7:=hr.tail.tail.head.len;have hlg:h.log.n=lgN b:=by unfold lgN;omega
 have h200:lgN b≤200:=ok.n;have hlog:CP b.log (lgN b)=true:=ok.log;have RL:=hr.tail.tail.head;simp only at RL;rw[hlg] at RL;have hlv:FT b.log (lgN b)=true:=by unfold FT;rw[hlog,Ha,BP];omega
 have HL:=fun(V:World) (bb:Below w w V)=>M3 h.log.A (lgN b) h.log.c b.log V Aa (RL.below bb);rw[(Vz hlv).1,(Vz hlv).2] at HL;have hlen:=Kq hlog (lgN b) Bk;have HC:=fun V=>Do ⟨(lgT b.log (lgN b)).toArray⟩ V (by rw[Bj];unfold maxLen;omega)
 rw[show(ByteArray.mk (lgT b.log (lgN b)).toArray).data.toList=lgT b.log (lgN b) from rfl] at HC;have hck:=CV (lgT b.log (lgN b));obtain⟨m,hm⟩: ∃m:Nat,chkFold (lgT b.log (lgN b))=(m:Int):=⟨(chkFold (lgT b.log (lgN b))).toNat,by omega⟩
 rw[hm] at HC hck⊢;have HD:=fun V=>Ct m V Aa;rw[Ih] at HD;unfold EY At;rw[hlg];have hR:Hid (cdT (Lib.itoa (m:Int)) 0=Lib.itoa (m:Int)):=AA rfl;generalize Lib.itoa (m:Int)=R at*;generalize lgT b.log (lgN b)=tx at*;generalize lgN b=k at*;obtain⟨⟨DA,dn,dc⟩,⟨SA,sn,sc⟩,⟨LA,ln,lc⟩⟩:=h;simp only at HL⊢;clear hl hlg hr hn ok RL hlog hlv h200 hlen hm;have b0:Below w w (w.alloc (.cells (Ad DA dn dc SA sn sc b LA k lc) 35)):=BU;have KB:=Br w 35 (Ad DA dn dc SA sn sc b LA k lc);have HL1:=HL _ b0;clear HL
 go_enter func96,ntmps96
 go_upto_region 22 with fail
 generalize w.alloc _=w1 at*;have hb:=KB.cell
 go_wp2_with (first|(go_at_call 130;refine HL1.mono ?_;rintro e w2 ⟨rfl,b2⟩)|(go_at_call 131;refine(HC _).mono ?_;rintro e w' ⟨rfl,rfl⟩)|(go_at_call 88;refine(HD _).mono ?_;rintro e w3 ⟨rfl,b3⟩))
 refine AS (v:=.tuple #[.string ⟨R.toArray⟩,ZI 0]) (by simp[results,results96,go_sem]) rfl ⟨R,0,rfl,by decide,hR.out,b0.trans ((An b2 b3).mono b0.size)⟩
end Go.Proofs.YtkndcebhjcfphaaGreatDoor
