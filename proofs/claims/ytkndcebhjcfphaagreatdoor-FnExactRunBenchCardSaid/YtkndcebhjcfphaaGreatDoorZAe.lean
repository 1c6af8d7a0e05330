import Derived.Test.YtkndcebhjcfphaaGreatDoorZAd
import Derived.Test.YtkndcebhjcfphaaGreatDoorZY
namespace Go.Proofs.YtkndcebhjcfphaaGreatDoor
open Go.RowKit Go.Proofs.Tryz
set_option maxRecDepth 100000
set_option maxHeartbeats 4000000
set_option linter.all false
theorem OV (A:Option Addr) (n c:Nat) (xs:List Int) (w:World) (hn:n≤1048576) (hr:Rd w A (n*7) (ints xs)):
  Calls prog 169 #[.slice A n c] w fun e w'=> ∃h:Hd,e=.returned (.tuple (FK h.A h.n h.c (YH xs n) (gaugeC xs n)))∧h.n≤200∧h.n≤h.c∧Rd w' h.A (h.n*4) (ints (UR xs n))∧Wr w' w.heap.size h.A (h.n*4)∧Below w w w':=by
 go_enter func169,ntmps169
 go_wp2_with fail
 refine(P6 A n c xs _ hn hr).mono ?_;rintro e w1 ⟨⟨⟨TA,tn,tc⟩,⟨LA,ln,lc⟩⟩,rfl,ok,R,-,-,b1⟩;unfold Lv;simp only
 by_cases hc:gaugeC xs n=0
 rotate_left
 ·have HV:Hid (YH xs n=0∧UR xs n= []):=by unfold Hid YH UR;rw[Ak hc,Ak hc];exact⟨rfl,rfl⟩
  have hcb:(gaugeC xs n==0)=false:=by rw[Ea];exact hc
  have hcn:(gaugeC xs n !=0)=true:=by rw[bne,hcb];rfl
  clear R ok;obtain⟨gc,hgc⟩: ∃x,gaugeC xs n=x:=⟨_,rfl⟩;have HG:=Ai hgc;rw[hgc] at hc hcb hcn⊢;clear hgc;go_wp2;refine AS (v:=.tuple (FK none 0 0 0 gc)) (by simp[results,results169,go_sem]) rfl ⟨⟨none,0,0⟩,by rw[HV.out.1,HG.out],AZ _,Cp _,by rw[HV.out.2];exact Rd.nil _ _,fun h=>absurd h (Nat.lt_irrefl 0),?_⟩
  repeat(first|with_reducible exact b1|refine Below.setCell ?_ (by simp<;>omega) _|refine Below.alloc ?_ (by have:=b1.size;simp<;>omega) _)
 obtain⟨hlog,hgr,GO⟩:=Tj hc;have hn200:=(FU hlog).2;have HREC:=Ai (FU hlog).1;have HGO:Hid (GY (rpT xs n) (rpS xs n)):=GO;rw[hgr] at R;have rT:Rd w1 TA tn (ints (rpT xs n)):=R.head;have rL:Rd w1 LA ln (ints (rpS xs n)):=R.tail.head;have htl:tn=ln:=by have a:=rT.len;have b:=rL.len;have:=GO.eq;unfold rpT rpS at*;omega
 subst htl;have HV:Hid (YH xs n=(repN (rpT xs n) (rpS xs n) xs n:Int)∧UR xs n=repL (rpT xs n) (rpS xs n) xs n):=by unfold Hid YH UR;rw[AA hc,AA hc];exact⟨rfl,rfl⟩
 clear R ok hgr GO hlog;generalize rpT xs n=ts at*;generalize rpS xs n=ls at*;have HC:=Ai hc;rw[hc];clear hc;have hg5:w≤w1.heap.size:=b1.size
 go_upto_region 2 with fail
 generalize hG:w1.alloc _=w2;obtain⟨K5,b2⟩:=EX hG;clear hG;replace rT:=rT.below b2;replace rL:=rL.below b2;replace b1:=An b1 b2;clear b2;generalize w1.heap.size=g5 at*;have q5:=K5.lt
 go_wp2_with fail
 have b3:Below w2 w2 (w2.alloc (.cells #[] 65)):=BU
 go_loopw [7,8,9] (fun v7 v8 v9 wr=> ∃(k:Nat) (h:Hd),k≤n∧v9=.int .i64 k∧v7=.slice h.A h.n h.c∧v8=.int .i64 (repN ts ls xs k:Nat)∧h.n≤k∧AR wr w2.heap.size 4 h (ints (repL ts ls xs k))∧Below w2 w2 wr)
  (fun _ _ v9 _=>n-(intOf v9).toNat)
 case atStart=>exact⟨0,⟨some ⟨w2,0,none⟩,0,0⟩,AZ _,rfl,rfl,rfl,Cp _,AR.empty _ _ _ _,b3⟩
 case round=>
  obtain⟨k,⟨HA,hN,hC⟩,hk,rfl,rfl,rfl,hNk,o,hb⟩:=hrel;simp only at hNk;have KW:=K5.below hb q5;have qw:=KW.lt
  by_cases hlt:k<n
  ·have hltI:(k:Int)<(n:Int):=Aa;obtain⟨ad,rfl,c0,c1,c2,c3,c4,c5,c6⟩:=((hr.below b1).below hb).seven hlt;have HRA:Hid (Cm (recT xs k) (recK xs k) (recL xs k) (xs.getD (k*7+3) 0) (xs.getD (k*7+4) 0) (xs.getD (k*7+5) 0) (xs.getD (k*7+6) 0)=true):=GS HREC.out hlt;have HL:Hid (repL ts ls xs (k+1)=if recK xs k=2∧GC ts ls xs k=0 then repL ts ls xs k++Gz ts ls xs k else repL ts ls xs k):=rfl;have HN:Hid (repN ts ls xs (k+1)=if recK xs k=2∧ ¬GC ts ls xs k=0 then repN ts ls xs k+1 else repN ts ls xs k):=rfl;have HD:Hid (GC ts ls xs k=EP ts ls (xs.getD (k*7) 0) (xs.getD (k*7+3) 0) (xs.getD (k*7+4) 0) (xs.getD (k*7+5) 0) (xs.getD (k*7+6) 0)):=rfl;have HO:Hid (Gz ts ls xs k= [xs.getD (k*7+3) 0,xs.getD (k*7+4) 0,MT (xs.getD (k*7+5) 0) (xs.getD (k*7+6) 0) (lvLo ts ls (xs.getD (k*7) 0)) (lvHi ts ls (xs.getD (k*7) 0)),MU (xs.getD (k*7+5) 0) (xs.getD (k*7+6) 0) (lvLo ts ls (xs.getD (k*7) 0)) (lvHi ts ls (xs.getD (k*7) 0))]):=rfl;have HT:Hid (recT xs k=xs.getD (k*7) 0∧recK xs k=xs.getD (k*7+1) 0):=⟨rfl,rfl⟩;have hNle:=Sg ts ls xs k;generalize xs.getD (k*7) 0=x0 at*;generalize xs.getD (k*7+1) 0=x1 at*;generalize xs.getD (k*7+2) 0=x2 at*;generalize xs.getD (k*7+3) 0=x3 at*;generalize xs.getD (k*7+4) 0=x4 at*;generalize xs.getD (k*7+5) 0=x5 at*;generalize xs.getD (k*7+6) 0=x6 at*
   by_cases hx1:x1=2
   rotate_left
   ·have hx1b:(x1==2)=false:=by rw[Ea];exact hx1
    have HL2:Hid (repL ts ls xs (k+1)=repL ts ls xs k):=by show _=_;rw[HL.out,Ak (fun e=>hx1 (by rw[←HT.out.2];exact e.1))]
    have HN2:Hid (repN ts ls xs (k+1)=repN ts ls xs k):=by show _=_;rw[HN.out,Ak (fun e=>hx1 (by rw[←HT.out.2];exact e.1))]
    generalize repN ts ls xs k=rn at*
    go_wp2_with fail
    go_roundw
    case rel=>exact⟨k+1,⟨HA,hN,hC⟩,by omega,by go_num,rfl,by rw[HN2.out],by show hN≤k+1;omega,by rw[HL2.out];exact o,hb⟩
    case measure=>simp[intOf];omega
   subst hx1;have hs:Hid (DP x3 x4 x5 x6=true):=by have a:=HRA.out;rw[HT.out.2] at a;exact Ut a
   have ht:=LX HRA.out;rw[HT.out.1] at ht;have hcon0:=fun W r1 r2=>OU TA LA tn tc lc ts ls x0 x3 x4 x5 x6 W HGO.out r1 r2 ht.1 ht.2 hs.out
   obtain⟨a,b,p,q,rc,hV0,hC0,hO0⟩: ∃a b p q rc:Int,H6 ts ls x0 x3 x4 x5 x6=.agg (Ziiii a b p q)∧EP ts ls x0 x3 x4 x5 x6=rc∧(rc=0→Gz ts ls xs k= [a,b,p,q]):=by
    by_cases h0:EP ts ls x0 x3 x4 x5 x6=0
    ·exact⟨_,_,_,_,_,Qx h0,rfl,fun _=>HO.out⟩
    ·exact⟨_,_,_,_,_,Qw h0,rfl,fun e=>absurd e h0⟩
   have hcon: ∀W,Rd W TA tn (ints ts)→Rd W LA tn (ints ls)→Calls prog 212 #[Ziiii x3 x4 x5 x6,CH TA tn tc LA tn lc,ZI x0] W fun e w'=>e=.returned (.tuple (EJ a b p q rc))∧Below W W w':=fun W r1 r2=>by
    have:=hcon0 W r1 r2;rw[hV0,hC0] at this;exact this
   have HL2:Hid (rc=0→repL ts ls xs (k+1)=repL ts ls xs k++ [a,b,p,q]∧repN ts ls xs (k+1)=repN ts ls xs k):=fun e=>⟨by rw[HL.out,AA ⟨HT.out.2,by rw[HD.out,hC0];exact e⟩,hO0 e],by rw[HN.out,Ak (fun e2=>e2.2 (by rw[HD.out,hC0];exact e))]⟩
   have HL3:Hid (¬rc=0→repL ts ls xs (k+1)=repL ts ls xs k∧repN ts ls xs (k+1)=repN ts ls xs k+1):=fun e=>⟨by rw[HL.out,Ak (fun e2=>e (by rw[←hC0,←HD.out];exact e2.2))],by rw[HN.out,AA ⟨HT.out.2,by rw[HD.out,hC0];exact e⟩]⟩
   clear HL HN HD HRA HO hs hV0 hC0 hO0 hcon0 HT;generalize repN ts ls xs k=rn at*;have h63:hN+1≤1099511627776:=Aa;have e5:=KW.cell
   go_upto_region 9 with fail
   have hadl:(ad.add (k*7)).block<wr.heap.size:=by
    rw[Aq];exact((hr.below b1).below hb).lt rfl (show 0<n*7 by omega)
   have bA:Below wr wr (wr.alloc (.cells C8 65)):=BU;have hA:=hcon wr.drew ((rT.below hb).below GJ) ((rL.below hb).below GJ);have hB:=hcon (wr.alloc (.cells C8 65)).drew ((rT.below hb).below (CO bA)) ((rL.below hb).below (CO bA));have KZ:=Blk.drew (Br wr 65 C8)
   go_cut [10,11] (fun v10 v11 wx=> ∃gs:Nat,v10=.pointer (some ⟨gs,0,none⟩)∧v11=.int .i64 rc∧Blk wx gs 65 (Ziiii a b p q)∧Below wr wr wx)
   case first=>
    go_region_held3 (fun w'=>w'.cell? (ad.add (k*7))=ZS x0∧w'.cell? ⟨(ad.add (k*7)).block,(ad.add (k*7)).off+3,none⟩=ZS x3∧w'.cell? ⟨(ad.add (k*7)).block,(ad.add (k*7)).off+4,none⟩=ZS x4∧w'.cell? ⟨(ad.add (k*7)).block,(ad.add (k*7)).off+5,none⟩=ZS x5∧w'.cell? ⟨(ad.add (k*7)).block,(ad.add (k*7)).off+6,none⟩=ZS x6∧(∀o,w'.cell? ⟨g5,o,none⟩=((CH TA tn tc LA tn lc):Array Value)[o]?))
     (exact Cs)
     (first
      |(go_at_call 212;(with_reducible refine hA.mono ?_);rintro e u ⟨rfl,b4⟩;have bu:Below wr wr u:=EE (m:=1) b4;have z0:=(JX bu (p:=ad.add (k*7)) hadl).trans c0;have z3:=Cg bu c3 hadl;have z4:=Cg bu c4 hadl;have z5:=Cg bu c5 hadl;have z6:=Cg bu c6 hadl;have zg: ∀o,u.cell? ⟨g5,o,none⟩=((CH TA tn tc LA tn lc):Array Value)[o]? :=fun o=>(JX bu (p:=⟨g5,o,none⟩) qw).trans (e5 o);have qu:g5<u:=CM qw bu.size;have hadu:(ad.add (k*7)).block<u.heap.size:=CM hadl bu.size;have KU:=Br u 65 (Ziiii a b p q);have bU:Below wr wr (u.alloc (.cells (Ziiii a b p q) 65)):=bu.trans (((AP _ _).alloc Bk _).mono bu.size))
      |(go_at_call 212;(with_reducible refine hB.mono ?_);rintro e u ⟨rfl,b4⟩;have bu:Below wr wr u:=(CO bA).trans (b4.mono bA.size);have z0:=(JX bu (p:=ad.add (k*7)) hadl).trans c0;have z3:=Cg bu c3 hadl;have z4:=Cg bu c4 hadl;have z5:=Cg bu c5 hadl;have z6:=Cg bu c6 hadl;have zg: ∀o,u.cell? ⟨g5,o,none⟩=((CH TA tn tc LA tn lc):Array Value)[o]? :=fun o=>(JX bu (p:=⟨g5,o,none⟩) qw).trans (e5 o);have qu:g5<u:=CM qw bu.size;have hadu:(ad.add (k*7)).block<u.heap.size:=CM hadl bu.size;have KU:=KZ.below b4 KZ.lt;have fU:=KU.frozen;have cU:=KU.cell;have hgu:=KU.lt))
    all_goals
     go_wp2_with fail
     go_meet
     first
      |exact⟨u.heap.size,rfl,rfl,KU,bU⟩
      |exact⟨wr.heap.size,rfl,rfl,(((KU.set_ 0 _).set_ 1 _).set_ 2 _).set_ 3 _,(((bu.setCell (p:=⟨wr,0,none⟩) Bk _).setCell (p:=⟨wr,1,none⟩) Bk _).setCell (p:=⟨wr,2,none⟩) Bk _).setCell (p:=⟨wr,3,none⟩) Bk _⟩
   case rest=>
    obtain⟨gs,rfl,rfl,KS,bw⟩:=hcut;obtain⟨w5,rfl⟩: ∃x:World,x=wc:=⟨_,rfl⟩;have oD:=o.below bw;have db:=An hb bw;clear KW qw o hb bw bA hA hB KZ hadl c0 c1 c2 c3 c4 c5 c6 e5 hcon;have eS:=KS.cell
    by_cases h0:rc=0
    ·subst h0;have HL2:=Ai (HL2.out rfl);clear HL3;have bz:Below w5 w5 (w5.alloc (.cells (Ziiii a b p q) 65)):=BU;have oz:=oD.below bz;have RE:=Iy w5 a b p q 65;have dz:=An db bz;have hBz:=dz.size;have hrow: ∀b,(⟨HA,hN,hC⟩:Hd).row=some b→w2≤b:=fun b e=>(oD.rowlt b e).1
     go_wp2_with (at_builtin;refine Aj rfl _ _ 171 rfl 65 4 32 underlying171 DS Ah w2.heap.size ⟨HA,hN,hC⟩ _ rfl oz _ 1 1 (ints [a,b,p,q]) rfl RE (Ao _) h63 Ah hBz ?_;intro G wg hGn HG gg hat)
     have hn2:G.n≤k+1:=by rw[hGn];show hN+1≤k+1;omega
     have HN3:=Ai hn2;have HGN:=Ai hGn;clear hGn hn2 hat
     go_roundw
     case rel=>exact⟨k+1,G,by omega,by go_num,by first|rfl|rw[HGN.out],by rw[HL2.out.2],HN3.out,by rw[HL2.out.1,B8];exact HG,dz.grown gg hBz (fun b e=>hrow b e)⟩
     case measure=>simp[intOf];omega
    ·have hrcb:(rc==0)=false:=by rw[Ea];exact h0
     have HL3:=Ai (HL3.out h0);clear HL2 h0;have u1:=Bg ((rn:Int)+1)
     go_wp2_with fail
     go_roundw
     case rel=>exact⟨k+1,⟨HA,hN,hC⟩,by omega,by go_num,rfl,by rw[HL3.out.2];go_num,by show hN≤k+1;omega,by rw[HL3.out.1];exact oD,db⟩
     case measure=>simp[intOf];omega
  ·obtain rfl:n=k:=Aa;have hb2:Below w w wr:=An b1 hb;generalize repN ts ls xs n=rn at*;go_wp2;refine AS (v:=.tuple (FK HA hN hC rn 0)) (by simp[results,results169,go_sem]) rfl ⟨⟨HA,hN,hC⟩,by rw[HV.out.1,HC.out],by show hN≤200;omega,o.nc,by rw[HV.out.2];exact o.rd,(o.mono Aa).wr,hb2⟩
theorem N7 (A:Option Addr) (n c:Nat) (xs:List Int) (w:World) (hn:n≤1048576) (hnc:n≤c) (hr:Rd w A (n*7) (ints xs)):
  Calls prog 185 #[.slice A n c] w fun e w'=> ∃h:Hd,e=.returned (.tuple (FK h.A h.n h.c (YH xs n) (gaugeC xs n)))∧h.n≤200∧h.n≤h.c∧Rd w' h.A (h.n*4) (ints (UR xs n))∧Wr w' w.heap.size h.A (h.n*4)∧Below w w w':=by
 go_enter func185,ntmps185
 go_wp2_with fail
 refine(PK A n c xs _ hn hnc hr).mono ?_;rintro e w1 ⟨⟨⟨TA,tn,tc⟩,⟨LA,ln,lc⟩⟩,rfl,ok,R,-,-,b1⟩;unfold Lv;simp only
 by_cases hc:gaugeC xs n=0
 rotate_left
 ·have HV:Hid (YH xs n=0∧UR xs n= []):=by unfold Hid YH UR;rw[Ak hc,Ak hc];exact⟨rfl,rfl⟩
  have hcb:(gaugeC xs n==0)=false:=by rw[Ea];exact hc
  have hcn:(gaugeC xs n !=0)=true:=by rw[bne,hcb];rfl
  clear R ok;obtain⟨gc,hgc⟩: ∃x,gaugeC xs n=x:=⟨_,rfl⟩;have HG:=Ai hgc;rw[hgc] at hc hcb hcn⊢;clear hgc;go_wp2;refine AS (v:=.tuple (FK none 0 0 0 gc)) (by simp[results,results185,go_sem]) rfl ⟨⟨none,0,0⟩,by rw[HV.out.1,HG.out],AZ _,Cp _,by rw[HV.out.2];exact Rd.nil _ _,fun h=>absurd h (Nat.lt_irrefl 0),?_⟩
  repeat(first|with_reducible exact b1|refine Below.setCell ?_ (by simp<;>omega) _|refine Below.alloc ?_ (by have:=b1.size;simp<;>omega) _)
 obtain⟨hlog,hgr,GO⟩:=Tj hc;have hn200:=(FU hlog).2;have HREC:=Ai (FU hlog).1;have HGO:Hid (GY (rpT xs n) (rpS xs n)):=GO;rw[hgr] at R;have rT:Rd w1 TA tn (ints (rpT xs n)):=R.head;have rL:Rd w1 LA ln (ints (rpS xs n)):=R.tail.head;have htl:tn=ln:=by have a:=rT.len;have b:=rL.len;have:=GO.eq;unfold rpT rpS at*;omega
 subst htl;have HV:Hid (YH xs n=(repN (rpT xs n) (rpS xs n) xs n:Int)∧UR xs n=repL (rpT xs n) (rpS xs n) xs n):=by unfold Hid YH UR;rw[AA hc,AA hc];exact⟨rfl,rfl⟩
 clear R ok hgr GO hlog;generalize rpT xs n=ts at*;generalize rpS xs n=ls at*;have HC:=Ai hc;rw[hc];clear hc;have hg5:w≤w1.heap.size:=b1.size
 go_upto_region 2 with fail
 generalize hG:w1.alloc _=w2;obtain⟨K5,b2⟩:=EX hG;clear hG;replace rT:=rT.below b2;replace rL:=rL.below b2;replace b1:=An b1 b2;clear b2;generalize w1.heap.size=g5 at*;have q5:=K5.lt
 go_wp2_with fail
 go_loopw [7,8,23] (fun v7 v8 v9 wr=> ∃(k:Nat) (h:Hd),k≤n∧v9=.int .i64 k∧v7=.slice h.A h.n h.c∧v8=.int .i64 (repN ts ls xs k:Nat)∧h.n≤k∧AR wr w2.heap.size 4 h (ints (repL ts ls xs k))∧Below w2 w2 wr)
  (fun _ _ v9 _=>n-(intOf v9).toNat)
 case atStart=>exact⟨0,⟨none,0,0⟩,AZ _,rfl,rfl,rfl,Cp _,AR.nil _ _ _,AP _ _⟩
 case round=>
  obtain⟨k,⟨HA,hN,hC⟩,hk,rfl,rfl,rfl,hNk,o,hb⟩:=hrel;simp only at hNk;have KW:=K5.below hb q5;have qw:=KW.lt
  by_cases hlt:k<n
  ·have hltI:(k:Int)<(n:Int):=Aa;obtain⟨ad,rfl,c0,c1,c2,c3,c4,c5,c6⟩:=((hr.below b1).below hb).seven hlt;have HRA:Hid (Cm (recT xs k) (recK xs k) (recL xs k) (xs.getD (k*7+3) 0) (xs.getD (k*7+4) 0) (xs.getD (k*7+5) 0) (xs.getD (k*7+6) 0)=true):=GS HREC.out hlt;have HL:Hid (repL ts ls xs (k+1)=if recK xs k=2∧GC ts ls xs k=0 then repL ts ls xs k++Gz ts ls xs k else repL ts ls xs k):=rfl;have HN:Hid (repN ts ls xs (k+1)=if recK xs k=2∧ ¬GC ts ls xs k=0 then repN ts ls xs k+1 else repN ts ls xs k):=rfl;have HD:Hid (GC ts ls xs k=EP ts ls (xs.getD (k*7) 0) (xs.getD (k*7+3) 0) (xs.getD (k*7+4) 0) (xs.getD (k*7+5) 0) (xs.getD (k*7+6) 0)):=rfl;have HO:Hid (Gz ts ls xs k= [xs.getD (k*7+3) 0,xs.getD (k*7+4) 0,MT (xs.getD (k*7+5) 0) (xs.getD (k*7+6) 0) (lvLo ts ls (xs.getD (k*7) 0)) (lvHi ts ls (xs.getD (k*7) 0)),MU (xs.getD (k*7+5) 0) (xs.getD (k*7+6) 0) (lvLo ts ls (xs.getD (k*7) 0)) (lvHi ts ls (xs.getD (k*7) 0))]):=rfl;have HT:Hid (recT xs k=xs.getD (k*7) 0∧recK xs k=xs.getD (k*7+1) 0):=⟨rfl,rfl⟩;have hNle:=Sg ts ls xs k;generalize xs.getD (k*7) 0=x0 at*;generalize xs.getD (k*7+1) 0=x1 at*;generalize xs.getD (k*7+2) 0=x2 at*;generalize xs.getD (k*7+3) 0=x3 at*;generalize xs.getD (k*7+4) 0=x4 at*;generalize xs.getD (k*7+5) 0=x5 at*;generalize xs.getD (k*7+6) 0=x6 at*
   by_cases hx1:x1=2
   rotate_left
   ·have hx1b:(x1==2)=false:=by rw[Ea];exact hx1
    have HL2:Hid (repL ts ls xs (k+1)=repL ts ls xs k):=by show _=_;rw[HL.out,Ak (fun e=>hx1 (by rw[←HT.out.2];exact e.1))]
    have HN2:Hid (repN ts ls xs (k+1)=repN ts ls xs k):=by show _=_;rw[HN.out,Ak (fun e=>hx1 (by rw[←HT.out.2];exact e.1))]
    generalize repN ts ls xs k=rn at*
    go_wp2_with fail
    go_roundw
    case rel=>exact⟨k+1,⟨HA,hN,hC⟩,by omega,by go_num,rfl,by rw[HN2.out],by show hN≤k+1;omega,by rw[HL2.out];exact o.below BU,hb.alloc hb.size _⟩
    case measure=>simp[intOf];omega
   subst hx1;have hs:Hid (DP x3 x4 x5 x6=true):=by have a:=HRA.out;rw[HT.out.2] at a;exact Ut a
   have ht:=LX HRA.out;rw[HT.out.1] at ht;have hcon0:=fun W r1 r2=>N5 TA LA tn tc lc ts ls x0 x3 x4 x5 x6 W HGO.out r1 r2 ht.1 ht.2 hs.out
   obtain⟨a,b,p,q,rc,hV0,hC0,hO0⟩: ∃a b p q rc:Int,H6 ts ls x0 x3 x4 x5 x6=.agg (Ziiii a b p q)∧EP ts ls x0 x3 x4 x5 x6=rc∧(rc=0→Gz ts ls xs k= [a,b,p,q]):=by
    by_cases h0:EP ts ls x0 x3 x4 x5 x6=0
    ·exact⟨_,_,_,_,_,Qx h0,rfl,fun _=>HO.out⟩
    ·exact⟨_,_,_,_,_,Qw h0,rfl,fun e=>absurd e h0⟩
   have hcon: ∀W,Rd W TA tn (ints ts)→Rd W LA tn (ints ls)→Calls prog 230 #[Ziiii x3 x4 x5 x6,CH TA tn tc LA tn lc,ZI x0] W fun e w'=>e=.returned (.tuple (EJ a b p q rc))∧Below W W w':=fun W r1 r2=>by
    have:=hcon0 W r1 r2;rw[hV0,hC0] at this;exact this
   have HL2:Hid (rc=0→repL ts ls xs (k+1)=repL ts ls xs k++ [a,b,p,q]∧repN ts ls xs (k+1)=repN ts ls xs k):=fun e=>⟨by rw[HL.out,AA ⟨HT.out.2,by rw[HD.out,hC0];exact e⟩,hO0 e],by rw[HN.out,Ak (fun e2=>e2.2 (by rw[HD.out,hC0];exact e))]⟩
   have HL3:Hid (¬rc=0→repL ts ls xs (k+1)=repL ts ls xs k∧repN ts ls xs (k+1)=repN ts ls xs k+1):=fun e=>⟨by rw[HL.out,Ak (fun e2=>e (by rw[←hC0,←HD.out];exact e2.2))],by rw[HN.out,AA ⟨HT.out.2,by rw[HD.out,hC0];exact e⟩]⟩
   clear HL HN HD HRA HO hs hV0 hC0 hO0 hcon0 HT;generalize repN ts ls xs k=rn at*;have h63:hN+1≤1099511627776:=Aa
   go_upto_region 9 with fail
   have KB:=Br wr 67 (AD x0 2 x2 x3 x4 x5 x6);have bB:Below wr wr (wr.alloc (.cells (AD x0 2 x2 x3 x4 x5 x6) 67)):=BU;have D5:=KW.below bB qw;have oD:=o.below bB;have db:=An hb bB;clear bB c0 c1 c2 c3 c4 c5 c6 KW qw o hb;generalize wr.alloc _=w3 at KB D5 oD db⊢;have eB:=KB.cell;have e5:=D5.cell
   go_wp2_with fail
   refine(hcon _ (rT.below db) (rL.below db)).mono ?_;rintro e w4 ⟨rfl,b4⟩;replace oD:=oD.below b4;replace db:=An db b4;clear b4 hcon e5 eB D5 KB
   go_upto_region 11 with fail
   generalize hG:w4.alloc _=w5;obtain⟨KS,b5⟩:=EX hG;clear hG;replace oD:=oD.below b5;replace db:=An db b5;generalize w4.heap.size=gs at KS⊢;have eS:=KS.cell
   by_cases h0:rc=0
   ·subst h0;have HL2:=Ai (HL2.out rfl);clear HL3;have bz:Below w5 w5 (w5.alloc (.cells (Ziiii a b p q) 65)):=BU;have oz:=oD.below bz;have RE:=Iy w5 a b p q 65;have dz:=An db bz;have hBz:=dz.size;have hrow: ∀b,(⟨HA,hN,hC⟩:Hd).row=some b→w2≤b:=fun b e=>(oD.rowlt b e).1
    go_wp2_with (at_builtin;refine Aj rfl _ _ 171 rfl 65 4 32 underlying171 DS Ah w2.heap.size ⟨HA,hN,hC⟩ _ rfl oz _ 1 1 (ints [a,b,p,q]) rfl RE (Ao _) h63 Ah hBz ?_;intro G wg hGn HG gg hat)
    have hn2:G.n≤k+1:=by rw[hGn];show hN+1≤k+1;omega
    have HN3:=Ai hn2;have HGN:=Ai hGn;clear hGn hn2 hat
    go_roundw
    case rel=>exact⟨k+1,G,by omega,by go_num,by first|rfl|rw[HGN.out],by rw[HL2.out.2],HN3.out,by rw[HL2.out.1,B8];exact HG,dz.grown gg hBz (fun b e=>hrow b e)⟩
    case measure=>simp[intOf];omega
   ·have hrcb:(rc==0)=false:=by rw[Ea];exact h0
    have HL3:=Ai (HL3.out h0);clear HL2 h0;have u1:=Bg ((rn:Int)+1)
    go_wp2_with fail
    go_roundw
    case rel=>exact⟨k+1,⟨HA,hN,hC⟩,by omega,by go_num,rfl,by rw[HL3.out.2];go_num,by show hN≤k+1;omega,by rw[HL3.out.1];exact oD,db⟩
    case measure=>simp[intOf];omega
  ·obtain rfl:n=k:=Aa;have hb2:Below w w wr:=An b1 hb;generalize repN ts ls xs n=rn at*;go_wp2;refine AS (v:=.tuple (FK HA hN hC rn 0)) (by simp[results,results185,go_sem]) rfl ⟨⟨HA,hN,hC⟩,by rw[HV.out.1,HC.out],by show hN≤200;omega,o.nc,by rw[HV.out.2];exact o.rd,(o.mono Aa).wr,hb2⟩
def V7 (xs:List Int):List Int:=UR xs (xs.length/7)
end Go.Proofs.YtkndcebhjcfphaaGreatDoor
