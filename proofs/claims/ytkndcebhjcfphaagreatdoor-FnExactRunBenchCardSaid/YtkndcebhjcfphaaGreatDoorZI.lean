import Derived.Test.YtkndcebhjcfphaaGreatDoorZB
import Derived.Test.YtkndcebhjcfphaaGreatDoorZF
import Derived.Deep.RegionHeld3
namespace Go.Proofs.YtkndcebhjcfphaaGreatDoor
open Go.RowKit Go.Proofs.Tryz
set_option maxRecDepth 100000
set_option maxHeartbeats 4000000
set_option linter.all false
theorem AR.fars {w:World} {B K:Nat} {h:Hd} {us:List Value} (o:AR w B K h us) {p:Addr} (hr:h.row≠some p.block) (u:Value):AR (w.setCell p u) B K h us:=
 o.keep Cr fun b e=>Below.heap_setCell w p u b (fun c=>hr (by rw[e,c]))
theorem Rd.partG {w:World} {A:Option Addr} {n k m:Nat} {xs:List Int} (h:Rd w A n (ints xs)) (hk:k+m≤n):Rd w (A.map (·.add k)) m (ints ((xs.drop k).take m)):=by
 have hl:=h.len;refine⟨by simp[ints];omega,fun hm=> ?_⟩
 obtain⟨ad,rfl,hc⟩:=h.2 Aa;refine⟨ad.add k,rfl,fun i hi=> ?_⟩;rw[Bv,hc _ Aa,CF,CF,List.getElem?_take,AA hi,List.getElem?_drop]
def DY (xs:List Int) (n:Nat):List (Int×Int):=if FT xs n=true then(if(gTo xs n).length≤40 then gTo xs n else []) else []
def Dk (xs:List Int) (n:Nat):UT:=⟨fstL (DY xs n),sndL (DY xs n)⟩
def gaugeC (xs:List Int) (n:Nat):Int:=if FT xs n=true then(if(gTo xs n).length=0 then 4 else if(gTo xs n).length≤40 then 0 else 3) else 1
theorem WQ (xs:List Int): ∀k,(gTo xs k).length≤k
 |0=>Cp _
 |k+1=>by
  have ih:=WQ xs k
  have key: ∀(t l:Int) (p:List (Int×Int)),(Kg t l p).length≤p.length+1:=by
   intro t l p
   induction p with
   |nil=>simp[Kg]
   |cons a r ih=>
    obtain⟨a,b⟩:=a;unfold Kg
    split
    ·simpa using ih
    ·split<;>simp
  unfold gTo
  split
  ·have:=key (recT xs k) (recL xs k) (gTo xs k);omega
  ·omega
theorem P6 (A:Option Addr) (n c:Nat) (xs:List Int) (w:World) (hn:n≤1048576) (hr:Rd w A (n*7) (ints xs)):
  Calls prog 211 #[.slice A n c] w fun e w'=> ∃k:Js,e=.returned (.tuple #[Lv k (Dk xs n),ZI (gaugeC xs n)])∧QN k∧Ag w' (Lu k (Dk xs n))∧AB w' w.heap.size (Lu k (Dk xs n))∧Dx (UU k)∧Below w w w':=by
 go_enter func211,ntmps211
 go_upto_region 1 with fail
 generalize hG:w.alloc _=w1;obtain⟨K0,b0⟩:=EX hG;clear hG;have g0:=K0.lt
 go_wp2_with fail
 refine(Oi A n c xs _ Aa (hr.below b0)).mono ?_;rintro e w2 ⟨rfl,b2⟩;replace K0:=K0.below b2 g0;replace b0:=An b0 b2;replace g0:=K0.lt;have e0:=K0.cell;have f0:=K0.frozen;clear b2;rcases BA (FT xs n) with hlog|hlog
 rotate_left
 ·have HP:Hid (DY xs n= []∧gaugeC xs n=1):=by unfold Hid DY gaugeC;rw[hlog];exact⟨rfl,rfl⟩
  go_wp2;refine AS (v:=.tuple (EK none 0 0 none 0 0 1)) (by simp[results,results211,go_sem,e0]) rfl ⟨⟨⟨none,0,0⟩,⟨none,0,0⟩⟩,?_,⟨AZ _,AZ _⟩,?_,?_,?_,?_⟩
  ·rw[HP.out.2];rfl
  ·unfold Dk;rw[HP.out.1];exact Ag.cons (s:=⟨none,0,[]⟩) (Rd.nil _ _) (Ag.cons (s:=⟨none,0,[]⟩) (Rd.nil _ _) (Ag.nil _))
  ·exact AB.cons (s:=⟨none,0,_⟩) (fun h=>absurd h (Nat.lt_irrefl 0)) (AB.cons (s:=⟨none,0,_⟩) (fun h=>absurd h (Nat.lt_irrefl 0)) (AB.nil _ _))
  ·exact Dx.cons (fun s hs t ht b e=>by rw[DD.1 hs] at e;cases e) (Dx.one _)
  ·repeat(first|with_reducible exact b0|refine Below.setCell ?_ (by simp<;>omega) _)
 have hn2:n≤200:=by
  have:FT xs n=(CP xs n && decide ((n:Int)≤200)):=rfl;rw[this,CD,BP] at hlog;omega
 go_wp2;have HLOG:=Ai hlog;clear hlog
 go_loopw [4,5,6] (fun t4 t5 i wr=> ∃(k:Nat) (ht hl:Hd),k≤n∧i=.int .i64 k∧t4=.slice ht.A ht.n ht.c∧t5=.slice hl.A hl.n hl.c∧AR wr (w.heap.size+1) 1 ht (ints (fstL (gTo xs k)))∧AR wr (w.heap.size+1) 1 hl (ints (sndL (gTo xs k)))∧(∀b,ht.row=some b→hl.row≠some b)∧ht.A≠none∧hl.A≠none∧Below w w wr∧Blk wr w.heap.size 205 QW)
  (fun _ _ i _=>n-(intOf i).toNat)
 case atStart=>
  refine⟨0,⟨some ⟨w2,0,none⟩,0,0⟩,⟨some ⟨w2+1,0,none⟩,0,0⟩,AZ _,rfl,rfl,rfl,AR.empty _ _ _ _,AR.empty _ _ _ _,(fun b e=>by cases e),Cr,Cr,(b0.alloc Aa _).alloc Bq _,(K0.alloc _).alloc _⟩
 case round=>
  obtain⟨k,ht,hl,hk,rfl,rfl,rfl,oT,oL,hoff,nT,nL,hb,KW⟩:=hrel;clear K0 b0 e0 f0 g0;obtain⟨aT,hT⟩:=Option.ne_none_iff_exists'.1 nT;obtain⟨aL,hL⟩:=Option.ne_none_iff_exists'.1 nL;obtain⟨AT,nt,ct⟩:=ht;obtain⟨AL,nl,cl⟩:=hl;simp only at hT hL;subst hT hL;have lT:nt=(gTo xs k).length:=by have:=oT.len;simp only[Nat.mul_one] at this;rw[←this];unfold ints;rw[List.length_map,Ik]
  have lL:nl=(gTo xs k).length:=by have:=oL.len;simp only[Nat.mul_one] at this;rw[←this];unfold ints;rw[List.length_map,UD]
  have lk:=WQ xs k
  by_cases hlt:k<n
  ·obtain⟨ad,rfl,c0',c1',c2',-⟩:=(hr.below hb).seven hlt;have c0:wr.cell? (ad.add (k*7))=ZS (recT xs k):=c0';have c1:wr.cell? ⟨(ad.add (k*7)).block,(ad.add (k*7)).off+1,none⟩=ZS (recK xs k):=c1';have c2:wr.cell? ⟨(ad.add (k*7)).block,(ad.add (k*7)).off+2,none⟩=ZS (recL xs k):=c2';clear c0' c1' c2';have hltI:(k:Int)<(n:Int):=Aa
   by_cases hkind:recK xs k=1
   rotate_left
   ·have HG:=Ai (Zt hkind);generalize recK xs k=kd at*;go_wp2
    go_roundw
    case rel=>exact⟨k+1,⟨some aT,nt,ct⟩,⟨some aL,nl,cl⟩,by omega,by go_num,rfl,rfl,by rw[HG.out];exact oT,by rw[HG.out];exact oL,hoff,by simp,by simp,hb,KW⟩
    case measure=>simp[intOf];omega
   ·rw[hkind] at c1;have HN:Hid (∀m,m=aheadP (recT xs k) (gTo xs k)→(m<(gTo xs k).length→(fstL (gTo xs k)).getD m 0≠recT xs k)→fstL (gTo xs (k+1))=(fstL (gTo xs k)).take m++recT xs k::(fstL (gTo xs k)).drop m∧sndL (gTo xs (k+1))=(sndL (gTo xs k)).take m++recL xs k::(sndL (gTo xs k)).drop m):=fun m hm h=>bY hkind hm.symm h;have HU:Hid (∀m,m=aheadP (recT xs k) (gTo xs k)→m<(gTo xs k).length→(fstL (gTo xs k)).getD m 0=recT xs k→fstL (gTo xs (k+1))=fstL (gTo xs k)∧sndL (gTo xs (k+1))=(sndL (gTo xs k)).set m (recL xs k)):=fun m hm h e=>Zu hkind hm.symm h e;have HA:Hid (∀a,a<aheadP (recT xs k) (gTo xs k)→(fstL (gTo xs k)).getD a 0<recT xs k):=fun a h=>SK h;have HB:Hid (aheadP (recT xs k) (gTo xs k)<(gTo xs k).length→ ¬(fstL (gTo xs k)).getD (aheadP (recT xs k) (gTo xs k)) 0<recT xs k):=ND;have hmle:aheadP (recT xs k) (gTo xs k)≤nt:=by rw[lT];exact YS _ _
    rw[←lT] at HN HU HB;clear hkind;generalize aheadP (recT xs k) (gTo xs k)=m at*;generalize recT xs k=tk at*;generalize recL xs k=lv at*;generalize fstL (gTo xs k)=ts at*;generalize sndL (gTo xs k)=ls at*;generalize(gTo xs k).length=gl at*;obtain rfl:nt=gl:=lT;obtain rfl:nt=nl:=lL.symm;have rT:=oT.rd1;simp only at rT;have hnt:nt≤200:=Aa;go_wp2
    go_loopw [7] (fun t7 wx=> ∃a u:Nat,a≤m∧t7=.int .i64 a∧wx=wr.drewN u) (fun t7 _=>m-(intOf t7).toNat)
    case atStart=>exact⟨0,0,AZ _,rfl,rfl⟩
    case round=>
     obtain⟨a,u,ha,rfl,rfl⟩:=hrel
     by_cases ham:a<m
     ·obtain⟨_,⟨⟩,hx⟩:=rT.int (show a<nt by omega)
      have hv:=HA.out a ham;have q3:decide (a<nt)=true:=BC Aa;generalize ts.getD a 0=x at*;clear oT oL HN HU HA HB
      go_wp2_with fail
      go_quiet (fail)
      go_wp2
      go_roundw
      case rel=>exact⟨a+1,_,by omega,by go_num,rfl⟩
      case measure=>simp[intOf];omega
     ·obtain rfl:a=m:=Aa
      by_cases hmn:a<nt
      ·obtain⟨_,⟨⟩,hx⟩:=rT.int hmn;have hv:=HB.out hmn;have q1:decide ((a:Int)<(nt:Int))=true:=BC Aa
       by_cases heq:ts.getD a 0=tk
       ·have HE:=Ai (HU.out a rfl hmn heq);rw[heq] at hx hv;obtain⟨_,⟨⟩,hy,hz⟩:=oL.cell (k:=a) hmn;clear HN HU HA HB heq
        go_wp2_with fail
        go_quiet (fail)
        revert nq;intro nq1
        go_wp2_with fail
        go_quiet (fail)
        revert nq;intro nq2;go_wp2;have bD:Below wr wr (wr.drewN (u+nq1+nq2)):=Ba E9 _;have lrow:(⟨some aL,nt,cl⟩:Hd).row=some aL.block:=Hd.row_mk rfl (show 0<cl by have:=oL.nc;simp only at this;omega)
        have lge:=(oL.rowlt _ lrow).1;refine⟨⟨k+1,⟨some aT,nt,ct⟩,⟨some aL,nt,cl⟩,by omega,by go_num,rfl,rfl,?_,?_,hoff,by simp,by simp,?_,?_⟩,by simp[intOf];omega⟩
        ·rw[HE.out.1];exact(oT.below bD).fars (fun e=>hoff _ (by rw[Aq] at e;exact e) lrow) _
        ·rw[HE.out.2];exact(oL.below bD).set_ hmn rfl lv
        ·exact(An hb bD).setCell (by rw[Aq];omega) _
        ·exact(KW.below bD KW.lt).far (by rw[Aq];omega) _
       ·have HE:=Ai (HN.out a rfl (fun _=>heq));have q2:decide (ts.getD a 0<tk)=false:=BR Aa;generalize ts.getD a 0=x at*;clear HN HU HA HB
        go_wp2_with fail
        go_quiet (fail)
        revert nq;intro nq1
        go_wp2_with fail
        go_quiet (fail)
        revert nq;intro nq2
        go_wp2_with fail
        have hW:Below wr wr (((wr.drewN u).drewN nq1).drewN nq2):=Ba (Ba (Ba E9 _) _) _;have OT:=oT.below hW;have OL:=oL.below hW;have cT:(((wr.drewN u).drewN nq1).drewN nq2).cell? (ad.add (k*7))=ZS tk:=c0;have cL:(((wr.drewN u).drewN nq1).drewN nq2).cell? ⟨(ad.add (k*7)).block,(ad.add (k*7)).off+2,none⟩=ZS lv:=c2;have KV:=KW.below hW KW.lt;have hV:=An hb hW;clear hx rT oT oL KW hb c0 c1 c2 q1 q2 hv heq;generalize((wr.drewN u).drewN nq1).drewN nq2=W at*;have ha63:a+1≤1099511627776:=Aa
        have hblt:(ad.add (k*7)).block<W.heap.size:=by
         rw[Aq];have h1:=hr.lt rfl (show 0<n*7 by omega)
         have h2:=hV.size;omega
        have i0:(0:Int)≤(a:Int):=Aa;have i2:(a:Int)≤(nt:Int):=Aa;have r0:=OT.rd1;simp only at r0
        have RT1:Rd W (some aT) a (ints (ts.take a)):=by
         have:=r0.partG (k:=0) (m:=a) Aa
         rwa [Option.map_some,Gu,List.drop_zero] at this
        have lts:ts.length=nt:=r0.len
        have RT2:Rd W (some (aT.add a)) (nt-a) (ints (ts.drop a)):=by
         have:=r0.partG (k:=a) (m:=nt-a) Aa
         rwa [Option.map_some,ED (by rw[JW];omega)] at this
        have bZ:Below W W (W.alloc (.cells #[ZI tk] 2)):=BU;have RZ1:Rd (W.alloc (.cells #[ZI tk] 2)).drew (some aT) a (ints (ts.take a)):=Rd.below (w:=W) RT1 (CO bZ);have RD1:Rd W.drew (some aT) a (ints (ts.take a)):=RT1;have RZN:Rd (W.alloc (.cells #[ZI tk] 2)).drew (some ⟨W,0,none⟩) 1 (ints [tk]):=BD _ _ _;have nct:nt≤ct:=OT.nc;have i1:(a:Int)≤(ct:Int):=Aa
        go_upto_region 13 with fail
        go_cut [4] (fun v wx=> ∃kt:Hd,v=.slice kt.A kt.n kt.c∧kt.n=nt+1∧AR wx W.heap.size 1 kt (ints (ts.take a++tk::ts.drop a))∧Below W W wx)
        case first=>
         go_region_held3 (fun w'=>w'.cell? (ad.add (k*7))=ZS tk)
          (first|(with_reducible exact cT)|(with_reducible assumption)|go_keep)
          (first
           |(go_at_call 266;(with_reducible refine(CS (some aT) a ct (ts.take a) _ Aa RD1).mono ?_);rintro e u1 ⟨⟨KA,kn,kc⟩,rfl,hkn,OK,bk⟩;obtain rfl:a=kn:=hkn.symm;have bk2:Below W W u1:=EE (m:=1) bk;have hz:=(JX bk2 (p:=ad.add (k*7)) hblt).trans cT;have bu:Below u1 u1 (u1.alloc (.cells #[ZI tk] 2)):=(AP _ _).alloc Bk _;have RU:Rd (u1.alloc (.cells #[ZI tk] 2)) (some ⟨u1,0,none⟩) (1*1) (ints [tk]):=BD _ _ _;have hBu:W≤(u1.alloc (.cells #[ZI tk] 2)).heap.size:=Ch bk2.size bu.size;have h63:a+1≤1099511627776:=ha63)
           |(go_at_call 266;(with_reducible refine(CS (some aT) a ct (ts.take a) _ Aa RZ1).mono ?_);rintro e u1 ⟨⟨KA,kn,kc⟩,rfl,hkn,OK,bk⟩;obtain rfl:a=kn:=hkn.symm;have bk2:Below W W u1:=(CO bZ).trans (bk.mono bZ.size);have RN:Rd u1 (some ⟨W,0,none⟩) (1*1) (ints [tk]):=RZN.below bk;have hz:=(JX bk2 (p:=ad.add (k*7)) hblt).trans cT;have OK:=OK.mono bZ.size;have hBu:=bk2.size;have h63:a+1≤1099511627776:=ha63)
           |(refine Be AI _ _ 28 AI 2 1 8 underlying28 AJ Ah W.heap.size (⟨KA,a,kc⟩:Hd) (ints (ts.take a)) AI (OK.below (w':=u1.alloc (.cells #[ZI tk] 2)) bu) _ 1 1 (ints [tk]) AI RU (Ao _) h63 Ah hBu ?_;intro k1 v1 hn1 q1 g1 hat1;have bv1:Below W W v1:=(An bk2 bu).grown g1 hBu (fun b e=>(OK.rowlt b e).1);have hz1:=(JX bv1 (p:=ad.add (k*7)) hblt).trans cT;have RD2:Rd v1 (some (aT.add a)) ((nt-a)*1) (ints (ts.drop a)):=by {rw[Nat.mul_one];exact RT2.below bv1};have h64:k1.n+(nt-a)≤1099511627776:=by {rw[hn1];show a+1+(nt-a)≤1099511627776;omega})
           |(refine Be AI _ _ 28 AI 2 1 8 underlying28 AJ Ah W.heap.size (⟨KA,a,kc⟩:Hd) (ints (ts.take a)) AI OK _ 1 1 (ints [tk]) AI RN (Ao _) h63 Ah hBu ?_;intro k1 v1 hn1 q1 g1 hat1;have bv1:Below W W v1:=bk2.grown g1 hBu (fun b e=>(OK.rowlt b e).1);have hz1:=(JX bv1 (p:=ad.add (k*7)) hblt).trans cT;have RD2:Rd v1 (some (aT.add a)) ((nt-a)*1) (ints (ts.drop a)):=by {rw[Nat.mul_one];exact RT2.below bv1};have h64:k1.n+(nt-a)≤1099511627776:=by {rw[hn1];show a+1+(nt-a)≤1099511627776;omega})
           |(refine Be AI _ _ 28 AI 2 1 8 underlying28 AJ Ah W.heap.size k1 (ints (ts.take a)++ints [tk]) AI q1 (some (aT.add a)) (nt-a) (ct-a) (ints (ts.drop a)) AI RD2 (Ao _) h64 Ah bv1.size ?_;intro k2 v2 hn2 q2 g2 hat2;have bv2:Below W W v2:=bv1.grown g2 bv1.size (fun b e=>(q1.rowlt b e).1);have hz2:=(JX bv2 (p:=ad.add (k*7)) hblt).trans cT))
         all_goals
          have hn3:k2.n=a+1+(nt-a):=by rw[hn2,hn1]
          have HN3:=Ai hn3;have hnk:k2.n=nt+1:=by rw[hn2,hn1];show a+1+(nt-a)=nt+1;omega
          have HNK:=Ai hnk;clear hn2 hn1 hn3 hnk
          have q3:AR v2 W.heap.size 1 k2 (ints (ts.take a++tk::ts.drop a)):=by
           have e:ints (ts.take a++tk::ts.drop a)=ints (ts.take a)++ints [tk]++ints (ts.drop a):=by unfold ints;simp
           rw[e];exact q2
          go_wp2_with fail
          go_meet
          exact⟨k2,by first|rfl|rw[HN3.out],HNK.out,q3,bv2⟩
        case rest=>
         obtain⟨⟨ktA,ktn,ktc⟩,rfl,hkt,OKT,bT⟩:=hcut;obtain⟨W2,rfl⟩: ∃x:World,x=wc:=⟨_,rfl⟩;simp only at hkt;have OL:=OL.below bT;have cL:=Cg bT cL hblt;have hw1:w+1≤W.heap.size:=KV.lt;have KV:=KV.below bT KV.lt;have hV:=An hV bT;have hblt:(ad.add (k*7)).block<W2.heap.size:=CM hblt bT.size;have hW12:=bT.size;clear r0 RT1 RT2 bZ RZ1 RD1 RZN nct i1 OT cT bT
         have hktA:ktA≠none:=by
          obtain⟨_,_,e,-,-⟩:=OKT.rd1.at_ (k:=0) Aw;simp only at e;rw[e];simp
         clear hkt;have r0:=OL.rd1;simp only at r0
         have RT1:Rd W2 (some aL) a (ints (ls.take a)):=by
          have:=r0.partG (k:=0) (m:=a) Aa
          rwa [Option.map_some,Gu,List.drop_zero] at this
         have lts:ls.length=nt:=r0.len
         have RT2:Rd W2 (some (aL.add a)) (nt-a) (ints (ls.drop a)):=by
          have:=r0.partG (k:=a) (m:=nt-a) Aa
          rwa [Option.map_some,ED (by rw[JW];omega)] at this
         have bZ:Below W2 W2 (W2.alloc (.cells #[ZI lv] 2)):=BU;have RZ1:Rd (W2.alloc (.cells #[ZI lv] 2)).drew (some aL) a (ints (ls.take a)):=Rd.below (w:=W2) RT1 (CO bZ);have RD1:Rd W2.drew (some aL) a (ints (ls.take a)):=RT1;have RZN:Rd (W2.alloc (.cells #[ZI lv] 2)).drew (some ⟨W2,0,none⟩) 1 (ints [lv]):=BD _ _ _;have nct:nt≤cl:=OL.nc;have i1:(a:Int)≤(cl:Int):=Aa
         go_upto_region 14 with fail
         go_region_held3 (fun w'=>w'.cell? ⟨(ad.add (k*7)).block,(ad.add (k*7)).off+2,none⟩=ZS lv)
          (first|(with_reducible exact cL)|(with_reducible assumption)|go_keep)
          (first
           |(go_at_call 266;(with_reducible refine(CS (some aL) a cl (ls.take a) _ Aa RD1).mono ?_);rintro e u1 ⟨⟨KA,kn,kc⟩,rfl,hkn,OK,bk⟩;obtain rfl:a=kn:=hkn.symm;have bk2:Below W2 W2 u1:=EE (m:=1) bk;have hz:=Cg bk2 cL hblt;have bu:Below u1 u1 (u1.alloc (.cells #[ZI lv] 2)):=(AP _ _).alloc Bk _;have RU:Rd (u1.alloc (.cells #[ZI lv] 2)) (some ⟨u1,0,none⟩) (1*1) (ints [lv]):=BD _ _ _;have hBu:W2≤(u1.alloc (.cells #[ZI lv] 2)).heap.size:=Ch bk2.size bu.size;have h63:a+1≤1099511627776:=ha63)
           |(go_at_call 266;(with_reducible refine(CS (some aL) a cl (ls.take a) _ Aa RZ1).mono ?_);rintro e u1 ⟨⟨KA,kn,kc⟩,rfl,hkn,OK,bk⟩;obtain rfl:a=kn:=hkn.symm;have bk2:Below W2 W2 u1:=(CO bZ).trans (bk.mono bZ.size);have RN:Rd u1 (some ⟨W2,0,none⟩) (1*1) (ints [lv]):=RZN.below bk;have hz:=Cg bk2 cL hblt;have OK:=OK.mono bZ.size;have hBu:=bk2.size;have h63:a+1≤1099511627776:=ha63)
           |(refine Be AI _ _ 28 AI 2 1 8 underlying28 AJ Ah W2.heap.size (⟨KA,a,kc⟩:Hd) (ints (ls.take a)) AI (OK.below (w':=u1.alloc (.cells #[ZI lv] 2)) bu) _ 1 1 (ints [lv]) AI RU (Ao _) h63 Ah hBu ?_;intro k1 v1 hn1 q1 g1 hat1;have bv1:Below W2 W2 v1:=(An bk2 bu).grown g1 hBu (fun b e=>(OK.rowlt b e).1);have hz1:=Cg bv1 cL hblt;have RD2:Rd v1 (some (aL.add a)) ((nt-a)*1) (ints (ls.drop a)):=by {rw[Nat.mul_one];exact RT2.below bv1};have h64:k1.n+(nt-a)≤1099511627776:=by {rw[hn1];show a+1+(nt-a)≤1099511627776;omega})
           |(refine Be AI _ _ 28 AI 2 1 8 underlying28 AJ Ah W2.heap.size (⟨KA,a,kc⟩:Hd) (ints (ls.take a)) AI OK _ 1 1 (ints [lv]) AI RN (Ao _) h63 Ah hBu ?_;intro k1 v1 hn1 q1 g1 hat1;have bv1:Below W2 W2 v1:=bk2.grown g1 hBu (fun b e=>(OK.rowlt b e).1);have hz1:=Cg bv1 cL hblt;have RD2:Rd v1 (some (aL.add a)) ((nt-a)*1) (ints (ls.drop a)):=by {rw[Nat.mul_one];exact RT2.below bv1};have h64:k1.n+(nt-a)≤1099511627776:=by {rw[hn1];show a+1+(nt-a)≤1099511627776;omega})
           |(refine Be AI _ _ 28 AI 2 1 8 underlying28 AJ Ah W2.heap.size k1 (ints (ls.take a)++ints [lv]) AI q1 (some (aL.add a)) (nt-a) (cl-a) (ints (ls.drop a)) AI RD2 (Ao _) h64 Ah bv1.size ?_;intro k2 v2 hn2 q2 g2 hat2;have bv2:Below W2 W2 v2:=bv1.grown g2 bv1.size (fun b e=>(q1.rowlt b e).1);have hz2:=(JX bv2 (p:=⟨(ad.add (k*7)).block,(ad.add (k*7)).off+2,none⟩) hblt).trans cL))
         all_goals
          have hn3:k2.n=a+1+(nt-a):=by rw[hn2,hn1]
          have HN3:=Ai hn3;have hnk:k2.n=nt+1:=by rw[hn2,hn1];show a+1+(nt-a)=nt+1;omega
          have HNK:=Ai hnk;clear hn2 hn1 hn3 hnk
          have q3:AR v2 W2.heap.size 1 k2 (ints (ls.take a++lv::ls.drop a)):=by
           have e:ints (ls.take a++lv::ls.drop a)=ints (ls.take a)++ints [lv]++ints (ls.drop a):=by unfold ints;simp
           rw[e];exact q2
          have hkl:=HNK.out;have OKL:=q3;have bL:=bv2
          have hklA:k2.A≠none:=by
           obtain⟨_,_,e,-,-⟩:=OKL.rd1.at_ (k:=0) Aa;rw[e];simp
          have OKT2:=OKT.below bL;have KV:=KV.below bL KV.lt;have hV:=An hV bL;have hoff: ∀b,(⟨ktA,ktn,ktc⟩:Hd).row=some b→k2.row≠some b:=fun b e e2=>by have h1:=(OKT.rowlt b e).2;have h2:=(OKL.rowlt b e2).1;omega
          clear hkl
          go_wp2_with fail
          refine⟨⟨k+1,⟨ktA,ktn,ktc⟩,k2,by omega,by go_num,rfl,(by first|rfl|rw[HN3.out]),?_,?_,hoff,hktA,hklA,hV,KV⟩,by simp[intOf];omega⟩
          ·rw[HE.out.1];exact OKT2.mono hw1
          ·rw[HE.out.2];exact OKL.mono (Ch hw1 hW12)
      ·have HQ:Hid (a=nt):=(show a=nt by omega)
       have HE:=Ai (HN.out a rfl (fun h=>absurd h hmn));clear HN HU HA HB
       go_wp2_with fail
       go_quiet (fail)
       revert nq;intro nq1
       go_wp2_with fail
       go_quiet (fail)
       revert nq;intro nq2
       go_wp2_with fail
       have hW:Below wr wr (((wr.drewN u).drewN nq1).drewN nq2):=Ba (Ba (Ba E9 _) _) _;have OT:=oT.below hW;have OL:=oL.below hW;have cT:(((wr.drewN u).drewN nq1).drewN nq2).cell? (ad.add (k*7))=ZS tk:=c0;have cL:(((wr.drewN u).drewN nq1).drewN nq2).cell? ⟨(ad.add (k*7)).block,(ad.add (k*7)).off+2,none⟩=ZS lv:=c2;have KV:=KW.below hW KW.lt;have hV:=An hb hW;clear rT oT oL KW hb c0 c1 c2;generalize((wr.drewN u).drewN nq1).drewN nq2=W at*;have ha63:a+1≤1099511627776:=Aa
       have hblt:(ad.add (k*7)).block<W.heap.size:=by
        rw[Aq];have h1:=hr.lt rfl (show 0<n*7 by omega)
        have h2:=hV.size;omega
       have i0:(0:Int)≤(a:Int):=Aa;have i2:(a:Int)≤(nt:Int):=Aa;have r0:=OT.rd1;simp only at r0
       have RT1:Rd W (some aT) a (ints (ts.take a)):=by
        have:=r0.partG (k:=0) (m:=a) Aa
        rwa [Option.map_some,Gu,List.drop_zero] at this
       have lts:ts.length=nt:=r0.len
       have RT2:Rd W (some (aT.add a)) (nt-a) (ints (ts.drop a)):=by
        have:=r0.partG (k:=a) (m:=nt-a) Aa
        rwa [Option.map_some,ED (by rw[JW];omega)] at this
       have RT2': ∀(v1:World) (A:Option Addr),Rd v1 A (nt-a) (ints (ts.drop a)):=fun v1 A=>by rw[show nt-a=0 by have:=HQ.out;omega,List.drop_eq_nil_of_le (show ts.length≤a by have:=HQ.out;omega)];exact Rd.nil _ _
       obtain⟨XaT,hXaT⟩: ∃X,(if ct=a then some aT else some (aT.add a))=X:=⟨_,rfl⟩;have bZ:Below W W (W.alloc (.cells #[ZI tk] 2)):=BU;have RZ1:Rd (W.alloc (.cells #[ZI tk] 2)).drew (some aT) a (ints (ts.take a)):=Rd.below (w:=W) RT1 (CO bZ);have RD1:Rd W.drew (some aT) a (ints (ts.take a)):=RT1;have RZN:Rd (W.alloc (.cells #[ZI tk] 2)).drew (some ⟨W,0,none⟩) 1 (ints [tk]):=BD _ _ _;have nct:nt≤ct:=OT.nc;have i1:(a:Int)≤(ct:Int):=Aa
       go_upto_region 13 with fail
       go_cut [4] (fun v wx=> ∃kt:Hd,v=.slice kt.A kt.n kt.c∧kt.n=nt+1∧AR wx W.heap.size 1 kt (ints (ts.take a++tk::ts.drop a))∧Below W W wx)
       case first=>
        go_region_held3 (fun w'=>w'.cell? (ad.add (k*7))=ZS tk)
         (first|(with_reducible exact cT)|(with_reducible assumption)|go_keep)
         (first
          |(go_at_call 266;(with_reducible refine(CS (some aT) a ct (ts.take a) _ Aa RD1).mono ?_);rintro e u1 ⟨⟨KA,kn,kc⟩,rfl,hkn,OK,bk⟩;obtain rfl:a=kn:=hkn.symm;have bk2:Below W W u1:=EE (m:=1) bk;have hz:=(JX bk2 (p:=ad.add (k*7)) hblt).trans cT;have bu:Below u1 u1 (u1.alloc (.cells #[ZI tk] 2)):=(AP _ _).alloc Bk _;have RU:Rd (u1.alloc (.cells #[ZI tk] 2)) (some ⟨u1,0,none⟩) (1*1) (ints [tk]):=BD _ _ _;have hBu:W≤(u1.alloc (.cells #[ZI tk] 2)).heap.size:=Ch bk2.size bu.size;have h63:a+1≤1099511627776:=ha63)
          |(go_at_call 266;(with_reducible refine(CS (some aT) a ct (ts.take a) _ Aa RZ1).mono ?_);rintro e u1 ⟨⟨KA,kn,kc⟩,rfl,hkn,OK,bk⟩;obtain rfl:a=kn:=hkn.symm;have bk2:Below W W u1:=(CO bZ).trans (bk.mono bZ.size);have RN:Rd u1 (some ⟨W,0,none⟩) (1*1) (ints [tk]):=RZN.below bk;have hz:=(JX bk2 (p:=ad.add (k*7)) hblt).trans cT;have OK:=OK.mono bZ.size;have hBu:=bk2.size;have h63:a+1≤1099511627776:=ha63)
          |(refine Be AI _ _ 28 AI 2 1 8 underlying28 AJ Ah W.heap.size (⟨KA,a,kc⟩:Hd) (ints (ts.take a)) AI (OK.below (w':=u1.alloc (.cells #[ZI tk] 2)) bu) _ 1 1 (ints [tk]) AI RU (Ao _) h63 Ah hBu ?_;intro k1 v1 hn1 q1 g1 hat1;have bv1:Below W W v1:=(An bk2 bu).grown g1 hBu (fun b e=>(OK.rowlt b e).1);have hz1:=(JX bv1 (p:=ad.add (k*7)) hblt).trans cT;have RD2: ∀A,Rd v1 A ((nt-a)*1) (ints (ts.drop a)):=fun A=>by {rw[Nat.mul_one];exact RT2' v1 A};have h64:k1.n+(nt-a)≤1099511627776:=by {rw[hn1];show a+1+(nt-a)≤1099511627776;omega})
          |(refine Be AI _ _ 28 AI 2 1 8 underlying28 AJ Ah W.heap.size (⟨KA,a,kc⟩:Hd) (ints (ts.take a)) AI OK _ 1 1 (ints [tk]) AI RN (Ao _) h63 Ah hBu ?_;intro k1 v1 hn1 q1 g1 hat1;have bv1:Below W W v1:=bk2.grown g1 hBu (fun b e=>(OK.rowlt b e).1);have hz1:=(JX bv1 (p:=ad.add (k*7)) hblt).trans cT;have RD2: ∀A,Rd v1 A ((nt-a)*1) (ints (ts.drop a)):=fun A=>by {rw[Nat.mul_one];exact RT2' v1 A};have h64:k1.n+(nt-a)≤1099511627776:=by {rw[hn1];show a+1+(nt-a)≤1099511627776;omega})
          |(refine Be AI _ _ 28 AI 2 1 8 underlying28 AJ Ah W.heap.size k1 (ints (ts.take a)++ints [tk]) AI q1 _ (nt-a) (ct-a) (ints (ts.drop a)) AI (RD2 _) (Ao _) h64 Ah bv1.size ?_;intro k2 v2 hn2 q2 g2 hat2;have bv2:Below W W v2:=bv1.grown g2 bv1.size (fun b e=>(q1.rowlt b e).1);have hz2:=(JX bv2 (p:=ad.add (k*7)) hblt).trans cT))
        all_goals
         have hn3:k2.n=a+1+(nt-a):=by rw[hn2,hn1]
         have HN3:=Ai hn3;have hnk:k2.n=nt+1:=by rw[hn2,hn1];show a+1+(nt-a)=nt+1;omega
         have HNK:=Ai hnk;clear hn2 hn1 hn3 hnk
         have q3:AR v2 W.heap.size 1 k2 (ints (ts.take a++tk::ts.drop a)):=by
          have e:ints (ts.take a++tk::ts.drop a)=ints (ts.take a)++ints [tk]++ints (ts.drop a):=by unfold ints;simp
          rw[e];exact q2
         go_wp2_with fail
         go_meet
         exact⟨k2,by first|rfl|rw[HN3.out],HNK.out,q3,bv2⟩
       case rest=>
        obtain⟨⟨ktA,ktn,ktc⟩,rfl,hkt,OKT,bT⟩:=hcut;obtain⟨W2,rfl⟩: ∃x:World,x=wc:=⟨_,rfl⟩;simp only at hkt;have OL:=OL.below bT;have cL:=Cg bT cL hblt;have hw1:w+1≤W.heap.size:=KV.lt;have KV:=KV.below bT KV.lt;have hV:=An hV bT;have hblt:(ad.add (k*7)).block<W2.heap.size:=CM hblt bT.size;have hW12:=bT.size;clear r0 RT1 RT2 bZ RZ1 RD1 RZN nct i1 OT cT bT
        have hktA:ktA≠none:=by
         obtain⟨_,_,e,-,-⟩:=OKT.rd1.at_ (k:=0) Aw;simp only at e;rw[e];simp
        clear hkt;have r0:=OL.rd1;simp only at r0
        have RT1:Rd W2 (some aL) a (ints (ls.take a)):=by
         have:=r0.partG (k:=0) (m:=a) Aa
         rwa [Option.map_some,Gu,List.drop_zero] at this
        have lts:ls.length=nt:=r0.len
        have RT2:Rd W2 (some (aL.add a)) (nt-a) (ints (ls.drop a)):=by
         have:=r0.partG (k:=a) (m:=nt-a) Aa
         rwa [Option.map_some,ED (by rw[JW];omega)] at this
        have RT2': ∀(v1:World) (A:Option Addr),Rd v1 A (nt-a) (ints (ls.drop a)):=fun v1 A=>by rw[show nt-a=0 by have:=HQ.out;omega,List.drop_eq_nil_of_le (show ls.length≤a by have:=HQ.out;omega)];exact Rd.nil _ _
        obtain⟨XaL,hXaL⟩: ∃X,(if cl=a then some aL else some (aL.add a))=X:=⟨_,rfl⟩;have bZ:Below W2 W2 (W2.alloc (.cells #[ZI lv] 2)):=BU;have RZ1:Rd (W2.alloc (.cells #[ZI lv] 2)).drew (some aL) a (ints (ls.take a)):=Rd.below (w:=W2) RT1 (CO bZ);have RD1:Rd W2.drew (some aL) a (ints (ls.take a)):=RT1;have RZN:Rd (W2.alloc (.cells #[ZI lv] 2)).drew (some ⟨W2,0,none⟩) 1 (ints [lv]):=BD _ _ _;have nct:nt≤cl:=OL.nc;have i1:(a:Int)≤(cl:Int):=Aa
        go_upto_region 14 with fail
        go_region_held3 (fun w'=>w'.cell? ⟨(ad.add (k*7)).block,(ad.add (k*7)).off+2,none⟩=ZS lv)
         (first|(with_reducible exact cL)|(with_reducible assumption)|go_keep)
         (first
          |(go_at_call 266;(with_reducible refine(CS (some aL) a cl (ls.take a) _ Aa RD1).mono ?_);rintro e u1 ⟨⟨KA,kn,kc⟩,rfl,hkn,OK,bk⟩;obtain rfl:a=kn:=hkn.symm;have bk2:Below W2 W2 u1:=EE (m:=1) bk;have hz:=Cg bk2 cL hblt;have bu:Below u1 u1 (u1.alloc (.cells #[ZI lv] 2)):=(AP _ _).alloc Bk _;have RU:Rd (u1.alloc (.cells #[ZI lv] 2)) (some ⟨u1,0,none⟩) (1*1) (ints [lv]):=BD _ _ _;have hBu:W2≤(u1.alloc (.cells #[ZI lv] 2)).heap.size:=Ch bk2.size bu.size;have h63:a+1≤1099511627776:=ha63)
          |(go_at_call 266;(with_reducible refine(CS (some aL) a cl (ls.take a) _ Aa RZ1).mono ?_);rintro e u1 ⟨⟨KA,kn,kc⟩,rfl,hkn,OK,bk⟩;obtain rfl:a=kn:=hkn.symm;have bk2:Below W2 W2 u1:=(CO bZ).trans (bk.mono bZ.size);have RN:Rd u1 (some ⟨W2,0,none⟩) (1*1) (ints [lv]):=RZN.below bk;have hz:=Cg bk2 cL hblt;have OK:=OK.mono bZ.size;have hBu:=bk2.size;have h63:a+1≤1099511627776:=ha63)
          |(refine Be AI _ _ 28 AI 2 1 8 underlying28 AJ Ah W2.heap.size (⟨KA,a,kc⟩:Hd) (ints (ls.take a)) AI (OK.below (w':=u1.alloc (.cells #[ZI lv] 2)) bu) _ 1 1 (ints [lv]) AI RU (Ao _) h63 Ah hBu ?_;intro k1 v1 hn1 q1 g1 hat1;have bv1:Below W2 W2 v1:=(An bk2 bu).grown g1 hBu (fun b e=>(OK.rowlt b e).1);have hz1:=Cg bv1 cL hblt;have RD2: ∀A,Rd v1 A ((nt-a)*1) (ints (ls.drop a)):=fun A=>by {rw[Nat.mul_one];exact RT2' v1 A};have h64:k1.n+(nt-a)≤1099511627776:=by {rw[hn1];show a+1+(nt-a)≤1099511627776;omega})
          |(refine Be AI _ _ 28 AI 2 1 8 underlying28 AJ Ah W2.heap.size (⟨KA,a,kc⟩:Hd) (ints (ls.take a)) AI OK _ 1 1 (ints [lv]) AI RN (Ao _) h63 Ah hBu ?_;intro k1 v1 hn1 q1 g1 hat1;have bv1:Below W2 W2 v1:=bk2.grown g1 hBu (fun b e=>(OK.rowlt b e).1);have hz1:=Cg bv1 cL hblt;have RD2: ∀A,Rd v1 A ((nt-a)*1) (ints (ls.drop a)):=fun A=>by {rw[Nat.mul_one];exact RT2' v1 A};have h64:k1.n+(nt-a)≤1099511627776:=by {rw[hn1];show a+1+(nt-a)≤1099511627776;omega})
          |(refine Be AI _ _ 28 AI 2 1 8 underlying28 AJ Ah W2.heap.size k1 (ints (ls.take a)++ints [lv]) AI q1 _ (nt-a) (cl-a) (ints (ls.drop a)) AI (RD2 _) (Ao _) h64 Ah bv1.size ?_;intro k2 v2 hn2 q2 g2 hat2;have bv2:Below W2 W2 v2:=bv1.grown g2 bv1.size (fun b e=>(q1.rowlt b e).1);have hz2:=(JX bv2 (p:=⟨(ad.add (k*7)).block,(ad.add (k*7)).off+2,none⟩) hblt).trans cL))
        all_goals
         have hn3:k2.n=a+1+(nt-a):=by rw[hn2,hn1]
         have HN3:=Ai hn3;have hnk:k2.n=nt+1:=by rw[hn2,hn1];show a+1+(nt-a)=nt+1;omega
         have HNK:=Ai hnk;clear hn2 hn1 hn3 hnk
         have q3:AR v2 W2.heap.size 1 k2 (ints (ls.take a++lv::ls.drop a)):=by
          have e:ints (ls.take a++lv::ls.drop a)=ints (ls.take a)++ints [lv]++ints (ls.drop a):=by unfold ints;simp
          rw[e];exact q2
         have hkl:=HNK.out;have OKL:=q3;have bL:=bv2
         have hklA:k2.A≠none:=by
          obtain⟨_,_,e,-,-⟩:=OKL.rd1.at_ (k:=0) Aa;rw[e];simp
         have OKT2:=OKT.below bL;have KV:=KV.below bL KV.lt;have hV:=An hV bL;have hoff: ∀b,(⟨ktA,ktn,ktc⟩:Hd).row=some b→k2.row≠some b:=fun b e e2=>by have h1:=(OKT.rowlt b e).2;have h2:=(OKL.rowlt b e2).1;omega
         clear hkl
         go_wp2_with fail
         refine⟨⟨k+1,⟨ktA,ktn,ktc⟩,k2,by omega,by go_num,rfl,(by first|rfl|rw[HN3.out]),?_,?_,hoff,hktA,hklA,hV,KV⟩,by simp[intOf];omega⟩
         ·rw[HE.out.1];exact OKT2.mono hw1
         ·rw[HE.out.2];exact OKL.mono (Ch hw1 hW12)
  ·obtain rfl:n=k:=Aa;obtain rfl:nt=nl:=Aa;have lts:(fstL (gTo xs n)).length=nt:=oT.rd1.len;have LT:=Ai lT;clear lT lL lk;have e0:=KW.cell;have f0:=KW.frozen
   by_cases h0:nt=0
   ·have HP:Hid (DY xs n= []∧gaugeC xs n=4):=by unfold Hid DY gaugeC;rw[HLOG.out,←LT.out,h0];exact⟨by simpa using List.length_eq_zero_iff.1 (LT.out.symm.trans h0),rfl⟩
    clear LT lts;subst h0;go_wp2;refine AS (v:=.tuple (EK none 0 0 none 0 0 4)) (by simp[results,results211,go_sem,e0]) rfl ⟨⟨⟨none,0,0⟩,⟨none,0,0⟩⟩,?_,⟨AZ _,AZ _⟩,?_,?_,?_,?_⟩
    ·rw[HP.out.2];rfl
    ·unfold Dk;rw[HP.out.1];exact Ag.cons (s:=⟨none,0,[]⟩) (Rd.nil _ _) (Ag.cons (s:=⟨none,0,[]⟩) (Rd.nil _ _) (Ag.nil _))
    ·exact AB.cons (s:=⟨none,0,_⟩) (fun h=>absurd h (Nat.lt_irrefl 0)) (AB.cons (s:=⟨none,0,_⟩) (fun h=>absurd h (Nat.lt_irrefl 0)) (AB.nil _ _))
    ·exact Dx.cons (fun s hs t ht b e=>by rw[DD.1 hs] at e;cases e) (Dx.one _)
    ·repeat(first|with_reducible exact hb|refine Below.setCell ?_ (by simp<;>omega) _)
   have h0I: ¬((nt:Int)=0):=Aa
   by_cases h1:nt≤40
   rotate_left
   ·have h1I:(40:Int)<(nt:Int):=Aa;have HP:Hid (DY xs n= []∧gaugeC xs n=3):=by unfold Hid DY gaugeC;simp[HLOG.out,←LT.out,h0,h1]
    go_wp2;refine AS (v:=.tuple (EK none 0 0 none 0 0 3)) (by simp[results,results211,go_sem,e0]) rfl ⟨⟨⟨none,0,0⟩,⟨none,0,0⟩⟩,?_,⟨AZ _,AZ _⟩,?_,?_,?_,?_⟩
    ·rw[HP.out.2];rfl
    ·unfold Dk;rw[HP.out.1];exact Ag.cons (s:=⟨none,0,[]⟩) (Rd.nil _ _) (Ag.cons (s:=⟨none,0,[]⟩) (Rd.nil _ _) (Ag.nil _))
    ·exact AB.cons (s:=⟨none,0,_⟩) (fun h=>absurd h (Nat.lt_irrefl 0)) (AB.cons (s:=⟨none,0,_⟩) (fun h=>absurd h (Nat.lt_irrefl 0)) (AB.nil _ _))
    ·exact Dx.cons (fun s hs t ht b e=>by rw[DD.1 hs] at e;cases e) (Dx.one _)
    ·repeat(first|with_reducible exact hb|refine Below.setCell ?_ (by simp<;>omega) _)
   ·have h1I: ¬(40:Int)<(nt:Int):=Aa;have HP:Hid (Dk xs n=⟨fstL (gTo xs n),sndL (gTo xs n)⟩∧gaugeC xs n=0):=by unfold Hid Dk DY gaugeC;simp[HLOG.out,←LT.out,h0,h1]
    have hrow2: ∀(h:Hd) (us:List Value),AR wr (w.heap.size+1) 1 h us→ ∀(u v:Value),AR ((wr.setCell ⟨w,0,none⟩ u).setCell ⟨w,1,none⟩ v) (w.heap.size+1) 1 h us:=fun h us o u v=>(o.fars (fun e=>by have:=(o.rowlt _ e).1;simp only at this;omega) u).fars (fun e=>by have:=(o.rowlt _ e).1;simp only at this;omega) v
    have OT2:=fun u v=>hrow2 _ _ oT u v;have OL2:=fun u v=>hrow2 _ _ oL u v;go_wp2;refine AS (v:=.tuple (EK (some aT) nt ct (some aL) nt cl 0)) (by simp[results,results211,go_sem,e0]) rfl ?_
    rw[HP.out.1,HP.out.2];refine⟨⟨⟨some aT,nt,ct⟩,⟨some aL,nt,cl⟩⟩,rfl,⟨by simp only;omega,by simp only;omega⟩,Ag.cons (s:=⟨some aT,nt,ints (fstL (gTo xs n))⟩) ?_ (Ag.cons (s:=⟨some aL,nt,ints (sndL (gTo xs n))⟩) ?_ (Ag.nil _)),AB.cons (s:=⟨some aT,nt,ints (fstL (gTo xs n))⟩) ?_ (AB.cons (s:=⟨some aL,nt,ints (sndL (gTo xs n))⟩) ?_ (AB.nil _ _)),?_,?_⟩
    ·exact(OT2 _ _).rd1
    ·exact(OL2 _ _).rd1
    ·exact((OT2 _ _).mono (Nat.le_succ _)).wr1
    ·exact((OL2 _ _).mono (Nat.le_succ _)).wr1
    ·refine Dx.cons (fun s hs t ht b e=> ?_) (Dx.one _);rw[DD.1 hs] at e;rw[DD.1 ht];intro e2;obtain⟨_,e3,h3,rfl⟩:=Df e;obtain⟨_,e4,h4,h5⟩:=Df e2;have hc3:0<ct:=by have:=oT.nc;simp only at this h3;omega
     have hc4:0<cl:=by have:=oL.nc;simp only at this h4;omega
     exact hoff _ (Hd.row_mk e3 hc3) (by rw[←h5];exact Hd.row_mk e4 hc4)
    ·repeat(first|with_reducible exact hb|refine Below.setCell ?_ (by simp<;>omega) _)
def cutN (ts:List Int) (t:Int):Nat:=(ts.takeWhile fun a=>decide (a<t)).length
theorem bR (ts:List Int) (t:Int):cutN ts t≤ts.length:=(List.takeWhile_prefix _).length_le
theorem IL {t:Int}: ∀ {ts:List Int} {i:Nat},i≤ts.length→(∀a,a<i→ts.getD a 0<t)→(i<ts.length→ ¬ts.getD i 0<t)→cutN ts t=i
 | [],i,h,_,_=>by simp at h;subst h;rfl
 |x::r,0,_,_,h2=>by
  have:=h2 Cr;simp at this;unfold cutN;rw[List.takeWhile_cons_of_neg (by simpa using this)];rfl
 |x::r,i+1,h,h1,h2=>by
  have hx:x<t:=by simpa using h1 0 Aa
  have ih:=IL (t:=t) (ts:=r) (i:=i) CB (fun a ha=>by simpa using h1 (a+1) Aa) (fun hi=>by have:=h2 (by simpa using hi);simpa using this)
  unfold cutN at ih⊢;rw[List.takeWhile_cons_of_pos (by simpa using hx),Gt,ih]
def ft (ts:List Int):Prop:= ∀a b,a<b→b<ts.length→ts.getD a 0<ts.getD b 0
theorem am {ts:List Int} {m:Int} (h:FF ts m=true):ft ts:=by
 have h1: ∀j,j<ts.length→EQ ts m j=true:=fun j hj=>by
  unfold FF Fq at h;rw[List.all_eq_true] at h;exact h j (Eo.2 hj)
 intro a b hab hb
 induction b with
 |zero=>omega
 |succ b ih=>
  have h2:=h1 (b+1) hb;unfold EQ at h2;simp only[CD,Bool.or_eq_true,BP] at h2
  have h3:ts.getD b 0<ts.getD (b+1) 0:=by
   rcases h2.2.2 with h3|h3
   ·omega
   ·simpa using h3
  by_cases e:a=b
  ·subst e;exact h3
  ·have:=ih Aa Aa;omega
def Ua (ts:List Int) (t:Int):Bool:=decide (ts.getD 0 0≤t) && decide (t≤ts.getD (ts.length-1) 0)
def Ko (ts ls:List Int) (t:Int):Int:=(ls.getD (cutN ts t) 0-ls.getD (cutN ts t-1) 0)*(t-ts.getD (cutN ts t-1) 0)
def ZL (ts:List Int) (t:Int):Int:=ts.getD (cutN ts t) 0-ts.getD (cutN ts t-1) 0
def levLo (ts ls:List Int) (t:Int):Int:=if ts.getD (cutN ts t) 0=t then ls.getD (cutN ts t) 0 else ls.getD (cutN ts t-1) 0+Ko ts ls t/ZL ts t
def levHi (ts ls:List Int) (t:Int):Int:=if ts.getD (cutN ts t) 0=t then ls.getD (cutN ts t) 0 else ls.getD (cutN ts t-1) 0+ -(-Ko ts ls t/ZL ts t)
def levC (ts:List Int) (t:Int):Int:=if Ua ts t=true then 0 else 4
structure GY (ts ls:List Int):Prop where
 n0:1≤ts.length
 n1:ts.length≤40
 ris:FF ts 1000001=true
 eq:ls.length=ts.length
 lev:BV ls (-2000) 2000=true
theorem GY.tm {ts ls:List Int} (G:GY ts ls) {k:Nat} (hk:k<ts.length):0≤ts.getD k 0∧ts.getD k 0≤1000000:=by
 have:=Sh G.ris (ts[k]) (EH hk);rw[CJ hk];omega
theorem GY.lv {ts ls:List Int} (G:GY ts ls) {k:Nat} (hk:k<ts.length): -2000≤ls.getD k 0∧ls.getD k 0≤2000:=EZ G.lev (by have:=G.eq;omega)
theorem LG {ts:List Int} {t:Int}:(∀a,a<cutN ts t→ts.getD a 0<t)∧(cutN ts t<ts.length→ ¬ts.getD (cutN ts t) 0<t):=by
 induction ts with
 |nil=>exact⟨fun a h=>absurd h (by simp[cutN]),fun h=>absurd h Cr⟩
 |cons x r ih=>
  by_cases hx:x<t
  ·have e:cutN (x::r) t=cutN r t+1:=by unfold cutN;rw[List.takeWhile_cons_of_pos (by simpa using hx)];rfl
   rw[e];refine⟨fun a ha=> ?_,fun h=> ?_⟩
   ·cases a with
    |zero=>simpa using hx
    |succ a=>simpa using ih.1 a Aa
   ·simpa using ih.2 CB
  ·have e:cutN (x::r) t=0:=by unfold cutN;rw[List.takeWhile_cons_of_neg (by simpa using hx)];rfl
   rw[e];exact⟨fun a ha=>absurd ha (Nat.not_lt_zero _),fun _=>by simpa using hx⟩
theorem XR {ts:List Int} {t:Int} (hr:ft ts) (hi:cutN ts t<ts.length) (he:ts.getD (cutN ts t) 0=t):levC ts t=0:=by
 have h1:ts.getD 0 0≤t:=by
  by_cases e:cutN ts t=0
  ·rw[e] at he;omega
  ·have:=hr 0 (cutN ts t) Aa hi;omega
 have h2:t≤ts.getD (ts.length-1) 0:=by
  by_cases e:cutN ts t=ts.length-1
  ·rw[e] at he;omega
  ·have:=hr (cutN ts t) (ts.length-1) Aa Aa;omega
 unfold levC Ua;rw[BC h1,BC h2];rfl
theorem cE {ts:List Int} {t:Int} (hr:ft ts) (h0:1≤ts.length) (h:(cutN ts t=0∧ ¬ts.getD 0 0=t)∨cutN ts t=ts.length):levC ts t=4:=by
 have hc:=LG (ts:=ts) (t:=t);unfold levC Ua;rcases h with⟨h,hne⟩|h
 ·have:=hc.2 Aa;rw[h] at this;rw[BR (show¬ts.getD 0 0≤t by omega)];rfl
 ·have:=hc.1 (ts.length-1) Aa;rw[BR (show¬t≤ts.getD (ts.length-1) 0 by omega),Bool.and_false];rfl
theorem cD {ts:List Int} {t:Int} (hr:ft ts) (h0:cutN ts t≠0) (h1:cutN ts t<ts.length):levC ts t=0:=by
 have hc:=LG (ts:=ts) (t:=t);have h2:=hc.1 0 Aa;have h3:=hc.2 h1
 have h4:ts.getD (cutN ts t) 0≤ts.getD (ts.length-1) 0:=by
  by_cases e:cutN ts t=ts.length-1
  ·rw[e];omega
  ·have:=hr (cutN ts t) (ts.length-1) Aa Aa;omega
 unfold levC Ua;rw[BC (show ts.getD 0 0≤t by omega),BC (show t≤ts.getD (ts.length-1) 0 by omega)];rfl
theorem VL {a b A B:Int} (h1: -A≤a) (h2:a≤A) (h3: -B≤b) (h4:b≤B): -(A*B)≤a*b∧a*b≤A*B:=by
 have hA:0≤A:=Aa;have e:a.natAbs*b.natAbs≤A.natAbs*B.natAbs:=Nat.mul_le_mul Aa Aa;have e1:((a.natAbs*b.natAbs:Nat):Int)=((a*b).natAbs:Nat):=by rw[Int.natAbs_mul]
 have e2:((A.natAbs*B.natAbs:Nat):Int)=A*B:=by rw[Int.natCast_mul,Int.natAbs_of_nonneg hA,Int.natAbs_of_nonneg Aa]
 omega
def ag (d r _lo hi:Int):Int:=(d-r)-hi
def Xa (d r lo _hi:Int):Int:=(d+r)-lo
def MT (d r lo hi:Int):Int:=(ag d r lo hi+Xa d r lo hi)/2
def MU (d r lo hi:Int):Int:= -(-(Xa d r lo hi-ag d r lo hi)/2)
def laterB (ys:List Int) (m:Nat) (t:Int):Bool:=(List.range m).any fun j=>decide (recK ys j=1) && decide (recT ys j=t)
theorem TO (ys:List Int) (m:Nat) (t:Int):laterB ys (m+1) t=(laterB ys m t||(decide (recK ys m=1) && decide (recT ys m=t))):=by unfold laterB;rw[I6,List.any_append];simp
theorem TP {ys:List Int} {k m:Nat} {t:Int} (h:(decide (recK ys k=1) && decide (recT ys k=t))=true) (hk:k<m):laterB ys m t=true:=List.any_eq_true.2 ⟨k,Eo.2 hk,h⟩
theorem KJ (xs:List Int) (i j:Nat):recT (xs.drop ((i+1)*7)) j=recT xs (i+1+j)∧recK (xs.drop ((i+1)*7)) j=recK xs (i+1+j):=by
 unfold recT recK;simp only[DE,List.getElem?_drop];rw[show(i+1)*7+j*7=(i+1+j)*7 by omega,show(i+1)*7+(j*7+1)=(i+1+j)*7+1 by omega]
 exact⟨rfl,rfl⟩
theorem Wa {xs:List Int} {n i:Nat} (hi:i<n):UB xs n i=(decide (recK xs i=1) && !(laterB (xs.drop ((i+1)*7)) (n-(i+1)) (recT xs i))):=by
 unfold UB
 congr 2
 rw[Bool.eq_iff_iff];unfold laterB;rw[List.any_eq_true,List.any_eq_true]
 constructor
 ·rintro⟨j,hj,hb⟩;rw[CD,BP] at hb;have hj':=Eo.1 hj;refine⟨j-(i+1),Eo.2 Aa,?_⟩;rw[(KJ xs i (j-(i+1))).1,(KJ xs i (j-(i+1))).2,show i+1+(j-(i+1))=j by omega]
  exact hb.2
 ·rintro⟨j,hj,hb⟩;have hj':=Eo.1 hj;rw[(KJ xs i j).1,(KJ xs i j).2] at hb;exact⟨i+1+j,Eo.2 Aa,by rw[CD];exact⟨BC Aa,hb⟩⟩
theorem Km (t k l x y d r u:Int) (g:Nat) (w:World) (hg:g<w) (hc:w.cell? ⟨g,0,none⟩=ZS u):
  (BT 322 #[AD t k l x y d r,.pointer (some ⟨g,0,none⟩)] w (.bool (decide (k=1) && decide (t=u))):Prop):=by
 have b0:Below w w (w.alloc (.cells (AD t k l x y d r) 67)):=BU;have hc1:(w.alloc (.cells (AD t k l x y d r) 67)).cell? ⟨g,0,none⟩=ZS u:=Cg b0 hc hg;have K:=Br w 67 (AD t k l x y d r)
 by_cases h:k=1
 ·subst h
  go_enter func322,ntmps322
  go_upto_region 1 with fail
  generalize w.alloc _=w1 at*;have c:=K.cell
  go_wp2_with fail
  go_ret;exact⟨Af (by rw[Bool.eq_iff_iff];simp),b0⟩
 ·have hd:decide (k=1)=false:=CB
  go_enter func322,ntmps322
  go_upto_region 1 with fail
  generalize w.alloc _=w1 at*;have c:=K.cell
  go_wp2_with fail
  go_ret;exact⟨Af (by rw[hd];simp),b0⟩
theorem N8 (A:Option Addr) (n c:Nat) (xs:List Int) (u:Int) (g:Nat) (w:World) (hn:n≤1048576) (hr:Rd w A (n*7) (ints xs)) (hg:g<w) (hc:w.cell? ⟨g,0,none⟩=ZS u):
  Calls prog 112 #[.slice A n c,.func (.func 322) #[] #[.pointer (some ⟨g,0,none⟩)]] w fun e w'=> ∃v:Int,e=.returned (ZI v)∧(decide (v ≥ 0))=laterB xs n u∧Below w w w':=by
 go_enter func112,ntmps112
 go_wp2
 go_loopw [8] (fun i wr=> ∃k:Nat,k≤n∧i=.int .i64 k∧laterB xs k u=false∧Below w w wr)
  (fun i _=>n-(intOf i).toNat)
 case atStart=>exact⟨0,AZ _,rfl,rfl,AP _ _⟩
 case round=>
  obtain⟨k,hk,rfl,hall,hbel⟩:=hrel;have HA:=Ai hall;clear hall
  by_cases hlt:k<n
  ·obtain⟨ad,rfl,hx0,hx1,hx2,hx3,hx4,hx5,hx6⟩:=(hr.below hbel).seven hlt;have hg1:g<wr:=CM hg hbel.size;have hc1:=Cg hbel hc hg;have HS:Hid (laterB xs (k+1) u=(laterB xs k u||(decide (recK xs k=1) && decide (recT xs k=u)))):=TO xs k u
   have HF:Hid ((decide (recK xs k=1) && decide (recT xs k=u))=true→laterB xs n u=true):=fun h=>TP h hlt;have HT:Hid (recT xs k=xs.getD (k*7) 0∧recK xs k=xs.getD (k*7+1) 0):=⟨rfl,rfl⟩;have hi0:(0:Int)≤(k:Int):=Aa;have hi1:(k:Int)<(n:Int):=Aa;generalize xs.getD (k*7) 0=x0 at*;generalize xs.getD (k*7+1) 0=x1 at*;generalize xs.getD (k*7+2) 0=x2 at*;generalize xs.getD (k*7+3) 0=x3 at*;generalize xs.getD (k*7+4) 0=x4 at*;generalize xs.getD (k*7+5) 0=x5 at*;generalize xs.getD (k*7+6) 0=x6 at*;rcases BA (decide (x1=1) && decide (x0=u)) with h|h
   ·have HH:=Ai h;clear h
    go_wp2_with fail
    refine(Km x0 x1 x2 x3 x4 x5 x6 u g _ hg1 hc1).mono ?_;rw[HH.out];rintro e w1 ⟨rfl,b1⟩;have b2:=An hbel b1;go_wp2;go_ret;exact⟨k,rfl,by rw[HF.out (by rw[HT.out.1,HT.out.2];exact HH.out)];simp,b2⟩
   ·have HH:=Ai h;clear h
    go_wp2_with fail
    refine(Km x0 x1 x2 x3 x4 x5 x6 u g _ hg1 hc1).mono ?_;rw[HH.out];rintro e w1 ⟨rfl,b1⟩;have b2:=An hbel b1;go_wp2
    go_roundw
    case rel=>exact⟨k+1,by omega,by go_num,by rw[HS.out,HA.out,HT.out.1,HT.out.2,HH.out];rfl,b2⟩
    case measure=>simp[intOf];omega
  ·obtain rfl:k=n:=Aa;go_wp2;go_ret;exact⟨-1,rfl,by rw[HA.out];rfl,hbel⟩
theorem J4 (A:Option Addr) (n c:Nat) (xs:List Int) (u:Int) (g:Nat) (w:World) (hn:n≤1048576) (hr:Rd w A (n*7) (ints xs)) (hg:g<w) (hc:w.cell? ⟨g,0,none⟩=ZS u):
  (BT 79 #[.slice A n c,.func (.func 322) #[] #[.pointer (some ⟨g,0,none⟩)]] w (.bool (laterB xs n u)):Prop):=by
 go_enter func79,ntmps79
 go_wp2_with (go_at_call 112;refine(N8 _ _ _ xs u g _ hn hr hg hc).mono ?_;rintro e w' ⟨v,rfl,hv,hb⟩)
 go_ret;exact⟨Af (by rw[←hv]),hb⟩
end Go.Proofs.YtkndcebhjcfphaaGreatDoor
