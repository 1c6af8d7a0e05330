import Derived.Test.YtkndcebhjcfphaaGreatDoorZF
import Derived.Deep.RegionHeld3
namespace Go.Proofs.YtkndcebhjcfphaaGreatDoor
open Go.RowKit Go.Proofs.Tryz
set_option maxRecDepth 100000
set_option maxHeartbeats 4000000
set_option linter.all false
theorem AR.fars {w:World} {B K:Nat} {h:Hd} {us:List Value} (o:AR w B K h us) {p:Addr} (a:h.row≠some p.block) (u:Value):AR (w.setCell p u) B K h us:=
 o.keep Cr λb e=>Below.heap_setCell w p u b (λc=>a (by rw[e,c]))
theorem Rd.partG {w:World} {A:Option Addr} {n k m:Nat} {xs:List Int} (h:Rd w A n (ints xs)) (c:k+m<=n):Rd w (A.map (·.add k)) m (ints ((xs.drop k).take m)):=by
 have d:=h.len;refine⟨by simp[ints];omega,λf=> ?_⟩
 obtain⟨a,rfl,b⟩:=h.2 Aa;refine⟨a.add k,rfl,λi hi=> ?_⟩;rw[Bv,b _ Aa,CF,CF,List.getElem?_take,AA hi,List.getElem?_drop]
def DY (xs:List Int) (n:Nat):List (Int×Int):=if FT xs n=true then(if(gTo xs n).length<=40 then gTo xs n else []) else []
def Dk (xs:List Int) (n:Nat):UT:=⟨fstL (DY xs n),sndL (DY xs n)⟩
def gaugeC (xs:List Int) (n:Nat):Int:=if FT xs n=true then(if(gTo xs n).length=0 then 4 else if(gTo xs n).length<=40 then 0 else 3) else 1
theorem WQ (xs:List Int): ∀k,(gTo xs k).length<=k
 |0=>Cp _
 |k+1=>by
  have d:=WQ xs k
  have c: ∀(t l:Int) (p:List (Int×Int)),(Kg t l p).length<=p.length+1:=by
   intro t l p
   induction p with
   |nil=>simp[Kg]
   |cons a r d=>
    obtain⟨a,b⟩:=a;unfold Kg
    split
    ·simpa using d
    ·split<;>simp
  unfold gTo
  split
  ·have:=c (recT xs k) (recL xs k) (gTo xs k);omega
  ·omega
theorem P6 (A:Option Addr) (n c:Nat) (xs:List Int) (w:World) (hn:n<=1048576) (hr:Rd w A (n*7) (ints xs)):
  Calls prog 211 #[.slice A n c] w λe w'=> ∃k:Js,e=.returned (.tuple #[Lv k (Dk xs n),ZI (gaugeC xs n)])∧QN k∧Ag w' (Lu k (Dk xs n))∧AB w' w.heap.size (Lu k (Dk xs n))∧Dx (UU k)∧Below w w w':=by
 go_enter func211,ntmps211
 go_upto_region 1 with fail
 generalize hG:w.alloc _=w1;obtain⟨K0,b0⟩:=EX hG;clear hG;have g0:=K0.lt
 go_wp2_with fail
 refine(Oi A n c xs _ Aa (hr.below b0)).mono ?_;rintro e w2 ⟨rfl,b2⟩;replace K0:=K0.below b2 g0;replace b0:=An b0 b2;replace g0:=K0.lt;have e0:=K0.cell;have f0:=K0.frozen;clear b2;rcases jt (FT xs n) with hlog|hlog
 rotate_left
 ·have HP:Hid (DY xs n= []∧gaugeC xs n=1):=by unfold Hid DY gaugeC;rw[hlog];exact⟨rfl,rfl⟩
  go_wp2;refine AS (v:=.tuple (EK none 0 0 none 0 0 1)) (by simp[results,results211,go_sem,e0]) rfl ⟨⟨⟨none,0,0⟩,⟨none,0,0⟩⟩,?_,⟨AZ _,AZ _⟩,?_,?_,?_,?_⟩
  ·rw[HP.out.2];rfl
  ·unfold Dk;rw[HP.out.1];exact Ag.cons (s:=⟨none,0,[]⟩) (Rd.nil _ _) (Ag.cons (s:=⟨none,0,[]⟩) (Rd.nil _ _) (Ag.nil _))
  ·exact AB.cons (s:=⟨none,0,_⟩) (λh=>absurd h (Nat.lt_irrefl 0)) (AB.cons (s:=⟨none,0,_⟩) (λh=>absurd h (Nat.lt_irrefl 0)) (AB.nil _ _))
  ·exact Dx.cons (λs hs t ht b e=>by rw[DD.1 hs] at e;cases e) (Dx.one _)
  ·repeat(first|with_reducible exact b0|refine Below.setCell ?_ (by simp<;>omega) _)
 have D:n<=200:=by
  have:FT xs n=(CP xs n && decide ((n:Int)<=200)):=rfl;rw[this,CD,BP] at hlog;omega
 go_wp2;have aI:=Ai hlog;clear hlog
 go_loopw [4,5,6] (λt4 t5 i wr=> ∃(k:Nat) (ht hl:Hd),k<=n∧i=.int .i64 k∧t4=.slice ht.A ht.n ht.c∧t5=.slice hl.A hl.n hl.c∧AR wr (w.heap.size+1) 1 ht (ints (fstL (gTo xs k)))∧AR wr (w.heap.size+1) 1 hl (ints (sndL (gTo xs k)))∧(∀b,ht.row=some b->hl.row≠some b)∧ht.A≠none∧hl.A≠none∧Below w w wr∧Blk wr w.heap.size 205 QW)
  (λ_ _ i _=>n-(intOf i).toNat)
 case atStart=>
  refine⟨0,⟨some ⟨w2,0,none⟩,0,0⟩,⟨some ⟨w2+1,0,none⟩,0,0⟩,AZ _,rfl,rfl,rfl,AR.empty _ _ _ _,AR.empty _ _ _ _,(λb e=>by cases e),Cr,Cr,(b0.alloc Aa _).alloc Bq _,(K0.alloc _).alloc _⟩
 case round=>
  obtain⟨k,ht,hl,hk,rfl,rfl,rfl,oT,oL,K,nT,nL,hb,KW⟩:=hrel;clear K0 b0 e0 f0 g0;obtain⟨N,hT⟩:=Option.ne_none_iff_exists'.1 nT;obtain⟨L,hL⟩:=Option.ne_none_iff_exists'.1 nL;obtain⟨AT,d,ct⟩:=ht;obtain⟨AL,nl,cl⟩:=hl;simp only at hT hL;subst hT hL;have lT:d=(gTo xs k).length:=by have:=oT.len;simp only[Nat.mul_one] at this;rw[<-this];unfold ints;rw[List.length_map,Ik]
  have lL:nl=(gTo xs k).length:=by have:=oL.len;simp only[Nat.mul_one] at this;rw[<-this];unfold ints;rw[List.length_map,UD]
  have lk:=WQ xs k
  by_cases b6:k<n
  ·obtain⟨C,rfl,bH,bI,bJ,-⟩:=(hr.below hb).seven b6;have c0:wr.cell? (C.add (k*7))=ZS (recT xs k):=bH;have c1:wr.cell? ⟨(C.add (k*7)).block,(C.add (k*7)).off+1,none⟩=ZS (recK xs k):=bI;have c2:wr.cell? ⟨(C.add (k*7)).block,(C.add (k*7)).off+2,none⟩=ZS (recL xs k):=bJ;clear bH bI bJ;have ci:(k:Int)<(n:Int):=Aa
   by_cases S:recK xs k=1
   rotate_left
   ·have HG:=Ai (Zt S);generalize recK xs k=kd at*;go_wp2
    go_roundw
    case rel=>exact⟨k+1,⟨some N,d,ct⟩,⟨some L,nl,cl⟩,by omega,by go_num,rfl,rfl,by rw[HG.out];exact oT,by rw[HG.out];exact oL,K,by simp,by simp,hb,KW⟩
    case measure=>simp[intOf];omega
   ·rw[S] at c1;have HN:Hid (∀m,m=aheadP (recT xs k) (gTo xs k)->(m<(gTo xs k).length->(fstL (gTo xs k)).getD m 0≠recT xs k)->fstL (gTo xs (k+1))=(fstL (gTo xs k)).take m++recT xs k::(fstL (gTo xs k)).drop m∧sndL (gTo xs (k+1))=(sndL (gTo xs k)).take m++recL xs k::(sndL (gTo xs k)).drop m):=λm hm h=>bY S hm.symm h;have HU:Hid (∀m,m=aheadP (recT xs k) (gTo xs k)->m<(gTo xs k).length->(fstL (gTo xs k)).getD m 0=recT xs k->fstL (gTo xs (k+1))=fstL (gTo xs k)∧sndL (gTo xs (k+1))=(sndL (gTo xs k)).set m (recL xs k)):=λm hm h e=>Zu S hm.symm h e;have HA:Hid (∀a,a<aheadP (recT xs k) (gTo xs k)->(fstL (gTo xs k)).getD a 0<recT xs k):=λa h=>SK h;have HB:Hid (aheadP (recT xs k) (gTo xs k)<(gTo xs k).length-> ¬(fstL (gTo xs k)).getD (aheadP (recT xs k) (gTo xs k)) 0<recT xs k):=ND;have cj:aheadP (recT xs k) (gTo xs k)<=d:=by rw[lT];exact YS _ _
    rw[<-lT] at HN HU HB;clear S;generalize aheadP (recT xs k) (gTo xs k)=m at*;generalize recT xs k=B at*;generalize recL xs k=lv at*;generalize fstL (gTo xs k)=ts at*;generalize sndL (gTo xs k)=z at*;generalize(gTo xs k).length=gl at*;obtain rfl:d=gl:=lT;obtain rfl:d=nl:=lL.symm;have rT:=oT.rd1;simp only at rT;have cx:d<=200:=Aa;go_wp2
    go_loopw [7] (λt7 wx=> ∃a u:Nat,a<=m∧t7=.int .i64 a∧wx=wr.drewN u) (λt7 _=>m-(intOf t7).toNat)
    case atStart=>exact⟨0,0,AZ _,rfl,rfl⟩
    case round=>
     obtain⟨a,u,ha,rfl,rfl⟩:=hrel
     by_cases b5:a<m
     ·obtain⟨_,⟨⟩,hx⟩:=rT.int (show a<d by omega)
      have hv:=HA.out a b5;have q3:decide (a<d)=true:=BC Aa;generalize ts.getD a 0=x at*;clear oT oL HN HU HA HB
      go_wp2_with fail
      go_quiet (fail)
      go_wp2
      go_roundw
      case rel=>exact⟨a+1,_,by omega,by go_num,rfl⟩
      case measure=>simp[intOf];omega
     ·obtain rfl:a=m:=Aa
      by_cases aE:a<d
      ·obtain⟨_,⟨⟩,hx⟩:=rT.int aE;have hv:=HB.out aE;have q1:decide ((a:Int)<(d:Int))=true:=BC Aa
       by_cases aP:ts.getD a 0=B
       ·have HE:=Ai (HU.out a rfl aE aP);rw[aP] at hx hv;obtain⟨_,⟨⟩,hy,hz⟩:=oL.cell (k:=a) aE;clear HN HU HA HB aP
        go_wp2_with fail
        go_quiet (fail)
        revert nq;intro V
        go_wp2_with fail
        go_quiet (fail)
        revert nq;intro Y;go_wp2;have bD:Below wr wr (wr.drewN (u+V+Y)):=Ba G6 _;have be:(⟨some L,d,cl⟩:Hd).row=some L.block:=Hd.row_mk rfl (show 0<cl by have:=oL.nc;simp only at this;omega)
        have cA:=(oL.rowlt _ be).1;refine⟨⟨k+1,⟨some N,d,ct⟩,⟨some L,d,cl⟩,by omega,by go_num,rfl,rfl,?_,?_,K,by simp,by simp,?_,?_⟩,by simp[intOf];omega⟩
        ·rw[HE.out.1];exact(oT.below bD).fars (λe=>K _ (by rw[Aq] at e;exact e) be) _
        ·rw[HE.out.2];exact(oL.below bD).set_ aE rfl lv
        ·exact(An hb bD).setCell (by rw[Aq];omega) _
        ·exact(KW.below bD KW.lt).far (by rw[Aq];omega) _
       ·have HE:=Ai (HN.out a rfl (λ_=>aP));have q2:decide (ts.getD a 0<B)=false:=BR Aa;generalize ts.getD a 0=x at*;clear HN HU HA HB
        go_wp2_with fail
        go_quiet (fail)
        revert nq;intro V
        go_wp2_with fail
        go_quiet (fail)
        revert nq;intro Y
        go_wp2_with fail
        have hW:Below wr wr (((wr.drewN u).drewN V).drewN Y):=Ba (Ba (Ba G6 _) _) _;have OT:=oT.below hW;have OL:=oL.below hW;have cT:(((wr.drewN u).drewN V).drewN Y).cell? (C.add (k*7))=ZS B:=c0;have cL:(((wr.drewN u).drewN V).drewN Y).cell? ⟨(C.add (k*7)).block,(C.add (k*7)).off+2,none⟩=ZS lv:=c2;have KV:=KW.below hW KW.lt;have hV:=An hb hW;clear hx rT oT oL KW hb c0 c1 c2 q1 q2 hv aP;generalize((wr.drewN u).drewN V).drewN Y=W at*;have I:a+1<=1099511627776:=Aa
        have f:(C.add (k*7)).block<W.heap.size:=by
         rw[Aq];have h1:=hr.lt rfl (show 0<n*7 by omega)
         have h2:=hV.size;omega
        have i0:(0:Int)<=(a:Int):=Aa;have i2:(a:Int)<=(d:Int):=Aa;have r0:=OT.rd1;simp only at r0
        have J:Rd W (some N) a (ints (ts.take a)):=by
         have:=r0.partG (k:=0) (m:=a) Aa
         rwa [Option.map_some,Gu,List.drop_zero] at this
        have a3:ts.length=d:=r0.len
        have ac:Rd W (some (N.add a)) (d-a) (ints (ts.drop a)):=by
         have:=r0.partG (k:=a) (m:=d-a) Aa
         rwa [Option.map_some,ED (by rw[JW];omega)] at this
        have Z:Below W W (W.alloc (.cells #[ZI B] 2)):=BU;have ae:Rd (W.alloc (.cells #[ZI B] 2)).drew (some N) a (ints (ts.take a)):=Rd.below (w:=W) J (CO Z);have ab:Rd W.drew (some N) a (ints (ts.take a)):=J;have af:Rd (W.alloc (.cells #[ZI B] 2)).drew (some ⟨W,0,none⟩) 1 (ints [B]):=BD _ _ _;have a4:d<=ct:=OT.nc;have i1:(a:Int)<=(ct:Int):=Aa
        go_upto_region 13 with fail
        go_cut [4] (λv wx=> ∃kt:Hd,v=.slice kt.A kt.n kt.c∧kt.n=d+1∧AR wx W.heap.size 1 kt (ints (ts.take a++B::ts.drop a))∧Below W W wx)
        case first=>
         go_region_held3 (λw'=>w'.cell? (C.add (k*7))=ZS B)
          (first|(with_reducible exact cT)|(with_reducible assumption)|go_keep)
          (first
           |(go_at_call 266;(with_reducible refine(CS (some N) a ct (ts.take a) _ Aa ab).mono ?_);rintro e y ⟨⟨KA,kn,kc⟩,rfl,H,F,bk⟩;obtain rfl:a=kn:=H.symm;have g:Below W W y:=EE (m:=1) bk;have hz:=(JX g (p:=C.add (k*7)) f).trans cT;have bu:Below y y (y.alloc (.cells #[ZI B] 2)):=(AP _ _).alloc Bk _;have RU:Rd (y.alloc (.cells #[ZI B] 2)) (some ⟨y,0,none⟩) (1*1) (ints [B]):=BD _ _ _;have r:W<=(y.alloc (.cells #[ZI B] 2)).heap.size:=Ch g.size bu.size;have G:a+1<=1099511627776:=I)
           |(go_at_call 266;(with_reducible refine(CS (some N) a ct (ts.take a) _ Aa ae).mono ?_);rintro e y ⟨⟨KA,kn,kc⟩,rfl,H,F,bk⟩;obtain rfl:a=kn:=H.symm;have g:Below W W y:=(CO Z).trans (bk.mono Z.size);have RN:Rd y (some ⟨W,0,none⟩) (1*1) (ints [B]):=af.below bk;have hz:=(JX g (p:=C.add (k*7)) f).trans cT;have F:=F.mono Z.size;have r:=g.size;have G:a+1<=1099511627776:=I)
           |(refine Be AI _ _ 28 AI 2 1 8 underlying28 AJ Ah W.heap.size (⟨KA,a,kc⟩:Hd) (ints (ts.take a)) AI (F.below (w':=y.alloc (.cells #[ZI B] 2)) bu) _ 1 1 (ints [B]) AI RU (Ao _) G Ah r ?_;intro k1 E q q1 g1 R;have j:Below W W E:=(An g bu).grown g1 r (λb e=>(F.rowlt b e).1);have az:=(JX j (p:=C.add (k*7)) f).trans cT;have M:Rd E (some (N.add a)) ((d-a)*1) (ints (ts.drop a)):=by {rw[Nat.mul_one];exact ac.below j};have Q:k1.n+(d-a)<=1099511627776:=by {rw[q];show a+1+(d-a)<=1099511627776;omega})
           |(refine Be AI _ _ 28 AI 2 1 8 underlying28 AJ Ah W.heap.size (⟨KA,a,kc⟩:Hd) (ints (ts.take a)) AI F _ 1 1 (ints [B]) AI RN (Ao _) G Ah r ?_;intro k1 E q q1 g1 R;have j:Below W W E:=g.grown g1 r (λb e=>(F.rowlt b e).1);have az:=(JX j (p:=C.add (k*7)) f).trans cT;have M:Rd E (some (N.add a)) ((d-a)*1) (ints (ts.drop a)):=by {rw[Nat.mul_one];exact ac.below j};have Q:k1.n+(d-a)<=1099511627776:=by {rw[q];show a+1+(d-a)<=1099511627776;omega})
           |(refine Be AI _ _ 28 AI 2 1 8 underlying28 AJ Ah W.heap.size k1 (ints (ts.take a)++ints [B]) AI q1 (some (N.add a)) (d-a) (ct-a) (ints (ts.drop a)) AI M (Ao _) Q Ah j.size ?_;intro k2 v2 D q2 g2 aO;have O:Below W W v2:=j.grown g2 j.size (λb e=>(q1.rowlt b e).1);have bs:=(JX O (p:=C.add (k*7)) f).trans cT))
         all_goals
          have T:k2.n=a+1+(d-a):=by rw[D,q]
          have ao:=Ai T;have U:k2.n=d+1:=by rw[D,q];show a+1+(d-a)=d+1;omega
          have ap:=Ai U;clear D q T U
          have q3:AR v2 W.heap.size 1 k2 (ints (ts.take a++B::ts.drop a)):=by
           have e:ints (ts.take a++B::ts.drop a)=ints (ts.take a)++ints [B]++ints (ts.drop a):=by unfold ints;simp
           rw[e];exact q2
          go_wp2_with fail
          go_meet
          exact⟨k2,by first|rfl|rw[ao.out],ap.out,q3,O⟩
        case rest=>
         obtain⟨⟨aC,a2,a1⟩,rfl,aR,au,bT⟩:=hcut;obtain⟨l,rfl⟩: ∃x:World,x=wc:=⟨_,rfl⟩;simp only at aR;have OL:=OL.below bT;have cL:=Cg bT cL f;have aV:w+1<=W.heap.size:=KV.lt;have KV:=KV.below bT KV.lt;have hV:=An hV bT;have f:(C.add (k*7)).block<l.heap.size:=CM f bT.size;have aN:=bT.size;clear r0 J ac Z ae ab af a4 i1 OT cT bT
         have aS:aC≠none:=by
          obtain⟨_,_,e,-,-⟩:=au.rd1.at_ (k:=0) Aw;simp only at e;rw[e];simp
         clear aR;have r0:=OL.rd1;simp only at r0
         have J:Rd l (some L) a (ints (z.take a)):=by
          have:=r0.partG (k:=0) (m:=a) Aa
          rwa [Option.map_some,Gu,List.drop_zero] at this
         have a3:z.length=d:=r0.len
         have ac:Rd l (some (L.add a)) (d-a) (ints (z.drop a)):=by
          have:=r0.partG (k:=a) (m:=d-a) Aa
          rwa [Option.map_some,ED (by rw[JW];omega)] at this
         have Z:Below l l (l.alloc (.cells #[ZI lv] 2)):=BU;have ae:Rd (l.alloc (.cells #[ZI lv] 2)).drew (some L) a (ints (z.take a)):=Rd.below (w:=l) J (CO Z);have ab:Rd l.drew (some L) a (ints (z.take a)):=J;have af:Rd (l.alloc (.cells #[ZI lv] 2)).drew (some ⟨l,0,none⟩) 1 (ints [lv]):=BD _ _ _;have a4:d<=cl:=OL.nc;have i1:(a:Int)<=(cl:Int):=Aa
         go_upto_region 14 with fail
         go_region_held3 (λw'=>w'.cell? ⟨(C.add (k*7)).block,(C.add (k*7)).off+2,none⟩=ZS lv)
          (first|(with_reducible exact cL)|(with_reducible assumption)|go_keep)
          (first
           |(go_at_call 266;(with_reducible refine(CS (some L) a cl (z.take a) _ Aa ab).mono ?_);rintro e y ⟨⟨KA,kn,kc⟩,rfl,H,F,bk⟩;obtain rfl:a=kn:=H.symm;have g:Below l l y:=EE (m:=1) bk;have hz:=Cg g cL f;have bu:Below y y (y.alloc (.cells #[ZI lv] 2)):=(AP _ _).alloc Bk _;have RU:Rd (y.alloc (.cells #[ZI lv] 2)) (some ⟨y,0,none⟩) (1*1) (ints [lv]):=BD _ _ _;have r:l<=(y.alloc (.cells #[ZI lv] 2)).heap.size:=Ch g.size bu.size;have G:a+1<=1099511627776:=I)
           |(go_at_call 266;(with_reducible refine(CS (some L) a cl (z.take a) _ Aa ae).mono ?_);rintro e y ⟨⟨KA,kn,kc⟩,rfl,H,F,bk⟩;obtain rfl:a=kn:=H.symm;have g:Below l l y:=(CO Z).trans (bk.mono Z.size);have RN:Rd y (some ⟨l,0,none⟩) (1*1) (ints [lv]):=af.below bk;have hz:=Cg g cL f;have F:=F.mono Z.size;have r:=g.size;have G:a+1<=1099511627776:=I)
           |(refine Be AI _ _ 28 AI 2 1 8 underlying28 AJ Ah l.heap.size (⟨KA,a,kc⟩:Hd) (ints (z.take a)) AI (F.below (w':=y.alloc (.cells #[ZI lv] 2)) bu) _ 1 1 (ints [lv]) AI RU (Ao _) G Ah r ?_;intro k1 E q q1 g1 R;have j:Below l l E:=(An g bu).grown g1 r (λb e=>(F.rowlt b e).1);have az:=Cg j cL f;have M:Rd E (some (L.add a)) ((d-a)*1) (ints (z.drop a)):=by {rw[Nat.mul_one];exact ac.below j};have Q:k1.n+(d-a)<=1099511627776:=by {rw[q];show a+1+(d-a)<=1099511627776;omega})
           |(refine Be AI _ _ 28 AI 2 1 8 underlying28 AJ Ah l.heap.size (⟨KA,a,kc⟩:Hd) (ints (z.take a)) AI F _ 1 1 (ints [lv]) AI RN (Ao _) G Ah r ?_;intro k1 E q q1 g1 R;have j:Below l l E:=g.grown g1 r (λb e=>(F.rowlt b e).1);have az:=Cg j cL f;have M:Rd E (some (L.add a)) ((d-a)*1) (ints (z.drop a)):=by {rw[Nat.mul_one];exact ac.below j};have Q:k1.n+(d-a)<=1099511627776:=by {rw[q];show a+1+(d-a)<=1099511627776;omega})
           |(refine Be AI _ _ 28 AI 2 1 8 underlying28 AJ Ah l.heap.size k1 (ints (z.take a)++ints [lv]) AI q1 (some (L.add a)) (d-a) (cl-a) (ints (z.drop a)) AI M (Ao _) Q Ah j.size ?_;intro k2 v2 D q2 g2 aO;have O:Below l l v2:=j.grown g2 j.size (λb e=>(q1.rowlt b e).1);have bs:=(JX O (p:=⟨(C.add (k*7)).block,(C.add (k*7)).off+2,none⟩) f).trans cL))
         all_goals
          have T:k2.n=a+1+(d-a):=by rw[D,q]
          have ao:=Ai T;have U:k2.n=d+1:=by rw[D,q];show a+1+(d-a)=d+1;omega
          have ap:=Ai U;clear D q T U
          have q3:AR v2 l.heap.size 1 k2 (ints (z.take a++lv::z.drop a)):=by
           have e:ints (z.take a++lv::z.drop a)=ints (z.take a)++ints [lv]++ints (z.drop a):=by unfold ints;simp
           rw[e];exact q2
          have bq:=ap.out;have ar:=q3;have bL:=O
          have aQ:k2.A≠none:=by
           obtain⟨_,_,e,-,-⟩:=ar.rd1.at_ (k:=0) Aa;rw[e];simp
          have aM:=au.below bL;have KV:=KV.below bL KV.lt;have hV:=An hV bL;have K: ∀b,(⟨aC,a2,a1⟩:Hd).row=some b->k2.row≠some b:=λb e e2=>by have h1:=(au.rowlt b e).2;have h2:=(ar.rowlt b e2).1;omega
          clear bq
          go_wp2_with fail
          refine⟨⟨k+1,⟨aC,a2,a1⟩,k2,by omega,by go_num,rfl,(by first|rfl|rw[ao.out]),?_,?_,K,aS,aQ,hV,KV⟩,by simp[intOf];omega⟩
          ·rw[HE.out.1];exact aM.mono aV
          ·rw[HE.out.2];exact ar.mono (Ch aV aN)
      ·have HQ:Hid (a=d):=(show a=d by omega)
       have HE:=Ai (HN.out a rfl (λh=>absurd h aE));clear HN HU HA HB
       go_wp2_with fail
       go_quiet (fail)
       revert nq;intro V
       go_wp2_with fail
       go_quiet (fail)
       revert nq;intro Y
       go_wp2_with fail
       have hW:Below wr wr (((wr.drewN u).drewN V).drewN Y):=Ba (Ba (Ba G6 _) _) _;have OT:=oT.below hW;have OL:=oL.below hW;have cT:(((wr.drewN u).drewN V).drewN Y).cell? (C.add (k*7))=ZS B:=c0;have cL:(((wr.drewN u).drewN V).drewN Y).cell? ⟨(C.add (k*7)).block,(C.add (k*7)).off+2,none⟩=ZS lv:=c2;have KV:=KW.below hW KW.lt;have hV:=An hb hW;clear rT oT oL KW hb c0 c1 c2;generalize((wr.drewN u).drewN V).drewN Y=W at*;have I:a+1<=1099511627776:=Aa
       have f:(C.add (k*7)).block<W.heap.size:=by
        rw[Aq];have h1:=hr.lt rfl (show 0<n*7 by omega)
        have h2:=hV.size;omega
       have i0:(0:Int)<=(a:Int):=Aa;have i2:(a:Int)<=(d:Int):=Aa;have r0:=OT.rd1;simp only at r0
       have J:Rd W (some N) a (ints (ts.take a)):=by
        have:=r0.partG (k:=0) (m:=a) Aa
        rwa [Option.map_some,Gu,List.drop_zero] at this
       have a3:ts.length=d:=r0.len
       have ac:Rd W (some (N.add a)) (d-a) (ints (ts.drop a)):=by
        have:=r0.partG (k:=a) (m:=d-a) Aa
        rwa [Option.map_some,ED (by rw[JW];omega)] at this
       have ak: ∀(E:World) (A:Option Addr),Rd E A (d-a) (ints (ts.drop a)):=λE A=>by rw[show d-a=0 by have:=HQ.out;omega,List.drop_eq_nil_of_le (show ts.length<=a by have:=HQ.out;omega)];exact Rd.nil _ _
       obtain⟨co,ch⟩: ∃X,(if ct=a then some N else some (N.add a))=X:=⟨_,rfl⟩;have Z:Below W W (W.alloc (.cells #[ZI B] 2)):=BU;have ae:Rd (W.alloc (.cells #[ZI B] 2)).drew (some N) a (ints (ts.take a)):=Rd.below (w:=W) J (CO Z);have ab:Rd W.drew (some N) a (ints (ts.take a)):=J;have af:Rd (W.alloc (.cells #[ZI B] 2)).drew (some ⟨W,0,none⟩) 1 (ints [B]):=BD _ _ _;have a4:d<=ct:=OT.nc;have i1:(a:Int)<=(ct:Int):=Aa
       go_upto_region 13 with fail
       go_cut [4] (λv wx=> ∃kt:Hd,v=.slice kt.A kt.n kt.c∧kt.n=d+1∧AR wx W.heap.size 1 kt (ints (ts.take a++B::ts.drop a))∧Below W W wx)
       case first=>
        go_region_held3 (λw'=>w'.cell? (C.add (k*7))=ZS B)
         (first|(with_reducible exact cT)|(with_reducible assumption)|go_keep)
         (first
          |(go_at_call 266;(with_reducible refine(CS (some N) a ct (ts.take a) _ Aa ab).mono ?_);rintro e y ⟨⟨KA,kn,kc⟩,rfl,H,F,bk⟩;obtain rfl:a=kn:=H.symm;have g:Below W W y:=EE (m:=1) bk;have hz:=(JX g (p:=C.add (k*7)) f).trans cT;have bu:Below y y (y.alloc (.cells #[ZI B] 2)):=(AP _ _).alloc Bk _;have RU:Rd (y.alloc (.cells #[ZI B] 2)) (some ⟨y,0,none⟩) (1*1) (ints [B]):=BD _ _ _;have r:W<=(y.alloc (.cells #[ZI B] 2)).heap.size:=Ch g.size bu.size;have G:a+1<=1099511627776:=I)
          |(go_at_call 266;(with_reducible refine(CS (some N) a ct (ts.take a) _ Aa ae).mono ?_);rintro e y ⟨⟨KA,kn,kc⟩,rfl,H,F,bk⟩;obtain rfl:a=kn:=H.symm;have g:Below W W y:=(CO Z).trans (bk.mono Z.size);have RN:Rd y (some ⟨W,0,none⟩) (1*1) (ints [B]):=af.below bk;have hz:=(JX g (p:=C.add (k*7)) f).trans cT;have F:=F.mono Z.size;have r:=g.size;have G:a+1<=1099511627776:=I)
          |(refine Be AI _ _ 28 AI 2 1 8 underlying28 AJ Ah W.heap.size (⟨KA,a,kc⟩:Hd) (ints (ts.take a)) AI (F.below (w':=y.alloc (.cells #[ZI B] 2)) bu) _ 1 1 (ints [B]) AI RU (Ao _) G Ah r ?_;intro k1 E q q1 g1 R;have j:Below W W E:=(An g bu).grown g1 r (λb e=>(F.rowlt b e).1);have az:=(JX j (p:=C.add (k*7)) f).trans cT;have M: ∀A,Rd E A ((d-a)*1) (ints (ts.drop a)):=λA=>by {rw[Nat.mul_one];exact ak E A};have Q:k1.n+(d-a)<=1099511627776:=by {rw[q];show a+1+(d-a)<=1099511627776;omega})
          |(refine Be AI _ _ 28 AI 2 1 8 underlying28 AJ Ah W.heap.size (⟨KA,a,kc⟩:Hd) (ints (ts.take a)) AI F _ 1 1 (ints [B]) AI RN (Ao _) G Ah r ?_;intro k1 E q q1 g1 R;have j:Below W W E:=g.grown g1 r (λb e=>(F.rowlt b e).1);have az:=(JX j (p:=C.add (k*7)) f).trans cT;have M: ∀A,Rd E A ((d-a)*1) (ints (ts.drop a)):=λA=>by {rw[Nat.mul_one];exact ak E A};have Q:k1.n+(d-a)<=1099511627776:=by {rw[q];show a+1+(d-a)<=1099511627776;omega})
          |(refine Be AI _ _ 28 AI 2 1 8 underlying28 AJ Ah W.heap.size k1 (ints (ts.take a)++ints [B]) AI q1 _ (d-a) (ct-a) (ints (ts.drop a)) AI (M _) (Ao _) Q Ah j.size ?_;intro k2 v2 D q2 g2 aO;have O:Below W W v2:=j.grown g2 j.size (λb e=>(q1.rowlt b e).1);have bs:=(JX O (p:=C.add (k*7)) f).trans cT))
        all_goals
         have T:k2.n=a+1+(d-a):=by rw[D,q]
         have ao:=Ai T;have U:k2.n=d+1:=by rw[D,q];show a+1+(d-a)=d+1;omega
         have ap:=Ai U;clear D q T U
         have q3:AR v2 W.heap.size 1 k2 (ints (ts.take a++B::ts.drop a)):=by
          have e:ints (ts.take a++B::ts.drop a)=ints (ts.take a)++ints [B]++ints (ts.drop a):=by unfold ints;simp
          rw[e];exact q2
         go_wp2_with fail
         go_meet
         exact⟨k2,by first|rfl|rw[ao.out],ap.out,q3,O⟩
       case rest=>
        obtain⟨⟨aC,a2,a1⟩,rfl,aR,au,bT⟩:=hcut;obtain⟨l,rfl⟩: ∃x:World,x=wc:=⟨_,rfl⟩;simp only at aR;have OL:=OL.below bT;have cL:=Cg bT cL f;have aV:w+1<=W.heap.size:=KV.lt;have KV:=KV.below bT KV.lt;have hV:=An hV bT;have f:(C.add (k*7)).block<l.heap.size:=CM f bT.size;have aN:=bT.size;clear r0 J ac Z ae ab af a4 i1 OT cT bT
        have aS:aC≠none:=by
         obtain⟨_,_,e,-,-⟩:=au.rd1.at_ (k:=0) Aw;simp only at e;rw[e];simp
        clear aR;have r0:=OL.rd1;simp only at r0
        have J:Rd l (some L) a (ints (z.take a)):=by
         have:=r0.partG (k:=0) (m:=a) Aa
         rwa [Option.map_some,Gu,List.drop_zero] at this
        have a3:z.length=d:=r0.len
        have ac:Rd l (some (L.add a)) (d-a) (ints (z.drop a)):=by
         have:=r0.partG (k:=a) (m:=d-a) Aa
         rwa [Option.map_some,ED (by rw[JW];omega)] at this
        have ak: ∀(E:World) (A:Option Addr),Rd E A (d-a) (ints (z.drop a)):=λE A=>by rw[show d-a=0 by have:=HQ.out;omega,List.drop_eq_nil_of_le (show z.length<=a by have:=HQ.out;omega)];exact Rd.nil _ _
        obtain⟨cn,cg⟩: ∃X,(if cl=a then some L else some (L.add a))=X:=⟨_,rfl⟩;have Z:Below l l (l.alloc (.cells #[ZI lv] 2)):=BU;have ae:Rd (l.alloc (.cells #[ZI lv] 2)).drew (some L) a (ints (z.take a)):=Rd.below (w:=l) J (CO Z);have ab:Rd l.drew (some L) a (ints (z.take a)):=J;have af:Rd (l.alloc (.cells #[ZI lv] 2)).drew (some ⟨l,0,none⟩) 1 (ints [lv]):=BD _ _ _;have a4:d<=cl:=OL.nc;have i1:(a:Int)<=(cl:Int):=Aa
        go_upto_region 14 with fail
        go_region_held3 (λw'=>w'.cell? ⟨(C.add (k*7)).block,(C.add (k*7)).off+2,none⟩=ZS lv)
         (first|(with_reducible exact cL)|(with_reducible assumption)|go_keep)
         (first
          |(go_at_call 266;(with_reducible refine(CS (some L) a cl (z.take a) _ Aa ab).mono ?_);rintro e y ⟨⟨KA,kn,kc⟩,rfl,H,F,bk⟩;obtain rfl:a=kn:=H.symm;have g:Below l l y:=EE (m:=1) bk;have hz:=Cg g cL f;have bu:Below y y (y.alloc (.cells #[ZI lv] 2)):=(AP _ _).alloc Bk _;have RU:Rd (y.alloc (.cells #[ZI lv] 2)) (some ⟨y,0,none⟩) (1*1) (ints [lv]):=BD _ _ _;have r:l<=(y.alloc (.cells #[ZI lv] 2)).heap.size:=Ch g.size bu.size;have G:a+1<=1099511627776:=I)
          |(go_at_call 266;(with_reducible refine(CS (some L) a cl (z.take a) _ Aa ae).mono ?_);rintro e y ⟨⟨KA,kn,kc⟩,rfl,H,F,bk⟩;obtain rfl:a=kn:=H.symm;have g:Below l l y:=(CO Z).trans (bk.mono Z.size);have RN:Rd y (some ⟨l,0,none⟩) (1*1) (ints [lv]):=af.below bk;have hz:=Cg g cL f;have F:=F.mono Z.size;have r:=g.size;have G:a+1<=1099511627776:=I)
          |(refine Be AI _ _ 28 AI 2 1 8 underlying28 AJ Ah l.heap.size (⟨KA,a,kc⟩:Hd) (ints (z.take a)) AI (F.below (w':=y.alloc (.cells #[ZI lv] 2)) bu) _ 1 1 (ints [lv]) AI RU (Ao _) G Ah r ?_;intro k1 E q q1 g1 R;have j:Below l l E:=(An g bu).grown g1 r (λb e=>(F.rowlt b e).1);have az:=Cg j cL f;have M: ∀A,Rd E A ((d-a)*1) (ints (z.drop a)):=λA=>by {rw[Nat.mul_one];exact ak E A};have Q:k1.n+(d-a)<=1099511627776:=by {rw[q];show a+1+(d-a)<=1099511627776;omega})
          |(refine Be AI _ _ 28 AI 2 1 8 underlying28 AJ Ah l.heap.size (⟨KA,a,kc⟩:Hd) (ints (z.take a)) AI F _ 1 1 (ints [lv]) AI RN (Ao _) G Ah r ?_;intro k1 E q q1 g1 R;have j:Below l l E:=g.grown g1 r (λb e=>(F.rowlt b e).1);have az:=Cg j cL f;have M: ∀A,Rd E A ((d-a)*1) (ints (z.drop a)):=λA=>by {rw[Nat.mul_one];exact ak E A};have Q:k1.n+(d-a)<=1099511627776:=by {rw[q];show a+1+(d-a)<=1099511627776;omega})
          |(refine Be AI _ _ 28 AI 2 1 8 underlying28 AJ Ah l.heap.size k1 (ints (z.take a)++ints [lv]) AI q1 _ (d-a) (cl-a) (ints (z.drop a)) AI (M _) (Ao _) Q Ah j.size ?_;intro k2 v2 D q2 g2 aO;have O:Below l l v2:=j.grown g2 j.size (λb e=>(q1.rowlt b e).1);have bs:=(JX O (p:=⟨(C.add (k*7)).block,(C.add (k*7)).off+2,none⟩) f).trans cL))
        all_goals
         have T:k2.n=a+1+(d-a):=by rw[D,q]
         have ao:=Ai T;have U:k2.n=d+1:=by rw[D,q];show a+1+(d-a)=d+1;omega
         have ap:=Ai U;clear D q T U
         have q3:AR v2 l.heap.size 1 k2 (ints (z.take a++lv::z.drop a)):=by
          have e:ints (z.take a++lv::z.drop a)=ints (z.take a)++ints [lv]++ints (z.drop a):=by unfold ints;simp
          rw[e];exact q2
         have bq:=ap.out;have ar:=q3;have bL:=O
         have aQ:k2.A≠none:=by
          obtain⟨_,_,e,-,-⟩:=ar.rd1.at_ (k:=0) Aa;rw[e];simp
         have aM:=au.below bL;have KV:=KV.below bL KV.lt;have hV:=An hV bL;have K: ∀b,(⟨aC,a2,a1⟩:Hd).row=some b->k2.row≠some b:=λb e e2=>by have h1:=(au.rowlt b e).2;have h2:=(ar.rowlt b e2).1;omega
         clear bq
         go_wp2_with fail
         refine⟨⟨k+1,⟨aC,a2,a1⟩,k2,by omega,by go_num,rfl,(by first|rfl|rw[ao.out]),?_,?_,K,aS,aQ,hV,KV⟩,by simp[intOf];omega⟩
         ·rw[HE.out.1];exact aM.mono aV
         ·rw[HE.out.2];exact ar.mono (Ch aV aN)
  ·obtain rfl:n=k:=Aa;obtain rfl:d=nl:=Aa;have a3:(fstL (gTo xs n)).length=d:=oT.rd1.len;have LT:=Ai lT;clear lT lL lk;have e0:=KW.cell;have f0:=KW.frozen
   by_cases h0:d=0
   ·have HP:Hid (DY xs n= []∧gaugeC xs n=4):=by unfold Hid DY gaugeC;rw[aI.out,<-LT.out,h0];exact⟨by simpa using List.length_eq_zero_iff.1 (LT.out.symm.trans h0),rfl⟩
    clear LT a3;subst h0;go_wp2;refine AS (v:=.tuple (EK none 0 0 none 0 0 4)) (by simp[results,results211,go_sem,e0]) rfl ⟨⟨⟨none,0,0⟩,⟨none,0,0⟩⟩,?_,⟨AZ _,AZ _⟩,?_,?_,?_,?_⟩
    ·rw[HP.out.2];rfl
    ·unfold Dk;rw[HP.out.1];exact Ag.cons (s:=⟨none,0,[]⟩) (Rd.nil _ _) (Ag.cons (s:=⟨none,0,[]⟩) (Rd.nil _ _) (Ag.nil _))
    ·exact AB.cons (s:=⟨none,0,_⟩) (λh=>absurd h (Nat.lt_irrefl 0)) (AB.cons (s:=⟨none,0,_⟩) (λh=>absurd h (Nat.lt_irrefl 0)) (AB.nil _ _))
    ·exact Dx.cons (λs hs t ht b e=>by rw[DD.1 hs] at e;cases e) (Dx.one _)
    ·repeat(first|with_reducible exact hb|refine Below.setCell ?_ (by simp<;>omega) _)
   have cs: ¬((d:Int)=0):=Aa
   by_cases h1:d<=40
   rotate_left
   ·have b3:(40:Int)<(d:Int):=Aa;have HP:Hid (DY xs n= []∧gaugeC xs n=3):=by unfold Hid DY gaugeC;simp[aI.out,<-LT.out,h0,h1]
    go_wp2;refine AS (v:=.tuple (EK none 0 0 none 0 0 3)) (by simp[results,results211,go_sem,e0]) rfl ⟨⟨⟨none,0,0⟩,⟨none,0,0⟩⟩,?_,⟨AZ _,AZ _⟩,?_,?_,?_,?_⟩
    ·rw[HP.out.2];rfl
    ·unfold Dk;rw[HP.out.1];exact Ag.cons (s:=⟨none,0,[]⟩) (Rd.nil _ _) (Ag.cons (s:=⟨none,0,[]⟩) (Rd.nil _ _) (Ag.nil _))
    ·exact AB.cons (s:=⟨none,0,_⟩) (λh=>absurd h (Nat.lt_irrefl 0)) (AB.cons (s:=⟨none,0,_⟩) (λh=>absurd h (Nat.lt_irrefl 0)) (AB.nil _ _))
    ·exact Dx.cons (λs hs t ht b e=>by rw[DD.1 hs] at e;cases e) (Dx.one _)
    ·repeat(first|with_reducible exact hb|refine Below.setCell ?_ (by simp<;>omega) _)
   ·have b3: ¬(40:Int)<(d:Int):=Aa;have HP:Hid (Dk xs n=⟨fstL (gTo xs n),sndL (gTo xs n)⟩∧gaugeC xs n=0):=by unfold Hid Dk DY gaugeC;simp[aI.out,<-LT.out,h0,h1]
    have aU: ∀(h:Hd) (us:List Value),AR wr (w.heap.size+1) 1 h us-> ∀(u v:Value),AR ((wr.setCell ⟨w,0,none⟩ u).setCell ⟨w,1,none⟩ v) (w.heap.size+1) 1 h us:=λh us o u v=>(o.fars (λe=>by have:=(o.rowlt _ e).1;simp only at this;omega) u).fars (λe=>by have:=(o.rowlt _ e).1;simp only at this;omega) v
    have bG:=λu v=>aU _ _ oT u v;have bF:=λu v=>aU _ _ oL u v;go_wp2;refine AS (v:=.tuple (EK (some N) d ct (some L) d cl 0)) (by simp[results,results211,go_sem,e0]) rfl ?_
    rw[HP.out.1,HP.out.2];refine⟨⟨⟨some N,d,ct⟩,⟨some L,d,cl⟩⟩,rfl,⟨by simp only;omega,by simp only;omega⟩,Ag.cons (s:=⟨some N,d,ints (fstL (gTo xs n))⟩) ?_ (Ag.cons (s:=⟨some L,d,ints (sndL (gTo xs n))⟩) ?_ (Ag.nil _)),AB.cons (s:=⟨some N,d,ints (fstL (gTo xs n))⟩) ?_ (AB.cons (s:=⟨some L,d,ints (sndL (gTo xs n))⟩) ?_ (AB.nil _ _)),?_,?_⟩
    ·exact(bG _ _).rd1
    ·exact(bF _ _).rd1
    ·exact((bG _ _).mono (Nat.le_succ _)).wr1
    ·exact((bF _ _).mono (Nat.le_succ _)).wr1
    ·refine Dx.cons (λs hs t ht b e=> ?_) (Dx.one _);rw[DD.1 hs] at e;rw[DD.1 ht];intro e2;obtain⟨_,e3,h3,rfl⟩:=Df e;obtain⟨_,e4,h4,h5⟩:=Df e2;have hc3:0<ct:=by have:=oT.nc;simp only at this h3;omega
     have hc4:0<cl:=by have:=oL.nc;simp only at this h4;omega
     exact K _ (Hd.row_mk e3 hc3) (by rw[<-h5];exact Hd.row_mk e4 hc4)
    ·repeat(first|with_reducible exact hb|refine Below.setCell ?_ (by simp<;>omega) _)
def cutN (ts:List Int) (t:Int):Nat:=(ts.takeWhile λa=>decide (a<t)).length
theorem bR (ts:List Int) (t:Int):cutN ts t<=ts.length:=(List.takeWhile_prefix _).length_le
theorem IL {t:Int}: ∀ {ts:List Int} {i:Nat},i<=ts.length->(∀a,a<i->ts.getD a 0<t)->(i<ts.length-> ¬ts.getD i 0<t)->cutN ts t=i
 | [],i,h,_,_=>by simp at h;subst h;rfl
 |x::r,0,_,_,h2=>by
  have:=h2 Cr;simp at this;unfold cutN;rw[List.takeWhile_cons_of_neg (by simpa using this)];rfl
 |x::r,i+1,h,h1,h2=>by
  have c:x<t:=by simpa using h1 0 Aa
  have b:=IL (t:=t) (ts:=r) (i:=i) CB (λa d=>by simpa using h1 (a+1) Aa) (λhi=>by have:=h2 (by simpa using hi);simpa using this)
  unfold cutN at b⊢;rw[List.takeWhile_cons_of_pos (by simpa using c),Gt,b]
def ft (ts:List Int):Prop:= ∀a b,a<b->b<ts.length->ts.getD a 0<ts.getD b 0
theorem am {ts:List Int} {m:Int} (h:FF ts m=true):ft ts:=by
 have f: ∀j,j<ts.length->EQ ts m j=true:=λj k=>by
  unfold FF Fq at h;rw[List.all_eq_true] at h;exact h j (Eo.2 k)
 intro a b g i
 induction b with
 |zero=>omega
 |succ b ih=>
  have d:=f (b+1) i;unfold EQ at d;simp only[CD,Bool.or_eq_true,BP] at d
  have c:ts.getD b 0<ts.getD (b+1) 0:=by
   rcases d.2.2 with c|c
   ·omega
   ·simpa using c
  by_cases e:a=b
  ·subst e;exact c
  ·have:=ih Aa Aa;omega
def Ua (ts:List Int) (t:Int):Bool:=decide (ts.getD 0 0<=t) && decide (t<=ts.getD (ts.length-1) 0)
def Ko (ts ls:List Int) (t:Int):Int:=(ls.getD (cutN ts t) 0-ls.getD (cutN ts t-1) 0)*(t-ts.getD (cutN ts t-1) 0)
def ZL (ts:List Int) (t:Int):Int:=ts.getD (cutN ts t) 0-ts.getD (cutN ts t-1) 0
def levLo (ts ls:List Int) (t:Int):Int:=if ts.getD (cutN ts t) 0=t then ls.getD (cutN ts t) 0 else ls.getD (cutN ts t-1) 0+Ko ts ls t/ZL ts t
def levHi (ts ls:List Int) (t:Int):Int:=if ts.getD (cutN ts t) 0=t then ls.getD (cutN ts t) 0 else ls.getD (cutN ts t-1) 0+ -(-Ko ts ls t/ZL ts t)
def levC (ts:List Int) (t:Int):Int:=if Ua ts t=true then 0 else 4
structure GY (ts ls:List Int):Prop where
 n0:1<=ts.length
 n1:ts.length<=40
 ris:FF ts 1000001=true
 eq:ls.length=ts.length
 lev:BV ls (-2000) 2000=true
theorem GY.tm {ts b:List Int} (G:GY ts b) {k:Nat} (a:k<ts.length):0<=ts.getD k 0∧ts.getD k 0<=1000000:=by
 have:=Sh G.ris (ts[k]) (EH a);rw[CJ a];omega
theorem GY.lv {ts a:List Int} (G:GY ts a) {k:Nat} (b:k<ts.length): -2000<=a.getD k 0∧a.getD k 0<=2000:=EZ G.lev (by have:=G.eq;omega)
theorem LG {ts:List Int} {t:Int}:(∀a,a<cutN ts t->ts.getD a 0<t)∧(cutN ts t<ts.length-> ¬ts.getD (cutN ts t) 0<t):=by
 induction ts with
 |nil=>exact⟨λa h=>absurd h (by simp[cutN]),λh=>absurd h Cr⟩
 |cons x r ih=>
  by_cases b:x<t
  ·have e:cutN (x::r) t=cutN r t+1:=by unfold cutN;rw[List.takeWhile_cons_of_pos (by simpa using b)];rfl
   rw[e];refine⟨λa c=> ?_,λh=> ?_⟩
   ·cases a with
    |zero=>simpa using b
    |succ a=>simpa using ih.1 a Aa
   ·simpa using ih.2 CB
  ·have e:cutN (x::r) t=0:=by unfold cutN;rw[List.takeWhile_cons_of_neg (by simpa using b)];rfl
   rw[e];exact⟨λa c=>absurd c (Nat.not_lt_zero _),λ_=>by simpa using b⟩
theorem XR {ts:List Int} {t:Int} (a:ft ts) (hi:cutN ts t<ts.length) (he:ts.getD (cutN ts t) 0=t):levC ts t=0:=by
 have b:ts.getD 0 0<=t:=by
  by_cases e:cutN ts t=0
  ·rw[e] at he;omega
  ·have:=a 0 (cutN ts t) Aa hi;omega
 have c:t<=ts.getD (ts.length-1) 0:=by
  by_cases e:cutN ts t=ts.length-1
  ·rw[e] at he;omega
  ·have:=a (cutN ts t) (ts.length-1) Aa Aa;omega
 unfold levC Ua;rw[BC b,BC c];rfl
theorem cE {ts:List Int} {t:Int} (d:ft ts) (c:1<=ts.length) (h:(cutN ts t=0∧ ¬ts.getD 0 0=t)∨cutN ts t=ts.length):levC ts t=4:=by
 have a:=LG (ts:=ts) (t:=t);unfold levC Ua;rcases h with⟨h,b⟩|h
 ·have:=a.2 Aa;rw[h] at this;rw[BR (show¬ts.getD 0 0<=t by omega)];rfl
 ·have:=a.1 (ts.length-1) Aa;rw[BR (show¬t<=ts.getD (ts.length-1) 0 by omega),Bool.and_false];rfl
theorem cD {ts:List Int} {t:Int} (c:ft ts) (d:cutN ts t≠0) (b:cutN ts t<ts.length):levC ts t=0:=by
 have a:=LG (ts:=ts) (t:=t);have f:=a.1 0 Aa;have g:=a.2 b
 have i:ts.getD (cutN ts t) 0<=ts.getD (ts.length-1) 0:=by
  by_cases e:cutN ts t=ts.length-1
  ·rw[e];omega
  ·have:=c (cutN ts t) (ts.length-1) Aa Aa;omega
 unfold levC Ua;rw[BC (show ts.getD 0 0<=t by omega),BC (show t<=ts.getD (ts.length-1) 0 by omega)];rfl
theorem VL {a b A B:Int} (d: -A<=a) (f:a<=A) (g: -B<=b) (i:b<=B): -(A*B)<=a*b∧a*b<=A*B:=by
 have c:0<=A:=Aa;have e:a.natAbs*b.natAbs<=A.natAbs*B.natAbs:=Nat.mul_le_mul Aa Aa;have e1:((a.natAbs*b.natAbs:Nat):Int)=((a*b).natAbs:Nat):=by rw[Int.natAbs_mul]
 have e2:((A.natAbs*B.natAbs:Nat):Int)=A*B:=by rw[Int.natCast_mul,Int.natAbs_of_nonneg c,Int.natAbs_of_nonneg Aa]
 omega
def ag (d r _lo hi:Int):Int:=(d-r)-hi
def Xa (d r lo _hi:Int):Int:=(d+r)-lo
def MT (d r lo hi:Int):Int:=(ag d r lo hi+Xa d r lo hi)/2
def MU (d r lo hi:Int):Int:= -(-(Xa d r lo hi-ag d r lo hi)/2)
def laterB (ys:List Int) (m:Nat) (t:Int):Bool:=(List.range m).any λj=>decide (recK ys j=1) && decide (recT ys j=t)
theorem TO (ys:List Int) (m:Nat) (t:Int):laterB ys (m+1) t=(laterB ys m t||(decide (recK ys m=1) && decide (recT ys m=t))):=by unfold laterB;rw[I6,List.any_append];simp
theorem TP {ys:List Int} {k m:Nat} {t:Int} (h:(decide (recK ys k=1) && decide (recT ys k=t))=true) (a:k<m):laterB ys m t=true:=List.any_eq_true.2 ⟨k,Eo.2 a,h⟩
theorem KJ (xs:List Int) (i j:Nat):recT (xs.drop ((i+1)*7)) j=recT xs (i+1+j)∧recK (xs.drop ((i+1)*7)) j=recK xs (i+1+j):=by
 unfold recT recK;simp only[DE,List.getElem?_drop];rw[show(i+1)*7+j*7=(i+1+j)*7 by omega,show(i+1)*7+(j*7+1)=(i+1+j)*7+1 by omega]
 exact⟨rfl,rfl⟩
theorem Wa {xs:List Int} {n i:Nat} (hi:i<n):UB xs n i=(decide (recK xs i=1) && !(laterB (xs.drop ((i+1)*7)) (n-(i+1)) (recT xs i))):=by
 unfold UB
 congr 2
 rw[Bool.eq_iff_iff];unfold laterB;rw[List.any_eq_true,List.any_eq_true]
 constructor
 ·rintro⟨j,b,a⟩;rw[CD,BP] at a;have c:=Eo.1 b;refine⟨j-(i+1),Eo.2 Aa,?_⟩;rw[(KJ xs i (j-(i+1))).1,(KJ xs i (j-(i+1))).2,show i+1+(j-(i+1))=j by omega]
  exact a.2
 ·rintro⟨j,b,a⟩;have c:=Eo.1 b;rw[(KJ xs i j).1,(KJ xs i j).2] at a;exact⟨i+1+j,Eo.2 Aa,by rw[CD];exact⟨BC Aa,a⟩⟩
theorem Km (t k l x y d r u:Int) (g:Nat) (w:World) (hg:g<w) (b:w.cell? ⟨g,0,none⟩=ZS u):
  (BT 322 #[AD t k l x y d r,.pointer (some ⟨g,0,none⟩)] w (.bool (decide (k=1) && decide (t=u))):Prop):=by
 have a:Below w w (w.alloc (.cells (AD t k l x y d r) 67)):=BU;have hc1:(w.alloc (.cells (AD t k l x y d r) 67)).cell? ⟨g,0,none⟩=ZS u:=Cg a b hg;have K:=Br w 67 (AD t k l x y d r)
 by_cases h:k=1
 ·subst h
  go_enter func322,ntmps322
  go_upto_region 1 with fail
  generalize w.alloc _=i at*;have c:=K.cell
  go_wp2_with fail
  go_ret;exact⟨Af (by rw[Bool.eq_iff_iff];simp),a⟩
 ·have f:decide (k=1)=false:=CB
  go_enter func322,ntmps322
  go_upto_region 1 with fail
  generalize w.alloc _=i at*;have c:=K.cell
  go_wp2_with fail
  go_ret;exact⟨Af (by rw[f];simp),a⟩
theorem N8 (A:Option Addr) (n c:Nat) (xs:List Int) (u:Int) (g:Nat) (w:World) (U:n<=1048576) (H:Rd w A (n*7) (ints xs)) (hg:g<w) (E:w.cell? ⟨g,0,none⟩=ZS u):
  Calls prog 112 #[.slice A n c,.func (.func 322) #[] #[.pointer (some ⟨g,0,none⟩)]] w λe Q=> ∃v:Int,e=.returned (ZI v)∧(decide (v ≥ 0))=laterB xs n u∧Below w w Q:=by
 go_enter func112,ntmps112
 go_wp2
 go_loopw [8] (λi wr=> ∃k:Nat,k<=n∧i=.int .i64 k∧laterB xs k u=false∧Below w w wr)
  (λi _=>n-(intOf i).toNat)
 case atStart=>exact⟨0,AZ _,rfl,rfl,AP _ _⟩
 case round=>
  obtain⟨k,T,rfl,b,a⟩:=hrel;have s:=Ai b;clear b
  by_cases j:k<n
  ·obtain⟨S,rfl,I,J,K,L,M,N,O⟩:=(H.below a).seven j;have f:g<wr:=CM hg a.size;have hc1:=Cg a E hg;have D:Hid (laterB xs (k+1) u=(laterB xs k u||(decide (recK xs k=1) && decide (recT xs k=u)))):=TO xs k u
   have C:Hid ((decide (recK xs k=1) && decide (recT xs k=u))=true->laterB xs n u=true):=λh=>TP h j;have l:Hid (recT xs k=xs.getD (k*7) 0∧recK xs k=xs.getD (k*7+1) 0):=⟨rfl,rfl⟩;have F:(0:Int)<=(k:Int):=Aa;have G:(k:Int)<(n:Int):=Aa;generalize xs.getD (k*7) 0=q at*;generalize xs.getD (k*7+1) 0=r at*;generalize xs.getD (k*7+2) 0=t at*;generalize xs.getD (k*7+3) 0=x at*;generalize xs.getD (k*7+4) 0=y at*;generalize xs.getD (k*7+5) 0=z at*;generalize xs.getD (k*7+6) 0=B at*;rcases jt (decide (r=1) && decide (q=u)) with h|h
   ·have d:=Ai h;clear h
    go_wp2_with fail
    refine(Km q r t x y z B u g _ f hc1).mono ?_;rw[d.out];rintro e R ⟨rfl,m⟩;have p:=An a m;go_wp2;go_ret;exact⟨k,rfl,by rw[C.out (by rw[l.out.1,l.out.2];exact d.out)];simp,p⟩
   ·have d:=Ai h;clear h
    go_wp2_with fail
    refine(Km q r t x y z B u g _ f hc1).mono ?_;rw[d.out];rintro e R ⟨rfl,m⟩;have p:=An a m;go_wp2
    go_roundw
    case rel=>exact⟨k+1,by omega,by go_num,by rw[D.out,s.out,l.out.1,l.out.2,d.out];rfl,p⟩
    case measure=>simp[intOf];omega
  ·obtain rfl:k=n:=Aa;go_wp2;go_ret;exact⟨-1,rfl,by rw[s.out];rfl,a⟩
theorem J4 (A:Option Addr) (n c:Nat) (xs:List Int) (u:Int) (g:Nat) (w:World) (d:n<=1048576) (f:Rd w A (n*7) (ints xs)) (hg:g<w) (b:w.cell? ⟨g,0,none⟩=ZS u):
  (BT 79 #[.slice A n c,.func (.func 322) #[] #[.pointer (some ⟨g,0,none⟩)]] w (.bool (laterB xs n u)):Prop):=by
 go_enter func79,ntmps79
 go_wp2_with (go_at_call 112;refine(N8 _ _ _ xs u g _ d f hg b).mono ?_;rintro e i ⟨v,rfl,hv,a⟩)
 go_ret;exact⟨Af (by rw[<-hv]),a⟩
