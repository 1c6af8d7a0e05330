import Derived.Test.YtkndcebhjcfphaaGreatDoorZVx4
import Derived.Test.YtkndcebhjcfphaaGreatDoorZY
namespace Go.Proofs.YtkndcebhjcfphaaGreatDoor
open Go.RowKit Go.Proofs.Tryz
set_option maxRecDepth 100000
set_option maxHeartbeats 4000000
set_option linter.all false
theorem J8 (w:World) (g:Nat) (a0 a1 a2 a3 a4 a5 a6 a7 a8 a9 a10:Value):w.grownBy ((((((((((((w).setCell ⟨g,0,none⟩ a0).setCell ⟨g,1,none⟩ a1).setCell ⟨g,2,none⟩ a2).setCell ⟨g,3,none⟩ a3).setCell ⟨g,4,none⟩ a4).setCell ⟨g,5,none⟩ a5).setCell ⟨g,6,none⟩ a6).setCell ⟨g,7,none⟩ a7).setCell ⟨g,8,none⟩ a8).setCell ⟨g,9,none⟩ a9).setCell ⟨g,10,none⟩ a10) (some g):=by
 repeat(refine Bc ?_ (.inl rfl) _)
 exact JU _ _
theorem NW {w:World} {g:Nat} {t:TypeId} {z0 z1 z2 z3 z4 z5 z6 z7 z8 z9 z10:Value} (a0 a1 a2 a3 a4 a5 a6 a7 a8 a9 a10:Value) (K:Blk w g t #[z0,z1,z2,z3,z4,z5,z6,z7,z8,z9,z10]):Blk ((((((((((((w).setCell ⟨g,0,none⟩ a0).setCell ⟨g,1,none⟩ a1).setCell ⟨g,2,none⟩ a2).setCell ⟨g,3,none⟩ a3).setCell ⟨g,4,none⟩ a4).setCell ⟨g,5,none⟩ a5).setCell ⟨g,6,none⟩ a6).setCell ⟨g,7,none⟩ a7).setCell ⟨g,8,none⟩ a8).setCell ⟨g,9,none⟩ a9).setCell ⟨g,10,none⟩ a10) g t #[a0,a1,a2,a3,a4,a5,a6,a7,a8,a9,a10]:=by
 have k0:Blk ((w).setCell ⟨g,0,none⟩ a0) g t #[a0,z1,z2,z3,z4,z5,z6,z7,z8,z9,z10]:=K.set_ 0 a0;have k1:Blk (((w).setCell ⟨g,0,none⟩ a0).setCell ⟨g,1,none⟩ a1) g t #[a0,a1,z2,z3,z4,z5,z6,z7,z8,z9,z10]:=k0.set_ 1 a1;have k2:Blk ((((w).setCell ⟨g,0,none⟩ a0).setCell ⟨g,1,none⟩ a1).setCell ⟨g,2,none⟩ a2) g t #[a0,a1,a2,z3,z4,z5,z6,z7,z8,z9,z10]:=k1.set_ 2 a2;have k3:Blk (((((w).setCell ⟨g,0,none⟩ a0).setCell ⟨g,1,none⟩ a1).setCell ⟨g,2,none⟩ a2).setCell ⟨g,3,none⟩ a3) g t #[a0,a1,a2,a3,z4,z5,z6,z7,z8,z9,z10]:=k2.set_ 3 a3;have k4:Blk ((((((w).setCell ⟨g,0,none⟩ a0).setCell ⟨g,1,none⟩ a1).setCell ⟨g,2,none⟩ a2).setCell ⟨g,3,none⟩ a3).setCell ⟨g,4,none⟩ a4) g t #[a0,a1,a2,a3,a4,z5,z6,z7,z8,z9,z10]:=k3.set_ 4 a4;have k5:Blk (((((((w).setCell ⟨g,0,none⟩ a0).setCell ⟨g,1,none⟩ a1).setCell ⟨g,2,none⟩ a2).setCell ⟨g,3,none⟩ a3).setCell ⟨g,4,none⟩ a4).setCell ⟨g,5,none⟩ a5) g t #[a0,a1,a2,a3,a4,a5,z6,z7,z8,z9,z10]:=k4.set_ 5 a5;have k6:Blk ((((((((w).setCell ⟨g,0,none⟩ a0).setCell ⟨g,1,none⟩ a1).setCell ⟨g,2,none⟩ a2).setCell ⟨g,3,none⟩ a3).setCell ⟨g,4,none⟩ a4).setCell ⟨g,5,none⟩ a5).setCell ⟨g,6,none⟩ a6) g t #[a0,a1,a2,a3,a4,a5,a6,z7,z8,z9,z10]:=k5.set_ 6 a6;have k7:Blk (((((((((w).setCell ⟨g,0,none⟩ a0).setCell ⟨g,1,none⟩ a1).setCell ⟨g,2,none⟩ a2).setCell ⟨g,3,none⟩ a3).setCell ⟨g,4,none⟩ a4).setCell ⟨g,5,none⟩ a5).setCell ⟨g,6,none⟩ a6).setCell ⟨g,7,none⟩ a7) g t #[a0,a1,a2,a3,a4,a5,a6,a7,z8,z9,z10]:=k6.set_ 7 a7;have k8:Blk ((((((((((w).setCell ⟨g,0,none⟩ a0).setCell ⟨g,1,none⟩ a1).setCell ⟨g,2,none⟩ a2).setCell ⟨g,3,none⟩ a3).setCell ⟨g,4,none⟩ a4).setCell ⟨g,5,none⟩ a5).setCell ⟨g,6,none⟩ a6).setCell ⟨g,7,none⟩ a7).setCell ⟨g,8,none⟩ a8) g t #[a0,a1,a2,a3,a4,a5,a6,a7,a8,z9,z10]:=k7.set_ 8 a8;have k9:Blk (((((((((((w).setCell ⟨g,0,none⟩ a0).setCell ⟨g,1,none⟩ a1).setCell ⟨g,2,none⟩ a2).setCell ⟨g,3,none⟩ a3).setCell ⟨g,4,none⟩ a4).setCell ⟨g,5,none⟩ a5).setCell ⟨g,6,none⟩ a6).setCell ⟨g,7,none⟩ a7).setCell ⟨g,8,none⟩ a8).setCell ⟨g,9,none⟩ a9) g t #[a0,a1,a2,a3,a4,a5,a6,a7,a8,a9,z10]:=k8.set_ 9 a9;have k10:Blk ((((((((((((w).setCell ⟨g,0,none⟩ a0).setCell ⟨g,1,none⟩ a1).setCell ⟨g,2,none⟩ a2).setCell ⟨g,3,none⟩ a3).setCell ⟨g,4,none⟩ a4).setCell ⟨g,5,none⟩ a5).setCell ⟨g,6,none⟩ a6).setCell ⟨g,7,none⟩ a7).setCell ⟨g,8,none⟩ a8).setCell ⟨g,9,none⟩ a9).setCell ⟨g,10,none⟩ a10) g t #[a0,a1,a2,a3,a4,a5,a6,a7,a8,a9,a10]:=k9.set_ 10 a10;exact k10
theorem Rv (h:Ev) (ds ss:List Int) (src:Nat) (n lo hi steps:Int) (dn:Bool) (w:World) (X:M4 w h ds ss) (P:UW ds ss src):
  Calls prog 206 #[EV h,ZI src,ZI n,ZI lo,ZI hi,.bool dn,ZI steps] w (RetCl (fanR ds ss src n dn) n lo hi steps w):=by
 have hl:h.D.n=ds.length:=X.d.len.symm;have hsn:h.S.n=ss.length:=X.s.len.symm
 have hl12:ds.length≤12∧ss.length=ds.length:=by
  have h:=P.prof;unfold BI at h;simp only[CD,BP] at h;have:=Ac h.1;omega
 have HIP:=fun(W:World) (X:M4 W h ds ss)=>Cv h.D.A h.S.A h.D.n h.S.n h.D.c h.S.c ds ss W Aa Aa X.d X.s;rw[hl,hsn,P.prof,←hl,←hsn] at HIP;have HIF:=fun W=>P8 n lo hi W;have HCD:=fun(c s hh:Int) (W:World) (X:M4 W h ds ss) (hd:DO c s hh=true)=>TH h ds ss src c s hh steps W X P hd;have HNC:=fun(r q:Al) (k:Nat) (W:World) (X:DR W h r) (hk:k≤100) (N:YJ r q) (e1:q.ss=r.ss) (e2:q.src=r.src)=>Rw h r q k W X hk N e1 e2;have HBAD:=fun(c:Int) (w':World)=> @Yc (fanR ds ss src n dn) n lo hi steps c w w';have HOK:=fun(w':World) (A:Option Addr) (m c:Nat) (M:List SC)=> @ah (fanR ds ss src n dn) n lo hi steps w w' A m c M;have HB:=Ai HBAD;have HO:=Ai HOK;have HOC:Hid (clC (fanR ds ss src n dn) n lo hi steps=if Ds n lo hi=false then 1 else if inR steps 0 100=false then 2 else match clM (fanR ds ss src n dn) lo steps.toNat (hi-lo).toNat with|none=>3|some _=>0):=rfl
 generalize RetCl (fanR ds ss src n dn) n lo hi steps w=RET at*;clear HBAD HOK hl hsn hl12;have HX:=Ai X;have HP:=Ai P;clear X P;obtain⟨⟨A0,n0,c0⟩,⟨A1,n1,c1⟩⟩:=h;unfold EV at*;simp only at*;have b0:Below w w (w.alloc (.cells (CH A0 n0 c0 A1 n1 c1) 30)):=BU;have K:=Br w 30 (CH A0 n0 c0 A1 n1 c1);have X1:=HX.out.below b0
 go_enter func206,ntmps206
 go_upto_region 1 with fail
 generalize w.alloc _=w1 at*;have c:=K.cell
 go_wp2_with fail
 refine(HIP _ X1).mono ?_;rintro e w2 ⟨rfl,b2⟩;clear HIP c;replace b0:=An b0 b2;replace X1:=X1.below b2;replace K:=K.below b2 K.lt
 go_wp2_with fail
 refine(HIF _).mono ?_;clear HIF;rcases BA (Ds n lo hi) with hf|hf
 rotate_left
 ·rw[hf];rintro e w' ⟨rfl,rfl⟩;have HC:=Ai (HB.out 1 w2 (HOC.out.trans (AA hf)) Ah b0);clear K X1 HCD HNC HB HO HOC b2 b0 hf;go_wp2;exact HC.out
 rw[hf];rintro e w' ⟨rfl,rfl⟩;rw[Ak (by rw[hf];decide)] at HOC
 have hbd:=Gf hf;have HFA:=fun W=>Vu n lo hi dn W hf;have HMK:=fun(m:Int) (h1:lo≤m) (h2:m≤hi)=>J7 hf h1 h2;have HMH:=Ai HMK;obtain⟨N,hN⟩: ∃N,(hi-lo).toNat=N:=⟨_,rfl⟩;have hN2:Hid (hi=lo+(N:Int)):=by unfold Hid;omega
 have hN3:N≤30:=Aa;rw[hN] at HOC HO;have HO':=Ai HO.out;unfold Nz at HFA;rw[hN] at HFA;clear hN hf HMK HO hbd b2
 go_wp2_with fail
 refine(HFA _).mono ?_;rintro e w4 ⟨FA,fc,rfl,RF,b4⟩;clear HFA;replace b0:=An b0 b4;replace X1:=X1.below b4;replace K:=K.below b4 K.lt;clear b4;obtain⟨ad,hA1,cx0,cx1,cx2⟩:=RF.three (show 0<N+1 by omega)
 subst hA1;have e1:=LI n dn lo (show 0<N+1 by omega)
 rw[show lo+((0:Nat):Int)=lo by omega] at e1
 rw[e1.1] at cx0;rw[e1.2.1] at cx1;rw[e1.2.2] at cx2;rw[Nat.zero_mul,Gu] at cx0 cx1 cx2;have hm0:=HMH.out lo Aa (by have:=hN2.out;omega)
 have hdir:=Ug hm0 dn;have hN0:(0:Int)<(N:Int)+1:=Aa;have eP:=K.cell
 go_upto_region 4 with fail
 go_still_tail 9,We51ceQ
 have K2:=Blk.drew K;have RF2:=RF.below GJ;have X2:=X1.below GJ;have b2:=CO b0;change wpList _ _ _ _ _ w4.drew;generalize w4.drew=w5 at K2 RF2 X2 b2⊢;clear eP cx0 cx1 cx2 K RF X1 b0 e1;have HCD0:=HCD _ _ _ w5 X2 hdir;clear HCD hm0 hdir
 go_wp2_with fail
 with_reducible refine HCD0.mono ?_
 clear HCD0;rcases BA (inR steps 0 100) with hst|hst
 rotate_left
 ·rw[AA hst];rintro e w6 ⟨rfl,b6⟩;have HC:=Ai (HB.out 2 w6 (HOC.out.trans (AA hst)) Ah (An b2 b6));clear K2 RF2 X2 HNC HB HO' HOC b6 b2 hst;go_wp2;exact HC.out
 rw[Ak (by rw[hst];decide)]
 rw[Ak (by rw[hst];decide)] at HOC
 obtain⟨st,hs⟩: ∃s:Nat,steps=(s:Int):=⟨steps.toNat,by have:=Ac hst;omega⟩
 have hst100:st≤100:=by have:=Ac hst;omega
 have hst2:steps.toNat=st:=Aa;rw[hst2] at HOC;have HO2:=HO'.out;rw[hst2] at HO2;have HO3:=Ai HO2;have HST:=Ai hs;clear hst hs hst2 HO2 HO';rintro e w6 ⟨rfl,b6⟩;replace b2:=An b2 b6;replace K2:=K2.below b6 K2.lt;replace RF2:=RF2.below b6;replace X2:=X2.below b6;clear b6;have bz:Below w6 w6 (w6.alloc (.cells #[] 203)):=BU;replace b2:=An b2 bz;replace K2:=K2.below bz K2.lt;replace RF2:=RF2.below bz;replace X2:=X2.below bz;clear bz
 go_upto_region 8 with fail
 generalize w6.alloc _=w7 at K2 RF2 X2 b2⊢;generalize(some (⟨w6,0,none⟩:Addr))=PZ;have hFB:ad.block<w7.heap.size:=RF2.lt rfl Aa;have hB1:w<w7.heap.size:=K2.lt;obtain⟨B1,hB1'⟩: ∃B,w7.heap.size=B:=⟨_,rfl⟩;have hBB:B1≤w7.heap.size:=Aa;rw[hB1'] at hFB hB1;clear hB1'
 go_wp2_with fail
 go_loopw [18,19] (fun v i wr=> ∃(k:Nat) (H:Hd),k≤N∧i=.int .i64 (k:Int)∧v=.slice H.A H.n H.c∧H.n=k∧(∃M:List SC,clM (fanR ds ss src n dn) lo st k=some M∧AR wr B1 11 H (Py M))∧B1≤wr.heap.size∧Blk wr w.heap.size 30 (CH A0 n0 c0 A1 n1 c1)∧Rd wr (some ad) ((N+1)*3) (ints (fdL n dn lo (N+1)))∧M4 wr ⟨⟨A0,n0,c0⟩,⟨A1,n1,c1⟩⟩ ds ss∧Below w w wr) (fun _ i _=>N-(intOf i).toNat)
 case atStart=>exact⟨0,⟨PZ,0,0⟩,AZ _,rfl,rfl,rfl,⟨[],rfl,AR.empty _ _ _ _⟩,hBB,K2,RF2,X2,b2⟩
 case round=>
  clear K2 RF2 X2 b2 hBB;obtain⟨k,⟨HA,hN',hC⟩,hk,rfl,rfl,hh,⟨M,hM,O⟩,hBB,K,RF,X,b⟩:=hrel;simp only at hh;have u2:=Bg ((k:Int)+1)
  by_cases hlt:k<N
  ·have hltI:(k:Int)+1<(N:Int)+1:=Aa;have hltI2:(k:Int)<(N:Int)+1:=Aa;have hltN1:k<N+1:=Aa;have hltN2:k+1<N+1:=Aa;have h63:hN'+1≤1048576:=Aa;have HHN:=Ai hh;clear hh;obtain⟨_,hA1,cx0,cx1,cx2⟩:=RF.three hltN1;obtain⟨_,hA2,cy0,cy1,cy2⟩:=RF.three hltN2
   cases hA1
   cases hA2
   have e1:=LI n dn lo hltN1;have e2:=LI n dn lo hltN2;rw[show lo+((k+1:Nat):Int)=lo+(k:Int)+1 by omega] at e2
   rw[e1.1] at cx0;rw[e1.2.1] at cx1;rw[e1.2.2] at cx2;rw[e2.1] at cy0;rw[e2.2.1] at cy1;rw[e2.2.2] at cy2;have m1:=HMH.out (lo+(k:Int)) Aa (by have:=hN2.out;omega)
   have m2:=HMH.out (lo+(k:Int)+1) Aa (by have:=hN2.out;omega)
   have HNB:=Ai (dL HP.out.prof HP.out.src dn m1 m2);have HT5:=fun(W:World) (c:Below wr wr W)=>HNC (fanR ds ss src n dn (lo+(k:Int))) (fanR ds ss src n dn (lo+(k:Int)+1)) st W ((X.below c).ray src n dn _) hst100 HNB.out rfl rfl;rw[bM,←HST.out] at HT5;unfold GU fanR at HT5;simp only at HT5;have HFV:Hid (clM (fanR ds ss src n dn) lo st (k+1)=match clM (fanR ds ss src n dn) lo st k with|none=>none|some M=>match ceD (fanR ds ss src n dn (lo+(k:Int))) (fanR ds ss src n dn (lo+(k:Int)+1)) st with|none=>none|some d=>some (M++ [d])):=rfl
   rw[hM] at HFV;simp only at HFV;have q1:((k:Int)+1).toNat=k+1:=Aa;have q3:(0:Int)≤(k:Int)+1:=Aa;have u3:=Bg (k:Int);have hadl:=RF.lt rfl Aa;have ha1:(ad.add (k*3)).block<wr.heap.size:=by rw[Aq];exact hadl
   have ha2:(ad.add ((k+1)*3)).block<wr.heap.size:=by rw[Aq];exact hadl
   have gP:=K.lt;have eP:(∀o,wr.cell? ⟨w,o,none⟩=((CH A0 n0 c0 A1 n1 c1):Array Value)[o]?):=K.cell;have KZ7:=Br wr 203 Di;clear hM e1 e2 m1 m2 HNB
   go_upto_region 11 with fail
   have HD0:Hid (∀x,ceD (fanR ds ss src n dn (lo+(k:Int))) (fanR ds ss src n dn (lo+(k:Int)+1)) st=x→ceD ⟨ds,ss,src,mkC (lo+(k:Int)) n,mkS (lo+(k:Int)) n dn,mkH (lo+(k:Int)) n⟩ ⟨ds,ss,src,mkC (lo+(k:Int)+1) n,mkS (lo+(k:Int)+1) n dn,mkH (lo+(k:Int)+1) n⟩ st=x):=fun _ h=>h;rcases hce:ceD (fanR ds ss src n dn (lo+(k:Int))) (fanR ds ss src n dn (lo+(k:Int)+1)) st with _|d
   ·rw[HD0.out _ hce] at HT5;simp only at HT5;rw[hce] at HFV;simp only at HFV;clear hce HD0
    go_cut [20,21] (fun v20 v21 wx=> ∃gd:Nat,v20=.pointer (some ⟨gd,0,none⟩)∧v21=.int .i64 3∧Blk wx gd 203 Di∧wr.heap.size≤gd∧Below wr wr wx)
    case first=>
     go_region_held3 (fun w'=>(∀o,w'.cell? ⟨w,o,none⟩=((CH A0 n0 c0 A1 n1 c1):Array Value)[o]?)∧w'.cell? (ad.add (k*3))=some (.int .i64 (mkC (lo+(k:Int)) n))∧w'.cell? ⟨(ad.add (k*3)).block,(ad.add (k*3)).off+1,none⟩=some (.int .i64 (mkS (lo+(k:Int)) n dn))∧w'.cell? ⟨(ad.add (k*3)).block,(ad.add (k*3)).off+2,none⟩=some (.int .i64 (mkH (lo+(k:Int)) n))∧w'.cell? (ad.add ((k+1)*3))=some (.int .i64 (mkC (lo+(k:Int)+1) n))∧w'.cell? ⟨(ad.add ((k+1)*3)).block,(ad.add ((k+1)*3)).off+1,none⟩=some (.int .i64 (mkS (lo+(k:Int)+1) n dn))∧w'.cell? ⟨(ad.add ((k+1)*3)).block,(ad.add ((k+1)*3)).off+2,none⟩=some (.int .i64 (mkH (lo+(k:Int)+1) n)))
      (first|(with_reducible exact⟨eP,cx0,cx1,cx2,cy0,cy1,cy2⟩)|(with_reducible exact⟨zP,zx0,zx1,zx2,zy0,zy1,zy2⟩)|((with_reducible refine⟨?_,?_,?_,?_,?_,?_,?_⟩)<;>(first|(with_reducible assumption)|((with_reducible refine AC ?_);(with_reducible assumption))|((repeat(first|(with_reducible refine E3 ?_)|(with_reducible refine AC ?_)|(with_reducible refine Fg ?_ (by first|(with_reducible assumption)|omega|(simp only;omega)) _)|(with_reducible refine AK ?_ (by first|(with_reducible assumption)|omega|(simp;done)|(simp;omega)) _)|(with_reducible refine GM ?_ (by first|omega|(simp only;omega)))|(with_reducible refine Bl ?_ (by omega))));(with_reducible assumption)))))
      (first|(go_at_call 265;(with_reducible refine(HT5 _ Ax).mono ?_);rintro e u0 ⟨rfl,b6⟩;have bu:Below wr wr u0:=(show Below wr wr _ from Ax).trans (b6.mono C9);(first|(with_reducible have KY:=(Blk.drew KZ7).belowR b6;have cY:=KY.cell;have fY:=KY.frozen;have lY:=KY.lt)|(with_reducible have KY:=KZ7.belowR b6;have cY:=KY.cell;have fY:=KY.frozen;have lY:=KY.lt)|skip);have zP:(∀o,u0.cell? ⟨w,o,none⟩=((CH A0 n0 c0 A1 n1 c1):Array Value)[o]?):=fun o=>(K.below bu K.lt).cell o;have zx0:=(bu.cell (p:=ad.add (k*3)) ha1).trans cx0;have zx1:=(bu.cell (p:=⟨(ad.add (k*3)).block,(ad.add (k*3)).off+1,none⟩) ha1).trans cx1;have zx2:=(bu.cell (p:=⟨(ad.add (k*3)).block,(ad.add (k*3)).off+2,none⟩) ha1).trans cx2;have zy0:=(bu.cell (p:=ad.add ((k+1)*3)) ha2).trans cy0;have zy1:=(bu.cell (p:=⟨(ad.add ((k+1)*3)).block,(ad.add ((k+1)*3)).off+1,none⟩) ha2).trans cy1;have zy2:=(bu.cell (p:=⟨(ad.add ((k+1)*3)).block,(ad.add ((k+1)*3)).off+2,none⟩) ha2).trans cy2;have gu0:=CM K.lt bu.size;have hau1:=CM ha1 bu.size;have hau2:=CM ha2 bu.size;have hzu:=bu.size))
     ·go_wp2_with fail
      go_meet
      exact⟨u0.heap.size,rfl,rfl,Br u0 _ _,bu.size,bu.alloc bu.size _⟩
     ·go_wp2_with fail
      go_meet
      exact⟨wr.heap.size,rfl,rfl,NW (ZI 0) (.bool false) (ZI 0) (ZI 0) (ZI 0) (.bool false) (ZI 0) (ZI 0) (.bool false) (ZI 0) (ZI 0) KY,Cp _,bu.grown (J8 u0 wr.heap.size (ZI 0) (.bool false) (ZI 0) (ZI 0) (ZI 0) (.bool false) (ZI 0) (ZI 0) (.bool false) (ZI 0) (ZI 0)) bu.size (fun q e=>by cases e;exact Cp _)⟩
    case rest=>
     obtain⟨gd,rfl,rfl,KD,hgd,bw⟩:=hcut;obtain⟨w9,rfl⟩: ∃q:World,q=wc:=⟨_,rfl⟩;have HC:=Ai (HB.out 3 w9 (HOC.out.trans (by rw[Ze HFV.out N Aa])) Ah (An b bw))
     clear K O RF X b bw HB HO3 HOC HNC eP gP cx0 cx1 cx2 cy0 cy1 cy2 HT5 KZ7;go_wp2;exact HC.out
   ·rw[HD0.out _ hce] at HT5;simp only at HT5;unfold aV at HT5;rw[hce] at HFV;simp only at HFV;clear hce HD0
    go_cut [20,21] (fun v20 v21 wx=> ∃gd:Nat,v20=.pointer (some ⟨gd,0,none⟩)∧v21=.int .i64 0∧Blk wx gd 203 (Az d.x.k d.x.dn d.x.lo d.x.hi d.y.k d.y.dn d.y.lo d.y.hi d.same d.lo d.hi)∧wr.heap.size≤gd∧Below wr wr wx)
    case first=>
     go_region_held3 (fun w'=>(∀o,w'.cell? ⟨w,o,none⟩=((CH A0 n0 c0 A1 n1 c1):Array Value)[o]?)∧w'.cell? (ad.add (k*3))=some (.int .i64 (mkC (lo+(k:Int)) n))∧w'.cell? ⟨(ad.add (k*3)).block,(ad.add (k*3)).off+1,none⟩=some (.int .i64 (mkS (lo+(k:Int)) n dn))∧w'.cell? ⟨(ad.add (k*3)).block,(ad.add (k*3)).off+2,none⟩=some (.int .i64 (mkH (lo+(k:Int)) n))∧w'.cell? (ad.add ((k+1)*3))=some (.int .i64 (mkC (lo+(k:Int)+1) n))∧w'.cell? ⟨(ad.add ((k+1)*3)).block,(ad.add ((k+1)*3)).off+1,none⟩=some (.int .i64 (mkS (lo+(k:Int)+1) n dn))∧w'.cell? ⟨(ad.add ((k+1)*3)).block,(ad.add ((k+1)*3)).off+2,none⟩=some (.int .i64 (mkH (lo+(k:Int)+1) n)))
      (first|(with_reducible exact⟨eP,cx0,cx1,cx2,cy0,cy1,cy2⟩)|(with_reducible exact⟨zP,zx0,zx1,zx2,zy0,zy1,zy2⟩)|((with_reducible refine⟨?_,?_,?_,?_,?_,?_,?_⟩)<;>(first|(with_reducible assumption)|((with_reducible refine AC ?_);(with_reducible assumption))|((repeat(first|(with_reducible refine E3 ?_)|(with_reducible refine AC ?_)|(with_reducible refine Fg ?_ (by first|(with_reducible assumption)|omega|(simp only;omega)) _)|(with_reducible refine AK ?_ (by first|(with_reducible assumption)|omega|(simp;done)|(simp;omega)) _)|(with_reducible refine GM ?_ (by first|omega|(simp only;omega)))|(with_reducible refine Bl ?_ (by omega))));(with_reducible assumption)))))
      (first|(go_at_call 265;(with_reducible refine(HT5 _ Ax).mono ?_);rintro e u0 ⟨rfl,b6⟩;have bu:Below wr wr u0:=(show Below wr wr _ from Ax).trans (b6.mono C9);(first|(with_reducible have KY:=(Blk.drew KZ7).belowR b6;have cY:=KY.cell;have fY:=KY.frozen;have lY:=KY.lt)|(with_reducible have KY:=KZ7.belowR b6;have cY:=KY.cell;have fY:=KY.frozen;have lY:=KY.lt)|skip);have zP:(∀o,u0.cell? ⟨w,o,none⟩=((CH A0 n0 c0 A1 n1 c1):Array Value)[o]?):=fun o=>(K.below bu K.lt).cell o;have zx0:=(bu.cell (p:=ad.add (k*3)) ha1).trans cx0;have zx1:=(bu.cell (p:=⟨(ad.add (k*3)).block,(ad.add (k*3)).off+1,none⟩) ha1).trans cx1;have zx2:=(bu.cell (p:=⟨(ad.add (k*3)).block,(ad.add (k*3)).off+2,none⟩) ha1).trans cx2;have zy0:=(bu.cell (p:=ad.add ((k+1)*3)) ha2).trans cy0;have zy1:=(bu.cell (p:=⟨(ad.add ((k+1)*3)).block,(ad.add ((k+1)*3)).off+1,none⟩) ha2).trans cy1;have zy2:=(bu.cell (p:=⟨(ad.add ((k+1)*3)).block,(ad.add ((k+1)*3)).off+2,none⟩) ha2).trans cy2;have gu0:=CM K.lt bu.size;have hau1:=CM ha1 bu.size;have hau2:=CM ha2 bu.size;have hzu:=bu.size))
     ·go_wp2_with fail
      go_meet
      exact⟨u0.heap.size,rfl,rfl,Br u0 _ _,bu.size,bu.alloc bu.size _⟩
     ·go_wp2_with fail
      go_meet
      exact⟨wr.heap.size,rfl,rfl,NW (ZI d.x.k) (.bool d.x.dn) (ZI d.x.lo) (ZI d.x.hi) (ZI d.y.k) (.bool d.y.dn) (ZI d.y.lo) (ZI d.y.hi) (.bool d.same) (ZI d.lo) (ZI d.hi) KY,Cp _,bu.grown (J8 u0 wr.heap.size (ZI d.x.k) (.bool d.x.dn) (ZI d.x.lo) (ZI d.x.hi) (ZI d.y.k) (.bool d.y.dn) (ZI d.y.lo) (ZI d.y.hi) (.bool d.same) (ZI d.lo) (ZI d.hi)) bu.size (fun q e=>by cases e;exact Cp _)⟩
    case rest=>
     obtain⟨gd,rfl,rfl,KD,hgd,bw⟩:=hcut;obtain⟨w9,rfl⟩: ∃q:World,q=wc:=⟨_,rfl⟩;clear eP gP cx0 cx1 cx2 cy0 cy1 cy2 HT5 KZ7 ha1 ha2 hadl;replace K:=K.below bw K.lt;replace O:=O.below bw;replace RF:=RF.below bw;replace b:=An b bw;replace hBB:=Ch hBB bw.size;clear bw X;have eD:=KD.cell;have al:Below w9 w9 (w9.alloc (.cells (Az d.x.k d.x.dn d.x.lo d.x.hi d.y.k d.y.dn d.y.lo d.y.hi d.same d.lo d.hi) 203)):=BU;have R1:=fL w9 d 203;have K3:=K.below al K.lt;have O3:=O.below al;have RF3:=RF.below al;have b3:=An b al;have hz3:=Ch hBB al.size
     go_wp2_with (at_builtin;refine JQ rfl _ _ 197 rfl 203 11 88 underlying197 YI Ah B1 ⟨HA,hN',hC⟩ _ rfl O3 _ 1 1 (Y7 d) rfl R1 (VP d) h63 Ah hz3 ?_;intro G wg hn oG gg hat;have HNG:=Ai hn;clear hn)
     have hrl:=O3.rowlt;have K4:=K3.grown gg (fun e=>by have:=(hrl _ e).1;omega)
     have b4:=b3.grown gg b3.size (fun q e=>by have:=(hrl q e).1;omega)
     have X4:M4 wg ⟨⟨A0,n0,c0⟩,⟨A1,n1,c1⟩⟩ ds ss:=HX.out.below b4;have RF4:=RF3.grown gg (fun a e _ c=>by have:=(hrl _ c).1;cases e;omega)
     have hB4:=Ch hz3 gg.size
     go_roundw
     case rel=>exact⟨k+1,G,by omega,by first|rfl|(congr 1;omega)|go_num,rfl,by rw[HNG.out,HHN.out],⟨M++ [d],HFV.out,by rw[Y8];exact oG⟩,hB4,K4,RF4,X4,b4⟩
     case measure=>simp[intOf];omega
  ·obtain rfl:N=k:=Aa;have hltI: ¬(N:Int)+1<(N:Int)+1:=Aa;have HC:=Ai (HO3.out wr HA hN' hC M (HOC.out.trans (by rw[hM])) hM hh O.rd b)
   clear hM O HB HO3 HOC HNC K RF X b hh;go_wp2;exact HC.out
theorem eF (ρ:Int→Al) (kn:Nat) (n lo hi steps knot dist:Int):
  ocC ρ kn n lo hi steps knot dist=if clC ρ n lo hi steps≠1∧(inR knot 0 ((kn:Int)-1) && inR dist 0 1000000000000)=false then 2 else clC ρ n lo hi steps:=by
 unfold ocC clC
 by_cases hf:Ds n lo hi=false
 ·rw[AA hf,AA hf,Ak Cr]
 ·rw[Ak hf,Ak hf]
  by_cases hs:inR steps 0 100=false
  ·rw[AA hs,AA hs]
   split<;>rfl
  ·rw[Ak hs,Ak hs,Rn]
   by_cases hr:(inR knot 0 ((kn:Int)-1) && inR dist 0 1000000000000)=false
   ·rw[AA hr,AA ⟨by split<;>simp,hr⟩]
   ·rw[Ak hr,Ak (fun c=>hr c.2)]
    cases clM ρ lo steps.toNat (hi-lo).toNat<;>rfl
theorem eM {ρ:Int→Al} {n lo hi steps knot dist:Int} {M:List SC} (h:clM ρ lo steps.toNat (hi-lo).toNat=some M):ocV ρ n lo hi steps knot dist=M.map fun d=>vdV d.x d.y d.same d.lo d.hi knot dist:=by
 unfold ocV;rw[Rn,h];rfl
theorem Jd (h:Ev) (ds ss:List Int) (src:Nat) (n lo hi steps knot dist:Int) (dn:Bool) (w:World) (X:M4 w h ds ss) (P:UW ds ss src):
  Calls prog 163 #[EV h,ZI src,ZI n,ZI lo,ZI hi,.bool dn,ZI steps,ZI knot,ZI dist] w (RetFv (fanR ds ss src n dn) ds.length n lo hi steps knot dist w):=by
 have hl:h.D.n=ds.length:=X.d.len.symm
 have hl12:ds.length≤12:=by
  have h:=P.prof;unfold BI at h;simp only[CD,BP] at h;have:=Ac h.1;omega
 have HCL:=fun(W:World) (X:M4 W h ds ss)=>Rv h ds ss src n lo hi steps dn W X P;have HTG:=fun W=>PR h ds.length knot dist W hl hl12;have HBAD:=fun(c:Int) (w':World)=> @QE (fanR ds ss src n dn) ds.length n lo hi steps knot dist c w w';have HOK:=fun(w':World) (A:Option Addr) (m c:Nat) (L:List Int)=> @Ux (fanR ds ss src n dn) ds.length n lo hi steps knot dist w w' A m c L;have HB:=Ai HBAD;have HO:=Ai HOK;have HOC:=Ai (eF (fanR ds ss src n dn) ds.length n lo hi steps knot dist);have HOV:Hid (∀M,clM (fanR ds ss src n dn) lo steps.toNat (hi-lo).toNat=some M→ocV (fanR ds ss src n dn) n lo hi steps knot dist=M.map fun d=>vdV d.x d.y d.same d.lo d.hi knot dist):=fun M h=>eM h;have HML:Hid (∀M,clM (fanR ds ss src n dn) lo steps.toNat (hi-lo).toNat=some M→M.length=(hi-lo).toNat):=fun M h=>WJ h
 have HFB:Hid (clC (fanR ds ss src n dn) n lo hi steps=0→(hi-lo).toNat≤31):=fun h=>by
  rcases BA (Ds n lo hi) with o|o
  ·have:=Gf o;omega
  ·unfold clC at h;rw[AA o] at h;cases h
 unfold RetCl at HCL;generalize RetFv (fanR ds ss src n dn) ds.length n lo hi steps knot dist w=RET at*;generalize clC (fanR ds ss src n dn) n lo hi steps=cc at*;generalize ocC (fanR ds ss src n dn) ds.length n lo hi steps knot dist=oc at*;generalize clM (fanR ds ss src n dn) lo steps.toNat (hi-lo).toNat=MO at*;generalize ocV (fanR ds ss src n dn) n lo hi steps knot dist=VO at*;clear HBAD HOK hl hl12;have HX:=Ai X;clear X P;obtain⟨⟨A0,n0,c0⟩,⟨A1,n1,c1⟩⟩:=h;unfold EV at*;simp only at*;have b0:Below w w (w.alloc (.cells (CH A0 n0 c0 A1 n1 c1) 30)):=BU;have K:=Br w 30 (CH A0 n0 c0 A1 n1 c1);have X1:=HX.out.below b0
 go_enter func163,ntmps163
 go_upto_region 1 with fail
 generalize w.alloc _=w1 at*;have c:=K.cell
 go_wp2_with fail
 refine(HCL _ X1).mono ?_;clear HCL c X1;rcases hrc:(inR knot 0 ((ds.length:Int)-1) && inR dist 0 1000000000000) with _|_
 ·
  rw[hrc] at HTG HOC;rintro e w2 (⟨hc,rfl,b2⟩|⟨⟨CA,cn,cap⟩,M,hc,hM,rfl,hn,RC,b2⟩)
  ·replace b0:=An b0 b2;replace K:=K.below b2 K.lt
   by_cases h1:cc=1
   ·have HE:=Ai (HB.out 1 w2 (by rw[HOC.out,Ak (fun z=>z.1 h1)];exact h1) Ah b0)
    subst h1;clear HTG HOC HOV HML HFB HB HO K b2 hc hrc;go_wp2;exact HE.out
   ·have h1c:(cc !=1)=true:=by rw[bne_iff_ne];exact h1
    have HE:=fun(w3:World) (b:Below w w w3)=>Ai (HB.out 2 w3 (by rw[HOC.out,AA ⟨h1,rfl⟩]) Ah b)
    have c:=K.cell;clear HOC HOV HML HFB HB HO b2 hrc
    go_wp2_with fail
    refine(HTG _).mono ?_;rintro e w3 ⟨rfl,b3⟩;have HE3:=HE w3 (An b0 b3);clear HTG K c HE b0 b3;go_wp2;exact HE3.out
  ·subst hc;replace b0:=An b0 b2;replace K:=K.below b2 K.lt;have HE:=fun(w3:World) (b:Below w w w3)=>Ai (HB.out 2 w3 (by rw[HOC.out,AA ⟨by decide,rfl⟩]) Ah b)
   have c:=K.cell;clear HOC HOV HML HFB HB HO b2 hrc hM hn RC
   go_wp2_with fail
   refine(HTG _).mono ?_;rintro e w3 ⟨rfl,b3⟩;have HE3:=HE w3 (An b0 b3);clear HTG K c HE b0 b3;go_wp2;exact HE3.out
 ·rw[hrc] at HTG HOC;rintro e w2 (⟨hc,rfl,b2⟩|⟨⟨CA,cn,cap⟩,M,hc,hM,rfl,hn,RC,b2⟩)
  ·replace b0:=An b0 b2;replace K:=K.below b2 K.lt;have HE:=fun(w3:World) (b:Below w w w3)=>Ai (HB.out cc w3 (by rw[HOC.out,Ak (fun z=>by cases z.2)]) hc b)
   have hcb:(cc==0)=false:=by rw[Ea];exact hc
   have hcc:(cc !=0)=true:=by rw[bne_iff_ne];exact hc
   by_cases h1:cc=1
   ·have HE2:=HE w2 b0;subst h1;clear HTG HOC HOV HML HFB HB HO K b2 hc hrc HE;go_wp2;exact HE2.out
   ·have h1c:(cc !=1)=true:=by rw[bne_iff_ne];exact h1
    have c:=K.cell;clear HOC HOV HML HFB HB HO b2 hrc
    go_wp2_with fail
    refine(HTG _).mono ?_;rintro e w3 ⟨rfl,b3⟩;have HE3:=HE w3 (An b0 b3);clear HTG K c HE b0 b3;go_wp2;exact HE3.out
  ·have hcn:=HFB.out hc;subst hc;simp only at hn RC⊢;replace b0:=An b0 b2;replace K:=K.below b2 K.lt;have c:=K.cell;have HMN:Hid (M.length=cn):=(HML.out M hM).trans hn.symm;have hcn2:cn≤31:=Aa;have HE:Hid (∀(w3:World) (A:Option Addr) (cap:Nat),Rd w3 A cn (ints (M.map fun d=>vdV d.x d.y d.same d.lo d.hi knot dist))→Below w w w3→RET (.returned (.tuple (Gb A cn cap 0))) w3):=fun w3 A cap r b=>HO.out w3 A cn cap _ (by rw[HOC.out,Ak (fun z=>by cases z.2)]) hn (HOV.out M hM) r b
   clear HOC HOV HML HFB HB HO b2 hrc hM hn hcn
   go_wp2_with fail
   refine(HTG _).mono ?_;rintro e w3 ⟨rfl,b3⟩;replace b0:=An b0 b3;replace RC:=RC.below b3;clear HTG K c b3;have bz:Below w3 w3 (w3.alloc (.cells #[] 2)):=BU;replace b0:=An b0 bz;replace RC:=RC.below bz;clear bz
   go_upto_region 7 with fail
   generalize w3.alloc _=w4 at RC b0⊢;generalize(some (⟨w3,0,none⟩:Addr))=PZ
   go_wp2_with fail
   go_loopw [22,23] (fun v i wr=> ∃(k:Nat) (H:Hd),k≤cn∧i=.int .i64 k∧v=.slice H.A H.n H.c∧H.n=k∧AR wr w4.heap.size 1 H (ints ((M.take k).map fun d=>vdV d.x d.y d.same d.lo d.hi knot dist))∧Below w4 w4 wr) (fun _ i _=>cn-(intOf i).toNat)
   case atStart=>exact⟨0,⟨PZ,0,0⟩,AZ _,rfl,rfl,rfl,AR.empty _ _ _ _,AP _ _⟩
   case round=>
    obtain⟨k,⟨HA,hN,hC⟩,hk,rfl,rfl,hh,O,b⟩:=hrel;simp only at hh;subst hh
    by_cases hlt:hN<cn
    ·have hltI:(hN:Int)<(cn:Int):=Aa;have h63:hN+1≤1099511627776:=Aa;obtain⟨d,hd⟩: ∃d,M[hN]? =some d:=⟨_,Db (by rw[HMN.out];exact hlt)⟩
     obtain⟨ad,hA,d0,dI⟩:=(RC.below b).ce hlt hd;subst hA;have d1:=dI 1 Ah Ah;have d2:=dI 2 Ah Ah;have d3:=dI 3 Ah Ah;have d4:=dI 4 Ah Ah;have d5:=dI 5 Ah Ah;have d6:=dI 6 Ah Ah;have d7:=dI 7 Ah Ah;have d8:=dI 8 Ah Ah;have d9:=dI 9 Ah Ah;have d10:=dI 10 Ah Ah
     have HT:Hid (((M.take (hN+1)).map fun d=>vdV d.x d.y d.same d.lo d.hi knot dist)=((M.take hN).map fun d=>vdV d.x d.y d.same d.lo d.hi knot dist)++ [vdV d.x d.y d.same d.lo d.hi knot dist]):=by
      unfold Hid;rw[List.take_add_one,hd,List.map_append];rfl
     have HV:=fun W=>Oh d.x d.y d.same d.lo d.hi knot dist W;unfold aV at HV;unfold Y7 at d1 d2 d3 d4 d5 d6 d7 d8 d9 d10;simp only[List.getElem?_cons_succ,List.getElem?_cons_zero] at d1 d2 d3 d4 d5 d6 d7 d8 d9 d10;generalize vdV d.x d.y d.same d.lo d.hi knot dist=v at*;clear dI hd
     go_wp2_with fail
     refine(HV _).mono ?_;rintro e w5 ⟨rfl,b5⟩;have hz:=b.size;replace b:=b.trans (b5.mono hz);replace O:=O.below b5;have al:Below w5 w5 (w5.alloc (.cells #[ZI v] 2)):=BU;have R1:=BD w5 v 2;have O3:=O.below al;have b3:=An b al;have hz3:=b3.size;clear d0 d1 d2 d3 d4 d5 d6 d7 d8 d9 d10 b5 HV
     go_wp2_with (at_builtin;refine Aj rfl _ _ 28 rfl 2 1 8 underlying28 AJ Ah w4.heap.size ⟨HA,hN,hC⟩ _ rfl O3 _ 1 1 (ints [v]) rfl R1 (Ao _) h63 Ah hz3 ?_;intro G wg hn oG gg hat;have HNG:=Ai hn;clear hn)
     have b4:=b3.grown gg b3.size (fun q e=>by have:=(O3.rowlt q e).1;omega)
     go_roundw
     case rel=>exact⟨hN+1,G,by omega,by go_num,rfl,HNG.out,by rw[HT.out,B8];exact oG,b4⟩
     case measure=>simp[intOf];omega
    ·obtain rfl:cn=hN:=Aa;have hltI: ¬(cn:Int)<(cn:Int):=Aa;rw[show M.take cn=M from ED (by rw[HMN.out];omega)] at O
     have HE2:=Ai (HE.out wr HA hC O.rd1 (An b0 b));clear O HE b RC b0;go_wp2;exact HE2.out
theorem Lj (h:Ev) (ds ss:List Int) (src:Nat) (n lo hi steps knot dist:Int) (dn:Bool) (w:World) (X:M4 w h ds ss) (P:UW ds ss src):
  Calls prog 126 #[EV h,ZI src,ZI n,ZI lo,ZI hi,.bool dn,ZI steps,ZI knot,ZI dist] w (RetOc (fanR ds ss src n dn) ds.length n lo hi steps knot dist w):=by
 have HFV:=fun(W:World) (X:M4 W h ds ss)=>Jd h ds ss src n lo hi steps knot dist dn W X P;unfold RetFv at HFV;have HMK:=fun(c:Int) (L:List Int) (w':World) (A:Option Addr) (m d:Nat)=> @Uy (fanR ds ss src n dn) ds.length n lo hi steps knot dist c L w w' A m d;have HM:=Ai HMK;have HL0:Hid (ocC (fanR ds ss src n dn) ds.length n lo hi steps knot dist≠0→ocL (fanR ds ss src n dn) ds.length n lo hi steps knot dist= []):=fun hh=>Ak hh;have HL1:Hid (ocC (fanR ds ss src n dn) ds.length n lo hi steps knot dist=0→ocL (fanR ds ss src n dn) ds.length n lo hi steps knot dist=H4 lo (ocV (fanR ds ss src n dn) n lo hi steps knot dist) (hi-lo).toNat):=fun hh=>AA hh;have HFB:Hid (ocC (fanR ds ss src n dn) ds.length n lo hi steps knot dist=0→Ds n lo hi=true):=WX;generalize RetOc (fanR ds ss src n dn) ds.length n lo hi steps knot dist w=RET at*;generalize ocC (fanR ds ss src n dn) ds.length n lo hi steps knot dist=cd at*;generalize ocL (fanR ds ss src n dn) ds.length n lo hi steps knot dist=OL at*;generalize ocV (fanR ds ss src n dn) n lo hi steps knot dist=LV at*;clear HMK;have HX:=Ai X;clear X P;obtain⟨⟨A0,n0,c0⟩,⟨A1,n1,c1⟩⟩:=h;unfold EV at*;simp only at*;have b0:Below w w (w.alloc (.cells (CH A0 n0 c0 A1 n1 c1) 30)):=BU;have K:=Br w 30 (CH A0 n0 c0 A1 n1 c1);have X1:=HX.out.below b0
 go_enter func126,ntmps126
 go_upto_region 1 with fail
 generalize w.alloc _=w1 at*;have c:=K.cell
 go_wp2_with fail
 refine(HFV _ X1).mono ?_;clear HFV c K X1;rintro e w2 (⟨hc,rfl,b2⟩|⟨⟨VA,vn,vc⟩,hc,rfl,hn,RV,b2⟩)
 ·have b3:=An b0 b2;have HC:=Ai (HM.out cd [] w2 none 0 0 rfl (HL0.out hc) rfl (Rd.nil _ _) b3);have hcc:(cd !=0)=true:=by rw[bne_iff_ne];exact hc
  clear HM HL0 HL1 HFB b0 b2 b3 hc;go_wp2;exact HC.out
 ·simp only at hn RV⊢;have hfb:=Gf (HFB.out hc);have hbd:=fun k (hk:k≤vn)=> @Nh lo LV Aa Aa k Aa;have b3:=An b0 b2;have HL2:=Ai (HL1.out hc);rw[←hn] at HL2;have hvn:vn≤31:=Aa;have hlo:1≤lo∧lo≤31:=Aa;have HBD:=Ai hbd;subst hc;clear HL0 HL1 HFB b0 b2 hfb hn hbd;have bz:Below w2 w2 (w2.alloc (.cells #[] 2)):=BU;replace b3:=An b3 bz;replace RV:=RV.below bz;clear bz
  go_upto_region 5 with fail
  generalize w2.alloc _=w4 at RV b3⊢;generalize(some (⟨w2,0,none⟩:Addr))=PZ
  go_wp2_with fail
  go_loopw [22,23] (fun v i wr=> ∃(k:Nat) (H:Hd),k≤vn∧i=.int .i64 k∧v=.slice H.A H.n H.c∧H.n=(H4 lo LV k).length∧AR wr w4.heap.size 1 H (ints (H4 lo LV k))∧Below w4 w4 wr) (fun _ i _=>vn-(intOf i).toNat)
  case atStart=>exact⟨0,⟨PZ,0,0⟩,AZ _,rfl,rfl,rfl,AR.empty _ _ _ _,AP _ _⟩
  case round=>
   obtain⟨k,⟨HA,hN,hC⟩,hk,rfl,rfl,hh,O,b⟩:=hrel;simp only at hh;have HHN:=Ai hh;clear hh
   by_cases hlt:k<vn
   ·have hltI:(k:Int)<(vn:Int):=Aa;obtain⟨_,hA,hx⟩:=(RV.below b).int hlt;subst hA;have h63:hN+1≤1099511627776:=by have:=HHN.out;have:=(HBD.out k hk).1;omega
    have hz:=b.size;have HS:Hid (H4 lo LV (k+1)=if LV.getD k 0=0 then H4 lo LV k else H4 lo LV k++ [lo+(k:Int)]):=rfl;have u1:=Bg (lo+(k:Int));generalize LV.getD k 0=v at*
    by_cases hv:v=0
    ·subst hv;have HW:=Ai (HS.out.trans (AA rfl));go_wp2
     go_roundw
     case rel=>exact⟨k+1,⟨HA,hN,hC⟩,by omega,by go_num,rfl,by rw[HW.out];exact HHN.out,by rw[HW.out];exact O,b⟩
     case measure=>simp[intOf];omega
    ·have HW:=Ai (HS.out.trans (Ak hv));have hv2:(v !=0)=true:=by rw[bne_iff_ne];exact hv
     have R1:=BD wr (lo+(k:Int)) 2;have al:Below wr wr (wr.alloc (.cells #[ZI (lo+(k:Int))] 2)):=BU;have O1:=O.below al;have b4:=b.trans (al.mono hz);have hz4:=b4.size
     go_wp2_with (at_builtin;refine Aj rfl _ _ 28 rfl 2 1 8 underlying28 AJ Ah w4.heap.size ⟨HA,hN,hC⟩ _ rfl O1 _ 1 1 (ints [lo+(k:Int)]) rfl R1 (Ao _) h63 Ah hz4 ?_;intro G wg hn oG gg hat;have HNG:=Ai hn;clear hn)
     have b5:=b4.grown gg b4.size (fun q e=>by have:=(O1.rowlt q e).1;omega)
     go_roundw
     case rel=>exact⟨k+1,G,by omega,by go_num,rfl,by rw[HW.out,HNG.out,Dy,HHN.out];rfl,by rw[HW.out,B8];exact oG,b5⟩
     case measure=>simp[intOf];omega
   ·obtain rfl:vn=k:=Aa;have hltI: ¬(vn:Int)<(vn:Int):=Aa;have HC:=Ai (HM.out 0 _ wr HA hN hC rfl HL2.out HHN.out O.rd1 (An b3 b));clear HM HL2 O b;go_wp2;exact HC.out
end Go.Proofs.YtkndcebhjcfphaaGreatDoor
