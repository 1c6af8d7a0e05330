import Derived.Test.YtkndcebhjcfphaaGreatDoorZAc
import Derived.Test.YtkndcebhjcfphaaGreatDoorZYx4
namespace Go.Proofs.YtkndcebhjcfphaaGreatDoor
open Go.RowKit Go.Proofs.Tryz
set_option maxRecDepth 100000
set_option maxHeartbeats 4000000
set_option linter.all false
theorem J8 (w:World) (g:Nat) (b a1 a2 a3 a4 a5 a6 a7 c d a:Value):w.grownBy ((((((((((((w).setCell ⟨g,0,none⟩ b).setCell ⟨g,1,none⟩ a1).setCell ⟨g,2,none⟩ a2).setCell ⟨g,3,none⟩ a3).setCell ⟨g,4,none⟩ a4).setCell ⟨g,5,none⟩ a5).setCell ⟨g,6,none⟩ a6).setCell ⟨g,7,none⟩ a7).setCell ⟨g,8,none⟩ c).setCell ⟨g,9,none⟩ d).setCell ⟨g,10,none⟩ a) (some g):=by
 repeat(refine Bc ?_ (.inl rfl) _)
 exact JU _ _
theorem NW {w:World} {g:Nat} {t:TypeId} {u r q p n m l j i d b:Value} (a a1 a2 a3 a4 a5 a6 a7 f k c:Value) (K:Blk w g t #[u,r,q,p,n,m,l,j,i,d,b]):Blk ((((((((((((w).setCell ⟨g,0,none⟩ a).setCell ⟨g,1,none⟩ a1).setCell ⟨g,2,none⟩ a2).setCell ⟨g,3,none⟩ a3).setCell ⟨g,4,none⟩ a4).setCell ⟨g,5,none⟩ a5).setCell ⟨g,6,none⟩ a6).setCell ⟨g,7,none⟩ a7).setCell ⟨g,8,none⟩ f).setCell ⟨g,9,none⟩ k).setCell ⟨g,10,none⟩ c) g t #[a,a1,a2,a3,a4,a5,a6,a7,f,k,c]:=by
 have k0:Blk ((w).setCell ⟨g,0,none⟩ a) g t #[a,r,q,p,n,m,l,j,i,d,b]:=K.set_ 0 a;have s:Blk (((w).setCell ⟨g,0,none⟩ a).setCell ⟨g,1,none⟩ a1) g t #[a,a1,q,p,n,m,l,j,i,d,b]:=k0.set_ 1 a1;have k2:Blk ((((w).setCell ⟨g,0,none⟩ a).setCell ⟨g,1,none⟩ a1).setCell ⟨g,2,none⟩ a2) g t #[a,a1,a2,p,n,m,l,j,i,d,b]:=s.set_ 2 a2;have k3:Blk (((((w).setCell ⟨g,0,none⟩ a).setCell ⟨g,1,none⟩ a1).setCell ⟨g,2,none⟩ a2).setCell ⟨g,3,none⟩ a3) g t #[a,a1,a2,a3,n,m,l,j,i,d,b]:=k2.set_ 3 a3;have k4:Blk ((((((w).setCell ⟨g,0,none⟩ a).setCell ⟨g,1,none⟩ a1).setCell ⟨g,2,none⟩ a2).setCell ⟨g,3,none⟩ a3).setCell ⟨g,4,none⟩ a4) g t #[a,a1,a2,a3,a4,m,l,j,i,d,b]:=k3.set_ 4 a4;have k5:Blk (((((((w).setCell ⟨g,0,none⟩ a).setCell ⟨g,1,none⟩ a1).setCell ⟨g,2,none⟩ a2).setCell ⟨g,3,none⟩ a3).setCell ⟨g,4,none⟩ a4).setCell ⟨g,5,none⟩ a5) g t #[a,a1,a2,a3,a4,a5,l,j,i,d,b]:=k4.set_ 5 a5;have k6:Blk ((((((((w).setCell ⟨g,0,none⟩ a).setCell ⟨g,1,none⟩ a1).setCell ⟨g,2,none⟩ a2).setCell ⟨g,3,none⟩ a3).setCell ⟨g,4,none⟩ a4).setCell ⟨g,5,none⟩ a5).setCell ⟨g,6,none⟩ a6) g t #[a,a1,a2,a3,a4,a5,a6,j,i,d,b]:=k5.set_ 6 a6;have k7:Blk (((((((((w).setCell ⟨g,0,none⟩ a).setCell ⟨g,1,none⟩ a1).setCell ⟨g,2,none⟩ a2).setCell ⟨g,3,none⟩ a3).setCell ⟨g,4,none⟩ a4).setCell ⟨g,5,none⟩ a5).setCell ⟨g,6,none⟩ a6).setCell ⟨g,7,none⟩ a7) g t #[a,a1,a2,a3,a4,a5,a6,a7,i,d,b]:=k6.set_ 7 a7;have k8:Blk ((((((((((w).setCell ⟨g,0,none⟩ a).setCell ⟨g,1,none⟩ a1).setCell ⟨g,2,none⟩ a2).setCell ⟨g,3,none⟩ a3).setCell ⟨g,4,none⟩ a4).setCell ⟨g,5,none⟩ a5).setCell ⟨g,6,none⟩ a6).setCell ⟨g,7,none⟩ a7).setCell ⟨g,8,none⟩ f) g t #[a,a1,a2,a3,a4,a5,a6,a7,f,d,b]:=k7.set_ 8 f;have k9:Blk (((((((((((w).setCell ⟨g,0,none⟩ a).setCell ⟨g,1,none⟩ a1).setCell ⟨g,2,none⟩ a2).setCell ⟨g,3,none⟩ a3).setCell ⟨g,4,none⟩ a4).setCell ⟨g,5,none⟩ a5).setCell ⟨g,6,none⟩ a6).setCell ⟨g,7,none⟩ a7).setCell ⟨g,8,none⟩ f).setCell ⟨g,9,none⟩ k) g t #[a,a1,a2,a3,a4,a5,a6,a7,f,k,b]:=k8.set_ 9 k;have k10:Blk ((((((((((((w).setCell ⟨g,0,none⟩ a).setCell ⟨g,1,none⟩ a1).setCell ⟨g,2,none⟩ a2).setCell ⟨g,3,none⟩ a3).setCell ⟨g,4,none⟩ a4).setCell ⟨g,5,none⟩ a5).setCell ⟨g,6,none⟩ a6).setCell ⟨g,7,none⟩ a7).setCell ⟨g,8,none⟩ f).setCell ⟨g,9,none⟩ k).setCell ⟨g,10,none⟩ c) g t #[a,a1,a2,a3,a4,a5,a6,a7,f,k,c]:=k9.set_ 10 c;exact k10
theorem Rv (h:Ev) (t u:List Int) (g:Nat) (n lo hi f:Int) (dn:Bool) (w:World) (X:M4 w h t u) (P:UW t u g):
  Calls prog 206 #[EV h,ZI g,ZI n,ZI lo,ZI hi,.bool dn,ZI f] w (RetCl (fanR t u g n dn) n lo hi f w):=by
 have hl:h.D.n=t.length:=X.d.len.symm;have a3:h.S.n=u.length:=X.s.len.symm
 have bq:t.length<=12∧u.length=t.length:=by
  have h:=P.prof;unfold BI at h;simp only[CD,BP] at h;have:=Ac h.1;omega
 have aO:=λ(W:World) (X:M4 W h t u)=>Cv h.D.A h.S.A h.D.n h.S.n h.D.c h.S.c t u W Aa Aa X.d X.s;rw[hl,a3,P.prof,<-hl,<-a3] at aO;have bf:=λW=>P8 n lo hi W;have aN:=λ(c s hh:Int) (W:World) (X:M4 W h t u) (hd:DO c s hh=true)=>TH h t u g c s hh f W X P hd;have ai:=λ(r q:Al) (k:Nat) (W:World) (X:DR W h r) (hk:k<=100) (N:YJ r q) (e1:q.ss=r.ss) (e2:q.src=r.src)=>Rw h r q k W X hk N e1 e2;have aF:=λ(c:Int) (L:World)=> @Yc (fanR t u g n dn) n lo hi f c w L;have bi:=λ(L:World) (A:Option Addr) (m c:Nat) (M:List SC)=> @ah (fanR t u g n dn) n lo hi f w L A m c M;have HB:=Ai aF;have HO:=Ai bi;have z:Hid (clC (fanR t u g n dn) n lo hi f=if Ds n lo hi=false then 1 else if inR f 0 100=false then 2 else match clM (fanR t u g n dn) lo f.toNat (hi-lo).toNat with|none=>3|some _=>0):=rfl
 generalize RetCl (fanR t u g n dn) n lo hi f w=cn at*;clear aF bi hl a3 bq;have HX:=Ai X;have HP:=Ai P;clear X P;obtain⟨⟨A0,n0,c0⟩,⟨A1,n1,c1⟩⟩:=h;unfold EV at*;simp only at*;have b0:Below w w (w.alloc (.cells (CH A0 n0 c0 A1 n1 c1) 30)):=BU;have K:=Br w 30 (CH A0 n0 c0 A1 n1 c1);have X1:=HX.out.below b0
 go_enter func206,ntmps206
 go_upto_region 1 with fail
 generalize w.alloc _=w1 at*;have c:=K.cell
 go_wp2_with fail
 refine(aO _ X1).mono ?_;rintro e w2 ⟨rfl,V⟩;clear aO c;replace b0:=An b0 V;replace X1:=X1.below V;replace K:=K.below V K.lt
 go_wp2_with fail
 refine(bf _).mono ?_;clear bf;rcases jt (Ds n lo hi) with hf|hf
 rotate_left
 ·rw[hf];rintro e L ⟨rfl,rfl⟩;have HC:=Ai (HB.out 1 w2 (z.out.trans (AA hf)) Ah b0);clear K X1 aN ai HB HO z V b0 hf;go_wp2;exact HC.out
 rw[hf];rintro e L ⟨rfl,rfl⟩;rw[Ak (by rw[hf];decide)] at z
 have bT:=Gf hf;have aA:=λW=>Vu n lo hi dn W hf;have bg:=λ(m:Int) (h1:lo<=m) (h2:m<=hi)=>J7 hf h1 h2;have aP:=Ai bg;obtain⟨N,hN⟩: ∃N,(hi-lo).toNat=N:=⟨_,rfl⟩;have a1:Hid (hi=lo+(N:Int)):=by unfold Hid;omega
 have cs:N<=30:=Aa;rw[hN] at z HO;have aQ:=Ai HO.out;unfold Nz at aA;rw[hN] at aA;clear hN hf bg HO bT V
 go_wp2_with fail
 refine(aA _).mono ?_;rintro e w4 ⟨FA,fc,rfl,RF,b4⟩;clear aA;replace b0:=An b0 b4;replace X1:=X1.below b4;replace K:=K.below b4 K.lt;clear b4;obtain⟨j,aU,E,F,I⟩:=RF.three (show 0<N+1 by omega)
 subst aU;have e1:=LI n dn lo (show 0<N+1 by omega)
 rw[show lo+((0:Nat):Int)=lo by omega] at e1
 rw[e1.1] at E;rw[e1.2.1] at F;rw[e1.2.2] at I;rw[Nat.zero_mul,Gu] at E F I;have bs:=aP.out lo Aa (by have:=a1.out;omega)
 have aJ:=Ug bs dn;have cr:(0:Int)<(N:Int)+1:=Aa;have eP:=K.cell
 go_upto_region 4 with fail
 go_still_tail 9,We51ceQ
 have K2:=Blk.drew K;have J:=RF.below GJ;have X2:=X1.below GJ;have V:=CO b0;change wpList _ _ _ _ _ w4.drew;generalize w4.drew=w5 at K2 J X2 V⊢;clear eP E F I K RF X1 b0 e1;have aG:=aN _ _ _ w5 X2 aJ;clear aN bs aJ
 go_wp2_with fail
 with_reducible refine aG.mono ?_
 clear aG;rcases jt (inR f 0 100) with hst|hst
 rotate_left
 ·rw[AA hst];rintro e w6 ⟨rfl,Y⟩;have HC:=Ai (HB.out 2 w6 (z.out.trans (AA hst)) Ah (An V Y));clear K2 J X2 ai HB aQ z Y V hst;go_wp2;exact HC.out
 rw[Ak (by rw[hst];decide)]
 rw[Ak (by rw[hst];decide)] at z
 obtain⟨st,hs⟩: ∃s:Nat,f=(s:Int):=⟨f.toNat,by have:=Ac hst;omega⟩
 have aE:st<=100:=by have:=Ac hst;omega
 have an:f.toNat=st:=Aa;rw[an] at z;have aR:=aQ.out;rw[an] at aR;have aS:=Ai aR;have bG:=Ai hs;clear hst hs an aR aQ;rintro e w6 ⟨rfl,Y⟩;replace V:=An V Y;replace K2:=K2.below Y K2.lt;replace J:=J.below Y;replace X2:=X2.below Y;clear Y;have bz:Below w6 w6 (w6.alloc (.cells #[] 203)):=BU;replace V:=An V bz;replace K2:=K2.below bz K2.lt;replace J:=J.below bz;replace X2:=X2.below bz;clear bz
 go_upto_region 8 with fail
 generalize w6.alloc _=w7 at K2 J X2 V⊢;generalize(some (⟨w6,0,none⟩:Addr))=PZ;have bR:j.block<w7.heap.size:=J.lt rfl Aa;have bP:w<w7.heap.size:=K2.lt;obtain⟨B1,aI⟩: ∃B,w7.heap.size=B:=⟨_,rfl⟩;have ae:B1<=w7.heap.size:=Aa;rw[aI] at bR bP;clear aI
 go_wp2_with fail
 go_loopw [18,19] (λv i wr=> ∃(k:Nat) (H:Hd),k<=N∧i=.int .i64 (k:Int)∧v=.slice H.A H.n H.c∧H.n=k∧(∃M:List SC,clM (fanR t u g n dn) lo st k=some M∧AR wr B1 11 H (Py M))∧B1<=wr.heap.size∧Blk wr w.heap.size 30 (CH A0 n0 c0 A1 n1 c1)∧Rd wr (some j) ((N+1)*3) (ints (fdL n dn lo (N+1)))∧M4 wr ⟨⟨A0,n0,c0⟩,⟨A1,n1,c1⟩⟩ t u∧Below w w wr) (λ_ i _=>N-(intOf i).toNat)
 case atStart=>exact⟨0,⟨PZ,0,0⟩,AZ _,rfl,rfl,rfl,⟨[],rfl,AR.empty _ _ _ _⟩,ae,K2,J,X2,V⟩
 case round=>
  clear K2 J X2 V ae;obtain⟨k,⟨HA,a0,hC⟩,hk,rfl,rfl,hh,⟨M,hM,O⟩,ae,K,RF,X,b⟩:=hrel;simp only at hh;have u2:=Bg ((k:Int)+1)
  by_cases cv:k<N
  ·have br:(k:Int)+1<(N:Int)+1:=Aa;have bW:(k:Int)<(N:Int)+1:=Aa;have ak:k<N+1:=Aa;have am:k+1<N+1:=Aa;have bN:a0+1<=1048576:=Aa;have bE:=Ai hh;clear hh;obtain⟨_,aU,E,F,I⟩:=RF.three ak;obtain⟨_,bO,Z,aa,ab⟩:=RF.three am
   cases aU
   cases bO
   have e1:=LI n dn lo ak;have e2:=LI n dn lo am;rw[show lo+((k+1:Nat):Int)=lo+(k:Int)+1 by omega] at e2
   rw[e1.1] at E;rw[e1.2.1] at F;rw[e1.2.2] at I;rw[e2.1] at Z;rw[e2.2.1] at aa;rw[e2.2.2] at ab;have m1:=aP.out (lo+(k:Int)) Aa (by have:=a1.out;omega)
   have m2:=aP.out (lo+(k:Int)+1) Aa (by have:=a1.out;omega)
   have bh:=Ai (dL HP.out.prof HP.out.src dn m1 m2);have C:=λ(W:World) (c:Below wr wr W)=>ai (fanR t u g n dn (lo+(k:Int))) (fanR t u g n dn (lo+(k:Int)+1)) st W ((X.below c).ray g n dn _) aE bh.out rfl rfl;rw[bM,<-bG.out] at C;unfold GU fanR at C;simp only at C;have T:Hid (clM (fanR t u g n dn) lo st (k+1)=match clM (fanR t u g n dn) lo st k with|none=>none|some M=>match ceD (fanR t u g n dn (lo+(k:Int))) (fanR t u g n dn (lo+(k:Int)+1)) st with|none=>none|some d=>some (M++ [d])):=rfl
   rw[hM] at T;simp only at T;have q1:((k:Int)+1).toNat=k+1:=Aa;have q3:(0:Int)<=(k:Int)+1:=Aa;have u3:=Bg (k:Int);have aj:=RF.lt rfl Aa;have Q:(j.add (k*3)).block<wr.heap.size:=by rw[Aq];exact aj
   have R:(j.add ((k+1)*3)).block<wr.heap.size:=by rw[Aq];exact aj
   have gP:=K.lt;have eP:(∀o,wr.cell? ⟨w,o,none⟩=((CH A0 n0 c0 A1 n1 c1):Array Value)[o]?):=K.cell;have ac:=Br wr 203 Di;clear hM e1 e2 m1 m2 bh
   go_upto_region 11 with fail
   have az:Hid (∀x,ceD (fanR t u g n dn (lo+(k:Int))) (fanR t u g n dn (lo+(k:Int)+1)) st=x->ceD ⟨t,u,g,mkC (lo+(k:Int)) n,mkS (lo+(k:Int)) n dn,mkH (lo+(k:Int)) n⟩ ⟨t,u,g,mkC (lo+(k:Int)+1) n,mkS (lo+(k:Int)+1) n dn,mkH (lo+(k:Int)+1) n⟩ st=x):=λ_ h=>h;rcases hce:ceD (fanR t u g n dn (lo+(k:Int))) (fanR t u g n dn (lo+(k:Int)+1)) st with _|d
   ·rw[az.out _ hce] at C;simp only at C;rw[hce] at T;simp only at T;clear hce az
    go_cut [20,21] (λa4 a5 wx=> ∃gd:Nat,a4=.pointer (some ⟨gd,0,none⟩)∧a5=.int .i64 3∧Blk wx gd 203 Di∧wr.heap.size<=gd∧Below wr wr wx)
    case first=>
     go_region_held3 (λL=>(∀o,L.cell? ⟨w,o,none⟩=((CH A0 n0 c0 A1 n1 c1):Array Value)[o]?)∧L.cell? (j.add (k*3))=some (.int .i64 (mkC (lo+(k:Int)) n))∧L.cell? ⟨(j.add (k*3)).block,(j.add (k*3)).off+1,none⟩=some (.int .i64 (mkS (lo+(k:Int)) n dn))∧L.cell? ⟨(j.add (k*3)).block,(j.add (k*3)).off+2,none⟩=some (.int .i64 (mkH (lo+(k:Int)) n))∧L.cell? (j.add ((k+1)*3))=some (.int .i64 (mkC (lo+(k:Int)+1) n))∧L.cell? ⟨(j.add ((k+1)*3)).block,(j.add ((k+1)*3)).off+1,none⟩=some (.int .i64 (mkS (lo+(k:Int)+1) n dn))∧L.cell? ⟨(j.add ((k+1)*3)).block,(j.add ((k+1)*3)).off+2,none⟩=some (.int .i64 (mkH (lo+(k:Int)+1) n)))
      (first|(with_reducible exact⟨eP,E,F,I,Z,aa,ab⟩)|(with_reducible exact⟨zP,a7,a8,a9,ba,bb,bc⟩)|((with_reducible refine⟨?_,?_,?_,?_,?_,?_,?_⟩)<;>(first|(with_reducible assumption)|((with_reducible refine AC ?_);(with_reducible assumption))|((repeat(first|(with_reducible refine G7 ?_)|(with_reducible refine AC ?_)|(with_reducible refine Fg ?_ (by first|(with_reducible assumption)|omega|(simp only;omega)) _)|(with_reducible refine AK ?_ (by first|(with_reducible assumption)|omega|(simp;done)|(simp;omega)) _)|(with_reducible refine GM ?_ (by first|omega|(simp only;omega)))|(with_reducible refine Bl ?_ (by omega))));(with_reducible assumption)))))
      (first|(go_at_call 265;(with_reducible refine(C _ Ax).mono ?_);rintro e u0 ⟨rfl,Y⟩;have l:Below wr wr u0:=(show Below wr wr _ from Ax).trans (Y.mono C9);(first|(with_reducible have U:=(Blk.drew ac).belowR Y;have cY:=U.cell;have fY:=U.frozen;have lY:=U.lt)|(with_reducible have U:=ac.belowR Y;have cY:=U.cell;have fY:=U.frozen;have lY:=U.lt)|skip);have zP:(∀o,u0.cell? ⟨w,o,none⟩=((CH A0 n0 c0 A1 n1 c1):Array Value)[o]?):=λo=>(K.below l K.lt).cell o;have a7:=(l.cell (p:=j.add (k*3)) Q).trans E;have a8:=(l.cell (p:=⟨(j.add (k*3)).block,(j.add (k*3)).off+1,none⟩) Q).trans F;have a9:=(l.cell (p:=⟨(j.add (k*3)).block,(j.add (k*3)).off+2,none⟩) Q).trans I;have ba:=(l.cell (p:=j.add ((k+1)*3)) R).trans Z;have bb:=(l.cell (p:=⟨(j.add ((k+1)*3)).block,(j.add ((k+1)*3)).off+1,none⟩) R).trans aa;have bc:=(l.cell (p:=⟨(j.add ((k+1)*3)).block,(j.add ((k+1)*3)).off+2,none⟩) R).trans ab;have bL:=CM K.lt l.size;have bn:=CM Q l.size;have bo:=CM R l.size;have bX:=l.size))
     ·go_wp2_with fail
      go_meet
      exact⟨u0.heap.size,rfl,rfl,Br u0 _ _,l.size,l.alloc l.size _⟩
     ·go_wp2_with fail
      go_meet
      exact⟨wr.heap.size,rfl,rfl,NW (ZI 0) (.bool false) (ZI 0) (ZI 0) (ZI 0) (.bool false) (ZI 0) (ZI 0) (.bool false) (ZI 0) (ZI 0) U,Cp _,l.grown (J8 u0 wr.heap.size (ZI 0) (.bool false) (ZI 0) (ZI 0) (ZI 0) (.bool false) (ZI 0) (ZI 0) (.bool false) (ZI 0) (ZI 0)) l.size (λq e=>by cases e;exact Cp _)⟩
    case rest=>
     obtain⟨gd,rfl,rfl,KD,bU,bw⟩:=hcut;obtain⟨w9,rfl⟩: ∃q:World,q=wc:=⟨_,rfl⟩;have HC:=Ai (HB.out 3 w9 (z.out.trans (by rw[Ze T.out N Aa])) Ah (An b bw))
     clear K O RF X b bw HB aS z ai eP gP E F I Z aa ab C ac;go_wp2;exact HC.out
   ·rw[az.out _ hce] at C;simp only at C;unfold aV at C;rw[hce] at T;simp only at T;clear hce az
    go_cut [20,21] (λa4 a5 wx=> ∃gd:Nat,a4=.pointer (some ⟨gd,0,none⟩)∧a5=.int .i64 0∧Blk wx gd 203 (Az d.x.k d.x.dn d.x.lo d.x.hi d.y.k d.y.dn d.y.lo d.y.hi d.same d.lo d.hi)∧wr.heap.size<=gd∧Below wr wr wx)
    case first=>
     go_region_held3 (λL=>(∀o,L.cell? ⟨w,o,none⟩=((CH A0 n0 c0 A1 n1 c1):Array Value)[o]?)∧L.cell? (j.add (k*3))=some (.int .i64 (mkC (lo+(k:Int)) n))∧L.cell? ⟨(j.add (k*3)).block,(j.add (k*3)).off+1,none⟩=some (.int .i64 (mkS (lo+(k:Int)) n dn))∧L.cell? ⟨(j.add (k*3)).block,(j.add (k*3)).off+2,none⟩=some (.int .i64 (mkH (lo+(k:Int)) n))∧L.cell? (j.add ((k+1)*3))=some (.int .i64 (mkC (lo+(k:Int)+1) n))∧L.cell? ⟨(j.add ((k+1)*3)).block,(j.add ((k+1)*3)).off+1,none⟩=some (.int .i64 (mkS (lo+(k:Int)+1) n dn))∧L.cell? ⟨(j.add ((k+1)*3)).block,(j.add ((k+1)*3)).off+2,none⟩=some (.int .i64 (mkH (lo+(k:Int)+1) n)))
      (first|(with_reducible exact⟨eP,E,F,I,Z,aa,ab⟩)|(with_reducible exact⟨zP,a7,a8,a9,ba,bb,bc⟩)|((with_reducible refine⟨?_,?_,?_,?_,?_,?_,?_⟩)<;>(first|(with_reducible assumption)|((with_reducible refine AC ?_);(with_reducible assumption))|((repeat(first|(with_reducible refine G7 ?_)|(with_reducible refine AC ?_)|(with_reducible refine Fg ?_ (by first|(with_reducible assumption)|omega|(simp only;omega)) _)|(with_reducible refine AK ?_ (by first|(with_reducible assumption)|omega|(simp;done)|(simp;omega)) _)|(with_reducible refine GM ?_ (by first|omega|(simp only;omega)))|(with_reducible refine Bl ?_ (by omega))));(with_reducible assumption)))))
      (first|(go_at_call 265;(with_reducible refine(C _ Ax).mono ?_);rintro e u0 ⟨rfl,Y⟩;have l:Below wr wr u0:=(show Below wr wr _ from Ax).trans (Y.mono C9);(first|(with_reducible have U:=(Blk.drew ac).belowR Y;have cY:=U.cell;have fY:=U.frozen;have lY:=U.lt)|(with_reducible have U:=ac.belowR Y;have cY:=U.cell;have fY:=U.frozen;have lY:=U.lt)|skip);have zP:(∀o,u0.cell? ⟨w,o,none⟩=((CH A0 n0 c0 A1 n1 c1):Array Value)[o]?):=λo=>(K.below l K.lt).cell o;have a7:=(l.cell (p:=j.add (k*3)) Q).trans E;have a8:=(l.cell (p:=⟨(j.add (k*3)).block,(j.add (k*3)).off+1,none⟩) Q).trans F;have a9:=(l.cell (p:=⟨(j.add (k*3)).block,(j.add (k*3)).off+2,none⟩) Q).trans I;have ba:=(l.cell (p:=j.add ((k+1)*3)) R).trans Z;have bb:=(l.cell (p:=⟨(j.add ((k+1)*3)).block,(j.add ((k+1)*3)).off+1,none⟩) R).trans aa;have bc:=(l.cell (p:=⟨(j.add ((k+1)*3)).block,(j.add ((k+1)*3)).off+2,none⟩) R).trans ab;have bL:=CM K.lt l.size;have bn:=CM Q l.size;have bo:=CM R l.size;have bX:=l.size))
     ·go_wp2_with fail
      go_meet
      exact⟨u0.heap.size,rfl,rfl,Br u0 _ _,l.size,l.alloc l.size _⟩
     ·go_wp2_with fail
      go_meet
      exact⟨wr.heap.size,rfl,rfl,NW (ZI d.x.k) (.bool d.x.dn) (ZI d.x.lo) (ZI d.x.hi) (ZI d.y.k) (.bool d.y.dn) (ZI d.y.lo) (ZI d.y.hi) (.bool d.same) (ZI d.lo) (ZI d.hi) U,Cp _,l.grown (J8 u0 wr.heap.size (ZI d.x.k) (.bool d.x.dn) (ZI d.x.lo) (ZI d.x.hi) (ZI d.y.k) (.bool d.y.dn) (ZI d.y.lo) (ZI d.y.hi) (.bool d.same) (ZI d.lo) (ZI d.hi)) l.size (λq e=>by cases e;exact Cp _)⟩
    case rest=>
     obtain⟨gd,rfl,rfl,KD,bU,bw⟩:=hcut;obtain⟨w9,rfl⟩: ∃q:World,q=wc:=⟨_,rfl⟩;clear eP gP E F I Z aa ab C ac Q R aj;replace K:=K.below bw K.lt;replace O:=O.below bw;replace RF:=RF.below bw;replace b:=An b bw;replace ae:=Ch ae bw.size;clear bw X;have eD:=KD.cell;have al:Below w9 w9 (w9.alloc (.cells (Az d.x.k d.x.dn d.x.lo d.x.hi d.y.k d.y.dn d.y.lo d.y.hi d.same d.lo d.hi) 203)):=BU;have R1:=fL w9 d 203;have K3:=K.below al K.lt;have O3:=O.below al;have bH:=RF.below al;have b3:=An b al;have bx:=Ch ae al.size
     go_wp2_with (at_builtin;refine JQ rfl _ _ 197 rfl 203 11 88 underlying197 YI Ah B1 ⟨HA,a0,hC⟩ _ rfl O3 _ 1 1 (Y7 d) rfl R1 (VP d) bN Ah bx ?_;intro G wg hn oG gg ct;have bF:=Ai hn;clear hn)
     have a2:=O3.rowlt;have K4:=K3.grown gg (λe=>by have:=(a2 _ e).1;omega)
     have b4:=b3.grown gg b3.size (λq e=>by have:=(a2 q e).1;omega)
     have X4:M4 wg ⟨⟨A0,n0,c0⟩,⟨A1,n1,c1⟩⟩ t u:=HX.out.below b4;have bI:=bH.grown gg (λa e _ c=>by have:=(a2 _ c).1;cases e;omega)
     have bQ:=Ch bx gg.size
     go_roundw
     case rel=>exact⟨k+1,G,by omega,by first|rfl|(congr 1;omega)|go_num,rfl,by rw[bF.out,bE.out],⟨M++ [d],T.out,by rw[Y8];exact oG⟩,bQ,K4,bI,X4,b4⟩
     case measure=>simp[intOf];omega
  ·obtain rfl:N=k:=Aa;have br: ¬(N:Int)+1<(N:Int)+1:=Aa;have HC:=Ai (aS.out wr HA a0 hC M (z.out.trans (by rw[hM])) hM hh O.rd b)
   clear hM O HB aS z ai K RF X b hh;go_wp2;exact HC.out
theorem eF (ρ:Int->Al) (j:Nat) (n lo hi a d b:Int):
  ocC ρ j n lo hi a d b=if clC ρ n lo hi a≠1∧(inR d 0 ((j:Int)-1) && inR b 0 1000000000000)=false then 2 else clC ρ n lo hi a:=by
 unfold ocC clC
 by_cases f:Ds n lo hi=false
 ·rw[AA f,AA f,Ak Cr]
 ·rw[Ak f,Ak f]
  by_cases i:inR a 0 100=false
  ·rw[AA i,AA i]
   split<;>rfl
  ·rw[Ak i,Ak i,Rn]
   by_cases g:(inR d 0 ((j:Int)-1) && inR b 0 1000000000000)=false
   ·rw[AA g,AA ⟨by split<;>simp,g⟩]
   ·rw[Ak g,Ak (λc=>g c.2)]
    cases clM ρ lo a.toNat (hi-lo).toNat<;>rfl
theorem eM {ρ:Int->Al} {n lo hi a c b:Int} {M:List SC} (h:clM ρ lo a.toNat (hi-lo).toNat=some M):ocV ρ n lo hi a c b=M.map λd=>vdV d.x d.y d.same d.lo d.hi c b:=by
 unfold ocV;rw[Rn,h];rfl
theorem Jd (h:Ev) (p C:List Int) (j:Nat) (n lo hi a g f:Int) (dn:Bool) (w:World) (X:M4 w h p C) (P:UW p C j):
  Calls prog 163 #[EV h,ZI j,ZI n,ZI lo,ZI hi,.bool dn,ZI a,ZI g,ZI f] w (RetFv (fanR p C j n dn) p.length n lo hi a g f w):=by
 have hl:h.D.n=p.length:=X.d.len.symm
 have ae:p.length<=12:=by
  have h:=P.prof;unfold BI at h;simp only[CD,BP] at h;have:=Ac h.1;omega
 have af:=λ(W:World) (X:M4 W h p C)=>Rv h p C j n lo hi a dn W X P;have t:=λW=>PR h p.length g f W hl ae;have ab:=λ(c:Int) (w':World)=> @QE (fanR p C j n dn) p.length n lo hi a g f c w w';have am:=λ(w':World) (A:Option Addr) (m c:Nat) (L:List Int)=> @Ux (fanR p C j n dn) p.length n lo hi a g f w w' A m c L;have V:=Ai ab;have HO:=Ai am;have l:=Ai (eF (fanR p C j n dn) p.length n lo hi a g f);have N:Hid (∀M,clM (fanR p C j n dn) lo a.toNat (hi-lo).toNat=some M->ocV (fanR p C j n dn) n lo hi a g f=M.map λd=>vdV d.x d.y d.same d.lo d.hi g f):=λM h=>eM h;have J:Hid (∀M,clM (fanR p C j n dn) lo a.toNat (hi-lo).toNat=some M->M.length=(hi-lo).toNat):=λM h=>WJ h
 have I:Hid (clC (fanR p C j n dn) n lo hi a=0->(hi-lo).toNat<=31):=λh=>by
  rcases jt (Ds n lo hi) with o|o
  ·have:=Gf o;omega
  ·unfold clC at h;rw[AA o] at h;cases h
 unfold RetCl at af;generalize RetFv (fanR p C j n dn) p.length n lo hi a g f w=av at*;generalize clC (fanR p C j n dn) n lo hi a=cc at*;generalize ocC (fanR p C j n dn) p.length n lo hi a g f=oc at*;generalize clM (fanR p C j n dn) lo a.toNat (hi-lo).toNat=MO at*;generalize ocV (fanR p C j n dn) n lo hi a g f=VO at*;clear ab am hl ae;have HX:=Ai X;clear X P;obtain⟨⟨A0,n0,c0⟩,⟨A1,n1,c1⟩⟩:=h;unfold EV at*;simp only at*;have u:Below w w (w.alloc (.cells (CH A0 n0 c0 A1 n1 c1) 30)):=BU;have K:=Br w 30 (CH A0 n0 c0 A1 n1 c1);have X1:=HX.out.below u
 go_enter func163,ntmps163
 go_upto_region 1 with fail
 generalize w.alloc _=w1 at*;have c:=K.cell
 go_wp2_with fail
 refine(af _ X1).mono ?_;clear af c X1;rcases hrc:(inR g 0 ((p.length:Int)-1) && inR f 0 1000000000000) with _|_
 ·
  rw[hrc] at t l;rintro e w2 (⟨U,rfl,B⟩|⟨⟨CA,Q,S⟩,M,U,hM,rfl,hn,Y,B⟩)
  ·replace u:=An u B;replace K:=K.below B K.lt
   by_cases h1:cc=1
   ·have F:=Ai (V.out 1 w2 (by rw[l.out,Ak (λz=>z.1 h1)];exact h1) Ah u)
    subst h1;clear t l N J I V HO K B U hrc;go_wp2;exact F.out
   ·have aH:(cc !=1)=true:=by rw[bne_iff_ne];exact h1
    have F:=λ(s:World) (b:Below w w s)=>Ai (V.out 2 s (by rw[l.out,AA ⟨h1,rfl⟩]) Ah b)
    have c:=K.cell;clear l N J I V HO B hrc
    go_wp2_with fail
    refine(t _).mono ?_;rintro e s ⟨rfl,E⟩;have R:=F s (An u E);clear t K c F u E;go_wp2;exact R.out
  ·subst U;replace u:=An u B;replace K:=K.below B K.lt;have F:=λ(s:World) (b:Below w w s)=>Ai (V.out 2 s (by rw[l.out,AA ⟨by decide,rfl⟩]) Ah b)
   have c:=K.cell;clear l N J I V HO B hrc hM hn Y
   go_wp2_with fail
   refine(t _).mono ?_;rintro e s ⟨rfl,E⟩;have R:=F s (An u E);clear t K c F u E;go_wp2;exact R.out
 ·rw[hrc] at t l;rintro e w2 (⟨U,rfl,B⟩|⟨⟨CA,Q,S⟩,M,U,hM,rfl,hn,Y,B⟩)
  ·replace u:=An u B;replace K:=K.below B K.lt;have F:=λ(s:World) (b:Below w w s)=>Ai (V.out cc s (by rw[l.out,Ak (λz=>by cases z.2)]) U b)
   have hcb:(cc==0)=false:=by rw[Ea];exact U
   have bg:(cc !=0)=true:=by rw[bne_iff_ne];exact U
   by_cases h1:cc=1
   ·have ag:=F w2 u;subst h1;clear t l N J I V HO K B U hrc F;go_wp2;exact ag.out
   ·have aH:(cc !=1)=true:=by rw[bne_iff_ne];exact h1
    have c:=K.cell;clear l N J I V HO B hrc
    go_wp2_with fail
    refine(t _).mono ?_;rintro e s ⟨rfl,E⟩;have R:=F s (An u E);clear t K c F u E;go_wp2;exact R.out
  ·have aJ:=I.out U;subst U;simp only at hn Y⊢;replace u:=An u B;replace K:=K.below B K.lt;have c:=K.cell;have ak:Hid (M.length=Q):=(J.out M hM).trans hn.symm;have a1:Q<=31:=Aa;have F:Hid (∀(s:World) (A:Option Addr) (S:Nat),Rd s A Q (ints (M.map λd=>vdV d.x d.y d.same d.lo d.hi g f))->Below w w s->av (.returned (.tuple (Gb A Q S 0))) s):=λs A S r b=>HO.out s A Q S _ (by rw[l.out,Ak (λz=>by cases z.2)]) hn (N.out M hM) r b
   clear l N J I V HO B hrc hM hn aJ
   go_wp2_with fail
   refine(t _).mono ?_;rintro e s ⟨rfl,E⟩;replace u:=An u E;replace Y:=Y.below E;clear t K c E;have bz:Below s s (s.alloc (.cells #[] 2)):=BU;replace u:=An u bz;replace Y:=Y.below bz;clear bz
   go_upto_region 7 with fail
   generalize s.alloc _=w4 at Y u⊢;generalize(some (⟨s,0,none⟩:Addr))=PZ
   go_wp2_with fail
   go_loopw [22,23] (λv i wr=> ∃(k:Nat) (H:Hd),k<=Q∧i=.int .i64 k∧v=.slice H.A H.n H.c∧H.n=k∧AR wr w4.heap.size 1 H (ints ((M.take k).map λd=>vdV d.x d.y d.same d.lo d.hi g f))∧Below w4 w4 wr) (λ_ i _=>Q-(intOf i).toNat)
   case atStart=>exact⟨0,⟨PZ,0,0⟩,AZ _,rfl,rfl,rfl,AR.empty _ _ _ _,AP _ _⟩
   case round=>
    obtain⟨k,⟨HA,Z,hC⟩,hk,rfl,rfl,hh,O,b⟩:=hrel;simp only at hh;subst hh
    by_cases ao:Z<Q
    ·have ap:(Z:Int)<(Q:Int):=Aa;have aI:Z+1<=1099511627776:=Aa;obtain⟨d,hd⟩: ∃d,M[Z]? =some d:=⟨_,Db (by rw[ak.out];exact ao)⟩
     obtain⟨ad,hA,d0,T⟩:=(Y.below b).ce ao hd;subst hA;have d1:=T 1 Ah Ah;have d2:=T 2 Ah Ah;have d3:=T 3 Ah Ah;have d4:=T 4 Ah Ah;have d5:=T 5 Ah Ah;have d6:=T 6 Ah Ah;have d7:=T 7 Ah Ah;have d8:=T 8 Ah Ah;have d9:=T 9 Ah Ah;have aj:=T 10 Ah Ah
     have HT:Hid (((M.take (Z+1)).map λd=>vdV d.x d.y d.same d.lo d.hi g f)=((M.take Z).map λd=>vdV d.x d.y d.same d.lo d.hi g f)++ [vdV d.x d.y d.same d.lo d.hi g f]):=by
      unfold Hid;rw[List.take_add_one,hd,List.map_append];rfl
     have HV:=λW=>Oh d.x d.y d.same d.lo d.hi g f W;unfold aV at HV;unfold Y7 at d1 d2 d3 d4 d5 d6 d7 d8 d9 aj;simp only[List.getElem?_cons_succ,List.getElem?_cons_zero] at d1 d2 d3 d4 d5 d6 d7 d8 d9 aj;generalize vdV d.x d.y d.same d.lo d.hi g f=v at*;clear T hd
     go_wp2_with fail
     refine(HV _).mono ?_;rintro e w5 ⟨rfl,b5⟩;have hz:=b.size;replace b:=b.trans (b5.mono hz);replace O:=O.below b5;have al:Below w5 w5 (w5.alloc (.cells #[ZI v] 2)):=BU;have R1:=BD w5 v 2;have O3:=O.below al;have E:=An b al;have aL:=E.size;clear d0 d1 d2 d3 d4 d5 d6 d7 d8 d9 aj b5 HV
     go_wp2_with (at_builtin;refine Aj rfl _ _ 28 rfl 2 1 8 underlying28 AJ Ah w4.heap.size ⟨HA,Z,hC⟩ _ rfl O3 _ 1 1 (ints [v]) rfl R1 (Ao _) aI Ah aL ?_;intro G wg hn oG gg bf;have au:=Ai hn;clear hn)
     have b4:=E.grown gg E.size (λq e=>by have:=(O3.rowlt q e).1;omega)
     go_roundw
     case rel=>exact⟨Z+1,G,by omega,by go_num,rfl,au.out,by rw[HT.out,js];exact oG,b4⟩
     case measure=>simp[intOf];omega
    ·obtain rfl:Q=Z:=Aa;have ap: ¬(Q:Int)<(Q:Int):=Aa;rw[show M.take Q=M from ED (by rw[ak.out];omega)] at O
     have ag:=Ai (F.out wr HA hC O.rd1 (An u b));clear O F b Y u;go_wp2;exact ag.out
theorem Lj (h:Ev) (l p:List Int) (j:Nat) (n lo hi a g f:Int) (dn:Bool) (w:World) (X:M4 w h l p) (P:UW l p j):
  Calls prog 126 #[EV h,ZI j,ZI n,ZI lo,ZI hi,.bool dn,ZI a,ZI g,ZI f] w (RetOc (fanR l p j n dn) l.length n lo hi a g f w):=by
 have x:=λ(W:World) (X:M4 W h l p)=>Jd h l p j n lo hi a g f dn W X P;unfold RetFv at x;have J:=λ(c:Int) (L:List Int) (w':World) (A:Option Addr) (m d:Nat)=> @Uy (fanR l p j n dn) l.length n lo hi a g f c L w w' A m d;have U:=Ai J;have y:Hid (ocC (fanR l p j n dn) l.length n lo hi a g f≠0->ocL (fanR l p j n dn) l.length n lo hi a g f= []):=λE=>Ak E;have z:Hid (ocC (fanR l p j n dn) l.length n lo hi a g f=0->ocL (fanR l p j n dn) l.length n lo hi a g f=H4 lo (ocV (fanR l p j n dn) n lo hi a g f) (hi-lo).toNat):=λE=>AA E;have u:Hid (ocC (fanR l p j n dn) l.length n lo hi a g f=0->Ds n lo hi=true):=WX;generalize RetOc (fanR l p j n dn) l.length n lo hi a g f w=aB at*;generalize ocC (fanR l p j n dn) l.length n lo hi a g f=cd at*;generalize ocL (fanR l p j n dn) l.length n lo hi a g f=OL at*;generalize ocV (fanR l p j n dn) n lo hi a g f=t at*;clear J;have HX:=Ai X;clear X P;obtain⟨⟨A0,n0,c0⟩,⟨A1,n1,c1⟩⟩:=h;unfold EV at*;simp only at*;have Q:Below w w (w.alloc (.cells (CH A0 n0 c0 A1 n1 c1) 30)):=BU;have K:=Br w 30 (CH A0 n0 c0 A1 n1 c1);have X1:=HX.out.below Q
 go_enter func126,ntmps126
 go_upto_region 1 with fail
 generalize w.alloc _=w1 at*;have c:=K.cell
 go_wp2_with fail
 refine(x _ X1).mono ?_;clear x c K X1;rintro e I (⟨D,rfl,R⟩|⟨⟨VA,s,vc⟩,D,rfl,F,N,R⟩)
 ·have C:=An Q R;have HC:=Ai (U.out cd [] I none 0 0 rfl (y.out D) rfl (Rd.nil _ _) C);have aG:(cd !=0)=true:=by rw[bne_iff_ne];exact D
  clear U y z u Q R C D;go_wp2;exact HC.out
 ·simp only at F N⊢;have ah:=Gf (u.out D);have S:=λk (hk:k<=s)=> @Nh lo t Aa Aa k Aa;have C:=An Q R;have B:=Ai (z.out D);rw[<-F] at B;have aJ:s<=31:=Aa;have aH:1<=lo∧lo<=31:=Aa;have aa:=Ai S;subst D;clear y z u Q R ah F S;have bz:Below I I (I.alloc (.cells #[] 2)):=BU;replace C:=An C bz;replace N:=N.below bz;clear bz
  go_upto_region 5 with fail
  generalize I.alloc _=Y at N C⊢;generalize(some (⟨I,0,none⟩:Addr))=PZ
  go_wp2_with fail
  go_loopw [22,23] (λv i wr=> ∃(k:Nat) (H:Hd),k<=s∧i=.int .i64 k∧v=.slice H.A H.n H.c∧H.n=(H4 lo t k).length∧AR wr Y.heap.size 1 H (ints (H4 lo t k))∧Below Y Y wr) (λ_ i _=>s-(intOf i).toNat)
  case atStart=>exact⟨0,⟨PZ,0,0⟩,AZ _,rfl,rfl,rfl,AR.empty _ _ _ _,AP _ _⟩
  case round=>
   obtain⟨k,⟨Z,V,hC⟩,hk,rfl,rfl,E,O,b⟩:=hrel;simp only at E;have r:=Ai E;clear E
   by_cases ai:k<s
   ·have T:(k:Int)<(s:Int):=Aa;obtain⟨_,hA,hx⟩:=(N.below b).int ai;subst hA;have af:V+1<=1099511627776:=by have:=r.out;have:=(aa.out k hk).1;omega
    have hz:=b.size;have HS:Hid (H4 lo t (k+1)=if t.getD k 0=0 then H4 lo t k else H4 lo t k++ [lo+(k:Int)]):=rfl;have u1:=Bg (lo+(k:Int));generalize t.getD k 0=v at*
    by_cases hv:v=0
    ·subst hv;have M:=Ai (HS.out.trans (AA rfl));go_wp2
     go_roundw
     case rel=>exact⟨k+1,⟨Z,V,hC⟩,by omega,by go_num,rfl,by rw[M.out];exact r.out,by rw[M.out];exact O,b⟩
     case measure=>simp[intOf];omega
    ·have M:=Ai (HS.out.trans (Ak hv));have aI:(v !=0)=true:=by rw[bne_iff_ne];exact hv
     have R1:=BD wr (lo+(k:Int)) 2;have al:Below wr wr (wr.alloc (.cells #[ZI (lo+(k:Int))] 2)):=BU;have O1:=O.below al;have b4:=b.trans (al.mono hz);have aj:=b4.size
     go_wp2_with (at_builtin;refine Aj rfl _ _ 28 rfl 2 1 8 underlying28 AJ Ah Y.heap.size ⟨Z,V,hC⟩ _ rfl O1 _ 1 1 (ints [lo+(k:Int)]) rfl R1 (Ao _) af Ah aj ?_;intro G wg F oG gg aF;have ac:=Ai F;clear F)
     have b5:=b4.grown gg b4.size (λq e=>by have:=(O1.rowlt q e).1;omega)
     go_roundw
     case rel=>exact⟨k+1,G,by omega,by go_num,rfl,by rw[M.out,ac.out,Dy,r.out];rfl,by rw[M.out,js];exact oG,b5⟩
     case measure=>simp[intOf];omega
   ·obtain rfl:s=k:=Aa;have T: ¬(s:Int)<(s:Int):=Aa;have HC:=Ai (U.out 0 _ wr Z V hC rfl B.out r.out O.rd1 (An C b));clear U B O b;go_wp2;exact HC.out
