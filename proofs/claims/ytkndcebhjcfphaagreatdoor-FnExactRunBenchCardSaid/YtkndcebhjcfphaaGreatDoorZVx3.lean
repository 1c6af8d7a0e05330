import Derived.Test.YtkndcebhjcfphaaGreatDoorZVx2
namespace Go.Proofs.YtkndcebhjcfphaaGreatDoor
open Go.RowKit Go.Proofs.Tryz
set_option maxRecDepth 100000
set_option maxHeartbeats 4000000
set_option linter.all false
structure UW (ds ss:List Int) (src:Nat):Prop where
 prof:BI ds.length ss.length ds ss=true
 src:src<ds.length
structure M4 (w:World) (h:Ev) (ds ss:List Int):Prop where
 d:Rd w h.D.A h.D.n (ints ds)
 s:Rd w h.S.A h.S.n (ints ss)
theorem M4.below {w w':World} {h:Ev} {ds ss:List Int} (X:M4 w h ds ss) (b:Below w w w'):M4 w' h ds ss:=⟨X.d.below b,X.s.below b⟩
theorem M4.ray {w:World} {h:Ev} {ds ss:List Int} (X:M4 w h ds ss) (src:Nat) (n:Int) (dn:Bool) (m:Int):DR w h (fanR ds ss src n dn m):=⟨X.d,X.s⟩
theorem aQ {r q:Al} {n:Nat} {knot dist:Int} (h:r.tr n=none∨q.tr n=none):dY r q n knot dist=none:=by
 unfold dY;rcases h with h|h
 ·rw[h]
 ·rw[h];cases r.tr n<;>rfl
theorem aR {r q:Al} (R:A8 r) (Q:A8 q) {n:Nat} {knot dist:Int} {x y:En} {l m:List AU} (h1:r.tr n=some (x,l)) (h2:q.tr n=some (y,m)):
  dY r q n knot dist=some (vdV (lastS r l) (lastS q m) (decide (C2 l=C2 m)) (if C2 l=C2 m then Ej (BF l) (BF m) n else 0) (if C2 l=C2 m then Ei (BF l) (BF m) n else 0) knot dist):=by
 have e1:x=lastS r l:=(R.tr_ok n x l h1).2.2.2;have e2:y=lastS q m:=(Q.tr_ok n y m h2).2.2.2;unfold dY;rw[h1,h2];simp only;rw[←e1,←e2]
 by_cases hs:C2 l=C2 m
 ·rw[AA hs,AA hs]
 ·unfold vdV;rw[BR hs];rfl
theorem Oa (h:Ev) (n:Nat) (knot dist:Int) (w:World) (hn:h.D.n=n) (hn2:n≤12):
  (BT 281 #[EV h,ZI knot,ZI dist] w (.bool (inR knot 0 ((n:Int)-1) && inR dist 0 1000000000000)):Prop):=by
 subst hn;obtain⟨⟨A0,n0,c0⟩,⟨A1,n1,c1⟩⟩:=h;unfold EV;simp only at*;have b0:Below w w (w.alloc (.cells (CH A0 n0 c0 A1 n1 c1) 30)):=BU;have K:=Br w 30 (CH A0 n0 c0 A1 n1 c1);have HK:=fun W=>FM A0 A1 n0 n1 c0 c1 knot W Aa;have HW:=fun W=>As dist 0 1000000000000 W
 go_enter func281,ntmps281
 go_upto_region 1 with fail
 generalize w.alloc _=w1 at*;have c:=K.cell
 go_wp2_with fail
 refine(HK _).mono ?_;rcases BA (inR knot 0 ((n0:Int)-1)) with hk|hk
 ·rw[hk];rintro e w2 ⟨rfl,b2⟩;have b3:=An b0 b2;clear c K HK
  go_wp2_with fail
  refine(HW _).mono ?_;rintro e w' ⟨rfl,rfl⟩;go_wp2;go_ret;exact⟨Af (by rw[hk];simp),b3⟩
 ·rw[hk];rintro e w2 ⟨rfl,b2⟩;have b3:=An b0 b2;clear c K HK HW;go_wp2;go_ret;exact⟨Af (by rw[hk];rfl),b3⟩
def fz (n lo hi steps:Int):Int:=if Ds n lo hi=false then 1 else if inR steps 0 100=false then 2 else 0
theorem Tf (h:Ev) (ds ss:List Int) (src:Nat) (n lo hi steps:Int) (w:World) (X:M4 w h ds ss) (P:UW ds ss src):
  (BT 280 #[EV h,ZI src,ZI n,ZI lo,ZI hi,ZI steps] w (ZI (fz n lo hi steps)):Prop):=by
 have hdn:h.D.n=ds.length:=X.d.len.symm;have hsn:h.S.n=ss.length:=X.s.len.symm;have hprof:=P.prof
 have hl:ds.length≤12∧ss.length=ds.length:=by
  have h:=P.prof;unfold BI at h;simp only[CD,BP] at h;have:=Ac h.1;omega
 have hsrc:inR (src:Int) 0 ((h.D.n:Int)-1)=true:=CN Aa (by have:=P.src;omega)
 have HIP:=fun(W:World) (X:M4 W h ds ss)=>EL h.D.A h.S.A h.D.n h.S.n h.D.c h.S.c ds ss W Aa Aa X.d X.s;rw[hdn,hsn,hprof] at HIP;have HK:=fun W=>FM h.D.A h.S.A h.D.n h.S.n h.D.c h.S.c (src:Int) W Aa;rw[hsrc] at HK;have HF:=fun W=>PM n lo hi W;have HW:=fun W=>As steps 0 100 W;rw[←hdn,←hsn] at HIP;have HX:=Ai X;clear X P hprof hsrc hdn hsn hl;obtain⟨⟨A0,n0,c0⟩,⟨A1,n1,c1⟩⟩:=h;unfold EV;simp only at*;have b0:Below w w (w.alloc (.cells (CH A0 n0 c0 A1 n1 c1) 30)):=BU;have K:=Br w 30 (CH A0 n0 c0 A1 n1 c1);have X1:=HX.out.below b0;rcases BA (Ds n lo hi) with hf|hf
 rotate_left
 ·have hv:Hid (fz n lo hi steps=1):=AA hf;rw[hf] at HF;clear HW HK
  go_enter func280,ntmps280
  go_upto_region 1 with fail
  generalize w.alloc _=w1 at*;have c:=K.cell
  go_wp2_with fail
  refine(HIP _ X1).mono ?_;rintro e w2 ⟨rfl,b2⟩;have b3:=An b0 b2;clear c K HIP X1
  go_wp2_with fail
  refine(HF _).mono ?_;rintro e w' ⟨rfl,rfl⟩;go_wp2;go_ret;exact⟨by rw[hv.out];rfl,b3⟩
 have hv:Hid (fz n lo hi steps=if inR steps 0 100=false then 2 else 0):=Ak (by rw[hf];decide)
 rw[hf] at HF;clear hf
 go_enter func280,ntmps280
 go_upto_region 1 with fail
 generalize w.alloc _=w1 at*;have c:=K.cell
 go_wp2_with fail
 refine(HIP _ X1).mono ?_;rintro e w2 ⟨rfl,b2⟩;have b3:=An b0 b2;have K2:=K.below b2 K.lt;clear c K HIP X1
 go_wp2_with fail
 refine(HF _).mono ?_;rintro e w' ⟨rfl,rfl⟩;have c:=K2.cell
 go_wp2_with fail
 refine(HK _).mono ?_;rintro e w4 ⟨rfl,b4⟩;have b5:=An b3 b4;clear c K2 HK b2 b4 b3
 go_wp2_with fail
 refine(HW _).mono ?_;clear HW;rcases BA (inR steps 0 100) with hs|hs
 ·rw[hs] at hv⊢;rintro e w' ⟨rfl,rfl⟩;go_wp2;go_ret;exact⟨by rw[hv.out];rfl,b5⟩
 ·rw[hs] at hv⊢;rintro e w' ⟨rfl,rfl⟩;go_wp2;go_ret;exact⟨by rw[hv.out];rfl,b5⟩
theorem Rd.three {w:World} {A:Option Addr} {n k:Nat} {xs:List Int} (h:Rd w A (n*3) (ints xs)) (hk:k<n):
  ∃ad,A=some ad∧w.cell? (ad.add (k*3))=some (.int .i64 (xs.getD (k*3) 0))∧w.cell? ⟨(ad.add (k*3)).block,(ad.add (k*3)).off+1,none⟩=some (.int .i64 (xs.getD (k*3+1) 0))∧w.cell? ⟨(ad.add (k*3)).block,(ad.add (k*3)).off+2,none⟩=some (.int .i64 (xs.getD (k*3+2) 0)):=by
 obtain⟨ad,e0,hx0⟩:=h.int (show k*3<n*3 by omega)
 obtain⟨ad',e1,hx1⟩:=h.int (show k*3+1<n*3 by omega)
 obtain⟨ad'',e2,hx2⟩:=h.int (show k*3+2<n*3 by omega)
 rw[e0] at e1 e2
 cases e1
 cases e2
 exact⟨ad,e0,hx0,by rw[GN _ _ 1 Ah];exact hx1,by rw[GN _ _ 2 Ah];exact hx2⟩
def RetFv (ρ:Int→Al) (kn:Nat) (n lo hi steps knot dist:Int) (w:World) (e:Ending) (w':World):Prop:=
 (ocC ρ kn n lo hi steps knot dist≠0∧e=.returned (.tuple (Gb none 0 0 (ocC ρ kn n lo hi steps knot dist)))∧Below w w w')∨
 ∃H:Hd,ocC ρ kn n lo hi steps knot dist=0∧e=.returned (.tuple (Gb H.A H.n H.c 0))∧H.n=(hi-lo).toNat∧Rd w' H.A H.n (ints (ocV ρ n lo hi steps knot dist))∧Below w w w'
theorem QE {ρ:Int→Al} {kn:Nat} {n lo hi steps knot dist c:Int} {w w':World} (h:ocC ρ kn n lo hi steps knot dist=c) (h0:c≠0) (b:Below w w w'):
  RetFv ρ kn n lo hi steps knot dist w (.returned (.tuple (Gb none 0 0 c))) w':=Or.inl ⟨by rw[h];exact h0,by rw[h],b⟩
theorem Ux {ρ:Int→Al} {kn:Nat} {n lo hi steps knot dist:Int} {w w':World} {A:Option Addr} {m c:Nat} {L:List Int} (h:ocC ρ kn n lo hi steps knot dist=0) (hm:m=(hi-lo).toNat) (hL:ocV ρ n lo hi steps knot dist=L) (r:Rd w' A m (ints L)) (b:Below w w w'):
  RetFv ρ kn n lo hi steps knot dist w (.returned (.tuple (Gb A m c 0))) w':=Or.inr ⟨⟨A,m,c⟩,h,rfl,hm,by rw[hL];exact r,b⟩
def gE (h : Ev) (r q : Al) (n : Nat) (l m : List AU) (B gc : Nat) (w' : World) : Prop := ∃ he hs ha ke ks ka : Hd,
    Blk w' gc 311 (MC h r q he hs ha ke ks ka (decide (C2 l = C2 m)) (if C2 l = C2 m then Ej (BF l) (BF m) n else 0) (if C2 l = C2 m then Ei (BF l) (BF m) n else 0)) ∧
    DI w' B he hs ha l ∧ DI w' B ke ks ka m
theorem I8 (h:Ev) (ds ss:List Int) (src:Nat) (n lo hi steps knot dist:Int) (dn:Bool) (w:World) (X:M4 w h ds ss) (P:UW ds ss src):
  Calls prog 228 #[EV h,ZI src,ZI n,ZI lo,ZI hi,.bool dn,ZI steps,ZI knot,ZI dist] w (RetFv (fanR ds ss src n dn) ds.length n lo hi steps knot dist w):=by
 have hl:h.D.n=ds.length:=X.d.len.symm
 have hl12:ds.length≤12:=by
  have h:=P.prof;unfold BI at h;simp only[CD,BP] at h;have:=Ac h.1;omega
 have HFC:=fun(W:World) (X:M4 W h ds ss)=>Tf h ds ss src n lo hi steps W X P;have HRC:=fun W=>Oa h ds.length knot dist W hl hl12;have HNC:=fun(r q:Al) (k:Nat) (W:World) (X:DR W h r) (hk:k≤100) (N:YJ r q) (e1:q.ss=r.ss) (e2:q.src=r.src)=>Uh h r q k W X hk N e1 e2;have HBAD:=fun(c:Int) (w':World)=> @QE (fanR ds ss src n dn) ds.length n lo hi steps knot dist c w w';have HOK:=fun(w':World) (A:Option Addr) (m c:Nat) (L:List Int)=> @Ux (fanR ds ss src n dn) ds.length n lo hi steps knot dist w w' A m c L;have HB:=Ai HBAD;have HO:=Ai HOK;have HOC:Hid (ocC (fanR ds ss src n dn) ds.length n lo hi steps knot dist=if Ds n lo hi=false then 1 else if inR steps 0 100=false then 2 else if(inR knot 0 ((ds.length:Int)-1) && inR dist 0 1000000000000)=false then 2
 else match fvL (fanR ds ss src n dn) lo steps.toNat knot dist (hi-lo).toNat with|none=>3|some _=>0):=rfl
 have HOV:Hid (ocV (fanR ds ss src n dn) n lo hi steps knot dist=match fvL (fanR ds ss src n dn) lo steps.toNat knot dist (hi-lo).toNat with|none=> []|some L=>L):=rfl
 generalize RetFv (fanR ds ss src n dn) ds.length n lo hi steps knot dist w=RET at*;clear HBAD HOK hl;have HX:=Ai X;have HP:=Ai P;clear X P;obtain⟨⟨A0,n0,c0⟩,⟨A1,n1,c1⟩⟩:=h;unfold EV at*;simp only at*;have b0:Below w w (w.alloc (.cells (CH A0 n0 c0 A1 n1 c1) 30)):=BU;have K:=Br w 30 (CH A0 n0 c0 A1 n1 c1);have X1:=HX.out.below b0
 go_enter func228,ntmps228
 go_upto_region 1 with fail
 generalize w.alloc _=w1 at*;have c:=K.cell
 go_wp2_with fail
 refine(HFC _ X1).mono ?_;clear HFC;rcases BA (Ds n lo hi) with hf|hf
 rotate_left
 ·rw[show fz n lo hi steps=1 from AA hf];rintro e w2 ⟨rfl,b2⟩;have HC:=Ai (HB.out 1 w2 (HOC.out.trans (AA hf)) Ah (An b0 b2));clear c K X1 HRC HNC HB HO HOC HOV b2 b0 hf;go_wp2;exact HC.out
 rw[show fz n lo hi steps=(if inR steps 0 100=false then 2 else 0) from Ak (by rw[hf];decide)]
 rw[Ak (by rw[hf];decide)] at HOC
 rcases BA (inR steps 0 100) with hst|hst
 rotate_left
 ·rw[AA hst];rintro e w2 ⟨rfl,b2⟩;have HC:=Ai (HB.out 2 w2 (HOC.out.trans (AA hst)) Ah (An b0 b2));clear c K X1 HRC HNC HB HO HOC HOV b2 b0 hf hst;go_wp2;exact HC.out
 rw[Ak (by rw[hst];decide)]
 rw[Ak (by rw[hst];decide)] at HOC
 rintro e w2 ⟨rfl,b2⟩;replace b0:=An b0 b2;replace X1:=X1.below b2;replace K:=K.below b2 K.lt;clear c b2;have c:=K.cell
 go_wp2_with fail
 refine(HRC _).mono ?_;clear HRC;rcases BA (inR knot 0 ((ds.length:Int)-1) && inR dist 0 1000000000000) with hrc|hrc
 rotate_left
 ·rw[hrc];rintro e w3 ⟨rfl,b3⟩;have HC:=Ai (HB.out 2 w3 (HOC.out.trans (AA hrc)) Ah (An b0 b3));clear c K X1 HNC HB HO HOC HOV b3 b0 hf hst hrc;go_wp2;exact HC.out
 rw[Ak (by rw[hrc];decide)] at HOC
 rw[hrc];rintro e w3 ⟨rfl,b3⟩;replace b0:=An b0 b3;replace X1:=X1.below b3;replace K:=K.below b3 K.lt;clear c b3 hrc;obtain⟨st,rfl⟩: ∃s:Nat,steps=(s:Int):=⟨steps.toNat,by have:=Ac hst;omega⟩
 have hst100:st≤100:=by have:=Ac hst;omega
 simp only[Int.toNat_natCast] at HOC HOV;clear hst;have hbd:=Gf hf;have HFA:=fun W=>XF n lo hi dn W hf;have HMK:=fun(m:Int) (h1:lo≤m) (h2:m≤hi)=>J7 hf h1 h2;have HMH:=Ai HMK;obtain⟨N,hN⟩: ∃N,(hi-lo).toNat=N:=⟨_,rfl⟩;have hN2:Hid (hi=lo+(N:Int)):=by unfold Hid;omega
 have hN3:N≤30:=Aa;rw[hN] at HOC HOV HO;have HO':=Ai HO.out;unfold Nz at HFA;rw[hN] at HFA;clear hN hf HMK HO
 go_wp2_with fail
 refine(HFA _).mono ?_;rintro e w4 ⟨FA,fc,rfl,RF,b4⟩;clear HFA;replace b0:=An b0 b4;replace X1:=X1.below b4;replace K:=K.below b4 K.lt;clear b4;have hFB:Hid (∀ad:Addr,FA=some ad→ad.block<w4.heap.size):=fun ad e=>RF.lt e Aa;have hB1:w<w4.heap.size:=K.lt;obtain⟨B1,hB1'⟩: ∃B,w4.heap.size=B:=⟨_,rfl⟩;have hBB:B1≤w4.heap.size:=Aa;rw[hB1'] at hFB hB1;clear hB1'
 go_wp2_with fail
 go_loopw [22,23] (fun v i wr=> ∃(k:Nat) (H:Hd),k≤N∧i=.int .i64 ((k:Int)+1)∧v=.slice H.A H.n H.c∧H.n=k∧(∃L:List Int,fvL (fanR ds ss src n dn) lo st knot dist k=some L∧AR wr B1 1 H (ints L))∧B1≤wr.heap.size∧Blk wr w.heap.size 30 (CH A0 n0 c0 A1 n1 c1)∧Rd wr FA ((N+1)*3) (ints (fdL n dn lo (N+1)))∧M4 wr ⟨⟨A0,n0,c0⟩,⟨A1,n1,c1⟩⟩ ds ss∧Below w w wr) (fun _ i _=>N+1-(intOf i).toNat)
 case atStart=>exact⟨0,⟨none,0,0⟩,AZ _,rfl,rfl,rfl,⟨[],rfl,AR.nil _ _ _⟩,hBB,K,RF,X1,b0⟩
 case round=>
  clear K RF X1 b0 hBB;obtain⟨k,⟨HA,hN',hC⟩,hk,rfl,rfl,hh,⟨L,hL,O⟩,hBB,K,RF,X,b⟩:=hrel;simp only at hh;subst hh
  by_cases hlt:hN'<N
  ·have hltI:(hN':Int)+1<(N:Int)+1:=Aa;have hltI2:(hN':Int)<(N:Int)+1:=Aa;have hltN1:hN'<N+1:=Aa;have hltN2:hN'+1<N+1:=Aa;have h63:hN'+1≤1099511627776:=Aa;have u1:IntKind.i64.wrap ((hN':Int)+1-1)=(hN':Int):=by rw[show(hN':Int)+1-1=hN' by omega];exact Ff _ Aa
   have u3:=Bg (hN':Int);have u2:=Bg ((hN':Int)+1+1);obtain⟨ad,hA1,cx0,cx1,cx2⟩:=RF.three hltN1;obtain⟨_,hA2,cy0,cy1,cy2⟩:=RF.three hltN2;subst hA1
   cases hA2
   have e1:=LI n dn lo hltN1;have e2:=LI n dn lo hltN2;rw[show lo+((hN'+1:Nat):Int)=lo+(hN':Int)+1 by omega] at e2
   rw[e1.1] at cx0;rw[e1.2.1] at cx1;rw[e1.2.2] at cx2;rw[e2.1] at cy0;rw[e2.2.1] at cy1;rw[e2.2.2] at cy2;have m1:=HMH.out (lo+(hN':Int)) Aa (by have:=hN2.out;omega)
   have m2:=HMH.out (lo+(hN':Int)+1) Aa (by have:=hN2.out;omega)
   have HNB:=Ai (dL HP.out.prof HP.out.src dn m1 m2);have HNCk:=HNC (fanR ds ss src n dn (lo+(hN':Int))) (fanR ds ss src n dn (lo+(hN':Int)+1)) st;have HFV:Hid (fvL (fanR ds ss src n dn) lo st knot dist (hN'+1)=match fvL (fanR ds ss src n dn) lo st knot dist hN' with|none=>none|some L=>match dY (fanR ds ss src n dn (lo+(hN':Int))) (fanR ds ss src n dn (lo+(hN':Int)+1)) st knot dist with|none=>none|some v=>some (L++ [v])):=rfl
   rw[hL] at HFV;simp only at HFV;clear hL e1 e2 m1 m2;have q1:((hN':Int)+1).toNat=hN'+1:=Aa;have q3:(0:Int)≤(hN':Int)+1:=Aa;have eP:=K.cell;have hadl:=RF.lt rfl Aa;have ha1:(ad.add (hN'*3)).block<wr.heap.size:=by rw[Aq];exact hadl
   have ha2:(ad.add ((hN'+1)*3)).block<wr.heap.size:=by rw[Aq];exact hadl
   have HN5:=fun(W:World) (c:Below wr wr W)=>HNCk W ((X.below c).ray src n dn _) hst100 HNB.out rfl rfl;unfold EV GU fanR at HN5;simp only at HN5;clear HNCk
   go_upto_region 11 with fail
   have eP:(∀o,wr.cell? ⟨w,o,none⟩=((CH A0 n0 c0 A1 n1 c1):Array Value)[o]?):=eP
   by_cases hno:(fanR ds ss src n dn (lo+(hN':Int))).tr st=none∨(fanR ds ss src n dn (lo+(hN':Int)+1)).tr st=none
   ·have HNA: ∀W,Below wr wr W→Calls prog 283 #[CH A0 n0 c0 A1 n1 c1,ZI src,Ziii (mkC (lo+(hN':Int)) n) (mkS (lo+(hN':Int)) n dn) (mkH (lo+(hN':Int)) n),Ziii (mkC (lo+(hN':Int)+1) n) (mkS (lo+(hN':Int)+1) n dn) (mkH (lo+(hN':Int)+1) n),ZI st] W fun e w'=>e=.returned (.tuple #[.pointer none,ZI 3])∧Below W W w':=fun W c=>(HN5 W c).mono (by
     rintro e w' (⟨_,rfl,b⟩|⟨gc,x,y,l,m,he,hs,ha,ke,ks,ka,h1,h2,_,_,_,_,_⟩)
     ·exact⟨rfl,b⟩
     ·exfalso
      rcases hno with h|h
      ·have:=h.symm.trans h1;cases this
      ·have:=h.symm.trans h2;cases this)
    have HFV2:=Ai (HFV.out.trans (by rw[aQ hno]))
    clear HN5 HFV hno HNB
    go_region_held3 (fun w'=>(∀o,w'.cell? ⟨w,o,none⟩=((CH A0 n0 c0 A1 n1 c1):Array Value)[o]?)∧w'.cell? (ad.add (hN'*3))=some (.int .i64 (mkC (lo+(hN':Int)) n))∧w'.cell? ⟨(ad.add (hN'*3)).block,(ad.add (hN'*3)).off+1,none⟩=some (.int .i64 (mkS (lo+(hN':Int)) n dn))∧w'.cell? ⟨(ad.add (hN'*3)).block,(ad.add (hN'*3)).off+2,none⟩=some (.int .i64 (mkH (lo+(hN':Int)) n))∧w'.cell? (ad.add ((hN'+1)*3))=some (.int .i64 (mkC (lo+(hN':Int)+1) n))∧w'.cell? ⟨(ad.add ((hN'+1)*3)).block,(ad.add ((hN'+1)*3)).off+1,none⟩=some (.int .i64 (mkS (lo+(hN':Int)+1) n dn))∧w'.cell? ⟨(ad.add ((hN'+1)*3)).block,(ad.add ((hN'+1)*3)).off+2,none⟩=some (.int .i64 (mkH (lo+(hN':Int)+1) n)))
     (first|(exact⟨eP,cx0,cx1,cx2,cy0,cy1,cy2⟩)|(exact⟨zP,zx0,zx1,zx2,zy0,zy1,zy2⟩))
     (first|(go_at_call 283;(with_reducible refine(HNA _ Ax).mono ?_);rintro e u0 ⟨rfl,b6⟩;have bu:Below wr wr u0:=(show Below wr wr _ from Ax).trans (b6.mono C9);have zP:(∀o,u0.cell? ⟨w,o,none⟩=((CH A0 n0 c0 A1 n1 c1):Array Value)[o]?):=fun o=>(K.below bu K.lt).cell o;have zx0:=(bu.cell (p:=ad.add (hN'*3)) ha1).trans cx0;have zx1:=(bu.cell (p:=⟨(ad.add (hN'*3)).block,(ad.add (hN'*3)).off+1,none⟩) ha1).trans cx1;have zx2:=(bu.cell (p:=⟨(ad.add (hN'*3)).block,(ad.add (hN'*3)).off+2,none⟩) ha1).trans cx2;have zy0:=(bu.cell (p:=ad.add ((hN'+1)*3)) ha2).trans cy0;have zy1:=(bu.cell (p:=⟨(ad.add ((hN'+1)*3)).block,(ad.add ((hN'+1)*3)).off+1,none⟩) ha2).trans cy1;have zy2:=(bu.cell (p:=⟨(ad.add ((hN'+1)*3)).block,(ad.add ((hN'+1)*3)).off+2,none⟩) ha2).trans cy2))
    all_goals
     have HC:=Ai (HB.out 3 u0 (HOC.out.trans (by rw[Zr HFV2.out N Aa])) Ah (An b bu))
     clear K O RF X b bu b6 HB HO' HOC HOV HNC eP zP zx0 zx1 zx2 zy0 zy1 zy2 cx0 cx1 cx2 cy0 cy1 cy2 HNA;go_wp2;exact HC.out
   ·obtain⟨⟨x,l⟩,h1⟩: ∃z,(fanR ds ss src n dn (lo+(hN':Int))).tr st=some z:=Option.ne_none_iff_exists'.1 (fun h=>hno (Or.inl h));obtain⟨⟨y,m⟩,h2⟩: ∃z,(fanR ds ss src n dn (lo+(hN':Int)+1)).tr st=some z:=Option.ne_none_iff_exists'.1 (fun h=>hno (Or.inr h))
    have HNA: ∀W,Below wr wr W→Calls prog 283 #[CH A0 n0 c0 A1 n1 c1,ZI src,Ziii (mkC (lo+(hN':Int)) n) (mkS (lo+(hN':Int)) n dn) (mkH (lo+(hN':Int)) n),Ziii (mkC (lo+(hN':Int)+1) n) (mkS (lo+(hN':Int)+1) n dn) (mkH (lo+(hN':Int)+1) n),ZI st] W fun e w'=> ∃gc:Nat,e=.returned (.tuple #[.pointer (some ⟨gc,0,none⟩),ZI 0])∧gE ⟨⟨A0,n0,c0⟩,⟨A1,n1,c1⟩⟩ (fanR ds ss src n dn (lo+(hN':Int))) (fanR ds ss src n dn (lo+(hN':Int)+1)) st l m W.heap.size gc w'∧Below W W w':=fun W c=>(HN5 W c).mono (by
     rintro e w' (⟨hno',_,_⟩|⟨gc,x',y',l',m',he,hs,ha,ke,ks,ka,h1',h2',rfl,KC,T,U,b⟩)
     ·exact absurd hno' hno
     ·have e1:=h1.symm.trans h1';have e2:=h2.symm.trans h2'
      cases e1
      cases e2
      exact⟨gc,rfl,⟨he,hs,ha,ke,ks,ka,KC,T,U⟩,b⟩)
    have HFV2:=Ai (HFV.out.trans (by rw[aR HNB.out.fr.ok HNB.out.fq.ok h1 h2]))
    have hll:=(HNB.out.fr.ok.tr_ok st x l h1).2.1;have hml:=(HNB.out.fq.ok.tr_ok st y m h2).2.1;clear HN5 HFV hno HNB h1 h2
    go_region_held3 (fun w'=>(∀o,w'.cell? ⟨w,o,none⟩=((CH A0 n0 c0 A1 n1 c1):Array Value)[o]?)∧w'.cell? (ad.add (hN'*3))=some (.int .i64 (mkC (lo+(hN':Int)) n))∧w'.cell? ⟨(ad.add (hN'*3)).block,(ad.add (hN'*3)).off+1,none⟩=some (.int .i64 (mkS (lo+(hN':Int)) n dn))∧w'.cell? ⟨(ad.add (hN'*3)).block,(ad.add (hN'*3)).off+2,none⟩=some (.int .i64 (mkH (lo+(hN':Int)) n))∧w'.cell? (ad.add ((hN'+1)*3))=some (.int .i64 (mkC (lo+(hN':Int)+1) n))∧w'.cell? ⟨(ad.add ((hN'+1)*3)).block,(ad.add ((hN'+1)*3)).off+1,none⟩=some (.int .i64 (mkS (lo+(hN':Int)+1) n dn))∧w'.cell? ⟨(ad.add ((hN'+1)*3)).block,(ad.add ((hN'+1)*3)).off+2,none⟩=some (.int .i64 (mkH (lo+(hN':Int)+1) n)))
     (first|(exact⟨eP,cx0,cx1,cx2,cy0,cy1,cy2⟩)|(exact⟨zP,zx0,zx1,zx2,zy0,zy1,zy2⟩))
     (first|(go_at_call 283;(with_reducible refine(HNA _ Ax).mono ?_);rintro e u0 ⟨gc,rfl,HNO,b6⟩;have bu:Below wr wr u0:=(show Below wr wr _ from Ax).trans (b6.mono C9);have zP:(∀o,u0.cell? ⟨w,o,none⟩=((CH A0 n0 c0 A1 n1 c1):Array Value)[o]?):=fun o=>(K.below bu K.lt).cell o;have zx0:=(bu.cell (p:=ad.add (hN'*3)) ha1).trans cx0;have zx1:=(bu.cell (p:=⟨(ad.add (hN'*3)).block,(ad.add (hN'*3)).off+1,none⟩) ha1).trans cx1;have zx2:=(bu.cell (p:=⟨(ad.add (hN'*3)).block,(ad.add (hN'*3)).off+2,none⟩) ha1).trans cx2;have zy0:=(bu.cell (p:=ad.add ((hN'+1)*3)) ha2).trans cy0;have zy1:=(bu.cell (p:=⟨(ad.add ((hN'+1)*3)).block,(ad.add ((hN'+1)*3)).off+1,none⟩) ha2).trans cy1;have zy2:=(bu.cell (p:=⟨(ad.add ((hN'+1)*3)).block,(ad.add ((hN'+1)*3)).off+2,none⟩) ha2).trans cy2))
    all_goals
     obtain⟨he,hs,ha,ke,ks,ka,KC,T,U⟩:=HNO;have HVD:=PE ⟨⟨A0,n0,c0⟩,⟨A1,n1,c1⟩⟩ (fanR ds ss src n dn (lo+(hN':Int))) (fanR ds ss src n dn (lo+(hN':Int)+1)) he hs ha ke ks ka _ _ _ l m gc _ knot dist u0 KC T U Aa Aa rfl;generalize vdV (lastS (fanR ds ss src n dn (lo+(hN':Int))) l) (lastS (fanR ds ss src n dn (lo+(hN':Int)+1)) m) (decide (C2 l=C2 m)) (if C2 l=C2 m then Ej (BF l) (BF m) st else 0) (if C2 l=C2 m then Ei (BF l) (BF m) st else 0) knot dist=v at*;clear KC T U hll hml b6 eP zP zx0 zx1 zx2 zy0 zy1 zy2 cx0 cx1 cx2 cy0 cy1 cy2 HNA ha1 ha2 hadl;have K2:=K.below bu K.lt;have O2:=O.below bu;have RF2:=RF.below bu;have b2:=An b bu;have bu':=bu;clear K O RF X b bu
     go_wp2_with fail
     refine HVD.mono ?_;rintro e w7 ⟨rfl,b7⟩;clear HVD;replace K2:=K2.below b7 K2.lt;replace O2:=O2.below b7;replace RF2:=RF2.below b7;replace b2:=An b2 b7;have b7':=b7;clear b7;have al:Below w7 w7 (w7.alloc (.cells #[ZI v] 2)):=BU;have R1:=BD w7 v 2;have K3:=K2.below al K2.lt;have O3:=O2.below al;have RF3:=RF2.below al;have b3:=An b2 al;have hz3:B1≤(w7.alloc (.cells #[ZI v] 2)).heap.size:=by have h1:=bu'.size;have h2:=b7'.size;have h3:=al.size;omega
     go_wp2_with (at_builtin;refine Aj rfl _ _ 28 rfl 2 1 8 underlying28 AJ Ah B1 ⟨HA,hN',hC⟩ _ rfl O3 _ 1 1 (ints [v]) rfl R1 (Ao _) h63 Ah hz3 ?_;intro G wg hn oG gg hat;have HNG:=Ai hn;clear hn)
     have hrl:=O3.rowlt;have K4:=K3.grown gg (fun e=>by have:=(hrl _ e).1;omega)
     have b4:=b3.grown gg b3.size (fun q e=>by have:=(hrl q e).1;omega)
     have X4:M4 wg ⟨⟨A0,n0,c0⟩,⟨A1,n1,c1⟩⟩ ds ss:=HX.out.below b4;have RF4:=RF3.grown gg (fun a e _ c=>by have:=(hrl _ c).1;have:=hFB.out a e;omega)
     have hB4:=Ch hz3 gg.size
     go_roundw
     case rel=>exact⟨hN'+1,G,by omega,by first|rfl|(congr 1;omega)|go_num,rfl,HNG.out,⟨L++ [v],HFV2.out,by rw[B8];exact oG⟩,hB4,K4,RF4,X4,b4⟩
     case measure=>simp[intOf];omega
  ·obtain rfl:N=hN':=Aa;have hltI: ¬(N:Int)+1<(N:Int)+1:=Aa;have HL2:=HOC.out;have HV2:=HOV.out;rw[hL] at HL2 HV2;have HC:=Ai (HO'.out wr HA N hC L HL2 rfl HV2 O.rd1 b);clear HL2 HV2 hL O HB HO' HOC HOV HNC K RF X b;go_wp2;exact HC.out
def RetOc (ρ:Int→Al) (kn:Nat) (n lo hi steps knot dist:Int) (w:World) (e:Ending) (w':World):Prop:=
 ∃H:Hd,e=.returned (.tuple (Gb H.A H.n H.c (ocC ρ kn n lo hi steps knot dist)))∧H.n=(ocL ρ kn n lo hi steps knot dist).length∧Rd w' H.A H.n (ints (ocL ρ kn n lo hi steps knot dist))∧Below w w w'
theorem Uy {ρ:Int→Al} {kn:Nat} {n lo hi steps knot dist c:Int} {L:List Int} {w w':World} {A:Option Addr} {m d:Nat} (hc:ocC ρ kn n lo hi steps knot dist=c) (hL:ocL ρ kn n lo hi steps knot dist=L) (hm:m=L.length) (r:Rd w' A m (ints L)) (b:Below w w w'):
  RetOc ρ kn n lo hi steps knot dist w (.returned (.tuple (Gb A m d c))) w':=⟨⟨A,m,d⟩,by rw[hc],by rw[hL];exact hm,by rw[hL];exact r,b⟩
theorem WX {ρ:Int→Al} {kn:Nat} {n lo hi steps knot dist:Int} (h:ocC ρ kn n lo hi steps knot dist=0):Ds n lo hi=true:=by
 rcases BA (Ds n lo hi) with o|o
 ·exact o
 ·unfold ocC at h;rw[AA o] at h;cases h
theorem Ke (h:Ev) (ds ss:List Int) (src:Nat) (n lo hi steps knot dist:Int) (dn:Bool) (w:World) (X:M4 w h ds ss) (P:UW ds ss src):
  Calls prog 184 #[EV h,ZI src,ZI n,ZI lo,ZI hi,.bool dn,ZI steps,ZI knot,ZI dist] w (RetOc (fanR ds ss src n dn) ds.length n lo hi steps knot dist w):=by
 have HFV:=fun(W:World) (X:M4 W h ds ss)=>I8 h ds ss src n lo hi steps knot dist dn W X P;unfold RetFv at HFV;have HMK:=fun(c:Int) (L:List Int) (w':World) (A:Option Addr) (m d:Nat)=> @Uy (fanR ds ss src n dn) ds.length n lo hi steps knot dist c L w w' A m d;have HM:=Ai HMK;have HL0:Hid (ocC (fanR ds ss src n dn) ds.length n lo hi steps knot dist≠0→ocL (fanR ds ss src n dn) ds.length n lo hi steps knot dist= []):=fun hh=>Ak hh;have HL1:Hid (ocC (fanR ds ss src n dn) ds.length n lo hi steps knot dist=0→ocL (fanR ds ss src n dn) ds.length n lo hi steps knot dist=H4 lo (ocV (fanR ds ss src n dn) n lo hi steps knot dist) (hi-lo).toNat):=fun hh=>AA hh;have HFB:Hid (ocC (fanR ds ss src n dn) ds.length n lo hi steps knot dist=0→Ds n lo hi=true):=WX;generalize RetOc (fanR ds ss src n dn) ds.length n lo hi steps knot dist w=RET at*;generalize ocC (fanR ds ss src n dn) ds.length n lo hi steps knot dist=cd at*;generalize ocL (fanR ds ss src n dn) ds.length n lo hi steps knot dist=OL at*;generalize ocV (fanR ds ss src n dn) n lo hi steps knot dist=LV at*;clear HMK;have HX:=Ai X;clear X P;obtain⟨⟨A0,n0,c0⟩,⟨A1,n1,c1⟩⟩:=h;unfold EV at*;simp only at*;have b0:Below w w (w.alloc (.cells (CH A0 n0 c0 A1 n1 c1) 30)):=BU;have K:=Br w 30 (CH A0 n0 c0 A1 n1 c1);have X1:=HX.out.below b0
 go_enter func184,ntmps184
 go_upto_region 1 with fail
 generalize w.alloc _=w1 at*;have c:=K.cell
 go_wp2_with fail
 refine(HFV _ X1).mono ?_;clear HFV c K X1;rintro e w2 (⟨hc,rfl,b2⟩|⟨⟨VA,vn,vc⟩,hc,rfl,hn,RV,b2⟩)
 ·have b3:=An b0 b2;have HC:=fun(A:Option Addr) (d:Nat) (w':World) (b:Below w w w')=>Ai (HM.out cd [] w' A 0 d rfl (HL0.out hc) rfl (Rd.nil _ _) b);clear HM HL0 HL1 HFB b0 b2 hc
  go_wp2_with fail
  go_loopw [22,40] (fun v i wr=>i=.int .i64 0∧v=.slice none 0 0∧Below w w wr) (fun _ _ _=>0)
  case atStart=>exact⟨rfl,rfl,b3⟩
  case round=>
   obtain⟨rfl,rfl,b⟩:=hrel;go_wp2;exact(HC none 0 wr b).out
 ·simp only at hn RV⊢;have hfb:=Gf (HFB.out hc);have hbd:=fun k (hk:k≤vn)=> @Nh lo LV Aa Aa k Aa;have b3:=An b0 b2;have HL2:=Ai (HL1.out hc);rw[←hn] at HL2;have hvn:vn≤31:=Aa;have hlo:1≤lo∧lo≤31:=Aa;have HBD:=Ai hbd;subst hc;clear HL0 HL1 HFB b0 b2 hfb hn hbd
  go_wp2_with fail
  go_loopw [22,40] (fun v i wr=> ∃(k:Nat) (H:Hd),k≤vn∧i=.int .i64 k∧v=.slice H.A H.n H.c∧H.n=(H4 lo LV k).length∧AR wr w2.heap.size 1 H (ints (H4 lo LV k))∧Below w2 w2 wr) (fun _ i _=>vn-(intOf i).toNat)
  case atStart=>exact⟨0,⟨none,0,0⟩,AZ _,rfl,rfl,rfl,AR.nil _ _ _,AP _ _⟩
  case round=>
   obtain⟨k,⟨HA,hN,hC⟩,hk,rfl,rfl,hh,O,b⟩:=hrel;simp only at hh;have HHN:=Ai hh;clear hh
   by_cases hlt:k<vn
   ·have hltI:(k:Int)<(vn:Int):=Aa;obtain⟨_,hA,hx⟩:=(RV.below b).int hlt;subst hA;have h63:hN+1≤1099511627776:=by have:=HHN.out;have:=(HBD.out k hk).1;omega
    have hz:=b.size;have HS:Hid (H4 lo LV (k+1)=if LV.getD k 0=0 then H4 lo LV k else H4 lo LV k++ [lo+(k:Int)]):=rfl;have u1:=Bg (lo+(k:Int));generalize LV.getD k 0=v at*
    by_cases hv:v=0
    ·subst hv;have HW:=Ai (HS.out.trans (AA rfl));go_wp2
     go_roundw
     case rel=>exact⟨k+1,⟨HA,hN,hC⟩,by omega,by go_num,rfl,by rw[HW.out];exact HHN.out,by rw[HW.out];exact O,b⟩
     case measure=>simp[intOf];omega
    ·have HW:=Ai (HS.out.trans (Ak hv));have hv2:(v !=0)=true:=by rw[bne_iff_ne];exact hv
     have R1:=BD wr (lo+(k:Int)) 2;have al:Below wr wr (wr.alloc (.cells #[ZI (lo+(k:Int))] 2)):=BU;have O1:=O.below al;have b4:=b.trans (al.mono hz);have hz4:=b4.size
     go_wp2_with (at_builtin;refine Aj rfl _ _ 28 rfl 2 1 8 underlying28 AJ Ah w2.heap.size ⟨HA,hN,hC⟩ _ rfl O1 _ 1 1 (ints [lo+(k:Int)]) rfl R1 (Ao _) h63 Ah hz4 ?_;intro G wg hn oG gg hat;have HNG:=Ai hn;clear hn)
     have b5:=b4.grown gg b4.size (fun q e=>by have:=(O1.rowlt q e).1;omega)
     go_roundw
     case rel=>exact⟨k+1,G,by omega,by go_num,rfl,by rw[HW.out,HNG.out,Dy,HHN.out];rfl,by rw[HW.out,B8];exact oG,b5⟩
     case measure=>simp[intOf];omega
   ·obtain rfl:vn=k:=Aa;have hltI: ¬(vn:Int)<(vn:Int):=Aa;have HC:=Ai (HM.out 0 _ wr HA hN hC rfl HL2.out HHN.out O.rd1 (An b3 b));clear HM HL2 O b;go_wp2;exact HC.out
end Go.Proofs.YtkndcebhjcfphaaGreatDoor
