import Derived.Test.YtkndcebhjcfphaaGreatDoorZYx2
namespace Go.Proofs.YtkndcebhjcfphaaGreatDoor
open Go.RowKit Go.Proofs.Tryz
set_option maxRecDepth 100000
set_option maxHeartbeats 4000000
set_option linter.all false
structure UW (ds ss:List Int) (src:Nat):Prop where
 prof:BI ds.length ss.length ds ss=true
 src:src<ds.length
structure M4 (w:World) (h:Ev) (ds ss:List Int):Prop where
 d:Rd w h.D.A h.D.n (ints ds)
 s:Rd w h.S.A h.S.n (ints ss)
theorem M4.below {w w':World} {h:Ev} {a c:List Int} (X:M4 w h a c) (b:Below w w w'):M4 w' h a c:=⟨X.d.below b,X.s.below b⟩
theorem M4.ray {w:World} {h:Ev} {b c:List Int} (X:M4 w h b c) (a:Nat) (n:Int) (dn:Bool) (m:Int):DR w h (fanR b c a n dn m):=⟨X.d,X.s⟩
theorem aQ {r q:Al} {n:Nat} {b a:Int} (h:r.tr n=none∨q.tr n=none):dY r q n b a=none:=by
 unfold dY;rcases h with h|h
 ·rw[h]
 ·rw[h];cases r.tr n<;>rfl
theorem aR {r q:Al} (R:A8 r) (Q:A8 q) {n:Nat} {b a:Int} {x y:En} {l m:List AU} (d:r.tr n=some (x,l)) (f:q.tr n=some (y,m)):
  dY r q n b a=some (vdV (lastS r l) (lastS q m) (decide (C2 l=C2 m)) (if C2 l=C2 m then Ej (BF l) (BF m) n else 0) (if C2 l=C2 m then Ei (BF l) (BF m) n else 0) b a):=by
 have e1:x=lastS r l:=(R.tr_ok n x l d).2.2.2;have e2:y=lastS q m:=(Q.tr_ok n y m f).2.2.2;unfold dY;rw[d,f];simp only;rw[<-e1,<-e2]
 by_cases c:C2 l=C2 m
 ·rw[AA c,AA c]
 ·unfold vdV;rw[BR c];rfl
theorem Oa (h:Ev) (n:Nat) (a b:Int) (w:World) (s:h.D.n=n) (t:n<=12):
  (BT 281 #[EV h,ZI a,ZI b] w (.bool (inR a 0 ((n:Int)-1) && inR b 0 1000000000000)):Prop):=by
 subst s;obtain⟨⟨f,d,l⟩,⟨g,p,m⟩⟩:=h;unfold EV;simp only at*;have r:Below w w (w.alloc (.cells (CH f d l g p m) 30)):=BU;have K:=Br w 30 (CH f d l g p m);have i:=λW=>FM f g d p l m a W Aa;have q:=λW=>As b 0 1000000000000 W
 go_enter func281,ntmps281
 go_upto_region 1 with fail
 generalize w.alloc _=x at*;have c:=K.cell
 go_wp2_with fail
 refine(i _).mono ?_;rcases jt (inR a 0 ((d:Int)-1)) with hk|hk
 ·rw[hk];rintro e u ⟨rfl,j⟩;have k:=An r j;clear c K i
  go_wp2_with fail
  refine(q _).mono ?_;rintro e v ⟨rfl,rfl⟩;go_wp2;go_ret;exact⟨Af (by rw[hk];simp),k⟩
 ·rw[hk];rintro e u ⟨rfl,j⟩;have k:=An r j;clear c K i q;go_wp2;go_ret;exact⟨Af (by rw[hk];rfl),k⟩
def fz (n lo hi steps:Int):Int:=if Ds n lo hi=false then 1 else if inR steps 0 100=false then 2 else 0
theorem Tf (h:Ev) (j m:List Int) (g:Nat) (n lo hi a:Int) (w:World) (X:M4 w h j m) (P:UW j m g):
  (BT 280 #[EV h,ZI g,ZI n,ZI lo,ZI hi,ZI a] w (ZI (fz n lo hi a)):Prop):=by
 have k:h.D.n=j.length:=X.d.len.symm;have l:h.S.n=m.length:=X.s.len.symm;have f:=P.prof
 have M:j.length<=12∧m.length=j.length:=by
  have h:=P.prof;unfold BI at h;simp only[CD,BP] at h;have:=Ac h.1;omega
 have i:inR (g:Int) 0 ((h.D.n:Int)-1)=true:=CN Aa (by have:=P.src;omega)
 have b:=λ(W:World) (X:M4 W h j m)=>EL h.D.A h.S.A h.D.n h.S.n h.D.c h.S.c j m W Aa Aa X.d X.s;rw[k,l,f] at b;have r:=λW=>FM h.D.A h.S.A h.D.n h.S.n h.D.c h.S.c (g:Int) W Aa;rw[i] at r;have q:=λW=>PM n lo hi W;have v:=λW=>As a 0 100 W;rw[<-k,<-l] at b;have L:=Ai X;clear X P f i k l M;obtain⟨⟨z,I,G⟩,⟨B,J,H⟩⟩:=h;unfold EV;simp only at*;have x:Below w w (w.alloc (.cells (CH z I G B J H) 30)):=BU;have K:=Br w 30 (CH z I G B J H);have t:=L.out.below x;rcases jt (Ds n lo hi) with hf|hf
 rotate_left
 ·have hv:Hid (fz n lo hi a=1):=AA hf;rw[hf] at q;clear v r
  go_enter func280,ntmps280
  go_upto_region 1 with fail
  generalize w.alloc _=N at*;have c:=K.cell
  go_wp2_with fail
  refine(b _ t).mono ?_;rintro e O ⟨rfl,p⟩;have u:=An x p;clear c K b t
  go_wp2_with fail
  refine(q _).mono ?_;rintro e y ⟨rfl,rfl⟩;go_wp2;go_ret;exact⟨by rw[hv.out];rfl,u⟩
 have hv:Hid (fz n lo hi a=if inR a 0 100=false then 2 else 0):=Ak (by rw[hf];decide)
 rw[hf] at q;clear hf
 go_enter func280,ntmps280
 go_upto_region 1 with fail
 generalize w.alloc _=N at*;have c:=K.cell
 go_wp2_with fail
 refine(b _ t).mono ?_;rintro e O ⟨rfl,p⟩;have u:=An x p;have C:=K.below p K.lt;clear c K b t
 go_wp2_with fail
 refine(q _).mono ?_;rintro e y ⟨rfl,rfl⟩;have c:=C.cell
 go_wp2_with fail
 refine(r _).mono ?_;rintro e Q ⟨rfl,E⟩;have F:=An u E;clear c C r p E u
 go_wp2_with fail
 refine(v _).mono ?_;clear v;rcases jt (inR a 0 100) with hs|hs
 ·rw[hs] at hv⊢;rintro e y ⟨rfl,rfl⟩;go_wp2;go_ret;exact⟨by rw[hv.out];rfl,F⟩
 ·rw[hs] at hv⊢;rintro e y ⟨rfl,rfl⟩;go_wp2;go_ret;exact⟨by rw[hv.out];rfl,F⟩
theorem Rd.three {w:World} {A:Option Addr} {n k:Nat} {xs:List Int} (h:Rd w A (n*3) (ints xs)) (j:k<n):
  ∃a,A=some a∧w.cell? (a.add (k*3))=some (.int .i64 (xs.getD (k*3) 0))∧w.cell? ⟨(a.add (k*3)).block,(a.add (k*3)).off+1,none⟩=some (.int .i64 (xs.getD (k*3+1) 0))∧w.cell? ⟨(a.add (k*3)).block,(a.add (k*3)).off+2,none⟩=some (.int .i64 (xs.getD (k*3+2) 0)):=by
 obtain⟨a,g,b⟩:=h.int (show k*3<n*3 by omega)
 obtain⟨i,e1,c⟩:=h.int (show k*3+1<n*3 by omega)
 obtain⟨f,e2,d⟩:=h.int (show k*3+2<n*3 by omega)
 rw[g] at e1 e2
 cases e1
 cases e2
 exact⟨a,g,b,by rw[GN _ _ 1 Ah];exact c,by rw[GN _ _ 2 Ah];exact d⟩
def RetFv (ρ:Int->Al) (kn:Nat) (n lo hi steps knot dist:Int) (w:World) (e:Ending) (w':World):Prop:=
 (ocC ρ kn n lo hi steps knot dist≠0∧e=.returned (.tuple (Gb none 0 0 (ocC ρ kn n lo hi steps knot dist)))∧Below w w w')∨
 ∃H:Hd,ocC ρ kn n lo hi steps knot dist=0∧e=.returned (.tuple (Gb H.A H.n H.c 0))∧H.n=(hi-lo).toNat∧Rd w' H.A H.n (ints (ocV ρ n lo hi steps knot dist))∧Below w w w'
theorem QE {ρ:Int->Al} {g:Nat} {n lo hi a f d c:Int} {w w':World} (h:ocC ρ g n lo hi a f d=c) (i:c≠0) (b:Below w w w'):
  RetFv ρ g n lo hi a f d w (.returned (.tuple (Gb none 0 0 c))) w':=Or.inl ⟨by rw[h];exact i,by rw[h],b⟩
theorem Ux {ρ:Int->Al} {g:Nat} {n lo hi a f d:Int} {w w':World} {A:Option Addr} {m c:Nat} {L:List Int} (h:ocC ρ g n lo hi a f d=0) (j:m=(hi-lo).toNat) (i:ocV ρ n lo hi a f d=L) (r:Rd w' A m (ints L)) (b:Below w w w'):
  RetFv ρ g n lo hi a f d w (.returned (.tuple (Gb A m c 0))) w':=Or.inr ⟨⟨A,m,c⟩,h,rfl,j,by rw[i];exact r,b⟩
def gE (h : Ev) (r q : Al) (n : Nat) (l m : List AU) (B gc : Nat) (w' : World) : Prop := ∃ he hs ha ke ks ka : Hd,
    Blk w' gc 311 (MC h r q he hs ha ke ks ka (decide (C2 l = C2 m)) (if C2 l = C2 m then Ej (BF l) (BF m) n else 0) (if C2 l = C2 m then Ei (BF l) (BF m) n else 0)) ∧
    DI w' B he hs ha l ∧ DI w' B ke ks ka m
theorem I8 (h:Ev) (E I:List Int) (j:Nat) (n lo hi g u t:Int) (dn:Bool) (w:World) (X:M4 w h E I) (P:UW E I j):
  Calls prog 228 #[EV h,ZI j,ZI n,ZI lo,ZI hi,.bool dn,ZI g,ZI u,ZI t] w (RetFv (fanR E I j n dn) E.length n lo hi g u t w):=by
 have hl:h.D.n=E.length:=X.d.len.symm
 have bn:E.length<=12:=by
  have h:=P.prof;unfold BI at h;simp only[CD,BP] at h;have:=Ac h.1;omega
 have bc:=λ(W:World) (X:M4 W h E I)=>Tf h E I j n lo hi g W X P;have aM:=λW=>Oa h E.length u t W hl bn;have au:=λ(r q:Al) (k:Nat) (W:World) (X:DR W h r) (hk:k<=100) (N:YJ r q) (e1:q.ss=r.ss) (e2:q.src=r.src)=>Uh h r q k W X hk N e1 e2;have aS:=λ(c:Int) (J:World)=> @QE (fanR E I j n dn) E.length n lo hi g u t c w J;have bf:=λ(J:World) (A:Option Addr) (m c:Nat) (L:List Int)=> @Ux (fanR E I j n dn) E.length n lo hi g u t w J A m c L;have HB:=Ai aS;have HO:=Ai bf;have F:Hid (ocC (fanR E I j n dn) E.length n lo hi g u t=if Ds n lo hi=false then 1 else if inR g 0 100=false then 2 else if(inR u 0 ((E.length:Int)-1) && inR t 0 1000000000000)=false then 2
 else match fvL (fanR E I j n dn) lo g.toNat u t (hi-lo).toNat with|none=>3|some _=>0):=rfl
 have Q:Hid (ocV (fanR E I j n dn) n lo hi g u t=match fvL (fanR E I j n dn) lo g.toNat u t (hi-lo).toNat with|none=> []|some L=>L):=rfl
 generalize RetFv (fanR E I j n dn) E.length n lo hi g u t w=cn at*;clear aS bf hl;have HX:=Ai X;have HP:=Ai P;clear X P;obtain⟨⟨A0,n0,c0⟩,⟨A1,n1,c1⟩⟩:=h;unfold EV at*;simp only at*;have V:Below w w (w.alloc (.cells (CH A0 n0 c0 A1 n1 c1) 30)):=BU;have K:=Br w 30 (CH A0 n0 c0 A1 n1 c1);have X1:=HX.out.below V
 go_enter func228,ntmps228
 go_upto_region 1 with fail
 generalize w.alloc _=w1 at*;have c:=K.cell
 go_wp2_with fail
 refine(bc _ X1).mono ?_;clear bc;rcases jt (Ds n lo hi) with hf|hf
 rotate_left
 ·rw[show fz n lo hi g=1 from AA hf];rintro e w2 ⟨rfl,b2⟩;have HC:=Ai (HB.out 1 w2 (F.out.trans (AA hf)) Ah (An V b2));clear c K X1 aM au HB HO F Q b2 V hf;go_wp2;exact HC.out
 rw[show fz n lo hi g=(if inR g 0 100=false then 2 else 0) from Ak (by rw[hf];decide)]
 rw[Ak (by rw[hf];decide)] at F
 rcases jt (inR g 0 100) with hst|hst
 rotate_left
 ·rw[AA hst];rintro e w2 ⟨rfl,b2⟩;have HC:=Ai (HB.out 2 w2 (F.out.trans (AA hst)) Ah (An V b2));clear c K X1 aM au HB HO F Q b2 V hf hst;go_wp2;exact HC.out
 rw[Ak (by rw[hst];decide)]
 rw[Ak (by rw[hst];decide)] at F
 rintro e w2 ⟨rfl,b2⟩;replace V:=An V b2;replace X1:=X1.below b2;replace K:=K.below b2 K.lt;clear c b2;have c:=K.cell
 go_wp2_with fail
 refine(aM _).mono ?_;clear aM;rcases jt (inR u 0 ((E.length:Int)-1) && inR t 0 1000000000000) with hrc|hrc
 rotate_left
 ·rw[hrc];rintro e w3 ⟨rfl,b3⟩;have HC:=Ai (HB.out 2 w3 (F.out.trans (AA hrc)) Ah (An V b3));clear c K X1 au HB HO F Q b3 V hf hst hrc;go_wp2;exact HC.out
 rw[Ak (by rw[hrc];decide)] at F
 rw[hrc];rintro e w3 ⟨rfl,b3⟩;replace V:=An V b3;replace X1:=X1.below b3;replace K:=K.below b3 K.lt;clear c b3 hrc;obtain⟨R,rfl⟩: ∃s:Nat,g=(s:Int):=⟨g.toNat,by have:=Ac hst;omega⟩
 have aP:R<=100:=by have:=Ac hst;omega
 simp only[Int.toNat_natCast] at F Q;clear hst;have cr:=Gf hf;have aL:=λW=>XF n lo hi dn W hf;have be:=λ(m:Int) (h1:lo<=m) (h2:m<=hi)=>J7 hf h1 h2;have bd:=Ai be;obtain⟨N,hN⟩: ∃N,(hi-lo).toNat=N:=⟨_,rfl⟩;have bl:Hid (hi=lo+(N:Int)):=by unfold Hid;omega
 have cp:N<=30:=Aa;rw[hN] at F Q HO;have a0:=Ai HO.out;unfold Nz at aL;rw[hN] at aL;clear hN hf be HO
 go_wp2_with fail
 refine(aL _).mono ?_;rintro e w4 ⟨FA,fc,rfl,RF,b4⟩;clear aL;replace V:=An V b4;replace X1:=X1.below b4;replace K:=K.below b4 K.lt;clear b4;have bk:Hid (∀C:Addr,FA=some C->C.block<w4.heap.size):=λC e=>RF.lt e Aa;have bV:w<w4.heap.size:=K.lt;obtain⟨B1,aU⟩: ∃B,w4.heap.size=B:=⟨_,rfl⟩;have a5:B1<=w4.heap.size:=Aa;rw[aU] at bk bV;clear aU
 go_wp2_with fail
 go_loopw [22,23] (λv i wr=> ∃(k:Nat) (H:Hd),k<=N∧i=.int .i64 ((k:Int)+1)∧v=.slice H.A H.n H.c∧H.n=k∧(∃L:List Int,fvL (fanR E I j n dn) lo R u t k=some L∧AR wr B1 1 H (ints L))∧B1<=wr.heap.size∧Blk wr w.heap.size 30 (CH A0 n0 c0 A1 n1 c1)∧Rd wr FA ((N+1)*3) (ints (fdL n dn lo (N+1)))∧M4 wr ⟨⟨A0,n0,c0⟩,⟨A1,n1,c1⟩⟩ E I∧Below w w wr) (λ_ i _=>N+1-(intOf i).toNat)
 case atStart=>exact⟨0,⟨none,0,0⟩,AZ _,rfl,rfl,rfl,⟨[],rfl,AR.nil _ _ _⟩,a5,K,RF,X1,V⟩
 case round=>
  clear K RF X1 V a5;obtain⟨k,⟨HA,f,hC⟩,hk,rfl,rfl,hh,⟨L,hL,O⟩,a5,K,RF,X,b⟩:=hrel;simp only at hh;subst hh
  by_cases cs:f<N
  ·have bo:(f:Int)+1<(N:Int)+1:=Aa;have bZ:(f:Int)<(N:Int)+1:=Aa;have aA:f<N+1:=Aa;have aB:f+1<N+1:=Aa;have bS:f+1<=1099511627776:=Aa;have u1:IntKind.i64.wrap ((f:Int)+1-1)=(f:Int):=by rw[show(f:Int)+1-1=f by omega];exact Ff _ Aa
   have u3:=Bg (f:Int);have u2:=Bg ((f:Int)+1+1);obtain⟨C,bT,Y,Z,aa⟩:=RF.three aA;obtain⟨_,bU,ab,ac,ae⟩:=RF.three aB;subst bT
   cases bU
   have e1:=LI n dn lo aA;have e2:=LI n dn lo aB;rw[show lo+((f+1:Nat):Int)=lo+(f:Int)+1 by omega] at e2
   rw[e1.1] at Y;rw[e1.2.1] at Z;rw[e1.2.2] at aa;rw[e2.1] at ab;rw[e2.2.1] at ac;rw[e2.2.2] at ae;have m1:=bd.out (lo+(f:Int)) Aa (by have:=bl.out;omega)
   have m2:=bd.out (lo+(f:Int)+1) Aa (by have:=bl.out;omega)
   have S:=Ai (dL HP.out.prof HP.out.src dn m1 m2);have aT:=au (fanR E I j n dn (lo+(f:Int))) (fanR E I j n dn (lo+(f:Int)+1)) R;have aq:Hid (fvL (fanR E I j n dn) lo R u t (f+1)=match fvL (fanR E I j n dn) lo R u t f with|none=>none|some L=>match dY (fanR E I j n dn (lo+(f:Int))) (fanR E I j n dn (lo+(f:Int)+1)) R u t with|none=>none|some v=>some (L++ [v])):=rfl
   rw[hL] at aq;simp only at aq;clear hL e1 e2 m1 m2;have q1:((f:Int)+1).toNat=f+1:=Aa;have q3:(0:Int)<=(f:Int)+1:=Aa;have eP:=K.cell;have az:=RF.lt rfl Aa;have af:(C.add (f*3)).block<wr.heap.size:=by rw[Aq];exact az
   have ag:(C.add ((f+1)*3)).block<wr.heap.size:=by rw[Aq];exact az
   have ar:=λ(W:World) (c:Below wr wr W)=>aT W ((X.below c).ray j n dn _) aP S.out rfl rfl;unfold EV GU fanR at ar;simp only at ar;clear aT
   go_upto_region 11 with fail
   have eP:(∀o,wr.cell? ⟨w,o,none⟩=((CH A0 n0 c0 A1 n1 c1):Array Value)[o]?):=eP
   by_cases ah:(fanR E I j n dn (lo+(f:Int))).tr R=none∨(fanR E I j n dn (lo+(f:Int)+1)).tr R=none
   ·have ax: ∀W,Below wr wr W->Calls prog 283 #[CH A0 n0 c0 A1 n1 c1,ZI j,Ziii (mkC (lo+(f:Int)) n) (mkS (lo+(f:Int)) n dn) (mkH (lo+(f:Int)) n),Ziii (mkC (lo+(f:Int)+1) n) (mkS (lo+(f:Int)+1) n dn) (mkH (lo+(f:Int)+1) n),ZI R] W λe J=>e=.returned (.tuple #[.pointer none,ZI 3])∧Below W W J:=λW c=>(ar W c).mono (by
     rintro e J (⟨_,rfl,b⟩|⟨gc,x,y,l,m,he,hs,ha,ke,ks,ka,h1,h2,_,_,_,_,_⟩)
     ·exact⟨rfl,b⟩
     ·exfalso
      rcases ah with h|h
      ·have:=h.symm.trans h1;cases this
      ·have:=h.symm.trans h2;cases this)
    have aw:=Ai (aq.out.trans (by rw[aQ ah]))
    clear ar aq ah S
    go_region_held3 (λJ=>(∀o,J.cell? ⟨w,o,none⟩=((CH A0 n0 c0 A1 n1 c1):Array Value)[o]?)∧J.cell? (C.add (f*3))=some (.int .i64 (mkC (lo+(f:Int)) n))∧J.cell? ⟨(C.add (f*3)).block,(C.add (f*3)).off+1,none⟩=some (.int .i64 (mkS (lo+(f:Int)) n dn))∧J.cell? ⟨(C.add (f*3)).block,(C.add (f*3)).off+2,none⟩=some (.int .i64 (mkH (lo+(f:Int)) n))∧J.cell? (C.add ((f+1)*3))=some (.int .i64 (mkC (lo+(f:Int)+1) n))∧J.cell? ⟨(C.add ((f+1)*3)).block,(C.add ((f+1)*3)).off+1,none⟩=some (.int .i64 (mkS (lo+(f:Int)+1) n dn))∧J.cell? ⟨(C.add ((f+1)*3)).block,(C.add ((f+1)*3)).off+2,none⟩=some (.int .i64 (mkH (lo+(f:Int)+1) n)))
     (first|(exact⟨eP,Y,Z,aa,ab,ac,ae⟩)|(exact⟨zP,aC,aD,aE,aF,aG,aH⟩))
     (first|(go_at_call 283;(with_reducible refine(ax _ Ax).mono ?_);rintro e u0 ⟨rfl,b6⟩;have M:Below wr wr u0:=(show Below wr wr _ from Ax).trans (b6.mono C9);have zP:(∀o,u0.cell? ⟨w,o,none⟩=((CH A0 n0 c0 A1 n1 c1):Array Value)[o]?):=λo=>(K.below M K.lt).cell o;have aC:=(M.cell (p:=C.add (f*3)) af).trans Y;have aD:=(M.cell (p:=⟨(C.add (f*3)).block,(C.add (f*3)).off+1,none⟩) af).trans Z;have aE:=(M.cell (p:=⟨(C.add (f*3)).block,(C.add (f*3)).off+2,none⟩) af).trans aa;have aF:=(M.cell (p:=C.add ((f+1)*3)) ag).trans ab;have aG:=(M.cell (p:=⟨(C.add ((f+1)*3)).block,(C.add ((f+1)*3)).off+1,none⟩) ag).trans ac;have aH:=(M.cell (p:=⟨(C.add ((f+1)*3)).block,(C.add ((f+1)*3)).off+2,none⟩) ag).trans ae))
    all_goals
     have HC:=Ai (HB.out 3 u0 (F.out.trans (by rw[Zr aw.out N Aa])) Ah (An b M))
     clear K O RF X b M b6 HB a0 F Q au eP zP aC aD aE aF aG aH Y Z aa ab ac ae ax;go_wp2;exact HC.out
   ·obtain⟨⟨x,l⟩,h1⟩: ∃z,(fanR E I j n dn (lo+(f:Int))).tr R=some z:=Option.ne_none_iff_exists'.1 (λh=>ah (Or.inl h));obtain⟨⟨y,m⟩,h2⟩: ∃z,(fanR E I j n dn (lo+(f:Int)+1)).tr R=some z:=Option.ne_none_iff_exists'.1 (λh=>ah (Or.inr h))
    have ax: ∀W,Below wr wr W->Calls prog 283 #[CH A0 n0 c0 A1 n1 c1,ZI j,Ziii (mkC (lo+(f:Int)) n) (mkS (lo+(f:Int)) n dn) (mkH (lo+(f:Int)) n),Ziii (mkC (lo+(f:Int)+1) n) (mkS (lo+(f:Int)+1) n dn) (mkH (lo+(f:Int)+1) n),ZI R] W λe J=> ∃gc:Nat,e=.returned (.tuple #[.pointer (some ⟨gc,0,none⟩),ZI 0])∧gE ⟨⟨A0,n0,c0⟩,⟨A1,n1,c1⟩⟩ (fanR E I j n dn (lo+(f:Int))) (fanR E I j n dn (lo+(f:Int)+1)) R l m W.heap.size gc J∧Below W W J:=λW c=>(ar W c).mono (by
     rintro e J (⟨bq,_,_⟩|⟨gc,x',y',l',m',he,hs,ha,ke,ks,ka,bQ,bR,rfl,KC,T,U,b⟩)
     ·exact absurd bq ah
     ·have e1:=h1.symm.trans bQ;have e2:=h2.symm.trans bR
      cases e1
      cases e2
      exact⟨gc,rfl,⟨he,hs,ha,ke,ks,ka,KC,T,U⟩,b⟩)
    have aw:=Ai (aq.out.trans (by rw[aR S.out.fr.ok S.out.fq.ok h1 h2]))
    have bY:=(S.out.fr.ok.tr_ok R x l h1).2.1;have b1:=(S.out.fq.ok.tr_ok R y m h2).2.1;clear ar aq ah S h1 h2
    go_region_held3 (λJ=>(∀o,J.cell? ⟨w,o,none⟩=((CH A0 n0 c0 A1 n1 c1):Array Value)[o]?)∧J.cell? (C.add (f*3))=some (.int .i64 (mkC (lo+(f:Int)) n))∧J.cell? ⟨(C.add (f*3)).block,(C.add (f*3)).off+1,none⟩=some (.int .i64 (mkS (lo+(f:Int)) n dn))∧J.cell? ⟨(C.add (f*3)).block,(C.add (f*3)).off+2,none⟩=some (.int .i64 (mkH (lo+(f:Int)) n))∧J.cell? (C.add ((f+1)*3))=some (.int .i64 (mkC (lo+(f:Int)+1) n))∧J.cell? ⟨(C.add ((f+1)*3)).block,(C.add ((f+1)*3)).off+1,none⟩=some (.int .i64 (mkS (lo+(f:Int)+1) n dn))∧J.cell? ⟨(C.add ((f+1)*3)).block,(C.add ((f+1)*3)).off+2,none⟩=some (.int .i64 (mkH (lo+(f:Int)+1) n)))
     (first|(exact⟨eP,Y,Z,aa,ab,ac,ae⟩)|(exact⟨zP,aC,aD,aE,aF,aG,aH⟩))
     (first|(go_at_call 283;(with_reducible refine(ax _ Ax).mono ?_);rintro e u0 ⟨gc,rfl,bK,b6⟩;have M:Below wr wr u0:=(show Below wr wr _ from Ax).trans (b6.mono C9);have zP:(∀o,u0.cell? ⟨w,o,none⟩=((CH A0 n0 c0 A1 n1 c1):Array Value)[o]?):=λo=>(K.below M K.lt).cell o;have aC:=(M.cell (p:=C.add (f*3)) af).trans Y;have aD:=(M.cell (p:=⟨(C.add (f*3)).block,(C.add (f*3)).off+1,none⟩) af).trans Z;have aE:=(M.cell (p:=⟨(C.add (f*3)).block,(C.add (f*3)).off+2,none⟩) af).trans aa;have aF:=(M.cell (p:=C.add ((f+1)*3)) ag).trans ab;have aG:=(M.cell (p:=⟨(C.add ((f+1)*3)).block,(C.add ((f+1)*3)).off+1,none⟩) ag).trans ac;have aH:=(M.cell (p:=⟨(C.add ((f+1)*3)).block,(C.add ((f+1)*3)).off+2,none⟩) ag).trans ae))
    all_goals
     obtain⟨he,hs,ha,ke,ks,ka,KC,T,U⟩:=bK;have bg:=PE ⟨⟨A0,n0,c0⟩,⟨A1,n1,c1⟩⟩ (fanR E I j n dn (lo+(f:Int))) (fanR E I j n dn (lo+(f:Int)+1)) he hs ha ke ks ka _ _ _ l m gc _ u t u0 KC T U Aa Aa rfl;generalize vdV (lastS (fanR E I j n dn (lo+(f:Int))) l) (lastS (fanR E I j n dn (lo+(f:Int)+1)) m) (decide (C2 l=C2 m)) (if C2 l=C2 m then Ej (BF l) (BF m) R else 0) (if C2 l=C2 m then Ei (BF l) (BF m) R else 0) u t=v at*;clear KC T U bY b1 b6 eP zP aC aD aE aF aG aH Y Z aa ab ac ae ax af ag az;have K2:=K.below M K.lt;have O2:=O.below M;have a2:=RF.below M;have b2:=An b M;have bP:=M;clear K O RF X b M
     go_wp2_with fail
     refine bg.mono ?_;rintro e w7 ⟨rfl,b7⟩;clear bg;replace K2:=K2.below b7 K2.lt;replace O2:=O2.below b7;replace a2:=a2.below b7;replace b2:=An b2 b7;have bO:=b7;clear b7;have al:Below w7 w7 (w7.alloc (.cells #[ZI v] 2)):=BU;have R1:=BD w7 v 2;have K3:=K2.below al K2.lt;have O3:=O2.below al;have bM:=a2.below al;have b3:=An b2 al;have br:B1<=(w7.alloc (.cells #[ZI v] 2)).heap.size:=by have h1:=bP.size;have h2:=bO.size;have h3:=al.size;omega
     go_wp2_with (at_builtin;refine Aj rfl _ _ 28 rfl 2 1 8 underlying28 AJ Ah B1 ⟨HA,f,hC⟩ _ rfl O3 _ 1 1 (ints [v]) rfl R1 (Ao _) bS Ah br ?_;intro G wg hn oG gg cq;have bJ:=Ai hn;clear hn)
     have a6:=O3.rowlt;have K4:=K3.grown gg (λe=>by have:=(a6 _ e).1;omega)
     have b4:=b3.grown gg b3.size (λq e=>by have:=(a6 q e).1;omega)
     have X4:M4 wg ⟨⟨A0,n0,c0⟩,⟨A1,n1,c1⟩⟩ E I:=HX.out.below b4;have bN:=bM.grown gg (λa e _ c=>by have:=(a6 _ c).1;have:=bk.out a e;omega)
     have bW:=Ch br gg.size
     go_roundw
     case rel=>exact⟨f+1,G,by omega,by first|rfl|(congr 1;omega)|go_num,rfl,bJ.out,⟨L++ [v],aw.out,by rw[js];exact oG⟩,bW,K4,bN,X4,b4⟩
     case measure=>simp[intOf];omega
  ·obtain rfl:N=f:=Aa;have bo: ¬(N:Int)+1<(N:Int)+1:=Aa;have aV:=F.out;have a1:=Q.out;rw[hL] at aV a1;have HC:=Ai (a0.out wr HA N hC L aV rfl a1 O.rd1 b);clear aV a1 hL O HB a0 F Q au K RF X b;go_wp2;exact HC.out
def RetOc (ρ:Int->Al) (kn:Nat) (n lo hi steps knot dist:Int) (w:World) (e:Ending) (w':World):Prop:=
 ∃H:Hd,e=.returned (.tuple (Gb H.A H.n H.c (ocC ρ kn n lo hi steps knot dist)))∧H.n=(ocL ρ kn n lo hi steps knot dist).length∧Rd w' H.A H.n (ints (ocL ρ kn n lo hi steps knot dist))∧Below w w w'
theorem Uy {ρ:Int->Al} {i:Nat} {n lo hi a g f c:Int} {L:List Int} {w w':World} {A:Option Addr} {m d:Nat} (k:ocC ρ i n lo hi a g f=c) (j:ocL ρ i n lo hi a g f=L) (l:m=L.length) (r:Rd w' A m (ints L)) (b:Below w w w'):
  RetOc ρ i n lo hi a g f w (.returned (.tuple (Gb A m d c))) w':=⟨⟨A,m,d⟩,by rw[k],by rw[j];exact l,by rw[j];exact r,b⟩
theorem WX {ρ:Int->Al} {d:Nat} {n lo hi a c b:Int} (h:ocC ρ d n lo hi a c b=0):Ds n lo hi=true:=by
 rcases jt (Ds n lo hi) with o|o
 ·exact o
 ·unfold ocC at h;rw[AA o] at h;cases h
theorem Ke (h:Ev) (l p:List Int) (j:Nat) (n lo hi a g f:Int) (dn:Bool) (w:World) (X:M4 w h l p) (P:UW l p j):
  Calls prog 184 #[EV h,ZI j,ZI n,ZI lo,ZI hi,.bool dn,ZI a,ZI g,ZI f] w (RetOc (fanR l p j n dn) l.length n lo hi a g f w):=by
 have x:=λ(W:World) (X:M4 W h l p)=>I8 h l p j n lo hi a g f dn W X P;unfold RetFv at x;have F:=λ(c:Int) (L:List Int) (T:World) (A:Option Addr) (m d:Nat)=> @Uy (fanR l p j n dn) l.length n lo hi a g f c L w T A m d;have R:=Ai F;have y:Hid (ocC (fanR l p j n dn) l.length n lo hi a g f≠0->ocL (fanR l p j n dn) l.length n lo hi a g f= []):=λC=>Ak C;have z:Hid (ocC (fanR l p j n dn) l.length n lo hi a g f=0->ocL (fanR l p j n dn) l.length n lo hi a g f=H4 lo (ocV (fanR l p j n dn) n lo hi a g f) (hi-lo).toNat):=λC=>AA C;have u:Hid (ocC (fanR l p j n dn) l.length n lo hi a g f=0->Ds n lo hi=true):=WX;generalize RetOc (fanR l p j n dn) l.length n lo hi a g f w=ay at*;generalize ocC (fanR l p j n dn) l.length n lo hi a g f=cd at*;generalize ocL (fanR l p j n dn) l.length n lo hi a g f=OL at*;generalize ocV (fanR l p j n dn) n lo hi a g f=t at*;clear F;have HX:=Ai X;clear X P;obtain⟨⟨A0,n0,c0⟩,⟨A1,n1,c1⟩⟩:=h;unfold EV at*;simp only at*;have J:Below w w (w.alloc (.cells (CH A0 n0 c0 A1 n1 c1) 30)):=BU;have K:=Br w 30 (CH A0 n0 c0 A1 n1 c1);have X1:=HX.out.below J
 go_enter func184,ntmps184
 go_upto_region 1 with fail
 generalize w.alloc _=w1 at*;have c:=K.cell
 go_wp2_with fail
 refine(x _ X1).mono ?_;clear x c K X1;rintro e U (⟨D,rfl,M⟩|⟨⟨VA,s,vc⟩,D,rfl,E,RV,M⟩)
 ·have b3:=An J M;have Z:=λ(A:Option Addr) (d:Nat) (T:World) (b:Below w w T)=>Ai (R.out cd [] T A 0 d rfl (y.out D) rfl (Rd.nil _ _) b);clear R y z u J M D
  go_wp2_with fail
  go_loopw [22,40] (λv i wr=>i=.int .i64 0∧v=.slice none 0 0∧Below w w wr) (λ_ _ _=>0)
  case atStart=>exact⟨rfl,rfl,b3⟩
  case round=>
   obtain⟨rfl,rfl,b⟩:=hrel;go_wp2;exact(Z none 0 wr b).out
 ·simp only at E RV⊢;have af:=Gf (u.out D);have N:=λk (hk:k<=s)=> @Nh lo t Aa Aa k Aa;have b3:=An J M;have B:=Ai (z.out D);rw[<-E] at B;have aG:s<=31:=Aa;have aE:1<=lo∧lo<=31:=Aa;have Y:=Ai N;subst D;clear y z u J M af E N
  go_wp2_with fail
  go_loopw [22,40] (λv i wr=> ∃(k:Nat) (H:Hd),k<=s∧i=.int .i64 k∧v=.slice H.A H.n H.c∧H.n=(H4 lo t k).length∧AR wr U.heap.size 1 H (ints (H4 lo t k))∧Below U U wr) (λ_ i _=>s-(intOf i).toNat)
  case atStart=>exact⟨0,⟨none,0,0⟩,AZ _,rfl,rfl,rfl,AR.nil _ _ _,AP _ _⟩
  case round=>
   obtain⟨k,⟨V,S,hC⟩,hk,rfl,rfl,C,O,b⟩:=hrel;simp only at C;have r:=Ai C;clear C
   by_cases ag:k<s
   ·have Q:(k:Int)<(s:Int):=Aa;obtain⟨_,hA,hx⟩:=(RV.below b).int ag;subst hA;have ad:S+1<=1099511627776:=by have:=r.out;have:=(Y.out k hk).1;omega
    have hz:=b.size;have HS:Hid (H4 lo t (k+1)=if t.getD k 0=0 then H4 lo t k else H4 lo t k++ [lo+(k:Int)]):=rfl;have u1:=Bg (lo+(k:Int));generalize t.getD k 0=v at*
    by_cases hv:v=0
    ·subst hv;have I:=Ai (HS.out.trans (AA rfl));go_wp2
     go_roundw
     case rel=>exact⟨k+1,⟨V,S,hC⟩,by omega,by go_num,rfl,by rw[I.out];exact r.out,by rw[I.out];exact O,b⟩
     case measure=>simp[intOf];omega
    ·have I:=Ai (HS.out.trans (Ak hv));have aF:(v !=0)=true:=by rw[bne_iff_ne];exact hv
     have R1:=BD wr (lo+(k:Int)) 2;have al:Below wr wr (wr.alloc (.cells #[ZI (lo+(k:Int))] 2)):=BU;have O1:=O.below al;have b4:=b.trans (al.mono hz);have ah:=b4.size
     go_wp2_with (at_builtin;refine Aj rfl _ _ 28 rfl 2 1 8 underlying28 AJ Ah U.heap.size ⟨V,S,hC⟩ _ rfl O1 _ 1 1 (ints [lo+(k:Int)]) rfl R1 (Ao _) ad Ah ah ?_;intro G wg E oG gg aD;have aa:=Ai E;clear E)
     have b5:=b4.grown gg b4.size (λq e=>by have:=(O1.rowlt q e).1;omega)
     go_roundw
     case rel=>exact⟨k+1,G,by omega,by go_num,rfl,by rw[I.out,aa.out,Dy,r.out];rfl,by rw[I.out,js];exact oG,b5⟩
     case measure=>simp[intOf];omega
   ·obtain rfl:s=k:=Aa;have Q: ¬(s:Int)<(s:Int):=Aa;have Z:=Ai (R.out 0 _ wr V S hC rfl B.out r.out O.rd1 (An b3 b));clear R B O b;go_wp2;exact Z.out
