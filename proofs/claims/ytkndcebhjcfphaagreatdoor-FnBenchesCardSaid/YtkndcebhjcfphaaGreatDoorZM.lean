import Derived.Test.YtkndcebhjcfphaaGreatDoorZL
namespace Go.Proofs.YtkndcebhjcfphaaGreatDoor
open Go.RowKit Go.Proofs.Tryz
set_option maxRecDepth 100000
set_option maxHeartbeats 4000000
set_option linter.all false
def YE (g:Am) (i:Nat):Int×Int×Int:=(g.counts.getD i 0,g.depths.getD (i*2) 0,g.depths.getD (i*2+1) 0)
def Mi (u:Int×Int×Int) (a b:Int):Int×Int×Int:=if u.1=0 then(u.1+1,a,b) else(u.1+1,min u.2.1 a,max u.2.2 b)
theorem Xe (c:List Int) (i k:Nat) (a b:Int) (hi:i*2+1<c.length):(IB c i a b).getD (k*2) 0=(if k=i then a else c.getD (k*2) 0)∧(IB c i a b).getD (k*2+1) 0=(if k=i then b else c.getD (k*2+1) 0):=by
 unfold IB;simp only[LK,List.length_set]
 by_cases h:k=i
 ·subst h
  constructor
  ·rw[Ak Aa,AA Aa,AA rfl]
  ·rw[AA Aa,AA rfl]
 ·constructor
  ·rw[Ak Aa,Ak Aa,Ak h]
  ·rw[Ak Aa,Ak Aa,Ak h]
theorem bC (cs c:List Int) (i k:Nat) (a b:Int) (hi:i*2+1<c.length):(MF cs c i a b).getD (k*2) 0=(if k=i then(if cs.getD i 0=0 then a else min (c.getD (i*2) 0) a) else c.getD (k*2) 0)∧(MF cs c i a b).getD (k*2+1) 0=(if k=i then(if cs.getD i 0=0 then b else max (c.getD (i*2+1) 0) b) else c.getD (k*2+1) 0):=by
 unfold MF
 by_cases d:cs.getD i 0=0
 ·simp only[AA d];exact Xe c i k a b hi
 ·simp only[Ak d];exact Xe c i k _ _ hi
theorem Zv {g:Am} {i:Nat} (k:Nat) {a b:Int} (hi:i<g.counts.length) (hd:g.depths.length=g.counts.length*2):YE (Jv g i a b 1) k=if k=i then Mi (YE g i) a b else YE g k:=by
 have S:=bC g.counts g.depths i k a b Aa;unfold YE Jv;simp only;rw[S.1,S.2,LK]
 by_cases h:k=i
 ·subst h;rw[AA ⟨rfl,hi⟩];simp only[if_true];unfold Mi;simp only
  by_cases d:g.counts.getD k 0=0
  ·simp only[AA d]
  ·simp only[Ak d]
 ·rw[Ak (λc=>h c.1.symm)];simp only[Ak h]
theorem bP {c x y a b:Int} (h:c=0):Mi (c,x,y) a b=(c+1,a,b):=by unfold Mi;rw[AA h]
theorem bO {c x y a b:Int} (h:c≠0):Mi (c,x,y) a b=(c+1,min x a,max y b):=by unfold Mi;rw[Ak h]
theorem cg {s:Int} {a b k:Nat} {g:Am} (G:GsI s a b k g) (hs:1<=s) (ha:1<=a) {x y:Int} (j:0<=x) (l:0<=y) (d r:Int) (i:Nat):
  YE (MK g x y d r) i=if 0<=Ey s a b x y∧i=(Ey s a b x y).toNat then Mi (YE g i) (d-r) (d+r) else YE g i:=by
 unfold MK;rw[G.size,G.wide,G.high]
 by_cases h:0<=Ey s a b x y
 ·have f:=NJ j l hs (show 1<=(a:Int) by omega) h
  rw[<-Int.natCast_mul] at f;rw[AA h,Zv i (by rw[G.cl];omega) (by rw[G.cl,G.dl])]
  by_cases hi:i=(Ey s a b x y).toNat
  ·rw[AA hi,AA ⟨h,hi⟩,hi]
  ·rw[Ak hi,Ak (λc=>hi c.2)]
 ·rw[Ak h,Ak (λc=>h c.1)]
theorem cf (s:Int) (a b i:Nat):YE (Jc s a b) i=(0,0,0):=by
 have h: ∀n j:Nat,(List.replicate n (0:Int)).getD j 0=0:=λn j=>by
  rw[DE,List.getElem?_replicate];split<;>rfl
 unfold YE Jc;simp only[h]
def fj (u:Int×Int×Int):Prop:=0<=u.1∧(u.1=0->u.2.1=0∧u.2.2=0)∧ -7000<=u.2.1∧u.2.1<=u.2.2∧u.2.2<=1005000
theorem bQ {u:Int×Int×Int} (h:fj u) {a b:Int} (f: -7000<=a) (g:a<=b) (i:b<=1005000):fj (Mi u a b):=by
 obtain⟨c,x,y⟩:=u;unfold fj at h⊢;simp only at h
 by_cases d:c=0
 ·rw[bP d];simp only;omega
 ·rw[bO d];simp only;omega
theorem aB {ys:List Int} {k:Nat} (h:Fk ys k=true):0<=ys.getD (k*4) 0∧0<=ys.getD (k*4+1) 0∧ -2000<=ys.getD (k*4+2) 0∧ys.getD (k*4+2) 0<=1000000∧0<=ys.getD (k*4+3) 0∧ys.getD (k*4+3) 0<=5000:=by
 unfold Fk DP at h;simp only[CD] at h;have a:=Ac h.1.1.1;have b:=Ac h.1.1.2;have c:=Ac h.1.2;have d:=Ac h.2;omega
theorem Zy {s:Int} {a b:Nat} {ys:List Int} {n:Nat} (hs:1<=s) (ha:1<=a) (d:Dg ys n=true) (i:Nat): ∀k,k<=n->fj (YE (gsTo s a b ys k) i)
 |0,_=>by
  show fj (YE (Jc s a b) i);rw[cf];exact⟨Int.le_refl 0,λ_=>⟨rfl,rfl⟩,by decide,by decide,by decide⟩
 |k+1,hk=>by
  have f:=Zy (b:=b) hs ha d i k Aa;have c:=aB (IC d (show k<n by omega))
  have e1:gsTo s a b ys (k+1)=MK (gsTo s a b ys k) (ys.getD (k*4) 0) (ys.getD (k*4+1) 0) (ys.getD (k*4+2) 0) (ys.getD (k*4+3) 0):=rfl;rw[e1,cg (Ip s a b ys k) hs ha c.1 c.2.1]
  split
  ·exact bQ f Aa Aa Aa
  ·exact f
theorem fA {s:Int} {a b:Nat} {ys:List Int} {n:Nat} (hs:1<=s) (c:s<=10000) (ha:1<=a) (d:a<=30) (j:1<=b) (f:b<=30) (i:Dg ys n=true) (l:n<=1048576):Dl (gsTo s a b ys n)=true:=by
 have G:=Ip s a b ys n;refine Xo.to ⟨by rw[G.size];exact hs,by rw[G.size];exact c,by rw[G.wide];omega,by rw[G.wide];omega,by rw[G.high];omega,by rw[G.high];omega,by rw[G.cl,G.wide,G.high,Int.natCast_mul],by rw[G.dl,G.cl],Vl λk _=> ?_⟩
 have h:=Zy (b:=b) hs ha i k n Bk;have g:=G.bd k;unfold fj YE at h;simp only at h;exact XI Aa Aa Aa Aa Aa h.2.1
theorem aC {ys:List Int} {n:Nat} (h: ∀k,k<n->Fk ys k=true):Dg ys n=true:=by
 unfold Dg;rw[List.all_eq_true];intro k a;exact h k (Eo.1 a)
structure GSt (w0:World) (B g10:Nat) (h:Bh) (gg:Am) (box:Array Value) (LA:Option Addr) (n:Nat) (ys:List Int) (W:World):Prop where
 X:Ag W (AO h gg)
 Y:AB W B (AO h gg)
 KB:Blk W g10 181 box
 KR:Blk W w0.heap.size 181 Fa
 R:Rd W LA (n*4) (ints ys)
 hb:Below w0 w0 W
 ne: ∀x∈Cf h,x≠some g10
 hB:w0<B
 yl: ∀bk,blkp LA (n*4)=some bk->bk<w0
section
variable {w0 : World} {B g10 n : Nat} {h : Bh} {gg gg' : Am} {box : Array Value} {LA : Option Addr} {ys : List Int} {W W' : World}
theorem GSt.bel (s:GSt w0 B g10 h gg box LA n ys W) (b:Below W W W'):GSt w0 B g10 h gg box LA n ys W':=
 ⟨s.X.below b,s.Y.below s.X b,s.KB.below b s.KB.lt,s.KR.below b s.KR.lt,s.R.below b,s.hb.trans (b.mono s.hb.size),s.ne,s.hB,s.yl⟩
theorem GSt.hi (s:GSt w0 B g10 h gg box LA n ys W):Hi (Cf h) B:=s.Y.hi
theorem GSt.tch (s:GSt w0 B g10 h gg box LA n ys W) (T:A9 W W' (Cf h)) (a:Ag W' (AO h gg')) (c:AB W' B (AO h gg')):GSt w0 B g10 h gg' box LA n ys W':=
 ⟨a,c,s.KB.touch T s.ne,s.KR.touch T (s.hi.ne s.hB),s.R.touch T (H7.up (B:=B) (Lo.cons (λb e=>Nat.lt_trans (s.yl b e) s.hB) (Lo.nil _)) s.hi),U2 s.hb T Bk (s.hi.mono (Nat.le_of_lt s.hB)),s.ne,s.hB,s.yl⟩
theorem GSt.cells {ad:Addr} {k:Nat} {x0 x1 x2 x3:Int} (s:GSt w0 B g10 h gg box (some ad) n ys W) (a:k<n) (e:ys.getD (k*4) 0=x0∧ys.getD (k*4+1) 0=x1∧ys.getD (k*4+2) 0=x2∧ys.getD (k*4+3) 0=x3):
  W.cell? (ad.add (k*4))=ZS x0∧W.cell? ⟨(ad.add (k*4)).block,(ad.add (k*4)).off+1,none⟩=ZS x1∧W.cell? ⟨(ad.add (k*4)).block,(ad.add (k*4)).off+2,none⟩=ZS x2∧W.cell? ⟨(ad.add (k*4)).block,(ad.add (k*4)).off+3,none⟩=ZS x3:=by
 obtain⟨g,e1,e2,i⟩:=e;subst g e1 e2 i;obtain⟨_,⟨⟩,b,c,d,f⟩:=s.R.fourS a;exact⟨b,c,d,f⟩
theorem GSt.cnt {a3 a4:Addr} {N c3 c4 q:Nat} {a:Int} (s:GSt w0 B g10 h gg box LA n ys W) (b:h=⟨⟨some a3,N,c3⟩,⟨some a4,N,c4⟩⟩) (c:q<N) (e:gg.counts.getD q 0=a):W.cell? (a3.add q)=ZS a:=by
 subst e;have r:=s.X.head;rw[b] at r;obtain⟨_,⟨⟩,d⟩:=Rd.int (k:=q) r c;exact d
end
theorem PL (s wd hg:Int) (LA:Option Addr) (n c:Nat) (ys:List Int) (w:World) (hn:n<=1048576) (hr:Rd w LA (n*4) (ints ys)):
  Calls prog 190 #[ZI s,ZI wd,ZI hg,.slice LA n c] w (GZ (UQ s wd hg ys n) (Qn s wd hg ys n) w):=by
 go_enter func190,ntmps190
 go_upto_region 1 with fail
 generalize hG:w.alloc _=w1;obtain⟨K,L⟩:=EX hG;clear hG;have g8:=K.lt
 go_wp2_with fail
 refine(De LA n c ys _ hn (hr.below L)).mono ?_;rintro e d ⟨rfl,b2⟩;replace K:=K.below b2 g8;replace L:=An L b2;replace g8:=K.lt;have e8:=K.cell;have f8:=K.frozen;clear b2;rcases jt (BJ ys n) with hsn|hsn
 rotate_left
 ·have HV:Hid (UQ s wd hg ys n=GT∧Qn s wd hg ys n=1):=by unfold Hid UQ Qn;rw[hsn];exact⟨rfl,rfl⟩
  rw[hsn];go_wp2;refine AS (v:=.tuple (Ew 0 0 0 none 0 0 none 0 0 1)) (by simp[results,results190,go_sem,e8]) rfl ?_
  rw[HV.out.1,HV.out.2];exact FE (by repeat(first|with_reducible exact L|refine Below.setCell ?_ (by simp<;>omega) _))
 rw[hsn]
 go_wp2_with fail
 refine(DF s wd hg _).mono ?_;rintro e w3 ⟨rfl,aV⟩;subst aV;rcases jt (DK s wd hg) with hsh|hsh
 rotate_left
 ·have HV:Hid (UQ s wd hg ys n=GT∧Qn s wd hg ys n=2):=by unfold Hid UQ Qn;rw[hsn,hsh];exact⟨rfl,rfl⟩
  rw[hsh];go_wp2;refine AS (v:=.tuple (Ew 0 0 0 none 0 0 none 0 0 2)) (by simp[results,results190,go_sem,e8]) rfl ?_
  rw[HV.out.1,HV.out.2];exact FE (by repeat(first|with_reducible exact L|refine Below.setCell ?_ (by simp<;>omega) _))
 rw[hsh];obtain⟨⟨s0,s1⟩,⟨aw,a9⟩,bS,bT⟩:=Fh hsh;obtain⟨a,rfl⟩: ∃a:Nat,wd=(a:Int):=⟨wd.toNat,by omega⟩
 obtain⟨b,rfl⟩: ∃b:Nat,hg=(b:Int):=⟨hg.toNat,by omega⟩
 have HV:Hid (UQ s a b ys n=gsTo s a b ys n∧Qn s a b ys n=0):=by unfold Hid UQ Qn;rw[hsn,hsh];exact⟨rfl,rfl⟩
 have F:Dg ys n=true∧n<=200:=by
  have:BJ ys n=(Dg ys n && decide ((n:Int)<=200)):=rfl;rw[this,CD,BP] at hsn;exact⟨hsn.1,by omega⟩
 have aE:=Ai F.1;have bY:=F.2;clear hsn F hsh e8 f8;have aR:=QZ (a:=a) (b:=b) Aa Aa;obtain⟨N,hN⟩: ∃N,a*b=N:=⟨_,rfl⟩;have hm:(a:Int)*(b:Int)=(N:Int):=by rw[<-Int.natCast_mul,hN]
 have bQ:1<=N:=by rw[<-hN];exact Nat.mul_pos Aa Aa
 have bR:N<=900:=Aa;have HN:Hid (N=a*b):=hN.symm;clear hN aR;have ao:=λW:World=>ER N Aa W;have an:=λW:World=>Lc N Aa W;have wn:=Bg (N:Int)
 go_upto_region 5 with fail
 go_cut [10] (λa7 wx=> ∃g10 Z b4:Nat,a7=.pointer (some ⟨g10,0,none⟩)∧AR wx d.heap.size 1 ⟨some ⟨Z,0,none⟩,N,N⟩ (ints (List.replicate N 0))∧AR wx d.heap.size 2 ⟨some ⟨b4,0,none⟩,N,N⟩ (ints (List.replicate (N*2) 0))∧Z≠b4∧Z≠g10∧b4≠g10∧Blk wx g10 181 (AH s a b (some ⟨Z,0,none⟩) N N (some ⟨b4,0,none⟩) N N)∧Below d d wx)
 case first=>
  go_region
  all_goals
   go_wp2_with fail
   go_meet
   clear ao an
  ·skip
   have f:=AR.made (W:=d) (B:=d.heap.size) (n:=N) C0 Aa 2;have f:=f.below ((AP _ _).alloc Bk (.cells (madeCells Cq (N*2)) 136));have f:=f.below ((AP _ _).alloc Bk (.cells (AH s a b (some ⟨d,0,none⟩) N N (some ⟨d+1,0,none⟩) N N) 181));have f:=f.below GJ;have i:=AR.made2 (W:=(d.alloc (.cells (madeCells #[ZI 0] N) 2))) (B:=d.heap.size) (n:=N) C0 Aa 136;rw[Ab] at i;have i:=i.below ((AP _ _).alloc Bk (.cells (AH s a b (some ⟨d,0,none⟩) N N (some ⟨d+1,0,none⟩) N N) 181));have i:=i.below GJ;have G:=Blk.drew (Blk.newN (g:=d+1+1) ((d.alloc (.cells (madeCells #[ZI 0] N) 2)).alloc (.cells (madeCells Cq (N*2)) 136)) 181 (AH s a b (some ⟨d,0,none⟩) N N (some ⟨d+1,0,none⟩) N N) Cr);exact⟨d.heap.size+1+1,d.heap.size,d.heap.size+1,rfl,f,i,by omega,by omega,by omega,G,CO ((((AP _ _).alloc Bk _).alloc Cr _).alloc C0 _)⟩
  ·skip
   have f:=AR.made (W:=d) (B:=d.heap.size) (n:=N) C0 Aa 2;have f:=f.below ((AP _ _).alloc Bk (.cells (AH s a b (some ⟨d,0,none⟩) N N (some ⟨d+1+1,0,none⟩) N N) 181));have f:=f.below ((AP _ _).alloc Bk (.cells (madeCells Cq (N*2)) 136));have f:=f.below GJ;have i:=AR.made2 (W:=((d.alloc (.cells (madeCells #[ZI 0] N) 2)).alloc (.cells (AH s a b (some ⟨d,0,none⟩) N N (some ⟨d+1+1,0,none⟩) N N) 181))) (B:=d.heap.size) (n:=N) C0 Aa 136;rw[Ab,Ab] at i;have i:=i.below GJ;have G:=Blk.drew ((Blk.newN (g:=d+1) (d.alloc (.cells (madeCells #[ZI 0] N) 2)) 181 (AH s a b (some ⟨d,0,none⟩) N N (some ⟨d+1+1,0,none⟩) N N) Cr).alloc (.cells (madeCells Cq (N*2)) 136));exact⟨d.heap.size+1,d.heap.size,d.heap.size+1+1,rfl,f,i,by omega,by omega,by omega,G,CO ((((AP _ _).alloc Bk _).alloc Cr _).alloc C0 _)⟩
  ·skip
   have f:=AR.made (W:=(d.alloc (.cells (madeCells Cq (N*2)) 136))) (B:=d.heap.size) (n:=N) C0 Aa 2;rw[Ab] at f;have f:=f.below ((AP _ _).alloc Bk (.cells (AH s a b (some ⟨d+1,0,none⟩) N N (some ⟨d,0,none⟩) N N) 181));have f:=f.below GJ;have i:=AR.made2 (W:=d) (B:=d.heap.size) (n:=N) C0 Aa 136;have i:=i.below ((AP _ _).alloc Bk (.cells (madeCells #[ZI 0] N) 2));have i:=i.below ((AP _ _).alloc Bk (.cells (AH s a b (some ⟨d+1,0,none⟩) N N (some ⟨d,0,none⟩) N N) 181));have i:=i.below GJ;have G:=Blk.drew (Blk.newN (g:=d+1+1) ((d.alloc (.cells (madeCells Cq (N*2)) 136)).alloc (.cells (madeCells #[ZI 0] N) 2)) 181 (AH s a b (some ⟨d+1,0,none⟩) N N (some ⟨d,0,none⟩) N N) Cr);exact⟨d.heap.size+1+1,d.heap.size+1,d.heap.size,rfl,f,i,by omega,by omega,by omega,G,CO ((((AP _ _).alloc Bk _).alloc Cr _).alloc C0 _)⟩
  ·skip
   have f:=AR.made (W:=((d.alloc (.cells (madeCells Cq (N*2)) 136)).alloc (.cells (AH s a b (some ⟨d+1+1,0,none⟩) N N (some ⟨d,0,none⟩) N N) 181))) (B:=d.heap.size) (n:=N) C0 Aa 2;rw[Ab,Ab] at f;have f:=f.below GJ;have i:=AR.made2 (W:=d) (B:=d.heap.size) (n:=N) C0 Aa 136;have i:=i.below ((AP _ _).alloc Bk (.cells (AH s a b (some ⟨d+1+1,0,none⟩) N N (some ⟨d,0,none⟩) N N) 181));have i:=i.below ((AP _ _).alloc Bk (.cells (madeCells #[ZI 0] N) 2));have i:=i.below GJ;have G:=Blk.drew ((Blk.newN (g:=d+1) (d.alloc (.cells (madeCells Cq (N*2)) 136)) 181 (AH s a b (some ⟨d+1+1,0,none⟩) N N (some ⟨d,0,none⟩) N N) Cr).alloc (.cells (madeCells #[ZI 0] N) 2));exact⟨d.heap.size+1,d.heap.size+1+1,d.heap.size,rfl,f,i,by omega,by omega,by omega,G,CO ((((AP _ _).alloc Bk _).alloc Cr _).alloc C0 _)⟩
  ·skip
   have f:=AR.made (W:=(d.alloc (.cells (AH s a b (some ⟨d+1,0,none⟩) N N (some ⟨d+1+1,0,none⟩) N N) 181))) (B:=d.heap.size) (n:=N) C0 Aa 2;rw[Ab] at f;have f:=f.below ((AP _ _).alloc Bk (.cells (madeCells Cq (N*2)) 136));have f:=f.below GJ;have i:=AR.made2 (W:=((d.alloc (.cells (AH s a b (some ⟨d+1,0,none⟩) N N (some ⟨d+1+1,0,none⟩) N N) 181)).alloc (.cells (madeCells #[ZI 0] N) 2))) (B:=d.heap.size) (n:=N) C0 Aa 136;rw[Ab,Ab] at i;have i:=i.below GJ;have G:=Blk.drew (((Blk.newN (g:=d) d 181 (AH s a b (some ⟨d+1,0,none⟩) N N (some ⟨d+1+1,0,none⟩) N N) Cr).alloc (.cells (madeCells #[ZI 0] N) 2)).alloc (.cells (madeCells Cq (N*2)) 136));exact⟨d.heap.size,d.heap.size+1,d.heap.size+1+1,rfl,f,i,by omega,by omega,by omega,G,CO ((((AP _ _).alloc Bk _).alloc Cr _).alloc C0 _)⟩
  ·skip
   have f:=AR.made (W:=((d.alloc (.cells (AH s a b (some ⟨d+1+1,0,none⟩) N N (some ⟨d+1,0,none⟩) N N) 181)).alloc (.cells (madeCells Cq (N*2)) 136))) (B:=d.heap.size) (n:=N) C0 Aa 2;rw[Ab,Ab] at f;have f:=f.below GJ;have i:=AR.made2 (W:=(d.alloc (.cells (AH s a b (some ⟨d+1+1,0,none⟩) N N (some ⟨d+1,0,none⟩) N N) 181))) (B:=d.heap.size) (n:=N) C0 Aa 136;rw[Ab] at i;have i:=i.below ((AP _ _).alloc Bk (.cells (madeCells #[ZI 0] N) 2));have i:=i.below GJ;have G:=Blk.drew (((Blk.newN (g:=d) d 181 (AH s a b (some ⟨d+1+1,0,none⟩) N N (some ⟨d+1,0,none⟩) N N) Cr).alloc (.cells (madeCells Cq (N*2)) 136)).alloc (.cells (madeCells #[ZI 0] N) 2));exact⟨d.heap.size,d.heap.size+1+1,d.heap.size+1,rfl,f,i,by omega,by omega,by omega,G,CO ((((AP _ _).alloc Bk _).alloc Cr _).alloc C0 _)⟩
 case rest=>
 obtain⟨g10,Z,b4,rfl,f,i,bP,aP,aQ,M,b5⟩:=hcut;obtain⟨w5,rfl⟩: ∃x:World,x=wc:=⟨_,rfl⟩;have A:w<d.heap.size:=g8;replace L:=An L b5;replace K:=K.below b5 g8;clear b5 g8 ao an hm;obtain⟨r,ab⟩: ∃r:Addr,r=⟨Z,0,none⟩:=⟨_,rfl⟩;obtain⟨t,ac⟩: ∃t:Addr,t=⟨b4,0,none⟩:=⟨_,rfl⟩;have bU:r.block=Z:=by rw[ab]
 have bV:t.block=b4:=by rw[ac]
 rw[<-ab] at f M;rw[<-ac] at i M;clear ab ac
 have ow:Bu w5 d.heap.size ⟨⟨some r,N,N⟩,⟨some t,N,N⟩⟩ (Jc s a b):=⟨by unfold Jc;rw[<-HN.out];exact f,by unfold Jc;rw[<-HN.out];exact i,Dx.cons (λx hx y hy bb e e2=>by
  rw[DD.1 hx] at e;rw[DD.1 hy] at e2;obtain⟨_,u1,q1,q2⟩:=Hd.row_some e;obtain⟨_,u2,q3,q4⟩:=Hd.row_some e2
  cases q1
  cases q3
  omega) (Dx.one _)⟩
 have X5:=ow.rd;have Y5:=ow.wr;have SP:=ow.sp
 have T: ∀x∈Cf ⟨⟨some r,N,N⟩,⟨some t,N,N⟩⟩,x≠some g10:=λx hx e=>by
  unfold Cf at hx;simp only[CC,I5,or_false] at hx;rcases hx with rfl|rfl
  ·obtain⟨_,q1,_,q2⟩:=Df e
   cases q1
   omega
  ·obtain⟨_,q1,_,q2⟩:=Df e
   cases q1
   omega
 clear ow f i aP aQ;have RY:=hr.below L;have au: ∀bk,blkp LA (n*4)=some bk->bk<w:=hr.rowlt;obtain⟨h,hh⟩: ∃h:Bh,h=⟨⟨some r,N,N⟩,⟨some t,N,N⟩⟩:=⟨_,rfl⟩;have ap: ∀x∈Cf h,x≠some g10:=by rw[hh];exact T
 have X6:Ag w5 (AO h (gsTo s a b ys 0)):=by rw[hh];exact X5
 have Y6:AB w5 d.heap.size (AO h (gsTo s a b ys 0)):=by rw[hh];exact Y5
 have U:Dx (Cf h):=by rw[hh];exact SP
 have ok:Cl h:=by rw[hh];exact⟨by simp only;omega,by simp only;omega⟩
 have HH:=Ai hh;clear X5 Y5 SP T hh hr
 go_wp2_with fail
 go_loopw [40] (λaf wr=> ∃k:Nat,k<=n∧af=.int .i64 k∧Ag wr (AO h (gsTo s a b ys k))∧AB wr d.heap.size (AO h (gsTo s a b ys k))∧Blk wr g10 181 (AH s a b (some r) N N (some t) N N)∧Blk wr w.heap.size 181 Fa∧Rd wr LA (n*4) (ints ys)∧Below w w wr)
  (λaf _=>n-(intOf af).toNat)
 case atStart=>exact⟨0,AZ _,rfl,X6,Y6,M,K,RY,L⟩
 case round=>
  obtain⟨k,hk,rfl,X,Y,KB,KR,R,hb⟩:=hrel;clear X6 Y6 M K RY L;have J:=Ip s a b ys k;have cB:=KB.cell
  by_cases am:k<n
  ·obtain⟨ad,rfl,d0,d1,d2,d3⟩:=R.fourS am;have bA:(k:Int)<(n:Int):=Aa;have bz:(0:Int)<=(k:Int):=Aa
   have bw:(ad.add (k*4)).block<w.heap.size:=by
    rw[Aq];exact au _ (by unfold blkp;rw[Ak Aa];rfl)
   have ag:Hid (gsTo s a b ys (k+1)=MK (gsTo s a b ys k) (ys.getD (k*4) 0) (ys.getD (k*4+1) 0) (ys.getD (k*4+2) 0) (ys.getD (k*4+3) 0)):=rfl;have z:DP (ys.getD (k*4) 0) (ys.getD (k*4+1) 0) (ys.getD (k*4+2) 0) (ys.getD (k*4+3) 0)=true:=IC aE.out am;generalize a0:ys.getD (k*4) 0=H at*;generalize a1:ys.getD (k*4+1) 0=I at*;generalize a2:ys.getD (k*4+2) 0=m at*;generalize a5:ys.getD (k*4+3) 0=p at*;clear a0 a1 a2 a5
   have j:((0<=H∧H<=10000)∧(0<=I∧I<=10000))∧(-2000<=m∧m<=1000000)∧0<=p∧p<=5000:=by
    unfold DP at z;simp only[CD] at z;exact⟨⟨Ac z.1.1.1,Ac z.1.1.2⟩,Ac z.1.2,Ac z.2⟩
   clear z;generalize gsTo s a b ys k=gg at*;have HP:Hid (MK gg H I m p=if 0<=Ey s a b H I then Jv gg (Ey s a b H I).toNat (m-p) (m+p) 1 else gg):=by unfold Hid MK;rw[J.size,J.wide,J.high]
   have hcb:=NJ (s:=s) (wd:=a) (hg:=b) j.1.1.1 j.1.2.1 s0 aw;have E:=λW=>Rq s a b H I (.slice (some r) N N) (.slice (some t) N N) W s0 s1 aw a9 j.1.1.1 j.1.1.2 j.1.2.1 j.1.2.2 ⟨_,_,_,rfl⟩ ⟨_,_,_,rfl⟩;generalize C:Ey s a b H I=ci at*;clear C;have ai:GSt w d.heap.size g10 h gg (AH s a b (some r) N N (some t) N N) (some ad) n ys wr:=⟨X,Y,KB,KR,R,hb,ap,A,au⟩;have aq: ∀x∈Cf h,x≠some wr.heap.size:=(X.lo).ne Bk;clear X Y KB KR R hb
   go_upto_region 9 with fail
   have Q:=Br wr 65 (Ziiii H I m p);have O:=ai.bel ((AP _ _).alloc Bk (.cells (Ziiii H I m p) 65));clear ai d0 d1 d2 d3 cB;generalize wr.alloc _=w6 at Q O⊢;generalize wr.heap.size=gs at Q aq⊢;have cB:=λo=>O.KB.cell o;have cS:=Q.cell
   go_wp2_with fail
   refine(E _).mono ?_;rintro e w7 ⟨rfl,b7⟩;have S:=O.bel b7;replace Q:=Q.below b7 Q.lt;clear b7 O E cB cS
   by_cases C:0<=ci
   rotate_left
   ·have D:Hid (gsTo s a b ys (k+1)=gg):=by show _=_;rw[ag.out,HP.out,Ak C]
    have bx:decide (0<=ci)=false:=BR C
    go_wp2_with fail
    go_roundw
    case rel=>exact⟨k+1,by omega,by go_num,by rw[D.out];exact S.X,by rw[D.out];exact S.Y,S.KB,S.KR,S.R,S.hb⟩
    case measure=>simp[intOf];omega
   obtain⟨q,rfl⟩: ∃q:Nat,ci=(q:Int):=⟨ci.toNat,by omega⟩
   have aU:q<N:=by have h1:=hcb C;rw[<-Int.natCast_mul] at h1;have:=HN.out;omega
   have D:Hid (gsTo s a b ys (k+1)=Jv gg q (m-p) (m+p) 1):=by show _=_;rw[ag.out,HP.out,AA C,Int.toNat_natCast]
   have GB:=J.bd q;have e5:Bd h gg=.agg (AH s a b (some r) N N (some t) N N):=by unfold Bd;rw[J.size,J.wide,J.high,HH.out]
   have al: ∀W,GSt w d.heap.size g10 h gg (AH s a b (some r) N N (some t) N N) (some ad) n ys W->Calls prog 238 #[AH s a b (some r) N N (some t) N N,ZI q,Zii (m-p) (m+p),ZI 1] W (Nv d.heap.size h (Jv gg q (m-p) (m+p) 1) W):=λW s=>by
    have:=Tt d.heap.size h gg q (m-p) (m+p) 1 W ok (by rw[HH.out]) (by rw[HH.out];exact aU) s.X s.Y U Aa Aa Ah Ah
    rw[e5] at this;exact this
   clear e5;have SD:=S.bel GJ;have ah:=Blk.drew Q;have aT:=CW H I m p w7.drew j.2.1.1 j.2.1.2 j.2.2.1 j.2.2.2
   go_upto_region 11 with fail
   have tb:=λo=>S.KB.cell o;have ts:=Q.cell
   go_region_held3 (λw'=>(∀o,w'.cell? ⟨g10,o,none⟩=((AH s a b (some r) N N (some t) N N):Array Value)[o]?)∧(∀o,w'.cell? ⟨gs,o,none⟩=((Ziiii H I m p):Array Value)[o]?))
    (exact bj)
    (first
     |(go_at_call 232;(with_reducible refine aT.mono ?_);rintro e u ⟨rfl,b8⟩;have SU:=SD.bel b8;have KU:=ah.below b8 ah.lt;have yb:=λo=>SU.KB.cell o;have ca:=KU.cell)
     |(go_at_call 238;(with_reducible refine(al _ SU).mono ?_);rintro e v ⟨rfl,XV,YV,TV⟩;have V:=SU.tch TV XV YV;have KV:=KU.touch TV aq;have vb:=λo=>V.KB.cell o;have vs:=KV.cell))
   go_wp2_with fail
   go_roundw
   case rel=>exact⟨k+1,by omega,by go_num,by rw[D.out];exact V.X,by rw[D.out];exact V.Y,V.KB,V.KR,V.R,V.hb⟩
   case measure=>simp[intOf];omega
  ·obtain rfl:n=k:=Aa;have e8:=KR.cell;have f8:=KR.frozen;rw[HH.out] at X Y U;have a6:w<=d.heap.size:=Nat.le_of_lt A;have aN:=J.size;have aO:=J.wide;have aM:=J.high;have l:=Y.hi;go_wp2;refine AS (v:=.tuple (Ew s a b (some r) N N (some t) N N 0)) (by simp[results,results190,go_sem,e8]) rfl ?_
   rw[HV.out.1,HV.out.2];refine⟨⟨⟨some r,N,N⟩,⟨some t,N,N⟩⟩,by unfold Bd;rw[aN,aO,aM],⟨by simp only;omega,by simp only;omega⟩,?_,?_,U,?_⟩
   ·exact((((X.cell_ (l.ne A)).cell_ (l.ne A)).cell_ (l.ne A)).cell_ (l.ne A)).cell_ (l.ne A)
   ·exact(Y.lower a6).cell_.cell_.cell_.cell_.cell_
   ·repeat(first|with_reducible exact hb|refine Below.setCell ?_ (by simp<;>omega) _)
theorem P7 (s wd hg:Int) (LA:Option Addr) (n c:Nat) (ys:List Int) (w:World) (hn:n<=1048576) (hr:Rd w LA (n*4) (ints ys)):
  Calls prog 173 #[ZI s,ZI wd,ZI hg,.slice LA n c] w (GZ (UQ s wd hg ys n) (Qn s wd hg ys n) w):=by
 go_enter func173,ntmps173
 go_upto_region 1 with fail
 generalize hG:w.alloc _=w1;obtain⟨y,D⟩:=EX hG;clear hG;have g8:=y.lt
 go_wp2_with fail
 refine(Dh LA n c ys _ hn (hr.below D)).mono ?_;rintro e G ⟨rfl,b2⟩;replace y:=y.below b2 g8;replace D:=An D b2;replace g8:=y.lt;have e8:=y.cell;have f8:=y.frozen;clear b2;rcases jt (BJ ys n) with hsn|hsn
 rotate_left
 ·have HV:Hid (UQ s wd hg ys n=GT∧Qn s wd hg ys n=1):=by unfold Hid UQ Qn;rw[hsn];exact⟨rfl,rfl⟩
  rw[hsn];go_wp2;refine AS (v:=.tuple (Ew 0 0 0 none 0 0 none 0 0 1)) (by simp[results,results173,go_sem,e8]) rfl ?_
  rw[HV.out.1,HV.out.2];exact FE (by repeat(first|with_reducible exact D|refine Below.setCell ?_ (by simp<;>omega) _))
 rw[hsn]
 go_wp2_with fail
 refine(Fj s wd hg _).mono ?_;rintro e w3 ⟨rfl,a9⟩;subst a9;rcases jt (DK s wd hg) with hsh|hsh
 rotate_left
 ·have HV:Hid (UQ s wd hg ys n=GT∧Qn s wd hg ys n=2):=by unfold Hid UQ Qn;rw[hsn,hsh];exact⟨rfl,rfl⟩
  rw[hsh];go_wp2;refine AS (v:=.tuple (Ew 0 0 0 none 0 0 none 0 0 2)) (by simp[results,results173,go_sem,e8]) rfl ?_
  rw[HV.out.1,HV.out.2];exact FE (by repeat(first|with_reducible exact D|refine Below.setCell ?_ (by simp<;>omega) _))
 rw[hsh];obtain⟨⟨s0,s1⟩,⟨aD,bb⟩,bW,bX⟩:=Fh hsh;obtain⟨a,rfl⟩: ∃a:Nat,wd=(a:Int):=⟨wd.toNat,by omega⟩
 obtain⟨b,rfl⟩: ∃b:Nat,hg=(b:Int):=⟨hg.toNat,by omega⟩
 have HV:Hid (UQ s a b ys n=gsTo s a b ys n∧Qn s a b ys n=0):=by unfold Hid UQ Qn;rw[hsn,hsh];exact⟨rfl,rfl⟩
 have Q:Dg ys n=true∧n<=200:=by
  have:BJ ys n=(Dg ys n && decide ((n:Int)<=200)):=rfl;rw[this,CD,BP] at hsn;exact⟨hsn.1,by omega⟩
 have aO:=Ai Q.1;have bZ:=Q.2;clear hsn Q hsh e8 f8
 go_wp2_with fail
 refine(Vw s a b _ Aa Aa).mono ?_;rintro e w4 ⟨⟨⟨A3,N,c3⟩,⟨A4,N',c4⟩⟩,rfl,hN,au,ow,b4⟩;simp only at hN au;obtain rfl:N=N':=Aa;have a6:=QZ (a:=a) (b:=b) Aa Aa;have bU:1<=N:=by rw[hN];exact Nat.mul_pos Aa Aa
 have bV:N<=900:=Aa;have HN:=Ai hN;clear hN au a6;have X:=ow.rd;have Y:=ow.wr;have SP:=ow.sp;obtain⟨g,-,rfl,-,-⟩:=X.head.at_ (k:=0) Aw;obtain⟨p,-,rfl,-,-⟩:=X.tail.head.at_ (k:=0) Aw;have x:w<G.heap.size:=g8;replace y:=y.below b4 g8;replace D:=An D b4;replace g8:=y.lt;clear b4 ow;unfold Bd Jc;simp only
 go_upto_region 6 with fail
 have V:=Br w4 181 (AH s a b (some g) N c3 (some p) N c4);have b5:Below w4 w4 (w4.alloc (.cells (AH s a b (some g) N c3 (some p) N c4) 181)):=BU;have ae:=(X.lo).mono Bk;have X5:=X.below b5;have Y5:=Y.below X b5;replace D:=An D b5;replace y:=y.below b5 g8;clear X Y b5 g8;generalize w4.alloc _=w5 at y V X5 Y5 D⊢
 have bz:G<=w4.heap.size:=by
  have:=ae _ (C5 ..) g.block (by unfold Sl.row blkp;rw[Ak Aw];rfl)
  have:=Y5.hi _ (C5 ..) g.block (by unfold Sl.row blkp;rw[Ak Aw];rfl)
  omega
 generalize w4.heap.size=g10 at*;have RY:=hr.below D;have aC: ∀bk,blkp LA (n*4)=some bk->bk<w:=hr.rowlt;obtain⟨h,hh⟩: ∃h:Bh,h=⟨⟨some g,N,c3⟩,⟨some p,N,c4⟩⟩:=⟨_,rfl⟩;have ax:Lo (Cf h) g10:=by rw[hh];exact ae
 have X6:Ag w5 (AO h (gsTo s a b ys 0)):=by rw[hh];exact X5
 have Y6:AB w5 G.heap.size (AO h (gsTo s a b ys 0)):=by rw[hh];exact Y5
 have T:Dx (Cf h):=by rw[hh];exact SP
 have ok:Cl h:=by rw[hh];exact⟨by simp only;omega,by simp only;omega⟩
 have H:=Ai hh;clear X5 Y5 SP ae hh hr
 go_wp2_with fail
 go_loopw [11] (λaf wr=> ∃k:Nat,k<=n∧af=.int .i64 k∧Ag wr (AO h (gsTo s a b ys k))∧AB wr G.heap.size (AO h (gsTo s a b ys k))∧Blk wr g10 181 (AH s a b (some g) N c3 (some p) N c4)∧Blk wr w.heap.size 181 Fa∧Rd wr LA (n*4) (ints ys)∧Below w w wr)
  (λaf _=>n-(intOf af).toNat)
 case atStart=>exact⟨0,AZ _,rfl,X6,Y6,V,y,RY,D⟩
 case round=>
  obtain⟨k,hk,rfl,X,Y,KB,KR,R,hb⟩:=hrel;clear X6 Y6 V y RY D;have S:=Ip s a b ys k;have cB:=KB.cell
  by_cases O:k<n
  ·obtain⟨L,rfl,d0,d1,d2,d3⟩:=R.fourS O;have bB:(k:Int)<(n:Int):=Aa;have bA:(0:Int)<=(k:Int):=Aa
   have bw:(L.add (k*4)).block<w.heap.size:=by
    rw[Aq];exact aC _ (by unfold blkp;rw[Ak Aa];rfl)
   have am:Hid (gsTo s a b ys (k+1)=MK (gsTo s a b ys k) (ys.getD (k*4) 0) (ys.getD (k*4+1) 0) (ys.getD (k*4+2) 0) (ys.getD (k*4+3) 0)):=rfl;have t:DP (ys.getD (k*4) 0) (ys.getD (k*4+1) 0) (ys.getD (k*4+2) 0) (ys.getD (k*4+3) 0)=true:=IC aO.out O;generalize ay:ys.getD (k*4) 0=x0 at*;generalize az:ys.getD (k*4+1) 0=x1 at*;generalize aA:ys.getD (k*4+2) 0=x2 at*;generalize aB:ys.getD (k*4+3) 0=d at*;have HX:=Ai (And.intro ay (And.intro az (And.intro aA aB)));clear ay az aA aB
   have f:((0<=x0∧x0<=10000)∧(0<=x1∧x1<=10000))∧(-2000<=x2∧x2<=1000000)∧0<=d∧d<=5000:=by
    unfold DP at t;simp only[CD] at t;exact⟨⟨Ac t.1.1.1,Ac t.1.1.2⟩,Ac t.1.2,Ac t.2⟩
   clear t;generalize gsTo s a b ys k=gg at*;have HP:Hid (MK gg x0 x1 x2 d=if 0<=Ey s a b x0 x1 then Jv gg (Ey s a b x0 x1).toNat (x2-d) (x2+d) 1 else gg):=by unfold Hid MK;rw[S.size,S.wide,S.high]
   have hcb:=NJ (s:=s) (wd:=a) (hg:=b) f.1.1.1 f.1.2.1 s0 aD;have M:=λW=>Sz s a b x0 x1 (.slice (some g) N c3) (.slice (some p) N c4) W s0 s1 aD bb f.1.1.1 f.1.1.2 f.1.2.1 f.1.2.2 ⟨_,_,_,rfl⟩ ⟨_,_,_,rfl⟩;generalize F:Ey s a b x0 x1=ci at*;clear F
   go_upto_region 9 with fail
   go_still_tail 11,We51ceQ
   have Xd:Ag wr.drew (AO h gg):=X.below GJ;have Yd:AB wr.drew G.heap.size (AO h gg):=Y.below X GJ;have A:=Blk.drew KB;have C:=Blk.drew KR;have J:Rd wr.drew (some L) (n*4) (ints ys):=R.below GJ;have j:Below w w wr.drew:=CO hb;change wpList _ _ _ _ _ wr.drew;clear X Y KB KR R hb d0 d1 d2 d3 cB;generalize wr.drew=w6 at Xd Yd A C J j⊢
   go_wp2_with fail
   refine(M _).mono ?_;rintro e w7 ⟨rfl,Z⟩;replace Yd:=Yd.below Xd Z;replace Xd:=Xd.below Z;replace A:=A.below Z A.lt;replace C:=C.below Z C.lt;replace J:=J.below Z;replace j:=An j Z;clear Z M
   by_cases F:0<=ci
   rotate_left
   ·have I:Hid (gsTo s a b ys (k+1)=gg):=by show _=_;rw[am.out,HP.out,Ak F]
    have bx:decide (0<=ci)=false:=BR F
    go_wp2_with fail
    go_roundw
    case rel=>exact⟨k+1,by omega,by go_num,by rw[I.out];exact Xd,by rw[I.out];exact Yd,A,C,J,j⟩
    case measure=>simp[intOf];omega
   obtain⟨q,rfl⟩: ∃q:Nat,ci=(q:Int):=⟨ci.toNat,by omega⟩
   have r:q<N:=by have h1:=hcb F;rw[<-Int.natCast_mul] at h1;have:=HN.out;omega
   have I:Hid (gsTo s a b ys (k+1)=Jv gg q (x2-d) (x2+d) 1):=by show _=_;rw[am.out,HP.out,AA F,Int.toNat_natCast]
   have ST:GSt w G.heap.size g10 h gg (AH s a b (some g) N c3 (some p) N c4) (some L) n ys w7:=⟨Xd,Yd,A,C,J,j,ax.ne Bk,x,aC⟩;have GB:=S.bd q;obtain⟨E,ab⟩: ∃E,gg.counts.getD q 0=E:=⟨_,rfl⟩;rw[ab] at GB;have z:=Ai ab;clear ab;have e5:Bd h gg=.agg (AH s a b (some g) N c3 (some p) N c4):=by unfold Bd;rw[S.size,S.wide,S.high,H.out]
   have U: ∀W,GSt w G.heap.size g10 h gg (AH s a b (some g) N c3 (some p) N c4) (some L) n ys W->Calls prog 221 #[AH s a b (some g) N c3 (some p) N c4,ZI q,.bool (decide (0<E)),Zii (x2-d) (x2+d)] W (Nv G.heap.size h (Pu (decide (0<E)) gg q (x2-d) (x2+d)) W):=λW s=>by
    have:=Vv G.heap.size h gg q (decide (0<E)) (x2-d) (x2+d) W ok (by rw[H.out]) (by rw[H.out];exact r) s.X s.Y T
    rw[e5] at this;exact this
   clear e5;have SD:=ST.bel GJ;have av:=CZ x0 x1 x2 d w7.drew f.2.1.1 f.2.1.2 f.2.2.1 f.2.2.2;have b1:(q:Int)<(N:Int):=Aa
   go_upto_region 11 with fail
   obtain⟨t0,t1,t2,t3⟩:=ST.cells O HX.out;have tc:=ST.cnt H.out r z.out;have tb:=λo=>ST.KB.cell o
   go_region_held3 (λw'=>w'.cell? (L.add (k*4))=ZS x0∧w'.cell? ⟨(L.add (k*4)).block,(L.add (k*4)).off+1,none⟩=ZS x1∧w'.cell? ⟨(L.add (k*4)).block,(L.add (k*4)).off+2,none⟩=ZS x2∧w'.cell? ⟨(L.add (k*4)).block,(L.add (k*4)).off+3,none⟩=ZS d∧w'.cell? (g.add q)=ZS E∧(∀o,w'.cell? ⟨g10,o,none⟩=((AH s a b (some g) N c3 (some p) N c4):Array Value)[o]?))
    (exact aX)
    (first
     |(go_at_call 214;(with_reducible refine av.mono ?_);rintro e u ⟨rfl,b8⟩;have SU:=SD.bel b8;obtain⟨y0,y1,y2,y3⟩:=SU.cells O HX.out;have yc:=SU.cnt H.out r z.out;have yb:=λo=>SU.KB.cell o)
     |(go_at_call 221;(with_reducible refine(U _ SU).mono ?_);rintro e v ⟨rfl,XV,YV,TV⟩;have SV:=SU.tch TV XV YV;obtain⟨v0,v1,v2,v3⟩:=SV.cells O HX.out;have vc:=SV.cnt (gg:=Pu (decide (0<E)) gg q (x2-d) (x2+d)) H.out r z.out;have vb:=λo=>SV.KB.cell o))
   have u1:=Bg (E+1)
   have a8:p.block≠g.block:=λe=>by
    have:=T;rw[H.out] at this;exact this.off _ (C5 ..) _ (C5 ..) g.block (by unfold blkp;rw[Ak Aw];rfl) (by unfold blkp;rw[Ak Aw];show some p.block=some g.block;rw[e])
   have K:=SV.bel GJ;clear SU SD ST y0 y1 y2 y3 yc yb tc tb av U XV YV TV v0 v1 v2 v3
   go_upto_region 12 with fail
   go_still_tail 10,We51ceQ
   change wpList _ _ _ _ _ v.drew;clear vb vc SV;generalize v.drew=w9 at K⊢;have vc:=K.cnt (gg:=Pu (decide (0<E)) gg q (x2-d) (x2+d)) H.out r z.out;have X9:=K.X;have Y9:=K.Y;rw[H.out] at X9 Y9;have r3:Rd w9 (some g) N (ints gg.counts):=X9.head;have r4:Rd w9 (some p) (N*2) (ints (Pu (decide (0<E)) gg q (x2-d) (x2+d)).depths):=X9.tail.head;have y3:Wr w9 G.heap.size (some g) N:=Y9.head;have y4:Wr w9 G.heap.size (some p) (N*2):=Y9.tail.head;obtain⟨_,⟨⟩,-,aw⟩:=y3 Aa;have fq:=aw q r;have GP:=dO (B:=G.heap.size) (c3:=c3) (c4:=c4) (x0:=gg.size) (x1:=gg.wide) (x2:=gg.high) (v:=E+1) r r3 r4 y3 y4 (A9.refl _ _) a8;obtain⟨-,XG,YG,TG⟩:=GP;rw[<-H.out] at XG YG TG;have SG:=K.tch TG XG YG
   have al:Hid ((⟨gg.size,gg.wide,gg.high,gg.counts.set q (E+1),(Pu (decide (0<E)) gg q (x2-d) (x2+d)).depths⟩:Am)=Jv gg q (x2-d) (x2+d) 1):=by
    have:=Xq (l:=gg) (i:=q) (a:=x2-d) (b:=x2+d) (by rw[z.out];omega)
    rw[z.out] at this;exact this
   clear X9 Y9 r3 r4 y3 y4 aw XG YG TG
   go_wp2_with fail
   go_roundw
   case rel=>exact⟨k+1,by omega,by go_num,by rw[I.out,<-al.out];exact SG.X,by rw[I.out,<-al.out];exact SG.Y,SG.KB,SG.KR,SG.R,SG.hb⟩
   case measure=>simp[intOf];omega
  ·obtain rfl:n=k:=Aa;have e8:=KR.cell;have f8:=KR.frozen;rw[H.out] at X Y T;have ba:w<=G.heap.size:=Nat.le_of_lt x;have a2:=S.size;have a5:=S.wide;have a1:=S.high;have m:=Y.hi;go_wp2;refine AS (v:=.tuple (Ew s a b (some g) N c3 (some p) N c4 0)) (by simp[results,results173,go_sem,e8]) rfl ?_
   rw[HV.out.1,HV.out.2];refine⟨⟨⟨some g,N,c3⟩,⟨some p,N,c4⟩⟩,by unfold Bd;rw[a2,a5,a1],⟨by simp only;omega,by simp only;omega⟩,?_,?_,T,?_⟩
   ·exact((((X.cell_ (m.ne x)).cell_ (m.ne x)).cell_ (m.ne x)).cell_ (m.ne x)).cell_ (m.ne x)
   ·exact(Y.lower ba).cell_.cell_.cell_.cell_.cell_
   ·repeat(first|with_reducible exact hb|refine Below.setCell ?_ (by simp<;>omega) _)
