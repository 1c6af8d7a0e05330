import Derived.Test.YtkndcebhjcfphaaGreatDoorZJ
namespace Go.Proofs.YtkndcebhjcfphaaGreatDoor
open Go.RowKit Go.Proofs.Tryz
set_option maxRecDepth 100000
set_option maxHeartbeats 4000000
set_option linter.all false
def YE (g:Am) (i:Nat):Int×Int×Int:=(g.counts.getD i 0,g.depths.getD (i*2) 0,g.depths.getD (i*2+1) 0)
def Mi (u:Int×Int×Int) (a b:Int):Int×Int×Int:=if u.1=0 then(u.1+1,a,b) else(u.1+1,min u.2.1 a,max u.2.2 b)
theorem Xe (ds:List Int) (i k:Nat) (a b:Int) (hi:i*2+1<ds.length):(IB ds i a b).getD (k*2) 0=(if k=i then a else ds.getD (k*2) 0)∧(IB ds i a b).getD (k*2+1) 0=(if k=i then b else ds.getD (k*2+1) 0):=by
 unfold IB;simp only[LK,List.length_set]
 by_cases h:k=i
 ·subst h
  constructor
  ·rw[Ak Aa,AA Aa,AA rfl]
  ·rw[AA Aa,AA rfl]
 ·constructor
  ·rw[Ak Aa,Ak Aa,Ak h]
  ·rw[Ak Aa,Ak Aa,Ak h]
theorem bC (cs ds:List Int) (i k:Nat) (a b:Int) (hi:i*2+1<ds.length):(MF cs ds i a b).getD (k*2) 0=(if k=i then(if cs.getD i 0=0 then a else min (ds.getD (i*2) 0) a) else ds.getD (k*2) 0)∧(MF cs ds i a b).getD (k*2+1) 0=(if k=i then(if cs.getD i 0=0 then b else max (ds.getD (i*2+1) 0) b) else ds.getD (k*2+1) 0):=by
 unfold MF
 by_cases h0:cs.getD i 0=0
 ·simp only[AA h0];exact Xe ds i k a b hi
 ·simp only[Ak h0];exact Xe ds i k _ _ hi
theorem Zv {g:Am} {i:Nat} (k:Nat) {a b:Int} (hi:i<g.counts.length) (hd:g.depths.length=g.counts.length*2):YE (Jv g i a b 1) k=if k=i then Mi (YE g i) a b else YE g k:=by
 have S:=bC g.counts g.depths i k a b Aa;unfold YE Jv;simp only;rw[S.1,S.2,LK]
 by_cases h:k=i
 ·subst h;rw[AA ⟨rfl,hi⟩];simp only[if_true];unfold Mi;simp only
  by_cases h0:g.counts.getD k 0=0
  ·simp only[AA h0]
  ·simp only[Ak h0]
 ·rw[Ak (fun c=>h c.1.symm)];simp only[Ak h]
theorem bP {c x y a b:Int} (h:c=0):Mi (c,x,y) a b=(c+1,a,b):=by unfold Mi;rw[AA h]
theorem bO {c x y a b:Int} (h:c≠0):Mi (c,x,y) a b=(c+1,min x a,max y b):=by unfold Mi;rw[Ak h]
theorem cg {s:Int} {a b k:Nat} {g:Am} (G:GsI s a b k g) (hs:1≤s) (ha:1≤a) {x y:Int} (hx:0≤x) (hy:0≤y) (d r:Int) (i:Nat):
  YE (MK g x y d r) i=if 0≤Ey s a b x y∧i=(Ey s a b x y).toNat then Mi (YE g i) (d-r) (d+r) else YE g i:=by
 unfold MK;rw[G.size,G.wide,G.high]
 by_cases h:0≤Ey s a b x y
 ·have hb:=NJ hx hy hs (show 1≤(a:Int) by omega) h
  rw[←Int.natCast_mul] at hb;rw[AA h,Zv i (by rw[G.cl];omega) (by rw[G.cl,G.dl])]
  by_cases hi:i=(Ey s a b x y).toNat
  ·rw[AA hi,AA ⟨h,hi⟩,hi]
  ·rw[Ak hi,Ak (fun c=>hi c.2)]
 ·rw[Ak h,Ak (fun c=>h c.1)]
theorem cf (s:Int) (a b i:Nat):YE (Jc s a b) i=(0,0,0):=by
 have h: ∀n j:Nat,(List.replicate n (0:Int)).getD j 0=0:=fun n j=>by
  rw[DE,List.getElem?_replicate];split<;>rfl
 unfold YE Jc;simp only[h]
def fj (u:Int×Int×Int):Prop:=0≤u.1∧(u.1=0→u.2.1=0∧u.2.2=0)∧ -7000≤u.2.1∧u.2.1≤u.2.2∧u.2.2≤1005000
theorem bQ {u:Int×Int×Int} (h:fj u) {a b:Int} (h1: -7000≤a) (h2:a≤b) (h3:b≤1005000):fj (Mi u a b):=by
 obtain⟨c,x,y⟩:=u;unfold fj at h⊢;simp only at h
 by_cases h0:c=0
 ·rw[bP h0];simp only;omega
 ·rw[bO h0];simp only;omega
theorem aB {ys:List Int} {k:Nat} (h:Fk ys k=true):0≤ys.getD (k*4) 0∧0≤ys.getD (k*4+1) 0∧ -2000≤ys.getD (k*4+2) 0∧ys.getD (k*4+2) 0≤1000000∧0≤ys.getD (k*4+3) 0∧ys.getD (k*4+3) 0≤5000:=by
 unfold Fk DP at h;simp only[CD] at h;have h1:=Ac h.1.1.1;have h2:=Ac h.1.1.2;have h3:=Ac h.1.2;have h4:=Ac h.2;omega
theorem Zy {s:Int} {a b:Nat} {ys:List Int} {n:Nat} (hs:1≤s) (ha:1≤a) (hy:Dg ys n=true) (i:Nat): ∀k,k≤n→fj (YE (gsTo s a b ys k) i)
 |0,_=>by
  show fj (YE (Jc s a b) i);rw[cf];exact⟨Int.le_refl 0,fun _=>⟨rfl,rfl⟩,by decide,by decide,by decide⟩
 |k+1,hk=>by
  have ih:=Zy (b:=b) hs ha hy i k Aa;have hc:=aB (IC hy (show k<n by omega))
  have e1:gsTo s a b ys (k+1)=MK (gsTo s a b ys k) (ys.getD (k*4) 0) (ys.getD (k*4+1) 0) (ys.getD (k*4+2) 0) (ys.getD (k*4+3) 0):=rfl;rw[e1,cg (Ip s a b ys k) hs ha hc.1 hc.2.1]
  split
  ·exact bQ ih Aa Aa Aa
  ·exact ih
theorem fA {s:Int} {a b:Nat} {ys:List Int} {n:Nat} (hs:1≤s) (hs1:s≤10000) (ha:1≤a) (ha1:a≤30) (hb:1≤b) (hb1:b≤30) (hy:Dg ys n=true) (hn:n≤1048576):Dl (gsTo s a b ys n)=true:=by
 have G:=Ip s a b ys n;refine Xo.to ⟨by rw[G.size];exact hs,by rw[G.size];exact hs1,by rw[G.wide];omega,by rw[G.wide];omega,by rw[G.high];omega,by rw[G.high];omega,by rw[G.cl,G.wide,G.high,Int.natCast_mul],by rw[G.dl,G.cl],Vl fun k _=> ?_⟩
 have h:=Zy (b:=b) hs ha hy k n Bk;have hbd:=G.bd k;unfold fj YE at h;simp only at h;exact XI Aa Aa Aa Aa Aa h.2.1
theorem aC {ys:List Int} {n:Nat} (h: ∀k,k<n→Fk ys k=true):Dg ys n=true:=by
 unfold Dg;rw[List.all_eq_true];intro k hk;exact h k (Eo.1 hk)
structure GSt (w0:World) (B g10:Nat) (h:Bh) (gg:Am) (box:Array Value) (LA:Option Addr) (n:Nat) (ys:List Int) (W:World):Prop where
 X:Ag W (AO h gg)
 Y:AB W B (AO h gg)
 KB:Blk W g10 181 box
 KR:Blk W w0.heap.size 181 Fa
 R:Rd W LA (n*4) (ints ys)
 hb:Below w0 w0 W
 ne: ∀x∈Cf h,x≠some g10
 hB:w0<B
 yl: ∀bk,blkp LA (n*4)=some bk→bk<w0
section
variable {w0 : World} {B g10 n : Nat} {h : Bh} {gg gg' : Am} {box : Array Value} {LA : Option Addr} {ys : List Int} {W W' : World}
theorem GSt.bel (s:GSt w0 B g10 h gg box LA n ys W) (b:Below W W W'):GSt w0 B g10 h gg box LA n ys W':=
 ⟨s.X.below b,s.Y.below s.X b,s.KB.below b s.KB.lt,s.KR.below b s.KR.lt,s.R.below b,s.hb.trans (b.mono s.hb.size),s.ne,s.hB,s.yl⟩
theorem GSt.hi (s:GSt w0 B g10 h gg box LA n ys W):Hi (Cf h) B:=s.Y.hi
theorem GSt.tch (s:GSt w0 B g10 h gg box LA n ys W) (T:A9 W W' (Cf h)) (X':Ag W' (AO h gg')) (Y':AB W' B (AO h gg')):GSt w0 B g10 h gg' box LA n ys W':=
 ⟨X',Y',s.KB.touch T s.ne,s.KR.touch T (s.hi.ne s.hB),s.R.touch T (H7.up (B:=B) (Lo.cons (fun b e=>Nat.lt_trans (s.yl b e) s.hB) (Lo.nil _)) s.hi),U2 s.hb T Bk (s.hi.mono (Nat.le_of_lt s.hB)),s.ne,s.hB,s.yl⟩
theorem GSt.cells {ad:Addr} {k:Nat} {x0 x1 x2 x3:Int} (s:GSt w0 B g10 h gg box (some ad) n ys W) (hlt:k<n) (e:ys.getD (k*4) 0=x0∧ys.getD (k*4+1) 0=x1∧ys.getD (k*4+2) 0=x2∧ys.getD (k*4+3) 0=x3):
  W.cell? (ad.add (k*4))=ZS x0∧W.cell? ⟨(ad.add (k*4)).block,(ad.add (k*4)).off+1,none⟩=ZS x1∧W.cell? ⟨(ad.add (k*4)).block,(ad.add (k*4)).off+2,none⟩=ZS x2∧W.cell? ⟨(ad.add (k*4)).block,(ad.add (k*4)).off+3,none⟩=ZS x3:=by
 obtain⟨e0,e1,e2,e3⟩:=e;subst e0 e1 e2 e3;obtain⟨_,⟨⟩,d0,d1,d2,d3⟩:=s.R.fourS hlt;exact⟨d0,d1,d2,d3⟩
theorem GSt.cnt {a3 a4:Addr} {N c3 c4 q:Nat} {cq:Int} (s:GSt w0 B g10 h gg box LA n ys W) (hh:h=⟨⟨some a3,N,c3⟩,⟨some a4,N,c4⟩⟩) (hq:q<N) (e:gg.counts.getD q 0=cq):W.cell? (a3.add q)=ZS cq:=by
 subst e;have r:=s.X.head;rw[hh] at r;obtain⟨_,⟨⟩,hx⟩:=Rd.int (k:=q) r hq;exact hx
end
theorem PL (s wd hg:Int) (LA:Option Addr) (n c:Nat) (ys:List Int) (w:World) (hn:n≤1048576) (hr:Rd w LA (n*4) (ints ys)):
  Calls prog 190 #[ZI s,ZI wd,ZI hg,.slice LA n c] w (GZ (UQ s wd hg ys n) (Qn s wd hg ys n) w):=by
 go_enter func190,ntmps190
 go_upto_region 1 with fail
 generalize hG:w.alloc _=w1;obtain⟨K8,b0⟩:=EX hG;clear hG;have g8:=K8.lt
 go_wp2_with fail
 refine(De LA n c ys _ hn (hr.below b0)).mono ?_;rintro e w2 ⟨rfl,b2⟩;replace K8:=K8.below b2 g8;replace b0:=An b0 b2;replace g8:=K8.lt;have e8:=K8.cell;have f8:=K8.frozen;clear b2;rcases BA (BJ ys n) with hsn|hsn
 rotate_left
 ·have HV:Hid (UQ s wd hg ys n=GT∧Qn s wd hg ys n=1):=by unfold Hid UQ Qn;rw[hsn];exact⟨rfl,rfl⟩
  rw[hsn];go_wp2;refine AS (v:=.tuple (Ew 0 0 0 none 0 0 none 0 0 1)) (by simp[results,results190,go_sem,e8]) rfl ?_
  rw[HV.out.1,HV.out.2];exact FE (by repeat(first|with_reducible exact b0|refine Below.setCell ?_ (by simp<;>omega) _))
 rw[hsn]
 go_wp2_with fail
 refine(DF s wd hg _).mono ?_;rintro e w3 ⟨rfl,hw3⟩;subst hw3;rcases BA (DK s wd hg) with hsh|hsh
 rotate_left
 ·have HV:Hid (UQ s wd hg ys n=GT∧Qn s wd hg ys n=2):=by unfold Hid UQ Qn;rw[hsn,hsh];exact⟨rfl,rfl⟩
  rw[hsh];go_wp2;refine AS (v:=.tuple (Ew 0 0 0 none 0 0 none 0 0 2)) (by simp[results,results190,go_sem,e8]) rfl ?_
  rw[HV.out.1,HV.out.2];exact FE (by repeat(first|with_reducible exact b0|refine Below.setCell ?_ (by simp<;>omega) _))
 rw[hsh];obtain⟨⟨s0,s1⟩,⟨wd0,wd1⟩,hg0,hg1⟩:=Fh hsh;obtain⟨a,rfl⟩: ∃a:Nat,wd=(a:Int):=⟨wd.toNat,by omega⟩
 obtain⟨b,rfl⟩: ∃b:Nat,hg=(b:Int):=⟨hg.toNat,by omega⟩
 have HV:Hid (UQ s a b ys n=gsTo s a b ys n∧Qn s a b ys n=0):=by unfold Hid UQ Qn;rw[hsn,hsh];exact⟨rfl,rfl⟩
 have hsn':Dg ys n=true∧n≤200:=by
  have:BJ ys n=(Dg ys n && decide ((n:Int)≤200)):=rfl;rw[this,CD,BP] at hsn;exact⟨hsn.1,by omega⟩
 have HSN:=Ai hsn'.1;have hn2:=hsn'.2;clear hsn hsn' hsh e8 f8;have hab:=QZ (a:=a) (b:=b) Aa Aa;obtain⟨N,hN⟩: ∃N,a*b=N:=⟨_,rfl⟩;have hm:(a:Int)*(b:Int)=(N:Int):=by rw[←Int.natCast_mul,hN]
 have hN1:1≤N:=by rw[←hN];exact Nat.mul_pos Aa Aa
 have hN2:N≤900:=Aa;have HN:Hid (N=a*b):=hN.symm;clear hN hab;have hmk:=fun W:World=>ER N Aa W;have hmi:=fun W:World=>Lc N Aa W;have wn:=Bg (N:Int)
 go_upto_region 5 with fail
 go_cut [10] (fun v10 wx=> ∃g10 b3 b4:Nat,v10=.pointer (some ⟨g10,0,none⟩)∧AR wx w2.heap.size 1 ⟨some ⟨b3,0,none⟩,N,N⟩ (ints (List.replicate N 0))∧AR wx w2.heap.size 2 ⟨some ⟨b4,0,none⟩,N,N⟩ (ints (List.replicate (N*2) 0))∧b3≠b4∧b3≠g10∧b4≠g10∧Blk wx g10 181 (AH s a b (some ⟨b3,0,none⟩) N N (some ⟨b4,0,none⟩) N N)∧Below w2 w2 wx)
 case first=>
  go_region
  all_goals
   go_wp2_with fail
   go_meet
   clear hmk hmi
  ·skip
   have oC:=AR.made (W:=w2) (B:=w2.heap.size) (n:=N) C0 Aa 2;have oC:=oC.below ((AP _ _).alloc Bk (.cells (madeCells Cq (N*2)) 136));have oC:=oC.below ((AP _ _).alloc Bk (.cells (AH s a b (some ⟨w2,0,none⟩) N N (some ⟨w2+1,0,none⟩) N N) 181));have oC:=oC.below GJ;have oD:=AR.made2 (W:=(w2.alloc (.cells (madeCells #[ZI 0] N) 2))) (B:=w2.heap.size) (n:=N) C0 Aa 136;rw[Ab] at oD;have oD:=oD.below ((AP _ _).alloc Bk (.cells (AH s a b (some ⟨w2,0,none⟩) N N (some ⟨w2+1,0,none⟩) N N) 181));have oD:=oD.below GJ;have kB:=Blk.drew (Blk.newN (g:=w2+1+1) ((w2.alloc (.cells (madeCells #[ZI 0] N) 2)).alloc (.cells (madeCells Cq (N*2)) 136)) 181 (AH s a b (some ⟨w2,0,none⟩) N N (some ⟨w2+1,0,none⟩) N N) Cr);exact⟨w2.heap.size+1+1,w2.heap.size,w2.heap.size+1,rfl,oC,oD,by omega,by omega,by omega,kB,CO ((((AP _ _).alloc Bk _).alloc Cr _).alloc C0 _)⟩
  ·skip
   have oC:=AR.made (W:=w2) (B:=w2.heap.size) (n:=N) C0 Aa 2;have oC:=oC.below ((AP _ _).alloc Bk (.cells (AH s a b (some ⟨w2,0,none⟩) N N (some ⟨w2+1+1,0,none⟩) N N) 181));have oC:=oC.below ((AP _ _).alloc Bk (.cells (madeCells Cq (N*2)) 136));have oC:=oC.below GJ;have oD:=AR.made2 (W:=((w2.alloc (.cells (madeCells #[ZI 0] N) 2)).alloc (.cells (AH s a b (some ⟨w2,0,none⟩) N N (some ⟨w2+1+1,0,none⟩) N N) 181))) (B:=w2.heap.size) (n:=N) C0 Aa 136;rw[Ab,Ab] at oD;have oD:=oD.below GJ;have kB:=Blk.drew ((Blk.newN (g:=w2+1) (w2.alloc (.cells (madeCells #[ZI 0] N) 2)) 181 (AH s a b (some ⟨w2,0,none⟩) N N (some ⟨w2+1+1,0,none⟩) N N) Cr).alloc (.cells (madeCells Cq (N*2)) 136));exact⟨w2.heap.size+1,w2.heap.size,w2.heap.size+1+1,rfl,oC,oD,by omega,by omega,by omega,kB,CO ((((AP _ _).alloc Bk _).alloc Cr _).alloc C0 _)⟩
  ·skip
   have oC:=AR.made (W:=(w2.alloc (.cells (madeCells Cq (N*2)) 136))) (B:=w2.heap.size) (n:=N) C0 Aa 2;rw[Ab] at oC;have oC:=oC.below ((AP _ _).alloc Bk (.cells (AH s a b (some ⟨w2+1,0,none⟩) N N (some ⟨w2,0,none⟩) N N) 181));have oC:=oC.below GJ;have oD:=AR.made2 (W:=w2) (B:=w2.heap.size) (n:=N) C0 Aa 136;have oD:=oD.below ((AP _ _).alloc Bk (.cells (madeCells #[ZI 0] N) 2));have oD:=oD.below ((AP _ _).alloc Bk (.cells (AH s a b (some ⟨w2+1,0,none⟩) N N (some ⟨w2,0,none⟩) N N) 181));have oD:=oD.below GJ;have kB:=Blk.drew (Blk.newN (g:=w2+1+1) ((w2.alloc (.cells (madeCells Cq (N*2)) 136)).alloc (.cells (madeCells #[ZI 0] N) 2)) 181 (AH s a b (some ⟨w2+1,0,none⟩) N N (some ⟨w2,0,none⟩) N N) Cr);exact⟨w2.heap.size+1+1,w2.heap.size+1,w2.heap.size,rfl,oC,oD,by omega,by omega,by omega,kB,CO ((((AP _ _).alloc Bk _).alloc Cr _).alloc C0 _)⟩
  ·skip
   have oC:=AR.made (W:=((w2.alloc (.cells (madeCells Cq (N*2)) 136)).alloc (.cells (AH s a b (some ⟨w2+1+1,0,none⟩) N N (some ⟨w2,0,none⟩) N N) 181))) (B:=w2.heap.size) (n:=N) C0 Aa 2;rw[Ab,Ab] at oC;have oC:=oC.below GJ;have oD:=AR.made2 (W:=w2) (B:=w2.heap.size) (n:=N) C0 Aa 136;have oD:=oD.below ((AP _ _).alloc Bk (.cells (AH s a b (some ⟨w2+1+1,0,none⟩) N N (some ⟨w2,0,none⟩) N N) 181));have oD:=oD.below ((AP _ _).alloc Bk (.cells (madeCells #[ZI 0] N) 2));have oD:=oD.below GJ;have kB:=Blk.drew ((Blk.newN (g:=w2+1) (w2.alloc (.cells (madeCells Cq (N*2)) 136)) 181 (AH s a b (some ⟨w2+1+1,0,none⟩) N N (some ⟨w2,0,none⟩) N N) Cr).alloc (.cells (madeCells #[ZI 0] N) 2));exact⟨w2.heap.size+1,w2.heap.size+1+1,w2.heap.size,rfl,oC,oD,by omega,by omega,by omega,kB,CO ((((AP _ _).alloc Bk _).alloc Cr _).alloc C0 _)⟩
  ·skip
   have oC:=AR.made (W:=(w2.alloc (.cells (AH s a b (some ⟨w2+1,0,none⟩) N N (some ⟨w2+1+1,0,none⟩) N N) 181))) (B:=w2.heap.size) (n:=N) C0 Aa 2;rw[Ab] at oC;have oC:=oC.below ((AP _ _).alloc Bk (.cells (madeCells Cq (N*2)) 136));have oC:=oC.below GJ;have oD:=AR.made2 (W:=((w2.alloc (.cells (AH s a b (some ⟨w2+1,0,none⟩) N N (some ⟨w2+1+1,0,none⟩) N N) 181)).alloc (.cells (madeCells #[ZI 0] N) 2))) (B:=w2.heap.size) (n:=N) C0 Aa 136;rw[Ab,Ab] at oD;have oD:=oD.below GJ;have kB:=Blk.drew (((Blk.newN (g:=w2) w2 181 (AH s a b (some ⟨w2+1,0,none⟩) N N (some ⟨w2+1+1,0,none⟩) N N) Cr).alloc (.cells (madeCells #[ZI 0] N) 2)).alloc (.cells (madeCells Cq (N*2)) 136));exact⟨w2.heap.size,w2.heap.size+1,w2.heap.size+1+1,rfl,oC,oD,by omega,by omega,by omega,kB,CO ((((AP _ _).alloc Bk _).alloc Cr _).alloc C0 _)⟩
  ·skip
   have oC:=AR.made (W:=((w2.alloc (.cells (AH s a b (some ⟨w2+1+1,0,none⟩) N N (some ⟨w2+1,0,none⟩) N N) 181)).alloc (.cells (madeCells Cq (N*2)) 136))) (B:=w2.heap.size) (n:=N) C0 Aa 2;rw[Ab,Ab] at oC;have oC:=oC.below GJ;have oD:=AR.made2 (W:=(w2.alloc (.cells (AH s a b (some ⟨w2+1+1,0,none⟩) N N (some ⟨w2+1,0,none⟩) N N) 181))) (B:=w2.heap.size) (n:=N) C0 Aa 136;rw[Ab] at oD;have oD:=oD.below ((AP _ _).alloc Bk (.cells (madeCells #[ZI 0] N) 2));have oD:=oD.below GJ;have kB:=Blk.drew (((Blk.newN (g:=w2) w2 181 (AH s a b (some ⟨w2+1+1,0,none⟩) N N (some ⟨w2+1,0,none⟩) N N) Cr).alloc (.cells (madeCells Cq (N*2)) 136)).alloc (.cells (madeCells #[ZI 0] N) 2));exact⟨w2.heap.size,w2.heap.size+1+1,w2.heap.size+1,rfl,oC,oD,by omega,by omega,by omega,kB,CO ((((AP _ _).alloc Bk _).alloc Cr _).alloc C0 _)⟩
 case rest=>
 obtain⟨g10,b3,b4,rfl,oC,oD,h34,h3g,h4g,K10,b5⟩:=hcut;obtain⟨w5,rfl⟩: ∃x:World,x=wc:=⟨_,rfl⟩;have hz2:w<w2.heap.size:=g8;replace b0:=An b0 b5;replace K8:=K8.below b5 g8;clear b5 g8 hmk hmi hm;obtain⟨a3,ha3⟩: ∃a3:Addr,a3=⟨b3,0,none⟩:=⟨_,rfl⟩;obtain⟨a4,ha4⟩: ∃a4:Addr,a4=⟨b4,0,none⟩:=⟨_,rfl⟩;have hk3:a3.block=b3:=by rw[ha3]
 have hk4:a4.block=b4:=by rw[ha4]
 rw[←ha3] at oC K10;rw[←ha4] at oD K10;clear ha3 ha4
 have ow:Bu w5 w2.heap.size ⟨⟨some a3,N,N⟩,⟨some a4,N,N⟩⟩ (Jc s a b):=⟨by unfold Jc;rw[←HN.out];exact oC,by unfold Jc;rw[←HN.out];exact oD,Dx.cons (fun x hx y hy bb e e2=>by
  rw[DD.1 hx] at e;rw[DD.1 hy] at e2;obtain⟨_,u1,q1,q2⟩:=Hd.row_some e;obtain⟨_,u2,q3,q4⟩:=Hd.row_some e2
  cases q1
  cases q3
  omega) (Dx.one _)⟩
 have X5:=ow.rd;have Y5:=ow.wr;have SP:=ow.sp
 have hne0: ∀x∈Cf ⟨⟨some a3,N,N⟩,⟨some a4,N,N⟩⟩,x≠some g10:=fun x hx e=>by
  unfold Cf at hx;simp only[CC,I5,or_false] at hx;rcases hx with rfl|rfl
  ·obtain⟨_,q1,_,q2⟩:=Df e
   cases q1
   omega
  ·obtain⟨_,q1,_,q2⟩:=Df e
   cases q1
   omega
 clear ow oC oD h3g h4g;have RY:=hr.below b0;have hyl: ∀bk,blkp LA (n*4)=some bk→bk<w:=hr.rowlt;obtain⟨h,hh⟩: ∃h:Bh,h=⟨⟨some a3,N,N⟩,⟨some a4,N,N⟩⟩:=⟨_,rfl⟩;have hne': ∀x∈Cf h,x≠some g10:=by rw[hh];exact hne0
 have X6:Ag w5 (AO h (gsTo s a b ys 0)):=by rw[hh];exact X5
 have Y6:AB w5 w2.heap.size (AO h (gsTo s a b ys 0)):=by rw[hh];exact Y5
 have SP':Dx (Cf h):=by rw[hh];exact SP
 have ok:Cl h:=by rw[hh];exact⟨by simp only;omega,by simp only;omega⟩
 have HH:=Ai hh;clear X5 Y5 SP hne0 hh hr
 go_wp2_with fail
 go_loopw [40] (fun v11 wr=> ∃k:Nat,k≤n∧v11=.int .i64 k∧Ag wr (AO h (gsTo s a b ys k))∧AB wr w2.heap.size (AO h (gsTo s a b ys k))∧Blk wr g10 181 (AH s a b (some a3) N N (some a4) N N)∧Blk wr w.heap.size 181 Fa∧Rd wr LA (n*4) (ints ys)∧Below w w wr)
  (fun v11 _=>n-(intOf v11).toNat)
 case atStart=>exact⟨0,AZ _,rfl,X6,Y6,K10,K8,RY,b0⟩
 case round=>
  obtain⟨k,hk,rfl,X,Y,KB,KR,R,hb⟩:=hrel;clear X6 Y6 K10 K8 RY b0;have GI:=Ip s a b ys k;have cB:=KB.cell
  by_cases hlt:k<n
  ·obtain⟨ad,rfl,d0,d1,d2,d3⟩:=R.fourS hlt;have hltI:(k:Int)<(n:Int):=Aa;have hlt0:(0:Int)≤(k:Int):=Aa
   have hadl:(ad.add (k*4)).block<w.heap.size:=by
    rw[Aq];exact hyl _ (by unfold blkp;rw[Ak Aa];rfl)
   have HST:Hid (gsTo s a b ys (k+1)=MK (gsTo s a b ys k) (ys.getD (k*4) 0) (ys.getD (k*4+1) 0) (ys.getD (k*4+2) 0) (ys.getD (k*4+3) 0)):=rfl;have hso:DP (ys.getD (k*4) 0) (ys.getD (k*4+1) 0) (ys.getD (k*4+2) 0) (ys.getD (k*4+3) 0)=true:=IC HSN.out hlt;generalize hx0:ys.getD (k*4) 0=x0 at*;generalize hx1:ys.getD (k*4+1) 0=x1 at*;generalize hx2:ys.getD (k*4+2) 0=x2 at*;generalize hx3:ys.getD (k*4+3) 0=x3 at*;clear hx0 hx1 hx2 hx3
   have hbd:((0≤x0∧x0≤10000)∧(0≤x1∧x1≤10000))∧(-2000≤x2∧x2≤1000000)∧0≤x3∧x3≤5000:=by
    unfold DP at hso;simp only[CD] at hso;exact⟨⟨Ac hso.1.1.1,Ac hso.1.1.2⟩,Ac hso.1.2,Ac hso.2⟩
   clear hso;generalize gsTo s a b ys k=gg at*;have HP:Hid (MK gg x0 x1 x2 x3=if 0≤Ey s a b x0 x1 then Jv gg (Ey s a b x0 x1).toNat (x2-x3) (x2+x3) 1 else gg):=by unfold Hid MK;rw[GI.size,GI.wide,GI.high]
   have hcb:=NJ (s:=s) (wd:=a) (hg:=b) hbd.1.1.1 hbd.1.2.1 s0 wd0;have hcell:=fun W=>Rq s a b x0 x1 (.slice (some a3) N N) (.slice (some a4) N N) W s0 s1 wd0 wd1 hbd.1.1.1 hbd.1.1.2 hbd.1.2.1 hbd.1.2.2 ⟨_,_,_,rfl⟩ ⟨_,_,_,rfl⟩;generalize hci:Ey s a b x0 x1=ci at*;clear hci;have ST0:GSt w w2.heap.size g10 h gg (AH s a b (some a3) N N (some a4) N N) (some ad) n ys wr:=⟨X,Y,KB,KR,R,hb,hne',hz2,hyl⟩;have hrs: ∀x∈Cf h,x≠some wr.heap.size:=(X.lo).ne Bk;clear X Y KB KR R hb
   go_upto_region 9 with fail
   have KS:=Br wr 65 (Ziiii x0 x1 x2 x3);have ST1:=ST0.bel ((AP _ _).alloc Bk (.cells (Ziiii x0 x1 x2 x3) 65));clear ST0 d0 d1 d2 d3 cB;generalize wr.alloc _=w6 at KS ST1⊢;generalize wr.heap.size=gs at KS hrs⊢;have cB:=fun o=>ST1.KB.cell o;have cS:=KS.cell
   go_wp2_with fail
   refine(hcell _).mono ?_;rintro e w7 ⟨rfl,b7⟩;have ST:=ST1.bel b7;replace KS:=KS.below b7 KS.lt;clear b7 ST1 hcell cB cS
   by_cases hci:0≤ci
   rotate_left
   ·have HS2:Hid (gsTo s a b ys (k+1)=gg):=by show _=_;rw[HST.out,HP.out,Ak hci]
    have hcid:decide (0≤ci)=false:=BR hci
    go_wp2_with fail
    go_roundw
    case rel=>exact⟨k+1,by omega,by go_num,by rw[HS2.out];exact ST.X,by rw[HS2.out];exact ST.Y,ST.KB,ST.KR,ST.R,ST.hb⟩
    case measure=>simp[intOf];omega
   obtain⟨q,rfl⟩: ∃q:Nat,ci=(q:Int):=⟨ci.toNat,by omega⟩
   have hqN:q<N:=by have h1:=hcb hci;rw[←Int.natCast_mul] at h1;have:=HN.out;omega
   have HS2:Hid (gsTo s a b ys (k+1)=Jv gg q (x2-x3) (x2+x3) 1):=by show _=_;rw[HST.out,HP.out,AA hci,Int.toNat_natCast]
   have GB:=GI.bd q;have e5:Bd h gg=.agg (AH s a b (some a3) N N (some a4) N N):=by unfold Bd;rw[GI.size,GI.wide,GI.high,HH.out]
   have hadd: ∀W,GSt w w2.heap.size g10 h gg (AH s a b (some a3) N N (some a4) N N) (some ad) n ys W→Calls prog 238 #[AH s a b (some a3) N N (some a4) N N,ZI q,Zii (x2-x3) (x2+x3),ZI 1] W (Nv w2.heap.size h (Jv gg q (x2-x3) (x2+x3) 1) W):=fun W s=>by
    have:=Tt w2.heap.size h gg q (x2-x3) (x2+x3) 1 W ok (by rw[HH.out]) (by rw[HH.out];exact hqN) s.X s.Y SP' Aa Aa Ah Ah
    rw[e5] at this;exact this
   clear e5;have SD:=ST.bel GJ;have KSd:=Blk.drew KS;have hbo:=CW x0 x1 x2 x3 w7.drew hbd.2.1.1 hbd.2.1.2 hbd.2.2.1 hbd.2.2.2
   go_upto_region 11 with fail
   have tb:=fun o=>ST.KB.cell o;have ts:=KS.cell
   go_region_held3 (fun w'=>(∀o,w'.cell? ⟨g10,o,none⟩=((AH s a b (some a3) N N (some a4) N N):Array Value)[o]?)∧(∀o,w'.cell? ⟨gs,o,none⟩=((Ziiii x0 x1 x2 x3):Array Value)[o]?))
    (exact bj)
    (first
     |(go_at_call 232;(with_reducible refine hbo.mono ?_);rintro e u ⟨rfl,b8⟩;have SU:=SD.bel b8;have KU:=KSd.below b8 KSd.lt;have yb:=fun o=>SU.KB.cell o;have ysn:=KU.cell)
     |(go_at_call 238;(with_reducible refine(hadd _ SU).mono ?_);rintro e v ⟨rfl,XV,YV,TV⟩;have SV:=SU.tch TV XV YV;have KV:=KU.touch TV hrs;have vb:=fun o=>SV.KB.cell o;have vs:=KV.cell))
   go_wp2_with fail
   go_roundw
   case rel=>exact⟨k+1,by omega,by go_num,by rw[HS2.out];exact SV.X,by rw[HS2.out];exact SV.Y,SV.KB,SV.KR,SV.R,SV.hb⟩
   case measure=>simp[intOf];omega
  ·obtain rfl:n=k:=Aa;have e8:=KR.cell;have f8:=KR.frozen;rw[HH.out] at X Y SP';have hz3:w≤w2.heap.size:=Nat.le_of_lt hz2;have eqs:=GI.size;have eqw:=GI.wide;have eqh:=GI.high;have hrow:=Y.hi;go_wp2;refine AS (v:=.tuple (Ew s a b (some a3) N N (some a4) N N 0)) (by simp[results,results190,go_sem,e8]) rfl ?_
   rw[HV.out.1,HV.out.2];refine⟨⟨⟨some a3,N,N⟩,⟨some a4,N,N⟩⟩,by unfold Bd;rw[eqs,eqw,eqh],⟨by simp only;omega,by simp only;omega⟩,?_,?_,SP',?_⟩
   ·exact((((X.cell_ (hrow.ne hz2)).cell_ (hrow.ne hz2)).cell_ (hrow.ne hz2)).cell_ (hrow.ne hz2)).cell_ (hrow.ne hz2)
   ·exact(Y.lower hz3).cell_.cell_.cell_.cell_.cell_
   ·repeat(first|with_reducible exact hb|refine Below.setCell ?_ (by simp<;>omega) _)
theorem P7 (s wd hg:Int) (LA:Option Addr) (n c:Nat) (ys:List Int) (w:World) (hn:n≤1048576) (hr:Rd w LA (n*4) (ints ys)):
  Calls prog 173 #[ZI s,ZI wd,ZI hg,.slice LA n c] w (GZ (UQ s wd hg ys n) (Qn s wd hg ys n) w):=by
 go_enter func173,ntmps173
 go_upto_region 1 with fail
 generalize hG:w.alloc _=w1;obtain⟨K8,b0⟩:=EX hG;clear hG;have g8:=K8.lt
 go_wp2_with fail
 refine(Dh LA n c ys _ hn (hr.below b0)).mono ?_;rintro e w2 ⟨rfl,b2⟩;replace K8:=K8.below b2 g8;replace b0:=An b0 b2;replace g8:=K8.lt;have e8:=K8.cell;have f8:=K8.frozen;clear b2;rcases BA (BJ ys n) with hsn|hsn
 rotate_left
 ·have HV:Hid (UQ s wd hg ys n=GT∧Qn s wd hg ys n=1):=by unfold Hid UQ Qn;rw[hsn];exact⟨rfl,rfl⟩
  rw[hsn];go_wp2;refine AS (v:=.tuple (Ew 0 0 0 none 0 0 none 0 0 1)) (by simp[results,results173,go_sem,e8]) rfl ?_
  rw[HV.out.1,HV.out.2];exact FE (by repeat(first|with_reducible exact b0|refine Below.setCell ?_ (by simp<;>omega) _))
 rw[hsn]
 go_wp2_with fail
 refine(Fj s wd hg _).mono ?_;rintro e w3 ⟨rfl,hw3⟩;subst hw3;rcases BA (DK s wd hg) with hsh|hsh
 rotate_left
 ·have HV:Hid (UQ s wd hg ys n=GT∧Qn s wd hg ys n=2):=by unfold Hid UQ Qn;rw[hsn,hsh];exact⟨rfl,rfl⟩
  rw[hsh];go_wp2;refine AS (v:=.tuple (Ew 0 0 0 none 0 0 none 0 0 2)) (by simp[results,results173,go_sem,e8]) rfl ?_
  rw[HV.out.1,HV.out.2];exact FE (by repeat(first|with_reducible exact b0|refine Below.setCell ?_ (by simp<;>omega) _))
 rw[hsh];obtain⟨⟨s0,s1⟩,⟨wd0,wd1⟩,hg0,hg1⟩:=Fh hsh;obtain⟨a,rfl⟩: ∃a:Nat,wd=(a:Int):=⟨wd.toNat,by omega⟩
 obtain⟨b,rfl⟩: ∃b:Nat,hg=(b:Int):=⟨hg.toNat,by omega⟩
 have HV:Hid (UQ s a b ys n=gsTo s a b ys n∧Qn s a b ys n=0):=by unfold Hid UQ Qn;rw[hsn,hsh];exact⟨rfl,rfl⟩
 have hsn':Dg ys n=true∧n≤200:=by
  have:BJ ys n=(Dg ys n && decide ((n:Int)≤200)):=rfl;rw[this,CD,BP] at hsn;exact⟨hsn.1,by omega⟩
 have HSN:=Ai hsn'.1;have hn2:=hsn'.2;clear hsn hsn' hsh e8 f8
 go_wp2_with fail
 refine(Vw s a b _ Aa Aa).mono ?_;rintro e w4 ⟨⟨⟨A3,N,c3⟩,⟨A4,N',c4⟩⟩,rfl,hN,hN',ow,b4⟩;simp only at hN hN';obtain rfl:N=N':=Aa;have hab:=QZ (a:=a) (b:=b) Aa Aa;have hN1:1≤N:=by rw[hN];exact Nat.mul_pos Aa Aa
 have hN2:N≤900:=Aa;have HN:=Ai hN;clear hN hN' hab;have X:=ow.rd;have Y:=ow.wr;have SP:=ow.sp;obtain⟨a3,-,rfl,-,-⟩:=X.head.at_ (k:=0) Aw;obtain⟨a4,-,rfl,-,-⟩:=X.tail.head.at_ (k:=0) Aw;have hz2:w<w2.heap.size:=g8;replace K8:=K8.below b4 g8;replace b0:=An b0 b4;replace g8:=K8.lt;clear b4 ow;unfold Bd Jc;simp only
 go_upto_region 6 with fail
 have K10:=Br w4 181 (AH s a b (some a3) N c3 (some a4) N c4);have b5:Below w4 w4 (w4.alloc (.cells (AH s a b (some a3) N c3 (some a4) N c4) 181)):=BU;have hlo:=(X.lo).mono Bk;have X5:=X.below b5;have Y5:=Y.below X b5;replace b0:=An b0 b5;replace K8:=K8.below b5 g8;clear X Y b5 g8;generalize w4.alloc _=w5 at K8 K10 X5 Y5 b0⊢
 have hg24:w2≤w4.heap.size:=by
  have:=hlo _ (C5 ..) a3.block (by unfold Sl.row blkp;rw[Ak Aw];rfl)
  have:=Y5.hi _ (C5 ..) a3.block (by unfold Sl.row blkp;rw[Ak Aw];rfl)
  omega
 generalize w4.heap.size=g10 at*;have RY:=hr.below b0;have hyl: ∀bk,blkp LA (n*4)=some bk→bk<w:=hr.rowlt;obtain⟨h,hh⟩: ∃h:Bh,h=⟨⟨some a3,N,c3⟩,⟨some a4,N,c4⟩⟩:=⟨_,rfl⟩;have hlo':Lo (Cf h) g10:=by rw[hh];exact hlo
 have X6:Ag w5 (AO h (gsTo s a b ys 0)):=by rw[hh];exact X5
 have Y6:AB w5 w2.heap.size (AO h (gsTo s a b ys 0)):=by rw[hh];exact Y5
 have SP':Dx (Cf h):=by rw[hh];exact SP
 have ok:Cl h:=by rw[hh];exact⟨by simp only;omega,by simp only;omega⟩
 have HH:=Ai hh;clear X5 Y5 SP hlo hh hr
 go_wp2_with fail
 go_loopw [11] (fun v11 wr=> ∃k:Nat,k≤n∧v11=.int .i64 k∧Ag wr (AO h (gsTo s a b ys k))∧AB wr w2.heap.size (AO h (gsTo s a b ys k))∧Blk wr g10 181 (AH s a b (some a3) N c3 (some a4) N c4)∧Blk wr w.heap.size 181 Fa∧Rd wr LA (n*4) (ints ys)∧Below w w wr)
  (fun v11 _=>n-(intOf v11).toNat)
 case atStart=>exact⟨0,AZ _,rfl,X6,Y6,K10,K8,RY,b0⟩
 case round=>
  obtain⟨k,hk,rfl,X,Y,KB,KR,R,hb⟩:=hrel;clear X6 Y6 K10 K8 RY b0;have GI:=Ip s a b ys k;have cB:=KB.cell
  by_cases hlt:k<n
  ·obtain⟨ad,rfl,d0,d1,d2,d3⟩:=R.fourS hlt;have hltI:(k:Int)<(n:Int):=Aa;have hlt0:(0:Int)≤(k:Int):=Aa
   have hadl:(ad.add (k*4)).block<w.heap.size:=by
    rw[Aq];exact hyl _ (by unfold blkp;rw[Ak Aa];rfl)
   have HST:Hid (gsTo s a b ys (k+1)=MK (gsTo s a b ys k) (ys.getD (k*4) 0) (ys.getD (k*4+1) 0) (ys.getD (k*4+2) 0) (ys.getD (k*4+3) 0)):=rfl;have hso:DP (ys.getD (k*4) 0) (ys.getD (k*4+1) 0) (ys.getD (k*4+2) 0) (ys.getD (k*4+3) 0)=true:=IC HSN.out hlt;generalize hx0:ys.getD (k*4) 0=x0 at*;generalize hx1:ys.getD (k*4+1) 0=x1 at*;generalize hx2:ys.getD (k*4+2) 0=x2 at*;generalize hx3:ys.getD (k*4+3) 0=x3 at*;have HX:=Ai (And.intro hx0 (And.intro hx1 (And.intro hx2 hx3)));clear hx0 hx1 hx2 hx3
   have hbd:((0≤x0∧x0≤10000)∧(0≤x1∧x1≤10000))∧(-2000≤x2∧x2≤1000000)∧0≤x3∧x3≤5000:=by
    unfold DP at hso;simp only[CD] at hso;exact⟨⟨Ac hso.1.1.1,Ac hso.1.1.2⟩,Ac hso.1.2,Ac hso.2⟩
   clear hso;generalize gsTo s a b ys k=gg at*;have HP:Hid (MK gg x0 x1 x2 x3=if 0≤Ey s a b x0 x1 then Jv gg (Ey s a b x0 x1).toNat (x2-x3) (x2+x3) 1 else gg):=by unfold Hid MK;rw[GI.size,GI.wide,GI.high]
   have hcb:=NJ (s:=s) (wd:=a) (hg:=b) hbd.1.1.1 hbd.1.2.1 s0 wd0;have hcell:=fun W=>Sz s a b x0 x1 (.slice (some a3) N c3) (.slice (some a4) N c4) W s0 s1 wd0 wd1 hbd.1.1.1 hbd.1.1.2 hbd.1.2.1 hbd.1.2.2 ⟨_,_,_,rfl⟩ ⟨_,_,_,rfl⟩;generalize hci:Ey s a b x0 x1=ci at*;clear hci
   go_upto_region 9 with fail
   go_still_tail 11,We51ceQ
   have Xd:Ag wr.drew (AO h gg):=X.below GJ;have Yd:AB wr.drew w2.heap.size (AO h gg):=Y.below X GJ;have KBd:=Blk.drew KB;have KRd:=Blk.drew KR;have Rdd:Rd wr.drew (some ad) (n*4) (ints ys):=R.below GJ;have hbd':Below w w wr.drew:=CO hb;change wpList _ _ _ _ _ wr.drew;clear X Y KB KR R hb d0 d1 d2 d3 cB;generalize wr.drew=w6 at Xd Yd KBd KRd Rdd hbd'⊢
   go_wp2_with fail
   refine(hcell _).mono ?_;rintro e w7 ⟨rfl,b7⟩;replace Yd:=Yd.below Xd b7;replace Xd:=Xd.below b7;replace KBd:=KBd.below b7 KBd.lt;replace KRd:=KRd.below b7 KRd.lt;replace Rdd:=Rdd.below b7;replace hbd':=An hbd' b7;clear b7 hcell
   by_cases hci:0≤ci
   rotate_left
   ·have HS2:Hid (gsTo s a b ys (k+1)=gg):=by show _=_;rw[HST.out,HP.out,Ak hci]
    have hcid:decide (0≤ci)=false:=BR hci
    go_wp2_with fail
    go_roundw
    case rel=>exact⟨k+1,by omega,by go_num,by rw[HS2.out];exact Xd,by rw[HS2.out];exact Yd,KBd,KRd,Rdd,hbd'⟩
    case measure=>simp[intOf];omega
   obtain⟨q,rfl⟩: ∃q:Nat,ci=(q:Int):=⟨ci.toNat,by omega⟩
   have hqN:q<N:=by have h1:=hcb hci;rw[←Int.natCast_mul] at h1;have:=HN.out;omega
   have HS2:Hid (gsTo s a b ys (k+1)=Jv gg q (x2-x3) (x2+x3) 1):=by show _=_;rw[HST.out,HP.out,AA hci,Int.toNat_natCast]
   have ST:GSt w w2.heap.size g10 h gg (AH s a b (some a3) N c3 (some a4) N c4) (some ad) n ys w7:=⟨Xd,Yd,KBd,KRd,Rdd,hbd',hlo'.ne Bk,hz2,hyl⟩;have GB:=GI.bd q;obtain⟨cq,hcq⟩: ∃cq,gg.counts.getD q 0=cq:=⟨_,rfl⟩;rw[hcq] at GB;have HCQ:=Ai hcq;clear hcq;have e5:Bd h gg=.agg (AH s a b (some a3) N c3 (some a4) N c4):=by unfold Bd;rw[GI.size,GI.wide,GI.high,HH.out]
   have hadd: ∀W,GSt w w2.heap.size g10 h gg (AH s a b (some a3) N c3 (some a4) N c4) (some ad) n ys W→Calls prog 221 #[AH s a b (some a3) N c3 (some a4) N c4,ZI q,.bool (decide (0<cq)),Zii (x2-x3) (x2+x3)] W (Nv w2.heap.size h (Pu (decide (0<cq)) gg q (x2-x3) (x2+x3)) W):=fun W s=>by
    have:=Vv w2.heap.size h gg q (decide (0<cq)) (x2-x3) (x2+x3) W ok (by rw[HH.out]) (by rw[HH.out];exact hqN) s.X s.Y SP'
    rw[e5] at this;exact this
   clear e5;have SD:=ST.bel GJ;have hbo:=CZ x0 x1 x2 x3 w7.drew hbd.2.1.1 hbd.2.1.2 hbd.2.2.1 hbd.2.2.2;have hqI:(q:Int)<(N:Int):=Aa
   go_upto_region 11 with fail
   obtain⟨t0,t1,t2,t3⟩:=ST.cells hlt HX.out;have tc:=ST.cnt HH.out hqN HCQ.out;have tb:=fun o=>ST.KB.cell o
   go_region_held3 (fun w'=>w'.cell? (ad.add (k*4))=ZS x0∧w'.cell? ⟨(ad.add (k*4)).block,(ad.add (k*4)).off+1,none⟩=ZS x1∧w'.cell? ⟨(ad.add (k*4)).block,(ad.add (k*4)).off+2,none⟩=ZS x2∧w'.cell? ⟨(ad.add (k*4)).block,(ad.add (k*4)).off+3,none⟩=ZS x3∧w'.cell? (a3.add q)=ZS cq∧(∀o,w'.cell? ⟨g10,o,none⟩=((AH s a b (some a3) N c3 (some a4) N c4):Array Value)[o]?))
    (exact aX)
    (first
     |(go_at_call 214;(with_reducible refine hbo.mono ?_);rintro e u ⟨rfl,b8⟩;have SU:=SD.bel b8;obtain⟨y0,y1,y2,y3⟩:=SU.cells hlt HX.out;have yc:=SU.cnt HH.out hqN HCQ.out;have yb:=fun o=>SU.KB.cell o)
     |(go_at_call 221;(with_reducible refine(hadd _ SU).mono ?_);rintro e v ⟨rfl,XV,YV,TV⟩;have SV:=SU.tch TV XV YV;obtain⟨v0,v1,v2,v3⟩:=SV.cells hlt HX.out;have vc:=SV.cnt (gg:=Pu (decide (0<cq)) gg q (x2-x3) (x2+x3)) HH.out hqN HCQ.out;have vb:=fun o=>SV.KB.cell o))
   have u1:=Bg (cq+1)
   have hne:a4.block≠a3.block:=fun e=>by
    have:=SP';rw[HH.out] at this;exact this.off _ (C5 ..) _ (C5 ..) a3.block (by unfold blkp;rw[Ak Aw];rfl) (by unfold blkp;rw[Ak Aw];show some a4.block=some a3.block;rw[e])
   have SVd:=SV.bel GJ;clear SU SD ST y0 y1 y2 y3 yc yb tc tb hbo hadd XV YV TV v0 v1 v2 v3
   go_upto_region 12 with fail
   go_still_tail 10,We51ceQ
   change wpList _ _ _ _ _ v.drew;clear vb vc SV;generalize v.drew=w9 at SVd⊢;have vc:=SVd.cnt (gg:=Pu (decide (0<cq)) gg q (x2-x3) (x2+x3)) HH.out hqN HCQ.out;have X9:=SVd.X;have Y9:=SVd.Y;rw[HH.out] at X9 Y9;have r3:Rd w9 (some a3) N (ints gg.counts):=X9.head;have r4:Rd w9 (some a4) (N*2) (ints (Pu (decide (0<cq)) gg q (x2-x3) (x2+x3)).depths):=X9.tail.head;have y3:Wr w9 w2.heap.size (some a3) N:=Y9.head;have y4:Wr w9 w2.heap.size (some a4) (N*2):=Y9.tail.head;obtain⟨_,⟨⟩,-,hfz⟩:=y3 Aa;have fq:=hfz q hqN;have GP:=dO (B:=w2.heap.size) (c3:=c3) (c4:=c4) (x0:=gg.size) (x1:=gg.wide) (x2:=gg.high) (v:=cq+1) hqN r3 r4 y3 y4 (A9.refl _ _) hne;obtain⟨-,XG,YG,TG⟩:=GP;rw[←HH.out] at XG YG TG;have SG:=SVd.tch TG XG YG
   have HGG:Hid ((⟨gg.size,gg.wide,gg.high,gg.counts.set q (cq+1),(Pu (decide (0<cq)) gg q (x2-x3) (x2+x3)).depths⟩:Am)=Jv gg q (x2-x3) (x2+x3) 1):=by
    have:=Xq (l:=gg) (i:=q) (a:=x2-x3) (b:=x2+x3) (by rw[HCQ.out];omega)
    rw[HCQ.out] at this;exact this
   clear X9 Y9 r3 r4 y3 y4 hfz XG YG TG
   go_wp2_with fail
   go_roundw
   case rel=>exact⟨k+1,by omega,by go_num,by rw[HS2.out,←HGG.out];exact SG.X,by rw[HS2.out,←HGG.out];exact SG.Y,SG.KB,SG.KR,SG.R,SG.hb⟩
   case measure=>simp[intOf];omega
  ·obtain rfl:n=k:=Aa;have e8:=KR.cell;have f8:=KR.frozen;rw[HH.out] at X Y SP';have hz3:w≤w2.heap.size:=Nat.le_of_lt hz2;have eqs:=GI.size;have eqw:=GI.wide;have eqh:=GI.high;have hrow:=Y.hi;go_wp2;refine AS (v:=.tuple (Ew s a b (some a3) N c3 (some a4) N c4 0)) (by simp[results,results173,go_sem,e8]) rfl ?_
   rw[HV.out.1,HV.out.2];refine⟨⟨⟨some a3,N,c3⟩,⟨some a4,N,c4⟩⟩,by unfold Bd;rw[eqs,eqw,eqh],⟨by simp only;omega,by simp only;omega⟩,?_,?_,SP',?_⟩
   ·exact((((X.cell_ (hrow.ne hz2)).cell_ (hrow.ne hz2)).cell_ (hrow.ne hz2)).cell_ (hrow.ne hz2)).cell_ (hrow.ne hz2)
   ·exact(Y.lower hz3).cell_.cell_.cell_.cell_.cell_
   ·repeat(first|with_reducible exact hb|refine Below.setCell ?_ (by simp<;>omega) _)
end Go.Proofs.YtkndcebhjcfphaaGreatDoor
