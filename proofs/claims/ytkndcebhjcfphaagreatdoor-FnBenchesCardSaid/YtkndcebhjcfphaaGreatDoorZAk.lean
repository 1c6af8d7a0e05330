import Derived.Test.YtkndcebhjcfphaaGreatDoorZAj
import Derived.Test.YtkndcebhjcfphaaGreatDoorZL
import Derived.Test.YtkndcebhjcfphaaGreatDoorZS
namespace Go.Proofs.YtkndcebhjcfphaaGreatDoor
open Go.RowKit Go.Proofs.Tryz
set_option maxRecDepth 100000
set_option maxHeartbeats 4000000
set_option linter.all false
section
open Go.RowKit Go.Shelf
theorem Zh (c:Bs):(cutA c).length<=c.length∧(cutB c).length<=c.length:=by
 unfold cutA cutB Lib.cut
 split
 ·rw[Ju,JW];omega
 ·simp
structure H9 (W:World) (g B:Nat) (hd hv:Hd) (us vs:List Value):Prop where
 box:Blk W g 30 (CH hd.A hd.n hd.c hv.A hv.n hv.c)
 gB:g<B
 oD:AR W B 1 hd us
 oV:AR W B 1 hv vs
 off: ∀q,hd.row=some q->hv.row≠some q
section
variable {W W' : World} {g B : Nat} {hd hv G : Hd} {us vs xs : List Value}
theorem H9.below (R:H9 W g B hd hv us vs) (k:Below W W W'):H9 W' g B hd hv us vs:=⟨R.box.below k R.box.lt,R.gB,R.oD.below k,R.oV.below k,R.off⟩
theorem H9.pushD (R:H9 W g B hd hv us vs) (b:AR W' B 1 G (us++xs)) (gg:W.grownBy W' hd.row) (a:G.row=hd.row∨ ∃q,G.row=some q∧W.heap.size<=q):
  H9 (W'.setCell ⟨g,0,none⟩ (.slice G.A G.n G.c)) g B G hv (us++xs) vs:=by
 have d:=R.gB;refine⟨(R.box.grown gg (λe=>by have:=(R.oD.rowlt _ e).1;omega)).set_ 0 _,R.gB,b.farM (λe=>by have:=(b.rowlt _ e).1;simp only at this;omega) _,(R.oV.grown gg (λq e c=>R.off _ c e)).farM (λe=>by have:=(R.oV.rowlt _ e).1;simp only at this;omega) _,λq e e2=> ?_⟩
 rcases a with h|⟨r,h,h'⟩
 ·exact R.off q (h▸e) e2
 ·rw[h] at e;injection e with e;have:=(R.oV.rowlt _ e2).2;omega
theorem H9.pushV (R:H9 W g B hd hv us vs) (b:AR W' B 1 G (vs++xs)) (gg:W.grownBy W' hv.row) (a:G.row=hv.row∨ ∃q,G.row=some q∧W.heap.size<=q):
  H9 (W'.setCell ⟨g,1,none⟩ (.slice G.A G.n G.c)) g B hd G us (vs++xs):=by
 have d:=R.gB;refine⟨(R.box.grown gg (λe=>by have:=(R.oV.rowlt _ e).1;omega)).set_ 1 _,R.gB,(R.oD.grown gg (λq e c=>R.off _ e c)).farM (λe=>by have:=(R.oD.rowlt _ e).1;simp only at this;omega) _,b.farM (λe=>by have:=(b.rowlt _ e).1;simp only at this;omega) _,λq e e2=> ?_⟩
 rcases a with h|⟨r,h,h'⟩
 ·exact R.off q e (h▸e2)
 ·rw[h] at e2;injection e2 with e2;have:=(R.oD.rowlt _ e).2;omega
theorem Pi {h:Hd} {a n i:Nat} {ws:List Bs} {u:Value} (R:Rd W (some ⟨a,0,none⟩) n (BO ws)) (o:AR W B 1 h us) (f:a<W) (d:a<B) (b:a≠g) (gg:W.grownBy W' h.row):Rd (W'.setCell ⟨g,i,none⟩ u) (some ⟨a,0,none⟩) n (BO ws):=
 R.keep λj e _=>by
  cases e
  exact(Below.heap_setCell W' ⟨g,i,none⟩ u a b).trans (gg.block a f (λc=>by have:=(o.rowlt a c.symm).1;omega))
end
def YM (s:Bs) (w:World) (e:Ending) (w':World):Prop:=
 (Fm s=false∧e=.returned (.tuple Eb)∧Below w w w')∨
 ∃hd hv:Hd,Fm s=true∧e=.returned (.tuple #[CH hd.A hd.n hd.c hv.A hv.n hv.c,.bool true])∧AR w' w.heap.size 1 hd (ints (rpD s))∧AR w' w.heap.size 1 hv (ints (rpV s))∧(∀q,hd.row=some q->hv.row≠some q)∧Below w w w'
theorem LY {s:Bs} {w w':World} (h:Fm s=false) (b:Below w w w'):YM s w (.returned (.tuple Eb)) w':=Or.inl ⟨h,rfl,b⟩
theorem ai {s:Bs} {w w':World} {hd hv:Hd} (h:Fm s=true) (a:AR w' w.heap.size 1 hd (ints (rpD s))) (d:AR w' w.heap.size 1 hv (ints (rpV s))) (off: ∀q,hd.row=some q->hv.row≠some q) (b:Below w w w'):YM s w (.returned (.tuple #[CH hd.A hd.n hd.c hv.A hv.n hv.c,.bool true])) w':=Or.inr ⟨hd,hv,h,rfl,a,d,off,b⟩
theorem df {s:Bs} (k:Nat) (a:k<(splitC 44 s).length) (h:YF ((splitC 44 s).getD k [])=false):Fm s=false:=by
 have:OI s=false:=by
  unfold OI Yh;rw[JV];intro c;have:=List.all_eq_true.1 c ((splitC 44 s).getD k []) (by rw[DE,Db a];exact EH a)
  rw[h] at this;cases this
 unfold Fm;rw[this];rfl
theorem IG {ws:List Bs} {k:Nat} (a:k<ws.length):ws.take (k+1)=ws.take k++ [ws.getD k []]:=by
 rw[List.take_succ_eq_append_getElem a,DE,Db a];rfl
theorem Fo (s:Bs) (w:World) (hs:s.length<=100000) (T:Dq w):
  Calls prog 136 #[.string ⟨s.toArray⟩] w (YM s w):=by
 have J:=λ(W:World) (T:Dq W)=>QF s 44 W Aa T;have aj:=DB 44 s;have aL:=jy 44 s;have j:=λ(k:Nat)=>df (s:=s) k
 have aQ:1<=(splitC 44 s).length:=by
  rcases h:splitC 44 s with _|⟨a,t⟩
  ·exact absurd h (CT 44 s)
  ·simp
 have Q:Hid ((splitC 44 s).all YF=true->Fm s=BI ((splitC 44 s).map Oq).length ((splitC 44 s).map Ot).length ((splitC 44 s).map Oq) ((splitC 44 s).map Ot)):=λh=>by
  show Fm s=_;unfold Fm OI Yh;rw[h,Ha];rfl
 have ax:Hid (rpD s=(splitC 44 s).map Oq∧rpV s=(splitC 44 s).map Ot):=⟨rfl,rfl⟩;obtain⟨ws,aT⟩: ∃ws,splitC 44 s=ws:=⟨_,rfl⟩;rw[aT] at J aj aL Q ax j aQ;clear aT;obtain⟨n,hn⟩: ∃n,ws.length=n:=⟨_,rfl⟩;rw[hn] at J aL j aQ;have aw:=Ai j;have HN:=Ai hn;have aA:=Ai aj;clear j hn aj;have aB:=Ai T
 go_enter func136,ntmps136
 go_upto_region 2 with fail
 generalize hG:(w.alloc _).alloc _=w1;obtain⟨d,K1,b0,hS⟩:=gi hG;clear hG;have an:w1.heap.size=w.heap.size+2:=Aa;have T1:=T.below b0;clear T;clear hS;have ad:=J _ T1;rw[an] at ad;clear J
 go_wp2_with fail
 refine ad.mono ?_;rintro e w2 ⟨rfl,hr,V⟩;have aF:Below w1 w1 w2:=by rw[an];exact V
 clear V;have V:=aF;clear aF;clear ad;replace b0:=An b0 V;replace d:=d.below V d.lt;replace K1:=K1.below V K1.lt;replace T1:=T1.below V;clear V an;have P0:H9 w2 (w.heap.size+1) (w.heap.size+3) ⟨none,0,0⟩ ⟨none,0,0⟩ (ints []) (ints []):=⟨K1,by omega,AR.nil _ _ _,AR.nil _ _ _,λq e=>by cases e⟩
 clear K1
 go_wp2_with fail
 go_loopw [17] (λi wr=> ∃(k:Nat) (hd hv:Hd),k<=n∧i=.int .i64 k∧(ws.take k).all YF=true∧H9 wr (w.heap.size+1) (w.heap.size+3) hd hv (ints ((ws.take k).map Oq)) (ints ((ws.take k).map Ot))∧Rd wr (some ⟨w.heap.size+2,0,none⟩) n (BO ws)∧Blk wr w.heap.size 30 QW∧Below w w wr∧Dq wr) (λi _=>n-(intOf i).toNat)
 case atStart=>exact⟨0,⟨none,0,0⟩,⟨none,0,0⟩,AZ _,rfl,rfl,P0,hr,d,b0,T1⟩
 case round=>
  clear P0 hr d b0 T1;obtain⟨k,⟨DA,dn,dc⟩,⟨VA,vn,vc⟩,hk,rfl,l,f,R,d,B,T⟩:=hrel
  by_cases aM:k<n
  ·have aN:(k:Int)<(n:Int):=Aa;obtain⟨_,hA,hx⟩:=R.str aM
   cases hA
   rw[CE] at hx;have aJ:ws.getD k []∈ws:=by rw[DE,Db (by have:=HN.out;omega)];exact EH _
   have bV:=aA.out _ aJ;have HT:=Ai (IG (ws:=ws) (k:=k) (by have:=HN.out;omega))
   have HB:=Ai (aw.out k aM);have aK:((ws.take k).map Oq).length=k:=by rw[List.length_map,Ju];have:=HN.out;omega
   have aS:((ws.take k).map Ot).length=k:=by rw[List.length_map,Ju];have:=HN.out;omega
   have L:dn=k:=by have h:=f.oD.len;unfold ints at h;rw[List.length_map,aK] at h;simp only at h;omega
   have N:vn=k:=by have h:=f.oV.len;unfold ints at h;rw[List.length_map,aS] at h;simp only at h;omega
   have bk:dn+1<=1099511627776:=Aa;have bl:vn+1<=1099511627776:=Aa;clear aJ aK aS L N;generalize ws.getD k []=c at*;have bn:=Zh c;obtain⟨m,hm⟩:=T.mx
   have hcut: ∀W,(∃m,W.cell? ⟨0,0,none⟩=some (.int .i64 m))->Calls prog 178 #[.string ⟨c.toArray⟩,.string ⟨#[58]⟩] W λe w'=> ∃y,e=.returned (.tuple #[.string ⟨(cutA c).toArray⟩,.string ⟨(cutB c).toArray⟩,.bool y])∧ ∃n,w'=W.drewN n:=λW ⟨m,hm⟩=>
    (UH ⟨c.toArray⟩ ⟨#[58]⟩ m W (by rw[Bj];omega) hm).mono λe w' ⟨h1,h2⟩=>⟨_,h1,h2⟩
   have hcut:=hcut wr ⟨m,hm⟩;have h1:=λ(W:World) (T:Dq W)=>FX (cutA c) W Aa T;have h2:=λ(W:World) (T:Dq W)=>FX (cutB c) W Aa T;have HI:Hid (YF c=(rdB (cutA c) && rdB (cutB c))∧Oq c=rdN (cutA c)∧Ot c=rdN (cutB c)):=⟨rfl,rfl,rfl⟩;generalize cutA c=a at*;generalize cutB c=b at*;clear bn hm
   go_wp2_with fail
   refine hcut.mono ?_;rintro e w3 ⟨y,rfl,q,rfl⟩;clear hcut;have bd:Below wr wr (wr.drewN q):=BW wr q;replace B:=An B bd;replace f:=f.below bd;replace R:=R.below bd;replace d:=d.below bd d.lt;replace T:=T.below bd;clear bd;generalize wr.drewN q=w3 at*
   go_wp2_with fail
   refine(h1 _ T).mono ?_;rintro e w4 ⟨F,rfl,ak,b4⟩;replace B:=An B b4;replace f:=f.below b4;replace R:=R.below b4;replace d:=d.below b4 d.lt;replace T:=T.below b4;clear b4 h1
   go_wp2_with fail
   refine(h2 _ T).mono ?_;rintro e Y ⟨H,rfl,am,b5⟩;replace B:=An B b5;replace f:=f.below b5;replace R:=R.below b5;replace d:=d.below b5 d.lt;clear b5 h2
   by_cases C:rdB a=true∧rdB b=true
   ·obtain⟨D,ob⟩:=C;have I:Hid (YF c=true):=by unfold Hid;rw[HI.out.1,D,ob];rfl
    have be:Hid (F=Oq c):=(ak D).trans HI.out.2.1.symm;have bf:Hid (H=Ot c):=(am ob).trans HI.out.2.2.symm;rw[D,ob];clear ak am D ob HI HB;have R1:Rd (Y.alloc (.cells #[ZI F] 2)) (some ⟨Y,0,none⟩) (1*1) (ints [F]):=BD _ _ _;have al:Below Y Y (Y.alloc (.cells #[ZI F] 2)):=BU;have U:=f.below al;have W1:=R.below al;have Z1:=d.alloc (.cells #[ZI F] 2);have D1:=An B al;have K:w.heap.size+3<=(Y.alloc (.cells #[ZI F] 2)).heap.size:=W1.lt rfl Aa;have c8:=λo=>f.box.cell o;have q8:=f.box.lt;have M:w.heap.size+2<(Y.alloc (.cells #[ZI F] 2)).heap.size:=W1.lt rfl Aa
    go_upto_region 11 with(at_builtin;refine Aj rfl _ _ 28 rfl 2 1 8 underlying28 AJ Ah (w.heap.size+3) ⟨DA,dn,dc⟩ _ rfl U.oD _ 1 1 (ints [F]) rfl R1 (Ao _) bk Ah K ?_;intro r aV aO aU x X;have S:=U.box.grown x (λe=>by have:=(U.oD.rowlt _ e).1;omega);have c8:=S.cell;have f8:=S.frozen;have q8:=S.lt;have az:=Ai aO;clear aO)
    have P2:=U.pushD aU x X;have W2:=Pi (i:=0) (u:=.slice r.A r.n r.c) W1 U.oD M Aa (show w.heap.size+2≠w.heap.size+1 by omega) x
    have Z2:=(Z1.grown x (λe=>by have:=(U.oD.rowlt _ e).1;omega)).far (p:=⟨w+1,0,none⟩) Aw (.slice r.A r.n r.c)
    have aH:=Below.grown (AP (w.heap.size+1) (Y.alloc (.cells #[ZI F] 2))) x Aa (λb e=>by have:=(U.oD.rowlt _ e).1;omega)
    have D2:Below w w (aV.setCell ⟨w+1,0,none⟩ (.slice r.A r.n r.c)):=(D1.trans (aH.mono Aa)).setCell (p:=⟨w+1,0,none⟩) Aw _;clear R1 al U W1 Z1 D1 K c8 q8 aU x X S f8 az f R d B T M aH;generalize aV.setCell ⟨w+1,0,none⟩ (.slice r.A r.n r.c)=Z at*;have R1:Rd (Z.alloc (.cells #[ZI H] 2)) (some ⟨Z,0,none⟩) (1*1) (ints [H]):=BD _ _ _;have al:Below Z Z (Z.alloc (.cells #[ZI H] 2)):=BU;have P3:=P2.below al;have W3:=W2.below al;have Z3:=Z2.alloc (.cells #[ZI H] 2);have D3:=An D2 al;have K:w.heap.size+3<=(Z.alloc (.cells #[ZI H] 2)).heap.size:=W3.lt rfl Aa;have c8:=λo=>P2.box.cell o;have q8:=P2.box.lt;have M:w.heap.size+2<(Z.alloc (.cells #[ZI H] 2)).heap.size:=W3.lt rfl Aa
    go_wp2_with (at_builtin;refine Aj rfl _ _ 28 rfl 2 1 8 underlying28 AJ Ah (w.heap.size+3) ⟨VA,vn,vc⟩ _ rfl P3.oV _ 1 1 (ints [H]) rfl R1 (Ao _) bl Ah K ?_;intro E bu aP bq z aI;have S:=P3.box.grown z (λe=>by have:=(P3.oV.rowlt _ e).1;omega);have c8:=S.cell;have f8:=S.frozen;have q8:=S.lt;have az:=Ai aP;clear aP)
    have P4:=P3.pushV bq z aI;have W4:=Pi (i:=1) (u:=.slice E.A E.n E.c) W3 P3.oV M Aa (show w.heap.size+2≠w.heap.size+1 by omega) z
    have Z4:=(Z3.grown z (λe=>by have:=(P3.oV.rowlt _ e).1;omega)).far (p:=⟨w+1,1,none⟩) Aw (.slice E.A E.n E.c)
    have bi:=Below.grown (AP (w.heap.size+1) (Z.alloc (.cells #[ZI H] 2))) z Aa (λb e=>by have:=(P3.oV.rowlt _ e).1;omega)
    have D4:Below w w (bu.setCell ⟨w+1,1,none⟩ (.slice E.A E.n E.c)):=(D3.trans (bi.mono Aa)).setCell (p:=⟨w+1,1,none⟩) Aw _;have T4:=aB.out.below D4;have af:(ws.take (k+1)).all YF=true:=by rw[HT.out,List.all_append,l];simp[I.out]
    have eD:ints ((ws.take (k+1)).map Oq)=ints ((ws.take k).map Oq)++ints [F]:=by rw[HT.out,be.out];unfold ints;simp
    have eV:ints ((ws.take (k+1)).map Ot)=ints ((ws.take k).map Ot)++ints [H]:=by rw[HT.out,bf.out];unfold ints;simp
    go_roundw
    case rel=>exact⟨k+1,r,E,by omega,by go_num,af,by rw[eD,eV];exact P4,W4,Z4,D4,T4⟩
    case measure=>simp[intOf];omega
   ·have I:Hid (Fm s=false):=by
     refine HB.out ?_;rw[HI.out.1];rcases jt (rdB a) with h|h
     ·rcases jt (rdB b) with h'|h'
      ·exact absurd ⟨h,h'⟩ C
      ·rw[h,h'];rfl
     ·rw[h];rfl
    have e0:=d.cell;have f0:=d.frozen;clear ak am HI HB;rcases jt (rdB a) with D|D
    ·have ob:rdB b=false:=by
      rcases jt (rdB b) with h'|h'
      ·exact absurd ⟨D,h'⟩ C
      ·exact h'
     rw[D,ob];clear C D ob;go_wp2;refine AS (v:=.tuple Eb) (by simp[results,results136,go_sem,e0]) rfl ?_
     exact LY I.out Ax
    ·rw[D];clear C D;generalize rdB b=zb;go_wp2;refine AS (v:=.tuple Eb) (by simp[results,results136,go_sem,e0]) rfl ?_
     exact LY I.out Ax
  ·obtain rfl:n=k:=Aa;have aN: ¬(n:Int)<(n:Int):=Aa;have ht:ws.take n=ws:=ED (by have:=HN.out;omega)
   rw[ht] at l f;have ab:=Q.out l;have L:dn=(ws.map Oq).length:=by have h:=f.oD.len;unfold ints at h;rw[List.length_map] at h;simp only at h;omega
   have N:vn=(ws.map Ot).length:=by have h:=f.oV.len;unfold ints at h;rw[List.length_map] at h;simp only at h;omega
   rw[<-L,<-N] at ab;have ac:=EL DA VA dn vn dc vc (ws.map Oq) (ws.map Ot) wr (by have:=f.oD.max;have:=f.oD.nc;simp only at*;unfold maxLen at*;omega) (by have:=f.oV.max;have:=f.oV.nc;simp only at*;unfold maxLen at*;omega) f.oD.rd1 f.oV.rd1
   rw[<-ab] at ac;have O:=Ai ax.out;clear ab L N l ht R T aw aA aB;have e1:=λo=>f.box.cell o
   go_wp2_with fail
   refine ac.mono ?_;clear ac;rcases jt (Fm s) with hb|hb
   ·rw[hb];rintro e w3 ⟨rfl,b3⟩;have aa:=Ai hb;clear hb e1;replace B:=An B b3;replace f:=f.below b3;replace d:=d.below b3 d.lt;have e1:=λo=>f.box.cell o;have e0:=d.cell;have f0:=d.frozen;have ag:=f.oD;have ah:=f.oV;have aR:=f.off;clear f d;go_wp2;refine AS (v:=.tuple #[CH DA dn dc VA vn vc,.bool true]) (by simp[results,results136,go_sem,e0]) rfl ?_
    refine ai (hd:=⟨DA,dn,dc⟩) (hv:=⟨VA,vn,vc⟩) aa.out ?_ ?_ aR Ax
    ·rw[O.out.1];exact((ag.farM (p:=⟨w,0,none⟩) (λe=>by have:=(ag.rowlt _ e).1;simp only at this;omega) _).farM (p:=⟨w,1,none⟩) (λe=>by have:=(ag.rowlt _ e).1;simp only at this;omega) _).mono Aa
    ·rw[O.out.2];exact((ah.farM (p:=⟨w,0,none⟩) (λe=>by have:=(ah.rowlt _ e).1;simp only at this;omega) _).farM (p:=⟨w,1,none⟩) (λe=>by have:=(ah.rowlt _ e).1;simp only at this;omega) _).mono Aa
   ·rw[hb];rintro e w3 ⟨rfl,b3⟩;have aa:=Ai hb;clear hb e1;replace B:=An B b3;replace d:=d.below b3 d.lt;have e0:=d.cell;have f0:=d.frozen;clear f d;go_wp2;refine AS (v:=.tuple Eb) (by simp[results,results136,go_sem,e0]) rfl ?_
    exact LY aa.out Ax
end
def YN (s:Bs) (w:World) (e:Ending) (w':World):Prop:=
 (Fm s=false∧e=.returned (.tuple Eb)∧Below w w w')∨
 ∃hd hv:Hd,Fm s=true∧e=.returned (.tuple #[CH hd.A hd.n hd.c hv.A hv.n hv.c,.bool true])∧Rd w' hd.A hd.n (ints (rpD s))∧Rd w' hv.A hv.n (ints (rpV s))∧(∀q,blkp hd.A hd.n=some q∨blkp hv.A hv.n=some q->w<=q)∧Below w w w'
theorem LZ {s:Bs} {w w':World} (h:Fm s=false) (b:Below w w w'):YN s w (.returned (.tuple Eb)) w':=Or.inl ⟨h,rfl,b⟩
theorem aj {s:Bs} {w w':World} {hd hv:Hd} (h:Fm s=true) (a:Rd w' hd.A hd.n (ints (rpD s))) (d:Rd w' hv.A hv.n (ints (rpV s))) (f: ∀q,blkp hd.A hd.n=some q∨blkp hv.A hv.n=some q->w<=q) (b:Below w w w'):YN s w (.returned (.tuple #[CH hd.A hd.n hd.c hv.A hv.n hv.c,.bool true])) w':=Or.inr ⟨hd,hv,h,rfl,a,d,f,b⟩
theorem di {s:Bs} (k:Nat) (a:k<(splitC 44 s).length) (h:X8 ((splitC 44 s).getD k [])=false):Fm s=false:=by
 have:La s=false:=by
  unfold La Yh;rw[JV];intro c;have:=List.all_eq_true.1 c ((splitC 44 s).getD k []) (by rw[DE,Db a];exact EH a)
  rw[h] at this;cases this
 rw[(ar s).1,this];rfl
structure Nw (W:World) (B:Nat) (hd hv:Hd) (us vs:List Value):Prop where
 oD:AR W B 1 hd us
 oV:AR W B 1 hv vs
 off: ∀q,hd.row=some q->hv.row≠some q
theorem Nw.below {W W':World} {B:Nat} {hd hv:Hd} {us vs:List Value} (T:Nw W B hd hv us vs) (b:Below W W W'):Nw W' B hd hv us vs:=⟨T.oD.below b,T.oV.below b,T.off⟩
theorem Nw.pushD {W W':World} {B:Nat} {hd hv G:Hd} {us vs xs:List Value} (T:Nw W B hd hv us vs) (b:AR W' B 1 G (us++xs)) (gg:W.grownBy W' hd.row) (a:G.row=hd.row∨ ∃q,G.row=some q∧W.heap.size<=q):Nw W' B G hv (us++xs) vs:=by
 refine⟨b,T.oV.grown gg (λq e c=>T.off _ c e),λq e e2=> ?_⟩;rcases a with h|⟨r,h,h'⟩
 ·exact T.off q (h▸e) e2
 ·rw[h] at e;injection e with e;have:=(T.oV.rowlt _ e2).2;omega
theorem Nw.pushV {W W':World} {B:Nat} {hd hv G:Hd} {us vs xs:List Value} (T:Nw W B hd hv us vs) (b:AR W' B 1 G (vs++xs)) (gg:W.grownBy W' hv.row) (a:G.row=hv.row∨ ∃q,G.row=some q∧W.heap.size<=q):Nw W' B hd G us (vs++xs):=by
 refine⟨T.oD.grown gg (λq e c=>T.off _ e c),b,λq e e2=> ?_⟩;rcases a with h|⟨r,h,h'⟩
 ·exact T.off q e (h▸e2)
 ·rw[h] at e2;injection e2 with e2;have:=(T.oD.rowlt _ e).2;omega
theorem Fr (s:Bs) (w:World) (hs:s.length<=100000):
  Calls prog 121 #[.string ⟨s.toArray⟩] w (YN s w):=by
 have C:=λW=>Fz ⟨s.toArray⟩ 44 W (by rw[Bj];omega)
 rw[show(ByteArray.mk s.toArray).data.toList=s from rfl] at C;have D:=DB 44 s;have a1:=jy 44 s;have u:=λ(k:Nat)=>di (s:=s) k
 have a5:1<=(splitC 44 s).length:=by
  rcases h:splitC 44 s with _|⟨a,t⟩
  ·exact absurd h (CT 44 s)
  ·simp
 have ag:Hid ((splitC 44 s).all X8=true->Fm s=BI ((splitC 44 s).map psD).length ((splitC 44 s).map psV).length ((splitC 44 s).map psD) ((splitC 44 s).map psV)):=λh=>by
  show Fm s=_;rw[(ar s).1];unfold La Yh;rw[h,Ha];rfl
 have aM:Hid (Fm s=true->rpD s=(splitC 44 s).map psD∧rpV s=(splitC 44 s).map psV):=λh=>by
  have:=(ar s).2 h;exact⟨this.1.symm,this.2.symm⟩
 obtain⟨ws,bb⟩: ∃ws,splitC 44 s=ws:=⟨_,rfl⟩;rw[bb] at C D a1 ag aM u a5;clear bb;obtain⟨n,hn⟩: ∃n,ws.length=n:=⟨_,rfl⟩;rw[hn] at C a1 u a5;have aL:=Ai u;have HN:=Ai hn;have aP:=Ai D;clear u hn D
 go_enter func121,ntmps121
 go_upto_region 1 with fail
 generalize hG:w.alloc _=w1;obtain⟨d,b0⟩:=EX hG;clear hG;have bn:((44:UInt8).toNat:Int)=44:=rfl;rw[bn] at C
 go_wp2_with fail
 refine(C _).mono ?_;rintro e w2 ⟨WA,wc,rfl,hr,ch,b2⟩;clear C;replace b0:=An b0 b2;replace d:=d.below b2 d.lt;clear b2;have bA:=d.lt;have az:Hid (∀ad,WA=some ad->ad.block<w2.heap.size):=λad e=>hr.lt e Aa;obtain⟨O,aS⟩: ∃B,w2.heap.size=B:=⟨_,rfl⟩;rw[aS] at az bA;replace hr:=(hr.below ((AP _ _).alloc Bk (.cells #[] 2))).below ((AP _ _).alloc Bk (.cells #[] 2));replace d:=(d.alloc (.cells #[] 2)).alloc (.cells #[] 2);replace b0:Below w w ((w2.alloc (.cells #[] 2)).alloc (.cells #[] 2)):=Ax;have aA:O<=((w2.alloc (.cells #[] 2)).alloc (.cells #[] 2)).heap.size:=Bq;clear aS
 go_upto_region 3 with fail
 generalize(w2.alloc _).alloc _=w3 at hr d b0 aA⊢;generalize(some (⟨w2,0,none⟩:Addr))=PA;generalize(some (⟨w2+1,0,none⟩:Addr))=f;have O0:Nw w3 O ⟨PA,0,0⟩ ⟨f,0,0⟩ (ints []) (ints []):=⟨AR.empty _ _ _ _,AR.empty _ _ _ _,λq e=>by simp[Hd.row] at e⟩
 go_wp2_with fail
 go_loopw [5,6,7] (λt5 t6 i wr=> ∃(k:Nat) (hd hv:Hd),k<=n∧t5=.slice hd.A hd.n hd.c∧t6=.slice hv.A hv.n hv.c∧i=.int .i64 k∧(ws.take k).all X8=true∧Nw wr O hd hv (ints ((ws.take k).map psD)) (ints ((ws.take k).map psV))∧Rd wr WA n (BO ws)∧Blk wr w.heap.size 30 QW∧Below w w wr∧O<=wr.heap.size) (λ_ _ i _=>n-(intOf i).toNat)
 case atStart=>exact⟨0,⟨PA,0,0⟩,⟨f,0,0⟩,AZ _,rfl,rfl,rfl,rfl,O0,hr,d,b0,aA⟩
 case round=>
  clear O0 hr d b0 aA;obtain⟨k,⟨Q,dn,V⟩,⟨U,I,vc⟩,hk,rfl,rfl,rfl,y,f,R,d,B,F⟩:=hrel
  by_cases a2:k<n
  ·have a3:(k:Int)<(n:Int):=Aa;obtain⟨ad,hA,hx⟩:=R.str a2;subst hA;have aV:ws.getD k []∈ws:=by rw[DE,Db (by have:=HN.out;omega)];exact EH _
   have cd:=aP.out _ aV;have HT:=Ai (IG (ws:=ws) (k:=k) (by have:=HN.out;omega))
   have HB:=Ai (aL.out k a2);have a0:((ws.take k).map psD).length=k:=by rw[List.length_map,Ju];have:=HN.out;omega
   have a9:((ws.take k).map psV).length=k:=by rw[List.length_map,Ju];have:=HN.out;omega
   have X:dn=k:=by have h:=f.oD.len;unfold ints at h;rw[List.length_map,a0] at h;simp only at h;omega
   have ab:I=k:=by have h:=f.oV.len;unfold ints at h;rw[List.length_map,a9] at h;simp only at h;omega
   have bo:dn+1<=1099511627776:=Aa;have bq:I+1<=1099511627776:=Aa;clear aV a0 a9 X ab;generalize ws.getD k []=c at*;have D:=DB 58 c;have am:=jy 58 c;have HS:=λW=>Fz ⟨c.toArray⟩ 58 W (by rw[Bj];omega)
   rw[show(ByteArray.mk c.toArray).data.toList=c from rfl] at HS;have aR:((58:UInt8).toNat:Int)=58:=rfl;rw[aR] at HS;have HP:Hid (X8 c=(C7 (splitC 58 c) && decide ((splitC 58 c).length=2))∧psD c=((splitC 58 c).map sgN).getD 0 0∧psV c=((splitC 58 c).map sgN).getD 1 0):=⟨rfl,rfl,rfl⟩;obtain⟨vs,ba⟩: ∃vs,splitC 58 c=vs:=⟨_,rfl⟩;rw[ba] at HS D am HP;clear ba aR;obtain⟨q,hq⟩: ∃q,vs.length=q:=⟨_,rfl⟩;rw[hq] at HS am HP;clear hq
   go_wp2_with fail
   refine(HS _).mono ?_;rintro e w4 ⟨XA,xc,rfl,a8,ci,b4⟩;clear HS;replace B:=An B b4;replace f:=f.below b4;replace R:=R.below b4;replace d:=d.below b4 d.lt;replace F:=Ch F b4.size;have a7:=λq e=>(f.oD.rowlt q e).2;clear b4 hx
   go_wp2_with fail
   refine(Ki XA q xc vs w4 Aa a8 (λx hx=>by have:=D x hx;omega)).mono ?_
   rintro e w5 ⟨bx,b5⟩;replace B:=An B b5;replace f:=f.below b5;replace R:=R.below b5;replace d:=d.below b5 d.lt;replace F:=Ch F b5.size;clear b5 a8;have aq:=d.cell;have au:=d.frozen;have av:=d.lt;rcases bx with⟨E,NA,nc,rfl,aa,cf,an⟩|⟨E,rfl⟩
   rotate_left
   ·have K:Hid (Fm s=false):=HB.out (by rw[HP.out.1,E];rfl)
    clear E HB;go_wp2;refine AS (v:=.tuple Eb) (by simp[results,results121,go_sem,aq,au,av]) rfl ?_
    exact LZ K.out Ax
   by_cases a6:q=2
   rotate_left
   ·have K:Hid (Fm s=false):=HB.out (by rw[HP.out.1,BR a6,Bool.and_false])
    have cg: ¬((q:Int)=2):=Aa;clear E HB;go_wp2;refine AS (v:=.tuple Eb) (by simp[results,results121,go_sem,aq,au,av]) rfl ?_
    exact LZ K.out Ax
   subst a6;have K:Hid (X8 c=true):=by unfold Hid;rw[HP.out.1,E,BC rfl];rfl
   clear E HB;obtain⟨na,bw,ac⟩:=aa.int (k:=0) Aa;obtain⟨_,j,l⟩:=aa.int (k:=1) Aa
   cases bw
   cases j
   obtain⟨_,j,bO,-⟩:=an Aa
   cases j
   clear an;rw[Gu] at ac;rw[Bf _ 1 Ah] at l;rw[<-HP.out.2.1] at ac;rw[<-HP.out.2.2] at l;obtain⟨va,ax⟩: ∃v,psD c=v:=⟨_,rfl⟩;obtain⟨vb,ay⟩: ∃v,psV c=v:=⟨_,rfl⟩;rw[ax] at ac;rw[ay] at l;have bh:=Ai ax;have aQ:=Ai ay;clear ax ay;have R1:Rd (w5.alloc (.cells #[ZI va] 2)) (some ⟨w5,0,none⟩) (1*1) (ints [va]):=BD _ _ _;have al:Below w5 w5 (w5.alloc (.cells #[ZI va] 2)):=BU;have H:=f.below al;have W1:=R.below al;have X1:=aa.below al;have Z1:=d.alloc (.cells #[ZI va] 2);have D1:=An B al;have aT:O<=(w5.alloc (.cells #[ZI va] 2)).heap.size:=Bq;clear aq au av
   go_upto_region 10 with(at_builtin;refine Aj rfl _ _ 28 rfl 2 1 8 underlying28 AJ Ah O ⟨Q,dn,V⟩ _ rfl H.oD _ 1 1 (ints [va]) rfl R1 (Ao _) bo Ah aT ?_;intro G1 r a4 bc m ak;have aO:=Ai a4;clear a4)
   have z:=H.oD.rowlt;have P2:=H.pushD bc m ak;have W2:=W1.grown m (λe ad M c=>by have:=(z _ c).1;have:=az.out _ ad;omega)
   have Z2:=Z1.grown m (λe=>by have:=(z _ e).1;omega)
   have X2:=X1.grown m (λe he M c=>by cases he;have:=a7 _ c;omega)
   have D2:=D1.grown m D1.size (λb e=>by have:=(z _ e).1;omega)
   have cc:O<=r.heap.size:=by have:=m.size;omega
   clear R1 al H W1 X1 Z1 D1 aT bc m ak aO z ac l aa f R d B F;obtain⟨_,j,l⟩:=X2.int (k:=1) Aa
   cases j
   rw[Bf _ 1 Ah] at l;rw[<-HP.out.2.2] at l;rw[aQ.out] at l;clear X2;have R1:Rd (r.alloc (.cells #[ZI vb] 2)) (some ⟨r,0,none⟩) (1*1) (ints [vb]):=BD _ _ _;have al:Below r r (r.alloc (.cells #[ZI vb] 2)):=BU;have P3:=P2.below al;have W3:=W2.below al;have Z3:=Z2.alloc (.cells #[ZI vb] 2);have D3:=An D2 al;have br:O<=(r.alloc (.cells #[ZI vb] 2)).heap.size:=Bq
   go_wp2_with (at_builtin;refine Aj rfl _ _ 28 rfl 2 1 8 underlying28 AJ Ah O ⟨U,I,vc⟩ _ rfl P3.oV _ 1 1 (ints [vb]) rfl R1 (Ao _) bq Ah br ?_;intro G2 bE M bC L aU;have aO:=Ai M;clear M)
   have N:=P3.oV.rowlt;have P4:=P3.pushV bC L aU;have W4:=W3.grown L (λe ad M c=>by have:=(N _ c).1;have:=az.out _ ad;omega)
   have Z4:=Z3.grown L (λe=>by have:=(N _ e).1;omega)
   have D4:=D3.grown L D3.size (λb e=>by have:=(N _ e).1;omega)
   have bs:O<=bE.heap.size:=by have:=L.size;omega
   have aw:(ws.take (k+1)).all X8=true:=by rw[HT.out,List.all_append,y];simp[K.out]
   have eD:ints ((ws.take (k+1)).map psD)=ints ((ws.take k).map psD)++ints [va]:=by rw[HT.out,<-bh.out];unfold ints;simp
   have eV:ints ((ws.take (k+1)).map psV)=ints ((ws.take k).map psV)++ints [vb]:=by rw[HT.out,<-aQ.out];unfold ints;simp
   go_roundw
   case rel=>exact⟨k+1,G1,G2,by omega,rfl,rfl,by go_num,aw,by rw[eD,eV];exact P4,W4,Z4,D4,bs⟩
   case measure=>simp[intOf];omega
  ·obtain rfl:n=k:=Aa;have a3: ¬(n:Int)<(n:Int):=Aa;have ht:ws.take n=ws:=ED (by have:=HN.out;omega)
   rw[ht] at y f;have ao:=ag.out y;have X:dn=(ws.map psD).length:=by have h:=f.oD.len;unfold ints at h;rw[List.length_map] at h;simp only at h;omega
   have ab:I=(ws.map psV).length:=by have h:=f.oV.len;unfold ints at h;rw[List.length_map] at h;simp only at h;omega
   rw[<-X,<-ab] at ao;have al:Below wr wr (wr.alloc (.cells (CH Q dn V U I vc) 30)):=BU;have S:=Cv Q U dn I V vc (ws.map psD) (ws.map psV) (wr.alloc (.cells (CH Q dn V U I vc) 30)) (by have:=f.oD.max;have:=f.oD.nc;simp only at*;unfold maxLen at*;omega) (by have:=f.oV.max;have:=f.oV.nc;simp only at*;unfold maxLen at*;omega) (f.oD.below al).rd1 (f.oV.below al).rd1
   rw[<-ao] at S;have af:=Ai aM.out;have T:=Br wr 30 (CH Q dn V U I vc);have bB:=B.size;replace B:Below w w (wr.alloc (.cells (CH Q dn V U I vc) 30)):=Ax;replace d:=d.alloc (.cells (CH Q dn V U I vc) 30);have H:=f.below al;clear ao X ab y ht R aL aP f al
   go_upto_region 12 with fail
   generalize wr.alloc _=w8 at S T d B H⊢;generalize wr.heap.size=q8 at T bB F⊢;have e1:=T.cell
   go_wp2_with fail
   refine S.mono ?_;clear S;rcases jt (Fm s) with hb|hb
   ·rw[hb];rintro e w3 ⟨rfl,b3⟩;have J:=Ai hb;clear hb e1;replace B:=An B b3;replace H:=H.below b3;replace d:=d.below b3 d.lt;replace T:=T.below b3 T.lt;have e1:=T.cell;have e0:=d.cell;have f0:=d.frozen;have Y:=H.oD;have Z:=H.oV;clear H d T;go_wp2;refine AS (v:=.tuple #[CH Q dn V U I vc,.bool true]) (by simp[results,results121,go_sem,e0]) rfl ?_
    refine aj (hd:=⟨Q,dn,V⟩) (hv:=⟨U,I,vc⟩) J.out ?_ ?_ (λq hq=>by rcases hq with e|e;(·have:=Y.wr1.blockp e;omega);(·have:=Z.wr1.blockp e;omega)) Ax
    ·rw[(af.out J.out).1];exact((Y.farM (p:=⟨w,0,none⟩) (λe=>by have:=(Y.rowlt _ e).1;simp only at this;omega) _).farM (p:=⟨w,1,none⟩) (λe=>by have:=(Y.rowlt _ e).1;simp only at this;omega) _).rd1
    ·rw[(af.out J.out).2];exact((Z.farM (p:=⟨w,0,none⟩) (λe=>by have:=(Z.rowlt _ e).1;simp only at this;omega) _).farM (p:=⟨w,1,none⟩) (λe=>by have:=(Z.rowlt _ e).1;simp only at this;omega) _).rd1
   ·rw[hb];rintro e w3 ⟨rfl,b3⟩;have J:=Ai hb;clear hb e1;replace B:=An B b3;replace d:=d.below b3 d.lt;have e0:=d.cell;have f0:=d.frozen;clear H d T;go_wp2;refine AS (v:=.tuple Eb) (by simp[results,results121,go_sem,e0]) rfl ?_
    exact LZ J.out Ax
