import Derived.Test.YtkndcebhjcfphaaGreatDoorZAf
import Derived.Test.YtkndcebhjcfphaaGreatDoorZJ
import Derived.Test.YtkndcebhjcfphaaGreatDoorZQ
namespace Go.Proofs.YtkndcebhjcfphaaGreatDoor
open Go.RowKit Go.Proofs.Tryz
set_option maxRecDepth 100000
set_option maxHeartbeats 4000000
set_option linter.all false
section
open Go.RowKit Go.Shelf
theorem Zh (c:Bs):(cutA c).length≤c.length∧(cutB c).length≤c.length:=by
 unfold cutA cutB Lib.cut
 split
 ·rw[Ju,JW];omega
 ·simp
structure H9 (W:World) (g B:Nat) (hd hv:Hd) (us vs:List Value):Prop where
 box:Blk W g 30 (CH hd.A hd.n hd.c hv.A hv.n hv.c)
 gB:g<B
 oD:AR W B 1 hd us
 oV:AR W B 1 hv vs
 off: ∀q,hd.row=some q→hv.row≠some q
section
variable {W W' : World} {g B : Nat} {hd hv G : Hd} {us vs xs : List Value}
theorem H9.below (R:H9 W g B hd hv us vs) (k:Below W W W'):H9 W' g B hd hv us vs:=⟨R.box.below k R.box.lt,R.gB,R.oD.below k,R.oV.below k,R.off⟩
theorem H9.pushD (R:H9 W g B hd hv us vs) (oG:AR W' B 1 G (us++xs)) (gg:W.grownBy W' hd.row) (hat:G.row=hd.row∨ ∃q,G.row=some q∧W.heap.size≤q):
  H9 (W'.setCell ⟨g,0,none⟩ (.slice G.A G.n G.c)) g B G hv (us++xs) vs:=by
 have hgB:=R.gB;refine⟨(R.box.grown gg (fun e=>by have:=(R.oD.rowlt _ e).1;omega)).set_ 0 _,R.gB,oG.farM (fun e=>by have:=(oG.rowlt _ e).1;simp only at this;omega) _,(R.oV.grown gg (fun q e c=>R.off _ c e)).farM (fun e=>by have:=(R.oV.rowlt _ e).1;simp only at this;omega) _,fun q e e2=> ?_⟩
 rcases hat with h|⟨r,h,h'⟩
 ·exact R.off q (h▸e) e2
 ·rw[h] at e;injection e with e;have:=(R.oV.rowlt _ e2).2;omega
theorem H9.pushV (R:H9 W g B hd hv us vs) (oG:AR W' B 1 G (vs++xs)) (gg:W.grownBy W' hv.row) (hat:G.row=hv.row∨ ∃q,G.row=some q∧W.heap.size≤q):
  H9 (W'.setCell ⟨g,1,none⟩ (.slice G.A G.n G.c)) g B hd G us (vs++xs):=by
 have hgB:=R.gB;refine⟨(R.box.grown gg (fun e=>by have:=(R.oV.rowlt _ e).1;omega)).set_ 1 _,R.gB,(R.oD.grown gg (fun q e c=>R.off _ e c)).farM (fun e=>by have:=(R.oD.rowlt _ e).1;simp only at this;omega) _,oG.farM (fun e=>by have:=(oG.rowlt _ e).1;simp only at this;omega) _,fun q e e2=> ?_⟩
 rcases hat with h|⟨r,h,h'⟩
 ·exact R.off q e (h▸e2)
 ·rw[h] at e2;injection e2 with e2;have:=(R.oD.rowlt _ e).2;omega
theorem Pi {h:Hd} {gr n i:Nat} {ws:List Bs} {u:Value} (R:Rd W (some ⟨gr,0,none⟩) n (strs ws)) (o:AR W B 1 h us) (hl:gr<W) (hgr:gr<B) (hne:gr≠g) (gg:W.grownBy W' h.row):Rd (W'.setCell ⟨g,i,none⟩ u) (some ⟨gr,0,none⟩) n (strs ws):=
 R.keep fun ad e _=>by
  cases e
  exact(Below.heap_setCell W' ⟨g,i,none⟩ u gr hne).trans (gg.block gr hl (fun c=>by have:=(o.rowlt gr c.symm).1;omega))
end
def YM (s:Bs) (w:World) (e:Ending) (w':World):Prop:=
 (Fm s=false∧e=.returned (.tuple Eb)∧Below w w w')∨
 ∃hd hv:Hd,Fm s=true∧e=.returned (.tuple #[CH hd.A hd.n hd.c hv.A hv.n hv.c,.bool true])∧AR w' w.heap.size 1 hd (ints (rpD s))∧AR w' w.heap.size 1 hv (ints (rpV s))∧(∀q,hd.row=some q→hv.row≠some q)∧Below w w w'
theorem LY {s:Bs} {w w':World} (h:Fm s=false) (b:Below w w w'):YM s w (.returned (.tuple Eb)) w':=Or.inl ⟨h,rfl,b⟩
theorem ai {s:Bs} {w w':World} {hd hv:Hd} (h:Fm s=true) (o1:AR w' w.heap.size 1 hd (ints (rpD s))) (o2:AR w' w.heap.size 1 hv (ints (rpV s))) (off: ∀q,hd.row=some q→hv.row≠some q) (b:Below w w w'):YM s w (.returned (.tuple #[CH hd.A hd.n hd.c hv.A hv.n hv.c,.bool true])) w':=Or.inr ⟨hd,hv,h,rfl,o1,o2,off,b⟩
theorem df {s:Bs} (k:Nat) (hk:k<(splitC 44 s).length) (h:YF ((splitC 44 s).getD k [])=false):Fm s=false:=by
 have:OI s=false:=by
  unfold OI Yh;rw[JV];intro c;have:=List.all_eq_true.1 c ((splitC 44 s).getD k []) (by rw[DE,Db hk];exact EH hk)
  rw[h] at this;cases this
 unfold Fm;rw[this];rfl
theorem IG {ws:List Bs} {k:Nat} (hk:k<ws.length):ws.take (k+1)=ws.take k++ [ws.getD k []]:=by
 rw[List.take_succ_eq_append_getElem hk,DE,Db hk];rfl
theorem Fo (s:Bs) (w:World) (hs:s.length≤100000) (T:Dq w):
  Calls prog 136 #[.string ⟨s.toArray⟩] w (YM s w):=by
 have HSP:=fun(W:World) (T:Dq W)=>QF s 44 W Aa T;have hpc:=DB 44 s;have hln:=D8 44 s;have HBAD:=fun(k:Nat)=>df (s:=s) k
 have hne:1≤(splitC 44 s).length:=by
  rcases h:splitC 44 s with _|⟨a,t⟩
  ·exact absurd h (CT 44 s)
  ·simp
 have HFIN:Hid ((splitC 44 s).all YF=true→Fm s=BI ((splitC 44 s).map Oq).length ((splitC 44 s).map Ot).length ((splitC 44 s).map Oq) ((splitC 44 s).map Ot)):=fun h=>by
  show Fm s=_;unfold Fm OI Yh;rw[h,Ha];rfl
 have HDV:Hid (rpD s=(splitC 44 s).map Oq∧rpV s=(splitC 44 s).map Ot):=⟨rfl,rfl⟩;obtain⟨ws,hws⟩: ∃ws,splitC 44 s=ws:=⟨_,rfl⟩;rw[hws] at HSP hpc hln HFIN HDV HBAD hne;clear hws;obtain⟨n,hn⟩: ∃n,ws.length=n:=⟨_,rfl⟩;rw[hn] at HSP hln HBAD hne;have HBD:=Ai HBAD;have HN:=Ai hn;have HPC:=Ai hpc;clear HBAD hn hpc;have HTW:=Ai T
 go_enter func136,ntmps136
 go_upto_region 2 with fail
 generalize hG:(w.alloc _).alloc _=w1;obtain⟨K0,K1,b0,hS⟩:=gi hG;clear hG;have hz1:w1.heap.size=w.heap.size+2:=Aa;have T1:=T.below b0;clear T;clear hS;have HS1:=HSP _ T1;rw[hz1] at HS1;clear HSP
 go_wp2_with fail
 refine HS1.mono ?_;rintro e w2 ⟨rfl,hr,b2⟩;have b2':Below w1 w1 w2:=by rw[hz1];exact b2
 clear b2;have b2:=b2';clear b2';clear HS1;replace b0:=An b0 b2;replace K0:=K0.below b2 K0.lt;replace K1:=K1.below b2 K1.lt;replace T1:=T1.below b2;clear b2 hz1;have P0:H9 w2 (w.heap.size+1) (w.heap.size+3) ⟨none,0,0⟩ ⟨none,0,0⟩ (ints []) (ints []):=⟨K1,by omega,AR.nil _ _ _,AR.nil _ _ _,fun q e=>by cases e⟩
 clear K1
 go_wp2_with fail
 go_loopw [17] (fun i wr=> ∃(k:Nat) (hd hv:Hd),k≤n∧i=.int .i64 k∧(ws.take k).all YF=true∧H9 wr (w.heap.size+1) (w.heap.size+3) hd hv (ints ((ws.take k).map Oq)) (ints ((ws.take k).map Ot))∧Rd wr (some ⟨w.heap.size+2,0,none⟩) n (strs ws)∧Blk wr w.heap.size 30 QW∧Below w w wr∧Dq wr) (fun i _=>n-(intOf i).toNat)
 case atStart=>exact⟨0,⟨none,0,0⟩,⟨none,0,0⟩,AZ _,rfl,rfl,P0,hr,K0,b0,T1⟩
 case round=>
  clear P0 hr K0 b0 T1;obtain⟨k,⟨DA,dn,dc⟩,⟨VA,vn,vc⟩,hk,rfl,hall,PB,R,K0,B,T⟩:=hrel
  by_cases hlt:k<n
  ·have hltI:(k:Int)<(n:Int):=Aa;obtain⟨_,hA,hx⟩:=R.str hlt
   cases hA
   rw[CE] at hx;have hci:ws.getD k []∈ws:=by rw[DE,Db (by have:=HN.out;omega)];exact EH _
   have hcl:=HPC.out _ hci;have HT:=Ai (IG (ws:=ws) (k:=k) (by have:=HN.out;omega))
   have HB:=Ai (HBD.out k hlt);have hdl:((ws.take k).map Oq).length=k:=by rw[List.length_map,Ju];have:=HN.out;omega
   have hvl:((ws.take k).map Ot).length=k:=by rw[List.length_map,Ju];have:=HN.out;omega
   have hdn:dn=k:=by have h:=PB.oD.len;unfold ints at h;rw[List.length_map,hdl] at h;simp only at h;omega
   have hvn:vn=k:=by have h:=PB.oV.len;unfold ints at h;rw[List.length_map,hvl] at h;simp only at h;omega
   have h63:dn+1≤1099511627776:=Aa;have h64:vn+1≤1099511627776:=Aa;clear hci hdl hvl hdn hvn;generalize ws.getD k []=c at*;have hcc:=Zh c;obtain⟨m,hm⟩:=T.mx
   have hcut: ∀W,(∃m,W.cell? ⟨0,0,none⟩=some (.int .i64 m))→Calls prog 178 #[.string ⟨c.toArray⟩,.string ⟨#[58]⟩] W fun e w'=> ∃y,e=.returned (.tuple #[.string ⟨(cutA c).toArray⟩,.string ⟨(cutB c).toArray⟩,.bool y])∧ ∃n,w'=W.drewN n:=fun W ⟨m,hm⟩=>
    (UH ⟨c.toArray⟩ ⟨#[58]⟩ m W (by rw[Bj];omega) hm).mono fun e w' ⟨h1,h2⟩=>⟨_,h1,h2⟩
   have hcut:=hcut wr ⟨m,hm⟩;have h1:=fun(W:World) (T:Dq W)=>FX (cutA c) W Aa T;have h2:=fun(W:World) (T:Dq W)=>FX (cutB c) W Aa T;have HI:Hid (YF c=(rdB (cutA c) && rdB (cutB c))∧Oq c=rdN (cutA c)∧Ot c=rdN (cutB c)):=⟨rfl,rfl,rfl⟩;generalize cutA c=a at*;generalize cutB c=b at*;clear hcc hm
   go_wp2_with fail
   refine hcut.mono ?_;rintro e w3 ⟨y,rfl,q,rfl⟩;clear hcut;have bd:Below wr wr (wr.drewN q):=BW wr q;replace B:=An B bd;replace PB:=PB.below bd;replace R:=R.below bd;replace K0:=K0.below bd K0.lt;replace T:=T.below bd;clear bd;generalize wr.drewN q=w3 at*
   go_wp2_with fail
   refine(h1 _ T).mono ?_;rintro e w4 ⟨va,rfl,hva,b4⟩;replace B:=An B b4;replace PB:=PB.below b4;replace R:=R.below b4;replace K0:=K0.below b4 K0.lt;replace T:=T.below b4;clear b4 h1
   go_wp2_with fail
   refine(h2 _ T).mono ?_;rintro e w5 ⟨vb,rfl,hvb,b5⟩;replace B:=An B b5;replace PB:=PB.below b5;replace R:=R.below b5;replace K0:=K0.below b5 K0.lt;clear b5 h2
   by_cases hok:rdB a=true∧rdB b=true
   ·obtain⟨oa,ob⟩:=hok;have HPI:Hid (YF c=true):=by unfold Hid;rw[HI.out.1,oa,ob];rfl
    have HVA:Hid (va=Oq c):=(hva oa).trans HI.out.2.1.symm;have HVB:Hid (vb=Ot c):=(hvb ob).trans HI.out.2.2.symm;rw[oa,ob];clear hva hvb oa ob HI HB;have R1:Rd (w5.alloc (.cells #[ZI va] 2)) (some ⟨w5,0,none⟩) (1*1) (ints [va]):=BD _ _ _;have al:Below w5 w5 (w5.alloc (.cells #[ZI va] 2)):=BU;have P1:=PB.below al;have W1:=R.below al;have Z1:=K0.alloc (.cells #[ZI va] 2);have D1:=An B al;have hB1:w.heap.size+3≤(w5.alloc (.cells #[ZI va] 2)).heap.size:=W1.lt rfl Aa;have c8:=fun o=>PB.box.cell o;have q8:=PB.box.lt;have hgw:w.heap.size+2<(w5.alloc (.cells #[ZI va] 2)).heap.size:=W1.lt rfl Aa
    go_upto_region 11 with(at_builtin;refine Aj rfl _ _ 28 rfl 2 1 8 underlying28 AJ Ah (w.heap.size+3) ⟨DA,dn,dc⟩ _ rfl P1.oD _ 1 1 (ints [va]) rfl R1 (Ao _) h63 Ah hB1 ?_;intro G1 wg1 hn1 oG1 gg1 hat1;have K9:=P1.box.grown gg1 (fun e=>by have:=(P1.oD.rowlt _ e).1;omega);have c8:=K9.cell;have f8:=K9.frozen;have q8:=K9.lt;have HNG:=Ai hn1;clear hn1)
    have P2:=P1.pushD oG1 gg1 hat1;have W2:=Pi (i:=0) (u:=.slice G1.A G1.n G1.c) W1 P1.oD hgw Aa (show w.heap.size+2≠w.heap.size+1 by omega) gg1
    have Z2:=(Z1.grown gg1 (fun e=>by have:=(P1.oD.rowlt _ e).1;omega)).far (p:=⟨w+1,0,none⟩) Aw (.slice G1.A G1.n G1.c)
    have gb1:=Below.grown (AP (w.heap.size+1) (w5.alloc (.cells #[ZI va] 2))) gg1 Aa (fun b e=>by have:=(P1.oD.rowlt _ e).1;omega)
    have D2:Below w w (wg1.setCell ⟨w+1,0,none⟩ (.slice G1.A G1.n G1.c)):=(D1.trans (gb1.mono Aa)).setCell (p:=⟨w+1,0,none⟩) Aw _;clear R1 al P1 W1 Z1 D1 hB1 c8 q8 oG1 gg1 hat1 K9 f8 HNG PB R K0 B T hgw gb1;generalize wg1.setCell ⟨w+1,0,none⟩ (.slice G1.A G1.n G1.c)=w6 at*;have R1:Rd (w6.alloc (.cells #[ZI vb] 2)) (some ⟨w6,0,none⟩) (1*1) (ints [vb]):=BD _ _ _;have al:Below w6 w6 (w6.alloc (.cells #[ZI vb] 2)):=BU;have P3:=P2.below al;have W3:=W2.below al;have Z3:=Z2.alloc (.cells #[ZI vb] 2);have D3:=An D2 al;have hB1:w.heap.size+3≤(w6.alloc (.cells #[ZI vb] 2)).heap.size:=W3.lt rfl Aa;have c8:=fun o=>P2.box.cell o;have q8:=P2.box.lt;have hgw:w.heap.size+2<(w6.alloc (.cells #[ZI vb] 2)).heap.size:=W3.lt rfl Aa
    go_wp2_with (at_builtin;refine Aj rfl _ _ 28 rfl 2 1 8 underlying28 AJ Ah (w.heap.size+3) ⟨VA,vn,vc⟩ _ rfl P3.oV _ 1 1 (ints [vb]) rfl R1 (Ao _) h64 Ah hB1 ?_;intro G2 wg2 hn2 oG2 gg2 hat2;have K9:=P3.box.grown gg2 (fun e=>by have:=(P3.oV.rowlt _ e).1;omega);have c8:=K9.cell;have f8:=K9.frozen;have q8:=K9.lt;have HNG:=Ai hn2;clear hn2)
    have P4:=P3.pushV oG2 gg2 hat2;have W4:=Pi (i:=1) (u:=.slice G2.A G2.n G2.c) W3 P3.oV hgw Aa (show w.heap.size+2≠w.heap.size+1 by omega) gg2
    have Z4:=(Z3.grown gg2 (fun e=>by have:=(P3.oV.rowlt _ e).1;omega)).far (p:=⟨w+1,1,none⟩) Aw (.slice G2.A G2.n G2.c)
    have gb2:=Below.grown (AP (w.heap.size+1) (w6.alloc (.cells #[ZI vb] 2))) gg2 Aa (fun b e=>by have:=(P3.oV.rowlt _ e).1;omega)
    have D4:Below w w (wg2.setCell ⟨w+1,1,none⟩ (.slice G2.A G2.n G2.c)):=(D3.trans (gb2.mono Aa)).setCell (p:=⟨w+1,1,none⟩) Aw _;have T4:=HTW.out.below D4;have hall2:(ws.take (k+1)).all YF=true:=by rw[HT.out,List.all_append,hall];simp[HPI.out]
    have eD:ints ((ws.take (k+1)).map Oq)=ints ((ws.take k).map Oq)++ints [va]:=by rw[HT.out,HVA.out];unfold ints;simp
    have eV:ints ((ws.take (k+1)).map Ot)=ints ((ws.take k).map Ot)++ints [vb]:=by rw[HT.out,HVB.out];unfold ints;simp
    go_roundw
    case rel=>exact⟨k+1,G1,G2,by omega,by go_num,hall2,by rw[eD,eV];exact P4,W4,Z4,D4,T4⟩
    case measure=>simp[intOf];omega
   ·have HPI:Hid (Fm s=false):=by
     refine HB.out ?_;rw[HI.out.1];rcases BA (rdB a) with h|h
     ·rcases BA (rdB b) with h'|h'
      ·exact absurd ⟨h,h'⟩ hok
      ·rw[h,h'];rfl
     ·rw[h];rfl
    have e0:=K0.cell;have f0:=K0.frozen;clear hva hvb HI HB;rcases BA (rdB a) with oa|oa
    ·have ob:rdB b=false:=by
      rcases BA (rdB b) with h'|h'
      ·exact absurd ⟨oa,h'⟩ hok
      ·exact h'
     rw[oa,ob];clear hok oa ob;go_wp2;refine AS (v:=.tuple Eb) (by simp[results,results136,go_sem,e0]) rfl ?_
     exact LY HPI.out Ax
    ·rw[oa];clear hok oa;generalize rdB b=zb;go_wp2;refine AS (v:=.tuple Eb) (by simp[results,results136,go_sem,e0]) rfl ?_
     exact LY HPI.out Ax
  ·obtain rfl:n=k:=Aa;have hltI: ¬(n:Int)<(n:Int):=Aa;have ht:ws.take n=ws:=ED (by have:=HN.out;omega)
   rw[ht] at hall PB;have HFN:=HFIN.out hall;have hdn:dn=(ws.map Oq).length:=by have h:=PB.oD.len;unfold ints at h;rw[List.length_map] at h;simp only at h;omega
   have hvn:vn=(ws.map Ot).length:=by have h:=PB.oV.len;unfold ints at h;rw[List.length_map] at h;simp only at h;omega
   rw[←hdn,←hvn] at HFN;have HIP:=EL DA VA dn vn dc vc (ws.map Oq) (ws.map Ot) wr (by have:=PB.oD.max;have:=PB.oD.nc;simp only at*;unfold maxLen at*;omega) (by have:=PB.oV.max;have:=PB.oV.nc;simp only at*;unfold maxLen at*;omega) PB.oD.rd1 PB.oV.rd1
   rw[←HFN] at HIP;have HDV':=Ai HDV.out;clear HFN hdn hvn hall ht R T HBD HPC HTW;have e1:=fun o=>PB.box.cell o
   go_wp2_with fail
   refine HIP.mono ?_;clear HIP;rcases BA (Fm s) with hb|hb
   ·rw[hb];rintro e w3 ⟨rfl,b3⟩;have HBT:=Ai hb;clear hb e1;replace B:=An B b3;replace PB:=PB.below b3;replace K0:=K0.below b3 K0.lt;have e1:=fun o=>PB.box.cell o;have e0:=K0.cell;have f0:=K0.frozen;have hoD:=PB.oD;have hoV:=PB.oV;have hoff:=PB.off;clear PB K0;go_wp2;refine AS (v:=.tuple #[CH DA dn dc VA vn vc,.bool true]) (by simp[results,results136,go_sem,e0]) rfl ?_
    refine ai (hd:=⟨DA,dn,dc⟩) (hv:=⟨VA,vn,vc⟩) HBT.out ?_ ?_ hoff Ax
    ·rw[HDV'.out.1];exact((hoD.farM (p:=⟨w,0,none⟩) (fun e=>by have:=(hoD.rowlt _ e).1;simp only at this;omega) _).farM (p:=⟨w,1,none⟩) (fun e=>by have:=(hoD.rowlt _ e).1;simp only at this;omega) _).mono Aa
    ·rw[HDV'.out.2];exact((hoV.farM (p:=⟨w,0,none⟩) (fun e=>by have:=(hoV.rowlt _ e).1;simp only at this;omega) _).farM (p:=⟨w,1,none⟩) (fun e=>by have:=(hoV.rowlt _ e).1;simp only at this;omega) _).mono Aa
   ·rw[hb];rintro e w3 ⟨rfl,b3⟩;have HBT:=Ai hb;clear hb e1;replace B:=An B b3;replace K0:=K0.below b3 K0.lt;have e0:=K0.cell;have f0:=K0.frozen;clear PB K0;go_wp2;refine AS (v:=.tuple Eb) (by simp[results,results136,go_sem,e0]) rfl ?_
    exact LY HBT.out Ax
end
def YN (s:Bs) (w:World) (e:Ending) (w':World):Prop:=
 (Fm s=false∧e=.returned (.tuple Eb)∧Below w w w')∨
 ∃hd hv:Hd,Fm s=true∧e=.returned (.tuple #[CH hd.A hd.n hd.c hv.A hv.n hv.c,.bool true])∧Rd w' hd.A hd.n (ints (rpD s))∧Rd w' hv.A hv.n (ints (rpV s))∧(∀q,blkp hd.A hd.n=some q∨blkp hv.A hv.n=some q→w≤q)∧Below w w w'
theorem LZ {s:Bs} {w w':World} (h:Fm s=false) (b:Below w w w'):YN s w (.returned (.tuple Eb)) w':=Or.inl ⟨h,rfl,b⟩
theorem aj {s:Bs} {w w':World} {hd hv:Hd} (h:Fm s=true) (o1:Rd w' hd.A hd.n (ints (rpD s))) (o2:Rd w' hv.A hv.n (ints (rpV s))) (o3: ∀q,blkp hd.A hd.n=some q∨blkp hv.A hv.n=some q→w≤q) (b:Below w w w'):YN s w (.returned (.tuple #[CH hd.A hd.n hd.c hv.A hv.n hv.c,.bool true])) w':=Or.inr ⟨hd,hv,h,rfl,o1,o2,o3,b⟩
theorem di {s:Bs} (k:Nat) (hk:k<(splitC 44 s).length) (h:X8 ((splitC 44 s).getD k [])=false):Fm s=false:=by
 have:La s=false:=by
  unfold La Yh;rw[JV];intro c;have:=List.all_eq_true.1 c ((splitC 44 s).getD k []) (by rw[DE,Db hk];exact EH hk)
  rw[h] at this;cases this
 rw[(ar s).1,this];rfl
structure Nw (W:World) (B:Nat) (hd hv:Hd) (us vs:List Value):Prop where
 oD:AR W B 1 hd us
 oV:AR W B 1 hv vs
 off: ∀q,hd.row=some q→hv.row≠some q
theorem Nw.below {W W':World} {B:Nat} {hd hv:Hd} {us vs:List Value} (T:Nw W B hd hv us vs) (b:Below W W W'):Nw W' B hd hv us vs:=⟨T.oD.below b,T.oV.below b,T.off⟩
theorem Nw.pushD {W W':World} {B:Nat} {hd hv G:Hd} {us vs xs:List Value} (T:Nw W B hd hv us vs) (oG:AR W' B 1 G (us++xs)) (gg:W.grownBy W' hd.row) (hat:G.row=hd.row∨ ∃q,G.row=some q∧W.heap.size≤q):Nw W' B G hv (us++xs) vs:=by
 refine⟨oG,T.oV.grown gg (fun q e c=>T.off _ c e),fun q e e2=> ?_⟩;rcases hat with h|⟨r,h,h'⟩
 ·exact T.off q (h▸e) e2
 ·rw[h] at e;injection e with e;have:=(T.oV.rowlt _ e2).2;omega
theorem Nw.pushV {W W':World} {B:Nat} {hd hv G:Hd} {us vs xs:List Value} (T:Nw W B hd hv us vs) (oG:AR W' B 1 G (vs++xs)) (gg:W.grownBy W' hv.row) (hat:G.row=hv.row∨ ∃q,G.row=some q∧W.heap.size≤q):Nw W' B hd G us (vs++xs):=by
 refine⟨T.oD.grown gg (fun q e c=>T.off _ e c),oG,fun q e e2=> ?_⟩;rcases hat with h|⟨r,h,h'⟩
 ·exact T.off q e (h▸e2)
 ·rw[h] at e2;injection e2 with e2;have:=(T.oD.rowlt _ e).2;omega
theorem Fr (s:Bs) (w:World) (hs:s.length≤100000):
  Calls prog 121 #[.string ⟨s.toArray⟩] w (YN s w):=by
 have HSP:=fun W=>Fz ⟨s.toArray⟩ 44 W (by rw[Bj];omega)
 rw[show(ByteArray.mk s.toArray).data.toList=s from rfl] at HSP;have hpc:=DB 44 s;have hln:=D8 44 s;have HBAD:=fun(k:Nat)=>di (s:=s) k
 have hne:1≤(splitC 44 s).length:=by
  rcases h:splitC 44 s with _|⟨a,t⟩
  ·exact absurd h (CT 44 s)
  ·simp
 have HFIN:Hid ((splitC 44 s).all X8=true→Fm s=BI ((splitC 44 s).map psD).length ((splitC 44 s).map psV).length ((splitC 44 s).map psD) ((splitC 44 s).map psV)):=fun h=>by
  show Fm s=_;rw[(ar s).1];unfold La Yh;rw[h,Ha];rfl
 have HDV:Hid (Fm s=true→rpD s=(splitC 44 s).map psD∧rpV s=(splitC 44 s).map psV):=fun h=>by
  have:=(ar s).2 h;exact⟨this.1.symm,this.2.symm⟩
 obtain⟨ws,hws⟩: ∃ws,splitC 44 s=ws:=⟨_,rfl⟩;rw[hws] at HSP hpc hln HFIN HDV HBAD hne;clear hws;obtain⟨n,hn⟩: ∃n,ws.length=n:=⟨_,rfl⟩;rw[hn] at HSP hln HBAD hne;have HBD:=Ai HBAD;have HN:=Ai hn;have HPC:=Ai hpc;clear HBAD hn hpc
 go_enter func121,ntmps121
 go_upto_region 1 with fail
 generalize hG:w.alloc _=w1;obtain⟨K0,b0⟩:=EX hG;clear hG;have e44:((44:UInt8).toNat:Int)=44:=rfl;rw[e44] at HSP
 go_wp2_with fail
 refine(HSP _).mono ?_;rintro e w2 ⟨WA,wc,rfl,hr,hwc,b2⟩;clear HSP;replace b0:=An b0 b2;replace K0:=K0.below b2 K0.lt;clear b2;have hz0:=K0.lt;have hwl:Hid (∀ad,WA=some ad→ad.block<w2.heap.size):=fun ad e=>hr.lt e Aa;obtain⟨B0,hB0⟩: ∃B,w2.heap.size=B:=⟨_,rfl⟩;rw[hB0] at hwl hz0;replace hr:=(hr.below ((AP _ _).alloc Bk (.cells #[] 2))).below ((AP _ _).alloc Bk (.cells #[] 2));replace K0:=(K0.alloc (.cells #[] 2)).alloc (.cells #[] 2);replace b0:Below w w ((w2.alloc (.cells #[] 2)).alloc (.cells #[] 2)):=Ax;have hz3:B0≤((w2.alloc (.cells #[] 2)).alloc (.cells #[] 2)).heap.size:=Bq;clear hB0
 go_upto_region 3 with fail
 generalize(w2.alloc _).alloc _=w3 at hr K0 b0 hz3⊢;generalize(some (⟨w2,0,none⟩:Addr))=PA;generalize(some (⟨w2+1,0,none⟩:Addr))=PB;have O0:Nw w3 B0 ⟨PA,0,0⟩ ⟨PB,0,0⟩ (ints []) (ints []):=⟨AR.empty _ _ _ _,AR.empty _ _ _ _,fun q e=>by simp[Hd.row] at e⟩
 go_wp2_with fail
 go_loopw [5,6,7] (fun t5 t6 i wr=> ∃(k:Nat) (hd hv:Hd),k≤n∧t5=.slice hd.A hd.n hd.c∧t6=.slice hv.A hv.n hv.c∧i=.int .i64 k∧(ws.take k).all X8=true∧Nw wr B0 hd hv (ints ((ws.take k).map psD)) (ints ((ws.take k).map psV))∧Rd wr WA n (strs ws)∧Blk wr w.heap.size 30 QW∧Below w w wr∧B0≤wr.heap.size) (fun _ _ i _=>n-(intOf i).toNat)
 case atStart=>exact⟨0,⟨PA,0,0⟩,⟨PB,0,0⟩,AZ _,rfl,rfl,rfl,rfl,O0,hr,K0,b0,hz3⟩
 case round=>
  clear O0 hr K0 b0 hz3;obtain⟨k,⟨DA,dn,dc⟩,⟨VA,vn,vc⟩,hk,rfl,rfl,rfl,hall,PB,R,K0,B,hzr⟩:=hrel
  by_cases hlt:k<n
  ·have hltI:(k:Int)<(n:Int):=Aa;obtain⟨ad,hA,hx⟩:=R.str hlt;subst hA;have hci:ws.getD k []∈ws:=by rw[DE,Db (by have:=HN.out;omega)];exact EH _
   have hcl:=HPC.out _ hci;have HT:=Ai (IG (ws:=ws) (k:=k) (by have:=HN.out;omega))
   have HB:=Ai (HBD.out k hlt);have hdl:((ws.take k).map psD).length=k:=by rw[List.length_map,Ju];have:=HN.out;omega
   have hvl:((ws.take k).map psV).length=k:=by rw[List.length_map,Ju];have:=HN.out;omega
   have hdn:dn=k:=by have h:=PB.oD.len;unfold ints at h;rw[List.length_map,hdl] at h;simp only at h;omega
   have hvn:vn=k:=by have h:=PB.oV.len;unfold ints at h;rw[List.length_map,hvl] at h;simp only at h;omega
   have h63:dn+1≤1099511627776:=Aa;have h64:vn+1≤1099511627776:=Aa;clear hci hdl hvl hdn hvn;generalize ws.getD k []=c at*;have hpc:=DB 58 c;have hln2:=D8 58 c;have HS:=fun W=>Fz ⟨c.toArray⟩ 58 W (by rw[Bj];omega)
   rw[show(ByteArray.mk c.toArray).data.toList=c from rfl] at HS;have e58:((58:UInt8).toNat:Int)=58:=rfl;rw[e58] at HS;have HP:Hid (X8 c=(C7 (splitC 58 c) && decide ((splitC 58 c).length=2))∧psD c=((splitC 58 c).map sgN).getD 0 0∧psV c=((splitC 58 c).map sgN).getD 1 0):=⟨rfl,rfl,rfl⟩;obtain⟨vs,hvs⟩: ∃vs,splitC 58 c=vs:=⟨_,rfl⟩;rw[hvs] at HS hpc hln2 HP;clear hvs e58;obtain⟨q,hq⟩: ∃q,vs.length=q:=⟨_,rfl⟩;rw[hq] at HS hln2 HP;clear hq
   go_wp2_with fail
   refine(HS _).mono ?_;rintro e w4 ⟨XA,xc,rfl,hrx,hxc,b4⟩;clear HS;replace B:=An B b4;replace PB:=PB.below b4;replace R:=R.below b4;replace K0:=K0.below b4 K0.lt;replace hzr:=Ch hzr b4.size;have hrw4:=fun q e=>(PB.oD.rowlt q e).2;clear b4 hx
   go_wp2_with fail
   refine(Ki XA q xc vs w4 Aa hrx (fun x hx=>by have:=hpc x hx;omega)).mono ?_
   rintro e w5 ⟨hor,b5⟩;replace B:=An B b5;replace PB:=PB.below b5;replace R:=R.below b5;replace K0:=K0.below b5 K0.lt;replace hzr:=Ch hzr b5.size;clear b5 hrx;have ey0:=K0.cell;have fy0:=K0.frozen;have gy0:=K0.lt;rcases hor with⟨hsg,NA,nc,rfl,hrn,hnc,hwrn⟩|⟨hsg,rfl⟩
   rotate_left
   ·have HPI:Hid (Fm s=false):=HB.out (by rw[HP.out.1,hsg];rfl)
    clear hsg HB;go_wp2;refine AS (v:=.tuple Eb) (by simp[results,results121,go_sem,ey0,fy0,gy0]) rfl ?_
    exact LZ HPI.out Ax
   by_cases hq2:q=2
   rotate_left
   ·have HPI:Hid (Fm s=false):=HB.out (by rw[HP.out.1,BR hq2,Bool.and_false])
    have hq3: ¬((q:Int)=2):=Aa;clear hsg HB;go_wp2;refine AS (v:=.tuple Eb) (by simp[results,results121,go_sem,ey0,fy0,gy0]) rfl ?_
    exact LZ HPI.out Ax
   subst hq2;have HPI:Hid (X8 c=true):=by unfold Hid;rw[HP.out.1,hsg,BC rfl];rfl
   clear hsg HB;obtain⟨na,hna,hx0⟩:=hrn.int (k:=0) Aa;obtain⟨_,hna1,hx1⟩:=hrn.int (k:=1) Aa
   cases hna
   cases hna1
   obtain⟨_,hna1,hna4,-⟩:=hwrn Aa
   cases hna1
   clear hwrn;rw[Gu] at hx0;rw[Bf _ 1 Ah] at hx1;rw[←HP.out.2.1] at hx0;rw[←HP.out.2.2] at hx1;obtain⟨va,hva⟩: ∃v,psD c=v:=⟨_,rfl⟩;obtain⟨vb,hvb⟩: ∃v,psV c=v:=⟨_,rfl⟩;rw[hva] at hx0;rw[hvb] at hx1;have HVA:=Ai hva;have HVB:=Ai hvb;clear hva hvb;have R1:Rd (w5.alloc (.cells #[ZI va] 2)) (some ⟨w5,0,none⟩) (1*1) (ints [va]):=BD _ _ _;have al:Below w5 w5 (w5.alloc (.cells #[ZI va] 2)):=BU;have P1:=PB.below al;have W1:=R.below al;have X1:=hrn.below al;have Z1:=K0.alloc (.cells #[ZI va] 2);have D1:=An B al;have hB1:B0≤(w5.alloc (.cells #[ZI va] 2)).heap.size:=Bq;clear ey0 fy0 gy0
   go_upto_region 10 with(at_builtin;refine Aj rfl _ _ 28 rfl 2 1 8 underlying28 AJ Ah B0 ⟨DA,dn,dc⟩ _ rfl P1.oD _ 1 1 (ints [va]) rfl R1 (Ao _) h63 Ah hB1 ?_;intro G1 wg1 hn1 oG1 gg1 hat1;have HNG:=Ai hn1;clear hn1)
   have hrl1:=P1.oD.rowlt;have P2:=P1.pushD oG1 gg1 hat1;have W2:=W1.grown gg1 (fun e ad hn2 c=>by have:=(hrl1 _ c).1;have:=hwl.out _ ad;omega)
   have Z2:=Z1.grown gg1 (fun e=>by have:=(hrl1 _ e).1;omega)
   have X2:=X1.grown gg1 (fun e he hn2 c=>by cases he;have:=hrw4 _ c;omega)
   have D2:=D1.grown gg1 D1.size (fun b e=>by have:=(hrl1 _ e).1;omega)
   have hB2:B0≤wg1.heap.size:=by have:=gg1.size;omega
   clear R1 al P1 W1 X1 Z1 D1 hB1 oG1 gg1 hat1 HNG hrl1 hx0 hx1 hrn PB R K0 B hzr;obtain⟨_,hna1,hx1⟩:=X2.int (k:=1) Aa
   cases hna1
   rw[Bf _ 1 Ah] at hx1;rw[←HP.out.2.2] at hx1;rw[HVB.out] at hx1;clear X2;have R1:Rd (wg1.alloc (.cells #[ZI vb] 2)) (some ⟨wg1,0,none⟩) (1*1) (ints [vb]):=BD _ _ _;have al:Below wg1 wg1 (wg1.alloc (.cells #[ZI vb] 2)):=BU;have P3:=P2.below al;have W3:=W2.below al;have Z3:=Z2.alloc (.cells #[ZI vb] 2);have D3:=An D2 al;have hB3:B0≤(wg1.alloc (.cells #[ZI vb] 2)).heap.size:=Bq
   go_wp2_with (at_builtin;refine Aj rfl _ _ 28 rfl 2 1 8 underlying28 AJ Ah B0 ⟨VA,vn,vc⟩ _ rfl P3.oV _ 1 1 (ints [vb]) rfl R1 (Ao _) h64 Ah hB3 ?_;intro G2 wg2 hn2 oG2 gg2 hat2;have HNG:=Ai hn2;clear hn2)
   have hrl2:=P3.oV.rowlt;have P4:=P3.pushV oG2 gg2 hat2;have W4:=W3.grown gg2 (fun e ad hn2 c=>by have:=(hrl2 _ c).1;have:=hwl.out _ ad;omega)
   have Z4:=Z3.grown gg2 (fun e=>by have:=(hrl2 _ e).1;omega)
   have D4:=D3.grown gg2 D3.size (fun b e=>by have:=(hrl2 _ e).1;omega)
   have hB4:B0≤wg2.heap.size:=by have:=gg2.size;omega
   have hall2:(ws.take (k+1)).all X8=true:=by rw[HT.out,List.all_append,hall];simp[HPI.out]
   have eD:ints ((ws.take (k+1)).map psD)=ints ((ws.take k).map psD)++ints [va]:=by rw[HT.out,←HVA.out];unfold ints;simp
   have eV:ints ((ws.take (k+1)).map psV)=ints ((ws.take k).map psV)++ints [vb]:=by rw[HT.out,←HVB.out];unfold ints;simp
   go_roundw
   case rel=>exact⟨k+1,G1,G2,by omega,rfl,rfl,by go_num,hall2,by rw[eD,eV];exact P4,W4,Z4,D4,hB4⟩
   case measure=>simp[intOf];omega
  ·obtain rfl:n=k:=Aa;have hltI: ¬(n:Int)<(n:Int):=Aa;have ht:ws.take n=ws:=ED (by have:=HN.out;omega)
   rw[ht] at hall PB;have HFN:=HFIN.out hall;have hdn:dn=(ws.map psD).length:=by have h:=PB.oD.len;unfold ints at h;rw[List.length_map] at h;simp only at h;omega
   have hvn:vn=(ws.map psV).length:=by have h:=PB.oV.len;unfold ints at h;rw[List.length_map] at h;simp only at h;omega
   rw[←hdn,←hvn] at HFN;have al:Below wr wr (wr.alloc (.cells (CH DA dn dc VA vn vc) 30)):=BU;have HIP:=Cv DA VA dn vn dc vc (ws.map psD) (ws.map psV) (wr.alloc (.cells (CH DA dn dc VA vn vc) 30)) (by have:=PB.oD.max;have:=PB.oD.nc;simp only at*;unfold maxLen at*;omega) (by have:=PB.oV.max;have:=PB.oV.nc;simp only at*;unfold maxLen at*;omega) (PB.oD.below al).rd1 (PB.oV.below al).rd1
   rw[←HFN] at HIP;have HDV':=Ai HDV.out;have K1:=Br wr 30 (CH DA dn dc VA vn vc);have hzB:=B.size;replace B:Below w w (wr.alloc (.cells (CH DA dn dc VA vn vc) 30)):=Ax;replace K0:=K0.alloc (.cells (CH DA dn dc VA vn vc) 30);have P1:=PB.below al;clear HFN hdn hvn hall ht R HBD HPC PB al
   go_upto_region 12 with fail
   generalize wr.alloc _=w8 at HIP K1 K0 B P1⊢;generalize wr.heap.size=q8 at K1 hzB hzr⊢;have e1:=K1.cell
   go_wp2_with fail
   refine HIP.mono ?_;clear HIP;rcases BA (Fm s) with hb|hb
   ·rw[hb];rintro e w3 ⟨rfl,b3⟩;have HBT:=Ai hb;clear hb e1;replace B:=An B b3;replace P1:=P1.below b3;replace K0:=K0.below b3 K0.lt;replace K1:=K1.below b3 K1.lt;have e1:=K1.cell;have e0:=K0.cell;have f0:=K0.frozen;have hoD:=P1.oD;have hoV:=P1.oV;clear P1 K0 K1;go_wp2;refine AS (v:=.tuple #[CH DA dn dc VA vn vc,.bool true]) (by simp[results,results121,go_sem,e0]) rfl ?_
    refine aj (hd:=⟨DA,dn,dc⟩) (hv:=⟨VA,vn,vc⟩) HBT.out ?_ ?_ (fun q hq=>by rcases hq with e|e;(·have:=hoD.wr1.blockp e;omega);(·have:=hoV.wr1.blockp e;omega)) Ax
    ·rw[(HDV'.out HBT.out).1];exact((hoD.farM (p:=⟨w,0,none⟩) (fun e=>by have:=(hoD.rowlt _ e).1;simp only at this;omega) _).farM (p:=⟨w,1,none⟩) (fun e=>by have:=(hoD.rowlt _ e).1;simp only at this;omega) _).rd1
    ·rw[(HDV'.out HBT.out).2];exact((hoV.farM (p:=⟨w,0,none⟩) (fun e=>by have:=(hoV.rowlt _ e).1;simp only at this;omega) _).farM (p:=⟨w,1,none⟩) (fun e=>by have:=(hoV.rowlt _ e).1;simp only at this;omega) _).rd1
   ·rw[hb];rintro e w3 ⟨rfl,b3⟩;have HBT:=Ai hb;clear hb e1;replace B:=An B b3;replace K0:=K0.below b3 K0.lt;have e0:=K0.cell;have f0:=K0.frozen;clear P1 K0 K1;go_wp2;refine AS (v:=.tuple Eb) (by simp[results,results121,go_sem,e0]) rfl ?_
    exact LZ HBT.out Ax
def gV (j:Nat) (t:Bs):Bs:=if h:j=0 then t else gV (j/10) (dg1 (j%10)::t)
termination_by j
decreasing_by omega
theorem ik (t:Bs):gV 0 t=t:=by unfold gV;rfl
theorem ij {j:Nat} (t:Bs) (h: ¬j=0):gV j t=gV (j/10) (dg1 (j%10)::t):=by rw[gV,dif_neg h]
def gU (k:Nat):Bs:=109::gV k []
theorem gZ (k:Nat) (w:World) (h0:0<k) (hk:k≤2097152):
  (BT 35 #[ZI k] w (.string ⟨(gU k).toArray⟩):Prop):=by
 have h0I: ¬(k:Int)≤0:=Aa
 go_enter func35,ntmps35
 go_wp2_with fail
 go_loopw [0,3] (fun a b wr=> ∃(j:Nat) (t:Bs),j≤k∧t.length≤2097152-j∧a=.int .i64 (j:Int)∧b=.string ⟨t.toArray⟩∧gV j t=gV k []∧Below w w wr)
  (fun a _ _=>(intOf a).toNat)
 case atStart=>exact⟨k,[],Cp _,by simp,rfl,rfl,rfl,AP _ _⟩
 case round=>
  obtain⟨j,t,hj,ht,rfl,rfl,he,b⟩:=hrel;have hz:=b.size
  by_cases hj0:j=0
  ·subst hj0;rw[ik] at he;have hl: ¬9223372036854775807<1+t.length:=Aa
   have HX:Hid (Ending.returned (Value.string (⟨#[109]⟩++⟨t.toArray⟩))=Ending.returned (Value.string ⟨(gU k).toArray⟩)):=by
    unfold Hid gU;rw[←he];exact AN (fun x=>Ending.returned (Value.string x)) (AY [109] t)
   clear he
   go_wp2_with fail
   go_ret;exact⟨HX.out,b⟩
  ·have hjI:(0:Int)<(j:Int):=Aa;obtain⟨q,hq⟩: ∃q:Nat,j/10=q:=⟨_,rfl⟩;obtain⟨r,hr⟩: ∃r:Nat,j%10=r:=⟨_,rfl⟩;have hr10:r<10:=Aa;have hqj:q<j:=Aa;have e3:(j:Int).tmod 10=(r:Int):=by rw[Int.tmod_eq_emod_of_nonneg Aa];omega
   have e4:(j:Int).tdiv 10=(q:Int):=by rw[Int.tdiv_eq_ediv_of_nonneg Aa];omega
   have u1:=Bg (48+(r:Int));have u2:IntKind.u8.wrap (48+(r:Int))=48+(r:Int):=by rw[IntKind.wrap_u8];omega
   have u3:=Bg (q:Int);have hc:=NS hr10 wr;have HE:=Ai ((ij t hj0).symm.trans he);rw[hq,hr] at HE;have HS:=Ai (AY [dg1 r] t);have hl: ¬9223372036854775807<1+t.length:=Aa;clear he
   go_wp2_with fail
   go_roundw
   case rel=>exact⟨q,dg1 r::t,by omega,by rw[Gt];omega,rfl,by rw[←show(⟨#[dg1 r]⟩:ByteArray)++⟨t.toArray⟩=⟨(dg1 r::t).toArray⟩ from AY [dg1 r] t],HE.out,Ax⟩
   case measure=>simp[intOf];omega
theorem gY (A B:Option Addr) (n c d:Nat) (xs:List Bs) (w:World) (hn:n≤1048576) (ha:Rd w A n (strs xs)) (hb:Rd w B n (strs xs)):
  (BT 9 (CH A n c B n d) w (.bool true):Prop):=by
 go_enter func9,ntmps9
 go_wp2
 go_loopw [5] (fun i wr=> ∃k m:Nat,k≤n∧i=.int .i64 k∧wr=w.drewN m)
  (fun i _=>n-(intOf i).toNat)
 case atStart=>exact⟨0,0,AZ _,rfl,rfl⟩
 case round=>
  obtain⟨k,m,hk,rfl,rfl⟩:=hrel
  by_cases hlt:k<n
  ·obtain⟨ad,u,rfl,hu,hx⟩:=ha.at_ hlt;obtain⟨bd,v,rfl,hv,hy⟩:=hb.at_ hlt;obtain rfl:u=v:=by rw[hu] at hv;cases hv;rfl
   have hl:k<xs.length:=by have:=ha.1;unfold strs at this;rw[List.length_map] at this;omega
   obtain⟨x,rfl⟩: ∃x:Bs,u=.string ⟨x.toArray⟩:=by
    unfold strs at hu;rw[List.getElem?_map,Db hl] at hu;exact⟨xs[k],by cases hu;rfl⟩
   clear hu hv;go_wp2
   go_quiet (fail)
   go_wp2
   go_roundw
   case rel=>exact⟨k+1,_,by omega,by go_num,rfl⟩
   case measure=>simp[intOf];omega
  ·go_wp2;go_ret;exact⟨rfl,Ba E9 _⟩
def markL (k n:Nat):List Bs:=(List.range n).map fun i=>gU (k+i)
theorem ic (k n:Nat):(markL k n).length=n:=by unfold markL;simp
theorem ib (k n i:Nat) (h:i<n):(strs (markL k n))[i]? =some (.string ⟨(gU (k+i)).toArray⟩):=by unfold strs markL;simp[h]
theorem ia (A:Option Addr) (n c:Nat) (us:List Value) (q:Nat) (B:Nat) (w:World) (hn:n≤1048576) (hq0:0<q) (hq:q≤1048576) (ha:Rd w A n us) (hw:Wr w B A n) (hB:B≤w.heap.size):
  Calls prog 10 (Gb A n c q) w fun e w'=>e=.returned (ZI ((q:Int)+(n:Int)))∧A9 w w' [blkp A n]∧
   Rd w' A n (strs (markL q n))∧Wr w' B A n:=by
 have HL: ∀ad,A=some ad→0<n→ad.block<w.heap.size:=fun ad e h=>by
  obtain⟨ad',u,e',_,hc⟩:=ha.at_ h;rw[e] at e';cases e';have:=Gr w _ hc
  rwa [Aq] at this
 go_enter func10,ntmps10
 go_wp2
 go_loopw [1,5] (fun j i wr=> ∃k:Nat,k≤n∧i=.int .i64 k∧j=.int .i64 ((q:Int)+(k:Int))∧A9 w wr [blkp A n]∧Wr wr B A n∧
   ∀ad,A=some ad→ ∀x,x<n→ ∃v,wr.cell? (ad.add x)=some v∧(x<k→v=.string ⟨(gU (q+x)).toArray⟩))
  (fun _ i _=>n-(intOf i).toNat)
 case atStart=>
  refine⟨0,AZ _,rfl,by go_num,A9.refl w _,hw,fun ad e x hx=> ?_⟩
  obtain⟨ad',u,e',_,hc⟩:=ha.at_ hx;rw[e] at e'
  cases e'
  exact⟨u,hc,fun h=>absurd h Aa⟩
 case round=>
  obtain⟨k,hk,rfl,rfl,T,hwr,hcell⟩:=hrel
  by_cases hlt:k<n
  ·have HM:=fun W=>gZ (q+k) W Aa Aa;rw[show((q+k:Nat):Int)=(q:Int)+(k:Int) by omega] at HM
   obtain⟨ad,hA,hBad,hfr⟩:=hwr Aa;have hadl:=CM (HL ad hA Aa) T.size;have HC:=Ai hcell;have HF:=Ai hfr;have HA:=Ai hA;have HLD:=Ai HL;clear hwr hcell hfr HL;subst hA
   go_wp2_with fail
   refine(HM _).mono ?_;rintro e w1 ⟨rfl,b1⟩
   have hc1: ∀x,x<n→ ∃v,w1.cell? (ad.add x)=some v∧(x<k→v=.string ⟨(gU (q+x)).toArray⟩):=fun x hx=>by
    obtain⟨v,hv,hk⟩:=HC.out ad rfl x hx;exact⟨v,(JX b1 (by rw[Aq];exact hadl)).trans hv,hk⟩
   have hf1: ∀i,i<n→w1.frozen? (ad.add i)=false:=fun i hi=>by
    rw[Below.frozen b1 (by rw[Aq];exact hadl)];exact HF.out i hi
   obtain⟨old,hco,_⟩:=hc1 k hlt;have hfo:=hf1 k hlt;have T1:=T.bel b1;have HC1:=Ai hc1;have HF1:=Ai hf1;clear hc1 hf1 HC HF HM b1
   go_wp2_with fail
   go_roundw
   case rel=>
    refine⟨k+1,by omega,by go_num,by go_num,?_,fun _=>⟨ad,rfl,hBad,fun i hi=>by rw[World.frozen?_setCell];exact HF1.out i hi⟩,?_⟩
    ·exact T1.cell_ (by rw[Aq];unfold blkp;rw[Ak Aa];exact DD.2 rfl) _
    rintro ad' ⟨⟩ x hx;obtain⟨v,hv,hvk⟩:=HC1.out x hx
    by_cases e:x=k
    ·subst e;exact⟨_,World.cell?_setCell_same _ _ _ hv,fun _=>rfl⟩
    ·exact⟨v,(World.cell?_setCell_other _ _ _ _ (fun c=>e (Q1 c).symm)).trans hv,fun h=>hvk Aa⟩
   case measure=>simp[intOf];omega
  ·go_wp2;go_ret;obtain rfl:k=n:=Aa;refine⟨rfl,T,⟨by unfold strs;simp[ic],fun hp=> ?_⟩,hwr⟩
   obtain⟨ad,hA,_,_⟩:=hwr hp;refine⟨ad,hA,fun i hi=> ?_⟩;obtain⟨v,hv,hvk⟩:=hcell ad hA i hi;rw[hv,hvk hi,ib _ _ _ hi]
theorem hO (A:Option Addr) (n c q:Nat) (w:World) (hn:n≤1048576) (hq0:0<q) (hq:q≤1048576) (ha:Rd w A n (strs (markL q n))):
  (BT 11 (Gb A n c q) w (ZI ((q:Int)+(n:Int))):Prop):=by
 go_enter func11,ntmps11
 go_wp2
 go_loopw [1,5] (fun j i wr=> ∃k:Nat,k≤n∧i=.int .i64 k∧j=.int .i64 ((q:Int)+(k:Int))∧Below w w wr)
  (fun _ i _=>n-(intOf i).toNat)
 case atStart=>exact⟨0,AZ _,rfl,by go_num,AP _ _⟩
 case round=>
  obtain⟨k,hk,rfl,rfl,b⟩:=hrel
  by_cases hlt:k<n
  ·have HM:=fun W=>gZ (q+k) W Aa Aa;rw[show((q+k:Nat):Int)=(q:Int)+(k:Int) by omega] at HM
   obtain⟨ad,u,rfl,hu,hx⟩:=(ha.below b).at_ hlt;rw[ib _ _ _ hlt] at hu
   cases hu
   have had:=Gr _ _ hx;have hxd:wr.drew.cell? (ad.add k)=some (.string ⟨(gU (q+k)).toArray⟩):=hx
   go_wp2_with fail
   go_region_held3 (fun w'=>w'.cell? (ad.add k)=some (.string ⟨(gU (q+k)).toArray⟩))
    (first|(with_reducible assumption)|(exact hx)|(exact zu))
    (first|(go_at_call 35;(with_reducible refine(HM _).mono ?_);rintro e u ⟨rfl,b4⟩;have bu:=b4;have zu:u.cell? (ad.add k)=some (.string ⟨(gU (q+k)).toArray⟩):=(JX b4 had).trans hx))
   all_goals
    go_wp2_with fail
   all_goals exact⟨⟨k+1,by omega,by go_num,by go_num,b.trans ((by first|exact EE (m:=1) b4|exact b4:Below wr wr u).mono b.size)⟩,by simp[intOf];omega⟩
  ·go_wp2;go_ret;obtain rfl:k=n:=Aa;exact⟨rfl,b⟩
end Go.Proofs.YtkndcebhjcfphaaGreatDoor
