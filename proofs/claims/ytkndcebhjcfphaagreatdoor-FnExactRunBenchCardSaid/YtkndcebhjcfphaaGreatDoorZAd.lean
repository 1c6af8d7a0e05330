import Derived.Test.YtkndcebhjcfphaaGreatDoorZG
import Derived.Test.YtkndcebhjcfphaaGreatDoorZX
import Derived.Shelf.SlSortCmp.WholeK
namespace Go.Proofs.YtkndcebhjcfphaaGreatDoor
open Go.RowKit Go.Proofs.Tryz
set_option maxRecDepth 100000
set_option maxHeartbeats 4000000
set_option linter.all false
section
open Go.Shelf
def UE:Go.Shelf.Ren:=⟨fun|6=>323|15=>343|14=>342|28=>363|29=>312|20=>355|21=>356|22=>357|23=>358|24=>359|25=>360|26=>361|27=>362|46=>372|47=>373|48=>374|49=>375|50=>376|57=>381|n=>n,fun|22=>33|24=>67|25=>315|3=>3|39=>241|0=>0|53=>289|55=>243|4=>4|46=>342|45=>341|50=>316|5=>5|9=>9|66=>350|70=>354|76=>357|77=>358|n=>n,fun|n=>n⟩
theorem dt:Go.Proofs.SlLaysF0.n6 prog UE:= {
 mixed:=We51ceQ
 f6:=⟨Tryz.f323.name,by decide,func323.trans (AN some We51ceQ)⟩
 f14:=⟨Tryz.f342.name,by decide,func342.trans (AN some We51ceQ)⟩
 f15:=func343.trans (AN some We51ceQ)
 f20:=⟨Tryz.f355.name,by decide,func355.trans (AN some We51ceQ)⟩
 f21:=⟨Tryz.f356.name,by decide,func356.trans (AN some We51ceQ)⟩
 f22:=⟨Tryz.f357.name,by decide,func357.trans (AN some We51ceQ)⟩
 f23:=⟨Tryz.f358.name,by decide,func358.trans (AN some We51ceQ)⟩
 f24:=⟨Tryz.f359.name,by decide,func359.trans (AN some We51ceQ)⟩
 f25:=⟨Tryz.f360.name,by decide,func360.trans (AN some We51ceQ)⟩
 f26:=⟨Tryz.f361.name,by decide,func361.trans (AN some We51ceQ)⟩
 f27:=⟨Tryz.f362.name,by decide,func362.trans (AN some We51ceQ)⟩
 f28:=func363.trans (AN some We51ceQ)
 f29:=func312.trans (AN some We51ceQ)
 f46:=⟨Tryz.f372.name,by decide,func372.trans (AN some We51ceQ)⟩
 f47:=func373.trans (AN some We51ceQ)
 f48:=func374.trans (AN some We51ceQ)
 f49:=⟨Tryz.f375.name,by decide,func375.trans (AN some We51ceQ)⟩
 f50:=⟨Tryz.f376.name,by decide,func376.trans (AN some We51ceQ)⟩
 f57:=⟨Tryz.f381.name,by decide,func381.trans (AN some We51ceQ)⟩
 t0:=underlying0
 a0:=Tryz.isAgg0
 z0:=Tryz.sizeOf0
 v0:=Tryz.zeroValue0
 t3:=underlying3
 a3:=Tryz.isAgg3
 z3:=Tryz.sizeOf3
 v3:=Tryz.zeroValue3
 t4:=underlying4
 a4:=Tryz.isAgg4
 z4:=Tryz.sizeOf4
 v4:=Tryz.zeroValue4
 t5:=underlying5
 a5:=Tryz.isAgg5
 z5:=Tryz.sizeOf5
 v5:=Tryz.zeroValue5
 t9:=underlying9
 a9:=Tryz.isAgg9
 z9:=Tryz.sizeOf9
 v9:=Tryz.zeroValue9
 t22:=underlying33
 a22:=Tryz.isAgg33
 z22:=Tryz.sizeOf33
 v22:=Tryz.zeroValue33
 t25:=underlying315
 a25:=Tryz.isAgg315
 z25:=Tryz.sizeOf315
 v25:=Tryz.zeroValue315
 t39:=underlying241
 a39:=Tryz.isAgg241
 z39:=Tryz.sizeOf241
 v39:=Tryz.zeroValue241
 t45:=underlying341
 a45:=Tryz.isAgg341
 z45:=Tryz.sizeOf341
 v45:=Tryz.zeroValue341
 t46:=underlying342
 a46:=Tryz.isAgg342
 z46:=Tryz.sizeOf342
 v46:=Tryz.zeroValue342
 t50:=underlying316
 a50:=Tryz.isAgg316
 z50:=Tryz.sizeOf316
 v50:=Tryz.zeroValue316
 t53:=underlying289
 a53:=Tryz.isAgg289
 z53:=Tryz.sizeOf289
 v53:=Tryz.zeroValue289
 t55:=underlying243
 a55:=Tryz.isAgg243
 z55:=Tryz.sizeOf243
 v55:=Tryz.zeroValue243
 t66:=underlying350
 a66:=Tryz.isAgg350
 z66:=Tryz.sizeOf350
 v66:=Tryz.zeroValue350
 t70:=underlying354
 a70:=Tryz.isAgg354
 z70:=Tryz.sizeOf354
 v70:=Tryz.zeroValue354
 t76:=underlying357
 a76:=Tryz.isAgg357
 z76:=Tryz.sizeOf357
 v76:=Tryz.zeroValue357
 t77:=underlying358
 a77:=Tryz.isAgg358
 z77:=Tryz.sizeOf358
 v77:=Tryz.zeroValue358}
end
section
open Go.RowKit Go.Shelf Go.Lib
theorem Sw (B:Nat) (h:Hd) (xs:List Int) (ks:List Nat) (w:World) (o:AR w B 7 h (F4 xs ks)) (hn:0<h.n) (hz:h.n≤1048576):
  Calls prog 323 #[.slice h.A h.n h.c,.func (.func 324) #[] #[]] w fun e w'=>e=.returned (.tuple #[])∧ ∃ks':List Nat,ks'.Perm ks∧ks'.Pairwise (fun i j=>recT xs i≤recT xs j)∧Rd w' h.A (h.n*7) (F4 xs ks')∧w.grownBy w' h.row:=by
 have hl:=o.len;rw[I0] at hl;have hnc:=o.nc;obtain⟨A,n,c⟩:=h;simp only at hn hz hl hnc⊢;have hk:ks.length=n:=Aa
 cases A with
 |none=>have:=o.nil_ rfl;simp only at this;omega
 |some ad=>
  obtain⟨had,hb,hH⟩:=Rp o rfl hn;have hrow:(⟨some ad,n,c⟩:Hd).row=some ad.block:=Hd.row_mk rfl (show 0<c by omega)
  have eg: ∀args w,(callFunc 324 args).run prog w=.ok (.enter 324 args) w:=enters_of func324 We51ceQ rfl;have hcon:=AnyQ.slices_SortFunc dt 7 Tryz.isAgg67 Tryz.sizeOf67 (Fu xs) (fun _=>rfl) (Kt xs) (Va xs) (aG xs) 324 #[] ad.block ad.off c ks.toArray w eg (fun _ _ _ _ i j=>Vb xs i j _) hH hb Bq;rw[←had,show ks.toArray.size=n by simpa using hk] at hcon
  rw[hrow];refine hcon.mono ?_;rintro e w' ⟨rfl,d',m,os,hp,hs,rfl⟩;rw[show n=ks.toArray.size by simpa using hk.symm] at hp hs
  refine⟨rfl,d'.toList,by simpa using cN hp,Yu hp.1 hs,?_,Tp _ _ _⟩
  have h2:=holdsK_sortWorldK_c (Fu xs) 7 w ad.block ad.off ks.toArray d' m os hH hb hp.1;have h3:=Uq (n:=n) (ks:=d'.toList) (by have:=hp.1;simp at this;simp;omega) (by simpa using h2)
  rw[←had] at h3;exact h3
end
def F3 (xs:List Int) (ks:List Nat):List Int:=ks.flatMap fun i=> [xs.getD (i*7) 0,xs.getD (i*7+1) 0,xs.getD (i*7+2) 0,xs.getD (i*7+3) 0,xs.getD (i*7+4) 0,xs.getD (i*7+5) 0,xs.getD (i*7+6) 0]
theorem OB (xs:List Int): ∀ks:List Nat,F4 xs ks=ints (F3 xs ks)
 | []=>rfl
 |k::ks=>by
  show Fu xs k++F4 xs ks=ints (_++F3 xs ks);rw[OB xs ks,B8];rfl
theorem Uu (xs:List Int): ∀(ks:List Nat) (j:Nat) (h:j<ks.length),(F3 xs ks).getD (j*7) 0=recT xs ks[j]∧(F3 xs ks).getD (j*7+2) 0=recL xs ks[j]
 | [],_,h=>absurd h (Nat.not_lt_zero _)
 |k::ks,0,_=>⟨rfl,rfl⟩
 |k::ks,j+1,h=>by
  have ih:=Uu xs ks j CB
  have e: ∀(a b c d e f g:Int) (l:List Int) (i:Nat),([a,b,c,d,e,f,g]++l).getD (i+7) 0=l.getD i 0:=by
   intro a b c d e f g l i
   simp[DE]
  rw[show(j+1)*7=j*7+7 by omega,show j*7+7+2=(j*7+2)+7 by omega]
  show(_++F3 xs ks).getD _ 0=_∧(_++F3 xs ks).getD _ 0=_;rw[e,e];exact ih
theorem cZ (w:World) (xs:List Int) (k:Nat) (e:TypeId):Rd (w.alloc (.cells (Fu xs k).toArray e)) (some ⟨w,0,none⟩) (1*7) (Fu xs k):=by
 refine⟨rfl,fun _=>⟨_,rfl,fun i hi=> ?_⟩⟩;rw[CE,(Br w e (Fu xs k).toArray).cell]
 simp
theorem Rd.restG {w:World} {ad:Addr} {n c k:Nat} {xs:List Int} {X:Option Addr} (h:Rd w (some ad) (n*7) (ints xs)) (hk:k<n) (hc:n≤c) (hX:(if c=k+1 then some ad else some (ad.add ((k+1)*7)))=X):Rd w X ((n-(k+1))*7) (ints (xs.drop ((k+1)*7))):=by
 have hl:=h.len
 by_cases e:c=k+1
 ·have e2:n-(k+1)=0:=Aa;rw[e2,List.drop_eq_nil_of_le Aa];exact Rd.nil _ _
 ·rw[Ak e] at hX;subst hX;have:=Rd.partG (A:=some ad) (n:=n*7) (k:=(k+1)*7) (m:=(n-(k+1))*7) (by exact h) Aa
  rwa [Option.map_some,ED (by rw[JW];omega)] at this
theorem Th (A:Option Addr) (n c:Nat) (xs:List Int) (w:World) (hn:n≤200) (hnc:n≤c) (hr:Rd w A (n*7) (ints xs)) (hlog:FT xs n=true):
  Calls prog 285 #[.slice A n c] w fun e w'=> ∃k:Js,e=.returned (.tuple #[Lv k (Dk xs n),ZI (gaugeC xs n)])∧QN k∧Ag w' (Lu k (Dk xs n))∧AB w' w.heap.size (Lu k (Dk xs n))∧Dx (UU k)∧Below w w w':=by
 have HLOG:=Ai hlog;clear hlog
 go_enter func285,ntmps285
 go_upto_region 1 with fail
 generalize hG:w.alloc _=w1;obtain⟨K0,b0⟩:=EX hG;clear hG
 go_wp2_with fail
 go_loopw [4,13] (fun v4 v13 wr=> ∃(k:Nat) (h:Hd),k≤n∧v13=.int .i64 k∧v4=.slice h.A h.n h.c∧h.n=(Pp xs n k).length∧AR wr (w.heap.size+1) 7 h (F4 xs (Pp xs n k))∧Below w w wr∧Blk wr w.heap.size 205 QW)
  (fun _ v13 _=>n-(intOf v13).toNat)
 case atStart=>exact⟨0,⟨none,0,0⟩,AZ _,rfl,rfl,rfl,AR.nil _ _ _,b0,K0⟩
 case round=>
  obtain⟨k,⟨HA,hN,hC⟩,hk,rfl,rfl,hlen,o,hb,KW⟩:=hrel;clear K0 b0;simp only at hlen;have HLEN:=Ai hlen
  have hNn:hN≤200:=by
   have:(Pp xs n k).length≤(List.range k).length:=List.length_filter_le _ _;rw[List.length_range] at this;omega
  clear hlen
  by_cases hlt:k<n
  ·have hltI:(k:Int)<(n:Int):=Aa;obtain⟨ad,rfl,c0,c1,c2,c3,c4,c5,c6⟩:=(hr.below hb).seven hlt;obtain⟨X,hX⟩: ∃X,(if c=k+1 then some ad else some (ad.add ((k+1)*7)))=X:=⟨_,rfl⟩;have RX:=(hr.below hb).restG hlt hnc hX;have HSEL:=Ai (ay xs n k);have HSB:=Ai (Wa (xs:=xs) hlt);have HE:Hid (Fu xs k= [.int .i64 (xs.getD (k*7) 0),.int .i64 (xs.getD (k*7+1) 0),.int .i64 (xs.getD (k*7+2) 0),.int .i64 (xs.getD (k*7+3) 0),.int .i64 (xs.getD (k*7+4) 0),.int .i64 (xs.getD (k*7+5) 0),.int .i64 (xs.getD (k*7+6) 0)]):=rfl;have HT:Hid (recT xs k=xs.getD (k*7) 0∧recK xs k=xs.getD (k*7+1) 0):=⟨rfl,rfl⟩;generalize xs.getD (k*7) 0=x0 at*;generalize xs.getD (k*7+1) 0=x1 at*;generalize xs.getD (k*7+2) 0=x2 at*;generalize xs.getD (k*7+3) 0=x3 at*;generalize xs.getD (k*7+4) 0=x4 at*;generalize xs.getD (k*7+5) 0=x5 at*;generalize xs.getD (k*7+6) 0=x6 at*;have i2:k+1≤n:=Aa
   go_upto_region 5 with fail
   have KB:=Br wr 67 (AD x0 x1 x2 x3 x4 x5 x6);have b1:Below wr wr (wr.alloc (.cells (AD x0 x1 x2 x3 x4 x5 x6) 67)):=BU;replace RX:=RX.below b1;replace o:=o.below b1;replace KW:=KW.below b1 KW.lt;replace hb:=An hb b1;clear b1 c0 c1 c2 c3 c4 c5 c6;generalize wr.alloc _=w2 at KB RX o KW hb⊢;generalize wr.heap.size=gb at KB⊢;have hgb:=KB.lt;have cB:=KB.cell 0
   go_wp2_with fail
   refine(J4 X (n-(k+1)) (c-(k+1)) _ x0 gb _ Aa RX hgb cB).mono ?_;rintro e w3 ⟨rfl,b3⟩;replace o:=o.below b3;replace KW:=KW.below b3 KW.lt;replace hb:=An hb b3;replace KB:=KB.below b3 hgb;clear b3 RX cB;have HSB2:Hid (UB xs n k=(decide (x1=1) && !(laterB (List.drop ((k+1)*7) xs) (n-(k+1)) x0))):=by have:=HSB.out;rw[HT.out.1,HT.out.2] at this;exact this
   clear HSB HT;have cB:=KB.cell;generalize laterB (List.drop ((k+1)*7) xs) (n-(k+1)) x0=lb at*
   by_cases hx1:x1=1
   ·subst hx1
    cases lb
    ·have HS2:Hid (Pp xs n (k+1)=Pp xs n k++ [k]):=by show _=_;rw[HSEL.out,HSB2.out];rfl
     have bz:Below w3 w3 (w3.alloc (.cells (AD x0 1 x2 x3 x4 x5 x6) 67)):=BU;have oz:=o.below bz;have RE:Rd (w3.alloc (.cells (AD x0 1 x2 x3 x4 x5 x6) 67)) (some ⟨w3,0,none⟩) (1*7) (Fu xs k):=by have:=cZ w3 xs k 67;rw[HE.out] at this;rw[HE.out];exact this
     have hBz:w+1≤(w3.alloc (.cells (AD x0 1 x2 x3 x4 x5 x6) 67)).heap.size:=Ch KW.lt bz.size;have h63:hN+1≤1099511627776:=Aa;replace KW:=KW.below bz KW.lt;replace hb:=An hb bz;have hrow: ∀b,(⟨HA,hN,hC⟩:Hd).row=some b→w+1≤b:=fun b e=>(o.rowlt b e).1;clear o bz
     go_wp2_with (at_builtin;refine Aj rfl _ _ 33 rfl 67 7 56 underlying33 Gc Ah (w.heap.size+1) ⟨HA,hN,hC⟩ _ rfl oz _ 1 1 (Fu xs k) rfl RE (Kt xs k) h63 Ah hBz ?_;intro G wg hGn HG gg hat)
     have hn2:G.n=(Pp xs n (k+1)).length:=by rw[hGn,HS2.out,Dy,←HLEN.out];rfl
     have HN2:=Ai hn2;have HGN:=Ai hGn;clear hGn hn2 hat
     go_roundw
     case rel=>exact⟨k+1,G,by omega,by go_num,by first|rfl|rw[HGN.out],HN2.out,by rw[HS2.out,VY];exact HG,hb.grown gg (by have:=KW.lt;omega) (fun b e=>by have:=hrow b e;omega),KW.grown gg (fun e=>by have:=hrow _ e;omega)⟩
     case measure=>simp[intOf];omega
    ·have HS2:Hid (Pp xs n (k+1)=Pp xs n k):=by show _=_;rw[HSEL.out,HSB2.out];rfl
     go_wp2_with fail
     go_roundw
     case rel=>exact⟨k+1,⟨HA,hN,hC⟩,by omega,by go_num,rfl,by rw[HS2.out];exact HLEN.out,by rw[HS2.out];exact o,hb,KW⟩
     case measure=>simp[intOf];omega
   ·have hd:decide (x1=1)=false:=by simpa using hx1
    have HS2:Hid (Pp xs n (k+1)=Pp xs n k):=by show _=_;rw[HSEL.out,HSB2.out,hd];rfl
    go_wp2_with fail
    go_roundw
    case rel=>exact⟨k+1,⟨HA,hN,hC⟩,by omega,by go_num,rfl,by rw[HS2.out];exact HLEN.out,by rw[HS2.out];exact o,hb,KW⟩
    case measure=>simp[intOf];omega
  ·obtain rfl:n=k:=Aa;have HGL:Hid (hN=(gTo xs n).length):=by show _=_;rw[HLEN.out];exact dr xs n
   have hKW:=KW.lt;have e0:=KW.cell;have f0:=KW.frozen
   by_cases h0:hN=0
   ·have HP:Hid (DY xs n= []∧gaugeC xs n=4):=by unfold Hid DY gaugeC;rw[HLOG.out,←HGL.out,h0];exact⟨by simpa using List.length_eq_zero_iff.1 (HGL.out.symm.trans h0),rfl⟩
    clear HGL HLEN o;subst h0;go_wp2;refine AS (v:=.tuple (EK none 0 0 none 0 0 4)) (by simp[results,results285,go_sem,e0]) rfl ⟨⟨⟨none,0,0⟩,⟨none,0,0⟩⟩,?_,⟨AZ _,AZ _⟩,?_,?_,?_,?_⟩
    ·rw[HP.out.2];rfl
    ·unfold Dk;rw[HP.out.1];exact Ag.cons (s:=⟨none,0,[]⟩) (Rd.nil _ _) (Ag.cons (s:=⟨none,0,[]⟩) (Rd.nil _ _) (Ag.nil _))
    ·exact AB.cons (s:=⟨none,0,_⟩) (fun h=>absurd h (Nat.lt_irrefl 0)) (AB.cons (s:=⟨none,0,_⟩) (fun h=>absurd h (Nat.lt_irrefl 0)) (AB.nil _ _))
    ·exact Dx.cons (fun s hs t ht b e=>by rw[DD.1 hs] at e;cases e) (Dx.one _)
    ·repeat(first|with_reducible exact hb|refine Below.setCell ?_ (by simp<;>omega) _)
   have h0I: ¬((hN:Int)=0):=Aa
   by_cases h1:hN≤40
   rotate_left
   ·have h1I:(40:Int)<(hN:Int):=Aa;have HP:Hid (DY xs n= []∧gaugeC xs n=3):=by unfold Hid DY gaugeC;simp[HLOG.out,←HGL.out,h0,h1]
    go_wp2;refine AS (v:=.tuple (EK none 0 0 none 0 0 3)) (by simp[results,results285,go_sem,e0]) rfl ⟨⟨⟨none,0,0⟩,⟨none,0,0⟩⟩,?_,⟨AZ _,AZ _⟩,?_,?_,?_,?_⟩
    ·rw[HP.out.2];rfl
    ·unfold Dk;rw[HP.out.1];exact Ag.cons (s:=⟨none,0,[]⟩) (Rd.nil _ _) (Ag.cons (s:=⟨none,0,[]⟩) (Rd.nil _ _) (Ag.nil _))
    ·exact AB.cons (s:=⟨none,0,_⟩) (fun h=>absurd h (Nat.lt_irrefl 0)) (AB.cons (s:=⟨none,0,_⟩) (fun h=>absurd h (Nat.lt_irrefl 0)) (AB.nil _ _))
    ·exact Dx.cons (fun s hs t ht b e=>by rw[DD.1 hs] at e;cases e) (Dx.one _)
    ·repeat(first|with_reducible exact hb|refine Below.setCell ?_ (by simp<;>omega) _)
   have h1I: ¬(40:Int)<(hN:Int):=Aa;have HP:Hid (Dk xs n=⟨fstL (gTo xs n),sndL (gTo xs n)⟩∧gaugeC xs n=0):=by unfold Hid Dk DY gaugeC;simp[HLOG.out,←HGL.out,h0,h1]
   have h0p:0<hN:=Aa
   go_wp2_with fail
   refine(Sw (w.heap.size+1) ⟨HA,hN,hC⟩ xs _ _ o h0p Aw).mono ?_;rintro e w2 ⟨rfl,ks,hp,hs,RK,g2⟩;have HKS:=Ai (Ti hp hs);have hlk:ks.length=hN:=(hp.length_eq).trans HLEN.out.symm;have hrow: ∀b,(⟨HA,hN,hC⟩:Hd).row=some b→w+1≤b:=fun b e=>(o.rowlt b e).1;replace KW:=KW.grown g2 (fun e=>by have:=hrow _ e;omega)
   replace hb:=hb.grown g2 Aa (fun b e=>by have:=hrow b e;omega)
   rw[OB] at RK;simp only at RK;clear o hp hs HLEN g2 e0 f0 hKW;have hKW:=KW.lt;have K8:=Br w2 205 QW;have b8:Below w2 w2 (w2.alloc (.cells QW 205)):=BU
   go_upto_region 15 with fail
   go_wp2_with fail
   go_loopw [50] (fun v50 wr=> ∃(k:Nat) (ht hl:Hd),k≤hN∧v50=.int .i64 k∧ht.n=k∧hl.n=k∧Blk wr w2.heap.size 205 (CH ht.A ht.n ht.c hl.A hl.n hl.c)∧AR wr (w2.heap.size+1) 1 ht (ints ((ks.take k).map (recT xs)))∧AR wr (w2.heap.size+1) 1 hl (ints ((ks.take k).map (recL xs)))∧(∀b,ht.row=some b→hl.row≠some b)∧Below w2 w2 wr)
    (fun v50 _=>hN-(intOf v50).toNat)
   case atStart=>exact⟨0,⟨none,0,0⟩,⟨none,0,0⟩,AZ _,rfl,rfl,rfl,K8,AR.nil _ _ _,AR.nil _ _ _,(fun b e=>by cases e),b8⟩
   case round=>
    obtain⟨k,⟨TA,tn,tc⟩,⟨LA,ln,lc⟩,hk,rfl,htn,hln,K8,oT,oL,hoff,hb8⟩:=hrel;simp only at htn hln;subst htn;obtain rfl:tn=ln:=hln.symm;have q8:=K8.lt;have c8:=K8.cell
    by_cases hlt:tn<hN
    ·have hltI:(tn:Int)<(hN:Int):=Aa;obtain⟨ad,rfl,c0,c1,c2,c3,c4,c5,c6⟩:=(RK.below hb8).seven hlt;have hat:=Uu xs ks tn Aa;have HT2:Hid ((ks.take (tn+1)).map (recT xs)=(ks.take tn).map (recT xs)++ [(F3 xs ks).getD (tn*7) 0]):=by show _=_;rw[hat.1,List.take_succ_eq_append_getElem (show tn<ks.length by omega),List.map_append];rfl
     have HL2:Hid ((ks.take (tn+1)).map (recL xs)=(ks.take tn).map (recL xs)++ [(F3 xs ks).getD (tn*7+2) 0]):=by show _=_;rw[hat.2,List.take_succ_eq_append_getElem (show tn<ks.length by omega),List.map_append];rfl
     clear hat;generalize(F3 xs ks).getD (tn*7) 0=x0 at*;generalize(F3 xs ks).getD (tn*7+1) 0=x1 at*;generalize(F3 xs ks).getD (tn*7+2) 0=x2 at*;generalize(F3 xs ks).getD (tn*7+3) 0=x3 at*;generalize(F3 xs ks).getD (tn*7+4) 0=x4 at*;generalize(F3 xs ks).getD (tn*7+5) 0=x5 at*;generalize(F3 xs ks).getD (tn*7+6) 0=x6 at*
     go_upto_region 18 with fail
     have KB:=Br wr 67 (AD x0 x1 x2 x3 x4 x5 x6);have b1:Below wr wr (wr.alloc (.cells (AD x0 x1 x2 x3 x4 x5 x6) 67)):=BU;have hgw:w2<wr.heap.size:=q8;have hTr: ∀b,(⟨TA,tn,tc⟩:Hd).row=some b→w2+1≤b∧b<wr:=fun b e=>oT.rowlt b e;have hLr: ∀b,(⟨LA,tn,lc⟩:Hd).row=some b→w2+1≤b∧b<wr:=fun b e=>oL.rowlt b e;replace oT:=oT.below b1;replace oL:=oL.below b1;replace K8:=K8.below b1 q8;replace q8:=K8.lt;replace hb8:=An hb8 b1;replace c8:=K8.cell;clear b1 c0 c1 c2 c3 c4 c5 c6;generalize wr.alloc _=w4 at KB oT oL K8 q8 c8 hb8⊢;generalize wr.heap.size=gb at KB hgw hTr hLr⊢;have cB:=KB.cell;have bz1:Below w4 w4 (w4.alloc (.cells #[ZI x0] 2)):=BU;have oz1:=oT.below bz1;have RE1:Rd (w4.alloc (.cells #[ZI x0] 2)) (some ⟨w4,0,none⟩) (1*1) (ints [x0]):=BD _ _ _;have hBz1:w2+1≤(w4.alloc (.cells #[ZI x0] 2)).heap.size:=Ch q8 bz1.size;have h631:tn+1≤1099511627776:=Aa
     go_upto_region 19 with(at_builtin;refine Aj rfl _ _ 28 rfl 2 1 8 underlying28 AJ Ah (w2.heap.size+1) ⟨TA,tn,tc⟩ _ rfl oz1 _ 1 1 (ints [x0]) rfl RE1 (Ao _) h631 Ah hBz1 ?_;intro G wg1 hnG oG gg1 hat1;have K8:=(K8.below bz1 q8).grown gg1 (fun e=>by have:=(oT.rowlt _ e).1;omega);have q8:=K8.lt;have f8:=K8.frozen;have c8:=K8.cell;have HNG:=Ai hnG;clear hnG)
     have K8':Blk (wg1.setCell ⟨w2,0,none⟩ (.slice G.A G.n G.c)) w2.heap.size 205 (CH G.A G.n G.c LA tn lc):=K8.set_ 0 _
     have hat1':G.row=(⟨TA,tn,tc⟩:Hd).row∨ ∃g,G.row=some g∧w4.heap.size≤g:=by
      rcases hat1 with h|⟨g,h,h'⟩
      ·exact .inl h
      ·exact .inr ⟨g,h,Ch bz1.size h'⟩
     have oL1:=((oL.below bz1).grown gg1 (fun b e c=>hoff _ c e)).fars (p:=⟨w2,0,none⟩) (fun e=>by have:=(hLr _ e).1;simp only at this;omega) (.slice G.A G.n G.c)
     have oG1:=oG.fars (p:=⟨w2,0,none⟩) (fun e=>by have:=(oG.rowlt _ e).1;simp only at this;omega) (.slice G.A G.n G.c)
     have KB1:=((KB.below bz1 KB.lt).grown gg1 (fun e=>by have:=(hTr _ e).2;omega)).far (p:=⟨w2,0,none⟩) Aw (.slice G.A G.n G.c)
     have hoff1: ∀b,G.row=some b→(⟨LA,tn,lc⟩:Hd).row≠some b:=fun b e e2=>by
      rcases hat1' with h|⟨g,h,h'⟩
      ·exact hoff b (h▸e) e2
      ·rw[h] at e;injection e with e;have:=(oL.rowlt _ e2).2;omega
     have hb81:=((An hb8 bz1).grown gg1 (by have:=bz1.size;omega) (fun b e=>by have:=(hTr b e).1;omega)).setCell (p:=⟨w2,0,none⟩) Bk (.slice G.A G.n G.c)
     clear hat1 hat1' oG gg1 K8 oL oT KB hb8 c8 f8 q8 hoff bz1 oz1 RE1 hBz1 h631;have K8:=K8';clear K8';generalize wg1.setCell ⟨w2,0,none⟩ (.slice G.A G.n G.c)=w5 at*;have q8:=K8.lt;have c8:=K8.cell;have cB:=KB1.cell;have bz2:Below w5 w5 (w5.alloc (.cells #[ZI x2] 2)):=BU;have oz2:=oL1.below bz2;have RE2:Rd (w5.alloc (.cells #[ZI x2] 2)) (some ⟨w5,0,none⟩) (1*1) (ints [x2]):=BD _ _ _;have hBz2:w2+1≤(w5.alloc (.cells #[ZI x2] 2)).heap.size:=Ch q8 bz2.size;have h632:tn+1≤1099511627776:=Aa
     go_wp2_with (at_builtin;refine Aj rfl _ _ 28 rfl 2 1 8 underlying28 AJ Ah (w2.heap.size+1) ⟨LA,tn,lc⟩ _ rfl oz2 _ 1 1 (ints [x2]) rfl RE2 (Ao _) h632 Ah hBz2 ?_;intro F wg2 hnF oF gg2 hat2;have K8:=(K8.below bz2 q8).grown gg2 (fun e=>by have:=(oL1.rowlt _ e).1;omega);have q8:=K8.lt;have f8:=K8.frozen;have c8:=K8.cell;have HNF:=Ai hnF;clear hnF)
     have K9:Blk (wg2.setCell ⟨w2,1,none⟩ (.slice F.A F.n F.c)) w2.heap.size 205 (CH G.A G.n G.c F.A F.n F.c):=K8.set_ 1 _
     have hat2':F.row=(⟨LA,tn,lc⟩:Hd).row∨ ∃g,F.row=some g∧w5.heap.size≤g:=by
      rcases hat2 with h|⟨g,h,h'⟩
      ·exact .inl h
      ·exact .inr ⟨g,h,Ch bz2.size h'⟩
     have oG2:=((oG1.below bz2).grown gg2 (fun b e c=>hoff1 _ e c)).fars (p:=⟨w2,1,none⟩) (fun e=>by have:=(oG1.rowlt _ e).1;simp only at this;omega) (.slice F.A F.n F.c)
     have oF2:=oF.fars (p:=⟨w2,1,none⟩) (fun e=>by have:=(oF.rowlt _ e).1;simp only at this;omega) (.slice F.A F.n F.c)
     have hoff2: ∀b,G.row=some b→F.row≠some b:=fun b e e2=>by
      rcases hat2' with h|⟨g,h,h'⟩
      ·exact hoff1 b e (h▸e2)
      ·rw[h] at e2;injection e2 with e2;have:=(oG1.rowlt _ e).2;omega
     have hb82:=((An hb81 bz2).grown gg2 (by have:=bz2.size;omega) (fun b e=>by have:=(oL1.rowlt b e).1;omega)).setCell (p:=⟨w2,1,none⟩) Bk (.slice F.A F.n F.c)
     go_roundw
     case rel=>exact⟨tn+1,G,F,by omega,by go_num,HNG.out,HNF.out,K9,by rw[HT2.out,B8];exact oG2,by rw[HL2.out,B8];exact oF2,hoff2,hb82⟩
     case measure=>simp[intOf];omega
    ·obtain rfl:tn=hN:=Aa;have e1:ks.take tn=ks:=ED Aa;rw[e1] at oT oL;have e2:ks.map (recT xs)=fstL (gTo xs n):=by rw[←HKS.out];unfold fstL Sb;simp
     have e3:ks.map (recL xs)=sndL (gTo xs n):=by rw[←HKS.out];unfold sndL Sb;simp
     rw[e2] at oT;rw[e3] at oL;have K0:=KW.below hb8 hKW;have hb9:=An hb hb8;have e0:=K0.cell;have f0:=K0.frozen;have hrow2: ∀(h:Hd) (us:List Value),AR wr (w2.heap.size+1) 1 h us→ ∀(u v:Value),AR ((wr.setCell ⟨w,0,none⟩ u).setCell ⟨w,1,none⟩ v) (w2.heap.size+1) 1 h us:=fun h us o u v=>(o.fars (fun e=>by have:=(o.rowlt _ e).1;simp only at this;omega) u).fars (fun e=>by have:=(o.rowlt _ e).1;simp only at this;omega) v
     have OT2:=fun u v=>hrow2 _ _ oT u v;have OL2:=fun u v=>hrow2 _ _ oL u v;have hw3:w≤w2.heap.size+1:=Aa;have hc3:0<tc:=by have:=oT.nc;simp only at this;omega
     have hc4:0<lc:=by have:=oL.nc;simp only at this;omega
     clear RK e1 e2 e3 oT oL;go_wp2;refine AS (v:=.tuple (EK TA tn tc LA tn lc 0)) (by simp[results,results285,go_sem,e0]) rfl ?_
     rw[HP.out.1,HP.out.2];refine⟨⟨⟨TA,tn,tc⟩,⟨LA,tn,lc⟩⟩,rfl,⟨by simp only;omega,by simp only;omega⟩,Ag.cons (s:=⟨TA,tn,ints (fstL (gTo xs n))⟩) ?_ (Ag.cons (s:=⟨LA,tn,ints (sndL (gTo xs n))⟩) ?_ (Ag.nil _)),AB.cons (s:=⟨TA,tn,ints (fstL (gTo xs n))⟩) ?_ (AB.cons (s:=⟨LA,tn,ints (sndL (gTo xs n))⟩) ?_ (AB.nil _ _)),?_,?_⟩
     ·exact(OT2 _ _).rd1
     ·exact(OL2 _ _).rd1
     ·exact((OT2 _ _).mono hw3).wr1
     ·exact((OL2 _ _).mono hw3).wr1
     ·refine Dx.cons (fun s hs t ht b e=> ?_) (Dx.one _);rw[DD.1 hs] at e;rw[DD.1 ht];intro e2;obtain⟨_,e3,h3,rfl⟩:=Df e;obtain⟨_,e4,h4,h5⟩:=Df e2;exact hoff _ (Hd.row_mk e3 hc3) (by rw[←h5];exact Hd.row_mk e4 hc4)
     ·repeat(first|with_reducible exact hb9|refine Below.setCell ?_ (by simp<;>omega) _)
theorem PK (A:Option Addr) (n c:Nat) (xs:List Int) (w:World) (hn:n≤1048576) (hnc:n≤c) (hr:Rd w A (n*7) (ints xs)):
  Calls prog 229 #[.slice A n c] w fun e w'=> ∃k:Js,e=.returned (.tuple #[Lv k (Dk xs n),ZI (gaugeC xs n)])∧QN k∧Ag w' (Lu k (Dk xs n))∧AB w' w.heap.size (Lu k (Dk xs n))∧Dx (UU k)∧Below w w w':=by
 go_enter func229,ntmps229
 go_upto_region 1 with fail
 generalize hG:w.alloc _=w1;obtain⟨K0,b0⟩:=EX hG;clear hG;have g0:=K0.lt
 go_wp2_with fail
 refine(XK A n c xs _ Aa (hr.below b0)).mono ?_;rintro e w2 ⟨rfl,b2⟩;replace K0:=K0.below b2 g0;replace b0:=An b0 b2;replace g0:=K0.lt;have e0:=K0.cell;have f0:=K0.frozen;clear b2;rcases BA (FT xs n) with hlog|hlog
 rotate_left
 ·have HP:Hid (DY xs n= []∧gaugeC xs n=1):=by unfold Hid DY gaugeC;rw[hlog];exact⟨rfl,rfl⟩
  go_wp2;refine AS (v:=.tuple (EK none 0 0 none 0 0 1)) (by simp[results,results229,go_sem,e0]) rfl ⟨⟨⟨none,0,0⟩,⟨none,0,0⟩⟩,?_,⟨AZ _,AZ _⟩,?_,?_,?_,?_⟩
  ·rw[HP.out.2];rfl
  ·unfold Dk;rw[HP.out.1];exact Ag.cons (s:=⟨none,0,[]⟩) (Rd.nil _ _) (Ag.cons (s:=⟨none,0,[]⟩) (Rd.nil _ _) (Ag.nil _))
  ·exact AB.cons (s:=⟨none,0,_⟩) (fun h=>absurd h (Nat.lt_irrefl 0)) (AB.cons (s:=⟨none,0,_⟩) (fun h=>absurd h (Nat.lt_irrefl 0)) (AB.nil _ _))
  ·exact Dx.cons (fun s hs t ht b e=>by rw[DD.1 hs] at e;cases e) (Dx.one _)
  ·repeat(first|with_reducible exact b0|refine Below.setCell ?_ (by simp<;>omega) _)
 have hn2:n≤200:=by
  have:FT xs n=(CP xs n && decide ((n:Int)≤200)):=rfl;rw[this,CD,BP] at hlog;omega
 have hcon:=Th A n c xs w2 hn2 hnc (hr.below b0) hlog;clear e0 f0
 go_wp2_with fail
 refine hcon.mono ?_;rintro e w3 ⟨⟨⟨TA,tn,tc⟩,⟨LA,ln,lc⟩⟩,rfl,ok,R,Y,SP,b3⟩;replace K0:=K0.below b3 g0;replace b0:=An b0 b3;have e0:=K0.cell;have f0:=K0.frozen;clear hcon hr b3;unfold Lv;simp only;go_wp2;refine AS (v:=.tuple (EK TA tn tc LA ln lc (gaugeC xs n))) (by simp[results,results229,go_sem,e0]) rfl ⟨⟨⟨TA,tn,tc⟩,⟨LA,ln,lc⟩⟩,rfl,ok,?_,?_,SP,?_⟩
 ·exact(R.cell_ (Y.hi.ne g0)).cell_ (Y.hi.ne g0)
 ·exact(Y.lower (Nat.le_of_lt g0)).cell_.cell_
 ·repeat(first|with_reducible exact b0|refine Below.setCell ?_ (by simp<;>omega) _)
def Ro (xs:List Int):Int:=gaugeC xs (xs.length/7)
end Go.Proofs.YtkndcebhjcfphaaGreatDoor
