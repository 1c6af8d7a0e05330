import Derived.Test.YtkndcebhjcfphaaGreatDoorZAb
import Derived.Test.YtkndcebhjcfphaaGreatDoorZG
import Derived.Shelf.SlSortCmp.WholeK
namespace Go.Proofs.YtkndcebhjcfphaaGreatDoor
open Go.RowKit Go.Proofs.Tryz
set_option maxRecDepth 100000
set_option maxHeartbeats 4000000
set_option linter.all false
section
open Go.Shelf
def UE:Go.Shelf.Ren:=⟨fun|6=>323|15=>343|14=>342|28=>363|29=>312|20=>355|21=>356|22=>357|23=>358|24=>359|25=>360|26=>361|27=>362|46=>372|47=>373|48=>374|49=>375|50=>376|57=>381|n=>n,fun|22=>33|24=>67|25=>315|3=>3|39=>241|0=>0|53=>289|55=>243|4=>4|46=>342|45=>341|50=>316|5=>5|9=>9|66=>350|70=>354|76=>357|77=>358|n=>n,fun|n=>n⟩
theorem dt:Go.Proofs.SlLaysF0.n6 prog UE:= {
 mixed:=We51ceQ
 f6:=⟨Tryz.f323.name,by decide,func323.trans (AN some We51ceQ)⟩
 f14:=⟨Tryz.f342.name,by decide,func342.trans (AN some We51ceQ)⟩
 f15:=func343.trans (AN some We51ceQ)
 f20:=⟨Tryz.f355.name,by decide,func355.trans (AN some We51ceQ)⟩
 f21:=⟨Tryz.f356.name,by decide,func356.trans (AN some We51ceQ)⟩
 f22:=⟨Tryz.f357.name,by decide,func357.trans (AN some We51ceQ)⟩
 f23:=⟨Tryz.f358.name,by decide,func358.trans (AN some We51ceQ)⟩
 f24:=⟨Tryz.f359.name,by decide,func359.trans (AN some We51ceQ)⟩
 f25:=⟨Tryz.f360.name,by decide,func360.trans (AN some We51ceQ)⟩
 f26:=⟨Tryz.f361.name,by decide,func361.trans (AN some We51ceQ)⟩
 f27:=⟨Tryz.f362.name,by decide,func362.trans (AN some We51ceQ)⟩
 f28:=func363.trans (AN some We51ceQ)
 f29:=func312.trans (AN some We51ceQ)
 f46:=⟨Tryz.f372.name,by decide,func372.trans (AN some We51ceQ)⟩
 f47:=func373.trans (AN some We51ceQ)
 f48:=func374.trans (AN some We51ceQ)
 f49:=⟨Tryz.f375.name,by decide,func375.trans (AN some We51ceQ)⟩
 f50:=⟨Tryz.f376.name,by decide,func376.trans (AN some We51ceQ)⟩
 f57:=⟨Tryz.f381.name,by decide,func381.trans (AN some We51ceQ)⟩
 t0:=underlying0
 a0:=Tryz.isAgg0
 z0:=Tryz.sizeOf0
 v0:=Tryz.zeroValue0
 t3:=underlying3
 a3:=Tryz.isAgg3
 z3:=Tryz.sizeOf3
 v3:=Tryz.zeroValue3
 t4:=underlying4
 a4:=Tryz.isAgg4
 z4:=Tryz.sizeOf4
 v4:=Tryz.zeroValue4
 t5:=underlying5
 a5:=Tryz.isAgg5
 z5:=Tryz.sizeOf5
 v5:=Tryz.zeroValue5
 t9:=underlying9
 a9:=Tryz.isAgg9
 z9:=Tryz.sizeOf9
 v9:=Tryz.zeroValue9
 t22:=underlying33
 a22:=Tryz.isAgg33
 z22:=Tryz.sizeOf33
 v22:=Tryz.zeroValue33
 t25:=underlying315
 a25:=Tryz.isAgg315
 z25:=Tryz.sizeOf315
 v25:=Tryz.zeroValue315
 t39:=underlying241
 a39:=Tryz.isAgg241
 z39:=Tryz.sizeOf241
 v39:=Tryz.zeroValue241
 t45:=underlying341
 a45:=Tryz.isAgg341
 z45:=Tryz.sizeOf341
 v45:=Tryz.zeroValue341
 t46:=underlying342
 a46:=Tryz.isAgg342
 z46:=Tryz.sizeOf342
 v46:=Tryz.zeroValue342
 t50:=underlying316
 a50:=Tryz.isAgg316
 z50:=Tryz.sizeOf316
 v50:=Tryz.zeroValue316
 t53:=underlying289
 a53:=Tryz.isAgg289
 z53:=Tryz.sizeOf289
 v53:=Tryz.zeroValue289
 t55:=underlying243
 a55:=Tryz.isAgg243
 z55:=Tryz.sizeOf243
 v55:=Tryz.zeroValue243
 t66:=underlying350
 a66:=Tryz.isAgg350
 z66:=Tryz.sizeOf350
 v66:=Tryz.zeroValue350
 t70:=underlying354
 a70:=Tryz.isAgg354
 z70:=Tryz.sizeOf354
 v70:=Tryz.zeroValue354
 t76:=underlying357
 a76:=Tryz.isAgg357
 z76:=Tryz.sizeOf357
 v76:=Tryz.zeroValue357
 t77:=underlying358
 a77:=Tryz.isAgg358
 z77:=Tryz.sizeOf358
 v77:=Tryz.zeroValue358}
end
section
open Go.RowKit Go.Shelf Go.Lib
theorem Sw (B:Nat) (h:Hd) (xs:List Int) (ks:List Nat) (w:World) (o:AR w B 7 h (jD xs ks)) (x:0<h.n) (D:h.n<=1048576):
  Calls prog 323 #[.slice h.A h.n h.c,.func (.func 324) #[] #[]] w λe q=>e=.returned (.tuple #[])∧ ∃d:List Nat,d.Perm ks∧d.Pairwise (λi j=>recT xs i<=recT xs j)∧Rd q h.A (h.n*7) (jD xs d)∧w.grownBy q h.row:=by
 have v:=o.len;rw[I0] at v;have p:=o.nc;obtain⟨A,n,c⟩:=h;simp only at x D v p⊢;have u:ks.length=n:=Aa
 cases A with
 |none=>have:=o.nil_ rfl;simp only at this;omega
 |some ad=>
  obtain⟨f,t,s⟩:=Rp o rfl x;have k:(⟨some ad,n,c⟩:Hd).row=some ad.block:=Hd.row_mk rfl (show 0<c by omega)
  have z: ∀a w,(callFunc 324 a).run prog w=.ok (.enter 324 a) w:=enters_of func324 We51ceQ rfl;have b:=AnyQ.slices_SortFunc dt 7 Tryz.isAgg67 Tryz.sizeOf67 (Fu xs) (λ_=>rfl) (Kt xs) (Va xs) (aG xs) 324 #[] ad.block ad.off c ks.toArray w z (λ_ _ _ _ i j=>Vb xs i j _) s t Bq;rw[<-f,show ks.toArray.size=n by simpa using u] at b
  rw[k];refine b.mono ?_;rintro e q ⟨rfl,l,m,E,g,y,rfl⟩;rw[show n=ks.toArray.size by simpa using u.symm] at g y
  refine⟨rfl,l.toList,by simpa using cN g,Yu g.1 y,?_,Tp _ _ _⟩
  have C:=holdsK_sortWorldK_c (Fu xs) 7 w ad.block ad.off ks.toArray l m E s t g.1;have r:=Uq (n:=n) (ks:=l.toList) (by have:=g.1;simp at this;simp;omega) (by simpa using C)
  rw[<-f] at r;exact r
end
def jC (xs:List Int) (ks:List Nat):List Int:=ks.flatMap λi=> [xs.getD (i*7) 0,xs.getD (i*7+1) 0,xs.getD (i*7+2) 0,xs.getD (i*7+3) 0,xs.getD (i*7+4) 0,xs.getD (i*7+5) 0,xs.getD (i*7+6) 0]
theorem OB (xs:List Int): ∀a:List Nat,jD xs a=ints (jC xs a)
 | []=>rfl
 |k::a=>by
  show Fu xs k++jD xs a=ints (_++jC xs a);rw[OB xs a,js];rfl
theorem Uu (xs:List Int): ∀(m:List Nat) (j:Nat) (h:j<m.length),(jC xs m).getD (j*7) 0=recT xs m[j]∧(jC xs m).getD (j*7+2) 0=recL xs m[j]
 | [],_,h=>absurd h (Nat.not_lt_zero _)
 |k::m,0,_=>⟨rfl,rfl⟩
 |k::m,j+1,h=>by
  have n:=Uu xs m j CB
  have e: ∀(a b c d e f g:Int) (l:List Int) (i:Nat),([a,b,c,d,e,f,g]++l).getD (i+7) 0=l.getD i 0:=by
   intro a b c d e f g l i
   simp[DE]
  rw[show(j+1)*7=j*7+7 by omega,show j*7+7+2=(j*7+2)+7 by omega]
  show(_++jC xs m).getD _ 0=_∧(_++jC xs m).getD _ 0=_;rw[e,e];exact n
theorem cZ (w:World) (xs:List Int) (k:Nat) (e:TypeId):Rd (w.alloc (.cells (Fu xs k).toArray e)) (some ⟨w,0,none⟩) (1*7) (Fu xs k):=by
 refine⟨rfl,λ_=>⟨_,rfl,λi hi=> ?_⟩⟩;rw[CE,(Br w e (Fu xs k).toArray).cell]
 simp
theorem Rd.restG {w:World} {ad:Addr} {n c k:Nat} {xs:List Int} {X:Option Addr} (h:Rd w (some ad) (n*7) (ints xs)) (d:k<n) (b:n<=c) (a:(if c=k+1 then some ad else some (ad.add ((k+1)*7)))=X):Rd w X ((n-(k+1))*7) (ints (xs.drop ((k+1)*7))):=by
 have f:=h.len
 by_cases e:c=k+1
 ·have e2:n-(k+1)=0:=Aa;rw[e2,List.drop_eq_nil_of_le Aa];exact Rd.nil _ _
 ·rw[Ak e] at a;subst a;have:=Rd.partG (A:=some ad) (n:=n*7) (k:=(k+1)*7) (m:=(n-(k+1))*7) (by exact h) Aa
  rwa [Option.map_some,ED (by rw[JW];omega)] at this
theorem Th (A:Option Addr) (n c:Nat) (xs:List Int) (w:World) (hn:n<=200) (bO:n<=c) (hr:Rd w A (n*7) (ints xs)) (ag:FT xs n=true):
  Calls prog 285 #[.slice A n c] w λe w'=> ∃k:Js,e=.returned (.tuple #[Lv k (Dk xs n),ZI (gaugeC xs n)])∧QN k∧Ag w' (Lu k (Dk xs n))∧AB w' w.heap.size (Lu k (Dk xs n))∧Dx (UU k)∧Below w w w':=by
 have M:=Ai ag;clear ag
 go_enter func285,ntmps285
 go_upto_region 1 with fail
 generalize hG:w.alloc _=w1;obtain⟨K0,b0⟩:=EX hG;clear hG
 go_wp2_with fail
 go_loopw [4,13] (λv4 aA wr=> ∃(k:Nat) (h:Hd),k<=n∧aA=.int .i64 k∧v4=.slice h.A h.n h.c∧h.n=(Pp xs n k).length∧AR wr (w.heap.size+1) 7 h (jD xs (Pp xs n k))∧Below w w wr∧Blk wr w.heap.size 205 QW)
  (λ_ aA _=>n-(intOf aA).toNat)
 case atStart=>exact⟨0,⟨none,0,0⟩,AZ _,rfl,rfl,rfl,AR.nil _ _ _,b0,K0⟩
 case round=>
  obtain⟨k,⟨HA,m,hC⟩,hk,rfl,rfl,U,o,x,l⟩:=hrel;clear K0 b0;simp only at U;have i:=Ai U
  have ci:m<=200:=by
   have:(Pp xs n k).length<=(List.range k).length:=List.length_filter_le _ _;rw[List.length_range] at this;omega
  clear U
  by_cases V:k<n
  ·have a8:(k:Int)<(n:Int):=Aa;obtain⟨ad,rfl,c0,c1,c2,c3,c4,c5,c6⟩:=(hr.below x).seven V;obtain⟨X,hX⟩: ∃X,(if c=k+1 then some ad else some (ad.add ((k+1)*7)))=X:=⟨_,rfl⟩;have RX:=(hr.below x).restG V bO hX;have O:=Ai (ay xs n k);have aK:=Ai (Wa (xs:=xs) V);have HE:Hid (Fu xs k= [.int .i64 (xs.getD (k*7) 0),.int .i64 (xs.getD (k*7+1) 0),.int .i64 (xs.getD (k*7+2) 0),.int .i64 (xs.getD (k*7+3) 0),.int .i64 (xs.getD (k*7+4) 0),.int .i64 (xs.getD (k*7+5) 0),.int .i64 (xs.getD (k*7+6) 0)]):=rfl;have HT:Hid (recT xs k=xs.getD (k*7) 0∧recK xs k=xs.getD (k*7+1) 0):=⟨rfl,rfl⟩;generalize xs.getD (k*7) 0=B at*;generalize xs.getD (k*7+1) 0=x1 at*;generalize xs.getD (k*7+2) 0=H at*;generalize xs.getD (k*7+3) 0=x3 at*;generalize xs.getD (k*7+4) 0=x4 at*;generalize xs.getD (k*7+5) 0=x5 at*;generalize xs.getD (k*7+6) 0=x6 at*;have i2:k+1<=n:=Aa
   go_upto_region 5 with fail
   have D:=Br wr 67 (AD B x1 H x3 x4 x5 x6);have Q:Below wr wr (wr.alloc (.cells (AD B x1 H x3 x4 x5 x6) 67)):=BU;replace RX:=RX.below Q;replace o:=o.below Q;replace l:=l.below Q l.lt;replace x:=An x Q;clear Q c0 c1 c2 c3 c4 c5 c6;generalize wr.alloc _=d at D RX o l x⊢;generalize wr.heap.size=gb at D⊢;have a6:=D.lt;have cB:=D.cell 0
   go_wp2_with fail
   refine(J4 X (n-(k+1)) (c-(k+1)) _ B gb _ Aa RX a6 cB).mono ?_;rintro e w3 ⟨rfl,b3⟩;replace o:=o.below b3;replace l:=l.below b3 l.lt;replace x:=An x b3;replace D:=D.below b3 a6;clear b3 RX cB;have N:Hid (UB xs n k=(decide (x1=1) && !(laterB (List.drop ((k+1)*7) xs) (n-(k+1)) B))):=by have:=aK.out;rw[HT.out.1,HT.out.2] at this;exact this
   clear aK HT;have cB:=D.cell;generalize laterB (List.drop ((k+1)*7) xs) (n-(k+1)) B=lb at*
   by_cases be:x1=1
   ·subst be
    cases lb
    ·have r:Hid (Pp xs n (k+1)=Pp xs n k++ [k]):=by show _=_;rw[O.out,N.out];rfl
     have bz:Below w3 w3 (w3.alloc (.cells (AD B 1 H x3 x4 x5 x6) 67)):=BU;have oz:=o.below bz;have RE:Rd (w3.alloc (.cells (AD B 1 H x3 x4 x5 x6) 67)) (some ⟨w3,0,none⟩) (1*7) (Fu xs k):=by have:=cZ w3 xs k 67;rw[HE.out] at this;rw[HE.out];exact this
     have bL:w+1<=(w3.alloc (.cells (AD B 1 H x3 x4 x5 x6) 67)).heap.size:=Ch l.lt bz.size;have bK:m+1<=1099511627776:=Aa;replace l:=l.below bz l.lt;replace x:=An x bz;have z: ∀b,(⟨HA,m,hC⟩:Hd).row=some b->w+1<=b:=λb e=>(o.rowlt b e).1;clear o bz
     go_wp2_with (at_builtin;refine Aj rfl _ _ 33 rfl 67 7 56 underlying33 Gc Ah (w.heap.size+1) ⟨HA,m,hC⟩ _ rfl oz _ 1 1 (Fu xs k) rfl RE (Kt xs k) bK Ah bL ?_;intro G wg aq HG gg S)
     have a9:G.n=(Pp xs n (k+1)).length:=by rw[aq,r.out,Dy,<-i.out];rfl
     have bn:=Ai a9;have bk:=Ai aq;clear aq a9 S
     go_roundw
     case rel=>exact⟨k+1,G,by omega,by go_num,by first|rfl|rw[bk.out],bn.out,by rw[r.out,VY];exact HG,x.grown gg (by have:=l.lt;omega) (λb e=>by have:=z b e;omega),l.grown gg (λe=>by have:=z _ e;omega)⟩
     case measure=>simp[intOf];omega
    ·have r:Hid (Pp xs n (k+1)=Pp xs n k):=by show _=_;rw[O.out,N.out];rfl
     go_wp2_with fail
     go_roundw
     case rel=>exact⟨k+1,⟨HA,m,hC⟩,by omega,by go_num,rfl,by rw[r.out];exact i.out,by rw[r.out];exact o,x,l⟩
     case measure=>simp[intOf];omega
   ·have hd:decide (x1=1)=false:=by simpa using be
    have r:Hid (Pp xs n (k+1)=Pp xs n k):=by show _=_;rw[O.out,N.out,hd];rfl
    go_wp2_with fail
    go_roundw
    case rel=>exact⟨k+1,⟨HA,m,hC⟩,by omega,by go_num,rfl,by rw[r.out];exact i.out,by rw[r.out];exact o,x,l⟩
    case measure=>simp[intOf];omega
  ·obtain rfl:n=k:=Aa;have L:Hid (m=(gTo xs n).length):=by show _=_;rw[i.out];exact kp xs n
   have ar:=l.lt;have e0:=l.cell;have f0:=l.frozen
   by_cases h0:m=0
   ·have HP:Hid (DY xs n= []∧gaugeC xs n=4):=by unfold Hid DY gaugeC;rw[M.out,<-L.out,h0];exact⟨by simpa using List.length_eq_zero_iff.1 (L.out.symm.trans h0),rfl⟩
    clear L i o;subst h0;go_wp2;refine AS (v:=.tuple (EK none 0 0 none 0 0 4)) (by simp[results,results285,go_sem,e0]) rfl ⟨⟨⟨none,0,0⟩,⟨none,0,0⟩⟩,?_,⟨AZ _,AZ _⟩,?_,?_,?_,?_⟩
    ·rw[HP.out.2];rfl
    ·unfold Dk;rw[HP.out.1];exact Ag.cons (s:=⟨none,0,[]⟩) (Rd.nil _ _) (Ag.cons (s:=⟨none,0,[]⟩) (Rd.nil _ _) (Ag.nil _))
    ·exact AB.cons (s:=⟨none,0,_⟩) (λh=>absurd h (Nat.lt_irrefl 0)) (AB.cons (s:=⟨none,0,_⟩) (λh=>absurd h (Nat.lt_irrefl 0)) (AB.nil _ _))
    ·exact Dx.cons (λs hs t Z b e=>by rw[DD.1 hs] at e;cases e) (Dx.one _)
    ·repeat(first|with_reducible exact x|refine Below.setCell ?_ (by simp<;>omega) _)
   have cg: ¬((m:Int)=0):=Aa
   by_cases h1:m<=40
   rotate_left
   ·have bJ:(40:Int)<(m:Int):=Aa;have HP:Hid (DY xs n= []∧gaugeC xs n=3):=by unfold Hid DY gaugeC;simp[M.out,<-L.out,h0,h1]
    go_wp2;refine AS (v:=.tuple (EK none 0 0 none 0 0 3)) (by simp[results,results285,go_sem,e0]) rfl ⟨⟨⟨none,0,0⟩,⟨none,0,0⟩⟩,?_,⟨AZ _,AZ _⟩,?_,?_,?_,?_⟩
    ·rw[HP.out.2];rfl
    ·unfold Dk;rw[HP.out.1];exact Ag.cons (s:=⟨none,0,[]⟩) (Rd.nil _ _) (Ag.cons (s:=⟨none,0,[]⟩) (Rd.nil _ _) (Ag.nil _))
    ·exact AB.cons (s:=⟨none,0,_⟩) (λh=>absurd h (Nat.lt_irrefl 0)) (AB.cons (s:=⟨none,0,_⟩) (λh=>absurd h (Nat.lt_irrefl 0)) (AB.nil _ _))
    ·exact Dx.cons (λs hs t Z b e=>by rw[DD.1 hs] at e;cases e) (Dx.one _)
    ·repeat(first|with_reducible exact x|refine Below.setCell ?_ (by simp<;>omega) _)
   have bJ: ¬(40:Int)<(m:Int):=Aa;have HP:Hid (Dk xs n=⟨fstL (gTo xs n),sndL (gTo xs n)⟩∧gaugeC xs n=0):=by unfold Hid Dk DY gaugeC;simp[M.out,<-L.out,h0,h1]
   have bI:0<m:=Aa
   go_wp2_with fail
   refine(Sw (w.heap.size+1) ⟨HA,m,hC⟩ xs _ _ o bI Aw).mono ?_;rintro e d ⟨rfl,j,hp,hs,RK,g2⟩;have aJ:=Ai (Ti hp hs);have cm:j.length=m:=(hp.length_eq).trans i.out.symm;have z: ∀b,(⟨HA,m,hC⟩:Hd).row=some b->w+1<=b:=λb e=>(o.rowlt b e).1;replace l:=l.grown g2 (λe=>by have:=z _ e;omega)
   replace x:=x.grown g2 Aa (λb e=>by have:=z b e;omega)
   rw[OB] at RK;simp only at RK;clear o hp hs i g2 e0 f0 ar;have ar:=l.lt;have f:=Br d 205 QW;have b8:Below d d (d.alloc (.cells QW 205)):=BU
   go_upto_region 15 with fail
   go_wp2_with fail
   go_loopw [50] (λaB wr=> ∃(k:Nat) (Z hl:Hd),k<=m∧aB=.int .i64 k∧Z.n=k∧hl.n=k∧Blk wr d.heap.size 205 (CH Z.A Z.n Z.c hl.A hl.n hl.c)∧AR wr (d.heap.size+1) 1 Z (ints ((j.take k).map (recT xs)))∧AR wr (d.heap.size+1) 1 hl (ints ((j.take k).map (recL xs)))∧(∀b,Z.row=some b->hl.row≠some b)∧Below d d wr)
    (λaB _=>m-(intOf aB).toNat)
   case atStart=>exact⟨0,⟨none,0,0⟩,⟨none,0,0⟩,AZ _,rfl,rfl,rfl,f,AR.nil _ _ _,AR.nil _ _ _,(λb e=>by cases e),b8⟩
   case round=>
    obtain⟨k,⟨TA,a,tc⟩,⟨LA,ln,lc⟩,hk,rfl,bc,a7,f,J,I,E,y⟩:=hrel;simp only at bc a7;subst bc;obtain rfl:a=ln:=a7.symm;have K:=f.lt;have c8:=f.cell
    by_cases V:a<m
    ·have a8:(a:Int)<(m:Int):=Aa;obtain⟨ad,rfl,c0,c1,c2,c3,c4,c5,c6⟩:=(RK.below y).seven V;have S:=Uu xs j a Aa;have bs:Hid ((j.take (a+1)).map (recT xs)=(j.take a).map (recT xs)++ [(jC xs j).getD (a*7) 0]):=by show _=_;rw[S.1,List.take_succ_eq_append_getElem (show a<j.length by omega),List.map_append];rfl
     have bl:Hid ((j.take (a+1)).map (recL xs)=(j.take a).map (recL xs)++ [(jC xs j).getD (a*7+2) 0]):=by show _=_;rw[S.2,List.take_succ_eq_append_getElem (show a<j.length by omega),List.map_append];rfl
     clear S;generalize(jC xs j).getD (a*7) 0=B at*;generalize(jC xs j).getD (a*7+1) 0=x1 at*;generalize(jC xs j).getD (a*7+2) 0=H at*;generalize(jC xs j).getD (a*7+3) 0=x3 at*;generalize(jC xs j).getD (a*7+4) 0=x4 at*;generalize(jC xs j).getD (a*7+5) 0=x5 at*;generalize(jC xs j).getD (a*7+6) 0=x6 at*
     go_upto_region 18 with fail
     have D:=Br wr 67 (AD B x1 H x3 x4 x5 x6);have Q:Below wr wr (wr.alloc (.cells (AD B x1 H x3 x4 x5 x6) 67)):=BU;have bN:d<wr.heap.size:=K;have au: ∀b,(⟨TA,a,tc⟩:Hd).row=some b->d+1<=b∧b<wr:=λb e=>J.rowlt b e;have a2: ∀b,(⟨LA,a,lc⟩:Hd).row=some b->d+1<=b∧b<wr:=λb e=>I.rowlt b e;replace J:=J.below Q;replace I:=I.below Q;replace f:=f.below Q K;replace K:=f.lt;replace y:=An y Q;replace c8:=f.cell;clear Q c0 c1 c2 c3 c4 c5 c6;generalize wr.alloc _=w4 at D J I f K c8 y⊢;generalize wr.heap.size=gb at D bN au a2⊢;have cB:=D.cell;have q:Below w4 w4 (w4.alloc (.cells #[ZI B] 2)):=BU;have bf:=J.below q;have aP:Rd (w4.alloc (.cells #[ZI B] 2)) (some ⟨w4,0,none⟩) (1*1) (ints [B]):=BD _ _ _;have ae:d+1<=(w4.alloc (.cells #[ZI B] 2)).heap.size:=Ch K q.size;have ac:a+1<=1099511627776:=Aa
     go_upto_region 19 with(at_builtin;refine Aj rfl _ _ 28 rfl 2 1 8 underlying28 AJ Ah (d.heap.size+1) ⟨TA,a,tc⟩ _ rfl bf _ 1 1 (ints [B]) rfl aP (Ao _) ac Ah ae ?_;intro G bg bb oG R af;have f:=(f.below q K).grown R (λe=>by have:=(J.rowlt _ e).1;omega);have K:=f.lt;have f8:=f.frozen;have c8:=f.cell;have bq:=Ai bb;clear bb)
     have aM:Blk (bg.setCell ⟨d,0,none⟩ (.slice G.A G.n G.c)) d.heap.size 205 (CH G.A G.n G.c LA a lc):=f.set_ 0 _
     have T:G.row=(⟨TA,a,tc⟩:Hd).row∨ ∃g,G.row=some g∧w4.heap.size<=g:=by
      rcases af with h|⟨g,h,h'⟩
      ·exact .inl h
      ·exact .inr ⟨g,h,Ch q.size h'⟩
     have az:=((I.below q).grown R (λb e c=>E _ c e)).fars (p:=⟨d,0,none⟩) (λe=>by have:=(a2 _ e).1;simp only at this;omega) (.slice G.A G.n G.c)
     have ax:=oG.fars (p:=⟨d,0,none⟩) (λe=>by have:=(oG.rowlt _ e).1;simp only at this;omega) (.slice G.A G.n G.c)
     have bu:=((D.below q D.lt).grown R (λe=>by have:=(au _ e).2;omega)).far (p:=⟨d,0,none⟩) Aw (.slice G.A G.n G.c)
     have W: ∀b,G.row=some b->(⟨LA,a,lc⟩:Hd).row≠some b:=λb e e2=>by
      rcases T with h|⟨g,h,h'⟩
      ·exact E b (h▸e) e2
      ·rw[h] at e;injection e with e;have:=(I.rowlt _ e2).2;omega
     have a4:=((An y q).grown R (by have:=q.size;omega) (λb e=>by have:=(au b e).1;omega)).setCell (p:=⟨d,0,none⟩) Bk (.slice G.A G.n G.c)
     clear af T oG R f I J D y c8 f8 K E q bf aP ae ac;have f:=aM;clear aM;generalize bg.setCell ⟨d,0,none⟩ (.slice G.A G.n G.c)=w5 at*;have K:=f.lt;have c8:=f.cell;have cB:=bu.cell;have C:Below w5 w5 (w5.alloc (.cells #[ZI H] 2)):=BU;have bT:=az.below C;have bw:Rd (w5.alloc (.cells #[ZI H] 2)) (some ⟨w5,0,none⟩) (1*1) (ints [H]):=BD _ _ _;have a1:d+1<=(w5.alloc (.cells #[ZI H] 2)).heap.size:=Ch K C.size;have a0:a+1<=1099511627776:=Aa
     go_wp2_with (at_builtin;refine Aj rfl _ _ 28 rfl 2 1 8 underlying28 AJ Ah (d.heap.size+1) ⟨LA,a,lc⟩ _ rfl bT _ 1 1 (ints [H]) rfl bw (Ao _) a0 Ah a1 ?_;intro F bW ba oF ap a3;have f:=(f.below C K).grown ap (λe=>by have:=(az.rowlt _ e).1;omega);have K:=f.lt;have f8:=f.frozen;have c8:=f.cell;have bo:=Ai ba;clear ba)
     have K9:Blk (bW.setCell ⟨d,1,none⟩ (.slice F.A F.n F.c)) d.heap.size 205 (CH G.A G.n G.c F.A F.n F.c):=f.set_ 1 _
     have av:F.row=(⟨LA,a,lc⟩:Hd).row∨ ∃g,F.row=some g∧w5.heap.size<=g:=by
      rcases a3 with h|⟨g,h,h'⟩
      ·exact .inl h
      ·exact .inr ⟨g,h,Ch C.size h'⟩
     have bS:=((ax.below C).grown ap (λb e c=>W _ e c)).fars (p:=⟨d,1,none⟩) (λe=>by have:=(ax.rowlt _ e).1;simp only at this;omega) (.slice F.A F.n F.c)
     have bQ:=oF.fars (p:=⟨d,1,none⟩) (λe=>by have:=(oF.rowlt _ e).1;simp only at this;omega) (.slice F.A F.n F.c)
     have aw: ∀b,G.row=some b->F.row≠some b:=λb e e2=>by
      rcases av with h|⟨g,h,h'⟩
      ·exact W b e (h▸e2)
      ·rw[h] at e2;injection e2 with e2;have:=(ax.rowlt _ e).2;omega
     have a5:=((An a4 C).grown ap (by have:=C.size;omega) (λb e=>by have:=(az.rowlt b e).1;omega)).setCell (p:=⟨d,1,none⟩) Bk (.slice F.A F.n F.c)
     go_roundw
     case rel=>exact⟨a+1,G,F,by omega,by go_num,bq.out,bo.out,K9,by rw[bs.out,js];exact bS,by rw[bl.out,js];exact bQ,aw,a5⟩
     case measure=>simp[intOf];omega
    ·obtain rfl:a=m:=Aa;have e1:j.take a=j:=ED Aa;rw[e1] at J I;have e2:j.map (recT xs)=fstL (gTo xs n):=by rw[<-aJ.out];unfold fstL Sb;simp
     have e3:j.map (recL xs)=sndL (gTo xs n):=by rw[<-aJ.out];unfold sndL Sb;simp
     rw[e2] at J;rw[e3] at I;have K0:=l.below y ar;have bM:=An x y;have e0:=K0.cell;have f0:=K0.frozen;have Y: ∀(h:Hd) (us:List Value),AR wr (d.heap.size+1) 1 h us-> ∀(u v:Value),AR ((wr.setCell ⟨w,0,none⟩ u).setCell ⟨w,1,none⟩ v) (d.heap.size+1) 1 h us:=λh us o u v=>(o.fars (λe=>by have:=(o.rowlt _ e).1;simp only at this;omega) u).fars (λe=>by have:=(o.rowlt _ e).1;simp only at this;omega) v
     have aO:=λu v=>Y _ _ J u v;have aN:=λu v=>Y _ _ I u v;have bd:w<=d.heap.size+1:=Aa;have hc3:0<tc:=by have:=J.nc;simp only at this;omega
     have hc4:0<lc:=by have:=I.nc;simp only at this;omega
     clear RK e1 e2 e3 J I;go_wp2;refine AS (v:=.tuple (EK TA a tc LA a lc 0)) (by simp[results,results285,go_sem,e0]) rfl ?_
     rw[HP.out.1,HP.out.2];refine⟨⟨⟨TA,a,tc⟩,⟨LA,a,lc⟩⟩,rfl,⟨by simp only;omega,by simp only;omega⟩,Ag.cons (s:=⟨TA,a,ints (fstL (gTo xs n))⟩) ?_ (Ag.cons (s:=⟨LA,a,ints (sndL (gTo xs n))⟩) ?_ (Ag.nil _)),AB.cons (s:=⟨TA,a,ints (fstL (gTo xs n))⟩) ?_ (AB.cons (s:=⟨LA,a,ints (sndL (gTo xs n))⟩) ?_ (AB.nil _ _)),?_,?_⟩
     ·exact(aO _ _).rd1
     ·exact(aN _ _).rd1
     ·exact((aO _ _).mono bd).wr1
     ·exact((aN _ _).mono bd).wr1
     ·refine Dx.cons (λs hs t Z b e=> ?_) (Dx.one _);rw[DD.1 hs] at e;rw[DD.1 Z];intro e2;obtain⟨_,e3,h3,rfl⟩:=Df e;obtain⟨_,e4,h4,h5⟩:=Df e2;exact E _ (Hd.row_mk e3 hc3) (by rw[<-h5];exact Hd.row_mk e4 hc4)
     ·repeat(first|with_reducible exact bM|refine Below.setCell ?_ (by simp<;>omega) _)
theorem PK (A:Option Addr) (n c:Nat) (xs:List Int) (w:World) (H:n<=1048576) (p:n<=c) (q:Rd w A (n*7) (ints xs)):
  Calls prog 229 #[.slice A n c] w λe r=> ∃k:Js,e=.returned (.tuple #[Lv k (Dk xs n),ZI (gaugeC xs n)])∧QN k∧Ag r (Lu k (Dk xs n))∧AB r w.heap.size (Lu k (Dk xs n))∧Dx (UU k)∧Below w w r:=by
 go_enter func229,ntmps229
 go_upto_region 1 with fail
 generalize B:w.alloc _=J;obtain⟨a,d⟩:=EX B;clear B;have g:=a.lt
 go_wp2_with fail
 refine(XK A n c xs _ Aa (q.below d)).mono ?_;rintro e G ⟨rfl,j⟩;replace a:=a.below j g;replace d:=An d j;replace g:=a.lt;have i:=a.cell;have z:=a.frozen;clear j;rcases jt (FT xs n) with hlog|hlog
 rotate_left
 ·have u:Hid (DY xs n= []∧gaugeC xs n=1):=by unfold Hid DY gaugeC;rw[hlog];exact⟨rfl,rfl⟩
  go_wp2;refine AS (v:=.tuple (EK none 0 0 none 0 0 1)) (by simp[results,results229,go_sem,i]) rfl ⟨⟨⟨none,0,0⟩,⟨none,0,0⟩⟩,?_,⟨AZ _,AZ _⟩,?_,?_,?_,?_⟩
  ·rw[u.out.2];rfl
  ·unfold Dk;rw[u.out.1];exact Ag.cons (s:=⟨none,0,[]⟩) (Rd.nil _ _) (Ag.cons (s:=⟨none,0,[]⟩) (Rd.nil _ _) (Ag.nil _))
  ·exact AB.cons (s:=⟨none,0,_⟩) (λh=>absurd h (Nat.lt_irrefl 0)) (AB.cons (s:=⟨none,0,_⟩) (λh=>absurd h (Nat.lt_irrefl 0)) (AB.nil _ _))
  ·exact Dx.cons (λs F t I b e=>by rw[DD.1 F] at e;cases e) (Dx.one _)
  ·repeat(first|with_reducible exact d|refine Below.setCell ?_ (by simp<;>omega) _)
 have m:n<=200:=by
  have:FT xs n=(CP xs n && decide ((n:Int)<=200)):=rfl;rw[this,CD,BP] at hlog;omega
 have f:=Th A n c xs G m p (q.below d) hlog;clear i z
 go_wp2_with fail
 refine f.mono ?_;rintro e K ⟨⟨⟨y,D,tc⟩,⟨x,ln,C⟩⟩,rfl,ok,R,Y,E,l⟩;replace a:=a.below l g;replace d:=An d l;have i:=a.cell;have z:=a.frozen;clear f q l;unfold Lv;simp only;go_wp2;refine AS (v:=.tuple (EK y D tc x ln C (gaugeC xs n))) (by simp[results,results229,go_sem,i]) rfl ⟨⟨⟨y,D,tc⟩,⟨x,ln,C⟩⟩,rfl,ok,?_,?_,E,?_⟩
 ·exact(R.cell_ (Y.hi.ne g)).cell_ (Y.hi.ne g)
 ·exact(Y.lower (Nat.le_of_lt g)).cell_.cell_
 ·repeat(first|with_reducible exact d|refine Below.setCell ?_ (by simp<;>omega) _)
def Ro (xs:List Int):Int:=gaugeC xs (xs.length/7)
