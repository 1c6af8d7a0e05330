import Derived.Test.YtkndcebhjcfphaaGreatDoorZA
namespace Go.Proofs.YtkndcebhjcfphaaGreatDoor
open Go.RowKit Go.Proofs.Tryz
set_option maxRecDepth 100000
set_option maxHeartbeats 4000000
set_option linter.all false

theorem Bf (a:Addr) (j:Nat) (h:j≠0):a.add j=⟨a.block,a.off+j,none⟩:=by unfold Addr.add;rw[Ak h]
theorem Gc:(prog.info? 67).map (λi=>(i.zero.map (·.cells.size),i.size,i.bytes))=some (some 7,7,56):=We51ceQ
theorem Pr:(prog.info? 136).map (λi=>(i.zero.map (·.cells.size),i.size,i.bytes))=some (some 2,2,16):=We51ceQ
structure Bh where
 counts:Hd
 depths:Hd
structure Am where
 size:Int
 wide:Int
 high:Int
 counts:List Int
 depths:List Int
def Bd (h:Bh) (l:Am):Value:=.agg (AH l.size l.wide l.high h.counts.A h.counts.n h.counts.c h.depths.A h.depths.n h.depths.c)
def AO (h:Bh) (l:Am):List Sl:= [⟨h.counts.A,h.counts.n,ints l.counts⟩,⟨h.depths.A,(h.depths.n*2),ints l.depths⟩]
def Cf (h:Bh):List (Option Nat):= [blkp h.counts.A h.counts.n,blkp h.depths.A (h.depths.n*2)]
def Cl (h:Bh):Prop:=h.counts.n<=1048576∧h.depths.n<=1048576
def Nt (h:Bh):List (Option Nat):= [h.counts.row,h.depths.row]
def Nu (h:Bh) (l:Am):Array Value:= (AH l.size l.wide l.high h.counts.A h.counts.n h.counts.c h.depths.A h.depths.n h.depths.c)
structure Bu (w:World) (B:Nat) (h:Bh) (l:Am):Prop where
 counts:AR w B 1 h.counts (ints l.counts)
 depths:AR w B 2 h.depths (ints l.depths)
 sep:Dx (Nt h)
section
variable {w w' : World} {B C : Nat} {h : Bh} {l : Am}
theorem Bu.below (o:Bu w B h l) (b:Below w w w'):Bu w' B h l:=⟨o.counts.below b,o.depths.below b,o.sep⟩
theorem Bu.mono (o:Bu w B h l) (a:C<=B):Bu w C h l:=⟨o.counts.mono a,o.depths.mono a,o.sep⟩
theorem Bu.rd (o:Bu w B h l):Ag w (AO h l):=Ag.cons (s:=⟨h.counts.A,h.counts.n,ints l.counts⟩) o.counts.rd1 (Ag.cons (s:=⟨h.depths.A,h.depths.n*2,ints l.depths⟩) o.depths.rd (Ag.nil _))
theorem Bu.wr (o:Bu w B h l):AB w B (AO h l):=AB.cons (s:=⟨h.counts.A,h.counts.n,ints l.counts⟩) o.counts.wr1 (AB.cons (s:=⟨h.depths.A,h.depths.n*2,ints l.depths⟩) o.depths.wr (AB.nil _ _))
theorem Bu.sp (o:Bu w B h l):Dx (Cf h):=Dx.ofRow [(h.counts,h.counts.n),(h.depths,h.depths.n*2)] (λp a=>by
 simp only[CC,I5,or_false] at a;rcases a with rfl|rfl
 ·exact o.counts.npos Cr
 ·exact o.depths.npos Cr
 ) o.sep
structure Cd (w:World) (B g:Nat) (h:Bh) (l:Am):Prop where
 box:Blk w g 181 (Nu h l)
 own:Bu w B h l
 ge:B<=g
 ne: ∀s∈Nt h,s≠some g
theorem Cd.below {g:Nat} (o:Cd w B g h l) (b:Below w w w'):Cd w' B g h l:=⟨o.box.below b o.box.lt,o.own.below b,o.ge,o.ne⟩
theorem Cd.alloc {g:Nat} (X:Cd w B g h l) (a:Obj):Cd (w.alloc a) B g h l:=X.below ((AP _ _).alloc Bk a)
theorem Cd.drewN {g:Nat} (X:Cd w B g h l) (n:Nat):Cd (w.drewN n) B g h l:=X.below (BW w n)
theorem Cd.drew {g:Nat} (X:Cd w B g h l):Cd w.drew B g h l:=X.below ⟨rfl,rfl,rfl,Cp _,λ_ _=>rfl⟩
end
def XL (a b:Int):Bool:=inR a (-1000000000000) 1000000000000 && inR b (-1000000000000) 1000000000000 && decide (a<=b)
theorem ZE {a b:Int} (h:XL a b=true): -1000000000000<=a∧a<=b∧b<=1000000000000:=by
 unfold XL at h;simp only[CD,BP] at h;have c:=Ac h.1.1;have d:=Ac h.1.2;have f:=h.2;omega
theorem jj {a b:Int} (c: -1000000000000<=a) (d:a<=b) (f:b<=1000000000000):XL a b=true:=by
 unfold XL;rw[CN c Aa,CN Aa f,BC d];rfl
def CQ (c a b:Int):Bool:=inR c (-1) 1000000000000 && XL a b && !(decide (c=0) && !(decide (a=0) && decide (b=0)))
def Cz (cs ds:List Int) (k:Nat):Bool:=(List.range k).all λi=>CQ (cs.getD i 0) (ds.getD (i*2) 0) (ds.getD (i*2+1) 0)
theorem Ka (cs a:List Int) (n:Nat):Cz cs a (n+1)=(Cz cs a n && CQ (cs.getD n 0) (a.getD (n*2) 0) (a.getD (n*2+1) 0)):=by unfold Cz;rw[I6,List.all_append];simp
theorem NZ {cs a:List Int} {n k:Nat} (h:Cz cs a n=true) (b:k<n):CQ (cs.getD k 0) (a.getD (k*2) 0) (a.getD (k*2+1) 0)=true:=by
 unfold Cz at h;rw[List.all_eq_true] at h;exact h k (Eo.2 b)
theorem Jl {cs a:List Int} {k n:Nat} (h:CQ (cs.getD k 0) (a.getD (k*2) 0) (a.getD (k*2+1) 0)=false) (b:k<n):Cz cs a n=false:=by
 rw[JV];intro c;rw[NZ c b] at h;cases h
theorem Vl {cs a:List Int} {n:Nat} (h: ∀k,k<n->CQ (cs.getD k 0) (a.getD (k*2) 0) (a.getD (k*2+1) 0)=true):Cz cs a n=true:=by
 unfold Cz;rw[List.all_eq_true];intro k b;exact h k (Eo.1 b)
theorem LJ {c a b:Int} (h:CQ c a b=true): -1<=c∧c<=1000000000000∧ -1000000000000<=a∧a<=b∧b<=1000000000000∧(c=0->a=0∧b=0):=by
 unfold CQ at h;simp only[CD] at h;have f:=Ac h.1.1;have d:=ZE h.1.2;refine⟨f.1,f.2,d.1,d.2.1,d.2.2,λe=> ?_⟩;have j:=h.2;simp only[e,decide_true,Ha,Bool.not_not,CD,BP] at j;exact j
theorem XI {c a b:Int} (d: -1<=c) (f:c<=1000000000000) (j: -1000000000000<=a) (k:a<=b) (m:b<=1000000000000) (n:c=0->a=0∧b=0):CQ c a b=true:=by
 unfold CQ;rw[CN d f,jj j k m]
 by_cases e:c=0
 ·have:=n e;simp[e,this.1,this.2]
 ·simp[e]
def DK (s w h:Int):Bool:=inR s 1 10000 && inR w 1 30 && inR h 1 30
def Im (g:Am):Bool:=DK g.size g.wide g.high && decide ((g.counts.length:Int)=g.wide*g.high) && decide (g.depths.length=g.counts.length*2)
def Dl (g:Am):Bool:=Im g && Cz g.counts g.depths g.counts.length
structure Xo (g:Am):Prop where
 s0:1<=g.size
 s1:g.size<=10000
 w0:1<=g.wide
 w1:g.wide<=30
 h0:1<=g.high
 h1:g.high<=30
 len:(g.counts.length:Int)=g.wide*g.high
 eq:g.depths.length=g.counts.length*2
 cel:Cz g.counts g.depths g.counts.length=true
theorem Fh {s w h:Int} (k:DK s w h=true):(1<=s∧s<=10000)∧(1<=w∧w<=30)∧1<=h∧h<=30:=by
 unfold DK at k;simp only[CD] at k;exact⟨Ac k.1.1,Ac k.1.2,Ac k.2⟩
theorem Xo.of {g:Am} (h:Dl g=true):Xo g:=by
 unfold Dl Im at h;simp only[CD,BP] at h;obtain⟨⟨⟨a,b⟩,c⟩,d⟩:=h;have k:=Fh a;exact⟨k.1.1,k.1.2,k.2.1.1,k.2.1.2,k.2.2.1,k.2.2.2,b,c,d⟩
theorem Xo.to {g:Am} (k:Xo g):Dl g=true:=by
 unfold Dl Im DK;rw[CN k.s0 k.s1,CN k.w0 k.w1,CN k.h0 k.h1,BC k.len,BC k.eq,k.cel];rfl
theorem Nd {a b:Int} (h0:1<=a) (c:a<=30) (d:1<=b) (f:b<=30):1<=a*b∧a*b<=900:=by
 have j:1*1<=a*b:=CL h0 d Aa Aa;have k:a*b<=30*30:=CL c f Aa Aa;omega
theorem Xo.bd {g:Am} (h:Xo g):g.counts.length<=900∧1<=g.counts.length:=by
 have:=Nd h.w0 h.w1 h.h0 h.h1;have:=h.len;omega
theorem Xo.at_ {g:Am} (h:Xo g) {k:Nat} (a:k<g.counts.length):CQ (g.counts.getD k 0) (g.depths.getD (k*2) 0) (g.depths.getD (k*2+1) 0)=true:=NZ h.cel a
def GT:Am:=⟨0,0,0,[],[]⟩
def IB (ds:List Int) (i:Nat) (a b:Int):List Int:=(ds.set (i*2) a).set (i*2+1) b
theorem az (c:List Int) (i:Nat) (a b:Int):(IB c i a b).length=c.length:=by unfold IB;simp
def MF (cs ds:List Int) (i:Nat) (a b:Int):List Int:=if cs.getD i 0=0 then IB ds i a b else IB ds i (min (ds.getD (i*2) 0) a) (max (ds.getD (i*2+1) 0) b)
theorem YQ (cs c:List Int) (i:Nat) (a b:Int):(MF cs c i a b).length=c.length:=by unfold MF;split<;>exact az _ _ _ _
def Zw (g h:Am):Prop:=g.size=h.size∧g.wide=h.wide∧g.high=h.high
instance (g h : Am) : Decidable (Zw g h) := by unfold Zw; exact inferInstance
theorem Fi (x:Int) (w:World):
  (GK 329 #[ZI x] w (.bool (inR x (-1000000000000) 1000000000000)):Prop):=by
 go_enter func329,ntmps329
 go_wp2_with (go_at_call 73;refine(As _ _ _ _).mono ?_;rintro e w' ⟨rfl,rfl⟩)
 go_ret;exact⟨rfl,rfl⟩
theorem GQ (x:Int) (w:World):
  (GK 306 #[ZI x] w (.bool (inR x (-1000000000000) 1000000000000)):Prop):=by
 go_enter func306,ntmps306
 go_wp2_with (go_at_call 84;refine(Ay _ _ _ _).mono ?_;rintro e w' ⟨rfl,rfl⟩)
 go_ret;exact⟨rfl,rfl⟩
theorem JC (x y:Int) (w:World):
  (BT 293 #[Zii x y] w (.bool (XL x y)):Prop):=by
 have b:Hid (XL x y=(inR x (-1000000000000) 1000000000000 && inR y (-1000000000000) 1000000000000 && decide (x<=y))):=rfl;have a:Below w w (w.alloc (.cells (Zii x y) 136)):=BU;rcases jt (inR x (-1000000000000) 1000000000000) with h1|h1
 ·rcases jt (inR y (-1000000000000) 1000000000000) with h2|h2
  ·by_cases c:x<=y
   all_goals
    go_enter func293,ntmps293
    go_wp2_with (go_at_call 329;refine(Fi _ _).mono ?_;rintro e w' ⟨rfl,rfl⟩)
    go_ret;exact⟨Af (by rw[b.out,h1,h2];simp[c]),a⟩
  ·go_enter func293,ntmps293
   go_wp2_with (go_at_call 329;refine(Fi _ _).mono ?_;rintro e w' ⟨rfl,rfl⟩)
   go_ret;exact⟨Af (by rw[b.out,h1,h2];rfl),a⟩
 ·go_enter func293,ntmps293
  go_wp2_with (go_at_call 329;refine(Fi _ _).mono ?_;rintro e w' ⟨rfl,rfl⟩)
  go_ret;exact⟨Af (by rw[b.out,h1];rfl),a⟩
theorem JJ (x y:Int) (w:World):
  (BT 272 #[Zii x y] w (.bool (XL x y)):Prop):=by
 have b:Hid (XL x y=(inR x (-1000000000000) 1000000000000 && inR y (-1000000000000) 1000000000000 && decide (x<=y))):=rfl;have a:Below w w (w.alloc (.cells (Zii x y) 136)):=BU;rcases jt (inR x (-1000000000000) 1000000000000) with h1|h1
 ·rcases jt (inR y (-1000000000000) 1000000000000) with h2|h2
  ·by_cases c:x<=y
   all_goals
    go_enter func272,ntmps272
    go_wp2_with (go_at_call 306;refine(GQ _ _).mono ?_;rintro e w' ⟨rfl,rfl⟩)
    go_ret;exact⟨Af (by rw[b.out,h1,h2];simp[c]),a⟩
  ·go_enter func272,ntmps272
   go_wp2_with (go_at_call 306;refine(GQ _ _).mono ?_;rintro e w' ⟨rfl,rfl⟩)
   go_ret;exact⟨Af (by rw[b.out,h1,h2];rfl),a⟩
 ·go_enter func272,ntmps272
  go_wp2_with (go_at_call 306;refine(GQ _ _).mono ?_;rintro e w' ⟨rfl,rfl⟩)
  go_ret;exact⟨Af (by rw[b.out,h1];rfl),a⟩
theorem DF (x y z:Int) (w:World):
  (GK 236 (Ziii x y z) w (.bool (DK x y z)):Prop):=by
 have a:Hid (DK x y z=(inR x 1 10000 && inR y 1 30 && inR z 1 30)):=rfl;rcases jt (inR x 1 10000) with h1|h1
 all_goals rcases jt (inR y 1 30) with h2|h2
 all_goals
  go_enter func236,ntmps236
  go_wp2_with (go_at_call 73;refine(As _ _ _ _).mono ?_;rintro e w' ⟨rfl,rfl⟩)
  go_ret;exact⟨Af (by rw[a.out,h1,h2];rfl),rfl⟩
theorem Fj (x y z:Int) (w:World):
  (GK 218 (Ziii x y z) w (.bool (DK x y z)):Prop):=by
 have a:Hid (DK x y z=(inR x 1 10000 && inR y 1 30 && inR z 1 30)):=rfl;rcases jt (inR x 1 10000) with h1|h1
 all_goals rcases jt (inR y 1 30) with h2|h2
 all_goals
  go_enter func218,ntmps218
  go_wp2_with (go_at_call 84;refine(Ay _ _ _ _).mono ?_;rintro e w' ⟨rfl,rfl⟩)
  go_ret;exact⟨Af (by rw[a.out,h1,h2];rfl),rfl⟩
section
variable {g : Am} {W i : Nat} (hW : g.wide.toNat = W) (h0 : 0 < W)
include hW h0
end
theorem jA (a b:Int):a<b∨b<=a:=Aa
def knTo (g:Am):Nat->Int
 |0=>0
 |n+1=>if g.counts.getD n 0=0 then knTo g n else knTo g n+1
def loTo (g:Am):Nat->Int
 |0=>0
 |n+1=>if g.counts.getD n 0=0 then loTo g n else loTo g n+g.depths.getD (n*2) 0
def hiTo (g:Am):Nat->Int
 |0=>0
 |n+1=>if g.counts.getD n 0=0 then hiTo g n else hiTo g n+g.depths.getD (n*2+1) 0
theorem SB {g:Am} {n:Nat} (h:g.counts.getD n 0=0):knTo g (n+1)=knTo g n∧loTo g (n+1)=loTo g n∧hiTo g (n+1)=hiTo g n:=⟨AA h,AA h,AA h⟩
theorem Pc {g:Am} {n:Nat} (h:g.counts.getD n 0≠0):knTo g (n+1)=knTo g n+1∧loTo g (n+1)=loTo g n+g.depths.getD (n*2) 0∧hiTo g (n+1)=hiTo g n+g.depths.getD (n*2+1) 0:=⟨Ak h,Ak h,Ak h⟩
theorem Np {g:Am} (K:Xo g): ∀n,n<=g.counts.length->(0<=knTo g n∧knTo g n<=(n:Int))∧ -(1000000000000*(n:Int))<=loTo g n∧loTo g n<=hiTo g n∧hiTo g n<=1000000000000*(n:Int)
 |0,_=>by unfold knTo loTo hiTo;omega
 |n+1,hn=>by
  have a:=Np K n Aa;have b:=LJ (K.at_ (show n<g.counts.length by omega))
  by_cases h:g.counts.getD n 0=0
  ·have e:=SB h;rw[e.1,e.2.1,e.2.2];omega
  ·have e:=Pc h;rw[e.1,e.2.1,e.2.2];omega
def mdC (g:Am):Int:=if Dl g=true then(if knTo g g.counts.length=0 then 4 else 0) else 1
def mdL (g:Am):Int:=if mdC g=0 then loTo g g.counts.length/knTo g g.counts.length else 0
def mdH (g:Am):Int:=if mdC g=0 then-(-hiTo g g.counts.length/knTo g g.counts.length) else 0
theorem ZR {g:Am} (h:Dl g=false):mdC g=1∧mdL g=0∧mdH g=0:=by unfold mdL mdH mdC;simp[h]
theorem Nf {g:Am} (h:Dl g=true) (a:knTo g g.counts.length=0):mdC g=4∧mdL g=0∧mdH g=0:=by unfold mdL mdH mdC;simp[h,a]
theorem Ng {g:Am} (h:Dl g=true) (a:knTo g g.counts.length≠0):mdC g=0∧mdL g=loTo g g.counts.length/knTo g g.counts.length∧mdH g= -(-hiTo g g.counts.length/knTo g g.counts.length):=by unfold mdL mdH mdC;simp[h,a]
