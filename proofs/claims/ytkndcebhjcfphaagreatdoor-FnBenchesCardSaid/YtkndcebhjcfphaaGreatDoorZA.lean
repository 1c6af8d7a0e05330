import Derived.Test.YtkndcebhjcfphaaGreatDoorZ1
namespace Go.Proofs.YtkndcebhjcfphaaGreatDoor
open Go.RowKit Go.Proofs.Tryz
set_option maxRecDepth 100000
set_option maxHeartbeats 4000000
set_option linter.all false
theorem Bb {k:IntKind} {a b:Int} (h:a=b):Ending.returned (.int k a)=.returned (.int k b):=by rw[h]
theorem Af {a b:Bool} (h:a=b):Ending.returned (.bool a)=.returned (.bool b):=by rw[h]
theorem Aq (a:Addr) (n:Nat):(a.add n).block=a.block:=by unfold Addr.add;split<;>rfl
theorem Bv (a:Addr) (i j:Nat):(a.add i).add j=a.add (i+j):=by
 unfold Addr.add
 by_cases hi:i=0<;>by_cases b:j=0<;>simp[hi,b,Nat.add_assoc]
theorem CE (b i:Nat):(⟨b,0,none⟩:Addr).add i=⟨b,i,none⟩:=by unfold Addr.add;split<;>simp_all
def ints (xs:List Int):List Value:=xs.map (.int .i64)
theorem CF (xs:List Int) (i:Nat):(ints xs)[i]? =xs[i]?.map (.int .i64):=by unfold ints;simp
def Rd (w:World) (A:Option Addr) (n:Nat) (us:List Value):Prop:=
 us.length=n∧(0<n-> ∃ad,A=some ad∧ ∀i,i<n->w.cell? (ad.add i)=us[i]?)
def Wr (w:World) (base:Nat) (A:Option Addr) (n:Nat):Prop:=
 0<n-> ∃ad,A=some ad∧base<=ad.block∧ ∀i,i<n->w.frozen? (ad.add i)=false
def YD (A:Option Addr):Option Nat:=A.map (·.block)
def blkp (A:Option Addr) (n:Nat):Option Nat:=if n=0 then none else YD A
section
variable {w w' w1 : World} {A : Option Addr} {n B B' : Nat} {us : List Value}
theorem Rd.nil (w:World) (A:Option Addr):Rd w A 0 []:=⟨rfl,λh=>absurd h Aa⟩
theorem Rd.at_ {k:Nat} (h:Rd w A n us) (d:k<n): ∃ad u,A=some ad∧us[k]? =some u∧w.cell? (ad.add k)=some u:=by
 obtain⟨ad,e,c⟩:=h.2 Aa;have b:k<us.length:=by have:=h.1;omega
 exact⟨ad,us[k],e,Db b,(c k d).trans (Db b)⟩
theorem Rd.lt (h:Rd w A n us) {ad:Addr} (e:A=some ad) (i:0<n):ad.block<w.heap.size:=by
 obtain⟨c,u,b,_,d⟩:=h.at_ i;rw[e] at b
 cases b
 have:=Gr w _ d
 rwa [Aq] at this
theorem Rd.keep (h:Rd w A n us) (d: ∀ad,A=some ad->0<n->w'.heap[ad.block]? =w.heap[ad.block]?):Rd w' A n us:=
 ⟨h.1,λb=>by
  obtain⟨ad,e,c⟩:=h.2 b;exact⟨ad,e,λi hi=>(World.cell?_of_block (by rw[Aq];exact d ad e b)).trans (c i hi)⟩⟩
theorem Rd.below (h:Rd w A n us) (b:Below w.heap.size w w'):Rd w' A n us:=
 h.keep λ_ e c=>b.block _ (h.lt e c)
theorem Rd.grown {row:Option Nat} (h:Rd w A n us) (hg:w.grownBy w' row) (b: ∀ad,A=some ad->0<n->row≠some ad.block):Rd w' A n us:=
 h.keep λad e d=>hg.block _ (h.lt e d) (λc=>b ad e d c.symm)
theorem Rd.drewN (h:Rd w A n us) (m:Nat):Rd (w.drewN m) A n us:=h
theorem Wr.keep (h:Wr w B A n) (j: ∀ad,A=some ad->0<n->w'.heap[ad.block]? =w.heap[ad.block]?):Wr w' B A n:=λb=>by
  obtain⟨ad,e,c,d⟩:=h b;exact⟨ad,e,c,λi hi=>(World.frozen?_of_block (by rw[Aq];exact j ad e b)).trans (d i hi)⟩
theorem Wr.below (h:Wr w B A n) (d:Rd w A n us) (b:Below w.heap.size w w'):Wr w' B A n:=
 h.keep λ_ e c=>b.block _ (d.lt e c)
theorem Wr.grown {row:Option Nat} (h:Wr w B A n) (i:Rd w A n us) (hg:w.grownBy w' row) (b: ∀ad,A=some ad->0<n->row≠some ad.block):Wr w' B A n:=
 h.keep λad e d=>hg.block _ (i.lt e d) (λc=>b ad e d c.symm)
theorem Wr.mono (h:Wr w B A n) (b:B'<=B):Wr w B' A n:=λi=>by
  obtain⟨ad,e,c,d⟩:=h i;exact⟨ad,e,Ch b c,d⟩
theorem Wr.base (h:Wr w B A n) {ad:Addr} (e:A=some ad) (i:0<n):B<=ad.block:=by
  obtain⟨c,b,d,_⟩:=h i;rw[e] at b
  cases b
  exact d
end
theorem Below.drewN {B:Nat} {a w:World} (h:Below B a w) (m:Nat):Below B a (w.drewN m):=⟨h.os,h.tape,h.output,h.size,h.block⟩
theorem Below.left {B m:Nat} {a w:World} (h:Below B (a.drewN m) w):Below B a w:=⟨h.os,h.tape,h.output,h.size,h.block⟩
theorem BW (w:World) (m:Nat):Below w.heap.size w (w.drewN m):=⟨rfl,rfl,rfl,Cp _,λ_ _=>rfl⟩
theorem Bc {a w:World} {row:Option Nat} (h:a.grownBy w row) {p:Addr} (c:row=some p.block∨a.heap.size<=p.block) (u:Value):a.grownBy (w.setCell p u) row:=
 ⟨h.os,h.tape,h.output,by simpa [World.setCell] using h.size,λi hi b=>(Below.heap_setCell _ p u i (by
  rintro rfl;rcases c with c|c
  ·exact b c.symm
  ·omega)).trans (h.block i hi b)⟩
theorem Tq {a b c:World} {row:Option Nat} (h:a.grownBy b row) (k:b.grownBy c row):a.grownBy c row:=
 ⟨k.os.trans h.os,k.tape.trans h.tape,k.output.trans h.output,Ch h.size k.size,λi hi d=>(k.block i (CM hi h.size) d).trans (h.block i hi d)⟩
theorem il {a w:World} {row:Option Nat} (h:a.grownBy w row) (m:Nat):a.grownBy (w.drewN m) row:=⟨h.os,h.tape,h.output,h.size,h.block⟩
theorem Q1 {a:Addr} {i j:Nat} (h:a.add i=a.add j):i=j:=by
 obtain⟨b,o,s⟩:=a;unfold Addr.add at h
 split at h<;>split at h<;>simp_all
theorem Wr.blockp {w:World} {B:Nat} {A:Option Addr} {n k:Nat} (h:Wr w B A n) (b:blkp A n=some k):B<=k:=by
 unfold blkp at b
 split at b
 ·cases b
 ·obtain⟨ad,e,c,_⟩:=h Aa;subst e
  simp[YD] at b
  omega
theorem SM {W w1:World} (c:Below W.heap.size W w1):(∀b o,b<W.heap.size->w1.cell? ⟨b,o,none⟩=W.cell? ⟨b,o,none⟩)∧(∀b o,b<W.heap.size->w1.frozen? ⟨b,o,none⟩=W.frozen? ⟨b,o,none⟩):=
 ⟨λb o h=>c.cell (p:=⟨b,o,none⟩) h,λb o h=>c.frozen (p:=⟨b,o,none⟩) h⟩
def Blk (w:World) (g:Nat) (t:TypeId) (cs:Array Value):Prop:=w.heap[g]? =some (.cells cs t (0,0))
section
variable {w w' : World} {g : Nat} {t : TypeId} {cs : Array Value}
theorem Blk.lt (h:Blk w g t cs):g<w.heap.size:=by
 rcases Nat.lt_or_ge g w.heap.size with hlt|hge
 ·exact hlt
 ·unfold Blk at h;rw[Array.getElem?_eq_none hge] at h;cases h
theorem Blk.cell (h:Blk w g t cs) (i:Nat):w.cell? ⟨g,i,none⟩=cs[i]? :=cell_of_row w g i cs t (0,0) h
theorem Blk.frozen (h:Blk w g t cs) (i:Nat):w.frozen? ⟨g,i,none⟩=false:=by
 unfold Blk at h
 simp[World.frozen?,h]
theorem Blk.new (w:World) (t:TypeId) (cs:Array Value):Blk (w.alloc (.cells cs t)) w.heap.size t cs:=heap_alloc_new w _
theorem Blk.drewN (h:Blk w g t cs) (n:Nat):Blk (w.drewN n) g t cs:=h
theorem Blk.alloc (h:Blk w g t cs) (o:Obj):Blk (w.alloc o) g t cs:=(Below.heap_alloc w o g h.lt).trans h
theorem Blk.set_ (h:Blk w g t cs) (i:Nat) (u:Value):Blk (w.setCell ⟨g,i,none⟩ u) g t (cs.setIfInBounds i u):=by
 unfold Blk at h⊢
 simp[World.setCell,Array.getElem?_modify,h]
theorem Blk.far (h:Blk w g t cs) {p:Addr} (b:g≠p.block) (u:Value):Blk (w.setCell p u) g t cs:=(Below.heap_setCell w p u g b).trans h
theorem Blk.below {B:Nat} (h:Blk w g t cs) (b:Below B w w') (hg:g<B):Blk w' g t cs:=(b.block g hg).trans h
theorem Blk.rd {n:Nat} {us:List Value} (h:Blk w g t cs) (c:us.length=n) (b: ∀i,i<n->cs[i]? =us[i]?):Rd w (some ⟨g,0,none⟩) n us:=
 ⟨c,λ_=>⟨_,rfl,λi hi=>by rw[CE,h.cell,b i hi]⟩⟩
theorem Blk.wr (h:Blk w g t cs) {B:Nat} (b:B<=g) (n:Nat):Wr w B (some ⟨g,0,none⟩) n:=
 λ_=>⟨_,rfl,b,λi _=>by rw[CE];exact h.frozen i⟩
end
theorem FV (z:Array Value) (n:Nat):(madeCells z n).size=n:=by unfold madeCells;simp
theorem GE {P:Program} (t e:TypeId) (i:TypeInfo) (z:Value) (D:P.underlying t=some (.slice e)) (hi:P.info? e=some i) (E:i.zero=some z)
  (p j:IntKind) (n c:Nat) (y:n<=c) (b:i.bytes*c<=281474976710656) (s:c<=9223372036854775807) (w:World):
  (Instr.makeSlice t (.int p (n:Int)) (.int j (c:Int))).run P w=.ok (.slice (some ⟨w.heap.size,0,none⟩) n c) (w.alloc (.cells (madeCells z.cells (c*i.size)) e)):=by
 have x:(i.bytes:Int)*(c:Int)<=281474976710656:=by
  have h:((i.bytes*c:Nat):Int)<=281474976710656:=Aa
  rwa [Int.natCast_mul] at h
 have d:=run_make (P:=P) w t e i z D hi E p j n c Aa Aa x Aa;simp only[Int.toNat_natCast] at d;exact d
theorem N9:(prog.info? 2).map (λi=>(i.zero,i.size,i.bytes))=some (some (.int .i64 0),1,8):=We51ceQ
theorem ER (n:Nat) (p:n<=2097152) (w:World):
  (Instr.makeSlice 28 (ZI n) (ZI n)).run prog w=.ok (.slice (some ⟨w.heap.size,0,none⟩) n n) (w.alloc (.cells (madeCells #[ZI 0] n) 2)):=by
 obtain⟨j,b,c,d,i⟩:=info_parts N9;have h:=GE (P:=prog) 28 2 j _ underlying28 b c .i64 .i64 n n (Cp _) (by rw[i];omega) Aa w
 rw[d,Nat.mul_one] at h;exact h
theorem Rd.int {w:World} {A:Option Addr} {n k:Nat} {xs:List Int} (h:Rd w A n (ints xs)) (c:k<n): ∃ad,A=some ad∧w.cell? (ad.add k)=ZS (xs.getD k 0):=by
 obtain⟨ad,u,rfl,d,b⟩:=h.at_ c;have i:xs.length=n:=by have:=h.1;unfold ints at this;simpa using this
 refine⟨ad,rfl,?_⟩;rw[b,<-d,CF]
 simp[Db (show k<xs.length by omega)]
theorem CJ {xs:List Int} {k:Nat} (h:k<xs.length):xs.getD k 0=xs[k]:=by simp[h]
def inR (x lo hi:Int):Bool:=decide (lo<=x) && decide (x<=hi)
theorem Ac {x lo hi:Int} (h:inR x lo hi=true):lo<=x∧x<=hi:=by unfold inR at h;simpa using h
theorem CN {x lo hi:Int} (h:lo<=x) (b:x<=hi):inR x lo hi=true:=by unfold inR;simp[h,b]
theorem Qo {x lo hi:Int} (h:inR x lo hi=false):x<lo∨hi<x:=by unfold inR at h;simp at h;omega
def BV (xs:List Int) (lo hi:Int):Bool:=xs.all (λx=>inR x lo hi)
theorem Jw {xs:List Int} {lo hi:Int} (h:BV xs lo hi=true) {x:Int} (b:x∈xs):lo<=x∧x<=hi:=by
 unfold BV at h;rw[List.all_eq_true] at h;exact Ac (h x b)
theorem EZ {xs:List Int} {lo hi:Int} (h:BV xs lo hi=true) {k:Nat} (b:k<xs.length):lo<=xs.getD k 0∧xs.getD k 0<=hi:=
 Jw h (by rw[CJ b];exact EH b)
theorem Ji {xs:List Int} {lo hi:Int} {k:Nat} (h:BV (xs.take k) lo hi=true) (b:xs.length<=k):BV xs lo hi=true:=by rwa [ED b] at h
theorem Hu {xs:List Int} {lo hi:Int} {k:Nat} (b:k<xs.length):BV (xs.take (k+1)) lo hi=(BV (xs.take k) lo hi && inR (xs.getD k 0) lo hi):=by
 unfold BV;rw[List.take_succ_eq_append_getElem b,List.all_append,CJ b];simp
theorem If {xs:List Int} {lo hi:Int} {k:Nat} (b:k<xs.length) (h:inR (xs.getD k 0) lo hi=false):BV xs lo hi=false:=by
 rw[JV];intro c;have:=EZ c b;rw[CN this.1 this.2] at h;cases h
def Hn (xs:List Int) (most:Int) (lo hi:Int):Bool:=decide ((xs.length:Int)<=most) && BV xs lo hi
theorem Rd.len {w:World} {A:Option Addr} {n:Nat} {xs:List Int} (h:Rd w A n (ints xs)):xs.length=n:=by have:=h.1;unfold ints at this;simpa using this
theorem As (x lo hi:Int) (w:World):
  Calls prog 73 (Ziii x lo hi) w λe w'=>e=.returned (.bool (inR x lo hi))∧w=w':=by
 by_cases b:lo<=x
 ·by_cases c:x<=hi
  ·have e:inR x lo hi=true:=CN b c
   go_enter func73,ntmps73
   go_wp2;go_ret;exact⟨Af (by first|rfl|rw[e]),rfl⟩
  ·have e:inR x lo hi=false:=by unfold inR;simp[c]
   go_enter func73,ntmps73
   go_wp2;go_ret;exact⟨Af (by first|rfl|rw[e]),rfl⟩
 ·have e:inR x lo hi=false:=by unfold inR;simp[b]
  go_enter func73,ntmps73
  go_wp2;go_ret;exact⟨Af (by first|rfl|rw[e]),rfl⟩
theorem Ay (x lo hi:Int) (w:World):
  Calls prog 84 (Ziii x lo hi) w λe w'=>e=.returned (.bool (inR x lo hi))∧w=w':=by
 by_cases b:lo<=x
 ·by_cases c:x<=hi
  ·have e:inR x lo hi=true:=CN b c
   go_enter func84,ntmps84
   go_wp2;go_ret;exact⟨Af (by first|rfl|rw[e]),rfl⟩
  ·have e:inR x lo hi=false:=by unfold inR;simp[c]
   go_enter func84,ntmps84
   go_wp2;go_ret;exact⟨Af (by first|rfl|rw[e]),rfl⟩
 ·have e:inR x lo hi=false:=by unfold inR;simp[b]
  go_enter func84,ntmps84
  go_wp2;go_ret;exact⟨Af (by first|rfl|rw[e]),rfl⟩
theorem Fb (A:Option Addr) (n c:Nat) (xs:List Int) (lo hi:Int) (w:World) (F:n<=9223372036854775807) (s:Rd w A n (ints xs)):
  Calls prog 76 (FK A n c lo hi) w λe w'=>e=.returned (.bool (BV xs lo hi))∧w=w':=by
 have j:=Ai s.len
 go_enter func76,ntmps76
 go_wp2
 go_loop [11] (λi=> ∃k:Nat,k<=n∧i=.int .i64 k∧BV (xs.take k) lo hi=true) (λi=>n-(intOf i).toNat)
 case atStart=>exact⟨0,AZ _,rfl,rfl⟩
 case round=>
  obtain⟨k,E,rfl,b⟩:=hrel;have p:=Ai b;clear b
  by_cases d:k<n
  ·obtain⟨ad,rfl,G⟩:=s.int d;have y:=Hu (xs:=xs) (lo:=lo) (hi:=hi) (k:=k) (by rw[j.out];exact d)
   have D:=Ai y;clear y;have z:Hid (inR (xs.getD k 0) lo hi=false->BV xs lo hi=false):=λh=>If (k:=k) (by rw[j.out];exact d) h
   generalize xs.getD k 0=x at*;rcases jt (inR x lo hi) with h|h
   ·go_wp2_with (go_at_call 73;refine(As _ _ _ _).mono ?_;rintro e w' ⟨rfl,rfl⟩)
    go_round
    case rel=>exact⟨k+1,by omega,by go_num,by rw[D.out,p.out,h];rfl⟩
    case measure=>simp[intOf];omega
   ·go_wp2_with (go_at_call 73;refine(As _ _ _ _).mono ?_;rintro e w' ⟨rfl,rfl⟩)
    go_ret;exact⟨Af (by rw[z.out h]),rfl⟩
  ·go_wp2;go_ret;exact⟨Af (by rw[Ji p.out (by rw[j.out];omega)]),rfl⟩
theorem Gw (A:Option Addr) (n c:Nat) (xs:List Int) (d lo hi:Int) (w:World) (G:n<=9223372036854775807) (y:Rd w A n (ints xs)):
  Calls prog 115 #[.slice A n c,ZI d,ZI lo,ZI hi] w λe w'=>e=.returned (.bool (Hn xs d lo hi))∧w=w':=by
 have p:=Ai y.len
 go_enter func115,ntmps115
 go_wp2
 go_loop [9] (λi=> ∃k:Nat,k<=n∧i=.int .i64 k∧BV (xs.take k) lo hi=true) (λi=>n-(intOf i).toNat)
 case atStart=>exact⟨0,AZ _,rfl,rfl⟩
 case round=>
  obtain⟨k,F,rfl,b⟩:=hrel;have s:=Ai b;clear b
  by_cases j:k<n
  ·obtain⟨ad,rfl,H⟩:=y.int j;have z:=Hu (xs:=xs) (lo:=lo) (hi:=hi) (k:=k) (by rw[p.out];exact j)
   have E:=Ai z;clear z;have D:Hid (inR (xs.getD k 0) lo hi=false->BV xs lo hi=false):=λh=>If (k:=k) (by rw[p.out];exact j) h
   generalize xs.getD k 0=x at*;rcases jt (inR x lo hi) with h|h
   ·go_wp2_with (go_at_call 84;refine(Ay _ _ _ _).mono ?_;rintro e w' ⟨rfl,rfl⟩)
    go_round
    case rel=>exact⟨k+1,by omega,by go_num,by rw[E.out,s.out,h];rfl⟩
    case measure=>simp[intOf];omega
   ·go_wp2_with (go_at_call 84;refine(Ay _ _ _ _).mono ?_;rintro e w' ⟨rfl,rfl⟩)
    go_ret;exact⟨Af (by unfold Hn;rw[D.out h,Bool.and_false]),rfl⟩
  ·go_wp2;go_ret;exact⟨Af (by unfold Hn;rw[Ji s.out (by rw[p.out];omega),p.out,Bool.and_true]),rfl⟩
theorem Lb {P:Program} (w:World) (base:Nat) (t x e:TypeId) (i:TypeInfo) (size:Nat) (j:P.underlying t=some (.slice e)) (hi:P.info? e=some i)
  (v:Value) (n:Nat) (xs:List Value) (b:w.ownsRow base e size v n xs) (c:Nat):(Builtin.append_ #[t,t] x #[v,.slice none 0 c]).run P w=.ok v w:=by
 rcases b.2 with⟨rfl,rfl⟩|⟨g,p,s,rfl,_,_,d,_⟩
 ·simp[Builtin.append_,run_underlying j,sizeOf,typeInfo,hi,Builtin.lenOf,Builtin.firstCells]
 ·simp[Builtin.append_,run_underlying j,sizeOf,typeInfo,hi,Builtin.lenOf,Builtin.firstCells,d,storeCells]
theorem Ao (xs:List Int): ∀u∈ints xs,u.oneCell'=true:=by
 intro u b;unfold ints at b;rw[List.mem_map] at b;obtain⟨x,_,rfl⟩:=b;rfl
theorem IA {P:Program} (w:World) (base:Nat) (t N e:TypeId) (i:TypeInfo) (z:Value) (size d:Nat) (Q:P.underlying t=some (.slice e)) (hi:P.info? e=some i) (Z:i.zero=some z)
  (D:i.size=size) (H:i.bytes=d) (M:z.cells.size=size) (L:0<size)
  (v:Value) (n:Nat) (xs:List Value) (p:w.ownsRow base e size v n xs)
  (A:Option Addr) (m c:Nat) (b:List Value) (I:b.length=m*size) (O:0<m-> ∃ad,A=some ad∧ ∀j u,b[j]? =some u->w.cell? (ad.add j)=some u) (T: ∀u∈b,u.oneCell'=true)
  (G:n+m<=maxLen) (s:(n+m)*d<=140737488355328) (y:base<=w.heap.size):
  ∃E w',(Builtin.append_ #[t,t] N #[v,.slice A m c]).run P w=.ok E w'∧w'.ownsRow base e size E (n+m) (xs++b)∧w.grownBy w' v.ownBlock∧
   (E.ownBlock=v.ownBlock∨E.ownBlock=some w.heap.size):=by
 rcases A with _|ad
 ·have Y:m=0:=by
   rcases Nat.eq_zero_or_pos m with h0|h0
   ·exact h0
   ·obtain⟨ad,h,_⟩:=O h0
    cases h
  subst Y;have J:b= []:=Pt (by simpa using I)
  subst J;exact⟨v,w,Lb w base t N e i size Q hi v n xs p c,by simpa using p,JU w _,.inl rfl⟩
 ·have x: ∀j u,b[j]? =some u->w.cell? (ad.add j)=some u:=by
   intro j u R;rcases Nat.eq_zero_or_pos m with h0|h0
   ·subst h0;have J:b= []:=Pt (by simpa using I)
    subst J;simp at R
   ·obtain⟨S,h,X⟩:=O h0;injection h with h;subst h;exact X j u R
  obtain⟨E,w',F,U,V,_,W⟩:=run_append_own_at (P:=P) w base t N e i z size d Q hi Z D H M L v n xs p ad m c b I x T G s y;exact⟨E,w',F,U,V,W⟩
theorem Gy {w:World} {base n:Nat} {e:TypeId} {v:Value} {us:List Value} (h:w.ownsRow base e 1 v n us):
  ∃B c,v=.slice B n c∧Rd w B n us∧Wr w base B n∧n<=c∧(B=none->n=0):=by
 obtain⟨p,s⟩:=h;rcases s with⟨rfl,rfl⟩|⟨g,d,b,rfl,x,j,y,_,D,z⟩
 ·obtain rfl:us= []:=Pt (by simpa using p)
  exact⟨none,0,rfl,Rd.nil _ _,λh=>absurd h Aa,Cp _,λ_=>rfl⟩
 ·refine⟨some ⟨g,0,none⟩,d,rfl,Blk.rd (cs:=b) j (by simpa using p) (λi hi=> ?_),Blk.wr (cs:=b) j x n,y,λh=>by cases h⟩
  rw[<-z,List.getElem?_take,AA (by simpa using hi)]
  simp
theorem Ef {w w':World} {base n:Nat} {e:TypeId} {v:Value} {us:List Value} (h:w.ownsRow base e 1 v n us) (b:Below w.heap.size w w'):w'.ownsRow base e 1 v n us:=
 h.kept (row:=none) ⟨b.os,b.tape,b.output,b.size,λk c _=>b.block k c⟩ (by cases v.ownBlock<;>simp)
theorem FI (w:World) (e:TypeId):(w.alloc (.cells #[] e)).ownsRow w.heap.size e 1 (.slice (some ⟨w.heap.size,0,none⟩) 0 0) 0 []:=
 World.ownsRow_made w #[] 0 (Cp _) (AZ _) rfl
theorem Pk {o:Oper} {a:Act} {K:Act->World->Prop} {Q:Exit->Act->World->Prop} {w:World} (s x:Operand)
  (ho:o.op=.call {callee:=.builtin .append,args:= #[s,x],argTypes:= #[28,28]})
  (base:Nat) (v:Value) (n:Nat) (xs ys:List Int) (A:Option Addr) (m c:Nat) (hs:a.eval s=v) (O:a.eval x=.slice A m c)
  (d:w.ownsRow base 2 1 v n (ints xs)) (z:Rd w A m (ints ys)) (S:n+m<=1099511627776) (b:base<=w.heap.size)
  (h: ∀i w',w'.ownsRow base 2 1 i (n+m) (ints (xs++ys))->Below base w w'->w.grownBy w' v.ownBlock->(i.ownBlock=v.ownBlock∨i.ownBlock=some w.heap.size)->K (a.put o.dst i) w'):o.wp prog a w K Q:=by
 obtain⟨R,y,D,E,F⟩:=info_parts N9
 obtain⟨i,w',p,G,H,J⟩:=IA (P:=prog) w base 28 o.type 2 R _ 1 8 underlying28 y D E F rfl Aa v n (ints xs) d A m c (ints ys)
  (by rw[z.1,Nat.mul_one]) (λN=>by
   obtain⟨ad,e,L⟩:=z.2 N;exact⟨ad,e,λj u I=>by rw[L j (by have:=(List.getElem?_eq_some_iff.1 I).1;rwa [z.1] at this)];exact I⟩) (Ao ys) G9 Aa b
 unfold Oper.wp execOp;simp only[ho,resolve,invoke,builtin,Sem.run_bind,Sem.run_pure,Result.andThen_ok,List.map_toArray,List.map_cons,List.map_nil,hs,O,p];refine h i w' (by unfold ints at G⊢;simpa using G) ((AP _ _).grown H b (λk M=>(d.lt k M).1)) H J
theorem DC {p:Array Oper} {b:List Oper} {o:Oper} {a:Act} {Q:Exit->Act->World->Prop} {w:World} (y:o.guard=none) (s x:Operand)
  (ho:o.op=.call {callee:=.builtin .append,args:= #[s,x],argTypes:= #[28,28]})
  (base:Nat) (v:Value) (n:Nat) (xs ys:List Int) (A:Option Addr) (m c:Nat) (hs:a.eval s=v) (J:a.eval x=.slice A m c)
  (j:w.ownsRow base 2 1 v n (ints xs)) (I:Rd w A m (ints ys)) (H:n+m<=1099511627776) (d:base<=w.heap.size)
  (h: ∀i w',w'.ownsRow base 2 1 i (n+m) (ints (xs++ys))->Below base w w'->w.grownBy w' v.ownBlock->(i.ownBlock=v.ownBlock∨i.ownBlock=some w.heap.size)->wpList prog p Q b (a.put o.dst i) w'):wpList prog p Q (o::b) a w:=
 wpList_plain y λ_ G=>Pk s x ho base v n xs ys A m c hs J j I H d λi w' z D E F=>G _ _ (h i w' z D E F)
theorem BD (w : World) (x : Int) (e : TypeId) : Rd (w.alloc (.cells #[.int .i64 x] e)) (some ⟨w.heap.size, 0, none⟩) 1 (ints [x]) :=
  (Blk.new w e #[.int .i64 x]).rd rfl (fun i hi => by obtain rfl : i = 0 := by omega
                                                      rfl)
theorem Et {j:Array Oper} {b:List Oper} {o:Oper} {a:Act} {Q:Exit->Act->World->Prop} {w:World} {u:Int} {e:TypeId} (y:o.guard=none) (s x:Operand)
  (ho:o.op=.call {callee:=.builtin .append,args:= #[s,x],argTypes:= #[28,28]})
  (base:Nat) (v:Value) (n:Nat) (xs:List Int) (hs:a.eval s=v) (G:a.eval x=.slice (some ⟨w.heap.size,0,none⟩) 1 1)
  (i:w.ownsRow base 2 1 v n (ints xs)) (F:n+1<=1099511627776) (c:base<=w.heap.size)
  (h: ∀d w',w'.ownsRow base 2 1 d (n+1) (ints (xs++ [u]))->Below base w w'->w.grownBy w' v.ownBlock->(d.ownBlock=v.ownBlock∨w.heap.size<=d.ownBlock.getD 0)->wpList prog j Q b (a.put o.dst d) w'):
  wpList prog j Q (o::b) a (w.alloc (.cells #[ZI u] e)):=
 DC y s x ho base v n xs [u] _ 1 1 hs G (i.alloc _) (BD w u e) F Bq λd w' z D E p=>
  h d w' z (((AP _ _).alloc c _).trans D) (Tq (World.grownBy_alloc w _ _) E) (p.imp id λp=>by rw[p];simp)
theorem Vt (A:Option Addr) (n c:Nat) (xs:List Int) (w:World) (j:n<=2097152) (i:Rd w A n (ints xs)):
  Calls prog 266 #[.slice A n c] w λe w'=> ∃v,e=.returned v∧w'.ownsRow w.heap.size 2 1 v n (ints xs)∧Below w.heap.size w w':=by
 go_enter func266,ntmps266
 go_wp2_with (at_builtin;refine DC rfl _ _ rfl w.heap.size (.slice (some ⟨w.heap.size,0,none⟩) 0 0) 0 [] xs A n c rfl rfl (FI w _) ?_ Aa Cr ?_;exact i.below ((AP _ _).alloc (Cp _) _);intro p w' d b _ _)
 go_ret;exact⟨_,rfl,by simpa using d,((AP _ _).alloc (Cp _) _).trans b⟩
theorem Y2 {B:Nat} {a b c:World} (h:Below B a b) (k:Below b.heap.size b c) (d:B<=a.heap.size):Below B a c:=h.trans (k.mono (Ch d h.size))
theorem Jk {a b c:World} (h:Below a.heap.size a b) (k:Below b.heap.size b c):Below a.heap.size a c:=Y2 h k (Cp _)
theorem jh {B:Nat} {a b c:World} {row:Option Nat} (h:Below B a b) (g:b.grownBy c row) (d:B<=a.heap.size) (i: ∀k,row=some k->B<=k):Below B a c:=
 h.grown g (Ch d h.size) i
theorem Kh (xs:List Int) (k:Nat) (x:Int):ints (xs.set k x)=(ints xs).set k (ZI x):=by unfold ints;rw[List.map_set]
theorem js (xs ys:List Int):ints (xs++ys)=ints xs++ints ys:=by unfold ints;simp
section
variable {w : World} {A : Option Addr} {n k B : Nat} {us : List Value} {u : Value} {ad : Addr}
theorem Rd.set_ (h:Rd w A n us) (D:k<n) (e:A=some ad):Rd (w.setCell (ad.add k) u) A n (us.set k u):=by
 refine⟨by rw[List.length_set];exact h.1,λz=>⟨ad,e,λi hi=> ?_⟩⟩
 obtain⟨x,s,y⟩:=h.2 z;rw[e] at s
 cases s
 by_cases d:i=k
 ·subst d;obtain⟨p,v,j,hv,b⟩:=h.at_ hi;rw[e] at j
  cases j
  rw[World.cell?_setCell_same _ _ _ b,List.getElem?_set_self (by rw[h.1];exact hi)]
 ·rw[World.cell?_setCell_other _ _ _ _ (λc=>d (Q1 c).symm),y i hi,List.getElem?_set_ne (λc=>d c.symm)]
theorem Wr.set_ (h:Wr w B A n) (p:Addr):Wr (w.setCell p u) B A n:=λd=>by
 obtain⟨ad,e,b,c⟩:=h d;exact⟨ad,e,b,λi hi=>by rw[World.frozen?_setCell];exact c i hi⟩
theorem Rd.seti {xs:List Int} {x:Int} (h:Rd w A n (ints xs)) (b:k<n) (e:A=some ad):Rd (w.setCell (ad.add k) (ZI x)) A n (ints (xs.set k x)):=by
 rw[Kh];exact h.set_ b e
end
def mix (L xs:List Int) (k:Nat):List Int:=L.take k++xs.drop k
theorem cH (L xs:List Int) (h:L.length=xs.length):mix L xs xs.length=L:=by unfold mix;rw[<-h,List.take_length,h,List.drop_length,List.append_nil]
theorem cI (L xs:List Int) (h:L.length=xs.length) {k:Nat} (c:k<xs.length):(mix L xs k).set k (L.getD k 0)=mix L xs (k+1):=by
 unfold mix;have b:(L.take k).length=k:=Bq;rw[List.set_append_right _ _ Aa,b,Nat.sub_self,List.drop_eq_getElem_cons c,List.set_cons_zero,List.take_succ_eq_append_getElem Aa,CJ Aa,List.append_assoc]
 rfl
theorem Ox {α:Type} (f:Nat->α) (k:Nat):(List.range (k+1)).map f=(List.range k).map f++ [f k]:=by rw[I6,List.map_append];rfl
theorem Ow (f:Nat->Int) {n k:Nat} (h:k<n):((List.range n).map f).getD k 0=f k:=by simp[h]
structure Sl where
 A:Option Addr
 n:Nat
 us:List Value
def Sl.row (s:Sl):Option Nat:=blkp s.A s.n
def Ag (w:World) (l:List Sl):Prop:= ∀s∈l,Rd w s.A s.n s.us
def AB (w:World) (B:Nat) (l:List Sl):Prop:= ∀s∈l,Wr w B s.A s.n
def Lo (r:List (Option Nat)) (B:Nat):Prop:= ∀s∈r,∀b,s=some b->b<B
def Hi (r:List (Option Nat)) (B:Nat):Prop:= ∀s∈r,∀b,s=some b->B<=b
def H7 (r q:List (Option Nat)):Prop:= ∀s∈r,∀t∈q,∀b,s=some b->t≠some b
def Dx (r:List (Option Nat)):Prop:=r.Pairwise λs t=> ∀b,s=some b->t≠some b
structure A9 (w w':World) (r:List (Option Nat)):Prop where
 os:w'.os=w.os
 tape:w'.tape=w.tape
 output:w'.output=w.output
 size:w.heap.size<=w'.heap.size
 block: ∀k,k<w.heap.size->(∀s∈r,s≠some k)->w'.heap[k]? =w.heap[k]?
section
variable {w w' : World} {l m : List Sl} {r q : List (Option Nat)} {B C : Nat}
theorem Ag.nil (w:World):Ag w []:=λ_ h=>by cases h
theorem Ag.cons {s:Sl} (h:Rd w s.A s.n s.us) (k:Ag w l):Ag w (s::l):=λt b=>by
 rcases CC.1 b with rfl|b
 ·exact h
 ·exact k t b
theorem Ag.head {s:Sl} (h:Ag w (s::l)):Rd w s.A s.n s.us:=h s (C5 ..)
theorem Ag.tail {s:Sl} (h:Ag w (s::l)):Ag w l:=λt b=>h t (Hz _ b)
theorem AB.nil (w:World) (B:Nat):AB w B []:=λ_ h=>by cases h
theorem AB.cons {s:Sl} (h:Wr w B s.A s.n) (k:AB w B l):AB w B (s::l):=λt b=>by
 rcases CC.1 b with rfl|b
 ·exact h
 ·exact k t b
theorem AB.head {s:Sl} (h:AB w B (s::l)):Wr w B s.A s.n:=h s (C5 ..)
theorem AB.tail {s:Sl} (h:AB w B (s::l)):AB w B l:=λt b=>h t (Hz _ b)
theorem AB.lower (h:AB w B l) (b:C<=B):AB w C l:=λs j i=>by
 obtain⟨ad,e,c,d⟩:=h s j i;exact⟨ad,e,Ch b c,d⟩
theorem Wr.lower {A:Option Addr} {n:Nat} (h:Wr w B A n) (b:C<=B):Wr w C A n:=λi=>by
 obtain⟨ad,e,c,d⟩:=h i;exact⟨ad,e,Ch b c,d⟩
theorem Ag.below (h:Ag w l) (b:Below w.heap.size w w'):Ag w' l:=λs c=>(h s c).below b
theorem AB.below (h:AB w B l) (d:Ag w l) (c:Below w.heap.size w w'):AB w' B l:=λs b=>(h s b).below (d s b) c
theorem Df {A:Option Addr} {n b:Nat} (h:blkp A n=some b): ∃ad,A=some ad∧0<n∧ad.block=b:=by
 unfold blkp at h
 split at h
 ·cases h
 ·rcases A with _|ad
  ·simp[YD] at h
  ·exact⟨ad,rfl,by omega,by simpa [YD] using h⟩
theorem Ag.lo (h:Ag w l):Lo (l.map Sl.row) w.heap.size:=λs d b e=>by
 obtain⟨t,i,rfl⟩:=List.mem_map.1 d;obtain⟨ad,e1,c,rfl⟩:=Df e;exact(h t i).lt e1 c
theorem AB.hi (h:AB w B l):Hi (l.map Sl.row) B:=λs d b e=>by
 obtain⟨t,i,rfl⟩:=List.mem_map.1 d;obtain⟨ad,e1,c,rfl⟩:=Df e;exact(h t i).base e1 c
theorem Lo.mono (h:Lo r B) (c:B<=C):Lo r C:=λs d b e=>CM (h s d b e) c
theorem Hi.mono (h:Hi r B) (c:C<=B):Hi r C:=λs d b e=>Ch c (h s d b e)
theorem H7.up (h:Lo q B) (k:Hi r B):H7 r q:=λs d t i b e c=>by have:=h t i b c;have:=k s d b e;omega
theorem H7.dn (h:Hi q B) (k:Lo r B):H7 r q:=λs d t i b e c=>by have:=h t i b c;have:=k s d b e;omega
theorem A9.refl (w:World) (r:List (Option Nat)):A9 w w r:=⟨rfl,rfl,rfl,Cp _,λ_ _ _=>rfl⟩
theorem A9.of_grown {row:Option Nat} (g:w.grownBy w' row):A9 w w' [row]:=
 ⟨g.os,g.tape,g.output,g.size,λk d b=>g.block k d (λc=>b row (C5 ..) c.symm)⟩
theorem A9.trans {w1:World} (h:A9 w w1 r) (k:A9 w1 w' q):A9 w w' (r++q):=
 ⟨k.os.trans h.os,k.tape.trans h.tape,k.output.trans h.output,Ch h.size k.size,λi hi b=>
  (k.block i (CM hi h.size) λs c=>b s (List.mem_append_right _ c)).trans (h.block i hi λs c=>b s (List.mem_append_left _ c))⟩
theorem Rd.touch {A:Option Addr} {n:Nat} {us:List Value} (h:Rd w A n us) (t:A9 w w' r) (o:H7 r [blkp A n]):Rd w' A n us:=
 h.keep λad e b=>t.block _ (h.lt e b) λs d c=>o s d _ (C5 ..) _ c (by unfold blkp;rw[Ak Aa,e];rfl)
theorem Wr.touch {A:Option Addr} {n:Nat} {us:List Value} (hw:Wr w B A n) (h:Rd w A n us) (t:A9 w w' r) (o:H7 r [blkp A n]):Wr w' B A n:=
 hw.keep λad e b=>t.block _ (h.lt e b) λs d c=>o s d _ (C5 ..) _ c (by unfold blkp;rw[Ak Aa,e];rfl)
theorem Ag.touch (h:Ag w l) (t:A9 w w' r) (o:H7 r (l.map Sl.row)):Ag w' l:=λs d=>
 (h s d).touch t λx i y c b e=>by
  rcases CC.1 c with rfl|c
  ·exact o x i _ (List.mem_map_of_mem d) b e
  ·cases c
theorem AB.touch (hw:AB w B l) (h:Ag w l) (t:A9 w w' r) (o:H7 r (l.map Sl.row)):AB w' B l:=λs c=>
 (hw s c).touch (h s c) t λx i y d b e=>by
  rcases CC.1 d with rfl|d
  ·exact o x i _ (List.mem_map_of_mem c) b e
  ·cases d
theorem U2 {a b c:World} (h:Below B a b) (t:A9 b c r) (i:B<=a.heap.size) (hi:Hi r B):Below B a c:=
 ⟨t.os.trans h.os,t.tape.trans h.tape,t.output.trans h.output,Ch h.size t.size,λk d=>
  (t.block k (CM d (Ch i h.size)) λs j c=>by have:=hi s j k c;omega).trans (h.block k d)⟩
theorem H7.cons {s:Option Nat} (h: ∀t∈q,∀b,s=some b->t≠some b) (k:H7 r q):H7 (s::r) q:=λx c=>by
 rcases CC.1 c with rfl|c
 ·exact h
 ·exact k x c
theorem Dx.tail {s:Option Nat} (h:Dx (s::r)):Dx r:=(List.pairwise_cons.1 h).2
theorem Dx.off {s:Option Nat} (h:Dx (s::r)):H7 [s] r:=λx c t d b e=>by
 rcases CC.1 c with rfl|c
 ·exact(List.pairwise_cons.1 h).1 t d b e
 ·cases c
theorem Dx.nil:Dx []:=List.Pairwise.nil
theorem Dx.cons {s:Option Nat} (o:H7 [s] r) (h:Dx r):Dx (s::r):=List.pairwise_cons.2 ⟨λt c b e=>o s (C5 ..) t c b e,h⟩
theorem Dx.one (s:Option Nat):Dx [s]:=Dx.cons (λ_ _ _ h=>by cases h) Dx.nil
theorem Hi.cons {s:Option Nat} (h: ∀b,s=some b->B<=b) (k:Hi r B):Hi (s::r) B:=λx c=>by
 rcases CC.1 c with rfl|c
 ·exact h
 ·exact k x c
theorem Lo.cons {s:Option Nat} (h: ∀b,s=some b->b<B) (k:Lo r B):Lo (s::r) B:=λx c=>by
 rcases CC.1 c with rfl|c
 ·exact h
 ·exact k x c
theorem Lo.nil (B:Nat):Lo [] B:=λ_ h=>by cases h
theorem Hi.nil (B:Nat):Hi [] B:=λ_ h=>by cases h
theorem H7.nil (r:List (Option Nat)):H7 r []:=λ_ _ _ h=>by cases h
theorem H7.head {s:Option Nat} (h:H7 r (s::q)):H7 r [s]:=λx c t b=>by
 rcases CC.1 b with rfl|b
 ·exact h x c _ (C5 ..)
 ·cases b
theorem H7.tail {s:Option Nat} (h:H7 r (s::q)):H7 r q:=λx c t b=>h x c t (Hz _ b)
theorem H7.append {p:List (Option Nat)} (h:H7 r q) (k:H7 p q):H7 (r++p) q:=λx b=>by
 rcases List.mem_append.1 b with b|b
 ·exact h x b
 ·exact k x b
end
theorem Ab (w:World) (a:Obj):(w.alloc a).heap.size=w.heap.size+1:=Cr
theorem Blk.new2 (w:World) (a b:Obj) (t:TypeId) (cs:Array Value):Blk (((w.alloc a).alloc b).alloc (.cells cs t)) (w.heap.size+1+1) t cs:=by
 have:=Blk.new ((w.alloc a).alloc b) t cs
 rwa [Ab,Ab] at this
structure Fe (B:Nat) (a w:World):Prop where
 size:a.heap.size<=w.heap.size
 block: ∀k,B<=k->k<a.heap.size->w.heap[k]? =a.heap[k]?
section
variable {a w w' : World} {B C n : Nat} {A : Option Addr} {us : List Value}
theorem Fe.refl (B:Nat) (w:World):Fe B w w:=⟨Cp _,λ_ _ _=>rfl⟩
theorem Fe.setCell (h:Fe B a w) {p:Addr} (d:p.block<B) (u:Value):Fe B a (w.setCell p u):=
 ⟨by simpa [World.setCell] using h.size,λk b c=>(Below.heap_setCell w p u k Aa).trans (h.block k b c)⟩
theorem Fe.alloc (h:Fe B a w) (o:Obj):Fe B a (w.alloc o):=
 ⟨by have:=h.size;simp;omega,λk c b=>(Below.heap_alloc w o k (CM b h.size)).trans (h.block k c b)⟩
theorem Fe.below (h:Fe B a w) (b:Below w.heap.size w w'):Fe B a w':=
 ⟨Ch h.size b.size,λk d c=>(b.block k (CM c h.size)).trans (h.block k d c)⟩
theorem Rd.rowlt (h:Rd a A n us): ∀b,blkp A n=some b->b<a.heap.size:=λb e=>by
 obtain⟨ad,e1,c,rfl⟩:=Df e;exact h.lt e1 c
end
theorem Dx.step {s:Option Nat} {r:List (Option Nat)} {B:Nat} (h: ∀b,s=some b->b<B) (k:Hi r B) (p:Dx r):Dx (s::r):=
 Dx.cons (λx d t i b e c=>by
  rcases CC.1 d with rfl|d
  ·have:=h b e;have:=k t i b c;omega
  ·cases d) p
theorem Blk.grown {w w':World} {g:Nat} {t:TypeId} {cs:Array Value} {row:Option Nat} (h:Blk w g t cs) (k:w.grownBy w' row) (b:row≠some g):Blk w' g t cs:=
 (k.block g h.lt (λc=>b c.symm)).trans h
theorem A9.alloc (w:World) (o:Obj):A9 w (w.alloc o) []:=⟨rfl,rfl,rfl,by simp,λk b _=>Below.heap_alloc w o k b⟩
structure Hd where
 A:Option Addr
 n:Nat
 c:Nat
def Hd.row (h:Hd):Option Nat:=if h.c=0 then none else YD h.A
theorem Hd.row_some {h:Hd} {b:Nat} (e:h.row=some b):0<h.c∧ ∃ad,h.A=some ad∧ad.block=b:=by
 unfold Hd.row at e
 split at e
 ·cases e
 ·cases hA:h.A with
  |none=>rw[hA] at e;cases e
  |some ad=>rw[hA] at e;exact⟨by omega,ad,rfl,by simpa [YD] using e⟩
theorem Hd.row_mk {h:Hd} {ad:Addr} (e:h.A=some ad) (b:0<h.c):h.row=some ad.block:=by
 unfold Hd.row;rw[Ak Aa,e];rfl
structure AR (w:World) (B K:Nat) (h:Hd) (us:List Value):Prop where
 len:us.length=h.n*K
 nc:h.n<=h.c
 max:h.c<=maxLen
 nil_:h.A=none->h.c=0
 at_: ∀ad,h.A=some ad->0<h.c->B<=ad.block∧ad.block<w.heap.size∧ad.spot=none∧ ∀i,i<h.c*K->(∃v,w.cell? (ad.add i)=some v∧ ∀u,us[i]? =some u->v=u)∧w.frozen? (ad.add i)=false
section
variable {w w' : World} {B C K : Nat} {h : Hd} {us : List Value}
theorem AR.keep (o:AR w B K h us) (z:w.heap.size<=w'.heap.size) (x: ∀b,h.row=some b->w'.heap[b]? =w.heap[b]?):AR w' B K h us:=
 ⟨o.len,o.nc,o.max,o.nil_,λad e c=>by
  obtain⟨j,y,p,s⟩:=o.at_ ad e c;have d:=x _ (Hd.row_mk e c);refine⟨j,by omega,p,λi hi=> ?_⟩
  rw[World.cell?_of_block (w:=w) (w':=w') (by rw[Aq];exact d),World.frozen?_of_block (w:=w) (w':=w') (by rw[Aq];exact d)]
  exact s i hi⟩
theorem AR.rowlt (o:AR w B K h us): ∀b,h.row=some b->B<=b∧b<w.heap.size:=λb e=>by
 obtain⟨j,ad,i,rfl⟩:=Hd.row_some e;obtain⟨c,d,_⟩:=o.at_ ad i j;exact⟨c,d⟩
theorem AR.below (o:AR w B K h us) (b:Below w.heap.size w w'):AR w' B K h us:=
 o.keep b.size λc e=>b.block _ (o.rowlt c e).2
theorem AR.grown {row:Option Nat} (o:AR w B K h us) (g:w.grownBy w' row) (d: ∀b,h.row=some b->row≠some b):AR w' B K h us:=
 o.keep g.size λc e=>g.block _ (o.rowlt c e).2 (λx=>d c e x.symm)
theorem AR.touch {r:List (Option Nat)} (o:AR w B K h us) (t:A9 w w' r) (d: ∀s∈r,∀b,s=some b->h.row≠some b):AR w' B K h us:=
 o.keep t.size λc e=>t.block _ (o.rowlt c e).2 (λs i x=>d s i _ x e)
theorem AR.mono (o:AR w B K h us) (d:C<=B):AR w C K h us:=⟨o.len,o.nc,o.max,o.nil_,λad e i=>by
 obtain⟨b,c⟩:=o.at_ ad e i;exact⟨Ch d b,c⟩⟩
theorem AR.rd (o:AR w B K h us):Rd w h.A (h.n*K) us:=by
 refine⟨o.len,λd=> ?_⟩;have j:0<h.n:=Nat.pos_of_mul_pos_right d;have p:=o.nc
 cases hA:h.A with
 |none=>have x:=o.nil_ hA;omega
 |some ad=>
  obtain⟨_,_,_,c⟩:=o.at_ ad hA Aa;refine⟨ad,rfl,λi hi=> ?_⟩;obtain⟨⟨v,hv,s⟩,_⟩:=c i (CM hi (Nat.mul_le_mul_right K o.nc));have b:i<us.length:=by rw[o.len];exact hi
  rw[hv,Db b,s _ (Db b)]
theorem AR.wr (o:AR w B K h us):Wr w B h.A (h.n*K):=λd=>by
 have j:0<h.n:=Nat.pos_of_mul_pos_right d;have p:=o.nc
 cases hA:h.A with
 |none=>have b:=o.nil_ hA;omega
 |some ad=>
  obtain⟨b,_,_,c⟩:=o.at_ ad hA Aa;exact⟨ad,rfl,b,λi hi=>(c i (CM hi (Nat.mul_le_mul_right K o.nc))).2⟩
theorem AR.nil (w:World) (B K:Nat):AR w B K ⟨none,0,0⟩ []:=⟨by simp,Cp _,AZ _,λ_=>rfl,λ_ e=>by cases e⟩
theorem AR.empty (w:World) (B K:Nat) (A:Option Addr):AR w B K ⟨A,0,0⟩ []:=⟨by simp,Cp _,AZ _,λ_=>rfl,λ_ _ h=>absurd h (Nat.lt_irrefl 0)⟩
theorem AR.of_row {e:TypeId} {v:Value} {n:Nat} (_:0<K) (o:w.ownsRow B e K v n us): ∃h:Hd,v=.slice h.A h.n h.c∧h.n=n∧AR w B K h us∧(∀b,h.row=some b->v.ownBlock=some b):=by
 obtain⟨y,z⟩:=o;rcases z with⟨rfl,rfl⟩|⟨g,p,j,rfl,D,F,E,G,x,H⟩
 ·obtain rfl:us= []:=Pt (by simpa using y)
  exact⟨⟨none,0,0⟩,rfl,rfl,AR.nil _ _ _,λb e=>by cases e⟩
 ·refine⟨⟨some ⟨g,0,none⟩,n,p⟩,rfl,rfl,⟨y,E,G,(λh=>by cases h),λad e _=> ?_⟩,λb e=>by obtain⟨_,ad,e1,rfl⟩:=Hd.row_some e;injection e1 with e1;subst e1;rfl⟩
  injection e with e;subst e;have s:Blk w g _ j:=F;refine⟨D,s.lt,rfl,λi hi=>⟨⟨j[i]'(by rw[x];exact hi),?_,λu d=> ?_⟩,?_⟩⟩
  ·rw[CE,s.cell];exact Array.getElem?_eq_getElem (by rw[x];exact hi)
  ·rw[<-H,List.getElem?_take] at d
   split at d
   ·rw[Array.getElem?_toList] at d;rw[Array.getElem?_eq_getElem (by rw[x];exact hi)] at d
    exact Option.some.inj d
   ·cases d
  ·rw[CE];exact s.frozen i
end
theorem Vn {w w':World} {row:Option Nat} (g:w.grownBy w' none):w.grownBy w' row:=
 ⟨g.os,g.tape,g.output,g.size,λk b _=>g.block k b Cr⟩
theorem Jo (b:Nat): ∀(c:List Value) (o:Nat) (w:World),(w.setCells b o c).heap.size=w.heap.size
 | [],_,_=>rfl
 |_::r,o,_=>(Jo b r (o+1) _).trans (by simp[World.setCell])
theorem In {a:World} {b:Nat}: ∀(c:List Value) (o:Nat) (w:World),a.grownBy w (some b)->a.grownBy (w.setCells b o c) (some b)
 | [],_,_,h=>h
 |_::r,o,_,h=>In r (o+1) _ (Bc h (.inl rfl) _)
theorem MV {P:Program} (w:World) (t x e:TypeId) (i:TypeInfo) (j:P.underlying t=some (.slice e)) (hi:P.info? e=some i) (h:Hd) (b:h.n<=h.c) (A:Option Addr) (c:Nat):
  (Builtin.append_ #[t,t] x (CH h.A h.n h.c A 0 c)).run P w=.ok (.slice h.A h.n h.c) w:=by
 obtain⟨d,n,p⟩:=h;simp only at b
 cases A with
 |none=>cases d<;>simp[Builtin.append_,run_underlying j,sizeOf,typeInfo,hi,Builtin.lenOf,Builtin.firstCells,b,storeCells]
 |some ad=>
  have s:=run_firstCells_some (P:=P) w i.size 0 ad 0 c [] Cr Cr
  cases d<;>simp[Builtin.append_,run_underlying j,sizeOf,typeInfo,hi,Builtin.lenOf,s,b,storeCells]
theorem F7 {P:Program} (w:World) (t V e:TypeId) (i:TypeInfo) (z:Value) (size x:Nat) (ht:P.underlying t=some (.slice e)) (hi:P.info? e=some i) (hz:i.zero=some z)
  (p:i.size=size) (R:i.bytes=x) (U:z.cells.size=size) (J:0<size) (B:Nat) (h:Hd) (us:List Value) (o:AR w B size h us)
  (A:Option Addr) (m c:Nat) (d:List Value) (hr:Rd w A (m*size) d) (h1: ∀u∈d,u.oneCell'=true)
  (Q:h.n+m<=maxLen) (s:(h.n+m)*x<=140737488355328) (hB:B<=w.heap.size):
  ∃k w',(Builtin.append_ #[t,t] V #[.slice h.A h.n h.c,.slice A m c]).run P w=.ok (.slice k.A k.n k.c) w'∧k.n=h.n+m∧AR w' B size k (us++d)∧w.grownBy w' h.row∧
   (k.row=h.row∨ ∃g,k.row=some g∧w.heap.size<=g):=by
 rcases Nat.eq_zero_or_pos m with rfl|hm
 ·obtain rfl:d= []:=Pt (by have:=hr.1;simpa using this)
  exact⟨h,w,MV w t V e i ht hi h o.nc A c,rfl,by simpa using o,JU _ _,.inl rfl⟩
 obtain⟨ad,rfl,L⟩:=hr.2 (Nat.mul_pos hm J);have hl:=hr.1
 have G: ∀j u,d[j]? =some u->w.cell? (ad.add j)=some u:=λj u N=>by
  rw[L j (by have:=(List.getElem?_eq_some_iff.1 N).1;omega)];exact N
 clear L hr;obtain⟨hA,n,E⟩:=h
 have O: ∀ {w':World} {k:Hd},w'.heap.size=w'.heap.size->k.n=n+m->AR w' w.heap.size size k (us++d)-> ∃g,k.row=some g∧w.heap.size<=g:=λ{w' k} _ F ok=>by
  have h3:=ok.nc
  cases hkA:k.A with
  |none=>have:=ok.nil_ hkA;omega
  |some a=>exact⟨a.block,Hd.row_mk hkA Aa,(ok.rowlt _ (Hd.row_mk hkA Aa)).1⟩
 rcases Nat.eq_zero_or_pos E with hc0|hcpos
 ·have ao:n=0:=by have:=o.nc;simp only at this;omega
  subst hc0 ao;obtain rfl:us= []:=Pt (by simpa using o.len)
  cases hA with
  |none=>
   obtain⟨v',w',D,r1,r2,_⟩:=run_append_own (P:=P) w w.heap.size t V e i z size x ht hi hz p R U J (.slice none 0 0) 0 [] (World.ownsRow_nil w _ e size) ad m c d hl G h1 Q s (Cp _);obtain⟨k,rfl,F,ok,Z⟩:=AR.of_row J r1;exact⟨k,w',D,F,ok.mono hB,r2,.inr (O rfl F ok)⟩
  |some a0=>
   obtain⟨v',w',D,r1,r2⟩:=run_append_arg_grows (P:=P) w t V e i z size x ht hi hz p R U J a0 0 0 [] Cr (λj u N=>by simp at N) ad m c d hl G Aa Q s
   obtain⟨k,rfl,F,ok,Z⟩:=AR.of_row J r1;exact⟨k,w',D,F,ok.mono hB,r2,.inr (O rfl F ok)⟩
 rcases hA with _|⟨b,off,sp⟩
 ·have:=o.nil_ rfl;simp only at this;omega
 ·have ac:Hd.row ⟨some ⟨b,off,sp⟩,n,E⟩=some b:=Hd.row_mk (h:=⟨some ⟨b,off,sp⟩,n,E⟩) rfl hcpos;rw[ac];obtain⟨W,X,ae,y⟩:=o.at_ _ rfl hcpos;simp only at ae W X;subst ae;have M:=o.len;have ab:=o.nc;simp only at y M ab Q s
  by_cases I:n+m<=E
  ·have Y: ∀j,j<m*size->n*size+j<E*size:=λj N=>by
    have:(n+m)*size<=E*size:=Nat.mul_le_mul_right _ I;rw[Nat.add_mul] at this;omega
   have S: ∀j,j<d.length->(w.cell? ⟨b,off+n*i.size+j,none⟩).isSome=true:=λj N=>by
    obtain⟨⟨v,hv,_⟩,_⟩:=y (n*size+j) (Y j Aa);rw[Addr.add_lit] at hv;rw[p,Nat.add_assoc,hv];rfl
   have al: ∀j,j<d.length->w.frozen? ⟨b,off+n*i.size+j,none⟩=false:=λj N=>by
    obtain⟨_,hv⟩:=y (n*size+j) (Y j Aa);rw[Addr.add_lit] at hv;rw[p,Nat.add_assoc,hv]
   have D:=run_append_room_cells (P:=P) w t V e i ht hi b off n E ad m c d (by rw[hl,p]) G h1 I S al
   refine⟨⟨some ⟨b,off,none⟩,n+m,E⟩,_,D,rfl,⟨by simp only[Dy,M,hl,Nat.add_mul],I,o.max,(λh=>by cases h),λax e' _=> ?_⟩,In _ _ _ (JU _ _),.inl (Hd.row_mk (h:=⟨some ⟨b,off,none⟩,n+m,E⟩) rfl hcpos)⟩
   injection e' with e';subst e';refine⟨W,by rw[Jo];exact X,rfl,λj N=> ?_⟩
   obtain⟨⟨v,hv,hu⟩,am⟩:=y j N;refine⟨?_,by rw[World.frozen?_setCells];exact am⟩
   rw[Addr.add_lit] at hv⊢;rw[p] at S⊢
   by_cases ay:n*size<=j∧j<n*size+d.length
   ·obtain⟨q,rfl⟩: ∃q,j=n*size+q:=⟨j-n*size,by omega⟩
    have hq:q<d.length:=Aa;refine⟨d[q],?_,λu H=> ?_⟩
    ·have:=World.cell?_setCells_in b d (off+n*size) w S q hq;rw[Nat.add_assoc] at this;exact this
    ·rw[List.getElem?_append_right Aa,M,Nat.add_sub_cancel_left,Db hq] at H;exact Option.some.inj H
   ·refine⟨v,by rw[World.cell?_setCells_out b d _ w _ (λ_ _=>by simp only;omega)];exact hv,λu H=> ?_⟩
    by_cases an:j<us.length
    ·rw[List.getElem?_append_left an] at H;exact hu u H
    ·rw[List.getElem?_append_right Aa] at H;rw[List.getElem?_eq_none Aa] at H
     cases H
  ·have T: ∀j u,us[j]? =some u->w.cell? ((⟨b,off,none⟩:Addr).add j)=some u:=λj u N=>by
    have az:j<us.length:=(List.getElem?_eq_some_iff.1 N).1;obtain⟨⟨v,hv,hu⟩,_⟩:=y j (CM Aa (Nat.mul_le_mul_right size ab));rw[hv,hu u N]
   obtain⟨v',w',D,r1,r2⟩:=run_append_arg_grows (P:=P) w t V e i z size x ht hi hz p R U J ⟨b,off,none⟩ n E us M T ad m c d hl G Aa Q s;obtain⟨k,rfl,F,ok,Z⟩:=AR.of_row J r1;exact⟨k,w',D,F,ok.mono hB,Vn r2,.inr (O rfl F ok)⟩
theorem Jq {P:Program} {w:World} {F:Oper} {a:Act} {L:Act->World->Prop} {Q:Exit->Act->World->Prop} (s x:Operand) (t:TypeId)
  (hop:F.op=.call {callee:=.builtin .append,args:= #[s,x],argTypes:= #[t,t]})
  (e:TypeId) (size b:Nat) (S:P.underlying t=some (.slice e)) (d:(P.info? e).map (λi=>(i.zero.map (·.cells.size),i.size,i.bytes))=some (some size,size,b)) (J:0<size)
  (B:Nat) (h:Hd) (us:List Value) (hs:a.eval s=.slice h.A h.n h.c) (o:AR w B size h us) (A:Option Addr) (m c:Nat) (j:List Value) (T:a.eval x=.slice A m c)
  (R:Rd w A (m*size) j) (M: ∀u∈j,u.oneCell'=true) (G:h.n+m<=1099511627776) (p:b<=64) (N:B<=w.heap.size)
  (O: ∀k w',k.n=h.n+m->AR w' B size k (us++j)->w.grownBy w' h.row->(k.row=h.row∨ ∃g,k.row=some g∧w.heap.size<=g)->L (a.put F.dst (.slice k.A k.n k.c)) w'):F.wp P a w L Q:=by
 cases hi:P.info? e with
 |none=>rw[hi] at d;simp at d
 |some i=>
  rw[hi] at d;simp only[Option.map_some,Gs,Prod.mk.injEq] at d;obtain⟨E,y,I⟩:=d
  cases hz0:i.zero with
  |none=>rw[hz0] at E;simp at E
  |some z=>
   rw[hz0] at E;have H:(h.n+m)*b<=140737488355328:=Ch (Nat.mul_le_mul G p) Ah;obtain⟨k,w',D,U,V,W,X⟩:=F7 (P:=P) w t F.type e i z size b S hi hz0 y I (by simpa using E) J B h us o A m c j R M G9 H N
   unfold Oper.wp execOp;simp only[hop,resolve,invoke,builtin,Sem.run_bind,Sem.run_pure,Result.andThen_ok,List.map_toArray,List.map_cons,List.map_nil,hs,T,D];exact O k w' U V W X
theorem Aj {P:Program} {w:World} {z:Array Oper} {p:List Oper} {D:Oper} {a:Act} {Q:Exit->Act->World->Prop} (G:D.guard=none) (s x:Operand) (t:TypeId)
  (hop:D.op=.call {callee:=.builtin .append,args:= #[s,x],argTypes:= #[t,t]})
  (e:TypeId) (size b:Nat) (N:P.underlying t=some (.slice e)) (y:(P.info? e).map (λi=>(i.zero.map (·.cells.size),i.size,i.bytes))=some (some size,size,b)) (H:0<size)
  (B:Nat) (h:Hd) (us:List Value) (hs:a.eval s=.slice h.A h.n h.c) (o:AR w B size h us) (A:Option Addr) (m c:Nat) (d:List Value) (O:a.eval x=.slice A m c)
  (M:Rd w A (m*size) d) (I: ∀u∈d,u.oneCell'=true) (E:h.n+m<=1099511627776) (j:b<=64) (J:B<=w.heap.size)
  (L: ∀k w',k.n=h.n+m->AR w' B size k (us++d)->w.grownBy w' h.row->(k.row=h.row∨ ∃g,k.row=some g∧w.heap.size<=g)->wpList P z Q p (a.put D.dst (.slice k.A k.n k.c)) w'):wpList P z Q (D::p) a w:=
 wpList_plain G λ_ F=>Jq s x t hop e size b N y H B h us hs o A m c d O M I E j J λk w' R S T U=>F _ _ (L k w' R S T U)
theorem AJ:(prog.info? 2).map (λi=>(i.zero.map (·.cells.size),i.size,i.bytes))=some (some 1,1,8):=We51ceQ
def Hd.tl (h:Hd) (K:Nat):Hd:=⟨if h.c=1 then h.A else h.A.map (·.add K),h.n-1,h.c-1⟩
theorem AR.tl {w:World} {B K:Nat} {h:Hd} {us:List Value} (o:AR w B K h us) (G:0<h.n):AR w B K (h.tl K) (us.drop K):=by
 have D:=o.nc;have b:=o.len;refine⟨by simp only[Hd.tl,JW,b,Nat.sub_mul,Nat.one_mul],by simp only[Hd.tl];omega,by have:=o.max;simp only[Hd.tl];omega,λe=> ?_,λad e y=> ?_⟩
 ·cases hA:h.A with
  |none=>have:=o.nil_ hA;simp only[Hd.tl];omega
  |some ad=>rw[Hd.tl,hA] at e;simp only at e;split at e<;>cases e
 ·simp only[Hd.tl] at y
  cases hA:h.A with
  |none=>rw[Hd.tl,hA] at e;simp only at e;split at e<;>cases e
  |some a0=>
   obtain⟨j,p,s,x⟩:=o.at_ a0 hA Aa;rw[Hd.tl,hA] at e;simp only at e;rw[Ak Aa] at e;simp only[Option.map_some] at e;injection e with e;subst e;refine⟨by rw[Aq];exact j,by rw[Aq];exact p,by unfold Addr.add;split<;>simp[s],λi hi=> ?_⟩
   simp only[Hd.tl] at hi;rw[Bv]
   have d:K+i<h.c*K:=by
    have:h.c*K=(h.c-1)*K+K:=by
     obtain⟨q,E⟩: ∃q,h.c=q+1:=⟨h.c-1,by omega⟩
     rw[E,Nat.add_sub_cancel,Nat.add_mul,Nat.one_mul]
    omega
   obtain⟨⟨v,hv,F⟩,z⟩:=x (K+i) d;exact⟨⟨v,hv,λu e=>F u (by rw[<-e,List.getElem?_drop])⟩,z⟩
section
variable {P : Program} {w : World}
theorem Pl {J:Oper} {a:Act} {R:Act->World->Prop} {Q:Exit->Act->World->Prop} (s x:Operand) (t:TypeId)
  (hop:J.op=.call {callee:=.builtin .append,args:= #[s,x],argTypes:= #[t,t]})
  (e:TypeId) (size b:Nat) (ht:P.underlying t=some (.slice e)) (d:(P.info? e).map (λi=>(i.zero.map (·.cells.size),i.size,i.bytes))=some (some size,size,b)) (H:0<size)
  (base:Nat) (v:Value) (n:Nat) (xs:List Value) (hs:a.eval s=v) (F:w.ownsRow base e size v n xs) (A:Option Addr) (m c:Nat) (p:List Value) (hx:a.eval x=.slice A m c)
  (O:Rd w A (m*size) p) (T: ∀u∈p,u.oneCell'=true) (L:n+m<=1099511627776) (y:b<=64) (X:base<=w.heap.size)
  (Y: ∀E w',w'.ownsRow base e size E (n+m) (xs++p)->w.grownBy w' v.ownBlock->(E.ownBlock=v.ownBlock∨E.ownBlock=some w.heap.size)->R (a.put J.dst E) w'):J.wp P a w R Q:=by
 cases hi:P.info? e with
 |none=>rw[hi] at d;simp at d
 |some i=>
  rw[hi] at d;simp only[Option.map_some,Gs,Prod.mk.injEq] at d;obtain⟨I,D,N⟩:=d
  cases hz0:i.zero with
  |none=>rw[hz0] at I;simp at I
  |some z=>
   rw[hz0] at I;have M:(n+m)*b<=140737488355328:=Ch (Nat.mul_le_mul L y) Ah
   obtain⟨E,w',G,U,V,W⟩:=IA (P:=P) w base t J.type e i z size b ht hi hz0 D N (by simpa using I) H v n xs F A m c p O.1
    (λhm=>by
     obtain⟨ad,e,Z⟩:=O.2 (Nat.mul_pos hm H);exact⟨ad,e,λj u S=>by rw[Z j (by have:=(List.getElem?_eq_some_iff.1 S).1;rwa [O.1] at this)];exact S⟩) T G9 M X
   unfold Oper.wp execOp;simp only[hop,resolve,invoke,builtin,Sem.run_bind,Sem.run_pure,Result.andThen_ok,List.map_toArray,List.map_cons,List.map_nil,hs,hx,G];exact Y E w' U V W
theorem JR {E:Array Oper} {p:List Oper} {F:Oper} {a:Act} {Q:Exit->Act->World->Prop} (I:F.guard=none) (s x:Operand) (t:TypeId)
  (hop:F.op=.call {callee:=.builtin .append,args:= #[s,x],argTypes:= #[t,t]})
  (e:TypeId) (size b:Nat) (R:P.underlying t=some (.slice e)) (z:(P.info? e).map (λi=>(i.zero.map (·.cells.size),i.size,i.bytes))=some (some size,size,b)) (J:0<size)
  (base:Nat) (v:Value) (n:Nat) (xs:List Value) (hs:a.eval s=v) (D:w.ownsRow base e size v n xs) (A:Option Addr) (m c:Nat) (d:List Value) (S:a.eval x=.slice A m c)
  (O:Rd w A (m*size) d) (L: ∀u∈d,u.oneCell'=true) (G:n+m<=1099511627776) (j:b<=64) (M:base<=w.heap.size)
  (N: ∀y w',w'.ownsRow base e size y (n+m) (xs++d)->w.grownBy w' v.ownBlock->(y.ownBlock=v.ownBlock∨y.ownBlock=some w.heap.size)->wpList P E Q p (a.put F.dst y) w'):wpList P E Q (F::p) a w:=
 wpList_plain I λ_ H=>Pl s x t hop e size b R z J base v n xs hs D A m c d S O L G j M λy w' T U V=>H _ _ (N y w' T U V)
theorem Be {z:Array Oper} {p:Oper} {a:Act} {H:Act->World->Prop} {Q:Exit->Act->World->Prop} {E:Prop} (F:p.guard=none) (s x:Operand) (t:TypeId)
  (hop:p.op=.call {callee:=.builtin .append,args:= #[s,x],argTypes:= #[t,t]})
  (e:TypeId) (size b:Nat) (N:P.underlying t=some (.slice e)) (y:(P.info? e).map (λi=>(i.zero.map (·.cells.size),i.size,i.bytes))=some (some size,size,b)) (G:0<size)
  (B:Nat) (h:Hd) (us:List Value) (hs:a.eval s=.slice h.A h.n h.c) (o:AR w B size h us) (A:Option Addr) (m c:Nat) (d:List Value) (O:a.eval x=.slice A m c)
  (M:Rd w A (m*size) d) (I: ∀u∈d,u.oneCell'=true) (D:h.n+m<=1099511627776) (j:b<=64) (J:B<=w.heap.size)
  (L: ∀k w',k.n=h.n+m->AR w' B size k (us++d)->w.grownBy w' h.row->(k.row=h.row∨ ∃g,k.row=some g∧w.heap.size<=g)->H (a.put p.dst (.slice k.A k.n k.c)) w'):
  if Region.wanted p (yielded z a.tmps)=true then Oper.wp P p a w H Q else E:=by
 have hw:Region.wanted p (yielded z a.tmps)=true:=by simp[Region.wanted,F]
 rw[AA hw];exact Jq s x t hop e size b N y G B h us hs o A m c d O M I D j J L
end
theorem Dc {w w':World} {g:Nat} {cs:Array Value} {B:Nat} (h: ∀o,w.cell? ⟨g,o,none⟩=cs[o]?) (b:Below B w w') (hg:g<B): ∀o,w'.cell? ⟨g,o,none⟩=cs[o]? :=λo=>(b.cell (p:=⟨g,o,none⟩) hg).trans (h o)
theorem AK {w:World} {g:Nat} {cs:Array Value} (h: ∀o,w.cell? ⟨g,o,none⟩=cs[o]?) (hg:g<w.heap.size) (b:Obj): ∀o,(w.alloc b).cell? ⟨g,o,none⟩=cs[o]? :=
 Dc h ((AP w.heap.size w).alloc (Cp _) b) hg
theorem AC {w:World} {g:Nat} {cs:Array Value} (h: ∀o,w.cell? ⟨g,o,none⟩=cs[o]?): ∀o,w.drew.cell? ⟨g,o,none⟩=cs[o]? :=h
theorem Gl {h:Hd} {n b:Nat} (d:0<n->0<h.c) (e:blkp h.A n=some b):h.row=some b:=by
 obtain⟨ad,e1,i,rfl⟩:=Df e;exact Hd.row_mk e1 (d i)
theorem Dx.ofRow (l:List (Hd×Nat)) (d: ∀p∈l,0<p.2->0<p.1.c) (h:Dx (l.map λp=>p.1.row)):Dx (l.map λp=>blkp p.1.A p.2):=by
 unfold Dx at*;rw[List.pairwise_map] at*;exact h.imp_of_mem λ{p q} i j k b e e2=>k b (Gl (d p i) e) (Gl (d q j) e2)
theorem AR.npos {w:World} {B K:Nat} {h:Hd} {us:List Value} (o:AR w B K h us) {n:Nat} (b:n=h.n*K):0<n->0<h.c:=λh=>by
 subst b;have:=Nat.pos_of_mul_pos_right h;have:=o.nc;omega
theorem Dx.replace {L:List (Option Nat)} (i:Nat) {q:Option Nat} (p:Dx L) (z: ∀b,q=some b->L[i]? =some (some b)∨ ∀s∈L,s≠some b):Dx (L.set i q):=by
 unfold Dx at*;rw[List.pairwise_iff_getElem] at*;intro x y D E d b e1 e2;have c:x<L.length:=by rw[List.length_set] at D;exact D
 have j:y<L.length:=by rw[List.length_set] at E;exact E
 rw[List.getElem_set] at e1 e2
 split at e1
 ·subst_vars
  rw[Ak Aa] at e2;rcases z b rfl with h|h
  ·rw[Db Aa] at h;exact p _ _ _ j d b (Option.some.inj h) e2
  ·exact h _ (EH j) e2
 ·split at e2
  ·subst_vars
   rcases z b rfl with h|h
   ·rw[Db Aa] at h;exact p _ _ c _ d b e1 (Option.some.inj h)
   ·exact h _ (EH c) e1
  ·exact p x y c j d b e1 e2
theorem Ne.replace {L:List (Option Nat)} {g:Nat} (i:Nat) {q:Option Nat} (h: ∀s∈L,s≠some g) (b:q≠some g): ∀s∈L.set i q,s≠some g:=λs c=>by
 rcases List.mem_or_eq_of_mem_set c with h1|rfl
 ·exact h s h1
 ·exact b
theorem Vm (w:World) (g i:Nat) (u:Value):w.grownBy (w.setCell ⟨g,i,none⟩ u) (some g):=Bc (JU _ _) (.inl rfl) u
theorem ig {w w':World} {row:Option Nat} (b:Below w.heap.size w w'):w.grownBy w' row:=⟨b.os,b.tape,b.output,b.size,λk c _=>b.block k c⟩
theorem Fe.drew {B:Nat} {a w:World} (h:Fe B a w):Fe B a w.drew:=⟨h.size,h.block⟩
theorem Fe.drewN {B:Nat} {a w:World} (h:Fe B a w) (n:Nat):Fe B a (w.drewN n):=⟨h.size,h.block⟩
theorem AR.rd1 {w:World} {B:Nat} {h:Hd} {us:List Value} (o:AR w B 1 h us):Rd w h.A h.n us:=by have:=o.rd;rwa [Nat.mul_one] at this
theorem AR.wr1 {w:World} {B:Nat} {h:Hd} {us:List Value} (o:AR w B 1 h us):Wr w B h.A h.n:=by have:=o.wr;rwa [Nat.mul_one] at this
theorem CS (A:Option Addr) (n c:Nat) (xs:List Int) (w:World) (b:n<=2097152) (p:Rd w A n (ints xs)):
  Calls prog 266 #[.slice A n c] w λe w'=> ∃h:Hd,e=.returned (.slice h.A h.n h.c)∧h.n=n∧AR w' w.heap.size 1 h (ints xs)∧Below w.heap.size w w':=
 (Vt A n c xs w b p).mono λe w' ⟨v,i,j,d⟩=>by
  obtain⟨h,rfl,b,o,_⟩:=AR.of_row Ah j;exact⟨h,i,b,o,d⟩
section
variable {w w' : World} {B K : Nat} {h : Hd} {xs : List Int} {us : List Value}
theorem AR.take (o:AR w B K h us) {k:Nat} (b:k<=h.n):AR w B K ⟨h.A,k,h.c⟩ (us.take (k*K)):=by
 have D:=o.len;have E:k*K<=h.n*K:=Nat.mul_le_mul_right K b;refine⟨by simp only[Ju];omega,Ch b o.nc,o.max,o.nil_,λad e x=> ?_⟩
 obtain⟨d,j,p,s⟩:=o.at_ ad e x;refine⟨d,j,p,λi hi=> ?_⟩;obtain⟨⟨v,hv,z⟩,y⟩:=s i hi;refine⟨⟨v,hv,λu e=>z u ?_⟩,y⟩;rw[List.getElem?_take] at e
 split at e
 ·exact e
 ·cases e
theorem AR.set_ (o:AR w B 1 h (ints xs)) {k:Nat} {ad:Addr} (J:k<h.n) (e:h.A=some ad) (v:Int):AR (w.setCell (ad.add k) (ZI v)) B 1 h (ints (xs.set k v)):=by
 have s:=o.len;have L:=o.nc;refine⟨by rw[Kh,List.length_set];exact s,o.nc,o.max,o.nil_,λy d G=> ?_⟩
 rw[e] at d;injection d with d;subst d;obtain⟨D,E,F,p⟩:=o.at_ ad e G;refine⟨D,by simpa [World.setCell] using E,F,λi hi=> ?_⟩
 obtain⟨⟨u,N,M⟩,H⟩:=p i hi;obtain⟨⟨O,j,_⟩,I⟩:=p k Aa;refine⟨?_,by rw[World.frozen?_setCell];exact H⟩
 by_cases c:i=k
 ·subst c;refine⟨.int .i64 v,World.cell?_setCell_same _ _ _ j,λz b=> ?_⟩;rw[Kh,List.getElem?_set_self (by rw[s,Nat.mul_one];exact J)] at b
  exact Option.some.inj b
 ·refine⟨u,by rw[World.cell?_setCell_other _ _ _ _ (λx=>c (Q1 x).symm)];exact N,λz b=>M z ?_⟩
  rw[Kh,List.getElem?_set_ne (λx=>c x.symm)] at b;exact b
theorem AR.cell (o:AR w B 1 h (ints xs)) {k:Nat} (d:k<h.n): ∃ad,h.A=some ad∧w.cell? (ad.add k)=ZS (xs.getD k 0)∧w.frozen? (ad.add k)=false:=by
 obtain⟨ad,e,c⟩:=o.rd1.int d;have i:=o.nc;obtain⟨_,_,_,b⟩:=o.at_ ad e Aa;exact⟨ad,e,c,(b k Aa).2⟩
end
theorem AR.capm {w:World} {B K:Nat} {h:Hd} {us:List Value} (o:AR w B K h us):h.n<=h.c∧h.c<=9223372036854775807:=⟨o.nc,by have:=o.max;unfold maxLen at this;omega⟩
theorem AR.made {W:World} {B n:Nat} (s:B<=W.heap.size) (x:n<=1048576) (e:TypeId):AR (W.alloc (.cells (madeCells #[ZI 0] n) e)) B 1 ⟨some ⟨W.heap.size,0,none⟩,n,n⟩ (ints (List.replicate n 0)):=by
 have c:=Blk.new W e (madeCells #[ZI 0] n);refine⟨by unfold ints;simp,Cp _,by unfold maxLen;simp only;omega,(λh=>by cases h),λad b _=> ?_⟩
 injection b with b;subst b;refine⟨s,c.lt,rfl,λi hi=>⟨?_,by rw[CE];exact c.frozen i⟩⟩
 have d:i<(madeCells #[Value.int .i64 0] n).size:=by rw[FV];simpa using hi
 refine⟨(madeCells #[Value.int .i64 0] n)[i],by rw[CE,c.cell];exact Array.getElem?_eq_getElem d,λu p=> ?_⟩
 have j:i<n:=by simpa using hi
 rw[CF] at p
 simp[j] at p
 subst p
 simp[madeCells,Nat.mod_one]
section
variable {P : Program} {f : FuncId} {args : Array Value} {w : World} {a n : Nat} {v : Value}
theorem Hq (h:Calls P f args (w.drewN n) λe w'=>e=.returned v∧w.drewN n=w'):Calls P f args (w.drewN n) λe w'=>e=.returned v∧ ∃m,w'=w.drewN m:=
 h.mono λ_ _ ⟨b,c⟩=>⟨b,n,c.symm⟩
end
theorem bJ {w W : World} {b : Array Value} {t0 : TypeId} (h : (w.alloc (.cells b t0)) = W) : Blk W (w.heap.size) t0 b ∧ Below w.heap.size w W ∧ W.heap.size = w.heap.size + 1 := by
  subst h
  exact ⟨(Blk.new w t0 b), (Below.refl _ _).alloc (Nat.le_refl _) (.cells b t0), by simp only [Ab]⟩
theorem EX {w W : World} {b : Array Value} {t0 : TypeId} (h : (w.alloc (.cells b t0)) = W) : Blk W (w.heap.size) t0 b ∧ Below w.heap.size w W := by
  subst h
  exact ⟨(Blk.new w t0 b), (Below.refl _ _).alloc (Nat.le_refl _) (.cells b t0)⟩
theorem gi {w W : World} {b c : Array Value} {t0 t1 : TypeId} (h : ((w.alloc (.cells b t0)).alloc (.cells c t1)) = W) : Blk W (w.heap.size) t0 b ∧ Blk W (w.heap.size + 1) t1 c ∧ Below w.heap.size w W ∧ W.heap.size = w.heap.size + 2 := by
  subst h
  exact ⟨(Blk.alloc (Blk.new w t0 b) (.cells c t1)), (by have h := Blk.new (w.alloc (.cells b t0)) t1 c; simp only [Ab] at h; exact h), ((Below.refl _ _).alloc (Nat.le_refl _) (.cells b t0)).alloc (by simp only [Ab]; omega) (.cells c t1), by simp only [Ab]⟩
theorem Qg {w W : World} {b c : Array Value} {t0 t1 : TypeId} (h : ((w.alloc (.cells b t0)).alloc (.cells c t1)) = W) : Blk W (w.heap.size) t0 b ∧ Blk W (w.heap.size + 1) t1 c ∧ Below w.heap.size w W := by
  subst h
  exact ⟨(Blk.alloc (Blk.new w t0 b) (.cells c t1)), (by have h := Blk.new (w.alloc (.cells b t0)) t1 c; simp only [Ab] at h; exact h), ((Below.refl _ _).alloc (Nat.le_refl _) (.cells b t0)).alloc (by simp only [Ab]; omega) (.cells c t1)⟩
theorem gj {w W : World} {b c d : Array Value} {t0 t1 t2 : TypeId} (h : (((w.alloc (.cells b t0)).alloc (.cells c t1)).alloc (.cells d t2)) = W) : Blk W (w.heap.size) t0 b ∧ Blk W (w.heap.size + 1) t1 c ∧ Blk W (w.heap.size + 1 + 1) t2 d ∧ Below w.heap.size w W ∧ W.heap.size = w.heap.size + 3 := by
  subst h
  exact ⟨(Blk.alloc (Blk.alloc (Blk.new w t0 b) (.cells c t1)) (.cells d t2)), (Blk.alloc (by have h := Blk.new (w.alloc (.cells b t0)) t1 c; simp only [Ab] at h; exact h) (.cells d t2)), (by have h := Blk.new ((w.alloc (.cells b t0)).alloc (.cells c t1)) t2 d; simp only [Ab] at h; exact h), (((Below.refl _ _).alloc (Nat.le_refl _) (.cells b t0)).alloc (by simp only [Ab]; omega) (.cells c t1)).alloc (by simp only [Ab]; omega) (.cells d t2), by simp only [Ab]⟩
theorem WF {w W : World} {b c d : Array Value} {t0 t1 t2 : TypeId} (h : (((w.alloc (.cells b t0)).alloc (.cells c t1)).alloc (.cells d t2)) = W) : Blk W (w.heap.size) t0 b ∧ Blk W (w.heap.size + 1) t1 c ∧ Blk W (w.heap.size + 1 + 1) t2 d ∧ Below w.heap.size w W := by
  subst h
  exact ⟨(Blk.alloc (Blk.alloc (Blk.new w t0 b) (.cells c t1)) (.cells d t2)), (Blk.alloc (by have h := Blk.new (w.alloc (.cells b t0)) t1 c; simp only [Ab] at h; exact h) (.cells d t2)), (by have h := Blk.new ((w.alloc (.cells b t0)).alloc (.cells c t1)) t2 d; simp only [Ab] at h; exact h), (((Below.refl _ _).alloc (Nat.le_refl _) (.cells b t0)).alloc (by simp only [Ab]; omega) (.cells c t1)).alloc (by simp only [Ab]; omega) (.cells d t2)⟩
theorem gF {w W : World} {b c d c3 : Array Value} {t0 t1 t2 t3 : TypeId} (h : ((((w.alloc (.cells b t0)).alloc (.cells c t1)).alloc (.cells d t2)).alloc (.cells c3 t3)) = W) : Blk W (w.heap.size) t0 b ∧ Blk W (w.heap.size + 1) t1 c ∧ Blk W (w.heap.size + 1 + 1) t2 d ∧ Blk W (w.heap.size + 1 + 1 + 1) t3 c3 ∧ Below w.heap.size w W ∧ W.heap.size = w.heap.size + 4 := by
  subst h
  exact ⟨(Blk.alloc (Blk.alloc (Blk.alloc (Blk.new w t0 b) (.cells c t1)) (.cells d t2)) (.cells c3 t3)), (Blk.alloc (Blk.alloc (by have h := Blk.new (w.alloc (.cells b t0)) t1 c; simp only [Ab] at h; exact h) (.cells d t2)) (.cells c3 t3)), (Blk.alloc (by have h := Blk.new ((w.alloc (.cells b t0)).alloc (.cells c t1)) t2 d; simp only [Ab] at h; exact h) (.cells c3 t3)), (by have h := Blk.new (((w.alloc (.cells b t0)).alloc (.cells c t1)).alloc (.cells d t2)) t3 c3; simp only [Ab] at h; exact h), ((((Below.refl _ _).alloc (Nat.le_refl _) (.cells b t0)).alloc (by simp only [Ab]; omega) (.cells c t1)).alloc (by simp only [Ab]; omega) (.cells d t2)).alloc (by simp only [Ab]; omega) (.cells c3 t3), by simp only [Ab]⟩
theorem Y3 {w W : World} {b c d c3 : Array Value} {t0 t1 t2 t3 : TypeId} (h : ((((w.alloc (.cells b t0)).alloc (.cells c t1)).alloc (.cells d t2)).alloc (.cells c3 t3)) = W) : Blk W (w.heap.size) t0 b ∧ Blk W (w.heap.size + 1) t1 c ∧ Blk W (w.heap.size + 1 + 1) t2 d ∧ Blk W (w.heap.size + 1 + 1 + 1) t3 c3 ∧ Below w.heap.size w W := by
  subst h
  exact ⟨(Blk.alloc (Blk.alloc (Blk.alloc (Blk.new w t0 b) (.cells c t1)) (.cells d t2)) (.cells c3 t3)), (Blk.alloc (Blk.alloc (by have h := Blk.new (w.alloc (.cells b t0)) t1 c; simp only [Ab] at h; exact h) (.cells d t2)) (.cells c3 t3)), (Blk.alloc (by have h := Blk.new ((w.alloc (.cells b t0)).alloc (.cells c t1)) t2 d; simp only [Ab] at h; exact h) (.cells c3 t3)), (by have h := Blk.new (((w.alloc (.cells b t0)).alloc (.cells c t1)).alloc (.cells d t2)) t3 c3; simp only [Ab] at h; exact h), ((((Below.refl _ _).alloc (Nat.le_refl _) (.cells b t0)).alloc (by simp only [Ab]; omega) (.cells c t1)).alloc (by simp only [Ab]; omega) (.cells d t2)).alloc (by simp only [Ab]; omega) (.cells c3 t3)⟩
theorem gG {w W : World} {b c d c3 c4 : Array Value} {t0 t1 t2 t3 i : TypeId} (h : (((((w.alloc (.cells b t0)).alloc (.cells c t1)).alloc (.cells d t2)).alloc (.cells c3 t3)).alloc (.cells c4 i)) = W) : Blk W (w.heap.size) t0 b ∧ Blk W (w.heap.size + 1) t1 c ∧ Blk W (w.heap.size + 1 + 1) t2 d ∧ Blk W (w.heap.size + 1 + 1 + 1) t3 c3 ∧ Blk W (w.heap.size + 1 + 1 + 1 + 1) i c4 ∧ Below w.heap.size w W ∧ W.heap.size = w.heap.size + 5 := by
  subst h
  exact ⟨(Blk.alloc (Blk.alloc (Blk.alloc (Blk.alloc (Blk.new w t0 b) (.cells c t1)) (.cells d t2)) (.cells c3 t3)) (.cells c4 i)), (Blk.alloc (Blk.alloc (Blk.alloc (by have h := Blk.new (w.alloc (.cells b t0)) t1 c; simp only [Ab] at h; exact h) (.cells d t2)) (.cells c3 t3)) (.cells c4 i)), (Blk.alloc (Blk.alloc (by have h := Blk.new ((w.alloc (.cells b t0)).alloc (.cells c t1)) t2 d; simp only [Ab] at h; exact h) (.cells c3 t3)) (.cells c4 i)), (Blk.alloc (by have h := Blk.new (((w.alloc (.cells b t0)).alloc (.cells c t1)).alloc (.cells d t2)) t3 c3; simp only [Ab] at h; exact h) (.cells c4 i)), (by have h := Blk.new ((((w.alloc (.cells b t0)).alloc (.cells c t1)).alloc (.cells d t2)).alloc (.cells c3 t3)) i c4; simp only [Ab] at h; exact h), (((((Below.refl _ _).alloc (Nat.le_refl _) (.cells b t0)).alloc (by simp only [Ab]; omega) (.cells c t1)).alloc (by simp only [Ab]; omega) (.cells d t2)).alloc (by simp only [Ab]; omega) (.cells c3 t3)).alloc (by simp only [Ab]; omega) (.cells c4 i), by simp only [Ab]⟩
theorem gN {w W : World} {b c d c3 c4 : Array Value} {t0 t1 t2 t3 i : TypeId} (h : (((((w.alloc (.cells b t0)).alloc (.cells c t1)).alloc (.cells d t2)).alloc (.cells c3 t3)).alloc (.cells c4 i)) = W) : Blk W (w.heap.size) t0 b ∧ Blk W (w.heap.size + 1) t1 c ∧ Blk W (w.heap.size + 1 + 1) t2 d ∧ Blk W (w.heap.size + 1 + 1 + 1) t3 c3 ∧ Blk W (w.heap.size + 1 + 1 + 1 + 1) i c4 ∧ Below w.heap.size w W := by
  subst h
  exact ⟨(Blk.alloc (Blk.alloc (Blk.alloc (Blk.alloc (Blk.new w t0 b) (.cells c t1)) (.cells d t2)) (.cells c3 t3)) (.cells c4 i)), (Blk.alloc (Blk.alloc (Blk.alloc (by have h := Blk.new (w.alloc (.cells b t0)) t1 c; simp only [Ab] at h; exact h) (.cells d t2)) (.cells c3 t3)) (.cells c4 i)), (Blk.alloc (Blk.alloc (by have h := Blk.new ((w.alloc (.cells b t0)).alloc (.cells c t1)) t2 d; simp only [Ab] at h; exact h) (.cells c3 t3)) (.cells c4 i)), (Blk.alloc (by have h := Blk.new (((w.alloc (.cells b t0)).alloc (.cells c t1)).alloc (.cells d t2)) t3 c3; simp only [Ab] at h; exact h) (.cells c4 i)), (by have h := Blk.new ((((w.alloc (.cells b t0)).alloc (.cells c t1)).alloc (.cells d t2)).alloc (.cells c3 t3)) i c4; simp only [Ab] at h; exact h), (((((Below.refl _ _).alloc (Nat.le_refl _) (.cells b t0)).alloc (by simp only [Ab]; omega) (.cells c t1)).alloc (by simp only [Ab]; omega) (.cells d t2)).alloc (by simp only [Ab]; omega) (.cells c3 t3)).alloc (by simp only [Ab]; omega) (.cells c4 i)⟩
theorem gH {w W : World} {b c d c3 c4 i : Array Value} {t0 t1 t2 t3 j p : TypeId} (h : ((((((w.alloc (.cells b t0)).alloc (.cells c t1)).alloc (.cells d t2)).alloc (.cells c3 t3)).alloc (.cells c4 j)).alloc (.cells i p)) = W) : Blk W (w.heap.size) t0 b ∧ Blk W (w.heap.size + 1) t1 c ∧ Blk W (w.heap.size + 1 + 1) t2 d ∧ Blk W (w.heap.size + 1 + 1 + 1) t3 c3 ∧ Blk W (w.heap.size + 1 + 1 + 1 + 1) j c4 ∧ Blk W (w.heap.size + 1 + 1 + 1 + 1 + 1) p i ∧ Below w.heap.size w W ∧ W.heap.size = w.heap.size + 6 := by
  subst h
  exact ⟨(Blk.alloc (Blk.alloc (Blk.alloc (Blk.alloc (Blk.alloc (Blk.new w t0 b) (.cells c t1)) (.cells d t2)) (.cells c3 t3)) (.cells c4 j)) (.cells i p)), (Blk.alloc (Blk.alloc (Blk.alloc (Blk.alloc (by have h := Blk.new (w.alloc (.cells b t0)) t1 c; simp only [Ab] at h; exact h) (.cells d t2)) (.cells c3 t3)) (.cells c4 j)) (.cells i p)), (Blk.alloc (Blk.alloc (Blk.alloc (by have h := Blk.new ((w.alloc (.cells b t0)).alloc (.cells c t1)) t2 d; simp only [Ab] at h; exact h) (.cells c3 t3)) (.cells c4 j)) (.cells i p)), (Blk.alloc (Blk.alloc (by have h := Blk.new (((w.alloc (.cells b t0)).alloc (.cells c t1)).alloc (.cells d t2)) t3 c3; simp only [Ab] at h; exact h) (.cells c4 j)) (.cells i p)), (Blk.alloc (by have h := Blk.new ((((w.alloc (.cells b t0)).alloc (.cells c t1)).alloc (.cells d t2)).alloc (.cells c3 t3)) j c4; simp only [Ab] at h; exact h) (.cells i p)), (by have h := Blk.new (((((w.alloc (.cells b t0)).alloc (.cells c t1)).alloc (.cells d t2)).alloc (.cells c3 t3)).alloc (.cells c4 j)) p i; simp only [Ab] at h; exact h), ((((((Below.refl _ _).alloc (Nat.le_refl _) (.cells b t0)).alloc (by simp only [Ab]; omega) (.cells c t1)).alloc (by simp only [Ab]; omega) (.cells d t2)).alloc (by simp only [Ab]; omega) (.cells c3 t3)).alloc (by simp only [Ab]; omega) (.cells c4 j)).alloc (by simp only [Ab]; omega) (.cells i p), by simp only [Ab]⟩
theorem gQ {w W : World} {b c d c3 c4 i : Array Value} {t0 t1 t2 t3 j p : TypeId} (h : ((((((w.alloc (.cells b t0)).alloc (.cells c t1)).alloc (.cells d t2)).alloc (.cells c3 t3)).alloc (.cells c4 j)).alloc (.cells i p)) = W) : Blk W (w.heap.size) t0 b ∧ Blk W (w.heap.size + 1) t1 c ∧ Blk W (w.heap.size + 1 + 1) t2 d ∧ Blk W (w.heap.size + 1 + 1 + 1) t3 c3 ∧ Blk W (w.heap.size + 1 + 1 + 1 + 1) j c4 ∧ Blk W (w.heap.size + 1 + 1 + 1 + 1 + 1) p i ∧ Below w.heap.size w W := by
  subst h
  exact ⟨(Blk.alloc (Blk.alloc (Blk.alloc (Blk.alloc (Blk.alloc (Blk.new w t0 b) (.cells c t1)) (.cells d t2)) (.cells c3 t3)) (.cells c4 j)) (.cells i p)), (Blk.alloc (Blk.alloc (Blk.alloc (Blk.alloc (by have h := Blk.new (w.alloc (.cells b t0)) t1 c; simp only [Ab] at h; exact h) (.cells d t2)) (.cells c3 t3)) (.cells c4 j)) (.cells i p)), (Blk.alloc (Blk.alloc (Blk.alloc (by have h := Blk.new ((w.alloc (.cells b t0)).alloc (.cells c t1)) t2 d; simp only [Ab] at h; exact h) (.cells c3 t3)) (.cells c4 j)) (.cells i p)), (Blk.alloc (Blk.alloc (by have h := Blk.new (((w.alloc (.cells b t0)).alloc (.cells c t1)).alloc (.cells d t2)) t3 c3; simp only [Ab] at h; exact h) (.cells c4 j)) (.cells i p)), (Blk.alloc (by have h := Blk.new ((((w.alloc (.cells b t0)).alloc (.cells c t1)).alloc (.cells d t2)).alloc (.cells c3 t3)) j c4; simp only [Ab] at h; exact h) (.cells i p)), (by have h := Blk.new (((((w.alloc (.cells b t0)).alloc (.cells c t1)).alloc (.cells d t2)).alloc (.cells c3 t3)).alloc (.cells c4 j)) p i; simp only [Ab] at h; exact h), ((((((Below.refl _ _).alloc (Nat.le_refl _) (.cells b t0)).alloc (by simp only [Ab]; omega) (.cells c t1)).alloc (by simp only [Ab]; omega) (.cells d t2)).alloc (by simp only [Ab]; omega) (.cells c3 t3)).alloc (by simp only [Ab]; omega) (.cells c4 j)).alloc (by simp only [Ab]; omega) (.cells i p)⟩
theorem gM {w W : World} {b c d c3 c4 i j : Array Value} {t0 t1 t2 t3 p s x : TypeId} (h : (((((((w.alloc (.cells b t0)).alloc (.cells c t1)).alloc (.cells d t2)).alloc (.cells c3 t3)).alloc (.cells c4 p)).alloc (.cells i s)).alloc (.cells j x)) = W) : Blk W (w.heap.size) t0 b ∧ Blk W (w.heap.size + 1) t1 c ∧ Blk W (w.heap.size + 1 + 1) t2 d ∧ Blk W (w.heap.size + 1 + 1 + 1) t3 c3 ∧ Blk W (w.heap.size + 1 + 1 + 1 + 1) p c4 ∧ Blk W (w.heap.size + 1 + 1 + 1 + 1 + 1) s i ∧ Blk W (w.heap.size + 1 + 1 + 1 + 1 + 1 + 1) x j ∧ Below w.heap.size w W ∧ W.heap.size = w.heap.size + 7 := by
  subst h
  exact ⟨(Blk.alloc (Blk.alloc (Blk.alloc (Blk.alloc (Blk.alloc (Blk.alloc (Blk.new w t0 b) (.cells c t1)) (.cells d t2)) (.cells c3 t3)) (.cells c4 p)) (.cells i s)) (.cells j x)), (Blk.alloc (Blk.alloc (Blk.alloc (Blk.alloc (Blk.alloc (by have h := Blk.new (w.alloc (.cells b t0)) t1 c; simp only [Ab] at h; exact h) (.cells d t2)) (.cells c3 t3)) (.cells c4 p)) (.cells i s)) (.cells j x)), (Blk.alloc (Blk.alloc (Blk.alloc (Blk.alloc (by have h := Blk.new ((w.alloc (.cells b t0)).alloc (.cells c t1)) t2 d; simp only [Ab] at h; exact h) (.cells c3 t3)) (.cells c4 p)) (.cells i s)) (.cells j x)), (Blk.alloc (Blk.alloc (Blk.alloc (by have h := Blk.new (((w.alloc (.cells b t0)).alloc (.cells c t1)).alloc (.cells d t2)) t3 c3; simp only [Ab] at h; exact h) (.cells c4 p)) (.cells i s)) (.cells j x)), (Blk.alloc (Blk.alloc (by have h := Blk.new ((((w.alloc (.cells b t0)).alloc (.cells c t1)).alloc (.cells d t2)).alloc (.cells c3 t3)) p c4; simp only [Ab] at h; exact h) (.cells i s)) (.cells j x)), (Blk.alloc (by have h := Blk.new (((((w.alloc (.cells b t0)).alloc (.cells c t1)).alloc (.cells d t2)).alloc (.cells c3 t3)).alloc (.cells c4 p)) s i; simp only [Ab] at h; exact h) (.cells j x)), (by have h := Blk.new ((((((w.alloc (.cells b t0)).alloc (.cells c t1)).alloc (.cells d t2)).alloc (.cells c3 t3)).alloc (.cells c4 p)).alloc (.cells i s)) x j; simp only [Ab] at h; exact h), (((((((Below.refl _ _).alloc (Nat.le_refl _) (.cells b t0)).alloc (by simp only [Ab]; omega) (.cells c t1)).alloc (by simp only [Ab]; omega) (.cells d t2)).alloc (by simp only [Ab]; omega) (.cells c3 t3)).alloc (by simp only [Ab]; omega) (.cells c4 p)).alloc (by simp only [Ab]; omega) (.cells i s)).alloc (by simp only [Ab]; omega) (.cells j x), by simp only [Ab]⟩
theorem jr {w W : World} {b c d c3 c4 i j : Array Value} {t0 t1 t2 t3 p s x : TypeId} (h : (((((((w.alloc (.cells b t0)).alloc (.cells c t1)).alloc (.cells d t2)).alloc (.cells c3 t3)).alloc (.cells c4 p)).alloc (.cells i s)).alloc (.cells j x)) = W) : Blk W (w.heap.size) t0 b ∧ Blk W (w.heap.size + 1) t1 c ∧ Blk W (w.heap.size + 1 + 1) t2 d ∧ Blk W (w.heap.size + 1 + 1 + 1) t3 c3 ∧ Blk W (w.heap.size + 1 + 1 + 1 + 1) p c4 ∧ Blk W (w.heap.size + 1 + 1 + 1 + 1 + 1) s i ∧ Blk W (w.heap.size + 1 + 1 + 1 + 1 + 1 + 1) x j ∧ Below w.heap.size w W := by
  subst h
  exact ⟨(Blk.alloc (Blk.alloc (Blk.alloc (Blk.alloc (Blk.alloc (Blk.alloc (Blk.new w t0 b) (.cells c t1)) (.cells d t2)) (.cells c3 t3)) (.cells c4 p)) (.cells i s)) (.cells j x)), (Blk.alloc (Blk.alloc (Blk.alloc (Blk.alloc (Blk.alloc (by have h := Blk.new (w.alloc (.cells b t0)) t1 c; simp only [Ab] at h; exact h) (.cells d t2)) (.cells c3 t3)) (.cells c4 p)) (.cells i s)) (.cells j x)), (Blk.alloc (Blk.alloc (Blk.alloc (Blk.alloc (by have h := Blk.new ((w.alloc (.cells b t0)).alloc (.cells c t1)) t2 d; simp only [Ab] at h; exact h) (.cells c3 t3)) (.cells c4 p)) (.cells i s)) (.cells j x)), (Blk.alloc (Blk.alloc (Blk.alloc (by have h := Blk.new (((w.alloc (.cells b t0)).alloc (.cells c t1)).alloc (.cells d t2)) t3 c3; simp only [Ab] at h; exact h) (.cells c4 p)) (.cells i s)) (.cells j x)), (Blk.alloc (Blk.alloc (by have h := Blk.new ((((w.alloc (.cells b t0)).alloc (.cells c t1)).alloc (.cells d t2)).alloc (.cells c3 t3)) p c4; simp only [Ab] at h; exact h) (.cells i s)) (.cells j x)), (Blk.alloc (by have h := Blk.new (((((w.alloc (.cells b t0)).alloc (.cells c t1)).alloc (.cells d t2)).alloc (.cells c3 t3)).alloc (.cells c4 p)) s i; simp only [Ab] at h; exact h) (.cells j x)), (by have h := Blk.new ((((((w.alloc (.cells b t0)).alloc (.cells c t1)).alloc (.cells d t2)).alloc (.cells c3 t3)).alloc (.cells c4 p)).alloc (.cells i s)) x j; simp only [Ab] at h; exact h), (((((((Below.refl _ _).alloc (Nat.le_refl _) (.cells b t0)).alloc (by simp only [Ab]; omega) (.cells c t1)).alloc (by simp only [Ab]; omega) (.cells d t2)).alloc (by simp only [Ab]; omega) (.cells c3 t3)).alloc (by simp only [Ab]; omega) (.cells c4 p)).alloc (by simp only [Ab]; omega) (.cells i s)).alloc (by simp only [Ab]; omega) (.cells j x)⟩
theorem An{a b c:World}(h:Below a.heap.size a b)(k:Below b.heap.size b c):Below a.heap.size a c:=h.trans (k.mono h.size)
theorem Cg{m:Nat}{w u:World}{p:Addr}{v:Option Value}(b:Below m w u)(c:w.cell? p=v)(h:p.block<m):u.cell? p=v:=(Below.cell b h).trans c
def BT(_:Nat)(_:Array Value)(_:World)(_:Value):ZT:=.m
def YC(_:Nat)(_:Array Value)(_:World)(_:Value):ZT:=.m
def GK(_:Nat)(_:Array Value)(_:World)(_:Value):ZT:=.m
instance(n:Nat)(a:Array Value)(w:World)(v:Value):CoeDep ZT (BT n a w v) Prop:=⟨Calls prog n a w λe w'=>e=.returned v∧Below w.heap.size w w'⟩
instance(n:Nat)(a:Array Value)(w:World)(v:Value):CoeDep ZT (YC n a w v) Prop:=⟨Calls prog n a w λe w'=>e=.returned v∧w'=w⟩
instance(n:Nat)(a:Array Value)(w:World)(v:Value):CoeDep ZT (GK n a w v) Prop:=⟨Calls prog n a w λe w'=>e=.returned v∧w=w'⟩
theorem G6{n:Nat}{w:World}:Below n w w:=Below.refl _ _
theorem BU{w:World}{o:Obj}:Below w.heap.size w (w.alloc o):=(Below.refl _ _).alloc (Nat.le_refl _) o
theorem GJ{n:Nat}{w:World}:Below n w w.drew:=Below.drew (Below.refl _ _)
theorem Pn{w:World}{ad:Addr}{n:Nat}{xs:List Int}(h:Rd w (some ad) n (ints xs)) (d:0<n):w.cell? ad=some (.int .i64 (xs.getD 0 0)):=by
  obtain ⟨a,b,c⟩ := h.int d
  cases b
  rwa [Addr.add_zero'] at c
theorem GV{w:World}{ad:Addr}{n k:Nat}{xs:List Int}(h:Rd w (some ad) n (ints xs)) (i:k<n) (c:k≠0):w.cell? ⟨ad.block,ad.off+k,none⟩=some (.int .i64 (xs.getD k 0)):=by
  obtain ⟨a,d,b⟩ := h.int i
  cases d
  unfold Addr.add at b
  rwa [if_neg c] at b
theorem Br:∀(w:World) (t:TypeId) (cs:Array Value),Blk (w.alloc (Obj.cells cs t)) w.heap.size t cs:=@Blk.new
theorem Ba:∀ {B:Nat} {a w:World},Below B a w-> ∀(m:Nat),Below B a (w.drewN m):=@Below.drewN
theorem EE:∀ {B m:Nat} {a w:World},Below B (a.drewN m) w->Below B a w:=@Below.left
def JZ (s:Int) (b:UInt8):Int:=(31*s+(b.toNat:Int))%65521
def chkFold (l:List UInt8):Int:=l.foldl JZ 1
theorem CV (l:List UInt8):0<=chkFold l∧chkFold l<65521:=by
 unfold chkFold
 have: ∀(l:List UInt8) (s:Int),0<=s->s<65521->0<=l.foldl JZ s∧l.foldl JZ s<65521:=by
  intro l
  induction l with
  |nil=>intro s c d;exact⟨c,d⟩
  |cons b r ih=>intro s c d;exact ih _ (by unfold JZ;omega) (by unfold JZ;omega)
 exact this l 1 Aa Aa
theorem JY (l:List UInt8) (b:UInt8):chkFold (l++ [b])=(31*chkFold l+(b.toNat:Int))%65521:=by
 unfold chkFold;rw[List.foldl_append];rfl
theorem Em (s:ByteArray) (k:Nat) (h:k<s.size):s.data.toList.take (k+1)=s.data.toList.take k++ [s[k]]:=by
 rw[List.take_succ_eq_append_getElem CB];rfl
theorem Do (s:ByteArray) (w:World) (hs:s.size<=maxLen):
  (GK 131 #[.string s] w (ZI (chkFold s.data.toList)):Prop):=by
 unfold maxLen at hs
 go_enter func131,ntmps131
 go_wp2
 go_loop [3,4] (λn i=> ∃k:Nat,k<=s.size∧i=.int .i64 k∧n=.int .i64 (chkFold (s.data.toList.take k))) (λ_ i=>s.size-(intOf i).toNat)
 case atStart=>exact⟨0,AZ _,rfl,rfl⟩
 case round=>
  obtain⟨k,x,rfl,rfl⟩:=hrel;have p:=CV (s.data.toList.take k)
  by_cases b:k<s.size
  ·have d:Hid (chkFold (s.data.toList.take (k+1))=(31*chkFold (s.data.toList.take k)+(s[k].toNat:Int))%65521):=by
    rw[Em s k b];exact JY _ _
   generalize chkFold (s.data.toList.take k)=c at*;have j:s[k].toNat<256:=s[k].toNat_lt;go_wp2
   go_round
   case rel=>exact⟨k+1,by omega,by go_num,by rw[d.out]⟩
   case measure=>simp[intOf];omega
  ·go_wp2;go_ret;exact⟨Bb (by rw[ED Bq]),rfl⟩
theorem Dn (s:ByteArray) (w:World) (hs:s.size<=maxLen):
  (GK 150 #[.string s] w (ZI (chkFold s.data.toList)):Prop):=by
 unfold maxLen at hs
 go_enter func150,ntmps150
 go_wp2
 go_loop [3,7] (λn i=> ∃k:Nat,k<=s.size∧i=.int .i64 k∧n=.int .i64 (chkFold (s.data.toList.take k))) (λ_ i=>s.size-(intOf i).toNat)
 case atStart=>exact⟨0,AZ _,rfl,rfl⟩
 case round=>
  obtain⟨k,x,rfl,rfl⟩:=hrel;have p:=CV (s.data.toList.take k)
  by_cases b:k<s.size
  ·have d:Hid (chkFold (s.data.toList.take (k+1))=(31*chkFold (s.data.toList.take k)+(s[k].toNat:Int))%65521):=by
    rw[Em s k b];exact JY _ _
   generalize chkFold (s.data.toList.take k)=c at*;have j:s[k].toNat<256:=s[k].toNat_lt;go_wp2
   go_round
   case rel=>exact⟨k+1,by omega,by go_num,by rw[d.out]⟩
   case measure=>simp[intOf];omega
  ·go_wp2;go_ret;exact⟨Bb (by rw[ED Bq]),rfl⟩
def go (x y d r:Int):Array Value:= (Ziiii x y d r)
def fM (t k l x y d r:Int):Array Value:= (AD t k l x y d r)
def DP (x y d r:Int):Bool:=inR x 0 10000 && inR y 0 10000 && inR d (-2000) 1000000 && inR r 0 5000
def Hx (x y d r:Int):Bool:=x==0 && (y==0 && (d==0 && r==0))
def recB (t k l x y d r:Int):Bool:=
 inR t 0 1000000 && (if k=1 then inR l (-2000) 2000 && Hx x y d r else if k=2 then l==0 && DP x y d r else if k=3 then l==0 && Hx x y d r else false)
theorem GR (x y d r:Int) (w:World):
  Calls prog 110 #[Ziiii x y d r] w λe w'=>e=.returned (.bool (DP x y d r))∧w'=w.alloc (.cells (go x y d r) 65):=by
 have c:Hid (DP x y d r=(inR x 0 10000 && inR y 0 10000 && inR d (-2000) 1000000 && inR r 0 5000)):=rfl;rcases jt (inR x 0 10000) with h1|h1<;>rcases jt (inR y 0 10000) with h2|h2<;>rcases jt (inR d (-2000) 1000000) with h3|h3
 all_goals
  have b:=c.out;rw[h1,h2,h3] at b;have c:=Ai b;clear b
  go_enter func110,ntmps110
  go_wp2_with (go_at_call 84;refine(Ay _ _ _ _).mono ?_;rintro e w' ⟨rfl,rfl⟩)
  go_ret;exact⟨Af (by rw[c.out];simp),rfl⟩
theorem Ir (A:Option Addr) (n c:Nat) (xs:List Int) (w:World) (b:n<=9223372036854775807) (d:Rd w A n (ints xs)):
  (GK 153 #[.slice A n c] w (.bool (BV xs 0 10000)):Prop):=by
 go_enter func153,ntmps153
 go_wp2_with (go_at_call 76;refine(Fb _ _ _ xs _ _ _ b d).mono ?_;rintro e w' ⟨rfl,rfl⟩)
 go_ret;exact⟨rfl,rfl⟩
theorem fb (w:World) (x y:Int) (e:TypeId) (g:Nat) (hg:w.heap.size=g):Rd (w.alloc (.cells (Zii x y) e)) (some ⟨g,0,none⟩) 2 (ints [x,y]):=by
 subst hg
 exact(Br w e (Zii x y)).rd rfl (λi hi=>by
  match i,hi with
  |0,_=>rfl
  |1,_=>rfl)
theorem EM (x y d r:Int) (w:World):
  (BT 113 #[Ziiii x y d r] w (.bool (DP x y d r)):Prop):=by
 have c:Hid (DP x y d r=(BV [x,y] 0 10000 && inR d (-2000) 1000000 && inR r 0 5000)):=by unfold Hid DP BV;simp
 rcases jt (BV [x,y] 0 10000) with h1|h1<;>rcases jt (inR d (-2000) 1000000) with h3|h3
 all_goals
  have b:=c.out;rw[h1,h3] at b;have c:=Ai b;clear b
  go_enter func113,ntmps113
  go_wp2_with (first|(go_at_call 73;refine(As _ _ _ _).mono ?_;rintro e w' ⟨rfl,rfl⟩)|(go_at_call 153;refine(Ir _ _ _ [x,y] _ (by omega) ?_).mono ?_;exact fb _ x y _ _ (by simp);rintro e w' ⟨rfl,rfl⟩))
  go_ret;exact⟨Af (by rw[c.out];simp),Ax⟩
theorem Dt (t k l x y d r:Int) (w:World):
  (BT 72 #[AD t k l x y d r] w (.bool (recB t k l x y d r)):Prop):=by
 rcases jt (inR t 0 1000000) with h1|h1
 ·by_cases c:k=1
  ·subst c;rcases jt (inR l (-2000) 2000) with h2|h2
   ·have b:Hid (recB t 1 l x y d r=Hx x y d r):=by unfold Hid recB;simp[h1,h2]
    go_enter func72,ntmps72
    go_wp2_with (first|(go_at_call 84;refine(Ay _ _ _ _).mono ?_;rintro e w' ⟨rfl,rfl⟩))
    all_goals
     go_ret;exact⟨Af (by rw[b.out];simp[Hx, *]),Ax⟩
   ·have b:Hid (recB t 1 l x y d r=false):=by unfold Hid recB;simp[h1,h2]
    go_enter func72,ntmps72
    go_wp2_with (first|(go_at_call 84;refine(Ay _ _ _ _).mono ?_;rintro e w' ⟨rfl,rfl⟩))
    go_ret;exact⟨Af (by rw[b.out]),Ax⟩
  ·have e1:(k==1)=false:=by simpa using c
   by_cases k2:k=2
   ·subst k2;rcases jt (l==0) with h2|h2
    ·have b:Hid (recB t 2 l x y d r=DP x y d r):=by unfold Hid recB;simp[h1,h2]
     go_enter func72,ntmps72
     go_wp2_with (first|(go_at_call 84;refine(Ay _ _ _ _).mono ?_;rintro e w' ⟨rfl,rfl⟩)|(go_at_call 110;refine(GR _ _ _ _ _).mono ?_;rintro e w' ⟨rfl,rfl⟩))
     go_ret;exact⟨Af (by rw[b.out]),Ax⟩
    ·have b:Hid (recB t 2 l x y d r=false):=by unfold Hid recB;simp[h1,h2]
     go_enter func72,ntmps72
     go_wp2_with (first|(go_at_call 84;refine(Ay _ _ _ _).mono ?_;rintro e w' ⟨rfl,rfl⟩))
     go_ret;exact⟨Af (by rw[b.out]),Ax⟩
   ·have e2:(k==2)=false:=by simpa using k2
    by_cases k3:k=3
    ·subst k3;rcases jt (l==0) with h2|h2
     ·have b:Hid (recB t 3 l x y d r=Hx x y d r):=by unfold Hid recB;simp[h1,h2]
      go_enter func72,ntmps72
      go_wp2_with (first|(go_at_call 84;refine(Ay _ _ _ _).mono ?_;rintro e w' ⟨rfl,rfl⟩))
      all_goals
       go_ret;exact⟨Af (by rw[b.out];simp[Hx, *]),Ax⟩
     ·have b:Hid (recB t 3 l x y d r=false):=by unfold Hid recB;simp[h1,h2]
      go_enter func72,ntmps72
      go_wp2_with (first|(go_at_call 84;refine(Ay _ _ _ _).mono ?_;rintro e w' ⟨rfl,rfl⟩))
      go_ret;exact⟨Af (by rw[b.out]),Ax⟩
    ·have i:(k==3)=false:=by simpa using k3
     have b:Hid (recB t k l x y d r=false):=by unfold Hid recB;simp[h1,c,k2,k3]
     go_enter func72,ntmps72
     go_wp2_with (first|(go_at_call 84;refine(Ay _ _ _ _).mono ?_;rintro e w' ⟨rfl,rfl⟩))
     go_ret;exact⟨Af (by rw[b.out]),Ax⟩
 ·have b:Hid (recB t k l x y d r=false):=by unfold Hid recB;simp[h1]
  go_enter func72,ntmps72
  go_wp2_with (first|(go_at_call 84;refine(Ay _ _ _ _).mono ?_;rintro e w' ⟨rfl,rfl⟩))
  go_ret;exact⟨Af (by rw[b.out]),Ax⟩
theorem Ed (t k l x y d r:Int) (w:World):
  (BT 81 #[AD t k l x y d r] w (.bool (recB t k l x y d r)):Prop):=by
 rcases jt (inR t 0 1000000) with h1|h1
 ·by_cases c:k=1
  ·subst c;rcases jt (inR l (-2000) 2000) with h2|h2
   ·have b:Hid (recB t 1 l x y d r=Hx x y d r):=by unfold Hid recB;simp[h1,h2]
    go_enter func81,ntmps81
    go_wp2_with (first|(go_at_call 73;refine(As _ _ _ _).mono ?_;rintro e w' ⟨rfl,rfl⟩))
    all_goals
     go_ret;exact⟨Af (by rw[b.out];simp[Hx, *]),Ax⟩
   ·have b:Hid (recB t 1 l x y d r=false):=by unfold Hid recB;simp[h1,h2]
    go_enter func81,ntmps81
    go_wp2_with (first|(go_at_call 73;refine(As _ _ _ _).mono ?_;rintro e w' ⟨rfl,rfl⟩))
    go_ret;exact⟨Af (by rw[b.out]),Ax⟩
  ·have e1:(k==1)=false:=by simpa using c
   by_cases k2:k=2
   ·subst k2;rcases jt (l==0) with h2|h2
    ·have b:Hid (recB t 2 l x y d r=DP x y d r):=by unfold Hid recB;simp[h1,h2]
     go_enter func81,ntmps81
     go_wp2_with (first|(go_at_call 73;refine(As _ _ _ _).mono ?_;rintro e w' ⟨rfl,rfl⟩)|(go_at_call 113;refine(EM _ _ _ _ _).mono ?_;rintro e w' ⟨rfl,i⟩))
     go_ret;exact⟨Af (by rw[b.out]),Below.trans Ax (i.mono Cr)⟩
    ·have b:Hid (recB t 2 l x y d r=false):=by unfold Hid recB;simp[h1,h2]
     go_enter func81,ntmps81
     go_wp2_with (first|(go_at_call 73;refine(As _ _ _ _).mono ?_;rintro e w' ⟨rfl,rfl⟩))
     go_ret;exact⟨Af (by rw[b.out]),Ax⟩
   ·have e2:(k==2)=false:=by simpa using k2
    by_cases k3:k=3
    ·subst k3;rcases jt (l==0) with h2|h2
     ·have b:Hid (recB t 3 l x y d r=Hx x y d r):=by unfold Hid recB;simp[h1,h2]
      go_enter func81,ntmps81
      go_wp2_with (first|(go_at_call 73;refine(As _ _ _ _).mono ?_;rintro e w' ⟨rfl,rfl⟩))
      all_goals
       go_ret;exact⟨Af (by rw[b.out];simp[Hx, *]),Ax⟩
     ·have b:Hid (recB t 3 l x y d r=false):=by unfold Hid recB;simp[h1,h2]
      go_enter func81,ntmps81
      go_wp2_with (first|(go_at_call 73;refine(As _ _ _ _).mono ?_;rintro e w' ⟨rfl,rfl⟩))
      go_ret;exact⟨Af (by rw[b.out]),Ax⟩
    ·have j:(k==3)=false:=by simpa using k3
     have b:Hid (recB t k l x y d r=false):=by unfold Hid recB;simp[h1,c,k2,k3]
     go_enter func81,ntmps81
     go_wp2_with (first|(go_at_call 73;refine(As _ _ _ _).mono ?_;rintro e w' ⟨rfl,rfl⟩))
     go_ret;exact⟨Af (by rw[b.out]),Ax⟩
 ·have b:Hid (recB t k l x y d r=false):=by unfold Hid recB;simp[h1]
  go_enter func81,ntmps81
  go_wp2_with (first|(go_at_call 73;refine(As _ _ _ _).mono ?_;rintro e w' ⟨rfl,rfl⟩))
  go_ret;exact⟨Af (by rw[b.out]),Ax⟩
theorem Hi.ne {r:List (Option Nat)} {B g:Nat} (h:Hi r B) (hg:g<B): ∀s∈r,s≠some g:=λs b e=>by have:=h s b g e;omega
theorem Lo.ne {r:List (Option Nat)} {B g:Nat} (h:Lo r B) (hg:B<=g): ∀s∈r,s≠some g:=λs b e=>by have:=h s b g e;omega
theorem Blk.touch {w w':World} {g:Nat} {t:TypeId} {cs:Array Value} {r:List (Option Nat)} (h:Blk w g t cs) (T:A9 w w' r) (b: ∀s∈r,s≠some g):Blk w' g t cs:=
 (T.block g h.lt b).trans h
theorem Blk.newN (W:World) (t:TypeId) (cs:Array Value) {g:Nat} (hg:W.heap.size=g):Blk (W.alloc (.cells cs t)) g t cs:=by subst hg;exact Br W t cs
theorem Zj (w:World) (n m:Nat):(w.drewN n).drewN m=w.drewN (n+m):=by simp[World.drewN,Nat.add_assoc]
theorem Fn {P:Program} {f:FuncId} {args:Array Value} {w:World} {n:Nat} {v:Value} (h:Calls P f args (w.drewN n) λe w'=>e=.returned v∧ ∃m,w'=(w.drewN n).drewN m):Calls P f args (w.drewN n) λe w'=>e=.returned v∧ ∃m,w'=w.drewN m:=
 h.mono λ_ _ ⟨b,m,c⟩=>⟨b,n+m,by rw[c,Zj]⟩
theorem BL {P:Program} {f:FuncId} {args:Array Value} {w:World} {n:Nat} {v:Value} (h:Calls P f args (w.drewN n) λe w'=>e=.returned v∧w.drewN n=w'):Calls P f args (w.drewN n) λe w'=>e=.returned v∧ ∃m,w'=w.drewN m:=
 h.mono λ_ _ ⟨b,c⟩=>⟨b,n,c.symm⟩
theorem Tl (a b:Int):Int.gcd b (a.tmod b)=Int.gcd a b:=by
 unfold Int.gcd;rw[Int.natAbs_tmod,Nat.gcd_comm a.natAbs b.natAbs,Nat.gcd_rec b.natAbs a.natAbs,Nat.gcd_comm]
theorem Xi (a:Int) {b:Int} (h:b≠0):(a.tmod b).natAbs<b.natAbs:=by
 rw[Int.natAbs_tmod];exact Nat.mod_lt _ Aa
theorem Tm (a:Int):(Int.gcd a 0:Int)=(a.natAbs:Int):=by unfold Int.gcd;simp
theorem Vk {a b:Int} (ha:a.natAbs<=1000000) (c:b.natAbs<=1000000):Int.gcd a b<=1000000:=by
 unfold Int.gcd
 by_cases h:b.natAbs=0
 ·rw[h,Nat.gcd_zero_right];exact ha
 ·exact Ch (Nat.le_of_dvd Aa (Nat.gcd_dvd_right _ _)) c
theorem SH (x:Int) (w:World) (h:x.natAbs<=1000000):
  (GK 111 #[ZI x] w (ZI x.natAbs):Prop):=by
 have c: -1000000<=x:=Aa;have d:x<=1000000:=Aa;have b:Hid ((x.natAbs:Int)=if x< -x then-x else x):=by unfold Hid;split<;>omega
 clear h
 go_enter func111,ntmps111
 go_wp2
 all_goals
  go_ret;exact⟨Bb (by rw[b.out];first|(rw[AA (by omega)];done)|(rw[Ak (by omega)];done)),rfl⟩
theorem SI (x:Int) (w:World) (h:x.natAbs<=1000000):
  (GK 154 #[ZI x] w (ZI x.natAbs):Prop):=by
 have c: -1000000<=x:=Aa;have d:x<=1000000:=Aa;have b:Hid ((x.natAbs:Int)=if x< -x then-x else x):=by unfold Hid;split<;>omega
 clear h
 go_enter func154,ntmps154
 go_wp2
 all_goals
  go_ret;exact⟨Bb (by rw[b.out];first|(rw[AA (by omega)];done)|(rw[Ak (by omega)];done)),rfl⟩
theorem Hg (a b:Int) (w:World) (ha:a.natAbs<=1000000) (j:b.natAbs<=1000000):
  Calls prog 78 (Zii a b) w λe w'=>e=.returned (ZI (Int.gcd a b:Int))∧ ∃m,w'=w.drewN m:=by
 go_enter func78,ntmps78
 go_wp2
 go_loopw [0,1] (λx y wr=> ∃(c d:Int) (u:Nat),x=.int .i64 c∧y=.int .i64 d∧c.natAbs<=1000000∧d.natAbs<=1000000∧Int.gcd c d=Int.gcd a b∧wr=w.drewN u) (λ_ y _=>(intOf y).natAbs)
 case atStart=>exact⟨a,b,0,rfl,rfl,ha,j,rfl,rfl⟩
 case round=>
  obtain⟨c,d,u,rfl,rfl,p,s,F,rfl⟩:=hrel;have D:=Ai F;clear F
  by_cases E:d=0
  ·subst E;have HV:Hid ((c.natAbs:Int)=(Int.gcd a b:Int)):=by unfold Hid;rw[<-D.out,Tm]
   have G:=Ai p;clear p s ha j
   go_wp2_with (go_at_call 111;refine(SH _ _ G.out).mono ?_;rintro e w' ⟨rfl,rfl⟩)
   go_ret;exact⟨Bb (by first|exact HV.out|rfl),u,rfl⟩
  ·have i:=Ai (Xi c E);have H:=Ai (Tl c d);have hw:=Bg (c.tmod d) (by have:=i.out;omega)
   have z:=Ai s;clear p s ha j
   go_wp2_with fail
   go_quiet (fail)
   go_wp2
   go_roundw
   case rel=>exact⟨d,c.tmod d,_,rfl,by first|rfl|rw[hw],z.out,Ch (Nat.le_of_lt i.out) z.out,H.out.trans D.out,Zj _ _ _⟩
   case measure=>first|exact i.out|(simp only[intOf,hw];exact i.out)
theorem D9 (a b:Int) (w:World) (ha:a.natAbs<=1000000) (G:b.natAbs<=1000000):
  Calls prog 116 (Zii a b) w λe w'=>e=.returned (ZI (Int.gcd a b:Int))∧ ∃m,w'=w.drewN m:=by
 have p:=Ai ha;have s:=Ai G;have j:Hid (Int.gcd (a.natAbs:Int) (b.natAbs:Int)=Int.gcd a b):=by unfold Hid Int.gcd;simp
 clear ha G
 go_enter func116,ntmps116
 go_wp2_with fail
 refine(SI _ _ p.out).mono ?_;rintro e w' ⟨rfl,rfl⟩
 go_wp2_with fail
 refine(SI _ _ s.out).mono ?_;rintro e w' ⟨rfl,rfl⟩;go_wp2
 go_loopw [0,1] (λx y wr=> ∃(c d:Int) (u:Nat),x=.int .i64 c∧y=.int .i64 d∧0<=c∧c<=1000000∧0<=d∧d<=1000000∧Int.gcd c d=Int.gcd a b∧wr=w.drewN u) (λ_ y _=>(intOf y).natAbs)
 case atStart=>exact⟨_,_,0,rfl,rfl,by omega,by have:=p.out;omega,by omega,by have:=s.out;omega,j.out,rfl⟩
 case round=>
  obtain⟨c,d,u,rfl,rfl,E,N,L,M,I,rfl⟩:=hrel;have D:=Ai I;clear I
  by_cases F:d=0
  ·subst F;have HV:Hid (c=(Int.gcd a b:Int)):=by unfold Hid;rw[<-D.out,Tm];omega
   go_wp2;go_ret;exact⟨Bb HV.out,u,rfl⟩
  ·have dp:0<d:=Aa;have i:=Ai (Xi c F);have J:=Ai (Tl c d);have t0:0<=c.tmod d:=Int.tmod_nonneg _ E;have t1:c.tmod d<=1000000:=by have:=i.out;omega
   have hw:=Bg (c.tmod d);have H:c.tmod d=c%d:=Int.tmod_eq_emod_of_nonneg E;have z:=Ai H;clear H
   go_wp2_with fail
   go_quiet (fail)
   go_wp2
   go_roundw
   case rel=>exact⟨d,c.tmod d,_,rfl,by first|rfl|rw[hw]|rw[z.out],L,M,t0,t1,J.out.trans D.out,Zj _ _ _⟩
   case measure=>first|exact i.out|(simp only[intOf,hw];exact i.out)|(simp only[intOf,<-z.out];exact i.out)
def DO (c s h:Int):Bool:=inR h 1 1000 && (inR c 1 1000 && (inR s (-1000) 1000 && (!decide (s=0) && (decide (c*c+s*s=h*h) && decide (((Int.gcd (Int.gcd c s:Int) h:Nat):Int)=1)))))
def EQ (xs:List Int) (n:Int) (j:Nat):Bool:=decide (0<=xs.getD j 0) && (decide (xs.getD j 0<n) && (decide (j=0)||decide (xs.getD (j-1) 0<xs.getD j 0)))
def Fq (xs:List Int) (n:Int) (k:Nat):Bool:=(List.range k).all (EQ xs n)
def FF (xs:List Int) (n:Int):Bool:=Fq xs n xs.length
theorem OF (xs:List Int) (n:Int) (k:Nat):Fq xs n (k+1)=(Fq xs n k && EQ xs n k):=by unfold Fq;rw[I6,List.all_append];simp
theorem OE {xs:List Int} {n:Int} {k:Nat} (b:k<xs.length) (h:EQ xs n k=false):FF xs n=false:=by
 rw[JV];intro c;unfold FF Fq at c;rw[List.all_eq_true] at c;rw[c k (Eo.2 b)] at h;cases h
theorem Sh {xs:List Int} {n:Int} (h:FF xs n=true): ∀p∈xs,0<=p∧p<n:=λp d=>by
 obtain⟨k,c,rfl⟩:=List.getElem_of_mem d;unfold FF Fq at h;rw[List.all_eq_true] at h;have b:=h k (Eo.2 c);unfold EQ at b;rw[CD,CD,CJ c] at b;exact⟨by simpa using b.1,by simpa using b.2.1⟩
theorem Fx (A:Option Addr) (q c:Nat) (xs:List Int) (n:Int) (w:World) (Q:q<=2097152) (E:Rd w A q (ints xs)):
  (BT 75 (Gb A q c n) w (.bool (FF xs n)):Prop):=by
 have F:=Ai E.len
 go_enter func75,ntmps75
 go_wp2
 go_loopw [5,6,9] (λ_ _ i wr=> ∃k u:Nat,k<=q∧i=.int .i64 k∧Fq xs n k=true∧wr=w.drewN u) (λ_ _ i _=>q-(intOf i).toNat)
 case atStart=>exact⟨0,0,AZ _,rfl,rfl,rfl⟩
 case round=>
  obtain⟨k,u,O,rfl,p,rfl⟩:=hrel;have D:=Ai p;clear p
  by_cases y:k<q
  ·have G:(k:Int)<(q:Int):=Aa;obtain⟨ad,rfl,L⟩:=E.int y;have j:=Ai (OF xs n k);have d:Hid (EQ xs n k=false->FF xs n=false):=λh=>OE (by rw[F.out];exact y) h
   by_cases s:k=0
   ·subst s;rw[Gu] at L;have b:Hid (EQ xs n 0=(decide (0<=xs.getD 0 0) && decide (xs.getD 0 0<n))):=by unfold Hid EQ;simp
    generalize xs.getD 0 0=x at*
    by_cases I:x<0
    ·have HV:=Ai (d.out (by rw[b.out,BR Aa];rfl))
     clear d b j;go_wp2;go_ret;exact⟨by rw[HV.out];rfl,(by first|exact Ba G6 _|exact Ba (Ba G6 _) _)⟩
    ·by_cases J:n<=x
     ·have HV:=Ai (d.out (by rw[b.out,BR (show¬x<n by omega)];simp))
      clear d b j;go_wp2;go_ret;exact⟨by rw[HV.out];rfl,(by first|exact Ba G6 _|exact Ba (Ba G6 _) _)⟩
     ·have HV:Hid (Fq xs n (0+1)=true):=by unfold Hid;rw[j.out,D.out,b.out,BC (show 0<=x by omega),BC (show x<n by omega)];rfl
      clear d b j;go_wp2
      go_roundw
      case rel=>exact⟨0+1,_,by omega,by go_num,HV.out,rfl⟩
      case measure=>simp[intOf];omega
   ·obtain⟨_,⟨⟩,R⟩:=E.int (show k-1<q by omega)
    have b:Hid (EQ xs n k=(decide (0<=xs.getD k 0) && (decide (xs.getD k 0<n) && decide (xs.getD (k-1) 0<xs.getD k 0)))):=by unfold Hid EQ;simp[s]
    generalize xs.getD k 0=x at*;generalize xs.getD (k-1) 0=z at*;have S:(0:Int)<(k:Int):=Aa;have M:decide (0<k)=true:=BC Aa;have T:((k:Int)-1).toNat=k-1:=Aa;have U:=Bg ((k:Int)-1)
    by_cases I:x<0
    ·have HV:=Ai (d.out (by rw[b.out,BR Aa];rfl))
     clear d b j;go_wp2;go_ret;exact⟨by rw[HV.out];rfl,(by first|exact Ba G6 _|exact Ba (Ba G6 _) _)⟩
    ·by_cases J:n<=x
     ·have HV:=Ai (d.out (by rw[b.out,BR (show¬x<n by omega)];simp))
      clear d b j;go_wp2;go_ret;exact⟨by rw[HV.out];rfl,(by first|exact Ba G6 _|exact Ba (Ba G6 _) _)⟩
     ·by_cases N:x<=z
      ·have HV:=Ai (d.out (by rw[b.out,BR (show¬z<x by omega)];simp))
       clear d b j;go_wp2;go_ret;exact⟨by rw[HV.out];rfl,(by first|exact Ba G6 _|exact Ba (Ba G6 _) _)⟩
      ·have HV:Hid (Fq xs n (k+1)=true):=by unfold Hid;rw[j.out,D.out,b.out,BC (show 0<=x by omega),BC (show x<n by omega),BC (show z<x by omega)];rfl
       clear d b j;go_wp2
       go_roundw
       case rel=>exact⟨k+1,_,by omega,by go_num,HV.out,rfl⟩
       case measure=>simp[intOf];omega
  ·obtain rfl:k=q:=Aa;have H:Hid (FF xs n=true):=by unfold Hid FF;rw[F.out];exact D.out
   go_wp2;go_ret;exact⟨by rw[H.out];rfl,(by first|exact Ba G6 _|exact Ba (Ba G6 _) _)⟩
theorem Fy (A:Option Addr) (q c:Nat) (xs:List Int) (n:Int) (w:World) (T:q<=2097152) (G:Rd w A q (ints xs)):
  (BT 114 (Gb A q c n) w (.bool (FF xs n)):Prop):=by
 have H:=Ai G.len
 go_enter func114,ntmps114
 go_wp2
 go_loopw [5] (λi wr=> ∃k u:Nat,k<=q∧i=.int .i64 k∧Fq xs n k=true∧wr=w.drewN u) (λi _=>q-(intOf i).toNat)
 case atStart=>exact⟨0,0,AZ _,rfl,rfl,rfl⟩
 case round=>
  obtain⟨k,u,S,rfl,p,rfl⟩:=hrel;have D:=Ai p;clear p
  by_cases y:k<q
  ·have I:(k:Int)<(q:Int):=Aa;obtain⟨ad,rfl,O⟩:=G.int y;have j:=Ai (OF xs n k);have d:Hid (EQ xs n k=false->FF xs n=false):=λh=>OE (by rw[H.out];exact y) h
   by_cases s:k=0
   ·subst s;rw[Gu] at O;have b:Hid (EQ xs n 0=(decide (0<=xs.getD 0 0) && decide (xs.getD 0 0<n))):=by unfold Hid EQ;simp
    generalize xs.getD 0 0=x at*
    by_cases E:x<0
    ·have HV:=Ai (d.out (by rw[b.out,BR Aa];rfl))
     clear d b j
     go_wp2_with fail
     go_quiet (fail)
     go_wp2;go_ret;exact⟨by rw[HV.out];rfl,(by first|exact Ba G6 _|exact Ba (Ba G6 _) _)⟩
    ·have L:decide (x<0)=false:=by simpa using E
     by_cases F:n<=x
     ·have HV:=Ai (d.out (by rw[b.out,BR (show¬x<n by omega)];simp))
      clear d b j
      go_wp2_with fail
      go_quiet (fail)
      go_wp2;go_ret;exact⟨by rw[HV.out];rfl,(by first|exact Ba G6 _|exact Ba (Ba G6 _) _)⟩
     ·have M:decide (n<=x)=false:=by simpa using F
      have HV:Hid (Fq xs n (0+1)=true):=by unfold Hid;rw[j.out,D.out,b.out,BC (show 0<=x by omega),BC (show x<n by omega)];rfl
      clear d b j
      go_wp2_with fail
      go_quiet (fail)
      go_wp2
      go_roundw
      case rel=>exact⟨0+1,_,by omega,by go_num,HV.out,rfl⟩
      case measure=>simp[intOf];omega
   ·obtain⟨_,⟨⟩,U⟩:=G.int (show k-1<q by omega)
    have b:Hid (EQ xs n k=(decide (0<=xs.getD k 0) && (decide (xs.getD k 0<n) && decide (xs.getD (k-1) 0<xs.getD k 0)))):=by unfold Hid EQ;simp[s]
    generalize xs.getD k 0=x at*;generalize xs.getD (k-1) 0=z at*;have V:(0:Int)<(k:Int):=Aa;have R:decide (0<k)=true:=BC Aa;have W:((k:Int)-1).toNat=k-1:=Aa;have X:=Bg ((k:Int)-1)
    by_cases E:x<0
    ·have HV:=Ai (d.out (by rw[b.out,BR Aa];rfl))
     clear d b j
     go_wp2_with fail
     go_quiet (fail)
     go_wp2;go_ret;exact⟨by rw[HV.out];rfl,(by first|exact Ba G6 _|exact Ba (Ba G6 _) _)⟩
    ·have L:decide (x<0)=false:=by simpa using E
     by_cases F:n<=x
     ·have HV:=Ai (d.out (by rw[b.out,BR (show¬x<n by omega)];simp))
      clear d b j
      go_wp2_with fail
      go_quiet (fail)
      go_wp2;go_ret;exact⟨by rw[HV.out];rfl,(by first|exact Ba G6 _|exact Ba (Ba G6 _) _)⟩
     ·have M:decide (n<=x)=false:=by simpa using F
      by_cases N:x<=z
      ·have HV:=Ai (d.out (by rw[b.out,BR (show¬z<x by omega)];simp))
       clear d b j
       go_wp2_with fail
       go_quiet (fail)
       go_wp2;go_ret;exact⟨by rw[HV.out];rfl,(by first|exact Ba G6 _|exact Ba (Ba G6 _) _)⟩
      ·have Q:decide (x<=z)=false:=by simpa using N
       have HV:Hid (Fq xs n (k+1)=true):=by unfold Hid;rw[j.out,D.out,b.out,BC (show 0<=x by omega),BC (show x<n by omega),BC (show z<x by omega)];rfl
       clear d b j
       go_wp2_with fail
       go_quiet (fail)
       go_wp2
       go_roundw
       case rel=>exact⟨k+1,_,by omega,by go_num,HV.out,rfl⟩
       case measure=>simp[intOf];omega
  ·obtain rfl:k=q:=Aa;have J:Hid (FF xs n=true):=by unfold Hid FF;rw[H.out];exact D.out
   go_wp2;go_ret;exact⟨by rw[J.out];rfl,(by first|exact Ba G6 _|exact Ba (Ba G6 _) _)⟩

theorem ET {a b:Int} (h:a.tmod b=0):a.tdiv b=a/b:=by
 have c:b∣a:=Int.dvd_of_tmod_eq_zero h;rw[Int.tdiv_eq_ediv];simp[c]
theorem EU {a b:Int} (ha:a<0) (d:0<b) (h:a.tmod b≠0):a.tdiv b-1=a/b:=by
 have i: ¬b∣a:=λc=>h (Int.tmod_eq_zero_of_dvd c);rw[Int.tdiv_eq_ediv,Ak (by rintro(c|c);omega;exact i c),Int.sign_eq_one_of_pos d]
 omega
theorem Fc {a b:Int} (c:0<b) (d: -4611686018427387904<=a) (i:a<=4611686018427387904): -4611686018427387904<=a/b∧a/b<=4611686018427387904:=by
 have:=Int.ediv_mul_le a (show b≠0 by omega)
 constructor
 ·rcases Int.le_total 0 a with h|h
  ·have:=Int.ediv_nonneg h (by omega:(0:Int)<=b);omega
  ·have:a<=a/b:=by
    have:=Int.le_ediv_of_mul_le (a:=a) (b:=a) c (by
     have:a*b<=a*1:=Int.mul_le_mul_of_nonpos_left h Aa;omega)
    exact this
   omega
 ·rcases Int.le_total 0 a with h|h
  ·have:=Int.ediv_le_self b h;omega
  ·have:a/b<=0:=by
    have j:a/b*b<=0:=Aa;rcases Eg 0 (a/b) with h6|h6
    ·have:=Int.mul_pos h6 c;omega
    ·exact h6
   omega
theorem Ec (a b:Int) (w:World) (x: -4611686018427387904<=a) (y:a<=4611686018427387904) (c:0<b) (F:b<=4611686018427387904):
  (GK 241 (Zii a b) w (ZI (a/b)):Prop):=by
 obtain⟨G,H⟩:=Fc c x y
 by_cases M:0<=a
 ·have e1:decide (a<0)=false:=Bq;have e2:decide (b<0)=false:=Bq;rcases jt (a%b !=0) with h|h
  ·go_enter func241,ntmps241
   go_wp2;go_ret;exact⟨rfl,rfl⟩
  ·go_enter func241,ntmps241
   go_wp2;go_ret;exact⟨rfl,rfl⟩
 ·have z:=Int.tdiv_eq_ediv (a:=a) (b:=b)
  have p: -4611686018427387904<=a.tdiv b∧a.tdiv b<=4611686018427387904:=by
   by_cases s:a.tmod b=0
   ·rw[ET s];omega
   ·have:=EU Aa c s;have:=Fc c x y
    have:a.tdiv b<=0:=by
     rcases Eg 0 (a/b) with h6|h6
     ·have L:=Int.mul_pos h6 c;have:=Int.ediv_mul_le a (show b≠0 by omega)
      omega
     ·rcases Eg (a/b) 0 with h8|h8
      ·omega
      ·have E:a/b=0:=Aa;have:=Int.lt_ediv_add_one_mul_self a c;have j:=Int.ediv_mul_le a (show b≠0 by omega)
       rw[E] at j;omega
    omega
  clear z;have D:Hid (a.tmod b=0->a.tdiv b=a/b):=λh=>ET h;have d:Hid (a.tmod b≠0->a.tdiv b-1=a/b):=λh=>EU Aa c h;obtain⟨I,J⟩:=p;generalize z:a.tdiv b=q at*;generalize s:a.tmod b=m at*;have e1:decide (a<0)=true:=Bq;have e2:decide (b<0)=false:=Bq;rcases jt (m !=0) with h|h
  ·have i:Hid (q-1=a/b):=d.out CB
   go_enter func241,ntmps241
   go_wp2;go_ret;exact⟨Bb i.out,rfl⟩
  ·have i:Hid (q=a/b):=D.out CB
   go_enter func241,ntmps241
   go_wp2;go_ret;exact⟨Bb i.out,rfl⟩
theorem Ex (a b:Int) (w:World) (p: -4611686018427387904<=a) (s:a<=4611686018427387904) (c:0<b) (d:b<=4611686018427387904):
  (GK 196 (Zii a b) w (ZI (-(-a/b))):Prop):=by
 obtain⟨i,j⟩:=Fc (a:= -a) c Aa Aa
 go_enter func196,ntmps196
 go_wp2_with (go_at_call 241;refine(Ec _ _ _ Aa Aa Aa Aa).mono ?_;rintro e w' ⟨rfl,rfl⟩)
 go_ret;exact⟨rfl,rfl⟩
theorem LS (A:Option Addr) (n c:Nat) (w:World) (_:n<=9223372036854775807):
  (GK 74 #[.slice A n c] w (ZI n):Prop):=by
 go_enter func74,ntmps74
 go_wp2;go_ret;exact⟨rfl,rfl⟩
theorem Ee (a b:Int) (w:World) (x: -4611686018427387904<=a) (y:a<=4611686018427387904) (c:0<b) (F:b<=4611686018427387904):
  (GK 210 (Zii a b) w (ZI (a/b)):Prop):=by
 obtain⟨G,H⟩:=Fc c x y
 by_cases M:0<=a
 ·have e1:decide (a<0)=false:=Bq;have e2:decide (b<0)=false:=Bq;rcases jt (a%b !=0) with h|h
  ·go_enter func210,ntmps210
   go_wp2;go_ret;exact⟨rfl,rfl⟩
  ·go_enter func210,ntmps210
   go_wp2;go_ret;exact⟨rfl,rfl⟩
 ·have z:=Int.tdiv_eq_ediv (a:=a) (b:=b)
  have p: -4611686018427387904<=a.tdiv b∧a.tdiv b<=4611686018427387904:=by
   by_cases s:a.tmod b=0
   ·rw[ET s];omega
   ·have:=EU Aa c s;have:=Fc c x y
    have:a.tdiv b<=0:=by
     rcases Eg 0 (a/b) with h6|h6
     ·have L:=Int.mul_pos h6 c;have:=Int.ediv_mul_le a (show b≠0 by omega)
      omega
     ·rcases Eg (a/b) 0 with h8|h8
      ·omega
      ·have E:a/b=0:=Aa;have:=Int.lt_ediv_add_one_mul_self a c;have j:=Int.ediv_mul_le a (show b≠0 by omega)
       rw[E] at j;omega
    omega
  clear z;have D:Hid (a.tmod b=0->a.tdiv b=a/b):=λh=>ET h;have d:Hid (a.tmod b≠0->a.tdiv b-1=a/b):=λh=>EU Aa c h;obtain⟨I,J⟩:=p;generalize z:a.tdiv b=q at*;generalize s:a.tmod b=m at*;have e1:decide (a<0)=true:=Bq;have e2:decide (b<0)=false:=Bq;rcases jt (m !=0) with h|h
  ·have i:Hid (q-1=a/b):=d.out CB
   go_enter func210,ntmps210
   go_wp2;go_ret;exact⟨Bb i.out,rfl⟩
  ·have i:Hid (q=a/b):=D.out CB
   go_enter func210,ntmps210
   go_wp2;go_ret;exact⟨Bb i.out,rfl⟩
theorem Hv (x:Int):bits .and .i64 x 1=x%2:=by
 show IntKind.i64.wrap ((BitVec.ofInt 64 x &&& BitVec.ofInt 64 1).toNat:Int)=_;have c:(BitVec.ofInt 64 (1:Int)).toNat=1:=Ah;have b:(BitVec.ofInt 64 x).toNat=(x%18446744073709551616).toNat:=by rw[BitVec.toNat_ofInt];rfl
 rw[BitVec.toNat_and,b,c,Nat.and_one_is_mod,IntKind.wrap_i64];omega
theorem EB (a b:Int) (w:World) (i: -4611686018427387904<=a) (j:a<=4611686018427387904) (d:0<b) (c:b<=4611686018427387904):
  (GK 167 (Zii a b) w (ZI (-(-a/b))):Prop):=by
 have s:=Bg (-a);have p:=Fc (a:= -a) (b:=b) d Aa Aa;have x:=Bg (-(-a/b))
 go_enter func167,ntmps167
 go_wp2_with fail
 refine(Ee (-a) b _ Aa Aa d c).mono ?_;rintro e w' ⟨rfl,rfl⟩;go_wp2;go_ret;exact⟨rfl,rfl⟩
theorem GN (a:Addr) (i j:Nat) (h:j≠0):(⟨(a.add i).block,(a.add i).off+j,none⟩:Addr)=a.add (i+j):=by
 rw[<-Bv];generalize a.add i=b;unfold Addr.add;rw[Ak h]
theorem Rd.fourS {w:World} {A:Option Addr} {n k:Nat} {xs:List Int} (h:Rd w A (n*4) (ints xs)) (j:k<n): ∃ad,A=some ad∧w.cell? (ad.add (k*4))=ZS (xs.getD (k*4) 0)∧w.cell? ⟨(ad.add (k*4)).block,(ad.add (k*4)).off+1,none⟩=ZS (xs.getD (k*4+1) 0)∧w.cell? ⟨(ad.add (k*4)).block,(ad.add (k*4)).off+2,none⟩=ZS (xs.getD (k*4+2) 0)∧w.cell? ⟨(ad.add (k*4)).block,(ad.add (k*4)).off+3,none⟩=ZS (xs.getD (k*4+3) 0):=by
 obtain⟨ad,rfl,b⟩:=h.int (show k*4+0<n*4 by omega)
 obtain⟨_,⟨⟩,c⟩:=h.int (show k*4+1<n*4 by omega)
 obtain⟨_,⟨⟩,d⟩:=h.int (show k*4+2<n*4 by omega)
 obtain⟨_,⟨⟩,i⟩:=h.int (show k*4+3<n*4 by omega)
 rw[Hb] at b;rw[<-GN _ _ 1 Ah] at c;rw[<-GN _ _ 2 Ah] at d;rw[<-GN _ _ 3 Ah] at i;exact⟨_,rfl,b,c,d,i⟩
def Fk (xs:List Int) (k:Nat):Bool:=DP (xs.getD (k*4) 0) (xs.getD (k*4+1) 0) (xs.getD (k*4+2) 0) (xs.getD (k*4+3) 0)
def Dg (xs:List Int) (n:Nat):Bool:=(List.range n).all (Fk xs)
theorem OQ (xs:List Int) (n:Nat):Dg xs (n+1)=(Dg xs n && Fk xs n):=by unfold Dg;rw[I6,List.all_append];simp
theorem My {xs:List Int} {k n:Nat} (h:Fk xs k=false) (b:k<n):Dg xs n=false:=by
 rw[JV];intro c;rw[List.all_eq_true.1 c k (Eo.2 b)] at h
 cases h
theorem IC {xs:List Int} {k n:Nat} (h:Dg xs n=true) (b:k<n):Fk xs k=true:=List.all_eq_true.1 h k (Eo.2 b)
def BJ (xs:List Int) (n:Nat):Bool:=Dg xs n && decide ((n:Int)<=200)
theorem NE (x y d r:Int) (w:World):
  (BT 289 #[Ziiii x y d r] w (.bool (!(DP x y d r))):Prop):=by
 have b:Below w w (w.alloc (.cells (Ziiii x y d r) 65)):=BU;rcases jt (DP x y d r) with h|h
 all_goals
  go_enter func289,ntmps289
  go_wp2_with fail
  refine(EM x y d r _).mono ?_;rw[h];rintro e w1 ⟨rfl,c⟩;have i:=An b c;go_wp2;go_ret;exact⟨Af (by rw[h];rfl),i⟩
theorem MP (A:Option Addr) (n c:Nat) (xs:List Int) (w:World) (T:n<=1048576) (M:Rd w A (n*4) (ints xs)):
  Calls prog 327 #[.slice A n c,.func (.func 289) #[] #[]] w λe w'=> ∃v:Int,e=.returned (ZI v)∧(decide (v ≥ 0))= !(Dg xs n)∧Below w w w':=by
 go_enter func327,ntmps327
 go_wp2
 go_loopw [8] (λi wr=> ∃k:Nat,k<=n∧i=.int .i64 k∧Dg xs k=true∧Below w w wr)
  (λi _=>n-(intOf i).toNat)
 case atStart=>exact⟨0,AZ _,rfl,rfl,AP _ _⟩
 case round=>
  obtain⟨k,S,rfl,d,b⟩:=hrel;have F:=Ai d;clear d
  by_cases p:k<n
  ·obtain⟨ad,rfl,N,O,Q,R⟩:=(M.below b).fourS p;have I:Hid (Dg xs (k+1)=(Dg xs k && Fk xs k)):=OQ xs k;have H:Hid (Fk xs k=false->Dg xs n=false):=λh=>My h p;have G:Hid (Fk xs k=DP (xs.getD (k*4) 0) (xs.getD (k*4+1) 0) (xs.getD (k*4+2) 0) (xs.getD (k*4+3) 0)):=rfl;have J:(0:Int)<=(k:Int):=Aa;have L:(k:Int)<(n:Int):=Aa;generalize xs.getD (k*4) 0=y at*;generalize xs.getD (k*4+1) 0=z at*;generalize xs.getD (k*4+2) 0=D at*;generalize xs.getD (k*4+3) 0=E at*;rcases jt (DP y z D E) with h|h
   ·have j:=Ai h
    go_wp2_with fail
    refine(NE y z D E _).mono ?_;rw[j.out];rintro e w1 ⟨rfl,s⟩;have x:=An b s;go_wp2
    go_roundw
    case rel=>exact⟨k+1,by omega,by go_num,by rw[I.out,F.out,G.out,j.out];rfl,x⟩
    case measure=>simp[intOf];omega
   ·have j:=Ai h
    go_wp2_with fail
    refine(NE y z D E _).mono ?_;rw[j.out];rintro e w1 ⟨rfl,s⟩;have x:=An b s;go_wp2;go_ret;exact⟨k,rfl,by rw[H.out (by rw[G.out,j.out])];simp,x⟩
  ·obtain rfl:k=n:=Aa;go_wp2;go_ret;exact⟨-1,rfl,by rw[F.out];rfl,b⟩
theorem De (A:Option Addr) (n c:Nat) (xs:List Int) (w:World) (p:n<=1048576) (s:Rd w A (n*4) (ints xs)):
  (BT 231 #[.slice A n c] w (.bool (BJ xs n)):Prop):=by
 have b: ∀W,Rd W A (n*4) (ints xs)->(BT 288 #[.slice A n c,.func (.func 289) #[] #[]] W (.bool (!(Dg xs n))):Prop):=by
  intro W j
  go_enter func288,ntmps288
  go_wp2_with (go_at_call 327;refine(MP _ _ _ xs _ p j).mono ?_;rintro e w' ⟨v,rfl,hv,d⟩)
  go_ret;exact⟨Af (by rw[<-hv]),d⟩
 have i:Hid (BJ xs n=(Dg xs n && decide ((n:Int)<=200))):=rfl
 by_cases h:(n:Int)<=200
 ·go_enter func231,ntmps231
  go_wp2_with fail
  refine(b _ s).mono ?_;rintro e w1 ⟨rfl,d⟩;go_wp2;go_ret;exact⟨Af (by rw[i.out,BC h];simp),d⟩
 ·go_enter func231,ntmps231
  go_wp2_with fail
  go_ret;exact⟨Af (by rw[i.out,BR Aa];simp),AP _ _⟩
theorem Dh (A:Option Addr) (n c:Nat) (xs:List Int) (w:World) (U:n<=1048576) (N:Rd w A (n*4) (ints xs)):
  (BT 213 #[.slice A n c] w (.bool (BJ xs n)):Prop):=by
 have y:Hid (BJ xs n=(Dg xs n && decide ((n:Int)<=200))):=rfl
 go_enter func213,ntmps213
 go_wp2_with fail
 go_loopw [3] (λi wr=> ∃k:Nat,k<=n∧i=.int .i64 k∧Dg xs k=true∧Below w w wr)
  (λi _=>n-(intOf i).toNat)
 case atStart=>exact⟨0,AZ _,rfl,rfl,AP _ _⟩
 case round=>
  obtain⟨k,T,rfl,j,b⟩:=hrel;have x:=Ai j;clear j
  by_cases s:k<n
  ·obtain⟨ad,rfl,O,Q,R,S⟩:=(N.below b).fourS s;have J:Hid (Dg xs (k+1)=(Dg xs k && Fk xs k)):=OQ xs k;have I:Hid (Fk xs k=false->Dg xs n=false):=λh=>My h s;have H:Hid (Fk xs k=DP (xs.getD (k*4) 0) (xs.getD (k*4+1) 0) (xs.getD (k*4+2) 0) (xs.getD (k*4+3) 0)):=rfl;have L:(0:Int)<=(k:Int):=Aa;have M:(k:Int)<(n:Int):=Aa;generalize xs.getD (k*4) 0=D at*;generalize xs.getD (k*4+1) 0=E at*;generalize xs.getD (k*4+2) 0=F at*;generalize xs.getD (k*4+3) 0=G at*;rcases jt (DP D E F G) with h|h
   ·have p:=Ai h;clear h
    go_wp2_with fail
    refine(GR D E F G _).mono ?_;rw[p.out];rintro e w1 ⟨rfl,d⟩;have z:Below w w w1:=by rw[d];exact b.alloc b.size _
    clear d
    go_wp2_with fail
    go_roundw
    case rel=>exact⟨k+1,by omega,by go_num,by rw[J.out,x.out,H.out,p.out];rfl,z⟩
    case measure=>simp[intOf];omega
   ·have p:=Ai h;clear h
    go_wp2_with fail
    refine(GR D E F G _).mono ?_;rw[p.out];rintro e w1 ⟨rfl,d⟩;have z:Below w w w1:=by rw[d];exact b.alloc b.size _
    clear d;go_wp2;go_ret;exact⟨Af (by rw[y.out,I.out (by rw[H.out,p.out])];rfl),z⟩
  ·obtain rfl:k=n:=Aa
   by_cases h:(k:Int)<=200
   ·go_wp2;go_ret;exact⟨Af (by rw[y.out,x.out,Ha];first|rfl|(simp;omega)),b⟩
   ·go_wp2;go_ret;exact⟨Af (by rw[y.out,x.out,Ha];first|rfl|(simp;omega)),b⟩
def fl (ys:List Int) (R:Int) (i k:Nat):Bool:=
 !decide (k=i) && decide ((ys.getD (i*4) 0-ys.getD (k*4) 0)*(ys.getD (i*4) 0-ys.getD (k*4) 0)+(ys.getD (i*4+1) 0-ys.getD (k*4+1) 0)*(ys.getD (i*4+1) 0-ys.getD (k*4+1) 0)<=R*R)
def nrL (ys:List Int) (R:Int) (i:Nat):Nat->List Nat
 |0=> []
 |k+1=>if fl ys R i k=true then nrL ys R i k++ [k] else nrL ys R i k
def apB (ys:List Int) (M:Int) (i k:Nat):Bool:=decide (ys.getD (k*4+2) 0+ys.getD (k*4+3) 0+M<ys.getD (i*4+2) 0-ys.getD (i*4+3) 0)
def Rl (ys:List Int) (n:Nat) (R L M:Int) (i:Nat):Bool:=decide (L<=((nrL ys R i n).length:Int)) && (nrL ys R i n).all (apB ys M i)
theorem LU (ys:List Int) (R:Int) (i:Nat): ∀n,(nrL ys R i n).length<=n∧ ∀k∈nrL ys R i n,k<n
 |0=>⟨Cp _,λ_ h=>by cases h⟩
 |n+1=>by
  obtain⟨a,b⟩:=LU ys R i n;unfold nrL
  split
  ·refine⟨by simp;omega,λk c=> ?_⟩
   rw[List.mem_append] at c;rcases c with c|c
   ·have:=b k c;omega
   ·rw[DD] at c;omega
  ·exact⟨by omega,λk c=>by have:=b k c;omega⟩
def Fw (xs:List Int) (k:Nat):List Int:= [xs.getD (k*4) 0,xs.getD (k*4+1) 0,xs.getD (k*4+2) 0,xs.getD (k*4+3) 0]
def selS (xs:List Int) (ks:List Nat):List Int:=ks.flatMap (Fw xs)
theorem L4 (xs:List Int) (ks:List Nat) (k:Nat):selS xs (ks++ [k])=selS xs ks++Fw xs k:=by unfold selS;simp
def keepTo (ys:List Int) (n:Nat) (R L M:Int) (ks:List Nat):Nat->List Nat
 |0=> []
 |i+1=>if Rl ys n R L M i=true then keepTo ys n R L M ks i else keepTo ys n R L M ks i++ [ks.getD i 0]
def Cy (xs:List Int) (R L M:Int) (ks:List Nat):List Nat:=keepTo (selS xs ks) ks.length R L M ks ks.length
theorem FP (ys:List Int) (n:Nat) (R L M:Int) (ks:List Nat): ∀i,(keepTo ys n R L M ks i).length<=i
 |0=>Cp _
 |i+1=>by
  have:=FP ys n R L M ks i;unfold keepTo
  split
  ·omega
  ·simp;omega
theorem JD {ys:List Int} {n:Nat} {R L M:Int} {ks:List Nat}: ∀ {i:Nat},i<=ks.length-> ∀k∈keepTo ys n R L M ks i,k∈ks
 |0,_,k,h=>by cases h
 |i+1,hi,k,h=>by
  unfold keepTo at h
  split at h
  ·exact JD Aa k h
  ·rw[List.mem_append] at h;rcases h with h|h
   ·exact JD Aa k h
   ·rw[DD] at h;subst h;rw[DE,Db Aa];exact EH _
theorem DW (xs:List Int) (R L M:Int) (ks:List Nat):(Cy xs R L M ks).length<=ks.length:=FP _ _ _ _ _ _ _
theorem Jz {xs:List Int} {R L M:Int} {ks:List Nat}: ∀k∈Cy xs R L M ks,k∈ks:=JD Bk
theorem Oe {ys:List Int} {n:Nat} {R L M:Int} {ks:List Nat}: ∀ {i:Nat},i<=ks.length->(keepTo ys n R L M ks i).length=i->keepTo ys n R L M ks i=ks.take i∧ ∀j,j<i->Rl ys n R L M j=false
 |0,_,_=>⟨by simp[keepTo],λj h=>by omega⟩
 |i+1,hi,h=>by
  have p:=FP ys n R L M ks i;unfold keepTo at h⊢
  split at h
  ·omega
  ·next c=>
   rw[Ak c];obtain⟨a,b⟩:=Oe (ys:=ys) (n:=n) (R:=R) (L:=L) (M:=M) (ks:=ks) (i:=i) Aa CB;refine⟨?_,λj d=> ?_⟩
   ·rw[a,List.take_succ_eq_append_getElem Aa,DE,Db Aa];rfl
   ·by_cases e:j=i
    ·subst e;simpa using c
    ·exact b j Aa
theorem Mm {ys:List Int} {n:Nat} {R L M:Int} {ks:List Nat}: ∀ {i:Nat},(∀j,j<i->Rl ys n R L M j=false)->(keepTo ys n R L M ks i).length=i
 |0,_=>rfl
 |i+1,h=>by
  unfold keepTo;rw[Ak (by rw[h i Aa];decide),Dy,Mm λj b=>h j Aa];rfl
def clF (xs:List Int) (R L M:Int):Nat->List Nat->List Nat
 |0,ks=>ks
 |f+1,ks=>if(Cy xs R L M ks).length=ks.length then ks else clF xs R L M f (Cy xs R L M ks)
theorem SY {xs:List Int} {R L M:Int}: ∀(f g:Nat) (b:List Nat),b.length<=f->b.length<=g->clF xs R L M f b=clF xs R L M g b
 |0,0,_,_,_=>rfl
 |0,g+1,b,h,_=>by
  have:=DW xs R L M b;show b=clF xs R L M (g+1) b;unfold clF;rw[AA Aa]
 |f+1,0,b,_,h=>by
  have:=DW xs R L M b;show clF xs R L M (f+1) b=b;unfold clF;rw[AA Aa]
 |f+1,g+1,b,h1,h2=>by
  have:=DW xs R L M b;unfold clF
  split
  ·rfl
  ·exact SY f g _ Aa Aa
def LE (xs:List Int) (R L M:Int) (ks:List Nat):List Nat:=clF xs R L M ks.length ks
theorem NP {xs:List Int} {R L M:Int} {ks:List Nat} (h:(Cy xs R L M ks).length=ks.length):LE xs R L M ks=ks:=by
 unfold LE
 cases hl:ks.length with
 |zero=>rfl
 |succ f=>unfold clF;rw[AA h]
theorem Zc {xs:List Int} {R L M:Int} {ks:List Nat} (h: ¬(Cy xs R L M ks).length=ks.length):LE xs R L M ks=LE xs R L M (Cy xs R L M ks):=by
 have b:=DW xs R L M ks;unfold LE
 cases hl:ks.length with
 |zero=>omega
 |succ f=>
  conv=>lhs;unfold clF
  rw[Ak h];exact SY _ _ _ Aa Bk
theorem M8 (xs:List Int) (R L M:Int) (b:List Nat):(LE xs R L M b).length<=b.length:=by
 have: ∀f b,(clF xs R L M f b).length<=b.length:=by
  intro f
  induction f with
  |zero=>intro b;exact Cp _
  |succ f ih=>
   intro b;unfold clF
   split
   ·exact Cp _
   ·exact Ch (ih _) (DW xs R L M b)
 exact this _ b
def ruB (R L M:Int):Bool:=inR R 0 10000 && (inR L 1 200 && inR M 0 1000000)
def Po (xs:List Int) (n:Nat) (R L M:Int):Int:=if(BJ xs n && ruB R L M)=true then 0 else 1
def fk (xs:List Int) (n:Nat) (R L M:Int):List Nat:=if Po xs n R L M=0 then LE xs R L M (List.range n) else []
def bitW (n:Nat) (x:Int):List Int:=(List.range n).map λk=>x/((2 ^ (n-1-k):Nat):Int)%2
theorem NG (n:Nat) (x:Int):(bitW n x).length=n:=by unfold bitW;simp
theorem Q4 (n:Nat) (x:Int):BV (bitW n x) 0 1=true:=by
 unfold BV;rw[List.all_eq_true];intro y b;unfold bitW at b;rw[List.mem_map] at b;obtain⟨k,-,rfl⟩:=b;exact CN Aa Aa
def casP (a:Int):List Int->Int
 | []=>1
 |b::r=>(if b=1 then a else 16-a)*casP a r
theorem SQ (a:Int) (b:Int): ∀l,casP a (l++ [b])=casP a l*(if b=1 then a else 16-a)
 | []=>by simp[casP]
 |c::r=>by rw[List.cons_append,casP,casP,SQ a b r,Ga]
theorem Z7 (k:Nat):(16:Int) ^ (k+1)=16*16 ^ k:=by rw[Int.pow_succ,Int.mul_comm]
theorem M7 {a:Int} (i:0<=a) (j:a<=16): ∀l,0<=casP a l∧casP a l<=16 ^ l.length
 | []=>by simp[casP]
 |b::r=>by
  have c:=M7 i j r;rw[casP,Gt,Z7];have d:0<=(if b=1 then a else 16-a)∧(if b=1 then a else 16-a)<=16:=by split<;>omega
  exact⟨Du d.1 c.1,Int.le_trans (ME d.2 c.1) (Gq c.2 Ah)⟩
theorem Er {i j:Nat} (h:i<=j):(16:Int) ^ i<=16 ^ j:=by
 induction h with
 |refl=>exact Int.le_refl _
 |step _ ih=>
  rw[Z7];have:(0:Int)<=16 ^ i:=Int.pow_nonneg Ah;omega
theorem Ls {l:List Int} (h:BV l 0 1=true):0<=l.sum∧l.sum<=l.length:=by
 induction l with
 |nil=>simp
 |cons b r ih=>
  have d:=Jw h (C5 ..);have c:BV r 0 1=true:=by unfold BV at h⊢;rw[List.all_cons,CD] at h;exact h.2
  have:=ih c;rw[List.sum_cons,Gt];omega
def tlS (n:Nat) (a:Int):Nat->List Int
 |0=>List.replicate (n+2) 0
 |x+1=>(tlS n a x).set (bitW n x).sum.toNat ((tlS n a x).getD (bitW n x).sum.toNat 0+casP a (bitW n x))
theorem Ht (n:Nat) (a:Int): ∀x,(tlS n a x).length=n+2
 |0=>by simp[tlS]
 |x+1=>by rw[tlS,List.length_set,Ht n a x]
theorem dx {l:List Int}: ∀ {j:Nat} (_:j<l.length) (v:Int),(l.set j v).sum=l.sum-l.getD j 0+v:=by
 induction l with
 |nil=>intro j h;simp at h
 |cons b r ih=>
  intro j h v
  cases j with
  |zero=>simp;omega
  |succ j=>
   rw[List.set_cons_succ,List.sum_cons,List.sum_cons,ih CB v]
   simp
   omega
theorem Wn (n:Nat) (x:Int):(bitW n x).sum.toNat<n+2∧0<=(bitW n x).sum∧(bitW n x).sum<=n:=by
 have:=Ls (Q4 n x);rw[NG] at this;omega
theorem Wo {n:Nat} {a:Int} (b:0<=a) (c:a<=16): ∀x,(∀v∈tlS n a x,0<=v)∧0<=(tlS n a x).sum∧(tlS n a x).sum<=x*16 ^ n
 |0=>by
  refine⟨λv hv=> ?_,?_,?_⟩
  ·unfold tlS at hv;have:=List.eq_of_mem_replicate hv;omega
  ·rw[show tlS n a 0=List.replicate (n+2) 0 from rfl];simp
  ·rw[show tlS n a 0=List.replicate (n+2) 0 from rfl];simp
 |x+1=>by
  obtain⟨p,q,r⟩:=Wo b c x;have d:=M7 b c (bitW n x);rw[NG] at d;have y:=(Wn n x).1;have z:=Ht n a x;have s:0<=(tlS n a x).getD (bitW n x).sum.toNat 0:=p _ (by rw[DE,Db Aa];exact EH _)
  have i:=dx (l:=tlS n a x) (j:=(bitW n x).sum.toNat) Aa ((tlS n a x).getD (bitW n x).sum.toNat 0+casP a (bitW n x));refine⟨λv hv=> ?_,?_,?_⟩
  ·unfold tlS at hv;rcases List.mem_or_eq_of_mem_set hv with k|k
   ·exact p v k
   ·omega
  ·unfold tlS;omega
  ·unfold tlS;rw[i,show(((x+1:Nat):Int))*16 ^ n=x*16 ^ n+16 ^ n from by rw[Int.natCast_add,Int.add_mul];simp]
   omega
theorem VI {l:List Int} (h: ∀v∈l,0<=v): ∀v∈l,v<=l.sum:=by
 induction l with
 |nil=>intro v hv;cases hv
 |cons b r ih=>
  intro v hv;have d:=ih (λv hv=>h v (Hz _ hv))
  have i:0<=r.sum:=by
   rcases r with _|⟨c,t⟩
   ·simp
   ·have:=d c (C5 ..);have:=h c Cr;omega
  rw[List.sum_cons];rcases CC.1 hv with rfl|hv
  ·omega
  ·have:=d v hv;have:=h b (C5 ..);omega
theorem Ta {l:List Int} (h: ∀v∈l,0<=v) (i:Nat):0<=(l.drop i).sum∧(l.drop i).sum<=l.sum:=by
 have: ∀ {l:List Int},(∀v∈l,0<=v)->0<=l.sum:=by
  intro l
  induction l with
  |nil=>intro _;simp
  |cons b r ih=>intro h;rw[List.sum_cons];have:=ih (λv hv=>h v (Hz _ hv));have:=h b (C5 ..);omega
 have e:l.sum=(l.take i).sum+(l.drop i).sum:=by rw[<-List.sum_append,List.take_append_drop]
 have c:=this (l:=l.take i) λv hv=>h v (List.mem_of_mem_take hv);have d:=this (l:=l.drop i) λv hv=>h v (List.mem_of_mem_drop hv);omega
def tlD (L:List Int) (m:Nat):List Int:=L.take m++(List.range (L.length-m)).map λi=>(L.drop (m+i)).sum
theorem Nq {L:List Int} {m:Nat} (h:m<=L.length):(tlD L m).length=L.length:=by unfold tlD;simp;omega
theorem Pe {L:List Int} {m i:Nat} (h:i<m) (b:m<=L.length):(tlD L m).getD i 0=L.getD i 0:=by
 unfold tlD;rw[DE,List.getElem?_append_left Bq,List.getElem?_take_of_lt h,<-DE]
theorem JO {L:List Int} {m i:Nat} (h:m<=i) (b:i<L.length):(tlD L m).getD i 0=(L.drop i).sum:=by
 unfold tlD;rw[DE,List.getElem?_append_right Bq,List.getElem?_map,Ju,List.getElem?_range Aa];simp only[Option.map_some,Option.getD_some]
 congr 2
 omega
theorem Tn {l r:List Int} (d:l.length=r.length) (h: ∀i,i<l.length->l.getD i 0=r.getD i 0):l=r:=by
 apply List.ext_getElem d
 intro i b c;have:=h i b;rw[CJ b,CJ c] at this;exact this
theorem dy {L:List Int} {m:Nat} (h:m+1<L.length):(tlD L (m+1)).set m ((tlD L (m+1)).getD m 0+(tlD L (m+1)).getD (m+1) 0)=tlD L m:=by
 have e:(tlD L (m+1)).getD m 0+(tlD L (m+1)).getD (m+1) 0=(L.drop m).sum:=by
  rw[Pe Aa Aa,JO Bk h,List.drop_eq_getElem_cons (show m<L.length by omega),List.sum_cons,CJ Aa]
 rw[e];have b:=Nq (L:=L) (m:=m+1) Aa;have d:=Nq (L:=L) (m:=m) Aa;refine Tn (by rw[List.length_set,b,d]) λi hi=> ?_
 rw[List.length_set,b] at hi;rw[DE,List.getElem?_set]
 split
 ·next c=>
  subst c;rw[AA Aa,Option.getD_some,JO Bk hi]
 ·next c=>
  rw[<-DE];rcases Nat.lt_or_ge i m with k|k
  ·rw[Pe Aa Aa,Pe k Aa]
  ·rw[JO Aa hi,JO k hi]
theorem Yz {L:List Int} (n:Nat) (h:L.length=n+1):tlD L n=L:=by
 refine Tn (Nq Aa) λi hi=> ?_;rw[Nq Aa] at hi;rcases Nat.lt_or_ge i n with k|k
 ·rw[Pe k Aa]
 ·have:i=n:=Aa;subst this;rw[JO Bk hi,List.drop_eq_getElem_cons hi,List.sum_cons,CJ hi,List.drop_eq_nil_of_le Aa]
  simp
def fR (n:Nat) (a:Int) (m:Nat):Int:=((tlS n a (2 ^ n)).drop m).sum
def exN (a:Int):Nat->Int->Int
 |0,k=>if k=0 then 1 else 0
 |n+1,k=>if k<0∨(n:Int)+1<k then 0 else a*exN a n (k-1)+(16-a)*exN a n k
theorem LH {a:Int} (b:0<=a) (c:a<=16): ∀(n:Nat) (k:Int),0<=exN a n k∧exN a n k<=16 ^ n
 |0,k=>by unfold exN;split<;>simp
 |n+1,k=>by
  unfold exN;have p:=LH b c n (k-1);have q:=LH b c n k;have x:(0:Int)<=16 ^ n:=Int.pow_nonneg Ah;rw[Z7]
  split
  ·omega
  ·have i:=Du b p.1;have j:=Du (show 0<=16-a by omega) q.1
   have s:=Gq p.2 b;have d:=Gq q.2 (show 0<=16-a by omega)
   rw[Int.sub_mul 16 a (16 ^ n)] at d;omega
theorem Fv {a:Int} {n:Nat} {k:Int} (h:k<0∨(n:Int)<k):exN a n k=0:=by
 cases n with
 |zero=>unfold exN;rw[Ak Aa]
 |succ n=>unfold exN;rw[AA Aa]
def exS (a:Int) (n:Nat) (m:Int) (k:Nat):Int:=((List.range k).map λi:Nat=>exN a n (m+(i:Int))).sum
theorem Te (a:Int) (n:Nat) (m:Int) (k:Nat):exS a n m (k+1)=exS a n m k+exN a n (m+(k:Int)):=by unfold exS;rw[I6,List.map_append,List.sum_append];simp
theorem Vj {a:Int} (b:0<=a) (c:a<=16) (n:Nat) (m:Int): ∀k,0<=exS a n m k∧exS a n m k<=k*16 ^ n
 |0=>by unfold exS;simp
 |k+1=>by
  have:=Vj b c n m k;have:=LH b c n (m+(k:Int));rw[Te,show(((k+1:Nat):Int))*16 ^ n=k*16 ^ n+16 ^ n from by rw[Int.natCast_add,Int.add_mul];simp]
  omega
