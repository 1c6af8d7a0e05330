import Derived.Test.YtkndcebhjcfphaaGreatDoorZA
import Derived.StillTailTactics
import Derived.Deep.DeepCutAuto
namespace Go.Proofs.YtkndcebhjcfphaaGreatDoor
open Go.RowKit Go.Proofs.Tryz
set_option maxRecDepth 100000
set_option maxHeartbeats 4000000
set_option linter.all false
def ir (xs:List Int):List Value:=xs.map (.int .u8)
theorem it (xs:List Int) (i:Nat):(ir xs)[i]? =xs[i]?.map (.int .u8):=by unfold ir;simp
theorem Rd.byte {w:World} {A:Option Addr} {n k:Nat} {xs:List Int} (h:Rd w A n (ir xs)) (i:k<n): ∃d,A=some d∧xs.getD k 0∈xs∧w.cell? (d.add k)=some (.int .u8 (xs.getD k 0)):=by
 obtain⟨d,u,rfl,j,f⟩:=h.at_ i;have l:xs.length=n:=by have:=h.1;unfold ir at this;simpa using this
 refine⟨d,rfl,by rw[CJ Aa];exact EH _,?_⟩
 rw[f,<-j,it]
 simp[Db (show k<xs.length by omega)]
structure SrcAt (w:World) (L g:Nat) (A:Option Addr) (n c:Nat) (xs:List Int) (a:Nat) (sd:Int):Prop where
 box:Blk w g 89 (FK A n c a sd)
 code:Rd w A n (ir xs)
 byte: ∀x∈xs,0<=x∧x<=255
 low: ∀ad,A=some ad->0<n->ad.block<L
 ge:L<=g
 n_:n<=4096
 a_:a<=n
 s0:0<=sd
 s1:sd<2147483647
def iC (w:World) (L g:Nat):Prop:= ∃A n c xs a sd,SrcAt w L g A n c xs a sd
section
variable {w w' : World} {L g n c a : Nat} {A : Option Addr} {xs : List Int} {sd : Int}
theorem SrcAt.grown {row:Option Nat} (s:SrcAt w L g A n c xs a sd) (k:w.grownBy w' row) (d: ∀b,row=some b->L<=b∧b≠g):SrcAt w' L g A n c xs a sd:=
 ⟨s.box.grown k (λe=>(d g e).2 rfl),s.code.grown k (λf e i c=>by have:=s.low f e i;have:=(d _ c).1;omega),s.byte,s.low,s.ge,s.n_,s.a_,s.s0,s.s1⟩
theorem SrcAt.drewN (s:SrcAt w L g A n c xs a sd) (m:Nat):SrcAt (w.drewN m) L g A n c xs a sd:=⟨s.box,s.code,s.byte,s.low,s.ge,s.n_,s.a_,s.s0,s.s1⟩
theorem SrcAt.far_ (s:SrcAt w L g A n c xs a sd) (i:Nat) (u:Value):Rd (w.setCell ⟨g,i,none⟩ u) A n (ir xs):=
 s.code.keep λd e f=>Below.heap_setCell _ _ _ _ (by have:=s.low d e f;have:=s.ge;simp only;omega)
theorem SrcAt.seed (s:SrcAt w L g A n c xs a sd) {x:Int} (d:0<=x) (f:x<2147483647):SrcAt (w.setCell ⟨g,2,none⟩ (ZI x)) L g A n c xs a x:=
 ⟨s.box.set_ 2 _,s.far_ 2 _,s.byte,s.low,s.ge,s.n_,s.a_,d,f⟩
theorem SrcAt.step (s:SrcAt w L g A n c xs a sd) (h:a<n):SrcAt (w.setCell ⟨g,1,none⟩ (ZI ((a:Int)+1))) L g A n c xs (a+1) sd:=
 ⟨s.box.set_ 1 _,s.far_ 1 _,s.byte,s.low,s.ge,s.n_,h,s.s0,s.s1⟩
theorem iC.grown {row:Option Nat} (s:iC w L g) (k:w.grownBy w' row) (d: ∀b,row=some b->L<=b∧b≠g):iC w' L g:=by
 obtain⟨A,n,c,xs,a,sd,s⟩:=s;exact⟨A,n,c,xs,a,sd,s.grown k d⟩
theorem iC.below (s:iC w L g) (b:Below w w w'):iC w' L g:=s.grown (row:=none) ⟨b.os,b.tape,b.output,b.size,λk d _=>b.block k d⟩ (λ_ h=>by cases h)
theorem iC.lt (s:iC w L g):g<w∧L<=g:=by obtain⟨A,n,c,xs,a,sd,s⟩:=s;exact⟨s.box.lt,s.ge⟩
end
theorem i8 {w a b:World} {row:Option Nat} {g:Nat} (h:w.grownBy a (some g)) (k:a.grownBy b row) (f: ∀x,row=some x->w<=x∨x=g):w.grownBy b (some g):=
 ⟨k.os.trans h.os,k.tape.trans h.tape,k.output.trans h.output,Ch h.size k.size,λi hi d=>(k.block i (CM hi h.size) (λc=>by
  rcases f i c.symm with h1|h1
  ·omega
  ·exact d (by rw[h1]))).trans (h.block i hi d)⟩
def iJ (L g:Nat) (n:Int) (w:World) (e:Ending) (w':World):Prop:=
 ∃r:Int,e=.returned (ZI r)∧0<=r∧(r<n∨r=0)∧w.grownBy w' (some g)∧iC w' L g
theorem iz {L g:Nat} {n r:Int} {w w':World} {A:Option Addr} {m c a:Nat} {xs:List Int} {sd:Int} (d:0<=r) (f:r<n∨r=0) (k:w.grownBy w' (some g)) (s:SrcAt w' L g A m c xs a sd):iJ L g n w (.returned (ZI r)) w':=
 ⟨r,rfl,d,f,k,A,m,c,xs,a,sd,s⟩
theorem F0 (L g:Nat) (n:Int) (w:World) (S:iC w L g) (hn:n<=4611686018427387904):
  Calls prog 55 #[.pointer (some ⟨g,0,none⟩),ZI n] w (iJ L g n w):=by
 obtain⟨A,m,c,xs,a,sd,S⟩:=S
 by_cases Y:n<=1
 ·go_enter func55,ntmps55
  go_wp2;go_ret;exact iz (Int.le_refl _) (.inr rfl) (JU _ _) S
 have Z:1<n:=Aa;have b0:=S.s0;have b1:=S.s1;have b2:=S.n_;have b3:=S.a_;have v:0<=(sd*48271+41)%2147483647∧(sd*48271+41)%2147483647<2147483647:=Aa;have k:=S.seed v.1 v.2;have D:w.grownBy (w.setCell ⟨g,2,none⟩ (ZI ((sd*48271+41)%2147483647))) (some g):=Vm _ _ _ _;have e1:(sd*48271+41).tmod 2147483647=(sd*48271+41)%2147483647:=Int.tmod_eq_emod_of_nonneg Aa;have l:=λo=>S.box.cell o;have F:=λo=>S.box.frozen o
 go_enter func55,ntmps55
 go_upto_region 4 with fail
 generalize w.setCell ⟨g,2,none⟩ (ZI ((sd*48271+41)%2147483647))=w1 at k D⊢;generalize(sd*48271+41)%2147483647=i at*;clear l F S e1;have l:=λo=>k.box.cell o;have e2:i.tdiv 29=i/29:=Int.tdiv_eq_ediv_of_nonneg Aa;have hx:0<=i/29∧i/29<=74051161:=Aa
 by_cases O:a<m
 ·obtain⟨C,rfl,f,Q⟩:=k.code.byte O;have X:=k.byte _ f;have i0:(0:Int)<=(a:Int):=Aa;have i1:(a:Int)<(m:Int):=Aa;generalize xs.getD a 0=y at*;clear f
  go_wp2_with fail
  go_quiet (fail)
  obtain⟨r,rfl⟩: ∃r:Nat,r=nq:=⟨_,rfl⟩
  go_wp2_with fail
  go_quiet (fail)
  have d:=(k.drewN r).drewN nq;have s:=il (il D r) nq;have p:((w1.drewN r).drewN nq).cell? (C.add a)=some (.int .u8 y):=Q;generalize(w1.drewN r).drewN nq=J at d s p⊢;clear k D Q l;have l:=λo=>d.box.cell o;have F:=λo=>d.box.frozen o;have I:(C.add a).block≠g:=by rw[Aq];have:=d.low C rfl Aa;have:=d.ge;omega
  have q:=d.step O;have u:w.grownBy (J.setCell ⟨g,1,none⟩ (ZI ((a:Int)+1))) (some g):=Bc s (.inl rfl) _;have H:(J.setCell ⟨g,1,none⟩ (ZI ((a:Int)+1))).cell? (C.add a)=some (.int .u8 y):=(World.cell?_setCell_other _ _ _ _ (λc=>I (by rw[<-c]))).trans p
  go_upto_region 8 with fail
  generalize J.setCell ⟨g,1,none⟩ (ZI ((a:Int)+1))=w3 at q u H⊢;clear d s p l F;have l:=λo=>q.box.cell o;have aa:0<=i/29+y∧i/29+y<=74051416:=Aa;generalize i/29+y=x at*;have U:x.tmod n=x%n:=Int.tmod_eq_emod_of_nonneg Aa;have ey:y.tmod n=y%n:=Int.tmod_eq_emod_of_nonneg Aa;have z:0<=x%n∧x%n<n:=⟨Int.emod_nonneg _ Aa,Int.emod_lt_of_pos _ Aa⟩;have R:0<=y%n∧y%n<n:=⟨Int.emod_nonneg _ Aa,Int.emod_lt_of_pos _ Aa⟩;have j:=Ai z;have M:=Ai R;clear z R;have et:((a:Int)+1).tmod 2=((a:Int)+1)%2:=Int.tmod_eq_emod_of_nonneg Aa
  by_cases N:n<=256
  ·by_cases E:((a:Int)+1)%2=0
   ·have G:(((a:Int)+1)%2==0)=true:=by simpa using E
    clear E
    go_wp2_with fail
    go_quiet (fail)
    have T:=q.drewN nq;have V:=il u nq;clear l q u;go_wp2;go_ret;exact iz M.out.1 (.inl M.out.2) V T
   ·have G:(((a:Int)+1)%2==0)=false:=by simpa using E
    clear E;go_wp2;go_ret;exact iz j.out.1 (.inl j.out.2) u q
  ·go_wp2;go_ret;exact iz j.out.1 (.inl j.out.2) u q
 ·go_wp2_with fail
  go_quiet (fail)
  have d:=k.drewN nq;have s:=il D nq;generalize i/29=x at*;have U:x.tmod n=x%n:=Int.tmod_eq_emod_of_nonneg Aa;have z:0<=x%n∧x%n<n:=⟨Int.emod_nonneg _ Aa,Int.emod_lt_of_pos _ Aa⟩;have j:=Ai z;clear z;go_wp2;go_ret;exact iz j.out.1 (.inl j.out.2) s d
def i6 (w:World) (e:Ending) (w':World):Prop:= ∃g,e=.returned (.pointer (some ⟨g,0,none⟩))∧iC w' w.heap.size g∧Below w w w'
theorem iD (A:Option Addr) (n c:Nat) (xs:List Int) (w:World) (r:Rd w A n (ir xs)) (F: ∀x∈xs,0<=x∧x<=255) (E:n<=4096):
  Calls prog 44 #[.slice A n c] w (i6 w):=by
 have f:Hid (∀s,A=some s->0<n->s.block<w.heap.size):=λs e h=>r.lt e h;have u:=Ai F;clear F
 go_enter func44,ntmps44
 go_wp2_with fail
 go_loopw [4] (λi wr=> ∃(k:Nat) (sd:Int),k<=n∧k<=64∧i=.int .i64 k∧0<=sd∧sd<2147483647∧Blk wr w.heap.size 89 (FK A n c 0 sd)∧Below w w wr) (λi _=>64-(intOf i).toNat)
 case atStart=>exact⟨0,80051,AZ _,AZ _,rfl,by decide,by decide,Br _ _ _,(AP _ _).alloc Bk _⟩
 case round=>
  obtain⟨k,sd,M,H,rfl,C,D,K,l⟩:=hrel;have z:=K.cell
  by_cases d:k<n∧k<64
  ·obtain⟨d,m⟩:=d;obtain⟨s,rfl,j,I⟩:=(r.below l).byte d;have G:=u.out _ j;have N:(0:Int)<=(k:Int):=Aa;have O:(k:Int)<(n:Int):=Aa;generalize xs.getD k 0=y at*;clear j;have e1:(sd*61+y).tmod 2147483647=(sd*61+y)%2147483647:=Int.tmod_eq_emod_of_nonneg Aa;have p:0<=(sd*61+y)%2147483647∧(sd*61+y)%2147483647<2147483647:=Aa;have w1:=Bg (sd*61);have Q:=Bg (sd*61+y)
   go_wp2_with fail
   go_still_tail 15,We51ceQ
   have q:Blk wr.drew w.heap.size _ _:=K;have v:=CO l;change wpList _ _ _ _ _ wr.drew;generalize wr.drew=R at q v⊢;clear K l z I;have J:=q.frozen;have z:=q.cell;go_wp2
   go_roundw
   case rel=>exact⟨k+1,(sd*61+y)%2147483647,by omega,by omega,by go_num,p.1,p.2,q.set_ 2 _,Ax⟩
   case measure=>simp[intOf];omega
  ·by_cases d:k<n
   ·have m: ¬(k:Int)<64:=Aa;go_wp2;go_ret;exact⟨_,rfl,⟨A,n,c,xs,0,sd,K,r.below l,u.out,f.out,Cp _,E,AZ _,C,D⟩,l⟩
   ·go_wp2;go_ret;exact⟨_,rfl,⟨A,n,c,xs,0,sd,K,r.below l,u.out,f.out,Cp _,E,AZ _,C,D⟩,l⟩
def iK (L g:Nat) (xs:List Int) (w:World) (e:Ending) (w':World):Prop:= ∃x,x∈xs∧e=.returned (ZI x)∧w.grownBy w' (some g)∧iC w' L g
theorem iS (L g:Nat) (A:Option Addr) (n c:Nat) (xs:List Int) (w:World) (S:iC w L g) (r:Rd w A n (ints xs)) (s:0<n) (z:n<=1048576) (i: ∀d,A=some d->d.block≠g):
  Calls prog 107 #[.pointer (some ⟨g,0,none⟩),.slice A n c] w (iK L g xs w):=by
 have m:=Ai r.len
 go_enter func107,ntmps107
 go_wp2_with fail
 refine(F0 L g n _ S Aa).mono ?_;rintro e w1 ⟨x,rfl,q,v,k,p⟩;obtain⟨j,rfl⟩:=Int.eq_ofNat_of_zero_le q;have l:j<n:=Aa;have u:Rd w1 A n (ints xs):=r.grown k (λd e _ c=>by injection c with c;exact i d e c.symm)
 obtain⟨d,rfl,C⟩:=u.int l;have f:Hid (xs.getD j 0∈xs):=by unfold Hid;rw[CJ (by rw[m.out];exact l)];exact EH _
 have D:(j:Int)<(n:Int):=Aa;generalize xs.getD j 0=y at*;go_wp2;go_ret;exact⟨y,f.out,rfl,k,p⟩
structure jg (w wr:World) (L g:Nat) (h:Hd) (xs:List Int):Prop where
 own:AR wr w.heap.size 1 h (ints xs)
 gr:w.grownBy wr (some g)
 src:iC wr L g
 lt:g<w
section
variable {w wr w1 : World} {L g : Nat} {h : Hd} {xs : List Int}
theorem jg.next (s:jg w wr L g h xs) (k:wr.grownBy w1 (some g)) (d:iC w1 L g):jg w w1 L g h xs:=
 ⟨s.own.grown k (λb e c=>by have:=(s.own.rowlt b e).1;have:=s.lt;injection c with c;omega),Tq s.gr k,d,s.lt⟩
theorem jg.alloc (s:jg w wr L g h xs) (d:Obj):jg w (wr.alloc d) L g h xs:=
 have b:Below wr wr (wr.alloc d):=(AP _ _).alloc Bk d
 ⟨s.own.below b,Tq s.gr (ig b),s.src.below b,s.lt⟩
theorem jg.start (S:iC w L g) (e:TypeId):jg w (w.alloc (.cells #[] e)) L g ⟨some ⟨w,0,none⟩,0,0⟩ []:=
 have b:Below w w (w.alloc (.cells #[] e)):=BU
 ⟨AR.empty _ _ _ _,ig b,S.below b,S.lt.1⟩
end
def jp:Value->Nat
 | .slice _ n _=>n
 |_=>0
structure Dr (w W:World) (L g:Nat):Prop where
 gr:w.grownBy W (some g)
 src:iC W L g
 lt:g<w
 le:L<=g
section
variable {w W W' : World} {L g B K b : Nat} {h : Hd} {us : List Value} {t : TypeId} {cs : Array Value}
theorem Dr.start (S:iC w L g):Dr w w L g:=⟨JU _ _,S,S.lt.1,S.lt.2⟩
theorem Dr.next (D:Dr w W L g) (k:W.grownBy W' (some g)) (S:iC W' L g):Dr w W' L g:=⟨Tq D.gr k,S,D.lt,D.le⟩
theorem Dr.bel (D:Dr w W L g) (k:Below W W W'):Dr w W' L g:=⟨Tq D.gr (ig k),D.src.below k,D.lt,D.le⟩
theorem Dr.alloc (D:Dr w W L g) (o:Obj):Dr w (W.alloc o) L g:=D.bel ((AP _ _).alloc Bk o)
theorem Dr.drew (D:Dr w W L g):Dr w W.drew L g:=D.bel (BW W 1)
theorem Dr.drewN (D:Dr w W L g) (n:Nat):Dr w (W.drewN n) L g:=D.bel (BW W n)
theorem Dr.grown (D:Dr w W L g) {row:Option Nat} (k:W.grownBy W' row) (d: ∀b,row=some b->w<=b):Dr w W' L g:=
 ⟨i8 D.gr k (λx e=> .inl (d x e)),D.src.grown k (λb e=>by have:=d b e;have:=D.lt;have:=D.le;exact⟨by omega,by omega⟩),D.lt,D.le⟩
theorem Dr.set_ (D:Dr w W L g) {p:Addr} (d:w<=p.block) (u:Value):Dr w (W.setCell p u) L g:=
 D.grown (row:=some p.block) (Bc (JU _ _) (.inl rfl) _) (λb e=>by injection e with e;omega)
theorem Dr.fin {w1:World} (D:Dr w1 W w.heap.size g) (k:Below w w w1):Below w w W:=
 jh k D.gr Bk (λx e=>by injection e with e;have:=D.le;omega)
theorem Dr.size (D:Dr w W L g):w<=W.heap.size:=D.gr.size
theorem Dr.touch {r:List (Option Nat)} (D:Dr w W L g) (t:A9 W W' r) (hi: ∀s∈r,∀b,s=some b->w<=b):Dr w W' L g:=by
 have f:=D.lt;have d:=D.le;have u:=D.gr.size;refine⟨⟨t.os.trans D.gr.os,t.tape.trans D.gr.tape,t.output.trans D.gr.output,Ch u t.size,λk p i=>(t.block k Aa (λs q c=>by have:=hi s q k c;omega)).trans (D.gr.block k p i)⟩,?_,f,d⟩
 obtain⟨A,n,c,xs,a,sd,s⟩:=D.src;exact⟨A,n,c,xs,a,sd,s.box.touch t (λx j c=>by have:=hi x j g c;omega),s.code.keep (λm e l=>t.block _ (s.code.lt e l) (λx j c=>by have:=s.low m e l;have:=hi x j _ c;omega)),s.byte,s.low,s.ge,s.n_,s.a_,s.s0,s.s1⟩
theorem AR.nx (o:AR W B K h us) (k:W.grownBy W' (some g)) (hg:g<B):AR W' B K h us:=
 o.grown k (λb e c=>by have:=(o.rowlt b e).1;injection c with c;omega)
theorem Blk.nx (o:Blk W b t cs) (k:W.grownBy W' (some g)) (hg:g≠b):Blk W' b t cs:=o.grown k (λc=>by injection c with c;exact hg c)
theorem Ag.nx {l:List Sl} (r:Ag W l) (k:W.grownBy W' (some g)) (o: ∀s∈l.map Sl.row,s≠some g):Ag W' l:=
 r.touch (A9.of_grown k) (λs d t f b e c=>by
  rcases CC.1 d with rfl|d
  ·exact o t f (by rw[c,e])
  ·cases d)
theorem AB.nx {l:List Sl} {C:Nat} (q:AB W C l) (r:Ag W l) (k:W.grownBy W' (some g)) (o: ∀s∈l.map Sl.row,s≠some g):AB W' C l:=
 q.touch r (A9.of_grown k) (λs d t f b e c=>by
  rcases CC.1 d with rfl|d
  ·exact o t f (by rw[c,e])
  ·cases d)
end
theorem jb (w:World) (xs:List Int) (e:TypeId) (n:Nat) (d:xs.length=n):Rd (w.alloc (.cells (ints xs).toArray e)) (some ⟨w,0,none⟩) n (ints xs):=by
 subst d;refine⟨by simp[ints],λ_=>⟨_,rfl,λi hi=> ?_⟩⟩
 rw[CE,(Br w e (ints xs).toArray).cell]
 simp
theorem iA (L g:Nat) (xs:List Int) (n:Nat) (W:World) (S:iC W L g) (i:xs.length=n) (d:0<n) (f:n<=1048576):
  Calls prog 107 #[.pointer (some ⟨g,0,none⟩),.slice (some ⟨W,0,none⟩) n n] (W.alloc (.cells (ints xs).toArray 2)) (iK L g xs (W.alloc (.cells (ints xs).toArray 2))):=
 iS L g _ n n xs _ (S.below BU) (jb _ _ _ _ i) d f (λj e=>by cases e;have:=S.lt;simp only;omega)
theorem kf (L g:Nat) (xs:List Int) (n:Nat) (W:World) (S:iC W L g) (i:xs.length=n) (d:0<n) (f:n<=1048576):
  Calls prog 107 #[.pointer (some ⟨g,0,none⟩),.slice (some ⟨W,0,none⟩) n n] (W.alloc (.cells (ints xs).toArray 2)).drew (iK L g xs (W.alloc (.cells (ints xs).toArray 2)).drew):=
 iS L g _ n n xs _ ((S.below BU).below GJ) ((jb _ _ _ _ i).below GJ) d f (λj e=>by cases e;have:=S.lt;simp only;omega)
structure ArgB (w:World) (A:Option Addr) (n c:Nat) (xs:List Int):Prop where
 rd:Rd w A n (ir xs)
 cap:n<=c
 max:n<=9223372036854775807
 wf: ∀x∈xs,(Lit.int .u8 x).wf=true
theorem i7 (w:World):ArgB w none 0 0 []:=⟨Rd.nil _ _,Cp _,by omega,λ_ h=>by cases h⟩
theorem je {w:World} {x:Addr} {l c:Nat} {f:List Int} (k:l<=c) (m:c<=maxLen) (q:f.length=c)
  (d: ∀i,i<f.length->w.cell? (x.add i)=some (.int .u8 (f.getD i 0))) (j: ∀n∈f,(Lit.int .u8 n).wf=true):ArgB w (some x) l c (f.take l):=by
 refine⟨⟨by unfold ir;simp;omega,λ_=>⟨x,rfl,λi hi=> ?_⟩⟩,k,by unfold maxLen at m;omega,λn p=>j n (List.mem_of_mem_take p)⟩
 rw[d i Aa,it]
 simp[hi,Db (show i<f.length by omega)]
theorem jo {x:Int} (h:(Lit.int .u8 x).wf=true):0<=x∧x<=255:=by
 simp[Lit.wf,IntKind.min,IntKind.max,IntKind.bits,IntKind.signed] at h
 omega
theorem ArgB.byte {w:World} {A:Option Addr} {n c:Nat} {xs:List Int} (g:ArgB w A n c xs): ∀x∈xs,0<=x∧x<=255:=λx d=>jo (g.wf x d)
