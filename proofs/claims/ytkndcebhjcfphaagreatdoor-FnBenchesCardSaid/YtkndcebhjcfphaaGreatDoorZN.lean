import Derived.Test.YtkndcebhjcfphaaGreatDoorZA
import Derived.RangeFuncNested
import Derived.RangeFuncBound
namespace Go.Proofs.YtkndcebhjcfphaaGreatDoor
open Go.RowKit Go.Proofs.Tryz
set_option maxRecDepth 100000
set_option maxHeartbeats 4000000
set_option linter.all false
def StaysB {β:Type} (g B:Nat) (J:β->World->Prop):Prop:=
 ∀s W W' row,J s W->W.grownBy W' row->(∀r,row=some r->r=g∨(B<=r∧ ∃o:Obj,W.heap[r]? =some o∧o.isCells=false))->J s W'
section
variable {β : Type} {g B : Nat} {J : β -> World -> Prop}
theorem StaysB.put (h:StaysB g B J) {s:β} {W:World} {l:Nat} {o:Obj} (a:Obj) (hs:J s W) (b:B<=l) (c:W.heap[l]? =some o) (d:o.isCells=false):J s (W.putObj l a):=
 h s W _ (some l) hs (grownBy_putObj' W l a) (λr e=>by cases e;exact .inr ⟨b,o,c,d⟩)
theorem StaysB.new (h:StaysB g B J) {s:β} {W:World} (o:Obj) (hs:J s W):J s (W.alloc o):=h s W _ none hs (World.grownBy_alloc W o none) (λr e=>by cases e)
theorem StaysB.set (h:StaysB g B J) {s:β} {W:World} (v:Value) (hs:J s W):J s (W.setCell ⟨g,0,none⟩ v):=
 h s W _ (some g) hs (Bc (JU _ _) (.inl rfl) v) (λr e=>by cases e;exact .inl rfl)
theorem StaysB.drewN (h:StaysB g B J) {s:β} {W:World} (q:Nat) (hs:J s W):J s (W.drewN q):=
 h s W _ none hs ⟨rfl,rfl,rfl,Cp _,λ_ _ _=>rfl⟩ (λr e=>by cases e)
end
theorem I3 {W a:World} {row:Option Nat} {g B l:Nat} {o:Obj} (hg:W.grownBy a row) (c: ∀r,row=some r->r=g∨(B<=r∧ ∃o:Obj,W.heap[r]? =some o∧o.isCells=false)) (d:l≠g) (f:l<B) (b:W.heap[l]? =some o):a.heap[l]? =some o:=
 (hg.block l (Array.getElem?_eq_some_iff.1 b).1 (λe=>by rcases c l e.symm with h|⟨h,_⟩<;>omega)).trans b
def fZ {α:Type} (F:Fence) (n:Nat) (P:Program) (gf:Nat) (lb:Array Value) (encs:α->Array Value) (g:Nat) (Kp:World->World->Prop) (S Sp:List α->Prop) (N:Nat) (w:World):Prop:=
 ∀(l:Nat) (J Jx:List α->World->Prop) (W:World),Below w w W->StaysB g W.heap.size J->StaysB g W.heap.size Jx->
  (∀pre x V,J pre V->pre.length<N->YieldAt F (n-1) P l (encs x) V λe W'=>(e=.returned (.bool true)∧J (pre++ [x]) W'∧Kp V W')∨(e=.returned (.bool false)∧Jx (pre++ [x]) W'))->
  J [] W->
  CallsIn F n P gf (#[.func (.yield l) #[] #[]]++lb) W λe W'=>(∃v,e=.returned v)∧((∃xs,S xs∧J xs W')∨(∃pre,Sp pre∧Jx pre W'))
theorem Yb {F:Fence} {n:Nat} {P:Program} {α:Type} {gv:Operand} {ps:Array Tmp} {assign body:Code} {Q:Exit->Act->World->Prop} {a:Act} {w:World} {g:Nat}
  (ap:F.round=none) (h1:1<=n) {gf:Nat} {lb:Array Value} (al:a.eval gv=.func (.func gf) #[] lb) (hF:F.fn gf) (aj: ∀args w,(callFunc gf args).run P w=.ok (.enter gf args) w)
  {encs:α->Array Value} {Kp:World->World->Prop} {S Sp:List α->Prop} {N:Nat} (ad:fZ F (n-1) P gf lb encs g Kp S Sp N w) (am:g<w)
  (aa: ∀ {A B C:World},Kp A B->Kp B C->Kp A C) (T: ∀(W:World) (l:Nat) (o o':Obj),w.heap.size<=l->W.heap[l]? =some o->o.isCells=false->o.isWalk=false->Kp W (W.putObj l o')) (ao: ∀x,(encs x).size=ps.size)
  (I:List α->World->Prop) (Y:Code->List α->World->Prop) (R:StaysB g w.heap.size I) (y: ∀c,StaysB g w.heap.size (Y c)) (h0:I [] w) (a₁:α->Act)
  (hassign: ∀(l:Nat) (x:α) (W:World) (K:Act->World->Prop),K (a₁ x) W->
   assign.wpIn (F.inRound l) (n-1-1) P (Exit.then K (λ_ _ _=>False)) {tmps:=(ps.zip (encs x)).foldl (λt (p,v)=>t.setIfInBounds p v) a.tmps,defers:= []} W)
  (U: ∀(l:Nat) (b:List α) (x:α) (W:World),I b W->b.length<N->body.wpIn (F.inRound l) (n-1-1) P (ownPostK Kp I Y (b++ [x]) W) (a₁ x) W)
  (hdone: ∀(D:Nat) (xs:List α) (W:World),w.heap.size<=D->S xs->I xs W->W.heap[D]? =some (.deferred (some []))->Q .normal {a with defers:= {target:=.collected D,args:= #[]}::a.defers} W)
  (hstop: ∀(D:Nat) (c:Code) (b:List α) (W:World),w.heap.size<=D->Sp b->Y c b W->W.heap[D]? =some (.deferred (some []))->c.wpIn F n P Q {a with defers:= {target:=.collected D,args:= #[]}::a.defers} W):
  (Code.rangeFunc gv ps assign body).wpIn F n P Q a w:=by
 refine wpIn_rangeFunc λfn ak=> ?_;rw[ap];obtain⟨D,Z⟩: ∃D,w.heap.size=D:=⟨_,rfl⟩
 let rcd:LoopState->Option Code->Obj:=λst pe=> .loop {state:=st,pending:=pe,fn,tmps:=a.tmps,params:=ps,assign,body,defers:=D}
 obtain⟨m,i⟩: ∃m,(w.alloc (.deferred (some []))).alloc (rcd .ready none)=m:=⟨_,rfl⟩;have s1:(w.alloc (.deferred (some []))).heap.size=D+1:=by rw[World.size_alloc,Z]
 have eL:m.heap[D+1]? =some (rcd .ready none):=by rw[<-i,<-s1];exact World.alloc_heap_new _ _
 have eD:m.heap[D]? =some (.deferred (some [])):=by
  rw[<-i,<-Z];exact(Below.heap_alloc _ _ _ Cr).trans (World.alloc_heap_new w _)
 have eI:I [] m:=by rw[<-i];exact R.new _ (R.new _ h0)
 have eB:Below w w m:=by rw[<-i];exact((AP _ w).alloc Bk _).alloc Cr _
 have eZ:m.heap.size=D+2:=by rw[<-i,World.size_alloc,s1]
 rw[Z] at R y T hdone hstop am;refine⟨D+1,[{target:=.collected D,args:= #[]}],m,{target:=.fn (.func gf) lb,args:= #[.func (.yield (D+1)) #[] #[]]},m,gf,#[.func (.yield (D+1)) #[] #[]]++lb,m,?_,?_,?_,?_,λ_=>h1,?_⟩
 ·rw[<-i,<-Z];have:=run_enterLoop_outer (P:=P) (w:=w) fn a.tmps ps assign body;simp only[rcd,<-Z];exact this
 ·simp only[resolve,al]
  simp[go_sem]
 ·intro f' ab
  simp[Target.leads] at ab
  subst ab;exact hF
 ·simp[invoke,go_sem,aj]
 have O: ∀ {V:World} {row:Option Nat},(∀r,row=some r->r=g∨(m<=r∧ ∃o:Obj,V.heap[r]? =some o∧o.isCells=false))-> ∀r,row=some r->r=g∨(D<=r∧ ∃o:Obj,V.heap[r]? =some o∧o.isCells=false):=
  λG r e=>(G r e).imp id λ⟨h,k⟩=>⟨by omega,k⟩
 refine(ad (D+1) (λb W=>I b W∧W.heap[D+1]? =some (rcd .ready none)∧W.heap[D]? =some (.deferred (some [])))
  (λb W=> ∃c,Y c b W∧W.heap[D+1]? =some (rcd .done (some c))∧W.heap[D]? =some (.deferred (some []))) m eB ?_ ?_ ?_ ⟨eI,eL,eD⟩).mono ?_
 ·rintro s V V' row ⟨hi,f,z⟩ X G;exact⟨R s V V' row hi X (O G),I3 X G Aa Aa f,I3 X G Aa Aa z⟩
 ·rintro s V V' row ⟨c,hi,f,z⟩ X G;exact⟨c,y c s V V' row hi X (O G),I3 X G Aa Aa f,I3 X G Aa Aa z⟩
 ·rintro b x V ⟨hi,f,z⟩ ac;have an:D+1<V.heap.size:=(Array.getElem?_eq_some_iff.1 f).1;have hy:=run_yield (P:=P) (args:=encs x) f (ao x);obtain⟨u,q⟩: ∃u,V.putObj (D+1) (rcd .busy none)=u:=⟨_,rfl⟩;refine⟨fn,_,assign,body,hy,roundIn_of_wpIn ak (hassign _ x V _ ⟨u,by rw[<-q];exact run_beginRound f rfl,?_⟩)⟩
  have l2:u.heap[D+1]? =some (rcd .busy none):=by rw[<-q];exact World.putObj_heap_same an
  have d2:u.heap[D]? =some (.deferred (some [])):=by rw[<-q];exact(World.putObj_heap_other Aa).trans z
  have k2:Kp V u:=by rw[<-q];exact T _ _ _ _ Aa f rfl rfl
  have i2:I b u:=by rw[<-q];exact R.put _ hi Aa f rfl
  refine wpIn_mono (U _ b x u i2 ac) ?_
  have M: ∀(j:Option Code) (d:World),KeepsOthers u d->
    (Instr.endRound (D+1) j).run P d=.ok (.bool j.isNone) (d.putObj (D+1) (rcd (if j.isNone then .ready else .done) j))∧d.heap[D+1]? =some (rcd .busy none)∧
    (d.putObj (D+1) (rcd (if j.isNone then .ready else .done) j)).heap[D+1]? =some (rcd (if j.isNone then .ready else .done) j)∧(d.putObj (D+1) (rcd (if j.isNone then .ready else .done) j)).heap[D]? =some (.deferred (some [])):=λj d k3=>by
   have L:=k3.same _ _ l2 rfl;exact⟨run_endRound (P:=P) j L,L,World.putObj_heap_same (Array.getElem?_eq_some_iff.1 L).1,(World.putObj_heap_other Aa).trans (k3.same _ _ d2 rfl)⟩
  have left: ∀(c:Code) (d:World),KeepsOthers u d->Y c (b++ [x]) d-> ∃v H,(Instr.endRound (D+1) (some c)).run P d=.ok v H∧
    ((Ending.returned v=.returned (.bool true)∧(I (b++ [x]) H∧H.heap[D+1]? =some (rcd .ready none)∧H.heap[D]? =some (.deferred (some [])))∧Kp V H)∨
     (Ending.returned v=.returned (.bool false)∧ ∃c,Y c (b++ [x]) H∧H.heap[D+1]? =some (rcd .done (some c))∧H.heap[D]? =some (.deferred (some [])))):=λc d k3 i3=>by
   obtain⟨e1,L,l4,d4⟩:=M (some c) d k3;exact⟨_,_,e1,.inr ⟨rfl,c,(y c).put _ i3 Aa L rfl,l4,d4⟩⟩
  rintro e a3 d E
  cases e with
  |normal=>
   obtain⟨k3,ar,i3⟩:=E;obtain⟨e1,L,l4,d4⟩:=M none d k3;exact⟨_,_,e1,.inl ⟨rfl,⟨R.put _ i3 Aa L rfl,l4,d4⟩,aa (aa k2 ar) (T _ _ _ _ Aa L rfl rfl)⟩⟩
  |ret=>exact left .ret d E.1 E.2
  |exit id=>exact left (.exit id) d E.1 E.2
  |goto t=>exact left (.goto t) d E.1 E.2
  |panic ch=>exact E.elim
  |outgrown=>exact E.elim
 ·rintro e W2 ⟨⟨v,rfl⟩,(⟨xs,hS,hi,f,z⟩|⟨b,hS,c,hi,f,z⟩)⟩
  ·exact⟨none,_,run_endLoop (P:=P) f Cr,hdone D xs _ Bk hS (R.put _ hi Aa f rfl) ((World.putObj_heap_other Aa).trans z)⟩
  ·exact⟨some c,_,run_endLoop (P:=P) f Cr,hstop D c b _ Bk hS ((y c).put _ hi Aa f rfl) ((World.putObj_heap_other Aa).trans z)⟩
