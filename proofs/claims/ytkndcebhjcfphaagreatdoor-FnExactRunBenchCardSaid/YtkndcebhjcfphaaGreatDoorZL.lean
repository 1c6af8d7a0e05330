import Derived.Test.YtkndcebhjcfphaaGreatDoorZA
import Derived.RangeFuncNested
import Derived.RangeFuncBound
namespace Go.Proofs.YtkndcebhjcfphaaGreatDoor
open Go.RowKit Go.Proofs.Tryz
set_option maxRecDepth 100000
set_option maxHeartbeats 4000000
set_option linter.all false
def StaysB {β:Type} (g B:Nat) (J:β→World→Prop):Prop:=
 ∀s W W' row,J s W→W.grownBy W' row→(∀r,row=some r→r=g∨(B≤r∧ ∃o:Obj,W.heap[r]? =some o∧o.isCells=false))→J s W'
section
variable {β : Type} {g B : Nat} {J : β → World → Prop}
theorem StaysB.put (h:StaysB g B J) {s:β} {W:World} {l:Nat} {o:Obj} (o':Obj) (hs:J s W) (hB:B≤l) (hl:W.heap[l]? =some o) (ho:o.isCells=false):J s (W.putObj l o'):=
 h s W _ (some l) hs (grownBy_putObj' W l o') (fun r e=>by cases e;exact .inr ⟨hB,o,hl,ho⟩)
theorem StaysB.new (h:StaysB g B J) {s:β} {W:World} (o:Obj) (hs:J s W):J s (W.alloc o):=h s W _ none hs (World.grownBy_alloc W o none) (fun r e=>by cases e)
theorem StaysB.set (h:StaysB g B J) {s:β} {W:World} (v:Value) (hs:J s W):J s (W.setCell ⟨g,0,none⟩ v):=
 h s W _ (some g) hs (Bc (JU _ _) (.inl rfl) v) (fun r e=>by cases e;exact .inl rfl)
theorem StaysB.drewN (h:StaysB g B J) {s:β} {W:World} (q:Nat) (hs:J s W):J s (W.drewN q):=
 h s W _ none hs ⟨rfl,rfl,rfl,Cp _,fun _ _ _=>rfl⟩ (fun r e=>by cases e)
end
theorem I3 {W W':World} {row:Option Nat} {g B l:Nat} {o:Obj} (hg:W.grownBy W' row) (hr: ∀r,row=some r→r=g∨(B≤r∧ ∃o:Obj,W.heap[r]? =some o∧o.isCells=false)) (h1:l≠g) (h2:l<B) (hl:W.heap[l]? =some o):W'.heap[l]? =some o:=
 (hg.block l (Array.getElem?_eq_some_iff.1 hl).1 (fun e=>by rcases hr l e.symm with h|⟨h,_⟩<;>omega)).trans hl
def fZ {α:Type} (F:Fence) (n:Nat) (P:Program) (gf:Nat) (lb:Array Value) (encs:α→Array Value) (g:Nat) (Kp:World→World→Prop) (S Sp:List α→Prop) (N:Nat) (w:World):Prop:=
 ∀(l:Nat) (J Jx:List α→World→Prop) (W:World),Below w w W→StaysB g W.heap.size J→StaysB g W.heap.size Jx→
  (∀pre x V,J pre V→pre.length<N→YieldAt F (n-1) P l (encs x) V fun e W'=>(e=.returned (.bool true)∧J (pre++ [x]) W'∧Kp V W')∨(e=.returned (.bool false)∧Jx (pre++ [x]) W'))→
  J [] W→
  CallsIn F n P gf (#[.func (.yield l) #[] #[]]++lb) W fun e W'=>(∃v,e=.returned v)∧((∃xs,S xs∧J xs W')∨(∃pre,Sp pre∧Jx pre W'))
theorem Yb {F:Fence} {n:Nat} {P:Program} {α:Type} {gv:Operand} {ps:Array Tmp} {assign body:Code} {Q:Exit→Act→World→Prop} {a:Act} {w:World} {g:Nat}
  (hro:F.round=none) (h1:1≤n) {gf:Nat} {lb:Array Value} (hgv:a.eval gv=.func (.func gf) #[] lb) (hF:F.fn gf) (hen: ∀args w,(callFunc gf args).run P w=.ok (.enter gf args) w)
  {encs:α→Array Value} {Kp:World→World→Prop} {S Sp:List α→Prop} {N:Nat} (hseq:fZ F (n-1) P gf lb encs g Kp S Sp N w) (hgw:g<w)
  (hKt: ∀ {A B C:World},Kp A B→Kp B C→Kp A C) (hKb: ∀(W:World) (l:Nat) (o o':Obj),w.heap.size≤l→W.heap[l]? =some o→o.isCells=false→o.isWalk=false→Kp W (W.putObj l o')) (hps: ∀x,(encs x).size=ps.size)
  (I:List α→World→Prop) (Ix:Code→List α→World→Prop) (hI:StaysB g w.heap.size I) (hIx: ∀c,StaysB g w.heap.size (Ix c)) (h0:I [] w) (a₁:α→Act)
  (hassign: ∀(l:Nat) (x:α) (W:World) (K:Act→World→Prop),K (a₁ x) W→
   assign.wpIn (F.inRound l) (n-1-1) P (Exit.then K (fun _ _ _=>False)) {tmps:=(ps.zip (encs x)).foldl (fun t (p,v)=>t.setIfInBounds p v) a.tmps,defers:= []} W)
  (hbody: ∀(l:Nat) (pre:List α) (x:α) (W:World),I pre W→pre.length<N→body.wpIn (F.inRound l) (n-1-1) P (ownPostK Kp I Ix (pre++ [x]) W) (a₁ x) W)
  (hdone: ∀(D:Nat) (xs:List α) (W:World),w.heap.size≤D→S xs→I xs W→W.heap[D]? =some (.deferred (some []))→Q .normal {a with defers:= {target:=.collected D,args:= #[]}::a.defers} W)
  (hstop: ∀(D:Nat) (c:Code) (pre:List α) (W:World),w.heap.size≤D→Sp pre→Ix c pre W→W.heap[D]? =some (.deferred (some []))→c.wpIn F n P Q {a with defers:= {target:=.collected D,args:= #[]}::a.defers} W):
  (Code.rangeFunc gv ps assign body).wpIn F n P Q a w:=by
 refine wpIn_rangeFunc fun fn hfn=> ?_;rw[hro];obtain⟨D,hD⟩: ∃D,w.heap.size=D:=⟨_,rfl⟩
 let rcd:LoopState→Option Code→Obj:=fun st pe=> .loop {state:=st,pending:=pe,fn,tmps:=a.tmps,params:=ps,assign,body,defers:=D}
 obtain⟨W1,hW1⟩: ∃W1,(w.alloc (.deferred (some []))).alloc (rcd .ready none)=W1:=⟨_,rfl⟩;have s1:(w.alloc (.deferred (some []))).heap.size=D+1:=by rw[World.size_alloc,hD]
 have eL:W1.heap[D+1]? =some (rcd .ready none):=by rw[←hW1,←s1];exact World.alloc_heap_new _ _
 have eD:W1.heap[D]? =some (.deferred (some [])):=by
  rw[←hW1,←hD];exact(Below.heap_alloc _ _ _ Cr).trans (World.alloc_heap_new w _)
 have eI:I [] W1:=by rw[←hW1];exact hI.new _ (hI.new _ h0)
 have eB:Below w w W1:=by rw[←hW1];exact((AP _ w).alloc Bk _).alloc Cr _
 have eZ:W1.heap.size=D+2:=by rw[←hW1,World.size_alloc,s1]
 rw[hD] at hI hIx hKb hdone hstop hgw;refine⟨D+1,[{target:=.collected D,args:= #[]}],W1,{target:=.fn (.func gf) lb,args:= #[.func (.yield (D+1)) #[] #[]]},W1,gf,#[.func (.yield (D+1)) #[] #[]]++lb,W1,?_,?_,?_,?_,fun _=>h1,?_⟩
 ·rw[←hW1,←hD];have:=run_enterLoop_outer (P:=P) (w:=w) fn a.tmps ps assign body;simp only[rcd,←hD];exact this
 ·simp only[resolve,hgv]
  simp[go_sem]
 ·intro f' hf'
  simp[Target.leads] at hf'
  subst hf';exact hF
 ·simp[invoke,go_sem,hen]
 have weak: ∀ {V:World} {row:Option Nat},(∀r,row=some r→r=g∨(W1≤r∧ ∃o:Obj,V.heap[r]? =some o∧o.isCells=false))→ ∀r,row=some r→r=g∨(D≤r∧ ∃o:Obj,V.heap[r]? =some o∧o.isCells=false):=
  fun hr r e=>(hr r e).imp id fun⟨h,k⟩=>⟨by omega,k⟩
 refine(hseq (D+1) (fun pre W=>I pre W∧W.heap[D+1]? =some (rcd .ready none)∧W.heap[D]? =some (.deferred (some [])))
  (fun pre W=> ∃c,Ix c pre W∧W.heap[D+1]? =some (rcd .done (some c))∧W.heap[D]? =some (.deferred (some []))) W1 eB ?_ ?_ ?_ ⟨eI,eL,eD⟩).mono ?_
 ·rintro s V V' row ⟨hi,hl,hd⟩ hg hr;exact⟨hI s V V' row hi hg (weak hr),I3 hg hr Aa Aa hl,I3 hg hr Aa Aa hd⟩
 ·rintro s V V' row ⟨c,hi,hl,hd⟩ hg hr;exact⟨c,hIx c s V V' row hi hg (weak hr),I3 hg hr Aa Aa hl,I3 hg hr Aa Aa hd⟩
 ·rintro pre x V ⟨hi,hl,hd⟩ hlen;have hlt:D+1<V.heap.size:=(Array.getElem?_eq_some_iff.1 hl).1;have hy:=run_yield (P:=P) (args:=encs x) hl (hps x);obtain⟨V2,hV2⟩: ∃V2,V.putObj (D+1) (rcd .busy none)=V2:=⟨_,rfl⟩;refine⟨fn,_,assign,body,hy,roundIn_of_wpIn hfn (hassign _ x V _ ⟨V2,by rw[←hV2];exact run_beginRound hl rfl,?_⟩)⟩
  have l2:V2.heap[D+1]? =some (rcd .busy none):=by rw[←hV2];exact World.putObj_heap_same hlt
  have d2:V2.heap[D]? =some (.deferred (some [])):=by rw[←hV2];exact(World.putObj_heap_other Aa).trans hd
  have k2:Kp V V2:=by rw[←hV2];exact hKb _ _ _ _ Aa hl rfl rfl
  have i2:I pre V2:=by rw[←hV2];exact hI.put _ hi Aa hl rfl
  refine wpIn_mono (hbody _ pre x V2 i2 hlen) ?_
  have shut: ∀(j:Option Code) (V3:World),KeepsOthers V2 V3→
    (Instr.endRound (D+1) j).run P V3=.ok (.bool j.isNone) (V3.putObj (D+1) (rcd (if j.isNone then .ready else .done) j))∧V3.heap[D+1]? =some (rcd .busy none)∧
    (V3.putObj (D+1) (rcd (if j.isNone then .ready else .done) j)).heap[D+1]? =some (rcd (if j.isNone then .ready else .done) j)∧(V3.putObj (D+1) (rcd (if j.isNone then .ready else .done) j)).heap[D]? =some (.deferred (some [])):=fun j V3 k3=>by
   have l3:=k3.same _ _ l2 rfl;exact⟨run_endRound (P:=P) j l3,l3,World.putObj_heap_same (Array.getElem?_eq_some_iff.1 l3).1,(World.putObj_heap_other Aa).trans (k3.same _ _ d2 rfl)⟩
  have left: ∀(c:Code) (V3:World),KeepsOthers V2 V3→Ix c (pre++ [x]) V3→ ∃v W',(Instr.endRound (D+1) (some c)).run P V3=.ok v W'∧
    ((Ending.returned v=.returned (.bool true)∧(I (pre++ [x]) W'∧W'.heap[D+1]? =some (rcd .ready none)∧W'.heap[D]? =some (.deferred (some [])))∧Kp V W')∨
     (Ending.returned v=.returned (.bool false)∧ ∃c,Ix c (pre++ [x]) W'∧W'.heap[D+1]? =some (rcd .done (some c))∧W'.heap[D]? =some (.deferred (some [])))):=fun c V3 k3 i3=>by
   obtain⟨e1,l3,l4,d4⟩:=shut (some c) V3 k3;exact⟨_,_,e1,.inr ⟨rfl,c,(hIx c).put _ i3 Aa l3 rfl,l4,d4⟩⟩
  rintro e a3 V3 hp
  cases e with
  |normal=>
   obtain⟨k3,kp3,i3⟩:=hp;obtain⟨e1,l3,l4,d4⟩:=shut none V3 k3;exact⟨_,_,e1,.inl ⟨rfl,⟨hI.put _ i3 Aa l3 rfl,l4,d4⟩,hKt (hKt k2 kp3) (hKb _ _ _ _ Aa l3 rfl rfl)⟩⟩
  |ret=>exact left .ret V3 hp.1 hp.2
  |exit id=>exact left (.exit id) V3 hp.1 hp.2
  |goto t=>exact left (.goto t) V3 hp.1 hp.2
  |panic ch=>exact hp.elim
  |outgrown=>exact hp.elim
 ·rintro e W2 ⟨⟨v,rfl⟩,(⟨xs,hS,hi,hl,hd⟩|⟨pre,hS,c,hi,hl,hd⟩)⟩
  ·exact⟨none,_,run_endLoop (P:=P) hl Cr,hdone D xs _ Bk hS (hI.put _ hi Aa hl rfl) ((World.putObj_heap_other Aa).trans hd)⟩
  ·exact⟨some c,_,run_endLoop (P:=P) hl Cr,hstop D c pre _ Bk hS ((hIx c).put _ hi Aa hl rfl) ((World.putObj_heap_other Aa).trans hd)⟩
end Go.Proofs.YtkndcebhjcfphaaGreatDoor
