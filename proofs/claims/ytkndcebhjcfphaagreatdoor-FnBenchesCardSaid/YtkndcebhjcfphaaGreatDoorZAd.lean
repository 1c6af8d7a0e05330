import Derived.Test.YtkndcebhjcfphaaGreatDoorZN
import Derived.Test.YtkndcebhjcfphaaGreatDoorZQ
import Derived.Test.YtkndcebhjcfphaaGreatDoorZW
import Derived.Shelf.RegionOpen
import Derived.OwnWalkIn
import Derived.LoopNIn
import Derived.LoopIn
namespace Go.Proofs.YtkndcebhjcfphaaGreatDoor
open Go.RowKit Go.Proofs.Tryz
set_option maxRecDepth 100000
set_option maxHeartbeats 4000000
set_option linter.all false
section
open Go.RowKit Go.Shelf
attribute [local go_sem] Oper.semAt_some
structure MD (gb n₀:Nat) (W W':World):Prop where
 size:W<=W'.heap.size
 block: ∀b,b<n₀->b≠gb->W'.heap[b]? =W.heap[b]?
section
variable {gb n₀ : Nat} {W W' W1 : World}
theorem MD.refl (W:World):MD gb n₀ W W:=⟨Cp _,λ_ _ _=>rfl⟩
theorem MD.trans (h:MD gb n₀ W W1) (k:MD gb n₀ W1 W'):MD gb n₀ W W':=⟨Ch h.size k.size,λb a c=>(k.block b a c).trans (h.block b a c)⟩
theorem MD.put {w:World} (j:n₀<=w) (W:World) (l:Nat) (o a:Obj) (i:w<=l) (_:W.heap[l]? =some o) (_:o.isCells=false) (_:o.isWalk=false):MD gb n₀ W (W.putObj l a):=
 have g:=grownBy_putObj' W l a
 ⟨g.size,λb d _=>by
  rcases Nat.lt_or_ge b W.heap.size with hb|hb
  ·exact g.block b hb (λc=>by injection c with c;omega)
  ·have f:(W.putObj l a).heap.size=W.heap.size:=by simp[World.putObj]
   rw[Array.getElem?_eq_none hb,Array.getElem?_eq_none Aa]⟩
theorem MD.blk (h:MD gb n₀ W W') {g:Nat} {t:TypeId} {cs:Array Value} (b:Blk W g t cs) (a:g<n₀) (c:g≠gb):Blk W' g t cs:=(h.block g a c).trans b
end
theorem XZ (s:ByteArray) (w:World):
  Calls prog 62 #[.string s] w λe w'=>e=.returned (.func (.func 98) #[] #[.pointer (some ⟨w,0,none⟩)])∧w'=w.alloc (.cells #[.string s] 9):=by
 go_enter func62,ntmps62
 go_wp2;go_ret;exact⟨rfl,rfl⟩
theorem XE (x r:Bs):(ByteArray.mk (x++10::r).toArray).extract 0 (x.length+1)=⟨(x++ [10]).toArray⟩:=by
 rw[IM];have e:x++10::r=(x++ [10])++r:=Cr;rw[e]
 congr 2
 have h:x.length+1-0=(x++ [10]).length:=Cr;rw[h,List.drop_zero];exact List.take_left' rfl
theorem Zq (x r:Bs) (n:Nat) (a:n=x.length+1+r.length):(ByteArray.mk (x++10::r).toArray).extract (x.length+1) n=⟨r.toArray⟩:=by
 rw[IM];have e:x++10::r=(x++ [10])++r:=Cr;rw[e]
 congr 2
 have h:(x++ [10]).length=x.length+1:=Cr;rw[<-h,List.drop_left' rfl];exact ED Bq
theorem XX (l g gb n₀:Nat) (s:Bs) (hs:s.length<=1048576) (J Jx:List {j:Nat//j<(linesL s).length}->World->Prop) (ae: ∀a W q,J a W->J a (W.drewN q)) (S: ∀a W v,J a W->J a (W.setCell ⟨g,0,none⟩ v))
  (hY: ∀a x W,J a W->a.length<(linesL s).length->YieldAt Fence.wide 1 prog l #[.string ⟨((linesL s)[x.1]'x.2).toArray⟩] W λe W'=>
   (e=.returned (.bool true)∧J (a++ [x]) W'∧MD gb n₀ W W')∨(e=.returned (.bool false)∧Jx (a++ [x]) W'))
  (W:World) (ad:Blk W g 9 #[.string ⟨s.toArray⟩]) (Y:g<n₀) (Z:g≠gb) (h0:J [] W):
  CallsIn Fence.wide 2 prog 98 #[.func (.yield l) #[] #[],.pointer (some ⟨g,0,none⟩)] W λe W'=>(∃v,e=.returned v)∧
   ((∃ys,ys.map (·.1)=List.range (linesL s).length∧J ys W')∨(∃a,(∃k,a.map (·.1)=List.range (k+1))∧Jx a W')):=by
 refine callsIn_of_wp func98 rfl trivial ?_ rfl;simp only[ntmps98,List.size_toArray,Gt,List.length_nil,Nat.reduceAdd,Nat.reduceSub,Array.replicate_succ,Array.replicate_zero,List.push_toArray,List.append_toArray,List.nil_append,List.cons_append]
 gi_wp2
 gi_loopw [3,4] (λ_ _ wr=> ∃(k:Nat) (a:List {j:Nat//j<(linesL s).length}) (r:Bs),k<=(linesL s).length∧a.map (·.1)=List.range k∧J a wr∧Blk wr g 9 #[.string ⟨r.toArray⟩]∧(linesL s).drop k=linesL r∧r.length<=1048576)
  (λ_ _ wr=>match wr.cell? ⟨g,0,none⟩ with|some (.string t)=>t.size|_=>0)
 case atStart=>exact⟨0,[],s,AZ _,rfl,h0,ad,rfl,hs⟩
 case round=>
  obtain⟨k,a,r,hk,b,G,R,c,ap⟩:=hrel;have cB:wr.cell? ⟨g,0,none⟩=some (.string ⟨r.toArray⟩):=R.cell 0;have fB:wr.frozen? ⟨g,0,none⟩=false:=R.frozen 0;have gB:=R.lt
  by_cases L:r= []
  ·subst L
   have T:k=(linesL s).length:=by
    have h:=AN List.length c;rw[JW,Hl] at h;have h2:([]:List Bs).length=0:=rfl;omega
   have C:Hid (a.map (·.1)=List.range (linesL s).length):=b.trans (AN List.range T);clear b c T
   gi_wp2
   go_end0
   exact⟨⟨_,rfl⟩,.inl ⟨_,C.out,G⟩⟩
  ·have X:0<r.length:=List.length_pos_iff.2 L;have ao:(0:Int)<(r.length:Int):=Aa;have I:a.length=k:=by have:=AN List.length b;simpa using this
   rcases Ms r with N|⟨x,r',rfl,N,e⟩
   ·have U:=Mr N L;rw[U] at c
    have A:k+1=(linesL s).length:=by
     have h:=AN List.length c;rw[JW] at h;have h2: [r].length=1:=rfl;omega
    have f:k<(linesL s).length:=Aa
    have z:(linesL s)[k]=r:=by
     have h:=List.drop_eq_getElem_cons f;rw[c] at h;exact((List.cons.inj h).1).symm
    have u:=λV=>Gp ⟨r.toArray⟩ 10 V;rw[show(ByteArray.mk r.toArray).data.toList=r from rfl,show((10:Int).toNat.toUInt8)=10 from rfl,WT N] at u;have C:Hid ((a++ [(⟨k,f⟩: {j:Nat//j<(linesL s).length})]).map (·.1)=List.range (k+1)):=by show List.map _ _=_;rw[List.map_append,b,I6];rfl
    have HD:Hid ((linesL s).drop (k+1)=linesL []):=by show List.drop _ _=_;rw[A,Hl];exact List.drop_length
    have E:=R.set_ 0 (.string ⟨#[]⟩);have p:=hY a ⟨k,f⟩ (wr.setCell ⟨g,0,none⟩ (.string ⟨#[]⟩)) (S _ _ _ G) (by rw[I];exact f)
    simp only[z] at p;obtain⟨fn,aa,y,Q,hy,hR⟩:=p;clear b c z U A X I
    gi_wp2
    refine⟨trivial,?_⟩;refine(callsIn_wide.2 (u _)).mono ?_;rintro e w' ⟨rfl,rfl⟩
    gi_wp2
    refine hR.mono ?_;rintro e W3 (⟨rfl,F,H⟩|⟨rfl,m⟩)
    ·have i:=H.blk E Y Z;have D:W3.cell? ⟨g,0,none⟩=some (.string ⟨#[]⟩):=i.cell 0
     gi_wp2
     go_roundw
     case rel=>exact⟨k+1,_,[],by omega,C.out,F,i,HD.out,AZ _⟩
     case measure=>simp[D,cB,ByteArray.size];omega
    ·gi_wp2
     refine AS (results_none rfl _ _ _) rfl ?_;exact⟨⟨_,rfl⟩,.inr ⟨_,⟨k,C.out⟩,m⟩⟩
   ·rw[e] at c
    have f:k<(linesL s).length:=by
     have h:=AN List.length c;rw[JW] at h;simp at h;omega
    have d:=List.drop_eq_getElem_cons f;rw[c] at d;have z:(linesL s)[k]=x++ [10]:=((List.cons.inj d).1).symm;have u:=λV=>Gp ⟨(x++10::r').toArray⟩ 10 V;rw[show(ByteArray.mk (x++10::r').toArray).data.toList=x++10::r' from rfl,show((10:Int).toNat.toUInt8)=10 from rfl,ZF r' N] at u;have C:Hid ((a++ [(⟨k,f⟩: {j:Nat//j<(linesL s).length})]).map (·.1)=List.range (k+1)):=by show List.map _ _=_;rw[List.map_append,b,I6];rfl
    have HD:Hid ((linesL s).drop (k+1)=linesL r'):=((List.cons.inj d).2).symm;have M:(x++10::r').length=x.length+1+r'.length:=Bq;have E1:=XE x r';have E2:=λn N=>Zq x r' n N;have E2:=E2 _ M;have u1:=Bg ((x.length:Int)+1);have aw:(x.length:Int)+1<=((x++10::r').length:Int):=Aa;have au:(0:Int)<=(x.length:Int):=Aa;have av:(0:Int)<=(x.length:Int)+1:=Aa;have ar:((x.length:Int)+1).toNat=x.length+1:=Aa;generalize aq:x++10::r'=rr at*;have O:=Ai M;clear b c d e X M
    gi_wp2
    refine⟨trivial,?_⟩;refine(callsIn_wide.2 (u _)).mono ?_;rintro e w' ⟨rfl,rfl⟩
    gi_wp2
    refine wpIn_wide.2 ?_
    go_region
    have E:Blk (w'.setCell ⟨g,0,none⟩ (.string ⟨r'.toArray⟩)).drew g 9 #[.string ⟨r'.toArray⟩]:=R.set_ 0 _;have p:=hY a ⟨k,f⟩ (w'.setCell ⟨g,0,none⟩ (.string ⟨r'.toArray⟩)).drew (ae _ _ 1 (S _ _ _ G)) (by rw[I];exact f)
    simp only[z] at p;obtain⟨fn,aa,y,Q,hy,hR⟩:=p
    gi_wp2
    refine hR.mono ?_;rintro e W3 (⟨rfl,F,H⟩|⟨rfl,m⟩)
    ·have i:=H.blk E Y Z;have D:W3.cell? ⟨g,0,none⟩=some (.string ⟨r'.toArray⟩):=i.cell 0
     gi_wp2
     go_roundw
     case rel=>exact⟨k+1,_,r',by omega,C.out,F,i,HD.out,by have:=O.out;omega⟩
     case measure=>have:=O.out;simp[D,cB,ByteArray.size];omega
    ·gi_wp2
     refine AS (results_none rfl _ _ _) rfl ?_;exact⟨⟨_,rfl⟩,.inr ⟨_,⟨k,C.out⟩,m⟩⟩
end
section
open Go.RowKit Go.Shelf
section
variable {w w' W V : World} {B K : Nat} {h : Hd} {us : List Value}
theorem AR.rowcells (o:AR w B K h us) (i:0<K): ∀b,h.row=some b-> ∃o:Obj,w.heap[b]? =some o∧o.isCells=true:=λb e=>by
 obtain⟨hc0,d,g,rfl⟩:=Hd.row_some e;obtain⟨_,_,_,f⟩:=o.at_ d g hc0;obtain⟨⟨u,j,_⟩,_⟩:=f 0 (by have:=Nat.mul_pos hc0 i;omega)
 obtain⟨k,a,c⟩:=cells_of_cell j;rw[Aq] at a;exact⟨k,a,c⟩
theorem AR.stays (o:AR w B K h us) (f:0<K) {row:Option Nat} {g C:Nat} (hg:w.grownBy w' row) (j: ∀r,row=some r->r=g∨(C<=r∧ ∃o:Obj,w.heap[r]? =some o∧o.isCells=false)) (i:g<B):AR w' B K h us:=
 o.grown hg (λb e c=>by
  rcases j b c with e1|⟨_,ob,h1,h2⟩
  ·have:=(o.rowlt b e).1;omega
  ·obtain⟨k,a,d⟩:=o.rowcells f b e;rw[h1] at a
   cases a
   rw[h2] at d
   cases d)
theorem Blk.stays {a:Nat} {t:TypeId} {cs:Array Value} (b:Blk w a t cs) {row:Option Nat} {g C:Nat} (hg:w.grownBy w' row) (f: ∀r,row=some r->r=g∨(C<=r∧ ∃o:Obj,w.heap[r]? =some o∧o.isCells=false)) (d:a≠g):Blk w' a t cs:=
 b.grown hg (λc=>by
  rcases f a c with e1|⟨_,ob,h2,h3⟩
  ·exact d e1
  ·unfold Blk at b;rw[b] at h2
   cases h2
   cases h3)
theorem SN {n:Nat} (b:Below n w W) {row:Option Nat} {g C:Nat} (hg:W.grownBy V row) (c: ∀r,row=some r->r=g∨(C<=r∧ ∃o:Obj,W.heap[r]? =some o∧o.isCells=false)) (a:n<=w) (d:n<=g) (f:n<=C):Below n w V:=
 b.grown hg (Ch a b.size) (λk e=>by rcases c k e with e1|⟨h3,_⟩<;>omega)
theorem XP (b:Below w w W):KeepsOthers w W:=⟨b.size,λk o a _=>(b.block k (Array.getElem?_eq_some_iff.1 a).1).trans a⟩
theorem XQ (o:AR w B K h us) (c:0<K) (g:w.grownBy w' h.row):KeepsOthers w w':=
 KeepsOthers.of_grownBy g (λj i e d=>by
  obtain⟨f,a,b⟩:=o.rowcells c j e;rw[d] at a
  cases a
  exact b)
theorem MD.bel {gb n₀:Nat} (b:Below w w W) (h:n₀<=w):MD gb n₀ w W:=⟨b.size,λk a _=>b.block k Aa⟩
theorem MD.grown {gb n₀:Nat} {row:Option Nat} (g:w.grownBy W row) (a: ∀b,row=some b->n₀<=b) (h:n₀<=w):MD gb n₀ w W:=
 ⟨g.size,λk c _=>g.block k Aa (λe=>by have:=a k e.symm;omega)⟩
theorem MD.set {gb n₀:Nat} (W:World) (v:Value):MD gb n₀ W (W.setCell ⟨gb,0,none⟩ v):=
 ⟨by simp[World.setCell],λk _ a=>Below.heap_setCell _ _ _ k a⟩
end
theorem Jg {F:Fence} {n:Nat} {P:Program} {w:World} {r:Array Oper} {j:List Oper} {q:Oper} {a:Act} {Q:Exit->Act->World->Prop} (H:q.guard=none) (s x:Operand) (t:TypeId)
  (hop:q.op=.call {callee:=.builtin .append,args:= #[s,x],argTypes:= #[t,t]})
  (e:TypeId) (size b:Nat) (O:P.underlying t=some (.slice e)) (d:(P.info? e).map (λi=>(i.zero.map (·.cells.size),i.size,i.bytes))=some (some size,size,b)) (I:0<size)
  (B:Nat) (h:Hd) (us:List Value) (hs:a.eval s=.slice h.A h.n h.c) (o:AR w B size h us) (A:Option Addr) (m c:Nat) (f:List Value) (R:a.eval x=.slice A m c)
  (N:Rd w A (m*size) f) (J: ∀u∈f,u.oneCell'=true) (y:h.n+m<=1099511627776) (g:b<=64) (L:B<=w.heap.size)
  (M: ∀k w',k.n=h.n+m->AR w' B size k (us++f)->w.grownBy w' h.row->wpListIn F n P r Q j (a.put q.dst (.slice k.A k.n k.c)) w'):wpListIn F n P r Q (q::j) a w:=by
 refine wpListIn_plain H λX C=> ?_
 cases hi:P.info? e with
 |none=>rw[hi] at d;simp at d
 |some i=>
  rw[hi] at d;simp only[Option.map_some,Gs,Prod.mk.injEq] at d;obtain⟨v,l,E⟩:=d
  cases hz0:i.zero with
  |none=>rw[hz0] at v;simp at v
  |some z=>
   rw[hz0] at v;have D:(h.n+m)*b<=140737488355328:=Ch (Nat.mul_le_mul y g) Ah;obtain⟨k,w',p,S,T,U,_⟩:=F7 (P:=P) w t q.type e i z size b O hi hz0 l E (by simpa using v) I B h us o A m c f N J G9 D L
   unfold Oper.wpIn;refine⟨?_,?_⟩
   ·simp[Oper.about,hop,resolve,Target.leads,Sem.run_pure]
   ·rw[Oper.semAt_plain F _ _ (by rw[hop];intro c G;cases G)]
    simp[execOp,hop,resolve,invoke,builtin,hs,R,p,Result.andThen]
    exact C _ _ (M k w' S T U)
theorem T9 {n:Nat} {P:Program} {a:Func} {R:Ending->World->Prop} {tmps:Array Value} {w:World} {D:Nat} (b:w.heap[D]? =some (.deferred (some []))) {v:Value} (h:(results a tmps).run P (w.putObj D (.deferred none))=.ok v (w.putObj D (.deferred none))) (c:R (.returned v) (w.putObj D (.deferred none))):
  bodyPostM Fence.wide n P a R .ret {tmps:=tmps,defers:= [{target:=.collected D,args:= #[]}]} w:=⟨by simp,.inl ⟨D,_,rfl,run_takeDeferred b,v,h,c⟩⟩
end
section
open Go.RowKit Go.Shelf
attribute [local go_sem] Oper.semAt_some
theorem Ic:(prog.info? 9).map (λi=>(i.zero.map (·.cells.size),i.size,i.bytes))=some (some 1,1,16):=We51ceQ
theorem Iv (x:Bs): ∀u∈BO [x],u.oneCell'=true:=by
 intro u a;have h:u∈ [Value.string ⟨x.toArray⟩]:=a;rw[DD] at h;subst h
 rfl
theorem Se (w:World) (x:Bs) (e:TypeId):Rd (w.alloc (.cells #[.string ⟨x.toArray⟩] e)) (some ⟨w,0,none⟩) (1*1) (BO [x]):=
 (Br w e #[.string ⟨x.toArray⟩]).rd rfl (λi hi=>by
  obtain rfl:i=0:=Aa
  rfl)
theorem MQ (ws:List Bs):(List.range ws.length).map (λj=>ws.getD j [])=ws:=by
 refine List.ext_getElem Cr λi b a=> ?_
 simp[Db a]
structure fp (w w2:World) (gb gs:Nat) (ls:List Bs) (pre:List Nat) (W:World):Prop where
 list: ∃h:Hd,Blk W gb 22 #[.slice h.A h.n h.c]∧AR W w2.heap.size 1 h (BO (pre.map λj=>ls.getD j []))∧h.n=pre.length
 bel:Below gs w W
 sz:w2<=W.heap.size
theorem fp.stays {w d:World} {gb a:Nat} {l:List Bs} (i:gb≠a) (g:a<d) (j:a<w) {α:Type} (f:α->List Nat):StaysB a d.heap.size (λ(s:α) W=>fp w d gb a l (f s) W):=by
 rintro s W W' row ⟨⟨h,B,o,k⟩,bel,m⟩ b c;exact⟨⟨h,B.stays b c i,o.stays Ah b c g,k⟩,SN bel b c (Nat.le_of_lt j) Bk (Nat.le_of_lt g),Ch m b.size⟩
theorem Pv (f:Nat) (s:Bs) (w:World) (hs:s.length<=1048576) (R:Blk w f 9 #[.string ⟨s.toArray⟩]):
  Calls prog 97 #[.slice none 0 0,.func (.func 98) #[] #[.pointer (some ⟨f,0,none⟩)]] w λe w'=> ∃h:Hd,e=.returned (.slice h.A h.n h.c)∧h.n=(linesL s).length∧Rd w' h.A h.n (BO (linesL s))∧(∀ad,h.A=some ad->0<h.n->w<=ad.block)∧Below f w w':=by
 have I:=R.lt;refine(callsIn_wide (n:=3)).1 ?_;refine callsIn_of_wp_marks func97 rfl trivial ?_ rfl;simp only[ntmps97,List.size_toArray,Gt,List.length_nil,Nat.reduceAdd,Nat.reduceSub,Array.replicate_succ,Array.replicate_zero,List.push_toArray,List.append_toArray,List.nil_append,List.cons_append];refine wpIn_wide.2 ?_;have BG:=Br w 22 #[.slice none 0 0];have BS:=R.alloc (.cells #[.slice none 0 0] 22)
 go_wp2_with fail
 generalize hG:w.alloc _=i at BG BS⊢;obtain⟨_,b2,hS⟩:=bJ hG;clear hG;have aq:i.heap.size=w.heap.size+1:=Aa;clear hS;have a2:w+1<=i.heap.size:=Aa;have a1:=JF s
 have ag:Hid ((List.range (linesL s).length).map (λj=>(linesL s).getD j [])=linesL s):=by
  unfold Hid;rw[MQ (linesL s)]
 clear aq;have ak:Below f w i:=b2.mono (Nat.le_of_lt I);refine(wpIn_wide (n:=3)).1 ?_
 refine' Yb (F:=Fence.wide) (n:=3) (g:=f) rfl Ah (gf:=98) (lb:= #[.pointer (some ⟨f,0,none⟩)]) rfl trivial (enters_of func98 We51ceQ rfl)
  (encs:=λx: {j:Nat//j<(linesL s).length}=> #[.string ⟨((linesL s)[x.1]'x.2).toArray⟩]) (Kp:=MD w.heap.size i.heap.size) (S:=λQ=>Q.map (·.1)=List.range (linesL s).length) (Sp:=λQ=> ∃k,Q.map (·.1)=List.range (k+1)) (N:=(linesL s).length) ?hseq Aa
  (λh k=>h.trans k) (λW l o o'=>MD.put Bk W l o o') (λ_=>rfl)
  (λa W=>fp w i w.heap.size f (linesL s) (a.map (·.1)) W) (λc a W=>False)
  (fp.stays Aa Aa I _) (λc=>by rintro s W W' row h;exact h.elim) ?h0 _ ?assign ?body ?done ?stop
 case hseq=>
  intro l J Jx W hW hJ _ hY h0;exact XX l f w.heap.size i.heap.size s hs J Jx (λa V q h=>hJ.drewN q h) (λa V v h=>hJ.set v h) hY W (BS.below hW Aa) Aa Aa h0
 case h0=>exact⟨⟨⟨none,0,0⟩,BG,AR.nil _ _ _,rfl⟩,ak,Cp _⟩
 case assign=>
  intro l x W K hK
  gi_wp2
  exact hK
 case body=>
  rintro l a ⟨x,hx⟩ W J ap;obtain⟨⟨⟨y,hN,G⟩,t,z,r⟩,p,O⟩:=J;simp only at r t;have M:(a.map (·.1)).length=a.length:=List.length_map ..;rw[M] at r;subst r;have ao:=t.lt;obtain⟨ln,L⟩: ∃ln,(linesL s)[x]'hx=ln:=⟨_,rfl⟩;have af:Hid ((linesL s).getD x []=ln):=by unfold Hid;rw[DE,Db hx];exact L
  have HE:Hid ((a++ [(⟨x,hx⟩: {j:Nat//j<(linesL s).length})]).map (·.1)=a.map (·.1)++ [x]):=List.map_append;simp only[L];clear L;have cX:W.cell? ⟨w,0,none⟩=some (.slice y a.length G):=t.cell 0;have RE:=Se W ln 9;have C:Below W W (W.alloc (.cells #[.string ⟨ln.toArray⟩] 9)):=BU;have oz:=z.below C;have ab:=t.below C ao;have kz:=XP C;have au:MD w.heap.size i.heap.size W _:=MD.bel C O;have E:=Ch O C.size;have an:Below f w _:=p.trans (C.mono Aa);have al:a.length+1<=1099511627776:=Aa;have d: ∀b,(⟨y,a.length,G⟩:Hd).row=some b->i<=b:=λb e=>(oz.rowlt b e).1
  have HR:Hid (BO ((a.map (·.1)++ [x]).map λj=>(linesL s).getD j [])=BO ((a.map (·.1)).map λj=>(linesL s).getD j [])++BO [ln]):=by
   unfold Hid BO;rw[List.map_append,List.map_append,List.map_cons,List.map_nil,af.out]
  have ai:=Ai M;clear M z t C ap
  gi_wp2_with (gi_at_builtin;refine Jg rfl _ _ 22 rfl 9 1 16 underlying22 Ic Ah i.heap.size ⟨y,a.length,G⟩ _ rfl oz _ 1 1 (BO [ln]) rfl RE (Iv ln) al Ah E ?_;rintro⟨GA,gn,gc⟩ wg X HG U;have m:=ab.grown U (λe=>by have:=d _ e;omega);have aN:=m.cell 0;have aO:=m.frozen 0;have aP:=m.lt;have ac:=Ai X;clear X)
  have kg:=KeepsOthers.trans kz (XQ oz Ah U);have ar:=MD.trans au (MD.grown U d E);have am:Below f w wg:=an.grown U Aa (λb e=>by have:=d b e;omega)
  have ae:gn=a.length+1:=ac.out;subst ae
  have Y:fp w i w.heap.size f (linesL s) (a.map (·.1)++ [x]) (wg.setCell ⟨w,0,none⟩ (.slice GA (a.length+1) gc)):=by
   refine⟨⟨⟨GA,a.length+1,gc⟩,m.set_ 0 _,?_,?_⟩,am.setCell Aw _,?_⟩
   ·rw[HR.out];exact HG.grown (Vm _ _ _ _) (λb e c=>by injection c with c;have:=(HG.rowlt _ e).1;omega)
   ·rw[Dy,ai.out];rfl
   ·exact Ch (Ch E U.size) (by simp[World.setCell])
  rw[<-HE.out] at Y;exact⟨KeepsOthers.trans kg (KeepsOthers.setCell _ _ _),MD.trans ar (MD.set _ _),Y⟩
 case done=>
  rintro D Q W hD Z J H;obtain⟨⟨⟨y,hN,G⟩,t,z,r⟩,p,O⟩:=J;have u:Q.map (·.1)=List.range (linesL s).length:=Z;rw[u] at z r;rw[ag.out] at z;rw[List.length_range] at r;simp only at r t;have cX:W.cell? ⟨w,0,none⟩=some (.slice y hN G):=t.cell 0
  have T:=z.grown (grownBy_putObj' W D (.deferred none)) (λb e c=>by
   obtain⟨o2,h3,h4⟩:=z.rowcells Ah b e;injection c with c;subst c;rw[H] at h3
   cases h3
   cases h4)
  have bD:Below f w _:=p.grown (grownBy_putObj' W D (.deferred none)) (Ch (Nat.le_of_lt I) p.size) (λk e=>by injection e with e;omega)
  have ah:=Ai r;clear Z u r;go_wp2;refine T9 H (v:=.slice y hN G) (by simp[results,results97,go_sem]) ?_
  exact⟨⟨y,hN,G⟩,rfl,ah.out,T.rd1,λad e h0=>by have:=T.wr1.base e h0;omega,bD⟩
 case stop=>
  rintro D c Q W hD hk h H;exact h.elim
theorem iN (b:Nat) (s:Bs) (w:World) (hs:s.length<=1048576) (d:Blk w b 9 #[.string ⟨s.toArray⟩]):
  Calls prog 61 #[.func (.func 98) #[] #[.pointer (some ⟨b,0,none⟩)]] w λe w'=> ∃h:Hd,e=.returned (.slice h.A h.n h.c)∧h.n=(linesL s).length∧Rd w' h.A h.n (BO (linesL s))∧(∀a,h.A=some a->0<h.n->w<=a.block)∧Below b w w':=by
 have H:=Pv b s w hs d;generalize f:(λe w'=> ∃h:Hd,e=Ending.returned (.slice h.A h.n h.c)∧h.n=(linesL s).length∧Rd w' h.A h.n (BO (linesL s))∧(∀a,h.A=some a->0<h.n->w<=a.block)∧Below b w w')=Q at H⊢;have i:Hid (∀e w',Q e w'-> ∃v,e=.returned v):=λe w' h=>by subst f;obtain⟨h,rfl,_⟩:=h;exact⟨_,rfl⟩
 clear f
 go_enter func61,ntmps61
 go_wp2_with (go_at_call 97;refine H.mono ?_;intro e j g;obtain⟨v,rfl⟩:=i.out e j g)
 exact g
end
