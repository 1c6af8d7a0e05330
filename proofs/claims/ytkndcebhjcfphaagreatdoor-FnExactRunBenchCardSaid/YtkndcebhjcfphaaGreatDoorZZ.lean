import Derived.Test.YtkndcebhjcfphaaGreatDoorZL
import Derived.Test.YtkndcebhjcfphaaGreatDoorZO
import Derived.Test.YtkndcebhjcfphaaGreatDoorZU
import Derived.Shelf.RegionOpen
import Derived.OwnWalkIn
import Derived.LoopNIn
import Derived.LoopIn
namespace Go.Proofs.YtkndcebhjcfphaaGreatDoor
open Go.RowKit Go.Proofs.Tryz
set_option maxRecDepth 100000
set_option maxHeartbeats 4000000
set_option linter.all false
section
open Go.RowKit Go.Shelf
attribute [local go_sem] Oper.semAt_some
structure MD (gb n₀:Nat) (W W':World):Prop where
 size:W≤W'.heap.size
 block: ∀b,b<n₀→b≠gb→W'.heap[b]? =W.heap[b]?
section
variable {gb n₀ : Nat} {W W' W1 : World}
theorem MD.refl (W:World):MD gb n₀ W W:=⟨Cp _,fun _ _ _=>rfl⟩
theorem MD.trans (h:MD gb n₀ W W1) (k:MD gb n₀ W1 W'):MD gb n₀ W W':=⟨Ch h.size k.size,fun b h1 h2=>(k.block b h1 h2).trans (h.block b h1 h2)⟩
theorem MD.put {w:World} (hn:n₀≤w) (W:World) (l:Nat) (o o':Obj) (hl:w≤l) (_:W.heap[l]? =some o) (_:o.isCells=false) (_:o.isWalk=false):MD gb n₀ W (W.putObj l o'):=
 have g:=grownBy_putObj' W l o'
 ⟨g.size,fun b h1 _=>by
  rcases Nat.lt_or_ge b W.heap.size with hb|hb
  ·exact g.block b hb (fun c=>by injection c with c;omega)
  ·have h3:(W.putObj l o').heap.size=W.heap.size:=by simp[World.putObj]
   rw[Array.getElem?_eq_none hb,Array.getElem?_eq_none Aa]⟩
theorem MD.blk (h:MD gb n₀ W W') {g:Nat} {t:TypeId} {cs:Array Value} (b:Blk W g t cs) (h1:g<n₀) (h2:g≠gb):Blk W' g t cs:=(h.block g h1 h2).trans b
end
theorem XZ (s:ByteArray) (w:World):
  Calls prog 62 #[.string s] w fun e w'=>e=.returned (.func (.func 98) #[] #[.pointer (some ⟨w,0,none⟩)])∧w'=w.alloc (.cells #[.string s] 9):=by
 go_enter func62,ntmps62
 go_wp2;go_ret;exact⟨rfl,rfl⟩
theorem XE (x r:Bs):(ByteArray.mk (x++10::r).toArray).extract 0 (x.length+1)=⟨(x++ [10]).toArray⟩:=by
 rw[IM];have e:x++10::r=(x++ [10])++r:=Cr;rw[e]
 congr 2
 have h:x.length+1-0=(x++ [10]).length:=Cr;rw[h,List.drop_zero];exact List.take_left' rfl
theorem Zq (x r:Bs) (n:Nat) (hn:n=x.length+1+r.length):(ByteArray.mk (x++10::r).toArray).extract (x.length+1) n=⟨r.toArray⟩:=by
 rw[IM];have e:x++10::r=(x++ [10])++r:=Cr;rw[e]
 congr 2
 have h:(x++ [10]).length=x.length+1:=Cr;rw[←h,List.drop_left' rfl];exact ED Bq
theorem XX (l Bx gb n₀:Nat) (s:Bs) (hs:s.length≤1048576) (J Jx:List {j:Nat//j<(linesL s).length}→World→Prop) (hJd: ∀pre W q,J pre W→J pre (W.drewN q)) (hJs: ∀pre W v,J pre W→J pre (W.setCell ⟨Bx,0,none⟩ v))
  (hY: ∀pre x W,J pre W→pre.length<(linesL s).length→YieldAt Fence.wide 1 prog l #[.string ⟨((linesL s)[x.1]'x.2).toArray⟩] W fun e W'=>
   (e=.returned (.bool true)∧J (pre++ [x]) W'∧MD gb n₀ W W')∨(e=.returned (.bool false)∧Jx (pre++ [x]) W'))
  (W:World) (hBx:Blk W Bx 9 #[.string ⟨s.toArray⟩]) (hs1:Bx<n₀) (hs2:Bx≠gb) (h0:J [] W):
  CallsIn Fence.wide 2 prog 98 #[.func (.yield l) #[] #[],.pointer (some ⟨Bx,0,none⟩)] W fun e W'=>(∃v,e=.returned v)∧
   ((∃ys,ys.map (·.1)=List.range (linesL s).length∧J ys W')∨(∃pre,(∃k,pre.map (·.1)=List.range (k+1))∧Jx pre W')):=by
 refine callsIn_of_wp func98 rfl trivial ?_ rfl;simp only[ntmps98,List.size_toArray,Gt,List.length_nil,Nat.reduceAdd,Nat.reduceSub,Array.replicate_succ,Array.replicate_zero,List.push_toArray,List.append_toArray,List.nil_append,List.cons_append]
 gi_wp2
 gi_loopw [3,4] (fun _ _ wr=> ∃(k:Nat) (pre:List {j:Nat//j<(linesL s).length}) (r:Bs),k≤(linesL s).length∧pre.map (·.1)=List.range k∧J pre wr∧Blk wr Bx 9 #[.string ⟨r.toArray⟩]∧(linesL s).drop k=linesL r∧r.length≤1048576)
  (fun _ _ wr=>match wr.cell? ⟨Bx,0,none⟩ with|some (.string t)=>t.size|_=>0)
 case atStart=>exact⟨0,[],s,AZ _,rfl,h0,hBx,rfl,hs⟩
 case round=>
  obtain⟨k,pre,r,hk,hpre,hJr,hB,hdr,hrl⟩:=hrel;have cB:wr.cell? ⟨Bx,0,none⟩=some (.string ⟨r.toArray⟩):=hB.cell 0;have fB:wr.frozen? ⟨Bx,0,none⟩=false:=hB.frozen 0;have gB:=hB.lt
  by_cases hr0:r= []
  ·subst hr0
   have hkn:k=(linesL s).length:=by
    have h:=AN List.length hdr;rw[JW,Hl] at h;have h2:([]:List Bs).length=0:=rfl;omega
   have HP:Hid (pre.map (·.1)=List.range (linesL s).length):=hpre.trans (AN List.range hkn);clear hpre hdr hkn
   gi_wp2
   go_end0
   exact⟨⟨_,rfl⟩,.inl ⟨_,HP.out,hJr⟩⟩
  ·have hrp:0<r.length:=List.length_pos_iff.2 hr0;have hrI:(0:Int)<(r.length:Int):=Aa;have hpl:pre.length=k:=by have:=AN List.length hpre;simpa using this
   rcases Ms r with hn|⟨x,r',rfl,hn,e⟩
   ·have hl1:=Mr hn hr0;rw[hl1] at hdr
    have hlen:k+1=(linesL s).length:=by
     have h:=AN List.length hdr;rw[JW] at h;have h2: [r].length=1:=rfl;omega
    have hlt:k<(linesL s).length:=Aa
    have hat:(linesL s)[k]=r:=by
     have h:=List.drop_eq_getElem_cons hlt;rw[hdr] at h;exact((List.cons.inj h).1).symm
    have hix:=fun V=>Gp ⟨r.toArray⟩ 10 V;rw[show(ByteArray.mk r.toArray).data.toList=r from rfl,show((10:Int).toNat.toUInt8)=10 from rfl,WT hn] at hix;have HP:Hid ((pre++ [(⟨k,hlt⟩: {j:Nat//j<(linesL s).length})]).map (·.1)=List.range (k+1)):=by show List.map _ _=_;rw[List.map_append,hpre,I6];rfl
    have HD:Hid ((linesL s).drop (k+1)=linesL []):=by show List.drop _ _=_;rw[hlen,Hl];exact List.drop_length
    have hB2:=hB.set_ 0 (.string ⟨#[]⟩);have hYk:=hY pre ⟨k,hlt⟩ (wr.setCell ⟨Bx,0,none⟩ (.string ⟨#[]⟩)) (hJs _ _ _ hJr) (by rw[hpl];exact hlt)
    simp only[hat] at hYk;obtain⟨fn,tmps,assign,body,hy,hR⟩:=hYk;clear hpre hdr hat hl1 hlen hrp hpl
    gi_wp2
    refine⟨trivial,?_⟩;refine(callsIn_wide.2 (hix _)).mono ?_;rintro e w' ⟨rfl,rfl⟩
    gi_wp2
    refine hR.mono ?_;rintro e W3 (⟨rfl,hJ3,hk3⟩|⟨rfl,hJx3⟩)
    ·have hB3:=hk3.blk hB2 hs1 hs2;have cB3:W3.cell? ⟨Bx,0,none⟩=some (.string ⟨#[]⟩):=hB3.cell 0
     gi_wp2
     go_roundw
     case rel=>exact⟨k+1,_,[],by omega,HP.out,hJ3,hB3,HD.out,AZ _⟩
     case measure=>simp[cB3,cB,ByteArray.size];omega
    ·gi_wp2
     refine AS (results_none rfl _ _ _) rfl ?_;exact⟨⟨_,rfl⟩,.inr ⟨_,⟨k,HP.out⟩,hJx3⟩⟩
   ·rw[e] at hdr
    have hlt:k<(linesL s).length:=by
     have h:=AN List.length hdr;rw[JW] at h;simp at h;omega
    have hcons:=List.drop_eq_getElem_cons hlt;rw[hdr] at hcons;have hat:(linesL s)[k]=x++ [10]:=((List.cons.inj hcons).1).symm;have hix:=fun V=>Gp ⟨(x++10::r').toArray⟩ 10 V;rw[show(ByteArray.mk (x++10::r').toArray).data.toList=x++10::r' from rfl,show((10:Int).toNat.toUInt8)=10 from rfl,ZF r' hn] at hix;have HP:Hid ((pre++ [(⟨k,hlt⟩: {j:Nat//j<(linesL s).length})]).map (·.1)=List.range (k+1)):=by show List.map _ _=_;rw[List.map_append,hpre,I6];rfl
    have HD:Hid ((linesL s).drop (k+1)=linesL r'):=((List.cons.inj hcons).2).symm;have hsz:(x++10::r').length=x.length+1+r'.length:=Bq;have E1:=XE x r';have E2:=fun n hn=>Zq x r' n hn;have E2:=E2 _ hsz;have u1:=Bg ((x.length:Int)+1);have hxI:(x.length:Int)+1≤((x++10::r').length:Int):=Aa;have hx0:(0:Int)≤(x.length:Int):=Aa;have hx1:(0:Int)≤(x.length:Int)+1:=Aa;have htn:((x.length:Int)+1).toNat=x.length+1:=Aa;generalize hrr:x++10::r'=rr at*;have HSZ:=Ai hsz;clear hpre hdr hcons e hrp hsz
    gi_wp2
    refine⟨trivial,?_⟩;refine(callsIn_wide.2 (hix _)).mono ?_;rintro e w' ⟨rfl,rfl⟩
    gi_wp2
    refine wpIn_wide.2 ?_
    go_region
    have hB2:Blk (w'.setCell ⟨Bx,0,none⟩ (.string ⟨r'.toArray⟩)).drew Bx 9 #[.string ⟨r'.toArray⟩]:=hB.set_ 0 _;have hYk:=hY pre ⟨k,hlt⟩ (w'.setCell ⟨Bx,0,none⟩ (.string ⟨r'.toArray⟩)).drew (hJd _ _ 1 (hJs _ _ _ hJr)) (by rw[hpl];exact hlt)
    simp only[hat] at hYk;obtain⟨fn,tmps,assign,body,hy,hR⟩:=hYk
    gi_wp2
    refine hR.mono ?_;rintro e W3 (⟨rfl,hJ3,hk3⟩|⟨rfl,hJx3⟩)
    ·have hB3:=hk3.blk hB2 hs1 hs2;have cB3:W3.cell? ⟨Bx,0,none⟩=some (.string ⟨r'.toArray⟩):=hB3.cell 0
     gi_wp2
     go_roundw
     case rel=>exact⟨k+1,_,r',by omega,HP.out,hJ3,hB3,HD.out,by have:=HSZ.out;omega⟩
     case measure=>have:=HSZ.out;simp[cB3,cB,ByteArray.size];omega
    ·gi_wp2
     refine AS (results_none rfl _ _ _) rfl ?_;exact⟨⟨_,rfl⟩,.inr ⟨_,⟨k,HP.out⟩,hJx3⟩⟩
end
section
open Go.RowKit Go.Shelf
section
variable {w w' W V : World} {B K : Nat} {h : Hd} {us : List Value}
theorem AR.rowcells (o:AR w B K h us) (hK:0<K): ∀b,h.row=some b→ ∃o:Obj,w.heap[b]? =some o∧o.isCells=true:=fun b e=>by
 obtain⟨hc0,ad,hA,rfl⟩:=Hd.row_some e;obtain⟨_,_,_,h4⟩:=o.at_ ad hA hc0;obtain⟨⟨u,hu,_⟩,_⟩:=h4 0 (by have:=Nat.mul_pos hc0 hK;omega)
 obtain⟨o',ho',hcc⟩:=cells_of_cell hu;rw[Aq] at ho';exact⟨o',ho',hcc⟩
theorem AR.stays (o:AR w B K h us) (hK:0<K) {row:Option Nat} {g C:Nat} (hg:w.grownBy w' row) (hr: ∀r,row=some r→r=g∨(C≤r∧ ∃o:Obj,w.heap[r]? =some o∧o.isCells=false)) (hgB:g<B):AR w' B K h us:=
 o.grown hg (fun b e c=>by
  rcases hr b c with e1|⟨_,ob,h1,h2⟩
  ·have:=(o.rowlt b e).1;omega
  ·obtain⟨o2,h3,h4⟩:=o.rowcells hK b e;rw[h1] at h3
   cases h3
   rw[h2] at h4
   cases h4)
theorem Blk.stays {g0:Nat} {t:TypeId} {cs:Array Value} (b:Blk w g0 t cs) {row:Option Nat} {g C:Nat} (hg:w.grownBy w' row) (hr: ∀r,row=some r→r=g∨(C≤r∧ ∃o:Obj,w.heap[r]? =some o∧o.isCells=false)) (h1:g0≠g):Blk w' g0 t cs:=
 b.grown hg (fun c=>by
  rcases hr g0 c with e1|⟨_,ob,h2,h3⟩
  ·exact h1 e1
  ·unfold Blk at b;rw[b] at h2
   cases h2
   cases h3)
theorem SN {n:Nat} (b:Below n w W) {row:Option Nat} {g C:Nat} (hg:W.grownBy V row) (hr: ∀r,row=some r→r=g∨(C≤r∧ ∃o:Obj,W.heap[r]? =some o∧o.isCells=false)) (hn:n≤w) (h1:n≤g) (h2:n≤C):Below n w V:=
 b.grown hg (Ch hn b.size) (fun k e=>by rcases hr k e with e1|⟨h3,_⟩<;>omega)
theorem XP (b:Below w w W):KeepsOthers w W:=⟨b.size,fun k o hk _=>(b.block k (Array.getElem?_eq_some_iff.1 hk).1).trans hk⟩
theorem XQ (o:AR w B K h us) (hK:0<K) (g:w.grownBy w' h.row):KeepsOthers w w':=
 KeepsOthers.of_grownBy g (fun j ob e ho=>by
  obtain⟨o2,h3,h4⟩:=o.rowcells hK j e;rw[ho] at h3
  cases h3
  exact h4)
theorem MD.bel {gb n₀:Nat} (b:Below w w W) (h:n₀≤w):MD gb n₀ w W:=⟨b.size,fun k h1 _=>b.block k Aa⟩
theorem MD.grown {gb n₀:Nat} {row:Option Nat} (g:w.grownBy W row) (hr: ∀b,row=some b→n₀≤b) (h:n₀≤w):MD gb n₀ w W:=
 ⟨g.size,fun k h1 _=>g.block k Aa (fun e=>by have:=hr k e.symm;omega)⟩
theorem MD.set {gb n₀:Nat} (W:World) (v:Value):MD gb n₀ W (W.setCell ⟨gb,0,none⟩ v):=
 ⟨by simp[World.setCell],fun k _ h2=>Below.heap_setCell _ _ _ k h2⟩
end
theorem Jg {F:Fence} {n:Nat} {P:Program} {w:World} {ops:Array Oper} {rest:List Oper} {op:Oper} {a:Act} {Q:Exit→Act→World→Prop} (hgd:op.guard=none) (s x:Operand) (t:TypeId)
  (hop:op.op=.call {callee:=.builtin .append,args:= #[s,x],argTypes:= #[t,t]})
  (e:TypeId) (size bytes:Nat) (ht:P.underlying t=some (.slice e)) (hinf:(P.info? e).map (fun i=>(i.zero.map (·.cells.size),i.size,i.bytes))=some (some size,size,bytes)) (hsz:0<size)
  (B:Nat) (h:Hd) (us:List Value) (hs:a.eval s=.slice h.A h.n h.c) (o:AR w B size h us) (A:Option Addr) (m c:Nat) (news:List Value) (hx:a.eval x=.slice A m c)
  (hr:Rd w A (m*size) news) (h1: ∀u∈news,u.oneCell'=true) (h63:h.n+m≤1099511627776) (hbytes:bytes≤64) (hB:B≤w.heap.size)
  (hK: ∀k w',k.n=h.n+m→AR w' B size k (us++news)→w.grownBy w' h.row→wpListIn F n P ops Q rest (a.put op.dst (.slice k.A k.n k.c)) w'):wpListIn F n P ops Q (op::rest) a w:=by
 refine wpListIn_plain hgd fun Kk hK'=> ?_
 cases hi:P.info? e with
 |none=>rw[hi] at hinf;simp at hinf
 |some i=>
  rw[hi] at hinf;simp only[Option.map_some,Gs,Prod.mk.injEq] at hinf;obtain⟨hz,hsize,hby⟩:=hinf
  cases hz0:i.zero with
  |none=>rw[hz0] at hz;simp at hz
  |some z=>
   rw[hz0] at hz;have hbb:(h.n+m)*bytes≤140737488355328:=Ch (Nat.mul_le_mul h63 hbytes) Ah;obtain⟨k,w',hrun,r1,r2,r3,_⟩:=F7 (P:=P) w t op.type e i z size bytes ht hi hz0 hsize hby (by simpa using hz) hsz B h us o A m c news hr h1 G9 hbb hB
   unfold Oper.wpIn;refine⟨?_,?_⟩
   ·simp[Oper.about,hop,resolve,Target.leads,Sem.run_pure]
   ·rw[Oper.semAt_plain F _ _ (by rw[hop];intro c hc';cases hc')]
    simp[execOp,hop,resolve,invoke,builtin,hs,hx,hrun,Result.andThen]
    exact hK' _ _ (hK k w' r1 r2 r3)
theorem T9 {n:Nat} {P:Program} {fn:Func} {R:Ending→World→Prop} {tmps:Array Value} {w:World} {D:Nat} (hK:w.heap[D]? =some (.deferred (some []))) {v:Value} (h:(results fn tmps).run P (w.putObj D (.deferred none))=.ok v (w.putObj D (.deferred none))) (hR:R (.returned v) (w.putObj D (.deferred none))):
  bodyPostM Fence.wide n P fn R .ret {tmps:=tmps,defers:= [{target:=.collected D,args:= #[]}]} w:=⟨by simp,.inl ⟨D,_,rfl,run_takeDeferred hK,v,h,hR⟩⟩
end
section
open Go.RowKit Go.Shelf
attribute [local go_sem] Oper.semAt_some
theorem Ic:(prog.info? 9).map (fun i=>(i.zero.map (·.cells.size),i.size,i.bytes))=some (some 1,1,16):=We51ceQ
theorem Iv (x:Bs): ∀u∈strs [x],u.oneCell'=true:=by
 intro u hu;have h:u∈ [Value.string ⟨x.toArray⟩]:=hu;rw[DD] at h;subst h
 rfl
theorem Se (w:World) (x:Bs) (e:TypeId):Rd (w.alloc (.cells #[.string ⟨x.toArray⟩] e)) (some ⟨w,0,none⟩) (1*1) (strs [x]):=
 (Br w e #[.string ⟨x.toArray⟩]).rd rfl (fun i hi=>by
  obtain rfl:i=0:=Aa
  rfl)
theorem MQ (ws:List Bs):(List.range ws.length).map (fun j=>ws.getD j [])=ws:=by
 refine List.ext_getElem Cr fun i h1 h2=> ?_
 simp[Db h2]
structure fp (w w2:World) (gb gs:Nat) (ls:List Bs) (pre:List Nat) (W:World):Prop where
 list: ∃h:Hd,Blk W gb 22 #[.slice h.A h.n h.c]∧AR W w2.heap.size 1 h (strs (pre.map fun j=>ls.getD j []))∧h.n=pre.length
 bel:Below gs w W
 sz:w2≤W.heap.size
theorem fp.stays {w w2:World} {gb gs:Nat} {ls:List Bs} (h1:gb≠gs) (h3:gs<w2) (h4:gs<w) {α:Type} (f:α→List Nat):StaysB gs w2.heap.size (fun(s:α) W=>fp w w2 gb gs ls (f s) W):=by
 rintro s W W' row ⟨⟨h,B,o,hn⟩,bel,sz⟩ hg hr;exact⟨⟨h,B.stays hg hr h1,o.stays Ah hg hr h3,hn⟩,SN bel hg hr (Nat.le_of_lt h4) Bk (Nat.le_of_lt h3),Ch sz hg.size⟩
theorem Pv (gs:Nat) (s:Bs) (w:World) (hs:s.length≤1048576) (BS0:Blk w gs 9 #[.string ⟨s.toArray⟩]):
  Calls prog 97 #[.slice none 0 0,.func (.func 98) #[] #[.pointer (some ⟨gs,0,none⟩)]] w fun e w'=> ∃h:Hd,e=.returned (.slice h.A h.n h.c)∧h.n=(linesL s).length∧Rd w' h.A h.n (strs (linesL s))∧(∀ad,h.A=some ad→0<h.n→w≤ad.block)∧Below gs w w':=by
 have hgs:=BS0.lt;refine(callsIn_wide (n:=3)).1 ?_;refine callsIn_of_wp_marks func97 rfl trivial ?_ rfl;simp only[ntmps97,List.size_toArray,Gt,List.length_nil,Nat.reduceAdd,Nat.reduceSub,Array.replicate_succ,Array.replicate_zero,List.push_toArray,List.append_toArray,List.nil_append,List.cons_append];refine wpIn_wide.2 ?_;have BG:=Br w 22 #[.slice none 0 0];have BS:=BS0.alloc (.cells #[.slice none 0 0] 22)
 go_wp2_with fail
 generalize hG:w.alloc _=w2 at BG BS⊢;obtain⟨_,b2,hS⟩:=bJ hG;clear hG;have hz2:w2.heap.size=w.heap.size+1:=Aa;clear hS;have hzz:w+1≤w2.heap.size:=Aa;have hll:=JF s
 have HMR:Hid ((List.range (linesL s).length).map (fun j=>(linesL s).getD j [])=linesL s):=by
  unfold Hid;rw[MQ (linesL s)]
 clear hz2;have bgs:Below gs w w2:=b2.mono (Nat.le_of_lt hgs);refine(wpIn_wide (n:=3)).1 ?_
 refine' Yb (F:=Fence.wide) (n:=3) (g:=gs) rfl Ah (gf:=98) (lb:= #[.pointer (some ⟨gs,0,none⟩)]) rfl trivial (enters_of func98 We51ceQ rfl)
  (encs:=fun x: {j:Nat//j<(linesL s).length}=> #[.string ⟨((linesL s)[x.1]'x.2).toArray⟩]) (Kp:=MD w.heap.size w2.heap.size) (S:=fun ys=>ys.map (·.1)=List.range (linesL s).length) (Sp:=fun ys=> ∃k,ys.map (·.1)=List.range (k+1)) (N:=(linesL s).length) ?hseq Aa
  (fun h k=>h.trans k) (fun W l o o'=>MD.put Bk W l o o') (fun _=>rfl)
  (fun pre W=>fp w w2 w.heap.size gs (linesL s) (pre.map (·.1)) W) (fun c pre W=>False)
  (fp.stays Aa Aa hgs _) (fun c=>by rintro s W W' row h;exact h.elim) ?h0 _ ?assign ?body ?done ?stop
 case hseq=>
  intro l J Jx W hW hJ _ hY h0;exact XX l gs w.heap.size w2.heap.size s hs J Jx (fun pre V q h=>hJ.drewN q h) (fun pre V v h=>hJ.set v h) hY W (BS.below hW Aa) Aa Aa h0
 case h0=>exact⟨⟨⟨none,0,0⟩,BG,AR.nil _ _ _,rfl⟩,bgs,Cp _⟩
 case assign=>
  intro l x W K hK
  gi_wp2
  exact hK
 case body=>
  rintro l pre ⟨x,hx⟩ W J hlt;obtain⟨⟨⟨HA,hN,hC⟩,BX,OX,hn⟩,hbW,hzW⟩:=J;simp only at hn BX;have hpl:(pre.map (·.1)).length=pre.length:=List.length_map ..;rw[hpl] at hn;subst hn;have hgb:=BX.lt;obtain⟨ln,hln⟩: ∃ln,(linesL s)[x]'hx=ln:=⟨_,rfl⟩;have HLN:Hid ((linesL s).getD x []=ln):=by unfold Hid;rw[DE,Db hx];exact hln
  have HE:Hid ((pre++ [(⟨x,hx⟩: {j:Nat//j<(linesL s).length})]).map (·.1)=pre.map (·.1)++ [x]):=List.map_append;simp only[hln];clear hln;have cX:W.cell? ⟨w,0,none⟩=some (.slice HA pre.length hC):=BX.cell 0;have RE:=Se W ln 9;have bz:Below W W (W.alloc (.cells #[.string ⟨ln.toArray⟩] 9)):=BU;have oz:=OX.below bz;have BXz:=BX.below bz hgb;have kz:=XP bz;have kpz:MD w.heap.size w2.heap.size W _:=MD.bel bz hzW;have hBz:=Ch hzW bz.size;have hbz:Below gs w _:=hbW.trans (bz.mono Aa);have h63:pre.length+1≤1099511627776:=Aa;have hrowz: ∀b,(⟨HA,pre.length,hC⟩:Hd).row=some b→w2≤b:=fun b e=>(oz.rowlt b e).1
  have HR:Hid (strs ((pre.map (·.1)++ [x]).map fun j=>(linesL s).getD j [])=strs ((pre.map (·.1)).map fun j=>(linesL s).getD j [])++strs [ln]):=by
   unfold Hid strs;rw[List.map_append,List.map_append,List.map_cons,List.map_nil,HLN.out]
  have HPL:=Ai hpl;clear hpl OX BX bz hlt
  gi_wp2_with (gi_at_builtin;refine Jg rfl _ _ 22 rfl 9 1 16 underlying22 Ic Ah w2.heap.size ⟨HA,pre.length,hC⟩ _ rfl oz _ 1 1 (strs [ln]) rfl RE (Iv ln) h63 Ah hBz ?_;rintro⟨GA,gn,gc⟩ wg hGn HG gg;have BXg:=BXz.grown gg (fun e=>by have:=hrowz _ e;omega);have cXg:=BXg.cell 0;have fXg:=BXg.frozen 0;have gXg:=BXg.lt;have HGN:=Ai hGn;clear hGn)
  have kg:=KeepsOthers.trans kz (XQ oz Ah gg);have kpg:=MD.trans kpz (MD.grown gg hrowz hBz);have hbg:Below gs w wg:=hbz.grown gg Aa (fun b e=>by have:=hrowz b e;omega)
  have HGn:gn=pre.length+1:=HGN.out;subst HGn
  have hJx:fp w w2 w.heap.size gs (linesL s) (pre.map (·.1)++ [x]) (wg.setCell ⟨w,0,none⟩ (.slice GA (pre.length+1) gc)):=by
   refine⟨⟨⟨GA,pre.length+1,gc⟩,BXg.set_ 0 _,?_,?_⟩,hbg.setCell Aw _,?_⟩
   ·rw[HR.out];exact HG.grown (Vm _ _ _ _) (fun b e c=>by injection c with c;have:=(HG.rowlt _ e).1;omega)
   ·rw[Dy,HPL.out];rfl
   ·exact Ch (Ch hBz gg.size) (by simp[World.setCell])
  rw[←HE.out] at hJx;exact⟨KeepsOthers.trans kg (KeepsOthers.setCell _ _ _),MD.trans kpg (MD.set _ _),hJx⟩
 case done=>
  rintro D ys W hD hys J hDK;obtain⟨⟨⟨HA,hN,hC⟩,BX,OX,hn⟩,hbW,hzW⟩:=J;have hys':ys.map (·.1)=List.range (linesL s).length:=hys;rw[hys'] at OX hn;rw[HMR.out] at OX;rw[List.length_range] at hn;simp only at hn BX;have cX:W.cell? ⟨w,0,none⟩=some (.slice HA hN hC):=BX.cell 0
  have OXD:=OX.grown (grownBy_putObj' W D (.deferred none)) (fun b e c=>by
   obtain⟨o2,h3,h4⟩:=OX.rowcells Ah b e;injection c with c;subst c;rw[hDK] at h3
   cases h3
   cases h4)
  have bD:Below gs w _:=hbW.grown (grownBy_putObj' W D (.deferred none)) (Ch (Nat.le_of_lt hgs) hbW.size) (fun k e=>by injection e with e;omega)
  have HNN:=Ai hn;clear hys hys' hn;go_wp2;refine T9 hDK (v:=.slice HA hN hC) (by simp[results,results97,go_sem]) ?_
  exact⟨⟨HA,hN,hC⟩,rfl,HNN.out,OXD.rd1,fun ad e h0=>by have:=OXD.wr1.base e h0;omega,bD⟩
 case stop=>
  rintro D c ys W hD hk h hDK;exact h.elim
theorem S6 (gs:Nat) (s:Bs) (w:World) (hs:s.length≤1048576) (BS0:Blk w gs 9 #[.string ⟨s.toArray⟩]):
  Calls prog 61 #[.func (.func 98) #[] #[.pointer (some ⟨gs,0,none⟩)]] w fun e w'=> ∃h:Hd,e=.returned (.slice h.A h.n h.c)∧h.n=(linesL s).length∧Rd w' h.A h.n (strs (linesL s))∧(∀ad,h.A=some ad→0<h.n→w≤ad.block)∧Below gs w w':=by
 have H:=Pv gs s w hs BS0;generalize hQ:(fun e w'=> ∃h:Hd,e=Ending.returned (.slice h.A h.n h.c)∧h.n=(linesL s).length∧Rd w' h.A h.n (strs (linesL s))∧(∀ad,h.A=some ad→0<h.n→w≤ad.block)∧Below gs w w')=Q at H⊢;have HQ:Hid (∀e w',Q e w'→ ∃v,e=.returned v):=fun e w' h=>by subst hQ;obtain⟨h,rfl,_⟩:=h;exact⟨_,rfl⟩
 clear hQ
 go_enter func61,ntmps61
 go_wp2_with (go_at_call 97;refine H.mono ?_;intro e w1 hq;obtain⟨v,rfl⟩:=HQ.out e w1 hq)
 exact hq
end
end Go.Proofs.YtkndcebhjcfphaaGreatDoor
