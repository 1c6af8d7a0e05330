import Derived.Test.YtkndcebhjcfphaaGreatDoorZ1
namespace Go.Proofs.YtkndcebhjcfphaaGreatDoor
open Go.RowKit Go.Proofs.Tryz
set_option maxRecDepth 100000
set_option maxHeartbeats 4000000
set_option linter.all false
theorem Bb {k:IntKind} {a b:Int} (h:a=b):Ending.returned (.int k a)=.returned (.int k b):=by rw[h]
theorem Af {a b:Bool} (h:a=b):Ending.returned (.bool a)=.returned (.bool b):=by rw[h]
theorem Aq (a:Addr) (n:Nat):(a.add n).block=a.block:=by unfold Addr.add;split<;>rfl
theorem Bv (a:Addr) (i j:Nat):(a.add i).add j=a.add (i+j):=by
 unfold Addr.add
 by_cases hi:i=0<;>by_cases hj:j=0<;>simp[hi,hj,Nat.add_assoc]
theorem CE (b i:Nat):(⟨b,0,none⟩:Addr).add i=⟨b,i,none⟩:=by unfold Addr.add;split<;>simp_all
def ints (xs:List Int):List Value:=xs.map (.int .i64)
theorem CF (xs:List Int) (i:Nat):(ints xs)[i]? =xs[i]?.map (.int .i64):=by unfold ints;simp
def Rd (w:World) (A:Option Addr) (n:Nat) (us:List Value):Prop:=
 us.length=n∧(0<n→ ∃ad,A=some ad∧ ∀i,i<n→w.cell? (ad.add i)=us[i]?)
def Wr (w:World) (base:Nat) (A:Option Addr) (n:Nat):Prop:=
 0<n→ ∃ad,A=some ad∧base≤ad.block∧ ∀i,i<n→w.frozen? (ad.add i)=false
def YD (A:Option Addr):Option Nat:=A.map (·.block)
def blkp (A:Option Addr) (n:Nat):Option Nat:=if n=0 then none else YD A
section
variable {w w' w1 : World} {A : Option Addr} {n B B' : Nat} {us : List Value}
theorem Rd.nil (w:World) (A:Option Addr):Rd w A 0 []:=⟨rfl,fun h=>absurd h Aa⟩
theorem Rd.at_ {k:Nat} (h:Rd w A n us) (hk:k<n): ∃ad u,A=some ad∧us[k]? =some u∧w.cell? (ad.add k)=some u:=by
 obtain⟨ad,e,hc⟩:=h.2 Aa;have hl:k<us.length:=by have:=h.1;omega
 exact⟨ad,us[k],e,Db hl,(hc k hk).trans (Db hl)⟩
theorem Rd.lt (h:Rd w A n us) {ad:Addr} (e:A=some ad) (hn:0<n):ad.block<w.heap.size:=by
 obtain⟨ad',u,e',_,hc⟩:=h.at_ hn;rw[e] at e'
 cases e'
 have:=Gr w _ hc
 rwa [Aq] at this
theorem Rd.keep (h:Rd w A n us) (hk: ∀ad,A=some ad→0<n→w'.heap[ad.block]? =w.heap[ad.block]?):Rd w' A n us:=
 ⟨h.1,fun hn=>by
  obtain⟨ad,e,hc⟩:=h.2 hn;exact⟨ad,e,fun i hi=>(World.cell?_of_block (by rw[Aq];exact hk ad e hn)).trans (hc i hi)⟩⟩
theorem Rd.below (h:Rd w A n us) (hb:Below w.heap.size w w'):Rd w' A n us:=
 h.keep fun _ e hn=>hb.block _ (h.lt e hn)
theorem Rd.grown {row:Option Nat} (h:Rd w A n us) (hg:w.grownBy w' row) (hne: ∀ad,A=some ad→0<n→row≠some ad.block):Rd w' A n us:=
 h.keep fun ad e hn=>hg.block _ (h.lt e hn) (fun c=>hne ad e hn c.symm)
theorem Rd.drewN (h:Rd w A n us) (m:Nat):Rd (w.drewN m) A n us:=h
theorem Wr.keep (h:Wr w B A n) (hk: ∀ad,A=some ad→0<n→w'.heap[ad.block]? =w.heap[ad.block]?):Wr w' B A n:=fun hn=>by
  obtain⟨ad,e,hb,hc⟩:=h hn;exact⟨ad,e,hb,fun i hi=>(World.frozen?_of_block (by rw[Aq];exact hk ad e hn)).trans (hc i hi)⟩
theorem Wr.below (h:Wr w B A n) (hr:Rd w A n us) (hb:Below w.heap.size w w'):Wr w' B A n:=
 h.keep fun _ e hn=>hb.block _ (hr.lt e hn)
theorem Wr.grown {row:Option Nat} (h:Wr w B A n) (hr:Rd w A n us) (hg:w.grownBy w' row) (hne: ∀ad,A=some ad→0<n→row≠some ad.block):Wr w' B A n:=
 h.keep fun ad e hn=>hg.block _ (hr.lt e hn) (fun c=>hne ad e hn c.symm)
theorem Wr.mono (h:Wr w B A n) (hB:B'≤B):Wr w B' A n:=fun hn=>by
  obtain⟨ad,e,hb,hc⟩:=h hn;exact⟨ad,e,Ch hB hb,hc⟩
theorem Wr.base (h:Wr w B A n) {ad:Addr} (e:A=some ad) (hn:0<n):B≤ad.block:=by
  obtain⟨ad',e',hb,_⟩:=h hn;rw[e] at e'
  cases e'
  exact hb
end
theorem Below.drewN {B:Nat} {a w:World} (h:Below B a w) (m:Nat):Below B a (w.drewN m):=⟨h.os,h.tape,h.output,h.size,h.block⟩
theorem Below.left {B m:Nat} {a w:World} (h:Below B (a.drewN m) w):Below B a w:=⟨h.os,h.tape,h.output,h.size,h.block⟩
theorem BW (w:World) (m:Nat):Below w.heap.size w (w.drewN m):=⟨rfl,rfl,rfl,Cp _,fun _ _=>rfl⟩
theorem Bc {a w:World} {row:Option Nat} (h:a.grownBy w row) {p:Addr} (hp:row=some p.block∨a.heap.size≤p.block) (u:Value):a.grownBy (w.setCell p u) row:=
 ⟨h.os,h.tape,h.output,by simpa [World.setCell] using h.size,fun i hi hne=>(Below.heap_setCell _ p u i (by
  rintro rfl;rcases hp with hp|hp
  ·exact hne hp.symm
  ·omega)).trans (h.block i hi hne)⟩
theorem Tq {a b c:World} {row:Option Nat} (h:a.grownBy b row) (k:b.grownBy c row):a.grownBy c row:=
 ⟨k.os.trans h.os,k.tape.trans h.tape,k.output.trans h.output,Ch h.size k.size,fun i hi hne=>(k.block i (CM hi h.size) hne).trans (h.block i hi hne)⟩
theorem Q1 {a:Addr} {i j:Nat} (h:a.add i=a.add j):i=j:=by
 obtain⟨b,o,s⟩:=a;unfold Addr.add at h
 split at h<;>split at h<;>simp_all
theorem Wr.blockp {w:World} {B:Nat} {A:Option Addr} {n k:Nat} (h:Wr w B A n) (hk:blkp A n=some k):B≤k:=by
 unfold blkp at hk
 split at hk
 ·cases hk
 ·obtain⟨ad,e,hb,_⟩:=h Aa;subst e
  simp[YD] at hk
  omega
theorem SM {W w1:World} (hb:Below W.heap.size W w1):(∀b o,b<W.heap.size→w1.cell? ⟨b,o,none⟩=W.cell? ⟨b,o,none⟩)∧(∀b o,b<W.heap.size→w1.frozen? ⟨b,o,none⟩=W.frozen? ⟨b,o,none⟩):=
 ⟨fun b o h=>hb.cell (p:=⟨b,o,none⟩) h,fun b o h=>hb.frozen (p:=⟨b,o,none⟩) h⟩
def Blk (w:World) (g:Nat) (t:TypeId) (cs:Array Value):Prop:=w.heap[g]? =some (.cells cs t (0,0))
section
variable {w w' : World} {g : Nat} {t : TypeId} {cs : Array Value}
theorem Blk.lt (h:Blk w g t cs):g<w.heap.size:=by
 rcases Nat.lt_or_ge g w.heap.size with hlt|hge
 ·exact hlt
 ·unfold Blk at h;rw[Array.getElem?_eq_none hge] at h;cases h
theorem Blk.cell (h:Blk w g t cs) (i:Nat):w.cell? ⟨g,i,none⟩=cs[i]? :=cell_of_row w g i cs t (0,0) h
theorem Blk.frozen (h:Blk w g t cs) (i:Nat):w.frozen? ⟨g,i,none⟩=false:=by
 unfold Blk at h
 simp[World.frozen?,h]
theorem Blk.new (w:World) (t:TypeId) (cs:Array Value):Blk (w.alloc (.cells cs t)) w.heap.size t cs:=heap_alloc_new w _
theorem Blk.drewN (h:Blk w g t cs) (n:Nat):Blk (w.drewN n) g t cs:=h
theorem Blk.alloc (h:Blk w g t cs) (o:Obj):Blk (w.alloc o) g t cs:=(Below.heap_alloc w o g h.lt).trans h
theorem Blk.set_ (h:Blk w g t cs) (i:Nat) (u:Value):Blk (w.setCell ⟨g,i,none⟩ u) g t (cs.setIfInBounds i u):=by
 unfold Blk at h⊢
 simp[World.setCell,Array.getElem?_modify,h]
theorem Blk.far (h:Blk w g t cs) {p:Addr} (hp:g≠p.block) (u:Value):Blk (w.setCell p u) g t cs:=(Below.heap_setCell w p u g hp).trans h
theorem Blk.below {B:Nat} (h:Blk w g t cs) (hb:Below B w w') (hg:g<B):Blk w' g t cs:=(hb.block g hg).trans h
theorem Blk.rd {n:Nat} {us:List Value} (h:Blk w g t cs) (hl:us.length=n) (hc: ∀i,i<n→cs[i]? =us[i]?):Rd w (some ⟨g,0,none⟩) n us:=
 ⟨hl,fun _=>⟨_,rfl,fun i hi=>by rw[CE,h.cell,hc i hi]⟩⟩
theorem Blk.wr (h:Blk w g t cs) {B:Nat} (hB:B≤g) (n:Nat):Wr w B (some ⟨g,0,none⟩) n:=
 fun _=>⟨_,rfl,hB,fun i _=>by rw[CE];exact h.frozen i⟩
end
theorem FV (z:Array Value) (n:Nat):(madeCells z n).size=n:=by unfold madeCells;simp
theorem GE {P:Program} (t e:TypeId) (i:TypeInfo) (z:Value) (ht:P.underlying t=some (.slice e)) (hi:P.info? e=some i) (hz:i.zero=some z)
  (kl kc:IntKind) (n c:Nat) (hnc:n≤c) (hbytes:i.bytes*c≤281474976710656) (h63:c≤9223372036854775807) (w:World):
  (Instr.makeSlice t (.int kl (n:Int)) (.int kc (c:Int))).run P w=.ok (.slice (some ⟨w.heap.size,0,none⟩) n c) (w.alloc (.cells (madeCells z.cells (c*i.size)) e)):=by
 have hb:(i.bytes:Int)*(c:Int)≤281474976710656:=by
  have h:((i.bytes*c:Nat):Int)≤281474976710656:=Aa
  rwa [Int.natCast_mul] at h
 have hr:=run_make (P:=P) w t e i z ht hi hz kl kc n c Aa Aa hb Aa;simp only[Int.toNat_natCast] at hr;exact hr
theorem N9:(prog.info? 2).map (fun i=>(i.zero,i.size,i.bytes))=some (some (.int .i64 0),1,8):=We51ceQ
theorem ER (n:Nat) (hn:n≤2097152) (w:World):
  (Instr.makeSlice 28 (ZI n) (ZI n)).run prog w=.ok (.slice (some ⟨w.heap.size,0,none⟩) n n) (w.alloc (.cells (madeCells #[ZI 0] n) 2)):=by
 obtain⟨i0,hi0,hz0,hz1,hz2⟩:=info_parts N9;have h:=GE (P:=prog) 28 2 i0 _ underlying28 hi0 hz0 .i64 .i64 n n (Cp _) (by rw[hz2];omega) Aa w
 rw[hz1,Nat.mul_one] at h;exact h
theorem Rd.int {w:World} {A:Option Addr} {n k:Nat} {xs:List Int} (h:Rd w A n (ints xs)) (hk:k<n): ∃ad,A=some ad∧w.cell? (ad.add k)=ZS (xs.getD k 0):=by
 obtain⟨ad,u,rfl,hu,hc⟩:=h.at_ hk;have hl:xs.length=n:=by have:=h.1;unfold ints at this;simpa using this
 refine⟨ad,rfl,?_⟩;rw[hc,←hu,CF]
 simp[Db (show k<xs.length by omega)]
theorem CJ {xs:List Int} {k:Nat} (h:k<xs.length):xs.getD k 0=xs[k]:=by simp[h]
def inR (x lo hi:Int):Bool:=decide (lo≤x) && decide (x≤hi)
theorem Ac {x lo hi:Int} (h:inR x lo hi=true):lo≤x∧x≤hi:=by unfold inR at h;simpa using h
theorem CN {x lo hi:Int} (h:lo≤x) (h':x≤hi):inR x lo hi=true:=by unfold inR;simp[h,h']
theorem Qo {x lo hi:Int} (h:inR x lo hi=false):x<lo∨hi<x:=by unfold inR at h;simp at h;omega
def BV (xs:List Int) (lo hi:Int):Bool:=xs.all (fun x=>inR x lo hi)
theorem Jw {xs:List Int} {lo hi:Int} (h:BV xs lo hi=true) {x:Int} (hx:x∈xs):lo≤x∧x≤hi:=by
 unfold BV at h;rw[List.all_eq_true] at h;exact Ac (h x hx)
theorem EZ {xs:List Int} {lo hi:Int} (h:BV xs lo hi=true) {k:Nat} (hk:k<xs.length):lo≤xs.getD k 0∧xs.getD k 0≤hi:=
 Jw h (by rw[CJ hk];exact EH hk)
theorem Ji {xs:List Int} {lo hi:Int} {k:Nat} (h:BV (xs.take k) lo hi=true) (hk:xs.length≤k):BV xs lo hi=true:=by rwa [ED hk] at h
theorem Hu {xs:List Int} {lo hi:Int} {k:Nat} (hk:k<xs.length):BV (xs.take (k+1)) lo hi=(BV (xs.take k) lo hi && inR (xs.getD k 0) lo hi):=by
 unfold BV;rw[List.take_succ_eq_append_getElem hk,List.all_append,CJ hk];simp
theorem If {xs:List Int} {lo hi:Int} {k:Nat} (hk:k<xs.length) (h:inR (xs.getD k 0) lo hi=false):BV xs lo hi=false:=by
 rw[JV];intro c;have:=EZ c hk;rw[CN this.1 this.2] at h;cases h
def Hn (xs:List Int) (most:Int) (lo hi:Int):Bool:=decide ((xs.length:Int)≤most) && BV xs lo hi
theorem Rd.len {w:World} {A:Option Addr} {n:Nat} {xs:List Int} (h:Rd w A n (ints xs)):xs.length=n:=by have:=h.1;unfold ints at this;simpa using this
theorem As (x lo hi:Int) (w:World):
  Calls prog 73 (Ziii x lo hi) w fun e w'=>e=.returned (.bool (inR x lo hi))∧w=w':=by
 by_cases h1:lo≤x
 ·by_cases h2:x≤hi
  ·have e:inR x lo hi=true:=CN h1 h2
   go_enter func73,ntmps73
   go_wp2;go_ret;exact⟨Af (by first|rfl|rw[e]),rfl⟩
  ·have e:inR x lo hi=false:=by unfold inR;simp[h2]
   go_enter func73,ntmps73
   go_wp2;go_ret;exact⟨Af (by first|rfl|rw[e]),rfl⟩
 ·have e:inR x lo hi=false:=by unfold inR;simp[h1]
  go_enter func73,ntmps73
  go_wp2;go_ret;exact⟨Af (by first|rfl|rw[e]),rfl⟩
theorem Ay (x lo hi:Int) (w:World):
  Calls prog 84 (Ziii x lo hi) w fun e w'=>e=.returned (.bool (inR x lo hi))∧w=w':=by
 by_cases h1:lo≤x
 ·by_cases h2:x≤hi
  ·have e:inR x lo hi=true:=CN h1 h2
   go_enter func84,ntmps84
   go_wp2;go_ret;exact⟨Af (by first|rfl|rw[e]),rfl⟩
  ·have e:inR x lo hi=false:=by unfold inR;simp[h2]
   go_enter func84,ntmps84
   go_wp2;go_ret;exact⟨Af (by first|rfl|rw[e]),rfl⟩
 ·have e:inR x lo hi=false:=by unfold inR;simp[h1]
  go_enter func84,ntmps84
  go_wp2;go_ret;exact⟨Af (by first|rfl|rw[e]),rfl⟩
theorem Fb (A:Option Addr) (n c:Nat) (xs:List Int) (lo hi:Int) (w:World) (hn:n≤9223372036854775807) (hr:Rd w A n (ints xs)):
  Calls prog 76 (FK A n c lo hi) w fun e w'=>e=.returned (.bool (BV xs lo hi))∧w=w':=by
 have HL:=Ai hr.len
 go_enter func76,ntmps76
 go_wp2
 go_loop [11] (fun i=> ∃k:Nat,k≤n∧i=.int .i64 k∧BV (xs.take k) lo hi=true) (fun i=>n-(intOf i).toNat)
 case atStart=>exact⟨0,AZ _,rfl,rfl⟩
 case round=>
  obtain⟨k,hk,rfl,hall⟩:=hrel;have HA:=Ai hall;clear hall
  by_cases hlt:k<n
  ·obtain⟨ad,rfl,hx⟩:=hr.int hlt;have hs:=Hu (xs:=xs) (lo:=lo) (hi:=hi) (k:=k) (by rw[HL.out];exact hlt)
   have HS:=Ai hs;clear hs;have HF:Hid (inR (xs.getD k 0) lo hi=false→BV xs lo hi=false):=fun h=>If (k:=k) (by rw[HL.out];exact hlt) h
   generalize xs.getD k 0=x at*;rcases BA (inR x lo hi) with h|h
   ·go_wp2_with (go_at_call 73;refine(As _ _ _ _).mono ?_;rintro e w' ⟨rfl,rfl⟩)
    go_round
    case rel=>exact⟨k+1,by omega,by go_num,by rw[HS.out,HA.out,h];rfl⟩
    case measure=>simp[intOf];omega
   ·go_wp2_with (go_at_call 73;refine(As _ _ _ _).mono ?_;rintro e w' ⟨rfl,rfl⟩)
    go_ret;exact⟨Af (by rw[HF.out h]),rfl⟩
  ·go_wp2;go_ret;exact⟨Af (by rw[Ji HA.out (by rw[HL.out];omega)]),rfl⟩
theorem Gw (A:Option Addr) (n c:Nat) (xs:List Int) (most lo hi:Int) (w:World) (hn:n≤9223372036854775807) (hr:Rd w A n (ints xs)):
  Calls prog 115 #[.slice A n c,ZI most,ZI lo,ZI hi] w fun e w'=>e=.returned (.bool (Hn xs most lo hi))∧w=w':=by
 have HL:=Ai hr.len
 go_enter func115,ntmps115
 go_wp2
 go_loop [9] (fun i=> ∃k:Nat,k≤n∧i=.int .i64 k∧BV (xs.take k) lo hi=true) (fun i=>n-(intOf i).toNat)
 case atStart=>exact⟨0,AZ _,rfl,rfl⟩
 case round=>
  obtain⟨k,hk,rfl,hall⟩:=hrel;have HA:=Ai hall;clear hall
  by_cases hlt:k<n
  ·obtain⟨ad,rfl,hx⟩:=hr.int hlt;have hs:=Hu (xs:=xs) (lo:=lo) (hi:=hi) (k:=k) (by rw[HL.out];exact hlt)
   have HS:=Ai hs;clear hs;have HF:Hid (inR (xs.getD k 0) lo hi=false→BV xs lo hi=false):=fun h=>If (k:=k) (by rw[HL.out];exact hlt) h
   generalize xs.getD k 0=x at*;rcases BA (inR x lo hi) with h|h
   ·go_wp2_with (go_at_call 84;refine(Ay _ _ _ _).mono ?_;rintro e w' ⟨rfl,rfl⟩)
    go_round
    case rel=>exact⟨k+1,by omega,by go_num,by rw[HS.out,HA.out,h];rfl⟩
    case measure=>simp[intOf];omega
   ·go_wp2_with (go_at_call 84;refine(Ay _ _ _ _).mono ?_;rintro e w' ⟨rfl,rfl⟩)
    go_ret;exact⟨Af (by unfold Hn;rw[HF.out h,Bool.and_false]),rfl⟩
  ·go_wp2;go_ret;exact⟨Af (by unfold Hn;rw[Ji HA.out (by rw[HL.out];omega),HL.out,Bool.and_true]),rfl⟩
theorem Lb {P:Program} (w:World) (base:Nat) (t ty e:TypeId) (i:TypeInfo) (size:Nat) (ht:P.underlying t=some (.slice e)) (hi:P.info? e=some i)
  (v:Value) (n:Nat) (xs:List Value) (hown:w.ownsRow base e size v n xs) (c:Nat):(Builtin.append_ #[t,t] ty #[v,.slice none 0 c]).run P w=.ok v w:=by
 rcases hown.2 with⟨rfl,rfl⟩|⟨g,cap,cur,rfl,_,_,hnc,_⟩
 ·simp[Builtin.append_,run_underlying ht,sizeOf,typeInfo,hi,Builtin.lenOf,Builtin.firstCells]
 ·simp[Builtin.append_,run_underlying ht,sizeOf,typeInfo,hi,Builtin.lenOf,Builtin.firstCells,hnc,storeCells]
theorem Ao (xs:List Int): ∀u∈ints xs,u.oneCell'=true:=by
 intro u hu;unfold ints at hu;rw[List.mem_map] at hu;obtain⟨x,_,rfl⟩:=hu;rfl
theorem IA {P:Program} (w:World) (base:Nat) (t ty e:TypeId) (i:TypeInfo) (z:Value) (size bytes:Nat) (ht:P.underlying t=some (.slice e)) (hi:P.info? e=some i) (hz:i.zero=some z)
  (hsize:i.size=size) (hby:i.bytes=bytes) (hzs:z.cells.size=size) (hsz:0<size)
  (v:Value) (n:Nat) (xs:List Value) (hown:w.ownsRow base e size v n xs)
  (A:Option Addr) (m c:Nat) (news:List Value) (hl:news.length=m*size) (hr:0<m→ ∃ad,A=some ad∧ ∀j u,news[j]? =some u→w.cell? (ad.add j)=some u) (h1: ∀u∈news,u.oneCell'=true)
  (h63:n+m≤maxLen) (hbytes:(n+m)*bytes≤140737488355328) (hbase:base≤w.heap.size):
  ∃v' w',(Builtin.append_ #[t,t] ty #[v,.slice A m c]).run P w=.ok v' w'∧w'.ownsRow base e size v' (n+m) (xs++news)∧w.grownBy w' v.ownBlock∧
   (v'.ownBlock=v.ownBlock∨v'.ownBlock=some w.heap.size):=by
 rcases A with _|ad
 ·have hm:m=0:=by
   rcases Nat.eq_zero_or_pos m with h0|h0
   ·exact h0
   ·obtain⟨ad,h,_⟩:=hr h0
    cases h
  subst hm;have hn:news= []:=Pt (by simpa using hl)
  subst hn;exact⟨v,w,Lb w base t ty e i size ht hi v n xs hown c,by simpa using hown,JU w _,.inl rfl⟩
 ·have hcells: ∀j u,news[j]? =some u→w.cell? (ad.add j)=some u:=by
   intro j u hu;rcases Nat.eq_zero_or_pos m with h0|h0
   ·subst h0;have hn:news= []:=Pt (by simpa using hl)
    subst hn;simp at hu
   ·obtain⟨ad',h,hc⟩:=hr h0;injection h with h;subst h;exact hc j u hu
  obtain⟨v',w',hrun,h2,h3,_,h5⟩:=run_append_own_at (P:=P) w base t ty e i z size bytes ht hi hz hsize hby hzs hsz v n xs hown ad m c news hl hcells h1 h63 hbytes hbase;exact⟨v',w',hrun,h2,h3,h5⟩
theorem Gy {w:World} {base n:Nat} {e:TypeId} {v:Value} {us:List Value} (h:w.ownsRow base e 1 v n us):
  ∃B c,v=.slice B n c∧Rd w B n us∧Wr w base B n∧n≤c∧(B=none→n=0):=by
 obtain⟨hl,h2⟩:=h;rcases h2 with⟨rfl,rfl⟩|⟨g,cap,cur,rfl,hb,hh,hc,_,hs,ht⟩
 ·obtain rfl:us= []:=Pt (by simpa using hl)
  exact⟨none,0,rfl,Rd.nil _ _,fun h=>absurd h Aa,Cp _,fun _=>rfl⟩
 ·refine⟨some ⟨g,0,none⟩,cap,rfl,Blk.rd (cs:=cur) hh (by simpa using hl) (fun i hi=> ?_),Blk.wr (cs:=cur) hh hb n,hc,fun h=>by cases h⟩
  rw[←ht,List.getElem?_take,AA (by simpa using hi)]
  simp
theorem Ef {w w':World} {base n:Nat} {e:TypeId} {v:Value} {us:List Value} (h:w.ownsRow base e 1 v n us) (hb:Below w.heap.size w w'):w'.ownsRow base e 1 v n us:=
 h.kept (row:=none) ⟨hb.os,hb.tape,hb.output,hb.size,fun k hk _=>hb.block k hk⟩ (by cases v.ownBlock<;>simp)
theorem FI (w:World) (e:TypeId):(w.alloc (.cells #[] e)).ownsRow w.heap.size e 1 (.slice (some ⟨w.heap.size,0,none⟩) 0 0) 0 []:=
 World.ownsRow_made w #[] 0 (Cp _) (AZ _) rfl
theorem Pk {o:Oper} {a:Act} {K:Act→World→Prop} {Q:Exit→Act→World→Prop} {w:World} (s x:Operand)
  (ho:o.op=.call {callee:=.builtin .append,args:= #[s,x],argTypes:= #[28,28]})
  (base:Nat) (v:Value) (n:Nat) (xs ys:List Int) (A:Option Addr) (m c:Nat) (hs:a.eval s=v) (hx:a.eval x=.slice A m c)
  (hown:w.ownsRow base 2 1 v n (ints xs)) (hr:Rd w A m (ints ys)) (hn:n+m≤1099511627776) (hbase:base≤w.heap.size)
  (h: ∀v' w',w'.ownsRow base 2 1 v' (n+m) (ints (xs++ys))→Below base w w'→w.grownBy w' v.ownBlock→(v'.ownBlock=v.ownBlock∨v'.ownBlock=some w.heap.size)→K (a.put o.dst v') w'):o.wp prog a w K Q:=by
 obtain⟨i0,hi0,hz0,hz1,hz2⟩:=info_parts N9
 obtain⟨v',w',hrun,h2,h3,h4⟩:=IA (P:=prog) w base 28 o.type 2 i0 _ 1 8 underlying28 hi0 hz0 hz1 hz2 rfl Aa v n (ints xs) hown A m c (ints ys)
  (by rw[hr.1,Nat.mul_one]) (fun hm=>by
   obtain⟨ad,e,hc⟩:=hr.2 hm;exact⟨ad,e,fun j u hu=>by rw[hc j (by have:=(List.getElem?_eq_some_iff.1 hu).1;rwa [hr.1] at this)];exact hu⟩) (Ao ys) G9 Aa hbase
 unfold Oper.wp execOp;simp only[ho,resolve,invoke,builtin,Sem.run_bind,Sem.run_pure,Result.andThen_ok,List.map_toArray,List.map_cons,List.map_nil,hs,hx,hrun];refine h v' w' (by unfold ints at h2⊢;simpa using h2) ((AP _ _).grown h3 hbase (fun k hk=>(hown.lt k hk).1)) h3 h4
theorem DC {ops:Array Oper} {rest:List Oper} {o:Oper} {a:Act} {Q:Exit→Act→World→Prop} {w:World} (hgd:o.guard=none) (s x:Operand)
  (ho:o.op=.call {callee:=.builtin .append,args:= #[s,x],argTypes:= #[28,28]})
  (base:Nat) (v:Value) (n:Nat) (xs ys:List Int) (A:Option Addr) (m c:Nat) (hs:a.eval s=v) (hx:a.eval x=.slice A m c)
  (hown:w.ownsRow base 2 1 v n (ints xs)) (hr:Rd w A m (ints ys)) (hn:n+m≤1099511627776) (hbase:base≤w.heap.size)
  (h: ∀v' w',w'.ownsRow base 2 1 v' (n+m) (ints (xs++ys))→Below base w w'→w.grownBy w' v.ownBlock→(v'.ownBlock=v.ownBlock∨v'.ownBlock=some w.heap.size)→wpList prog ops Q rest (a.put o.dst v') w'):wpList prog ops Q (o::rest) a w:=
 wpList_plain hgd fun _ hK=>Pk s x ho base v n xs ys A m c hs hx hown hr hn hbase fun v' w' h2 h3 h4 h5=>hK _ _ (h v' w' h2 h3 h4 h5)
theorem BD (w : World) (x : Int) (e : TypeId) : Rd (w.alloc (.cells #[.int .i64 x] e)) (some ⟨w.heap.size, 0, none⟩) 1 (ints [x]) :=
  (Blk.new w e #[.int .i64 x]).rd rfl (fun i hi => by obtain rfl : i = 0 := by omega
                                                      rfl)
theorem Et {ops:Array Oper} {rest:List Oper} {o:Oper} {a:Act} {Q:Exit→Act→World→Prop} {w:World} {u:Int} {e:TypeId} (hgd:o.guard=none) (s x:Operand)
  (ho:o.op=.call {callee:=.builtin .append,args:= #[s,x],argTypes:= #[28,28]})
  (base:Nat) (v:Value) (n:Nat) (xs:List Int) (hs:a.eval s=v) (hx:a.eval x=.slice (some ⟨w.heap.size,0,none⟩) 1 1)
  (hown:w.ownsRow base 2 1 v n (ints xs)) (hn:n+1≤1099511627776) (hbase:base≤w.heap.size)
  (h: ∀v' w',w'.ownsRow base 2 1 v' (n+1) (ints (xs++ [u]))→Below base w w'→w.grownBy w' v.ownBlock→(v'.ownBlock=v.ownBlock∨w.heap.size≤v'.ownBlock.getD 0)→wpList prog ops Q rest (a.put o.dst v') w'):
  wpList prog ops Q (o::rest) a (w.alloc (.cells #[ZI u] e)):=
 DC hgd s x ho base v n xs [u] _ 1 1 hs hx (hown.alloc _) (BD w u e) hn Bq fun v' w' h2 h3 h4 h5=>
  h v' w' h2 (((AP _ _).alloc hbase _).trans h3) (Tq (World.grownBy_alloc w _ _) h4) (h5.imp id fun h5=>by rw[h5];simp)
theorem Vt (A:Option Addr) (n c:Nat) (xs:List Int) (w:World) (hn:n≤2097152) (hr:Rd w A n (ints xs)):
  Calls prog 266 #[.slice A n c] w fun e w'=> ∃v,e=.returned v∧w'.ownsRow w.heap.size 2 1 v n (ints xs)∧Below w.heap.size w w':=by
 go_enter func266,ntmps266
 go_wp2_with (at_builtin;refine DC rfl _ _ rfl w.heap.size (.slice (some ⟨w.heap.size,0,none⟩) 0 0) 0 [] xs A n c rfl rfl (FI w _) ?_ Aa Cr ?_;exact hr.below ((AP _ _).alloc (Cp _) _);intro v' w' hown hbel _ _)
 go_ret;exact⟨_,rfl,by simpa using hown,((AP _ _).alloc (Cp _) _).trans hbel⟩
theorem Y2 {B:Nat} {a b c:World} (h:Below B a b) (k:Below b.heap.size b c) (hB:B≤a.heap.size):Below B a c:=h.trans (k.mono (Ch hB h.size))
theorem Jk {a b c:World} (h:Below a.heap.size a b) (k:Below b.heap.size b c):Below a.heap.size a c:=Y2 h k (Cp _)
theorem Kh (xs:List Int) (k:Nat) (x:Int):ints (xs.set k x)=(ints xs).set k (ZI x):=by unfold ints;rw[List.map_set]
theorem B8 (xs ys:List Int):ints (xs++ys)=ints xs++ints ys:=by unfold ints;simp
section
variable {w : World} {A : Option Addr} {n k B : Nat} {us : List Value} {u : Value} {ad : Addr}
theorem Rd.set_ (h:Rd w A n us) (hk:k<n) (e:A=some ad):Rd (w.setCell (ad.add k) u) A n (us.set k u):=by
 refine⟨by rw[List.length_set];exact h.1,fun hn=>⟨ad,e,fun i hi=> ?_⟩⟩
 obtain⟨ad',e',hc⟩:=h.2 hn;rw[e] at e'
 cases e'
 by_cases hik:i=k
 ·subst hik;obtain⟨ad'',v,e'',hv,hcell⟩:=h.at_ hi;rw[e] at e''
  cases e''
  rw[World.cell?_setCell_same _ _ _ hcell,List.getElem?_set_self (by rw[h.1];exact hi)]
 ·rw[World.cell?_setCell_other _ _ _ _ (fun c=>hik (Q1 c).symm),hc i hi,List.getElem?_set_ne (fun c=>hik c.symm)]
theorem Wr.set_ (h:Wr w B A n) (p:Addr):Wr (w.setCell p u) B A n:=fun hn=>by
 obtain⟨ad,e,hb,hf⟩:=h hn;exact⟨ad,e,hb,fun i hi=>by rw[World.frozen?_setCell];exact hf i hi⟩
theorem Rd.seti {xs:List Int} {x:Int} (h:Rd w A n (ints xs)) (hk:k<n) (e:A=some ad):Rd (w.setCell (ad.add k) (ZI x)) A n (ints (xs.set k x)):=by
 rw[Kh];exact h.set_ hk e
end
def mix (L xs:List Int) (k:Nat):List Int:=L.take k++xs.drop k
theorem cH (L xs:List Int) (h:L.length=xs.length):mix L xs xs.length=L:=by unfold mix;rw[←h,List.take_length,h,List.drop_length,List.append_nil]
theorem cI (L xs:List Int) (h:L.length=xs.length) {k:Nat} (hk:k<xs.length):(mix L xs k).set k (L.getD k 0)=mix L xs (k+1):=by
 unfold mix;have h1:(L.take k).length=k:=Bq;rw[List.set_append_right _ _ Aa,h1,Nat.sub_self,List.drop_eq_getElem_cons hk,List.set_cons_zero,List.take_succ_eq_append_getElem Aa,CJ Aa,List.append_assoc]
 rfl
theorem Ox {α:Type} (f:Nat→α) (k:Nat):(List.range (k+1)).map f=(List.range k).map f++ [f k]:=by rw[I6,List.map_append];rfl
theorem Ow (f:Nat→Int) {n k:Nat} (h:k<n):((List.range n).map f).getD k 0=f k:=by simp[h]
structure Sl where
 A:Option Addr
 n:Nat
 us:List Value
def Sl.row (s:Sl):Option Nat:=blkp s.A s.n
def Ag (w:World) (l:List Sl):Prop:= ∀s∈l,Rd w s.A s.n s.us
def AB (w:World) (B:Nat) (l:List Sl):Prop:= ∀s∈l,Wr w B s.A s.n
def Lo (r:List (Option Nat)) (B:Nat):Prop:= ∀s∈r,∀b,s=some b→b<B
def Hi (r:List (Option Nat)) (B:Nat):Prop:= ∀s∈r,∀b,s=some b→B≤b
def H7 (r q:List (Option Nat)):Prop:= ∀s∈r,∀t∈q,∀b,s=some b→t≠some b
def Dx (r:List (Option Nat)):Prop:=r.Pairwise fun s t=> ∀b,s=some b→t≠some b
structure A9 (w w':World) (r:List (Option Nat)):Prop where
 os:w'.os=w.os
 tape:w'.tape=w.tape
 output:w'.output=w.output
 size:w.heap.size≤w'.heap.size
 block: ∀k,k<w.heap.size→(∀s∈r,s≠some k)→w'.heap[k]? =w.heap[k]?
section
variable {w w' : World} {l m : List Sl} {r q : List (Option Nat)} {B C : Nat}
theorem Ag.nil (w:World):Ag w []:=fun _ h=>by cases h
theorem Ag.cons {s:Sl} (h:Rd w s.A s.n s.us) (k:Ag w l):Ag w (s::l):=fun t ht=>by
 rcases CC.1 ht with rfl|ht
 ·exact h
 ·exact k t ht
theorem Ag.head {s:Sl} (h:Ag w (s::l)):Rd w s.A s.n s.us:=h s (C5 ..)
theorem Ag.tail {s:Sl} (h:Ag w (s::l)):Ag w l:=fun t ht=>h t (Hz _ ht)
theorem AB.nil (w:World) (B:Nat):AB w B []:=fun _ h=>by cases h
theorem AB.cons {s:Sl} (h:Wr w B s.A s.n) (k:AB w B l):AB w B (s::l):=fun t ht=>by
 rcases CC.1 ht with rfl|ht
 ·exact h
 ·exact k t ht
theorem AB.head {s:Sl} (h:AB w B (s::l)):Wr w B s.A s.n:=h s (C5 ..)
theorem AB.tail {s:Sl} (h:AB w B (s::l)):AB w B l:=fun t ht=>h t (Hz _ ht)
theorem AB.lower (h:AB w B l) (hB:C≤B):AB w C l:=fun s hs hn=>by
 obtain⟨ad,e,hb,hc⟩:=h s hs hn;exact⟨ad,e,Ch hB hb,hc⟩
theorem Wr.lower {A:Option Addr} {n:Nat} (h:Wr w B A n) (hB:C≤B):Wr w C A n:=fun hn=>by
 obtain⟨ad,e,hb,hc⟩:=h hn;exact⟨ad,e,Ch hB hb,hc⟩
theorem Ag.below (h:Ag w l) (hb:Below w.heap.size w w'):Ag w' l:=fun s hs=>(h s hs).below hb
theorem AB.below (h:AB w B l) (hr:Ag w l) (hb:Below w.heap.size w w'):AB w' B l:=fun s hs=>(h s hs).below (hr s hs) hb
theorem Df {A:Option Addr} {n b:Nat} (h:blkp A n=some b): ∃ad,A=some ad∧0<n∧ad.block=b:=by
 unfold blkp at h
 split at h
 ·cases h
 ·rcases A with _|ad
  ·simp[YD] at h
  ·exact⟨ad,rfl,by omega,by simpa [YD] using h⟩
theorem Ag.lo (h:Ag w l):Lo (l.map Sl.row) w.heap.size:=fun s hs b e=>by
 obtain⟨t,ht,rfl⟩:=List.mem_map.1 hs;obtain⟨ad,e1,hn,rfl⟩:=Df e;exact(h t ht).lt e1 hn
theorem AB.hi (h:AB w B l):Hi (l.map Sl.row) B:=fun s hs b e=>by
 obtain⟨t,ht,rfl⟩:=List.mem_map.1 hs;obtain⟨ad,e1,hn,rfl⟩:=Df e;exact(h t ht).base e1 hn
theorem Lo.mono (h:Lo r B) (hB:B≤C):Lo r C:=fun s hs b e=>CM (h s hs b e) hB
theorem Hi.mono (h:Hi r B) (hB:C≤B):Hi r C:=fun s hs b e=>Ch hB (h s hs b e)
theorem H7.up (h:Lo q B) (k:Hi r B):H7 r q:=fun s hs t ht b e c=>by have:=h t ht b c;have:=k s hs b e;omega
theorem H7.dn (h:Hi q B) (k:Lo r B):H7 r q:=fun s hs t ht b e c=>by have:=h t ht b c;have:=k s hs b e;omega
theorem A9.refl (w:World) (r:List (Option Nat)):A9 w w r:=⟨rfl,rfl,rfl,Cp _,fun _ _ _=>rfl⟩
theorem A9.of_grown {row:Option Nat} (g:w.grownBy w' row):A9 w w' [row]:=
 ⟨g.os,g.tape,g.output,g.size,fun k hk hne=>g.block k hk (fun c=>hne row (C5 ..) c.symm)⟩
theorem A9.trans {w1:World} (h:A9 w w1 r) (k:A9 w1 w' q):A9 w w' (r++q):=
 ⟨k.os.trans h.os,k.tape.trans h.tape,k.output.trans h.output,Ch h.size k.size,fun i hi hne=>
  (k.block i (CM hi h.size) fun s hs=>hne s (List.mem_append_right _ hs)).trans (h.block i hi fun s hs=>hne s (List.mem_append_left _ hs))⟩
theorem Rd.touch {A:Option Addr} {n:Nat} {us:List Value} (h:Rd w A n us) (t:A9 w w' r) (o:H7 r [blkp A n]):Rd w' A n us:=
 h.keep fun ad e hn=>t.block _ (h.lt e hn) fun s hs c=>o s hs _ (C5 ..) _ c (by unfold blkp;rw[Ak Aa,e];rfl)
theorem Wr.touch {A:Option Addr} {n:Nat} {us:List Value} (hw:Wr w B A n) (h:Rd w A n us) (t:A9 w w' r) (o:H7 r [blkp A n]):Wr w' B A n:=
 hw.keep fun ad e hn=>t.block _ (h.lt e hn) fun s hs c=>o s hs _ (C5 ..) _ c (by unfold blkp;rw[Ak Aa,e];rfl)
theorem Ag.touch (h:Ag w l) (t:A9 w w' r) (o:H7 r (l.map Sl.row)):Ag w' l:=fun s hs=>
 (h s hs).touch t fun x hx y hy b e=>by
  rcases CC.1 hy with rfl|hy
  ·exact o x hx _ (List.mem_map_of_mem hs) b e
  ·cases hy
theorem AB.touch (hw:AB w B l) (h:Ag w l) (t:A9 w w' r) (o:H7 r (l.map Sl.row)):AB w' B l:=fun s hs=>
 (hw s hs).touch (h s hs) t fun x hx y hy b e=>by
  rcases CC.1 hy with rfl|hy
  ·exact o x hx _ (List.mem_map_of_mem hs) b e
  ·cases hy
theorem U2 {a b c:World} (h:Below B a b) (t:A9 b c r) (hB:B≤a.heap.size) (hi:Hi r B):Below B a c:=
 ⟨t.os.trans h.os,t.tape.trans h.tape,t.output.trans h.output,Ch h.size t.size,fun k hk=>
  (t.block k (CM hk (Ch hB h.size)) fun s hs c=>by have:=hi s hs k c;omega).trans (h.block k hk)⟩
theorem H7.cons {s:Option Nat} (h: ∀t∈q,∀b,s=some b→t≠some b) (k:H7 r q):H7 (s::r) q:=fun x hx=>by
 rcases CC.1 hx with rfl|hx
 ·exact h
 ·exact k x hx
theorem Dx.tail {s:Option Nat} (h:Dx (s::r)):Dx r:=(List.pairwise_cons.1 h).2
theorem Dx.off {s:Option Nat} (h:Dx (s::r)):H7 [s] r:=fun x hx t ht b e=>by
 rcases CC.1 hx with rfl|hx
 ·exact(List.pairwise_cons.1 h).1 t ht b e
 ·cases hx
theorem Dx.nil:Dx []:=List.Pairwise.nil
theorem Dx.cons {s:Option Nat} (o:H7 [s] r) (h:Dx r):Dx (s::r):=List.pairwise_cons.2 ⟨fun t ht b e=>o s (C5 ..) t ht b e,h⟩
theorem Dx.one (s:Option Nat):Dx [s]:=Dx.cons (fun _ _ _ h=>by cases h) Dx.nil
theorem Hi.cons {s:Option Nat} (h: ∀b,s=some b→B≤b) (k:Hi r B):Hi (s::r) B:=fun x hx=>by
 rcases CC.1 hx with rfl|hx
 ·exact h
 ·exact k x hx
theorem Lo.cons {s:Option Nat} (h: ∀b,s=some b→b<B) (k:Lo r B):Lo (s::r) B:=fun x hx=>by
 rcases CC.1 hx with rfl|hx
 ·exact h
 ·exact k x hx
theorem Lo.nil (B:Nat):Lo [] B:=fun _ h=>by cases h
theorem Hi.nil (B:Nat):Hi [] B:=fun _ h=>by cases h
theorem H7.nil (r:List (Option Nat)):H7 r []:=fun _ _ _ h=>by cases h
theorem H7.head {s:Option Nat} (h:H7 r (s::q)):H7 r [s]:=fun x hx t ht=>by
 rcases CC.1 ht with rfl|ht
 ·exact h x hx _ (C5 ..)
 ·cases ht
theorem H7.tail {s:Option Nat} (h:H7 r (s::q)):H7 r q:=fun x hx t ht=>h x hx t (Hz _ ht)
theorem H7.append {p:List (Option Nat)} (h:H7 r q) (k:H7 p q):H7 (r++p) q:=fun x hx=>by
 rcases List.mem_append.1 hx with hx|hx
 ·exact h x hx
 ·exact k x hx
end
theorem Ab (w:World) (a:Obj):(w.alloc a).heap.size=w.heap.size+1:=Cr
theorem Blk.new2 (w:World) (a b:Obj) (t:TypeId) (cs:Array Value):Blk (((w.alloc a).alloc b).alloc (.cells cs t)) (w.heap.size+1+1) t cs:=by
 have:=Blk.new ((w.alloc a).alloc b) t cs
 rwa [Ab,Ab] at this
structure Fe (B:Nat) (a w:World):Prop where
 size:a.heap.size≤w.heap.size
 block: ∀k,B≤k→k<a.heap.size→w.heap[k]? =a.heap[k]?
section
variable {a w w' : World} {B C n : Nat} {A : Option Addr} {us : List Value}
theorem Fe.refl (B:Nat) (w:World):Fe B w w:=⟨Cp _,fun _ _ _=>rfl⟩
theorem Fe.setCell (h:Fe B a w) {p:Addr} (hp:p.block<B) (u:Value):Fe B a (w.setCell p u):=
 ⟨by simpa [World.setCell] using h.size,fun k hk hl=>(Below.heap_setCell w p u k Aa).trans (h.block k hk hl)⟩
theorem Fe.alloc (h:Fe B a w) (o:Obj):Fe B a (w.alloc o):=
 ⟨by have:=h.size;simp;omega,fun k hk hl=>(Below.heap_alloc w o k (CM hl h.size)).trans (h.block k hk hl)⟩
theorem Fe.below (h:Fe B a w) (b:Below w.heap.size w w'):Fe B a w':=
 ⟨Ch h.size b.size,fun k hk hl=>(b.block k (CM hl h.size)).trans (h.block k hk hl)⟩
theorem Rd.rowlt (h:Rd a A n us): ∀b,blkp A n=some b→b<a.heap.size:=fun b e=>by
 obtain⟨ad,e1,hn,rfl⟩:=Df e;exact h.lt e1 hn
end
theorem Dx.step {s:Option Nat} {r:List (Option Nat)} {B:Nat} (h: ∀b,s=some b→b<B) (k:Hi r B) (p:Dx r):Dx (s::r):=
 Dx.cons (fun x hx t ht b e c=>by
  rcases CC.1 hx with rfl|hx
  ·have:=h b e;have:=k t ht b c;omega
  ·cases hx) p
theorem Blk.grown {w w':World} {g:Nat} {t:TypeId} {cs:Array Value} {row:Option Nat} (h:Blk w g t cs) (k:w.grownBy w' row) (hne:row≠some g):Blk w' g t cs:=
 (k.block g h.lt (fun c=>hne c.symm)).trans h
theorem A9.alloc (w:World) (o:Obj):A9 w (w.alloc o) []:=⟨rfl,rfl,rfl,by simp,fun k hk _=>Below.heap_alloc w o k hk⟩
structure Hd where
 A:Option Addr
 n:Nat
 c:Nat
def Hd.row (h:Hd):Option Nat:=if h.c=0 then none else YD h.A
theorem Hd.row_some {h:Hd} {b:Nat} (e:h.row=some b):0<h.c∧ ∃ad,h.A=some ad∧ad.block=b:=by
 unfold Hd.row at e
 split at e
 ·cases e
 ·cases hA:h.A with
  |none=>rw[hA] at e;cases e
  |some ad=>rw[hA] at e;exact⟨by omega,ad,rfl,by simpa [YD] using e⟩
theorem Hd.row_mk {h:Hd} {ad:Addr} (e:h.A=some ad) (hc:0<h.c):h.row=some ad.block:=by
 unfold Hd.row;rw[Ak Aa,e];rfl
structure AR (w:World) (B K:Nat) (h:Hd) (us:List Value):Prop where
 len:us.length=h.n*K
 nc:h.n≤h.c
 max:h.c≤maxLen
 nil_:h.A=none→h.c=0
 at_: ∀ad,h.A=some ad→0<h.c→B≤ad.block∧ad.block<w.heap.size∧ad.spot=none∧ ∀i,i<h.c*K→(∃v,w.cell? (ad.add i)=some v∧ ∀u,us[i]? =some u→v=u)∧w.frozen? (ad.add i)=false
section
variable {w w' : World} {B C K : Nat} {h : Hd} {us : List Value}
theorem AR.keep (o:AR w B K h us) (hz:w.heap.size≤w'.heap.size) (hk: ∀b,h.row=some b→w'.heap[b]? =w.heap[b]?):AR w' B K h us:=
 ⟨o.len,o.nc,o.max,o.nil_,fun ad e hc=>by
  obtain⟨h1,h2,h3,h4⟩:=o.at_ ad e hc;have hr:=hk _ (Hd.row_mk e hc);refine⟨h1,by omega,h3,fun i hi=> ?_⟩
  rw[World.cell?_of_block (w:=w) (w':=w') (by rw[Aq];exact hr),World.frozen?_of_block (w:=w) (w':=w') (by rw[Aq];exact hr)]
  exact h4 i hi⟩
theorem AR.rowlt (o:AR w B K h us): ∀b,h.row=some b→B≤b∧b<w.heap.size:=fun b e=>by
 obtain⟨hc,ad,hA,rfl⟩:=Hd.row_some e;obtain⟨h1,h2,_⟩:=o.at_ ad hA hc;exact⟨h1,h2⟩
theorem AR.below (o:AR w B K h us) (b:Below w.heap.size w w'):AR w' B K h us:=
 o.keep b.size fun c e=>b.block _ (o.rowlt c e).2
theorem AR.grown {row:Option Nat} (o:AR w B K h us) (g:w.grownBy w' row) (hne: ∀b,h.row=some b→row≠some b):AR w' B K h us:=
 o.keep g.size fun c e=>g.block _ (o.rowlt c e).2 (fun x=>hne c e x.symm)
theorem AR.touch {r:List (Option Nat)} (o:AR w B K h us) (t:A9 w w' r) (hne: ∀s∈r,∀b,s=some b→h.row≠some b):AR w' B K h us:=
 o.keep t.size fun c e=>t.block _ (o.rowlt c e).2 (fun s hs x=>hne s hs _ x e)
theorem AR.mono (o:AR w B K h us) (hC:C≤B):AR w C K h us:=⟨o.len,o.nc,o.max,o.nil_,fun ad e hc=>by
 obtain⟨h1,h2⟩:=o.at_ ad e hc;exact⟨Ch hC h1,h2⟩⟩
theorem AR.rd (o:AR w B K h us):Rd w h.A (h.n*K) us:=by
 refine⟨o.len,fun hn=> ?_⟩;have hn0:0<h.n:=Nat.pos_of_mul_pos_right hn;have hnc:=o.nc
 cases hA:h.A with
 |none=>have h1:=o.nil_ hA;omega
 |some ad=>
  obtain⟨_,_,_,h4⟩:=o.at_ ad hA Aa;refine⟨ad,rfl,fun i hi=> ?_⟩;obtain⟨⟨v,hv,hu⟩,_⟩:=h4 i (CM hi (Nat.mul_le_mul_right K o.nc));have hl:i<us.length:=by rw[o.len];exact hi
  rw[hv,Db hl,hu _ (Db hl)]
theorem AR.wr (o:AR w B K h us):Wr w B h.A (h.n*K):=fun hn=>by
 have hn0:0<h.n:=Nat.pos_of_mul_pos_right hn;have hnc:=o.nc
 cases hA:h.A with
 |none=>have h1:=o.nil_ hA;omega
 |some ad=>
  obtain⟨h1,_,_,h4⟩:=o.at_ ad hA Aa;exact⟨ad,rfl,h1,fun i hi=>(h4 i (CM hi (Nat.mul_le_mul_right K o.nc))).2⟩
theorem AR.nil (w:World) (B K:Nat):AR w B K ⟨none,0,0⟩ []:=⟨by simp,Cp _,AZ _,fun _=>rfl,fun _ e=>by cases e⟩
theorem AR.empty (w:World) (B K:Nat) (A:Option Addr):AR w B K ⟨A,0,0⟩ []:=⟨by simp,Cp _,AZ _,fun _=>rfl,fun _ _ h=>absurd h (Nat.lt_irrefl 0)⟩
theorem AR.of_row {e:TypeId} {v:Value} {n:Nat} (_:0<K) (o:w.ownsRow B e K v n us): ∃h:Hd,v=.slice h.A h.n h.c∧h.n=n∧AR w B K h us∧(∀b,h.row=some b→v.ownBlock=some b):=by
 obtain⟨hl,h2⟩:=o;rcases h2 with⟨rfl,rfl⟩|⟨g,cap,cur,rfl,hb,hh,hc,hm,hs,ht⟩
 ·obtain rfl:us= []:=Pt (by simpa using hl)
  exact⟨⟨none,0,0⟩,rfl,rfl,AR.nil _ _ _,fun b e=>by cases e⟩
 ·refine⟨⟨some ⟨g,0,none⟩,n,cap⟩,rfl,rfl,⟨hl,hc,hm,(fun h=>by cases h),fun ad e _=> ?_⟩,fun b e=>by obtain⟨_,ad,e1,rfl⟩:=Hd.row_some e;injection e1 with e1;subst e1;rfl⟩
  injection e with e;subst e;have hB:Blk w g _ cur:=hh;refine⟨hb,hB.lt,rfl,fun i hi=>⟨⟨cur[i]'(by rw[hs];exact hi),?_,fun u hu=> ?_⟩,?_⟩⟩
  ·rw[CE,hB.cell];exact Array.getElem?_eq_getElem (by rw[hs];exact hi)
  ·rw[←ht,List.getElem?_take] at hu
   split at hu
   ·rw[Array.getElem?_toList] at hu;rw[Array.getElem?_eq_getElem (by rw[hs];exact hi)] at hu
    exact Option.some.inj hu
   ·cases hu
  ·rw[CE];exact hB.frozen i
end
theorem Vn {w w':World} {row:Option Nat} (g:w.grownBy w' none):w.grownBy w' row:=
 ⟨g.os,g.tape,g.output,g.size,fun k hk _=>g.block k hk Cr⟩
theorem Jo (b:Nat): ∀(vs:List Value) (o:Nat) (w:World),(w.setCells b o vs).heap.size=w.heap.size
 | [],_,_=>rfl
 |_::r,o,_=>(Jo b r (o+1) _).trans (by simp[World.setCell])
theorem In {a:World} {b:Nat}: ∀(vs:List Value) (o:Nat) (w:World),a.grownBy w (some b)→a.grownBy (w.setCells b o vs) (some b)
 | [],_,_,h=>h
 |_::r,o,_,h=>In r (o+1) _ (Bc h (.inl rfl) _)
theorem MV {P:Program} (w:World) (t ty e:TypeId) (i:TypeInfo) (ht:P.underlying t=some (.slice e)) (hi:P.info? e=some i) (h:Hd) (hnc:h.n≤h.c) (A:Option Addr) (c:Nat):
  (Builtin.append_ #[t,t] ty (CH h.A h.n h.c A 0 c)).run P w=.ok (.slice h.A h.n h.c) w:=by
 obtain⟨A0,n,cap⟩:=h;simp only at hnc
 cases A with
 |none=>cases A0<;>simp[Builtin.append_,run_underlying ht,sizeOf,typeInfo,hi,Builtin.lenOf,Builtin.firstCells,hnc,storeCells]
 |some ad=>
  have hf:=run_firstCells_some (P:=P) w i.size 0 ad 0 c [] Cr Cr
  cases A0<;>simp[Builtin.append_,run_underlying ht,sizeOf,typeInfo,hi,Builtin.lenOf,hf,hnc,storeCells]
theorem F7 {P:Program} (w:World) (t ty e:TypeId) (i:TypeInfo) (z:Value) (size bytes:Nat) (ht:P.underlying t=some (.slice e)) (hi:P.info? e=some i) (hz:i.zero=some z)
  (hsize:i.size=size) (hby:i.bytes=bytes) (hzs:z.cells.size=size) (hsz:0<size) (B:Nat) (h:Hd) (us:List Value) (o:AR w B size h us)
  (A:Option Addr) (m c:Nat) (news:List Value) (hr:Rd w A (m*size) news) (h1: ∀u∈news,u.oneCell'=true)
  (h63:h.n+m≤maxLen) (hbytes:(h.n+m)*bytes≤140737488355328) (hB:B≤w.heap.size):
  ∃k w',(Builtin.append_ #[t,t] ty #[.slice h.A h.n h.c,.slice A m c]).run P w=.ok (.slice k.A k.n k.c) w'∧k.n=h.n+m∧AR w' B size k (us++news)∧w.grownBy w' h.row∧
   (k.row=h.row∨ ∃g,k.row=some g∧w.heap.size≤g):=by
 rcases Nat.eq_zero_or_pos m with rfl|hm
 ·obtain rfl:news= []:=Pt (by have:=hr.1;simpa using this)
  exact⟨h,w,MV w t ty e i ht hi h o.nc A c,rfl,by simpa using o,JU _ _,.inl rfl⟩
 obtain⟨ad,rfl,hcell0⟩:=hr.2 (Nat.mul_pos hm hsz);have hl:=hr.1
 have hnews: ∀j u,news[j]? =some u→w.cell? (ad.add j)=some u:=fun j u hj=>by
  rw[hcell0 j (by have:=(List.getElem?_eq_some_iff.1 hj).1;omega)];exact hj
 clear hcell0 hr;obtain⟨hA,n,cap⟩:=h
 have hnew: ∀ {w':World} {k:Hd},w'.heap.size=w'.heap.size→k.n=n+m→AR w' w.heap.size size k (us++news)→ ∃g,k.row=some g∧w.heap.size≤g:=fun {w' k} _ hkn ok=>by
  have h3:=ok.nc
  cases hkA:k.A with
  |none=>have:=ok.nil_ hkA;omega
  |some a=>exact⟨a.block,Hd.row_mk hkA Aa,(ok.rowlt _ (Hd.row_mk hkA Aa)).1⟩
 rcases Nat.eq_zero_or_pos cap with hc0|hcpos
 ·have hn0:n=0:=by have:=o.nc;simp only at this;omega
  subst hc0 hn0;obtain rfl:us= []:=Pt (by simpa using o.len)
  cases hA with
  |none=>
   obtain⟨v',w',hrun,r1,r2,_⟩:=run_append_own (P:=P) w w.heap.size t ty e i z size bytes ht hi hz hsize hby hzs hsz (.slice none 0 0) 0 [] (World.ownsRow_nil w _ e size) ad m c news hl hnews h1 h63 hbytes (Cp _);obtain⟨k,rfl,hkn,ok,hbk⟩:=AR.of_row hsz r1;exact⟨k,w',hrun,hkn,ok.mono hB,r2,.inr (hnew rfl hkn ok)⟩
  |some a0=>
   obtain⟨v',w',hrun,r1,r2⟩:=run_append_arg_grows (P:=P) w t ty e i z size bytes ht hi hz hsize hby hzs hsz a0 0 0 [] Cr (fun j u hj=>by simp at hj) ad m c news hl hnews Aa h63 hbytes
   obtain⟨k,rfl,hkn,ok,hbk⟩:=AR.of_row hsz r1;exact⟨k,w',hrun,hkn,ok.mono hB,r2,.inr (hnew rfl hkn ok)⟩
 rcases hA with _|⟨b,off,sp⟩
 ·have:=o.nil_ rfl;simp only at this;omega
 ·have hrow:Hd.row ⟨some ⟨b,off,sp⟩,n,cap⟩=some b:=Hd.row_mk (h:=⟨some ⟨b,off,sp⟩,n,cap⟩) rfl hcpos;rw[hrow];obtain⟨hb1,hb2,hsp,hcell⟩:=o.at_ _ rfl hcpos;simp only at hsp hb1 hb2;subst hsp;have hlen:=o.len;have hnc:=o.nc;simp only at hcell hlen hnc h63 hbytes
  by_cases hroom:n+m≤cap
  ·have hbd: ∀j,j<m*size→n*size+j<cap*size:=fun j hj=>by
    have:(n+m)*size≤cap*size:=Nat.mul_le_mul_right _ hroom;rw[Nat.add_mul] at this;omega
   have hc': ∀j,j<news.length→(w.cell? ⟨b,off+n*i.size+j,none⟩).isSome=true:=fun j hj=>by
    obtain⟨⟨v,hv,_⟩,_⟩:=hcell (n*size+j) (hbd j Aa);rw[Addr.add_lit] at hv;rw[hsize,Nat.add_assoc,hv];rfl
   have hf': ∀j,j<news.length→w.frozen? ⟨b,off+n*i.size+j,none⟩=false:=fun j hj=>by
    obtain⟨_,hv⟩:=hcell (n*size+j) (hbd j Aa);rw[Addr.add_lit] at hv;rw[hsize,Nat.add_assoc,hv]
   have hrun:=run_append_room_cells (P:=P) w t ty e i ht hi b off n cap ad m c news (by rw[hl,hsize]) hnews h1 hroom hc' hf'
   refine⟨⟨some ⟨b,off,none⟩,n+m,cap⟩,_,hrun,rfl,⟨by simp only[Dy,hlen,hl,Nat.add_mul],hroom,o.max,(fun h=>by cases h),fun ad' e' _=> ?_⟩,In _ _ _ (JU _ _),.inl (Hd.row_mk (h:=⟨some ⟨b,off,none⟩,n+m,cap⟩) rfl hcpos)⟩
   injection e' with e';subst e';refine⟨hb1,by rw[Jo];exact hb2,rfl,fun j hj=> ?_⟩
   obtain⟨⟨v,hv,hu⟩,hfr⟩:=hcell j hj;refine⟨?_,by rw[World.frozen?_setCells];exact hfr⟩
   rw[Addr.add_lit] at hv⊢;rw[hsize] at hc'⊢
   by_cases hin:n*size≤j∧j<n*size+news.length
   ·obtain⟨q,rfl⟩: ∃q,j=n*size+q:=⟨j-n*size,by omega⟩
    have hq:q<news.length:=Aa;refine⟨news[q],?_,fun u hu'=> ?_⟩
    ·have:=World.cell?_setCells_in b news (off+n*size) w hc' q hq;rw[Nat.add_assoc] at this;exact this
    ·rw[List.getElem?_append_right Aa,hlen,Nat.add_sub_cancel_left,Db hq] at hu';exact Option.some.inj hu'
   ·refine⟨v,by rw[World.cell?_setCells_out b news _ w _ (fun _ _=>by simp only;omega)];exact hv,fun u hu'=> ?_⟩
    by_cases hj2:j<us.length
    ·rw[List.getElem?_append_left hj2] at hu';exact hu u hu'
    ·rw[List.getElem?_append_right Aa] at hu';rw[List.getElem?_eq_none Aa] at hu'
     cases hu'
  ·have holds: ∀j u,us[j]? =some u→w.cell? ((⟨b,off,none⟩:Addr).add j)=some u:=fun j u hj=>by
    have hjl:j<us.length:=(List.getElem?_eq_some_iff.1 hj).1;obtain⟨⟨v,hv,hu⟩,_⟩:=hcell j (CM Aa (Nat.mul_le_mul_right size hnc));rw[hv,hu u hj]
   obtain⟨v',w',hrun,r1,r2⟩:=run_append_arg_grows (P:=P) w t ty e i z size bytes ht hi hz hsize hby hzs hsz ⟨b,off,none⟩ n cap us hlen holds ad m c news hl hnews Aa h63 hbytes;obtain⟨k,rfl,hkn,ok,hbk⟩:=AR.of_row hsz r1;exact⟨k,w',hrun,hkn,ok.mono hB,Vn r2,.inr (hnew rfl hkn ok)⟩
theorem Jq {P:Program} {w:World} {op:Oper} {a:Act} {Kk:Act→World→Prop} {Q:Exit→Act→World→Prop} (s x:Operand) (t:TypeId)
  (hop:op.op=.call {callee:=.builtin .append,args:= #[s,x],argTypes:= #[t,t]})
  (e:TypeId) (size bytes:Nat) (ht:P.underlying t=some (.slice e)) (hinf:(P.info? e).map (fun i=>(i.zero.map (·.cells.size),i.size,i.bytes))=some (some size,size,bytes)) (hsz:0<size)
  (B:Nat) (h:Hd) (us:List Value) (hs:a.eval s=.slice h.A h.n h.c) (o:AR w B size h us) (A:Option Addr) (m c:Nat) (news:List Value) (hx:a.eval x=.slice A m c)
  (hr:Rd w A (m*size) news) (h1: ∀u∈news,u.oneCell'=true) (h63:h.n+m≤1099511627776) (hbytes:bytes≤64) (hB:B≤w.heap.size)
  (hK: ∀k w',k.n=h.n+m→AR w' B size k (us++news)→w.grownBy w' h.row→(k.row=h.row∨ ∃g,k.row=some g∧w.heap.size≤g)→Kk (a.put op.dst (.slice k.A k.n k.c)) w'):op.wp P a w Kk Q:=by
 cases hi:P.info? e with
 |none=>rw[hi] at hinf;simp at hinf
 |some i=>
  rw[hi] at hinf;simp only[Option.map_some,Gs,Prod.mk.injEq] at hinf;obtain⟨hz,hsize,hby⟩:=hinf
  cases hz0:i.zero with
  |none=>rw[hz0] at hz;simp at hz
  |some z=>
   rw[hz0] at hz;have hbb:(h.n+m)*bytes≤140737488355328:=Ch (Nat.mul_le_mul h63 hbytes) Ah;obtain⟨k,w',hrun,r1,r2,r3,r4⟩:=F7 (P:=P) w t op.type e i z size bytes ht hi hz0 hsize hby (by simpa using hz) hsz B h us o A m c news hr h1 G9 hbb hB
   unfold Oper.wp execOp;simp only[hop,resolve,invoke,builtin,Sem.run_bind,Sem.run_pure,Result.andThen_ok,List.map_toArray,List.map_cons,List.map_nil,hs,hx,hrun];exact hK k w' r1 r2 r3 r4
theorem Aj {P:Program} {w:World} {ops:Array Oper} {rest:List Oper} {op:Oper} {a:Act} {Q:Exit→Act→World→Prop} (hgd:op.guard=none) (s x:Operand) (t:TypeId)
  (hop:op.op=.call {callee:=.builtin .append,args:= #[s,x],argTypes:= #[t,t]})
  (e:TypeId) (size bytes:Nat) (ht:P.underlying t=some (.slice e)) (hinf:(P.info? e).map (fun i=>(i.zero.map (·.cells.size),i.size,i.bytes))=some (some size,size,bytes)) (hsz:0<size)
  (B:Nat) (h:Hd) (us:List Value) (hs:a.eval s=.slice h.A h.n h.c) (o:AR w B size h us) (A:Option Addr) (m c:Nat) (news:List Value) (hx:a.eval x=.slice A m c)
  (hr:Rd w A (m*size) news) (h1: ∀u∈news,u.oneCell'=true) (h63:h.n+m≤1099511627776) (hbytes:bytes≤64) (hB:B≤w.heap.size)
  (hK: ∀k w',k.n=h.n+m→AR w' B size k (us++news)→w.grownBy w' h.row→(k.row=h.row∨ ∃g,k.row=some g∧w.heap.size≤g)→wpList P ops Q rest (a.put op.dst (.slice k.A k.n k.c)) w'):wpList P ops Q (op::rest) a w:=
 wpList_plain hgd fun _ hK'=>Jq s x t hop e size bytes ht hinf hsz B h us hs o A m c news hx hr h1 h63 hbytes hB fun k w' r1 r2 r3 r4=>hK' _ _ (hK k w' r1 r2 r3 r4)
theorem AJ:(prog.info? 2).map (fun i=>(i.zero.map (·.cells.size),i.size,i.bytes))=some (some 1,1,8):=We51ceQ
def Hd.tl (h:Hd) (K:Nat):Hd:=⟨if h.c=1 then h.A else h.A.map (·.add K),h.n-1,h.c-1⟩
theorem AR.tl {w:World} {B K:Nat} {h:Hd} {us:List Value} (o:AR w B K h us) (hn:0<h.n):AR w B K (h.tl K) (us.drop K):=by
 have hnc:=o.nc;have hlen:=o.len;refine⟨by simp only[Hd.tl,JW,hlen,Nat.sub_mul,Nat.one_mul],by simp only[Hd.tl];omega,by have:=o.max;simp only[Hd.tl];omega,fun e=> ?_,fun ad e hc=> ?_⟩
 ·cases hA:h.A with
  |none=>have:=o.nil_ hA;simp only[Hd.tl];omega
  |some ad=>rw[Hd.tl,hA] at e;simp only at e;split at e<;>cases e
 ·simp only[Hd.tl] at hc
  cases hA:h.A with
  |none=>rw[Hd.tl,hA] at e;simp only at e;split at e<;>cases e
  |some a0=>
   obtain⟨h1,h2,h3,h4⟩:=o.at_ a0 hA Aa;rw[Hd.tl,hA] at e;simp only at e;rw[Ak Aa] at e;simp only[Option.map_some] at e;injection e with e;subst e;refine⟨by rw[Aq];exact h1,by rw[Aq];exact h2,by unfold Addr.add;split<;>simp[h3],fun i hi=> ?_⟩
   simp only[Hd.tl] at hi;rw[Bv]
   have hlt:K+i<h.c*K:=by
    have:h.c*K=(h.c-1)*K+K:=by
     obtain⟨q,hq⟩: ∃q,h.c=q+1:=⟨h.c-1,by omega⟩
     rw[hq,Nat.add_sub_cancel,Nat.add_mul,Nat.one_mul]
    omega
   obtain⟨⟨v,hv,hu⟩,hf⟩:=h4 (K+i) hlt;exact⟨⟨v,hv,fun u e=>hu u (by rw[←e,List.getElem?_drop])⟩,hf⟩
section
variable {P : Program} {w : World}
theorem Pl {op:Oper} {a:Act} {Kk:Act→World→Prop} {Q:Exit→Act→World→Prop} (s x:Operand) (t:TypeId)
  (hop:op.op=.call {callee:=.builtin .append,args:= #[s,x],argTypes:= #[t,t]})
  (e:TypeId) (size bytes:Nat) (ht:P.underlying t=some (.slice e)) (hinf:(P.info? e).map (fun i=>(i.zero.map (·.cells.size),i.size,i.bytes))=some (some size,size,bytes)) (hsz:0<size)
  (base:Nat) (v:Value) (n:Nat) (xs:List Value) (hs:a.eval s=v) (hown:w.ownsRow base e size v n xs) (A:Option Addr) (m c:Nat) (news:List Value) (hx:a.eval x=.slice A m c)
  (hr:Rd w A (m*size) news) (h1: ∀u∈news,u.oneCell'=true) (h63:n+m≤1099511627776) (hbytes:bytes≤64) (hB:base≤w.heap.size)
  (hK: ∀v' w',w'.ownsRow base e size v' (n+m) (xs++news)→w.grownBy w' v.ownBlock→(v'.ownBlock=v.ownBlock∨v'.ownBlock=some w.heap.size)→Kk (a.put op.dst v') w'):op.wp P a w Kk Q:=by
 cases hi:P.info? e with
 |none=>rw[hi] at hinf;simp at hinf
 |some i=>
  rw[hi] at hinf;simp only[Option.map_some,Gs,Prod.mk.injEq] at hinf;obtain⟨hz,hsize,hby⟩:=hinf
  cases hz0:i.zero with
  |none=>rw[hz0] at hz;simp at hz
  |some z=>
   rw[hz0] at hz;have hbb:(n+m)*bytes≤140737488355328:=Ch (Nat.mul_le_mul h63 hbytes) Ah
   obtain⟨v',w',hrun,h2,h3,h4⟩:=IA (P:=P) w base t op.type e i z size bytes ht hi hz0 hsize hby (by simpa using hz) hsz v n xs hown A m c news hr.1
    (fun hm=>by
     obtain⟨ad,e,hc⟩:=hr.2 (Nat.mul_pos hm hsz);exact⟨ad,e,fun j u hu=>by rw[hc j (by have:=(List.getElem?_eq_some_iff.1 hu).1;rwa [hr.1] at this)];exact hu⟩) h1 G9 hbb hB
   unfold Oper.wp execOp;simp only[hop,resolve,invoke,builtin,Sem.run_bind,Sem.run_pure,Result.andThen_ok,List.map_toArray,List.map_cons,List.map_nil,hs,hx,hrun];exact hK v' w' h2 h3 h4
theorem JR {ops:Array Oper} {rest:List Oper} {op:Oper} {a:Act} {Q:Exit→Act→World→Prop} (hgd:op.guard=none) (s x:Operand) (t:TypeId)
  (hop:op.op=.call {callee:=.builtin .append,args:= #[s,x],argTypes:= #[t,t]})
  (e:TypeId) (size bytes:Nat) (ht:P.underlying t=some (.slice e)) (hinf:(P.info? e).map (fun i=>(i.zero.map (·.cells.size),i.size,i.bytes))=some (some size,size,bytes)) (hsz:0<size)
  (base:Nat) (v:Value) (n:Nat) (xs:List Value) (hs:a.eval s=v) (hown:w.ownsRow base e size v n xs) (A:Option Addr) (m c:Nat) (news:List Value) (hx:a.eval x=.slice A m c)
  (hr:Rd w A (m*size) news) (h1: ∀u∈news,u.oneCell'=true) (h63:n+m≤1099511627776) (hbytes:bytes≤64) (hB:base≤w.heap.size)
  (hK: ∀v' w',w'.ownsRow base e size v' (n+m) (xs++news)→w.grownBy w' v.ownBlock→(v'.ownBlock=v.ownBlock∨v'.ownBlock=some w.heap.size)→wpList P ops Q rest (a.put op.dst v') w'):wpList P ops Q (op::rest) a w:=
 wpList_plain hgd fun _ hK'=>Pl s x t hop e size bytes ht hinf hsz base v n xs hs hown A m c news hx hr h1 h63 hbytes hB fun v' w' r1 r2 r3=>hK' _ _ (hK v' w' r1 r2 r3)
theorem Be {ops:Array Oper} {op:Oper} {a:Act} {Kk:Act→World→Prop} {Q:Exit→Act→World→Prop} {E:Prop} (hgd:op.guard=none) (s x:Operand) (t:TypeId)
  (hop:op.op=.call {callee:=.builtin .append,args:= #[s,x],argTypes:= #[t,t]})
  (e:TypeId) (size bytes:Nat) (ht:P.underlying t=some (.slice e)) (hinf:(P.info? e).map (fun i=>(i.zero.map (·.cells.size),i.size,i.bytes))=some (some size,size,bytes)) (hsz:0<size)
  (B:Nat) (h:Hd) (us:List Value) (hs:a.eval s=.slice h.A h.n h.c) (o:AR w B size h us) (A:Option Addr) (m c:Nat) (news:List Value) (hx:a.eval x=.slice A m c)
  (hr:Rd w A (m*size) news) (h1: ∀u∈news,u.oneCell'=true) (h63:h.n+m≤1099511627776) (hbytes:bytes≤64) (hB:B≤w.heap.size)
  (hK: ∀k w',k.n=h.n+m→AR w' B size k (us++news)→w.grownBy w' h.row→(k.row=h.row∨ ∃g,k.row=some g∧w.heap.size≤g)→Kk (a.put op.dst (.slice k.A k.n k.c)) w'):
  if Region.wanted op (yielded ops a.tmps)=true then Oper.wp P op a w Kk Q else E:=by
 have hw:Region.wanted op (yielded ops a.tmps)=true:=by simp[Region.wanted,hgd]
 rw[AA hw];exact Jq s x t hop e size bytes ht hinf hsz B h us hs o A m c news hx hr h1 h63 hbytes hB hK
end
theorem Dc {w w':World} {g:Nat} {cs:Array Value} {B:Nat} (h: ∀o,w.cell? ⟨g,o,none⟩=cs[o]?) (b:Below B w w') (hg:g<B): ∀o,w'.cell? ⟨g,o,none⟩=cs[o]? :=fun o=>(b.cell (p:=⟨g,o,none⟩) hg).trans (h o)
theorem AK {w:World} {g:Nat} {cs:Array Value} (h: ∀o,w.cell? ⟨g,o,none⟩=cs[o]?) (hg:g<w.heap.size) (ob:Obj): ∀o,(w.alloc ob).cell? ⟨g,o,none⟩=cs[o]? :=
 Dc h ((AP w.heap.size w).alloc (Cp _) ob) hg
theorem AC {w:World} {g:Nat} {cs:Array Value} (h: ∀o,w.cell? ⟨g,o,none⟩=cs[o]?): ∀o,w.drew.cell? ⟨g,o,none⟩=cs[o]? :=h
theorem Gl {h:Hd} {n b:Nat} (hn:0<n→0<h.c) (e:blkp h.A n=some b):h.row=some b:=by
 obtain⟨ad,e1,hp,rfl⟩:=Df e;exact Hd.row_mk e1 (hn hp)
theorem Dx.ofRow (l:List (Hd×Nat)) (hl: ∀p∈l,0<p.2→0<p.1.c) (h:Dx (l.map fun p=>p.1.row)):Dx (l.map fun p=>blkp p.1.A p.2):=by
 unfold Dx at*;rw[List.pairwise_map] at*;exact h.imp_of_mem fun {p q} hp hq k b e e2=>k b (Gl (hl p hp) e) (Gl (hl q hq) e2)
theorem AR.npos {w:World} {B K:Nat} {h:Hd} {us:List Value} (o:AR w B K h us) {n:Nat} (hn:n=h.n*K):0<n→0<h.c:=fun h=>by
 subst hn;have:=Nat.pos_of_mul_pos_right h;have:=o.nc;omega
theorem Dx.replace {L:List (Option Nat)} (i:Nat) {q:Option Nat} (hS:Dx L) (hq: ∀b,q=some b→L[i]? =some (some b)∨ ∀s∈L,s≠some b):Dx (L.set i q):=by
 unfold Dx at*;rw[List.pairwise_iff_getElem] at*;intro x y hx hy hxy b e1 e2;have hx':x<L.length:=by rw[List.length_set] at hx;exact hx
 have hy':y<L.length:=by rw[List.length_set] at hy;exact hy
 rw[List.getElem_set] at e1 e2
 split at e1
 ·subst_vars
  rw[Ak Aa] at e2;rcases hq b rfl with h|h
  ·rw[Db Aa] at h;exact hS _ _ _ hy' hxy b (Option.some.inj h) e2
  ·exact h _ (EH hy') e2
 ·split at e2
  ·subst_vars
   rcases hq b rfl with h|h
   ·rw[Db Aa] at h;exact hS _ _ hx' _ hxy b e1 (Option.some.inj h)
   ·exact h _ (EH hx') e1
  ·exact hS x y hx' hy' hxy b e1 e2
theorem Ne.replace {L:List (Option Nat)} {g:Nat} (i:Nat) {q:Option Nat} (h: ∀s∈L,s≠some g) (hq:q≠some g): ∀s∈L.set i q,s≠some g:=fun s hs=>by
 rcases List.mem_or_eq_of_mem_set hs with h1|rfl
 ·exact h s h1
 ·exact hq
theorem Vm (w:World) (g i:Nat) (u:Value):w.grownBy (w.setCell ⟨g,i,none⟩ u) (some g):=Bc (JU _ _) (.inl rfl) u
theorem Fe.drew {B:Nat} {a w:World} (h:Fe B a w):Fe B a w.drew:=⟨h.size,h.block⟩
theorem Fe.drewN {B:Nat} {a w:World} (h:Fe B a w) (n:Nat):Fe B a (w.drewN n):=⟨h.size,h.block⟩
theorem AR.rd1 {w:World} {B:Nat} {h:Hd} {us:List Value} (o:AR w B 1 h us):Rd w h.A h.n us:=by have:=o.rd;rwa [Nat.mul_one] at this
theorem AR.wr1 {w:World} {B:Nat} {h:Hd} {us:List Value} (o:AR w B 1 h us):Wr w B h.A h.n:=by have:=o.wr;rwa [Nat.mul_one] at this
theorem CS (A:Option Addr) (n c:Nat) (xs:List Int) (w:World) (hn:n≤2097152) (hr:Rd w A n (ints xs)):
  Calls prog 266 #[.slice A n c] w fun e w'=> ∃h:Hd,e=.returned (.slice h.A h.n h.c)∧h.n=n∧AR w' w.heap.size 1 h (ints xs)∧Below w.heap.size w w':=
 (Vt A n c xs w hn hr).mono fun e w' ⟨v,he,ho,hb⟩=>by
  obtain⟨h,rfl,hn,o,_⟩:=AR.of_row Ah ho;exact⟨h,he,hn,o,hb⟩
section
variable {w w' : World} {B K : Nat} {h : Hd} {xs : List Int} {us : List Value}
theorem AR.take (o:AR w B K h us) {k:Nat} (hk:k≤h.n):AR w B K ⟨h.A,k,h.c⟩ (us.take (k*K)):=by
 have hl:=o.len;have hm:k*K≤h.n*K:=Nat.mul_le_mul_right K hk;refine⟨by simp only[Ju];omega,Ch hk o.nc,o.max,o.nil_,fun ad e hc=> ?_⟩
 obtain⟨h1,h2,h3,h4⟩:=o.at_ ad e hc;refine⟨h1,h2,h3,fun i hi=> ?_⟩;obtain⟨⟨v,hv,hu⟩,hf⟩:=h4 i hi;refine⟨⟨v,hv,fun u e=>hu u ?_⟩,hf⟩;rw[List.getElem?_take] at e
 split at e
 ·exact e
 ·cases e
theorem AR.set_ (o:AR w B 1 h (ints xs)) {k:Nat} {ad:Addr} (hk:k<h.n) (e:h.A=some ad) (v:Int):AR (w.setCell (ad.add k) (ZI v)) B 1 h (ints (xs.set k v)):=by
 have hl:=o.len;have hnc:=o.nc;refine⟨by rw[Kh,List.length_set];exact hl,o.nc,o.max,o.nil_,fun ad' e' hc=> ?_⟩
 rw[e] at e';injection e' with e';subst e';obtain⟨h1,h2,h3,h4⟩:=o.at_ ad e hc;refine⟨h1,by simpa [World.setCell] using h2,h3,fun i hi=> ?_⟩
 obtain⟨⟨u,hu,hq⟩,hf⟩:=h4 i hi;obtain⟨⟨u',hu',_⟩,hf'⟩:=h4 k Aa;refine⟨?_,by rw[World.frozen?_setCell];exact hf⟩
 by_cases c:i=k
 ·subst c;refine⟨.int .i64 v,World.cell?_setCell_same _ _ _ hu',fun z hz=> ?_⟩;rw[Kh,List.getElem?_set_self (by rw[hl,Nat.mul_one];exact hk)] at hz
  exact Option.some.inj hz
 ·refine⟨u,by rw[World.cell?_setCell_other _ _ _ _ (fun x=>c (Q1 x).symm)];exact hu,fun z hz=>hq z ?_⟩
  rw[Kh,List.getElem?_set_ne (fun x=>c x.symm)] at hz;exact hz
theorem AR.cell (o:AR w B 1 h (ints xs)) {k:Nat} (hk:k<h.n): ∃ad,h.A=some ad∧w.cell? (ad.add k)=ZS (xs.getD k 0)∧w.frozen? (ad.add k)=false:=by
 obtain⟨ad,e,hc⟩:=o.rd1.int hk;have hnc:=o.nc;obtain⟨_,_,_,h4⟩:=o.at_ ad e Aa;exact⟨ad,e,hc,(h4 k Aa).2⟩
end
theorem AR.capm {w:World} {B K:Nat} {h:Hd} {us:List Value} (o:AR w B K h us):h.n≤h.c∧h.c≤9223372036854775807:=⟨o.nc,by have:=o.max;unfold maxLen at this;omega⟩
theorem AR.made {W:World} {B n:Nat} (hB:B≤W.heap.size) (hn:n≤1048576) (e:TypeId):AR (W.alloc (.cells (madeCells #[ZI 0] n) e)) B 1 ⟨some ⟨W.heap.size,0,none⟩,n,n⟩ (ints (List.replicate n 0)):=by
 have hb:=Blk.new W e (madeCells #[ZI 0] n);refine⟨by unfold ints;simp,Cp _,by unfold maxLen;simp only;omega,(fun h=>by cases h),fun ad ea _=> ?_⟩
 injection ea with ea;subst ea;refine⟨hB,hb.lt,rfl,fun i hi=>⟨?_,by rw[CE];exact hb.frozen i⟩⟩
 have hi':i<(madeCells #[Value.int .i64 0] n).size:=by rw[FV];simpa using hi
 refine⟨(madeCells #[Value.int .i64 0] n)[i],by rw[CE,hb.cell];exact Array.getElem?_eq_getElem hi',fun u hu=> ?_⟩
 have hin:i<n:=by simpa using hi
 rw[CF] at hu
 simp[hin] at hu
 subst hu
 simp[madeCells,Nat.mod_one]
section
variable {P : Program} {f : FuncId} {args : Array Value} {w : World} {a n : Nat} {v : Value}
theorem Hq (h:Calls P f args (w.drewN n) fun e w'=>e=.returned v∧w.drewN n=w'):Calls P f args (w.drewN n) fun e w'=>e=.returned v∧ ∃m,w'=w.drewN m:=
 h.mono fun _ _ ⟨he,hm⟩=>⟨he,n,hm.symm⟩
end
theorem bJ {w W : World} {c0 : Array Value} {t0 : TypeId} (h : (w.alloc (.cells c0 t0)) = W) : Blk W (w.heap.size) t0 c0 ∧ Below w.heap.size w W ∧ W.heap.size = w.heap.size + 1 := by
  subst h
  exact ⟨(Blk.new w t0 c0), (Below.refl _ _).alloc (Nat.le_refl _) (.cells c0 t0), by simp only [Ab]⟩
theorem EX {w W : World} {c0 : Array Value} {t0 : TypeId} (h : (w.alloc (.cells c0 t0)) = W) : Blk W (w.heap.size) t0 c0 ∧ Below w.heap.size w W := by
  subst h
  exact ⟨(Blk.new w t0 c0), (Below.refl _ _).alloc (Nat.le_refl _) (.cells c0 t0)⟩
theorem gi {w W : World} {c0 c1 : Array Value} {t0 t1 : TypeId} (h : ((w.alloc (.cells c0 t0)).alloc (.cells c1 t1)) = W) : Blk W (w.heap.size) t0 c0 ∧ Blk W (w.heap.size + 1) t1 c1 ∧ Below w.heap.size w W ∧ W.heap.size = w.heap.size + 2 := by
  subst h
  exact ⟨(Blk.alloc (Blk.new w t0 c0) (.cells c1 t1)), (by have h := Blk.new (w.alloc (.cells c0 t0)) t1 c1; simp only [Ab] at h; exact h), ((Below.refl _ _).alloc (Nat.le_refl _) (.cells c0 t0)).alloc (by simp only [Ab]; omega) (.cells c1 t1), by simp only [Ab]⟩
theorem Qg {w W : World} {c0 c1 : Array Value} {t0 t1 : TypeId} (h : ((w.alloc (.cells c0 t0)).alloc (.cells c1 t1)) = W) : Blk W (w.heap.size) t0 c0 ∧ Blk W (w.heap.size + 1) t1 c1 ∧ Below w.heap.size w W := by
  subst h
  exact ⟨(Blk.alloc (Blk.new w t0 c0) (.cells c1 t1)), (by have h := Blk.new (w.alloc (.cells c0 t0)) t1 c1; simp only [Ab] at h; exact h), ((Below.refl _ _).alloc (Nat.le_refl _) (.cells c0 t0)).alloc (by simp only [Ab]; omega) (.cells c1 t1)⟩
theorem gj {w W : World} {c0 c1 c2 : Array Value} {t0 t1 t2 : TypeId} (h : (((w.alloc (.cells c0 t0)).alloc (.cells c1 t1)).alloc (.cells c2 t2)) = W) : Blk W (w.heap.size) t0 c0 ∧ Blk W (w.heap.size + 1) t1 c1 ∧ Blk W (w.heap.size + 1 + 1) t2 c2 ∧ Below w.heap.size w W ∧ W.heap.size = w.heap.size + 3 := by
  subst h
  exact ⟨(Blk.alloc (Blk.alloc (Blk.new w t0 c0) (.cells c1 t1)) (.cells c2 t2)), (Blk.alloc (by have h := Blk.new (w.alloc (.cells c0 t0)) t1 c1; simp only [Ab] at h; exact h) (.cells c2 t2)), (by have h := Blk.new ((w.alloc (.cells c0 t0)).alloc (.cells c1 t1)) t2 c2; simp only [Ab] at h; exact h), (((Below.refl _ _).alloc (Nat.le_refl _) (.cells c0 t0)).alloc (by simp only [Ab]; omega) (.cells c1 t1)).alloc (by simp only [Ab]; omega) (.cells c2 t2), by simp only [Ab]⟩
theorem WF {w W : World} {c0 c1 c2 : Array Value} {t0 t1 t2 : TypeId} (h : (((w.alloc (.cells c0 t0)).alloc (.cells c1 t1)).alloc (.cells c2 t2)) = W) : Blk W (w.heap.size) t0 c0 ∧ Blk W (w.heap.size + 1) t1 c1 ∧ Blk W (w.heap.size + 1 + 1) t2 c2 ∧ Below w.heap.size w W := by
  subst h
  exact ⟨(Blk.alloc (Blk.alloc (Blk.new w t0 c0) (.cells c1 t1)) (.cells c2 t2)), (Blk.alloc (by have h := Blk.new (w.alloc (.cells c0 t0)) t1 c1; simp only [Ab] at h; exact h) (.cells c2 t2)), (by have h := Blk.new ((w.alloc (.cells c0 t0)).alloc (.cells c1 t1)) t2 c2; simp only [Ab] at h; exact h), (((Below.refl _ _).alloc (Nat.le_refl _) (.cells c0 t0)).alloc (by simp only [Ab]; omega) (.cells c1 t1)).alloc (by simp only [Ab]; omega) (.cells c2 t2)⟩
theorem gF {w W : World} {c0 c1 c2 c3 : Array Value} {t0 t1 t2 t3 : TypeId} (h : ((((w.alloc (.cells c0 t0)).alloc (.cells c1 t1)).alloc (.cells c2 t2)).alloc (.cells c3 t3)) = W) : Blk W (w.heap.size) t0 c0 ∧ Blk W (w.heap.size + 1) t1 c1 ∧ Blk W (w.heap.size + 1 + 1) t2 c2 ∧ Blk W (w.heap.size + 1 + 1 + 1) t3 c3 ∧ Below w.heap.size w W ∧ W.heap.size = w.heap.size + 4 := by
  subst h
  exact ⟨(Blk.alloc (Blk.alloc (Blk.alloc (Blk.new w t0 c0) (.cells c1 t1)) (.cells c2 t2)) (.cells c3 t3)), (Blk.alloc (Blk.alloc (by have h := Blk.new (w.alloc (.cells c0 t0)) t1 c1; simp only [Ab] at h; exact h) (.cells c2 t2)) (.cells c3 t3)), (Blk.alloc (by have h := Blk.new ((w.alloc (.cells c0 t0)).alloc (.cells c1 t1)) t2 c2; simp only [Ab] at h; exact h) (.cells c3 t3)), (by have h := Blk.new (((w.alloc (.cells c0 t0)).alloc (.cells c1 t1)).alloc (.cells c2 t2)) t3 c3; simp only [Ab] at h; exact h), ((((Below.refl _ _).alloc (Nat.le_refl _) (.cells c0 t0)).alloc (by simp only [Ab]; omega) (.cells c1 t1)).alloc (by simp only [Ab]; omega) (.cells c2 t2)).alloc (by simp only [Ab]; omega) (.cells c3 t3), by simp only [Ab]⟩
theorem Y3 {w W : World} {c0 c1 c2 c3 : Array Value} {t0 t1 t2 t3 : TypeId} (h : ((((w.alloc (.cells c0 t0)).alloc (.cells c1 t1)).alloc (.cells c2 t2)).alloc (.cells c3 t3)) = W) : Blk W (w.heap.size) t0 c0 ∧ Blk W (w.heap.size + 1) t1 c1 ∧ Blk W (w.heap.size + 1 + 1) t2 c2 ∧ Blk W (w.heap.size + 1 + 1 + 1) t3 c3 ∧ Below w.heap.size w W := by
  subst h
  exact ⟨(Blk.alloc (Blk.alloc (Blk.alloc (Blk.new w t0 c0) (.cells c1 t1)) (.cells c2 t2)) (.cells c3 t3)), (Blk.alloc (Blk.alloc (by have h := Blk.new (w.alloc (.cells c0 t0)) t1 c1; simp only [Ab] at h; exact h) (.cells c2 t2)) (.cells c3 t3)), (Blk.alloc (by have h := Blk.new ((w.alloc (.cells c0 t0)).alloc (.cells c1 t1)) t2 c2; simp only [Ab] at h; exact h) (.cells c3 t3)), (by have h := Blk.new (((w.alloc (.cells c0 t0)).alloc (.cells c1 t1)).alloc (.cells c2 t2)) t3 c3; simp only [Ab] at h; exact h), ((((Below.refl _ _).alloc (Nat.le_refl _) (.cells c0 t0)).alloc (by simp only [Ab]; omega) (.cells c1 t1)).alloc (by simp only [Ab]; omega) (.cells c2 t2)).alloc (by simp only [Ab]; omega) (.cells c3 t3)⟩
theorem gG {w W : World} {c0 c1 c2 c3 c4 : Array Value} {t0 t1 t2 t3 t4 : TypeId} (h : (((((w.alloc (.cells c0 t0)).alloc (.cells c1 t1)).alloc (.cells c2 t2)).alloc (.cells c3 t3)).alloc (.cells c4 t4)) = W) : Blk W (w.heap.size) t0 c0 ∧ Blk W (w.heap.size + 1) t1 c1 ∧ Blk W (w.heap.size + 1 + 1) t2 c2 ∧ Blk W (w.heap.size + 1 + 1 + 1) t3 c3 ∧ Blk W (w.heap.size + 1 + 1 + 1 + 1) t4 c4 ∧ Below w.heap.size w W ∧ W.heap.size = w.heap.size + 5 := by
  subst h
  exact ⟨(Blk.alloc (Blk.alloc (Blk.alloc (Blk.alloc (Blk.new w t0 c0) (.cells c1 t1)) (.cells c2 t2)) (.cells c3 t3)) (.cells c4 t4)), (Blk.alloc (Blk.alloc (Blk.alloc (by have h := Blk.new (w.alloc (.cells c0 t0)) t1 c1; simp only [Ab] at h; exact h) (.cells c2 t2)) (.cells c3 t3)) (.cells c4 t4)), (Blk.alloc (Blk.alloc (by have h := Blk.new ((w.alloc (.cells c0 t0)).alloc (.cells c1 t1)) t2 c2; simp only [Ab] at h; exact h) (.cells c3 t3)) (.cells c4 t4)), (Blk.alloc (by have h := Blk.new (((w.alloc (.cells c0 t0)).alloc (.cells c1 t1)).alloc (.cells c2 t2)) t3 c3; simp only [Ab] at h; exact h) (.cells c4 t4)), (by have h := Blk.new ((((w.alloc (.cells c0 t0)).alloc (.cells c1 t1)).alloc (.cells c2 t2)).alloc (.cells c3 t3)) t4 c4; simp only [Ab] at h; exact h), (((((Below.refl _ _).alloc (Nat.le_refl _) (.cells c0 t0)).alloc (by simp only [Ab]; omega) (.cells c1 t1)).alloc (by simp only [Ab]; omega) (.cells c2 t2)).alloc (by simp only [Ab]; omega) (.cells c3 t3)).alloc (by simp only [Ab]; omega) (.cells c4 t4), by simp only [Ab]⟩
theorem gN {w W : World} {c0 c1 c2 c3 c4 : Array Value} {t0 t1 t2 t3 t4 : TypeId} (h : (((((w.alloc (.cells c0 t0)).alloc (.cells c1 t1)).alloc (.cells c2 t2)).alloc (.cells c3 t3)).alloc (.cells c4 t4)) = W) : Blk W (w.heap.size) t0 c0 ∧ Blk W (w.heap.size + 1) t1 c1 ∧ Blk W (w.heap.size + 1 + 1) t2 c2 ∧ Blk W (w.heap.size + 1 + 1 + 1) t3 c3 ∧ Blk W (w.heap.size + 1 + 1 + 1 + 1) t4 c4 ∧ Below w.heap.size w W := by
  subst h
  exact ⟨(Blk.alloc (Blk.alloc (Blk.alloc (Blk.alloc (Blk.new w t0 c0) (.cells c1 t1)) (.cells c2 t2)) (.cells c3 t3)) (.cells c4 t4)), (Blk.alloc (Blk.alloc (Blk.alloc (by have h := Blk.new (w.alloc (.cells c0 t0)) t1 c1; simp only [Ab] at h; exact h) (.cells c2 t2)) (.cells c3 t3)) (.cells c4 t4)), (Blk.alloc (Blk.alloc (by have h := Blk.new ((w.alloc (.cells c0 t0)).alloc (.cells c1 t1)) t2 c2; simp only [Ab] at h; exact h) (.cells c3 t3)) (.cells c4 t4)), (Blk.alloc (by have h := Blk.new (((w.alloc (.cells c0 t0)).alloc (.cells c1 t1)).alloc (.cells c2 t2)) t3 c3; simp only [Ab] at h; exact h) (.cells c4 t4)), (by have h := Blk.new ((((w.alloc (.cells c0 t0)).alloc (.cells c1 t1)).alloc (.cells c2 t2)).alloc (.cells c3 t3)) t4 c4; simp only [Ab] at h; exact h), (((((Below.refl _ _).alloc (Nat.le_refl _) (.cells c0 t0)).alloc (by simp only [Ab]; omega) (.cells c1 t1)).alloc (by simp only [Ab]; omega) (.cells c2 t2)).alloc (by simp only [Ab]; omega) (.cells c3 t3)).alloc (by simp only [Ab]; omega) (.cells c4 t4)⟩
theorem gH {w W : World} {c0 c1 c2 c3 c4 c5 : Array Value} {t0 t1 t2 t3 t4 t5 : TypeId} (h : ((((((w.alloc (.cells c0 t0)).alloc (.cells c1 t1)).alloc (.cells c2 t2)).alloc (.cells c3 t3)).alloc (.cells c4 t4)).alloc (.cells c5 t5)) = W) : Blk W (w.heap.size) t0 c0 ∧ Blk W (w.heap.size + 1) t1 c1 ∧ Blk W (w.heap.size + 1 + 1) t2 c2 ∧ Blk W (w.heap.size + 1 + 1 + 1) t3 c3 ∧ Blk W (w.heap.size + 1 + 1 + 1 + 1) t4 c4 ∧ Blk W (w.heap.size + 1 + 1 + 1 + 1 + 1) t5 c5 ∧ Below w.heap.size w W ∧ W.heap.size = w.heap.size + 6 := by
  subst h
  exact ⟨(Blk.alloc (Blk.alloc (Blk.alloc (Blk.alloc (Blk.alloc (Blk.new w t0 c0) (.cells c1 t1)) (.cells c2 t2)) (.cells c3 t3)) (.cells c4 t4)) (.cells c5 t5)), (Blk.alloc (Blk.alloc (Blk.alloc (Blk.alloc (by have h := Blk.new (w.alloc (.cells c0 t0)) t1 c1; simp only [Ab] at h; exact h) (.cells c2 t2)) (.cells c3 t3)) (.cells c4 t4)) (.cells c5 t5)), (Blk.alloc (Blk.alloc (Blk.alloc (by have h := Blk.new ((w.alloc (.cells c0 t0)).alloc (.cells c1 t1)) t2 c2; simp only [Ab] at h; exact h) (.cells c3 t3)) (.cells c4 t4)) (.cells c5 t5)), (Blk.alloc (Blk.alloc (by have h := Blk.new (((w.alloc (.cells c0 t0)).alloc (.cells c1 t1)).alloc (.cells c2 t2)) t3 c3; simp only [Ab] at h; exact h) (.cells c4 t4)) (.cells c5 t5)), (Blk.alloc (by have h := Blk.new ((((w.alloc (.cells c0 t0)).alloc (.cells c1 t1)).alloc (.cells c2 t2)).alloc (.cells c3 t3)) t4 c4; simp only [Ab] at h; exact h) (.cells c5 t5)), (by have h := Blk.new (((((w.alloc (.cells c0 t0)).alloc (.cells c1 t1)).alloc (.cells c2 t2)).alloc (.cells c3 t3)).alloc (.cells c4 t4)) t5 c5; simp only [Ab] at h; exact h), ((((((Below.refl _ _).alloc (Nat.le_refl _) (.cells c0 t0)).alloc (by simp only [Ab]; omega) (.cells c1 t1)).alloc (by simp only [Ab]; omega) (.cells c2 t2)).alloc (by simp only [Ab]; omega) (.cells c3 t3)).alloc (by simp only [Ab]; omega) (.cells c4 t4)).alloc (by simp only [Ab]; omega) (.cells c5 t5), by simp only [Ab]⟩
theorem gQ {w W : World} {c0 c1 c2 c3 c4 c5 : Array Value} {t0 t1 t2 t3 t4 t5 : TypeId} (h : ((((((w.alloc (.cells c0 t0)).alloc (.cells c1 t1)).alloc (.cells c2 t2)).alloc (.cells c3 t3)).alloc (.cells c4 t4)).alloc (.cells c5 t5)) = W) : Blk W (w.heap.size) t0 c0 ∧ Blk W (w.heap.size + 1) t1 c1 ∧ Blk W (w.heap.size + 1 + 1) t2 c2 ∧ Blk W (w.heap.size + 1 + 1 + 1) t3 c3 ∧ Blk W (w.heap.size + 1 + 1 + 1 + 1) t4 c4 ∧ Blk W (w.heap.size + 1 + 1 + 1 + 1 + 1) t5 c5 ∧ Below w.heap.size w W := by
  subst h
  exact ⟨(Blk.alloc (Blk.alloc (Blk.alloc (Blk.alloc (Blk.alloc (Blk.new w t0 c0) (.cells c1 t1)) (.cells c2 t2)) (.cells c3 t3)) (.cells c4 t4)) (.cells c5 t5)), (Blk.alloc (Blk.alloc (Blk.alloc (Blk.alloc (by have h := Blk.new (w.alloc (.cells c0 t0)) t1 c1; simp only [Ab] at h; exact h) (.cells c2 t2)) (.cells c3 t3)) (.cells c4 t4)) (.cells c5 t5)), (Blk.alloc (Blk.alloc (Blk.alloc (by have h := Blk.new ((w.alloc (.cells c0 t0)).alloc (.cells c1 t1)) t2 c2; simp only [Ab] at h; exact h) (.cells c3 t3)) (.cells c4 t4)) (.cells c5 t5)), (Blk.alloc (Blk.alloc (by have h := Blk.new (((w.alloc (.cells c0 t0)).alloc (.cells c1 t1)).alloc (.cells c2 t2)) t3 c3; simp only [Ab] at h; exact h) (.cells c4 t4)) (.cells c5 t5)), (Blk.alloc (by have h := Blk.new ((((w.alloc (.cells c0 t0)).alloc (.cells c1 t1)).alloc (.cells c2 t2)).alloc (.cells c3 t3)) t4 c4; simp only [Ab] at h; exact h) (.cells c5 t5)), (by have h := Blk.new (((((w.alloc (.cells c0 t0)).alloc (.cells c1 t1)).alloc (.cells c2 t2)).alloc (.cells c3 t3)).alloc (.cells c4 t4)) t5 c5; simp only [Ab] at h; exact h), ((((((Below.refl _ _).alloc (Nat.le_refl _) (.cells c0 t0)).alloc (by simp only [Ab]; omega) (.cells c1 t1)).alloc (by simp only [Ab]; omega) (.cells c2 t2)).alloc (by simp only [Ab]; omega) (.cells c3 t3)).alloc (by simp only [Ab]; omega) (.cells c4 t4)).alloc (by simp only [Ab]; omega) (.cells c5 t5)⟩
theorem gM {w W : World} {c0 c1 c2 c3 c4 c5 c6 : Array Value} {t0 t1 t2 t3 t4 t5 t6 : TypeId} (h : (((((((w.alloc (.cells c0 t0)).alloc (.cells c1 t1)).alloc (.cells c2 t2)).alloc (.cells c3 t3)).alloc (.cells c4 t4)).alloc (.cells c5 t5)).alloc (.cells c6 t6)) = W) : Blk W (w.heap.size) t0 c0 ∧ Blk W (w.heap.size + 1) t1 c1 ∧ Blk W (w.heap.size + 1 + 1) t2 c2 ∧ Blk W (w.heap.size + 1 + 1 + 1) t3 c3 ∧ Blk W (w.heap.size + 1 + 1 + 1 + 1) t4 c4 ∧ Blk W (w.heap.size + 1 + 1 + 1 + 1 + 1) t5 c5 ∧ Blk W (w.heap.size + 1 + 1 + 1 + 1 + 1 + 1) t6 c6 ∧ Below w.heap.size w W ∧ W.heap.size = w.heap.size + 7 := by
  subst h
  exact ⟨(Blk.alloc (Blk.alloc (Blk.alloc (Blk.alloc (Blk.alloc (Blk.alloc (Blk.new w t0 c0) (.cells c1 t1)) (.cells c2 t2)) (.cells c3 t3)) (.cells c4 t4)) (.cells c5 t5)) (.cells c6 t6)), (Blk.alloc (Blk.alloc (Blk.alloc (Blk.alloc (Blk.alloc (by have h := Blk.new (w.alloc (.cells c0 t0)) t1 c1; simp only [Ab] at h; exact h) (.cells c2 t2)) (.cells c3 t3)) (.cells c4 t4)) (.cells c5 t5)) (.cells c6 t6)), (Blk.alloc (Blk.alloc (Blk.alloc (Blk.alloc (by have h := Blk.new ((w.alloc (.cells c0 t0)).alloc (.cells c1 t1)) t2 c2; simp only [Ab] at h; exact h) (.cells c3 t3)) (.cells c4 t4)) (.cells c5 t5)) (.cells c6 t6)), (Blk.alloc (Blk.alloc (Blk.alloc (by have h := Blk.new (((w.alloc (.cells c0 t0)).alloc (.cells c1 t1)).alloc (.cells c2 t2)) t3 c3; simp only [Ab] at h; exact h) (.cells c4 t4)) (.cells c5 t5)) (.cells c6 t6)), (Blk.alloc (Blk.alloc (by have h := Blk.new ((((w.alloc (.cells c0 t0)).alloc (.cells c1 t1)).alloc (.cells c2 t2)).alloc (.cells c3 t3)) t4 c4; simp only [Ab] at h; exact h) (.cells c5 t5)) (.cells c6 t6)), (Blk.alloc (by have h := Blk.new (((((w.alloc (.cells c0 t0)).alloc (.cells c1 t1)).alloc (.cells c2 t2)).alloc (.cells c3 t3)).alloc (.cells c4 t4)) t5 c5; simp only [Ab] at h; exact h) (.cells c6 t6)), (by have h := Blk.new ((((((w.alloc (.cells c0 t0)).alloc (.cells c1 t1)).alloc (.cells c2 t2)).alloc (.cells c3 t3)).alloc (.cells c4 t4)).alloc (.cells c5 t5)) t6 c6; simp only [Ab] at h; exact h), (((((((Below.refl _ _).alloc (Nat.le_refl _) (.cells c0 t0)).alloc (by simp only [Ab]; omega) (.cells c1 t1)).alloc (by simp only [Ab]; omega) (.cells c2 t2)).alloc (by simp only [Ab]; omega) (.cells c3 t3)).alloc (by simp only [Ab]; omega) (.cells c4 t4)).alloc (by simp only [Ab]; omega) (.cells c5 t5)).alloc (by simp only [Ab]; omega) (.cells c6 t6), by simp only [Ab]⟩
theorem gS {w W : World} {c0 c1 c2 c3 c4 c5 c6 : Array Value} {t0 t1 t2 t3 t4 t5 t6 : TypeId} (h : (((((((w.alloc (.cells c0 t0)).alloc (.cells c1 t1)).alloc (.cells c2 t2)).alloc (.cells c3 t3)).alloc (.cells c4 t4)).alloc (.cells c5 t5)).alloc (.cells c6 t6)) = W) : Blk W (w.heap.size) t0 c0 ∧ Blk W (w.heap.size + 1) t1 c1 ∧ Blk W (w.heap.size + 1 + 1) t2 c2 ∧ Blk W (w.heap.size + 1 + 1 + 1) t3 c3 ∧ Blk W (w.heap.size + 1 + 1 + 1 + 1) t4 c4 ∧ Blk W (w.heap.size + 1 + 1 + 1 + 1 + 1) t5 c5 ∧ Blk W (w.heap.size + 1 + 1 + 1 + 1 + 1 + 1) t6 c6 ∧ Below w.heap.size w W := by
  subst h
  exact ⟨(Blk.alloc (Blk.alloc (Blk.alloc (Blk.alloc (Blk.alloc (Blk.alloc (Blk.new w t0 c0) (.cells c1 t1)) (.cells c2 t2)) (.cells c3 t3)) (.cells c4 t4)) (.cells c5 t5)) (.cells c6 t6)), (Blk.alloc (Blk.alloc (Blk.alloc (Blk.alloc (Blk.alloc (by have h := Blk.new (w.alloc (.cells c0 t0)) t1 c1; simp only [Ab] at h; exact h) (.cells c2 t2)) (.cells c3 t3)) (.cells c4 t4)) (.cells c5 t5)) (.cells c6 t6)), (Blk.alloc (Blk.alloc (Blk.alloc (Blk.alloc (by have h := Blk.new ((w.alloc (.cells c0 t0)).alloc (.cells c1 t1)) t2 c2; simp only [Ab] at h; exact h) (.cells c3 t3)) (.cells c4 t4)) (.cells c5 t5)) (.cells c6 t6)), (Blk.alloc (Blk.alloc (Blk.alloc (by have h := Blk.new (((w.alloc (.cells c0 t0)).alloc (.cells c1 t1)).alloc (.cells c2 t2)) t3 c3; simp only [Ab] at h; exact h) (.cells c4 t4)) (.cells c5 t5)) (.cells c6 t6)), (Blk.alloc (Blk.alloc (by have h := Blk.new ((((w.alloc (.cells c0 t0)).alloc (.cells c1 t1)).alloc (.cells c2 t2)).alloc (.cells c3 t3)) t4 c4; simp only [Ab] at h; exact h) (.cells c5 t5)) (.cells c6 t6)), (Blk.alloc (by have h := Blk.new (((((w.alloc (.cells c0 t0)).alloc (.cells c1 t1)).alloc (.cells c2 t2)).alloc (.cells c3 t3)).alloc (.cells c4 t4)) t5 c5; simp only [Ab] at h; exact h) (.cells c6 t6)), (by have h := Blk.new ((((((w.alloc (.cells c0 t0)).alloc (.cells c1 t1)).alloc (.cells c2 t2)).alloc (.cells c3 t3)).alloc (.cells c4 t4)).alloc (.cells c5 t5)) t6 c6; simp only [Ab] at h; exact h), (((((((Below.refl _ _).alloc (Nat.le_refl _) (.cells c0 t0)).alloc (by simp only [Ab]; omega) (.cells c1 t1)).alloc (by simp only [Ab]; omega) (.cells c2 t2)).alloc (by simp only [Ab]; omega) (.cells c3 t3)).alloc (by simp only [Ab]; omega) (.cells c4 t4)).alloc (by simp only [Ab]; omega) (.cells c5 t5)).alloc (by simp only [Ab]; omega) (.cells c6 t6)⟩
theorem An{a b c:World}(h:Below a.heap.size a b)(k:Below b.heap.size b c):Below a.heap.size a c:=h.trans (k.mono h.size)
theorem Cg{m:Nat}{w u:World}{p:Addr}{v:Option Value}(b:Below m w u)(c:w.cell? p=v)(h:p.block<m):u.cell? p=v:=(Below.cell b h).trans c
def BT(_:Nat)(_:Array Value)(_:World)(_:Value):ZT:=.m
def YC(_:Nat)(_:Array Value)(_:World)(_:Value):ZT:=.m
def GK(_:Nat)(_:Array Value)(_:World)(_:Value):ZT:=.m
instance(n:Nat)(a:Array Value)(w:World)(v:Value):CoeDep ZT (BT n a w v) Prop:=⟨Calls prog n a w fun e w'=>e=.returned v∧Below w.heap.size w w'⟩
instance(n:Nat)(a:Array Value)(w:World)(v:Value):CoeDep ZT (YC n a w v) Prop:=⟨Calls prog n a w fun e w'=>e=.returned v∧w'=w⟩
instance(n:Nat)(a:Array Value)(w:World)(v:Value):CoeDep ZT (GK n a w v) Prop:=⟨Calls prog n a w fun e w'=>e=.returned v∧w=w'⟩
theorem E9{n:Nat}{w:World}:Below n w w:=Below.refl _ _
theorem BU{w:World}{o:Obj}:Below w.heap.size w (w.alloc o):=(Below.refl _ _).alloc (Nat.le_refl _) o
theorem GJ{n:Nat}{w:World}:Below n w w.drew:=Below.drew (Below.refl _ _)
theorem Pn{w:World}{ad:Addr}{n:Nat}{xs:List Int}(h:Rd w (some ad) n (ints xs)) (hk:0<n):w.cell? ad=some (.int .i64 (xs.getD 0 0)):=by
  obtain ⟨a,h1,h2⟩ := h.int hk
  cases h1
  rwa [Addr.add_zero'] at h2
theorem GV{w:World}{ad:Addr}{n k:Nat}{xs:List Int}(h:Rd w (some ad) n (ints xs)) (hk:k<n) (h0:k≠0):w.cell? ⟨ad.block,ad.off+k,none⟩=some (.int .i64 (xs.getD k 0)):=by
  obtain ⟨a,h1,h2⟩ := h.int hk
  cases h1
  unfold Addr.add at h2
  rwa [if_neg h0] at h2
theorem Br:∀(w:World) (t:TypeId) (cs:Array Value),Blk (w.alloc (Obj.cells cs t)) w.heap.size t cs:=@Blk.new
theorem Ba:∀ {B:Nat} {a w:World},Below B a w→ ∀(m:Nat),Below B a (w.drewN m):=@Below.drewN
theorem EE:∀ {B m:Nat} {a w:World},Below B (a.drewN m) w→Below B a w:=@Below.left
def JZ (s:Int) (b:UInt8):Int:=(31*s+(b.toNat:Int))%65521
def chkFold (l:List UInt8):Int:=l.foldl JZ 1
theorem CV (l:List UInt8):0≤chkFold l∧chkFold l<65521:=by
 unfold chkFold
 have: ∀(l:List UInt8) (s:Int),0≤s→s<65521→0≤l.foldl JZ s∧l.foldl JZ s<65521:=by
  intro l
  induction l with
  |nil=>intro s h1 h2;exact⟨h1,h2⟩
  |cons b r ih=>intro s h1 h2;exact ih _ (by unfold JZ;omega) (by unfold JZ;omega)
 exact this l 1 Aa Aa
theorem JY (l:List UInt8) (b:UInt8):chkFold (l++ [b])=(31*chkFold l+(b.toNat:Int))%65521:=by
 unfold chkFold;rw[List.foldl_append];rfl
theorem Em (s:ByteArray) (k:Nat) (h:k<s.size):s.data.toList.take (k+1)=s.data.toList.take k++ [s[k]]:=by
 rw[List.take_succ_eq_append_getElem CB];rfl
theorem Do (s:ByteArray) (w:World) (hs:s.size≤maxLen):
  (GK 131 #[.string s] w (ZI (chkFold s.data.toList)):Prop):=by
 unfold maxLen at hs
 go_enter func131,ntmps131
 go_wp2
 go_loop [3,4] (fun n i=> ∃k:Nat,k≤s.size∧i=.int .i64 k∧n=.int .i64 (chkFold (s.data.toList.take k))) (fun _ i=>s.size-(intOf i).toNat)
 case atStart=>exact⟨0,AZ _,rfl,rfl⟩
 case round=>
  obtain⟨k,hk,rfl,rfl⟩:=hrel;have hd:=CV (s.data.toList.take k)
  by_cases hlt:k<s.size
  ·have HS:Hid (chkFold (s.data.toList.take (k+1))=(31*chkFold (s.data.toList.take k)+(s[k].toNat:Int))%65521):=by
    rw[Em s k hlt];exact JY _ _
   generalize chkFold (s.data.toList.take k)=c at*;have hb:s[k].toNat<256:=s[k].toNat_lt;go_wp2
   go_round
   case rel=>exact⟨k+1,by omega,by go_num,by rw[HS.out]⟩
   case measure=>simp[intOf];omega
  ·go_wp2;go_ret;exact⟨Bb (by rw[ED Bq]),rfl⟩
theorem Dn (s:ByteArray) (w:World) (hs:s.size≤maxLen):
  (GK 150 #[.string s] w (ZI (chkFold s.data.toList)):Prop):=by
 unfold maxLen at hs
 go_enter func150,ntmps150
 go_wp2
 go_loop [3,7] (fun n i=> ∃k:Nat,k≤s.size∧i=.int .i64 k∧n=.int .i64 (chkFold (s.data.toList.take k))) (fun _ i=>s.size-(intOf i).toNat)
 case atStart=>exact⟨0,AZ _,rfl,rfl⟩
 case round=>
  obtain⟨k,hk,rfl,rfl⟩:=hrel;have hd:=CV (s.data.toList.take k)
  by_cases hlt:k<s.size
  ·have HS:Hid (chkFold (s.data.toList.take (k+1))=(31*chkFold (s.data.toList.take k)+(s[k].toNat:Int))%65521):=by
    rw[Em s k hlt];exact JY _ _
   generalize chkFold (s.data.toList.take k)=c at*;have hb:s[k].toNat<256:=s[k].toNat_lt;go_wp2
   go_round
   case rel=>exact⟨k+1,by omega,by go_num,by rw[HS.out]⟩
   case measure=>simp[intOf];omega
  ·go_wp2;go_ret;exact⟨Bb (by rw[ED Bq]),rfl⟩
def go (x y d r:Int):Array Value:= (Ziiii x y d r)
def fM (t k l x y d r:Int):Array Value:= (AD t k l x y d r)
def DP (x y d r:Int):Bool:=inR x 0 10000 && inR y 0 10000 && inR d (-2000) 1000000 && inR r 0 5000
def Hx (x y d r:Int):Bool:=x==0 && (y==0 && (d==0 && r==0))
def Cm (t k l x y d r:Int):Bool:=
 inR t 0 1000000 && (if k=1 then inR l (-2000) 2000 && Hx x y d r else if k=2 then l==0 && DP x y d r else if k=3 then l==0 && Hx x y d r else false)
theorem GR (x y d r:Int) (w:World):
  Calls prog 110 #[Ziiii x y d r] w fun e w'=>e=.returned (.bool (DP x y d r))∧w'=w.alloc (.cells (go x y d r) 65):=by
 have HS:Hid (DP x y d r=(inR x 0 10000 && inR y 0 10000 && inR d (-2000) 1000000 && inR r 0 5000)):=rfl;rcases BA (inR x 0 10000) with h1|h1<;>rcases BA (inR y 0 10000) with h2|h2<;>rcases BA (inR d (-2000) 1000000) with h3|h3
 all_goals
  have HS':=HS.out;rw[h1,h2,h3] at HS';have HS:=Ai HS';clear HS'
  go_enter func110,ntmps110
  go_wp2_with (go_at_call 84;refine(Ay _ _ _ _).mono ?_;rintro e w' ⟨rfl,rfl⟩)
  go_ret;exact⟨Af (by rw[HS.out];simp),rfl⟩
theorem Ir (A:Option Addr) (n c:Nat) (xs:List Int) (w:World) (hn:n≤9223372036854775807) (hr:Rd w A n (ints xs)):
  (GK 153 #[.slice A n c] w (.bool (BV xs 0 10000)):Prop):=by
 go_enter func153,ntmps153
 go_wp2_with (go_at_call 76;refine(Fb _ _ _ xs _ _ _ hn hr).mono ?_;rintro e w' ⟨rfl,rfl⟩)
 go_ret;exact⟨rfl,rfl⟩
theorem fb (w:World) (x y:Int) (e:TypeId) (g:Nat) (hg:w.heap.size=g):Rd (w.alloc (.cells (Zii x y) e)) (some ⟨g,0,none⟩) 2 (ints [x,y]):=by
 subst hg
 exact(Br w e (Zii x y)).rd rfl (fun i hi=>by
  match i,hi with
  |0,_=>rfl
  |1,_=>rfl)
theorem EM (x y d r:Int) (w:World):
  (BT 113 #[Ziiii x y d r] w (.bool (DP x y d r)):Prop):=by
 have HS:Hid (DP x y d r=(BV [x,y] 0 10000 && inR d (-2000) 1000000 && inR r 0 5000)):=by unfold Hid DP BV;simp
 rcases BA (BV [x,y] 0 10000) with h1|h1<;>rcases BA (inR d (-2000) 1000000) with h3|h3
 all_goals
  have HS':=HS.out;rw[h1,h3] at HS';have HS:=Ai HS';clear HS'
  go_enter func113,ntmps113
  go_wp2_with (first|(go_at_call 73;refine(As _ _ _ _).mono ?_;rintro e w' ⟨rfl,rfl⟩)|(go_at_call 153;refine(Ir _ _ _ [x,y] _ (by omega) ?_).mono ?_;exact fb _ x y _ _ (by simp);rintro e w' ⟨rfl,rfl⟩))
  go_ret;exact⟨Af (by rw[HS.out];simp),Ax⟩
theorem Dt (t k l x y d r:Int) (w:World):
  (BT 72 #[AD t k l x y d r] w (.bool (Cm t k l x y d r)):Prop):=by
 rcases BA (inR t 0 1000000) with h1|h1
 ·by_cases k1:k=1
  ·subst k1;rcases BA (inR l (-2000) 2000) with h2|h2
   ·have HS:Hid (Cm t 1 l x y d r=Hx x y d r):=by unfold Hid Cm;simp[h1,h2]
    go_enter func72,ntmps72
    go_wp2_with (first|(go_at_call 84;refine(Ay _ _ _ _).mono ?_;rintro e w' ⟨rfl,rfl⟩))
    all_goals
     go_ret;exact⟨Af (by rw[HS.out];simp[Hx, *]),Ax⟩
   ·have HS:Hid (Cm t 1 l x y d r=false):=by unfold Hid Cm;simp[h1,h2]
    go_enter func72,ntmps72
    go_wp2_with (first|(go_at_call 84;refine(Ay _ _ _ _).mono ?_;rintro e w' ⟨rfl,rfl⟩))
    go_ret;exact⟨Af (by rw[HS.out]),Ax⟩
  ·have e1:(k==1)=false:=by simpa using k1
   by_cases k2:k=2
   ·subst k2;rcases BA (l==0) with h2|h2
    ·have HS:Hid (Cm t 2 l x y d r=DP x y d r):=by unfold Hid Cm;simp[h1,h2]
     go_enter func72,ntmps72
     go_wp2_with (first|(go_at_call 84;refine(Ay _ _ _ _).mono ?_;rintro e w' ⟨rfl,rfl⟩)|(go_at_call 110;refine(GR _ _ _ _ _).mono ?_;rintro e w' ⟨rfl,rfl⟩))
     go_ret;exact⟨Af (by rw[HS.out]),Ax⟩
    ·have HS:Hid (Cm t 2 l x y d r=false):=by unfold Hid Cm;simp[h1,h2]
     go_enter func72,ntmps72
     go_wp2_with (first|(go_at_call 84;refine(Ay _ _ _ _).mono ?_;rintro e w' ⟨rfl,rfl⟩))
     go_ret;exact⟨Af (by rw[HS.out]),Ax⟩
   ·have e2:(k==2)=false:=by simpa using k2
    by_cases k3:k=3
    ·subst k3;rcases BA (l==0) with h2|h2
     ·have HS:Hid (Cm t 3 l x y d r=Hx x y d r):=by unfold Hid Cm;simp[h1,h2]
      go_enter func72,ntmps72
      go_wp2_with (first|(go_at_call 84;refine(Ay _ _ _ _).mono ?_;rintro e w' ⟨rfl,rfl⟩))
      all_goals
       go_ret;exact⟨Af (by rw[HS.out];simp[Hx, *]),Ax⟩
     ·have HS:Hid (Cm t 3 l x y d r=false):=by unfold Hid Cm;simp[h1,h2]
      go_enter func72,ntmps72
      go_wp2_with (first|(go_at_call 84;refine(Ay _ _ _ _).mono ?_;rintro e w' ⟨rfl,rfl⟩))
      go_ret;exact⟨Af (by rw[HS.out]),Ax⟩
    ·have e3:(k==3)=false:=by simpa using k3
     have HS:Hid (Cm t k l x y d r=false):=by unfold Hid Cm;simp[h1,k1,k2,k3]
     go_enter func72,ntmps72
     go_wp2_with (first|(go_at_call 84;refine(Ay _ _ _ _).mono ?_;rintro e w' ⟨rfl,rfl⟩))
     go_ret;exact⟨Af (by rw[HS.out]),Ax⟩
 ·have HS:Hid (Cm t k l x y d r=false):=by unfold Hid Cm;simp[h1]
  go_enter func72,ntmps72
  go_wp2_with (first|(go_at_call 84;refine(Ay _ _ _ _).mono ?_;rintro e w' ⟨rfl,rfl⟩))
  go_ret;exact⟨Af (by rw[HS.out]),Ax⟩
theorem Ed (t k l x y d r:Int) (w:World):
  (BT 81 #[AD t k l x y d r] w (.bool (Cm t k l x y d r)):Prop):=by
 rcases BA (inR t 0 1000000) with h1|h1
 ·by_cases k1:k=1
  ·subst k1;rcases BA (inR l (-2000) 2000) with h2|h2
   ·have HS:Hid (Cm t 1 l x y d r=Hx x y d r):=by unfold Hid Cm;simp[h1,h2]
    go_enter func81,ntmps81
    go_wp2_with (first|(go_at_call 73;refine(As _ _ _ _).mono ?_;rintro e w' ⟨rfl,rfl⟩))
    all_goals
     go_ret;exact⟨Af (by rw[HS.out];simp[Hx, *]),Ax⟩
   ·have HS:Hid (Cm t 1 l x y d r=false):=by unfold Hid Cm;simp[h1,h2]
    go_enter func81,ntmps81
    go_wp2_with (first|(go_at_call 73;refine(As _ _ _ _).mono ?_;rintro e w' ⟨rfl,rfl⟩))
    go_ret;exact⟨Af (by rw[HS.out]),Ax⟩
  ·have e1:(k==1)=false:=by simpa using k1
   by_cases k2:k=2
   ·subst k2;rcases BA (l==0) with h2|h2
    ·have HS:Hid (Cm t 2 l x y d r=DP x y d r):=by unfold Hid Cm;simp[h1,h2]
     go_enter func81,ntmps81
     go_wp2_with (first|(go_at_call 73;refine(As _ _ _ _).mono ?_;rintro e w' ⟨rfl,rfl⟩)|(go_at_call 113;refine(EM _ _ _ _ _).mono ?_;rintro e w' ⟨rfl,hb⟩))
     go_ret;exact⟨Af (by rw[HS.out]),Below.trans Ax (hb.mono Cr)⟩
    ·have HS:Hid (Cm t 2 l x y d r=false):=by unfold Hid Cm;simp[h1,h2]
     go_enter func81,ntmps81
     go_wp2_with (first|(go_at_call 73;refine(As _ _ _ _).mono ?_;rintro e w' ⟨rfl,rfl⟩))
     go_ret;exact⟨Af (by rw[HS.out]),Ax⟩
   ·have e2:(k==2)=false:=by simpa using k2
    by_cases k3:k=3
    ·subst k3;rcases BA (l==0) with h2|h2
     ·have HS:Hid (Cm t 3 l x y d r=Hx x y d r):=by unfold Hid Cm;simp[h1,h2]
      go_enter func81,ntmps81
      go_wp2_with (first|(go_at_call 73;refine(As _ _ _ _).mono ?_;rintro e w' ⟨rfl,rfl⟩))
      all_goals
       go_ret;exact⟨Af (by rw[HS.out];simp[Hx, *]),Ax⟩
     ·have HS:Hid (Cm t 3 l x y d r=false):=by unfold Hid Cm;simp[h1,h2]
      go_enter func81,ntmps81
      go_wp2_with (first|(go_at_call 73;refine(As _ _ _ _).mono ?_;rintro e w' ⟨rfl,rfl⟩))
      go_ret;exact⟨Af (by rw[HS.out]),Ax⟩
    ·have e3:(k==3)=false:=by simpa using k3
     have HS:Hid (Cm t k l x y d r=false):=by unfold Hid Cm;simp[h1,k1,k2,k3]
     go_enter func81,ntmps81
     go_wp2_with (first|(go_at_call 73;refine(As _ _ _ _).mono ?_;rintro e w' ⟨rfl,rfl⟩))
     go_ret;exact⟨Af (by rw[HS.out]),Ax⟩
 ·have HS:Hid (Cm t k l x y d r=false):=by unfold Hid Cm;simp[h1]
  go_enter func81,ntmps81
  go_wp2_with (first|(go_at_call 73;refine(As _ _ _ _).mono ?_;rintro e w' ⟨rfl,rfl⟩))
  go_ret;exact⟨Af (by rw[HS.out]),Ax⟩
theorem Hi.ne {r:List (Option Nat)} {B g:Nat} (h:Hi r B) (hg:g<B): ∀s∈r,s≠some g:=fun s hs e=>by have:=h s hs g e;omega
theorem Lo.ne {r:List (Option Nat)} {B g:Nat} (h:Lo r B) (hg:B≤g): ∀s∈r,s≠some g:=fun s hs e=>by have:=h s hs g e;omega
theorem Blk.touch {w w':World} {g:Nat} {t:TypeId} {cs:Array Value} {r:List (Option Nat)} (h:Blk w g t cs) (T:A9 w w' r) (hne: ∀s∈r,s≠some g):Blk w' g t cs:=
 (T.block g h.lt hne).trans h
theorem Blk.newN (W:World) (t:TypeId) (cs:Array Value) {g:Nat} (hg:W.heap.size=g):Blk (W.alloc (.cells cs t)) g t cs:=by subst hg;exact Br W t cs
theorem Zj (w:World) (n m:Nat):(w.drewN n).drewN m=w.drewN (n+m):=by simp[World.drewN,Nat.add_assoc]
theorem Fn {P:Program} {f:FuncId} {args:Array Value} {w:World} {n:Nat} {v:Value} (h:Calls P f args (w.drewN n) fun e w'=>e=.returned v∧ ∃m,w'=(w.drewN n).drewN m):Calls P f args (w.drewN n) fun e w'=>e=.returned v∧ ∃m,w'=w.drewN m:=
 h.mono fun _ _ ⟨he,m,hm⟩=>⟨he,n+m,by rw[hm,Zj]⟩
theorem BL {P:Program} {f:FuncId} {args:Array Value} {w:World} {n:Nat} {v:Value} (h:Calls P f args (w.drewN n) fun e w'=>e=.returned v∧w.drewN n=w'):Calls P f args (w.drewN n) fun e w'=>e=.returned v∧ ∃m,w'=w.drewN m:=
 h.mono fun _ _ ⟨he,hm⟩=>⟨he,n,hm.symm⟩
theorem Tl (a b:Int):Int.gcd b (a.tmod b)=Int.gcd a b:=by
 unfold Int.gcd;rw[Int.natAbs_tmod,Nat.gcd_comm a.natAbs b.natAbs,Nat.gcd_rec b.natAbs a.natAbs,Nat.gcd_comm]
theorem Xi (a:Int) {b:Int} (h:b≠0):(a.tmod b).natAbs<b.natAbs:=by
 rw[Int.natAbs_tmod];exact Nat.mod_lt _ Aa
theorem Tm (a:Int):(Int.gcd a 0:Int)=(a.natAbs:Int):=by unfold Int.gcd;simp
theorem Vk {a b:Int} (ha:a.natAbs≤1000000) (hb:b.natAbs≤1000000):Int.gcd a b≤1000000:=by
 unfold Int.gcd
 by_cases h:b.natAbs=0
 ·rw[h,Nat.gcd_zero_right];exact ha
 ·exact Ch (Nat.le_of_dvd Aa (Nat.gcd_dvd_right _ _)) hb
theorem SH (x:Int) (w:World) (h:x.natAbs≤1000000):
  (GK 111 #[ZI x] w (ZI x.natAbs):Prop):=by
 have h1: -1000000≤x:=Aa;have h2:x≤1000000:=Aa;have HA:Hid ((x.natAbs:Int)=if x< -x then-x else x):=by unfold Hid;split<;>omega
 clear h
 go_enter func111,ntmps111
 go_wp2
 all_goals
  go_ret;exact⟨Bb (by rw[HA.out];first|(rw[AA (by omega)];done)|(rw[Ak (by omega)];done)),rfl⟩
theorem SI (x:Int) (w:World) (h:x.natAbs≤1000000):
  (GK 154 #[ZI x] w (ZI x.natAbs):Prop):=by
 have h1: -1000000≤x:=Aa;have h2:x≤1000000:=Aa;have HA:Hid ((x.natAbs:Int)=if x< -x then-x else x):=by unfold Hid;split<;>omega
 clear h
 go_enter func154,ntmps154
 go_wp2
 all_goals
  go_ret;exact⟨Bb (by rw[HA.out];first|(rw[AA (by omega)];done)|(rw[Ak (by omega)];done)),rfl⟩
theorem Hg (a b:Int) (w:World) (ha:a.natAbs≤1000000) (hb:b.natAbs≤1000000):
  Calls prog 78 (Zii a b) w fun e w'=>e=.returned (ZI (Int.gcd a b:Int))∧ ∃m,w'=w.drewN m:=by
 go_enter func78,ntmps78
 go_wp2
 go_loopw [0,1] (fun x y wr=> ∃(c d:Int) (u:Nat),x=.int .i64 c∧y=.int .i64 d∧c.natAbs≤1000000∧d.natAbs≤1000000∧Int.gcd c d=Int.gcd a b∧wr=w.drewN u) (fun _ y _=>(intOf y).natAbs)
 case atStart=>exact⟨a,b,0,rfl,rfl,ha,hb,rfl,rfl⟩
 case round=>
  obtain⟨c,d,u,rfl,rfl,hc,hd,hg,rfl⟩:=hrel;have HG:=Ai hg;clear hg
  by_cases h0:d=0
  ·subst h0;have HV:Hid ((c.natAbs:Int)=(Int.gcd a b:Int)):=by unfold Hid;rw[←HG.out,Tm]
   have HC:=Ai hc;clear hc hd ha hb
   go_wp2_with (go_at_call 111;refine(SH _ _ HC.out).mono ?_;rintro e w' ⟨rfl,rfl⟩)
   go_ret;exact⟨Bb (by first|exact HV.out|rfl),u,rfl⟩
  ·have HL:=Ai (Xi c h0);have HS:=Ai (Tl c d);have hw:=Bg (c.tmod d) (by have:=HL.out;omega)
   have HD:=Ai hd;clear hc hd ha hb
   go_wp2_with fail
   go_quiet (fail)
   go_wp2
   go_roundw
   case rel=>exact⟨d,c.tmod d,_,rfl,by first|rfl|rw[hw],HD.out,Ch (Nat.le_of_lt HL.out) HD.out,HS.out.trans HG.out,Zj _ _ _⟩
   case measure=>first|exact HL.out|(simp only[intOf,hw];exact HL.out)
theorem DX (a b:Int) (w:World) (ha:a.natAbs≤1000000) (hb:b.natAbs≤1000000):
  Calls prog 116 (Zii a b) w fun e w'=>e=.returned (ZI (Int.gcd a b:Int))∧ ∃m,w'=w.drewN m:=by
 have HA:=Ai ha;have HB:=Ai hb;have HG0:Hid (Int.gcd (a.natAbs:Int) (b.natAbs:Int)=Int.gcd a b):=by unfold Hid Int.gcd;simp
 clear ha hb
 go_enter func116,ntmps116
 go_wp2_with fail
 refine(SI _ _ HA.out).mono ?_;rintro e w' ⟨rfl,rfl⟩
 go_wp2_with fail
 refine(SI _ _ HB.out).mono ?_;rintro e w' ⟨rfl,rfl⟩;go_wp2
 go_loopw [0,1] (fun x y wr=> ∃(c d:Int) (u:Nat),x=.int .i64 c∧y=.int .i64 d∧0≤c∧c≤1000000∧0≤d∧d≤1000000∧Int.gcd c d=Int.gcd a b∧wr=w.drewN u) (fun _ y _=>(intOf y).natAbs)
 case atStart=>exact⟨_,_,0,rfl,rfl,by omega,by have:=HA.out;omega,by omega,by have:=HB.out;omega,HG0.out,rfl⟩
 case round=>
  obtain⟨c,d,u,rfl,rfl,c0,c1,d0,d1,hg,rfl⟩:=hrel;have HG:=Ai hg;clear hg
  by_cases h0:d=0
  ·subst h0;have HV:Hid (c=(Int.gcd a b:Int)):=by unfold Hid;rw[←HG.out,Tm];omega
   go_wp2;go_ret;exact⟨Bb HV.out,u,rfl⟩
  ·have dp:0<d:=Aa;have HL:=Ai (Xi c h0);have HS:=Ai (Tl c d);have t0:0≤c.tmod d:=Int.tmod_nonneg _ c0;have t1:c.tmod d≤1000000:=by have:=HL.out;omega
   have hw:=Bg (c.tmod d);have he:c.tmod d=c%d:=Int.tmod_eq_emod_of_nonneg c0;have HE:=Ai he;clear he
   go_wp2_with fail
   go_quiet (fail)
   go_wp2
   go_roundw
   case rel=>exact⟨d,c.tmod d,_,rfl,by first|rfl|rw[hw]|rw[HE.out],d0,d1,t0,t1,HS.out.trans HG.out,Zj _ _ _⟩
   case measure=>first|exact HL.out|(simp only[intOf,hw];exact HL.out)|(simp only[intOf,←HE.out];exact HL.out)
def DO (c s h:Int):Bool:=inR h 1 1000 && (inR c 1 1000 && (inR s (-1000) 1000 && (!decide (s=0) && (decide (c*c+s*s=h*h) && decide (((Int.gcd (Int.gcd c s:Int) h:Nat):Int)=1)))))
def EQ (xs:List Int) (n:Int) (j:Nat):Bool:=decide (0≤xs.getD j 0) && (decide (xs.getD j 0<n) && (decide (j=0)||decide (xs.getD (j-1) 0<xs.getD j 0)))
def Fq (xs:List Int) (n:Int) (k:Nat):Bool:=(List.range k).all (EQ xs n)
def FF (xs:List Int) (n:Int):Bool:=Fq xs n xs.length
theorem OF (xs:List Int) (n:Int) (k:Nat):Fq xs n (k+1)=(Fq xs n k && EQ xs n k):=by unfold Fq;rw[I6,List.all_append];simp
theorem OE {xs:List Int} {n:Int} {k:Nat} (hk:k<xs.length) (h:EQ xs n k=false):FF xs n=false:=by
 rw[JV];intro c;unfold FF Fq at c;rw[List.all_eq_true] at c;rw[c k (Eo.2 hk)] at h;cases h
theorem Sh {xs:List Int} {n:Int} (h:FF xs n=true): ∀p∈xs,0≤p∧p<n:=fun p hp=>by
 obtain⟨k,hk,rfl⟩:=List.getElem_of_mem hp;unfold FF Fq at h;rw[List.all_eq_true] at h;have h2:=h k (Eo.2 hk);unfold EQ at h2;rw[CD,CD,CJ hk] at h2;exact⟨by simpa using h2.1,by simpa using h2.2.1⟩
theorem Fx (A:Option Addr) (q c:Nat) (xs:List Int) (n:Int) (w:World) (hq:q≤2097152) (hr:Rd w A q (ints xs)):
  (BT 75 (Gb A q c n) w (.bool (FF xs n)):Prop):=by
 have HL:=Ai hr.len
 go_enter func75,ntmps75
 go_wp2
 go_loopw [5,6,9] (fun _ _ i wr=> ∃k u:Nat,k≤q∧i=.int .i64 k∧Fq xs n k=true∧wr=w.drewN u) (fun _ _ i _=>q-(intOf i).toNat)
 case atStart=>exact⟨0,0,AZ _,rfl,rfl,rfl⟩
 case round=>
  obtain⟨k,u,hk,rfl,hall,rfl⟩:=hrel;have HA:=Ai hall;clear hall
  by_cases hlt:k<q
  ·have hltI:(k:Int)<(q:Int):=Aa;obtain⟨ad,rfl,hx⟩:=hr.int hlt;have HS:=Ai (OF xs n k);have HF:Hid (EQ xs n k=false→FF xs n=false):=fun h=>OE (by rw[HL.out];exact hlt) h
   by_cases hk0:k=0
   ·subst hk0;rw[Gu] at hx;have HR:Hid (EQ xs n 0=(decide (0≤xs.getD 0 0) && decide (xs.getD 0 0<n))):=by unfold Hid EQ;simp
    generalize xs.getD 0 0=x at*
    by_cases h1:x<0
    ·have HV:=Ai (HF.out (by rw[HR.out,BR Aa];rfl))
     clear HF HR HS;go_wp2;go_ret;exact⟨by rw[HV.out];rfl,(by first|exact Ba E9 _|exact Ba (Ba E9 _) _)⟩
    ·by_cases h2:n≤x
     ·have HV:=Ai (HF.out (by rw[HR.out,BR (show¬x<n by omega)];simp))
      clear HF HR HS;go_wp2;go_ret;exact⟨by rw[HV.out];rfl,(by first|exact Ba E9 _|exact Ba (Ba E9 _) _)⟩
     ·have HV:Hid (Fq xs n (0+1)=true):=by unfold Hid;rw[HS.out,HA.out,HR.out,BC (show 0≤x by omega),BC (show x<n by omega)];rfl
      clear HF HR HS;go_wp2
      go_roundw
      case rel=>exact⟨0+1,_,by omega,by go_num,HV.out,rfl⟩
      case measure=>simp[intOf];omega
   ·obtain⟨_,⟨⟩,hz⟩:=hr.int (show k-1<q by omega)
    have HR:Hid (EQ xs n k=(decide (0≤xs.getD k 0) && (decide (xs.getD k 0<n) && decide (xs.getD (k-1) 0<xs.getD k 0)))):=by unfold Hid EQ;simp[hk0]
    generalize xs.getD k 0=x at*;generalize xs.getD (k-1) 0=z at*;have i0:(0:Int)<(k:Int):=Aa;have g5:decide (0<k)=true:=BC Aa;have i3:((k:Int)-1).toNat=k-1:=Aa;have i4:=Bg ((k:Int)-1)
    by_cases h1:x<0
    ·have HV:=Ai (HF.out (by rw[HR.out,BR Aa];rfl))
     clear HF HR HS;go_wp2;go_ret;exact⟨by rw[HV.out];rfl,(by first|exact Ba E9 _|exact Ba (Ba E9 _) _)⟩
    ·by_cases h2:n≤x
     ·have HV:=Ai (HF.out (by rw[HR.out,BR (show¬x<n by omega)];simp))
      clear HF HR HS;go_wp2;go_ret;exact⟨by rw[HV.out];rfl,(by first|exact Ba E9 _|exact Ba (Ba E9 _) _)⟩
     ·by_cases h3:x≤z
      ·have HV:=Ai (HF.out (by rw[HR.out,BR (show¬z<x by omega)];simp))
       clear HF HR HS;go_wp2;go_ret;exact⟨by rw[HV.out];rfl,(by first|exact Ba E9 _|exact Ba (Ba E9 _) _)⟩
      ·have HV:Hid (Fq xs n (k+1)=true):=by unfold Hid;rw[HS.out,HA.out,HR.out,BC (show 0≤x by omega),BC (show x<n by omega),BC (show z<x by omega)];rfl
       clear HF HR HS;go_wp2
       go_roundw
       case rel=>exact⟨k+1,_,by omega,by go_num,HV.out,rfl⟩
       case measure=>simp[intOf];omega
  ·obtain rfl:k=q:=Aa;have HE:Hid (FF xs n=true):=by unfold Hid FF;rw[HL.out];exact HA.out
   go_wp2;go_ret;exact⟨by rw[HE.out];rfl,(by first|exact Ba E9 _|exact Ba (Ba E9 _) _)⟩
theorem Fy (A:Option Addr) (q c:Nat) (xs:List Int) (n:Int) (w:World) (hq:q≤2097152) (hr:Rd w A q (ints xs)):
  (BT 114 (Gb A q c n) w (.bool (FF xs n)):Prop):=by
 have HL:=Ai hr.len
 go_enter func114,ntmps114
 go_wp2
 go_loopw [5] (fun i wr=> ∃k u:Nat,k≤q∧i=.int .i64 k∧Fq xs n k=true∧wr=w.drewN u) (fun i _=>q-(intOf i).toNat)
 case atStart=>exact⟨0,0,AZ _,rfl,rfl,rfl⟩
 case round=>
  obtain⟨k,u,hk,rfl,hall,rfl⟩:=hrel;have HA:=Ai hall;clear hall
  by_cases hlt:k<q
  ·have hltI:(k:Int)<(q:Int):=Aa;obtain⟨ad,rfl,hx⟩:=hr.int hlt;have HS:=Ai (OF xs n k);have HF:Hid (EQ xs n k=false→FF xs n=false):=fun h=>OE (by rw[HL.out];exact hlt) h
   by_cases hk0:k=0
   ·subst hk0;rw[Gu] at hx;have HR:Hid (EQ xs n 0=(decide (0≤xs.getD 0 0) && decide (xs.getD 0 0<n))):=by unfold Hid EQ;simp
    generalize xs.getD 0 0=x at*
    by_cases h1:x<0
    ·have HV:=Ai (HF.out (by rw[HR.out,BR Aa];rfl))
     clear HF HR HS
     go_wp2_with fail
     go_quiet (fail)
     go_wp2;go_ret;exact⟨by rw[HV.out];rfl,(by first|exact Ba E9 _|exact Ba (Ba E9 _) _)⟩
    ·have g1:decide (x<0)=false:=by simpa using h1
     by_cases h2:n≤x
     ·have HV:=Ai (HF.out (by rw[HR.out,BR (show¬x<n by omega)];simp))
      clear HF HR HS
      go_wp2_with fail
      go_quiet (fail)
      go_wp2;go_ret;exact⟨by rw[HV.out];rfl,(by first|exact Ba E9 _|exact Ba (Ba E9 _) _)⟩
     ·have g2:decide (n≤x)=false:=by simpa using h2
      have HV:Hid (Fq xs n (0+1)=true):=by unfold Hid;rw[HS.out,HA.out,HR.out,BC (show 0≤x by omega),BC (show x<n by omega)];rfl
      clear HF HR HS
      go_wp2_with fail
      go_quiet (fail)
      go_wp2
      go_roundw
      case rel=>exact⟨0+1,_,by omega,by go_num,HV.out,rfl⟩
      case measure=>simp[intOf];omega
   ·obtain⟨_,⟨⟩,hz⟩:=hr.int (show k-1<q by omega)
    have HR:Hid (EQ xs n k=(decide (0≤xs.getD k 0) && (decide (xs.getD k 0<n) && decide (xs.getD (k-1) 0<xs.getD k 0)))):=by unfold Hid EQ;simp[hk0]
    generalize xs.getD k 0=x at*;generalize xs.getD (k-1) 0=z at*;have i0:(0:Int)<(k:Int):=Aa;have g5:decide (0<k)=true:=BC Aa;have i3:((k:Int)-1).toNat=k-1:=Aa;have i4:=Bg ((k:Int)-1)
    by_cases h1:x<0
    ·have HV:=Ai (HF.out (by rw[HR.out,BR Aa];rfl))
     clear HF HR HS
     go_wp2_with fail
     go_quiet (fail)
     go_wp2;go_ret;exact⟨by rw[HV.out];rfl,(by first|exact Ba E9 _|exact Ba (Ba E9 _) _)⟩
    ·have g1:decide (x<0)=false:=by simpa using h1
     by_cases h2:n≤x
     ·have HV:=Ai (HF.out (by rw[HR.out,BR (show¬x<n by omega)];simp))
      clear HF HR HS
      go_wp2_with fail
      go_quiet (fail)
      go_wp2;go_ret;exact⟨by rw[HV.out];rfl,(by first|exact Ba E9 _|exact Ba (Ba E9 _) _)⟩
     ·have g2:decide (n≤x)=false:=by simpa using h2
      by_cases h3:x≤z
      ·have HV:=Ai (HF.out (by rw[HR.out,BR (show¬z<x by omega)];simp))
       clear HF HR HS
       go_wp2_with fail
       go_quiet (fail)
       go_wp2;go_ret;exact⟨by rw[HV.out];rfl,(by first|exact Ba E9 _|exact Ba (Ba E9 _) _)⟩
      ·have g4:decide (x≤z)=false:=by simpa using h3
       have HV:Hid (Fq xs n (k+1)=true):=by unfold Hid;rw[HS.out,HA.out,HR.out,BC (show 0≤x by omega),BC (show x<n by omega),BC (show z<x by omega)];rfl
       clear HF HR HS
       go_wp2_with fail
       go_quiet (fail)
       go_wp2
       go_roundw
       case rel=>exact⟨k+1,_,by omega,by go_num,HV.out,rfl⟩
       case measure=>simp[intOf];omega
  ·obtain rfl:k=q:=Aa;have HE:Hid (FF xs n=true):=by unfold Hid FF;rw[HL.out];exact HA.out
   go_wp2;go_ret;exact⟨by rw[HE.out];rfl,(by first|exact Ba E9 _|exact Ba (Ba E9 _) _)⟩

theorem ET {a b:Int} (h:a.tmod b=0):a.tdiv b=a/b:=by
 have hd:b∣a:=Int.dvd_of_tmod_eq_zero h;rw[Int.tdiv_eq_ediv];simp[hd]
theorem EU {a b:Int} (ha:a<0) (hb:0<b) (h:a.tmod b≠0):a.tdiv b-1=a/b:=by
 have hd: ¬b∣a:=fun c=>h (Int.tmod_eq_zero_of_dvd c);rw[Int.tdiv_eq_ediv,Ak (by rintro(c|c);omega;exact hd c),Int.sign_eq_one_of_pos hb]
 omega
theorem Fc {a b:Int} (hb:0<b) (h1: -4611686018427387904≤a) (h2:a≤4611686018427387904): -4611686018427387904≤a/b∧a/b≤4611686018427387904:=by
 have:=Int.ediv_mul_le a (show b≠0 by omega)
 constructor
 ·rcases Int.le_total 0 a with h|h
  ·have:=Int.ediv_nonneg h (by omega:(0:Int)≤b);omega
  ·have:a≤a/b:=by
    have:=Int.le_ediv_of_mul_le (a:=a) (b:=a) hb (by
     have:a*b≤a*1:=Int.mul_le_mul_of_nonpos_left h Aa;omega)
    exact this
   omega
 ·rcases Int.le_total 0 a with h|h
  ·have:=Int.ediv_le_self b h;omega
  ·have:a/b≤0:=by
    have h5:a/b*b≤0:=Aa;rcases Eg 0 (a/b) with h6|h6
    ·have:=Int.mul_pos h6 hb;omega
    ·exact h6
   omega
theorem Ec (a b:Int) (w:World) (h1: -4611686018427387904≤a) (h2:a≤4611686018427387904) (hb:0<b) (hb2:b≤4611686018427387904):
  (GK 241 (Zii a b) w (ZI (a/b)):Prop):=by
 obtain⟨b1,b2⟩:=Fc hb h1 h2
 by_cases ha:0≤a
 ·have e1:decide (a<0)=false:=Bq;have e2:decide (b<0)=false:=Bq;rcases BA (a%b !=0) with h|h
  ·go_enter func241,ntmps241
   go_wp2;go_ret;exact⟨rfl,rfl⟩
  ·go_enter func241,ntmps241
   go_wp2;go_ret;exact⟨rfl,rfl⟩
 ·have hq:=Int.tdiv_eq_ediv (a:=a) (b:=b)
  have hlo: -4611686018427387904≤a.tdiv b∧a.tdiv b≤4611686018427387904:=by
   by_cases hm:a.tmod b=0
   ·rw[ET hm];omega
   ·have:=EU Aa hb hm;have:=Fc hb h1 h2
    have:a.tdiv b≤0:=by
     rcases Eg 0 (a/b) with h6|h6
     ·have h7:=Int.mul_pos h6 hb;have:=Int.ediv_mul_le a (show b≠0 by omega)
      omega
     ·rcases Eg (a/b) 0 with h8|h8
      ·omega
      ·have h9:a/b=0:=Aa;have:=Int.lt_ediv_add_one_mul_self a hb;have h10:=Int.ediv_mul_le a (show b≠0 by omega)
       rw[h9] at h10;omega
    omega
  clear hq;have HD:Hid (a.tmod b=0→a.tdiv b=a/b):=fun h=>ET h;have HD':Hid (a.tmod b≠0→a.tdiv b-1=a/b):=fun h=>EU Aa hb h;obtain⟨c1,c2⟩:=hlo;generalize hq:a.tdiv b=q at*;generalize hm:a.tmod b=m at*;have e1:decide (a<0)=true:=Bq;have e2:decide (b<0)=false:=Bq;rcases BA (m !=0) with h|h
  ·have HE:Hid (q-1=a/b):=HD'.out CB
   go_enter func241,ntmps241
   go_wp2;go_ret;exact⟨Bb HE.out,rfl⟩
  ·have HE:Hid (q=a/b):=HD.out CB
   go_enter func241,ntmps241
   go_wp2;go_ret;exact⟨Bb HE.out,rfl⟩
theorem Ex (a b:Int) (w:World) (h1: -4611686018427387904≤a) (h2:a≤4611686018427387904) (hb:0<b) (hb2:b≤4611686018427387904):
  (GK 196 (Zii a b) w (ZI (-(-a/b))):Prop):=by
 obtain⟨b1,b2⟩:=Fc (a:= -a) hb Aa Aa
 go_enter func196,ntmps196
 go_wp2_with (go_at_call 241;refine(Ec _ _ _ Aa Aa Aa Aa).mono ?_;rintro e w' ⟨rfl,rfl⟩)
 go_ret;exact⟨rfl,rfl⟩
theorem LS (A:Option Addr) (n c:Nat) (w:World) (_:n≤9223372036854775807):
  (GK 74 #[.slice A n c] w (ZI n):Prop):=by
 go_enter func74,ntmps74
 go_wp2;go_ret;exact⟨rfl,rfl⟩
theorem Ee (a b:Int) (w:World) (h1: -4611686018427387904≤a) (h2:a≤4611686018427387904) (hb:0<b) (hb2:b≤4611686018427387904):
  (GK 210 (Zii a b) w (ZI (a/b)):Prop):=by
 obtain⟨b1,b2⟩:=Fc hb h1 h2
 by_cases ha:0≤a
 ·have e1:decide (a<0)=false:=Bq;have e2:decide (b<0)=false:=Bq;rcases BA (a%b !=0) with h|h
  ·go_enter func210,ntmps210
   go_wp2;go_ret;exact⟨rfl,rfl⟩
  ·go_enter func210,ntmps210
   go_wp2;go_ret;exact⟨rfl,rfl⟩
 ·have hq:=Int.tdiv_eq_ediv (a:=a) (b:=b)
  have hlo: -4611686018427387904≤a.tdiv b∧a.tdiv b≤4611686018427387904:=by
   by_cases hm:a.tmod b=0
   ·rw[ET hm];omega
   ·have:=EU Aa hb hm;have:=Fc hb h1 h2
    have:a.tdiv b≤0:=by
     rcases Eg 0 (a/b) with h6|h6
     ·have h7:=Int.mul_pos h6 hb;have:=Int.ediv_mul_le a (show b≠0 by omega)
      omega
     ·rcases Eg (a/b) 0 with h8|h8
      ·omega
      ·have h9:a/b=0:=Aa;have:=Int.lt_ediv_add_one_mul_self a hb;have h10:=Int.ediv_mul_le a (show b≠0 by omega)
       rw[h9] at h10;omega
    omega
  clear hq;have HD:Hid (a.tmod b=0→a.tdiv b=a/b):=fun h=>ET h;have HD':Hid (a.tmod b≠0→a.tdiv b-1=a/b):=fun h=>EU Aa hb h;obtain⟨c1,c2⟩:=hlo;generalize hq:a.tdiv b=q at*;generalize hm:a.tmod b=m at*;have e1:decide (a<0)=true:=Bq;have e2:decide (b<0)=false:=Bq;rcases BA (m !=0) with h|h
  ·have HE:Hid (q-1=a/b):=HD'.out CB
   go_enter func210,ntmps210
   go_wp2;go_ret;exact⟨Bb HE.out,rfl⟩
  ·have HE:Hid (q=a/b):=HD.out CB
   go_enter func210,ntmps210
   go_wp2;go_ret;exact⟨Bb HE.out,rfl⟩
theorem Hv (x:Int):bits .and .i64 x 1=x%2:=by
 show IntKind.i64.wrap ((BitVec.ofInt 64 x &&& BitVec.ofInt 64 1).toNat:Int)=_;have h2:(BitVec.ofInt 64 (1:Int)).toNat=1:=Ah;have h1:(BitVec.ofInt 64 x).toNat=(x%18446744073709551616).toNat:=by rw[BitVec.toNat_ofInt];rfl
 rw[BitVec.toNat_and,h1,h2,Nat.and_one_is_mod,IntKind.wrap_i64];omega
theorem EB (a b:Int) (w:World) (h1: -4611686018427387904≤a) (h2:a≤4611686018427387904) (hb:0<b) (hb2:b≤4611686018427387904):
  (GK 167 (Zii a b) w (ZI (-(-a/b))):Prop):=by
 have u1:=Bg (-a);have qb:=Fc (a:= -a) (b:=b) hb Aa Aa;have u2:=Bg (-(-a/b))
 go_enter func167,ntmps167
 go_wp2_with fail
 refine(Ee (-a) b _ Aa Aa hb hb2).mono ?_;rintro e w' ⟨rfl,rfl⟩;go_wp2;go_ret;exact⟨rfl,rfl⟩
theorem GN (a:Addr) (i j:Nat) (h:j≠0):(⟨(a.add i).block,(a.add i).off+j,none⟩:Addr)=a.add (i+j):=by
 rw[←Bv];generalize a.add i=b;unfold Addr.add;rw[Ak h]
theorem Rd.fourS {w:World} {A:Option Addr} {n k:Nat} {xs:List Int} (h:Rd w A (n*4) (ints xs)) (hk:k<n): ∃ad,A=some ad∧w.cell? (ad.add (k*4))=ZS (xs.getD (k*4) 0)∧w.cell? ⟨(ad.add (k*4)).block,(ad.add (k*4)).off+1,none⟩=ZS (xs.getD (k*4+1) 0)∧w.cell? ⟨(ad.add (k*4)).block,(ad.add (k*4)).off+2,none⟩=ZS (xs.getD (k*4+2) 0)∧w.cell? ⟨(ad.add (k*4)).block,(ad.add (k*4)).off+3,none⟩=ZS (xs.getD (k*4+3) 0):=by
 obtain⟨ad,rfl,h0⟩:=h.int (show k*4+0<n*4 by omega)
 obtain⟨_,⟨⟩,h1⟩:=h.int (show k*4+1<n*4 by omega)
 obtain⟨_,⟨⟩,h2⟩:=h.int (show k*4+2<n*4 by omega)
 obtain⟨_,⟨⟩,h3⟩:=h.int (show k*4+3<n*4 by omega)
 rw[Hb] at h0;rw[←GN _ _ 1 Ah] at h1;rw[←GN _ _ 2 Ah] at h2;rw[←GN _ _ 3 Ah] at h3;exact⟨_,rfl,h0,h1,h2,h3⟩
def Fk (xs:List Int) (k:Nat):Bool:=DP (xs.getD (k*4) 0) (xs.getD (k*4+1) 0) (xs.getD (k*4+2) 0) (xs.getD (k*4+3) 0)
def Dg (xs:List Int) (n:Nat):Bool:=(List.range n).all (Fk xs)
theorem OQ (xs:List Int) (n:Nat):Dg xs (n+1)=(Dg xs n && Fk xs n):=by unfold Dg;rw[I6,List.all_append];simp
theorem My {xs:List Int} {k n:Nat} (h:Fk xs k=false) (hk:k<n):Dg xs n=false:=by
 rw[JV];intro c;rw[List.all_eq_true.1 c k (Eo.2 hk)] at h
 cases h
theorem IC {xs:List Int} {k n:Nat} (h:Dg xs n=true) (hk:k<n):Fk xs k=true:=List.all_eq_true.1 h k (Eo.2 hk)
def BJ (xs:List Int) (n:Nat):Bool:=Dg xs n && decide ((n:Int)≤200)
theorem NE (x y d r:Int) (w:World):
  (BT 289 #[Ziiii x y d r] w (.bool (!(DP x y d r))):Prop):=by
 have b0:Below w w (w.alloc (.cells (Ziiii x y d r) 65)):=BU;rcases BA (DP x y d r) with h|h
 all_goals
  go_enter func289,ntmps289
  go_wp2_with fail
  refine(EM x y d r _).mono ?_;rw[h];rintro e w1 ⟨rfl,b1⟩;have b2:=An b0 b1;go_wp2;go_ret;exact⟨Af (by rw[h];rfl),b2⟩
theorem MP (A:Option Addr) (n c:Nat) (xs:List Int) (w:World) (hn:n≤1048576) (hr:Rd w A (n*4) (ints xs)):
  Calls prog 327 #[.slice A n c,.func (.func 289) #[] #[]] w fun e w'=> ∃v:Int,e=.returned (ZI v)∧(decide (v ≥ 0))= !(Dg xs n)∧Below w w w':=by
 go_enter func327,ntmps327
 go_wp2
 go_loopw [8] (fun i wr=> ∃k:Nat,k≤n∧i=.int .i64 k∧Dg xs k=true∧Below w w wr)
  (fun i _=>n-(intOf i).toNat)
 case atStart=>exact⟨0,AZ _,rfl,rfl,AP _ _⟩
 case round=>
  obtain⟨k,hk,rfl,hall,hbel⟩:=hrel;have HA:=Ai hall;clear hall
  by_cases hlt:k<n
  ·obtain⟨ad,rfl,hx0,hx1,hx2,hx3⟩:=(hr.below hbel).fourS hlt;have HS:Hid (Dg xs (k+1)=(Dg xs k && Fk xs k)):=OQ xs k;have HF:Hid (Fk xs k=false→Dg xs n=false):=fun h=>My h hlt;have HP:Hid (Fk xs k=DP (xs.getD (k*4) 0) (xs.getD (k*4+1) 0) (xs.getD (k*4+2) 0) (xs.getD (k*4+3) 0)):=rfl;have hi0:(0:Int)≤(k:Int):=Aa;have hi1:(k:Int)<(n:Int):=Aa;generalize xs.getD (k*4) 0=x0 at*;generalize xs.getD (k*4+1) 0=x1 at*;generalize xs.getD (k*4+2) 0=x2 at*;generalize xs.getD (k*4+3) 0=x3 at*;rcases BA (DP x0 x1 x2 x3) with h|h
   ·have HH:=Ai h
    go_wp2_with fail
    refine(NE x0 x1 x2 x3 _).mono ?_;rw[HH.out];rintro e w1 ⟨rfl,b1⟩;have b2:=An hbel b1;go_wp2
    go_roundw
    case rel=>exact⟨k+1,by omega,by go_num,by rw[HS.out,HA.out,HP.out,HH.out];rfl,b2⟩
    case measure=>simp[intOf];omega
   ·have HH:=Ai h
    go_wp2_with fail
    refine(NE x0 x1 x2 x3 _).mono ?_;rw[HH.out];rintro e w1 ⟨rfl,b1⟩;have b2:=An hbel b1;go_wp2;go_ret;exact⟨k,rfl,by rw[HF.out (by rw[HP.out,HH.out])];simp,b2⟩
  ·obtain rfl:k=n:=Aa;go_wp2;go_ret;exact⟨-1,rfl,by rw[HA.out];rfl,hbel⟩
theorem De (A:Option Addr) (n c:Nat) (xs:List Int) (w:World) (hn:n≤1048576) (hr:Rd w A (n*4) (ints xs)):
  (BT 231 #[.slice A n c] w (.bool (BJ xs n)):Prop):=by
 have hcont: ∀W,Rd W A (n*4) (ints xs)→(BT 288 #[.slice A n c,.func (.func 289) #[] #[]] W (.bool (!(Dg xs n))):Prop):=by
  intro W hR
  go_enter func288,ntmps288
  go_wp2_with (go_at_call 327;refine(MP _ _ _ xs _ hn hR).mono ?_;rintro e w' ⟨v,rfl,hv,hb⟩)
  go_ret;exact⟨Af (by rw[←hv]),hb⟩
 have HL:Hid (BJ xs n=(Dg xs n && decide ((n:Int)≤200))):=rfl
 by_cases h:(n:Int)≤200
 ·go_enter func231,ntmps231
  go_wp2_with fail
  refine(hcont _ hr).mono ?_;rintro e w1 ⟨rfl,hb⟩;go_wp2;go_ret;exact⟨Af (by rw[HL.out,BC h];simp),hb⟩
 ·go_enter func231,ntmps231
  go_wp2_with fail
  go_ret;exact⟨Af (by rw[HL.out,BR Aa];simp),AP _ _⟩
theorem Dh (A:Option Addr) (n c:Nat) (xs:List Int) (w:World) (hn:n≤1048576) (hr:Rd w A (n*4) (ints xs)):
  (BT 213 #[.slice A n c] w (.bool (BJ xs n)):Prop):=by
 have HL:Hid (BJ xs n=(Dg xs n && decide ((n:Int)≤200))):=rfl
 go_enter func213,ntmps213
 go_wp2_with fail
 go_loopw [3] (fun i wr=> ∃k:Nat,k≤n∧i=.int .i64 k∧Dg xs k=true∧Below w w wr)
  (fun i _=>n-(intOf i).toNat)
 case atStart=>exact⟨0,AZ _,rfl,rfl,AP _ _⟩
 case round=>
  obtain⟨k,hk,rfl,hall,hbel⟩:=hrel;have HA:=Ai hall;clear hall
  by_cases hlt:k<n
  ·obtain⟨ad,rfl,hx0,hx1,hx2,hx3⟩:=(hr.below hbel).fourS hlt;have HS:Hid (Dg xs (k+1)=(Dg xs k && Fk xs k)):=OQ xs k;have HF:Hid (Fk xs k=false→Dg xs n=false):=fun h=>My h hlt;have HP:Hid (Fk xs k=DP (xs.getD (k*4) 0) (xs.getD (k*4+1) 0) (xs.getD (k*4+2) 0) (xs.getD (k*4+3) 0)):=rfl;have hi0:(0:Int)≤(k:Int):=Aa;have hi1:(k:Int)<(n:Int):=Aa;generalize xs.getD (k*4) 0=x0 at*;generalize xs.getD (k*4+1) 0=x1 at*;generalize xs.getD (k*4+2) 0=x2 at*;generalize xs.getD (k*4+3) 0=x3 at*;rcases BA (DP x0 x1 x2 x3) with h|h
   ·have HH:=Ai h;clear h
    go_wp2_with fail
    refine(GR x0 x1 x2 x3 _).mono ?_;rw[HH.out];rintro e w1 ⟨rfl,hw1⟩;have b2:Below w w w1:=by rw[hw1];exact hbel.alloc hbel.size _
    clear hw1
    go_wp2_with fail
    go_roundw
    case rel=>exact⟨k+1,by omega,by go_num,by rw[HS.out,HA.out,HP.out,HH.out];rfl,b2⟩
    case measure=>simp[intOf];omega
   ·have HH:=Ai h;clear h
    go_wp2_with fail
    refine(GR x0 x1 x2 x3 _).mono ?_;rw[HH.out];rintro e w1 ⟨rfl,hw1⟩;have b2:Below w w w1:=by rw[hw1];exact hbel.alloc hbel.size _
    clear hw1;go_wp2;go_ret;exact⟨Af (by rw[HL.out,HF.out (by rw[HP.out,HH.out])];rfl),b2⟩
  ·obtain rfl:k=n:=Aa
   by_cases h:(k:Int)≤200
   ·go_wp2;go_ret;exact⟨Af (by rw[HL.out,HA.out,Ha];first|rfl|(simp;omega)),hbel⟩
   ·go_wp2;go_ret;exact⟨Af (by rw[HL.out,HA.out,Ha];first|rfl|(simp;omega)),hbel⟩
def fl (ys:List Int) (R:Int) (i k:Nat):Bool:=
 !decide (k=i) && decide ((ys.getD (i*4) 0-ys.getD (k*4) 0)*(ys.getD (i*4) 0-ys.getD (k*4) 0)+(ys.getD (i*4+1) 0-ys.getD (k*4+1) 0)*(ys.getD (i*4+1) 0-ys.getD (k*4+1) 0)≤R*R)
def nrL (ys:List Int) (R:Int) (i:Nat):Nat→List Nat
 |0=> []
 |k+1=>if fl ys R i k=true then nrL ys R i k++ [k] else nrL ys R i k
def apB (ys:List Int) (M:Int) (i k:Nat):Bool:=decide (ys.getD (k*4+2) 0+ys.getD (k*4+3) 0+M<ys.getD (i*4+2) 0-ys.getD (i*4+3) 0)
def Rl (ys:List Int) (n:Nat) (R L M:Int) (i:Nat):Bool:=decide (L≤((nrL ys R i n).length:Int)) && (nrL ys R i n).all (apB ys M i)
theorem LU (ys:List Int) (R:Int) (i:Nat): ∀n,(nrL ys R i n).length≤n∧ ∀k∈nrL ys R i n,k<n
 |0=>⟨Cp _,fun _ h=>by cases h⟩
 |n+1=>by
  obtain⟨a,b⟩:=LU ys R i n;unfold nrL
  split
  ·refine⟨by simp;omega,fun k hk=> ?_⟩
   rw[List.mem_append] at hk;rcases hk with hk|hk
   ·have:=b k hk;omega
   ·rw[DD] at hk;omega
  ·exact⟨by omega,fun k hk=>by have:=b k hk;omega⟩
def Fw (xs:List Int) (k:Nat):List Int:= [xs.getD (k*4) 0,xs.getD (k*4+1) 0,xs.getD (k*4+2) 0,xs.getD (k*4+3) 0]
def selS (xs:List Int) (ks:List Nat):List Int:=ks.flatMap (Fw xs)
theorem L4 (xs:List Int) (ks:List Nat) (k:Nat):selS xs (ks++ [k])=selS xs ks++Fw xs k:=by unfold selS;simp
def keepTo (ys:List Int) (n:Nat) (R L M:Int) (ks:List Nat):Nat→List Nat
 |0=> []
 |i+1=>if Rl ys n R L M i=true then keepTo ys n R L M ks i else keepTo ys n R L M ks i++ [ks.getD i 0]
def Cy (xs:List Int) (R L M:Int) (ks:List Nat):List Nat:=keepTo (selS xs ks) ks.length R L M ks ks.length
theorem FP (ys:List Int) (n:Nat) (R L M:Int) (ks:List Nat): ∀i,(keepTo ys n R L M ks i).length≤i
 |0=>Cp _
 |i+1=>by
  have:=FP ys n R L M ks i;unfold keepTo
  split
  ·omega
  ·simp;omega
theorem JD {ys:List Int} {n:Nat} {R L M:Int} {ks:List Nat}: ∀ {i:Nat},i≤ks.length→ ∀k∈keepTo ys n R L M ks i,k∈ks
 |0,_,k,h=>by cases h
 |i+1,hi,k,h=>by
  unfold keepTo at h
  split at h
  ·exact JD Aa k h
  ·rw[List.mem_append] at h;rcases h with h|h
   ·exact JD Aa k h
   ·rw[DD] at h;subst h;rw[DE,Db Aa];exact EH _
theorem DW (xs:List Int) (R L M:Int) (ks:List Nat):(Cy xs R L M ks).length≤ks.length:=FP _ _ _ _ _ _ _
theorem Jz {xs:List Int} {R L M:Int} {ks:List Nat}: ∀k∈Cy xs R L M ks,k∈ks:=JD Bk
theorem Oe {ys:List Int} {n:Nat} {R L M:Int} {ks:List Nat}: ∀ {i:Nat},i≤ks.length→(keepTo ys n R L M ks i).length=i→keepTo ys n R L M ks i=ks.take i∧ ∀j,j<i→Rl ys n R L M j=false
 |0,_,_=>⟨by simp[keepTo],fun j h=>by omega⟩
 |i+1,hi,h=>by
  have hl:=FP ys n R L M ks i;unfold keepTo at h⊢
  split at h
  ·omega
  ·next c=>
   rw[Ak c];obtain⟨a,b⟩:=Oe (ys:=ys) (n:=n) (R:=R) (L:=L) (M:=M) (ks:=ks) (i:=i) Aa CB;refine⟨?_,fun j hj=> ?_⟩
   ·rw[a,List.take_succ_eq_append_getElem Aa,DE,Db Aa];rfl
   ·by_cases e:j=i
    ·subst e;simpa using c
    ·exact b j Aa
theorem Mm {ys:List Int} {n:Nat} {R L M:Int} {ks:List Nat}: ∀ {i:Nat},(∀j,j<i→Rl ys n R L M j=false)→(keepTo ys n R L M ks i).length=i
 |0,_=>rfl
 |i+1,h=>by
  unfold keepTo;rw[Ak (by rw[h i Aa];decide),Dy,Mm fun j hj=>h j Aa];rfl
def clF (xs:List Int) (R L M:Int):Nat→List Nat→List Nat
 |0,ks=>ks
 |f+1,ks=>if(Cy xs R L M ks).length=ks.length then ks else clF xs R L M f (Cy xs R L M ks)
theorem SY {xs:List Int} {R L M:Int}: ∀(f g:Nat) (ks:List Nat),ks.length≤f→ks.length≤g→clF xs R L M f ks=clF xs R L M g ks
 |0,0,_,_,_=>rfl
 |0,g+1,ks,h,_=>by
  have:=DW xs R L M ks;show ks=clF xs R L M (g+1) ks;unfold clF;rw[AA Aa]
 |f+1,0,ks,_,h=>by
  have:=DW xs R L M ks;show clF xs R L M (f+1) ks=ks;unfold clF;rw[AA Aa]
 |f+1,g+1,ks,h1,h2=>by
  have:=DW xs R L M ks;unfold clF
  split
  ·rfl
  ·exact SY f g _ Aa Aa
def LE (xs:List Int) (R L M:Int) (ks:List Nat):List Nat:=clF xs R L M ks.length ks
theorem NP {xs:List Int} {R L M:Int} {ks:List Nat} (h:(Cy xs R L M ks).length=ks.length):LE xs R L M ks=ks:=by
 unfold LE
 cases hl:ks.length with
 |zero=>rfl
 |succ f=>unfold clF;rw[AA h]
theorem Zc {xs:List Int} {R L M:Int} {ks:List Nat} (h: ¬(Cy xs R L M ks).length=ks.length):LE xs R L M ks=LE xs R L M (Cy xs R L M ks):=by
 have hle:=DW xs R L M ks;unfold LE
 cases hl:ks.length with
 |zero=>omega
 |succ f=>
  conv=>lhs;unfold clF
  rw[Ak h];exact SY _ _ _ Aa Bk
theorem M8 (xs:List Int) (R L M:Int) (ks:List Nat):(LE xs R L M ks).length≤ks.length:=by
 have: ∀f ks,(clF xs R L M f ks).length≤ks.length:=by
  intro f
  induction f with
  |zero=>intro ks;exact Cp _
  |succ f ih=>
   intro ks;unfold clF
   split
   ·exact Cp _
   ·exact Ch (ih _) (DW xs R L M ks)
 exact this _ ks
def ruB (R L M:Int):Bool:=inR R 0 10000 && (inR L 1 200 && inR M 0 1000000)
def Po (xs:List Int) (n:Nat) (R L M:Int):Int:=if(BJ xs n && ruB R L M)=true then 0 else 1
def fk (xs:List Int) (n:Nat) (R L M:Int):List Nat:=if Po xs n R L M=0 then LE xs R L M (List.range n) else []
def bitW (n:Nat) (x:Int):List Int:=(List.range n).map fun k=>x/((2 ^ (n-1-k):Nat):Int)%2
theorem NG (n:Nat) (x:Int):(bitW n x).length=n:=by unfold bitW;simp
theorem Q4 (n:Nat) (x:Int):BV (bitW n x) 0 1=true:=by
 unfold BV;rw[List.all_eq_true];intro y hy;unfold bitW at hy;rw[List.mem_map] at hy;obtain⟨k,-,rfl⟩:=hy;exact CN Aa Aa
def casP (a:Int):List Int→Int
 | []=>1
 |b::r=>(if b=1 then a else 16-a)*casP a r
theorem SQ (a:Int) (b:Int): ∀l,casP a (l++ [b])=casP a l*(if b=1 then a else 16-a)
 | []=>by simp[casP]
 |c::r=>by rw[List.cons_append,casP,casP,SQ a b r,Ga]
theorem Z7 (k:Nat):(16:Int) ^ (k+1)=16*16 ^ k:=by rw[Int.pow_succ,Int.mul_comm]
theorem M7 {a:Int} (h0:0≤a) (h1:a≤16): ∀l,0≤casP a l∧casP a l≤16 ^ l.length
 | []=>by simp[casP]
 |b::r=>by
  have ih:=M7 h0 h1 r;rw[casP,Gt,Z7];have hb:0≤(if b=1 then a else 16-a)∧(if b=1 then a else 16-a)≤16:=by split<;>omega
  exact⟨Du hb.1 ih.1,Int.le_trans (ME hb.2 ih.1) (Gq ih.2 Ah)⟩
theorem Er {i j:Nat} (h:i≤j):(16:Int) ^ i≤16 ^ j:=by
 induction h with
 |refl=>exact Int.le_refl _
 |step _ ih=>
  rw[Z7];have:(0:Int)≤16 ^ i:=Int.pow_nonneg Ah;omega
theorem Ls {l:List Int} (h:BV l 0 1=true):0≤l.sum∧l.sum≤l.length:=by
 induction l with
 |nil=>simp
 |cons b r ih=>
  have h1:=Jw h (C5 ..);have h2:BV r 0 1=true:=by unfold BV at h⊢;rw[List.all_cons,CD] at h;exact h.2
  have:=ih h2;rw[List.sum_cons,Gt];omega
def tlS (n:Nat) (a:Int):Nat→List Int
 |0=>List.replicate (n+2) 0
 |x+1=>(tlS n a x).set (bitW n x).sum.toNat ((tlS n a x).getD (bitW n x).sum.toNat 0+casP a (bitW n x))
theorem Ht (n:Nat) (a:Int): ∀x,(tlS n a x).length=n+2
 |0=>by simp[tlS]
 |x+1=>by rw[tlS,List.length_set,Ht n a x]
theorem dx {l:List Int}: ∀ {j:Nat} (_:j<l.length) (v:Int),(l.set j v).sum=l.sum-l.getD j 0+v:=by
 induction l with
 |nil=>intro j h;simp at h
 |cons b r ih=>
  intro j h v
  cases j with
  |zero=>simp;omega
  |succ j=>
   rw[List.set_cons_succ,List.sum_cons,List.sum_cons,ih CB v]
   simp
   omega
theorem Wn (n:Nat) (x:Int):(bitW n x).sum.toNat<n+2∧0≤(bitW n x).sum∧(bitW n x).sum≤n:=by
 have:=Ls (Q4 n x);rw[NG] at this;omega
theorem Wo {n:Nat} {a:Int} (h0:0≤a) (h1:a≤16): ∀x,(∀v∈tlS n a x,0≤v)∧0≤(tlS n a x).sum∧(tlS n a x).sum≤x*16 ^ n
 |0=>by
  refine⟨fun v hv=> ?_,?_,?_⟩
  ·unfold tlS at hv;have:=List.eq_of_mem_replicate hv;omega
  ·rw[show tlS n a 0=List.replicate (n+2) 0 from rfl];simp
  ·rw[show tlS n a 0=List.replicate (n+2) 0 from rfl];simp
 |x+1=>by
  obtain⟨p,q,r⟩:=Wo h0 h1 x;have hc:=M7 h0 h1 (bitW n x);rw[NG] at hc;have hj:=(Wn n x).1;have hl:=Ht n a x;have hg:0≤(tlS n a x).getD (bitW n x).sum.toNat 0:=p _ (by rw[DE,Db Aa];exact EH _)
  have hs:=dx (l:=tlS n a x) (j:=(bitW n x).sum.toNat) Aa ((tlS n a x).getD (bitW n x).sum.toNat 0+casP a (bitW n x));refine⟨fun v hv=> ?_,?_,?_⟩
  ·unfold tlS at hv;rcases List.mem_or_eq_of_mem_set hv with k|k
   ·exact p v k
   ·omega
  ·unfold tlS;omega
  ·unfold tlS;rw[hs,show(((x+1:Nat):Int))*16 ^ n=x*16 ^ n+16 ^ n from by rw[Int.natCast_add,Int.add_mul];simp]
   omega
theorem VI {l:List Int} (h: ∀v∈l,0≤v): ∀v∈l,v≤l.sum:=by
 induction l with
 |nil=>intro v hv;cases hv
 |cons b r ih=>
  intro v hv;have hr:=ih (fun v hv=>h v (Hz _ hv))
  have hs:0≤r.sum:=by
   rcases r with _|⟨c,t⟩
   ·simp
   ·have:=hr c (C5 ..);have:=h c Cr;omega
  rw[List.sum_cons];rcases CC.1 hv with rfl|hv
  ·omega
  ·have:=hr v hv;have:=h b (C5 ..);omega
theorem Ta {l:List Int} (h: ∀v∈l,0≤v) (i:Nat):0≤(l.drop i).sum∧(l.drop i).sum≤l.sum:=by
 have: ∀ {l:List Int},(∀v∈l,0≤v)→0≤l.sum:=by
  intro l
  induction l with
  |nil=>intro _;simp
  |cons b r ih=>intro h;rw[List.sum_cons];have:=ih (fun v hv=>h v (Hz _ hv));have:=h b (C5 ..);omega
 have e:l.sum=(l.take i).sum+(l.drop i).sum:=by rw[←List.sum_append,List.take_append_drop]
 have h1:=this (l:=l.take i) fun v hv=>h v (List.mem_of_mem_take hv);have h2:=this (l:=l.drop i) fun v hv=>h v (List.mem_of_mem_drop hv);omega
def tlD (L:List Int) (m:Nat):List Int:=L.take m++(List.range (L.length-m)).map fun i=>(L.drop (m+i)).sum
theorem Nq {L:List Int} {m:Nat} (h:m≤L.length):(tlD L m).length=L.length:=by unfold tlD;simp;omega
theorem Pe {L:List Int} {m i:Nat} (h:i<m) (hm:m≤L.length):(tlD L m).getD i 0=L.getD i 0:=by
 unfold tlD;rw[DE,List.getElem?_append_left Bq,List.getElem?_take_of_lt h,←DE]
theorem JO {L:List Int} {m i:Nat} (h:m≤i) (hm:i<L.length):(tlD L m).getD i 0=(L.drop i).sum:=by
 unfold tlD;rw[DE,List.getElem?_append_right Bq,List.getElem?_map,Ju,List.getElem?_range Aa];simp only[Option.map_some,Option.getD_some]
 congr 2
 omega
theorem Tn {l r:List Int} (hl:l.length=r.length) (h: ∀i,i<l.length→l.getD i 0=r.getD i 0):l=r:=by
 apply List.ext_getElem hl
 intro i h1 h2;have:=h i h1;rw[CJ h1,CJ h2] at this;exact this
theorem dy {L:List Int} {m:Nat} (h:m+1<L.length):(tlD L (m+1)).set m ((tlD L (m+1)).getD m 0+(tlD L (m+1)).getD (m+1) 0)=tlD L m:=by
 have e:(tlD L (m+1)).getD m 0+(tlD L (m+1)).getD (m+1) 0=(L.drop m).sum:=by
  rw[Pe Aa Aa,JO Bk h,List.drop_eq_getElem_cons (show m<L.length by omega),List.sum_cons,CJ Aa]
 rw[e];have hl1:=Nq (L:=L) (m:=m+1) Aa;have hl2:=Nq (L:=L) (m:=m) Aa;refine Tn (by rw[List.length_set,hl1,hl2]) fun i hi=> ?_
 rw[List.length_set,hl1] at hi;rw[DE,List.getElem?_set]
 split
 ·next c=>
  subst c;rw[AA Aa,Option.getD_some,JO Bk hi]
 ·next c=>
  rw[←DE];rcases Nat.lt_or_ge i m with k|k
  ·rw[Pe Aa Aa,Pe k Aa]
  ·rw[JO Aa hi,JO k hi]
theorem Yz {L:List Int} (n:Nat) (h:L.length=n+1):tlD L n=L:=by
 refine Tn (Nq Aa) fun i hi=> ?_;rw[Nq Aa] at hi;rcases Nat.lt_or_ge i n with k|k
 ·rw[Pe k Aa]
 ·have:i=n:=Aa;subst this;rw[JO Bk hi,List.drop_eq_getElem_cons hi,List.sum_cons,CJ hi,List.drop_eq_nil_of_le Aa]
  simp
def fR (n:Nat) (a:Int) (m:Nat):Int:=((tlS n a (2 ^ n)).drop m).sum
def exN (a:Int):Nat→Int→Int
 |0,k=>if k=0 then 1 else 0
 |n+1,k=>if k<0∨(n:Int)+1<k then 0 else a*exN a n (k-1)+(16-a)*exN a n k
theorem LH {a:Int} (h0:0≤a) (h1:a≤16): ∀(n:Nat) (k:Int),0≤exN a n k∧exN a n k≤16 ^ n
 |0,k=>by unfold exN;split<;>simp
 |n+1,k=>by
  unfold exN;have p:=LH h0 h1 n (k-1);have q:=LH h0 h1 n k;have hp:(0:Int)≤16 ^ n:=Int.pow_nonneg Ah;rw[Z7]
  split
  ·omega
  ·have a1:=Du h0 p.1;have a2:=Du (show 0≤16-a by omega) q.1
   have a3:=Gq p.2 h0;have a4:=Gq q.2 (show 0≤16-a by omega)
   rw[Int.sub_mul 16 a (16 ^ n)] at a4;omega
theorem Fv {a:Int} {n:Nat} {k:Int} (h:k<0∨(n:Int)<k):exN a n k=0:=by
 cases n with
 |zero=>unfold exN;rw[Ak Aa]
 |succ n=>unfold exN;rw[AA Aa]
def exS (a:Int) (n:Nat) (m:Int) (k:Nat):Int:=((List.range k).map fun i:Nat=>exN a n (m+(i:Int))).sum
theorem Te (a:Int) (n:Nat) (m:Int) (k:Nat):exS a n m (k+1)=exS a n m k+exN a n (m+(k:Int)):=by unfold exS;rw[I6,List.map_append,List.sum_append];simp
theorem Vj {a:Int} (h0:0≤a) (h1:a≤16) (n:Nat) (m:Int): ∀k,0≤exS a n m k∧exS a n m k≤k*16 ^ n
 |0=>by unfold exS;simp
 |k+1=>by
  have:=Vj h0 h1 n m k;have:=LH h0 h1 n (m+(k:Int));rw[Te,show(((k+1:Nat):Int))*16 ^ n=k*16 ^ n+16 ^ n from by rw[Int.natCast_add,Int.add_mul];simp]
  omega
end Go.Proofs.YtkndcebhjcfphaaGreatDoor
