import Derived.Test.YtkndcebhjcfphaaGreatDoorZJ
import Derived.Test.YtkndcebhjcfphaaGreatDoorZU
import Derived.Deep.RegionHeldLaw
namespace Go.Proofs.YtkndcebhjcfphaaGreatDoor
open Go.RowKit Go.Proofs.Tryz
set_option maxRecDepth 100000
set_option maxHeartbeats 4000000
set_option linter.all false
section
open Go.RowKit Go.Shelf
theorem XN (base n:Nat) (v:Value) (xs:List Bs) (sep:Bs) (w:World) (h:w.ownsRow base 9 1 v n (strs xs)) (hl:xs.length=n) (h1:1≤n) (hn:n≤1048576) (hlen:(Lib.join xs sep).length≤140737488355328):
  (BT 197 #[v,.string ⟨sep.toArray⟩] w (.string ⟨(Lib.join xs sep).toArray⟩):Prop):=by
 obtain⟨B,c,rfl,hr,-,hc,-⟩:=Gy h
 have hg: ∃g,B=some ⟨g,0,none⟩:=by
  rcases h.2 with⟨e,_⟩|⟨g,cap,cur,e,_⟩
  ·simp only[Value.slice.injEq] at e;omega
  ·simp only[Value.slice.injEq] at e;exact⟨g,e.1⟩
 obtain⟨g,rfl⟩:=hg;have hgl:g<w:=hr.lt rfl Aa;subst hl
 have hm:(xs.map fun l=>(⟨l.toArray⟩:ByteArray)).map (·.data.toList)=xs:=by
  rw[List.map_map]
  conv=>rhs;rw[←List.map_id xs]
  exact List.map_congr_left fun x _=>rfl
 have h:=Lq g 0 c (xs.map fun l=>(⟨l.toArray⟩:ByteArray)) ⟨sep.toArray⟩ w (fun j x hx=>by
   rw[List.getElem?_map,Option.map_eq_some_iff] at hx;obtain⟨y,hy,rfl⟩:=hx;have hj:j<xs.length:=(List.getElem?_eq_some_iff.1 hy).1;obtain⟨ad,ea,hx⟩:=hr.str hj
   cases ea
   rw[CE] at hx;rw[Nat.zero_add,hx,DE,hy]
   rfl) hgl (by rw[List.length_map];omega) (by rw[List.length_map];exact hc) (by rw[hm];exact hlen)
 rw[hm,List.length_map] at h;exact h
theorem Mc {ops:Array Oper} {o:Oper} {a:Act} {K:Act→World→Prop} {Q:Exit→Act→World→Prop} {E:Prop} {w:World} (hgd:o.guard=none) (sl x:Operand)
  (ho:o.op=.call {callee:=.builtin .append,args:= #[sl,x],argTypes:= #[40,9]})
  (base:Nat) (v:Value) (n:Nat) (l s:Bs) (hs:a.eval sl=v) (hown:w.ownsRow base 5 1 v n (WB l)) (hv:v≠ .slice none 0 0) (hx:a.eval x=.string ⟨s.toArray⟩)
  (hn:n+s.length≤1099511627776) (hbase:base≤w)
  (h: ∀v' w',w'.ownsRow base 5 1 v' (n+s.length) (WB (l++s))→v'≠ .slice none 0 0→Below base w w'→K (a.put o.dst v') w'):
  if Region.wanted o (yielded ops a.tmps)=true then Oper.wp prog o a w K Q else E:=by
 obtain⟨i,h1,h2,h3,h4⟩:=Xj;have hz:=Bj s;have hw:Region.wanted o (yielded ops a.tmps)=true:=by simp[Region.wanted,hgd]
 rw[AA hw];obtain⟨v',w',hr,hown',hg,hne⟩:=Lib.run_append_own_string (P:=prog) w base 40 9 o.type 5 i underlying40 underlying9 h1 h2 h3 h4 v n (WB l) hown ⟨s.toArray⟩ G9 Aa hbase;unfold Oper.wp execOp;simp only[ho,resolve,invoke,builtin,Sem.run_bind,Sem.run_pure,Result.andThen_ok,List.map_toArray,List.map_cons,List.map_nil,hs,hx,hr];rw[hz] at hown';rw[WD,←WC] at hown';exact h v' w' hown' (fun c=>hv (hne.1 c).1) ((AP _ _).grown hg hbase (fun k hk=>(hown.lt k hk).1))
theorem Z0 {w:World} {base n m:Nat} {e:TypeId} {v:Value} {us:List Value} (h:w.ownsRow base e 1 v n us) (hn:n=m):w.ownsRow base e 1 v m us:=hn▸h
theorem Oy (w:World) (x y z v:Int) (e:TypeId) (g:Nat) (hg:w.heap.size=g):Rd (w.alloc (.cells (Ziiii x y z v) e)) (some ⟨g,0,none⟩) 4 (ints [x,y,z,v]):=by
 subst hg
 exact(Br w e (Ziiii x y z v)).rd rfl (fun i hi=>by
  match i,hi with
  |0,_=>rfl
  |1,_=>rfl
  |2,_=>rfl
  |3,_=>rfl)
theorem Fd {xs:List Int} {n k:Nat} (h:BJ xs n=true) (hk:k<n):(0≤xs.getD (k*4) 0∧xs.getD (k*4) 0≤10000)∧(0≤xs.getD (k*4+1) 0∧xs.getD (k*4+1) 0≤10000)∧(-2000≤xs.getD (k*4+2) 0∧xs.getD (k*4+2) 0≤1000000)∧0≤xs.getD (k*4+3) 0∧xs.getD (k*4+3) 0≤5000:=by
 unfold BJ at h;rw[CD] at h;have:=IC h.1 hk;unfold Fk DP at this;simp only[CD] at this;obtain⟨⟨⟨a,b⟩,c⟩,d⟩:=this;exact⟨Ac a,Ac b,Ac c,Ac d⟩
theorem Oc {a b c d:Int} (h0:0≤a) (h1:0≤b) (h2: -9223372036854775808≤c) (h3:0≤d) (g0:a≤1000000) (g1:b≤1000000) (g2:c≤1000000) (g3:d≤1000000):(joinI [32] [a,b,c,d]).length≤1000:=by
 have la:=Bm a Aa Aa;have lb:=Bm b Aa Aa;have lc:=Bm c Aa Aa;have ld:=Bm d Aa Aa
 simp[joinI,Lib.join_cons,Lib.joinTail]
 omega
end
section
open Go.RowKit Go.Shelf
theorem LP (A:Option Addr) (c:Nat) (xs:List Int) (w:World) (hr:Rd w A (1*4) (ints xs)) (hv:BJ xs 1=true) (T:CK w):
  (BT 187 #[.slice A 1 c] w (.string ⟨(joinI [32] xs).toArray⟩):Prop):=by
 have HA:=De A 1 c xs w Ah hr;rw[hv] at HA;have hb:=Fd hv (k:=0) Ah
 obtain⟨x0,x1,x2,x3,rfl⟩: ∃a b c d,xs= [a,b,c,d]:=by
  have hl:=hr.len
  match xs,hl with
  | [a,b,c,d],_=>exact⟨a,b,c,d,rfl⟩
 simp only[Nat.zero_mul,Nat.zero_add,List.getD_cons_zero,List.getD_cons_succ] at hb
 have HJ:=fun(W:World) (g:Nat) (R:Rd W (some ⟨g,0,none⟩) 4 (ints [x0,x1,x2,x3])) (T:CK W)=>FN (some ⟨g,0,none⟩) 4 4 [x0,x1,x2,x3] [32] W Ah Ah R (fun x hx=>by
  simp only[CC,I5,or_false] at hx;obtain rfl|rfl|rfl|rfl:=hx<;>omega) T
 have hJl:=Oc hb.1.1 hb.2.1.1 (show-9223372036854775808≤x2 by omega) hb.2.2.2.1 (show x0≤1000000 by omega) (show x1≤1000000 by omega) hb.2.2.1.2 (show x3≤1000000 by omega)
 generalize joinI [32] [x0,x1,x2,x3]=J at*;clear hv hb
 go_enter func187,ntmps187
 go_wp2_with fail
 refine HA.mono ?_;rintro e w1 ⟨rfl,b1⟩;clear HA;replace hr:=hr.below b1;replace T:=T.below b1
 go_wp2_with fail
 go_loopw [3,11] (fun v i wr=> ∃k:Nat,k≤1∧i=.int .i64 k∧wr.ownsRow w1.heap.size 9 1 v k (strs ([J].take k))∧Below w1 w1 wr) (fun _ i _=>1-(intOf i).toNat)
 case atStart=>exact⟨0,AZ _,rfl,⟨rfl,.inl ⟨rfl,rfl⟩⟩,AP _ _⟩
 case round=>
  obtain⟨k,hk,rfl,hown,b⟩:=hrel
  by_cases hlt:k<1
  ·obtain rfl:k=0:=Aa;obtain⟨ad,hA,h0,h1,h2,h3⟩:=(hr.below b).fourS (k:=0) Ah;subst hA;rw[Nat.zero_mul,Gu] at h0 h1 h2 h3;simp only[Nat.zero_add,List.getD_cons_zero,List.getD_cons_succ] at h0 h1 h2 h3;have hzb:=b.size;have KS:=Br wr 65 (Ziiii x0 x1 x2 x3);have hown1:(wr.alloc (.cells (Ziiii x0 x1 x2 x3) 65)).ownsRow w1.heap.size 9 1 _ 0 (strs ([J].take 0)):=Ef hown BU;have b2:Below w1 w1 (wr.alloc (.cells (Ziiii x0 x1 x2 x3) 65)):=Ax
   go_upto_region 7 with fail
   generalize wr.alloc _=w2 at KS hown1 b2⊢;generalize wr.heap.size=q8 at KS⊢;have e8:=KS.cell;have hz2:=b2.size;have b3:Below w1 w1 (w2.alloc (.cells (Ziiii x0 x1 x2 x3) 2)):=Ax;have HJ4:=HJ _ _ (Oy w2 x0 x1 x2 x3 2 _ rfl) ((T.below b2).below BU);have hown2:=Ef hown1 (w':=w2.alloc (.cells (Ziiii x0 x1 x2 x3) 2)) BU
   go_wp2_with fail
   refine HJ4.mono ?_;rintro e w3 ⟨rfl,b4⟩;have hown3:=Ef hown2 b4;have b5:=An b3 b4;have hz5:=b5.size
   go_wp2_with (at_builtin;refine Eu rfl _ _ rfl w1.heap.size _ 0 _ J rfl rfl hown3 rfl Ah hz5 ?_;intro v' w' hown' hbel')
   go_roundw
   case rel=>exact⟨1,by omega,by go_num,hown',b5.trans hbel'⟩
   case measure=>simp[intOf]
  ·obtain rfl:k=1:=Aa
   go_wp2_with fail
   refine(XN w1.heap.size 1 _ [J] [59] _ hown rfl Ah Ah (by simp[Lib.join_one];omega)).mono ?_
   rintro e w2 ⟨rfl,b2⟩;go_wp2;go_ret;exact⟨by simp[Lib.join_one],b1.trans ((An b b2).mono b1.size)⟩
end
section
open Go.RowKit Go.Shelf
theorem L8 (A:Option Addr) (c:Nat) (xs:List Int) (w:World) (hr:Rd w A (1*4) (ints xs)) (hv:BJ xs 1=true):
  (BT 171 #[.slice A 1 c] w (.string ⟨(joinI [32] xs).toArray⟩):Prop):=by
 have HA:=Dh A 1 c xs w Ah hr;rw[hv] at HA;have hb:=Fd hv (k:=0) Ah
 obtain⟨x0,x1,x2,x3,rfl⟩: ∃a b c d,xs= [a,b,c,d]:=by
  have hl:=hr.len
  match xs,hl with
  | [a,b,c,d],_=>exact⟨a,b,c,d,rfl⟩
 simp only[Nat.zero_mul,Nat.zero_add,List.getD_cons_zero,List.getD_cons_succ] at hb
 have HJ:=fun(W:World) (g:Nat) (R:Rd W (some ⟨g,0,none⟩) 4 (ints [x0,x1,x2,x3]))=>EC (some ⟨g,0,none⟩) 4 4 [x0,x1,x2,x3] [32] W Ah Ah R (fun x hx=>by
  simp only[CC,I5,or_false] at hx;obtain rfl|rfl|rfl|rfl:=hx<;>omega)
 have hJl:=Oc hb.1.1 hb.2.1.1 (show-9223372036854775808≤x2 by omega) hb.2.2.2.1 (show x0≤1000000 by omega) (show x1≤1000000 by omega) hb.2.2.1.2 (show x3≤1000000 by omega)
 generalize joinI [32] [x0,x1,x2,x3]=J at*;clear hv hb
 go_enter func171,ntmps171
 go_wp2_with fail
 refine HA.mono ?_;rintro e w1 ⟨rfl,b1⟩;clear HA;replace hr:=hr.below b1
 go_wp2_with fail
 go_loopw [3,4] (fun v i wr=> ∃k:Nat,k≤1∧i=.int .i64 k∧wr.ownsRow w1.heap.size 5 1 v (if k=0 then [] else J).length (WB (if k=0 then [] else J))∧v≠ .slice none 0 0∧Below w1 w1 wr) (fun _ i _=>1-(intOf i).toNat)
 case atStart=>exact⟨0,AZ _,rfl,FI w1 _,(fun h=>by cases h),(AP _ _).alloc Bk _⟩
 case round=>
  obtain⟨k,hk,rfl,hown,hne,b⟩:=hrel
  by_cases hlt:k<1
  ·obtain rfl:k=0:=Aa;rw[AA rfl] at hown;obtain⟨ad,hA,h0,h1,h2,h3⟩:=(hr.below b).fourS (k:=0) Ah;subst hA;rw[Nat.zero_mul,Gu] at h0 h1 h2 h3;simp only[Nat.zero_add,List.getD_cons_zero,List.getD_cons_succ] at h0 h1 h2 h3;have hadl:=(hr.below b).lt rfl Ah;have hzb:=b.size
   go_upto_region 9 with fail
   have r0:ad.block<w1.heap.size:=hr.lt rfl Ah;have q1:(⟨ad.block,ad.off+1,none⟩:Addr).block<wr.heap.size:=hadl;have q2:(⟨ad.block,ad.off+2,none⟩:Addr).block<wr.heap.size:=hadl;have q3:(⟨ad.block,ad.off+3,none⟩:Addr).block<wr.heap.size:=hadl;have bd:Below wr wr (wr.drew.alloc (.cells (Ziiii x0 x1 x2 x3) 2)):=Ax;have p0:=(bd.cell hadl).trans h0;have p1:=(bd.cell q1).trans h1;have p2:=(bd.cell q2).trans h2;have p3:=(bd.cell q3).trans h3;have bd2:Below wr wr (wr.alloc (.cells (Ziiii x0 x1 x2 x3) 2)).drew:=Ax;have HJd:=HJ (wr.drew.alloc (.cells (Ziiii x0 x1 x2 x3) 2)) _ (Oy wr.drew x0 x1 x2 x3 _ _ rfl);have HJe:=HJ (wr.alloc (.cells (Ziiii x0 x1 x2 x3) 2)).drew _ ((Oy wr x0 x1 x2 x3 _ _ rfl).below GJ)
   go_region_held_law (fun w'=>w'.cell? ad=ZS x0∧w'.cell? ⟨ad.block,ad.off+1,none⟩=ZS x1∧w'.cell? ⟨ad.block,ad.off+2,none⟩=ZS x2∧w'.cell? ⟨ad.block,ad.off+3,none⟩=ZS x3)
    (first|(exact⟨h0,h1,h2,h3⟩)|(exact⟨p0,p1,p2,p3⟩))
    (first
     |(go_at_call 127;(with_reducible refine HJd.mono ?_);rintro e u1 ⟨rfl,bx⟩;have bx:=An bd bx;have h0:=(bx.cell hadl).trans h0;have h1:=(bx.cell q1).trans h1;have h2:=(bx.cell q2).trans h2;have h3:=(bx.cell q3).trans h3;have hown:=Ef hown bx;have b:=b.trans (bx.mono hzb);have hzb:=b.size;have q0:=CM hadl bx.size;have q1:=CM q1 bx.size;have q2:=CM q2 bx.size;have q3:=CM q3 bx.size)
     |(go_at_call 127;(with_reducible refine HJe.mono ?_);rintro e u1 ⟨rfl,bx⟩;have bx:=An bd2 bx;have h0:=(bx.cell hadl).trans h0;have h1:=(bx.cell q1).trans h1;have h2:=(bx.cell q2).trans h2;have h3:=(bx.cell q3).trans h3;have hown:=Ef hown bx;have b:=b.trans (bx.mono hzb);have hzb:=b.size;have q0:=CM hadl bx.size;have q1:=CM q1 bx.size;have q2:=CM q2 bx.size;have q3:=CM q3 bx.size)
     |(refine Mc rfl _ _ rfl w1.heap.size _ 0 [] J rfl hown hne rfl (by simp only[Nat.zero_add];omega) hzb ?_;intro v' w' hown' hne' hbel';have h0:=(hbel'.cell r0).trans h0;have h1:=(hbel'.cell (p:=⟨ad.block,ad.off+1,none⟩) r0).trans h1;have h2:=(hbel'.cell (p:=⟨ad.block,ad.off+2,none⟩) r0).trans h2;have h3:=(hbel'.cell (p:=⟨ad.block,ad.off+3,none⟩) r0).trans h3))
   all_goals
    go_wp2_with fail
    go_roundw
    case rel=>exact⟨1,by omega,by go_num,by rw[Ak Ah];exact Z0 hown' Cr,hne',b.trans hbel'⟩
    case measure=>simp[intOf]
  ·obtain rfl:k=1:=Aa;rw[Ak Ah] at hown;obtain⟨g,cp,rfl,hcv⟩:=Ui hown hne rfl
   go_wp2_with fail
   go_ret;exact⟨rfl,(An b1 b)⟩
end
end Go.Proofs.YtkndcebhjcfphaaGreatDoor
