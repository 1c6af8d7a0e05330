import Derived.Test.YtkndcebhjcfphaaGreatDoorRows
import Derived.WalkKit
import Derived.WalkSpells
import Derived.WalkLawsBesides
import Derived.BigQuiet
import Derived.Deep.QuietTactic
import Derived.Deep.Draws
import Derived.Lib.Hide
import Derived.Maps.AppendAt
import Derived.Deep.AppendLies
import Derived.OwnWalk
import Derived.ArgAppend
namespace Go.Proofs.YtkndcebhjcfphaaGreatDoor
open Go.RowKit Go.Proofs.Tryz
set_option maxRecDepth 100000
set_option maxHeartbeats 4000000
set_option linter.all false
theorem jt:∀(b:Bool),b=true∨b=false:=@Bool.eq_false_or_eq_true
theorem Ai:∀ {p:Prop},p->Hid p:=@Lib.hid
theorem AS:∀ {P:Program} {fn:Func} {R:Ending->World->Prop} {a:Act} {w:World} {v:Value},(results fn a.tmps).run P w=.ok v w->a.defers= []->R (.returned v) w->bodyPost P fn R .ret a w:=@bodyPost_ret
theorem Ak.{u}:∀ {c:Prop} {h:Decidable c},¬c-> ∀ {α:Sort u} {t e:α},(if c then t else e)=e:=@if_neg
theorem DE.{u_1}:∀ {α:Type u_1} {l:List α} {i:Nat} {a:α},l.getD i a=l[i]?.getD a:=@List.getD_eq_getElem?_getD
theorem CM:∀ {n m k:Nat},n<m->m<=k->n<k:=@Nat.lt_of_lt_of_le
theorem CD:∀(a b:Bool),((a && b)=true)=(a=true∧b=true):=@Bool.and_eq_true
theorem AA.{u}:∀ {c:Prop} {h:Decidable c},c-> ∀ {α:Sort u} {t e:α},(if c then t else e)=t:=@if_pos
theorem JX:∀ {B:Nat} {w w':World},Below B w w'-> ∀ {p:Addr},p.block<B->w'.cell? p=w.cell? p:=@Below.cell
theorem AP:∀(B:Nat) (w:World),Below B w w:=@Below.refl
theorem BP:∀ {p:Prop} [inst:Decidable p],(decide p=true)=p:=@decide_eq_true_eq
theorem BR:∀ {p:Prop} [inst:Decidable p],¬p->decide p=false:=@decide_eq_false
theorem BC:∀ {p:Prop} [inst:Decidable p],p->decide p=true:=@decide_eq_true
theorem AZ:∀(n:Nat),0<=n:=@Nat.zero_le
theorem Ea.{u_1}:∀ {α:Type u_1} [inst:BEq α] [LawfulBEq α] {a b:α},(a==b)=false↔a≠b:=@beq_eq_false_iff_ne
theorem Db.{u_1}:∀ {α:Type u_1} {l:List α} {i:Nat} (h:i<l.length),l[i]? =some l[i]:=@List.getElem?_eq_getElem
theorem AN.{u,v}:∀ {α:Sort u} {β:Sort v} {a₁ a₂:α} (f:α->β),a₁=a₂->f a₁=f a₂:=@congrArg
theorem C5.{u_1}:∀ {α:Type u_1} {a:α} {l:List α},a∈a::l:=@List.mem_cons_self
theorem Cp:∀(n:Nat),n<=n:=@Nat.le_refl
theorem Ch:∀ {n m k:Nat},n<=m->m<=k->n<=k:=@Nat.le_trans
theorem Dy.{u}:∀ {α:Type u} {xs bs:List α},(xs++bs).length=xs.length+bs.length:=@List.length_append
theorem CL:∀ {a b c d:Int},a<=c->b<=d->0<=b->0<=c->a*b<=c*d:=@Int.mul_le_mul
theorem DD.{u_1}:∀ {α:Type u_1} {a b:α},a∈ [b]↔a=b:=@List.mem_singleton
theorem CC.{u_1}:∀ {α:Type u_1} {b:α} {l:List α} {a:α},a∈b::l↔a=b∨a∈l:=@List.mem_cons
theorem ED.{u_1}:∀ {α:Type u_1} {i:Nat} {l:List α},l.length<=i->List.take i l=l:=@List.take_of_length_le
theorem Gq:∀ {a b c:Int},a<=b->0<=c->c*a<=c*b:=@Int.mul_le_mul_of_nonneg_left
theorem Du:∀ {a b:Int},0<=a->0<=b->0<=a*b:=@Int.mul_nonneg
theorem CO:∀ {B:Nat} {a w:World},Below B a w->Below B a w.drew:=@Below.drew
theorem Gr:∀(w:World) (a:Addr) {u:Value},w.cell? a=some u->a.block<w.heap.size:=@World.block_lt_of_cell?
theorem EH.{u_1}:∀ {α:Type u_1} {l:List α} {n:Nat} (h:n<l.length),l[n]∈l:=@List.getElem_mem
theorem Eo:∀ {m n:Nat},m∈List.range n↔m<n:=@List.mem_range
theorem Eg:∀(a b:Int),a<b∨b<=a:=@Int.lt_or_le
theorem Ff:∀(n:Int),-9223372036854775808<=n∧n<=9223372036854775807->IntKind.i64.wrap n=n:=@IntWalk.i64_in
theorem Hz.{u_1}:∀ {α:Type u_1} (y:α) {a:α} {l:List α},a∈l->a∈y::l:=@List.mem_cons_of_mem
theorem Gs.{u}:∀ {α:Type u} (val val_1:α),(some val=some val_1)=(val=val_1):=@Option.some.injEq
theorem ME:∀ {a b c:Int},a<=b->0<=c->a*c<=b*c:=@Int.mul_le_mul_of_nonneg_right
theorem Gt.{u}:∀ {α:Type u} {a:α} {xs:List α},(a::xs).length=xs.length+1:=@List.length_cons
theorem Gu:∀(a:Addr),a.add 0=a:=@Addr.add_zero'
theorem Ie:(false=true)=False:=@Bool.false_eq_true
theorem Ga:∀(a b c:Int),a*b*c=a*(b*c):=@Int.mul_assoc
theorem Pt.{u_1}:∀ {α:Type u_1} {l:List α},l.length=0->l= []:=@List.eq_nil_of_length_eq_zero
theorem I5.{u_1}:∀ {α:Type u_1} {a:α},¬a∈ []:=@List.not_mem_nil
theorem JU:∀(w:World) (row:Option Nat),w.grownBy w row:=@World.grownBy.refl
theorem Ha:∀(b:Bool),(true && b)=b:=@Bool.true_and
theorem I6:∀ {n:Nat},List.range n.succ=List.range n++ [n]:=@List.range_succ
theorem Ju.{u_1}:∀ {α:Type u_1} {i:Nat} {l:List α},(List.take i l).length=min i l.length:=@List.length_take
theorem JV:∀ {b:Bool},b=false↔b≠true:=@Bool.eq_false_iff
theorem Hb:∀(n:Nat),n+0=n:=@Nat.add_zero
theorem JW.{u_1}:∀ {α:Type u_1} {i:Nat} {l:List α},(List.drop i l).length=l.length-i:=@List.length_drop
theorem Ax {P : Prop} (h : P := by (repeat (first | (with_reducible assumption) | (with_reducible exact Below.refl _ _) | (with_reducible refine Below.drew ?_) | (with_reducible refine Below.drewN ?_ _) | (with_reducible refine Below.setCell ?_ ?_ _) | (with_reducible refine Below.alloc ?_ ?_ _) | assumption)); all_goals (first | omega | (simp; done) | (simp; omega))) : P := h
theorem C9 {P : Prop} (h : P := by first | omega | (simp; done) | (simp; omega)) : P := h
theorem Aa {P : Prop} (h : P := by omega) : P := h
theorem Ah {P : Prop} (h : P := by decide) : P := h
theorem Cr {P : Prop} (h : P := by simp) : P := h
theorem We51ceQ {P : Prop} (h : P := by kernel_rfl) : P := h
theorem G9 {P : Prop} (h : P := by unfold maxLen;omega) : P := h
theorem Bq {P : Prop} (h : P := by simp;omega) : P := h
theorem W7 {P : Prop} (h : P := by rw[beq_eq_false_iff_ne];omega) : P := h
theorem CB {P : Prop} (h : P := by simpa using h) : P := h
theorem AI {P : Prop} (h : P := by rfl) : P := h
theorem DL {P : Prop} (h : P := by rw[HV.out];done) : P := h
theorem Aw {P : Prop} (h : P := by simp only;omega) : P := h
theorem QU {P : Prop} (h : P := by (repeat'(with_reducible refine And.intro ?_ ?_))<;>(first|(with_reducible assumption)|((with_reducible refine AC ?_);(with_reducible assumption))|((with_reducible refine AK ?_ ?_ _)<;>first|(with_reducible assumption)|omega|(simp;done)|(simp;omega))|((with_reducible refine AC ?_);(with_reducible refine AK ?_ ?_ _)<;>first|(with_reducible assumption)|omega|(simp;done)|(simp;omega))|((with_reducible refine Bl ?_ ?_)<;>first|omega|((repeat(with_reducible refine Bl ?_ (by omega)));(with_reducible assumption))))) : P := h
theorem aY {P : Prop} (h : P := by (repeat'(with_reducible refine And.intro ?_ ?_))<;>(first|(with_reducible assumption)|((with_reducible refine AC ?_);(with_reducible assumption))|((with_reducible refine AK ?_ ?_ _)<;>first|(with_reducible assumption)|omega|(simp;done)|(simp;omega))|((with_reducible refine AC ?_);(with_reducible refine AK ?_ ?_ _)<;>first|(with_reducible assumption)|omega|(simp;done)|(simp;omega))|((with_reducible refine Bl ?_ ?_)<;>first|omega|((repeat(with_reducible refine Bl ?_ (by omega)));(with_reducible assumption)))|exact hca|exact hcb)) : P := h
theorem W6 {P : Prop} (h : P := by rw[hcb];decide) : P := h
theorem kj {P : Prop} (h : P := by (repeat'(with_reducible refine And.intro ?_ ?_))<;>(first|(with_reducible assumption)|((with_reducible refine AC ?_);(with_reducible assumption))|((with_reducible refine AK ?_ ?_ _)<;>first|(with_reducible assumption)|omega|(simp;done)|(simp;omega))|((with_reducible refine AC ?_);(with_reducible refine AK ?_ ?_ _)<;>first|(with_reducible assumption)|omega|(simp;done)|(simp;omega))|((with_reducible refine Bl ?_ ?_)<;>first|omega|((repeat(with_reducible refine Bl ?_ (by omega)));(first|(with_reducible assumption)|((with_reducible refine AC ?_);(with_reducible assumption)))))|((repeat(first|(with_reducible refine AC ?_)|(with_reducible refine AK ?_ (by first|(with_reducible assumption)|omega|(simp;done)|(simp;omega)) _)|(with_reducible refine Bl ?_ (by omega))));(with_reducible assumption))|exact(HC2' _ Ax).1|exact(HC2' _ Ax).2.1|exact(HC2' _ Ax).2.2.1|exact(HC2' _ Ax).2.2.2)) : P := h
theorem Ft {P : Prop} (h : P := by unfold BJ at hv;rw[Bool.and_eq_true,decide_eq_true_eq] at hv;omega) : P := h
theorem aW {P : Prop} (h : P := by (repeat'(with_reducible refine And.intro ?_ ?_))<;>(first|(with_reducible assumption)|((with_reducible refine AC ?_);(with_reducible assumption))|((with_reducible refine AK ?_ ?_ _)<;>first|(with_reducible assumption)|omega|(simp;done)|(simp;omega))|((with_reducible refine AC ?_);(with_reducible refine AK ?_ ?_ _)<;>first|(with_reducible assumption)|omega|(simp;done)|(simp;omega))|((with_reducible refine Bl ?_ ?_)<;>first|omega|((repeat(with_reducible refine Bl ?_ (by omega)));(first|(with_reducible assumption)|((with_reducible refine AC ?_);(with_reducible assumption)))))|((repeat(first|(with_reducible refine AC ?_)|(with_reducible refine AK ?_ (by first|(with_reducible assumption)|omega|(simp;done)|(simp;omega)) _)|(with_reducible refine Bl ?_ (by omega))));(with_reducible assumption))|exact(HC1' _ Ax).1|exact(HC1' _ Ax).2.1|exact(HC1' _ Ax).2.2.1|exact(HC1' _ Ax).2.2.2|exact(HC2' _ Ax).1|exact(HC2' _ Ax).2.1|exact(HC2' _ Ax).2.2.1|exact(HC2' _ Ax).2.2.2)) : P := h
theorem IJ {P : Prop} (h : P := by (repeat'(with_reducible refine And.intro ?_ ?_))<;>(first|(with_reducible assumption)|((with_reducible refine AC ?_);(with_reducible assumption))|((with_reducible refine AK ?_ ?_ _)<;>first|(with_reducible assumption)|omega|(simp;done)|(simp;omega))|((with_reducible refine AC ?_);(with_reducible refine AK ?_ ?_ _)<;>first|(with_reducible assumption)|omega|(simp;done)|(simp;omega))|((with_reducible refine Bl ?_ ?_)<;>first|omega|((repeat(with_reducible refine Bl ?_ (by omega)));(first|(with_reducible assumption)|((with_reducible refine AC ?_);(with_reducible assumption)))))|((repeat(first|(with_reducible refine AC ?_)|(with_reducible refine AK ?_ (by first|(with_reducible assumption)|omega|(simp;done)|(simp;omega)) _)|(with_reducible refine Bl ?_ (by omega))));(with_reducible assumption)))) : P := h
theorem Cs {P : Prop} (h : P := by (repeat'(with_reducible refine And.intro ?_ ?_))<;>(first|(first|(with_reducible assumption)|((with_reducible refine Fg ?_ ?_ _)<;>first|(with_reducible assumption)|omega)|((with_reducible refine AK ?_ ?_ _)<;>first|(with_reducible assumption)|omega)|((repeat(with_reducible refine GM ?_ (by first|omega|(simp only;omega))));(with_reducible assumption))|((repeat(with_reducible refine Bl ?_ (by omega)));(with_reducible assumption)))|((with_reducible refine G7 ?_);(first|(with_reducible assumption)|((with_reducible refine Fg ?_ ?_ _)<;>first|(with_reducible assumption)|omega)|((with_reducible refine AK ?_ ?_ _)<;>first|(with_reducible assumption)|omega)|((repeat(with_reducible refine GM ?_ (by first|omega|(simp only;omega))));(with_reducible assumption))|((repeat(with_reducible refine Bl ?_ (by omega)));(with_reducible assumption))))|((with_reducible refine AC ?_);(first|(with_reducible assumption)|((with_reducible refine Fg ?_ ?_ _)<;>first|(with_reducible assumption)|omega)|((with_reducible refine AK ?_ ?_ _)<;>first|(with_reducible assumption)|omega)|((repeat(with_reducible refine GM ?_ (by first|omega|(simp only;omega))));(with_reducible assumption))|((repeat(with_reducible refine Bl ?_ (by omega)));(with_reducible assumption)))))) : P := h
theorem aZ {P : Prop} (h : P := by ((first|(exact⟨eC,e20,e21⟩)|(exact⟨eCu0,e20u0,e21u0⟩)|(exact⟨eCu1,e20u1,e21u1⟩)|((with_reducible refine⟨?_,?_,?_⟩)<;>(first|(with_reducible assumption)|((with_reducible refine AC ?_);(with_reducible assumption))|((with_reducible refine AK ?_ ?_ _)<;>first|(with_reducible assumption)|omega|(simp;done)|(simp;omega))|((repeat(first|(with_reducible refine AC ?_)|(with_reducible refine AK ?_ (by first|(with_reducible assumption)|omega|(simp;done)|(simp;omega)) _)|(with_reducible refine Bl ?_ (by omega))));(with_reducible assumption))))))) : P := h
theorem bt {P : Prop} (h : P := by ((first|(with_reducible exact⟨hc0,hc1,hc2⟩)|(with_reducible exact⟨hd0,hd1,hd2⟩)|((with_reducible refine⟨?_,?_,?_⟩)<;>(first|(with_reducible assumption)|((with_reducible refine G7 ?_);(with_reducible assumption))))))) : P := h
theorem bm {P : Prop} (h : P := by ((first|(with_reducible exact⟨hc0,hc1⟩)|(with_reducible exact⟨hd0,hd1⟩)|((with_reducible refine⟨?_,?_⟩)<;>(first|(with_reducible assumption)|((with_reducible refine G7 ?_);(with_reducible assumption))))))) : P := h
theorem bv {P : Prop} (h : P := by ((first|(with_reducible exact⟨hc0,hc1,hc2,hc3,hc4⟩)|(with_reducible exact⟨hd0,hd1,hd2,hd3,hd4⟩)|((with_reducible refine⟨?_,?_,?_,?_,?_⟩)<;>(first|(with_reducible assumption)|((with_reducible refine G7 ?_);(with_reducible assumption))))))) : P := h
theorem Wz {P : Prop} (h : P := by (repeat'(with_reducible refine And.intro ?_ ?_))<;>(first|(with_reducible assumption)|((with_reducible refine AC ?_);(with_reducible assumption))|((with_reducible refine AK ?_ ?_ _)<;>first|(with_reducible assumption)|omega|(simp;done)|(simp;omega))|((repeat(first|(with_reducible refine AC ?_)|(with_reducible refine AK ?_ (by first|(with_reducible assumption)|omega|(simp;done)|(simp;omega)) _)|(with_reducible refine Bl ?_ (by omega))));(with_reducible assumption))|exact(HI' _ Ax).1|exact(HI' _ Ax).2.1)) : P := h
theorem QV {P : Prop} (h : P := by rw[bne_iff_ne];omega) : P := h
theorem C0 {P : Prop} (h : P := by simp<;>omega) : P := h
theorem BM {P : Prop} (h : P := by unfold Hid;decide) : P := h
theorem jv {P : Prop} (h : P := by rw[hw];decide) : P := h
theorem bp {P : Prop} (h : P := by ((first|(with_reducible exact⟨e1,e2⟩)|(with_reducible exact⟨e1u0,e2u0⟩)|(with_reducible exact⟨e1u1,e2u1⟩)|((with_reducible refine⟨?_,?_⟩)<;>(first|(with_reducible assumption)|((with_reducible refine AC ?_);(with_reducible assumption))|((repeat(first|(with_reducible refine AC ?_)|(with_reducible refine AK ?_ (by first|(with_reducible assumption)|omega|(simp;done)|(simp;omega)) _)|(with_reducible refine Bl ?_ (by omega))));(with_reducible assumption))))))) : P := h
theorem Bg (x:Int) (h: -9223372036854775808<=x∧x<=9223372036854775807:=by omega):IntKind.i64.wrap x=x:=IntWalk.i64_in x h
theorem Bk{n:Nat}:n<=n:=Nat.le_refl n
instance : Coe World Nat:=⟨λw=>w.heap.size⟩
inductive ZT|m
def ZI(_:Int):ZT:=.m
def ZS(_:Int):ZT:=.m
section
variable (a b c d e f g h i j k l a1 b1 c1 d1 e1 f1 g1 h1 i1 j1 k1 l1:Int)(A B C D E F G A1 B1 C1 D1 E1 F1 G1:Option Addr)(m n o p q r s t u v w x y z m1 n1 o1 p1 q1 r1 s1 t1 u1 v1 w1 x1 y1 z1:Nat)(X Y Z X1 Y1 Z1:Bool)
instance:CoeDep ZT (ZI a) Value:=⟨.int .i64 a⟩
instance:CoeDep ZT (ZS a) (Option Value):=⟨some (.int .i64 a)⟩
def CR(_:Int)(_:Bool)(_ _ _ _ _ _:Int):ZT:=.m
instance:CoeDep ZT (CR a X b c d e f g) (Array Value):=⟨#[.agg #[.int .i64 a,.bool X,.int .i64 b,.int .i64 c],.int .i64 d,.agg #[.int .i64 e,.int .i64 f],.int .i64 g]⟩
def Da(_:Int)(_:Bool)(_ _ _ _:Int):ZT:=.m
instance:CoeDep ZT (Da a X b c d e) (Array Value):=⟨#[.agg #[.int .i64 a,.bool X,.int .i64 b,.int .i64 c],.int .i64 d,.int .i64 e]⟩
def Ce(_:Int)(_:Bool)(_ _ _:Int)(_:Bool)(_ _:Int)(_:Bool)(_ _ _:Int):ZT:=.m
instance:CoeDep ZT (Ce a X b c d Y e f Z g h i) (Array Value):=⟨#[.agg #[.int .i64 a,.bool X,.int .i64 b,.int .i64 c,.int .i64 d,.bool Y,.int .i64 e,.int .i64 f,.bool Z,.int .i64 g,.int .i64 h],.int .i64 i]⟩
def BN(_ _ _:Int):ZT:=.m
instance:CoeDep ZT (BN a b c) (Array Value):=⟨#[.agg #[.int .i64 a,.int .i64 b],.int .i64 c]⟩
def EI(_ _ _ _:Int):ZT:=.m
instance:CoeDep ZT (EI a b c d) (Array Value):=⟨#[.agg #[.int .i64 a,.int .i64 b,.int .i64 c],.int .i64 d]⟩
def EJ(_ _ _ _ _:Int):ZT:=.m
instance:CoeDep ZT (EJ a b c d e) (Array Value):=⟨#[.agg #[.int .i64 a,.int .i64 b,.int .i64 c,.int .i64 d],.int .i64 e]⟩
def Ew(_ _ _:Int)(_:Option Addr)(_ _:Nat)(_:Option Addr)(_ _:Nat)(_:Int):ZT:=.m
instance:CoeDep ZT (Ew a b c A m n B o p d) (Array Value):=⟨#[.agg #[.int .i64 a,.int .i64 b,.int .i64 c,.slice A m n,.slice B o p],.int .i64 d]⟩
def Eb:ZT:=.m
instance:CoeDep ZT Eb (Array Value):=⟨#[.agg #[.slice none 0 0,.slice none 0 0],.bool false]⟩
def EK(_:Option Addr)(_ _:Nat)(_:Option Addr)(_ _:Nat)(_:Int):ZT:=.m
instance:CoeDep ZT (EK A m n B o p a) (Array Value):=⟨#[.agg #[.slice A m n,.slice B o p],.int .i64 a]⟩
def Ly(_:Int)(_:Bool):ZT:=.m
instance:CoeDep ZT (Ly a X) (Array Value):=⟨#[.int .i64 a,.bool X]⟩
def A7(_:Int)(_:Bool)(_ _:Int):ZT:=.m
instance:CoeDep ZT (A7 a X b c) (Array Value):=⟨#[.int .i64 a,.bool X,.int .i64 b,.int .i64 c]⟩
instance:CoeDep ZT (A7 a X b c) Value:=⟨.agg (A7 a X b c)⟩
def DJ:ZT:=.m
instance:CoeDep ZT DJ (Array Value):=⟨#[.int .i64 0,.bool false,.int .i64 0,.int .i64 0]⟩
def Az(_:Int)(_:Bool)(_ _ _:Int)(_:Bool)(_ _:Int)(_:Bool)(_ _:Int):ZT:=.m
instance:CoeDep ZT (Az a X b c d Y e f Z g h) (Array Value):=⟨#[.int .i64 a,.bool X,.int .i64 b,.int .i64 c,.int .i64 d,.bool Y,.int .i64 e,.int .i64 f,.bool Z,.int .i64 g,.int .i64 h]⟩
def Di:ZT:=.m
instance:CoeDep ZT Di (Array Value):=⟨#[.int .i64 0,.bool false,.int .i64 0,.int .i64 0,.int .i64 0,.bool false,.int .i64 0,.int .i64 0,.bool false,.int .i64 0,.int .i64 0]⟩
def Zii(_ _:Int):ZT:=.m
instance:CoeDep ZT (Zii a b) (Array Value):=⟨#[.int .i64 a,.int .i64 b]⟩
instance:CoeDep ZT (Zii a b) Value:=⟨.agg (Zii a b)⟩
def Cq:ZT:=.m
instance:CoeDep ZT Cq (Array Value):=⟨#[.int .i64 0,.int .i64 0]⟩
instance:CoeDep ZT Cq Value:=⟨.agg Cq⟩
def Ziii(_ _ _:Int):ZT:=.m
instance:CoeDep ZT (Ziii a b c) (Array Value):=⟨#[.int .i64 a,.int .i64 b,.int .i64 c]⟩
instance:CoeDep ZT (Ziii a b c) Value:=⟨.agg (Ziii a b c)⟩
def Gd:ZT:=.m
instance:CoeDep ZT Gd (Array Value):=⟨#[.int .i64 0,.int .i64 0,.int .i64 0]⟩
def Ziiii(_ _ _ _:Int):ZT:=.m
instance:CoeDep ZT (Ziiii a b c d) (Array Value):=⟨#[.int .i64 a,.int .i64 b,.int .i64 c,.int .i64 d]⟩
instance:CoeDep ZT (Ziiii a b c d) Value:=⟨.agg (Ziiii a b c d)⟩
def C8:ZT:=.m
instance:CoeDep ZT C8 (Array Value):=⟨#[.int .i64 0,.int .i64 0,.int .i64 0,.int .i64 0]⟩
def AD(_ _ _ _ _ _ _:Int):ZT:=.m
instance:CoeDep ZT (AD a b c d e f g) (Array Value):=⟨#[.int .i64 a,.int .i64 b,.int .i64 c,.int .i64 d,.int .i64 e,.int .i64 f,.int .i64 g]⟩
instance:CoeDep ZT (AD a b c d e f g) Value:=⟨.agg (AD a b c d e f g)⟩
def jz:ZT:=.m
instance:CoeDep ZT jz (Array Value):=⟨#[.int .i64 0,.int .i64 0,.int .i64 0,.int .i64 0,.int .i64 0,.int .i64 0,.int .i64 0]⟩
def AH(_ _ _:Int)(_:Option Addr)(_ _:Nat)(_:Option Addr)(_ _:Nat):ZT:=.m
instance:CoeDep ZT (AH a b c A m n B o p) (Array Value):=⟨#[.int .i64 a,.int .i64 b,.int .i64 c,.slice A m n,.slice B o p]⟩
instance:CoeDep ZT (AH a b c A m n B o p) Value:=⟨.agg (AH a b c A m n B o p)⟩
def Fa:ZT:=.m
instance:CoeDep ZT Fa (Array Value):=⟨#[.int .i64 0,.int .i64 0,.int .i64 0,.slice none 0 0,.slice none 0 0]⟩
def G5(_:Option Addr)(_ _:Nat)(_:Int)(_:Bool)(_ _ _:Int):ZT:=.m
instance:CoeDep ZT (G5 A m n a X b c d) (Array Value):=⟨#[.slice A m n,.agg #[.int .i64 a,.bool X,.int .i64 b,.int .i64 c],.int .i64 d]⟩
def Gb(_:Option Addr)(_ _:Nat)(_:Int):ZT:=.m
instance:CoeDep ZT (Gb A m n a) (Array Value):=⟨#[.slice A m n,.int .i64 a]⟩
def FK(_:Option Addr)(_ _:Nat)(_ _:Int):ZT:=.m
instance:CoeDep ZT (FK A m n a b) (Array Value):=⟨#[.slice A m n,.int .i64 a,.int .i64 b]⟩
def CH(_:Option Addr)(_ _:Nat)(_:Option Addr)(_ _:Nat):ZT:=.m
instance:CoeDep ZT (CH A m n B o p) (Array Value):=⟨#[.slice A m n,.slice B o p]⟩
instance:CoeDep ZT (CH A m n B o p) Value:=⟨.agg (CH A m n B o p)⟩
def QW:ZT:=.m
instance:CoeDep ZT QW (Array Value):=⟨#[.slice none 0 0,.slice none 0 0]⟩
def AV(_:Option Addr)(_ _:Nat)(_:Option Addr)(_ _:Nat)(_ _ _ _:Int):ZT:=.m
instance:CoeDep ZT (AV A m n B o p a b c d) (Array Value):=⟨#[.slice A m n,.slice B o p,.int .i64 a,.int .i64 b,.int .i64 c,.int .i64 d]⟩
instance:CoeDep ZT (AV A m n B o p a b c d) Value:=⟨.agg (AV A m n B o p a b c d)⟩
def AF(_:Option Addr)(_ _:Nat)(_:Option Addr)(_ _:Nat)(_ _ _ _ _ _:Int):ZT:=.m
instance:CoeDep ZT (AF A m n B o p a b c d e f) (Array Value):=⟨#[.slice A m n,.slice B o p,.int .i64 a,.int .i64 b,.int .i64 c,.int .i64 d,.int .i64 e,.int .i64 f]⟩
instance:CoeDep ZT (AF A m n B o p a b c d e f) Value:=⟨.agg (AF A m n B o p a b c d e f)⟩
def Bp(_:Option Addr)(_ _:Nat)(_:Option Addr)(_ _:Nat)(_ _ _ _:Int)(_:Option Addr)(_ _:Nat):ZT:=.m
instance:CoeDep ZT (Bp A m n B o p a b c d C q r) (Array Value):=⟨#[.slice A m n,.slice B o p,.int .i64 a,.int .i64 b,.int .i64 c,.int .i64 d,.slice C q r]⟩
instance:CoeDep ZT (Bp A m n B o p a b c d C q r) Value:=⟨.agg (Bp A m n B o p a b c d C q r)⟩
def Ap:ZT:=.m
instance:CoeDep ZT Ap (Array Value):=⟨#[.slice none 0 0,.slice none 0 0,.int .i64 0,.int .i64 0,.int .i64 0,.int .i64 0,.slice none 0 0]⟩
instance:CoeDep ZT Ap Value:=⟨.agg Ap⟩
def Au(_:Option Addr)(_ _:Nat)(_:Option Addr)(_ _:Nat)(_ _ _ _:Int)(_:Option Addr)(_ _:Nat)(_:Option Addr)(_ _:Nat)(_ _ _ _:Int)(_:Option Addr)(_ _:Nat)(_:Option Addr)(_ _:Nat)(_:Option Addr)(_ _:Nat)(_:Option Addr)(_ _:Nat)(_:Option Addr)(_ _:Nat)(_:Option Addr)(_ _:Nat)(_:Bool)(_ _:Int):ZT:=.m
instance:CoeDep ZT (Au A m n B o p a b c d C q r D s t e f g h E u v F w x G y z A1 m1 n1 B1 o1 p1 C1 q1 r1 X i j) (Array Value):=⟨#[.slice A m n,.slice B o p,.int .i64 a,.int .i64 b,.int .i64 c,.int .i64 d,.slice C q r,.slice D s t,.int .i64 e,.int .i64 f,.int .i64 g,.int .i64 h,.slice E u v,.slice F w x,.slice G y z,.slice A1 m1 n1,.slice B1 o1 p1,.slice C1 q1 r1,.bool X,.int .i64 i,.int .i64 j]⟩
def Dj(_:Option Addr)(_ _:Nat)(_:Option Addr)(_ _:Nat)(_:Option Addr)(_ _:Nat):ZT:=.m
instance:CoeDep ZT (Dj A m n B o p C q r) (Array Value):=⟨#[.slice A m n,.slice B o p,.slice C q r]⟩
instance:CoeDep ZT (Dj A m n B o p C q r) Value:=⟨.agg (Dj A m n B o p C q r)⟩
def DU:ZT:=.m
instance:CoeDep ZT DU (Array Value):=⟨#[.slice none 0 0,.slice none 0 0,.slice none 0 0]⟩
instance:CoeDep ZT DU Value:=⟨.agg DU⟩
end
