import Derived.Test.YtkndcebhjcfphaaGreatDoorZAj
import Derived.HandedShaped
import Derived.Stop.LaidErr
import Derived.LaidMore
import Derived.Stop.Joined
namespace Go.Proofs.YtkndcebhjcfphaaGreatDoor
open Go.RowKit Go.Proofs.Tryz
set_option maxRecDepth 100000
set_option maxHeartbeats 4000000
set_option linter.all false
section
variable {H : Type} {enc : TypeId × Value -> H}
theorem Kb {a:Assume} {C:Checked} {os:Os} {f:FuncId} {n:Func} {s:ChangeSpec} {l:List PathCond} {c q k p:Bool} {X:World->Array Value->Prop}
  (M: ∀(w w':World) (b:Array Value),w.heap=w'.heap->X w b->X w' b)
  (own:ownKnob C.prog.godebug=none) (r:os.Started) (y:C.prog.inits.idxOf? f=none) (G:C.prog.funcs[f]? =some n)
  (u: ∃(w:World) (d:Tape) (i:Input),w.os=os∧(w.forCall d i).Shaped C.prog∧i.vars= []∧Input.okWide C.prog (w.forCall d i) .any w.heap.size f i∧
   ((s.pre enc C.prog n l c (w.forCall d i).memory i.args∧X (w.forCall d i).memory i.args)∧sizedMet enc C.prog n (OpenSpec.ofChange s) c (w.forCall d i).memory i.args)∧a.holds C.prog (lone (Frame.enter C.prog f i.args .normal) [] (w.forCall d i)))
  (m: ∀(W:World) (base:Nat) (b:Array Value) (z A:List (DataW H)) (g:List MemPlace),
   (∀(j:Nat) t v,n.params[j]? =some t->b[j]? =some v->Value.okWide C.prog W .any base t v)->
   DataW.Whole enc C.prog n.params.toList s.vars c W b.toList z A g->
   l.all (PathCond.test C.prog ⟨n.params.toList,z,s.plain.varTypes C.prog,A⟩)=true->
   (DataW.weightsEach C.prog (n.params.toList++s.plain.varTypes C.prog) (z++A)).all (· <=reachBytes)=true->X W b->
   W.ShapedOpen C.prog->
   a.holds C.prog (lone (Frame.enter C.prog f b .normal) [] W)->
   Calls C.prog f b W λe L=> ∃v,e=.returned v∧s.post enc C.prog n c q k p W b v L):
  ReturnsInHanded a C os f .any (λw b=>(s.pre enc C.prog n l c w b∧X w b)∧sizedMet enc C.prog n (OpenSpec.ofChange s) c w b) (s.post enc C.prog n c q k p):=by
 refine returnsInHanded_of_calls own r y u ?_;intro w d i _ J _ I D x;obtain⟨_,_,_,F,B,_,_,_,_,E⟩:=I;have e:F=n:=Option.some.inj (B.symm.trans G);subst e;obtain⟨⟨⟨z,A,g,hw,N⟩,R⟩,S⟩:=D;have K:=DataW.Whole.of_heap (w':=w.forCall d i) AI hw;refine(m (w.forCall d i) w.heap.size i.args z A g E K N (S.weights hw) (M _ _ _ AI R) J x).mono λe L ⟨v,O,Q⟩=> ?_;subst O;exact ChangeSpec.post_blind Q
end
theorem Uk {w:World} {v:Value} (h:w.cell? ⟨0,0,none⟩=some v):0<w.heap.size:=by
 rcases Nat.eq_zero_or_pos w.heap.size with h0|h0
 ·have a:w.heap[0]? =none:=Array.getElem?_eq_none Aa;unfold World.cell? at h
  simp[a] at h
 ·exact h0
theorem Tc: "*" ++ "errors.errorString" = "*errors.errorString" :=Ah
theorem WO (u:TypeId) (h:prog.typeName? 3 u=some "*errors.errorString"):u=323:=
 typeName_ptr_named (nm:= "errors.errorString") (by rw[Tc];kernel_rfl) We51ceQ Ah u (by rw[Tc];exact h)
theorem ew {W:World} (f:CK W) (c:W.ShapedOpen prog) {r k:List (String×DataW Unit)} {x y:List UInt8}
  (hs:laidMet prog (("strconv.ErrSyntax",.iface "*errors.errorString" (.ptr (.agg [.lit (.string x)])))::r) W)
  (j:laidMet prog (("strconv.ErrRange",.iface "*errors.errorString" (.ptr (.agg [.lit (.string y)])))::k) W):Dq W:=by
 obtain⟨a,s,hv,_⟩:=laid_sentinel (g:=3) hs We51ceQ We51ceQ underlying162 WO underlying323 underlying325 rfl rfl underlying9 We51ceQ We51ceQ;obtain⟨b,l,d,_⟩:=laid_sentinel (g:=4) j We51ceQ We51ceQ underlying162 WO underlying323 underlying325 rfl rfl underlying9 We51ceQ We51ceQ;obtain⟨m,i⟩:=Go.Proofs.cell_of_shapedOpen_int (g:=0) (zero:= #[ZI 0]) (t:=3) c (of_decide_eq_true We51ceQ) We51ceQ rfl We51ceQ We51ceQ underlying3;exact⟨f,⟨_,_,hv⟩,⟨_,_,d⟩,⟨m,i⟩,Uk i⟩
