import Derived.Test.YtkndcebhjcfphaaGreatDoorZAf
import Derived.HandedShaped
import Derived.Stop.LaidErr
import Derived.LaidMore
import Derived.Stop.Joined
namespace Go.Proofs.YtkndcebhjcfphaaGreatDoor
open Go.RowKit Go.Proofs.Tryz
set_option maxRecDepth 100000
set_option maxHeartbeats 4000000
set_option linter.all false
section
variable {H : Type} {enc : TypeId × Value → H}
theorem Kb {a:Assume} {C:Checked} {os:Os} {f:FuncId} {fn:Func} {s:ChangeSpec} {conds:List PathCond} {apart fresh handsOn again:Bool} {X:World→Array Value→Prop}
  (hX: ∀(w w':World) (args:Array Value),w.heap=w'.heap→X w args→X w' args)
  (own:ownKnob C.prog.godebug=none) (started:os.Started) (noInit:C.prog.inits.idxOf? f=none) (hfn:C.prog.funcs[f]? =some fn)
  (witness: ∃(w:World) (tape:Tape) (i:Input),w.os=os∧(w.forCall tape i).Shaped C.prog∧i.vars= []∧Input.okWide C.prog (w.forCall tape i) .any w.heap.size f i∧
   ((s.pre enc C.prog fn conds apart (w.forCall tape i).memory i.args∧X (w.forCall tape i).memory i.args)∧sizedMet enc C.prog fn (OpenSpec.ofChange s) apart (w.forCall tape i).memory i.args)∧a.holds C.prog (lone (Frame.enter C.prog f i.args .normal) [] (w.forCall tape i)))
  (contract: ∀(W:World) (base:Nat) (args:Array Value) (ds gs:List (DataW H)) (before:List MemPlace),
   (∀(j:Nat) t v,fn.params[j]? =some t→args[j]? =some v→Value.okWide C.prog W .any base t v)→
   DataW.Whole enc C.prog fn.params.toList s.vars apart W args.toList ds gs before→
   conds.all (PathCond.test C.prog ⟨fn.params.toList,ds,s.plain.varTypes C.prog,gs⟩)=true→
   (DataW.weightsEach C.prog (fn.params.toList++s.plain.varTypes C.prog) (ds++gs)).all (· ≤reachBytes)=true→X W args→
   W.ShapedOpen C.prog→
   a.holds C.prog (lone (Frame.enter C.prog f args .normal) [] W)→
   Calls C.prog f args W fun e W'=> ∃v,e=.returned v∧s.post enc C.prog fn apart fresh handsOn again W args v W'):
  ReturnsInHanded a C os f .any (fun w args=>(s.pre enc C.prog fn conds apart w args∧X w args)∧sizedMet enc C.prog fn (OpenSpec.ofChange s) apart w args) (s.post enc C.prog fn apart fresh handsOn again):=by
 refine returnsInHanded_of_calls own started noInit witness ?_;intro w tape i _ hsh _ hok hpre hholds;obtain⟨_,_,_,fn',hfn',_,_,_,_,hval⟩:=hok;have e:fn'=fn:=Option.some.inj (hfn'.symm.trans hfn);subst e;obtain⟨⟨⟨ds,gs,before,hw,hc⟩,hx⟩,hz⟩:=hpre;have hw':=DataW.Whole.of_heap (w':=w.forCall tape i) AI hw;refine(contract (w.forCall tape i) w.heap.size i.args ds gs before hval hw' hc (hz.weights hw) (hX _ _ _ AI hx) hsh hholds).mono fun e W' ⟨v,he,hp⟩=> ?_;subst he;exact ChangeSpec.post_blind hp
end
theorem Uk {w:World} {v:Value} (h:w.cell? ⟨0,0,none⟩=some v):0<w.heap.size:=by
 rcases Nat.eq_zero_or_pos w.heap.size with h0|h0
 ·have hn:w.heap[0]? =none:=Array.getElem?_eq_none Aa;unfold World.cell? at h
  simp[hn] at h
 ·exact h0
theorem Tc: "*" ++ "errors.errorString" = "*errors.errorString" :=Ah
theorem WO (u:TypeId) (h:prog.typeName? 3 u=some "*errors.errorString"):u=323:=
 typeName_ptr_named (nm:= "errors.errorString") (by rw[Tc];kernel_rfl) We51ceQ Ah u (by rw[Tc];exact h)
theorem ew {W:World} (tab:CK W) (hsh:W.ShapedOpen prog) {r r2:List (String×DataW Unit)} {x y:List UInt8}
  (hs:laidMet prog (("strconv.ErrSyntax",.iface "*errors.errorString" (.ptr (.agg [.lit (.string x)])))::r) W)
  (hr:laidMet prog (("strconv.ErrRange",.iface "*errors.errorString" (.ptr (.agg [.lit (.string y)])))::r2) W):Dq W:=by
 obtain⟨a,s,hv,_⟩:=laid_sentinel (g:=3) hs We51ceQ We51ceQ underlying162 WO underlying323 underlying325 rfl rfl underlying9 We51ceQ We51ceQ;obtain⟨b,s2,hv2,_⟩:=laid_sentinel (g:=4) hr We51ceQ We51ceQ underlying162 WO underlying323 underlying325 rfl rfl underlying9 We51ceQ We51ceQ;obtain⟨m,hm⟩:=Go.Proofs.cell_of_shapedOpen_int (g:=0) (zero:= #[ZI 0]) (t:=3) hsh (of_decide_eq_true We51ceQ) We51ceQ rfl We51ceQ We51ceQ underlying3;exact⟨tab,⟨_,_,hv⟩,⟨_,_,hv2⟩,⟨m,hm⟩,Uk hm⟩
end Go.Proofs.YtkndcebhjcfphaaGreatDoor
