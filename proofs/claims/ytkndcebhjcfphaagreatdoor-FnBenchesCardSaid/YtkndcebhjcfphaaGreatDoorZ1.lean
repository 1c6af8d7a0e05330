import Derived.Test.YtkndcebhjcfphaaGreatDoorZ0
import Derived.Deep.RegionHeld
namespace Go.Proofs.YtkndcebhjcfphaaGreatDoor
open Go.RowKit Go.Proofs.Tryz
set_option maxRecDepth 100000
set_option maxHeartbeats 4000000
set_option linter.all false
theorem IK {P : Prop} (h : P := by (repeat'(with_reducible refine And.intro ?_ ?_))<;>(first|(with_reducible assumption)|(intro o;go_keep;done)|((with_reducible refine AC ?_);(with_reducible assumption))|((with_reducible refine AK ?_ ?_ _)<;>first|(with_reducible assumption)|omega|(simp;done)|(simp;omega))|((with_reducible refine AC ?_);(with_reducible refine AK ?_ ?_ _)<;>first|(with_reducible assumption)|omega|(simp;done)|(simp;omega))|((with_reducible refine Bl ?_ ?_)<;>first|omega|((repeat(with_reducible refine Bl ?_ (by omega)));(first|(with_reducible assumption)|((with_reducible refine AC ?_);(with_reducible assumption))))))) : P := h
theorem bj {P : Prop} (h : P := by (((with_reducible refine⟨?_,?_⟩)<;>(first|(with_reducible assumption)|(with_reducible exact tb)|(with_reducible exact ts)|(intro o;go_keep))))) : P := h
theorem aX {P : Prop} (h : P := by (((with_reducible refine⟨?_,?_,?_,?_,?_,?_⟩)<;>(first|(with_reducible assumption)|(with_reducible exact t0)|(with_reducible exact t1)|(with_reducible exact t2)|(with_reducible exact t3)|(with_reducible exact tc)|(with_reducible exact tb)|go_keep|(intro o;go_keep))))) : P := h
