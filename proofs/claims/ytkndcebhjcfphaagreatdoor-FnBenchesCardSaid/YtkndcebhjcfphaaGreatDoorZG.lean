import Derived.Test.YtkndcebhjcfphaaGreatDoorZA
import Derived.Deep.RegionHeld3
namespace Go.Proofs.YtkndcebhjcfphaaGreatDoor
open Go.RowKit Go.Proofs.Tryz
set_option maxRecDepth 100000
set_option maxHeartbeats 4000000
set_option linter.all false
theorem Ag.cell_ {w:World} {l:List Sl} {g i:Nat} {u:Value} (h:Ag w l) (a: ∀s∈l.map Sl.row,s≠some g):Ag (w.setCell ⟨g,i,none⟩ u) l:=λs b=>
 (h s b).keep λd e f=>Below.heap_setCell _ _ _ _ (λc=>a _ (List.mem_map_of_mem b) (by unfold Sl.row blkp;rw[Ak Aa,e];simp only[YD,Option.map_some];exact AN some c))
theorem AB.cell_ {w:World} {B:Nat} {l:List Sl} {p:Addr} {u:Value} (h:AB w B l):AB (w.setCell p u) B l:=λs a=>(h s a).set_ p
theorem Bl {w:World} {g b i:Nat} {cs:Array Value} {u:Value} (h: ∀o,w.cell? ⟨g,o,none⟩=cs[o]?) (a:g≠b): ∀o,(w.setCell ⟨b,i,none⟩ u).cell? ⟨g,o,none⟩=cs[o]? :=λo=>(World.cell?_setCell_other _ _ _ _ (λc=>a (by cases c;rfl))).trans (h o)
theorem Blk.drew {w:World} {g:Nat} {t:TypeId} {cs:Array Value} (h:Blk w g t cs):Blk w.drew g t cs:=h
theorem Blk.set_all3 {w:World} {g:Nat} {t:TypeId} {a b c x0 x1 x2:Value} (h:Blk w g t #[a,b,c]):Blk (((w.setCell ⟨g,0,none⟩ x0).setCell ⟨g,1,none⟩ x1).setCell ⟨g,2,none⟩ x2) g t #[x0,x1,x2]:=((h.set_ 0 x0).set_ 1 x1).set_ 2 x2
theorem Blk.set_all4 {w:World} {g:Nat} {t:TypeId} {a b c d x0 x1 x2 x3:Value} (h:Blk w g t #[a,b,c,d]):Blk ((((w.setCell ⟨g,0,none⟩ x0).setCell ⟨g,1,none⟩ x1).setCell ⟨g,2,none⟩ x2).setCell ⟨g,3,none⟩ x3) g t #[x0,x1,x2,x3]:=(((h.set_ 0 x0).set_ 1 x1).set_ 2 x2).set_ 3 x3
