import Derived.Test.YtkndcebhjcfphaaGreatDoorZKBenches
import Derived.Test.YtkndcebhjcfphaaGreatDoorZAm
import Derived.Test.YtkndcebhjcfphaaGreatDoorZApx2
import Derived.Test.YtkndcebhjcfphaaGreatDoorCards
import Derived.Test.YtkndcebhjcfphaaGreatDoorTie
namespace Go.Proofs.YtkndcebhjcfphaaGreatDoor.fnBenches
set_option linter.all false
open Go.ChangeShapes Go.WideShapes Go.ChangeAt Go.RowKit Go.Proofs.Tryz
open Rows hiding none
open Go.ChangeMaps (open_string shut_string)
theorem tab_is:(laid_internal_strconv_uint64pow10:DataW Unit)=Lib.tabData .u64 Lib.pow10Tab:=by kernel_rfl
theorem tab_laid {W:World} (h:laidMetH prog fnBenchesRow.laid W):CK W:=by
 rw[MakeChecks.laidMetH_plain _ _ _ (by kernel_rfl)] at h
 have h2:laidMet prog (("internal/strconv.uint64pow10",laid_internal_strconv_uint64pow10):: [("unicode/utf8.acceptRanges",laid_unicode_utf8_acceptRanges),("strconv.ErrRange",laid_strconv_ErrRange),("strconv.ErrSyntax",laid_strconv_ErrSyntax),("unicode/utf8.first",laid_unicode_utf8_first)]) W:=h.tail.tail
 rw[tab_is] at h2
 exact Lib.tabIs_of_head (g:=5) (t:=302) (e:=243) (by kernel_rfl) (by kernel_rfl) underlying302 underlying243 (by kernel_rfl) (by kernel_rfl) h2
theorem of_laid {W:World} (h:laidMetH prog fnBenchesRow.laid W) (hsh:W.ShapedOpen prog):Dq W:=by
 have ht:=tab_laid h
 rw[MakeChecks.laidMetH_plain _ _ _ (by kernel_rfl)] at h
 have hs:laidMet prog (("strconv.ErrSyntax",laid_strconv_ErrSyntax):: [("unicode/utf8.first",laid_unicode_utf8_first)]) W:=h.tail.tail.tail.tail.tail
 have hr:laidMet prog (("strconv.ErrRange",laid_strconv_ErrRange):: [("strconv.ErrSyntax",laid_strconv_ErrSyntax),("unicode/utf8.first",laid_unicode_utf8_first)]) W:=h.tail.tail.tail.tail
 exact ew ht hsh hs hr
set_option maxRecDepth 100000 in
theorem lifted (os:Os) (started:os.Started) (H:Type) (enc:TypeId×Value->H):
  ReturnsInHanded {} checked os 5 .any (λw args=>(fnBenchesSpec.pre enc prog f5 [] false w args∧laidMetH prog fnBenchesRow.laid w)∧sizedMet enc prog f5 (OpenSpec.ofChange fnBenchesSpec) false w args) (fnBenchesSpec.post enc prog f5 false true false false):=by
 refine Kb (C:=checked) (X:=λw _=>laidMetH prog fnBenchesRow.laid w) (λ_ _ _ hh h=>h.of_heap hh) own started (by kernel_rfl) func5
  (ChangeSpec.witness_shaped (enc:=enc) (C:=checked) (os:=os) (X:=λw _=>laidMetH prog fnBenchesRow.laid w) false (World.laidAll prog os fnBenchesRow.laid) #[.slice none 0 0] 8 (World.laidAll_os _ _ _)
   (World.shaped_of_ZipB (by kernel_rfl) (by kernel_rfl)) (by kernel_rfl) (by kernel_rfl) (by kernel_rfl)
   (by rw[MakeChecks.laidMetH_plain _ _ _ (by kernel_rfl)];exact laidMet_laidAll _ (by kernel_rfl) (by kernel_rfl))) ?_
 intro W base args ds gs before hval0 hW hcnd _ hL hsh _
 have hval: ∀(j:Nat) t v,f5.params[j]? =some t->args[j]? =some v->Value.okWide prog W .any base t v:=hval0
 have TT:=of_laid hL hsh
 have hW':=hW
 obtain⟨p,q,hA0,hV,rfl,hfz,hnd⟩:=hW
 have hA:DataW.TrodAll enc prog W 0 (λ_=>true) true f5.params.toList args.toList ds p:=hA0
 rw[params5] at hA hval
 obtain⟨v0,vs0,d0,ds0,p0,q0,hargs,rfl,rfl,h0,r0⟩:=trodAll_cons hA
 obtain⟨rfl,rfl,rfl⟩:=trodAll_nil r0
 obtain rfl:args= #[v0]:=by cases args;simp_all
 obtain⟨rfl,rfl⟩:=trodVars_none hV
 have k0:=h0
 have lt0: ∀x∈p0,x.block<W.heap.size:=by obtain⟨m,hm⟩:=k0;exact DataW.trod_lt m _ _ _ hm
 obtain⟨a0,len0,cap0,rfl⟩:=okWide_slice underlying40 (hval 0 40 v0 rfl rfl)
 obtain⟨z0,w0⟩: ∃zs,ArgB W a0 len0 cap0 zs:=by
  obtain⟨fuel,hf⟩:=h0
  rcases open_ints underlying40 underlying5 (by kernel_rfl) hf with⟨hcs,_⟩|⟨x,l,c,zs,hcs,_,hl,hm,hz,_,hcell,hwz⟩
  ·simp[Value.cells] at hcs
   obtain⟨rfl,rfl,rfl⟩:=hcs
   exact⟨[],i7 _⟩
  ·simp[Value.cells] at hcs
   obtain⟨rfl,rfl,rfl⟩:=hcs
   exact⟨_,je hl hm (by simpa using hz) hcell hwz⟩
 clear hA0 hval0
 refine(jP W a0 len0 cap0 z0 w0 TT).mono λe W' ⟨he,bel⟩=> ?_
 subst he
 exact⟨_,rfl,_,_,_,[],_,[],hW',trodAll_mk1 (shut_bool underlying4 _),(trodAll_cons_mk (Below.trod laidOut (by kernel_rfl) (of_decide_eq_true (by kernel_rfl)) k0 bel lt0) trodAll_mk0),rfl,bel.frame _,λh=>by cases h⟩
theorem over:fnBenchesRow.holds Tryz.pinned (OpenSpec.ofChange fnBenchesSpec):=
 OpenClaim.holds_of_wide 5 f5 rfl rfl rfl rfl rfl rfl rfl ⟨rfl,rfl,rfl,rfl,rfl⟩ rfl rfl rfl rfl rfl found func5 closed
  inst (by unfold Func.isWrapper;first|(rw[if_pos (by decide+kernel)];kernel_rfl)|(rw[if_neg (by decide+kernel)];exact⟨rfl,rfl⟩))
  (λos started H enc _=>lifted os started H enc)
theorem proved:FnBenchesCardSaid:=
 Claim7.holds_tied_plain_at .later [] [.data,.data,.data,.data,.sentinel,.sentinel,.pinned] true (true,"6cc2101c5a70649352208c7b185e6d491eb7533115767da363c8f08ea7627c3a") true
  over (λ_ h=>by cases h) byText (λ_ h=>by cases h) fnBenches_row_tie rfl ⟨rfl,rfl⟩ mains rfl
  (λf fn hf hfn=>by
   obtain rfl:f=5:=Option.some.inj (found.symm.trans hf)|>.symm
   obtain rfl:fn=f5:=(Option.some.inj (func5.symm.trans hfn)).symm
   exact⟨looked,λj t ht=>by
    rw[params5] at ht
    have hm:t∈ [40]:=by simpa using Array.mem_of_getElem? ht
    have hall:([40].all λu=> !prog.wantsStandIn u)=true:=standIns
    exact(show prog.wantsStandIn t=false by simpa using List.all_eq_true.1 hall t hm)⟩)
  goes
end Go.Proofs.YtkndcebhjcfphaaGreatDoor.fnBenches
