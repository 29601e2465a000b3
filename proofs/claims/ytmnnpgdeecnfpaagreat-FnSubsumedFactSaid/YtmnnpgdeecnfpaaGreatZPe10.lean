/- FnSubsumedFact returns true, whatever bytes come in, and leaves them as they were. No condition. -/
import Derived.Test.YtmnnpgdeecnfpaaGreatZPe9
namespace Go.Proofs.YtmnnpgdeecnfpaaGreat
open Go Go.ChangeShapes Go.WideShapes Go.ChangeAt Go.RowKit

set_option maxRecDepth 100000 in
theorem qo (os:Os) (started:os.Started) (H:Type) (enc:TypeId × Value->H) :
  ReturnsInHanded {} Tryz.checked os aW .any (Rows.fnSubsumedFactSpec.pre6 enc Tryz.prog Tryz.f5 Rows.fnSubsumedFactRow.domain false)
   (Rows.fnSubsumedFactSpec.post enc Tryz.prog Tryz.f5 false true false false):=by
 refine returnsInHanded_of_change (C:=Tryz.checked) Tryz.own started (by kernel_rfl) Tryz.func5
  (ChangeSpec.witness6 (enc:=enc) (C:=Tryz.checked) false ⟨#[],#[.slice none 0 0],[]⟩ 8 (by kernel_rfl) (by kernel_rfl) (by kernel_rfl) (by kernel_rfl)) ?_
 intro W base args ds gs before hval0 hW _ _
 have hval:∀ (j:Nat) t v,Tryz.f5.params[j]?=some t->args[j]?=some v->Value.okWide Tryz.prog W .any base t v:=hval0
 have hW':=hW
 obtain ⟨p,q,hA0,hV,hb,_,_⟩:=hW
 have hA:DataW.TrodAll enc Tryz.prog W 0 (fun _=>true) true Tryz.f5.params.toList args.toList ds p:=hA0
 have hA1:=hA
 rw [Tryz.params5] at hA1 hval
 obtain ⟨v0,d0,rfl,rfl,h0⟩:=trodAll_one hA1
 obtain ⟨n,hn⟩:=h0
 obtain rfl:=(trodVars_none (show DataW.TrodVars enc Tryz.prog W (fun _=>true) [] gs q from hV)).1
 obtain ⟨a,len,cap,rfl⟩:=okWide_slice (dG bi).1 (hval 0 _ _ rfl rfl)
 obtain ⟨xs,hxs⟩:=iw hn
 refine (oq hxs W (Inv.entry W)).mono fun e W' ⟨he,hI⟩=>?_
 subst he
 exact ⟨_,rfl,pK hW' hA hV hb rfl (by rw [Tryz.params5]; decide +kernel) (by kernel_rfl) rfl rfl rfl hI⟩

theorem aG {a b:Bool} (ha:a=true) (hb:b=true):(a && b)=true:=by rw [ha,hb]; rfl
theorem wV:Rows.fnSubsumedFactRow.wf (OpenSpec.ofChange Rows.fnSubsumedFactSpec)=true:=by kernel_rfl
theorem wh:laidOutB Tryz.checked.prog=true:=by kernel_rfl
theorem wO:mapsRowed Tryz.checked.prog=true:=by kernel_rfl
theorem wy:Tryz.f5.params.all (Tryz.checked.prog.readableRec ·)=true:=by kernel_rfl
theorem wD:namedTie Tryz.checked.prog Rows.fnSubsumedFactRow.named Rows.fnSubsumedFactSpec.vars=true:=by kernel_rfl
theorem wj:(Rows.fnSubsumedFactRow.stops == [])=true:=by kernel_rfl
theorem wt:(Tryz.checked.prog.stops == [])=true:=by kernel_rfl
theorem wW:(Rows.fnSubsumedFactRow.knobs == [])=true:=by kernel_rfl
theorem xq:(Tryz.checked.prog.stopKnobs == [])=true:=by kernel_rfl
theorem wI:(Rows.fnSubsumedFactRow.inPlace == Tryz.checked.prog.inPlace aW)=true:=by kernel_rfl
theorem uz:(Rows.fnSubsumedFactRow.unfollowed == Tryz.checked.prog.unfollowed aW)=true:=by kernel_rfl
theorem vN:(Rows.fnSubsumedFactRow.recurses == Tryz.checked.prog.recurses aW)=true:=by kernel_rfl
theorem vM:(Rows.fnSubsumedFactRow.named == Tryz.checked.prog.varsNamed aW)=true:=by kernel_rfl
theorem uU:(Rows.fnSubsumedFactRow.maps == (Tryz.f5.params.toList++Rows.fnSubsumedFactSpec.plain.varTypes Tryz.checked.prog).any (Tryz.checked.prog.mapsRec ·))=true:=by kernel_rfl
theorem vK:(Rows.fnSubsumedFactRow.ifaces == (Tryz.f5.params.toList++Rows.fnSubsumedFactSpec.plain.varTypes Tryz.checked.prog).any (Tryz.checked.prog.ifacesRec ·))=true:=by kernel_rfl
theorem ve:(Rows.fnSubsumedFactRow.mapsOut == Tryz.checked.prog.mapsAmong Tryz.f5.resultTypes.toList)=true:=by kernel_rfl
theorem uL:(Rows.fnSubsumedFactRow.loops == (Tryz.f5.params.toList++Rows.fnSubsumedFactSpec.plain.varTypes Tryz.checked.prog).any (Tryz.checked.prog.loopsFrom ·))=true:=by kernel_rfl
theorem uC:(Rows.fnSubsumedFactRow.wideKeys == (Tryz.f5.params.toList++Rows.fnSubsumedFactSpec.plain.varTypes Tryz.checked.prog++Tryz.f5.resultTypes.toList).any (Tryz.checked.prog.wideKeysFrom ·))=true:=by kernel_rfl
theorem vQ:Rows.fnSubsumedFactSpec.vars.all (Tryz.checked.prog.varReadable ·)=true:=by kernel_rfl
theorem vD:Tryz.f5.resultTypes.all (fun t=>Tryz.checked.prog.readableRec t && decide (t<Tryz.checked.prog.types.size))=true:=by kernel_rfl
theorem uA:(Rows.fnSubsumedFactRow.ifacesOut == Tryz.f5.resultTypes.toList.any (Tryz.checked.prog.ifacesRec ·))=true:=by kernel_rfl
theorem uG:(Rows.fnSubsumedFactRow.loopsOut == Tryz.f5.resultTypes.toList.any (Tryz.checked.prog.loopsFrom ·))=true:=by kernel_rfl
theorem uR:(Rows.fnSubsumedFactRow.plainKeys == Tryz.checked.prog.plainKeys)=true:=by kernel_rfl
theorem vz:Rows.fnSubsumedFactRow.shortTexts.isNone=true:=by kernel_rfl
theorem vx:Tryz.checked.prog.stopsHeard=true:=by kernel_rfl
theorem uQ:Tryz.checked.prog.mayEnter=true:=by kernel_rfl
theorem vG:(Rows.fnSubsumedFactRow.lifted == Tryz.checked.prog.liftsFinal)=true:=by kernel_rfl
theorem vO:(Tryz.checked.prog.make == some Rows.fnSubsumedFactRow.make)=true:=by kernel_rfl
theorem vS:(Rows.fnSubsumedFactRow.kinds == (if Rows.fnSubsumedFactRow.domain.isEmpty then [] else Tryz.f5.params.toList.map fun t=>match Tryz.checked.prog.underlying t with|some (.int k)=>some k|_=>none))=true:=by kernel_rfl
theorem uH:(Rows.fnSubsumedFactRow.pinned == Rows.fnSubsumedFactRow.pinnedBy)=true:=by kernel_rfl
theorem uY:(Rows.fnSubsumedFactRow.veiled == (Tryz.f5.params.toList++Rows.fnSubsumedFactSpec.plain.varTypes Tryz.checked.prog++Tryz.f5.resultTypes.toList).any (Tryz.checked.prog.veiledRec ·))=true:=by kernel_rfl
theorem uW:Rows.fnSubsumedFactRow.veiledFits Tryz.checked.prog Tryz.f5.params.toList (Tryz.f5.params.toList++Rows.fnSubsumedFactSpec.plain.varTypes Tryz.checked.prog++Tryz.f5.resultTypes.toList)=true:=by kernel_rfl
set_option maxRecDepth 100000 in
theorem rl:joinedFacts Tryz.checked.prog aW Tryz.f5 Rows.fnSubsumedFactSpec Rows.fnSubsumedFactRow=true:=by
 unfold joinedFacts
 exact aG (aG (aG (aG (aG (aG (aG (aG (aG (aG (aG (aG (aG (aG (aG (aG (aG (aG (aG (aG (aG (aG (aG (aG (aG (aG (aG (aG (aG (aG (aG wV wh) wO) wy) wD) wj) wt) wW) xq) wI) uz) vN) vM) uU) vK) ve) uL) uC) vQ) vD) uA) uG) uR) vz) vx) uQ) vG) vO) vS) uH) uY) uW
theorem rW:Tryz.checked.prog.funcNamed Rows.fnSubsumedFactRow.func=some aW:=by kernel_rfl
theorem tu:Tryz.f5.isInstance Tryz.checked.prog Rows.fnSubsumedFactRow.origin Rows.fnSubsumedFactRow.targs:=of_decide_eq_true (by kernel_rfl)
theorem tU:Tryz.f5.isWrapper Tryz.checked.prog Rows.fnSubsumedFactRow.wrapper Rows.fnSubsumedFactRow.mainSum:=by unfold Func.isWrapper; first|(rw [if_pos (by decide +kernel)]; kernel_rfl)|(rw [if_neg (by decide +kernel)]; exact ⟨rfl,rfl⟩)
theorem pFact_holds:Rows.FnSubsumedFactSaid:=
 OpenClaim.holds_of_wide aW Tryz.f5 rfl rfl rfl rfl rfl rfl rfl ⟨rfl,rfl,rfl,rfl,rfl⟩ rfl rfl rfl rfl rfl rW Tryz.func5 rl tu tU
  (fun os started H enc _=>qo os started H enc)

#print axioms pFact_holds
end Go.Proofs.YtmnnpgdeecnfpaaGreat
