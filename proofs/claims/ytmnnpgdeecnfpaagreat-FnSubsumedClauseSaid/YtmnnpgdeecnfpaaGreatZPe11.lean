/- FnSubsumedClause returns true, whatever bytes come in, and leaves them as they were. No condition. -/
import Derived.Test.YtmnnpgdeecnfpaaGreatZPe9
namespace Go.Proofs.YtmnnpgdeecnfpaaGreat
open Go Go.ChangeShapes Go.WideShapes Go.ChangeAt Go.RowKit

set_option maxRecDepth 100000 in
theorem qV (os:Os) (started:os.Started) (H:Type) (enc:TypeId × Value->H) :
  ReturnsInHanded {} Tryz.checked os aT .any (Rows.fnSubsumedClauseSpec.pre6 enc Tryz.prog Tryz.f4 Rows.fnSubsumedClauseRow.domain false)
   (Rows.fnSubsumedClauseSpec.post enc Tryz.prog Tryz.f4 false true false false):=by
 refine returnsInHanded_of_change (C:=Tryz.checked) Tryz.own started (by kernel_rfl) Tryz.func4
  (ChangeSpec.witness6 (enc:=enc) (C:=Tryz.checked) false ⟨#[],#[.slice none 0 0,.slice none 0 0],[]⟩ 8 (by kernel_rfl) (by kernel_rfl) (by kernel_rfl) (by kernel_rfl)) ?_
 intro W base args ds gs before hval0 hW _ _
 have hval:∀ (j:Nat) t v,Tryz.f4.params[j]?=some t->args[j]?=some v->Value.okWide Tryz.prog W .any base t v:=hval0
 have hW':=hW
 obtain ⟨p,q,hA0,hV,hb,_,_⟩:=hW
 have hA:DataW.TrodAll enc Tryz.prog W 0 (fun _=>true) true Tryz.f4.params.toList args.toList ds p:=hA0
 have hA1:=hA
 rw [Tryz.params4] at hA1 hval
 obtain ⟨v0,v1,d0,d1,p0,p1,rfl,rfl,_,h0,h1⟩:=trodAll_two hA1
 obtain ⟨n,hn⟩:=h0
 obtain ⟨n1,hn1⟩:=h1
 obtain rfl:=(trodVars_none (show DataW.TrodVars enc Tryz.prog W (fun _=>true) [] gs q from hV)).1
 obtain ⟨a,len,cap,rfl⟩:=okWide_slice (dG bi).1 (hval 0 _ _ rfl rfl)
 obtain ⟨a1,len1,cap1,rfl⟩:=okWide_slice (dG bi).1 (hval 1 _ _ rfl rfl)
 obtain ⟨xs,hxs⟩:=iw hn
 obtain ⟨xs1,hxs1⟩:=iw hn1
 refine (ou hxs hxs1 W (Inv.entry W)).mono fun e W' ⟨he,hI⟩=>?_
 subst he
 exact ⟨_,rfl,pK hW' hA hV hb rfl (by rw [Tryz.params4]; decide +kernel) (by kernel_rfl) rfl rfl rfl hI⟩

theorem aF {a b:Bool} (ha:a=true) (hb:b=true):(a && b)=true:=by rw [ha,hb]; rfl
theorem xr:Rows.fnSubsumedClauseRow.wf (OpenSpec.ofChange Rows.fnSubsumedClauseSpec)=true:=by kernel_rfl
theorem wM:laidOutB Tryz.checked.prog=true:=by kernel_rfl
theorem xi:mapsRowed Tryz.checked.prog=true:=by kernel_rfl
theorem vX:Tryz.f4.params.all (Tryz.checked.prog.readableRec ·)=true:=by kernel_rfl
theorem xg:namedTie Tryz.checked.prog Rows.fnSubsumedClauseRow.named Rows.fnSubsumedClauseSpec.vars=true:=by kernel_rfl
theorem xl:(Rows.fnSubsumedClauseRow.stops == [])=true:=by kernel_rfl
theorem xh:(Tryz.checked.prog.stops == [])=true:=by kernel_rfl
theorem xf:(Rows.fnSubsumedClauseRow.knobs == [])=true:=by kernel_rfl
theorem xo:(Tryz.checked.prog.stopKnobs == [])=true:=by kernel_rfl
theorem wK:(Rows.fnSubsumedClauseRow.inPlace == Tryz.checked.prog.inPlace aT)=true:=by kernel_rfl
theorem vw:(Rows.fnSubsumedClauseRow.unfollowed == Tryz.checked.prog.unfollowed aT)=true:=by kernel_rfl
theorem uB:(Rows.fnSubsumedClauseRow.recurses == Tryz.checked.prog.recurses aT)=true:=by kernel_rfl
theorem uK:(Rows.fnSubsumedClauseRow.named == Tryz.checked.prog.varsNamed aT)=true:=by kernel_rfl
theorem vy:(Rows.fnSubsumedClauseRow.maps == (Tryz.f4.params.toList++Rows.fnSubsumedClauseSpec.plain.varTypes Tryz.checked.prog).any (Tryz.checked.prog.mapsRec ·))=true:=by kernel_rfl
theorem vJ:(Rows.fnSubsumedClauseRow.ifaces == (Tryz.f4.params.toList++Rows.fnSubsumedClauseSpec.plain.varTypes Tryz.checked.prog).any (Tryz.checked.prog.ifacesRec ·))=true:=by kernel_rfl
theorem vj:(Rows.fnSubsumedClauseRow.mapsOut == Tryz.checked.prog.mapsAmong Tryz.f4.resultTypes.toList)=true:=by kernel_rfl
theorem vA:(Rows.fnSubsumedClauseRow.loops == (Tryz.f4.params.toList++Rows.fnSubsumedClauseSpec.plain.varTypes Tryz.checked.prog).any (Tryz.checked.prog.loopsFrom ·))=true:=by kernel_rfl
theorem uZ:(Rows.fnSubsumedClauseRow.wideKeys == (Tryz.f4.params.toList++Rows.fnSubsumedClauseSpec.plain.varTypes Tryz.checked.prog++Tryz.f4.resultTypes.toList).any (Tryz.checked.prog.wideKeysFrom ·))=true:=by kernel_rfl
theorem vo:Rows.fnSubsumedClauseSpec.vars.all (Tryz.checked.prog.varReadable ·)=true:=by kernel_rfl
theorem vB:Tryz.f4.resultTypes.all (fun t=>Tryz.checked.prog.readableRec t && decide (t<Tryz.checked.prog.types.size))=true:=by kernel_rfl
theorem uD:(Rows.fnSubsumedClauseRow.ifacesOut == Tryz.f4.resultTypes.toList.any (Tryz.checked.prog.ifacesRec ·))=true:=by kernel_rfl
theorem uT:(Rows.fnSubsumedClauseRow.loopsOut == Tryz.f4.resultTypes.toList.any (Tryz.checked.prog.loopsFrom ·))=true:=by kernel_rfl
theorem vm:(Rows.fnSubsumedClauseRow.plainKeys == Tryz.checked.prog.plainKeys)=true:=by kernel_rfl
theorem vk:Rows.fnSubsumedClauseRow.shortTexts.isNone=true:=by kernel_rfl
theorem vR:Tryz.checked.prog.stopsHeard=true:=by kernel_rfl
theorem vL:Tryz.checked.prog.mayEnter=true:=by kernel_rfl
theorem uX:(Rows.fnSubsumedClauseRow.lifted == Tryz.checked.prog.liftsFinal)=true:=by kernel_rfl
theorem vb:(Tryz.checked.prog.make == some Rows.fnSubsumedClauseRow.make)=true:=by kernel_rfl
theorem vl:(Rows.fnSubsumedClauseRow.kinds == (if Rows.fnSubsumedClauseRow.domain.isEmpty then [] else Tryz.f4.params.toList.map fun t=>match Tryz.checked.prog.underlying t with|some (.int k)=>some k|_=>none))=true:=by kernel_rfl
theorem vg:(Rows.fnSubsumedClauseRow.pinned == Rows.fnSubsumedClauseRow.pinnedBy)=true:=by kernel_rfl
theorem vi:(Rows.fnSubsumedClauseRow.veiled == (Tryz.f4.params.toList++Rows.fnSubsumedClauseSpec.plain.varTypes Tryz.checked.prog++Tryz.f4.resultTypes.toList).any (Tryz.checked.prog.veiledRec ·))=true:=by kernel_rfl
theorem uF:Rows.fnSubsumedClauseRow.veiledFits Tryz.checked.prog Tryz.f4.params.toList (Tryz.f4.params.toList++Rows.fnSubsumedClauseSpec.plain.varTypes Tryz.checked.prog++Tryz.f4.resultTypes.toList)=true:=by kernel_rfl
set_option maxRecDepth 100000 in
theorem qH:joinedFacts Tryz.checked.prog aT Tryz.f4 Rows.fnSubsumedClauseSpec Rows.fnSubsumedClauseRow=true:=by
 unfold joinedFacts
 exact aF (aF (aF (aF (aF (aF (aF (aF (aF (aF (aF (aF (aF (aF (aF (aF (aF (aF (aF (aF (aF (aF (aF (aF (aF (aF (aF (aF (aF (aF (aF xr wM) xi) vX) xg) xl) xh) xf) xo) wK) vw) uB) uK) vy) vJ) vj) vA) uZ) vo) vB) uD) uT) vm) vk) vR) vL) uX) vb) vl) vg) vi) uF
theorem sK:Tryz.checked.prog.funcNamed Rows.fnSubsumedClauseRow.func=some aT:=by kernel_rfl
theorem sQ:Tryz.f4.isInstance Tryz.checked.prog Rows.fnSubsumedClauseRow.origin Rows.fnSubsumedClauseRow.targs:=of_decide_eq_true (by kernel_rfl)
theorem tx:Tryz.f4.isWrapper Tryz.checked.prog Rows.fnSubsumedClauseRow.wrapper Rows.fnSubsumedClauseRow.mainSum:=by unfold Func.isWrapper; first|(rw [if_pos (by decide +kernel)]; kernel_rfl)|(rw [if_neg (by decide +kernel)]; exact ⟨rfl,rfl⟩)
theorem pSubs_holds:Rows.FnSubsumedClauseSaid:=
 OpenClaim.holds_of_wide aT Tryz.f4 rfl rfl rfl rfl rfl rfl rfl ⟨rfl,rfl,rfl,rfl,rfl⟩ rfl rfl rfl rfl rfl sK Tryz.func4 qH sQ tx
  (fun os started H enc _=>qV os started H enc)

#print axioms pSubs_holds
end Go.Proofs.YtmnnpgdeecnfpaaGreat
