/- FnUsedClauses returns true, whatever bytes come in, and leaves them as they were. No condition. -/
import Derived.Test.YtfcbhfjomgopbaaGreatZFu34
namespace Go.Proofs.YtfcbhfjomgopbaaGreat
open Go Go.ChangeShapes Go.WideShapes Go.ChangeAt Go.RowKit

set_option maxRecDepth 100000 in
theorem MS (os:Os) (started:os.Started) (H:Type) (enc:TypeId × Value->H) :
  ReturnsInHanded {} Tryz.checked os cR .any (Rows.fnUsedClausesSpec.pre6 enc Tryz.prog Tryz.f5 Rows.fnUsedClausesRow.domain false)
   (Rows.fnUsedClausesSpec.post enc Tryz.prog Tryz.f5 false true false false):=by
 refine returnsInHanded_of_change (C:=Tryz.checked) Tryz.own started (by kernel_rfl) Tryz.func5
  (ChangeSpec.witness6 (enc:=enc) (C:=Tryz.checked) false ⟨#[],#[.slice none 0 0],[]⟩ 8 (by kernel_rfl) (by kernel_rfl) (by kernel_rfl) (by kernel_rfl)) ?_
 intro W base args ds gs before hval0 hW _ _
 have hval:∀ (j:Nat) t v,Tryz.f5.params[j]?=some t->args[j]?=some v->Value.okWide Tryz.prog W .any base t v:=hval0
 have hW':=hW
 obtain ⟨p,q,hA0,hV,hb,_,_⟩:=hW
 have hA:DataW.TrodAll enc Tryz.prog W 0 (fun _=>true) true Tryz.f5.params.toList args.toList ds p:=hA0
 have hA1:=hA
 rw [Tryz.params5] at hA1 hval
 obtain ⟨v0,d0,rfl,rfl,h0⟩:=trodAll_one hA1
 obtain ⟨n,hn⟩:=h0
 obtain rfl:=(trodVars_none (show DataW.TrodVars enc Tryz.prog W (fun _=>true) [] gs q from hV)).1
 obtain ⟨a,len,cap,rfl⟩:=okWide_slice (pX dN).1 (hval 0 _ _ rfl rfl)
 obtain ⟨xs,hxs⟩:=C6 hn
 refine (CF hxs W (Inv.entry W)).mono fun e W' ⟨he,hI⟩=>?_
 subst he
 exact ⟨_,rfl,Fw hW' hA hV hb rfl (by rw [Tryz.params5]; decide +kernel) (by kernel_rfl) rfl rfl rfl hI⟩

theorem ct {a b:Bool} (ha:a=true) (hb:b=true):(a && b)=true:=by rw [ha,hb]; rfl
theorem R3:Rows.fnUsedClausesRow.wf (OpenSpec.ofChange Rows.fnUsedClausesSpec)=true:=by kernel_rfl
theorem SI:laidOutB Tryz.checked.prog=true:=by kernel_rfl
theorem RW:mapsRowed Tryz.checked.prog=true:=by kernel_rfl
theorem R8:Tryz.f5.params.all (Tryz.checked.prog.readableRec ·)=true:=by kernel_rfl
theorem SE:namedTie Tryz.checked.prog Rows.fnUsedClausesRow.named Rows.fnUsedClausesSpec.vars=true:=by kernel_rfl
theorem Sw:(Rows.fnUsedClausesRow.stops == [])=true:=by kernel_rfl
theorem SK:(Tryz.checked.prog.stops == [])=true:=by kernel_rfl
theorem R9:(Rows.fnUsedClausesRow.knobs == [])=true:=by kernel_rfl
theorem SB:(Tryz.checked.prog.stopKnobs == [])=true:=by kernel_rfl
theorem Sd:(Rows.fnUsedClausesRow.inPlace == Tryz.checked.prog.inPlace cR)=true:=by kernel_rfl
theorem Qq:(Rows.fnUsedClausesRow.unfollowed == Tryz.checked.prog.unfollowed cR)=true:=by kernel_rfl
theorem QQ:(Rows.fnUsedClausesRow.recurses == Tryz.checked.prog.recurses cR)=true:=by kernel_rfl
theorem RE:(Rows.fnUsedClausesRow.named == Tryz.checked.prog.varsNamed cR)=true:=by kernel_rfl
theorem Qc:(Rows.fnUsedClausesRow.maps == (Tryz.f5.params.toList++Rows.fnUsedClausesSpec.plain.varTypes Tryz.checked.prog).any (Tryz.checked.prog.mapsRec ·))=true:=by kernel_rfl
theorem Qj:(Rows.fnUsedClausesRow.ifaces == (Tryz.f5.params.toList++Rows.fnUsedClausesSpec.plain.varTypes Tryz.checked.prog).any (Tryz.checked.prog.ifacesRec ·))=true:=by kernel_rfl
theorem RA:(Rows.fnUsedClausesRow.mapsOut == Tryz.checked.prog.mapsAmong Tryz.f5.resultTypes.toList)=true:=by kernel_rfl
theorem Qt:(Rows.fnUsedClausesRow.loops == (Tryz.f5.params.toList++Rows.fnUsedClausesSpec.plain.varTypes Tryz.checked.prog).any (Tryz.checked.prog.loopsFrom ·))=true:=by kernel_rfl
theorem Rc:(Rows.fnUsedClausesRow.wideKeys == (Tryz.f5.params.toList++Rows.fnUsedClausesSpec.plain.varTypes Tryz.checked.prog++Tryz.f5.resultTypes.toList).any (Tryz.checked.prog.wideKeysFrom ·))=true:=by kernel_rfl
theorem Rq:Rows.fnUsedClausesSpec.vars.all (Tryz.checked.prog.varReadable ·)=true:=by kernel_rfl
theorem QB:Tryz.f5.resultTypes.all (fun t=>Tryz.checked.prog.readableRec t && decide (t<Tryz.checked.prog.types.size))=true:=by kernel_rfl
theorem Qz:(Rows.fnUsedClausesRow.ifacesOut == Tryz.f5.resultTypes.toList.any (Tryz.checked.prog.ifacesRec ·))=true:=by kernel_rfl
theorem Q6:(Rows.fnUsedClausesRow.loopsOut == Tryz.f5.resultTypes.toList.any (Tryz.checked.prog.loopsFrom ·))=true:=by kernel_rfl
theorem QG:(Rows.fnUsedClausesRow.plainKeys == Tryz.checked.prog.plainKeys)=true:=by kernel_rfl
theorem QV:Rows.fnUsedClausesRow.shortTexts.isNone=true:=by kernel_rfl
theorem Q9:Tryz.checked.prog.stopsHeard=true:=by kernel_rfl
theorem QO:Tryz.checked.prog.mayEnter=true:=by kernel_rfl
theorem Rl:(Rows.fnUsedClausesRow.lifted == Tryz.checked.prog.liftsFinal)=true:=by kernel_rfl
theorem Q4:(Tryz.checked.prog.make == some Rows.fnUsedClausesRow.make)=true:=by kernel_rfl
theorem QD:(Rows.fnUsedClausesRow.kinds == (if Rows.fnUsedClausesRow.domain.isEmpty then [] else Tryz.f5.params.toList.map fun t=>match Tryz.checked.prog.underlying t with|some (.int k)=>some k|_=>none))=true:=by kernel_rfl
theorem RB:(Rows.fnUsedClausesRow.pinned == Rows.fnUsedClausesRow.pinnedBy)=true:=by kernel_rfl
theorem Qb:(Rows.fnUsedClausesRow.veiled == (Tryz.f5.params.toList++Rows.fnUsedClausesSpec.plain.varTypes Tryz.checked.prog++Tryz.f5.resultTypes.toList).any (Tryz.checked.prog.veiledRec ·))=true:=by kernel_rfl
theorem QF:Rows.fnUsedClausesRow.veiledFits Tryz.checked.prog Tryz.f5.params.toList (Tryz.f5.params.toList++Rows.fnUsedClausesSpec.plain.varTypes Tryz.checked.prog++Tryz.f5.resultTypes.toList)=true:=by kernel_rfl
set_option maxRecDepth 100000 in
theorem Lb:joinedFacts Tryz.checked.prog cR Tryz.f5 Rows.fnUsedClausesSpec Rows.fnUsedClausesRow=true:=by
 unfold joinedFacts
 exact ct (ct (ct (ct (ct (ct (ct (ct (ct (ct (ct (ct (ct (ct (ct (ct (ct (ct (ct (ct (ct (ct (ct (ct (ct (ct (ct (ct (ct (ct (ct R3 SI) RW) R8) SE) Sw) SK) R9) SB) Sd) Qq) QQ) RE) Qc) Qj) RA) Qt) Rc) Rq) QB) Qz) Q6) QG) QV) Q9) QO) Rl) Q4) QD) RB) Qb) QF
theorem NX:Tryz.checked.prog.funcNamed Rows.fnUsedClausesRow.func=some cR:=by kernel_rfl
theorem Pr:Tryz.f5.isInstance Tryz.checked.prog Rows.fnUsedClausesRow.origin Rows.fnUsedClausesRow.targs:=of_decide_eq_true (by kernel_rfl)
theorem Pj:Tryz.f5.isWrapper Tryz.checked.prog Rows.fnUsedClausesRow.wrapper Rows.fnUsedClausesRow.mainSum:=by unfold Func.isWrapper; first|(rw [if_pos (by decide +kernel)]; kernel_rfl)|(rw [if_neg (by decide +kernel)]; exact ⟨rfl,rfl⟩)
theorem pUs_holds:Rows.FnUsedClausesSaid:=
 OpenClaim.holds_of_wide cR Tryz.f5 rfl rfl rfl rfl rfl rfl rfl ⟨rfl,rfl,rfl,rfl,rfl⟩ rfl rfl rfl rfl rfl NX Tryz.func5 Lb Pr Pj
  (fun os started H enc _=>MS os started H enc)

#print axioms pUs_holds
end Go.Proofs.YtfcbhfjomgopbaaGreat
