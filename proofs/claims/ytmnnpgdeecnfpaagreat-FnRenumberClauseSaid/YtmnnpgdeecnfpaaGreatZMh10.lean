/- FnRenumberClause returns true, whatever bytes come in, and leaves them as they were. No condition. -/
import Derived.Test.YtmnnpgdeecnfpaaGreatZMh9
namespace Go.Proofs.YtmnnpgdeecnfpaaGreat
open Go Go.ChangeShapes Go.WideShapes Go.ChangeAt Go.RowKit

set_option maxRecDepth 100000 in
theorem yB (os:Os) (started:os.Started) (H:Type) (enc:TypeId × Value->H) :
  ReturnsInHanded {} Tryz.checked os cn .any (Rows.fnRenumberClauseSpec.pre6 enc Tryz.prog Tryz.f8 Rows.fnRenumberClauseRow.domain false)
   (Rows.fnRenumberClauseSpec.post enc Tryz.prog Tryz.f8 false true false false):=by
 refine returnsInHanded_of_change (C:=Tryz.checked) Tryz.own started (by kernel_rfl) Tryz.func8
  (ChangeSpec.witness6 (enc:=enc) (C:=Tryz.checked) false ⟨#[],#[.slice none 0 0],[]⟩ 8 (by kernel_rfl) (by kernel_rfl) (by kernel_rfl) (by kernel_rfl)) ?_
 intro W base args ds gs before hval0 hW _ _
 have hval:∀ (j:Nat) t v,Tryz.f8.params[j]?=some t->args[j]?=some v->Value.okWide Tryz.prog W .any base t v:=hval0
 have hW':=hW
 obtain ⟨p,q,hA0,hV,hb,_,_⟩:=hW
 have hA:DataW.TrodAll enc Tryz.prog W 0 (fun _=>true) true Tryz.f8.params.toList args.toList ds p:=hA0
 have hA1:=hA
 rw [Tryz.params8] at hA1 hval
 obtain ⟨v0,d0,rfl,rfl,h0⟩:=trodAll_one hA1
 obtain ⟨n,hn⟩:=h0
 obtain rfl:=(trodVars_none (show DataW.TrodVars enc Tryz.prog W (fun _=>true) [] gs q from hV)).1
 obtain ⟨a,len,cap,rfl⟩:=okWide_slice (qR dO).1 (hval 0 _ _ rfl rfl)
 obtain ⟨xs,hxs⟩:=Az hn
 refine (vI hxs W (Inv.entry W)).mono fun e W' ⟨he,hI⟩=>?_
 subst he
 exact ⟨_,rfl,CR hW' hA hV hb rfl (by rw [Tryz.params8]; decide +kernel) (by kernel_rfl) rfl rfl rfl hI⟩

theorem bD {a b:Bool} (ha:a=true) (hb:b=true):(a && b)=true:=by rw [ha,hb]; rfl
theorem Et:Rows.fnRenumberClauseRow.wf (OpenSpec.ofChange Rows.fnRenumberClauseSpec)=true:=by kernel_rfl
theorem EN:laidOutB Tryz.checked.prog=true:=by kernel_rfl
theorem EJ:mapsRowed Tryz.checked.prog=true:=by kernel_rfl
theorem EA:Tryz.f8.params.all (Tryz.checked.prog.readableRec ·)=true:=by kernel_rfl
theorem EM:namedTie Tryz.checked.prog Rows.fnRenumberClauseRow.named Rows.fnRenumberClauseSpec.vars=true:=by kernel_rfl
theorem EU:(Rows.fnRenumberClauseRow.stops == [])=true:=by kernel_rfl
theorem ED:(Tryz.checked.prog.stops == [])=true:=by kernel_rfl
theorem Ew:(Rows.fnRenumberClauseRow.knobs == [])=true:=by kernel_rfl
theorem EC:(Tryz.checked.prog.stopKnobs == [])=true:=by kernel_rfl
theorem Ev:(Rows.fnRenumberClauseRow.inPlace == Tryz.checked.prog.inPlace cn)=true:=by kernel_rfl
theorem DM:(Rows.fnRenumberClauseRow.unfollowed == Tryz.checked.prog.unfollowed cn)=true:=by kernel_rfl
theorem Ds:(Rows.fnRenumberClauseRow.recurses == Tryz.checked.prog.recurses cn)=true:=by kernel_rfl
theorem En:(Rows.fnRenumberClauseRow.named == Tryz.checked.prog.varsNamed cn)=true:=by kernel_rfl
theorem Eo:(Rows.fnRenumberClauseRow.maps == (Tryz.f8.params.toList++Rows.fnRenumberClauseSpec.plain.varTypes Tryz.checked.prog).any (Tryz.checked.prog.mapsRec ·))=true:=by kernel_rfl
theorem Do:(Rows.fnRenumberClauseRow.ifaces == (Tryz.f8.params.toList++Rows.fnRenumberClauseSpec.plain.varTypes Tryz.checked.prog).any (Tryz.checked.prog.ifacesRec ·))=true:=by kernel_rfl
theorem C5:(Rows.fnRenumberClauseRow.mapsOut == Tryz.checked.prog.mapsAmong Tryz.f8.resultTypes.toList)=true:=by kernel_rfl
theorem DE:(Rows.fnRenumberClauseRow.loops == (Tryz.f8.params.toList++Rows.fnRenumberClauseSpec.plain.varTypes Tryz.checked.prog).any (Tryz.checked.prog.loopsFrom ·))=true:=by kernel_rfl
theorem DH:(Rows.fnRenumberClauseRow.wideKeys == (Tryz.f8.params.toList++Rows.fnRenumberClauseSpec.plain.varTypes Tryz.checked.prog++Tryz.f8.resultTypes.toList).any (Tryz.checked.prog.wideKeysFrom ·))=true:=by kernel_rfl
theorem DP:Rows.fnRenumberClauseSpec.vars.all (Tryz.checked.prog.varReadable ·)=true:=by kernel_rfl
theorem Db:Tryz.f8.resultTypes.all (fun t=>Tryz.checked.prog.readableRec t && decide (t<Tryz.checked.prog.types.size))=true:=by kernel_rfl
theorem DA:(Rows.fnRenumberClauseRow.ifacesOut == Tryz.f8.resultTypes.toList.any (Tryz.checked.prog.ifacesRec ·))=true:=by kernel_rfl
theorem Dp:(Rows.fnRenumberClauseRow.loopsOut == Tryz.f8.resultTypes.toList.any (Tryz.checked.prog.loopsFrom ·))=true:=by kernel_rfl
theorem Dw:(Rows.fnRenumberClauseRow.plainKeys == Tryz.checked.prog.plainKeys)=true:=by kernel_rfl
theorem Dv:Rows.fnRenumberClauseRow.shortTexts.isNone=true:=by kernel_rfl
theorem DK:Tryz.checked.prog.stopsHeard=true:=by kernel_rfl
theorem DT:Tryz.checked.prog.mayEnter=true:=by kernel_rfl
theorem Dc:(Rows.fnRenumberClauseRow.lifted == Tryz.checked.prog.liftsFinal)=true:=by kernel_rfl
theorem DS:(Tryz.checked.prog.make == some Rows.fnRenumberClauseRow.make)=true:=by kernel_rfl
theorem DF:(Rows.fnRenumberClauseRow.kinds == (if Rows.fnRenumberClauseRow.domain.isEmpty then [] else Tryz.f8.params.toList.map fun t=>match Tryz.checked.prog.underlying t with|some (.int k)=>some k|_=>none))=true:=by kernel_rfl
theorem D7:(Rows.fnRenumberClauseRow.pinned == Rows.fnRenumberClauseRow.pinnedBy)=true:=by kernel_rfl
theorem Ed:(Rows.fnRenumberClauseRow.veiled == (Tryz.f8.params.toList++Rows.fnRenumberClauseSpec.plain.varTypes Tryz.checked.prog++Tryz.f8.resultTypes.toList).any (Tryz.checked.prog.veiledRec ·))=true:=by kernel_rfl
theorem Eg:Rows.fnRenumberClauseRow.veiledFits Tryz.checked.prog Tryz.f8.params.toList (Tryz.f8.params.toList++Rows.fnRenumberClauseSpec.plain.varTypes Tryz.checked.prog++Tryz.f8.resultTypes.toList)=true:=by kernel_rfl
set_option maxRecDepth 100000 in
theorem zk:joinedFacts Tryz.checked.prog cn Tryz.f8 Rows.fnRenumberClauseSpec Rows.fnRenumberClauseRow=true:=by
 unfold joinedFacts
 exact bD (bD (bD (bD (bD (bD (bD (bD (bD (bD (bD (bD (bD (bD (bD (bD (bD (bD (bD (bD (bD (bD (bD (bD (bD (bD (bD (bD (bD (bD (bD Et EN) EJ) EA) EM) EU) ED) Ew) EC) Ev) DM) Ds) En) Eo) Do) C5) DE) DH) DP) Db) DA) Dp) Dw) Dv) DK) DT) Dc) DS) DF) D7) Ed) Eg
theorem BA:Tryz.checked.prog.funcNamed Rows.fnRenumberClauseRow.func=some cn:=by kernel_rfl
theorem CG:Tryz.f8.isInstance Tryz.checked.prog Rows.fnRenumberClauseRow.origin Rows.fnRenumberClauseRow.targs:=of_decide_eq_true (by kernel_rfl)
theorem CQ:Tryz.f8.isWrapper Tryz.checked.prog Rows.fnRenumberClauseRow.wrapper Rows.fnRenumberClauseRow.mainSum:=by unfold Func.isWrapper; first|(rw [if_pos (by decide +kernel)]; kernel_rfl)|(rw [if_neg (by decide +kernel)]; exact ⟨rfl,rfl⟩)
theorem pRen_holds:Rows.FnRenumberClauseSaid:=
 OpenClaim.holds_of_wide cn Tryz.f8 rfl rfl rfl rfl rfl rfl rfl ⟨rfl,rfl,rfl,rfl,rfl⟩ rfl rfl rfl rfl rfl BA Tryz.func8 zk CG CQ
  (fun os started H enc _=>yB os started H enc)

#print axioms pRen_holds
end Go.Proofs.YtmnnpgdeecnfpaaGreat
