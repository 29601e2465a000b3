/- FnModelMore returns true, whatever bytes come in, and leaves them as they were. No condition. -/
import Derived.Test.YtemmhhdnlbmicaaGreatZMe11
namespace Go.Proofs.YtemmhhdnlbmicaaGreat
open Go Go.ChangeShapes Go.WideShapes Go.ChangeAt Go.RowKit

set_option maxRecDepth 100000 in
theorem AH (os:Os) (started:os.Started) (H:Type) (enc:TypeId × Value->H) :
  ReturnsInHanded {} Tryz.checked os dJ .any (Rows.fnModelMoreSpec.pre6 enc Tryz.prog Tryz.f5 Rows.fnModelMoreRow.domain false)
   (Rows.fnModelMoreSpec.post enc Tryz.prog Tryz.f5 false true false false):=by
 refine returnsInHanded_of_change (C:=Tryz.checked) Tryz.own started (by kernel_rfl) Tryz.func5
  (ChangeSpec.witness6 (enc:=enc) (C:=Tryz.checked) false ⟨#[],#[.slice none 0 0,.slice none 0 0],[]⟩ 8 (by kernel_rfl) (by kernel_rfl) (by kernel_rfl) (by kernel_rfl)) ?_
 intro W base args ds gs before hval0 hW _ _
 have hval:∀ (j:Nat) t v,Tryz.f5.params[j]?=some t->args[j]?=some v->Value.okWide Tryz.prog W .any base t v:=hval0
 have hW':=hW
 obtain ⟨p,q,hA0,hV,hb,_,_⟩:=hW
 have hA:DataW.TrodAll enc Tryz.prog W 0 (fun _=>true) true Tryz.f5.params.toList args.toList ds p:=hA0
 have hA1:=hA
 rw [Tryz.params5] at hA1 hval
 obtain ⟨v0,v1,d0,d1,p0,p1,rfl,rfl,_,h0,h1⟩:=trodAll_two hA1
 obtain ⟨n,hn⟩:=h0
 obtain ⟨n1,hn1⟩:=h1
 obtain rfl:=(trodVars_none (show DataW.TrodVars enc Tryz.prog W (fun _=>true) [] gs q from hV)).1
 obtain ⟨a,len,cap,rfl⟩:=okWide_slice (oI dV).1 (hval 0 _ _ rfl rfl)
 obtain ⟨a1,len1,cap1,rfl⟩:=okWide_slice (oI dV).1 (hval 1 _ _ rfl rfl)
 obtain ⟨xs,hxs⟩:=yH hn
 obtain ⟨xs1,hxs1⟩:=yH hn1
 refine (xw hxs hxs1 W (Inv.entry W)).mono fun e W' ⟨he,hI⟩=>?_
 subst he
 exact ⟨_,rfl,Ju hW' hA hV hb rfl (by rw [Tryz.params5]; decide +kernel) (by kernel_rfl) rfl rfl rfl hI⟩

theorem bJ {a b:Bool} (ha:a=true) (hb:b=true):(a && b)=true:=by rw [ha,hb]; rfl
theorem Kd:Rows.fnModelMoreRow.wf (OpenSpec.ofChange Rows.fnModelMoreSpec)=true:=by kernel_rfl
theorem JN:laidOutB Tryz.checked.prog=true:=by kernel_rfl
theorem JO:mapsRowed Tryz.checked.prog=true:=by kernel_rfl
theorem Kf:Tryz.f5.params.all (Tryz.checked.prog.readableRec ·)=true:=by kernel_rfl
theorem Jq:namedTie Tryz.checked.prog Rows.fnModelMoreRow.named Rows.fnModelMoreSpec.vars=true:=by kernel_rfl
theorem Ka:(Rows.fnModelMoreRow.stops == [])=true:=by kernel_rfl
theorem JW:(Tryz.checked.prog.stops == [])=true:=by kernel_rfl
theorem JU:(Rows.fnModelMoreRow.knobs == [])=true:=by kernel_rfl
theorem Kc:(Tryz.checked.prog.stopKnobs == [])=true:=by kernel_rfl
theorem JP:(Rows.fnModelMoreRow.inPlace == Tryz.checked.prog.inPlace dJ)=true:=by kernel_rfl
theorem G2:(Rows.fnModelMoreRow.unfollowed == Tryz.checked.prog.unfollowed dJ)=true:=by kernel_rfl
theorem HS:(Rows.fnModelMoreRow.recurses == Tryz.checked.prog.recurses dJ)=true:=by kernel_rfl
theorem GW:(Rows.fnModelMoreRow.named == Tryz.checked.prog.varsNamed dJ)=true:=by kernel_rfl
theorem Hi:(Rows.fnModelMoreRow.maps == (Tryz.f5.params.toList++Rows.fnModelMoreSpec.plain.varTypes Tryz.checked.prog).any (Tryz.checked.prog.mapsRec ·))=true:=by kernel_rfl
theorem GE:(Rows.fnModelMoreRow.ifaces == (Tryz.f5.params.toList++Rows.fnModelMoreSpec.plain.varTypes Tryz.checked.prog).any (Tryz.checked.prog.ifacesRec ·))=true:=by kernel_rfl
theorem Ie:(Rows.fnModelMoreRow.mapsOut == Tryz.checked.prog.mapsAmong Tryz.f5.resultTypes.toList)=true:=by kernel_rfl
theorem HA:(Rows.fnModelMoreRow.loops == (Tryz.f5.params.toList++Rows.fnModelMoreSpec.plain.varTypes Tryz.checked.prog).any (Tryz.checked.prog.loopsFrom ·))=true:=by kernel_rfl
theorem GN:(Rows.fnModelMoreRow.wideKeys == (Tryz.f5.params.toList++Rows.fnModelMoreSpec.plain.varTypes Tryz.checked.prog++Tryz.f5.resultTypes.toList).any (Tryz.checked.prog.wideKeysFrom ·))=true:=by kernel_rfl
theorem Hr:Rows.fnModelMoreSpec.vars.all (Tryz.checked.prog.varReadable ·)=true:=by kernel_rfl
theorem GO:Tryz.f5.resultTypes.all (fun t=>Tryz.checked.prog.readableRec t && decide (t<Tryz.checked.prog.types.size))=true:=by kernel_rfl
theorem GT:(Rows.fnModelMoreRow.ifacesOut == Tryz.f5.resultTypes.toList.any (Tryz.checked.prog.ifacesRec ·))=true:=by kernel_rfl
theorem Hg:(Rows.fnModelMoreRow.loopsOut == Tryz.f5.resultTypes.toList.any (Tryz.checked.prog.loopsFrom ·))=true:=by kernel_rfl
theorem H2:(Rows.fnModelMoreRow.plainKeys == Tryz.checked.prog.plainKeys)=true:=by kernel_rfl
theorem Iv:Rows.fnModelMoreRow.shortTexts.isNone=true:=by kernel_rfl
theorem Io:Tryz.checked.prog.stopsHeard=true:=by kernel_rfl
theorem Ih:Tryz.checked.prog.mayEnter=true:=by kernel_rfl
theorem GR:(Rows.fnModelMoreRow.lifted == Tryz.checked.prog.liftsFinal)=true:=by kernel_rfl
theorem HU:(Tryz.checked.prog.make == some Rows.fnModelMoreRow.make)=true:=by kernel_rfl
theorem Hs:(Rows.fnModelMoreRow.kinds == (if Rows.fnModelMoreRow.domain.isEmpty then [] else Tryz.f5.params.toList.map fun t=>match Tryz.checked.prog.underlying t with|some (.int k)=>some k|_=>none))=true:=by kernel_rfl
theorem GL:(Rows.fnModelMoreRow.pinned == Rows.fnModelMoreRow.pinnedBy)=true:=by kernel_rfl
theorem Iq:(Rows.fnModelMoreRow.veiled == (Tryz.f5.params.toList++Rows.fnModelMoreSpec.plain.varTypes Tryz.checked.prog++Tryz.f5.resultTypes.toList).any (Tryz.checked.prog.veiledRec ·))=true:=by kernel_rfl
theorem GY:Rows.fnModelMoreRow.veiledFits Tryz.checked.prog Tryz.f5.params.toList (Tryz.f5.params.toList++Rows.fnModelMoreSpec.plain.varTypes Tryz.checked.prog++Tryz.f5.resultTypes.toList)=true:=by kernel_rfl
set_option maxRecDepth 100000 in
theorem Az:joinedFacts Tryz.checked.prog dJ Tryz.f5 Rows.fnModelMoreSpec Rows.fnModelMoreRow=true:=by
 unfold joinedFacts
 exact bJ (bJ (bJ (bJ (bJ (bJ (bJ (bJ (bJ (bJ (bJ (bJ (bJ (bJ (bJ (bJ (bJ (bJ (bJ (bJ (bJ (bJ (bJ (bJ (bJ (bJ (bJ (bJ (bJ (bJ (bJ Kd JN) JO) Kf) Jq) Ka) JW) JU) Kc) JP) G2) HS) GW) Hi) GE) Ie) HA) GN) Hr) GO) GT) Hg) H2) Iv) Io) Ih) GR) HU) Hs) GL) Iq) GY
theorem DX:Tryz.checked.prog.funcNamed Rows.fnModelMoreRow.func=some dJ:=by kernel_rfl
theorem Fb:Tryz.f5.isInstance Tryz.checked.prog Rows.fnModelMoreRow.origin Rows.fnModelMoreRow.targs:=of_decide_eq_true (by kernel_rfl)
theorem FW:Tryz.f5.isWrapper Tryz.checked.prog Rows.fnModelMoreRow.wrapper Rows.fnModelMoreRow.mainSum:=by unfold Func.isWrapper; first|(rw [if_pos (by decide +kernel)]; kernel_rfl)|(rw [if_neg (by decide +kernel)]; exact ⟨rfl,rfl⟩)
theorem pMMore_holds:Rows.FnModelMoreSaid:=
 OpenClaim.holds_of_wide dJ Tryz.f5 rfl rfl rfl rfl rfl rfl rfl ⟨rfl,rfl,rfl,rfl,rfl⟩ rfl rfl rfl rfl rfl DX Tryz.func5 Az Fb FW
  (fun os started H enc _=>AH os started H enc)

#print axioms pMMore_holds
end Go.Proofs.YtemmhhdnlbmicaaGreat
