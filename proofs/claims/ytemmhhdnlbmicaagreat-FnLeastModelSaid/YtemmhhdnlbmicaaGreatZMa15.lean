/- FnLeastModel returns true, whatever bytes come in, and leaves them as they were. No condition. -/
import Derived.Test.YtemmhhdnlbmicaaGreatZMa12
namespace Go.Proofs.YtemmhhdnlbmicaaGreat
open Go Go.ChangeShapes Go.WideShapes Go.ChangeAt Go.RowKit

set_option maxRecDepth 100000 in
theorem CB (os:Os) (started:os.Started) (H:Type) (enc:TypeId × Value->H) :
  ReturnsInHanded {} Tryz.checked os dL .any (Rows.fnLeastModelSpec.pre6 enc Tryz.prog Tryz.f7 Rows.fnLeastModelRow.domain false)
   (Rows.fnLeastModelSpec.post enc Tryz.prog Tryz.f7 false true false false):=by
 refine returnsInHanded_of_change (C:=Tryz.checked) Tryz.own started (by kernel_rfl) Tryz.func7
  (ChangeSpec.witness6 (enc:=enc) (C:=Tryz.checked) false ⟨#[],#[.slice none 0 0],[]⟩ 8 (by kernel_rfl) (by kernel_rfl) (by kernel_rfl) (by kernel_rfl)) ?_
 intro W base args ds gs before hval0 hW _ _
 have hval:∀ (j:Nat) t v,Tryz.f7.params[j]?=some t->args[j]?=some v->Value.okWide Tryz.prog W .any base t v:=hval0
 have hW':=hW
 obtain ⟨p,q,hA0,hV,hb,_,_⟩:=hW
 have hA:DataW.TrodAll enc Tryz.prog W 0 (fun _=>true) true Tryz.f7.params.toList args.toList ds p:=hA0
 have hA1:=hA
 rw [Tryz.params7] at hA1 hval
 obtain ⟨v0,d0,rfl,rfl,h0⟩:=trodAll_one hA1
 obtain ⟨n,hn⟩:=h0
 obtain rfl:=(trodVars_none (show DataW.TrodVars enc Tryz.prog W (fun _=>true) [] gs q from hV)).1
 obtain ⟨a,len,cap,rfl⟩:=okWide_slice (lm dU).1 (hval 0 _ _ rfl rfl)
 obtain ⟨xs,hxs⟩:=rC hn
 refine (zg hxs W (Inv.entry W)).mono fun e W' ⟨he,hI⟩=>?_
 subst he
 exact ⟨_,rfl,vG hW' hA hV hb rfl (by rw [Tryz.params7]; decide +kernel) (by kernel_rfl) rfl rfl rfl hI⟩

theorem bJ {a b:Bool} (ha:a=true) (hb:b=true):(a && b)=true:=by rw [ha,hb]; rfl
theorem LN:Rows.fnLeastModelRow.wf (OpenSpec.ofChange Rows.fnLeastModelSpec)=true:=by kernel_rfl
theorem Mx:laidOutB Tryz.checked.prog=true:=by kernel_rfl
theorem LL:mapsRowed Tryz.checked.prog=true:=by kernel_rfl
theorem MZ:Tryz.f7.params.all (Tryz.checked.prog.readableRec ·)=true:=by kernel_rfl
theorem Mb:namedTie Tryz.checked.prog Rows.fnLeastModelRow.named Rows.fnLeastModelSpec.vars=true:=by kernel_rfl
theorem LZ:(Rows.fnLeastModelRow.stops == [])=true:=by kernel_rfl
theorem MH:(Tryz.checked.prog.stops == [])=true:=by kernel_rfl
theorem Mr:(Rows.fnLeastModelRow.knobs == [])=true:=by kernel_rfl
theorem LD:(Tryz.checked.prog.stopKnobs == [])=true:=by kernel_rfl
theorem L7:(Rows.fnLeastModelRow.inPlace == Tryz.checked.prog.inPlace dL)=true:=by kernel_rfl
theorem IK:(Rows.fnLeastModelRow.unfollowed == Tryz.checked.prog.unfollowed dL)=true:=by kernel_rfl
theorem Ju:(Rows.fnLeastModelRow.recurses == Tryz.checked.prog.recurses dL)=true:=by kernel_rfl
theorem Kb:(Rows.fnLeastModelRow.named == Tryz.checked.prog.varsNamed dL)=true:=by kernel_rfl
theorem Iu:(Rows.fnLeastModelRow.maps == (Tryz.f7.params.toList++Rows.fnLeastModelSpec.plain.varTypes Tryz.checked.prog).any (Tryz.checked.prog.mapsRec ·))=true:=by kernel_rfl
theorem Kk:(Rows.fnLeastModelRow.ifaces == (Tryz.f7.params.toList++Rows.fnLeastModelSpec.plain.varTypes Tryz.checked.prog).any (Tryz.checked.prog.ifacesRec ·))=true:=by kernel_rfl
theorem Ko:(Rows.fnLeastModelRow.mapsOut == Tryz.checked.prog.mapsAmong Tryz.f7.resultTypes.toList)=true:=by kernel_rfl
theorem Jk:(Rows.fnLeastModelRow.loops == (Tryz.f7.params.toList++Rows.fnLeastModelSpec.plain.varTypes Tryz.checked.prog).any (Tryz.checked.prog.loopsFrom ·))=true:=by kernel_rfl
theorem IP:(Rows.fnLeastModelRow.wideKeys == (Tryz.f7.params.toList++Rows.fnLeastModelSpec.plain.varTypes Tryz.checked.prog++Tryz.f7.resultTypes.toList).any (Tryz.checked.prog.wideKeysFrom ·))=true:=by kernel_rfl
theorem KB:Rows.fnLeastModelSpec.vars.all (Tryz.checked.prog.varReadable ·)=true:=by kernel_rfl
theorem IR:Tryz.f7.resultTypes.all (fun t=>Tryz.checked.prog.readableRec t && decide (t<Tryz.checked.prog.types.size))=true:=by kernel_rfl
theorem Jc:(Rows.fnLeastModelRow.ifacesOut == Tryz.f7.resultTypes.toList.any (Tryz.checked.prog.ifacesRec ·))=true:=by kernel_rfl
theorem IJ:(Rows.fnLeastModelRow.loopsOut == Tryz.f7.resultTypes.toList.any (Tryz.checked.prog.loopsFrom ·))=true:=by kernel_rfl
theorem KX:(Rows.fnLeastModelRow.plainKeys == Tryz.checked.prog.plainKeys)=true:=by kernel_rfl
theorem JO:Rows.fnLeastModelRow.shortTexts.isNone=true:=by kernel_rfl
theorem Ka:Tryz.checked.prog.stopsHeard=true:=by kernel_rfl
theorem Ku:Tryz.checked.prog.mayEnter=true:=by kernel_rfl
theorem JY:(Rows.fnLeastModelRow.lifted == Tryz.checked.prog.liftsFinal)=true:=by kernel_rfl
theorem KZ:(Tryz.checked.prog.make == some Rows.fnLeastModelRow.make)=true:=by kernel_rfl
theorem IF:(Rows.fnLeastModelRow.kinds == (if Rows.fnLeastModelRow.domain.isEmpty then [] else Tryz.f7.params.toList.map fun t=>match Tryz.checked.prog.underlying t with|some (.int k)=>some k|_=>none))=true:=by kernel_rfl
theorem IO:(Rows.fnLeastModelRow.pinned == Rows.fnLeastModelRow.pinnedBy)=true:=by kernel_rfl
theorem JU:(Rows.fnLeastModelRow.veiled == (Tryz.f7.params.toList++Rows.fnLeastModelSpec.plain.varTypes Tryz.checked.prog++Tryz.f7.resultTypes.toList).any (Tryz.checked.prog.veiledRec ·))=true:=by kernel_rfl
theorem Jy:Rows.fnLeastModelRow.veiledFits Tryz.checked.prog Tryz.f7.params.toList (Tryz.f7.params.toList++Rows.fnLeastModelSpec.plain.varTypes Tryz.checked.prog++Tryz.f7.resultTypes.toList)=true:=by kernel_rfl
set_option maxRecDepth 100000 in
theorem Ce:joinedFacts Tryz.checked.prog dL Tryz.f7 Rows.fnLeastModelSpec Rows.fnLeastModelRow=true:=by
 unfold joinedFacts
 exact bJ (bJ (bJ (bJ (bJ (bJ (bJ (bJ (bJ (bJ (bJ (bJ (bJ (bJ (bJ (bJ (bJ (bJ (bJ (bJ (bJ (bJ (bJ (bJ (bJ (bJ (bJ (bJ (bJ (bJ (bJ LN Mx) LL) MZ) Mb) LZ) MH) Mr) LD) L7) IK) Ju) Kb) Iu) Kk) Ko) Jk) IP) KB) IR) Jc) IJ) KX) JO) Ka) Ku) JY) KZ) IF) IO) JU) Jy
theorem EF:Tryz.checked.prog.funcNamed Rows.fnLeastModelRow.func=some dL:=by kernel_rfl
theorem G0:Tryz.f7.isInstance Tryz.checked.prog Rows.fnLeastModelRow.origin Rows.fnLeastModelRow.targs:=of_decide_eq_true (by kernel_rfl)
theorem Hu:Tryz.f7.isWrapper Tryz.checked.prog Rows.fnLeastModelRow.wrapper Rows.fnLeastModelRow.mainSum:=by unfold Func.isWrapper; first|(rw [if_pos (by decide +kernel)]; kernel_rfl)|(rw [if_neg (by decide +kernel)]; exact ⟨rfl,rfl⟩)
theorem pLeast_holds:Rows.FnLeastModelSaid:=
 OpenClaim.holds_of_wide dL Tryz.f7 rfl rfl rfl rfl rfl rfl rfl ⟨rfl,rfl,rfl,rfl,rfl⟩ rfl rfl rfl rfl rfl EF Tryz.func7 Ce G0 Hu
  (fun os started H enc _=>CB os started H enc)

#print axioms pLeast_holds
end Go.Proofs.YtemmhhdnlbmicaaGreat
