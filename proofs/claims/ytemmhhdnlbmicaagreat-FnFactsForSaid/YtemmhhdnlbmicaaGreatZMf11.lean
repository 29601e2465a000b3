/- FnFactsFor returns true, whatever bytes come in, and leaves them as they were. No condition. -/
import Derived.Test.YtemmhhdnlbmicaaGreatZMf10
namespace Go.Proofs.YtemmhhdnlbmicaaGreat
open Go Go.ChangeShapes Go.WideShapes Go.ChangeAt Go.RowKit

set_option maxRecDepth 100000 in
theorem zj (os:Os) (started:os.Started) (H:Type) (enc:TypeId × Value->H) :
  ReturnsInHanded {} Tryz.checked os di .any (Rows.fnFactsForSpec.pre6 enc Tryz.prog Tryz.f3 Rows.fnFactsForRow.domain false)
   (Rows.fnFactsForSpec.post enc Tryz.prog Tryz.f3 false true false false):=by
 refine returnsInHanded_of_change (C:=Tryz.checked) Tryz.own started (by kernel_rfl) Tryz.func3
  (ChangeSpec.witness6 (enc:=enc) (C:=Tryz.checked) false ⟨#[],#[.slice none 0 0],[]⟩ 8 (by kernel_rfl) (by kernel_rfl) (by kernel_rfl) (by kernel_rfl)) ?_
 intro W base args ds gs before hval0 hW _ _
 have hval:∀ (j:Nat) t v,Tryz.f3.params[j]?=some t->args[j]?=some v->Value.okWide Tryz.prog W .any base t v:=hval0
 have hW':=hW
 obtain ⟨p,q,hA0,hV,hb,_,_⟩:=hW
 have hA:DataW.TrodAll enc Tryz.prog W 0 (fun _=>true) true Tryz.f3.params.toList args.toList ds p:=hA0
 have hA1:=hA
 rw [Tryz.params3] at hA1 hval
 obtain ⟨v0,d0,rfl,rfl,h0⟩:=trodAll_one hA1
 obtain ⟨n,hn⟩:=h0
 obtain rfl:=(trodVars_none (show DataW.TrodVars enc Tryz.prog W (fun _=>true) [] gs q from hV)).1
 obtain ⟨a,len,cap,rfl⟩:=okWide_slice (re dJ).1 (hval 0 _ _ rfl rfl)
 obtain ⟨xs,hxs⟩:=BJ hn
 refine (vf hxs W (Inv.entry W)).mono fun e W' ⟨he,hI⟩=>?_
 subst he
 exact ⟨_,rfl,Db hW' hA hV hb rfl (by rw [Tryz.params3]; decide +kernel) (by kernel_rfl) rfl rfl rfl hI⟩

theorem bz {a b:Bool} (ha:a=true) (hb:b=true):(a && b)=true:=by rw [ha,hb]; rfl
theorem FE:Rows.fnFactsForRow.wf (OpenSpec.ofChange Rows.fnFactsForSpec)=true:=by kernel_rfl
theorem FB:laidOutB Tryz.checked.prog=true:=by kernel_rfl
theorem Ff:mapsRowed Tryz.checked.prog=true:=by kernel_rfl
theorem FH:Tryz.f3.params.all (Tryz.checked.prog.readableRec ·)=true:=by kernel_rfl
theorem Fj:namedTie Tryz.checked.prog Rows.fnFactsForRow.named Rows.fnFactsForSpec.vars=true:=by kernel_rfl
theorem Fw:(Rows.fnFactsForRow.stops == [])=true:=by kernel_rfl
theorem Fo:(Tryz.checked.prog.stops == [])=true:=by kernel_rfl
theorem Fl:(Rows.fnFactsForRow.knobs == [])=true:=by kernel_rfl
theorem FN:(Tryz.checked.prog.stopKnobs == [])=true:=by kernel_rfl
theorem Fz:(Rows.fnFactsForRow.inPlace == Tryz.checked.prog.inPlace di)=true:=by kernel_rfl
theorem D2:(Rows.fnFactsForRow.unfollowed == Tryz.checked.prog.unfollowed di)=true:=by kernel_rfl
theorem Em:(Rows.fnFactsForRow.recurses == Tryz.checked.prog.recurses di)=true:=by kernel_rfl
theorem DT:(Rows.fnFactsForRow.named == Tryz.checked.prog.varsNamed di)=true:=by kernel_rfl
theorem EP:(Rows.fnFactsForRow.maps == (Tryz.f3.params.toList++Rows.fnFactsForSpec.plain.varTypes Tryz.checked.prog).any (Tryz.checked.prog.mapsRec ·))=true:=by kernel_rfl
theorem DS:(Rows.fnFactsForRow.ifaces == (Tryz.f3.params.toList++Rows.fnFactsForSpec.plain.varTypes Tryz.checked.prog).any (Tryz.checked.prog.ifacesRec ·))=true:=by kernel_rfl
theorem Es:(Rows.fnFactsForRow.mapsOut == Tryz.checked.prog.mapsAmong Tryz.f3.resultTypes.toList)=true:=by kernel_rfl
theorem En:(Rows.fnFactsForRow.loops == (Tryz.f3.params.toList++Rows.fnFactsForSpec.plain.varTypes Tryz.checked.prog).any (Tryz.checked.prog.loopsFrom ·))=true:=by kernel_rfl
theorem Ei:(Rows.fnFactsForRow.wideKeys == (Tryz.f3.params.toList++Rows.fnFactsForSpec.plain.varTypes Tryz.checked.prog++Tryz.f3.resultTypes.toList).any (Tryz.checked.prog.wideKeysFrom ·))=true:=by kernel_rfl
theorem E4:Rows.fnFactsForSpec.vars.all (Tryz.checked.prog.varReadable ·)=true:=by kernel_rfl
theorem DQ:Tryz.f3.resultTypes.all (fun t=>Tryz.checked.prog.readableRec t && decide (t<Tryz.checked.prog.types.size))=true:=by kernel_rfl
theorem DK:(Rows.fnFactsForRow.ifacesOut == Tryz.f3.resultTypes.toList.any (Tryz.checked.prog.ifacesRec ·))=true:=by kernel_rfl
theorem DV:(Rows.fnFactsForRow.loopsOut == Tryz.f3.resultTypes.toList.any (Tryz.checked.prog.loopsFrom ·))=true:=by kernel_rfl
theorem DN:(Rows.fnFactsForRow.plainKeys == Tryz.checked.prog.plainKeys)=true:=by kernel_rfl
theorem DX:Rows.fnFactsForRow.shortTexts.isNone=true:=by kernel_rfl
theorem Ej:Tryz.checked.prog.stopsHeard=true:=by kernel_rfl
theorem D1:Tryz.checked.prog.mayEnter=true:=by kernel_rfl
theorem EO:(Rows.fnFactsForRow.lifted == Tryz.checked.prog.liftsFinal)=true:=by kernel_rfl
theorem Eh:(Tryz.checked.prog.make == some Rows.fnFactsForRow.make)=true:=by kernel_rfl
theorem EI:(Rows.fnFactsForRow.kinds == (if Rows.fnFactsForRow.domain.isEmpty then [] else Tryz.f3.params.toList.map fun t=>match Tryz.checked.prog.underlying t with|some (.int k)=>some k|_=>none))=true:=by kernel_rfl
theorem Eg:(Rows.fnFactsForRow.pinned == Rows.fnFactsForRow.pinnedBy)=true:=by kernel_rfl
theorem EL:(Rows.fnFactsForRow.veiled == (Tryz.f3.params.toList++Rows.fnFactsForSpec.plain.varTypes Tryz.checked.prog++Tryz.f3.resultTypes.toList).any (Tryz.checked.prog.veiledRec ·))=true:=by kernel_rfl
theorem DD:Rows.fnFactsForRow.veiledFits Tryz.checked.prog Tryz.f3.params.toList (Tryz.f3.params.toList++Rows.fnFactsForSpec.plain.varTypes Tryz.checked.prog++Tryz.f3.resultTypes.toList)=true:=by kernel_rfl
set_option maxRecDepth 100000 in
theorem zo:joinedFacts Tryz.checked.prog di Tryz.f3 Rows.fnFactsForSpec Rows.fnFactsForRow=true:=by
 unfold joinedFacts
 exact bz (bz (bz (bz (bz (bz (bz (bz (bz (bz (bz (bz (bz (bz (bz (bz (bz (bz (bz (bz (bz (bz (bz (bz (bz (bz (bz (bz (bz (bz (bz FE FB) Ff) FH) Fj) Fw) Fo) Fl) FN) Fz) D2) Em) DT) EP) DS) Es) En) Ei) E4) DQ) DK) DV) DN) DX) Ej) D1) EO) Eh) EI) Eg) EL) DD
theorem BE:Tryz.checked.prog.funcNamed Rows.fnFactsForRow.func=some di:=by kernel_rfl
theorem Df:Tryz.f3.isInstance Tryz.checked.prog Rows.fnFactsForRow.origin Rows.fnFactsForRow.targs:=of_decide_eq_true (by kernel_rfl)
theorem Ds:Tryz.f3.isWrapper Tryz.checked.prog Rows.fnFactsForRow.wrapper Rows.fnFactsForRow.mainSum:=by unfold Func.isWrapper; first|(rw [if_pos (by decide +kernel)]; kernel_rfl)|(rw [if_neg (by decide +kernel)]; exact ⟨rfl,rfl⟩)
theorem pFor_holds:Rows.FnFactsForSaid:=
 OpenClaim.holds_of_wide di Tryz.f3 rfl rfl rfl rfl rfl rfl rfl ⟨rfl,rfl,rfl,rfl,rfl⟩ rfl rfl rfl rfl rfl BE Tryz.func3 zo Df Ds
  (fun os started H enc _=>zj os started H enc)

#print axioms pFor_holds
end Go.Proofs.YtemmhhdnlbmicaaGreat
