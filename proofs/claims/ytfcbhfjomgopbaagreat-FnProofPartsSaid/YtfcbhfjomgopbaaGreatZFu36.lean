/- FnProofParts returns true, whatever bytes come in, and leaves them as they were. No condition. -/
import Derived.Test.YtfcbhfjomgopbaaGreatZFu34
namespace Go.Proofs.YtfcbhfjomgopbaaGreat
open Go Go.ChangeShapes Go.WideShapes Go.ChangeAt Go.RowKit

set_option maxRecDepth 100000 in
theorem K7 (os:Os) (started:os.Started) (H:Type) (enc:TypeId × Value->H) :
  ReturnsInHanded {} Tryz.checked os di .any (Rows.fnProofPartsSpec.pre6 enc Tryz.prog Tryz.f8 Rows.fnProofPartsRow.domain false)
   (Rows.fnProofPartsSpec.post enc Tryz.prog Tryz.f8 false true false false):=by
 refine returnsInHanded_of_change (C:=Tryz.checked) Tryz.own started (by kernel_rfl) Tryz.func8
  (ChangeSpec.witness6 (enc:=enc) (C:=Tryz.checked) false ⟨#[],#[.slice none 0 0],[]⟩ 8 (by kernel_rfl) (by kernel_rfl) (by kernel_rfl) (by kernel_rfl)) ?_
 intro W base args ds gs before hval0 hW _ _
 have hval:∀ (j:Nat) t v,Tryz.f8.params[j]?=some t->args[j]?=some v->Value.okWide Tryz.prog W .any base t v:=hval0
 have hW':=hW
 obtain ⟨p,q,hA0,hV,hb,_,_⟩:=hW
 have hA:DataW.TrodAll enc Tryz.prog W 0 (fun _=>true) true Tryz.f8.params.toList args.toList ds p:=hA0
 have hA1:=hA
 rw [Tryz.params8] at hA1 hval
 obtain ⟨v0,d0,rfl,rfl,h0⟩:=trodAll_one hA1
 obtain ⟨n,hn⟩:=h0
 obtain rfl:=(trodVars_none (show DataW.TrodVars enc Tryz.prog W (fun _=>true) [] gs q from hV)).1
 obtain ⟨a,len,cap,rfl⟩:=okWide_slice (pX dN).1 (hval 0 _ _ rfl rfl)
 obtain ⟨xs,hxs⟩:=C6 hn
 refine (AP hxs W (Inv.entry W)).mono fun e W' ⟨he,hI⟩=>?_
 subst he
 exact ⟨_,rfl,Fw hW' hA hV hb rfl (by rw [Tryz.params8]; decide +kernel) (by kernel_rfl) rfl rfl rfl hI⟩

theorem cr {a b:Bool} (ha:a=true) (hb:b=true):(a && b)=true:=by rw [ha,hb]; rfl
theorem SG:Rows.fnProofPartsRow.wf (OpenSpec.ofChange Rows.fnProofPartsSpec)=true:=by kernel_rfl
theorem Sh:laidOutB Tryz.checked.prog=true:=by kernel_rfl
theorem SJ:mapsRowed Tryz.checked.prog=true:=by kernel_rfl
theorem Sx:Tryz.f8.params.all (Tryz.checked.prog.readableRec ·)=true:=by kernel_rfl
theorem R5:namedTie Tryz.checked.prog Rows.fnProofPartsRow.named Rows.fnProofPartsSpec.vars=true:=by kernel_rfl
theorem Su:(Rows.fnProofPartsRow.stops == [])=true:=by kernel_rfl
theorem SL:(Tryz.checked.prog.stops == [])=true:=by kernel_rfl
theorem Sz:(Rows.fnProofPartsRow.knobs == [])=true:=by kernel_rfl
theorem SO:(Tryz.checked.prog.stopKnobs == [])=true:=by kernel_rfl
theorem Si:(Rows.fnProofPartsRow.inPlace == Tryz.checked.prog.inPlace di)=true:=by kernel_rfl
theorem Q1:(Rows.fnProofPartsRow.unfollowed == Tryz.checked.prog.unfollowed di)=true:=by kernel_rfl
theorem RD:(Rows.fnProofPartsRow.recurses == Tryz.checked.prog.recurses di)=true:=by kernel_rfl
theorem QC:(Rows.fnProofPartsRow.named == Tryz.checked.prog.varsNamed di)=true:=by kernel_rfl
theorem Qu:(Rows.fnProofPartsRow.maps == (Tryz.f8.params.toList++Rows.fnProofPartsSpec.plain.varTypes Tryz.checked.prog).any (Tryz.checked.prog.mapsRec ·))=true:=by kernel_rfl
theorem Q7:(Rows.fnProofPartsRow.ifaces == (Tryz.f8.params.toList++Rows.fnProofPartsSpec.plain.varTypes Tryz.checked.prog).any (Tryz.checked.prog.ifacesRec ·))=true:=by kernel_rfl
theorem QH:(Rows.fnProofPartsRow.mapsOut == Tryz.checked.prog.mapsAmong Tryz.f8.resultTypes.toList)=true:=by kernel_rfl
theorem Qo:(Rows.fnProofPartsRow.loops == (Tryz.f8.params.toList++Rows.fnProofPartsSpec.plain.varTypes Tryz.checked.prog).any (Tryz.checked.prog.loopsFrom ·))=true:=by kernel_rfl
theorem Rp:(Rows.fnProofPartsRow.wideKeys == (Tryz.f8.params.toList++Rows.fnProofPartsSpec.plain.varTypes Tryz.checked.prog++Tryz.f8.resultTypes.toList).any (Tryz.checked.prog.wideKeysFrom ·))=true:=by kernel_rfl
theorem Q0:Rows.fnProofPartsSpec.vars.all (Tryz.checked.prog.varReadable ·)=true:=by kernel_rfl
theorem QZ:Tryz.f8.resultTypes.all (fun t=>Tryz.checked.prog.readableRec t && decide (t<Tryz.checked.prog.types.size))=true:=by kernel_rfl
theorem Qy:(Rows.fnProofPartsRow.ifacesOut == Tryz.f8.resultTypes.toList.any (Tryz.checked.prog.ifacesRec ·))=true:=by kernel_rfl
theorem QW:(Rows.fnProofPartsRow.loopsOut == Tryz.f8.resultTypes.toList.any (Tryz.checked.prog.loopsFrom ·))=true:=by kernel_rfl
theorem Ru:(Rows.fnProofPartsRow.plainKeys == Tryz.checked.prog.plainKeys)=true:=by kernel_rfl
theorem Qg:Rows.fnProofPartsRow.shortTexts.isNone=true:=by kernel_rfl
theorem Qn:Tryz.checked.prog.stopsHeard=true:=by kernel_rfl
theorem Rk:Tryz.checked.prog.mayEnter=true:=by kernel_rfl
theorem Rs:(Rows.fnProofPartsRow.lifted == Tryz.checked.prog.liftsFinal)=true:=by kernel_rfl
theorem P7:(Tryz.checked.prog.make == some Rows.fnProofPartsRow.make)=true:=by kernel_rfl
theorem Rt:(Rows.fnProofPartsRow.kinds == (if Rows.fnProofPartsRow.domain.isEmpty then [] else Tryz.f8.params.toList.map fun t=>match Tryz.checked.prog.underlying t with|some (.int k)=>some k|_=>none))=true:=by kernel_rfl
theorem QA:(Rows.fnProofPartsRow.pinned == Rows.fnProofPartsRow.pinnedBy)=true:=by kernel_rfl
theorem Ra:(Rows.fnProofPartsRow.veiled == (Tryz.f8.params.toList++Rows.fnProofPartsSpec.plain.varTypes Tryz.checked.prog++Tryz.f8.resultTypes.toList).any (Tryz.checked.prog.veiledRec ·))=true:=by kernel_rfl
theorem Rj:Rows.fnProofPartsRow.veiledFits Tryz.checked.prog Tryz.f8.params.toList (Tryz.f8.params.toList++Rows.fnProofPartsSpec.plain.varTypes Tryz.checked.prog++Tryz.f8.resultTypes.toList)=true:=by kernel_rfl
set_option maxRecDepth 100000 in
theorem LS:joinedFacts Tryz.checked.prog di Tryz.f8 Rows.fnProofPartsSpec Rows.fnProofPartsRow=true:=by
 unfold joinedFacts
 exact cr (cr (cr (cr (cr (cr (cr (cr (cr (cr (cr (cr (cr (cr (cr (cr (cr (cr (cr (cr (cr (cr (cr (cr (cr (cr (cr (cr (cr (cr (cr SG Sh) SJ) Sx) R5) Su) SL) Sz) SO) Si) Q1) RD) QC) Qu) Q7) QH) Qo) Rp) Q0) QZ) Qy) QW) Ru) Qg) Qn) Rk) Rs) P7) Rt) QA) Ra) Rj
theorem Ol:Tryz.checked.prog.funcNamed Rows.fnProofPartsRow.func=some di:=by kernel_rfl
theorem PD:Tryz.f8.isInstance Tryz.checked.prog Rows.fnProofPartsRow.origin Rows.fnProofPartsRow.targs:=of_decide_eq_true (by kernel_rfl)
theorem PB:Tryz.f8.isWrapper Tryz.checked.prog Rows.fnProofPartsRow.wrapper Rows.fnProofPartsRow.mainSum:=by unfold Func.isWrapper; first|(rw [if_pos (by decide +kernel)]; kernel_rfl)|(rw [if_neg (by decide +kernel)]; exact ⟨rfl,rfl⟩)
theorem pPt_holds:Rows.FnProofPartsSaid:=
 OpenClaim.holds_of_wide di Tryz.f8 rfl rfl rfl rfl rfl rfl rfl ⟨rfl,rfl,rfl,rfl,rfl⟩ rfl rfl rfl rfl rfl Ol Tryz.func8 LS PD PB
  (fun os started H enc _=>K7 os started H enc)

#print axioms pPt_holds
end Go.Proofs.YtfcbhfjomgopbaaGreat
