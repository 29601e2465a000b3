/- FnStageModel returns true, whatever bytes come in, and leaves them as they were. No condition. -/
import Derived.Test.YtemmhhdnlbmicaaGreatZMa12
namespace Go.Proofs.YtemmhhdnlbmicaaGreat
open Go Go.ChangeShapes Go.WideShapes Go.ChangeAt Go.RowKit

set_option maxRecDepth 100000 in
theorem CW (os:Os) (started:os.Started) (H:Type) (enc:TypeId × Value->H) :
  ReturnsInHanded {} Tryz.checked os dK .any (Rows.fnStageModelSpec.pre6 enc Tryz.prog Tryz.f6 Rows.fnStageModelRow.domain false)
   (Rows.fnStageModelSpec.post enc Tryz.prog Tryz.f6 false true false false):=by
 refine returnsInHanded_of_change (C:=Tryz.checked) Tryz.own started (by kernel_rfl) Tryz.func6
  (ChangeSpec.witness6 (enc:=enc) (C:=Tryz.checked) false ⟨#[],#[.slice none 0 0],[]⟩ 8 (by kernel_rfl) (by kernel_rfl) (by kernel_rfl) (by kernel_rfl)) ?_
 intro W base args ds gs before hval0 hW _ _
 have hval:∀ (j:Nat) t v,Tryz.f6.params[j]?=some t->args[j]?=some v->Value.okWide Tryz.prog W .any base t v:=hval0
 have hW':=hW
 obtain ⟨p,q,hA0,hV,hb,_,_⟩:=hW
 have hA:DataW.TrodAll enc Tryz.prog W 0 (fun _=>true) true Tryz.f6.params.toList args.toList ds p:=hA0
 have hA1:=hA
 rw [Tryz.params6] at hA1 hval
 obtain ⟨v0,d0,rfl,rfl,h0⟩:=trodAll_one hA1
 obtain ⟨n,hn⟩:=h0
 obtain rfl:=(trodVars_none (show DataW.TrodVars enc Tryz.prog W (fun _=>true) [] gs q from hV)).1
 obtain ⟨a,len,cap,rfl⟩:=okWide_slice (lm dU).1 (hval 0 _ _ rfl rfl)
 obtain ⟨xs,hxs⟩:=rC hn
 refine (y9 hxs W (Inv.entry W)).mono fun e W' ⟨he,hI⟩=>?_
 subst he
 exact ⟨_,rfl,vG hW' hA hV hb rfl (by rw [Tryz.params6]; decide +kernel) (by kernel_rfl) rfl rfl rfl hI⟩

theorem bL {a b:Bool} (ha:a=true) (hb:b=true):(a && b)=true:=by rw [ha,hb]; rfl
theorem Mz:Rows.fnStageModelRow.wf (OpenSpec.ofChange Rows.fnStageModelSpec)=true:=by kernel_rfl
theorem My:laidOutB Tryz.checked.prog=true:=by kernel_rfl
theorem Mq:mapsRowed Tryz.checked.prog=true:=by kernel_rfl
theorem MP:Tryz.f6.params.all (Tryz.checked.prog.readableRec ·)=true:=by kernel_rfl
theorem Ml:namedTie Tryz.checked.prog Rows.fnStageModelRow.named Rows.fnStageModelSpec.vars=true:=by kernel_rfl
theorem Mt:(Rows.fnStageModelRow.stops == [])=true:=by kernel_rfl
theorem MU:(Tryz.checked.prog.stops == [])=true:=by kernel_rfl
theorem Ms:(Rows.fnStageModelRow.knobs == [])=true:=by kernel_rfl
theorem Mc:(Tryz.checked.prog.stopKnobs == [])=true:=by kernel_rfl
theorem LF:(Rows.fnStageModelRow.inPlace == Tryz.checked.prog.inPlace dK)=true:=by kernel_rfl
theorem JT:(Rows.fnStageModelRow.unfollowed == Tryz.checked.prog.unfollowed dK)=true:=by kernel_rfl
theorem Kz:(Rows.fnStageModelRow.recurses == Tryz.checked.prog.recurses dK)=true:=by kernel_rfl
theorem Ir:(Rows.fnStageModelRow.named == Tryz.checked.prog.varsNamed dK)=true:=by kernel_rfl
theorem JW:(Rows.fnStageModelRow.maps == (Tryz.f6.params.toList++Rows.fnStageModelSpec.plain.varTypes Tryz.checked.prog).any (Tryz.checked.prog.mapsRec ·))=true:=by kernel_rfl
theorem I8:(Rows.fnStageModelRow.ifaces == (Tryz.f6.params.toList++Rows.fnStageModelSpec.plain.varTypes Tryz.checked.prog).any (Tryz.checked.prog.ifacesRec ·))=true:=by kernel_rfl
theorem Jw:(Rows.fnStageModelRow.mapsOut == Tryz.checked.prog.mapsAmong Tryz.f6.resultTypes.toList)=true:=by kernel_rfl
theorem Jp:(Rows.fnStageModelRow.loops == (Tryz.f6.params.toList++Rows.fnStageModelSpec.plain.varTypes Tryz.checked.prog).any (Tryz.checked.prog.loopsFrom ·))=true:=by kernel_rfl
theorem JQ:(Rows.fnStageModelRow.wideKeys == (Tryz.f6.params.toList++Rows.fnStageModelSpec.plain.varTypes Tryz.checked.prog++Tryz.f6.resultTypes.toList).any (Tryz.checked.prog.wideKeysFrom ·))=true:=by kernel_rfl
theorem KW:Rows.fnStageModelSpec.vars.all (Tryz.checked.prog.varReadable ·)=true:=by kernel_rfl
theorem Kq:Tryz.f6.resultTypes.all (fun t=>Tryz.checked.prog.readableRec t && decide (t<Tryz.checked.prog.types.size))=true:=by kernel_rfl
theorem IZ:(Rows.fnStageModelRow.ifacesOut == Tryz.f6.resultTypes.toList.any (Tryz.checked.prog.ifacesRec ·))=true:=by kernel_rfl
theorem Jo:(Rows.fnStageModelRow.loopsOut == Tryz.f6.resultTypes.toList.any (Tryz.checked.prog.loopsFrom ·))=true:=by kernel_rfl
theorem KM:(Rows.fnStageModelRow.plainKeys == Tryz.checked.prog.plainKeys)=true:=by kernel_rfl
theorem JP:Rows.fnStageModelRow.shortTexts.isNone=true:=by kernel_rfl
theorem Kn:Tryz.checked.prog.stopsHeard=true:=by kernel_rfl
theorem KA:Tryz.checked.prog.mayEnter=true:=by kernel_rfl
theorem KV:(Rows.fnStageModelRow.lifted == Tryz.checked.prog.liftsFinal)=true:=by kernel_rfl
theorem JI:(Tryz.checked.prog.make == some Rows.fnStageModelRow.make)=true:=by kernel_rfl
theorem Kf:(Rows.fnStageModelRow.kinds == (if Rows.fnStageModelRow.domain.isEmpty then [] else Tryz.f6.params.toList.map fun t=>match Tryz.checked.prog.underlying t with|some (.int k)=>some k|_=>none))=true:=by kernel_rfl
theorem Jt:(Rows.fnStageModelRow.pinned == Rows.fnStageModelRow.pinnedBy)=true:=by kernel_rfl
theorem IE:(Rows.fnStageModelRow.veiled == (Tryz.f6.params.toList++Rows.fnStageModelSpec.plain.varTypes Tryz.checked.prog++Tryz.f6.resultTypes.toList).any (Tryz.checked.prog.veiledRec ·))=true:=by kernel_rfl
theorem KU:Rows.fnStageModelRow.veiledFits Tryz.checked.prog Tryz.f6.params.toList (Tryz.f6.params.toList++Rows.fnStageModelSpec.plain.varTypes Tryz.checked.prog++Tryz.f6.resultTypes.toList)=true:=by kernel_rfl
set_option maxRecDepth 100000 in
theorem BZ:joinedFacts Tryz.checked.prog dK Tryz.f6 Rows.fnStageModelSpec Rows.fnStageModelRow=true:=by
 unfold joinedFacts
 exact bL (bL (bL (bL (bL (bL (bL (bL (bL (bL (bL (bL (bL (bL (bL (bL (bL (bL (bL (bL (bL (bL (bL (bL (bL (bL (bL (bL (bL (bL (bL Mz My) Mq) MP) Ml) Mt) MU) Ms) Mc) LF) JT) Kz) Ir) JW) I8) Jw) Jp) JQ) KW) Kq) IZ) Jo) KM) JP) Kn) KA) KV) JI) Kf) Jt) IE) KU
theorem Fm:Tryz.checked.prog.funcNamed Rows.fnStageModelRow.func=some dK:=by kernel_rfl
theorem F6:Tryz.f6.isInstance Tryz.checked.prog Rows.fnStageModelRow.origin Rows.fnStageModelRow.targs:=of_decide_eq_true (by kernel_rfl)
theorem Hi:Tryz.f6.isWrapper Tryz.checked.prog Rows.fnStageModelRow.wrapper Rows.fnStageModelRow.mainSum:=by unfold Func.isWrapper; first|(rw [if_pos (by decide +kernel)]; kernel_rfl)|(rw [if_neg (by decide +kernel)]; exact ⟨rfl,rfl⟩)
theorem pStage_holds:Rows.FnStageModelSaid:=
 OpenClaim.holds_of_wide dK Tryz.f6 rfl rfl rfl rfl rfl rfl rfl ⟨rfl,rfl,rfl,rfl,rfl⟩ rfl rfl rfl rfl rfl Fm Tryz.func6 BZ F6 Hi
  (fun os started H enc _=>CW os started H enc)

#print axioms pStage_holds
end Go.Proofs.YtemmhhdnlbmicaaGreat
