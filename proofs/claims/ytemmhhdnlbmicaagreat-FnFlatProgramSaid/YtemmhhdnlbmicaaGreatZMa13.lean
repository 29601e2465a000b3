/- FnFlatProgram returns true, whatever bytes come in, and leaves them as they were. No condition. -/
import Derived.Test.YtemmhhdnlbmicaaGreatZMa12
namespace Go.Proofs.YtemmhhdnlbmicaaGreat
open Go Go.ChangeShapes Go.WideShapes Go.ChangeAt Go.RowKit

set_option maxRecDepth 100000 in
theorem ED (os:Os) (started:os.Started) (H:Type) (enc:TypeId × Value->H) :
  ReturnsInHanded {} Tryz.checked os dB .any (Rows.fnFlatProgramSpec.pre6 enc Tryz.prog Tryz.f4 Rows.fnFlatProgramRow.domain false)
   (Rows.fnFlatProgramSpec.post enc Tryz.prog Tryz.f4 false true false false):=by
 refine returnsInHanded_of_change (C:=Tryz.checked) Tryz.own started (by kernel_rfl) Tryz.func4
  (ChangeSpec.witness6 (enc:=enc) (C:=Tryz.checked) false ⟨#[],#[.slice none 0 0],[]⟩ 8 (by kernel_rfl) (by kernel_rfl) (by kernel_rfl) (by kernel_rfl)) ?_
 intro W base args ds gs before hval0 hW _ _
 have hval:∀ (j:Nat) t v,Tryz.f4.params[j]?=some t->args[j]?=some v->Value.okWide Tryz.prog W .any base t v:=hval0
 have hW':=hW
 obtain ⟨p,q,hA0,hV,hb,_,_⟩:=hW
 have hA:DataW.TrodAll enc Tryz.prog W 0 (fun _=>true) true Tryz.f4.params.toList args.toList ds p:=hA0
 have hA1:=hA
 rw [Tryz.params4] at hA1 hval
 obtain ⟨v0,d0,rfl,rfl,h0⟩:=trodAll_one hA1
 obtain ⟨n,hn⟩:=h0
 obtain rfl:=(trodVars_none (show DataW.TrodVars enc Tryz.prog W (fun _=>true) [] gs q from hV)).1
 obtain ⟨a,len,cap,rfl⟩:=okWide_slice (lm dU).1 (hval 0 _ _ rfl rfl)
 obtain ⟨xs,hxs⟩:=rC hn
 refine (Ba hxs W (Inv.entry W)).mono fun e W' ⟨he,hI⟩=>?_
 subst he
 exact ⟨_,rfl,vG hW' hA hV hb rfl (by rw [Tryz.params4]; decide +kernel) (by kernel_rfl) rfl rfl rfl hI⟩

theorem bQ {a b:Bool} (ha:a=true) (hb:b=true):(a && b)=true:=by rw [ha,hb]; rfl
theorem NA:Rows.fnFlatProgramRow.wf (OpenSpec.ofChange Rows.fnFlatProgramSpec)=true:=by kernel_rfl
theorem NU:laidOutB Tryz.checked.prog=true:=by kernel_rfl
theorem M1:mapsRowed Tryz.checked.prog=true:=by kernel_rfl
theorem Nh:Tryz.f4.params.all (Tryz.checked.prog.readableRec ·)=true:=by kernel_rfl
theorem NI:namedTie Tryz.checked.prog Rows.fnFlatProgramRow.named Rows.fnFlatProgramSpec.vars=true:=by kernel_rfl
theorem M9:(Rows.fnFlatProgramRow.stops == [])=true:=by kernel_rfl
theorem NV:(Tryz.checked.prog.stops == [])=true:=by kernel_rfl
theorem Nc:(Rows.fnFlatProgramRow.knobs == [])=true:=by kernel_rfl
theorem Oi:(Tryz.checked.prog.stopKnobs == [])=true:=by kernel_rfl
theorem Nv:(Rows.fnFlatProgramRow.inPlace == Tryz.checked.prog.inPlace dB)=true:=by kernel_rfl
theorem LH:(Rows.fnFlatProgramRow.unfollowed == Tryz.checked.prog.unfollowed dB)=true:=by kernel_rfl
theorem Mo:(Rows.fnFlatProgramRow.recurses == Tryz.checked.prog.recurses dB)=true:=by kernel_rfl
theorem LJ:(Rows.fnFlatProgramRow.named == Tryz.checked.prog.varsNamed dB)=true:=by kernel_rfl
theorem Mk:(Rows.fnFlatProgramRow.maps == (Tryz.f4.params.toList++Rows.fnFlatProgramSpec.plain.varTypes Tryz.checked.prog).any (Tryz.checked.prog.mapsRec ·))=true:=by kernel_rfl
theorem Mp:(Rows.fnFlatProgramRow.ifaces == (Tryz.f4.params.toList++Rows.fnFlatProgramSpec.plain.varTypes Tryz.checked.prog).any (Tryz.checked.prog.ifacesRec ·))=true:=by kernel_rfl
theorem MN:(Rows.fnFlatProgramRow.mapsOut == Tryz.checked.prog.mapsAmong Tryz.f4.resultTypes.toList)=true:=by kernel_rfl
theorem L4:(Rows.fnFlatProgramRow.loops == (Tryz.f4.params.toList++Rows.fnFlatProgramSpec.plain.varTypes Tryz.checked.prog).any (Tryz.checked.prog.loopsFrom ·))=true:=by kernel_rfl
theorem Mf:(Rows.fnFlatProgramRow.wideKeys == (Tryz.f4.params.toList++Rows.fnFlatProgramSpec.plain.varTypes Tryz.checked.prog++Tryz.f4.resultTypes.toList).any (Tryz.checked.prog.wideKeysFrom ·))=true:=by kernel_rfl
theorem Mh:Rows.fnFlatProgramSpec.vars.all (Tryz.checked.prog.varReadable ·)=true:=by kernel_rfl
theorem L0:Tryz.f4.resultTypes.all (fun t=>Tryz.checked.prog.readableRec t && decide (t<Tryz.checked.prog.types.size))=true:=by kernel_rfl
theorem MB:(Rows.fnFlatProgramRow.ifacesOut == Tryz.f4.resultTypes.toList.any (Tryz.checked.prog.ifacesRec ·))=true:=by kernel_rfl
theorem Mn:(Rows.fnFlatProgramRow.loopsOut == Tryz.f4.resultTypes.toList.any (Tryz.checked.prog.loopsFrom ·))=true:=by kernel_rfl
theorem LU:(Rows.fnFlatProgramRow.plainKeys == Tryz.checked.prog.plainKeys)=true:=by kernel_rfl
theorem LI:Rows.fnFlatProgramRow.shortTexts.isNone=true:=by kernel_rfl
theorem MW:Tryz.checked.prog.stopsHeard=true:=by kernel_rfl
theorem LC:Tryz.checked.prog.mayEnter=true:=by kernel_rfl
theorem LY:(Rows.fnFlatProgramRow.lifted == Tryz.checked.prog.liftsFinal)=true:=by kernel_rfl
theorem MD:(Tryz.checked.prog.make == some Rows.fnFlatProgramRow.make)=true:=by kernel_rfl
theorem L3:(Rows.fnFlatProgramRow.kinds == (if Rows.fnFlatProgramRow.domain.isEmpty then [] else Tryz.f4.params.toList.map fun t=>match Tryz.checked.prog.underlying t with|some (.int k)=>some k|_=>none))=true:=by kernel_rfl
theorem Mv:(Rows.fnFlatProgramRow.pinned == Rows.fnFlatProgramRow.pinnedBy)=true:=by kernel_rfl
theorem LQ:(Rows.fnFlatProgramRow.veiled == (Tryz.f4.params.toList++Rows.fnFlatProgramSpec.plain.varTypes Tryz.checked.prog++Tryz.f4.resultTypes.toList).any (Tryz.checked.prog.veiledRec ·))=true:=by kernel_rfl
theorem MI:Rows.fnFlatProgramRow.veiledFits Tryz.checked.prog Tryz.f4.params.toList (Tryz.f4.params.toList++Rows.fnFlatProgramSpec.plain.varTypes Tryz.checked.prog++Tryz.f4.resultTypes.toList)=true:=by kernel_rfl
set_option maxRecDepth 100000 in
theorem E4:joinedFacts Tryz.checked.prog dB Tryz.f4 Rows.fnFlatProgramSpec Rows.fnFlatProgramRow=true:=by
 unfold joinedFacts
 exact bQ (bQ (bQ (bQ (bQ (bQ (bQ (bQ (bQ (bQ (bQ (bQ (bQ (bQ (bQ (bQ (bQ (bQ (bQ (bQ (bQ (bQ (bQ (bQ (bQ (bQ (bQ (bQ (bQ (bQ (bQ NA NU) M1) Nh) NI) M9) NV) Nc) Oi) Nv) LH) Mo) LJ) Mk) Mp) MN) L4) Mf) Mh) L0) MB) Mn) LU) LI) MW) LC) LY) MD) L3) Mv) LQ) MI
theorem Hh:Tryz.checked.prog.funcNamed Rows.fnFlatProgramRow.func=some dB:=by kernel_rfl
theorem JK:Tryz.f4.isInstance Tryz.checked.prog Rows.fnFlatProgramRow.origin Rows.fnFlatProgramRow.targs:=of_decide_eq_true (by kernel_rfl)
theorem II:Tryz.f4.isWrapper Tryz.checked.prog Rows.fnFlatProgramRow.wrapper Rows.fnFlatProgramRow.mainSum:=by unfold Func.isWrapper; first|(rw [if_pos (by decide +kernel)]; kernel_rfl)|(rw [if_neg (by decide +kernel)]; exact ⟨rfl,rfl⟩)
theorem pFlat_holds:Rows.FnFlatProgramSaid:=
 OpenClaim.holds_of_wide dB Tryz.f4 rfl rfl rfl rfl rfl rfl rfl ⟨rfl,rfl,rfl,rfl,rfl⟩ rfl rfl rfl rfl rfl Hh Tryz.func4 E4 JK II
  (fun os started H enc _=>ED os started H enc)

#print axioms pFlat_holds
end Go.Proofs.YtemmhhdnlbmicaaGreat
