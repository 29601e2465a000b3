/- FnProofMore returns true, whatever bytes come in, and leaves them as they were. No condition. -/
import Derived.Test.YtfcbhfjomgopbaaGreatZFf16
namespace Go.Proofs.YtfcbhfjomgopbaaGreat
open Go Go.ChangeShapes Go.WideShapes Go.ChangeAt Go.RowKit

set_option maxRecDepth 100000 in
theorem Ie (os:Os) (started:os.Started) (H:Type) (enc:TypeId × Value->H) :
  ReturnsInHanded {} Tryz.checked os dr .any (Rows.fnProofMoreSpec.pre6 enc Tryz.prog Tryz.f7 Rows.fnProofMoreRow.domain false)
   (Rows.fnProofMoreSpec.post enc Tryz.prog Tryz.f7 false true false false):=by
 refine returnsInHanded_of_change (C:=Tryz.checked) Tryz.own started (by kernel_rfl) Tryz.func7
  (ChangeSpec.witness6 (enc:=enc) (C:=Tryz.checked) false ⟨#[],#[.slice none 0 0],[]⟩ 8 (by kernel_rfl) (by kernel_rfl) (by kernel_rfl) (by kernel_rfl)) ?_
 intro W base args ds gs before hval0 hW _ _
 have hval:∀ (j:Nat) t v,Tryz.f7.params[j]?=some t->args[j]?=some v->Value.okWide Tryz.prog W .any base t v:=hval0
 have hW':=hW
 obtain ⟨p,q,hA0,hV,hb,_,_⟩:=hW
 have hA:DataW.TrodAll enc Tryz.prog W 0 (fun _=>true) true Tryz.f7.params.toList args.toList ds p:=hA0
 have hA1:=hA
 rw [Tryz.params7] at hA1 hval
 obtain ⟨v0,d0,rfl,rfl,h0⟩:=trodAll_one hA1
 obtain ⟨n,hn⟩:=h0
 obtain rfl:=(trodVars_none (show DataW.TrodVars enc Tryz.prog W (fun _=>true) [] gs q from hV)).1
 obtain ⟨a,len,cap,rfl⟩:=okWide_slice (mg dg).1 (hval 0 _ _ rfl rfl)
 obtain ⟨xs,hxs⟩:=s4 hn
 refine (zL hxs W (Inv.entry W)).mono fun e W' ⟨he,hI⟩=>?_
 subst he
 exact ⟨_,rfl,ER hW' hA hV hb rfl (by rw [Tryz.params7]; decide +kernel) (by kernel_rfl) rfl rfl rfl hI⟩

theorem bQ {a b:Bool} (ha:a=true) (hb:b=true):(a && b)=true:=by rw [ha,hb]; rfl
theorem P3:Rows.fnProofMoreRow.wf (OpenSpec.ofChange Rows.fnProofMoreSpec)=true:=by kernel_rfl
theorem Ql:laidOutB Tryz.checked.prog=true:=by kernel_rfl
theorem PW:mapsRowed Tryz.checked.prog=true:=by kernel_rfl
theorem PP:Tryz.f7.params.all (Tryz.checked.prog.readableRec ·)=true:=by kernel_rfl
theorem Qv:namedTie Tryz.checked.prog Rows.fnProofMoreRow.named Rows.fnProofMoreSpec.vars=true:=by kernel_rfl
theorem QG:(Rows.fnProofMoreRow.stops == [])=true:=by kernel_rfl
theorem Qt:(Tryz.checked.prog.stops == [])=true:=by kernel_rfl
theorem QL:(Rows.fnProofMoreRow.knobs == [])=true:=by kernel_rfl
theorem PK:(Tryz.checked.prog.stopKnobs == [])=true:=by kernel_rfl
theorem Qc:(Rows.fnProofMoreRow.inPlace == Tryz.checked.prog.inPlace dr)=true:=by kernel_rfl
theorem OK:(Rows.fnProofMoreRow.unfollowed == Tryz.checked.prog.unfollowed dr)=true:=by kernel_rfl
theorem Oc:(Rows.fnProofMoreRow.recurses == Tryz.checked.prog.recurses dr)=true:=by kernel_rfl
theorem Ph:(Rows.fnProofMoreRow.named == Tryz.checked.prog.varsNamed dr)=true:=by kernel_rfl
theorem OH:(Rows.fnProofMoreRow.maps == (Tryz.f7.params.toList++Rows.fnProofMoreSpec.plain.varTypes Tryz.checked.prog).any (Tryz.checked.prog.mapsRec ·))=true:=by kernel_rfl
theorem NR:(Rows.fnProofMoreRow.ifaces == (Tryz.f7.params.toList++Rows.fnProofMoreSpec.plain.varTypes Tryz.checked.prog).any (Tryz.checked.prog.ifacesRec ·))=true:=by kernel_rfl
theorem Oq:(Rows.fnProofMoreRow.mapsOut == Tryz.checked.prog.mapsAmong Tryz.f7.resultTypes.toList)=true:=by kernel_rfl
theorem NH:(Rows.fnProofMoreRow.loops == (Tryz.f7.params.toList++Rows.fnProofMoreSpec.plain.varTypes Tryz.checked.prog).any (Tryz.checked.prog.loopsFrom ·))=true:=by kernel_rfl
theorem NS:(Rows.fnProofMoreRow.wideKeys == (Tryz.f7.params.toList++Rows.fnProofMoreSpec.plain.varTypes Tryz.checked.prog++Tryz.f7.resultTypes.toList).any (Tryz.checked.prog.wideKeysFrom ·))=true:=by kernel_rfl
theorem NX:Rows.fnProofMoreSpec.vars.all (Tryz.checked.prog.varReadable ·)=true:=by kernel_rfl
theorem O1:Tryz.f7.resultTypes.all (fun t=>Tryz.checked.prog.readableRec t && decide (t<Tryz.checked.prog.types.size))=true:=by kernel_rfl
theorem Pz:(Rows.fnProofMoreRow.ifacesOut == Tryz.f7.resultTypes.toList.any (Tryz.checked.prog.ifacesRec ·))=true:=by kernel_rfl
theorem OY:(Rows.fnProofMoreRow.loopsOut == Tryz.f7.resultTypes.toList.any (Tryz.checked.prog.loopsFrom ·))=true:=by kernel_rfl
theorem OL:(Rows.fnProofMoreRow.plainKeys == Tryz.checked.prog.plainKeys)=true:=by kernel_rfl
theorem OA:Rows.fnProofMoreRow.shortTexts.isNone=true:=by kernel_rfl
theorem Oj:Tryz.checked.prog.stopsHeard=true:=by kernel_rfl
theorem NI:Tryz.checked.prog.mayEnter=true:=by kernel_rfl
theorem NB:(Rows.fnProofMoreRow.lifted == Tryz.checked.prog.liftsFinal)=true:=by kernel_rfl
theorem Px:(Tryz.checked.prog.make == some Rows.fnProofMoreRow.make)=true:=by kernel_rfl
theorem ND:(Rows.fnProofMoreRow.kinds == (if Rows.fnProofMoreRow.domain.isEmpty then [] else Tryz.f7.params.toList.map fun t=>match Tryz.checked.prog.underlying t with|some (.int k)=>some k|_=>none))=true:=by kernel_rfl
theorem ON:(Rows.fnProofMoreRow.pinned == Rows.fnProofMoreRow.pinnedBy)=true:=by kernel_rfl
theorem NE:(Rows.fnProofMoreRow.veiled == (Tryz.f7.params.toList++Rows.fnProofMoreSpec.plain.varTypes Tryz.checked.prog++Tryz.f7.resultTypes.toList).any (Tryz.checked.prog.veiledRec ·))=true:=by kernel_rfl
theorem Pw:Rows.fnProofMoreRow.veiledFits Tryz.checked.prog Tryz.f7.params.toList (Tryz.f7.params.toList++Rows.fnProofMoreSpec.plain.varTypes Tryz.checked.prog++Tryz.f7.resultTypes.toList)=true:=by kernel_rfl
set_option maxRecDepth 100000 in
theorem Iz:joinedFacts Tryz.checked.prog dr Tryz.f7 Rows.fnProofMoreSpec Rows.fnProofMoreRow=true:=by
 unfold joinedFacts
 exact bQ (bQ (bQ (bQ (bQ (bQ (bQ (bQ (bQ (bQ (bQ (bQ (bQ (bQ (bQ (bQ (bQ (bQ (bQ (bQ (bQ (bQ (bQ (bQ (bQ (bQ (bQ (bQ (bQ (bQ (bQ P3 Ql) PW) PP) Qv) QG) Qt) QL) PK) Qc) OK) Oc) Ph) OH) NR) Oq) NH) NS) NX) O1) Pz) OY) OL) OA) Oj) NI) NB) Px) ND) ON) NE) Pw
theorem LA:Tryz.checked.prog.funcNamed Rows.fnProofMoreRow.func=some dr:=by kernel_rfl
theorem Ng:Tryz.f7.isInstance Tryz.checked.prog Rows.fnProofMoreRow.origin Rows.fnProofMoreRow.targs:=of_decide_eq_true (by kernel_rfl)
theorem M8:Tryz.f7.isWrapper Tryz.checked.prog Rows.fnProofMoreRow.wrapper Rows.fnProofMoreRow.mainSum:=by unfold Func.isWrapper; first|(rw [if_pos (by decide +kernel)]; kernel_rfl)|(rw [if_neg (by decide +kernel)]; exact ⟨rfl,rfl⟩)
theorem pMo2_holds:Rows.FnProofMoreSaid:=
 OpenClaim.holds_of_wide dr Tryz.f7 rfl rfl rfl rfl rfl rfl rfl ⟨rfl,rfl,rfl,rfl,rfl⟩ rfl rfl rfl rfl rfl LA Tryz.func7 Iz Ng M8
  (fun os started H enc _=>Ie os started H enc)

#print axioms pMo2_holds
end Go.Proofs.YtfcbhfjomgopbaaGreat
