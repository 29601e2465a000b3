/- FnProofFact returns true, whatever bytes come in, and leaves them as they were. No condition. -/
import Derived.Test.YtfcbhfjomgopbaaGreatZFf16
namespace Go.Proofs.YtfcbhfjomgopbaaGreat
open Go Go.ChangeShapes Go.WideShapes Go.ChangeAt Go.RowKit

set_option maxRecDepth 100000 in
theorem IU (os:Os) (started:os.Started) (H:Type) (enc:TypeId × Value->H) :
  ReturnsInHanded {} Tryz.checked os du .any (Rows.fnProofFactSpec.pre6 enc Tryz.prog Tryz.f6 Rows.fnProofFactRow.domain false)
   (Rows.fnProofFactSpec.post enc Tryz.prog Tryz.f6 false true false false):=by
 refine returnsInHanded_of_change (C:=Tryz.checked) Tryz.own started (by kernel_rfl) Tryz.func6
  (ChangeSpec.witness6 (enc:=enc) (C:=Tryz.checked) false ⟨#[],#[.slice none 0 0,.slice none 0 0],[]⟩ 8 (by kernel_rfl) (by kernel_rfl) (by kernel_rfl) (by kernel_rfl)) ?_
 intro W base args ds gs before hval0 hW _ _
 have hval:∀ (j:Nat) t v,Tryz.f6.params[j]?=some t->args[j]?=some v->Value.okWide Tryz.prog W .any base t v:=hval0
 have hW':=hW
 obtain ⟨p,q,hA0,hV,hb,_,_⟩:=hW
 have hA:DataW.TrodAll enc Tryz.prog W 0 (fun _=>true) true Tryz.f6.params.toList args.toList ds p:=hA0
 have hA1:=hA
 rw [Tryz.params6] at hA1 hval
 obtain ⟨v0,v1,d0,d1,p0,p1,rfl,rfl,_,h0,h1⟩:=trodAll_two hA1
 obtain ⟨n,hn⟩:=h0
 obtain ⟨n1,hn1⟩:=h1
 obtain rfl:=(trodVars_none (show DataW.TrodVars enc Tryz.prog W (fun _=>true) [] gs q from hV)).1
 obtain ⟨a,len,cap,rfl⟩:=okWide_slice (mg dg).1 (hval 0 _ _ rfl rfl)
 obtain ⟨a1,len1,cap1,rfl⟩:=okWide_slice (mg dg).1 (hval 1 _ _ rfl rfl)
 obtain ⟨xs,hxs⟩:=s4 hn
 obtain ⟨xs1,hxs1⟩:=s4 hn1
 refine (zK hxs hxs1 W (Inv.entry W)).mono fun e W' ⟨he,hI⟩=>?_
 subst he
 exact ⟨_,rfl,ER hW' hA hV hb rfl (by rw [Tryz.params6]; decide +kernel) (by kernel_rfl) rfl rfl rfl hI⟩

theorem bT {a b:Bool} (ha:a=true) (hb:b=true):(a && b)=true:=by rw [ha,hb]; rfl
theorem PQ:Rows.fnProofFactRow.wf (OpenSpec.ofChange Rows.fnProofFactSpec)=true:=by kernel_rfl
theorem QA:laidOutB Tryz.checked.prog=true:=by kernel_rfl
theorem Qz:mapsRowed Tryz.checked.prog=true:=by kernel_rfl
theorem Qi:Tryz.f6.params.all (Tryz.checked.prog.readableRec ·)=true:=by kernel_rfl
theorem P5:namedTie Tryz.checked.prog Rows.fnProofFactRow.named Rows.fnProofFactSpec.vars=true:=by kernel_rfl
theorem P7:(Rows.fnProofFactRow.stops == [])=true:=by kernel_rfl
theorem Qk:(Tryz.checked.prog.stops == [])=true:=by kernel_rfl
theorem PD:(Rows.fnProofFactRow.knobs == [])=true:=by kernel_rfl
theorem PI:(Tryz.checked.prog.stopKnobs == [])=true:=by kernel_rfl
theorem P0:(Rows.fnProofFactRow.inPlace == Tryz.checked.prog.inPlace du)=true:=by kernel_rfl
theorem OB:(Rows.fnProofFactRow.unfollowed == Tryz.checked.prog.unfollowed du)=true:=by kernel_rfl
theorem Oi:(Rows.fnProofFactRow.recurses == Tryz.checked.prog.recurses du)=true:=by kernel_rfl
theorem O3:(Rows.fnProofFactRow.named == Tryz.checked.prog.varsNamed du)=true:=by kernel_rfl
theorem OQ:(Rows.fnProofFactRow.maps == (Tryz.f6.params.toList++Rows.fnProofFactSpec.plain.varTypes Tryz.checked.prog).any (Tryz.checked.prog.mapsRec ·))=true:=by kernel_rfl
theorem Nx:(Rows.fnProofFactRow.ifaces == (Tryz.f6.params.toList++Rows.fnProofFactSpec.plain.varTypes Tryz.checked.prog).any (Tryz.checked.prog.ifacesRec ·))=true:=by kernel_rfl
theorem NZ:(Rows.fnProofFactRow.mapsOut == Tryz.checked.prog.mapsAmong Tryz.f6.resultTypes.toList)=true:=by kernel_rfl
theorem NN:(Rows.fnProofFactRow.loops == (Tryz.f6.params.toList++Rows.fnProofFactSpec.plain.varTypes Tryz.checked.prog).any (Tryz.checked.prog.loopsFrom ·))=true:=by kernel_rfl
theorem Nw:(Rows.fnProofFactRow.wideKeys == (Tryz.f6.params.toList++Rows.fnProofFactSpec.plain.varTypes Tryz.checked.prog++Tryz.f6.resultTypes.toList).any (Tryz.checked.prog.wideKeysFrom ·))=true:=by kernel_rfl
theorem O7:Rows.fnProofFactSpec.vars.all (Tryz.checked.prog.varReadable ·)=true:=by kernel_rfl
theorem Oz:Tryz.f6.resultTypes.all (fun t=>Tryz.checked.prog.readableRec t && decide (t<Tryz.checked.prog.types.size))=true:=by kernel_rfl
theorem Ol:(Rows.fnProofFactRow.ifacesOut == Tryz.f6.resultTypes.toList.any (Tryz.checked.prog.ifacesRec ·))=true:=by kernel_rfl
theorem OT:(Rows.fnProofFactRow.loopsOut == Tryz.f6.resultTypes.toList.any (Tryz.checked.prog.loopsFrom ·))=true:=by kernel_rfl
theorem Pu:(Rows.fnProofFactRow.plainKeys == Tryz.checked.prog.plainKeys)=true:=by kernel_rfl
theorem NA:Rows.fnProofFactRow.shortTexts.isNone=true:=by kernel_rfl
theorem Oy:Tryz.checked.prog.stopsHeard=true:=by kernel_rfl
theorem Ot:Tryz.checked.prog.mayEnter=true:=by kernel_rfl
theorem N9:(Rows.fnProofFactRow.lifted == Tryz.checked.prog.liftsFinal)=true:=by kernel_rfl
theorem Ou:(Tryz.checked.prog.make == some Rows.fnProofFactRow.make)=true:=by kernel_rfl
theorem NW:(Rows.fnProofFactRow.kinds == (if Rows.fnProofFactRow.domain.isEmpty then [] else Tryz.f6.params.toList.map fun t=>match Tryz.checked.prog.underlying t with|some (.int k)=>some k|_=>none))=true:=by kernel_rfl
theorem OU:(Rows.fnProofFactRow.pinned == Rows.fnProofFactRow.pinnedBy)=true:=by kernel_rfl
theorem Oo:(Rows.fnProofFactRow.veiled == (Tryz.f6.params.toList++Rows.fnProofFactSpec.plain.varTypes Tryz.checked.prog++Tryz.f6.resultTypes.toList).any (Tryz.checked.prog.veiledRec ·))=true:=by kernel_rfl
theorem Of:Rows.fnProofFactRow.veiledFits Tryz.checked.prog Tryz.f6.params.toList (Tryz.f6.params.toList++Rows.fnProofFactSpec.plain.varTypes Tryz.checked.prog++Tryz.f6.resultTypes.toList)=true:=by kernel_rfl
set_option maxRecDepth 100000 in
theorem IC:joinedFacts Tryz.checked.prog du Tryz.f6 Rows.fnProofFactSpec Rows.fnProofFactRow=true:=by
 unfold joinedFacts
 exact bT (bT (bT (bT (bT (bT (bT (bT (bT (bT (bT (bT (bT (bT (bT (bT (bT (bT (bT (bT (bT (bT (bT (bT (bT (bT (bT (bT (bT (bT (bT PQ QA) Qz) Qi) P5) P7) Qk) PD) PI) P0) OB) Oi) O3) OQ) Nx) NZ) NN) Nw) O7) Oz) Ol) OT) Pu) NA) Oy) Ot) N9) Ou) NW) OU) Oo) Of
theorem JX:Tryz.checked.prog.funcNamed Rows.fnProofFactRow.func=some du:=by kernel_rfl
theorem MM:Tryz.f6.isInstance Tryz.checked.prog Rows.fnProofFactRow.origin Rows.fnProofFactRow.targs:=of_decide_eq_true (by kernel_rfl)
theorem MW:Tryz.f6.isWrapper Tryz.checked.prog Rows.fnProofFactRow.wrapper Rows.fnProofFactRow.mainSum:=by unfold Func.isWrapper; first|(rw [if_pos (by decide +kernel)]; kernel_rfl)|(rw [if_neg (by decide +kernel)]; exact ⟨rfl,rfl⟩)
theorem pFa2_holds:Rows.FnProofFactSaid:=
 OpenClaim.holds_of_wide du Tryz.f6 rfl rfl rfl rfl rfl rfl rfl ⟨rfl,rfl,rfl,rfl,rfl⟩ rfl rfl rfl rfl rfl JX Tryz.func6 IC MM MW
  (fun os started H enc _=>IU os started H enc)

#print axioms pFa2_holds
end Go.Proofs.YtfcbhfjomgopbaaGreat
