/- FnExactCheckProof returns true whatever program and proof come in, and leaves them as they were. No condition. -/
import Derived.Test.YtfcbhfjomgopbaaGreatZc10
namespace Go.Proofs.YtfcbhfjomgopbaaGreat
open Go Go.ChangeShapes Go.WideShapes Go.ChangeAt Go.RowKit

theorem xH:Tryz.prog.underlying iq=some (.struct (Tryz.prog.fieldsOf iq)):=by kernel_rfl
set_option maxRecDepth 100000 in
theorem BX (os:Os) (started:os.Started) (H:Type) (enc:TypeId × Value->H) :
  ReturnsInHanded {} Tryz.checked os bH .any (Rows.fnExactCheckProofSpec.pre6 enc Tryz.prog Tryz.f3 Rows.fnExactCheckProofRow.domain false)
   (Rows.fnExactCheckProofSpec.post enc Tryz.prog Tryz.f3 false true false false):=by
 refine returnsInHanded_of_change (C:=Tryz.checked) Tryz.own started (by kernel_rfl) Tryz.func3
  (ChangeSpec.witness6 (enc:=enc) (C:=Tryz.checked) false ⟨#[],#[.slice none 0 0,.agg #[.int .i64 0,.int .i64 0,.string ⟨#[]⟩,.slice none 0 0,.int .i64 0,.slice none 0 0]],[]⟩ 8 (by kernel_rfl) (by kernel_rfl) (by kernel_rfl) (by kernel_rfl)) ?_
 intro W base args ds gs before hval0 hW _ _
 have hval:∀ (j:Nat) t v,Tryz.f3.params[j]?=some t->args[j]?=some v->Value.okWide Tryz.prog W .any base t v:=hval0
 have hW':=hW
 obtain ⟨p,q,hA0,hV,hb,_,_⟩:=hW
 have hA:DataW.TrodAll enc Tryz.prog W 0 (fun _=>true) true Tryz.f3.params.toList args.toList ds p:=hA0
 have hA1:=hA
 rw [Tryz.params3] at hA1 hval
 obtain ⟨v0,v1,d0,d1,p0,p1,rfl,rfl,_,h0,h1⟩:=trodAll_two hA1
 obtain ⟨n,hn⟩:=h0
 obtain ⟨m,hm⟩:=h1
 obtain ⟨cs,rfl,_⟩:=okWide_struct xH (hval 1 _ _ rfl rfl)
 obtain ⟨y,hy⟩:=BH _ cs.toList _ hm
 obtain rfl:=(trodVars_none (show DataW.TrodVars enc Tryz.prog W (fun _=>true) [] gs q from hV)).1
 obtain ⟨a,len,cap,rfl⟩:=okWide_slice (sw ef).1 (hval 0 _ _ rfl rfl)
 obtain ⟨xs,hxs⟩:=zu hn
 refine (zh hxs hy W (Inv.entry W)).mono fun e W' ⟨he,hI⟩=>?_
 subst he
 exact ⟨_,rfl,CL hW' hA hV hb rfl (by rw [Tryz.params3]; decide +kernel) (by kernel_rfl) rfl rfl rfl hI⟩

theorem bF {a b:Bool} (ha:a=true) (hb:b=true):(a && b)=true:=by rw [ha,hb]; rfl
theorem Fx:Rows.fnExactCheckProofRow.wf (OpenSpec.ofChange Rows.fnExactCheckProofSpec)=true:=by kernel_rfl
theorem Fp:laidOutB Tryz.checked.prog=true:=by kernel_rfl
theorem FL:mapsRowed Tryz.checked.prog=true:=by kernel_rfl
theorem FK:Tryz.f3.params.all (Tryz.checked.prog.readableRec ·)=true:=by kernel_rfl
theorem FF:namedTie Tryz.checked.prog Rows.fnExactCheckProofRow.named Rows.fnExactCheckProofSpec.vars=true:=by kernel_rfl
theorem FJ:(Rows.fnExactCheckProofRow.stops == [])=true:=by kernel_rfl
theorem FD:(Tryz.checked.prog.stops == [])=true:=by kernel_rfl
theorem FI:(Rows.fnExactCheckProofRow.knobs == [])=true:=by kernel_rfl
theorem Fz:(Tryz.checked.prog.stopKnobs == [])=true:=by kernel_rfl
theorem FB:(Rows.fnExactCheckProofRow.inPlace == Tryz.checked.prog.inPlace bH)=true:=by kernel_rfl
theorem Ew:(Rows.fnExactCheckProofRow.unfollowed == Tryz.checked.prog.unfollowed bH)=true:=by kernel_rfl
theorem Fb:(Rows.fnExactCheckProofRow.recurses == Tryz.checked.prog.recurses bH)=true:=by kernel_rfl
theorem E9:(Rows.fnExactCheckProofRow.named == Tryz.checked.prog.varsNamed bH)=true:=by kernel_rfl
theorem EO:(Rows.fnExactCheckProofRow.maps == (Tryz.f3.params.toList++Rows.fnExactCheckProofSpec.plain.varTypes Tryz.checked.prog).any (Tryz.checked.prog.mapsRec ·))=true:=by kernel_rfl
theorem EH:(Rows.fnExactCheckProofRow.ifaces == (Tryz.f3.params.toList++Rows.fnExactCheckProofSpec.plain.varTypes Tryz.checked.prog).any (Tryz.checked.prog.ifacesRec ·))=true:=by kernel_rfl
theorem Fa:(Rows.fnExactCheckProofRow.mapsOut == Tryz.checked.prog.mapsAmong Tryz.f3.resultTypes.toList)=true:=by kernel_rfl
theorem ER:(Rows.fnExactCheckProofRow.loops == (Tryz.f3.params.toList++Rows.fnExactCheckProofSpec.plain.varTypes Tryz.checked.prog).any (Tryz.checked.prog.loopsFrom ·))=true:=by kernel_rfl
theorem Ez:(Rows.fnExactCheckProofRow.wideKeys == (Tryz.f3.params.toList++Rows.fnExactCheckProofSpec.plain.varTypes Tryz.checked.prog++Tryz.f3.resultTypes.toList).any (Tryz.checked.prog.wideKeysFrom ·))=true:=by kernel_rfl
theorem EG:Rows.fnExactCheckProofSpec.vars.all (Tryz.checked.prog.varReadable ·)=true:=by kernel_rfl
theorem EJ:Tryz.f3.resultTypes.all (fun t=>Tryz.checked.prog.readableRec t && decide (t<Tryz.checked.prog.types.size))=true:=by kernel_rfl
theorem ED:(Rows.fnExactCheckProofRow.ifacesOut == Tryz.f3.resultTypes.toList.any (Tryz.checked.prog.ifacesRec ·))=true:=by kernel_rfl
theorem EA:(Rows.fnExactCheckProofRow.loopsOut == Tryz.f3.resultTypes.toList.any (Tryz.checked.prog.loopsFrom ·))=true:=by kernel_rfl
theorem EZ:(Rows.fnExactCheckProofRow.plainKeys == Tryz.checked.prog.plainKeys)=true:=by kernel_rfl
theorem Fc:Rows.fnExactCheckProofRow.shortTexts.isNone=true:=by kernel_rfl
theorem EP:Tryz.checked.prog.stopsHeard=true:=by kernel_rfl
theorem EQ:Tryz.checked.prog.mayEnter=true:=by kernel_rfl
theorem Ev:(Rows.fnExactCheckProofRow.lifted == Tryz.checked.prog.liftsFinal)=true:=by kernel_rfl
theorem EB:(Tryz.checked.prog.make == some Rows.fnExactCheckProofRow.make)=true:=by kernel_rfl
theorem EM:(Rows.fnExactCheckProofRow.kinds == (if Rows.fnExactCheckProofRow.domain.isEmpty then [] else Tryz.f3.params.toList.map fun t=>match Tryz.checked.prog.underlying t with|some (.int k)=>some k|_=>none))=true:=by kernel_rfl
theorem EC:(Rows.fnExactCheckProofRow.pinned == Rows.fnExactCheckProofRow.pinnedBy)=true:=by kernel_rfl
theorem Ey:(Rows.fnExactCheckProofRow.veiled == (Tryz.f3.params.toList++Rows.fnExactCheckProofSpec.plain.varTypes Tryz.checked.prog++Tryz.f3.resultTypes.toList).any (Tryz.checked.prog.veiledRec ·))=true:=by kernel_rfl
theorem EX:Rows.fnExactCheckProofRow.veiledFits Tryz.checked.prog Tryz.f3.params.toList (Tryz.f3.params.toList++Rows.fnExactCheckProofSpec.plain.varTypes Tryz.checked.prog++Tryz.f3.resultTypes.toList)=true:=by kernel_rfl
set_option maxRecDepth 100000 in
theorem BS:joinedFacts Tryz.checked.prog bH Tryz.f3 Rows.fnExactCheckProofSpec Rows.fnExactCheckProofRow=true:=by
 unfold joinedFacts
 exact bF (bF (bF (bF (bF (bF (bF (bF (bF (bF (bF (bF (bF (bF (bF (bF (bF (bF (bF (bF (bF (bF (bF (bF (bF (bF (bF (bF (bF (bF (bF Fx Fp) FL) FK) FF) FJ) FD) FI) Fz) FB) Ew) Fb) E9) EO) EH) Fa) ER) Ez) EG) EJ) ED) EA) EZ) Fc) EP) EQ) Ev) EB) EM) EC) Ey) EX
theorem CX:Tryz.checked.prog.funcNamed Rows.fnExactCheckProofRow.func=some bH:=by kernel_rfl
theorem D1:Tryz.f3.isInstance Tryz.checked.prog Rows.fnExactCheckProofRow.origin Rows.fnExactCheckProofRow.targs:=of_decide_eq_true (by kernel_rfl)
theorem D9:Tryz.f3.isWrapper Tryz.checked.prog Rows.fnExactCheckProofRow.wrapper Rows.fnExactCheckProofRow.mainSum:=by unfold Func.isWrapper; first|(rw [if_pos (by decide +kernel)]; kernel_rfl)|(rw [if_neg (by decide +kernel)]; exact ⟨rfl,rfl⟩)
theorem chk_holds:Rows.FnExactCheckProofSaid:=
 OpenClaim.holds_of_wide bH Tryz.f3 rfl rfl rfl rfl rfl rfl rfl ⟨rfl,rfl,rfl,rfl,rfl⟩ rfl rfl rfl rfl rfl CX Tryz.func3 BS D1 D9
  (fun os started H enc _=>BX os started H enc)

#print axioms chk_holds
end Go.Proofs.YtfcbhfjomgopbaaGreat
