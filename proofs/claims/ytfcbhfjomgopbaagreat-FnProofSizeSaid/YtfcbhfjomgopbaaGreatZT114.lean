/- FnProofSize returns true, whatever bytes come in, and leaves them as they were. No condition. -/
import Derived.Test.YtfcbhfjomgopbaaGreatZT113
namespace Go.Proofs.YtfcbhfjomgopbaaGreat
open Go Go.ChangeShapes Go.WideShapes Go.ChangeAt Go.RowKit

set_option maxRecDepth 100000 in
theorem HF (os:Os) (started:os.Started) (H:Type) (enc:TypeId × Value->H) :
  ReturnsInHanded {} Tryz.checked os cT .any (Rows.fnProofSizeSpec.pre6 enc Tryz.prog Tryz.f4 Rows.fnProofSizeRow.domain false)
   (Rows.fnProofSizeSpec.post enc Tryz.prog Tryz.f4 false true false false):=by
 refine returnsInHanded_of_change (C:=Tryz.checked) Tryz.own started (by kernel_rfl) Tryz.func4
  (ChangeSpec.witness6 (enc:=enc) (C:=Tryz.checked) false ⟨#[],#[.slice none 0 0],[]⟩ 8 (by kernel_rfl) (by kernel_rfl) (by kernel_rfl) (by kernel_rfl)) ?_
 intro W base args ds gs before hval0 hW _ _
 have hval:∀ (j:Nat) t v,Tryz.f4.params[j]?=some t->args[j]?=some v->Value.okWide Tryz.prog W .any base t v:=hval0
 have hW':=hW
 obtain ⟨p,q,hA0,hV,hb,_,_⟩:=hW
 have hA:DataW.TrodAll enc Tryz.prog W 0 (fun _=>true) true Tryz.f4.params.toList args.toList ds p:=hA0
 have hA1:=hA
 rw [Tryz.params4] at hA1 hval
 obtain ⟨v0,d0,rfl,rfl,h0⟩:=trodAll_one hA1
 obtain ⟨n,hn⟩:=h0
 obtain rfl:=(trodVars_none (show DataW.TrodVars enc Tryz.prog W (fun _=>true) [] gs q from hV)).1
 obtain ⟨a,len,cap,rfl⟩:=okWide_slice (tY dL).1 (hval 0 _ _ rfl rfl)
 obtain ⟨xs,hxs⟩:=GJ hn
 refine (xw hxs W (Inv.entry W)).mono fun e W' ⟨he,hI⟩=>?_
 subst he
 exact ⟨_,rfl,JS hW' hA hV hb rfl (by rw [Tryz.params4]; decide +kernel) (by kernel_rfl) rfl rfl rfl hI⟩

theorem cj {a b:Bool} (ha:a=true) (hb:b=true):(a && b)=true:=by rw [ha,hb]; rfl
theorem NN:Rows.fnProofSizeRow.wf (OpenSpec.ofChange Rows.fnProofSizeSpec)=true:=by kernel_rfl
theorem NC:laidOutB Tryz.checked.prog=true:=by kernel_rfl
theorem M6:mapsRowed Tryz.checked.prog=true:=by kernel_rfl
theorem NK:Tryz.f4.params.all (Tryz.checked.prog.readableRec ·)=true:=by kernel_rfl
theorem Nk:namedTie Tryz.checked.prog Rows.fnProofSizeRow.named Rows.fnProofSizeSpec.vars=true:=by kernel_rfl
theorem Nf:(Rows.fnProofSizeRow.stops == [])=true:=by kernel_rfl
theorem Ny:(Tryz.checked.prog.stops == [])=true:=by kernel_rfl
theorem NU:(Rows.fnProofSizeRow.knobs == [])=true:=by kernel_rfl
theorem NI:(Tryz.checked.prog.stopKnobs == [])=true:=by kernel_rfl
theorem NG:(Rows.fnProofSizeRow.inPlace == Tryz.checked.prog.inPlace cT)=true:=by kernel_rfl
theorem LU:(Rows.fnProofSizeRow.unfollowed == Tryz.checked.prog.unfollowed cT)=true:=by kernel_rfl
theorem My:(Rows.fnProofSizeRow.recurses == Tryz.checked.prog.recurses cT)=true:=by kernel_rfl
theorem Mv:(Rows.fnProofSizeRow.named == Tryz.checked.prog.varsNamed cT)=true:=by kernel_rfl
theorem Mp:(Rows.fnProofSizeRow.maps == (Tryz.f4.params.toList++Rows.fnProofSizeSpec.plain.varTypes Tryz.checked.prog).any (Tryz.checked.prog.mapsRec ·))=true:=by kernel_rfl
theorem Ml:(Rows.fnProofSizeRow.ifaces == (Tryz.f4.params.toList++Rows.fnProofSizeSpec.plain.varTypes Tryz.checked.prog).any (Tryz.checked.prog.ifacesRec ·))=true:=by kernel_rfl
theorem LL:(Rows.fnProofSizeRow.mapsOut == Tryz.checked.prog.mapsAmong Tryz.f4.resultTypes.toList)=true:=by kernel_rfl
theorem LM:(Rows.fnProofSizeRow.loops == (Tryz.f4.params.toList++Rows.fnProofSizeSpec.plain.varTypes Tryz.checked.prog).any (Tryz.checked.prog.loopsFrom ·))=true:=by kernel_rfl
theorem MN:(Rows.fnProofSizeRow.wideKeys == (Tryz.f4.params.toList++Rows.fnProofSizeSpec.plain.varTypes Tryz.checked.prog++Tryz.f4.resultTypes.toList).any (Tryz.checked.prog.wideKeysFrom ·))=true:=by kernel_rfl
theorem Lx:Rows.fnProofSizeSpec.vars.all (Tryz.checked.prog.varReadable ·)=true:=by kernel_rfl
theorem Mw:Tryz.f4.resultTypes.all (fun t=>Tryz.checked.prog.readableRec t && decide (t<Tryz.checked.prog.types.size))=true:=by kernel_rfl
theorem Lu:(Rows.fnProofSizeRow.ifacesOut == Tryz.f4.resultTypes.toList.any (Tryz.checked.prog.ifacesRec ·))=true:=by kernel_rfl
theorem LH:(Rows.fnProofSizeRow.loopsOut == Tryz.f4.resultTypes.toList.any (Tryz.checked.prog.loopsFrom ·))=true:=by kernel_rfl
theorem Mz:(Rows.fnProofSizeRow.plainKeys == Tryz.checked.prog.plainKeys)=true:=by kernel_rfl
theorem LJ:Rows.fnProofSizeRow.shortTexts.isNone=true:=by kernel_rfl
theorem MB:Tryz.checked.prog.stopsHeard=true:=by kernel_rfl
theorem Ly:Tryz.checked.prog.mayEnter=true:=by kernel_rfl
theorem Mr:(Rows.fnProofSizeRow.lifted == Tryz.checked.prog.liftsFinal)=true:=by kernel_rfl
theorem MK:(Tryz.checked.prog.make == some Rows.fnProofSizeRow.make)=true:=by kernel_rfl
theorem Ma:(Rows.fnProofSizeRow.kinds == (if Rows.fnProofSizeRow.domain.isEmpty then [] else Tryz.f4.params.toList.map fun t=>match Tryz.checked.prog.underlying t with|some (.int k)=>some k|_=>none))=true:=by kernel_rfl
theorem LE:(Rows.fnProofSizeRow.pinned == Rows.fnProofSizeRow.pinnedBy)=true:=by kernel_rfl
theorem Mk:(Rows.fnProofSizeRow.veiled == (Tryz.f4.params.toList++Rows.fnProofSizeSpec.plain.varTypes Tryz.checked.prog++Tryz.f4.resultTypes.toList).any (Tryz.checked.prog.veiledRec ·))=true:=by kernel_rfl
theorem LR:Rows.fnProofSizeRow.veiledFits Tryz.checked.prog Tryz.f4.params.toList (Tryz.f4.params.toList++Rows.fnProofSizeSpec.plain.varTypes Tryz.checked.prog++Tryz.f4.resultTypes.toList)=true:=by kernel_rfl
set_option maxRecDepth 100000 in
theorem Hw:joinedFacts Tryz.checked.prog cT Tryz.f4 Rows.fnProofSizeSpec Rows.fnProofSizeRow=true:=by
 unfold joinedFacts
 exact cj (cj (cj (cj (cj (cj (cj (cj (cj (cj (cj (cj (cj (cj (cj (cj (cj (cj (cj (cj (cj (cj (cj (cj (cj (cj (cj (cj (cj (cj (cj NN NC) M6) NK) Nk) Nf) Ny) NU) NI) NG) LU) My) Mv) Mp) Ml) LL) LM) MN) Lx) Mw) Lu) LH) Mz) LJ) MB) Ly) Mr) MK) Ma) LE) Mk) LR
theorem Ju:Tryz.checked.prog.funcNamed Rows.fnProofSizeRow.func=some cT:=by kernel_rfl
theorem J6:Tryz.f4.isInstance Tryz.checked.prog Rows.fnProofSizeRow.origin Rows.fnProofSizeRow.targs:=of_decide_eq_true (by kernel_rfl)
theorem Lq:Tryz.f4.isWrapper Tryz.checked.prog Rows.fnProofSizeRow.wrapper Rows.fnProofSizeRow.mainSum:=by unfold Func.isWrapper; first|(rw [if_pos (by decide +kernel)]; kernel_rfl)|(rw [if_neg (by decide +kernel)]; exact ⟨rfl,rfl⟩)
theorem pSz_holds:Rows.FnProofSizeSaid:=
 OpenClaim.holds_of_wide cT Tryz.f4 rfl rfl rfl rfl rfl rfl rfl ⟨rfl,rfl,rfl,rfl,rfl⟩ rfl rfl rfl rfl rfl Ju Tryz.func4 Hw J6 Lq
  (fun os started H enc _=>HF os started H enc)

#print axioms pSz_holds
end Go.Proofs.YtfcbhfjomgopbaaGreat
