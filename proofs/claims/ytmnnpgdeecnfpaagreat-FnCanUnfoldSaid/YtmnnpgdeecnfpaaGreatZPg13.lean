/- FnCanUnfold returns true, whatever bytes come in, and leaves them as they were. No condition. -/
import Derived.Test.YtmnnpgdeecnfpaaGreatZPg12
namespace Go.Proofs.YtmnnpgdeecnfpaaGreat
open Go Go.ChangeShapes Go.WideShapes Go.ChangeAt Go.RowKit

set_option maxRecDepth 100000 in
theorem yI (os:Os) (started:os.Started) (H:Type) (enc:TypeId × Value->H) :
  ReturnsInHanded {} Tryz.checked os aZ .any (Rows.fnCanUnfoldSpec.pre6 enc Tryz.prog Tryz.f12 Rows.fnCanUnfoldRow.domain false)
   (Rows.fnCanUnfoldSpec.post enc Tryz.prog Tryz.f12 false true false false):=by
 refine returnsInHanded_of_change (C:=Tryz.checked) Tryz.own started (by kernel_rfl) Tryz.func12
  (ChangeSpec.witness6 (enc:=enc) (C:=Tryz.checked) false ⟨#[],#[.slice none 0 0],[]⟩ 8 (by kernel_rfl) (by kernel_rfl) (by kernel_rfl) (by kernel_rfl)) ?_
 intro W base args ds gs before hval0 hW _ _
 have hval:∀ (j:Nat) t v,Tryz.f12.params[j]?=some t->args[j]?=some v->Value.okWide Tryz.prog W .any base t v:=hval0
 have hW':=hW
 obtain ⟨p,q,hA0,hV,hb,_,_⟩:=hW
 have hA:DataW.TrodAll enc Tryz.prog W 0 (fun _=>true) true Tryz.f12.params.toList args.toList ds p:=hA0
 have hA1:=hA
 rw [Tryz.params12] at hA1 hval
 obtain ⟨v0,d0,rfl,rfl,h0⟩:=trodAll_one hA1
 obtain ⟨n,hn⟩:=h0
 obtain rfl:=(trodVars_none (show DataW.TrodVars enc Tryz.prog W (fun _=>true) [] gs q from hV)).1
 obtain ⟨a,len,cap,rfl⟩:=okWide_slice (qi bw).1 (hval 0 _ _ rfl rfl)
 obtain ⟨xs,hxs⟩:=Be hn
 refine (ve hxs W (Inv.entry W)).mono fun e W' ⟨he,hI⟩=>?_
 subst he
 exact ⟨_,rfl,Ci hW' hA hV hb rfl (by rw [Tryz.params12]; decide +kernel) (by kernel_rfl) rfl rfl rfl hI⟩

theorem aL {a b:Bool} (ha:a=true) (hb:b=true):(a && b)=true:=by rw [ha,hb]; rfl
theorem Et:Rows.fnCanUnfoldRow.wf (OpenSpec.ofChange Rows.fnCanUnfoldSpec)=true:=by kernel_rfl
theorem Em:laidOutB Tryz.checked.prog=true:=by kernel_rfl
theorem ED:mapsRowed Tryz.checked.prog=true:=by kernel_rfl
theorem Ep:Tryz.f12.params.all (Tryz.checked.prog.readableRec ·)=true:=by kernel_rfl
theorem EJ:namedTie Tryz.checked.prog Rows.fnCanUnfoldRow.named Rows.fnCanUnfoldSpec.vars=true:=by kernel_rfl
theorem Ew:(Rows.fnCanUnfoldRow.stops == [])=true:=by kernel_rfl
theorem Ey:(Tryz.checked.prog.stops == [])=true:=by kernel_rfl
theorem EL:(Rows.fnCanUnfoldRow.knobs == [])=true:=by kernel_rfl
theorem EO:(Tryz.checked.prog.stopKnobs == [])=true:=by kernel_rfl
theorem Es:(Rows.fnCanUnfoldRow.inPlace == Tryz.checked.prog.inPlace aZ)=true:=by kernel_rfl
theorem Dh:(Rows.fnCanUnfoldRow.unfollowed == Tryz.checked.prog.unfollowed aZ)=true:=by kernel_rfl
theorem Ds:(Rows.fnCanUnfoldRow.recurses == Tryz.checked.prog.recurses aZ)=true:=by kernel_rfl
theorem Dl:(Rows.fnCanUnfoldRow.named == Tryz.checked.prog.varsNamed aZ)=true:=by kernel_rfl
theorem CO:(Rows.fnCanUnfoldRow.maps == (Tryz.f12.params.toList++Rows.fnCanUnfoldSpec.plain.varTypes Tryz.checked.prog).any (Tryz.checked.prog.mapsRec ·))=true:=by kernel_rfl
theorem CS:(Rows.fnCanUnfoldRow.ifaces == (Tryz.f12.params.toList++Rows.fnCanUnfoldSpec.plain.varTypes Tryz.checked.prog).any (Tryz.checked.prog.ifacesRec ·))=true:=by kernel_rfl
theorem DW:(Rows.fnCanUnfoldRow.mapsOut == Tryz.checked.prog.mapsAmong Tryz.f12.resultTypes.toList)=true:=by kernel_rfl
theorem DZ:(Rows.fnCanUnfoldRow.loops == (Tryz.f12.params.toList++Rows.fnCanUnfoldSpec.plain.varTypes Tryz.checked.prog).any (Tryz.checked.prog.loopsFrom ·))=true:=by kernel_rfl
theorem DG:(Rows.fnCanUnfoldRow.wideKeys == (Tryz.f12.params.toList++Rows.fnCanUnfoldSpec.plain.varTypes Tryz.checked.prog++Tryz.f12.resultTypes.toList).any (Tryz.checked.prog.wideKeysFrom ·))=true:=by kernel_rfl
theorem DT:Rows.fnCanUnfoldSpec.vars.all (Tryz.checked.prog.varReadable ·)=true:=by kernel_rfl
theorem CR:Tryz.f12.resultTypes.all (fun t=>Tryz.checked.prog.readableRec t && decide (t<Tryz.checked.prog.types.size))=true:=by kernel_rfl
theorem Dv:(Rows.fnCanUnfoldRow.ifacesOut == Tryz.f12.resultTypes.toList.any (Tryz.checked.prog.ifacesRec ·))=true:=by kernel_rfl
theorem DF:(Rows.fnCanUnfoldRow.loopsOut == Tryz.f12.resultTypes.toList.any (Tryz.checked.prog.loopsFrom ·))=true:=by kernel_rfl
theorem DK:(Rows.fnCanUnfoldRow.plainKeys == Tryz.checked.prog.plainKeys)=true:=by kernel_rfl
theorem Di:Rows.fnCanUnfoldRow.shortTexts.isNone=true:=by kernel_rfl
theorem Ea:Tryz.checked.prog.stopsHeard=true:=by kernel_rfl
theorem Dz:Tryz.checked.prog.mayEnter=true:=by kernel_rfl
theorem CI:(Rows.fnCanUnfoldRow.lifted == Tryz.checked.prog.liftsFinal)=true:=by kernel_rfl
theorem De:(Tryz.checked.prog.make == some Rows.fnCanUnfoldRow.make)=true:=by kernel_rfl
theorem Da:(Rows.fnCanUnfoldRow.kinds == (if Rows.fnCanUnfoldRow.domain.isEmpty then [] else Tryz.f12.params.toList.map fun t=>match Tryz.checked.prog.underlying t with|some (.int k)=>some k|_=>none))=true:=by kernel_rfl
theorem CY:(Rows.fnCanUnfoldRow.pinned == Rows.fnCanUnfoldRow.pinnedBy)=true:=by kernel_rfl
theorem Eh:(Rows.fnCanUnfoldRow.veiled == (Tryz.f12.params.toList++Rows.fnCanUnfoldSpec.plain.varTypes Tryz.checked.prog++Tryz.f12.resultTypes.toList).any (Tryz.checked.prog.veiledRec ·))=true:=by kernel_rfl
theorem CP:Rows.fnCanUnfoldRow.veiledFits Tryz.checked.prog Tryz.f12.params.toList (Tryz.f12.params.toList++Rows.fnCanUnfoldSpec.plain.varTypes Tryz.checked.prog++Tryz.f12.resultTypes.toList)=true:=by kernel_rfl
set_option maxRecDepth 100000 in
theorem zX:joinedFacts Tryz.checked.prog aZ Tryz.f12 Rows.fnCanUnfoldSpec Rows.fnCanUnfoldRow=true:=by
 unfold joinedFacts
 exact aL (aL (aL (aL (aL (aL (aL (aL (aL (aL (aL (aL (aL (aL (aL (aL (aL (aL (aL (aL (aL (aL (aL (aL (aL (aL (aL (aL (aL (aL (aL Et Em) ED) Ep) EJ) Ew) Ey) EL) EO) Es) Dh) Ds) Dl) CO) CS) DW) DZ) DG) DT) CR) Dv) DF) DK) Di) Ea) Dz) CI) De) Da) CY) Eh) CP
theorem AG:Tryz.checked.prog.funcNamed Rows.fnCanUnfoldRow.func=some aZ:=by kernel_rfl
theorem Cc:Tryz.f12.isInstance Tryz.checked.prog Rows.fnCanUnfoldRow.origin Rows.fnCanUnfoldRow.targs:=of_decide_eq_true (by kernel_rfl)
theorem Cf:Tryz.f12.isWrapper Tryz.checked.prog Rows.fnCanUnfoldRow.wrapper Rows.fnCanUnfoldRow.mainSum:=by unfold Func.isWrapper; first|(rw [if_pos (by decide +kernel)]; kernel_rfl)|(rw [if_neg (by decide +kernel)]; exact ⟨rfl,rfl⟩)
theorem pUnf_holds:Rows.FnCanUnfoldSaid:=
 OpenClaim.holds_of_wide aZ Tryz.f12 rfl rfl rfl rfl rfl rfl rfl ⟨rfl,rfl,rfl,rfl,rfl⟩ rfl rfl rfl rfl rfl AG Tryz.func12 zX Cc Cf
  (fun os started H enc _=>yI os started H enc)

#print axioms pUnf_holds
end Go.Proofs.YtmnnpgdeecnfpaaGreat
