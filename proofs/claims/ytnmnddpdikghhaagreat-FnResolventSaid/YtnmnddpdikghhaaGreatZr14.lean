/- FnResolvent returns true, whatever bytes come in, and leaves them as they were. No condition. -/
import Derived.Test.YtnmnddpdikghhaaGreatZr12
namespace Go.Proofs.YtnmnddpdikghhaaGreat
open Go Go.ChangeShapes Go.WideShapes Go.ChangeAt Go.RowKit

set_option maxRecDepth 100000 in
theorem zZ (os:Os) (started:os.Started) (H:Type) (enc:TypeId × Value->H) :
  ReturnsInHanded {} Tryz.checked os dG .any (Rows.fnResolventSpec.pre6 enc Tryz.prog Tryz.f4 Rows.fnResolventRow.domain false)
   (Rows.fnResolventSpec.post enc Tryz.prog Tryz.f4 false true false false):=by
 refine returnsInHanded_of_change (C:=Tryz.checked) Tryz.own started (by kernel_rfl) Tryz.func4
  (ChangeSpec.witness6 (enc:=enc) (C:=Tryz.checked) false ⟨#[],#[.slice none 0 0],[]⟩ 8 (by kernel_rfl) (by kernel_rfl) (by kernel_rfl) (by kernel_rfl)) ?_
 intro W base args ds gs before hval0 hW _ _
 have hval:∀ (j:Nat) t v,Tryz.f4.params[j]?=some t->args[j]?=some v->Value.okWide Tryz.prog W .any base t v:=hval0
 have hW':=hW
 obtain ⟨p,q,hA0,hV,hb,_,_⟩:=hW
 have hA:DataW.TrodAll enc Tryz.prog W 0 (fun _=>true) true Tryz.f4.params.toList args.toList ds p:=hA0
 have hA1:=hA
 rw [Tryz.params4] at hA1 hval
 obtain ⟨v0,d0,rfl,rfl,h0⟩:=trodAll_one hA1
 obtain ⟨n,hn⟩:=h0
 obtain rfl:=(trodVars_none (show DataW.TrodVars enc Tryz.prog W (fun _=>true) [] gs q from hV)).1
 obtain ⟨a,len,cap,rfl⟩:=okWide_slice (nz dX).1 (hval 0 _ _ rfl rfl)
 obtain ⟨xs,hxs⟩:=y8 hn
 refine (xe hxs W (Inv.entry W)).mono fun e W' ⟨he,hI⟩=>?_
 subst he
 exact ⟨_,rfl,Bx hW' hA hV hb rfl (by rw [Tryz.params4]; decide +kernel) (by kernel_rfl) rfl rfl rfl hI⟩

theorem bK {a b:Bool} (ha:a=true) (hb:b=true):(a && b)=true:=by rw [ha,hb]; rfl
theorem Is:Rows.fnResolventRow.wf (OpenSpec.ofChange Rows.fnResolventSpec)=true:=by kernel_rfl
theorem Iz:laidOutB Tryz.checked.prog=true:=by kernel_rfl
theorem IG:mapsRowed Tryz.checked.prog=true:=by kernel_rfl
theorem Ii:Tryz.f4.params.all (Tryz.checked.prog.readableRec ·)=true:=by kernel_rfl
theorem In:namedTie Tryz.checked.prog Rows.fnResolventRow.named Rows.fnResolventSpec.vars=true:=by kernel_rfl
theorem IZ:(Rows.fnResolventRow.stops == [])=true:=by kernel_rfl
theorem IE:(Tryz.checked.prog.stops == [])=true:=by kernel_rfl
theorem Jc:(Rows.fnResolventRow.knobs == [])=true:=by kernel_rfl
theorem Ja:(Tryz.checked.prog.stopKnobs == [])=true:=by kernel_rfl
theorem Jf:(Rows.fnResolventRow.inPlace == Tryz.checked.prog.inPlace dG)=true:=by kernel_rfl
theorem Hx:(Rows.fnResolventRow.unfollowed == Tryz.checked.prog.unfollowed dG)=true:=by kernel_rfl
theorem G3:(Rows.fnResolventRow.recurses == Tryz.checked.prog.recurses dG)=true:=by kernel_rfl
theorem Gc:(Rows.fnResolventRow.named == Tryz.checked.prog.varsNamed dG)=true:=by kernel_rfl
theorem Hl:(Rows.fnResolventRow.maps == (Tryz.f4.params.toList++Rows.fnResolventSpec.plain.varTypes Tryz.checked.prog).any (Tryz.checked.prog.mapsRec ·))=true:=by kernel_rfl
theorem FY:(Rows.fnResolventRow.ifaces == (Tryz.f4.params.toList++Rows.fnResolventSpec.plain.varTypes Tryz.checked.prog).any (Tryz.checked.prog.ifacesRec ·))=true:=by kernel_rfl
theorem GV:(Rows.fnResolventRow.mapsOut == Tryz.checked.prog.mapsAmong Tryz.f4.resultTypes.toList)=true:=by kernel_rfl
theorem F1:(Rows.fnResolventRow.loops == (Tryz.f4.params.toList++Rows.fnResolventSpec.plain.varTypes Tryz.checked.prog).any (Tryz.checked.prog.loopsFrom ·))=true:=by kernel_rfl
theorem Gs:(Rows.fnResolventRow.wideKeys == (Tryz.f4.params.toList++Rows.fnResolventSpec.plain.varTypes Tryz.checked.prog++Tryz.f4.resultTypes.toList).any (Tryz.checked.prog.wideKeysFrom ·))=true:=by kernel_rfl
theorem FR:Rows.fnResolventSpec.vars.all (Tryz.checked.prog.varReadable ·)=true:=by kernel_rfl
theorem Hm:Tryz.f4.resultTypes.all (fun t=>Tryz.checked.prog.readableRec t && decide (t<Tryz.checked.prog.types.size))=true:=by kernel_rfl
theorem FU:(Rows.fnResolventRow.ifacesOut == Tryz.f4.resultTypes.toList.any (Tryz.checked.prog.ifacesRec ·))=true:=by kernel_rfl
theorem Ge:(Rows.fnResolventRow.loopsOut == Tryz.f4.resultTypes.toList.any (Tryz.checked.prog.loopsFrom ·))=true:=by kernel_rfl
theorem HG:(Rows.fnResolventRow.plainKeys == Tryz.checked.prog.plainKeys)=true:=by kernel_rfl
theorem GQ:Rows.fnResolventRow.shortTexts.isNone=true:=by kernel_rfl
theorem GO:Tryz.checked.prog.stopsHeard=true:=by kernel_rfl
theorem GY:Tryz.checked.prog.mayEnter=true:=by kernel_rfl
theorem Hq:(Rows.fnResolventRow.lifted == Tryz.checked.prog.liftsFinal)=true:=by kernel_rfl
theorem GU:(Tryz.checked.prog.make == some Rows.fnResolventRow.make)=true:=by kernel_rfl
theorem Gn:(Rows.fnResolventRow.kinds == (if Rows.fnResolventRow.domain.isEmpty then [] else Tryz.f4.params.toList.map fun t=>match Tryz.checked.prog.underlying t with|some (.int k)=>some k|_=>none))=true:=by kernel_rfl
theorem GI:(Rows.fnResolventRow.pinned == Rows.fnResolventRow.pinnedBy)=true:=by kernel_rfl
theorem FH:(Rows.fnResolventRow.veiled == (Tryz.f4.params.toList++Rows.fnResolventSpec.plain.varTypes Tryz.checked.prog++Tryz.f4.resultTypes.toList).any (Tryz.checked.prog.veiledRec ·))=true:=by kernel_rfl
theorem FZ:Rows.fnResolventRow.veiledFits Tryz.checked.prog Tryz.f4.params.toList (Tryz.f4.params.toList++Rows.fnResolventSpec.plain.varTypes Tryz.checked.prog++Tryz.f4.resultTypes.toList)=true:=by kernel_rfl
set_option maxRecDepth 100000 in
theorem AD:joinedFacts Tryz.checked.prog dG Tryz.f4 Rows.fnResolventSpec Rows.fnResolventRow=true:=by
 unfold joinedFacts
 exact bK (bK (bK (bK (bK (bK (bK (bK (bK (bK (bK (bK (bK (bK (bK (bK (bK (bK (bK (bK (bK (bK (bK (bK (bK (bK (bK (bK (bK (bK (bK Is Iz) IG) Ii) In) IZ) IE) Jc) Ja) Jf) Hx) G3) Gc) Hl) FY) GV) F1) Gs) FR) Hm) FU) Ge) HG) GQ) GO) GY) Hq) GU) Gn) GI) FH) FZ
theorem CA:Tryz.checked.prog.funcNamed Rows.fnResolventRow.func=some dG:=by kernel_rfl
theorem Fv:Tryz.f4.isInstance Tryz.checked.prog Rows.fnResolventRow.origin Rows.fnResolventRow.targs:=of_decide_eq_true (by kernel_rfl)
theorem EC:Tryz.f4.isWrapper Tryz.checked.prog Rows.fnResolventRow.wrapper Rows.fnResolventRow.mainSum:=by unfold Func.isWrapper; first|(rw [if_pos (by decide +kernel)]; kernel_rfl)|(rw [if_neg (by decide +kernel)]; exact ⟨rfl,rfl⟩)
theorem pResol_holds:Rows.FnResolventSaid:=
 OpenClaim.holds_of_wide dG Tryz.f4 rfl rfl rfl rfl rfl rfl rfl ⟨rfl,rfl,rfl,rfl,rfl⟩ rfl rfl rfl rfl rfl CA Tryz.func4 AD Fv EC
  (fun os started H enc _=>zZ os started H enc)

#print axioms pResol_holds
end Go.Proofs.YtnmnddpdikghhaaGreat
