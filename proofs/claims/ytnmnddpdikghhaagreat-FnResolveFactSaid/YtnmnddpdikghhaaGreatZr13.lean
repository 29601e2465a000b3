/- FnResolveFact returns true, whatever bytes come in, and leaves them as they were. No condition. -/
import Derived.Test.YtnmnddpdikghhaaGreatZr12
namespace Go.Proofs.YtnmnddpdikghhaaGreat
open Go Go.ChangeShapes Go.WideShapes Go.ChangeAt Go.RowKit

set_option maxRecDepth 100000 in
theorem Ab (os:Os) (started:os.Started) (H:Type) (enc:TypeId × Value->H) :
  ReturnsInHanded {} Tryz.checked os dc .any (Rows.fnResolveFactSpec.pre6 enc Tryz.prog Tryz.f3 Rows.fnResolveFactRow.domain false)
   (Rows.fnResolveFactSpec.post enc Tryz.prog Tryz.f3 false true false false):=by
 refine returnsInHanded_of_change (C:=Tryz.checked) Tryz.own started (by kernel_rfl) Tryz.func3
  (ChangeSpec.witness6 (enc:=enc) (C:=Tryz.checked) false ⟨#[],#[.slice none 0 0],[]⟩ 8 (by kernel_rfl) (by kernel_rfl) (by kernel_rfl) (by kernel_rfl)) ?_
 intro W base args ds gs before hval0 hW _ _
 have hval:∀ (j:Nat) t v,Tryz.f3.params[j]?=some t->args[j]?=some v->Value.okWide Tryz.prog W .any base t v:=hval0
 have hW':=hW
 obtain ⟨p,q,hA0,hV,hb,_,_⟩:=hW
 have hA:DataW.TrodAll enc Tryz.prog W 0 (fun _=>true) true Tryz.f3.params.toList args.toList ds p:=hA0
 have hA1:=hA
 rw [Tryz.params3] at hA1 hval
 obtain ⟨v0,d0,rfl,rfl,h0⟩:=trodAll_one hA1
 obtain ⟨n,hn⟩:=h0
 obtain rfl:=(trodVars_none (show DataW.TrodVars enc Tryz.prog W (fun _=>true) [] gs q from hV)).1
 obtain ⟨a,len,cap,rfl⟩:=okWide_slice (nz dX).1 (hval 0 _ _ rfl rfl)
 obtain ⟨xs,hxs⟩:=y8 hn
 refine (wc hxs W (Inv.entry W)).mono fun e W' ⟨he,hI⟩=>?_
 subst he
 exact ⟨_,rfl,Bx hW' hA hV hb rfl (by rw [Tryz.params3]; decide +kernel) (by kernel_rfl) rfl rfl rfl hI⟩

theorem bL {a b:Bool} (ha:a=true) (hb:b=true):(a && b)=true:=by rw [ha,hb]; rfl
theorem II:Rows.fnResolveFactRow.wf (OpenSpec.ofChange Rows.fnResolveFactSpec)=true:=by kernel_rfl
theorem Je:laidOutB Tryz.checked.prog=true:=by kernel_rfl
theorem IP:mapsRowed Tryz.checked.prog=true:=by kernel_rfl
theorem Ip:Tryz.f3.params.all (Tryz.checked.prog.readableRec ·)=true:=by kernel_rfl
theorem IX:namedTie Tryz.checked.prog Rows.fnResolveFactRow.named Rows.fnResolveFactSpec.vars=true:=by kernel_rfl
theorem IK:(Rows.fnResolveFactRow.stops == [])=true:=by kernel_rfl
theorem Jl:(Tryz.checked.prog.stops == [])=true:=by kernel_rfl
theorem IO:(Rows.fnResolveFactRow.knobs == [])=true:=by kernel_rfl
theorem IQ:(Tryz.checked.prog.stopKnobs == [])=true:=by kernel_rfl
theorem Iy:(Rows.fnResolveFactRow.inPlace == Tryz.checked.prog.inPlace dc)=true:=by kernel_rfl
theorem Hg:(Rows.fnResolveFactRow.unfollowed == Tryz.checked.prog.unfollowed dc)=true:=by kernel_rfl
theorem Fz:(Rows.fnResolveFactRow.recurses == Tryz.checked.prog.recurses dc)=true:=by kernel_rfl
theorem G4:(Rows.fnResolveFactRow.named == Tryz.checked.prog.varsNamed dc)=true:=by kernel_rfl
theorem GP:(Rows.fnResolveFactRow.maps == (Tryz.f3.params.toList++Rows.fnResolveFactSpec.plain.varTypes Tryz.checked.prog).any (Tryz.checked.prog.mapsRec ·))=true:=by kernel_rfl
theorem Gr:(Rows.fnResolveFactRow.ifaces == (Tryz.f3.params.toList++Rows.fnResolveFactSpec.plain.varTypes Tryz.checked.prog).any (Tryz.checked.prog.ifacesRec ·))=true:=by kernel_rfl
theorem Gv:(Rows.fnResolveFactRow.mapsOut == Tryz.checked.prog.mapsAmong Tryz.f3.resultTypes.toList)=true:=by kernel_rfl
theorem F9:(Rows.fnResolveFactRow.loops == (Tryz.f3.params.toList++Rows.fnResolveFactSpec.plain.varTypes Tryz.checked.prog).any (Tryz.checked.prog.loopsFrom ·))=true:=by kernel_rfl
theorem G1:(Rows.fnResolveFactRow.wideKeys == (Tryz.f3.params.toList++Rows.fnResolveFactSpec.plain.varTypes Tryz.checked.prog++Tryz.f3.resultTypes.toList).any (Tryz.checked.prog.wideKeysFrom ·))=true:=by kernel_rfl
theorem FP:Rows.fnResolveFactSpec.vars.all (Tryz.checked.prog.varReadable ·)=true:=by kernel_rfl
theorem Gt:Tryz.f3.resultTypes.all (fun t=>Tryz.checked.prog.readableRec t && decide (t<Tryz.checked.prog.types.size))=true:=by kernel_rfl
theorem Hh:(Rows.fnResolveFactRow.ifacesOut == Tryz.f3.resultTypes.toList.any (Tryz.checked.prog.ifacesRec ·))=true:=by kernel_rfl
theorem GX:(Rows.fnResolveFactRow.loopsOut == Tryz.f3.resultTypes.toList.any (Tryz.checked.prog.loopsFrom ·))=true:=by kernel_rfl
theorem Hn:(Rows.fnResolveFactRow.plainKeys == Tryz.checked.prog.plainKeys)=true:=by kernel_rfl
theorem Gh:Rows.fnResolveFactRow.shortTexts.isNone=true:=by kernel_rfl
theorem F6:Tryz.checked.prog.stopsHeard=true:=by kernel_rfl
theorem F4:Tryz.checked.prog.mayEnter=true:=by kernel_rfl
theorem Gf:(Rows.fnResolveFactRow.lifted == Tryz.checked.prog.liftsFinal)=true:=by kernel_rfl
theorem FO:(Tryz.checked.prog.make == some Rows.fnResolveFactRow.make)=true:=by kernel_rfl
theorem Hz:(Rows.fnResolveFactRow.kinds == (if Rows.fnResolveFactRow.domain.isEmpty then [] else Tryz.f3.params.toList.map fun t=>match Tryz.checked.prog.underlying t with|some (.int k)=>some k|_=>none))=true:=by kernel_rfl
theorem GA:(Rows.fnResolveFactRow.pinned == Rows.fnResolveFactRow.pinnedBy)=true:=by kernel_rfl
theorem GL:(Rows.fnResolveFactRow.veiled == (Tryz.f3.params.toList++Rows.fnResolveFactSpec.plain.varTypes Tryz.checked.prog++Tryz.f3.resultTypes.toList).any (Tryz.checked.prog.veiledRec ·))=true:=by kernel_rfl
theorem GJ:Rows.fnResolveFactRow.veiledFits Tryz.checked.prog Tryz.f3.params.toList (Tryz.f3.params.toList++Rows.fnResolveFactSpec.plain.varTypes Tryz.checked.prog++Tryz.f3.resultTypes.toList)=true:=by kernel_rfl
set_option maxRecDepth 100000 in
theorem AP:joinedFacts Tryz.checked.prog dc Tryz.f3 Rows.fnResolveFactSpec Rows.fnResolveFactRow=true:=by
 unfold joinedFacts
 exact bL (bL (bL (bL (bL (bL (bL (bL (bL (bL (bL (bL (bL (bL (bL (bL (bL (bL (bL (bL (bL (bL (bL (bL (bL (bL (bL (bL (bL (bL (bL II Je) IP) Ip) IX) IK) Jl) IO) IQ) Iy) Hg) Fz) G4) GP) Gr) Gv) F9) G1) FP) Gt) Hh) GX) Hn) Gh) F6) F4) Gf) FO) Hz) GA) GL) GJ
theorem CZ:Tryz.checked.prog.funcNamed Rows.fnResolveFactRow.func=some dc:=by kernel_rfl
theorem D0:Tryz.f3.isInstance Tryz.checked.prog Rows.fnResolveFactRow.origin Rows.fnResolveFactRow.targs:=of_decide_eq_true (by kernel_rfl)
theorem Fk:Tryz.f3.isWrapper Tryz.checked.prog Rows.fnResolveFactRow.wrapper Rows.fnResolveFactRow.mainSum:=by unfold Func.isWrapper; first|(rw [if_pos (by decide +kernel)]; kernel_rfl)|(rw [if_neg (by decide +kernel)]; exact ⟨rfl,rfl⟩)
theorem pRFact_holds:Rows.FnResolveFactSaid:=
 OpenClaim.holds_of_wide dc Tryz.f3 rfl rfl rfl rfl rfl rfl rfl ⟨rfl,rfl,rfl,rfl,rfl⟩ rfl rfl rfl rfl rfl CZ Tryz.func3 AP D0 Fk
  (fun os started H enc _=>Ab os started H enc)

#print axioms pRFact_holds
end Go.Proofs.YtnmnddpdikghhaaGreat
