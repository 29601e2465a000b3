/- FnModelLeast returns true, whatever bytes come in, and leaves them as they were. No condition. -/
import Derived.Test.YtemmhhdnlbmicaaGreatZMg13
namespace Go.Proofs.YtemmhhdnlbmicaaGreat
open Go Go.ChangeShapes Go.WideShapes Go.ChangeAt Go.RowKit

set_option maxRecDepth 100000 in
theorem Fe (os:Os) (started:os.Started) (H:Type) (enc:TypeId × Value->H) :
  ReturnsInHanded {} Tryz.checked os dF .any (Rows.fnModelLeastSpec.pre6 enc Tryz.prog Tryz.f8 Rows.fnModelLeastRow.domain false)
   (Rows.fnModelLeastSpec.post enc Tryz.prog Tryz.f8 false true false false):=by
 refine returnsInHanded_of_change (C:=Tryz.checked) Tryz.own started (by kernel_rfl) Tryz.func8
  (ChangeSpec.witness6 (enc:=enc) (C:=Tryz.checked) false ⟨#[],#[.slice none 0 0],[]⟩ 8 (by kernel_rfl) (by kernel_rfl) (by kernel_rfl) (by kernel_rfl)) ?_
 intro W base args ds gs before hval0 hW _ _
 have hval:∀ (j:Nat) t v,Tryz.f8.params[j]?=some t->args[j]?=some v->Value.okWide Tryz.prog W .any base t v:=hval0
 have hW':=hW
 obtain ⟨p,q,hA0,hV,hb,_,_⟩:=hW
 have hA:DataW.TrodAll enc Tryz.prog W 0 (fun _=>true) true Tryz.f8.params.toList args.toList ds p:=hA0
 have hA1:=hA
 rw [Tryz.params8] at hA1 hval
 obtain ⟨v0,d0,rfl,rfl,h0⟩:=trodAll_one hA1
 obtain ⟨n,hn⟩:=h0
 obtain rfl:=(trodVars_none (show DataW.TrodVars enc Tryz.prog W (fun _=>true) [] gs q from hV)).1
 obtain ⟨a,len,cap,rfl⟩:=okWide_slice (v9 eG).1 (hval 0 _ _ rfl rfl)
 obtain ⟨xs,hxs⟩:=Ip hn
 refine (u2 hxs W (Inv.entry W)).mono fun e W' ⟨he,hI⟩=>?_
 subst he
 exact ⟨_,rfl,Kt hW' hA hV hb rfl (by rw [Tryz.params8]; decide +kernel) (by kernel_rfl) rfl rfl rfl hI⟩

theorem bN {a b:Bool} (ha:a=true) (hb:b=true):(a && b)=true:=by rw [ha,hb]; rfl
theorem Mf:Rows.fnModelLeastRow.wf (OpenSpec.ofChange Rows.fnModelLeastSpec)=true:=by kernel_rfl
theorem Lh:laidOutB Tryz.checked.prog=true:=by kernel_rfl
theorem LW:mapsRowed Tryz.checked.prog=true:=by kernel_rfl
theorem Mw:Tryz.f8.params.all (Tryz.checked.prog.readableRec ·)=true:=by kernel_rfl
theorem LC:namedTie Tryz.checked.prog Rows.fnModelLeastRow.named Rows.fnModelLeastSpec.vars=true:=by kernel_rfl
theorem L4:(Rows.fnModelLeastRow.stops == [])=true:=by kernel_rfl
theorem L6:(Tryz.checked.prog.stops == [])=true:=by kernel_rfl
theorem LO:(Rows.fnModelLeastRow.knobs == [])=true:=by kernel_rfl
theorem Mq:(Tryz.checked.prog.stopKnobs == [])=true:=by kernel_rfl
theorem Ms:(Rows.fnModelLeastRow.inPlace == Tryz.checked.prog.inPlace dF)=true:=by kernel_rfl
theorem KR:(Rows.fnModelLeastRow.unfollowed == Tryz.checked.prog.unfollowed dF)=true:=by kernel_rfl
theorem Ku:(Rows.fnModelLeastRow.recurses == Tryz.checked.prog.recurses dF)=true:=by kernel_rfl
theorem Kx:(Rows.fnModelLeastRow.named == Tryz.checked.prog.varsNamed dF)=true:=by kernel_rfl
theorem Ks:(Rows.fnModelLeastRow.maps == (Tryz.f8.params.toList++Rows.fnModelLeastSpec.plain.varTypes Tryz.checked.prog).any (Tryz.checked.prog.mapsRec ·))=true:=by kernel_rfl
theorem K1:(Rows.fnModelLeastRow.ifaces == (Tryz.f8.params.toList++Rows.fnModelLeastSpec.plain.varTypes Tryz.checked.prog).any (Tryz.checked.prog.ifacesRec ·))=true:=by kernel_rfl
theorem KC:(Rows.fnModelLeastRow.mapsOut == Tryz.checked.prog.mapsAmong Tryz.f8.resultTypes.toList)=true:=by kernel_rfl
theorem Kd:(Rows.fnModelLeastRow.loops == (Tryz.f8.params.toList++Rows.fnModelLeastSpec.plain.varTypes Tryz.checked.prog).any (Tryz.checked.prog.loopsFrom ·))=true:=by kernel_rfl
theorem Kg:(Rows.fnModelLeastRow.wideKeys == (Tryz.f8.params.toList++Rows.fnModelLeastSpec.plain.varTypes Tryz.checked.prog++Tryz.f8.resultTypes.toList).any (Tryz.checked.prog.wideKeysFrom ·))=true:=by kernel_rfl
theorem KG:Rows.fnModelLeastSpec.vars.all (Tryz.checked.prog.varReadable ·)=true:=by kernel_rfl
theorem KE:Tryz.f8.resultTypes.all (fun t=>Tryz.checked.prog.readableRec t && decide (t<Tryz.checked.prog.types.size))=true:=by kernel_rfl
theorem Kn:(Rows.fnModelLeastRow.ifacesOut == Tryz.f8.resultTypes.toList.any (Tryz.checked.prog.ifacesRec ·))=true:=by kernel_rfl
theorem J0:(Rows.fnModelLeastRow.loopsOut == Tryz.f8.resultTypes.toList.any (Tryz.checked.prog.loopsFrom ·))=true:=by kernel_rfl
theorem KH:(Rows.fnModelLeastRow.plainKeys == Tryz.checked.prog.plainKeys)=true:=by kernel_rfl
theorem KI:Rows.fnModelLeastRow.shortTexts.isNone=true:=by kernel_rfl
theorem KF:Tryz.checked.prog.stopsHeard=true:=by kernel_rfl
theorem KB:Tryz.checked.prog.mayEnter=true:=by kernel_rfl
theorem Ke:(Rows.fnModelLeastRow.lifted == Tryz.checked.prog.liftsFinal)=true:=by kernel_rfl
theorem J5:(Tryz.checked.prog.make == some Rows.fnModelLeastRow.make)=true:=by kernel_rfl
theorem KL:(Rows.fnModelLeastRow.kinds == (if Rows.fnModelLeastRow.domain.isEmpty then [] else Tryz.f8.params.toList.map fun t=>match Tryz.checked.prog.underlying t with|some (.int k)=>some k|_=>none))=true:=by kernel_rfl
theorem Kq:(Rows.fnModelLeastRow.pinned == Rows.fnModelLeastRow.pinnedBy)=true:=by kernel_rfl
theorem KT:(Rows.fnModelLeastRow.veiled == (Tryz.f8.params.toList++Rows.fnModelLeastSpec.plain.varTypes Tryz.checked.prog++Tryz.f8.resultTypes.toList).any (Tryz.checked.prog.veiledRec ·))=true:=by kernel_rfl
theorem K3:Rows.fnModelLeastRow.veiledFits Tryz.checked.prog Tryz.f8.params.toList (Tryz.f8.params.toList++Rows.fnModelLeastSpec.plain.varTypes Tryz.checked.prog++Tryz.f8.resultTypes.toList)=true:=by kernel_rfl
set_option maxRecDepth 100000 in
theorem EV:joinedFacts Tryz.checked.prog dF Tryz.f8 Rows.fnModelLeastSpec Rows.fnModelLeastRow=true:=by
 unfold joinedFacts
 exact bN (bN (bN (bN (bN (bN (bN (bN (bN (bN (bN (bN (bN (bN (bN (bN (bN (bN (bN (bN (bN (bN (bN (bN (bN (bN (bN (bN (bN (bN (bN Mf Lh) LW) Mw) LC) L4) L6) LO) Mq) Ms) KR) Ku) Kx) Ks) K1) KC) Kd) Kg) KG) KE) Kn) J0) KH) KI) KF) KB) Ke) J5) KL) Kq) KT) K3
theorem G6:Tryz.checked.prog.funcNamed Rows.fnModelLeastRow.func=some dF:=by kernel_rfl
theorem IF:Tryz.f8.isInstance Tryz.checked.prog Rows.fnModelLeastRow.origin Rows.fnModelLeastRow.targs:=of_decide_eq_true (by kernel_rfl)
theorem Iq:Tryz.f8.isWrapper Tryz.checked.prog Rows.fnModelLeastRow.wrapper Rows.fnModelLeastRow.mainSum:=by unfold Func.isWrapper; first|(rw [if_pos (by decide +kernel)]; kernel_rfl)|(rw [if_neg (by decide +kernel)]; exact ⟨rfl,rfl⟩)
theorem pMLst_holds:Rows.FnModelLeastSaid:=
 OpenClaim.holds_of_wide dF Tryz.f8 rfl rfl rfl rfl rfl rfl rfl ⟨rfl,rfl,rfl,rfl,rfl⟩ rfl rfl rfl rfl rfl G6 Tryz.func8 EV IF Iq
  (fun os started H enc _=>Fe os started H enc)

#print axioms pMLst_holds
end Go.Proofs.YtemmhhdnlbmicaaGreat
