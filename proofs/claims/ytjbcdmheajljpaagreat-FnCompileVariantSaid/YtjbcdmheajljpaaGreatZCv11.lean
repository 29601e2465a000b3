/- FnCompileVariant returns true, whatever bytes come in, and leaves them as they were. No condition. -/
import Derived.Test.YtjbcdmheajljpaaGreatZCv10
namespace Go.Proofs.YtjbcdmheajljpaaGreat
open Go Go.ChangeShapes Go.WideShapes Go.ChangeAt Go.RowKit

set_option maxRecDepth 100000 in
theorem CB (os:Os) (g:os.Started) (H:Type) (enc:TypeId × Value->H) :
  ReturnsInHanded {} Tryz.checked os bO .any (Rows.fnCompileVariantSpec.pre6 enc Tryz.prog Tryz.f3 Rows.fnCompileVariantRow.domain false)
   (Rows.fnCompileVariantSpec.post enc Tryz.prog Tryz.f3 false true false false):=by
 refine returnsInHanded_of_change (C:=Tryz.checked) Tryz.own g (by kernel_rfl) Tryz.func3
  (ChangeSpec.witness6 (enc:=enc) (C:=Tryz.checked) false ⟨#[],#[.slice none 0 0],[]⟩ 8 (by kernel_rfl) (by kernel_rfl) (by kernel_rfl) (by kernel_rfl)) ?_
 intro W l args ds M o i D _ _;have h:∀ (j:Nat) t v,Tryz.f3.params[j]?=some t->args[j]?=some v->Value.okWide Tryz.prog W .any l t v:=i;have B:=D;obtain ⟨p,q,r,G,U,_,_⟩:=D;have J:DataW.TrodAll enc Tryz.prog W 0 (fun _=>true) true Tryz.f3.params.toList args.toList ds p:=r;have m:=J;rw [Tryz.params3] at m h;obtain ⟨v0,Y,rfl,rfl,V⟩:=trodAll_one m;obtain ⟨n,hn⟩:=V;obtain rfl:=(trodVars_none (show DataW.TrodVars enc Tryz.prog W (fun _=>true) [] M q from G)).1;obtain ⟨a,len,cap,rfl⟩:=okWide_slice (rN dv).1 (h 0 _ _ rfl rfl);obtain ⟨xs,u⟩:=Dd hn;refine (zx u W (Inv.entry W)).mono fun e W' ⟨N,O⟩=>?_;subst N;exact ⟨_,rfl,E1 B J G U rfl (by rw [Tryz.params3]; decide +kernel) (by kernel_rfl) rfl rfl rfl O⟩

theorem bI {a b:Bool} (g:a=true) (h:b=true):(a && b)=true:=by rw [g,h]; rfl
theorem IP:Rows.fnCompileVariantRow.wf (OpenSpec.ofChange Rows.fnCompileVariantSpec)=true:=by kernel_rfl
theorem IH:laidOutB Tryz.checked.prog=true:=by kernel_rfl
theorem Jk:mapsRowed Tryz.checked.prog=true:=by kernel_rfl
theorem IY:Tryz.f3.params.all (Tryz.checked.prog.readableRec ·)=true:=by kernel_rfl
theorem Jw:namedTie Tryz.checked.prog Rows.fnCompileVariantRow.named Rows.fnCompileVariantSpec.vars=true:=by kernel_rfl
theorem IV:(Rows.fnCompileVariantRow.stops == [])=true:=by kernel_rfl
theorem Jr:(Tryz.checked.prog.stops == [])=true:=by kernel_rfl
theorem Js:(Rows.fnCompileVariantRow.knobs == [])=true:=by kernel_rfl
theorem IM:(Tryz.checked.prog.stopKnobs == [])=true:=by kernel_rfl
theorem Jc:(Rows.fnCompileVariantRow.inPlace == Tryz.checked.prog.inPlace bO)=true:=by kernel_rfl
theorem HA:(Rows.fnCompileVariantRow.unfollowed == Tryz.checked.prog.unfollowed bO)=true:=by kernel_rfl
theorem HE:(Rows.fnCompileVariantRow.recurses == Tryz.checked.prog.recurses bO)=true:=by kernel_rfl
theorem H7:(Rows.fnCompileVariantRow.named == Tryz.checked.prog.varsNamed bO)=true:=by kernel_rfl
theorem Ic:(Rows.fnCompileVariantRow.maps == (Tryz.f3.params.toList++Rows.fnCompileVariantSpec.plain.varTypes Tryz.checked.prog).any (Tryz.checked.prog.mapsRec ·))=true:=by kernel_rfl
theorem HY:(Rows.fnCompileVariantRow.ifaces == (Tryz.f3.params.toList++Rows.fnCompileVariantSpec.plain.varTypes Tryz.checked.prog).any (Tryz.checked.prog.ifacesRec ·))=true:=by kernel_rfl
theorem HR:(Rows.fnCompileVariantRow.mapsOut == Tryz.checked.prog.mapsAmong Tryz.f3.resultTypes.toList)=true:=by kernel_rfl
theorem HS:(Rows.fnCompileVariantRow.loops == (Tryz.f3.params.toList++Rows.fnCompileVariantSpec.plain.varTypes Tryz.checked.prog).any (Tryz.checked.prog.loopsFrom ·))=true:=by kernel_rfl
theorem HH:(Rows.fnCompileVariantRow.wideKeys == (Tryz.f3.params.toList++Rows.fnCompileVariantSpec.plain.varTypes Tryz.checked.prog++Tryz.f3.resultTypes.toList).any (Tryz.checked.prog.wideKeysFrom ·))=true:=by kernel_rfl
theorem Hr:Rows.fnCompileVariantSpec.vars.all (Tryz.checked.prog.varReadable ·)=true:=by kernel_rfl
theorem Hq:Tryz.f3.resultTypes.all (fun t=>Tryz.checked.prog.readableRec t && decide (t<Tryz.checked.prog.types.size))=true:=by kernel_rfl
theorem HZ:(Rows.fnCompileVariantRow.ifacesOut == Tryz.f3.resultTypes.toList.any (Tryz.checked.prog.ifacesRec ·))=true:=by kernel_rfl
theorem HB:(Rows.fnCompileVariantRow.loopsOut == Tryz.f3.resultTypes.toList.any (Tryz.checked.prog.loopsFrom ·))=true:=by kernel_rfl
theorem Ho:(Rows.fnCompileVariantRow.plainKeys == Tryz.checked.prog.plainKeys)=true:=by kernel_rfl
theorem HD:Rows.fnCompileVariantRow.shortTexts.isNone=true:=by kernel_rfl
theorem H5:Tryz.checked.prog.stopsHeard=true:=by kernel_rfl
theorem H0:Tryz.checked.prog.mayEnter=true:=by kernel_rfl
theorem H4:(Rows.fnCompileVariantRow.lifted == Tryz.checked.prog.liftsFinal)=true:=by kernel_rfl
theorem Hy:(Tryz.checked.prog.make == some Rows.fnCompileVariantRow.make)=true:=by kernel_rfl
theorem HW:(Rows.fnCompileVariantRow.kinds == (if Rows.fnCompileVariantRow.domain.isEmpty then [] else Tryz.f3.params.toList.map fun t=>match Tryz.checked.prog.underlying t with|some (.int k)=>some k|_=>none))=true:=by kernel_rfl
theorem HQ:(Rows.fnCompileVariantRow.pinned == Rows.fnCompileVariantRow.pinnedBy)=true:=by kernel_rfl
theorem HG:(Rows.fnCompileVariantRow.veiled == (Tryz.f3.params.toList++Rows.fnCompileVariantSpec.plain.varTypes Tryz.checked.prog++Tryz.f3.resultTypes.toList).any (Tryz.checked.prog.veiledRec ·))=true:=by kernel_rfl
theorem HF:Rows.fnCompileVariantRow.veiledFits Tryz.checked.prog Tryz.f3.params.toList (Tryz.f3.params.toList++Rows.fnCompileVariantSpec.plain.varTypes Tryz.checked.prog++Tryz.f3.resultTypes.toList)=true:=by kernel_rfl
set_option maxRecDepth 100000 in
theorem Do:joinedFacts Tryz.checked.prog bO Tryz.f3 Rows.fnCompileVariantSpec Rows.fnCompileVariantRow=true:=by
 unfold joinedFacts;exact bI (bI (bI (bI (bI (bI (bI (bI (bI (bI (bI (bI (bI (bI (bI (bI (bI (bI (bI (bI (bI (bI (bI (bI (bI (bI (bI (bI (bI (bI (bI IP IH) Jk) IY) Jw) IV) Jr) Js) IM) Jc) HA) HE) H7) Ic) HY) HR) HS) HH) Hr) Hq) HZ) HB) Ho) HD) H5) H0) H4) Hy) HW) HQ) HG) HF
theorem Fm:Tryz.checked.prog.funcNamed Rows.fnCompileVariantRow.func=some bO:=by kernel_rfl
theorem GC:Tryz.f3.isInstance Tryz.checked.prog Rows.fnCompileVariantRow.origin Rows.fnCompileVariantRow.targs:=of_decide_eq_true (by kernel_rfl)
theorem G1:Tryz.f3.isWrapper Tryz.checked.prog Rows.fnCompileVariantRow.wrapper Rows.fnCompileVariantRow.mainSum:=by unfold Func.isWrapper; first|(rw [ai (by decide +kernel)]; kernel_rfl)|(rw [ah (by decide +kernel)]; exact ⟨rfl,rfl⟩)
theorem pCv_holds:Rows.FnCompileVariantSaid:=
 OpenClaim.holds_of_wide bO Tryz.f3 rfl rfl rfl rfl rfl rfl rfl ⟨rfl,rfl,rfl,rfl,rfl⟩ rfl rfl rfl rfl rfl Fm Tryz.func3 Do GC G1
  (fun os a H enc _=>CB os a H enc)

#print axioms pCv_holds
end Go.Proofs.YtjbcdmheajljpaaGreat
