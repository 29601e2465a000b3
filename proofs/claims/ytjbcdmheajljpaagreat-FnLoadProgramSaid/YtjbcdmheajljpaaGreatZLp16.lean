/- FnLoadProgram returns true, whatever bytes come in, and leaves them as they were. No condition. -/
import Derived.Test.YtjbcdmheajljpaaGreatZLp15
namespace Go.Proofs.YtjbcdmheajljpaaGreat
open Go Go.ChangeShapes Go.WideShapes Go.ChangeAt Go.RowKit

set_option maxRecDepth 100000 in
theorem Jt (os:Os) (g:os.Started) (H:Type) (enc:TypeId × Value->H) :
  ReturnsInHanded {} Tryz.checked os dg .any (Rows.fnLoadProgramSpec.pre6 enc Tryz.prog Tryz.f4 Rows.fnLoadProgramRow.domain false)
   (Rows.fnLoadProgramSpec.post enc Tryz.prog Tryz.f4 false true false false):=by
 refine returnsInHanded_of_change (C:=Tryz.checked) Tryz.own g (by kernel_rfl) Tryz.func4
  (ChangeSpec.witness6 (enc:=enc) (C:=Tryz.checked) false ⟨#[],#[.slice none 0 0],[]⟩ 8 (by kernel_rfl) (by kernel_rfl) (by kernel_rfl) (by kernel_rfl)) ?_
 intro W l args ds M o i D _ _;have h:∀ (j:Nat) t v,Tryz.f4.params[j]?=some t->args[j]?=some v->Value.okWide Tryz.prog W .any l t v:=i;have B:=D;obtain ⟨p,q,r,G,U,_,_⟩:=D;have J:DataW.TrodAll enc Tryz.prog W 0 (fun _=>true) true Tryz.f4.params.toList args.toList ds p:=r;have m:=J;rw [Tryz.params4] at m h;obtain ⟨v0,Y,rfl,rfl,V⟩:=trodAll_one m;obtain ⟨n,hn⟩:=V;obtain rfl:=(trodVars_none (show DataW.TrodVars enc Tryz.prog W (fun _=>true) [] M q from G)).1;obtain ⟨a,len,cap,rfl⟩:=okWide_slice (ym eM).1 (h 0 _ _ rfl rfl);obtain ⟨xs,u⟩:=KL hn;refine (Fi u W (Inv.entry W)).mono fun e W' ⟨N,O⟩=>?_;subst N;exact ⟨_,rfl,MM B J G U rfl (by rw [Tryz.params4]; decide +kernel) (by kernel_rfl) rfl rfl rfl O⟩

theorem cr {a b:Bool} (g:a=true) (h:b=true):(a && b)=true:=by rw [g,h]; rfl
theorem RY:Rows.fnLoadProgramRow.wf (OpenSpec.ofChange Rows.fnLoadProgramSpec)=true:=by kernel_rfl
theorem Rk:laidOutB Tryz.checked.prog=true:=by kernel_rfl
theorem Rt:mapsRowed Tryz.checked.prog=true:=by kernel_rfl
theorem R4:Tryz.f4.params.all (Tryz.checked.prog.readableRec ·)=true:=by kernel_rfl
theorem RU:namedTie Tryz.checked.prog Rows.fnLoadProgramRow.named Rows.fnLoadProgramSpec.vars=true:=by kernel_rfl
theorem Rg:(Rows.fnLoadProgramRow.stops == [])=true:=by kernel_rfl
theorem R2:(Tryz.checked.prog.stops == [])=true:=by kernel_rfl
theorem RN:(Rows.fnLoadProgramRow.knobs == [])=true:=by kernel_rfl
theorem Rw:(Tryz.checked.prog.stopKnobs == [])=true:=by kernel_rfl
theorem R3:(Rows.fnLoadProgramRow.inPlace == Tryz.checked.prog.inPlace dg)=true:=by kernel_rfl
theorem QJ:(Rows.fnLoadProgramRow.unfollowed == Tryz.checked.prog.unfollowed dg)=true:=by kernel_rfl
theorem Qk:(Rows.fnLoadProgramRow.recurses == Tryz.checked.prog.recurses dg)=true:=by kernel_rfl
theorem QC:(Rows.fnLoadProgramRow.named == Tryz.checked.prog.varsNamed dg)=true:=by kernel_rfl
theorem Qs:(Rows.fnLoadProgramRow.maps == (Tryz.f4.params.toList++Rows.fnLoadProgramSpec.plain.varTypes Tryz.checked.prog).any (Tryz.checked.prog.mapsRec ·))=true:=by kernel_rfl
theorem PV:(Rows.fnLoadProgramRow.ifaces == (Tryz.f4.params.toList++Rows.fnLoadProgramSpec.plain.varTypes Tryz.checked.prog).any (Tryz.checked.prog.ifacesRec ·))=true:=by kernel_rfl
theorem QI:(Rows.fnLoadProgramRow.mapsOut == Tryz.checked.prog.mapsAmong Tryz.f4.resultTypes.toList)=true:=by kernel_rfl
theorem PR:(Rows.fnLoadProgramRow.loops == (Tryz.f4.params.toList++Rows.fnLoadProgramSpec.plain.varTypes Tryz.checked.prog).any (Tryz.checked.prog.loopsFrom ·))=true:=by kernel_rfl
theorem Qj:(Rows.fnLoadProgramRow.wideKeys == (Tryz.f4.params.toList++Rows.fnLoadProgramSpec.plain.varTypes Tryz.checked.prog++Tryz.f4.resultTypes.toList).any (Tryz.checked.prog.wideKeysFrom ·))=true:=by kernel_rfl
theorem Qg:Rows.fnLoadProgramSpec.vars.all (Tryz.checked.prog.varReadable ·)=true:=by kernel_rfl
theorem Qa:Tryz.f4.resultTypes.all (fun t=>Tryz.checked.prog.readableRec t && decide (t<Tryz.checked.prog.types.size))=true:=by kernel_rfl
theorem QE:(Rows.fnLoadProgramRow.ifacesOut == Tryz.f4.resultTypes.toList.any (Tryz.checked.prog.ifacesRec ·))=true:=by kernel_rfl
theorem P1:(Rows.fnLoadProgramRow.loopsOut == Tryz.f4.resultTypes.toList.any (Tryz.checked.prog.loopsFrom ·))=true:=by kernel_rfl
theorem QB:(Rows.fnLoadProgramRow.plainKeys == Tryz.checked.prog.plainKeys)=true:=by kernel_rfl
theorem P4:Rows.fnLoadProgramRow.shortTexts.isNone=true:=by kernel_rfl
theorem Qb:Tryz.checked.prog.stopsHeard=true:=by kernel_rfl
theorem Qd:Tryz.checked.prog.mayEnter=true:=by kernel_rfl
theorem Qz:(Rows.fnLoadProgramRow.lifted == Tryz.checked.prog.liftsFinal)=true:=by kernel_rfl
theorem Qi:(Tryz.checked.prog.make == some Rows.fnLoadProgramRow.make)=true:=by kernel_rfl
theorem QH:(Rows.fnLoadProgramRow.kinds == (if Rows.fnLoadProgramRow.domain.isEmpty then [] else Tryz.f4.params.toList.map fun t=>match Tryz.checked.prog.underlying t with|some (.int k)=>some k|_=>none))=true:=by kernel_rfl
theorem QM:(Rows.fnLoadProgramRow.pinned == Rows.fnLoadProgramRow.pinnedBy)=true:=by kernel_rfl
theorem PZ:(Rows.fnLoadProgramRow.veiled == (Tryz.f4.params.toList++Rows.fnLoadProgramSpec.plain.varTypes Tryz.checked.prog++Tryz.f4.resultTypes.toList).any (Tryz.checked.prog.veiledRec ·))=true:=by kernel_rfl
theorem Ql:Rows.fnLoadProgramRow.veiledFits Tryz.checked.prog Tryz.f4.params.toList (Tryz.f4.params.toList++Rows.fnLoadProgramSpec.plain.varTypes Tryz.checked.prog++Tryz.f4.resultTypes.toList)=true:=by kernel_rfl
set_option maxRecDepth 100000 in
theorem KZ:joinedFacts Tryz.checked.prog dg Tryz.f4 Rows.fnLoadProgramSpec Rows.fnLoadProgramRow=true:=by
 unfold joinedFacts;exact cr (cr (cr (cr (cr (cr (cr (cr (cr (cr (cr (cr (cr (cr (cr (cr (cr (cr (cr (cr (cr (cr (cr (cr (cr (cr (cr (cr (cr (cr (cr RY Rk) Rt) R4) RU) Rg) R2) RN) Rw) R3) QJ) Qk) QC) Qs) PV) QI) PR) Qj) Qg) Qa) QE) P1) QB) P4) Qb) Qd) Qz) Qi) QH) QM) PZ) Ql
theorem MD:Tryz.checked.prog.funcNamed Rows.fnLoadProgramRow.func=some dg:=by kernel_rfl
theorem OU:Tryz.f4.isInstance Tryz.checked.prog Rows.fnLoadProgramRow.origin Rows.fnLoadProgramRow.targs:=of_decide_eq_true (by kernel_rfl)
theorem N5:Tryz.f4.isWrapper Tryz.checked.prog Rows.fnLoadProgramRow.wrapper Rows.fnLoadProgramRow.mainSum:=by unfold Func.isWrapper; first|(rw [af (by decide +kernel)]; kernel_rfl)|(rw [ae (by decide +kernel)]; exact ⟨rfl,rfl⟩)
theorem pLp_holds:Rows.FnLoadProgramSaid:=
 OpenClaim.holds_of_wide dg Tryz.f4 rfl rfl rfl rfl rfl rfl rfl ⟨rfl,rfl,rfl,rfl,rfl⟩ rfl rfl rfl rfl rfl MD Tryz.func4 KZ OU N5
  (fun os a H enc _=>Jt os a H enc)

#print axioms pLp_holds
end Go.Proofs.YtjbcdmheajljpaaGreat
