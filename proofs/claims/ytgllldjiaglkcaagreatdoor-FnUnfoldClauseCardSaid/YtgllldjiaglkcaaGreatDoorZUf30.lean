/- FnUnfoldClause returns true, whatever bytes come in, and leaves its argument as it was; the tables of the library lie as the program's text lays them (tied). -/
import Derived.Test.YtgllldjiaglkcaaGreatDoorZUf29
import Derived.Test.YtgllldjiaglkcaaGreatDoorCards
import Derived.SevenTiedAt
import Derived.ChangeVars
import Derived.JoinedOf
import Derived.RowKit
import Derived.OpenShut
namespace Go.Proofs.YtgllldjiaglkcaaGreatDoor
open Go Go.ChangeShapes Go.WideShapes Go.ChangeAt Go.RowKit

set_option maxRecDepth 100000 in
theorem OT (os:Os) (f:os.Started) (H:Type) (enc:TypeId × Value->H) :
  ReturnsInHanded {} Tryz.checked os cW .any (fun w args=>(Rows.fnUnfoldClauseSpec.pre enc Tryz.prog Tryz.f4 [] false w args/\laidMetH Tryz.prog Sk w)/\sizedMet enc Tryz.prog Tryz.f4 (OpenSpec.ofChange Rows.fnUnfoldClauseSpec) false w args)
   (Rows.fnUnfoldClauseSpec.post enc Tryz.prog Tryz.f4 false true false false):=by
 refine returnsInHanded_of_change_and (C:=Tryz.checked) (X:=fun w _=>laidMetH Tryz.prog Sk w) (fun _ _ _ M h=>h.of_heap M) Tryz.own f (by kernel_rfl) Tryz.func4
  (ChangeSpec.witness_shaped (enc:=enc) (C:=Tryz.checked) (os:=os) (X:=fun w _=>laidMetH Tryz.prog Sk w) false (World.doorLaid Tryz.prog 24 os) #[.slice none 0 0] 8 rfl (World.shaped_of_RefB (by kernel_rfl) (by kernel_rfl)) (by kernel_rfl) (by kernel_rfl) (by kernel_rfl) (Uh os _)) ?_
 intro W l args ds gs o i D _ _ _ _;have g:∀ (j:Nat) t v,Tryz.f4.params[j]?=some t->args[j]?=some v->Value.okWide Tryz.prog W .any l t v:=i;have B:=D;obtain ⟨p,q,r,G,U,_,_⟩:=D;have J:DataW.TrodAll enc Tryz.prog W 0 (fun _=>true) true Tryz.f4.params.toList args.toList ds p:=r;have m:=J;rw [Tryz.params4] at m g;obtain ⟨v0,Z,rfl,rfl,V⟩:=trodAll_one m;obtain ⟨n,hn⟩:=V;obtain rfl:=(trodVars_none (show DataW.TrodVars enc Tryz.prog W (fun _=>true) [] gs q from G)).1;obtain ⟨a,len,cap,rfl⟩:=okWide_slice (Ce eQ).1 (g 0 _ _ rfl rfl);obtain ⟨xs,Y⟩:=QE hn;refine (HB Y W (Inv.entry W)).mono fun e W' ⟨N,O⟩=>?_;subst N;exact ⟨_,rfl,TE B J G U rfl (by rw [Tryz.params4]; decide +kernel) (by kernel_rfl) rfl rfl rfl O⟩

theorem cF {a b:Bool} (f:a=true) (g:b=true):(a && b)=true:=by rw [f,g]; rfl
theorem YC:Rows.fnUnfoldClauseRow.wf (OpenSpec.ofChange Rows.fnUnfoldClauseSpec)=true:=by kernel_rfl
theorem Yl:laidOutB Tryz.checked.prog=true:=by kernel_rfl
theorem YJ:mapsRowed Tryz.checked.prog=true:=by kernel_rfl
theorem Ym:Tryz.f4.params.all (Tryz.checked.prog.readableRec ·)=true:=by kernel_rfl
theorem Zb:namedTie Tryz.checked.prog Rows.fnUnfoldClauseRow.named Rows.fnUnfoldClauseSpec.vars=true:=by kernel_rfl
theorem YK:(Rows.fnUnfoldClauseRow.stops == [])=true:=by kernel_rfl
theorem YB:(Tryz.checked.prog.stops == [])=true:=by kernel_rfl
theorem Yw:(Rows.fnUnfoldClauseRow.knobs == [])=true:=by kernel_rfl
theorem YU:(Tryz.checked.prog.stopKnobs == [])=true:=by kernel_rfl
theorem Yn:(Rows.fnUnfoldClauseRow.inPlace == Tryz.checked.prog.inPlace cW)=true:=by kernel_rfl
theorem Xe:(Rows.fnUnfoldClauseRow.unfollowed == Tryz.checked.prog.unfollowed cW)=true:=by kernel_rfl
theorem WC:(Rows.fnUnfoldClauseRow.recurses == Tryz.checked.prog.recurses cW)=true:=by kernel_rfl
theorem W6:(Rows.fnUnfoldClauseRow.named == Tryz.checked.prog.varsNamed cW)=true:=by kernel_rfl
theorem W9:(Rows.fnUnfoldClauseRow.maps == (Tryz.f4.params.toList++Rows.fnUnfoldClauseSpec.plain.varTypes Tryz.checked.prog).any (Tryz.checked.prog.mapsRec ·))=true:=by kernel_rfl
theorem WW:(Rows.fnUnfoldClauseRow.ifaces == (Tryz.f4.params.toList++Rows.fnUnfoldClauseSpec.plain.varTypes Tryz.checked.prog).any (Tryz.checked.prog.ifacesRec ·))=true:=by kernel_rfl
theorem WI:(Rows.fnUnfoldClauseRow.mapsOut == Tryz.checked.prog.mapsAmong Tryz.f4.resultTypes.toList)=true:=by kernel_rfl
theorem W4:(Rows.fnUnfoldClauseRow.loops == (Tryz.f4.params.toList++Rows.fnUnfoldClauseSpec.plain.varTypes Tryz.checked.prog).any (Tryz.checked.prog.loopsFrom ·))=true:=by kernel_rfl
theorem WK:(Rows.fnUnfoldClauseRow.wideKeys == (Tryz.f4.params.toList++Rows.fnUnfoldClauseSpec.plain.varTypes Tryz.checked.prog++Tryz.f4.resultTypes.toList).any (Tryz.checked.prog.wideKeysFrom ·))=true:=by kernel_rfl
theorem W2:Rows.fnUnfoldClauseSpec.vars.all (Tryz.checked.prog.varReadable ·)=true:=by kernel_rfl
theorem WH:Tryz.f4.resultTypes.all (fun t=>Tryz.checked.prog.readableRec t && decide (t<Tryz.checked.prog.types.size))=true:=by kernel_rfl
theorem Xy:(Rows.fnUnfoldClauseRow.ifacesOut == Tryz.f4.resultTypes.toList.any (Tryz.checked.prog.ifacesRec ·))=true:=by kernel_rfl
theorem XI:(Rows.fnUnfoldClauseRow.loopsOut == Tryz.f4.resultTypes.toList.any (Tryz.checked.prog.loopsFrom ·))=true:=by kernel_rfl
theorem Xq:(Rows.fnUnfoldClauseRow.plainKeys == Tryz.checked.prog.plainKeys)=true:=by kernel_rfl
theorem Xr:Rows.fnUnfoldClauseRow.shortTexts.isNone=true:=by kernel_rfl
theorem Xz:Tryz.checked.prog.stopsHeard=true:=by kernel_rfl
theorem WD:Tryz.checked.prog.mayEnter=true:=by kernel_rfl
theorem XL:(Rows.fnUnfoldClauseRow.lifted == Tryz.checked.prog.liftsFinal)=true:=by kernel_rfl
theorem Xi:(Tryz.checked.prog.make == some Rows.fnUnfoldClauseRow.make)=true:=by kernel_rfl
theorem W7:(Rows.fnUnfoldClauseRow.kinds == (if Rows.fnUnfoldClauseRow.domain.isEmpty then [] else Tryz.f4.params.toList.map fun t=>match Tryz.checked.prog.underlying t with|some (.int k)=>some k|_=>none))=true:=by kernel_rfl
theorem XR:(Rows.fnUnfoldClauseRow.pinned == Rows.fnUnfoldClauseRow.pinnedBy)=true:=by kernel_rfl
theorem WE:(Rows.fnUnfoldClauseRow.veiled == (Tryz.f4.params.toList++Rows.fnUnfoldClauseSpec.plain.varTypes Tryz.checked.prog++Tryz.f4.resultTypes.toList).any (Tryz.checked.prog.veiledRec ·))=true:=by kernel_rfl
theorem Xt:Rows.fnUnfoldClauseRow.veiledFits Tryz.checked.prog Tryz.f4.params.toList (Tryz.f4.params.toList++Rows.fnUnfoldClauseSpec.plain.varTypes Tryz.checked.prog++Tryz.f4.resultTypes.toList)=true:=by kernel_rfl
set_option maxRecDepth 100000 in
theorem PI:joinedFacts Tryz.checked.prog cW Tryz.f4 Rows.fnUnfoldClauseSpec Rows.fnUnfoldClauseRow=true:=by
 unfold joinedFacts;exact cF (cF (cF (cF (cF (cF (cF (cF (cF (cF (cF (cF (cF (cF (cF (cF (cF (cF (cF (cF (cF (cF (cF (cF (cF (cF (cF (cF (cF (cF (cF YC Yl) YJ) Ym) Zb) YK) YB) Yw) YU) Yn) Xe) WC) W6) W9) WW) WI) W4) WK) W2) WH) Xy) XI) Xq) Xr) Xz) WD) XL) Xi) W7) XR) WE) Xt
theorem pUf_named:Tryz.checked.prog.funcNamed Rows.fnUnfoldClauseRow.func=some cW:=by kernel_rfl
theorem Uw:Tryz.f4.isInstance Tryz.checked.prog Rows.fnUnfoldClauseRow.origin Rows.fnUnfoldClauseRow.targs:=of_decide_eq_true (by kernel_rfl)
theorem Wq:Tryz.f4.isWrapper Tryz.checked.prog Rows.fnUnfoldClauseRow.wrapper Rows.fnUnfoldClauseRow.mainSum:=by unfold Func.isWrapper; first|(rw [ai (by decide +kernel)]; kernel_rfl)|(rw [ag (by decide +kernel)]; exact ⟨rfl,rfl⟩)
theorem pUf_holds:Rows.FnUnfoldClauseSaid:=
 OpenClaim.holds_of_wide cW Tryz.f4 rfl rfl rfl rfl rfl rfl rfl ⟨rfl,rfl,rfl,rfl,rfl⟩ rfl rfl rfl rfl rfl pUf_named Tryz.func4 PI Uw Wq
  (fun os a H enc _=>OT os a H enc)


theorem pUf_card:Rows.FnUnfoldClauseCardSaid:=
 Claim7.holds_tied_plain_at .later [] [.data,.data,.data] true Rows.fnUnfoldClauseCard.stood.harness Rows.fnUnfoldClauseCard.stood.looks
  pUf_holds (fun _ h=>by cases h) (by kernel_rfl) (fun _ h=>by cases h) fnUnfoldClause_row_tie rfl ⟨rfl,rfl⟩ (by kernel_rfl) rfl
  (fun f fn hf g=>by
   obtain rfl:f=cW:=uH (pUf_named.symm.trans hf) |>.symm
   obtain rfl:fn=Tryz.f4:=(uH (Tryz.func4.symm.trans g)).symm;exact ⟨by kernel_rfl,fun j t i=>by
    have a:(Tryz.f4.params.all fun u=>!Tryz.prog.wantsStandIn u)=true:=by kernel_rfl
    rw [Array.all_eq_true_iff_forall_mem] at a;exact (show Tryz.prog.wantsStandIn t=false by simpa using a t (Array.mem_of_getElem? i))⟩)
  (by kernel_rfl)

#print axioms pUf_card
end Go.Proofs.YtgllldjiaglkcaaGreatDoor
