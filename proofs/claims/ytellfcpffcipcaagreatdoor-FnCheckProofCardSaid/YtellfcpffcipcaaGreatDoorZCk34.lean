/- FnCheckProof returns true, whatever bytes come in, and leaves its argument as it was; the tables of the library lie as the program's text lays them (tied). -/
import Derived.Test.YtellfcpffcipcaaGreatDoorZCkA
import Derived.Test.YtellfcpffcipcaaGreatDoorZCk33
import Derived.Test.YtellfcpffcipcaaGreatDoorCards
import Derived.SevenTiedAt
import Derived.ChangeVars
import Derived.JoinedOf
import Derived.RowKit
import Derived.OpenShut
namespace Go.Proofs.YtellfcpffcipcaaGreatDoor
open Go Go.ChangeShapes Go.WideShapes Go.ChangeAt Go.RowKit

set_option maxRecDepth 100000 in
theorem VA (os:Os) (f:os.Started) (H:Type) (enc:TypeId × Value->H) :
  ReturnsInHanded {} Tryz.checked os dM .any (fun w args=>(Rows.fnCheckProofSpec.pre enc Tryz.prog Tryz.f3 [] false w args/\laidMetH Tryz.prog Ww w)/\sizedMet enc Tryz.prog Tryz.f3 (OpenSpec.ofChange Rows.fnCheckProofSpec) false w args)
   (Rows.fnCheckProofSpec.post enc Tryz.prog Tryz.f3 false true false false):=by
 refine returnsInHanded_of_change_and (C:=Tryz.checked) (X:=fun w _=>laidMetH Tryz.prog Ww w) (fun _ _ _ M h=>h.of_heap M) Tryz.own f (by kernel_rfl) Tryz.func3
  (ChangeSpec.witness_shaped (enc:=enc) (C:=Tryz.checked) (os:=os) (X:=fun w _=>laidMetH Tryz.prog Ww w) false (World.doorLaid Tryz.prog 24 os) #[hV] 8 rfl (World.shaped_of_RefB (by kernel_rfl) (by kernel_rfl)) (by kernel_rfl) (by kernel_rfl) (by kernel_rfl) (YG os _)) ?_
 intro W l args ds gs o i D _ _ _ _;have g:∀ (j:Nat) t v,Tryz.f3.params[j]?=some t->args[j]?=some v->Value.okWide Tryz.prog W .any l t v:=i;have B:=D;obtain ⟨p,q,r,G,U,_,_⟩:=D;have J:DataW.TrodAll enc Tryz.prog W 0 (fun _=>true) true Tryz.f3.params.toList args.toList ds p:=r;have m:=J;rw [Tryz.params3] at m g;obtain ⟨v0,Z,rfl,rfl,V⟩:=trodAll_one m;obtain ⟨n,hn⟩:=V;obtain rfl:=(trodVars_none (show DataW.TrodVars enc Tryz.prog W (fun _=>true) [] gs q from G)).1;obtain ⟨a,len,cap,rfl⟩:=okWide_slice (Gb fW).1 (g 0 _ _ rfl rfl);obtain ⟨xs,Y⟩:=TZ hn;refine (GE Y W (Inv.entry W)).mono fun e W' ⟨N,O⟩=>?_;subst N;exact ⟨_,rfl,Xo B J G U rfl (by rw [Tryz.params3];decide +kernel) (by kernel_rfl) rfl rfl rfl O⟩

theorem dh {a b:Bool} (f:a=true) (g:b=true):(a && b)=true:=by rw [f,g]; rfl
theorem ab8:Rows.fnCheckProofRow.wf (OpenSpec.ofChange Rows.fnCheckProofSpec)=true:=by kernel_rfl
theorem acv:laidOutB Tryz.checked.prog=true:=by kernel_rfl
theorem ab7:mapsRowed Tryz.checked.prog=true:=by kernel_rfl
theorem abX:Tryz.f3.params.all (Tryz.checked.prog.readableRec ·)=true:=by kernel_rfl
theorem acC:namedTie Tryz.checked.prog Rows.fnCheckProofRow.named Rows.fnCheckProofSpec.vars=true:=by kernel_rfl
theorem ab6:(Rows.fnCheckProofRow.stops == [])=true:=by kernel_rfl
theorem acp:(Tryz.checked.prog.stops == [])=true:=by kernel_rfl
theorem ace:(Rows.fnCheckProofRow.knobs == [])=true:=by kernel_rfl
theorem acd:(Tryz.checked.prog.stopKnobs == [])=true:=by kernel_rfl
theorem acH:(Rows.fnCheckProofRow.inPlace == Tryz.checked.prog.inPlace dM)=true:=by kernel_rfl
theorem aaX:(Rows.fnCheckProofRow.unfollowed == Tryz.checked.prog.unfollowed dM)=true:=by kernel_rfl
theorem abv:(Rows.fnCheckProofRow.recurses == Tryz.checked.prog.recurses dM)=true:=by kernel_rfl
theorem aa8:(Rows.fnCheckProofRow.named == Tryz.checked.prog.varsNamed dM)=true:=by kernel_rfl
theorem aax:(Rows.fnCheckProofRow.maps == (Tryz.f3.params.toList++Rows.fnCheckProofSpec.plain.varTypes Tryz.checked.prog).any (Tryz.checked.prog.mapsRec ·))=true:=by kernel_rfl
theorem abE:(Rows.fnCheckProofRow.ifaces == (Tryz.f3.params.toList++Rows.fnCheckProofSpec.plain.varTypes Tryz.checked.prog).any (Tryz.checked.prog.ifacesRec ·))=true:=by kernel_rfl
theorem aa1:(Rows.fnCheckProofRow.mapsOut == Tryz.checked.prog.mapsAmong Tryz.f3.resultTypes.toList)=true:=by kernel_rfl
theorem aaz:(Rows.fnCheckProofRow.loops == (Tryz.f3.params.toList++Rows.fnCheckProofSpec.plain.varTypes Tryz.checked.prog).any (Tryz.checked.prog.loopsFrom ·))=true:=by kernel_rfl
theorem abp:(Rows.fnCheckProofRow.wideKeys == (Tryz.f3.params.toList++Rows.fnCheckProofSpec.plain.varTypes Tryz.checked.prog++Tryz.f3.resultTypes.toList).any (Tryz.checked.prog.wideKeysFrom ·))=true:=by kernel_rfl
theorem aar:Rows.fnCheckProofSpec.vars.all (Tryz.checked.prog.varReadable ·)=true:=by kernel_rfl
theorem aaP:Tryz.f3.resultTypes.all (fun t=>Tryz.checked.prog.readableRec t && decide (t<Tryz.checked.prog.types.size))=true:=by kernel_rfl
theorem aao:(Rows.fnCheckProofRow.ifacesOut == Tryz.f3.resultTypes.toList.any (Tryz.checked.prog.ifacesRec ·))=true:=by kernel_rfl
theorem aaD:(Rows.fnCheckProofRow.loopsOut == Tryz.f3.resultTypes.toList.any (Tryz.checked.prog.loopsFrom ·))=true:=by kernel_rfl
theorem aam:(Rows.fnCheckProofRow.plainKeys == Tryz.checked.prog.plainKeys)=true:=by kernel_rfl
theorem aas:Rows.fnCheckProofRow.shortTexts.isNone=true:=by kernel_rfl
theorem abd:Tryz.checked.prog.stopsHeard=true:=by kernel_rfl
theorem abA:Tryz.checked.prog.mayEnter=true:=by kernel_rfl
theorem aa7:(Rows.fnCheckProofRow.lifted == Tryz.checked.prog.liftsFinal)=true:=by kernel_rfl
theorem aaA:(Tryz.checked.prog.make == some Rows.fnCheckProofRow.make)=true:=by kernel_rfl
theorem aaj:(Rows.fnCheckProofRow.kinds == (if Rows.fnCheckProofRow.domain.isEmpty then [] else Tryz.f3.params.toList.map fun t=>match Tryz.checked.prog.underlying t with|some (.int k)=>some k|_=>none))=true:=by kernel_rfl
theorem aa0:(Rows.fnCheckProofRow.pinned == Rows.fnCheckProofRow.pinnedBy)=true:=by kernel_rfl
theorem abF:(Rows.fnCheckProofRow.veiled == (Tryz.f3.params.toList++Rows.fnCheckProofSpec.plain.varTypes Tryz.checked.prog++Tryz.f3.resultTypes.toList).any (Tryz.checked.prog.veiledRec ·))=true:=by kernel_rfl
theorem abD:Rows.fnCheckProofRow.veiledFits Tryz.checked.prog Tryz.f3.params.toList (Tryz.f3.params.toList++Rows.fnCheckProofSpec.plain.varTypes Tryz.checked.prog++Tryz.f3.resultTypes.toList)=true:=by kernel_rfl
set_option maxRecDepth 100000 in
theorem UJ:joinedFacts Tryz.checked.prog dM Tryz.f3 Rows.fnCheckProofSpec Rows.fnCheckProofRow=true:=by
 unfold joinedFacts;exact dh (dh (dh (dh (dh (dh (dh (dh (dh (dh (dh (dh (dh (dh (dh (dh (dh (dh (dh (dh (dh (dh (dh (dh (dh (dh (dh (dh (dh (dh (dh ab8 acv) ab7) abX) acC) ab6) acp) ace) acd) acH) aaX) abv) aa8) aax) abE) aa1) aaz) abp) aar) aaP) aao) aaD) aam) aas) abd) abA) aa7) aaA) aaj) aa0) abF) abD
theorem pCk_named:Tryz.checked.prog.funcNamed Rows.fnCheckProofRow.func=some dM:=by kernel_rfl
theorem ZF:Tryz.f3.isInstance Tryz.checked.prog Rows.fnCheckProofRow.origin Rows.fnCheckProofRow.targs:=of_decide_eq_true (by kernel_rfl)
theorem Zh:Tryz.f3.isWrapper Tryz.checked.prog Rows.fnCheckProofRow.wrapper Rows.fnCheckProofRow.mainSum:=by unfold Func.isWrapper; first|(rw [ai (by decide +kernel)]; kernel_rfl)|(rw [af (by decide +kernel)]; exact ⟨rfl,rfl⟩)
theorem pCk_holds:Rows.FnCheckProofSaid:=
 OpenClaim.holds_of_wide dM Tryz.f3 rfl rfl rfl rfl rfl rfl rfl ⟨rfl,rfl,rfl,rfl,rfl⟩ rfl rfl rfl rfl rfl pCk_named Tryz.func3 UJ ZF Zh
  (fun os a H enc _=>VA os a H enc)


theorem pCk_card:Rows.FnCheckProofCardSaid:=
 Claim7.holds_tied_plain_at .later [] [.data,.data,.data] true Rows.fnCheckProofCard.stood.harness Rows.fnCheckProofCard.stood.looks
  pCk_holds (fun _ h=>by cases h) (by kernel_rfl) (fun _ h=>by cases h) fnCheckProof_row_tie rfl ⟨rfl,rfl⟩ (by kernel_rfl) rfl
  (fun f fn hf g=>by
   obtain rfl:f=dM:=JI (pCk_named.symm.trans hf) |>.symm
   obtain rfl:fn=Tryz.f3:=(JI (Tryz.func3.symm.trans g)).symm;exact ⟨by kernel_rfl,fun j t i=>by
    have a:(Tryz.f3.params.all fun u=>!Tryz.prog.wantsStandIn u)=true:=by kernel_rfl
    rw [Array.all_eq_true_iff_forall_mem] at a;exact (show Tryz.prog.wantsStandIn t=false by simpa using a t (Array.mem_of_getElem? i))⟩)
  (by kernel_rfl)

#print axioms pCk_card
end Go.Proofs.YtellfcpffcipcaaGreatDoor
