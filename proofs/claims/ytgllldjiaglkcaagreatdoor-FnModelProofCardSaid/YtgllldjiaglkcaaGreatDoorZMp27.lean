/- FnModelProof returns true, whatever bytes come in, and leaves its argument as it was; the tables of the library lie as the program's text lays them (tied). -/
import Derived.Test.YtgllldjiaglkcaaGreatDoorZMp25
import Derived.Test.YtgllldjiaglkcaaGreatDoorZMp26
import Derived.Test.YtgllldjiaglkcaaGreatDoorCards
import Derived.SevenTiedAt
import Derived.ChangeVars
import Derived.JoinedOf
import Derived.RowKit
import Derived.OpenShut
namespace Go.Proofs.YtgllldjiaglkcaaGreatDoor
open Go Go.ChangeShapes Go.WideShapes Go.ChangeAt Go.RowKit

set_option maxRecDepth 100000 in
theorem QH (os:Os) (started:os.Started) (H:Type) (enc:TypeId × Value->H) :
  ReturnsInHanded {} Tryz.checked os c9 .any (fun w args=>(Rows.fnModelProofSpec.pre enc Tryz.prog Tryz.f5 [] false w args/\laidMetH Tryz.prog TM w)/\sizedMet enc Tryz.prog Tryz.f5 (OpenSpec.ofChange Rows.fnModelProofSpec) false w args)
   (Rows.fnModelProofSpec.post enc Tryz.prog Tryz.f5 false true false false):=by
 refine returnsInHanded_of_change_and (C:=Tryz.checked) (X:=fun w _=>laidMetH Tryz.prog TM w) (fun _ _ _ hh h=>h.of_heap hh) Tryz.own started (by kernel_rfl) Tryz.func5
  (ChangeSpec.witness_shaped (enc:=enc) (C:=Tryz.checked) (os:=os) (X:=fun w _=>laidMetH Tryz.prog TM w) false (World.doorLaid Tryz.prog 24 os) #[.slice none 0 0,.slice none 0 0] 8 rfl (World.shaped_of_RefB (by kernel_rfl) (by kernel_rfl)) (by kernel_rfl) (by kernel_rfl) (by kernel_rfl) (X6 os _)) ?_
 intro W base args ds gs before hval0 hW _ _ _ _
 have hval:∀ (j:Nat) t v,Tryz.f5.params[j]?=some t->args[j]?=some v->Value.okWide Tryz.prog W .any base t v:=hval0
 have hW':=hW
 obtain ⟨p,q,hA0,hV,hb,_,_⟩:=hW
 have hA:DataW.TrodAll enc Tryz.prog W 0 (fun _=>true) true Tryz.f5.params.toList args.toList ds p:=hA0
 have hA1:=hA
 rw [Tryz.params5] at hA1 hval
 obtain ⟨v0,v1,d0,d1,p0,p1,rfl,rfl,_,h0,h1⟩:=trodAll_two hA1
 obtain ⟨n,hn⟩:=h0
 obtain ⟨n1,hn1⟩:=h1
 obtain rfl:=(trodVars_none (show DataW.TrodVars enc Tryz.prog W (fun _=>true) [] gs q from hV)).1
 obtain ⟨a,len,cap,rfl⟩:=okWide_slice (tV ec).1 (hval 0 _ _ rfl rfl)
 obtain ⟨xs,hx⟩:=Fj hn
 obtain ⟨a1,len1,cap1,rfl⟩:=okWide_slice (tV ec).1 (hval 1 _ _ rfl rfl)
 obtain ⟨xs1,hx1⟩:=Fj hn1
 refine (G4 hx hx1 W (Inv.entry W)).mono fun e W' ⟨he,hI⟩=>?_
 subst he
 exact ⟨_,rfl,UV hW' hA hV hb rfl (by rw [Tryz.params5]; decide +kernel) (by kernel_rfl) rfl rfl rfl hI⟩

theorem cC {a b:Bool} (ha:a=true) (hb:b=true):(a && b)=true:=by rw [ha,hb]; rfl
theorem ZP:Rows.fnModelProofRow.wf (OpenSpec.ofChange Rows.fnModelProofSpec)=true:=by kernel_rfl
theorem aaf:laidOutB Tryz.checked.prog=true:=by kernel_rfl
theorem Z7:mapsRowed Tryz.checked.prog=true:=by kernel_rfl
theorem ZK:Tryz.f5.params.all (Tryz.checked.prog.readableRec ·)=true:=by kernel_rfl
theorem aag:namedTie Tryz.checked.prog Rows.fnModelProofRow.named Rows.fnModelProofSpec.vars=true:=by kernel_rfl
theorem aad:(Rows.fnModelProofRow.stops == [])=true:=by kernel_rfl
theorem ZB:(Tryz.checked.prog.stops == [])=true:=by kernel_rfl
theorem Z1:(Rows.fnModelProofRow.knobs == [])=true:=by kernel_rfl
theorem ZD:(Tryz.checked.prog.stopKnobs == [])=true:=by kernel_rfl
theorem ZY:(Rows.fnModelProofRow.inPlace == Tryz.checked.prog.inPlace c9)=true:=by kernel_rfl
theorem Yi:(Rows.fnModelProofRow.unfollowed == Tryz.checked.prog.unfollowed c9)=true:=by kernel_rfl
theorem Yu:(Rows.fnModelProofRow.recurses == Tryz.checked.prog.recurses c9)=true:=by kernel_rfl
theorem Y0:(Rows.fnModelProofRow.named == Tryz.checked.prog.varsNamed c9)=true:=by kernel_rfl
theorem Yf:(Rows.fnModelProofRow.maps == (Tryz.f5.params.toList++Rows.fnModelProofSpec.plain.varTypes Tryz.checked.prog).any (Tryz.checked.prog.mapsRec ·))=true:=by kernel_rfl
theorem YH:(Rows.fnModelProofRow.ifaces == (Tryz.f5.params.toList++Rows.fnModelProofSpec.plain.varTypes Tryz.checked.prog).any (Tryz.checked.prog.ifacesRec ·))=true:=by kernel_rfl
theorem Yh:(Rows.fnModelProofRow.mapsOut == Tryz.checked.prog.mapsAmong Tryz.f5.resultTypes.toList)=true:=by kernel_rfl
theorem YL:(Rows.fnModelProofRow.loops == (Tryz.f5.params.toList++Rows.fnModelProofSpec.plain.varTypes Tryz.checked.prog).any (Tryz.checked.prog.loopsFrom ·))=true:=by kernel_rfl
theorem YB:(Rows.fnModelProofRow.wideKeys == (Tryz.f5.params.toList++Rows.fnModelProofSpec.plain.varTypes Tryz.checked.prog++Tryz.f5.resultTypes.toList).any (Tryz.checked.prog.wideKeysFrom ·))=true:=by kernel_rfl
theorem Yy:Rows.fnModelProofSpec.vars.all (Tryz.checked.prog.varReadable ·)=true:=by kernel_rfl
theorem YJ:Tryz.f5.resultTypes.all (fun t=>Tryz.checked.prog.readableRec t && decide (t<Tryz.checked.prog.types.size))=true:=by kernel_rfl
theorem Yp:(Rows.fnModelProofRow.ifacesOut == Tryz.f5.resultTypes.toList.any (Tryz.checked.prog.ifacesRec ·))=true:=by kernel_rfl
theorem Y2:(Rows.fnModelProofRow.loopsOut == Tryz.f5.resultTypes.toList.any (Tryz.checked.prog.loopsFrom ·))=true:=by kernel_rfl
theorem YQ:(Rows.fnModelProofRow.plainKeys == Tryz.checked.prog.plainKeys)=true:=by kernel_rfl
theorem Zi:Rows.fnModelProofRow.shortTexts.isNone=true:=by kernel_rfl
theorem YR:Tryz.checked.prog.stopsHeard=true:=by kernel_rfl
theorem Zh:Tryz.checked.prog.mayEnter=true:=by kernel_rfl
theorem Yj:(Rows.fnModelProofRow.lifted == Tryz.checked.prog.liftsFinal)=true:=by kernel_rfl
theorem Ye:(Tryz.checked.prog.make == some Rows.fnModelProofRow.make)=true:=by kernel_rfl
theorem Yk:(Rows.fnModelProofRow.kinds == (if Rows.fnModelProofRow.domain.isEmpty then [] else Tryz.f5.params.toList.map fun t=>match Tryz.checked.prog.underlying t with|some (.int k)=>some k|_=>none))=true:=by kernel_rfl
theorem Yg:(Rows.fnModelProofRow.pinned == Rows.fnModelProofRow.pinnedBy)=true:=by kernel_rfl
theorem YI:(Rows.fnModelProofRow.veiled == (Tryz.f5.params.toList++Rows.fnModelProofSpec.plain.varTypes Tryz.checked.prog++Tryz.f5.resultTypes.toList).any (Tryz.checked.prog.veiledRec ·))=true:=by kernel_rfl
theorem Y9:Rows.fnModelProofRow.veiledFits Tryz.checked.prog Tryz.f5.params.toList (Tryz.f5.params.toList++Rows.fnModelProofSpec.plain.varTypes Tryz.checked.prog++Tryz.f5.resultTypes.toList)=true:=by kernel_rfl
set_option maxRecDepth 100000 in
theorem Rp:joinedFacts Tryz.checked.prog c9 Tryz.f5 Rows.fnModelProofSpec Rows.fnModelProofRow=true:=by
 unfold joinedFacts
 exact cC (cC (cC (cC (cC (cC (cC (cC (cC (cC (cC (cC (cC (cC (cC (cC (cC (cC (cC (cC (cC (cC (cC (cC (cC (cC (cC (cC (cC (cC (cC ZP aaf) Z7) ZK) aag) aad) ZB) Z1) ZD) ZY) Yi) Yu) Y0) Yf) YH) Yh) YL) YB) Yy) YJ) Yp) Y2) YQ) Zi) YR) Zh) Yj) Ye) Yk) Yg) YI) Y9
theorem pMp_named:Tryz.checked.prog.funcNamed Rows.fnModelProofRow.func=some c9:=by kernel_rfl
theorem Xk:Tryz.f5.isInstance Tryz.checked.prog Rows.fnModelProofRow.origin Rows.fnModelProofRow.targs:=of_decide_eq_true (by kernel_rfl)
theorem V7:Tryz.f5.isWrapper Tryz.checked.prog Rows.fnModelProofRow.wrapper Rows.fnModelProofRow.mainSum:=by unfold Func.isWrapper; first|(rw [ai (by decide +kernel)]; kernel_rfl)|(rw [ah (by decide +kernel)]; exact ⟨rfl,rfl⟩)
theorem pMp_holds:Rows.FnModelProofSaid:=
 OpenClaim.holds_of_wide c9 Tryz.f5 rfl rfl rfl rfl rfl rfl rfl ⟨rfl,rfl,rfl,rfl,rfl⟩ rfl rfl rfl rfl rfl pMp_named Tryz.func5 Rp Xk V7
  (fun os started H enc _=>QH os started H enc)


theorem pMp_card:Rows.FnModelProofCardSaid:=
 Claim7.holds_tied_plain_at .later [] [.data,.data,.data] true Rows.fnModelProofCard.stood.harness Rows.fnModelProofCard.stood.looks
  pMp_holds (fun _ h=>by cases h) (by kernel_rfl) (fun _ h=>by cases h) fnModelProof_row_tie rfl ⟨rfl,rfl⟩ (by kernel_rfl) rfl
  (fun f fn hf hfn=>by
   obtain rfl:f=c9:=Hj (pMp_named.symm.trans hf) |>.symm
   obtain rfl:fn=Tryz.f5:=(Hj (Tryz.func5.symm.trans hfn)).symm
   exact ⟨by kernel_rfl,fun j t ht=>by
    have hall:(Tryz.f5.params.all fun u=>!Tryz.prog.wantsStandIn u)=true:=by kernel_rfl
    rw [Array.all_eq_true_iff_forall_mem] at hall
    exact (show Tryz.prog.wantsStandIn t=false by simpa using hall t (Array.mem_of_getElem? ht))⟩)
  (by kernel_rfl)

#print axioms pMp_card
end Go.Proofs.YtgllldjiaglkcaaGreatDoor
