/- FnProofSame returns true, whatever bytes come in, and leaves its argument as it was; the tables of the library lie as the program's text lays them (tied). -/
import Derived.Test.YtbocelianhcfmaaGreatDoorZEg28
import Derived.Test.YtbocelianhcfmaaGreatDoorCards
import Derived.SevenTiedAt
import Derived.ChangeVars
import Derived.JoinedOf
import Derived.RowKit
import Derived.OpenShut
namespace Go.Proofs.YtbocelianhcfmaaGreatDoor
open Go Go.ChangeShapes Go.WideShapes Go.ChangeAt Go.RowKit

set_option maxRecDepth 100000 in
theorem Hj (os:Os) (started:os.Started) (H:Type) (enc:TypeId × Value->H) :
  ReturnsInHanded {} Tryz.checked os cA .any (fun w args=>(Rows.fnProofSameSpec.pre enc Tryz.prog Tryz.f5 [] false w args/\laidMetH Tryz.prog wD w)/\sizedMet enc Tryz.prog Tryz.f5 (OpenSpec.ofChange Rows.fnProofSameSpec) false w args)
   (Rows.fnProofSameSpec.post enc Tryz.prog Tryz.f5 false true false false):=by
 refine returnsInHanded_of_change_and (C:=Tryz.checked) (X:=fun w _=>laidMetH Tryz.prog wD w) (fun _ _ _ hh h=>h.of_heap hh) Tryz.own started (by kernel_rfl) Tryz.func5
  (ChangeSpec.witness_shaped (enc:=enc) (C:=Tryz.checked) (os:=os) (X:=fun w _=>laidMetH Tryz.prog wD w) false (World.doorLaid Tryz.prog 24 os) #[.slice none 0 0] 8 rfl (World.shaped_of_RefB (by kernel_rfl) (by kernel_rfl)) (by kernel_rfl) (by kernel_rfl) (by kernel_rfl) (FD os _)) ?_
 intro W base args ds gs before hval0 hW _ _ hL _
 have hval:∀ (j:Nat) t v,Tryz.f5.params[j]?=some t->args[j]?=some v->Value.okWide Tryz.prog W .any base t v:=hval0
 have hW':=hW
 obtain ⟨p,q,hA0,hV,hb,_,_⟩:=hW
 have hA:DataW.TrodAll enc Tryz.prog W 0 (fun _=>true) true Tryz.f5.params.toList args.toList ds p:=hA0
 have hA1:=hA
 rw [Tryz.params5] at hA1 hval
 obtain ⟨v0,d0,rfl,rfl,h0⟩:=trodAll_one hA1
 obtain ⟨n,hn⟩:=h0
 obtain rfl:=(trodVars_none (show DataW.TrodVars enc Tryz.prog W (fun _=>true) [] gs q from hV)).1
 have hT:=xi hL
 obtain ⟨a,len,cap,rfl⟩:=okWide_slice (oB di).1 (hval 0 _ _ rfl rfl)
 obtain ⟨xs,hx⟩:=za hn
 refine (yh hT hx W (Inv.entry W)).mono fun e W' ⟨he,hI⟩=>?_
 subst he
 exact ⟨_,rfl,Cn hW' hA hV hb rfl (by rw [Tryz.params5]; decide +kernel) (by kernel_rfl) rfl rfl rfl hI⟩

theorem bJ {a b:Bool} (ha:a=true) (hb:b=true):(a && b)=true:=by rw [ha,hb]; rfl
theorem OO:Rows.fnProofSameRow.wf (OpenSpec.ofChange Rows.fnProofSameSpec)=true:=by kernel_rfl
theorem OT:laidOutB Tryz.checked.prog=true:=by kernel_rfl
theorem ON:mapsRowed Tryz.checked.prog=true:=by kernel_rfl
theorem O1:Tryz.f5.params.all (Tryz.checked.prog.readableRec ·)=true:=by kernel_rfl
theorem OY:namedTie Tryz.checked.prog Rows.fnProofSameRow.named Rows.fnProofSameSpec.vars=true:=by kernel_rfl
theorem OR:(Rows.fnProofSameRow.stops == [])=true:=by kernel_rfl
theorem OQ:(Tryz.checked.prog.stops == [])=true:=by kernel_rfl
theorem Pq:(Rows.fnProofSameRow.knobs == [])=true:=by kernel_rfl
theorem Pp:(Tryz.checked.prog.stopKnobs == [])=true:=by kernel_rfl
theorem PD:(Rows.fnProofSameRow.inPlace == Tryz.checked.prog.inPlace cA)=true:=by kernel_rfl
theorem M5:(Rows.fnProofSameRow.unfollowed == Tryz.checked.prog.unfollowed cA)=true:=by kernel_rfl
theorem NT:(Rows.fnProofSameRow.recurses == Tryz.checked.prog.recurses cA)=true:=by kernel_rfl
theorem Nf:(Rows.fnProofSameRow.named == Tryz.checked.prog.varsNamed cA)=true:=by kernel_rfl
theorem MV:(Rows.fnProofSameRow.maps == (Tryz.f5.params.toList++Rows.fnProofSameSpec.plain.varTypes Tryz.checked.prog).any (Tryz.checked.prog.mapsRec ·))=true:=by kernel_rfl
theorem Nh:(Rows.fnProofSameRow.ifaces == (Tryz.f5.params.toList++Rows.fnProofSameSpec.plain.varTypes Tryz.checked.prog).any (Tryz.checked.prog.ifacesRec ·))=true:=by kernel_rfl
theorem NO:(Rows.fnProofSameRow.mapsOut == Tryz.checked.prog.mapsAmong Tryz.f5.resultTypes.toList)=true:=by kernel_rfl
theorem M3:(Rows.fnProofSameRow.loops == (Tryz.f5.params.toList++Rows.fnProofSameSpec.plain.varTypes Tryz.checked.prog).any (Tryz.checked.prog.loopsFrom ·))=true:=by kernel_rfl
theorem M7:(Rows.fnProofSameRow.wideKeys == (Tryz.f5.params.toList++Rows.fnProofSameSpec.plain.varTypes Tryz.checked.prog++Tryz.f5.resultTypes.toList).any (Tryz.checked.prog.wideKeysFrom ·))=true:=by kernel_rfl
theorem NI:Rows.fnProofSameSpec.vars.all (Tryz.checked.prog.varReadable ·)=true:=by kernel_rfl
theorem Nm:Tryz.f5.resultTypes.all (fun t=>Tryz.checked.prog.readableRec t && decide (t<Tryz.checked.prog.types.size))=true:=by kernel_rfl
theorem N6:(Rows.fnProofSameRow.ifacesOut == Tryz.f5.resultTypes.toList.any (Tryz.checked.prog.ifacesRec ·))=true:=by kernel_rfl
theorem NQ:(Rows.fnProofSameRow.loopsOut == Tryz.f5.resultTypes.toList.any (Tryz.checked.prog.loopsFrom ·))=true:=by kernel_rfl
theorem NW:(Rows.fnProofSameRow.plainKeys == Tryz.checked.prog.plainKeys)=true:=by kernel_rfl
theorem Np:Rows.fnProofSameRow.shortTexts.isNone=true:=by kernel_rfl
theorem N0:Tryz.checked.prog.stopsHeard=true:=by kernel_rfl
theorem NY:Tryz.checked.prog.mayEnter=true:=by kernel_rfl
theorem Oh:(Rows.fnProofSameRow.lifted == Tryz.checked.prog.liftsFinal)=true:=by kernel_rfl
theorem Nd:(Tryz.checked.prog.make == some Rows.fnProofSameRow.make)=true:=by kernel_rfl
theorem Nc:(Rows.fnProofSameRow.kinds == (if Rows.fnProofSameRow.domain.isEmpty then [] else Tryz.f5.params.toList.map fun t=>match Tryz.checked.prog.underlying t with|some (.int k)=>some k|_=>none))=true:=by kernel_rfl
theorem M9:(Rows.fnProofSameRow.pinned == Rows.fnProofSameRow.pinnedBy)=true:=by kernel_rfl
theorem NX:(Rows.fnProofSameRow.veiled == (Tryz.f5.params.toList++Rows.fnProofSameSpec.plain.varTypes Tryz.checked.prog++Tryz.f5.resultTypes.toList).any (Tryz.checked.prog.veiledRec ·))=true:=by kernel_rfl
theorem MM:Rows.fnProofSameRow.veiledFits Tryz.checked.prog Tryz.f5.params.toList (Tryz.f5.params.toList++Rows.fnProofSameSpec.plain.varTypes Tryz.checked.prog++Tryz.f5.resultTypes.toList)=true:=by kernel_rfl
set_option maxRecDepth 100000 in
theorem IZ:joinedFacts Tryz.checked.prog cA Tryz.f5 Rows.fnProofSameSpec Rows.fnProofSameRow=true:=by
 unfold joinedFacts
 exact bJ (bJ (bJ (bJ (bJ (bJ (bJ (bJ (bJ (bJ (bJ (bJ (bJ (bJ (bJ (bJ (bJ (bJ (bJ (bJ (bJ (bJ (bJ (bJ (bJ (bJ (bJ (bJ (bJ (bJ (bJ OO OT) ON) O1) OY) OR) OQ) Pq) Pp) PD) M5) NT) Nf) MV) Nh) NO) M3) M7) NI) Nm) N6) NQ) NW) Np) N0) NY) Oh) Nd) Nc) M9) NX) MM
theorem pSm_named:Tryz.checked.prog.funcNamed Rows.fnProofSameRow.func=some cA:=by kernel_rfl
theorem Mu:Tryz.f5.isInstance Tryz.checked.prog Rows.fnProofSameRow.origin Rows.fnProofSameRow.targs:=of_decide_eq_true (by kernel_rfl)
theorem LO:Tryz.f5.isWrapper Tryz.checked.prog Rows.fnProofSameRow.wrapper Rows.fnProofSameRow.mainSum:=by unfold Func.isWrapper; first|(rw [if_pos (by decide +kernel)]; kernel_rfl)|(rw [if_neg (by decide +kernel)]; exact ⟨rfl,rfl⟩)
theorem pSm_holds:Rows.FnProofSameSaid:=
 OpenClaim.holds_of_wide cA Tryz.f5 rfl rfl rfl rfl rfl rfl rfl ⟨rfl,rfl,rfl,rfl,rfl⟩ rfl rfl rfl rfl rfl pSm_named Tryz.func5 IZ Mu LO
  (fun os started H enc _=>Hj os started H enc)


theorem pSm_card:Rows.FnProofSameCardSaid:=
 Claim7.holds_tied_plain_at .later [] [.data,.data,.data] true Rows.fnProofSameCard.stood.harness Rows.fnProofSameCard.stood.looks
  pSm_holds (fun _ h=>by cases h) (by kernel_rfl) (fun _ h=>by cases h) fnProofSame_row_tie rfl ⟨rfl,rfl⟩ (by kernel_rfl) rfl
  (fun f fn hf hfn=>by
   obtain rfl:f=cA:=Option.some.inj (pSm_named.symm.trans hf) |>.symm
   obtain rfl:fn=Tryz.f5:=(Option.some.inj (Tryz.func5.symm.trans hfn)).symm
   exact ⟨by kernel_rfl,fun j t ht=>by
    have hall:(Tryz.f5.params.all fun u=>!Tryz.prog.wantsStandIn u)=true:=by kernel_rfl
    rw [Array.all_eq_true_iff_forall_mem] at hall
    exact (show Tryz.prog.wantsStandIn t=false by simpa using hall t (Array.mem_of_getElem? ht))⟩)
  (by kernel_rfl)

#print axioms pSm_card
end Go.Proofs.YtbocelianhcfmaaGreatDoor
