/- FnFormatProof returns true, whatever bytes come in, and leaves its argument as it was; the tables of the library lie as the program's text lays them (tied). -/
import Derived.Test.YtbocelianhcfmaaGreatDoorZEg28
import Derived.Test.YtbocelianhcfmaaGreatDoorCards
import Derived.SevenTiedAt
import Derived.ChangeVars
import Derived.JoinedOf
import Derived.RowKit
import Derived.OpenShut
namespace Go.Proofs.YtbocelianhcfmaaGreatDoor
open Go Go.ChangeShapes Go.WideShapes Go.ChangeAt Go.RowKit

set_option maxRecDepth 100000 in
theorem HL (os:Os) (started:os.Started) (H:Type) (enc:TypeId × Value->H) :
  ReturnsInHanded {} Tryz.checked os bX .any (fun w args=>(Rows.fnFormatProofSpec.pre enc Tryz.prog Tryz.f4 [] false w args/\laidMetH Tryz.prog wD w)/\sizedMet enc Tryz.prog Tryz.f4 (OpenSpec.ofChange Rows.fnFormatProofSpec) false w args)
   (Rows.fnFormatProofSpec.post enc Tryz.prog Tryz.f4 false true false false):=by
 refine returnsInHanded_of_change_and (C:=Tryz.checked) (X:=fun w _=>laidMetH Tryz.prog wD w) (fun _ _ _ hh h=>h.of_heap hh) Tryz.own started (by kernel_rfl) Tryz.func4
  (ChangeSpec.witness_shaped (enc:=enc) (C:=Tryz.checked) (os:=os) (X:=fun w _=>laidMetH Tryz.prog wD w) false (World.doorLaid Tryz.prog 24 os) #[.slice none 0 0] 8 rfl (World.shaped_of_RefB (by kernel_rfl) (by kernel_rfl)) (by kernel_rfl) (by kernel_rfl) (by kernel_rfl) (FD os _)) ?_
 intro W base args ds gs before hval0 hW _ _ hL _
 have hval:∀ (j:Nat) t v,Tryz.f4.params[j]?=some t->args[j]?=some v->Value.okWide Tryz.prog W .any base t v:=hval0
 have hW':=hW
 obtain ⟨p,q,hA0,hV,hb,_,_⟩:=hW
 have hA:DataW.TrodAll enc Tryz.prog W 0 (fun _=>true) true Tryz.f4.params.toList args.toList ds p:=hA0
 have hA1:=hA
 rw [Tryz.params4] at hA1 hval
 obtain ⟨v0,d0,rfl,rfl,h0⟩:=trodAll_one hA1
 obtain ⟨n,hn⟩:=h0
 obtain rfl:=(trodVars_none (show DataW.TrodVars enc Tryz.prog W (fun _=>true) [] gs q from hV)).1
 have hT:=xi hL
 obtain ⟨a,len,cap,rfl⟩:=okWide_slice (oB di).1 (hval 0 _ _ rfl rfl)
 obtain ⟨xs,hx⟩:=za hn
 refine (AF hT hx W (Inv.entry W)).mono fun e W' ⟨he,hI⟩=>?_
 subst he
 exact ⟨_,rfl,Cn hW' hA hV hb rfl (by rw [Tryz.params4]; decide +kernel) (by kernel_rfl) rfl rfl rfl hI⟩

theorem bK {a b:Bool} (ha:a=true) (hb:b=true):(a && b)=true:=by rw [ha,hb]; rfl
theorem OP:Rows.fnFormatProofRow.wf (OpenSpec.ofChange Rows.fnFormatProofSpec)=true:=by kernel_rfl
theorem O5:laidOutB Tryz.checked.prog=true:=by kernel_rfl
theorem PH:mapsRowed Tryz.checked.prog=true:=by kernel_rfl
theorem OJ:Tryz.f4.params.all (Tryz.checked.prog.readableRec ·)=true:=by kernel_rfl
theorem OU:namedTie Tryz.checked.prog Rows.fnFormatProofRow.named Rows.fnFormatProofSpec.vars=true:=by kernel_rfl
theorem OW:(Rows.fnFormatProofRow.stops == [])=true:=by kernel_rfl
theorem Pb:(Tryz.checked.prog.stops == [])=true:=by kernel_rfl
theorem OM:(Rows.fnFormatProofRow.knobs == [])=true:=by kernel_rfl
theorem PJ:(Tryz.checked.prog.stopKnobs == [])=true:=by kernel_rfl
theorem OI:(Rows.fnFormatProofRow.inPlace == Tryz.checked.prog.inPlace bX)=true:=by kernel_rfl
theorem NS:(Rows.fnFormatProofRow.unfollowed == Tryz.checked.prog.unfollowed bX)=true:=by kernel_rfl
theorem Nt:(Rows.fnFormatProofRow.recurses == Tryz.checked.prog.recurses bX)=true:=by kernel_rfl
theorem N7:(Rows.fnFormatProofRow.named == Tryz.checked.prog.varsNamed bX)=true:=by kernel_rfl
theorem NN:(Rows.fnFormatProofRow.maps == (Tryz.f4.params.toList++Rows.fnFormatProofSpec.plain.varTypes Tryz.checked.prog).any (Tryz.checked.prog.mapsRec ·))=true:=by kernel_rfl
theorem M0:(Rows.fnFormatProofRow.ifaces == (Tryz.f4.params.toList++Rows.fnFormatProofSpec.plain.varTypes Tryz.checked.prog).any (Tryz.checked.prog.ifacesRec ·))=true:=by kernel_rfl
theorem Og:(Rows.fnFormatProofRow.mapsOut == Tryz.checked.prog.mapsAmong Tryz.f4.resultTypes.toList)=true:=by kernel_rfl
theorem M8:(Rows.fnFormatProofRow.loops == (Tryz.f4.params.toList++Rows.fnFormatProofSpec.plain.varTypes Tryz.checked.prog).any (Tryz.checked.prog.loopsFrom ·))=true:=by kernel_rfl
theorem Nq:(Rows.fnFormatProofRow.wideKeys == (Tryz.f4.params.toList++Rows.fnFormatProofSpec.plain.varTypes Tryz.checked.prog++Tryz.f4.resultTypes.toList).any (Tryz.checked.prog.wideKeysFrom ·))=true:=by kernel_rfl
theorem N3:Rows.fnFormatProofSpec.vars.all (Tryz.checked.prog.varReadable ·)=true:=by kernel_rfl
theorem NV:Tryz.f4.resultTypes.all (fun t=>Tryz.checked.prog.readableRec t && decide (t<Tryz.checked.prog.types.size))=true:=by kernel_rfl
theorem N1:(Rows.fnFormatProofRow.ifacesOut == Tryz.f4.resultTypes.toList.any (Tryz.checked.prog.ifacesRec ·))=true:=by kernel_rfl
theorem Ne:(Rows.fnFormatProofRow.loopsOut == Tryz.f4.resultTypes.toList.any (Tryz.checked.prog.loopsFrom ·))=true:=by kernel_rfl
theorem Ns:(Rows.fnFormatProofRow.plainKeys == Tryz.checked.prog.plainKeys)=true:=by kernel_rfl
theorem NM:Rows.fnFormatProofRow.shortTexts.isNone=true:=by kernel_rfl
theorem NE:Tryz.checked.prog.stopsHeard=true:=by kernel_rfl
theorem NJ:Tryz.checked.prog.mayEnter=true:=by kernel_rfl
theorem Nx:(Rows.fnFormatProofRow.lifted == Tryz.checked.prog.liftsFinal)=true:=by kernel_rfl
theorem NC:(Tryz.checked.prog.make == some Rows.fnFormatProofRow.make)=true:=by kernel_rfl
theorem Nk:(Rows.fnFormatProofRow.kinds == (if Rows.fnFormatProofRow.domain.isEmpty then [] else Tryz.f4.params.toList.map fun t=>match Tryz.checked.prog.underlying t with|some (.int k)=>some k|_=>none))=true:=by kernel_rfl
theorem Ng:(Rows.fnFormatProofRow.pinned == Rows.fnFormatProofRow.pinnedBy)=true:=by kernel_rfl
theorem MN:(Rows.fnFormatProofRow.veiled == (Tryz.f4.params.toList++Rows.fnFormatProofSpec.plain.varTypes Tryz.checked.prog++Tryz.f4.resultTypes.toList).any (Tryz.checked.prog.veiledRec ·))=true:=by kernel_rfl
theorem MY:Rows.fnFormatProofRow.veiledFits Tryz.checked.prog Tryz.f4.params.toList (Tryz.f4.params.toList++Rows.fnFormatProofSpec.plain.varTypes Tryz.checked.prog++Tryz.f4.resultTypes.toList)=true:=by kernel_rfl
set_option maxRecDepth 100000 in
theorem Id:joinedFacts Tryz.checked.prog bX Tryz.f4 Rows.fnFormatProofSpec Rows.fnFormatProofRow=true:=by
 unfold joinedFacts
 exact bK (bK (bK (bK (bK (bK (bK (bK (bK (bK (bK (bK (bK (bK (bK (bK (bK (bK (bK (bK (bK (bK (bK (bK (bK (bK (bK (bK (bK (bK (bK OP O5) PH) OJ) OU) OW) Pb) OM) PJ) OI) NS) Nt) N7) NN) M0) Og) M8) Nq) N3) NV) N1) Ne) Ns) NM) NE) NJ) Nx) NC) Nk) Ng) MN) MY
theorem pFm_named:Tryz.checked.prog.funcNamed Rows.fnFormatProofRow.func=some bX:=by kernel_rfl
theorem LE:Tryz.f4.isInstance Tryz.checked.prog Rows.fnFormatProofRow.origin Rows.fnFormatProofRow.targs:=of_decide_eq_true (by kernel_rfl)
theorem LR:Tryz.f4.isWrapper Tryz.checked.prog Rows.fnFormatProofRow.wrapper Rows.fnFormatProofRow.mainSum:=by unfold Func.isWrapper; first|(rw [if_pos (by decide +kernel)]; kernel_rfl)|(rw [if_neg (by decide +kernel)]; exact ⟨rfl,rfl⟩)
theorem pFm_holds:Rows.FnFormatProofSaid:=
 OpenClaim.holds_of_wide bX Tryz.f4 rfl rfl rfl rfl rfl rfl rfl ⟨rfl,rfl,rfl,rfl,rfl⟩ rfl rfl rfl rfl rfl pFm_named Tryz.func4 Id LE LR
  (fun os started H enc _=>HL os started H enc)


theorem pFm_card:Rows.FnFormatProofCardSaid:=
 Claim7.holds_tied_plain_at .later [] [.data,.data,.data] true Rows.fnFormatProofCard.stood.harness Rows.fnFormatProofCard.stood.looks
  pFm_holds (fun _ h=>by cases h) (by kernel_rfl) (fun _ h=>by cases h) fnFormatProof_row_tie rfl ⟨rfl,rfl⟩ (by kernel_rfl) rfl
  (fun f fn hf hfn=>by
   obtain rfl:f=bX:=Option.some.inj (pFm_named.symm.trans hf) |>.symm
   obtain rfl:fn=Tryz.f4:=(Option.some.inj (Tryz.func4.symm.trans hfn)).symm
   exact ⟨by kernel_rfl,fun j t ht=>by
    have hall:(Tryz.f4.params.all fun u=>!Tryz.prog.wantsStandIn u)=true:=by kernel_rfl
    rw [Array.all_eq_true_iff_forall_mem] at hall
    exact (show Tryz.prog.wantsStandIn t=false by simpa using hall t (Array.mem_of_getElem? ht))⟩)
  (by kernel_rfl)

#print axioms pFm_card
end Go.Proofs.YtbocelianhcfmaaGreatDoor
