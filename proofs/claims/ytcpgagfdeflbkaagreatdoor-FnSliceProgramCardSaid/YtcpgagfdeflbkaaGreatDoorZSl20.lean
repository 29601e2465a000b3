/- FnSliceProgram returns true, whatever bytes come in, and leaves its argument as it was; the tables of the library lie as the program's text lays them (tied). -/
import Derived.Test.YtcpgagfdeflbkaaGreatDoorZSl19
import Derived.Test.YtcpgagfdeflbkaaGreatDoorCards
import Derived.SevenTiedAt
import Derived.ChangeVars
import Derived.JoinedOf
import Derived.RowKit
import Derived.OpenShut
namespace Go.Proofs.YtcpgagfdeflbkaaGreatDoor
open Go Go.ChangeShapes Go.WideShapes Go.ChangeAt Go.RowKit

set_option maxRecDepth 100000 in
theorem KU (os:Os) (started:os.Started) (H:Type) (enc:TypeId × Value->H) :
  ReturnsInHanded {} Tryz.checked os cc .any (fun w args=>(Rows.fnSliceProgramSpec.pre enc Tryz.prog Tryz.f4 [] false w args/\laidMetH Tryz.prog L0 w)/\sizedMet enc Tryz.prog Tryz.f4 (OpenSpec.ofChange Rows.fnSliceProgramSpec) false w args)
   (Rows.fnSliceProgramSpec.post enc Tryz.prog Tryz.f4 false true false false):=by
 refine returnsInHanded_of_change_and (C:=Tryz.checked) (X:=fun w _=>laidMetH Tryz.prog L0 w) (fun _ _ _ hh h=>h.of_heap hh) Tryz.own started (by kernel_rfl) Tryz.func4
  (ChangeSpec.witness_shaped (enc:=enc) (C:=Tryz.checked) (os:=os) (X:=fun w _=>laidMetH Tryz.prog L0 w) false (World.doorLaid Tryz.prog 24 os) #[.slice none 0 0] 8 rfl (World.shaped_of_RefB (by kernel_rfl) (by kernel_rfl)) (by kernel_rfl) (by kernel_rfl) (by kernel_rfl) (NT os _)) ?_
 intro W base args ds gs before hval0 hW _ _ _ _
 have hval:∀ (j:Nat) t v,Tryz.f4.params[j]?=some t->args[j]?=some v->Value.okWide Tryz.prog W .any base t v:=hval0
 have hW':=hW
 obtain ⟨p,q,hA0,hV,hb,_,_⟩:=hW
 have hA:DataW.TrodAll enc Tryz.prog W 0 (fun _=>true) true Tryz.f4.params.toList args.toList ds p:=hA0
 have hA1:=hA
 rw [Tryz.params4] at hA1 hval
 obtain ⟨v0,d0,rfl,rfl,h0⟩:=trodAll_one hA1
 obtain ⟨n,hn⟩:=h0
 obtain rfl:=(trodVars_none (show DataW.TrodVars enc Tryz.prog W (fun _=>true) [] gs q from hV)).1
 obtain ⟨a,len,cap,rfl⟩:=okWide_slice (y5 dS).1 (hval 0 _ _ rfl rfl)
 obtain ⟨xs,hx⟩:=LH hn
 refine (Gv hx W (Inv.entry W)).mono fun e W' ⟨he,hI⟩=>?_
 subst he
 exact ⟨_,rfl,MX hW' hA hV hb rfl (by rw [Tryz.params4]; decide +kernel) (by kernel_rfl) rfl rfl rfl hI⟩

theorem bP {a b:Bool} (ha:a=true) (hb:b=true):(a && b)=true:=by rw [ha,hb]; rfl
theorem R1:Rows.fnSliceProgramRow.wf (OpenSpec.ofChange Rows.fnSliceProgramSpec)=true:=by kernel_rfl
theorem R3:laidOutB Tryz.checked.prog=true:=by kernel_rfl
theorem Rx:mapsRowed Tryz.checked.prog=true:=by kernel_rfl
theorem RM:Tryz.f4.params.all (Tryz.checked.prog.readableRec ·)=true:=by kernel_rfl
theorem Rz:namedTie Tryz.checked.prog Rows.fnSliceProgramRow.named Rows.fnSliceProgramSpec.vars=true:=by kernel_rfl
theorem RN:(Rows.fnSliceProgramRow.stops == [])=true:=by kernel_rfl
theorem Rs:(Tryz.checked.prog.stops == [])=true:=by kernel_rfl
theorem RE:(Rows.fnSliceProgramRow.knobs == [])=true:=by kernel_rfl
theorem Rw:(Tryz.checked.prog.stopKnobs == [])=true:=by kernel_rfl
theorem R7:(Rows.fnSliceProgramRow.inPlace == Tryz.checked.prog.inPlace cc)=true:=by kernel_rfl
theorem Qc:(Rows.fnSliceProgramRow.unfollowed == Tryz.checked.prog.unfollowed cc)=true:=by kernel_rfl
theorem P9:(Rows.fnSliceProgramRow.recurses == Tryz.checked.prog.recurses cc)=true:=by kernel_rfl
theorem QC:(Rows.fnSliceProgramRow.named == Tryz.checked.prog.varsNamed cc)=true:=by kernel_rfl
theorem PU:(Rows.fnSliceProgramRow.maps == (Tryz.f4.params.toList++Rows.fnSliceProgramSpec.plain.varTypes Tryz.checked.prog).any (Tryz.checked.prog.mapsRec ·))=true:=by kernel_rfl
theorem PY:(Rows.fnSliceProgramRow.ifaces == (Tryz.f4.params.toList++Rows.fnSliceProgramSpec.plain.varTypes Tryz.checked.prog).any (Tryz.checked.prog.ifacesRec ·))=true:=by kernel_rfl
theorem Qd:(Rows.fnSliceProgramRow.mapsOut == Tryz.checked.prog.mapsAmong Tryz.f4.resultTypes.toList)=true:=by kernel_rfl
theorem QO:(Rows.fnSliceProgramRow.loops == (Tryz.f4.params.toList++Rows.fnSliceProgramSpec.plain.varTypes Tryz.checked.prog).any (Tryz.checked.prog.loopsFrom ·))=true:=by kernel_rfl
theorem P7:(Rows.fnSliceProgramRow.wideKeys == (Tryz.f4.params.toList++Rows.fnSliceProgramSpec.plain.varTypes Tryz.checked.prog++Tryz.f4.resultTypes.toList).any (Tryz.checked.prog.wideKeysFrom ·))=true:=by kernel_rfl
theorem Qb:Rows.fnSliceProgramSpec.vars.all (Tryz.checked.prog.varReadable ·)=true:=by kernel_rfl
theorem QF:Tryz.f4.resultTypes.all (fun t=>Tryz.checked.prog.readableRec t && decide (t<Tryz.checked.prog.types.size))=true:=by kernel_rfl
theorem QP:(Rows.fnSliceProgramRow.ifacesOut == Tryz.f4.resultTypes.toList.any (Tryz.checked.prog.ifacesRec ·))=true:=by kernel_rfl
theorem Qa:(Rows.fnSliceProgramRow.loopsOut == Tryz.f4.resultTypes.toList.any (Tryz.checked.prog.loopsFrom ·))=true:=by kernel_rfl
theorem Qm:(Rows.fnSliceProgramRow.plainKeys == Tryz.checked.prog.plainKeys)=true:=by kernel_rfl
theorem P4:Rows.fnSliceProgramRow.shortTexts.isNone=true:=by kernel_rfl
theorem Qw:Tryz.checked.prog.stopsHeard=true:=by kernel_rfl
theorem Qs:Tryz.checked.prog.mayEnter=true:=by kernel_rfl
theorem QQ:(Rows.fnSliceProgramRow.lifted == Tryz.checked.prog.liftsFinal)=true:=by kernel_rfl
theorem QS:(Tryz.checked.prog.make == some Rows.fnSliceProgramRow.make)=true:=by kernel_rfl
theorem QA:(Rows.fnSliceProgramRow.kinds == (if Rows.fnSliceProgramRow.domain.isEmpty then [] else Tryz.f4.params.toList.map fun t=>match Tryz.checked.prog.underlying t with|some (.int k)=>some k|_=>none))=true:=by kernel_rfl
theorem Qk:(Rows.fnSliceProgramRow.pinned == Rows.fnSliceProgramRow.pinnedBy)=true:=by kernel_rfl
theorem Qx:(Rows.fnSliceProgramRow.veiled == (Tryz.f4.params.toList++Rows.fnSliceProgramSpec.plain.varTypes Tryz.checked.prog++Tryz.f4.resultTypes.toList).any (Tryz.checked.prog.veiledRec ·))=true:=by kernel_rfl
theorem Qo:Rows.fnSliceProgramRow.veiledFits Tryz.checked.prog Tryz.f4.params.toList (Tryz.f4.params.toList++Rows.fnSliceProgramSpec.plain.varTypes Tryz.checked.prog++Tryz.f4.resultTypes.toList)=true:=by kernel_rfl
set_option maxRecDepth 100000 in
theorem JX:joinedFacts Tryz.checked.prog cc Tryz.f4 Rows.fnSliceProgramSpec Rows.fnSliceProgramRow=true:=by
 unfold joinedFacts
 exact bP (bP (bP (bP (bP (bP (bP (bP (bP (bP (bP (bP (bP (bP (bP (bP (bP (bP (bP (bP (bP (bP (bP (bP (bP (bP (bP (bP (bP (bP (bP R1 R3) Rx) RM) Rz) RN) Rs) RE) Rw) R7) Qc) P9) QC) PU) PY) Qd) QO) P7) Qb) QF) QP) Qa) Qm) P4) Qw) Qs) QQ) QS) QA) Qk) Qx) Qo
theorem pSl_named:Tryz.checked.prog.funcNamed Rows.fnSliceProgramRow.func=some cc:=by kernel_rfl
theorem O8:Tryz.f4.isInstance Tryz.checked.prog Rows.fnSliceProgramRow.origin Rows.fnSliceProgramRow.targs:=of_decide_eq_true (by kernel_rfl)
theorem Ot:Tryz.f4.isWrapper Tryz.checked.prog Rows.fnSliceProgramRow.wrapper Rows.fnSliceProgramRow.mainSum:=by unfold Func.isWrapper; first|(rw [ai (by decide +kernel)]; kernel_rfl)|(rw [af (by decide +kernel)]; exact ⟨rfl,rfl⟩)
theorem pSl_holds:Rows.FnSliceProgramSaid:=
 OpenClaim.holds_of_wide cc Tryz.f4 rfl rfl rfl rfl rfl rfl rfl ⟨rfl,rfl,rfl,rfl,rfl⟩ rfl rfl rfl rfl rfl pSl_named Tryz.func4 JX O8 Ot
  (fun os started H enc _=>KU os started H enc)


theorem pSl_card:Rows.FnSliceProgramCardSaid:=
 Claim7.holds_tied_plain_at .later [] [.data,.data,.data] true Rows.fnSliceProgramCard.stood.harness Rows.fnSliceProgramCard.stood.looks
  pSl_holds (fun _ h=>by cases h) (by kernel_rfl) (fun _ h=>by cases h) fnSliceProgram_row_tie rfl ⟨rfl,rfl⟩ (by kernel_rfl) rfl
  (fun f fn hf hfn=>by
   obtain rfl:f=cc:=Bc (pSl_named.symm.trans hf) |>.symm
   obtain rfl:fn=Tryz.f4:=(Bc (Tryz.func4.symm.trans hfn)).symm
   exact ⟨by kernel_rfl,fun j t ht=>by
    have hall:(Tryz.f4.params.all fun u=>!Tryz.prog.wantsStandIn u)=true:=by kernel_rfl
    rw [Array.all_eq_true_iff_forall_mem] at hall
    exact (show Tryz.prog.wantsStandIn t=false by simpa using hall t (Array.mem_of_getElem? ht))⟩)
  (by kernel_rfl)

#print axioms pSl_card
end Go.Proofs.YtcpgagfdeflbkaaGreatDoor
