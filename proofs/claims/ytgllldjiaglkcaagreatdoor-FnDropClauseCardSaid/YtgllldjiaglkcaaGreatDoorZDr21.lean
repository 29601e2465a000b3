/- FnDropClause returns true, whatever bytes come in, and leaves its argument as it was; the tables of the library lie as the program's text lays them (tied). -/
import Derived.Test.YtgllldjiaglkcaaGreatDoorZDr20
import Derived.Test.YtgllldjiaglkcaaGreatDoorCards
import Derived.SevenTiedAt
import Derived.ChangeVars
import Derived.JoinedOf
import Derived.RowKit
import Derived.OpenShut
namespace Go.Proofs.YtgllldjiaglkcaaGreatDoor
open Go Go.ChangeShapes Go.WideShapes Go.ChangeAt Go.RowKit

set_option maxRecDepth 100000 in
theorem Ix (os:Os) (started:os.Started) (H:Type) (enc:TypeId × Value->H) :
  ReturnsInHanded {} Tryz.checked os bQ .any (fun w args=>(Rows.fnDropClauseSpec.pre enc Tryz.prog Tryz.f3 [] false w args/\laidMetH Tryz.prog JV w)/\sizedMet enc Tryz.prog Tryz.f3 (OpenSpec.ofChange Rows.fnDropClauseSpec) false w args)
   (Rows.fnDropClauseSpec.post enc Tryz.prog Tryz.f3 false true false false):=by
 refine returnsInHanded_of_change_and (C:=Tryz.checked) (X:=fun w _=>laidMetH Tryz.prog JV w) (fun _ _ _ hh h=>h.of_heap hh) Tryz.own started (by kernel_rfl) Tryz.func3
  (ChangeSpec.witness_shaped (enc:=enc) (C:=Tryz.checked) (os:=os) (X:=fun w _=>laidMetH Tryz.prog JV w) false (World.doorLaid Tryz.prog 24 os) #[.slice none 0 0,.slice none 0 0] 8 rfl (World.shaped_of_RefB (by kernel_rfl) (by kernel_rfl)) (by kernel_rfl) (by kernel_rfl) (by kernel_rfl) (Mo os _)) ?_
 intro W base args ds gs before hval0 hW _ _ _ _
 have hval:∀ (j:Nat) t v,Tryz.f3.params[j]?=some t->args[j]?=some v->Value.okWide Tryz.prog W .any base t v:=hval0
 have hW':=hW
 obtain ⟨p,q,hA0,hV,hb,_,_⟩:=hW
 have hA:DataW.TrodAll enc Tryz.prog W 0 (fun _=>true) true Tryz.f3.params.toList args.toList ds p:=hA0
 have hA1:=hA
 rw [Tryz.params3] at hA1 hval
 obtain ⟨v0,v1,d0,d1,p0,p1,rfl,rfl,_,h0,h1⟩:=trodAll_two hA1
 obtain ⟨n,hn⟩:=h0
 obtain ⟨n1,hn1⟩:=h1
 obtain rfl:=(trodVars_none (show DataW.TrodVars enc Tryz.prog W (fun _=>true) [] gs q from hV)).1
 obtain ⟨a,len,cap,rfl⟩:=okWide_slice (ou cM).1 (hval 0 _ _ rfl rfl)
 obtain ⟨xs,hx⟩:=Ar hn
 obtain ⟨a1,len1,cap1,rfl⟩:=okWide_slice (ou cM).1 (hval 1 _ _ rfl rfl)
 obtain ⟨xs1,hx1⟩:=Ar hn1
 refine (z8 hx hx1 W (Inv.entry W)).mono fun e W' ⟨he,hI⟩=>?_
 subst he
 exact ⟨_,rfl,Kc hW' hA hV hb rfl (by rw [Tryz.params3]; decide +kernel) (by kernel_rfl) rfl rfl rfl hI⟩

theorem bC {a b:Bool} (ha:a=true) (hb:b=true):(a && b)=true:=by rw [ha,hb]; rfl
theorem Py:Rows.fnDropClauseRow.wf (OpenSpec.ofChange Rows.fnDropClauseSpec)=true:=by kernel_rfl
theorem PR:laidOutB Tryz.checked.prog=true:=by kernel_rfl
theorem PH:mapsRowed Tryz.checked.prog=true:=by kernel_rfl
theorem Pl:Tryz.f3.params.all (Tryz.checked.prog.readableRec ·)=true:=by kernel_rfl
theorem O7:namedTie Tryz.checked.prog Rows.fnDropClauseRow.named Rows.fnDropClauseSpec.vars=true:=by kernel_rfl
theorem Pb:(Rows.fnDropClauseRow.stops == [])=true:=by kernel_rfl
theorem Pm:(Tryz.checked.prog.stops == [])=true:=by kernel_rfl
theorem Pt:(Rows.fnDropClauseRow.knobs == [])=true:=by kernel_rfl
theorem O6:(Tryz.checked.prog.stopKnobs == [])=true:=by kernel_rfl
theorem PK:(Rows.fnDropClauseRow.inPlace == Tryz.checked.prog.inPlace bQ)=true:=by kernel_rfl
theorem NZ:(Rows.fnDropClauseRow.unfollowed == Tryz.checked.prog.unfollowed bQ)=true:=by kernel_rfl
theorem Nv:(Rows.fnDropClauseRow.recurses == Tryz.checked.prog.recurses bQ)=true:=by kernel_rfl
theorem Oh:(Rows.fnDropClauseRow.named == Tryz.checked.prog.varsNamed bQ)=true:=by kernel_rfl
theorem N6:(Rows.fnDropClauseRow.maps == (Tryz.f3.params.toList++Rows.fnDropClauseSpec.plain.varTypes Tryz.checked.prog).any (Tryz.checked.prog.mapsRec ·))=true:=by kernel_rfl
theorem MX:(Rows.fnDropClauseRow.ifaces == (Tryz.f3.params.toList++Rows.fnDropClauseSpec.plain.varTypes Tryz.checked.prog).any (Tryz.checked.prog.ifacesRec ·))=true:=by kernel_rfl
theorem N4:(Rows.fnDropClauseRow.mapsOut == Tryz.checked.prog.mapsAmong Tryz.f3.resultTypes.toList)=true:=by kernel_rfl
theorem Ob:(Rows.fnDropClauseRow.loops == (Tryz.f3.params.toList++Rows.fnDropClauseSpec.plain.varTypes Tryz.checked.prog).any (Tryz.checked.prog.loopsFrom ·))=true:=by kernel_rfl
theorem ND:(Rows.fnDropClauseRow.wideKeys == (Tryz.f3.params.toList++Rows.fnDropClauseSpec.plain.varTypes Tryz.checked.prog++Tryz.f3.resultTypes.toList).any (Tryz.checked.prog.wideKeysFrom ·))=true:=by kernel_rfl
theorem Nb:Rows.fnDropClauseSpec.vars.all (Tryz.checked.prog.varReadable ·)=true:=by kernel_rfl
theorem NH:Tryz.f3.resultTypes.all (fun t=>Tryz.checked.prog.readableRec t && decide (t<Tryz.checked.prog.types.size))=true:=by kernel_rfl
theorem Na:(Rows.fnDropClauseRow.ifacesOut == Tryz.f3.resultTypes.toList.any (Tryz.checked.prog.ifacesRec ·))=true:=by kernel_rfl
theorem NO:(Rows.fnDropClauseRow.loopsOut == Tryz.f3.resultTypes.toList.any (Tryz.checked.prog.loopsFrom ·))=true:=by kernel_rfl
theorem Oa:(Rows.fnDropClauseRow.plainKeys == Tryz.checked.prog.plainKeys)=true:=by kernel_rfl
theorem NK:Rows.fnDropClauseRow.shortTexts.isNone=true:=by kernel_rfl
theorem N5:Tryz.checked.prog.stopsHeard=true:=by kernel_rfl
theorem N0:Tryz.checked.prog.mayEnter=true:=by kernel_rfl
theorem M8:(Rows.fnDropClauseRow.lifted == Tryz.checked.prog.liftsFinal)=true:=by kernel_rfl
theorem M6:(Tryz.checked.prog.make == some Rows.fnDropClauseRow.make)=true:=by kernel_rfl
theorem NQ:(Rows.fnDropClauseRow.kinds == (if Rows.fnDropClauseRow.domain.isEmpty then [] else Tryz.f3.params.toList.map fun t=>match Tryz.checked.prog.underlying t with|some (.int k)=>some k|_=>none))=true:=by kernel_rfl
theorem NN:(Rows.fnDropClauseRow.pinned == Rows.fnDropClauseRow.pinnedBy)=true:=by kernel_rfl
theorem Np:(Rows.fnDropClauseRow.veiled == (Tryz.f3.params.toList++Rows.fnDropClauseSpec.plain.varTypes Tryz.checked.prog++Tryz.f3.resultTypes.toList).any (Tryz.checked.prog.veiledRec ·))=true:=by kernel_rfl
theorem Ng:Rows.fnDropClauseRow.veiledFits Tryz.checked.prog Tryz.f3.params.toList (Tryz.f3.params.toList++Rows.fnDropClauseSpec.plain.varTypes Tryz.checked.prog++Tryz.f3.resultTypes.toList)=true:=by kernel_rfl
set_option maxRecDepth 100000 in
theorem HB:joinedFacts Tryz.checked.prog bQ Tryz.f3 Rows.fnDropClauseSpec Rows.fnDropClauseRow=true:=by
 unfold joinedFacts
 exact bC (bC (bC (bC (bC (bC (bC (bC (bC (bC (bC (bC (bC (bC (bC (bC (bC (bC (bC (bC (bC (bC (bC (bC (bC (bC (bC (bC (bC (bC (bC Py PR) PH) Pl) O7) Pb) Pm) Pt) O6) PK) NZ) Nv) Oh) N6) MX) N4) Ob) ND) Nb) NH) Na) NO) Oa) NK) N5) N0) M8) M6) NQ) NN) Np) Ng
theorem pDr_named:Tryz.checked.prog.funcNamed Rows.fnDropClauseRow.func=some bQ:=by kernel_rfl
theorem Lb:Tryz.f3.isInstance Tryz.checked.prog Rows.fnDropClauseRow.origin Rows.fnDropClauseRow.targs:=of_decide_eq_true (by kernel_rfl)
theorem Mz:Tryz.f3.isWrapper Tryz.checked.prog Rows.fnDropClauseRow.wrapper Rows.fnDropClauseRow.mainSum:=by unfold Func.isWrapper; first|(rw [if_pos (by decide +kernel)]; kernel_rfl)|(rw [if_neg (by decide +kernel)]; exact ⟨rfl,rfl⟩)
theorem pDr_holds:Rows.FnDropClauseSaid:=
 OpenClaim.holds_of_wide bQ Tryz.f3 rfl rfl rfl rfl rfl rfl rfl ⟨rfl,rfl,rfl,rfl,rfl⟩ rfl rfl rfl rfl rfl pDr_named Tryz.func3 HB Lb Mz
  (fun os started H enc _=>Ix os started H enc)


theorem pDr_card:Rows.FnDropClauseCardSaid:=
 Claim7.holds_tied_plain_at .later [] [.data,.data,.data] true Rows.fnDropClauseCard.stood.harness Rows.fnDropClauseCard.stood.looks
  pDr_holds (fun _ h=>by cases h) (by kernel_rfl) (fun _ h=>by cases h) fnDropClause_row_tie rfl ⟨rfl,rfl⟩ (by kernel_rfl) rfl
  (fun f fn hf hfn=>by
   obtain rfl:f=bQ:=Option.some.inj (pDr_named.symm.trans hf) |>.symm
   obtain rfl:fn=Tryz.f3:=(Option.some.inj (Tryz.func3.symm.trans hfn)).symm
   exact ⟨by kernel_rfl,fun j t ht=>by
    have hall:(Tryz.f3.params.all fun u=>!Tryz.prog.wantsStandIn u)=true:=by kernel_rfl
    rw [Array.all_eq_true_iff_forall_mem] at hall
    exact (show Tryz.prog.wantsStandIn t=false by simpa using hall t (Array.mem_of_getElem? ht))⟩)
  (by kernel_rfl)

#print axioms pDr_card
end Go.Proofs.YtgllldjiaglkcaaGreatDoor
