/- FnModelAnswers returns true, whatever bytes come in, and leaves its argument as it was; the tables of the library lie as the program's text lays them (tied). -/
import Derived.Test.YtgllldjiaglkcaaGreatDoorZMa25
import Derived.Test.YtgllldjiaglkcaaGreatDoorCards
import Derived.SevenTiedAt
import Derived.ChangeVars
import Derived.JoinedOf
import Derived.RowKit
import Derived.OpenShut
namespace Go.Proofs.YtgllldjiaglkcaaGreatDoor
open Go Go.ChangeShapes Go.WideShapes Go.ChangeAt Go.RowKit

set_option maxRecDepth 100000 in
theorem RL (os:Os) (started:os.Started) (H:Type) (enc:TypeId × Value->H) :
  ReturnsInHanded {} Tryz.checked os cO .any (fun w args=>(Rows.fnModelAnswersSpec.pre enc Tryz.prog Tryz.f6 [] false w args/\laidMetH Tryz.prog TW w)/\sizedMet enc Tryz.prog Tryz.f6 (OpenSpec.ofChange Rows.fnModelAnswersSpec) false w args)
   (Rows.fnModelAnswersSpec.post enc Tryz.prog Tryz.f6 false true false false):=by
 refine returnsInHanded_of_change_and (C:=Tryz.checked) (X:=fun w _=>laidMetH Tryz.prog TW w) (fun _ _ _ hh h=>h.of_heap hh) Tryz.own started (by kernel_rfl) Tryz.func6
  (ChangeSpec.witness_shaped (enc:=enc) (C:=Tryz.checked) (os:=os) (X:=fun w _=>laidMetH Tryz.prog TW w) false (World.doorLaid Tryz.prog 24 os) #[.slice none 0 0,.slice none 0 0] 8 rfl (World.shaped_of_RefB (by kernel_rfl) (by kernel_rfl)) (by kernel_rfl) (by kernel_rfl) (by kernel_rfl) (Yo os _)) ?_
 intro W base args ds gs before hval0 hW _ _ _ _
 have hval:∀ (j:Nat) t v,Tryz.f6.params[j]?=some t->args[j]?=some v->Value.okWide Tryz.prog W .any base t v:=hval0
 have hW':=hW
 obtain ⟨p,q,hA0,hV,hb,_,_⟩:=hW
 have hA:DataW.TrodAll enc Tryz.prog W 0 (fun _=>true) true Tryz.f6.params.toList args.toList ds p:=hA0
 have hA1:=hA
 rw [Tryz.params6] at hA1 hval
 obtain ⟨v0,v1,d0,d1,p0,p1,rfl,rfl,_,h0,h1⟩:=trodAll_two hA1
 obtain ⟨n,hn⟩:=h0
 obtain ⟨n1,hn1⟩:=h1
 obtain rfl:=(trodVars_none (show DataW.TrodVars enc Tryz.prog W (fun _=>true) [] gs q from hV)).1
 obtain ⟨a,len,cap,rfl⟩:=okWide_slice (uy ec).1 (hval 0 _ _ rfl rfl)
 obtain ⟨xs,hx⟩:=Ft hn
 obtain ⟨a1,len1,cap1,rfl⟩:=okWide_slice (uy ec).1 (hval 1 _ _ rfl rfl)
 obtain ⟨xs1,hx1⟩:=Ft hn1
 refine (HX hx hx1 W (Inv.entry W)).mono fun e W' ⟨he,hI⟩=>?_
 subst he
 exact ⟨_,rfl,Vz hW' hA hV hb rfl (by rw [Tryz.params6]; decide +kernel) (by kernel_rfl) rfl rfl rfl hI⟩

theorem cB {a b:Bool} (ha:a=true) (hb:b=true):(a && b)=true:=by rw [ha,hb]; rfl
theorem aav:Rows.fnModelAnswersRow.wf (OpenSpec.ofChange Rows.fnModelAnswersSpec)=true:=by kernel_rfl
theorem abi:laidOutB Tryz.checked.prog=true:=by kernel_rfl
theorem aa3:mapsRowed Tryz.checked.prog=true:=by kernel_rfl
theorem aaU:Tryz.f6.params.all (Tryz.checked.prog.readableRec ·)=true:=by kernel_rfl
theorem aaW:namedTie Tryz.checked.prog Rows.fnModelAnswersRow.named Rows.fnModelAnswersSpec.vars=true:=by kernel_rfl
theorem aa4:(Rows.fnModelAnswersRow.stops == [])=true:=by kernel_rfl
theorem aay:(Tryz.checked.prog.stops == [])=true:=by kernel_rfl
theorem aa7:(Rows.fnModelAnswersRow.knobs == [])=true:=by kernel_rfl
theorem aaH:(Tryz.checked.prog.stopKnobs == [])=true:=by kernel_rfl
theorem aaY:(Rows.fnModelAnswersRow.inPlace == Tryz.checked.prog.inPlace cO)=true:=by kernel_rfl
theorem Zj:(Rows.fnModelAnswersRow.unfollowed == Tryz.checked.prog.unfollowed cO)=true:=by kernel_rfl
theorem Zu:(Rows.fnModelAnswersRow.recurses == Tryz.checked.prog.recurses cO)=true:=by kernel_rfl
theorem Y5:(Rows.fnModelAnswersRow.named == Tryz.checked.prog.varsNamed cO)=true:=by kernel_rfl
theorem ZE:(Rows.fnModelAnswersRow.maps == (Tryz.f6.params.toList++Rows.fnModelAnswersSpec.plain.varTypes Tryz.checked.prog).any (Tryz.checked.prog.mapsRec ·))=true:=by kernel_rfl
theorem Zw:(Rows.fnModelAnswersRow.ifaces == (Tryz.f6.params.toList++Rows.fnModelAnswersSpec.plain.varTypes Tryz.checked.prog).any (Tryz.checked.prog.ifacesRec ·))=true:=by kernel_rfl
theorem YZ:(Rows.fnModelAnswersRow.mapsOut == Tryz.checked.prog.mapsAmong Tryz.f6.resultTypes.toList)=true:=by kernel_rfl
theorem Zb:(Rows.fnModelAnswersRow.loops == (Tryz.f6.params.toList++Rows.fnModelAnswersSpec.plain.varTypes Tryz.checked.prog).any (Tryz.checked.prog.loopsFrom ·))=true:=by kernel_rfl
theorem Za:(Rows.fnModelAnswersRow.wideKeys == (Tryz.f6.params.toList++Rows.fnModelAnswersSpec.plain.varTypes Tryz.checked.prog++Tryz.f6.resultTypes.toList).any (Tryz.checked.prog.wideKeysFrom ·))=true:=by kernel_rfl
theorem Y1:Rows.fnModelAnswersSpec.vars.all (Tryz.checked.prog.varReadable ·)=true:=by kernel_rfl
theorem ZK:Tryz.f6.resultTypes.all (fun t=>Tryz.checked.prog.readableRec t && decide (t<Tryz.checked.prog.types.size))=true:=by kernel_rfl
theorem ZL:(Rows.fnModelAnswersRow.ifacesOut == Tryz.f6.resultTypes.toList.any (Tryz.checked.prog.ifacesRec ·))=true:=by kernel_rfl
theorem Zr:(Rows.fnModelAnswersRow.loopsOut == Tryz.f6.resultTypes.toList.any (Tryz.checked.prog.loopsFrom ·))=true:=by kernel_rfl
theorem Zs:(Rows.fnModelAnswersRow.plainKeys == Tryz.checked.prog.plainKeys)=true:=by kernel_rfl
theorem Zx:Rows.fnModelAnswersRow.shortTexts.isNone=true:=by kernel_rfl
theorem Zp:Tryz.checked.prog.stopsHeard=true:=by kernel_rfl
theorem Zk:Tryz.checked.prog.mayEnter=true:=by kernel_rfl
theorem YD:(Rows.fnModelAnswersRow.lifted == Tryz.checked.prog.liftsFinal)=true:=by kernel_rfl
theorem ZU:(Tryz.checked.prog.make == some Rows.fnModelAnswersRow.make)=true:=by kernel_rfl
theorem Ze:(Rows.fnModelAnswersRow.kinds == (if Rows.fnModelAnswersRow.domain.isEmpty then [] else Tryz.f6.params.toList.map fun t=>match Tryz.checked.prog.underlying t with|some (.int k)=>some k|_=>none))=true:=by kernel_rfl
theorem Zn:(Rows.fnModelAnswersRow.pinned == Rows.fnModelAnswersRow.pinnedBy)=true:=by kernel_rfl
theorem Zl:(Rows.fnModelAnswersRow.veiled == (Tryz.f6.params.toList++Rows.fnModelAnswersSpec.plain.varTypes Tryz.checked.prog++Tryz.f6.resultTypes.toList).any (Tryz.checked.prog.veiledRec ·))=true:=by kernel_rfl
theorem Zo:Rows.fnModelAnswersRow.veiledFits Tryz.checked.prog Tryz.f6.params.toList (Tryz.f6.params.toList++Rows.fnModelAnswersSpec.plain.varTypes Tryz.checked.prog++Tryz.f6.resultTypes.toList)=true:=by kernel_rfl
set_option maxRecDepth 100000 in
theorem Ry:joinedFacts Tryz.checked.prog cO Tryz.f6 Rows.fnModelAnswersSpec Rows.fnModelAnswersRow=true:=by
 unfold joinedFacts
 exact cB (cB (cB (cB (cB (cB (cB (cB (cB (cB (cB (cB (cB (cB (cB (cB (cB (cB (cB (cB (cB (cB (cB (cB (cB (cB (cB (cB (cB (cB (cB aav abi) aa3) aaU) aaW) aa4) aay) aa7) aaH) aaY) Zj) Zu) Y5) ZE) Zw) YZ) Zb) Za) Y1) ZK) ZL) Zr) Zs) Zx) Zp) Zk) YD) ZU) Ze) Zn) Zl) Zo
theorem pMa_named:Tryz.checked.prog.funcNamed Rows.fnModelAnswersRow.func=some cO:=by kernel_rfl
theorem Wg:Tryz.f6.isInstance Tryz.checked.prog Rows.fnModelAnswersRow.origin Rows.fnModelAnswersRow.targs:=of_decide_eq_true (by kernel_rfl)
theorem XO:Tryz.f6.isWrapper Tryz.checked.prog Rows.fnModelAnswersRow.wrapper Rows.fnModelAnswersRow.mainSum:=by unfold Func.isWrapper; first|(rw [ai (by decide +kernel)]; kernel_rfl)|(rw [ah (by decide +kernel)]; exact ⟨rfl,rfl⟩)
theorem pMa_holds:Rows.FnModelAnswersSaid:=
 OpenClaim.holds_of_wide cO Tryz.f6 rfl rfl rfl rfl rfl rfl rfl ⟨rfl,rfl,rfl,rfl,rfl⟩ rfl rfl rfl rfl rfl pMa_named Tryz.func6 Ry Wg XO
  (fun os started H enc _=>RL os started H enc)


theorem pMa_card:Rows.FnModelAnswersCardSaid:=
 Claim7.holds_tied_plain_at .later [] [.data,.data,.data] true Rows.fnModelAnswersCard.stood.harness Rows.fnModelAnswersCard.stood.looks
  pMa_holds (fun _ h=>by cases h) (by kernel_rfl) (fun _ h=>by cases h) fnModelAnswers_row_tie rfl ⟨rfl,rfl⟩ (by kernel_rfl) rfl
  (fun f fn hf hfn=>by
   obtain rfl:f=cO:=HB (pMa_named.symm.trans hf) |>.symm
   obtain rfl:fn=Tryz.f6:=(HB (Tryz.func6.symm.trans hfn)).symm
   exact ⟨by kernel_rfl,fun j t ht=>by
    have hall:(Tryz.f6.params.all fun u=>!Tryz.prog.wantsStandIn u)=true:=by kernel_rfl
    rw [Array.all_eq_true_iff_forall_mem] at hall
    exact (show Tryz.prog.wantsStandIn t=false by simpa using hall t (Array.mem_of_getElem? ht))⟩)
  (by kernel_rfl)

#print axioms pMa_card
end Go.Proofs.YtgllldjiaglkcaaGreatDoor
