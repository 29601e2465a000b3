/- FnExactFormatProof returns true, whatever proof comes in, and leaves its argument as it was; the tables of the library lie as the program's text lays them (tied). -/
import Derived.Test.YtbocelianhcfmaaGreatDoorZEf3
import Derived.Test.YtbocelianhcfmaaGreatDoorCards
import Derived.SevenTiedAt
import Derived.ChangeVars
import Derived.JoinedOf
import Derived.RowKit
import Derived.OpenShut
namespace Go.Proofs.YtbocelianhcfmaaGreatDoor
open Go Go.ChangeShapes Go.WideShapes Go.ChangeAt Go.RowKit

theorem l7:Tryz.prog.underlying dI=some (.struct (Tryz.prog.fieldsOf dI)):=by kernel_rfl
set_option maxRecDepth 100000 in
theorem pP (os:Os) (started:os.Started) (H:Type) (enc:TypeId × Value->H) :
  ReturnsInHanded {} Tryz.checked os au .any (fun w args=>(Rows.fnExactFormatProofSpec.pre enc Tryz.prog Tryz.f3 [] false w args/\laidMetH Tryz.prog px w)/\sizedMet enc Tryz.prog Tryz.f3 (OpenSpec.ofChange Rows.fnExactFormatProofSpec) false w args)
   (Rows.fnExactFormatProofSpec.post enc Tryz.prog Tryz.f3 false true false false):=by
 refine returnsInHanded_of_change_and (C:=Tryz.checked) (X:=fun w _=>laidMetH Tryz.prog px w) (fun _ _ _ hh h=>h.of_heap hh) Tryz.own started (by kernel_rfl) Tryz.func3
  (ChangeSpec.witness_shaped (enc:=enc) (C:=Tryz.checked) (os:=os) (X:=fun w _=>laidMetH Tryz.prog px w) false (World.doorLaid Tryz.prog 24 os) #[.agg #[.int .i64 0,.int .i64 0,.string ⟨#[]⟩,.slice none 0 0,.int .i64 0,.slice none 0 0]] 8 rfl (World.shaped_of_RefB (by kernel_rfl) (by kernel_rfl)) (by kernel_rfl) (by kernel_rfl) (by kernel_rfl) (sb os _)) ?_
 intro W base args ds gs before hval0 hW _ _ hL _
 have hval:∀ (j:Nat) t v,Tryz.f3.params[j]?=some t->args[j]?=some v->Value.okWide Tryz.prog W .any base t v:=hval0
 have hW':=hW
 obtain ⟨p,q,hA0,hV,hb,_,_⟩:=hW
 have hA:DataW.TrodAll enc Tryz.prog W 0 (fun _=>true) true Tryz.f3.params.toList args.toList ds p:=hA0
 have hA1:=hA
 rw [Tryz.params3] at hA1 hval
 obtain ⟨v0,d0,rfl,rfl,h0⟩:=trodAll_one hA1
 obtain ⟨n,hn⟩:=h0
 obtain rfl:=(trodVars_none (show DataW.TrodVars enc Tryz.prog W (fun _=>true) [] gs q from hV)).1
 have hT:=pm hL
 obtain ⟨cs,rfl,_⟩:=okWide_struct l7 (hval 0 _ _ rfl rfl)
 obtain ⟨y,hx⟩:=pS _ cs.toList _ hn
 refine (n9 hT hx W (Inv.entry W)).mono fun e W' ⟨he,hI⟩=>?_
 subst he
 exact ⟨_,rfl,rp hW' hA hV hb rfl (by rw [Tryz.params3]; decide +kernel) (by kernel_rfl) rfl rfl rfl hI⟩

theorem aA {a b:Bool} (ha:a=true) (hb:b=true):(a && b)=true:=by rw [ha,hb]; rfl
theorem uD:Rows.fnExactFormatProofRow.wf (OpenSpec.ofChange Rows.fnExactFormatProofSpec)=true:=by kernel_rfl
theorem uo:laidOutB Tryz.checked.prog=true:=by kernel_rfl
theorem uC:mapsRowed Tryz.checked.prog=true:=by kernel_rfl
theorem uG:Tryz.f3.params.all (Tryz.checked.prog.readableRec ·)=true:=by kernel_rfl
theorem uI:namedTie Tryz.checked.prog Rows.fnExactFormatProofRow.named Rows.fnExactFormatProofSpec.vars=true:=by kernel_rfl
theorem uE:(Rows.fnExactFormatProofRow.stops == [])=true:=by kernel_rfl
theorem uv:(Tryz.checked.prog.stops == [])=true:=by kernel_rfl
theorem uu:(Rows.fnExactFormatProofRow.knobs == [])=true:=by kernel_rfl
theorem uy:(Tryz.checked.prog.stopKnobs == [])=true:=by kernel_rfl
theorem um:(Rows.fnExactFormatProofRow.inPlace == Tryz.checked.prog.inPlace au)=true:=by kernel_rfl
theorem tN:(Rows.fnExactFormatProofRow.unfollowed == Tryz.checked.prog.unfollowed au)=true:=by kernel_rfl
theorem tv:(Rows.fnExactFormatProofRow.recurses == Tryz.checked.prog.recurses au)=true:=by kernel_rfl
theorem tI:(Rows.fnExactFormatProofRow.named == Tryz.checked.prog.varsNamed au)=true:=by kernel_rfl
theorem tP:(Rows.fnExactFormatProofRow.maps == (Tryz.f3.params.toList++Rows.fnExactFormatProofSpec.plain.varTypes Tryz.checked.prog).any (Tryz.checked.prog.mapsRec ·))=true:=by kernel_rfl
theorem tq:(Rows.fnExactFormatProofRow.ifaces == (Tryz.f3.params.toList++Rows.fnExactFormatProofSpec.plain.varTypes Tryz.checked.prog).any (Tryz.checked.prog.ifacesRec ·))=true:=by kernel_rfl
theorem tJ:(Rows.fnExactFormatProofRow.mapsOut == Tryz.checked.prog.mapsAmong Tryz.f3.resultTypes.toList)=true:=by kernel_rfl
theorem tn:(Rows.fnExactFormatProofRow.loops == (Tryz.f3.params.toList++Rows.fnExactFormatProofSpec.plain.varTypes Tryz.checked.prog).any (Tryz.checked.prog.loopsFrom ·))=true:=by kernel_rfl
theorem ti:(Rows.fnExactFormatProofRow.wideKeys == (Tryz.f3.params.toList++Rows.fnExactFormatProofSpec.plain.varTypes Tryz.checked.prog++Tryz.f3.resultTypes.toList).any (Tryz.checked.prog.wideKeysFrom ·))=true:=by kernel_rfl
theorem tM:Rows.fnExactFormatProofSpec.vars.all (Tryz.checked.prog.varReadable ·)=true:=by kernel_rfl
theorem tE:Tryz.f3.resultTypes.all (fun t=>Tryz.checked.prog.readableRec t && decide (t<Tryz.checked.prog.types.size))=true:=by kernel_rfl
theorem te:(Rows.fnExactFormatProofRow.ifacesOut == Tryz.f3.resultTypes.toList.any (Tryz.checked.prog.ifacesRec ·))=true:=by kernel_rfl
theorem tp:(Rows.fnExactFormatProofRow.loopsOut == Tryz.f3.resultTypes.toList.any (Tryz.checked.prog.loopsFrom ·))=true:=by kernel_rfl
theorem tj:(Rows.fnExactFormatProofRow.plainKeys == Tryz.checked.prog.plainKeys)=true:=by kernel_rfl
theorem tG:Rows.fnExactFormatProofRow.shortTexts.isNone=true:=by kernel_rfl
theorem tT:Tryz.checked.prog.stopsHeard=true:=by kernel_rfl
theorem tK:Tryz.checked.prog.mayEnter=true:=by kernel_rfl
theorem tO:(Rows.fnExactFormatProofRow.lifted == Tryz.checked.prog.liftsFinal)=true:=by kernel_rfl
theorem tF:(Tryz.checked.prog.make == some Rows.fnExactFormatProofRow.make)=true:=by kernel_rfl
theorem tB:(Rows.fnExactFormatProofRow.kinds == (if Rows.fnExactFormatProofRow.domain.isEmpty then [] else Tryz.f3.params.toList.map fun t=>match Tryz.checked.prog.underlying t with|some (.int k)=>some k|_=>none))=true:=by kernel_rfl
theorem tL:(Rows.fnExactFormatProofRow.pinned == Rows.fnExactFormatProofRow.pinnedBy)=true:=by kernel_rfl
theorem tg:(Rows.fnExactFormatProofRow.veiled == (Tryz.f3.params.toList++Rows.fnExactFormatProofSpec.plain.varTypes Tryz.checked.prog++Tryz.f3.resultTypes.toList).any (Tryz.checked.prog.veiledRec ·))=true:=by kernel_rfl
theorem tu:Rows.fnExactFormatProofRow.veiledFits Tryz.checked.prog Tryz.f3.params.toList (Tryz.f3.params.toList++Rows.fnExactFormatProofSpec.plain.varTypes Tryz.checked.prog++Tryz.f3.resultTypes.toList)=true:=by kernel_rfl
set_option maxRecDepth 100000 in
theorem pX:joinedFacts Tryz.checked.prog au Tryz.f3 Rows.fnExactFormatProofSpec Rows.fnExactFormatProofRow=true:=by
 unfold joinedFacts
 exact aA (aA (aA (aA (aA (aA (aA (aA (aA (aA (aA (aA (aA (aA (aA (aA (aA (aA (aA (aA (aA (aA (aA (aA (aA (aA (aA (aA (aA (aA (aA uD uo) uC) uG) uI) uE) uv) uu) uy) um) tN) tv) tI) tP) tq) tJ) tn) ti) tM) tE) te) tp) tj) tG) tT) tK) tO) tF) tB) tL) tg) tu
theorem fmt_named:Tryz.checked.prog.funcNamed Rows.fnExactFormatProofRow.func=some au:=by kernel_rfl
theorem sa:Tryz.f3.isInstance Tryz.checked.prog Rows.fnExactFormatProofRow.origin Rows.fnExactFormatProofRow.targs:=of_decide_eq_true (by kernel_rfl)
theorem sz:Tryz.f3.isWrapper Tryz.checked.prog Rows.fnExactFormatProofRow.wrapper Rows.fnExactFormatProofRow.mainSum:=by unfold Func.isWrapper; first|(rw [if_pos (by decide +kernel)]; kernel_rfl)|(rw [if_neg (by decide +kernel)]; exact ⟨rfl,rfl⟩)
theorem fmt_holds:Rows.FnExactFormatProofSaid:=
 OpenClaim.holds_of_wide au Tryz.f3 rfl rfl rfl rfl rfl rfl rfl ⟨rfl,rfl,rfl,rfl,rfl⟩ rfl rfl rfl rfl rfl fmt_named Tryz.func3 pX sa sz
  (fun os started H enc _=>pP os started H enc)


theorem fmt_card:Rows.FnExactFormatProofCardSaid:=
 Claim7.holds_tied_plain_at .later [] [.data,.data,.data] true Rows.fnExactFormatProofCard.stood.harness Rows.fnExactFormatProofCard.stood.looks
  fmt_holds (fun _ h=>by cases h) (by kernel_rfl) (fun _ h=>by cases h) fnExactFormatProof_row_tie rfl ⟨rfl,rfl⟩ (by kernel_rfl) rfl
  (fun f fn hf hfn=>by
   obtain rfl:f=au:=Option.some.inj (fmt_named.symm.trans hf) |>.symm
   obtain rfl:fn=Tryz.f3:=(Option.some.inj (Tryz.func3.symm.trans hfn)).symm
   exact ⟨by kernel_rfl,fun j t ht=>by
    have hall:(Tryz.f3.params.all fun u=>!Tryz.prog.wantsStandIn u)=true:=by kernel_rfl
    rw [Array.all_eq_true_iff_forall_mem] at hall
    exact (show Tryz.prog.wantsStandIn t=false by simpa using hall t (Array.mem_of_getElem? ht))⟩)
  (by kernel_rfl)

#print axioms fmt_card
end Go.Proofs.YtbocelianhcfmaaGreatDoor
