/- FnMovePred returns true, whatever bytes come in, and leaves its argument as it was; the tables of the library lie as the program's text lays them (tied). -/
import Derived.Test.YtcpgagfdeflbkaaGreatDoorZMv28
import Derived.Test.YtcpgagfdeflbkaaGreatDoorCards
import Derived.SevenTiedAt
import Derived.ChangeVars
import Derived.JoinedOf
import Derived.RowKit
import Derived.OpenShut
namespace Go.Proofs.YtcpgagfdeflbkaaGreatDoor
open Go Go.ChangeShapes Go.WideShapes Go.ChangeAt Go.RowKit

set_option maxRecDepth 100000 in
theorem He (os:Os) (started:os.Started) (H:Type) (enc:TypeId × Value->H) :
  ReturnsInHanded {} Tryz.checked os cw .any (fun w args=>(Rows.fnMovePredSpec.pre enc Tryz.prog Tryz.f3 [] false w args/\laidMetH Tryz.prog HX w)/\sizedMet enc Tryz.prog Tryz.f3 (OpenSpec.ofChange Rows.fnMovePredSpec) false w args)
   (Rows.fnMovePredSpec.post enc Tryz.prog Tryz.f3 false true false false):=by
 refine returnsInHanded_of_change_and (C:=Tryz.checked) (X:=fun w _=>laidMetH Tryz.prog HX w) (fun _ _ _ hh h=>h.of_heap hh) Tryz.own started (by kernel_rfl) Tryz.func3
  (ChangeSpec.witness_shaped (enc:=enc) (C:=Tryz.checked) (os:=os) (X:=fun w _=>laidMetH Tryz.prog HX w) false (World.doorLaid Tryz.prog 24 os) #[.slice none 0 0,.slice none 0 0] 8 rfl (World.shaped_of_RefB (by kernel_rfl) (by kernel_rfl)) (by kernel_rfl) (by kernel_rfl) (by kernel_rfl) (KJ os _)) ?_
 intro W base args ds gs before hval0 hW _ _ _ _
 have hval:∀ (j:Nat) t v,Tryz.f3.params[j]?=some t->args[j]?=some v->Value.okWide Tryz.prog W .any base t v:=hval0
 have hW':=hW
 obtain ⟨p,q,hA0,hV,hb,_,_⟩:=hW
 have hA:DataW.TrodAll enc Tryz.prog W 0 (fun _=>true) true Tryz.f3.params.toList args.toList ds p:=hA0
 have hA1:=hA
 rw [Tryz.params3] at hA1 hval
 obtain ⟨v0,v1,d0,d1,p0,p1,rfl,rfl,_,h0,h1⟩:=trodAll_two hA1
 obtain ⟨n,hn⟩:=h0
 obtain ⟨n1,hn1⟩:=h1
 obtain rfl:=(trodVars_none (show DataW.TrodVars enc Tryz.prog W (fun _=>true) [] gs q from hV)).1
 obtain ⟨a,len,cap,rfl⟩:=okWide_slice (nj cQ).1 (hval 0 _ _ rfl rfl)
 obtain ⟨xs,hx⟩:=yB hn
 obtain ⟨a1,len1,cap1,rfl⟩:=okWide_slice (nj cQ).1 (hval 1 _ _ rfl rfl)
 obtain ⟨xs1,hx1⟩:=yB hn1
 refine (CL hx hx1 W (Inv.entry W)).mono fun e W' ⟨he,hI⟩=>?_
 subst he
 exact ⟨_,rfl,Je hW' hA hV hb rfl (by rw [Tryz.params3]; decide +kernel) (by kernel_rfl) rfl rfl rfl hI⟩

theorem bx {a b:Bool} (ha:a=true) (hb:b=true):(a && b)=true:=by rw [ha,hb]; rfl
theorem Nk:Rows.fnMovePredRow.wf (OpenSpec.ofChange Rows.fnMovePredSpec)=true:=by kernel_rfl
theorem Np:laidOutB Tryz.checked.prog=true:=by kernel_rfl
theorem Nt:mapsRowed Tryz.checked.prog=true:=by kernel_rfl
theorem NG:Tryz.f3.params.all (Tryz.checked.prog.readableRec ·)=true:=by kernel_rfl
theorem N2:namedTie Tryz.checked.prog Rows.fnMovePredRow.named Rows.fnMovePredSpec.vars=true:=by kernel_rfl
theorem NW:(Rows.fnMovePredRow.stops == [])=true:=by kernel_rfl
theorem NO:(Tryz.checked.prog.stops == [])=true:=by kernel_rfl
theorem Nx:(Rows.fnMovePredRow.knobs == [])=true:=by kernel_rfl
theorem NM:(Tryz.checked.prog.stopKnobs == [])=true:=by kernel_rfl
theorem NP:(Rows.fnMovePredRow.inPlace == Tryz.checked.prog.inPlace cw)=true:=by kernel_rfl
theorem Mv:(Rows.fnMovePredRow.unfollowed == Tryz.checked.prog.unfollowed cw)=true:=by kernel_rfl
theorem Mx:(Rows.fnMovePredRow.recurses == Tryz.checked.prog.recurses cw)=true:=by kernel_rfl
theorem LE:(Rows.fnMovePredRow.named == Tryz.checked.prog.varsNamed cw)=true:=by kernel_rfl
theorem Mq:(Rows.fnMovePredRow.maps == (Tryz.f3.params.toList++Rows.fnMovePredSpec.plain.varTypes Tryz.checked.prog).any (Tryz.checked.prog.mapsRec ·))=true:=by kernel_rfl
theorem Mi:(Rows.fnMovePredRow.ifaces == (Tryz.f3.params.toList++Rows.fnMovePredSpec.plain.varTypes Tryz.checked.prog).any (Tryz.checked.prog.ifacesRec ·))=true:=by kernel_rfl
theorem LJ:(Rows.fnMovePredRow.mapsOut == Tryz.checked.prog.mapsAmong Tryz.f3.resultTypes.toList)=true:=by kernel_rfl
theorem LN:(Rows.fnMovePredRow.loops == (Tryz.f3.params.toList++Rows.fnMovePredSpec.plain.varTypes Tryz.checked.prog).any (Tryz.checked.prog.loopsFrom ·))=true:=by kernel_rfl
theorem LV:(Rows.fnMovePredRow.wideKeys == (Tryz.f3.params.toList++Rows.fnMovePredSpec.plain.varTypes Tryz.checked.prog++Tryz.f3.resultTypes.toList).any (Tryz.checked.prog.wideKeysFrom ·))=true:=by kernel_rfl
theorem Mb:Rows.fnMovePredSpec.vars.all (Tryz.checked.prog.varReadable ·)=true:=by kernel_rfl
theorem LO:Tryz.f3.resultTypes.all (fun t=>Tryz.checked.prog.readableRec t && decide (t<Tryz.checked.prog.types.size))=true:=by kernel_rfl
theorem Mm:(Rows.fnMovePredRow.ifacesOut == Tryz.f3.resultTypes.toList.any (Tryz.checked.prog.ifacesRec ·))=true:=by kernel_rfl
theorem Mp:(Rows.fnMovePredRow.loopsOut == Tryz.f3.resultTypes.toList.any (Tryz.checked.prog.loopsFrom ·))=true:=by kernel_rfl
theorem Mj:(Rows.fnMovePredRow.plainKeys == Tryz.checked.prog.plainKeys)=true:=by kernel_rfl
theorem Ml:Rows.fnMovePredRow.shortTexts.isNone=true:=by kernel_rfl
theorem LM:Tryz.checked.prog.stopsHeard=true:=by kernel_rfl
theorem MJ:Tryz.checked.prog.mayEnter=true:=by kernel_rfl
theorem LK:(Rows.fnMovePredRow.lifted == Tryz.checked.prog.liftsFinal)=true:=by kernel_rfl
theorem Mz:(Tryz.checked.prog.make == some Rows.fnMovePredRow.make)=true:=by kernel_rfl
theorem MA:(Rows.fnMovePredRow.kinds == (if Rows.fnMovePredRow.domain.isEmpty then [] else Tryz.f3.params.toList.map fun t=>match Tryz.checked.prog.underlying t with|some (.int k)=>some k|_=>none))=true:=by kernel_rfl
theorem MD:(Rows.fnMovePredRow.pinned == Rows.fnMovePredRow.pinnedBy)=true:=by kernel_rfl
theorem MI:(Rows.fnMovePredRow.veiled == (Tryz.f3.params.toList++Rows.fnMovePredSpec.plain.varTypes Tryz.checked.prog++Tryz.f3.resultTypes.toList).any (Tryz.checked.prog.veiledRec ·))=true:=by kernel_rfl
theorem LC:Rows.fnMovePredRow.veiledFits Tryz.checked.prog Tryz.f3.params.toList (Tryz.f3.params.toList++Rows.fnMovePredSpec.plain.varTypes Tryz.checked.prog++Tryz.f3.resultTypes.toList)=true:=by kernel_rfl
set_option maxRecDepth 100000 in
theorem Gn:joinedFacts Tryz.checked.prog cw Tryz.f3 Rows.fnMovePredSpec Rows.fnMovePredRow=true:=by
 unfold joinedFacts
 exact bx (bx (bx (bx (bx (bx (bx (bx (bx (bx (bx (bx (bx (bx (bx (bx (bx (bx (bx (bx (bx (bx (bx (bx (bx (bx (bx (bx (bx (bx (bx Nk Np) Nt) NG) N2) NW) NO) Nx) NM) NP) Mv) Mx) LE) Mq) Mi) LJ) LN) LV) Mb) LO) Mm) Mp) Mj) Ml) LM) MJ) LK) Mz) MA) MD) MI) LC
theorem pMv_named:Tryz.checked.prog.funcNamed Rows.fnMovePredRow.func=some cw:=by kernel_rfl
theorem KK:Tryz.f3.isInstance Tryz.checked.prog Rows.fnMovePredRow.origin Rows.fnMovePredRow.targs:=of_decide_eq_true (by kernel_rfl)
theorem K6:Tryz.f3.isWrapper Tryz.checked.prog Rows.fnMovePredRow.wrapper Rows.fnMovePredRow.mainSum:=by unfold Func.isWrapper; first|(rw [if_pos (by decide +kernel)]; kernel_rfl)|(rw [if_neg (by decide +kernel)]; exact ⟨rfl,rfl⟩)
theorem pMv_holds:Rows.FnMovePredSaid:=
 OpenClaim.holds_of_wide cw Tryz.f3 rfl rfl rfl rfl rfl rfl rfl ⟨rfl,rfl,rfl,rfl,rfl⟩ rfl rfl rfl rfl rfl pMv_named Tryz.func3 Gn KK K6
  (fun os started H enc _=>He os started H enc)


theorem pMv_card:Rows.FnMovePredCardSaid:=
 Claim7.holds_tied_plain_at .later [] [.data,.data,.data] true Rows.fnMovePredCard.stood.harness Rows.fnMovePredCard.stood.looks
  pMv_holds (fun _ h=>by cases h) (by kernel_rfl) (fun _ h=>by cases h) fnMovePred_row_tie rfl ⟨rfl,rfl⟩ (by kernel_rfl) rfl
  (fun f fn hf hfn=>by
   obtain rfl:f=cw:=Option.some.inj (pMv_named.symm.trans hf) |>.symm
   obtain rfl:fn=Tryz.f3:=(Option.some.inj (Tryz.func3.symm.trans hfn)).symm
   exact ⟨by kernel_rfl,fun j t ht=>by
    have hall:(Tryz.f3.params.all fun u=>!Tryz.prog.wantsStandIn u)=true:=by kernel_rfl
    rw [Array.all_eq_true_iff_forall_mem] at hall
    exact (show Tryz.prog.wantsStandIn t=false by simpa using hall t (Array.mem_of_getElem? ht))⟩)
  (by kernel_rfl)

#print axioms pMv_card
end Go.Proofs.YtcpgagfdeflbkaaGreatDoor
