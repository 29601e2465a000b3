/- FnReadClause returns true, whatever bytes come in, and leaves them as they were. No condition. -/
import Derived.Test.YtjbcdmheajljpaaGreatZRdA
import Derived.Test.YtjbcdmheajljpaaGreatZRd20
namespace Go.Proofs.YtjbcdmheajljpaaGreat
open Go Go.ChangeShapes Go.WideShapes Go.ChangeAt Go.RowKit

set_option maxRecDepth 100000 in
theorem PP (os:Os) (g:os.Started) (H:Type) (enc:TypeId × Value->H) :
  ReturnsInHanded {} Tryz.checked os eA .any (Rows.fnReadClauseSpec.pre6 enc Tryz.prog Tryz.f5 Rows.fnReadClauseRow.domain false)
   (Rows.fnReadClauseSpec.post enc Tryz.prog Tryz.f5 false true false false):=by
 refine returnsInHanded_of_change (C:=Tryz.checked) Tryz.own g (by kernel_rfl) Tryz.func5
  (ChangeSpec.witness6 (enc:=enc) (C:=Tryz.checked) false ⟨#[],#[nx,nx],[]⟩ 8 (by kernel_rfl) (by kernel_rfl) (by kernel_rfl) (by kernel_rfl)) ?_
 intro W l args ds V r i J _ _;have h:∀ (j:Nat) t v,Tryz.f5.params[j]?=some t->args[j]?=some v->Value.okWide Tryz.prog W .any l t v:=i;have G:=J;obtain ⟨p,q,B,M,hb,_,_⟩:=J;have U:DataW.TrodAll enc Tryz.prog W 0 (fun _=>true) true Tryz.f5.params.toList args.toList ds p:=B;have o:=U;rw [Tryz.params5] at o h;obtain ⟨v0,v1,d0,d1,p0,p1,rfl,rfl,_,h0,h1⟩:=trodAll_two o;obtain ⟨n,hn⟩:=h0;obtain ⟨n1,hn1⟩:=h1;obtain rfl:=(trodVars_none (show DataW.TrodVars enc Tryz.prog W (fun _=>true) [] V q from M)).1;obtain ⟨a,len,cap,rfl⟩:=okWide_slice (sE fD).1 (h 0 _ _ rfl rfl);obtain ⟨a1,N,O,rfl⟩:=okWide_slice (sE fD).1 (h 1 _ _ rfl rfl);obtain ⟨xs,D⟩:=Gc hn;obtain ⟨a0,m⟩:=Gc hn1;refine (Jm D m W (Inv.entry W)).mono fun e W' ⟨Y,Z⟩=>?_;subst Y;exact ⟨_,rfl,SD G U M hb rfl (by rw [Tryz.params5];decide +kernel) (by kernel_rfl) rfl rfl rfl Z⟩

theorem db {a b:Bool} (g:a=true) (h:b=true):(a && b)=true:=by rw [g,h]; rfl
theorem XE:Rows.fnReadClauseRow.wf (OpenSpec.ofChange Rows.fnReadClauseSpec)=true:=by kernel_rfl
theorem XU:laidOutB Tryz.checked.prog=true:=by kernel_rfl
theorem XN:mapsRowed Tryz.checked.prog=true:=by kernel_rfl
theorem Xu:Tryz.f5.params.all (Tryz.checked.prog.readableRec ·)=true:=by kernel_rfl
theorem XK:namedTie Tryz.checked.prog Rows.fnReadClauseRow.named Rows.fnReadClauseSpec.vars=true:=by kernel_rfl
theorem XA:(Rows.fnReadClauseRow.stops == [])=true:=by kernel_rfl
theorem X1:(Tryz.checked.prog.stops == [])=true:=by kernel_rfl
theorem XY:(Rows.fnReadClauseRow.knobs == [])=true:=by kernel_rfl
theorem XH:(Tryz.checked.prog.stopKnobs == [])=true:=by kernel_rfl
theorem X2:(Rows.fnReadClauseRow.inPlace == Tryz.checked.prog.inPlace eA)=true:=by kernel_rfl
theorem W3:(Rows.fnReadClauseRow.unfollowed == Tryz.checked.prog.unfollowed eA)=true:=by kernel_rfl
theorem VZ:(Rows.fnReadClauseRow.recurses == Tryz.checked.prog.recurses eA)=true:=by kernel_rfl
theorem V4:(Rows.fnReadClauseRow.named == Tryz.checked.prog.varsNamed eA)=true:=by kernel_rfl
theorem Wx:(Rows.fnReadClauseRow.maps == (Tryz.f5.params.toList++Rows.fnReadClauseSpec.plain.varTypes Tryz.checked.prog).any (Tryz.checked.prog.mapsRec ·))=true:=by kernel_rfl
theorem W0:(Rows.fnReadClauseRow.ifaces == (Tryz.f5.params.toList++Rows.fnReadClauseSpec.plain.varTypes Tryz.checked.prog).any (Tryz.checked.prog.ifacesRec ·))=true:=by kernel_rfl
theorem W1:(Rows.fnReadClauseRow.mapsOut == Tryz.checked.prog.mapsAmong Tryz.f5.resultTypes.toList)=true:=by kernel_rfl
theorem WS:(Rows.fnReadClauseRow.loops == (Tryz.f5.params.toList++Rows.fnReadClauseSpec.plain.varTypes Tryz.checked.prog).any (Tryz.checked.prog.loopsFrom ·))=true:=by kernel_rfl
theorem Wr:(Rows.fnReadClauseRow.wideKeys == (Tryz.f5.params.toList++Rows.fnReadClauseSpec.plain.varTypes Tryz.checked.prog++Tryz.f5.resultTypes.toList).any (Tryz.checked.prog.wideKeysFrom ·))=true:=by kernel_rfl
theorem Wg:Rows.fnReadClauseSpec.vars.all (Tryz.checked.prog.varReadable ·)=true:=by kernel_rfl
theorem WD:Tryz.f5.resultTypes.all (fun t=>Tryz.checked.prog.readableRec t && decide (t<Tryz.checked.prog.types.size))=true:=by kernel_rfl
theorem V8:(Rows.fnReadClauseRow.ifacesOut == Tryz.f5.resultTypes.toList.any (Tryz.checked.prog.ifacesRec ·))=true:=by kernel_rfl
theorem WC:(Rows.fnReadClauseRow.loopsOut == Tryz.f5.resultTypes.toList.any (Tryz.checked.prog.loopsFrom ·))=true:=by kernel_rfl
theorem WL:(Rows.fnReadClauseRow.plainKeys == Tryz.checked.prog.plainKeys)=true:=by kernel_rfl
theorem Wu:Rows.fnReadClauseRow.shortTexts.isNone=true:=by kernel_rfl
theorem WY:Tryz.checked.prog.stopsHeard=true:=by kernel_rfl
theorem Wm:Tryz.checked.prog.mayEnter=true:=by kernel_rfl
theorem Wk:(Rows.fnReadClauseRow.lifted == Tryz.checked.prog.liftsFinal)=true:=by kernel_rfl
theorem Wh:(Tryz.checked.prog.make == some Rows.fnReadClauseRow.make)=true:=by kernel_rfl
theorem Wl:(Rows.fnReadClauseRow.kinds == (if Rows.fnReadClauseRow.domain.isEmpty then [] else Tryz.f5.params.toList.map fun t=>match Tryz.checked.prog.underlying t with|some (.int k)=>some k|_=>none))=true:=by kernel_rfl
theorem Wv:(Rows.fnReadClauseRow.pinned == Rows.fnReadClauseRow.pinnedBy)=true:=by kernel_rfl
theorem WR:(Rows.fnReadClauseRow.veiled == (Tryz.f5.params.toList++Rows.fnReadClauseSpec.plain.varTypes Tryz.checked.prog++Tryz.f5.resultTypes.toList).any (Tryz.checked.prog.veiledRec ·))=true:=by kernel_rfl
theorem WN:Rows.fnReadClauseRow.veiledFits Tryz.checked.prog Tryz.f5.params.toList (Tryz.f5.params.toList++Rows.fnReadClauseSpec.plain.varTypes Tryz.checked.prog++Tryz.f5.resultTypes.toList)=true:=by kernel_rfl
set_option maxRecDepth 100000 in
theorem PL:joinedFacts Tryz.checked.prog eA Tryz.f5 Rows.fnReadClauseSpec Rows.fnReadClauseRow=true:=by
 unfold joinedFacts;exact db (db (db (db (db (db (db (db (db (db (db (db (db (db (db (db (db (db (db (db (db (db (db (db (db (db (db (db (db (db (db XE XU) XN) Xu) XK) XA) X1) XY) XH) X2) W3) VZ) V4) Wx) W0) W1) WS) Wr) Wg) WD) V8) WC) WL) Wu) WY) Wm) Wk) Wh) Wl) Wv) WR) WN
theorem Sv:Tryz.checked.prog.funcNamed Rows.fnReadClauseRow.func=some eA:=by kernel_rfl
theorem UX:Tryz.f5.isInstance Tryz.checked.prog Rows.fnReadClauseRow.origin Rows.fnReadClauseRow.targs:=of_decide_eq_true (by kernel_rfl)
theorem T7:Tryz.f5.isWrapper Tryz.checked.prog Rows.fnReadClauseRow.wrapper Rows.fnReadClauseRow.mainSum:=by unfold Func.isWrapper; first|(rw [ag (by decide +kernel)]; kernel_rfl)|(rw [ae (by decide +kernel)]; exact ⟨rfl,rfl⟩)
theorem pRc_holds:Rows.FnReadClauseSaid:=
 OpenClaim.holds_of_wide eA Tryz.f5 rfl rfl rfl rfl rfl rfl rfl ⟨rfl,rfl,rfl,rfl,rfl⟩ rfl rfl rfl rfl rfl Sv Tryz.func5 PL UX T7
  (fun os a H enc _=>PP os a H enc)

#print axioms pRc_holds
end Go.Proofs.YtjbcdmheajljpaaGreat
