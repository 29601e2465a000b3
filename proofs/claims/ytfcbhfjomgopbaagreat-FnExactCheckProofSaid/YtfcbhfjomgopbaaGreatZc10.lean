/- FnExactCheckProof returns true, whatever program and proof come in. -/
import Derived.Test.YtfcbhfjomgopbaaGreatZc9
import Derived.Test.YtfcbhfjomgopbaaGreatZc1
namespace Go.Proofs.YtfcbhfjomgopbaaGreat
open Go Go.RowKit
section
attribute [local irreducible] Run CondV ak bg
def Fw (S:ar) (p:List C) (v:Value):Prop:=RdSl S 5 (RdC S) v p
def IsPf (S:ar) (x:PF) (v:Value):Prop:=∃ cs,v=.agg cs.toArray/\RdF S cs x
theorem IsPf.mono {S S':ar} {x:PF} {v:Value} (hs:Sle S S') (h:IsPf S x v):IsPf S' x v:=by
 obtain ⟨u,hx,hr⟩:=h
 exact ⟨u,hx,hr.mono hs⟩
theorem Run.toProof {w w0:World} {X:List Nat} {L:List Item} {S:ar} {K:Value->World->Prop} {x:PF} {cs:List Value} (hI:Inv w0 X L S w) (h:RdF S cs x) (hw:wF x<=1048576)
  (hk:∀ cs' S' w',Sle S S'->RdF S' cs' x->Inv w0 X L S' w'->K (.agg cs'.toArray) w'):Run Tryz.prog (aN (.func (.func l0) #[] #[]) [.agg cs.toArray]) w K:=by
 refine Run.call0 o3 pg hI (xw _ S _ h hw) fun v' I' S' w'=>?_
 rintro ⟨rfl,cs',M,rfl,rfl,hT⟩ _ hI
 obtain ⟨S2,hI,hle,hins,_⟩:=Inv.publishAll M hI
 exact hk _ _ _ hle (hT.rd hins) hI
theorem zh {p:List C} {x:PF} {S:ar} {u:Value} {cs:List Value} (h:RdSl S 5 (RdC S) u p) (g:RdF S cs x):Pure Tryz.prog bH [u,.agg cs.toArray] S (.bool true):=by
 intro w hI
 have hl6:=g.length
 refine iM ?_
 unfold fV
 refine bt hI fun b3 w' hI=>?_
 have hI:Inv w [] [.blk b3 (.cells cs.toArray iq)] S w':=hI
 refine Run.callPure vB uw hI (tQ h (by omega) (by omega)) fun w' hI=>?_
 refine bz ?_
 refine bf (fun _=>done hI rfl) (fun hsz=>?_)
 have hw:=Fs (p:=p) (left:=1048576) (by omega)
 refine a8 hI 0 im rfl (by simpa using hl6) ?_
 refine Run.callPure pU p4 hI (xJ x S _ _ g (by omega) (by omega)) fun w' hI=>?_
 refine bz ?_
 refine bf (fun _=>done hI rfl) (fun hsz2=>?_)
 have hw2:=Fi x (zY p 1048576) (by omega) (by omega)
 have hwp:p.length+wP p<=1048576:=by omega
 have hwx:wF x<=1048576:=by omega
 refine ⟨fun D x6 dM ev dS dQ dY w_=>(D 0=true->dY=u)/\(D 1=true->True)/\(D 2=true->dS=.agg cs.toArray)/\(D 3=true->True)/\(D 4=true->dM=.bool (checkB p x))/\(D 5=true->x6=.bool (checkB p x))/\∃ S1,Sle S S1/\(D 1=true->Fw S1 p dQ)/\(D 3=true->IsPf S1 x ev)/\Inv w [] [.blk b3 (.cells cs.toArray iq)] S1 w_,⟨ae,ae,ae,ae,ae,ae,⟨S,Sle.refl _,ae,ae,hI.draw⟩⟩,⟨?_,?_,?_,?_,?_,?_,trivial⟩,?_⟩
 ·intro D aY  x6 dM ev dS dQ dY w_
  rintro ⟨av,aw,ao,au,az,aq,⟨S1,hle,e1,e3,hI⟩⟩
  exact ⟨fun _=>rfl,aw,ao,au,az,aq,⟨S1,hle,e1,e3,hI⟩⟩
 ·intro D aY cB x6 dM ev dS dQ dY w_
  rintro ⟨av,aw,ao,au,az,aq,⟨S1,hle,e1,e3,hI⟩⟩
  obtain rfl:=av cB
  refine Run.toClauseS hI (h.monoC hle) hwp fun v1 S2 w_ hle1 h1 hI=>?_
  have e3:=fun (e:aD D 1 3=true)=>(e3 e).mono hle1
  have e1:=fun (_:aD D 1 1=true)=>(h1:Fw S2 p v1)
  have hle:=hle.trans hle1
  obtain ⟨S1,hS1⟩:∃ a,a=S2:=⟨_,rfl⟩
  subst hS1
  exact ⟨av,fun _=>by first|assumption|trivial,ao,au,az,aq,⟨S1,hle,e1,e3,hI⟩⟩
 ·intro D aY  x6 dM ev dS dQ dY w_
  rintro ⟨av,aw,ao,au,az,aq,⟨S1,hle,e1,e3,hI⟩⟩
  refine a8 hI 0 im rfl (by simpa using hl6) ?_
  exact ⟨av,aw,fun _=>rfl,au,az,aq,⟨S1,hle,e1,e3,hI⟩⟩
 ·intro D aY cc q4 x6 dM ev dS dQ dY w_
  rintro ⟨av,aw,ao,au,az,aq,⟨S1,hle,e1,e3,hI⟩⟩
  obtain rfl:=ao cc
  refine Run.toProof hI (g.mono hle) hwx fun cs1 S2 w_ hle1 h1 hI=>?_
  have e1:=fun (e:aD D 3 1=true)=>(RdSl.monoC hle1 (e1 e):Fw S2 p dQ)
  have e3:=fun (_:aD D 3 3=true)=>(⟨cs1,rfl,h1⟩:IsPf S2 x (.agg cs1.toArray))
  have hle:=hle.trans hle1
  obtain ⟨S1,hS1⟩:∃ a,a=S2:=⟨_,rfl⟩
  subst hS1
  exact ⟨av,aw,ao,fun _=>by first|assumption|trivial,az,aq,⟨S1,hle,e1,e3,hI⟩⟩
 ·intro D aY c6 jw Gn x6 dM ev dS dQ dY w_
  rintro ⟨av,aw,ao,au,az,aq,⟨S1,hle,e1,e3,hI⟩⟩
  have Gi:=aw c6
  have Gq:=au jw
  have q1:=e1 c6
  obtain ⟨q3,hx3,hq3⟩:=e3 jw
  rw [hx3] at e3 ⊢
  refine Run.callPure tE s7 hI (ox q1 hq3 (by omega) hwx) fun w_ hI=>?_
  exact ⟨av,aw,ao,au,fun _=>rfl,aq,⟨S1,hle,e1,e3,hI⟩⟩
 ·intro D aY cZ C3 oB mQ lu oL oo x6 dM ev dS dQ dY w_
  rintro ⟨av,aw,ao,au,az,aq,⟨S1,hle,e1,e3,hI⟩⟩
  obtain rfl:=az cZ
  exact ⟨av,aw,ao,au,az,fun _=>rfl,⟨S1,hle,e1,e3,hI⟩⟩
 intro D fi e9 fe eQ eZ e8 x6 dM ev dS dQ dY w_
 rintro ⟨av,aw,ao,au,az,aq,⟨S1,hle,e1,e3,hI⟩⟩
 obtain rfl:=aq fi
 obtain rfl:=az e9
 have Gq:=au fe
 obtain rfl:=ao eQ
 have Gi:=aw eZ
 obtain rfl:=av e8
 clear av aw ao au az aq
 clear e1 e3
 refine Run.toClauseS hI (h.monoC hle) hwp fun v2 S2 w' hle2 h2 hI=>?_
 refine a8 hI 0 im rfl (by simpa using hl6) ?_
 refine Run.toProof hI (g.mono (hle.trans hle2)) hwx fun es S3 w' hle3 g3 hI=>?_
 have hl3:=g3.length
 refine bC hI rh fun b8 w' hI=>?_
 refine bq hI 1 rfl bS (by simpa using hl3) rfl (by simpa using g3.one) fun w' hI=>?_
 have hI:Inv w [] [.blk b3 (.cells cs.toArray iq),.blk b8 (.cells es.toArray bx)] S3 w':=hI
 refine a8 hI 1 bS rfl (by simpa using hl3) ?_
 have h2:=h2.monoC hle3
 have hle:=(hle.trans hle2).trans hle3
 refine Run.callPure tt tD hI (nW h2 g3) fun w' hI=>?_
 refine DV y5 ?_
 refine bd (fun hb=>by simp at hb) (fun _=>?_)
 refine Run.toClauseS hI (h.monoC hle) hwp fun v4 S4 w' hle4 h4 hI=>?_
 refine Run.callPure ut vL hI (tp (h2.monoC hle4) h4) fun w' hI=>?_
 refine bJ ?_
 rw [(zn p p).2 rfl]
 refine bd (fun hb=>by simp at hb) (fun _=>?_)
 have hle:=hle.trans hle4
 have g3:=g3.mono hle4
 refine ⟨fun D da cC cD cr cL w_=>(D 0=true->cL=.agg es.toArray)/\(D 1=true->cr=.agg cs.toArray)/\(D 2=true->True)/\(D 3=true->cC=.bool true)/\(D 4=true->da=.bool false)/\∃ S1,Sle S4 S1/\(D 2=true->IsPf S1 x cD)/\Inv w [] [.blk b3 (.cells cs.toArray iq),.blk b8 (.cells es.toArray bx)] S1 w_,⟨ae,ae,ae,ae,ae,⟨S4,Sle.refl _,ae,hI.draw⟩⟩,⟨?_,?_,?_,?_,?_,trivial⟩,?_⟩
 ·intro D aY  da cC cD cr cL w_
  rintro ⟨av,aw,ao,au,az,⟨S1,hleR,e2,hI⟩⟩
  refine a8 hI 1 bS rfl (by simpa using hl3) ?_
  exact ⟨fun _=>rfl,aw,ao,au,az,⟨S1,hleR,e2,hI⟩⟩
 ·intro D aY  da cC cD cr cL w_
  rintro ⟨av,aw,ao,au,az,⟨S1,hleR,e2,hI⟩⟩
  refine a8 hI 0 im rfl (by simpa using hl6) ?_
  exact ⟨av,fun _=>rfl,ao,au,az,⟨S1,hleR,e2,hI⟩⟩
 ·intro D aY c6 da cC cD cr cL w_
  rintro ⟨av,aw,ao,au,az,⟨S1,hleR,e2,hI⟩⟩
  obtain rfl:=aw c6
  refine Run.toProof hI (g.mono (hle.trans hleR)) hwx fun cs1 S1 w_ hle1 h1 hI=>?_
  have hleR:=hleR.trans hle1
  have e2:=fun (_:aD D 2 2=true)=>(⟨cs1,rfl,h1⟩:IsPf S1 x (.agg cs1.toArray))
  exact ⟨av,aw,fun _=>by first|assumption|trivial,au,az,⟨S1,hleR,e2,hI⟩⟩
 ·intro D aY cB d8 B4 da cC cD cr cL w_
  rintro ⟨av,aw,ao,au,az,⟨S1,hleR,e2,hI⟩⟩
  obtain rfl:=av cB
  have F7:=ao d8
  obtain ⟨q2,rfl,hq2⟩:=e2 d8
  refine Run.callPure pq qp hI (xo x x _ _ _ (g3.mono hleR) hq2) fun w_ hI=>?_
  rw [(Cl _ _).2 rfl]
  exact ⟨av,aw,ao,fun _=>rfl,az,⟨S1,hleR,e2,hI⟩⟩
 ·intro D aY dq da cC cD cr cL w_
  rintro ⟨av,aw,ao,au,az,⟨S1,hleR,e2,hI⟩⟩
  obtain rfl:=au dq
  refine bJ ?_
  exact ⟨av,aw,ao,au,fun _=>rfl,⟨S1,hleR,e2,hI⟩⟩
 intro D e9 fe eQ eZ e8 da cC cD cr cL w_
 rintro ⟨av,aw,ao,au,az,⟨S1,hleR,e2,hI⟩⟩
 obtain rfl:=az e9
 obtain rfl:=au fe
 have F7:=ao eQ
 obtain rfl:=aw eZ
 obtain rfl:=av e8
 clear av aw ao au az
 clear e2
 exact bd (fun hb=>by cases hb) (fun _=>g9 hI (hle.trans hleR) rfl)
end
end Go.Proofs.YtfcbhfjomgopbaaGreat

/- What every row of this seat owes beside its walk: the arguments read again as they did, and nothing that was there has turned. -/
namespace Go.Proofs.YtfcbhfjomgopbaaGreat
open Go Go.ChangeShapes Go.WideShapes Go.ChangeAt Go.RowKit

theorem Tryz.own:ownKnob Tryz.prog.godebug=none:=by kernel_rfl
theorem Tryz.kids:Kids Tryz.prog (·<Tryz.prog.types.size):=kids_rows (by kernel_rfl) (by kernel_rfl)
theorem Tryz.full:∀ t e,t<Tryz.prog.types.size->Tryz.prog.underlying t=some (.slice e)->0<Tryz.prog.cellsOf e:=slices_full_of Tryz.prog (by kernel_rfl)
section
variable {H:Type} {enc:TypeId × Value->H} {W W':World}
theorem zR {P:Program}:∀ {ts:List TypeId} {vs:List Value} {ds:List (DataW H)} {ps:List MemPlace},DataW.TrodAll enc P W 0 (fun _=>true) true ts vs ds ps->(∀ p∈ps,W.sameAt W' p)->
  DataW.TrodAll enc P W' 0 (fun _=>true) true ts vs ds ps
 | [],[],[],_,h,_=>h
 | _::_,_::_,_::_,_,⟨p,q,⟨n,h1⟩,h2,e⟩,hs=>
  ⟨p,q,⟨n,DataW.trod_carry n _ _ _ h1 fun x hx=>hs x (by rw [e]; exact List.mem_append_left _ hx)⟩,zR h2 fun x hx=>hs x (by rw [e]; exact List.mem_append_right _ hx),e⟩
theorem Ex {p:MemPlace} (h:∀ b,b<W.heap.size->W'.heap[b]?=W.heap[b]?) (hp:p.block<W.heap.size):W.sameAt W' p:=by
 cases p with
 | cell b off=>simp only [World.sameAt,World.cell?]; rw [h b hp]
 | map b=>exact h b hp
/- a function of the program whose walk ends with 'true' and with all that was there as it was: the row's 'post' -/
theorem CL {f:Func} {s:ChangeSpec} {args:Array Value} {ds gs:List (DataW H)} {before p q:List MemPlace}
  (hW:DataW.Whole enc Tryz.prog f.params.toList s.vars false W args.toList ds gs before) (hA:DataW.TrodAll enc Tryz.prog W 0 (fun _=>true) true f.params.toList args.toList ds p)
  (hV:DataW.TrodVars enc Tryz.prog W (fun _=>true) s.vars gs q) (hb:before=p++q) (hv:s.vars=[]) (hts:∀ t∈f.params.toList,t<Tryz.prog.types.size) (hr:f.resultTypes=#[Bj])
  (hs:(s.fn H (ds++gs)).results=[.lit (.bool true)]) (ha:(s.fn H (ds++gs)).args=ds) (hsv:(s.fn H (ds++gs)).vars=[]) (hI:Inv W [] [] (lg W) W') :
  s.post enc Tryz.prog f false true false false W args (.bool true) W':=by
 have hsame:∀ b,b<W.heap.size->W'.heap[b]?=W.heap[b]?:=fun b hb=>hI.same b hb
 have hlt:=hW.lt
 rw [hv] at hV
 obtain ⟨hg,hq⟩:=trodVars_none hV
 subst hq
 rw [List.append_nil] at hb
 subst hb
 have hA':=zR (W':=W') hA fun x hx=>Ex hsame (hlt x hx)
 refine ⟨ds,gs,before,[],before,[],hW,?_,?_,?_,CZ hI.os hI.output hsame,fun h=>by cases h⟩
 ·rw [hs,hr]
  exact trodAll_mk1 (shut_bool y5 true)
 ·rw [ha]
  exact DataW.TrodAll.respare Tryz.kids Tryz.full hts hA' fun x hx=>by simpa using hlt x hx
 ·rw [hv,hsv]
  rfl
end

end Go.Proofs.YtfcbhfjomgopbaaGreat
