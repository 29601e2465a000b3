/- FnProofSize, FnProofFact and FnProofMore return true, whatever bytes come in: the walks. -/
import Derived.Test.YtfcbhfjomgopbaaGreatZFf15
import Derived.Test.YtfcbhfjomgopbaaGreatZFf7
import Derived.Test.YtfcbhfjomgopbaaGreatZFf1
namespace Go.Proofs.YtfcbhfjomgopbaaGreat
section
open Go Go.RowKit
section
variable {w:World} {K:Value->World->Prop}
attribute [local irreducible] Run
theorem MN {k:Int} {s:ByteArray} (hk:K (.agg #[.int .i64 k,.int .i64 0,.string s,.slice none 0 0]) w):Run Tryz.prog (bW ab [(0,.int .i64 k),(2,.string s)]) w K:=by
 refine Run.of (v:=.agg #[.int .i64 k,.int .i64 0,.string s,.slice none 0 0]) (w':=w) ?_ hk
 unfold bW
 rw [Sem.run_bind,run_build w ab _ #[.int .i64 k,.int .i64 0,.string s,.slice none 0 0] (by kernel_rfl),Result.andThen_ok]
 rfl
end
section
variable {S:ae} {ys:List Nat} {v:Value}
attribute [local irreducible] Run CondV aB aS
theorem zK {v2:Value} {zs:List Nat} (h:RdSl S 1 jC v ys) (h2:RdSl S 1 jC v2 zs):Pure Tryz.prog du [v,v2] S (.bool true):=by
 intro w hI
 have hzl:=h2.le
 simp only [maxLen] at hzl
 refine ni.2 ?_
 dsimp only[ni,aX]
 refine ⟨fun q w'=>∃ b,q=.bool b/\Inv w [] [] S w',?_,?_⟩
 ·refine aD h dg ?_
  refine dv ?_
  cases hd:decide ((ys.length:Int) > 1048576)
  ·refine rpG ?_
   refine aD h2 dg ?_
   refine dv ?_
   refine rpG ?_
   exact ⟨_,rfl,hI⟩
  ·refine rpG ?_
   exact ⟨_,rfl,hI⟩
 intro q _ _ _ _ _ _ _ w'
 rintro ⟨b,rfl,hI⟩
 refine az (fun _=>done hI rfl) (fun _=>?_)
 refine Run.call0E jT j0 hI (jw h) fun v1 I' S1 w'=>?_
 rintro ⟨rfl,u,cs,p,x,rfl,hp,hlp,hx,hwx⟩ hE1 hI
 have hI:Inv w [] [] S1 w':=hI
 have hxl:=hx.length
 have hwp:=hlp.le
 have hpl:=hp.le
 simp only [maxLen] at hpl
 obtain ⟨ua,uc,rfl,_⟩:=id hp
 refine aj (v:=.slice ua p.length uc) rfl ?_
 refine aj (v:=.agg cs.toArray) rfl ?_
 refine aG hI dG fun b6 w' hI=>?_
 refine ao hI 0 rfl aT (by simpa using hxl) rfl (by simpa using hx.one) fun w' hI=>?_
 obtain ⟨B6,hB6⟩:∃ B:Item,B=.blk b6 (.cells cs.toArray ah):=⟨_,rfl⟩
 have e6:=congrArg some hB6
 have hI:Inv w [] [B6] S1 w':=by rw [hB6]; exact hI
 refine aq hI 0 aT e6 (by simpa using hxl) ?_
 refine Run.callPure gR gS hI (fw hp hx) fun w' hI=>?_
 refine ⟨fun q w'=>q=.bool (!iA p || decide ((p.length:Int)=0))/\Inv w [] [B6] S1 w',?_,?_⟩
 ·refine aq hI 0 aT e6 (by simpa using hxl) ?_
  refine Run.callPure gW gQ hI (fx hp hx (by omega) (by omega)) fun w' hI=>?_
  refine Gc l8 ?_
  rw [beq_self_eq_true]
  refine rpG ?_
  refine Run.callPure ii iw hI (gH hp) fun w' hI=>?_
  refine bM ?_
  cases hpv:iA p
  ·refine rpG ?_
   exact ⟨rfl,hI⟩
  ·refine rpG ?_
   refine dX bz ?_
   refine aY ?_
   refine rpG ?_
   exact ⟨rfl,hI⟩
 intro q _ _ _ _ _ _ _ _ _ _ _ _ _ _ w'
 rintro ⟨rfl,hI⟩
 refine az (fun _=>?_) (fun hb=>?_)
 ·refine aq hI 0 aT e6 (by simpa using hxl) ?_
  refine Run.callPure gW gQ hI (fx hp hx (by omega) (by omega)) fun w' hI=>?_
  refine KB l8 ?_
  exact gg hI hE1.1 (by rw [beq_self_eq_true])
 rw [Bool.or_eq_false_iff,Bool.not_eq_false',decide_eq_false_iff_not] at hb
 obtain ⟨hpv,hp0⟩:=hb
 have hp0:0<p.length:=by omega
 obtain ⟨k,hk⟩:∃ k:Nat,k=zs.length % p.length:=⟨_,rfl⟩
 have hkp:k<p.length:=by
  rw [hk]
  exact Nat.mod_lt _ hp0
 refine aD h2 dg ?_
 refine dX bz ?_
 refine Mt (by omega) ?_
 rw [show (zs.length:Int).tmod (p.length:Int)=(k:Int) by rw [hk]; rfl]
 obtain ⟨pb,po,pc2,pc,pE,pfz,hpve,hpS,hpR⟩:=hp.at_ hkp
 have hpa:ua=some ⟨pb,po,none⟩:=by
  simp only [Value.slice.injEq] at hpve
  exact hpve.1
 have hix:∀ {ty:TypeId} {K:Value->World->Prop} {w':World},K (.pointer (some ⟨pb,po+k * 5,none⟩)) w'->Run Tryz.prog (sOp (.indexAddr Ct (.const (.slice ua p.length uc)) (.const (.int .i64 (k:Int)))) ty) w' K:=fun hk=>by rw [hpa]; exact au bz hkp hk
 obtain ⟨hv1,hb1,hce,hh,hb⟩:=hpR.cells
 obtain ⟨kba,kbc,rfl,_⟩:=id hb
 have hcell:pc[po+k * 5+4]?=some (.slice kba p[k].body.length kbc):=ar hce 4 _ rfl
 refine hix ?_
 refine ai co ?_
 refine bw ac (cs:=[.int .i64 p[k].head.kind,.int .i64 p[k].head.n,.string p[k].head.name,hv1]) rfl (fun j v hj=>by
  rw [hI.cellS hpS,Nat.add_zero]
  refine ar hce j v ?_
  have:j<4:=by have:=(List.getElem?_eq_some_iff.1 hj).1; simpa using this
  match j,this,hj with
  | 0,_,hj=>exact hj
  | 1,_,hj=>exact hj
  | 2,_,hj=>exact hj
  | 3,_,hj=>exact hj) ?_
 refine nO ?_
 refine aG hI dG fun b9 w' hI=>?_
 have hI:Inv w [] [B6,.blk b9 (.cells zP6 ah)] S1 w':=hI
 have hfx:RdF S1 [.int .i64 p[k].head.kind,.int .i64 p[k].head.n,.string p[k].head.name,hv1,.int .i64 (k:Int),.slice none 0 0] (.mk p[k].head k []):=
  RdF.iff.2 ⟨_,_,rfl,hh,⟨by simp only [PF.clause]; omega,by simp only [PF.clause]; omega⟩,RdSl.nil0 ..⟩
 refine ao (cs:=#[.int .i64 p[k].head.kind,.int .i64 p[k].head.n,.string p[k].head.name,hv1,.int .i64 (k:Int),.slice none 0 0]) hI 1 rfl aT rfl rfl (by simpa using hfx.one) fun w' hI=>?_
 have hI:Inv w [] [B6,.blk b9 (.cells #[.int .i64 p[k].head.kind,.int .i64 p[k].head.n,.string p[k].head.name,hv1,.int .i64 (k:Int),.slice none 0 0] ah)] S1 w':=hI
 have hres:(checkB p (.mk p[k].head k []) == decide ((p[k].body.length:Int)=0))=true:=by
  rw [I7 hpv k hkp,show decide ((p[k].body.length:Int)=0)=decide (p[k].body.length=0) by rw [decide_eq_decide]; omega,beq_self_eq_true]
 have hI0:=hI
 refine ⟨fun D x4 Eh LV KR Aw Co tH tK vZ tN tM sY w_=>Fx D 0 [sY=.slice ua p.length uc,tM=.agg #[.int .i64 p[k].head.kind,.int .i64 p[k].head.n,.string p[k].head.name,hv1,.int .i64 (k:Int),.slice none 0 0],tN=.bool (checkB p (.mk p[k].head k [])),vZ=.slice ua p.length uc,tK=.int .i64 (k:Int),tH=.pointer (some ⟨pb,po+k * 5,none⟩),Co=.pointer (some ⟨pb,po+k * 5+4,none⟩),Aw=.slice kba p[k].body.length kbc,KR=.int .i64 (p[k].body.length:Int),LV=.bool (decide ((p[k].body.length:Int)=0)),Eh=.bool true,x4=.bool true]/\Inv w [] [B6,.blk b9 (.cells #[.int .i64 p[k].head.kind,.int .i64 p[k].head.n,.string p[k].head.name,hv1,.int .i64 (k:Int),.slice none 0 0] ah)] S1 w_,⟨Fx.nil _ _,hI.draw⟩,⟨?_,?_,?_,?_,?_,?_,?_,?_,?_,?_,?_,?_,trivial⟩,?_⟩
 all_goals (intro D bo; intros; rename_i x4 Eh LV KR Aw Co tH tK vZ tN tM sY w_ hA_; have hF_:=hA_.1; obtain ⟨⟨bU,bV,bH,bR,bZ,bI,bB,ct,cF,cK,bG,bX,_⟩,hI⟩:=hA_)
 ·exact ⟨hF_.set 0 rfl,hI⟩
 ·refine aq hI 1 aT rfl rfl ?_
  exact ⟨hF_.set 1 rfl,hI⟩
 ·obtain rfl:=bU ‹_›
  obtain rfl:=bV ‹_›
  refine Run.callPure gR gS hI (fw hp hfx) fun w_ hI=>?_
  exact ⟨hF_.set 2 rfl,hI⟩
 ·exact ⟨hF_.set 3 rfl,hI⟩
 ·exact ⟨hF_.set 4 rfl,hI⟩
 ·obtain rfl:=bR ‹_›
  obtain rfl:=bZ ‹_›
  refine hix ?_
  exact ⟨hF_.set 5 rfl,hI⟩
 ·obtain rfl:=bI ‹_›
  refine ai bi ?_
  exact ⟨hF_.set 6 rfl,hI⟩
 ·obtain rfl:=bB ‹_›
  refine cz ag ((hI.cellS hpS).trans hcell) ?_
  exact ⟨hF_.set 7 rfl,hI⟩
 ·obtain rfl:=ct ‹_›
  refine dX af ?_
  exact ⟨hF_.set 8 rfl,hI⟩
 ·obtain rfl:=cF ‹_›
  refine aY ?_
  exact ⟨hF_.set 9 rfl,hI⟩
 ·obtain rfl:=bH ‹_›
  obtain rfl:=cK ‹_›
  refine KB l8 ?_
  rw [hres]
  exact ⟨hF_.set 10 rfl,hI⟩
 ·obtain rfl:=bG ‹_›
  exact ⟨hF_.set 11 rfl,hI⟩
 obtain ⟨rfl,rfl,rfl,rfl,rfl,rfl,rfl,rfl,rfl,rfl,rfl,rfl,_⟩:=hF_.all
 clear hF_ bU bV bH bR bZ bI bB ct cF cK bG bX
 exact gg hI hE1.1 rfl
theorem zL (h:RdSl S 1 jC v ys):Pure Tryz.prog dr [v] S (.bool true):=by
 intro w hI
 refine m9.2 ?_
 dsimp only[m9,aO]
 refine aD h dg ?_
 refine dv ?_
 refine aI (fun _=>done hI rfl) (fun _=>?_)
 refine Run.call0E jT j0 hI (jw h) fun v1 I' S1 w'=>?_
 rintro ⟨rfl,u,cs,p,x,rfl,hp,hlp,hx,hwx⟩ hE1 hI
 have hI:Inv w [] [] S1 w':=hI
 have hxl:=hx.length
 have hwp:=hlp.le
 have hpl:=hlp.1
 obtain ⟨ua,uc,rfl,_⟩:=id hp
 refine aj (v:=.slice ua p.length uc) rfl ?_
 refine aj (v:=.agg cs.toArray) rfl ?_
 refine aG hI dG fun b4 w' hI=>?_
 refine ao hI 0 rfl aT (by simpa using hxl) rfl (by simpa using hx.one) fun w' hI=>?_
 obtain ⟨B4,hB4⟩:∃ B:Item,B=.blk b4 (.cells cs.toArray ah):=⟨_,rfl⟩
 have e4:=congrArg some hB4
 have hI:Inv w [] [B4] S1 w':=by rw [hB4]; exact hI
 refine aq hI 0 aT e4 (by simpa using hxl) ?_
 refine Run.callPure gR gS hI (fw hp hx) fun w' hI=>?_
 refine dE hI eE fun v0 w' hI=>?_
 have hI:Inv w [] [B4,aL v0 av 5 []] S1 w':=hI
 refine ed (css:=[]) hI 1 eE (by omega) rfl hp (fun _ _=>RdC.length) (fun _ _=>RdC.one) (by simp; omega) (by omega) fun v2 w' css hR hI=>?_
 have hcl:=hR.hc
 refine MN ?_
 refine jz ?_
 refine dM (css:=css) hI 1 [.int .i64 3,.int .i64 0,.string ⟨#[122]⟩,.slice none 0 0,.slice none 0 0] eE (by omega) (by omega) rfl rfl (by simp [Value.oneCell']) (by omega) (by omega) fun v3 w' hI=>?_
 have hzc:RdC S1 [.int .i64 3,.int .i64 0,.string ⟨#[122]⟩,.slice none 0 0,.slice none 0 0] ⟨.mk 3 0 ⟨#[122]⟩ [],[]⟩:=
  ⟨[.int .i64 3,.int .i64 0,.string ⟨#[122]⟩,.slice none 0 0],_,rfl,RdT.iff.2 ⟨_,rfl,⟨by simp [T.kind],by simp [T.kind]⟩,⟨by simp [T.n],by simp [T.n]⟩,by simp [T.name,maxLen]; decide,RdSl.nil0 ..⟩,RdSl.nil0 ..⟩
 obtain ⟨S2,hE2,hrw,hI⟩:=Inv.lendExt (A:=[B4]) hI
 obtain ⟨q,hq⟩:∃ q:List C,q=p++[⟨.mk 3 0 ⟨#[122]⟩ [],[]⟩]:=⟨_,rfl⟩
 have hqr:RdSl S2 5 (RdC S2) v3 q:=by
  rw [hq]
  exact RowRd.rows ((hR.snoc hzc rfl).monoR fun _ _ h=>h.mono hE2.1) hrw
 have hp2:=hp.monoC hE2.1
 have hx2:=hx.mono hE2.1
 have hle:=hE1.1.trans hE2.1
 refine ⟨fun q' w'=>q'=.bool (!checkB p x || !iA q)/\Inv w [] [B4] S2 w',?_,?_⟩
 ·refine aq hI 0 aT e4 (by simpa using hxl) ?_
  refine Run.callPure gW gQ hI (fx hp2 hx2 (by omega) (by omega)) fun w' hI=>?_
  refine Gc l8 ?_
  rw [beq_self_eq_true]
  refine rpG ?_
  refine bM ?_
  cases hc:checkB p x
  ·refine rpG ?_
   exact ⟨rfl,hI⟩
  ·refine rpG ?_
   refine Run.callPure ii iw hI (gH hqr) fun w' hI=>?_
   refine bM ?_
   refine rpG ?_
   exact ⟨rfl,hI⟩
 intro q' _ _ _ _ _ _ _ _ _ _ _ _ _ w'
 rintro ⟨rfl,hI⟩
 refine az (fun _=>?_) (fun hb=>?_)
 ·refine aq hI 0 aT e4 (by simpa using hxl) ?_
  refine Run.callPure gW gQ hI (fx hp2 hx2 (by omega) (by omega)) fun w' hI=>?_
  refine KB l8 ?_
  exact gg hI hle (by rw [beq_self_eq_true])
 rw [Bool.or_eq_false_iff,Bool.not_eq_false',Bool.not_eq_false'] at hb
 refine aq hI 0 aT e4 (by simpa using hxl) ?_
 refine Run.callPure gR gS hI (fw hqr hx2) fun w' hI=>?_
 have:checkB q x=true:=by
  rw [hq] at hb ⊢
  exact Ia hb.1 hb.2
 exact gg hI hle (by rw [this])
end
end
section
open Go Go.ChangeShapes Go.WideShapes Go.ChangeAt Go.RowKit

theorem Tryz.own:ownKnob Tryz.prog.godebug=none:=by kernel_rfl
theorem Tryz.kids:Kids Tryz.prog (·<Tryz.prog.types.size):=kids_rows (by kernel_rfl) (by kernel_rfl)
theorem Tryz.full:∀ t e,t<Tryz.prog.types.size->Tryz.prog.underlying t=some (.slice e)->0<Tryz.prog.cellsOf e:=slices_full_of Tryz.prog (by kernel_rfl)
section
variable {H:Type} {enc:TypeId × Value->H} {W W':World}
theorem IV {P:Program}:∀ {ts:List TypeId} {vs:List Value} {ds:List (DataW H)} {ps:List MemPlace},DataW.TrodAll enc P W 0 (fun _=>true) true ts vs ds ps->(∀ p∈ps,W.sameAt W' p)->
  DataW.TrodAll enc P W' 0 (fun _=>true) true ts vs ds ps
 | [],[],[],_,h,_=>h
 | _::_,_::_,_::_,_,⟨p,q,⟨n,h1⟩,h2,e⟩,hs=>
  ⟨p,q,⟨n,DataW.trod_carry n _ _ _ h1 fun x hx=>hs x (by rw [e]; exact List.mem_append_left _ hx)⟩,IV h2 fun x hx=>hs x (by rw [e]; exact List.mem_append_right _ hx),e⟩
theorem QI {p:MemPlace} (h:∀ b,b<W.heap.size->W'.heap[b]?=W.heap[b]?) (hp:p.block<W.heap.size):W.sameAt W' p:=by
 cases p with
 | cell b off=>simp only [World.sameAt,World.cell?]; rw [h b hp]
 | map b=>exact h b hp
theorem ER {f:Func} {s:ChangeSpec} {args:Array Value} {ds gs:List (DataW H)} {before p q:List MemPlace}
  (hW:DataW.Whole enc Tryz.prog f.params.toList s.vars false W args.toList ds gs before) (hA:DataW.TrodAll enc Tryz.prog W 0 (fun _=>true) true f.params.toList args.toList ds p)
  (hV:DataW.TrodVars enc Tryz.prog W (fun _=>true) s.vars gs q) (hb:before=p++q) (hv:s.vars=[]) (hts:∀ t∈f.params.toList,t<Tryz.prog.types.size) (hr:f.resultTypes=#[KY])
  (hs:(s.fn H (ds++gs)).results=[.lit (.bool true)]) (ha:(s.fn H (ds++gs)).args=ds) (hsv:(s.fn H (ds++gs)).vars=[]) (hI:Inv W [] [] (Ms W) W') :
  s.post enc Tryz.prog f false true false false W args (.bool true) W':=by
 have hsame:∀ b,b<W.heap.size->W'.heap[b]?=W.heap[b]?:=fun b hb=>hI.same b hb
 have hlt:=hW.lt
 rw [hv] at hV
 obtain ⟨hg,hq⟩:=trodVars_none hV
 subst hq
 rw [List.append_nil] at hb
 subst hb
 have hA':=IV (W':=W') hA fun x hx=>QI hsame (hlt x hx)
 refine ⟨ds,gs,before,[],before,[],hW,?_,?_,?_,M6 hI.os hI.output hsame,fun h=>by cases h⟩
 ·rw [hs,hr]
  exact trodAll_mk1 (shut_bool l8 true)
 ·rw [ha]
  exact DataW.TrodAll.respare Tryz.kids Tryz.full hts hA' fun x hx=>by simpa using hlt x hx
 ·rw [hv,hsv]
  rfl
end
end
end Go.Proofs.YtfcbhfjomgopbaaGreat
