/- spec.DrawModelClosed; FnModelLeast returns true, whatever bytes come in: the walk. -/
import Derived.Test.YtemmhhdnlbmicaaGreatZMg12
import Derived.Test.YtemmhhdnlbmicaaGreatZMg1
namespace Go.Proofs.YtemmhhdnlbmicaaGreat
open Go Go.RowKit
theorem Lm:∀ (l:List T) (i:Nat) (g:T),wL (l.set i g)<=wL l+wT g
 | [],i,g=>by simp [wL]
 | t::l,0,g=>by simp only [List.set_cons_zero,wL]; omega
 | t::l,i+1,g=>by
  have:=Lm l i g
  simp only [List.set_cons_succ,wL]
  omega
theorem LQ {S:az}:∀ {Ls:List bI} (_:Ins S Ls.flatten) {i:Nat} (h:i<Ls.length),Ins S Ls[i]:=
 fun hi _ h x hx=>hi x (List.mem_flatten.2 ⟨_,List.getElem_mem h,hx⟩)
section
variable {br:Nat} {sl:Value} {ys:List Nat} {S:az} {v:Value}
attribute [local irreducible] Run CondV aj bd
abbrev NF (v':Value) (I':List Item) (S':az):Prop:=I'=[]/\∃ u f q fs,v'=.tuple #[u,f]/\RdSl S' 5 (RdC S') u q/\wP q<=1048576/\RdSl S' 4 (RdT S') f fs/\wL fs<=1048576
theorem nv (h:RdSl S 1 ku v ys):Tri Tryz.prog pU [v] [] S NF:=by
 intro w hI
 refine ma ?_
 unfold iU
 refine Run.call0E EG DD hI (HN h) fun v1 I' S1 w'=>?_
 rintro ⟨rfl,br,sl,ys',rfl,rfl,hrd⟩ _ hI
 have hI:Inv w [] [rdI br sl 0] S1 w':=hI
 refine Run.callL xV xW hI (vm (p:=0) hrd (by omega)) rfl fun v2 I' S2 w'=>?_
 rintro ⟨p1,hp1,rfl,ps,hps,hlp,h0⟩ hE2 hI
 have hI:Inv w [] [rdI br sl p1] S2 w':=hI
 refine ⟨fun t w'=>∃ (p2:Nat) (S3:az) (q:List C),p2<=100000/\Ext w.heap.size [] S1 S3/\RdSl S3 5 (RdC S3) t q/\wP q<=1048576/\Inv w [] [rdI br sl p2] S3 w',?_,?_⟩
 ·refine Run.callL bY bX hI (dR (n:=4) (hrd.monoU hE2.1) (by omega) (by omega)) rfl fun v' I' S2 w'=>?_
  rintro ⟨rfl,rfl,k,hk,rfl⟩ _ hI
  refine bO ?_
  refine bk (fun _=>?_) (fun _=>⟨p1+1,_,ps,by omega,hE2,hps,by have:=hlp.le; omega,hI⟩)
  refine Run.callL vk u5 hI (tb (m:=200) (p:=p1+1) (hrd.monoU hE2.1) hps ⟨by have:=hlp.1; omega,hlp.2⟩ h0 (by omega) (by omega)) rfl fun v3 I' S5 w'=>?_
  rintro ⟨p3,hp3,rfl,q2,hr2,hq2⟩ hE5 hI
  exact ⟨p3,S5,q2,by omega,hE2.trans hE5,hr2,by have:=hq2.le; omega,hI⟩
 intro t5 _ _ _ _ _ _ w'
 rintro ⟨p2,S3,q,hp2,hE3,hq,hwq,hI⟩
 refine vf hI (by kernel_rfl) rfl (by omega) fun vn S4 w' hE4 hv hI=>?_
 have hq:=hq.monoC hE4.1
 have hE4:=hE3.trans hE4
 refine Run.callL ft fq hI (jz (p:=p2) (hrd.monoU hE4.1) hv (by decide) (by omega)) rfl fun v' I' S4 w'=>?_
 rintro ⟨rfl,rfl,r,hr,rfl⟩ _ hI
 have hI:Inv w [] [rdI br sl (p2+1)] S4 w':=hI
 refine Run.call0E yr yv hI (rB hq hwq r) fun v' I' S5 w'=>?_
 rintro ⟨f,M,rfl,rfl,hT⟩ hE5 hI
 refine bb (v:=f) rfl ?_
 refine bb (v:=.bool (dx q r).2) rfl ?_
 have hsw:=(GP (fun h=>r4 h) (p:=q) r)
 obtain ⟨zs,hzs⟩:∃ zs,zs=(dx q r).1:=⟨_,rfl⟩
 rw [<- hzs] at hT hsw
 have hq:=hq.monoC hE5.1
 have hE5:=hE4.trans hE5
 obtain ⟨fa,cap,rfl,hlc,hcm,hx⟩:=hT
 rcases hx with ⟨hz,rfl⟩|⟨b,c,E,Ls,rfl,rfl,hLs,hsz,hel⟩
 ·subst hz
  refine ⟨fun w'=>Inv w [] [] S5 w',?_,?_⟩
  ·refine ⟨fun t w'=>t=.bool false/\Inv w [] [] S5 w',?_,?_⟩
   ·refine fx av ?_
    refine ki (by simp) ?_
    repeat (first|refine ad ?_|refine af (by decide) ?_|refine ac ?_|refine ah ?_|refine ag ?_)
    exact ⟨rfl,hI.nil⟩
   intro t33 _ _ _ _ _ _ _ w'
   rintro ⟨rfl,hI⟩
   exact a8 (fun hb=>by cases hb) (fun _=>hI)
  intro _ _ _ _ _ _ _ _ _ _ _ _ _ _ w' hI
  exact ⟨_,[],S5,rfl,hI,hE5,rfl,_,_,q,[],rfl,hq,hwq,⟨fa,cap,rfl,hlc,hcm,.inl rfl⟩,by simp [wL]⟩
 have hI:Inv w [] ([rdI br sl (p2+1),.blk b (.cells c E)]++bP Ls.flatten) S5 w':=hI
 obtain ⟨S6,hI,hE6,hins⟩:=hI.pubExt
 have hq:=hq.monoC hE6.1
 have hE6:=hE5.trans hE6
 have hR:∀ i (h:i<zs.length),RdT S6 (bu c (i * 4) 4) zs[i]:=fun i h=>(hel i h (by omega)).rd (LQ hins (by omega))
 have hcs:zs.length * 4<=c.size:=by omega
 refine ⟨fun w'=>∃ (p3:Nat) (S7:az) (c':Array Value) (fs:List T),fs.length=zs.length/\wL fs<=1048576/\Ext w.heap.size [] S1 S7/\Sle S6 S7/\(∀ i (h:i<fs.length),RdT S7 (bu c' (i * 4) 4) fs[i])/\Inv w [] ([rdI br sl p3]++[.blk b (.cells c' E)]) S7 w',?_,?_⟩
 ·refine ⟨fun t w'=>∃ (p3:Nat) (d:Bool),t=.bool d/\p3<=p2+2/\(d=true->0<zs.length)/\Inv w [] [rdI br sl p3,.blk b (.cells c E)] S6 w',?_,?_⟩
  ·refine fx av ?_
   refine d6 ?_
   cases hd:decide ((0:Int)<(zs.length:Int)) with
   | false=>
    repeat (first|refine ad ?_|refine af (by decide) ?_|refine ac ?_|refine ah ?_|refine ag ?_)
    exact ⟨p2+1,false,rfl,by omega,(fun h=>by cases h),hI⟩
   | true=>
    have hd:=of_decide_eq_true hd
    repeat (first|refine ad ?_|refine af (by decide) ?_|refine ac ?_|refine ah ?_|refine ag ?_)
    have hI:Inv w [] [.blk b (.cells c E),rdI br sl (p2+1)] S6 w':=hI.last 0 rfl
    refine Run.callL bY bX hI (dR (n:=4) (hrd.monoU hE6.1) (by omega) (by omega)) rfl fun v' I' S6 w'=>?_
    rintro ⟨rfl,rfl,k,hk,rfl⟩ _ hI
    refine bO ?_
    repeat (first|refine ad ?_|refine af (by decide) ?_|refine ac ?_|refine ah ?_|refine ag ?_)
    exact ⟨p2+2,_,rfl,by omega,fun _=>by omega,hI.last 0 rfl⟩
  intro t33 _ _ _ _ _ _ _ w'
  rintro ⟨p3,d,rfl,hp3,hd,hI⟩
  refine a8 (fun hb=>?_) (fun _=>⟨p3,S6,c,zs,rfl,by omega,hE6,Sle.refl _,hR,hI⟩)
  have h0z:=hd hb
  have hI:Inv w [] [.blk b (.cells c E),rdI br sl p3] S6 w':=hI.last 0 rfl
  refine Run.callL Eg Dt hI (Bp (p:=p3) (hrd.monoU hE6.1) (by omega)) rfl fun v4 I' S7 w'=>?_
  rintro ⟨rfl,cs,t,rfl,hcs1,hwt⟩ hE7 hI
  have hI:Inv w [] [.blk b (.cells c E),rdI br sl (p3+1)] S7 w':=hI
  have hE7':=hE6.trans hE7
  refine Run.callL lx lD hI (jV (p:=p3+1) (hrd.monoU hE7'.1) hcs1 (by omega) (by omega)) rfl fun v5 I' S8 w'=>?_
  rintro ⟨p4,hp4,rfl,ds,g,rfl,hds,hwg⟩ hE8 hI
  have hI:Inv w [] [.blk b (.cells c E),rdI br sl p4] S8 w':=hI
  have hl4:=hds.length
  refine bi (i:=0) av h0z ?_
  refine el hI 0 (v:=.agg ds.toArray) (n:=4) (by simpa [Value.cells] using hl4) (by decide +kernel) rfl (by omega) (by simpa [Value.cells] using hds.one) fun w' hI=>?_
  have hle:=(hE7.trans hE8).1
  refine ⟨p4,S8,bp c 0 ds,zs.set 0 g,by simp,by have:=Lm zs 0 g; omega,hE7'.trans hE8,hle,fun i hi=>?_,?_⟩
  ·rw [List.length_set] at hi
   by_cases hi0:i=0
   ·subst hi0
    rw [List.getElem_set_self]
    have:=gt (c:=c) (o:=0) (vs:=ds) (by omega)
    rw [hl4] at this
    rw [Nat.zero_mul,this]
    exact hds
   ·rw [List.getElem_set_ne (by omega),gW (by omega) (.inr (by omega))]
    exact (hR i hi).mono hle
  ·have hI:Inv w [] [.blk b (.cells (bp c 0 ds) E),rdI br sl p4] S8 w':=by
    have e:bp c (0+0 * 4) (Value.agg ds.toArray).cells.toList=bp c 0 ds:=by simp [Value.cells]
    rw [<- e]
    exact hI
   exact hI.last 0 rfl
 intro _ _ _ _ _ _ _ _ _ _ _ _ _ _ w'
 rintro ⟨p3,S7,c',fs,hfl,hwf,hE7,hle7,hR7,hI⟩
 obtain ⟨S8,hI,hE8,hb8⟩:=hI.pub1
 refine ⟨_,[],S8,rfl,hI.nil,hE7.trans hE8,rfl,_,_,q,fs,rfl,hq.monoC (hle7.trans hE8.1),hwq,⟨_,cap,by rw [hfl],by omega,hcm,.inr ⟨b,0,c',E,_,rfl,hb8,fun i hi=>?_⟩⟩,hwf⟩
 rw [Nat.zero_add]
 exact (hR7 i hi).mono hE8.1
theorem u2 (h:RdSl S 1 ku v ys):Pure Tryz.prog dF [v] S (.bool true):=by
 intro w hI
 refine pe ?_
 unfold kW;dsimp only
 refine a9 h eG ?_
 refine d6 ?_
 refine bk (fun _=>done hI rfl) (fun _=>?_)
 refine Run.call0E oU oK hI (nv h) fun t11 I' S1 w'=>?_
 rintro ⟨rfl,u,f,q,fs,rfl,hq,hwq,hf,hwf⟩ hE1 hI
 have hI:Inv w [] [] S1 w':=hI
 refine bb (v:=u) rfl ?_
 refine bb (v:=f) rfl ?_
 refine Run.callPure vM uR hI (pN hq hf hwq hwf) fun w' hI=>?_
 refine Run.pubTreeB yB yx hI (rh hq hwq) fun a S2 w' hle2 ha hI=>?_
 have hq:=hq.monoC hle2
 have hf:=hf.monoT hle2
 have hle:=hE1.1.trans hle2
 refine bb (v:=a) rfl ?_
 refine bb (v:=.bool (dx q 61).2) rfl ?_
 have hla:=ha.le
 simp only [maxLen] at hla
 refine ⟨fun t w'=>t=.bool (!ja q fs || !(dx q 61).2)/\Inv w [] [] S2 w',?_,?_⟩
 ·refine Run.callPure l6 lY hI (ji hq hf hwq hwf) fun w' hI=>?_
  refine LA yE ?_
  rw [beq_self_eq_true]
  repeat (first|refine ad ?_|refine af (by decide) ?_|refine ac ?_|refine ah ?_|refine ag ?_)
  refine cF ?_
  cases hm:ja q fs with
  | false=>
   repeat (first|refine ad ?_|refine af (by decide) ?_|refine ac ?_|refine ah ?_|refine ag ?_)
   exact ⟨rfl,hI⟩
  | true=>
   repeat (first|refine ad ?_|refine af (by decide) ?_|refine ac ?_|refine ah ?_|refine ag ?_)
   refine cF ?_
   repeat (first|refine ad ?_|refine af (by decide) ?_|refine ac ?_|refine ah ?_|refine ag ?_)
   exact ⟨rfl,hI⟩
 intro t37 _ _ _ _ _ _ _ _ _ _ _ _ w'
 rintro ⟨rfl,hI⟩
 refine a8 (fun _=>?_) (fun hbb=>?_)
 ·refine Run.callPure l6 lY hI (ji hq hf hwq hwf) fun w' hI=>?_
  refine Nh yE ?_
  rw [beq_self_eq_true]
  exact iR hI hle rfl
 rw [Bool.or_eq_false_iff,Bool.not_eq_false',Bool.not_eq_false'] at hbb
 obtain ⟨hm,hok⟩:=hbb
 have hsub:=Gn hm hok
 refine ⟨fun t w'=>∃ k:Nat,k<=(dx q 61).1.length/\t=.int .i64 k/\Inv w [] [] S2 w',fun t _=>(dx q 61).1.length - (intOf t).toNat,⟨0,Nat.zero_le _,rfl,hI⟩,?_⟩
 intro t8 _ _ _ _ _ _ _ _ _ _ _ _ _ _ w'
 rintro ⟨k,hk,rfl,hI⟩
 refine a9 ha av ?_
 refine bR ?_
 refine bk (fun hki=>?_) (fun _=>iR hI hle rfl)
 have hk':k<(dx q 61).1.length:=by omega
 refine dG hI ha av ai hk' (fun _ _=>RdT.length) fun cs hcs=>?_
 refine Run.callPure GM FT hI (Ef hf hcs (hsub _ (List.getElem_mem hk'))) fun w' hI=>?_
 refine cF ?_
 refine a8 (fun hb=>by cases hb) (fun _=>?_)
 refine bL (by omega) ?_
 exact ⟨⟨k+1,hk',rfl,hI⟩,by simp [intOf]; omega⟩
end
end Go.Proofs.YtemmhhdnlbmicaaGreat

/- What every row of this seat owes beside its walk: the arguments read again as they did, and nothing that was there has turned. -/
namespace Go.Proofs.YtemmhhdnlbmicaaGreat
open Go Go.ChangeShapes Go.WideShapes Go.ChangeAt Go.RowKit

theorem Tryz.own:ownKnob Tryz.prog.godebug=none:=by kernel_rfl
theorem Tryz.kids:Kids Tryz.prog (·<Tryz.prog.types.size):=kids_rows (by kernel_rfl) (by kernel_rfl)
theorem Tryz.full:∀ t e,t<Tryz.prog.types.size->Tryz.prog.underlying t=some (.slice e)->0<Tryz.prog.cellsOf e:=slices_full_of Tryz.prog (by kernel_rfl)
section
variable {H:Type} {enc:TypeId × Value->H} {W W':World}
theorem Hf {P:Program}:∀ {ts:List TypeId} {vs:List Value} {ds:List (DataW H)} {ps:List MemPlace},DataW.TrodAll enc P W 0 (fun _=>true) true ts vs ds ps->(∀ p∈ps,W.sameAt W' p)->
  DataW.TrodAll enc P W' 0 (fun _=>true) true ts vs ds ps
 | [],[],[],_,h,_=>h
 | _::_,_::_,_::_,_,⟨p,q,⟨n,h1⟩,h2,e⟩,hs=>
  ⟨p,q,⟨n,DataW.trod_carry n _ _ _ h1 fun x hx=>hs x (by rw [e]; exact List.mem_append_left _ hx)⟩,Hf h2 fun x hx=>hs x (by rw [e]; exact List.mem_append_right _ hx),e⟩
theorem MV {p:MemPlace} (h:∀ b,b<W.heap.size->W'.heap[b]?=W.heap[b]?) (hp:p.block<W.heap.size):W.sameAt W' p:=by
 cases p with
 | cell b off=>simp only [World.sameAt,World.cell?]; rw [h b hp]
 | map b=>exact h b hp
/- a function of the program whose walk ends with 'true' and with all that was there as it was: the row's 'post' -/
theorem Kt {f:Func} {s:ChangeSpec} {args:Array Value} {ds gs:List (DataW H)} {before p q:List MemPlace}
  (hW:DataW.Whole enc Tryz.prog f.params.toList s.vars false W args.toList ds gs before) (hA:DataW.TrodAll enc Tryz.prog W 0 (fun _=>true) true f.params.toList args.toList ds p)
  (hV:DataW.TrodVars enc Tryz.prog W (fun _=>true) s.vars gs q) (hb:before=p++q) (hv:s.vars=[]) (hts:∀ t∈f.params.toList,t<Tryz.prog.types.size) (hr:f.resultTypes=#[lB])
  (hs:(s.fn H (ds++gs)).results=[.lit (.bool true)]) (ha:(s.fn H (ds++gs)).args=ds) (hsv:(s.fn H (ds++gs)).vars=[]) (hI:Inv W [] [] (Ju W) W') :
  s.post enc Tryz.prog f false true false false W args (.bool true) W':=by
 have hsame:∀ b,b<W.heap.size->W'.heap[b]?=W.heap[b]?:=fun b hb=>hI.same b hb
 have hlt:=hW.lt
 rw [hv] at hV
 obtain ⟨hg,hq⟩:=trodVars_none hV
 subst hq
 rw [List.append_nil] at hb
 subst hb
 have hA':=Hf (W':=W') hA fun x hx=>MV hsame (hlt x hx)
 refine ⟨ds,gs,before,[],before,[],hW,?_,?_,?_,KV hI.os hI.output hsame,fun h=>by cases h⟩
 ·rw [hs,hr]
  exact trodAll_mk1 (shut_bool yE true)
 ·rw [ha]
  exact DataW.TrodAll.respare Tryz.kids Tryz.full hts hA' fun x hx=>by simpa using hlt x hx
 ·rw [hv,hsv]
  rfl
end

end Go.Proofs.YtemmhhdnlbmicaaGreat
