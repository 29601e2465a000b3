/- impl.RenumberClause. -/
import Derived.Test.YtmnnpgdeecnfpaaGreatZPg8
import Derived.Test.YtmnnpgdeecnfpaaGreatZPg4
namespace Go.Proofs.YtmnnpgdeecnfpaaGreat
open Go Go.RowKit
section
variable {P:Program} {w:World} {K:Value->World->Prop}
attribute [local irreducible] Run
theorem CL {T ty e:TypeId} {k h m len cap:Nat} {a:Option Addr} (hT:sliceOf P T=some (e,k)) (hh:h<=m) (hm:m<=cap) (hk:K (.slice (if m=0 then a else a.map (·.add (0 * k))) h m) w) :
  Run P (sOp (.slice T (.const (.slice a len cap)) none (some (.const (.int .i64 h))) (some (.const (.int .i64 m)))) ty) w K:=by
 obtain ⟨hu,i,hi,hs⟩:=gG hT
 refine Run.of ?_ hk
 simp [sOp,execOp,ev0,evE,Instr.sliceAt,Instr.slice,Instr.sliceBounds,run_underlying hu,ew hh,ew hm,sizeOf,typeInfo,hi]
end
section
attribute [local irreducible] Run CondV GuardV LoadV
theorem Br {α:Type} {R:List Value->α->Prop} {S:Store} {v:Value} {xs:List α} (h:RdSl S 4 R v xs):∃ r,RdSl S 4 R r xs/\Pure Tryz.prog uK [v] S r:=by
 obtain ⟨a,cap,rfl,hl,hc,hx⟩:=id h
 have e1:∀ m:Nat,(if m=0 then a else a.map (·.add (0 * 4)))=a:=by
  intro m
  split
  ·rfl
  ·cases a <;> simp [Addr.add]
 refine ⟨.slice a xs.length xs.length,⟨a,xs.length,rfl,Nat.le_refl _,by omega,hx⟩,fun w hI=>?_⟩
 refine nF ?_
 unfold kf
 refine r_lenSl h aj ?_
 refine r_lenSl h aj ?_
 refine CL aj (Nat.le_refl _) hl ?_
 rw [e1]
 exact done hI rfl
theorem ki (n:Int) (S:Store):Pure Tryz.prog wY [.int .i64 n] S (.agg #[.int .i64 1,.int .i64 n,.string ⟨#[]⟩,.slice none 0 0]):=by
 intro w hI
 refine pU ?_
 unfold lm
 refine r_alloc hI aE fun b1 w' hI=>?_
 have hb:∀ {K:Value->World->Prop} {w':World},K (.agg #[.int .i64 1,.int .i64 n,.string ⟨#[]⟩,.slice none 0 0]) w'->Run Tryz.prog (sBuild ab [(0,.int .i64 1),(1,.int .i64 n)]) w' K:=by
  intro K w' hk
  refine Run.of (v:=.agg #[.int .i64 1,.int .i64 n,.string ⟨#[]⟩,.slice none 0 0]) (w':=w') ?_ hk
  unfold sBuild
  rw [Sem.run_bind,run_build w' ab _ #[.int .i64 1,.int .i64 n,.string ⟨#[]⟩,.slice none 0 0] (by kernel_rfl),Result.andThen_ok]
  rfl
 refine hb ?_
 refine ao hI 0 rfl ag rfl rfl (by simp [Value.oneCell']) fun w' hI=>?_
 refine loadV_W hI 0 ag rfl rfl ?_
 exact done hI rfl
theorem mD {vs:List Int} {S:Store} {g:Nat} {vv:Value} {E:TypeId} (n:Int) (hS:S g=some (.cells #[vv] E)) (hv:RdSl S 1 gr vv vs) :
  Pure Tryz.prog cu [.int .i64 n,.pointer (some ⟨g,0,none⟩)] S (.agg #[.int .i64 1,.int .i64 (Dp vs n),.string ⟨#[]⟩,.slice none 0 0]):=by
 intro w hI
 refine jY ?_
 unfold eX
 refine r_alloc hI aE fun b1 w' hI=>?_
 refine r_load sa (by rw [hI.cellS hS]; rfl) ?_
 refine Run.callPure jD jM hI (ip n hv) fun w' hI=>?_
 refine Run.callPure lw ll hI (ki _ S) fun w' hI=>?_
 refine ao hI 0 rfl ag rfl rfl (by simp [Value.oneCell']) fun w' hI=>?_
 refine loadV_W hI 0 ag rfl rfl ?_
 exact done hI rfl
theorem ur (vs:List Int) (hvl:vs.length<=1000000000):∀ (t:T) (S:Store) (cs:List Value) (g:Nat) (vv:Value) (E:TypeId),RdT S cs t->S g=some (.cells #[vv] E)->RdSl S 1 gr vv vs->wT t<=1048576->
  Tri Tryz.prog ky [.agg cs.toArray,fv cu [.pointer (some ⟨g,0,none⟩)]] [] S (vR S (gO vs t)):=by
 refine T.ind fun k n s ks ih0 S cs g vv E h hS hv hw=>?_
 have ih:∀ t∈ks,∀ (S:Store) (cs:List Value),RdT S cs t->S g=some (.cells #[vv] E)->RdSl S 1 gr vv vs->wT t<=1048576->
  Tri Tryz.prog ky [.agg cs.toArray,fv cu [.pointer (some ⟨g,0,none⟩)]] [] S (vR S (gO vs t)):=fun t ht S cs h1 h2 h3 h4=>ih0 t ht S cs g vv E h1 h2 h3 h4
 clear ih0
 intro w hI
 obtain ⟨kv,rfl,h1,h2,hs,hks⟩:=RdT.iff.1 h
 simp only [T.name,T.kids,T.kind,T.n] at h1 h2 hs hks ⊢
 simp only [wT] at hw
 have hir:=DC vs n
 refine hY ?_
 unfold gu
 refine r_box hI fun b2 w' hI=>?_
 refine r_alloc hI aE fun b4 w' hI=>?_
 refine r_fieldL hI 0 rfl aI aC rfl ?_
 refine r_eql ?_
 rw [gO]
 refine condP (fun hk1=>?_) (fun hk1=>?_)
 ·rw [if_pos hk1]
  refine r_fieldL hI 0 rfl aK aC rfl ?_
  refine Run.callVPure nr oi hI (mD n hS hv) fun w' hI=>?_
  refine ao hI 1 rfl ag rfl rfl (by simp [Value.oneCell']) fun w' hI=>?_
  refine loadV_W hI 1 ag rfl rfl ?_
  exact ⟨_,_,_,rfl,hI.pick [false,false],Ext.refl _ _ _,rfl,[_,_,_,_],[],rfl,rfl,TrT.iff.2 ⟨_,rfl,by simp [inI,T.kind],by simp only [inI,T.n]; omega,by rw [T.name]; decide +kernel,TrSl.nil (by simp [maxLen])⟩⟩
 rw [if_neg hk1]
 refine r_fieldL hI 0 rfl aq al rfl ?_
 refine cv hI 0 rfl aq al rfl rfl rfl fun w' hI=>?_
 refine r_lenSl hks aj ?_
 have hI:Inv w [] [.blk b4 (.cells #[.int .i64 0,.int .i64 0,.string ⟨#[]⟩,.slice none 0 0] ab),.blk b2 (.cells #[.int .i64 k,.int .i64 n,.string s,.slice none 0 0] ab)] S w':=hI.perm (List.Perm.swap _ _ _)
 have hI:=hI.rowNil ab 4
 refine ⟨fun i w'=>∃ (j:Nat) (kvc:Value) (Ls:List aD) (css:List (List Value)),j<=ks.length/\i=.int .i64 j/\Grown 4 TrT Ls css (dq vs (ks.take j))/\
   Inv w [] (.blk b4 (.cells #[.int .i64 0,.int .i64 0,.string ⟨#[]⟩,.slice none 0 0] ab)::.blk b2 (.cells #[.int .i64 k,.int .i64 n,.string s,kvc] ab)::au kvc ab 4 css::az Ls.flatten) S w',
  fun i _=>ks.length - (intOf i).toNat,⟨0,_,[],[],Nat.zero_le _,rfl,Grown.nil _ _,hI⟩,?_⟩
 intro t20 _ _ _ _ _ _ _ _ _ _ _ _ _ w'
 rintro ⟨j,kvc,Ls,css,hj,rfl,hg,hI⟩
 refine r_lss ?_
 refine condP (fun hji=>?_) (fun hji=>?_)
 ·have hj':j<ks.length:=by omega
  have hjl:(ks.take j).length=j:=by simp; omega
  have hcl:=hg.hc
  rw [pu] at hcl
  have hm:=List.getElem_mem hj'
  have hwm:=dP hm
  refine r_elem hI hks aj ag hj' (fun _ _=>RdT.length) fun cs0 hcs0=>?_
  refine r_alloc hI aE fun b7 w' hI=>?_
  have hI:=hI.perm (M:=.blk b7 _::(.blk b4 (.cells #[.int .i64 0,.int .i64 0,.string ⟨#[]⟩,.slice none 0 0] ab)::.blk b2 (.cells #[.int .i64 k,.int .i64 n,.string s,kvc] ab)::au kvc ab 4 css::az Ls.flatten)) (List.perm_append_comm (l₁:=[_]))
  refine ao hI 0 rfl ag (by simpa using hcs0.length) rfl (by simpa using hcs0.one) fun w' hI=>?_
  refine ⟨fun D x31 x30 x29 x28 x27 x26 x25 x24 w_=>(D 0=true->x24=.pointer (some ⟨b2,3,none⟩))/\(D 1=true->x25=kvc)/\(D 2=true->x26=.agg cs0.toArray)/\(D 3=true->x27=fv cu [.pointer (some ⟨g,0,none⟩)])/\(D 4=true->True)/\(D 5=true->True)/\(D 6=true->True)/\(D 7=true->x31=.pointer (some ⟨b2,3,none⟩))/\(D 8=true->True)/\∃ M cs7 b8,(D 4=true->x28=.agg cs7.toArray/\TrT M cs7 (gO vs ks[j]))/\(D 5=true->x29=.slice (some ⟨b8,0,none⟩) 1 1)/\(D 5=true->D 4=true)/\(D 6=true->D 5=true)/\(D 8=true->D 6=true)/\(D 8=true->D 1=true)/\Inv w [] (aA (.blk b7 (.cells cs0.toArray ab)) (.blk b4 (.cells #[.int .i64 0,.int .i64 0,.string ⟨#[]⟩,.slice none 0 0] ab)) (.blk b2 (.cells #[.int .i64 k,.int .i64 n,.string s,kvc] ab)) (.blk b2 (.cells #[.int .i64 k,.int .i64 n,.string s,x30] ab)) (au kvc ab 4 css) (au x30 ab 4 (css++[cs7])) (az Ls.flatten) M (.blk b8 (.cells cs7.toArray ab)) (D 4) (D 5) (D 6) (D 8)) S w_,⟨fun h=>Bool.noConfusion h,fun h=>Bool.noConfusion h,fun h=>Bool.noConfusion h,fun h=>Bool.noConfusion h,fun h=>Bool.noConfusion h,fun h=>Bool.noConfusion h,fun h=>Bool.noConfusion h,fun h=>Bool.noConfusion h,fun h=>Bool.noConfusion h,⟨[],[],0,fun h=>Bool.noConfusion h,fun h=>Bool.noConfusion h,fun h=>Bool.noConfusion h,fun h=>Bool.noConfusion h,fun h=>Bool.noConfusion h,fun h=>Bool.noConfusion h,by simpa [aA,az] using hI.draw⟩⟩,⟨?_,?_,?_,?_,?_,?_,?_,?_,?_,trivial⟩,?_⟩
  ·intro D hD_  x31 x30 x29 x28 x27 x26 x25 x24 w_
   rintro ⟨h0_,h1_,h2_,h3_,h4_,h5_,h6_,h7_,h8_,⟨M,cs7,b8,e7,e8,k8,k9,k11,k1,hI⟩⟩
   refine r_field aq ?_
   exact ⟨fun _=>rfl,h1_,h2_,h3_,h4_,h5_,h6_,h7_,h8_,⟨M,cs7,b8,e7,e8,k8,k9,k11,k1,hI⟩⟩
  ·intro D hD_ d0_0 x31 x30 x29 x28 x27 x26 x25 x24 w_
   rintro ⟨h0_,h1_,h2_,h3_,h4_,h5_,h6_,h7_,h8_,⟨M,cs7,b8,e7,e8,k8,k9,k11,k1,hI⟩⟩
   obtain rfl:=h0_ d0_0
   have f11:D 8=false:=Bool.eq_false_iff.2 fun h=>by rw [k1 h] at hD_; cases hD_
   refine r_loadL (b:=b2) hI 2 (c:=(#[.int .i64 k,.int .i64 n,.string s,kvc])) al (by rw [f11]; rfl) rfl ?_
   have k1:=fun (_:setD D 1 8=true)=>(rfl:setD D 1 1=true)
   exact ⟨h0_,fun _=>rfl,h2_,h3_,h4_,h5_,h6_,h7_,h8_,⟨M,cs7,b8,e7,e8,k8,k9,k11,k1,hI⟩⟩
  ·intro D hD_  x31 x30 x29 x28 x27 x26 x25 x24 w_
   rintro ⟨h0_,h1_,h2_,h3_,h4_,h5_,h6_,h7_,h8_,⟨M,cs7,b8,e7,e8,k8,k9,k11,k1,hI⟩⟩
   refine r_loadW hI 0 ag rfl (by simpa using hcs0.length) ?_
   exact ⟨h0_,h1_,fun _=>rfl,h3_,h4_,h5_,h6_,h7_,h8_,⟨M,cs7,b8,e7,e8,k8,k9,k11,k1,hI⟩⟩
  ·intro D hD_  x31 x30 x29 x28 x27 x26 x25 x24 w_
   rintro ⟨h0_,h1_,h2_,h3_,h4_,h5_,h6_,h7_,h8_,⟨M,cs7,b8,e7,e8,k8,k9,k11,k1,hI⟩⟩
   exact ⟨h0_,h1_,h2_,fun _=>rfl,h4_,h5_,h6_,h7_,h8_,⟨M,cs7,b8,e7,e8,k8,k9,k11,k1,hI⟩⟩
  ·intro D hD_ d2_0 d3_1 x31 x30 x29 x28 x27 x26 x25 x24 w_
   rintro ⟨h0_,h1_,h2_,h3_,h4_,h5_,h6_,h7_,h8_,⟨M,cs7,b8,e7,e8,k8,k9,k11,k1,hI⟩⟩
   obtain rfl:=h2_ d2_0
   obtain rfl:=h3_ d3_1
   have f8:D 5=false:=Bool.eq_false_iff.2 fun h=>by rw [k8 h] at hD_; cases hD_
   have f9:D 6=false:=Bool.eq_false_iff.2 fun h=>by rw [k9 h] at f8; cases f8
   have f11:D 8=false:=Bool.eq_false_iff.2 fun h=>by rw [k11 h] at f9; cases f9
   rw [hD_,f8,f9,f11] at hI
   refine Run.call0 de cU hI (ih _ (List.getElem_mem hj') S cs0 hcs0 hS hv (by omega)) fun v' I' S w_=>?_
   rintro ⟨rfl,cs7,M,rfl,rfl,hT⟩ _ hI
   have e7:setD D 4 4=true->Value.agg cs7.toArray=Value.agg cs7.toArray/\TrT M cs7 (gO vs ks[j]):=fun _=>⟨rfl,hT⟩
   have k8:=fun (_:setD D 4 5=true)=>(rfl:setD D 4 4=true)
   have hI:Inv w [] (aA (.blk b7 (.cells cs0.toArray ab)) (.blk b4 (.cells #[.int .i64 0,.int .i64 0,.string ⟨#[]⟩,.slice none 0 0] ab)) (.blk b2 (.cells #[.int .i64 k,.int .i64 n,.string s,kvc] ab)) (.blk b2 (.cells #[.int .i64 k,.int .i64 n,.string s,x30] ab)) (au kvc ab 4 css) (au x30 ab 4 (css++[cs7])) (az Ls.flatten) M (.blk b8 (.cells cs7.toArray ab)) true (D 5) (D 6) (D 8)) S w_:=by
    rw [f8,f9,f11]
    simpa [aA] using hI
   exact ⟨h0_,h1_,h2_,h3_,fun _=>by first|assumption|trivial,h5_,h6_,h7_,h8_,⟨M,cs7,b8,e7,e8,k8,k9,k11,k1,hI⟩⟩
  ·intro D hD_ d4_0 x31 x30 x29 x28 x27 x26 x25 x24 w_
   rintro ⟨h0_,h1_,h2_,h3_,h4_,h5_,h6_,h7_,h8_,⟨M,cs7,b8,e7,e8,k8,k9,k11,k1,hI⟩⟩
   have g4_:=h4_ d4_0
   have f9:D 6=false:=Bool.eq_false_iff.2 fun h=>by rw [k9 h] at hD_; cases hD_
   have f11:D 8=false:=Bool.eq_false_iff.2 fun h=>by rw [k11 h] at f9; cases f9
   obtain ⟨q7,hT⟩:=e7 d4_0
   subst q7
   rw [d4_0,hD_,f9,f11] at hI
   refine r_slice1 hI aJ (by simp [Value.cells,hT.length]) (by omega) (by omega) fun b8 w_ hI=>?_
   have e7:setD D 5 4=true->Value.agg cs7.toArray=Value.agg cs7.toArray/\TrT M cs7 (gO vs ks[j]):=fun _=>⟨rfl,hT⟩
   have e8:=fun (_:setD D 5 5=true)=>(rfl:Value.slice (some ⟨b8,0,none⟩) 1 1=_)
   have k8:=fun (_:setD D 5 5=true)=>d4_0
   have k9:=fun (_:setD D 5 6=true)=>(rfl:setD D 5 5=true)
   have hI:Inv w [] (aA (.blk b7 (.cells cs0.toArray ab)) (.blk b4 (.cells #[.int .i64 0,.int .i64 0,.string ⟨#[]⟩,.slice none 0 0] ab)) (.blk b2 (.cells #[.int .i64 k,.int .i64 n,.string s,kvc] ab)) (.blk b2 (.cells #[.int .i64 k,.int .i64 n,.string s,x30] ab)) (au kvc ab 4 css) (au x30 ab 4 (css++[cs7])) (az Ls.flatten) M (.blk b8 (.cells cs7.toArray ab)) (D 4) true (D 6) (D 8)) S w_:=by
    rw [d4_0,f9,f11]
    simpa [aA,Value.cells] using hI
   exact ⟨h0_,h1_,h2_,h3_,h4_,fun _=>by first|assumption|trivial,h6_,h7_,h8_,⟨M,cs7,b8,e7,e8,k8,k9,k11,k1,hI⟩⟩
  ·intro D hD_ d1_0 d5_1 d4_2 x31 x30 x29 x28 x27 x26 x25 x24 w_
   rintro ⟨h0_,h1_,h2_,h3_,h4_,h5_,h6_,h7_,h8_,⟨M,cs7,b8,e7,e8,k8,k9,k11,k1,hI⟩⟩
   obtain rfl:=h1_ d1_0
   have g5_:=h5_ d5_1
   have f11:D 8=false:=Bool.eq_false_iff.2 fun h=>by rw [k11 h] at hD_; cases hD_
   have q8:=e8 d5_1
   subst q8
   obtain ⟨_,hT⟩:=e7 d4_2
   rw [d4_2,d5_1,hD_,f11] at hI
   have hblk:((aA (.blk b7 (.cells cs0.toArray ab)) (.blk b4 (.cells #[.int .i64 0,.int .i64 0,.string ⟨#[]⟩,.slice none 0 0] ab)) (.blk b2 (.cells #[.int .i64 k,.int .i64 n,.string s,x25] ab)) (.blk b2 (.cells #[.int .i64 k,.int .i64 n,.string s,x30] ab)) (au x25 ab 4 css) (au x30 ab 4 (css++[cs7])) (az Ls.flatten) M (.blk b8 (.cells cs7.toArray ab)) true true false false))[4+(az Ls.flatten).length+(az M).length]?=some (.blk b8 (.cells cs7.toArray ab)):=by
    have e4:4+(az Ls.flatten).length+(az M).length=((az Ls.flatten).length+(az M).length)+1+1+1+1:=by omega
    rw [e4]
    simp only [aA,List.getElem?_cons_succ]
    rw [List.getElem?_append_right (by omega),Nat.add_sub_cancel_left,List.getElem?_append_right (Nat.le_refl _),Nat.sub_self]; rfl
   refine r_append hI 3 cs7 aJ (by omega) rfl (by rw [hT.length]) (m:=1) (o:=0) ?_ hT.one (by omega) (by omega) fun v' w_ hI=>?_
   ·intro i u hi
    rw [hI.cellL hblk,Nat.zero_add]
    simpa using hi
   rw [ct] at hI
   have k9:=fun (_:setD D 6 6=true)=>d5_1
   have k11:=fun (_:setD D 6 8=true)=>(rfl:setD D 6 6=true)
   have hI:Inv w [] (aA (.blk b7 (.cells cs0.toArray ab)) (.blk b4 (.cells #[.int .i64 0,.int .i64 0,.string ⟨#[]⟩,.slice none 0 0] ab)) (.blk b2 (.cells #[.int .i64 k,.int .i64 n,.string s,x25] ab)) (.blk b2 (.cells #[.int .i64 k,.int .i64 n,.string s,v'] ab)) (au x25 ab 4 css) (au v' ab 4 (css++[cs7])) (az Ls.flatten) M (.blk b8 (.cells cs7.toArray ab)) (D 4) (D 5) true (D 8)) S w_:=by
    rw [d4_2,d5_1,f11]
    exact hI
   exact ⟨h0_,h1_,h2_,h3_,h4_,h5_,fun _=>by first|assumption|trivial,h7_,h8_,⟨M,cs7,b8,e7,e8,k8,k9,k11,k1,hI⟩⟩
  ·intro D hD_ d0_0 d1_1 d2_2 d3_3 d4_4 d5_5 d6_6 x31 x30 x29 x28 x27 x26 x25 x24 w_
   rintro ⟨h0_,h1_,h2_,h3_,h4_,h5_,h6_,h7_,h8_,⟨M,cs7,b8,e7,e8,k8,k9,k11,k1,hI⟩⟩
   refine r_field aq ?_
   exact ⟨h0_,h1_,h2_,h3_,h4_,h5_,h6_,fun _=>rfl,h8_,⟨M,cs7,b8,e7,e8,k8,k9,k11,k1,hI⟩⟩
  ·intro D hD_ d7_0 d6_1 d6_2 d0_3 d1_4 d2_5 d3_6 d4_7 d5_8 d6_9 x31 x30 x29 x28 x27 x26 x25 x24 w_
   rintro ⟨h0_,h1_,h2_,h3_,h4_,h5_,h6_,h7_,h8_,⟨M,cs7,b8,e7,e8,k8,k9,k11,k1,hI⟩⟩
   obtain rfl:=h7_ d7_0
   have g6_:=h6_ d6_1
   rw [d4_7,d5_8,d6_1,hD_] at hI
   obtain ⟨va,vn,vc,hv9⟩:=Inv.rowSlice hI 3 rfl
   refine r_store hI 2 (n:=1) (by rw [hv9]; rfl) (by decide +kernel) rfl (by simp) (by rw [hv9]; simp [Value.cells,Value.oneCell']) fun w_ hI=>?_
   have hcl9:Value.cells x30=#[x30]:=by rw [hv9]; rfl
   rw [hcl9] at hI
   have k1:=fun (_:setD D 8 8=true)=>d1_4
   have k11:=fun (_:setD D 8 8=true)=>d6_1
   have hI:Inv w [] (aA (.blk b7 (.cells cs0.toArray ab)) (.blk b4 (.cells #[.int .i64 0,.int .i64 0,.string ⟨#[]⟩,.slice none 0 0] ab)) (.blk b2 (.cells #[.int .i64 k,.int .i64 n,.string s,kvc] ab)) (.blk b2 (.cells #[.int .i64 k,.int .i64 n,.string s,x30] ab)) (au kvc ab 4 css) (au x30 ab 4 (css++[cs7])) (az Ls.flatten) M (.blk b8 (.cells cs7.toArray ab)) (D 4) (D 5) (D 6) true) S w_:=by
    rw [d4_7,d5_8,d6_1]
    exact hI
   exact ⟨h0_,h1_,h2_,h3_,h4_,h5_,h6_,h7_,fun _=>trivial,⟨M,cs7,b8,e7,e8,k8,k9,k11,k1,hI⟩⟩
  intro D d8_ d7_ d6_ d5_ d4_ d3_ d2_ d1_ d0_ x31 x30 x29 x28 x27 x26 x25 x24 w_
  rintro ⟨h0_,h1_,h2_,h3_,h4_,h5_,h6_,h7_,h8_,⟨M,cs7,b8,e7,e8,k8,k9,k11,k1,hI⟩⟩
  obtain rfl:=h7_ d7_
  have g6_:=h6_ d6_
  have g5_:=h5_ d5_
  have g4_:=h4_ d4_
  obtain rfl:=h3_ d3_
  obtain rfl:=h2_ d2_
  obtain rfl:=h1_ d1_
  obtain rfl:=h0_ d0_
  clear h0_ h1_ h2_ h3_ h4_ h5_ h6_ h7_ h8_
  obtain ⟨_,hT⟩:=e7 d4_
  rw [d4_,d5_,d6_,d8_] at hI
  refine r_add (by omega) ?_
  refine ⟨⟨j+1,x30,Ls++[M],css++[cs7],hj',rfl,?_,?_⟩,by simp [intOf]; omega⟩
  ·rw [tB vs ks j hj']
   exact hg.snoc hT hT.length
  ·simp only [List.flatten_append,List.flatten_cons,List.flatten_nil,List.append_nil,be]
   refine hI.sub ?_
   simp only [aA]
   rw [<- List.append_assoc]
   exact ((((List.sublist_append_left _ _).cons_cons _).cons_cons _).cons_cons _).cons _
 ·have:j=ks.length:=by omega
  subst this
  rw [List.take_length] at hg
  obtain ⟨va,vn,vc,hvk⟩:=hI.rowSlice 2 rfl
  have hv1:kvc.oneCell'=true:=by rw [hvk]; rfl
  refine r_loadW hI 1 ag rfl rfl ?_
  refine ao hI 0 rfl ag rfl rfl ?_ fun w' hI=>?_
  ·intro u hu
   have hu':u∈([.int .i64 k,.int .i64 n,.string s,kvc]:List Value):=hu
   simp at hu'
   rcases hu' with rfl|rfl|rfl|rfl <;> first|rfl|exact hv1
  refine loadV_W hI 0 ag rfl rfl ?_
  have hI:Inv w [] ([]++(au kvc ab 4 css::az Ls.flatten)) S w':=hI.sub (List.sublist_append_right [_,_] _)
  obtain ⟨L,hT,hI⟩:=Inv.rowTree hI hg
  exact ⟨_,_,_,rfl,hI,Ext.refl _ _ _,rfl,_,L,rfl,rfl,TrT.iff.2 ⟨kvc,rfl,h1,h2,hs,hT⟩⟩
theorem pE {ts:List T} {S:Store} {v:Value} (h:RdSl S 4 (RdT S) v ts) (hw:ts.length+wL ts<=1048577):Tri Tryz.prog ue [v] [] S (CG 4 TrT S (dq (bC ts []) ts)):=by
 intro w hI
 have hlen:=h.le
 simp only [maxLen] at hlen
 have hcl:=Bm ts
 have hvl:=tC ts []
 simp only [List.length_nil] at hvl
 refine lX ?_
 unfold ig
 refine Run.call0 yw yj hI (xx h (by omega)) fun v1 I' S w'=>?_
 rintro ⟨rfl,rfl⟩ _ hI
 have hl':(bC ts []).length<=1000000000:=by omega
 generalize bC ts []=vs at hI hl' ⊢
 refine r_alloc hI EC fun b3 w' hI=>?_
 have hv1:v1.cells=#[v1]/\v1.oneCell'=true:=by
  have:=hI.its (bv v1 vs) (by simp)
  rcases this.2 with ⟨rfl,_⟩|⟨g,cap,cur,rfl,_⟩ <;> exact ⟨rfl,rfl⟩
 refine r_store hI 1 (n:=1) (by rw [hv1.1]; rfl) (by rw [sa]; rfl) rfl (Nat.le_of_ble_eq_true rfl) (by rw [hv1.1]; simpa using hv1.2) fun w' hI=>?_
 have hst:putCells (Value.slice none 0 0).cells 0 v1.cells.toList=#[v1]:=by
  rw [hv1.1]; rfl
 have hI:Inv w [] [bv v1 vs,.blk b3 (.cells #[v1] jy)] S w':=by
  have:=hI
  simp only [List.cons_append,List.nil_append] at this
  rw [hst] at this
  exact this
 have hI:=hI.perm (M:=[.blk b3 (.cells #[v1] jy)]++[bv v1 vs]) (List.Perm.swap _ _ _)
 obtain ⟨S1,hle1,hrd1,hI,_⟩:=Inv.lend (A:=[_]) hI
 obtain ⟨hI,hle2⟩:=Inv.publishLast (L:=[]) hI
 have hb:addS S1 b3 (.cells #[v1] jy) b3=some (.cells #[v1] jy):=by simp [addS]
 generalize addS S1 b3 (.cells #[v1] jy)=S2 at hI hle2 hb
 have hr1:=hrd1.ints.mono hle2 fun _ _ h=>h
 have hle:=hle1.trans hle2
 have h:=h.mono hle fun _ _ h=>h.mono hle
 refine r_lenSl h aj ?_
 refine ⟨fun i t w'=>∃ (k:Nat) (Ls:List aD) (css:List (List Value)),k<=ts.length/\i=.int .i64 k/\Grown 4 TrT Ls css (dq vs (ts.take k))/\Inv w [] (au t ab 4 css::az Ls.flatten) S2 w',
  fun i _ _=>ts.length - (intOf i).toNat,⟨0,[],[],Nat.zero_le _,rfl,Grown.nil _ _,hI.rowNil ab 4⟩,?_⟩
 intro t11 _ t4 _ _ _ _ _ _ _ _ _ _ w'
 rintro ⟨k,Ls,css,hk,rfl,hg,hI⟩
 refine r_lss ?_
 refine condP (fun hki=>?_) (fun hki=>?_)
 ·have hk':k<ts.length:=by omega
  have htl:(ts.take k).length=k:=by simp; omega
  have hcl:=hg.hc
  rw [pu] at hcl
  have hm:=List.getElem_mem hk'
  have hwm:=dP hm
  refine r_elem hI h aj ag hk' (fun _ _=>RdT.length) fun cs hcs=>?_
  have hlc:=hcs.length
  refine r_alloc hI aE fun b6 w' hI=>?_
  have hI:=hI.perm (M:=.blk b6 _::(au t4 ab 4 css::az Ls.flatten)) (List.perm_append_comm (l₁:=[_]))
  refine ao hI 0 rfl ag (by simpa using hlc) rfl (by simpa using hcs.one) fun w' hI=>?_
  refine r_loadW hI 0 ag rfl (by simpa using hlc) ?_
  have hI:Inv w [] (au t4 ab 4 css::az Ls.flatten) S2 w':=hI.sub (List.sublist_cons_self _ _)
  refine r_makeFunc ?_
  refine Run.call0 de cU hI (ur vs hl' _ S2 cs b3 v1 jy hcs hb hr1 (by omega)) fun v' I' S' w'=>?_
  rintro ⟨rfl,cs',L,rfl,rfl,hT⟩ _ hI
  refine bx hI 0 cs' aJ (by omega) (by omega) rfl hT.length hT.one (by omega) (by omega) fun v' w' hI=>?_
  refine r_add (by omega) ?_
  refine ⟨⟨k+1,Ls++[L],css++[cs'],hk',rfl,?_,?_⟩,by simp [intOf]; omega⟩
  ·rw [tB vs ts k hk']
   exact hg.snoc hT hT.length
  ·simp only [List.flatten_append,List.flatten_cons,List.flatten_nil,List.append_nil,be]
   exact hI
 ·have:k=ts.length:=by omega
  subst this
  rw [List.take_length] at hg
  obtain ⟨L,hT,hI⟩:=Inv.rowTree (A:=[]) hI hg
  exact ⟨_,_,_,rfl,hI.less hle,Ext.refl _ _ _,rfl,_,rfl,hT⟩
end

end Go.Proofs.YtmnnpgdeecnfpaaGreat

/- impl.RenumberClause: clauses. -/
namespace Go.Proofs.YtmnnpgdeecnfpaaGreat
open Go Go.RowKit
mutual
theorem Bu (vs:List Int):∀ t:T,wT (bp vs t)=wT t
 | .mk k n s ks=>by rw [bp,wT,wT,pn,wJ vs ks]
theorem wJ (vs:List Int):∀ ts:List T,wL (cA vs ts)=wL ts
 | []=>rfl
 | t::ts=>by rw [cA,wL,wL,Bu vs t,wJ vs ts]
end
theorem Eg (vs:List Int) (c:C):wC (yv vs c)=wC c:=by
 simp only [wC,yv,Bu,wJ,pn]
section
attribute [local irreducible] Run CondV GuardV LoadV
theorem yX {c:C} {S:Store} {cs:List Value} (h:RdC S cs c) (hnum:bC (c.head::c.body) []=aS c/\gO (aS c) c.head=bp (aS c) c.head/\dq (aS c) c.body=cA (aS c) c.body) (hw:wC c<=1048576) :
  Tri Tryz.prog wR [.agg cs.toArray] [] S (Fz (yv (aS c) c)):=by
 intro w hI
 obtain ⟨e1,e2,e3⟩:=hnum
 obtain ⟨hd,ks,rfl,h1,h2⟩:=h
 have h1':=h1
 obtain ⟨kv,rfl,g1,g2,g3,g4⟩:=RdT.iff.1 h1
 have hlen:=h2.le
 simp only [maxLen] at hlen
 unfold wC at hw
 refine pQ ?_
 unfold lq
 refine r_box hI fun b1 w' hI=>?_
 refine r_alloc hI bd fun b2 w' hI=>?_
 refine r_field aP ?_
 refine r_loadLA hI 0 [.int .i64 c.head.kind,.int .i64 c.head.n,.string c.head.name,kv] ag rfl rfl yR ?_
 refine r_slice1 hI aJ (by simp [Value.cells]) (by omega) (by omega) fun b7 w' hI=>?_
 refine r_fieldL hI 0 rfl ax al rfl ?_
 have hI:=Inv.closeRow (A:=[_,_]) (cap:=1) (k:=4) (n:=1) hI (by omega) (by simp [maxLen]) (by simp [Value.cells])
 refine mh hI 2 (css:=[[.int .i64 c.head.kind,.int .i64 c.head.n,.string c.head.name,kv]]) aJ (by omega) rfl h2 (fun _ _=>RdT.length) (fun _ _=>RdT.one) (by simp; omega) (by omega) fun v' w' css2 hR hI=>?_
 have hR:=(Rows.one h1' h1'.length).append hR
 obtain ⟨S1,hle1,hrd,hI,_⟩:=Inv.lend (A:=[_,_]) hI
 have hts:RdSl S1 4 (RdT S1) v' (c.head::c.body):=(RowRd.rows hR hrd).mono (Sle.refl _) fun _ _ h=>h.mono hle1
 refine Run.call0 rx rA hI (pE hts (by simp only [wL,List.length_cons]; omega)) fun v11 I' S' w'=>?_
 rintro ⟨rfl,M,rfl,hT⟩ _ hI
 obtain ⟨S2,hI,hE,hins⟩:=(hI.less hle1).pubExt
 have hr:=hT.rd hins fun _ _ _ hi h=>h.rd hi
 rw [e1,dq,e2,e3] at hr
 have hdrop:=fun (v:Value) (h:RdSl S2 4 (RdT S2) v ((bp (aS c) c.head::cA (aS c) c.body).drop 1))=>h
 obtain ⟨b,o,cap,cc,E,fz,rfl,hS,hR0⟩:=hr.at_ (i:=0) (by simp)
 rw [List.getElem_cons_zero] at hR0
 obtain ⟨kv',ec,f1,f2,f3,f4⟩:=RdT.iff.1 hR0
 rw [ec] at hR0
 obtain ⟨ka,kn,kc,hk'⟩:∃ a n m,kv'=.slice a n m:=by
  obtain ⟨a,m,e,_⟩:=f4
  exact ⟨_,_,_,e⟩
 refine ⟨fun D x17 x16 x15 x14 x13 x12 x11 w_=>(D 0=true->x11=.slice (some ⟨b,o,none⟩) ((cA (aS c) c.body).length+1) cap)/\(D 1=true->x12=.pointer (some ⟨b,o+0 * 4,none⟩))/\(D 2=true->x13=.agg #[.int .i64 (bp (aS c) c.head).kind,.int .i64 (bp (aS c) c.head).n,.string (bp (aS c) c.head).name,kv'])/\(D 3=true->x14=.slice (some ⟨b,o,none⟩) ((cA (aS c) c.body).length+1) cap)/\(D 4=true->RdSl S2 4 (RdT S2) x15 (cA (aS c) c.body))/\(D 5=true->RdSl S2 4 (RdT S2) x16 (cA (aS c) c.body))/\(D 6=true->∃ kb,x17=.agg #[.int .i64 (bp (aS c) c.head).kind,.int .i64 (bp (aS c) c.head).n,.string (bp (aS c) c.head).name,kv',kb]/\RdSl S2 4 (RdT S2) kb (cA (aS c) c.body))/\(D 7=true->True)/\∃ B2,B2.size=5/\(D 7=true->∃ kb,B2=#[.int .i64 (bp (aS c) c.head).kind,.int .i64 (bp (aS c) c.head).n,.string (bp (aS c) c.head).name,kv',kb]/\RdSl S2 4 (RdT S2) kb (cA (aS c) c.body))/\Inv w [] [.blk b1 (.cells #[.int .i64 c.head.kind,.int .i64 c.head.n,.string c.head.name,kv,ks] af),.blk b2 (.cells B2 af)] S2 w_,⟨fun h=>Bool.noConfusion h,fun h=>Bool.noConfusion h,fun h=>Bool.noConfusion h,fun h=>Bool.noConfusion h,fun h=>Bool.noConfusion h,fun h=>Bool.noConfusion h,fun h=>Bool.noConfusion h,fun h=>Bool.noConfusion h,⟨_,rfl,fun h=>Bool.noConfusion h,hI.draw⟩⟩,⟨?_,?_,?_,?_,?_,?_,?_,?_,trivial⟩,?_⟩
 ·intro D hD_  x17 x16 x15 x14 x13 x12 x11 w_
  rintro ⟨h0_,h1_,h2_,h3_,h4_,h5_,h6_,h7_,⟨B2,hB,kB,hI⟩⟩
  exact ⟨fun _=>rfl,h1_,h2_,h3_,h4_,h5_,h6_,h7_,⟨B2,hB,kB,hI⟩⟩
 ·intro D hD_ d0_0 x17 x16 x15 x14 x13 x12 x11 w_
  rintro ⟨h0_,h1_,h2_,h3_,h4_,h5_,h6_,h7_,⟨B2,hB,kB,hI⟩⟩
  obtain rfl:=h0_ d0_0
  refine r_indexAddr (i:=0) aj (by simp) ?_
  exact ⟨h0_,fun _=>rfl,h2_,h3_,h4_,h5_,h6_,h7_,⟨B2,hB,kB,hI⟩⟩
 ·intro D hD_ d1_0 x17 x16 x15 x14 x13 x12 x11 w_
  rintro ⟨h0_,h1_,h2_,h3_,h4_,h5_,h6_,h7_,⟨B2,hB,kB,hI⟩⟩
  obtain rfl:=h1_ d1_0
  refine r_loadA (cs:=[.int .i64 (bp (aS c) c.head).kind,.int .i64 (bp (aS c) c.head).n,.string (bp (aS c) c.head).name,kv']) ag rfl (fun j v hj=>by rw [hI.cellS hS]; exact cellsAt_get ec j v hj) ?_
  exact ⟨h0_,h1_,fun _=>rfl,h3_,h4_,h5_,h6_,h7_,⟨B2,hB,kB,hI⟩⟩
 ·intro D hD_  x17 x16 x15 x14 x13 x12 x11 w_
  rintro ⟨h0_,h1_,h2_,h3_,h4_,h5_,h6_,h7_,⟨B2,hB,kB,hI⟩⟩
  exact ⟨h0_,h1_,h2_,fun _=>rfl,h4_,h5_,h6_,h7_,⟨B2,hB,kB,hI⟩⟩
 ·intro D hD_ d3_0 x17 x16 x15 x14 x13 x12 x11 w_
  rintro ⟨h0_,h1_,h2_,h3_,h4_,h5_,h6_,h7_,⟨B2,hB,kB,hI⟩⟩
  obtain rfl:=h3_ d3_0
  refine dF (l:=1) aj hr (by simp) fun kb hkb=>?_
  rw [List.drop_succ_cons,List.drop_zero] at hkb
  exact ⟨h0_,h1_,h2_,h3_,fun _=>by first|assumption|trivial,h5_,h6_,h7_,⟨B2,hB,kB,hI⟩⟩
 ·intro D hD_ d4_0 x17 x16 x15 x14 x13 x12 x11 w_
  rintro ⟨h0_,h1_,h2_,h3_,h4_,h5_,h6_,h7_,⟨B2,hB,kB,hI⟩⟩
  have g4_:=h4_ d4_0
  obtain ⟨r,hr',hp⟩:=Br g4_
  refine Run.callPure th tk hI hp fun w_ hI=>?_
  exact ⟨h0_,h1_,h2_,h3_,h4_,fun _=>by first|assumption|trivial,h6_,h7_,⟨B2,hB,kB,hI⟩⟩
 ·intro D hD_ d2_0 d5_1 x17 x16 x15 x14 x13 x12 x11 w_
  rintro ⟨h0_,h1_,h2_,h3_,h4_,h5_,h6_,h7_,⟨B2,hB,kB,hI⟩⟩
  obtain rfl:=h2_ d2_0
  have g5_:=h5_ d5_1
  refine fA ?_ ?_
  ·obtain ⟨a,m,e,_⟩:=g5_
   exact ⟨_,_,_,e⟩
  have hnew:∃ kb,Value.agg #[.int .i64 (bp (aS c) c.head).kind,.int .i64 (bp (aS c) c.head).n,.string (bp (aS c) c.head).name,kv',x16]=.agg #[.int .i64 (bp (aS c) c.head).kind,.int .i64 (bp (aS c) c.head).n,.string (bp (aS c) c.head).name,kv',kb]/\RdSl S2 4 (RdT S2) kb (cA (aS c) c.body):=⟨_,rfl,g5_⟩
  exact ⟨h0_,h1_,h2_,h3_,h4_,h5_,fun _=>by first|assumption|trivial,h7_,⟨B2,hB,kB,hI⟩⟩
 ·intro D hD_ d6_0 d5_1 d0_2 d1_3 d2_4 d3_5 d4_6 d5_7 d6_8 x17 x16 x15 x14 x13 x12 x11 w_
  rintro ⟨h0_,h1_,h2_,h3_,h4_,h5_,h6_,h7_,⟨B2,hB,kB,hI⟩⟩
  have g6_:=h6_ d6_0
  obtain ⟨kb,rfl,hkb⟩:=g6_
  obtain ⟨a,m,e,_⟩:=id hkb
  subst e
  refine ao hI 1 rfl av rfl hB (by simp [Value.oneCell',hk']) fun w_ hI=>?_
  obtain ⟨B2,hq⟩:∃ B2,B2=(#[.int .i64 (bp (aS c) c.head).kind,.int .i64 (bp (aS c) c.head).n,.string (bp (aS c) c.head).name,kv',.slice a (cA (aS c) c.body).length m]:Array Value):=⟨_,rfl⟩
  rw [<- hq] at hI
  have hB:B2.size=5:=by rw [hq]; rfl
  have kB:=fun (_:setD D 7 7=true)=>(⟨_,hq,hkb⟩:∃ kb,B2=#[.int .i64 (bp (aS c) c.head).kind,.int .i64 (bp (aS c) c.head).n,.string (bp (aS c) c.head).name,kv',kb]/\RdSl S2 4 (RdT S2) kb (cA (aS c) c.body))
  exact ⟨h0_,h1_,h2_,h3_,h4_,h5_,h6_,fun _=>trivial,⟨B2,hB,kB,hI⟩⟩
 intro D d7_ d6_ d5_ d4_ d3_ d2_ d1_ d0_ x17 x16 x15 x14 x13 x12 x11 w_
 rintro ⟨h0_,h1_,h2_,h3_,h4_,h5_,h6_,h7_,⟨B2,hB,kB,hI⟩⟩
 have g6_:=h6_ d6_
 have g5_:=h5_ d5_
 have g4_:=h4_ d4_
 obtain rfl:=h3_ d3_
 obtain rfl:=h2_ d2_
 obtain rfl:=h1_ d1_
 obtain rfl:=h0_ d0_
 clear h0_ h1_ h2_ h3_ h4_ h5_ h6_ h7_
 obtain ⟨kb,rfl,hkb⟩:=kB d7_
 refine loadV_W hI 1 av rfl rfl ?_
 exact ⟨_,_,_,rfl,hI.pick [false,false],hE,rfl,_,rfl,⟨_,_,rfl,hR0,hkb⟩⟩
theorem TrC.zero:TrC [] [.int .i64 0,.int .i64 0,.string ⟨#[]⟩,.slice none 0 0,.slice none 0 0] ⟨⟨0,0,⟨#[]⟩,[]⟩,[]⟩:=
 ⟨[.int .i64 0,.int .i64 0,.string ⟨#[]⟩,.slice none 0 0],.slice none 0 0,[],[],rfl,rfl,TrT.iff.2 ⟨_,rfl,by simp [inI,T.kind],by simp [inI,T.n],by rw [T.name]; decide +kernel,TrSl.nil (by simp [maxLen])⟩,TrSl.nil (by simp [maxLen])⟩
end

end Go.Proofs.YtmnnpgdeecnfpaaGreat

/- spec.l15Resolvent. -/
namespace Go.Proofs.YtmnnpgdeecnfpaaGreat
open Go Go.RowKit
def dX:Option (Option C)->Bool
 | none=>false
 | _=>true
def mE:Option (Option C)->Bool
 | none=>true
 | some none=>false
 | some (some r)=>aH r
def pb:Option (Option C)->Bool
 | some (some r)=>aH r
 | _=>false
def BF:C:=⟨⟨0,0,⟨#[]⟩,[]⟩,[]⟩
def clO:Option (Option C)->C
 | some (some r)=>r
 | _=>BF
theorem CD:∀ (l:List T) (h:0<l.length) (d:T),l.headD d=l[0]
 | _::_,_,_=>rfl
 | [],h,_=>by simp at h
theorem BW:∀ x∈([.int .i64 0,.int .i64 0,.string ⟨#[]⟩,.slice none 0 0,.slice none 0 0]:List Value),x.oneCell'=true:=by simp [Value.oneCell']
section
variable {P:Program} {w:World} {K:Value->World->Prop}
attribute [local irreducible] Run
end
section
attribute [local irreducible] Run CondV GuardV LoadV
end

end Go.Proofs.YtmnnpgdeecnfpaaGreat

/- impl: walks and occurrence. -/
namespace Go.Proofs.YtmnnpgdeecnfpaaGreat
open Go Go.RowKit
section
variable {P:Program} {w w0:World} {X:List Nat} {L:List Item} {S:Store} {K:Value->World->Prop}
attribute [local irreducible] Run CondV GuardV LoadV
theorem lU {T kt et ty:TypeId} {b clock:Nat} {es:Array MapEntry} {n:Int} {z v:Value} {ok c:Bool} (hb:w.heap[b]?=some (.map es clock)) (hT:P.underlying T=some (.map kt et)) (hkt:P.underlying kt=some (.int .i64))
  (hz:zeroOf P et=some z) (hf:(∃ j,Instr.findNow (.int .i64) (.int .i64 n) es.toList 0=some (some (j,v))/\ok=true) ∨ (Instr.findNow (.int .i64) (.int .i64 n) es.toList 0=some none/\v=z/\ok=false))
  (hk:K (cond c (.tuple #[v,.bool ok]) v) w):Run P (sOp (.lookup T (.const (.map (some b))) (.const (.int .i64 n)) c) ty) w K:=by
 have hck:∀ e,(Instr.checkKey e 10000 kt (.int .i64 n)).run P w=.ok () w:=fun e=>by
  rw [show (10000:Nat)=9999+1 from rfl,Instr.checkKey]
  simp [run_underlying hkt]
 obtain ⟨inf,hi1,hi2⟩:∃ inf,P.info? et=some inf/\inf.zero=some z:=by
  unfold zeroOf at hz
  cases hinf:P.info? et with
  | none=>rw [hinf] at hz; simp at hz
  | some inf=>rw [hinf] at hz; exact ⟨inf,rfl,by simpa using hz⟩
 have hzv:(zeroValue et).run P w=.ok z w:=by simp [zeroValue,typeInfo,hi1,hi2]
 refine Run.of ?_ hk
 have hg:(getObj b).run P w=.ok (.map es clock) w:=by simp [getObj,Sem.run,hb]
 rcases hf with ⟨j,hf,rfl⟩|⟨hf,rfl,rfl⟩
 ·have hfk:=gF (P:=P) (w:=w) hkt hf
  cases c <;> simp [sOp,execOp,ev0,evE,Instr.lookup,run_underlying hT,hg,hck,hfk]
 ·have hfk:=gF (P:=P) (w:=w) hkt hf
  cases c <;> simp [sOp,execOp,ev0,evE,Instr.lookup,run_underlying hT,hg,hck,hfk,hzv]
end
section
attribute [local irreducible] Run CondV GuardV LoadV
/- slices.ContainsFunc with a function that changes what it is lent -/
theorem uH {f:FuncId} {fn:Func} {cap:List Value} {S0 S:Store} {v:Value} {xs:List T} (hf:Tryz.prog.funcs[f]?=some fn) (hn:(fn.name == "runtime.NumGoroutine" || fn.body.isNone)=false) (hle:Sle S0 S)
  (h:RdSl S0 4 (RdT S0) v xs) {J:Nat->List Item->Prop} {Fin:List Item->Prop}
  (hcall:∀ i (_:i<xs.length) (cs:List Value) (I:List Item),RdT S0 cs xs[i]->J i I->Tri Tryz.prog f (.agg cs.toArray::cap) I S fun r I' S'=>S'=S/\∃ b,r=.bool b/\(b=true->Fin I')/\(b=false->J (i+1) I'))
  {I:List Item} (hJ:J 0 I):Tri Tryz.prog eG [v,fv f cap] I S fun r I' S'=>S'=S/\∃ k:Int,r=.int .i64 k/\(0<=k->Fin I')/\(k<0->J xs.length I'):=by
 intro w hI
 have h:RdSl S 4 (RdT S0) v xs:=h.mono hle fun _ _ h=>h
 have hlen:=h.le
 simp only [maxLen] at hlen
 obtain ⟨X,hX⟩:∃ X,X=feet I:=⟨_,rfl⟩
 rw [<- hX] at hI ⊢
 refine cZ ?_
 unfold cB
 refine r_lenSl h aj ?_
 refine ⟨fun i w'=>∃ (j:Nat) (I':List Item),j<=xs.length/\i=.int .i64 j/\J j I'/\Inv w X I' S w',fun i _=>xs.length - (intOf i).toNat,⟨0,I,Nat.zero_le _,rfl,hJ,hI⟩,?_⟩
 intro t8 _ _ _ _ _ _ _ _ _ _ _ _ w'
 rintro ⟨j,I',hj,rfl,hJ',hI⟩
 refine r_lss ?_
 refine condP (fun hji=>?_) (fun hji=>?_)
 ·have hj':j<xs.length:=by omega
  refine r_elem hI h aj ag hj' (fun _ _=>RdT.length) fun cs hcs=>?_
  have hI:Inv w X ([]++I') S w':=hI
  refine Run.callVE (A:=[]) hf hn hI (hcall j hj' cs I' hcs hJ') fun v' I2 S2 w'=>?_
  rintro ⟨eS,b,rfl,hb1,hb2⟩ _ hI
  rw [eS] at hI
  clear eS
  have hI:Inv w X I2 S w':=hI
  refine condV (fun hb=>?_) (fun hb=>?_)
  ·exact ⟨_,_,_,rfl,hI,Ext.refl _ _ _,rfl,j,rfl,fun _=>hb1 hb,fun h=>by omega⟩
  ·refine r_add (by omega) ?_
   exact ⟨⟨j+1,I2,hj',rfl,hb2 hb,hI⟩,by simp [intOf]; omega⟩
 ·have:j=xs.length:=by omega
  subst this
  exact ⟨_,_,_,rfl,hI,Ext.refl _ _ _,rfl,-1,rfl,fun h=>by omega,fun _=>hJ'⟩
theorem pM {f:FuncId} {fn:Func} {cap:List Value} {S0 S:Store} {v:Value} {xs:List T} (hf:Tryz.prog.funcs[f]?=some fn) (hn:(fn.name == "runtime.NumGoroutine" || fn.body.isNone)=false) (hle:Sle S0 S)
  (h:RdSl S0 4 (RdT S0) v xs) {J:Nat->List Item->Prop} {Fin:List Item->Prop}
  (hcall:∀ i (_:i<xs.length) (cs:List Value) (I:List Item),RdT S0 cs xs[i]->J i I->Tri Tryz.prog f (.agg cs.toArray::cap) I S fun r I' S'=>S'=S/\∃ b,r=.bool b/\(b=true->Fin I')/\(b=false->J (i+1) I'))
  {I:List Item} (hJ:J 0 I):Tri Tryz.prog dp [v,fv f cap] I S fun r I' S'=>S'=S/\∃ b,r=.bool b/\(b=true->Fin I')/\(b=false->J xs.length I'):=by
 intro w hI
 obtain ⟨X,hX⟩:∃ X,X=feet I:=⟨_,rfl⟩
 rw [<- hX] at hI ⊢
 refine cz ?_
 unfold bR
 have hI:Inv w X ([]++I) S w:=hI
 refine Run.callE (A:=[]) dV dU hI (uH hf hn hle h hcall hJ) fun v' I2 S2 w'=>?_
 rintro ⟨eS,k,rfl,h1,h2⟩ _ hI
 rw [eS] at hI
 refine r_geq ?_
 exact ⟨_,_,_,rfl,hI,Ext.refl _ _ _,rfl,_,rfl,fun hb=>h1 (of_decide_eq_true hb),fun hb=>h2 (by have:=of_decide_eq_false hb; omega)⟩
/- the store of impl in published memory -/
def StS (S0 S:Store) (sb:Nat) (st:aG):Prop:=∃ mb tv es ck E,S sb=some (.cells #[.map (some mb),tv] E)/\S mb=some (.map es ck)/\KnownM S0 es st
theorem StS.mono {S0 S S':Store} {sb:Nat} {st:aG} (h:StS S0 S sb st) (hs:Sle S S'):StS S0 S' sb st:=by
 obtain ⟨mb,tv,es,ck,E,h1,h2,h3⟩:=h
 exact ⟨mb,tv,es,ck,E,hs _ _ h1,hs _ _ h2,h3⟩
theorem StS.find {S0 S:Store} {sb:Nat} {N:Nat} {st:aG} (h:StS S0 S sb st) {t:T} (hk:t.kind=1) (ht:okU N t):∃ mb tv es ck E vv ok,S sb=some (.cells #[.map (some mb),tv] E)/\S mb=some (.map es ck)/\
  ((∃ j,Instr.findNow (.int .i64) (.int .i64 t.n) es.toList 0=some (some (j,.agg (List.toArray vv)))/\ok=true) ∨ (Instr.findNow (.int .i64) (.int .i64 t.n) es.toList 0=some none/\(Value.agg (List.toArray vv))=.agg #[.int .i64 0,.int .i64 0,.string ⟨#[]⟩,.slice none 0 0]/\ok=false))/\
  vv.length=4/\(∀ x∈vv,x.oneCell'=true)/\(ok=true->∃ u,di st t=some u/\RdT S0 vv u)/\(ok=false->di st t=none):=by
 obtain ⟨mb,tv,es,ck,E,h1,h2,h3⟩:=h
 obtain ⟨hn0,_⟩:=ht.var hk
 obtain ⟨j,hj⟩:∃ j:Nat,t.n=j:=⟨t.n.toNat,by omega⟩
 have hlk:di st t=(st[j]?).join:=by rw [di,if_pos hk,hj,Int.toNat_natCast]
 rw [hj,hlk]
 rcases h3.find j with ⟨q,v,u,cs,hf,rfl,hR,hs⟩|⟨hno,hf⟩
 ·exact ⟨mb,tv,es,ck,E,cs,true,h1,h2,.inl ⟨q,hf,rfl⟩,hR.length,hR.one,fun _=>⟨u,by rw [hs]; rfl,hR⟩,fun h=>by cases h⟩
 ·refine ⟨mb,tv,es,ck,E,[.int .i64 0,.int .i64 0,.string ⟨#[]⟩,.slice none 0 0],false,h1,h2,.inr ⟨hf,rfl,rfl⟩,rfl,by simp [Value.oneCell'],fun h=>(by cases h),fun _=>?_⟩
  cases hs:st[j]? with
  | none=>rfl
  | some o=>
   cases o with
   | none=>rfl
   | some u=>exact absurd hs (hno u)
theorem ef {N:Nat} {st:aG} (hg:Good N st) {t v:T} (hw:bl st t v) (ht:okU N t) {S0 S:Store} {cs:List Value} {sb:Nat} (hst:StS S0 S sb st) (h:RdT S0 cs t) :
  Tri Tryz.prog sg [.pointer (some ⟨sb,0,none⟩),.agg cs.toArray] [] S fun r I' S'=>S'=S/\I'=[]/\∃ cs',r=.agg cs'.toArray/\RdT S0 cs' v:=by
 intro w hI
 have hI:Inv w [] [] S w:=hI
 obtain ⟨r,hr⟩:=hg.rk
 refine mg ?_
 unfold gR
 refine r_box hI fun b3 w' hI=>?_
 refine r_alloc hI aE fun b4 w' hI=>?_
 have hI:Inv w [] [.blk b3 (.cells cs.toArray ab),.blk b4 (.cells #[.int .i64 0,.int .i64 0,.string ⟨#[]⟩,.slice none 0 0] ab)] S w':=hI
 refine ⟨fun w'=>∃ cs',RdT S0 cs' v/\Inv w [] [.blk b3 (.cells cs'.toArray ab),.blk b4 (.cells #[.int .i64 0,.int .i64 0,.string ⟨#[]⟩,.slice none 0 0] ab)] S w',?_,?_⟩
 ·refine ⟨fun w'=>∃ (t':T) (cs':List Value),bl st t' v/\okU N t'/\RdT S0 cs' t'/\Inv w [] [.blk b3 (.cells cs'.toArray ab),.blk b4 (.cells #[.int .i64 0,.int .i64 0,.string ⟨#[]⟩,.slice none 0 0] ab)] S w',
   fun w'=>ym b3 r st w',⟨t,cs,hw,ht,h,hI⟩,?_⟩
  intro _ _ _ t6 t5 t19 t18 t10 t17 t16 t15 t14 t13 t12 t11 _ _ _ w'
  rintro ⟨t',cs',hw',ht',hcs',hI⟩
  have hrank:=yc hI (i:=0) rfl hcs' r st
  have hcs0:=hcs'
  obtain ⟨kv,rfl,_⟩:=RdT.iff.1 hcs'
  refine r_fieldL hI 0 rfl aI aC rfl ?_
  refine r_eql ?_
  refine condP (fun hk1=>?_) (fun hk1=>?_)
  ·obtain ⟨mb,tv,es,ck,E,vv,ok,hsb,hmb,hfind,hvl,hvo,hyes,hno⟩:=hst.find hk1 ht'
   refine ⟨fun D x6 x5 x19 x18 x10 x17 x16 x15 x14 x13 x12 x11 w_=>(D 0=true->x11=.pointer (some ⟨sb,0,none⟩))/\(D 1=true->x12=.pointer (some ⟨sb,0,none⟩))/\(D 2=true->x13=.pointer (some ⟨sb,0,none⟩))/\(D 3=true->x14=.map (some mb))/\(D 4=true->x15=.pointer (some ⟨b3,1,none⟩))/\(D 5=true->x16=.int .i64 t'.n)/\(D 6=true->x17=.tuple #[.agg vv.toArray,.bool ok])/\(D 7=true->x10=.tuple #[.agg vv.toArray,.bool ok])/\(D 8=true->x18=.agg vv.toArray)/\(D 9=true->x19=.bool ok)/\(D 10=true->True)/\(D 11=true->True)/\(D 12=true->x6=.bool ok)/\∃ b5,(D 10=true->x5=.pointer (some ⟨b5,0,none⟩))/\(D 11=true->D 10=true)/\Inv w [] ([.blk b3 (.cells #[.int .i64 t'.kind,.int .i64 t'.n,.string t'.name,kv] ab),.blk b4 (.cells #[.int .i64 0,.int .i64 0,.string ⟨#[]⟩,.slice none 0 0] ab)]++cond (D 10) [.blk b5 (.cells (cond (D 11) vv.toArray #[.int .i64 0,.int .i64 0,.string ⟨#[]⟩,.slice none 0 0]) ab)] []) S w_,⟨fun h=>Bool.noConfusion h,fun h=>Bool.noConfusion h,fun h=>Bool.noConfusion h,fun h=>Bool.noConfusion h,fun h=>Bool.noConfusion h,fun h=>Bool.noConfusion h,fun h=>Bool.noConfusion h,fun h=>Bool.noConfusion h,fun h=>Bool.noConfusion h,fun h=>Bool.noConfusion h,fun h=>Bool.noConfusion h,fun h=>Bool.noConfusion h,fun h=>Bool.noConfusion h,⟨0,fun h=>Bool.noConfusion h,fun h=>Bool.noConfusion h,hI.draw⟩⟩,⟨?_,?_,?_,?_,?_,?_,?_,?_,?_,?_,?_,?_,?_,trivial⟩,?_⟩
   ·intro D hD_  x6 x5 x19 x18 x10 x17 x16 x15 x14 x13 x12 x11 w_
    rintro ⟨h0_,h1_,h2_,h3_,h4_,h5_,h6_,h7_,h8_,h9_,h10_,h11_,h12_,⟨b5,e5,k11,hI⟩⟩
    exact ⟨fun _=>rfl,h1_,h2_,h3_,h4_,h5_,h6_,h7_,h8_,h9_,h10_,h11_,h12_,⟨b5,e5,k11,hI⟩⟩
   ·intro D hD_ d0_0 x6 x5 x19 x18 x10 x17 x16 x15 x14 x13 x12 x11 w_
    rintro ⟨h0_,h1_,h2_,h3_,h4_,h5_,h6_,h7_,h8_,h9_,h10_,h11_,h12_,⟨b5,e5,k11,hI⟩⟩
    obtain rfl:=h0_ d0_0
    refine r_nilCheck ?_
    exact ⟨h0_,fun _=>rfl,h2_,h3_,h4_,h5_,h6_,h7_,h8_,h9_,h10_,h11_,h12_,⟨b5,e5,k11,hI⟩⟩
   ·intro D hD_ d1_0 x6 x5 x19 x18 x10 x17 x16 x15 x14 x13 x12 x11 w_
    rintro ⟨h0_,h1_,h2_,h3_,h4_,h5_,h6_,h7_,h8_,h9_,h10_,h11_,h12_,⟨b5,e5,k11,hI⟩⟩
    obtain rfl:=h1_ d1_0
    refine r_field qU ?_
    exact ⟨h0_,h1_,fun _=>rfl,h3_,h4_,h5_,h6_,h7_,h8_,h9_,h10_,h11_,h12_,⟨b5,e5,k11,hI⟩⟩
   ·intro D hD_ d2_0 x6 x5 x19 x18 x10 x17 x16 x15 x14 x13 x12 x11 w_
    rintro ⟨h0_,h1_,h2_,h3_,h4_,h5_,h6_,h7_,h8_,h9_,h10_,h11_,h12_,⟨b5,e5,k11,hI⟩⟩
    obtain rfl:=h2_ d2_0
    refine r_load (by decide +kernel) (by rw [hI.cellS hsb]; rfl) ?_
    exact ⟨h0_,h1_,h2_,fun _=>rfl,h4_,h5_,h6_,h7_,h8_,h9_,h10_,h11_,h12_,⟨b5,e5,k11,hI⟩⟩
   ·intro D hD_  x6 x5 x19 x18 x10 x17 x16 x15 x14 x13 x12 x11 w_
    rintro ⟨h0_,h1_,h2_,h3_,h4_,h5_,h6_,h7_,h8_,h9_,h10_,h11_,h12_,⟨b5,e5,k11,hI⟩⟩
    refine r_field aK ?_
    exact ⟨h0_,h1_,h2_,h3_,fun _=>rfl,h5_,h6_,h7_,h8_,h9_,h10_,h11_,h12_,⟨b5,e5,k11,hI⟩⟩
   ·intro D hD_ d4_0 x6 x5 x19 x18 x10 x17 x16 x15 x14 x13 x12 x11 w_
    rintro ⟨h0_,h1_,h2_,h3_,h4_,h5_,h6_,h7_,h8_,h9_,h10_,h11_,h12_,⟨b5,e5,k11,hI⟩⟩
    obtain rfl:=h4_ d4_0
    refine r_loadL hI 0 aC rfl rfl ?_
    exact ⟨h0_,h1_,h2_,h3_,h4_,fun _=>rfl,h6_,h7_,h8_,h9_,h10_,h11_,h12_,⟨b5,e5,k11,hI⟩⟩
   ·intro D hD_ d3_0 d5_1 x6 x5 x19 x18 x10 x17 x16 x15 x14 x13 x12 x11 w_
    rintro ⟨h0_,h1_,h2_,h3_,h4_,h5_,h6_,h7_,h8_,h9_,h10_,h11_,h12_,⟨b5,e5,k11,hI⟩⟩
    obtain rfl:=h3_ d3_0
    obtain rfl:=h5_ d5_1
    refine lU (ok:=ok) (v:=.agg vv.toArray) (hI.pub _ _ hmb).1 li db aE hfind ?_
    exact ⟨h0_,h1_,h2_,h3_,h4_,h5_,fun _=>rfl,h7_,h8_,h9_,h10_,h11_,h12_,⟨b5,e5,k11,hI⟩⟩
   ·intro D hD_ d6_0 x6 x5 x19 x18 x10 x17 x16 x15 x14 x13 x12 x11 w_
    rintro ⟨h0_,h1_,h2_,h3_,h4_,h5_,h6_,h7_,h8_,h9_,h10_,h11_,h12_,⟨b5,e5,k11,hI⟩⟩
    obtain rfl:=h6_ d6_0
    exact ⟨h0_,h1_,h2_,h3_,h4_,h5_,h6_,fun _=>rfl,h8_,h9_,h10_,h11_,h12_,⟨b5,e5,k11,hI⟩⟩
   ·intro D hD_ d7_0 x6 x5 x19 x18 x10 x17 x16 x15 x14 x13 x12 x11 w_
    rintro ⟨h0_,h1_,h2_,h3_,h4_,h5_,h6_,h7_,h8_,h9_,h10_,h11_,h12_,⟨b5,e5,k11,hI⟩⟩
    obtain rfl:=h7_ d7_0
    refine r_extract rfl ?_
    exact ⟨h0_,h1_,h2_,h3_,h4_,h5_,h6_,h7_,fun _=>rfl,h9_,h10_,h11_,h12_,⟨b5,e5,k11,hI⟩⟩
   ·intro D hD_ d7_0 x6 x5 x19 x18 x10 x17 x16 x15 x14 x13 x12 x11 w_
    rintro ⟨h0_,h1_,h2_,h3_,h4_,h5_,h6_,h7_,h8_,h9_,h10_,h11_,h12_,⟨b5,e5,k11,hI⟩⟩
    obtain rfl:=h7_ d7_0
    refine r_extract rfl ?_
    exact ⟨h0_,h1_,h2_,h3_,h4_,h5_,h6_,h7_,h8_,fun _=>rfl,h10_,h11_,h12_,⟨b5,e5,k11,hI⟩⟩
   ·intro D hD_  x6 x5 x19 x18 x10 x17 x16 x15 x14 x13 x12 x11 w_
    rintro ⟨h0_,h1_,h2_,h3_,h4_,h5_,h6_,h7_,h8_,h9_,h10_,h11_,h12_,⟨b5,e5,k11,hI⟩⟩
    have f11:D 11=false:=Bool.eq_false_iff.2 fun h=>by rw [k11 h] at hD_; cases hD_
    rw [hD_] at hI
    refine r_alloc hI aE fun b5 w_ hI=>?_
    have e5:=fun (_:setD D 10 10=true)=>(rfl:Value.pointer (some ⟨b5,0,none⟩)=_)
    have k11:=fun (_:setD D 10 11=true)=>(rfl:setD D 10 10=true)
    have hI:Inv w [] ([.blk b3 (.cells #[.int .i64 t'.kind,.int .i64 t'.n,.string t'.name,kv] ab),.blk b4 (.cells #[.int .i64 0,.int .i64 0,.string ⟨#[]⟩,.slice none 0 0] ab)]++cond true [.blk b5 (.cells (cond (D 11) vv.toArray #[.int .i64 0,.int .i64 0,.string ⟨#[]⟩,.slice none 0 0]) ab)] []) S w_:=by rw [f11]; exact hI
    exact ⟨h0_,h1_,h2_,h3_,h4_,h5_,h6_,h7_,h8_,h9_,fun _=>by first|assumption|trivial,h11_,h12_,⟨b5,e5,k11,hI⟩⟩
   ·intro D hD_ d10_0 d8_1 d0_2 d1_3 d2_4 d3_5 d4_6 d5_7 d6_8 d7_9 d8_10 d10_11 x6 x5 x19 x18 x10 x17 x16 x15 x14 x13 x12 x11 w_
    rintro ⟨h0_,h1_,h2_,h3_,h4_,h5_,h6_,h7_,h8_,h9_,h10_,h11_,h12_,⟨b5,e5,k11,hI⟩⟩
    have g10_:=h10_ d10_0
    obtain rfl:=h8_ d8_1
    have q5:=e5 d10_0
    subst q5
    rw [hD_,d10_0] at hI
    refine ao hI 2 rfl ag (by simpa using hvl) rfl (by simpa using hvo) fun w_ hI=>?_
    have k11:=fun (_:setD D 11 11=true)=>d10_0
    have hI:Inv w [] ([.blk b3 (.cells #[.int .i64 t'.kind,.int .i64 t'.n,.string t'.name,kv] ab),.blk b4 (.cells #[.int .i64 0,.int .i64 0,.string ⟨#[]⟩,.slice none 0 0] ab)]++cond (D 10) [.blk b5 (.cells (cond true vv.toArray #[.int .i64 0,.int .i64 0,.string ⟨#[]⟩,.slice none 0 0]) ab)] []) S w_:=by rw [d10_0]; exact hI
    exact ⟨h0_,h1_,h2_,h3_,h4_,h5_,h6_,h7_,h8_,h9_,h10_,fun _=>trivial,h12_,⟨b5,e5,k11,hI⟩⟩
   ·intro D hD_ d9_0 d11_1 d0_2 d1_3 d2_4 d3_5 d4_6 d5_7 d6_8 d7_9 d8_10 d9_11 d10_12 d11_13 x6 x5 x19 x18 x10 x17 x16 x15 x14 x13 x12 x11 w_
    rintro ⟨h0_,h1_,h2_,h3_,h4_,h5_,h6_,h7_,h8_,h9_,h10_,h11_,h12_,⟨b5,e5,k11,hI⟩⟩
    obtain rfl:=h9_ d9_0
    exact ⟨h0_,h1_,h2_,h3_,h4_,h5_,h6_,h7_,h8_,h9_,h10_,h11_,fun _=>rfl,⟨b5,e5,k11,hI⟩⟩
   intro D d12_ d11_ d10_ d9_ d8_ d7_ d6_ d5_ d4_ d3_ d2_ d1_ d0_ x6 x5 x19 x18 x10 x17 x16 x15 x14 x13 x12 x11 w_
   rintro ⟨h0_,h1_,h2_,h3_,h4_,h5_,h6_,h7_,h8_,h9_,h10_,h11_,h12_,⟨b5,e5,k11,hI⟩⟩
   obtain rfl:=h12_ d12_
   have g10_:=h10_ d10_
   obtain rfl:=h9_ d9_
   obtain rfl:=h8_ d8_
   obtain rfl:=h7_ d7_
   obtain rfl:=h6_ d6_
   obtain rfl:=h5_ d5_
   obtain rfl:=h4_ d4_
   obtain rfl:=h3_ d3_
   obtain rfl:=h2_ d2_
   obtain rfl:=h1_ d1_
   obtain rfl:=h0_ d0_
   clear h0_ h1_ h2_ h3_ h4_ h5_ h6_ h7_ h8_ h9_ h10_ h11_ h12_
   have q5:=e5 d10_
   subst q5
   rw [d10_,d11_] at hI
   have hI:Inv w [] [.blk b3 (.cells #[.int .i64 t'.kind,.int .i64 t'.n,.string t'.name,kv] ab),.blk b4 (.cells #[.int .i64 0,.int .i64 0,.string ⟨#[]⟩,.slice none 0 0] ab),.blk b5 (.cells vv.toArray ab)] S w_:=hI
   refine r_not ?_
   refine condV (fun hb=>?_) (fun hb=>?_)
   ·have hok:ok=false:=by simpa using hb
    have hl:=hno hok
    have hv:v=t':=by
     cases hw' with
     | stop _=>rfl
     | step h1 _=>rw [h1] at hl; cases hl
    subst hv
    exact ⟨_,hcs0,hI.pick [true,true,false]⟩
   ·have hok:ok=true:=by simpa using hb
    obtain ⟨u,hl,hRu⟩:=hyes hok
    have hwu:bl st u v:=by
     cases hw' with
     | stop h0=>rw [hl] at h0; cases h0
     | step h1 h2=>rw [hl,Option.some.injEq] at h1; rw [h1]; exact h2
    refine r_loadW hI 2 ag rfl (by simpa using hvl) ?_
    refine ao hI 0 rfl ag (by simpa using hvl) rfl (by simpa using hvo) fun w' hI=>?_
    have hI:Inv w [] [.blk b3 (.cells vv.toArray ab),.blk b4 (.cells #[.int .i64 0,.int .i64 0,.string ⟨#[]⟩,.slice none 0 0] ab)] S w':=hI.pick [true,true,false]
    refine ⟨⟨u,vv,hwu,(hg.look_ok hl).1,hRu,hI⟩,?_⟩
    have hrank2:=yc hI (i:=0) rfl hRu r st
    show ym b3 r st w'<ym b3 r st _
    have hl1:(di st t').isSome=true:=by rw [hl]; rfl
    rw [hrank,hrank2,if_pos hl1]
    split
    ·rename_i hl2
     obtain ⟨u2,hl2⟩:=Option.isSome_iff_exists.1 hl2
     have:=hr _ u (bm.1 hl).2 u.n.toNat (by rw [dQ (bm.1 hl2).1]; exact List.mem_singleton.2 rfl)
     omega
    ·omega
  ·have hv:v=t':=by
    cases hw' with
    | stop _=>rfl
    | step h1 _=>exact absurd (bm.1 h1).1 hk1
   subst hv
   exact ⟨_,hcs0,hI⟩
 ·intro _ _ _ _ _ _ _ _ _ _ _ _ _ _ _ _ _ _ w'
  rintro ⟨cs',hcs',hI⟩
  have hlc:=hcs'.length
  refine r_loadW hI 0 ag rfl (by simpa using hlc) ?_
  refine ao hI 1 rfl ag (by simpa using hlc) rfl (by simpa using hcs'.one) fun w' hI=>?_
  refine loadV_W hI 1 ag rfl (by simpa using hlc) ?_
  exact ⟨_,_,_,rfl,hI.nil,Ext.refl _ _ _,rfl,rfl,_,rfl,hcs'⟩
/- the variables that impl.occurs has met -/
def MetM (es:Array MapEntry) (met:Nat->Prop):Prop:=(∀ e∈es.toList,∃ n:Nat,e.key=.int .i64 n/\e.val=.bool true/\met n)/\∀ n,met n->∃ e∈es.toList,e.key=.int .i64 (n:Nat)
theorem MetM.find {es:Array MapEntry} {met:Nat->Prop} (h:MetM es met) (n:Nat):(met n/\∃ j,Instr.findNow (.int .i64) (.int .i64 n) es.toList 0=some (some (j,.bool true))) ∨ (¬ met n/\Instr.findNow (.int .i64) (.int .i64 n) es.toList 0=some none):=by
 rcases jV (n:=n) es.toList 0 (fun e he=>by obtain ⟨m,hk,_⟩:=h.1 e he; exact ⟨m,hk⟩) with ⟨j,e,he,hk,hf⟩|⟨hk,hf⟩
 ·obtain ⟨m,hk2,hv,hm⟩:=h.1 e he
  rw [hk] at hk2
  simp only [Value.int.injEq,true_and] at hk2
  have:n=m:=by omega
  subst this
  rw [hv] at hf
  exact .inl ⟨hm,j,hf⟩
 ·refine .inr ⟨fun hm=>?_,hf⟩
  obtain ⟨e,he,hk2⟩:=h.2 n hm
  exact hk e he hk2
theorem MetM.push {es:Array MapEntry} {met:Nat->Prop} (h:MetM es met) (n:Nat) (ck:Nat):MetM (es.push { key:=.int .i64 n,val:=.bool true,born:=ck }) (fun m=>met m ∨ m=n):=by
 refine ⟨fun e he=>?_,fun m hm=>?_⟩
 ·rw [Array.toList_push] at he
  rcases List.mem_append.1 he with he|he
  ·obtain ⟨m,hk,hv,hm⟩:=h.1 e he
   exact ⟨m,hk,hv,.inl hm⟩
  ·simp at he
   subst he
   exact ⟨n,rfl,rfl,.inr rfl⟩
 ·rw [Array.toList_push]
  rcases hm with hm|rfl
  ·obtain ⟨x,hx,hk⟩:=h.2 m hm
   exact ⟨x,List.mem_append_left _ hx,hk⟩
  ·exact ⟨_,List.mem_append_right _ (List.mem_singleton.2 rfl),rfl⟩
theorem MetM.empty:MetM #[] (fun _=>False):=⟨fun e he=>by simp at he,fun n h=>h.elim⟩
theorem vK {st:aG} {r:Nat->Nat} (hr:∀ (n:Nat) (u:T),st[n]?=some (some u)->∀ m∈vT u,r m<r n) {t v:T} (hw:bl st t v):∀ u,di st t=some u->∀ y∈vT v,r y<r t.n.toNat:=by
 induction hw with
 | stop h=>intro u hu; rw [h] at hu; cases hu
 | step hl hw' ih=>
  rename_i t u v
  intro u' _ y hy
  have h1:=hr _ u (bm.1 hl).2
  cases hl2:di st u with
  | none=>
   have:v=u:=by
    cases hw' with
    | stop _=>rfl
    | step h3 _=>rw [h3] at hl2; cases hl2
   subst this
   exact h1 y hy
  | some u2=>
   have h2:=ih u2 hl2 y hy
   have h3:=h1 u.n.toNat (by rw [dQ (bm.1 hl2).1]; exact List.mem_singleton.2 rfl)
   omega
theorem yb {N:Nat} {st:aG} {t v:T} (h:Good N st) (hw:bl st t v) (ht:okU N t):okU N v:=by
 induction hw with
 | stop=>exact ht
 | step hl _ ih=>exact ih (h.look_ok hl).1
theorem Du {st:aG} {r:Nat->Nat} (hr:∀ (n:Nat) (u:T),st[n]?=some (some u)->∀ m∈vT u,r m<r n) {a c:Nat} (h:Rch st a c):r c<=r a:=by
 induction h with
 | refl=>exact Nat.le_refl _
 | step h1 h2 _ ih=>have:=hr _ _ h1 _ h2; omega
theorem Aw {st:aG} {t v:T} (hw:bl st t v):∀ u,di st t=some u->∀ y∈vT v,Rch st t.n.toNat y:=by
 induction hw with
 | stop h=>intro u hu; rw [h] at hu; cases hu
 | step hl hw' ih=>
  rename_i t u v
  intro u' _ y hy
  cases hl2:di st u with
  | none=>
   have:v=u:=by
    cases hw' with
    | stop _=>rfl
    | step h3 _=>rw [h3] at hl2; cases hl2
   subst this
   exact .step (bm.1 hl).2 hy (.refl y)
  | some u2=>exact .step (bm.1 hl).2 (by rw [dQ (bm.1 hl2).1]; exact List.mem_singleton.2 rfl) (ih u2 hl2 y hy)
/- what impl.occurs does -/
def OC (st:aG) (sb n:Nat) (t:T):Prop:=∀ (S0 S:Store) (cs:List Value) (mm ck:Nat) (es:Array MapEntry) (met:Nat->Prop),Sle S0 S->StS S0 S sb st->RdT S0 cs t->MetM es met->(∀ m,met m->(∃ x∈vT t,Rch st x m)->¬ Rch st m n)->
 Tri Tryz.prog pB [.pointer (some ⟨sb,0,none⟩),.int .i64 n,.agg cs.toArray,.map (some mm)] [.blk mm (.map es ck)] S fun r I' S'=>S'=S/\∃ es' ck',I'=[.blk mm (.map es' ck')]/\
  ((cM st n t/\r=.bool true) ∨ (¬ cM st n t/\r=.bool false/\∃ met',MetM es' met'/\(∀ m,met m->met' m)/\∀ m,met' m->met m ∨ ¬ Rch st m n))
theorem ul {st:aG} {sb n:Nat} {t:T} (hoc:OC st sb n t) {S0 S:Store} {cs:List Value} {mm ck b4 b5 b7:Nat} {E4 E5 E7:TypeId} {es:Array MapEntry} {met:Nat->Prop} (hle:Sle S0 S) (hst:StS S0 S sb st) (h:RdT S0 cs t) (hm:MetM es met)
  (hpre:∀ m,met m->(∃ x∈vT t,Rch st x m)->¬ Rch st m n) (h4:S b4=some (.cells #[.pointer (some ⟨sb,0,none⟩)] E4)) (h5:S b5=some (.cells #[.int .i64 n] E5)) (h7:S b7=some (.cells #[.map (some mm)] E7)) :
  Tri Tryz.prog ma [.agg cs.toArray,.pointer (some ⟨b4,0,none⟩),.pointer (some ⟨b5,0,none⟩),.pointer (some ⟨b7,0,none⟩)] [.blk mm (.map es ck)] S fun r I' S'=>S'=S/\∃ es' ck',I'=[.blk mm (.map es' ck')]/\
  ((cM st n t/\r=.bool true) ∨ (¬ cM st n t/\r=.bool false/\∃ met',MetM es' met'/\(∀ m,met m->met' m)/\∀ m,met' m->met m ∨ ¬ Rch st m n)):=by
 intro w hI
 have hlc:=h.length
 obtain ⟨X,hX⟩:∃ X,X=feet [Item.blk mm (.map es ck)]:=⟨_,rfl⟩
 rw [<- hX] at hI ⊢
 refine gE ?_
 unfold dT
 refine r_box hI fun b1 w' hI=>?_
 have hI:Inv w X ([.blk b1 (.cells cs.toArray ab)]++[.blk mm (.map es ck)]) S w':=hI.perm (List.Perm.swap ..)
 refine r_load lN (by rw [hI.cellS h4]; rfl) ?_
 refine r_load aC (by rw [hI.cellS h5]; rfl) ?_
 refine r_loadW hI 0 ag rfl (by simpa using hlc) ?_
 refine r_load (by decide +kernel) (by rw [hI.cellS h7]; rfl) ?_
 refine Run.callE cT cX hI (hoc S0 S cs mm ck es met hle hst h hm hpre) fun v' I' S' w'=>?_
 rintro ⟨eS,es',ck',rfl,hres⟩ _ hI
 rw [eS] at hI
 exact ⟨_,_,_,rfl,hI.pick [false,true],Ext.refl _ _ _,rfl,es',ck',rfl,hres⟩
theorem zQ {N:Nat} {st:aG} (hg:Good N st) {sb n:Nat} (hn:∀ u,st[n]?≠some (some u)) (hnN:n<1000000000) {t v:T} (ho:okU N t) (hwv:bl st t v)
  (hv:t.kind=1->v.kind≠1->OC st sb n v) (hk:t.kind≠1->∀ x∈t.kids,OC st sb n x):OC st sb n t:=by
 intro S0 S cs mm ck es met hle hst h hmet hpre w hI
 have hlc:=h.length
 obtain ⟨X,hX⟩:∃ X,X=feet [Item.blk mm (.map es ck)]:=⟨_,rfl⟩
 rw [<- hX] at hI ⊢
 have h0:=h
 obtain ⟨kv,rfl,_,_,_,hks⟩:=RdT.iff.1 h
 refine jl ?_
 unfold fo
 refine r_box hI fun b4 w' hI=>?_
 refine r_box hI fun b5 w' hI=>?_
 refine r_box hI fun b6 w' hI=>?_
 refine r_box hI fun b7 w' hI=>?_
 have hI:Inv w X [.blk mm (.map es ck),.blk b4 (.cells #[.pointer (some ⟨sb,0,none⟩)] ey),.blk b5 (.cells #[.int .i64 n] aV),.blk b6 (.cells #[.int .i64 t.kind,.int .i64 t.n,.string t.name,kv] ab),.blk b7 (.cells #[.map (some mm)] cP)] S w':=hI
 refine r_fieldL hI 3 rfl aI aC rfl ?_
 refine r_eql ?_
 refine condP (fun hk1=>?_) (fun hk1=>?_)
 ·obtain ⟨hn0,_⟩:=ho.var hk1
  obtain ⟨j,hj⟩:∃ j:Nat,t.n=j:=⟨t.n.toNat,by omega⟩
  have hvt:vT t=[j]:=by rw [dQ hk1,hj,Int.toNat_natCast]
  have hzb:zeroOf Tryz.prog Bc=some (.bool false):=by kernel_rfl
  have hun:Tryz.prog.underlying cP=some (.map aV Bc):=by kernel_rfl
  refine r_loadL hI 4 (by decide +kernel) rfl rfl ?_
  refine r_fieldL hI 3 rfl aK aC rfl ?_
  rw [hj] at hI ⊢
  rcases hmet.find j with ⟨hmj,q,hf⟩|⟨hmj,hf⟩
  ·refine lU (c:=false) (ok:=true) (v:=.bool true) (hI.its (.blk mm (.map es ck)) (by simp)) hun db hzb (.inl ⟨q,hf,rfl⟩) ?_
   refine condV (fun _=>?_) (fun hb=>by cases hb)
   have hno:¬ cM st n t:=by
    rintro ⟨x,hx,hr⟩
    have hxj:=hx
    rw [hvt,List.mem_singleton] at hxj
    subst hxj
    exact hpre x hmj ⟨x,hx,.refl x⟩ hr
   exact ⟨_,_,_,rfl,hI.pick [true,false,false,false,false],Ext.refl _ _ _,rfl,es,ck,rfl,.inr ⟨hno,rfl,met,hmet,fun _ h=>h,fun _ h=>.inl h⟩⟩
  refine lU (c:=false) (ok:=false) (v:=.bool false) (hI.its (.blk mm (.map es ck)) (by simp)) hun db hzb (.inr ⟨hf,rfl,rfl⟩) ?_
  refine condV (fun hb=>by cases hb) (fun _=>?_)
  refine r_loadL hI 4 (by decide +kernel) rfl rfl ?_
  refine r_fieldL hI 3 rfl aK aC rfl ?_
  refine zL hI 0 hun db rfl hf fun w' hI=>?_
  have hmet2:=hmet.push j ck
  generalize hes2:es.push { key:=.int .i64 (j:Int),val:=.bool true,born:=ck }=es2 at hmet2
  rw [hes2] at hI
  have hI:Inv w X [.blk mm (.map es2 (ck+1)),.blk b4 (.cells #[.pointer (some ⟨sb,0,none⟩)] ey),.blk b5 (.cells #[.int .i64 n] aV),.blk b6 (.cells #[.int .i64 t.kind,.int .i64 j,.string t.name,kv] ab),.blk b7 (.cells #[.map (some mm)] cP)] S w':=hI
  refine r_loadL hI 1 lN rfl rfl ?_
  refine r_loadW hI 3 ag rfl rfl ?_
  rw [hj] at h0
  refine Run.call0 cK cL hI (ef hg hwv ho hst h0) fun v' I' S' w'=>?_
  rintro ⟨eS,rfl,cs',rfl,hcs'⟩ _ hI
  rw [eS] at hI
  clear eS
  have hlc':=hcs'.length
  refine r_alloc hI aE fun b9 w' hI=>?_
  have hI:Inv w X [.blk mm (.map es2 (ck+1)),.blk b4 (.cells #[.pointer (some ⟨sb,0,none⟩)] ey),.blk b5 (.cells #[.int .i64 n] aV),.blk b6 (.cells #[.int .i64 t.kind,.int .i64 j,.string t.name,kv] ab),.blk b7 (.cells #[.map (some mm)] cP),.blk b9 _] S w':=hI
  refine ao hI 5 rfl ag (by simpa using hlc') rfl (by simpa using hcs'.one) fun w' hI=>?_
  have hcs0:=hcs'
  obtain ⟨kv',rfl,_⟩:=RdT.iff.1 hcs'
  have hI:Inv w X [.blk mm (.map es2 (ck+1)),.blk b4 (.cells #[.pointer (some ⟨sb,0,none⟩)] ey),.blk b5 (.cells #[.int .i64 n] aV),.blk b6 (.cells #[.int .i64 t.kind,.int .i64 j,.string t.name,kv] ab),.blk b7 (.cells #[.map (some mm)] cP),.blk b9 (.cells #[.int .i64 v.kind,.int .i64 v.n,.string v.name,kv'] ab)] S w':=hI
  have hocc:=DB hwv hn
  have hmj2:∀ m,(met m ∨ m=j)->¬ cM st n t->met m ∨ ¬ Rch st m n:=by
   rintro m (hm|rfl) hno
   ·exact .inl hm
   ·exact .inr fun hr=>hno ⟨m,by rw [hvt]; exact List.mem_singleton.2 rfl,hr⟩
  refine r_fieldL hI 5 rfl aI aC rfl ?_
  refine r_eql ?_
  refine condP (fun hv1=>?_) (fun hv1=>?_)
  ·refine r_fieldL hI 5 rfl aK aC rfl ?_
   refine r_loadL hI 2 aC rfl rfl ?_
   refine r_eql ?_
   have hiff:cM st n v↔v.n.toNat=n:=by
    have hfree:=wg.1 (fH hwv) hv1
    constructor
    ·rintro ⟨x,hx,hr⟩
     rw [dQ hv1,List.mem_singleton] at hx
     subst hx
     cases hr with
     | refl=>rfl
     | step h1 _ _=>
      rcases hfree with e|e
      ·rw [e] at h1; cases h1
      ·rw [e] at h1; cases h1
    ·intro e
     exact ⟨n,by rw [dQ hv1,e]; exact List.mem_singleton.2 rfl,.refl n⟩
   have hvn0:0<=v.n:=by
    exact ((yb hg hwv ho).var hv1).1
   have hres:decide (v.n=(n:Int))=decide (v.n.toNat=n):=by
    rw [Bool.eq_iff_iff,decide_eq_true_eq,decide_eq_true_eq]
    omega
   rw [hres]
   refine ⟨_,_,_,rfl,hI.pick [true,false,false,false,false,false],Ext.refl _ _ _,rfl,es2,ck+1,rfl,?_⟩
   by_cases e:v.n.toNat=n
   ·left
    exact ⟨hocc.2 (hiff.2 e),by rw [decide_eq_true e]⟩
   ·right
    have hno:¬ cM st n t:=fun h=>e (hiff.1 (hocc.1 h))
    exact ⟨hno,by rw [decide_eq_false e],_,hmet2,fun m hm=>.inl hm,fun m hm=>hmj2 m hm hno⟩
  ·refine r_loadL hI 1 lN rfl rfl ?_
   refine r_loadL hI 2 aC rfl rfl ?_
   refine r_loadW hI 5 ag rfl rfl ?_
   refine r_loadL hI 4 (by decide +kernel) rfl rfl ?_
   have hI:Inv w X ([.blk b4 (.cells #[.pointer (some ⟨sb,0,none⟩)] ey)]++[.blk mm (.map es2 (ck+1))]) S w':=(hI.pick [true,true,false,false,false,false]).perm (List.Perm.swap ..)
   have hlk:∃ u,di st t=some u:=by
    cases hl:di st t with
    | some u=>exact ⟨u,rfl⟩
    | none=>
     have:v=t:=by
      cases hwv with
      | stop _=>rfl
      | step h1 _=>rw [h1] at hl; cases hl
     rw [this] at hv1
     exact absurd hk1 hv1
   obtain ⟨u,hl⟩:=hlk
   obtain ⟨rk,hrk⟩:=hg.rk
   have hwr:=vK hrk hwv u hl
   have hpre2:∀ m,(met m ∨ m=j)->(∃ x∈vT v,Rch st x m)->¬ Rch st m n:=by
    rintro m (hm|rfl) ⟨x,hx,hr⟩
    ·refine hpre m hm ⟨j,by rw [hvt]; exact List.mem_singleton.2 rfl,?_⟩
     have h1:=Aw hwv u hl x hx
     rw [hj,Int.toNat_natCast] at h1
     exact h1.trans hr
    ·exfalso
     have h1:=hwr x hx
     have h2:=Du hrk hr
     rw [hj,Int.toNat_natCast] at h1
     omega
   refine Run.callE cT cX hI (hv hk1 hv1 S0 S _ mm (ck+1) es2 _ hle hst hcs0 hmet2 hpre2) fun v' I' S' w'=>?_
   rintro ⟨eS,es3,ck3,rfl,hres⟩ _ hI
   rw [eS] at hI
   refine ⟨_,_,_,rfl,hI.pick [false,true],Ext.refl _ _ _,rfl,es3,ck3,rfl,?_⟩
   rcases hres with ⟨h1,rfl⟩|⟨h1,rfl,met3,hm3,h2,h3⟩
   ·exact .inl ⟨hocc.2 h1,rfl⟩
   ·have hno:¬ cM st n t:=fun h=>h1 (hocc.1 h)
    refine .inr ⟨hno,rfl,met3,hm3,fun m hm=>h2 m (.inl hm),fun m hm=>?_⟩
    rcases h3 m hm with h4|h4
    ·exact hmj2 m h4 hno
    ·exact .inr h4
 ·refine r_fieldL hI 3 rfl aq al rfl ?_
  refine r_makeFunc ?_
  have hvt:vT t=vTL t.kids:=r5 hk1
  have hI:Inv w X ([.blk mm (.map es ck)]++az [(b4,.cells #[.pointer (some ⟨sb,0,none⟩)] ey),(b5,.cells #[.int .i64 n] aV),(b7,.cells #[.map (some mm)] cP)]) S w':=hI.pick [true,true,true,false,true]
  obtain ⟨S1,hle1,hins,hI1,hback⟩:=Inv.lendAll _ hI
  have h4:=hins _ (List.mem_cons_self ..)
  have h5:=hins _ (List.mem_cons_of_mem _ (List.mem_cons_self ..))
  have h7:=hins _ (List.mem_cons_of_mem _ (List.mem_cons_of_mem _ (List.mem_cons_self ..)))
  have hI1:Inv w X ([]++[.blk mm (.map es ck)]) S1 w':=hI1
  refine Run.callE (A:=[]) bq bt hI1 (pM kL kZ (hle.trans hle1) hks
   (J:=fun i I=>∃ es' ck' met',I=[.blk mm (.map es' ck')]/\MetM es' met'/\(∀ m,met m->met' m)/\(∀ m,met' m->met m ∨ ¬ Rch st m n)/\∀ k (_:k<t.kids.length),k<i->¬ cM st n t.kids[k])
   (Fin:=fun I=>∃ es' ck',I=[.blk mm (.map es' ck')]/\cM st n t) ?_ ⟨es,ck,met,rfl,hmet,fun _ h=>h,fun _ h=>.inl h,fun k _ h=>by omega⟩) fun v' I2 S2 w'=>?_
  ·rintro i hi cs I hcs ⟨es',ck',met',rfl,hm',hsub,hnew,hdone⟩
   have hpre2:∀ m,met' m->(∃ x∈vT t.kids[i],Rch st x m)->¬ Rch st m n:=by
    rintro m hm ⟨x,hx,hr⟩
    rcases hnew m hm with h1|h1
    ·exact hpre m h1 ⟨x,by rw [hvt]; exact gN.2 ⟨_,List.getElem_mem hi,hx⟩,hr⟩
    ·exact h1
   intro w1 hI1
   refine (ul (hk hk1 _ (List.getElem_mem hi)) (hle.trans hle1) (hst.mono hle1) hcs hm' hpre2 h4 h5 h7 w1 hI1).mono ?_
   rintro e w2 ⟨v',I',S',rfl,hI2,hE,hS,es3,ck3,rfl,hres⟩
   refine ⟨_,_,_,rfl,hI2,hE,hS,?_⟩
   rcases hres with ⟨h1,rfl⟩|⟨h1,rfl,met3,hm3,h2,h3⟩
   ·obtain ⟨x,hx,hr⟩:=h1
    exact ⟨true,rfl,fun _=>⟨es3,ck3,rfl,x,by rw [hvt]; exact gN.2 ⟨_,List.getElem_mem hi,hx⟩,hr⟩,fun e=>by cases e⟩
   ·refine ⟨false,rfl,fun e=>(by cases e),fun _=>⟨es3,ck3,met3,rfl,hm3,fun m hm=>h2 m (hsub m hm),fun m hm=>?_,fun k hk2 hki=>?_⟩⟩
    ·rcases h3 m hm with h4|h4
     ·exact hnew m h4
     ·exact .inr h4
    ·by_cases e:k=i
     ·subst e; exact h1
     ·exact hdone k hk2 (by omega)
  rintro ⟨eS,b,rfl,hb1,hb2⟩ _ hI
  rw [eS] at hI
  have hI:Inv w X I2 S1 w':=hI
  have hI:=hback _ _ hI
  cases b with
  | true=>
   obtain ⟨es',ck',rfl,hocc⟩:=hb1 rfl
   exact ⟨_,_,_,rfl,hI.sub (List.sublist_append_left _ _),Ext.refl _ _ _,rfl,es',ck',rfl,.inl ⟨hocc,rfl⟩⟩
  | false=>
   obtain ⟨es',ck',met',rfl,hm',hsub,hnew,hdone⟩:=hb2 rfl
   have hno:¬ cM st n t:=by
    rintro ⟨x,hx,hr⟩
    rw [hvt] at hx
    obtain ⟨y,hy,hx⟩:=gN.1 hx
    obtain ⟨k,hk2,rfl⟩:=List.mem_iff_getElem.1 hy
    exact hdone k hk2 hk2 ⟨x,hx,hr⟩
   exact ⟨_,_,_,rfl,hI.sub (List.sublist_append_left _ _),Ext.refl _ _ _,rfl,es',ck',rfl,.inr ⟨hno,rfl,met',hm',hsub,hnew⟩⟩
theorem xT {N:Nat} {st:aG} (hg:Good N st) {sb n:Nat} (hn:∀ u,st[n]?≠some (some u)) (hnN:n<1000000000):∀ t:T,okU N t->OC st sb n t:=by
 obtain ⟨rk,hrk⟩:=hg.rk
 have hone:∀ (m:Nat) (a:T),(∀ x∈vT a,∀ u,st[x]?=some (some u)->rk x<m)->okU N a->OC st sb n a:=by
  intro m
  induction m using Nat.strongRecOn with
  | _ m ihm=>
   refine T.ind fun k n' s ks ih hr ho=>?_
   obtain ⟨v,hwv⟩:=BC hg (.mk k n' s ks)
   refine zQ hg hn hnN ho hwv (fun hk1 hv1=>?_) (fun hk1 x hx=>?_)
   ·cases hl:di st (.mk k n' s ks) with
    | none=>
     have:v=.mk k n' s ks:=by
      cases hwv with
      | stop _=>rfl
      | step h1 _=>rw [h1] at hl; cases hl
     rw [this] at hv1
     exact absurd hk1 hv1
    | some u=>
     have hs:=(bm.1 hl).2
     have hlt:=hr _ (by rw [dQ hk1]; exact List.mem_singleton.2 rfl) u hs
     exact ihm _ hlt v (fun x hx _ _=>vK hrk hwv u hl x hx) (yb hg hwv ho)
   ·exact ih x hx (fun y hy u hs=>hr y (by rw [r5 hk1]; exact gN.2 ⟨x,hx,hy⟩) u hs) (jc ho.kids x hx)
 have hM:∀ l:List Nat,∃ M,∀ m∈l,rk m<M:=by
  intro l
  induction l with
  | nil=>exact ⟨0,by simp⟩
  | cons x l ih=>
   obtain ⟨M,hM⟩:=ih
   refine ⟨M+rk x+1,fun m hm=>?_⟩
   rcases List.mem_cons.1 hm with rfl|hm
   ·omega
   ·have:=hM m hm; omega
 intro t ho
 obtain ⟨M,hM⟩:=hM (vT t)
 exact hone M t (fun x hx _ _=>hM x hx) ho
end

end Go.Proofs.YtmnnpgdeecnfpaaGreat
