/- spec: shifted terms and clauses. -/
import Derived.Test.YtmnnpgdeecnfpaaGreatZPe7
import Derived.Test.YtmnnpgdeecnfpaaGreatZPe6
import Derived.Test.YtmnnpgdeecnfpaaGreatZPe1
namespace Go.Proofs.YtmnnpgdeecnfpaaGreat
open Go Go.RowKit
mutual
def bE (m:Int):T->T
 | .mk k n s ks=>.mk k (if k=1 then n+m else n) s (cv m ks)
def cv (m:Int):List T->List T
 | []=>[]
 | t::ts=>bE m t::cv m ts
end
theorem cO (m:Int):∀ ts:List T,cv m ts=ts.map (bE m)
 | []=>rfl
 | t::ts=>by rw [cv,cO m ts]; rfl
theorem ma (m:Int) (ks:List T) (j:Nat) (h:j<ks.length):cv m (ks.take (j+1))=cv m (ks.take j)++[bE m ks[j]]:=by
 rw [cO,cO,List.take_succ_eq_append_getElem h,List.map_append]; rfl
def tq (m:Int) (c:C):C:=⟨bE m c.head,cv m c.body⟩
section
attribute [local irreducible] Run CondV GuardV LoadV
theorem gJ {N:Nat} (hN:N<=1000000) (m:Int) (hm0:0<=m) (hm1:m<=1000000):∀ (t:T) (S:Store) (cs:List Value),RdT S cs t->okU N t->wT t<=1048576->Tri Tryz.prog rt [.agg cs.toArray,.int .i64 m] [] S (wB S (bE m t)):=by
 refine T.ind fun k n s ks ih S cs h hou hw=>?_
 intro w hI
 obtain ⟨kv,rfl,h1,h2,hs,hks⟩:=RdT.iff.1 h
 simp only [T.name,T.kids,T.kind,T.n] at h1 h2 hs hks ⊢
 simp only [wT] at hw
 rw [okU] at hou
 obtain ⟨_,hvar,hou,_⟩:=hou
 obtain ⟨cur,hcur⟩:∃ cur,cur=if k=1 then n+m else n:=⟨_,rfl⟩
 have hci:inI cur:=by
  rw [hcur]
  split
  ·have:=hvar (by assumption)
   simp only [inI]
   omega
  ·exact h2
 refine mN ?_
 unfold jw
 refine r_box hI fun b1 w' hI=>?_
 refine r_alloc hI aK fun b2 w' hI=>?_
 refine r_fieldL hI 0 rfl aI aC rfl ?_
 refine r_fieldL hI 0 rfl aJ aC rfl ?_
 refine r_fieldL hI 0 rfl aA az rfl ?_
 refine fA ?_
 refine r_alloc hI aK fun b3 w' hI=>?_
 refine au hI 2 rfl aj rfl rfl (by simp [Value.oneCell']) fun w' hI=>?_
 have hI:Inv w [] [.blk b1 (.cells #[.int .i64 k,.int .i64 n,.string s,kv] ad),.blk b2 (.cells #[.int .i64 0,.int .i64 0,.string ⟨#[]⟩,.slice none 0 0] ad),.blk b3 (.cells #[.int .i64 k,.int .i64 n,.string s,.slice none 0 0] ad)] S w':=hI
 refine ⟨fun w'=>Inv w [] [.blk b1 (.cells #[.int .i64 k,.int .i64 n,.string s,kv] ad),.blk b2 (.cells #[.int .i64 0,.int .i64 0,.string ⟨#[]⟩,.slice none 0 0] ad),.blk b3 (.cells #[.int .i64 k,.int .i64 cur,.string s,.slice none 0 0] ad)] S w',?_,?_⟩
 ·refine r_fieldL hI 0 rfl aI aC rfl ?_
  refine r_eql ?_
  refine condP (fun he=>?_) (fun he=>?_)
  ·have hv:=hvar he
   refine r_fieldL hI 0 rfl aJ aC rfl ?_
   refine r_add (by omega) ?_
   rw [if_pos he] at hcur
   rw [hcur]
   exact dt hI 2 rfl aJ aC rfl rfl rfl fun w' hI=>hI
  ·rw [if_neg he] at hcur
   rw [hcur]
   exact hI
 intro _ _ _ _ _ _ _ _ w' hI
 have hI:=hI.rowNil ad 4
 refine ⟨fun i w'=>∃ (j:Nat) (kvc:Value) (Ls:List aD) (css:List (List Value)),j<=ks.length/\i=.int .i64 j/\Grown 4 TrT Ls css (cv m (ks.take j))/\
   Inv w [] (.blk b1 (.cells #[.int .i64 k,.int .i64 n,.string s,kv] ad)::.blk b2 (.cells #[.int .i64 0,.int .i64 0,.string ⟨#[]⟩,.slice none 0 0] ad)::.blk b3 (.cells #[.int .i64 k,.int .i64 cur,.string s,kvc] ad)::ax kvc ad 4 css::aH Ls.flatten) S w',
  fun i _=>ks.length - (intOf i).toNat,⟨0,_,[],[],Nat.zero_le _,rfl,Grown.nil _ _,hI⟩,?_⟩
 intro t7 _ _ _ _ _ _ _ _ _ _ _ _ _ _ _ _ _ _ _ w'
 rintro ⟨j,kvc,Ls,css,hj,rfl,hg,hI⟩
 refine r_fieldL hI 0 rfl ar ao rfl ?_
 refine r_lenSl hks aq ?_
 refine r_lss ?_
 refine condP (fun hji=>?_) (fun hji=>?_)
 ·have hj':j<ks.length:=by omega
  have hjl:(ks.take j).length=j:=by simp; omega
  have hcl:=hg.hc
  rw [cO,List.length_map] at hcl
  have hm:=List.getElem_mem hj'
  have hwm:=fu hm
  obtain ⟨b,o,cap,c,E,fz,rfl,hS,hR⟩:=hks.at_ hj'
  refine ⟨fun D x40 x39 x38 x37 x36 x35 x34 x33 x32 x31 x30 x29 w_=>(D 0=true->x29=.pointer (some ⟨b3,3,none⟩))/\(D 1=true->x30=kvc)/\(D 2=true->x31=.pointer (some ⟨b1,3,none⟩))/\(D 3=true->x32=.slice (some ⟨b,o,none⟩) ks.length cap)/\(D 4=true->x33=.int .i64 j)/\(D 5=true->x34=.pointer (some ⟨b,o+j * 4,none⟩))/\(D 6=true->x35=.agg (cellsAt c (o+j * 4) 4).toArray)/\(D 7=true->x36=.int .i64 m)/\(D 8=true->True)/\(D 9=true->True)/\(D 10=true->True)/\(D 11=true->x40=.pointer (some ⟨b3,3,none⟩))/\(D 12=true->True)/\∃ M cs7 b8,(D 8=true->x37=.agg cs7.toArray/\TrT M cs7 (bE m ks[j]))/\(D 9=true->x38=.slice (some ⟨b8,0,none⟩) 1 1)/\(D 9=true->D 8=true)/\(D 10=true->D 9=true)/\(D 12=true->D 10=true)/\(D 12=true->D 1=true)/\Inv w [] (ay (.blk b1 (.cells #[.int .i64 k,.int .i64 n,.string s,.slice (some ⟨b,o,none⟩) ks.length cap] ad)) (.blk b2 (.cells #[.int .i64 0,.int .i64 0,.string ⟨#[]⟩,.slice none 0 0] ad)) (.blk b3 (.cells #[.int .i64 k,.int .i64 cur,.string s,kvc] ad)) (.blk b3 (.cells #[.int .i64 k,.int .i64 cur,.string s,x39] ad)) (ax kvc ad 4 css) (ax x39 ad 4 (css++[cs7])) (aH Ls.flatten) M (.blk b8 (.cells cs7.toArray ad)) (D 8) (D 9) (D 10) (D 12)) S w_,⟨fun h=>Bool.noConfusion h,fun h=>Bool.noConfusion h,fun h=>Bool.noConfusion h,fun h=>Bool.noConfusion h,fun h=>Bool.noConfusion h,fun h=>Bool.noConfusion h,fun h=>Bool.noConfusion h,fun h=>Bool.noConfusion h,fun h=>Bool.noConfusion h,fun h=>Bool.noConfusion h,fun h=>Bool.noConfusion h,fun h=>Bool.noConfusion h,fun h=>Bool.noConfusion h,⟨[],[],0,fun h=>Bool.noConfusion h,fun h=>Bool.noConfusion h,fun h=>Bool.noConfusion h,fun h=>Bool.noConfusion h,fun h=>Bool.noConfusion h,fun h=>Bool.noConfusion h,by simpa [ay,aH] using hI.draw⟩⟩,⟨?_,?_,?_,?_,?_,?_,?_,?_,?_,?_,?_,?_,?_,trivial⟩,?_⟩
  ·intro D hD_  x40 x39 x38 x37 x36 x35 x34 x33 x32 x31 x30 x29 w_
   rintro ⟨h0_,h1_,h2_,h3_,h4_,h5_,h6_,h7_,h8_,h9_,h10_,h11_,h12_,⟨M,cs7,b8,e7,e8,k8,k9,k11,k1,hI⟩⟩
   refine r_field ar ?_
   exact ⟨fun _=>rfl,h1_,h2_,h3_,h4_,h5_,h6_,h7_,h8_,h9_,h10_,h11_,h12_,⟨M,cs7,b8,e7,e8,k8,k9,k11,k1,hI⟩⟩
  ·intro D hD_ d0_0 x40 x39 x38 x37 x36 x35 x34 x33 x32 x31 x30 x29 w_
   rintro ⟨h0_,h1_,h2_,h3_,h4_,h5_,h6_,h7_,h8_,h9_,h10_,h11_,h12_,⟨M,cs7,b8,e7,e8,k8,k9,k11,k1,hI⟩⟩
   obtain rfl:=h0_ d0_0
   have f11:D 12=false:=Bool.eq_false_iff.2 fun h=>by rw [k1 h] at hD_; cases hD_
   refine r_loadL (b:=b3) hI 2 (c:=(#[.int .i64 k,.int .i64 cur,.string s,kvc])) ao (by rw [f11]; rfl) rfl ?_
   have k1:=fun (_:setD D 1 12=true)=>(rfl:setD D 1 1=true)
   exact ⟨h0_,fun _=>rfl,h2_,h3_,h4_,h5_,h6_,h7_,h8_,h9_,h10_,h11_,h12_,⟨M,cs7,b8,e7,e8,k8,k9,k11,k1,hI⟩⟩
  ·intro D hD_  x40 x39 x38 x37 x36 x35 x34 x33 x32 x31 x30 x29 w_
   rintro ⟨h0_,h1_,h2_,h3_,h4_,h5_,h6_,h7_,h8_,h9_,h10_,h11_,h12_,⟨M,cs7,b8,e7,e8,k8,k9,k11,k1,hI⟩⟩
   refine r_field ar ?_
   exact ⟨h0_,h1_,fun _=>rfl,h3_,h4_,h5_,h6_,h7_,h8_,h9_,h10_,h11_,h12_,⟨M,cs7,b8,e7,e8,k8,k9,k11,k1,hI⟩⟩
  ·intro D hD_ d2_0 x40 x39 x38 x37 x36 x35 x34 x33 x32 x31 x30 x29 w_
   rintro ⟨h0_,h1_,h2_,h3_,h4_,h5_,h6_,h7_,h8_,h9_,h10_,h11_,h12_,⟨M,cs7,b8,e7,e8,k8,k9,k11,k1,hI⟩⟩
   obtain rfl:=h2_ d2_0
   refine r_loadL hI 0 ao rfl rfl ?_
   exact ⟨h0_,h1_,h2_,fun _=>rfl,h4_,h5_,h6_,h7_,h8_,h9_,h10_,h11_,h12_,⟨M,cs7,b8,e7,e8,k8,k9,k11,k1,hI⟩⟩
  ·intro D hD_  x40 x39 x38 x37 x36 x35 x34 x33 x32 x31 x30 x29 w_
   rintro ⟨h0_,h1_,h2_,h3_,h4_,h5_,h6_,h7_,h8_,h9_,h10_,h11_,h12_,⟨M,cs7,b8,e7,e8,k8,k9,k11,k1,hI⟩⟩
   exact ⟨h0_,h1_,h2_,h3_,fun _=>rfl,h5_,h6_,h7_,h8_,h9_,h10_,h11_,h12_,⟨M,cs7,b8,e7,e8,k8,k9,k11,k1,hI⟩⟩
  ·intro D hD_ d3_0 d4_1 x40 x39 x38 x37 x36 x35 x34 x33 x32 x31 x30 x29 w_
   rintro ⟨h0_,h1_,h2_,h3_,h4_,h5_,h6_,h7_,h8_,h9_,h10_,h11_,h12_,⟨M,cs7,b8,e7,e8,k8,k9,k11,k1,hI⟩⟩
   obtain rfl:=h3_ d3_0
   obtain rfl:=h4_ d4_1
   refine r_indexAddr aq hj' ?_
   exact ⟨h0_,h1_,h2_,h3_,h4_,fun _=>rfl,h6_,h7_,h8_,h9_,h10_,h11_,h12_,⟨M,cs7,b8,e7,e8,k8,k9,k11,k1,hI⟩⟩
  ·intro D hD_ d5_0 x40 x39 x38 x37 x36 x35 x34 x33 x32 x31 x30 x29 w_
   rintro ⟨h0_,h1_,h2_,h3_,h4_,h5_,h6_,h7_,h8_,h9_,h10_,h11_,h12_,⟨M,cs7,b8,e7,e8,k8,k9,k11,k1,hI⟩⟩
   obtain rfl:=h5_ d5_0
   refine r_loadA aj hR.length (fun j v hj=>by rw [hI.cellS hS]; exact cellsAt_get rfl j v hj) ?_
   exact ⟨h0_,h1_,h2_,h3_,h4_,h5_,fun _=>rfl,h7_,h8_,h9_,h10_,h11_,h12_,⟨M,cs7,b8,e7,e8,k8,k9,k11,k1,hI⟩⟩
  ·intro D hD_  x40 x39 x38 x37 x36 x35 x34 x33 x32 x31 x30 x29 w_
   rintro ⟨h0_,h1_,h2_,h3_,h4_,h5_,h6_,h7_,h8_,h9_,h10_,h11_,h12_,⟨M,cs7,b8,e7,e8,k8,k9,k11,k1,hI⟩⟩
   exact ⟨h0_,h1_,h2_,h3_,h4_,h5_,h6_,fun _=>rfl,h8_,h9_,h10_,h11_,h12_,⟨M,cs7,b8,e7,e8,k8,k9,k11,k1,hI⟩⟩
  ·intro D hD_ d6_0 d7_1 x40 x39 x38 x37 x36 x35 x34 x33 x32 x31 x30 x29 w_
   rintro ⟨h0_,h1_,h2_,h3_,h4_,h5_,h6_,h7_,h8_,h9_,h10_,h11_,h12_,⟨M,cs7,b8,e7,e8,k8,k9,k11,k1,hI⟩⟩
   obtain rfl:=h6_ d6_0
   obtain rfl:=h7_ d7_1
   have f8:D 9=false:=Bool.eq_false_iff.2 fun h=>by rw [k8 h] at hD_; cases hD_
   have f9:D 10=false:=Bool.eq_false_iff.2 fun h=>by rw [k9 h] at f8; cases f8
   have f11:D 12=false:=Bool.eq_false_iff.2 fun h=>by rw [k11 h] at f9; cases f9
   rw [hD_,f8,f9,f11] at hI
   refine Run.call0 eO eF hI (ih _ (List.getElem_mem hj') S _ hR (kC hou _ (List.getElem_mem hj')) (by omega)) fun v' I' S w_=>?_
   rintro ⟨rfl,cs7,M,rfl,rfl,hT⟩ _ hI
   have e7:setD D 8 8=true->Value.agg cs7.toArray=Value.agg cs7.toArray/\TrT M cs7 (bE m ks[j]):=fun _=>⟨rfl,hT⟩
   have k8:=fun (_:setD D 8 9=true)=>(rfl:setD D 8 8=true)
   have hI:Inv w [] (ay (.blk b1 (.cells #[.int .i64 k,.int .i64 n,.string s,.slice (some ⟨b,o,none⟩) ks.length cap] ad)) (.blk b2 (.cells #[.int .i64 0,.int .i64 0,.string ⟨#[]⟩,.slice none 0 0] ad)) (.blk b3 (.cells #[.int .i64 k,.int .i64 cur,.string s,kvc] ad)) (.blk b3 (.cells #[.int .i64 k,.int .i64 cur,.string s,x39] ad)) (ax kvc ad 4 css) (ax x39 ad 4 (css++[cs7])) (aH Ls.flatten) M (.blk b8 (.cells cs7.toArray ad)) true (D 9) (D 10) (D 12)) S w_:=by
    rw [f8,f9,f11]
    simpa [ay] using hI
   exact ⟨h0_,h1_,h2_,h3_,h4_,h5_,h6_,h7_,fun _=>by first|assumption|trivial,h9_,h10_,h11_,h12_,⟨M,cs7,b8,e7,e8,k8,k9,k11,k1,hI⟩⟩
  ·intro D hD_ d8_0 x40 x39 x38 x37 x36 x35 x34 x33 x32 x31 x30 x29 w_
   rintro ⟨h0_,h1_,h2_,h3_,h4_,h5_,h6_,h7_,h8_,h9_,h10_,h11_,h12_,⟨M,cs7,b8,e7,e8,k8,k9,k11,k1,hI⟩⟩
   have g8_:=h8_ d8_0
   have f9:D 10=false:=Bool.eq_false_iff.2 fun h=>by rw [k9 h] at hD_; cases hD_
   have f11:D 12=false:=Bool.eq_false_iff.2 fun h=>by rw [k11 h] at f9; cases f9
   obtain ⟨q7,hT⟩:=e7 d8_0
   subst q7
   rw [d8_0,hD_,f9,f11] at hI
   refine r_slice1 hI aR (by simp [Value.cells,hT.length]) (by omega) (by omega) fun b8 w_ hI=>?_
   have e7:setD D 9 8=true->Value.agg cs7.toArray=Value.agg cs7.toArray/\TrT M cs7 (bE m ks[j]):=fun _=>⟨rfl,hT⟩
   have e8:=fun (_:setD D 9 9=true)=>(rfl:Value.slice (some ⟨b8,0,none⟩) 1 1=_)
   have k8:=fun (_:setD D 9 9=true)=>d8_0
   have k9:=fun (_:setD D 9 10=true)=>(rfl:setD D 9 9=true)
   have hI:Inv w [] (ay (.blk b1 (.cells #[.int .i64 k,.int .i64 n,.string s,.slice (some ⟨b,o,none⟩) ks.length cap] ad)) (.blk b2 (.cells #[.int .i64 0,.int .i64 0,.string ⟨#[]⟩,.slice none 0 0] ad)) (.blk b3 (.cells #[.int .i64 k,.int .i64 cur,.string s,kvc] ad)) (.blk b3 (.cells #[.int .i64 k,.int .i64 cur,.string s,x39] ad)) (ax kvc ad 4 css) (ax x39 ad 4 (css++[cs7])) (aH Ls.flatten) M (.blk b8 (.cells cs7.toArray ad)) (D 8) true (D 10) (D 12)) S w_:=by
    rw [d8_0,f9,f11]
    simpa [ay,Value.cells] using hI
   exact ⟨h0_,h1_,h2_,h3_,h4_,h5_,h6_,h7_,h8_,fun _=>by first|assumption|trivial,h10_,h11_,h12_,⟨M,cs7,b8,e7,e8,k8,k9,k11,k1,hI⟩⟩
  ·intro D hD_ d1_0 d9_1 d8_2 x40 x39 x38 x37 x36 x35 x34 x33 x32 x31 x30 x29 w_
   rintro ⟨h0_,h1_,h2_,h3_,h4_,h5_,h6_,h7_,h8_,h9_,h10_,h11_,h12_,⟨M,cs7,b8,e7,e8,k8,k9,k11,k1,hI⟩⟩
   obtain rfl:=h1_ d1_0
   have g9_:=h9_ d9_1
   have f11:D 12=false:=Bool.eq_false_iff.2 fun h=>by rw [k11 h] at hD_; cases hD_
   have q8:=e8 d9_1
   subst q8
   obtain ⟨_,hT⟩:=e7 d8_2
   rw [d8_2,d9_1,hD_,f11] at hI
   have hblk:((ay (.blk b1 (.cells #[.int .i64 k,.int .i64 n,.string s,.slice (some ⟨b,o,none⟩) ks.length cap] ad)) (.blk b2 (.cells #[.int .i64 0,.int .i64 0,.string ⟨#[]⟩,.slice none 0 0] ad)) (.blk b3 (.cells #[.int .i64 k,.int .i64 cur,.string s,x30] ad)) (.blk b3 (.cells #[.int .i64 k,.int .i64 cur,.string s,x39] ad)) (ax x30 ad 4 css) (ax x39 ad 4 (css++[cs7])) (aH Ls.flatten) M (.blk b8 (.cells cs7.toArray ad)) true true false false))[4+(aH Ls.flatten).length+(aH M).length]?=some (.blk b8 (.cells cs7.toArray ad)):=by
    have e4:4+(aH Ls.flatten).length+(aH M).length=((aH Ls.flatten).length+(aH M).length)+1+1+1+1:=by omega
    rw [e4]
    simp only [ay,List.getElem?_cons_succ]
    rw [List.getElem?_append_right (by omega),Nat.add_sub_cancel_left,List.getElem?_append_right (Nat.le_refl _),Nat.sub_self]; rfl
   refine r_append hI 3 cs7 aR (by omega) rfl (by rw [hT.length]) (m:=1) (o:=0) ?_ hT.one (by omega) (by omega) fun v' w_ hI=>?_
   ·intro i u hi
    rw [hI.cellL hblk,Nat.zero_add]
    simpa using hi
   rw [cg] at hI
   have k9:=fun (_:setD D 10 10=true)=>d9_1
   have k11:=fun (_:setD D 10 12=true)=>(rfl:setD D 10 10=true)
   have hI:Inv w [] (ay (.blk b1 (.cells #[.int .i64 k,.int .i64 n,.string s,.slice (some ⟨b,o,none⟩) ks.length cap] ad)) (.blk b2 (.cells #[.int .i64 0,.int .i64 0,.string ⟨#[]⟩,.slice none 0 0] ad)) (.blk b3 (.cells #[.int .i64 k,.int .i64 cur,.string s,x30] ad)) (.blk b3 (.cells #[.int .i64 k,.int .i64 cur,.string s,v'] ad)) (ax x30 ad 4 css) (ax v' ad 4 (css++[cs7])) (aH Ls.flatten) M (.blk b8 (.cells cs7.toArray ad)) (D 8) (D 9) true (D 12)) S w_:=by
    rw [d8_2,d9_1,f11]
    exact hI
   exact ⟨h0_,h1_,h2_,h3_,h4_,h5_,h6_,h7_,h8_,h9_,fun _=>by first|assumption|trivial,h11_,h12_,⟨M,cs7,b8,e7,e8,k8,k9,k11,k1,hI⟩⟩
  ·intro D hD_ d0_0 d1_1 d2_2 d3_3 d4_4 d5_5 d6_6 d7_7 d8_8 d9_9 d10_10 x40 x39 x38 x37 x36 x35 x34 x33 x32 x31 x30 x29 w_
   rintro ⟨h0_,h1_,h2_,h3_,h4_,h5_,h6_,h7_,h8_,h9_,h10_,h11_,h12_,⟨M,cs7,b8,e7,e8,k8,k9,k11,k1,hI⟩⟩
   refine r_field ar ?_
   exact ⟨h0_,h1_,h2_,h3_,h4_,h5_,h6_,h7_,h8_,h9_,h10_,fun _=>rfl,h12_,⟨M,cs7,b8,e7,e8,k8,k9,k11,k1,hI⟩⟩
  ·intro D hD_ d11_0 d10_1 d10_2 d0_3 d1_4 d2_5 d3_6 d4_7 d5_8 d6_9 d7_10 d8_11 d9_12 d10_13 x40 x39 x38 x37 x36 x35 x34 x33 x32 x31 x30 x29 w_
   rintro ⟨h0_,h1_,h2_,h3_,h4_,h5_,h6_,h7_,h8_,h9_,h10_,h11_,h12_,⟨M,cs7,b8,e7,e8,k8,k9,k11,k1,hI⟩⟩
   obtain rfl:=h11_ d11_0
   have g10_:=h10_ d10_1
   rw [d8_11,d9_12,d10_1,hD_] at hI
   obtain ⟨va,vn,vc,hv9⟩:=Inv.rowSlice hI 3 rfl
   refine r_store hI 2 (n:=1) (by rw [hv9]; rfl) (by decide +kernel) rfl (by simp) (by rw [hv9]; simp [Value.cells,Value.oneCell']) fun w_ hI=>?_
   have hcl9:Value.cells x39=#[x39]:=by rw [hv9]; rfl
   rw [hcl9] at hI
   have k1:=fun (_:setD D 12 12=true)=>d1_4
   have k11:=fun (_:setD D 12 12=true)=>d10_1
   have hI:Inv w [] (ay (.blk b1 (.cells #[.int .i64 k,.int .i64 n,.string s,.slice (some ⟨b,o,none⟩) ks.length cap] ad)) (.blk b2 (.cells #[.int .i64 0,.int .i64 0,.string ⟨#[]⟩,.slice none 0 0] ad)) (.blk b3 (.cells #[.int .i64 k,.int .i64 cur,.string s,kvc] ad)) (.blk b3 (.cells #[.int .i64 k,.int .i64 cur,.string s,x39] ad)) (ax kvc ad 4 css) (ax x39 ad 4 (css++[cs7])) (aH Ls.flatten) M (.blk b8 (.cells cs7.toArray ad)) (D 8) (D 9) (D 10) true) S w_:=by
    rw [d8_11,d9_12,d10_1]
    exact hI
   exact ⟨h0_,h1_,h2_,h3_,h4_,h5_,h6_,h7_,h8_,h9_,h10_,h11_,fun _=>trivial,⟨M,cs7,b8,e7,e8,k8,k9,k11,k1,hI⟩⟩
  intro D d12_ d11_ d10_ d9_ d8_ d7_ d6_ d5_ d4_ d3_ d2_ d1_ d0_ x40 x39 x38 x37 x36 x35 x34 x33 x32 x31 x30 x29 w_
  rintro ⟨h0_,h1_,h2_,h3_,h4_,h5_,h6_,h7_,h8_,h9_,h10_,h11_,h12_,⟨M,cs7,b8,e7,e8,k8,k9,k11,k1,hI⟩⟩
  obtain rfl:=h11_ d11_
  have g10_:=h10_ d10_
  have g9_:=h9_ d9_
  have g8_:=h8_ d8_
  obtain rfl:=h7_ d7_
  obtain rfl:=h6_ d6_
  obtain rfl:=h5_ d5_
  obtain rfl:=h4_ d4_
  obtain rfl:=h3_ d3_
  obtain rfl:=h2_ d2_
  obtain rfl:=h1_ d1_
  obtain rfl:=h0_ d0_
  clear h0_ h1_ h2_ h3_ h4_ h5_ h6_ h7_ h8_ h9_ h10_ h11_ h12_
  obtain ⟨_,hT⟩:=e7 d8_
  rw [d8_,d9_,d10_,d12_] at hI
  refine r_add (by omega) ?_
  refine ⟨⟨j+1,x39,Ls++[M],css++[cs7],hj',rfl,?_,?_⟩,by simp [intOf]; omega⟩
  ·rw [ma m ks j hj']
   exact hg.snoc hT hT.length
  ·simp only [List.flatten_append,List.flatten_cons,List.flatten_nil,List.append_nil,bp]
   refine hI.sub ?_
   simp only [ay]
   rw [<- List.append_assoc]
   exact (((List.sublist_append_left _ _).cons_cons _).cons_cons _).cons_cons _ |>.cons_cons _
 ·have:j=ks.length:=by omega
  subst this
  rw [List.take_length] at hg
  obtain ⟨va,vn,vc,hvk⟩:=hI.rowSlice 3 rfl
  have hv1:kvc.oneCell'=true:=by rw [hvk]; rfl
  refine r_loadW hI 2 aj rfl rfl ?_
  refine au hI 1 rfl aj rfl rfl ?_ fun w' hI=>?_
  ·intro u hu
   have hu':u∈([.int .i64 k,.int .i64 cur,.string s,kvc]:List Value):=hu
   simp at hu'
   rcases hu' with rfl|rfl|rfl|rfl <;> first|rfl|exact hv1
  refine loadV_W hI 1 aj rfl rfl ?_
  have hI:Inv w [] ([]++(ax kvc ad 4 css::aH Ls.flatten)) S w':=hI.sub (List.sublist_append_right [_,_,_] _)
  obtain ⟨L,hT,hI⟩:=Inv.rowTree hI hg
  exact ⟨_,_,_,rfl,hI,Ext.refl _ _ _,rfl,_,L,rfl,rfl,TrT.iff.2 ⟨kvc,by rw [bE,<- hcur]; rfl,by rw [bE]; exact h1,by rw [bE,<- hcur]; exact hci,by rw [bE]; exact hs,by rw [bE]; exact hT⟩⟩
theorem nh {Nv:Nat} (hN:Nv<=1000000) (m:Int) (hm0:0<=m) (hm1:m<=1000000) {c0:C} {S:Store} {cs:List Value} (h:RdC S cs c0) (hoh:okU Nv c0.head) (hob:∀ t∈c0.body,okU Nv t) (hw:wC c0<=1048576) :
  Tri Tryz.prog qO [.agg cs.toArray,.int .i64 m] [] S (xQ S (tq m c0)):=by
 intro w hI
 obtain ⟨hd0,ks,rfl,h1,h2⟩:=h
 have h1':=h1
 obtain ⟨kv,rfl,g1,g2,g3,g4⟩:=RdT.iff.1 h1
 unfold wC at hw
 refine kY ?_
 unfold hO
 refine r_box hI fun b1 w' hI=>?_
 refine r_alloc hI aP fun b2 w' hI=>?_
 refine r_field aQ ?_
 refine r_loadLA hI 0 [.int .i64 c0.head.kind,.int .i64 c0.head.n,.string c0.head.name,kv] aj rfl rfl mK ?_
 refine Run.call0 eO eF hI (gJ hN m hm0 hm1 _ S _ h1' hoh (by omega)) fun v' I' S w'=>?_
 rintro ⟨rfl,cs1,N,rfl,rfl,hT1⟩ _ hI
 obtain ⟨hd,hhd⟩:∃ hd,hd=bE m c0.head:=⟨_,rfl⟩
 rw [<- hhd] at hT1
 obtain ⟨kh,rfl,_⟩:=TrT.iff.1 hT1
 refine cY ?_
 refine r_alloc hI aP fun b3 w' hI=>?_
 have hI:=hI.perm (M:=.blk b1 _::.blk b2 _::.blk b3 _::aH N) (((List.perm_append_comm (l₁:=[_])).cons _).cons _)
 refine au hI 2 rfl al rfl rfl ?_ fun w' hI=>?_
 ·intro u hu
  have hu':u∈([.int .i64 hd.kind,.int .i64 hd.n,.string hd.name,kh,.slice none 0 0]:List Value):=hu
  simp at hu'
  have o1:kh.oneCell'=true:=hT1.one kh (by simp)
  rcases hu' with rfl|rfl|rfl|rfl|rfl <;> first|rfl|exact o1
 have hI:=hI.rowNil ad 4
 have hI:=hI.perm (M:=.blk b1 (.cells #[.int .i64 c0.head.kind,.int .i64 c0.head.n,.string c0.head.name,kv,ks] af)::.blk b2 (.cells #[.int .i64 0,.int .i64 0,.string ⟨#[]⟩,.slice none 0 0,.slice none 0 0] af)::.blk b3 (.cells #[.int .i64 hd.kind,.int .i64 hd.n,.string hd.name,kh,.slice none 0 0] af)::ax (.slice none 0 0) ad 4 []::aH N) ((((List.perm_append_comm (l₁:=[_])).cons _).cons _).cons _)
 refine ⟨fun i w'=>∃ (j:Nat) (kvc:Value) (Ls:List aD) (css:List (List Value)),j<=c0.body.length/\i=.int .i64 j/\Grown 4 TrT Ls css (cv m (c0.body.take j))/\
   Inv w [] (.blk b1 (.cells #[.int .i64 c0.head.kind,.int .i64 c0.head.n,.string c0.head.name,kv,ks] af)::.blk b2 (.cells #[.int .i64 0,.int .i64 0,.string ⟨#[]⟩,.slice none 0 0,.slice none 0 0] af)::.blk b3 (.cells #[.int .i64 hd.kind,.int .i64 hd.n,.string hd.name,kh,kvc] af)::ax kvc ad 4 css::aH (N::Ls).flatten) S w',
  fun i _=>c0.body.length - (intOf i).toNat,⟨0,_,[],[],Nat.zero_le _,rfl,Grown.nil _ _,by simp only [List.flatten_cons,List.flatten_nil,List.append_nil]; exact hI⟩,?_⟩
 intro t4 _ _ _ _ _ _ _ _ _ _ _ _ _ _ _ _ _ _ _ w'
 rintro ⟨j,kvc,Ls,css,hj,rfl,hg,hI⟩
 refine r_fieldL hI 0 rfl aw ao rfl ?_
 refine r_lenSl h2 aq ?_
 refine r_lss ?_
 refine condP (fun hji=>?_) (fun hji=>?_)
 ·have hj':j<c0.body.length:=by omega
  have hjl:(c0.body.take j).length=j:=by simp; omega
  have hcl:=hg.hc
  rw [cO,List.length_map] at hcl
  have hm:=List.getElem_mem hj'
  have hwm:=fu hm
  obtain ⟨b,o,cap,c,E,fz,rfl,hS,hR⟩:=h2.at_ hj'
  refine ⟨fun D x30 x29 x28 x27 x26 x25 x24 x23 x22 x21 x20 x19 w_=>(D 0=true->x19=.pointer (some ⟨b3,4,none⟩))/\(D 1=true->x20=kvc)/\(D 2=true->x21=.pointer (some ⟨b1,4,none⟩))/\(D 3=true->x22=.slice (some ⟨b,o,none⟩) c0.body.length cap)/\(D 4=true->x23=.int .i64 j)/\(D 5=true->x24=.pointer (some ⟨b,o+j * 4,none⟩))/\(D 6=true->x25=.agg (cellsAt c (o+j * 4) 4).toArray)/\(D 7=true->x26=.int .i64 m)/\(D 8=true->True)/\(D 9=true->True)/\(D 10=true->True)/\(D 11=true->x30=.pointer (some ⟨b3,4,none⟩))/\(D 12=true->True)/\∃ M cs7 b8,(D 8=true->x27=.agg cs7.toArray/\TrT M cs7 (bE m c0.body[j]))/\(D 9=true->x28=.slice (some ⟨b8,0,none⟩) 1 1)/\(D 9=true->D 8=true)/\(D 10=true->D 9=true)/\(D 12=true->D 10=true)/\(D 12=true->D 1=true)/\Inv w [] (ay (.blk b1 (.cells #[.int .i64 c0.head.kind,.int .i64 c0.head.n,.string c0.head.name,kv,.slice (some ⟨b,o,none⟩) c0.body.length cap] af)) (.blk b2 (.cells #[.int .i64 0,.int .i64 0,.string ⟨#[]⟩,.slice none 0 0,.slice none 0 0] af)) (.blk b3 (.cells #[.int .i64 hd.kind,.int .i64 hd.n,.string hd.name,kh,kvc] af)) (.blk b3 (.cells #[.int .i64 hd.kind,.int .i64 hd.n,.string hd.name,kh,x29] af)) (ax kvc ad 4 css) (ax x29 ad 4 (css++[cs7])) (aH (N::Ls).flatten) M (.blk b8 (.cells cs7.toArray ad)) (D 8) (D 9) (D 10) (D 12)) S w_,⟨fun h=>Bool.noConfusion h,fun h=>Bool.noConfusion h,fun h=>Bool.noConfusion h,fun h=>Bool.noConfusion h,fun h=>Bool.noConfusion h,fun h=>Bool.noConfusion h,fun h=>Bool.noConfusion h,fun h=>Bool.noConfusion h,fun h=>Bool.noConfusion h,fun h=>Bool.noConfusion h,fun h=>Bool.noConfusion h,fun h=>Bool.noConfusion h,fun h=>Bool.noConfusion h,⟨[],[],0,fun h=>Bool.noConfusion h,fun h=>Bool.noConfusion h,fun h=>Bool.noConfusion h,fun h=>Bool.noConfusion h,fun h=>Bool.noConfusion h,fun h=>Bool.noConfusion h,by simpa [ay,aH] using hI.draw⟩⟩,⟨?_,?_,?_,?_,?_,?_,?_,?_,?_,?_,?_,?_,?_,trivial⟩,?_⟩
  ·intro D hD_  x30 x29 x28 x27 x26 x25 x24 x23 x22 x21 x20 x19 w_
   rintro ⟨h0_,h1_,h2_,h3_,h4_,h5_,h6_,h7_,h8_,h9_,h10_,h11_,h12_,⟨M,cs7,b8,e7,e8,k8,k9,k11,k1,hI⟩⟩
   refine r_field aw ?_
   exact ⟨fun _=>rfl,h1_,h2_,h3_,h4_,h5_,h6_,h7_,h8_,h9_,h10_,h11_,h12_,⟨M,cs7,b8,e7,e8,k8,k9,k11,k1,hI⟩⟩
  ·intro D hD_ d0_0 x30 x29 x28 x27 x26 x25 x24 x23 x22 x21 x20 x19 w_
   rintro ⟨h0_,h1_,h2_,h3_,h4_,h5_,h6_,h7_,h8_,h9_,h10_,h11_,h12_,⟨M,cs7,b8,e7,e8,k8,k9,k11,k1,hI⟩⟩
   obtain rfl:=h0_ d0_0
   have f11:D 12=false:=Bool.eq_false_iff.2 fun h=>by rw [k1 h] at hD_; cases hD_
   refine r_loadL (b:=b3) hI 2 (c:=(#[.int .i64 hd.kind,.int .i64 hd.n,.string hd.name,kh,kvc])) ao (by rw [f11]; rfl) rfl ?_
   have k1:=fun (_:setD D 1 12=true)=>(rfl:setD D 1 1=true)
   exact ⟨h0_,fun _=>rfl,h2_,h3_,h4_,h5_,h6_,h7_,h8_,h9_,h10_,h11_,h12_,⟨M,cs7,b8,e7,e8,k8,k9,k11,k1,hI⟩⟩
  ·intro D hD_  x30 x29 x28 x27 x26 x25 x24 x23 x22 x21 x20 x19 w_
   rintro ⟨h0_,h1_,h2_,h3_,h4_,h5_,h6_,h7_,h8_,h9_,h10_,h11_,h12_,⟨M,cs7,b8,e7,e8,k8,k9,k11,k1,hI⟩⟩
   refine r_field aw ?_
   exact ⟨h0_,h1_,fun _=>rfl,h3_,h4_,h5_,h6_,h7_,h8_,h9_,h10_,h11_,h12_,⟨M,cs7,b8,e7,e8,k8,k9,k11,k1,hI⟩⟩
  ·intro D hD_ d2_0 x30 x29 x28 x27 x26 x25 x24 x23 x22 x21 x20 x19 w_
   rintro ⟨h0_,h1_,h2_,h3_,h4_,h5_,h6_,h7_,h8_,h9_,h10_,h11_,h12_,⟨M,cs7,b8,e7,e8,k8,k9,k11,k1,hI⟩⟩
   obtain rfl:=h2_ d2_0
   refine r_loadL hI 0 ao rfl rfl ?_
   exact ⟨h0_,h1_,h2_,fun _=>rfl,h4_,h5_,h6_,h7_,h8_,h9_,h10_,h11_,h12_,⟨M,cs7,b8,e7,e8,k8,k9,k11,k1,hI⟩⟩
  ·intro D hD_  x30 x29 x28 x27 x26 x25 x24 x23 x22 x21 x20 x19 w_
   rintro ⟨h0_,h1_,h2_,h3_,h4_,h5_,h6_,h7_,h8_,h9_,h10_,h11_,h12_,⟨M,cs7,b8,e7,e8,k8,k9,k11,k1,hI⟩⟩
   exact ⟨h0_,h1_,h2_,h3_,fun _=>rfl,h5_,h6_,h7_,h8_,h9_,h10_,h11_,h12_,⟨M,cs7,b8,e7,e8,k8,k9,k11,k1,hI⟩⟩
  ·intro D hD_ d3_0 d4_1 x30 x29 x28 x27 x26 x25 x24 x23 x22 x21 x20 x19 w_
   rintro ⟨h0_,h1_,h2_,h3_,h4_,h5_,h6_,h7_,h8_,h9_,h10_,h11_,h12_,⟨M,cs7,b8,e7,e8,k8,k9,k11,k1,hI⟩⟩
   obtain rfl:=h3_ d3_0
   obtain rfl:=h4_ d4_1
   refine r_indexAddr aq hj' ?_
   exact ⟨h0_,h1_,h2_,h3_,h4_,fun _=>rfl,h6_,h7_,h8_,h9_,h10_,h11_,h12_,⟨M,cs7,b8,e7,e8,k8,k9,k11,k1,hI⟩⟩
  ·intro D hD_ d5_0 x30 x29 x28 x27 x26 x25 x24 x23 x22 x21 x20 x19 w_
   rintro ⟨h0_,h1_,h2_,h3_,h4_,h5_,h6_,h7_,h8_,h9_,h10_,h11_,h12_,⟨M,cs7,b8,e7,e8,k8,k9,k11,k1,hI⟩⟩
   obtain rfl:=h5_ d5_0
   refine r_loadA aj hR.length (fun j v hj=>by rw [hI.cellS hS]; exact cellsAt_get rfl j v hj) ?_
   exact ⟨h0_,h1_,h2_,h3_,h4_,h5_,fun _=>rfl,h7_,h8_,h9_,h10_,h11_,h12_,⟨M,cs7,b8,e7,e8,k8,k9,k11,k1,hI⟩⟩
  ·intro D hD_  x30 x29 x28 x27 x26 x25 x24 x23 x22 x21 x20 x19 w_
   rintro ⟨h0_,h1_,h2_,h3_,h4_,h5_,h6_,h7_,h8_,h9_,h10_,h11_,h12_,⟨M,cs7,b8,e7,e8,k8,k9,k11,k1,hI⟩⟩
   exact ⟨h0_,h1_,h2_,h3_,h4_,h5_,h6_,fun _=>rfl,h8_,h9_,h10_,h11_,h12_,⟨M,cs7,b8,e7,e8,k8,k9,k11,k1,hI⟩⟩
  ·intro D hD_ d6_0 d7_1 x30 x29 x28 x27 x26 x25 x24 x23 x22 x21 x20 x19 w_
   rintro ⟨h0_,h1_,h2_,h3_,h4_,h5_,h6_,h7_,h8_,h9_,h10_,h11_,h12_,⟨M,cs7,b8,e7,e8,k8,k9,k11,k1,hI⟩⟩
   obtain rfl:=h6_ d6_0
   obtain rfl:=h7_ d7_1
   have f8:D 9=false:=Bool.eq_false_iff.2 fun h=>by rw [k8 h] at hD_; cases hD_
   have f9:D 10=false:=Bool.eq_false_iff.2 fun h=>by rw [k9 h] at f8; cases f8
   have f11:D 12=false:=Bool.eq_false_iff.2 fun h=>by rw [k11 h] at f9; cases f9
   rw [hD_,f8,f9,f11] at hI
   refine Run.call0 eO eF hI (gJ hN m hm0 hm1 _ S _ hR (hob _ (List.getElem_mem hj')) (by omega)) fun v' I' S w_=>?_
   rintro ⟨rfl,cs7,M,rfl,rfl,hT⟩ _ hI
   have e7:setD D 8 8=true->Value.agg cs7.toArray=Value.agg cs7.toArray/\TrT M cs7 (bE m c0.body[j]):=fun _=>⟨rfl,hT⟩
   have k8:=fun (_:setD D 8 9=true)=>(rfl:setD D 8 8=true)
   have hI:Inv w [] (ay (.blk b1 (.cells #[.int .i64 c0.head.kind,.int .i64 c0.head.n,.string c0.head.name,kv,.slice (some ⟨b,o,none⟩) c0.body.length cap] af)) (.blk b2 (.cells #[.int .i64 0,.int .i64 0,.string ⟨#[]⟩,.slice none 0 0,.slice none 0 0] af)) (.blk b3 (.cells #[.int .i64 hd.kind,.int .i64 hd.n,.string hd.name,kh,kvc] af)) (.blk b3 (.cells #[.int .i64 hd.kind,.int .i64 hd.n,.string hd.name,kh,x29] af)) (ax kvc ad 4 css) (ax x29 ad 4 (css++[cs7])) (aH (N::Ls).flatten) M (.blk b8 (.cells cs7.toArray ad)) true (D 9) (D 10) (D 12)) S w_:=by
    rw [f8,f9,f11]
    simpa [ay] using hI
   exact ⟨h0_,h1_,h2_,h3_,h4_,h5_,h6_,h7_,fun _=>by first|assumption|trivial,h9_,h10_,h11_,h12_,⟨M,cs7,b8,e7,e8,k8,k9,k11,k1,hI⟩⟩
  ·intro D hD_ d8_0 x30 x29 x28 x27 x26 x25 x24 x23 x22 x21 x20 x19 w_
   rintro ⟨h0_,h1_,h2_,h3_,h4_,h5_,h6_,h7_,h8_,h9_,h10_,h11_,h12_,⟨M,cs7,b8,e7,e8,k8,k9,k11,k1,hI⟩⟩
   have g8_:=h8_ d8_0
   have f9:D 10=false:=Bool.eq_false_iff.2 fun h=>by rw [k9 h] at hD_; cases hD_
   have f11:D 12=false:=Bool.eq_false_iff.2 fun h=>by rw [k11 h] at f9; cases f9
   obtain ⟨q7,hT⟩:=e7 d8_0
   subst q7
   rw [d8_0,hD_,f9,f11] at hI
   refine r_slice1 hI aR (by simp [Value.cells,hT.length]) (by omega) (by omega) fun b8 w_ hI=>?_
   have e7:setD D 9 8=true->Value.agg cs7.toArray=Value.agg cs7.toArray/\TrT M cs7 (bE m c0.body[j]):=fun _=>⟨rfl,hT⟩
   have e8:=fun (_:setD D 9 9=true)=>(rfl:Value.slice (some ⟨b8,0,none⟩) 1 1=_)
   have k8:=fun (_:setD D 9 9=true)=>d8_0
   have k9:=fun (_:setD D 9 10=true)=>(rfl:setD D 9 9=true)
   have hI:Inv w [] (ay (.blk b1 (.cells #[.int .i64 c0.head.kind,.int .i64 c0.head.n,.string c0.head.name,kv,.slice (some ⟨b,o,none⟩) c0.body.length cap] af)) (.blk b2 (.cells #[.int .i64 0,.int .i64 0,.string ⟨#[]⟩,.slice none 0 0,.slice none 0 0] af)) (.blk b3 (.cells #[.int .i64 hd.kind,.int .i64 hd.n,.string hd.name,kh,kvc] af)) (.blk b3 (.cells #[.int .i64 hd.kind,.int .i64 hd.n,.string hd.name,kh,x29] af)) (ax kvc ad 4 css) (ax x29 ad 4 (css++[cs7])) (aH (N::Ls).flatten) M (.blk b8 (.cells cs7.toArray ad)) (D 8) true (D 10) (D 12)) S w_:=by
    rw [d8_0,f9,f11]
    simpa [ay,Value.cells] using hI
   exact ⟨h0_,h1_,h2_,h3_,h4_,h5_,h6_,h7_,h8_,fun _=>by first|assumption|trivial,h10_,h11_,h12_,⟨M,cs7,b8,e7,e8,k8,k9,k11,k1,hI⟩⟩
  ·intro D hD_ d1_0 d9_1 d8_2 x30 x29 x28 x27 x26 x25 x24 x23 x22 x21 x20 x19 w_
   rintro ⟨h0_,h1_,h2_,h3_,h4_,h5_,h6_,h7_,h8_,h9_,h10_,h11_,h12_,⟨M,cs7,b8,e7,e8,k8,k9,k11,k1,hI⟩⟩
   obtain rfl:=h1_ d1_0
   have g9_:=h9_ d9_1
   have f11:D 12=false:=Bool.eq_false_iff.2 fun h=>by rw [k11 h] at hD_; cases hD_
   have q8:=e8 d9_1
   subst q8
   obtain ⟨_,hT⟩:=e7 d8_2
   rw [d8_2,d9_1,hD_,f11] at hI
   have hblk:((ay (.blk b1 (.cells #[.int .i64 c0.head.kind,.int .i64 c0.head.n,.string c0.head.name,kv,.slice (some ⟨b,o,none⟩) c0.body.length cap] af)) (.blk b2 (.cells #[.int .i64 0,.int .i64 0,.string ⟨#[]⟩,.slice none 0 0,.slice none 0 0] af)) (.blk b3 (.cells #[.int .i64 hd.kind,.int .i64 hd.n,.string hd.name,kh,x20] af)) (.blk b3 (.cells #[.int .i64 hd.kind,.int .i64 hd.n,.string hd.name,kh,x29] af)) (ax x20 ad 4 css) (ax x29 ad 4 (css++[cs7])) (aH (N::Ls).flatten) M (.blk b8 (.cells cs7.toArray ad)) true true false false))[4+(aH (N::Ls).flatten).length+(aH M).length]?=some (.blk b8 (.cells cs7.toArray ad)):=by
    have e4:4+(aH (N::Ls).flatten).length+(aH M).length=((aH (N::Ls).flatten).length+(aH M).length)+1+1+1+1:=by omega
    rw [e4]
    simp only [ay,List.getElem?_cons_succ]
    rw [List.getElem?_append_right (by omega),Nat.add_sub_cancel_left,List.getElem?_append_right (Nat.le_refl _),Nat.sub_self]; rfl
   refine r_append hI 3 cs7 aR (by omega) rfl (by rw [hT.length]) (m:=1) (o:=0) ?_ hT.one (by omega) (by omega) fun v' w_ hI=>?_
   ·intro i u hi
    rw [hI.cellL hblk,Nat.zero_add]
    simpa using hi
   rw [cg] at hI
   have k9:=fun (_:setD D 10 10=true)=>d9_1
   have k11:=fun (_:setD D 10 12=true)=>(rfl:setD D 10 10=true)
   have hI:Inv w [] (ay (.blk b1 (.cells #[.int .i64 c0.head.kind,.int .i64 c0.head.n,.string c0.head.name,kv,.slice (some ⟨b,o,none⟩) c0.body.length cap] af)) (.blk b2 (.cells #[.int .i64 0,.int .i64 0,.string ⟨#[]⟩,.slice none 0 0,.slice none 0 0] af)) (.blk b3 (.cells #[.int .i64 hd.kind,.int .i64 hd.n,.string hd.name,kh,x20] af)) (.blk b3 (.cells #[.int .i64 hd.kind,.int .i64 hd.n,.string hd.name,kh,v'] af)) (ax x20 ad 4 css) (ax v' ad 4 (css++[cs7])) (aH (N::Ls).flatten) M (.blk b8 (.cells cs7.toArray ad)) (D 8) (D 9) true (D 12)) S w_:=by
    rw [d8_2,d9_1,f11]
    exact hI
   exact ⟨h0_,h1_,h2_,h3_,h4_,h5_,h6_,h7_,h8_,h9_,fun _=>by first|assumption|trivial,h11_,h12_,⟨M,cs7,b8,e7,e8,k8,k9,k11,k1,hI⟩⟩
  ·intro D hD_ d0_0 d1_1 d2_2 d3_3 d4_4 d5_5 d6_6 d7_7 d8_8 d9_9 d10_10 x30 x29 x28 x27 x26 x25 x24 x23 x22 x21 x20 x19 w_
   rintro ⟨h0_,h1_,h2_,h3_,h4_,h5_,h6_,h7_,h8_,h9_,h10_,h11_,h12_,⟨M,cs7,b8,e7,e8,k8,k9,k11,k1,hI⟩⟩
   refine r_field aw ?_
   exact ⟨h0_,h1_,h2_,h3_,h4_,h5_,h6_,h7_,h8_,h9_,h10_,fun _=>rfl,h12_,⟨M,cs7,b8,e7,e8,k8,k9,k11,k1,hI⟩⟩
  ·intro D hD_ d11_0 d10_1 d10_2 d0_3 d1_4 d2_5 d3_6 d4_7 d5_8 d6_9 d7_10 d8_11 d9_12 d10_13 x30 x29 x28 x27 x26 x25 x24 x23 x22 x21 x20 x19 w_
   rintro ⟨h0_,h1_,h2_,h3_,h4_,h5_,h6_,h7_,h8_,h9_,h10_,h11_,h12_,⟨M,cs7,b8,e7,e8,k8,k9,k11,k1,hI⟩⟩
   obtain rfl:=h11_ d11_0
   have g10_:=h10_ d10_1
   rw [d8_11,d9_12,d10_1,hD_] at hI
   obtain ⟨va,vn,vc,hv9⟩:=Inv.rowSlice hI 3 rfl
   refine r_store hI 2 (n:=1) (by rw [hv9]; rfl) (by decide +kernel) rfl (by simp) (by rw [hv9]; simp [Value.cells,Value.oneCell']) fun w_ hI=>?_
   have hcl9:Value.cells x29=#[x29]:=by rw [hv9]; rfl
   rw [hcl9] at hI
   have k1:=fun (_:setD D 12 12=true)=>d1_4
   have k11:=fun (_:setD D 12 12=true)=>d10_1
   have hI:Inv w [] (ay (.blk b1 (.cells #[.int .i64 c0.head.kind,.int .i64 c0.head.n,.string c0.head.name,kv,.slice (some ⟨b,o,none⟩) c0.body.length cap] af)) (.blk b2 (.cells #[.int .i64 0,.int .i64 0,.string ⟨#[]⟩,.slice none 0 0,.slice none 0 0] af)) (.blk b3 (.cells #[.int .i64 hd.kind,.int .i64 hd.n,.string hd.name,kh,kvc] af)) (.blk b3 (.cells #[.int .i64 hd.kind,.int .i64 hd.n,.string hd.name,kh,x29] af)) (ax kvc ad 4 css) (ax x29 ad 4 (css++[cs7])) (aH (N::Ls).flatten) M (.blk b8 (.cells cs7.toArray ad)) (D 8) (D 9) (D 10) true) S w_:=by
    rw [d8_11,d9_12,d10_1]
    exact hI
   exact ⟨h0_,h1_,h2_,h3_,h4_,h5_,h6_,h7_,h8_,h9_,h10_,h11_,fun _=>trivial,⟨M,cs7,b8,e7,e8,k8,k9,k11,k1,hI⟩⟩
  intro D d12_ d11_ d10_ d9_ d8_ d7_ d6_ d5_ d4_ d3_ d2_ d1_ d0_ x30 x29 x28 x27 x26 x25 x24 x23 x22 x21 x20 x19 w_
  rintro ⟨h0_,h1_,h2_,h3_,h4_,h5_,h6_,h7_,h8_,h9_,h10_,h11_,h12_,⟨M,cs7,b8,e7,e8,k8,k9,k11,k1,hI⟩⟩
  obtain rfl:=h11_ d11_
  have g10_:=h10_ d10_
  have g9_:=h9_ d9_
  have g8_:=h8_ d8_
  obtain rfl:=h7_ d7_
  obtain rfl:=h6_ d6_
  obtain rfl:=h5_ d5_
  obtain rfl:=h4_ d4_
  obtain rfl:=h3_ d3_
  obtain rfl:=h2_ d2_
  obtain rfl:=h1_ d1_
  obtain rfl:=h0_ d0_
  clear h0_ h1_ h2_ h3_ h4_ h5_ h6_ h7_ h8_ h9_ h10_ h11_ h12_
  obtain ⟨_,hT⟩:=e7 d8_
  rw [d8_,d9_,d10_,d12_] at hI
  refine r_add (by omega) ?_
  refine ⟨⟨j+1,x29,Ls++[M],css++[cs7],hj',rfl,?_,?_⟩,by simp [intOf]; omega⟩
  ·rw [ma m c0.body j hj']
   exact hg.snoc hT hT.length
  ·rw [<- List.cons_append,List.flatten_append,bp]
   simp only [List.flatten_cons,List.flatten_nil,List.append_nil]
   refine hI.sub ?_
   simp only [ay,List.flatten_cons]
   rw [<- List.append_assoc]
   exact (((List.sublist_append_left _ _).cons_cons _).cons_cons _).cons_cons _ |>.cons_cons _
 ·have:j=c0.body.length:=by omega
  subst this
  rw [List.take_length] at hg
  obtain ⟨va,vn,vc,hvk⟩:=hI.rowSlice 3 rfl
  have hv1:kvc.oneCell'=true:=by rw [hvk]; rfl
  have o1:kh.oneCell'=true:=hT1.one kh (by simp)
  refine r_loadW hI 2 al rfl rfl ?_
  refine au hI 1 rfl al rfl rfl ?_ fun w' hI=>?_
  ·intro u hu
   have hu':u∈([.int .i64 hd.kind,.int .i64 hd.n,.string hd.name,kh,kvc]:List Value):=hu
   simp at hu'
   rcases hu' with rfl|rfl|rfl|rfl|rfl <;> first|rfl|exact o1|exact hv1
  refine loadV_W hI 1 al rfl rfl ?_
  have hI:Inv w [] (ax kvc ad 4 css::aH (N::Ls).flatten) S w':=hI.sub (List.sublist_append_right [_,_,_] _)
  rw [List.flatten_cons,bp] at hI
  have hI:=hI.perm (M:=aH N++(ax kvc ad 4 css::aH Ls.flatten)) (List.perm_middle)
  obtain ⟨L,hT,hI⟩:=Inv.rowTree hI hg
  rw [hhd] at hT1
  exact ⟨_,_,_,rfl,hI,Ext.refl _ _ _,rfl,_,N++L,rfl,by rw [bp],_,kvc,N,L,by rw [hhd]; rfl,rfl,hT1,hT⟩
end

end Go.Proofs.YtmnnpgdeecnfpaaGreat

/- Resolvents: the plain form. -/
namespace Go.Proofs.YtmnnpgdeecnfpaaGreat
open Go Go.RowKit
theorem rB {s:ByteArray} (h:eo s=true):s.size<=6:=by
 rw [eo,Bool.or_eq_true] at h
 rcases h with h|h
 ·rw [dH] at h
  simp only [Bool.and_eq_true,decide_eq_true_eq] at h
  exact h.2.2
 ·simp only [List.any_eq_true,decide_eq_true_eq] at h
  obtain ⟨x,hx,rfl⟩:=h
  have:∀ y∈signs,y.size<=6:=by decide +kernel
  exact this x hx
theorem tD {t:T} (h:bJ t=true):t.name.size<=6:=by
 unfold bJ at h
 have he:emptyB.size=0:=by decide +kernel
 by_cases e1:t.kind=1
 ·rw [if_pos e1] at h
  simp only [Bool.and_eq_true,decide_eq_true_eq] at h
  rw [h.2.2.1]; omega
 ·rw [if_neg e1] at h
  by_cases e2:t.kind=2
  ·rw [if_pos e2] at h
   simp only [Bool.and_eq_true,decide_eq_true_eq] at h
   rw [h.2.2.1]; omega
  ·rw [if_neg e2] at h
   by_cases e3:t.kind=3
   ·rw [if_pos e3] at h
    simp only [Bool.and_eq_true,decide_eq_true_eq] at h
    exact rB h.2.1
   ·rw [if_neg e3] at h
    cases h
mutual
theorem pO:∀ (t:T) (d:Int),cj t d=true->okU 26 t
 | .mk k n s ks,d,h=>by
  rw [cj] at h
  split at h
  ·cases h
  ·rw [Bool.and_eq_true] at h
   have h1:=wx h.1
   have h2:=fun hk=>wG h.1 hk
   have h3:=tD h.1
   rw [okU]
   refine ⟨h1.2,fun hk=>?_,nv ks _ h.2,h3⟩
   have h4:=h1.1 hk
   have h5:=h2 hk
   simp only [T.n] at h4
   simp only [T.name,T.kids] at h5
   exact ⟨h4.1,by omega,h5.1,List.eq_nil_of_length_eq_zero h5.2⟩
theorem nv:∀ (ts:List T) (d:Int),cn ts d=true->bY 26 ts
 | [],_,_=>by rw [bY]; trivial
 | t::ts,d,h=>by
  rw [cn,Bool.and_eq_true] at h
  rw [bY]
  exact ⟨pO t d h.1,nv ts d h.2⟩
end
theorem pz {t:T} (h:bn t=true):okU 26 t:=pO t 30 (sN h)
theorem im {c:C} (h:aO c=true):okU 26 c.head/\(∀ t∈c.body,okU 26 t)/\c.body.length<=6:=by
 rw [aO] at h
 simp only [Bool.and_eq_true,List.all_eq_true,decide_eq_true_eq] at h
 refine ⟨pz h.2.2.1,fun t ht=>?_,h.1⟩
 have:=h.2.1 t ht
 rw [di,Bool.and_eq_true] at this
 exact pz this.1
mutual
theorem rR (m:Int):∀ t:T,wT (bE m t)=wT t
 | .mk k n s ks=>by
  rw [bE,wT,wT,oe m ks]
  rw [cO,List.length_map]
theorem oe (m:Int):∀ ts:List T,wL (cv m ts)=wL ts
 | []=>rfl
 | t::ts=>by rw [cv,wL,wL,rR m t,oe m ts]
end
/- weights by nodes -/
/- numbered anew -/
/- the resolvent -/
/- small terms have small weights -/
end Go.Proofs.YtmnnpgdeecnfpaaGreat

/- spec.l4Clause. -/
namespace Go.Proofs.YtmnnpgdeecnfpaaGreat
open Go Go.RowKit
section
variable {br:Nat} {sl:Value} {ys:List Nat}
attribute [local irreducible] Run CondV GuardV LoadV
abbrev yi (br:Nat) (sl:Value) (p k m:Nat):Value->List Item->Store->Prop:=fun v I' S'=>∃ p',p'<=p+k/\I'=[rdI br sl p']/\∃ cs c,v=.agg cs.toArray/\RdC S' cs c/\wC c<=m/\okU 26 c.head/\∀ t∈c.body,okU 26 t
theorem kO:dW 2=54:=rfl
theorem ft {p:Nat} {S:Store} (hrd:RdSl S 1 dD sl ys) (hp:p<=50000000):Tri Tryz.prog qE [rdP br] [rdI br sl p] S (yi br sl p 500 500):=by
 intro w hI
 refine kP ?_
 unfold gL
 refine r_alloc hI aP fun b2 w' hI=>?_
 obtain ⟨B2,hB2⟩:∃ B2,B2=Item.blk b2 (.cells #[.int .i64 0,.int .i64 0,.string ⟨#[]⟩,.slice none 0 0,.slice none 0 0] af):=⟨_,rfl⟩
 have hI:Inv w [br] [B2,rdI br sl p] S w':=by rw [hB2]; exact hI.last 0 rfl
 refine Run.callL nl mY hI (mp hrd (by omega)) rfl fun v1 I' S1 w'=>?_
 rintro ⟨p1,css1,q,hp1,rfl,hR1,hq1,h1,hv1⟩ hE1 hI
 have hI:Inv w [br] [B2,ax v1 af 5 css1,rdI br sl p1] S1 w':=hI
 have hI:Inv w [br] [ax v1 af 5 css1,rdI br sl p1,B2] S1 w':=hI.last 0 rfl
 obtain ⟨S2,hE2,hI,hr⟩:=wv hI hR1
 have hI:Inv w [br] [B2,rdI br sl p1] S2 w':=hI.last 0 rfl
 have hE2:=hE1.trans hE2
 refine Run.callL aM aL hI (bh (n:=4) (hrd.monoU hE2.1) (by omega) (by omega)) rfl fun v' I' S2 w'=>?_
 rintro ⟨rfl,rfl,kk,hkk,rfl⟩ _ hI
 have hI:Inv w [br] [B2,rdI br sl (p1+1)] S2 w':=hI
 refine r_gtr ?_
 refine condP (fun _=>?_) (fun _=>?_)
 ·refine r_lenSl hr mg ?_
  refine Run.callL aM aL hI (bh (n:=q.length) (hrd.monoU hE2.1) (by omega) (by omega)) rfl fun v' I' S2 w'=>?_
  rintro ⟨rfl,rfl,k,hk,rfl⟩ _ hI
  have hI:Inv w [br] [B2,rdI br sl (p1+2)] S2 w':=hI
  refine r_elem hI hr mg al hk (fun _ _=>RdC.length) fun cs hcs=>?_
  subst hB2
  refine au hI 0 rfl al (by simpa using hcs.length) rfl (by simpa using hcs.one) fun w' hI=>?_
  refine loadV_W hI 0 al rfl (by simpa using hcs.length) ?_
  exact ⟨_,_,S2,rfl,hI.pick [false,true],hE2,p1+2,by omega,rfl,cs,_,rfl,hcs,by have:=hq1.2 _ (List.getElem_mem hk); omega,(im (hv1 _ (List.getElem_mem hk))).1,(im (hv1 _ (List.getElem_mem hk))).2.1⟩
 ·refine iu hI (by kernel_rfl) rfl (by omega) fun v S3 w' hE3 hv hI=>?_
  refine Run.callL bO bP hI (dY (p:=p1+1) (hrd.monoU (hE2.trans hE3).1) hv (by decide) (by omega)) rfl fun v' I' S3 w'=>?_
  rintro ⟨rfl,rfl,s,hs,rfl⟩ _ hI
  have hs:=gp (m:=3) hs (by decide)
  have hI:Inv w [br] [B2,rdI br sl (p1+2)] S3 w':=hI
  have hE3:=hE2.trans hE3
  refine Run.callL cc cd hI (cE 2 (by omega) (p1+2) S3 (hrd.monoU hE3.1) (by rw [kO]; omega)) rfl fun v' I' S4 w'=>?_
  rintro ⟨p2,hp2,rfl,cs1,t1,rfl,hc1,hw1,ho1⟩ hE4 hI
  rw [kO] at hp2 hw1
  refine r_slice1 hI aR (by simp [Value.cells,hc1.length]) (by omega) (by omega) fun b8 w' hI=>?_
  have hI:Inv w [br] ([B2,rdI br sl p2]++[_]) S4 w':=hI
  obtain ⟨S5,hI,hE5,hS⟩:=hI.pub1
  refine Run.call0E be bf hI (bl s (by simp only [maxLen]; omega) (wE hS (hc1.mono hE5.1)) (by simp)) fun v' I' S6 w'=>?_
  rintro ⟨rfl,hd,rfl,hhd⟩ hE6 hI
  have hE6:=hE3.trans (hE4.trans (hE5.trans hE6))
  have hhd0:=hhd
  obtain ⟨k3,rfl,_,_,_,a3,q3,rfl,_⟩:=RdT.iff.1 hhd
  refine cY ?_
  refine r_alloc hI aP fun b4 w' hI=>?_
  have hI:Inv w [br] [B2,rdI br sl p2,.blk b4 (.cells #[.int .i64 0,.int .i64 0,.string ⟨#[]⟩,.slice none 0 0,.slice none 0 0] af)] S6 w':=hI
  refine au hI 2 rfl al rfl rfl (by simp [Value.oneCell']) fun w' hI=>?_
  have hI:=hI.rowNil ad 4
  have hI:Inv w [br] [.blk b4 (.cells #[.int .i64 3,.int .i64 0,.string s,.slice a3 1 q3,.slice none 0 0] af),ax (.slice none 0 0) ad 4 [],B2,rdI br sl p2] S6 w':=((hI.last 1 rfl).last 0 rfl).perm (by
   exact List.Perm.trans (List.Perm.symm (List.Perm.refl _)) (List.Perm.append_left [_,_] (List.Perm.swap _ _ [])))
  refine Run.callL aM aL hI (bh (n:=3) (hrd.monoU hE6.1) (by omega) (by omega)) rfl fun v' I' S6 w'=>?_
  rintro ⟨rfl,rfl,n,hn,rfl⟩ _ hI
  have ehd:wT (T.mk 3 0 s [t1])=s.size+1+wT t1:=by simp only [wT,wL,List.length_cons,List.length_nil]; omega
  refine ⟨fun a w'=>∃ (j p3:Nat) (S7:Store) (kv:Value) (css:List (List Value)) (ks:List T),bY 26 ks/\a=.int .i64 (j:Int)/\ks.length+j<=2/\p3<=p2+1+120 * ks.length/\wL ks<=120 * ks.length/\Ext w.heap.size [br] S S7/\RdT S7 [.int .i64 3,.int .i64 0,.string s,.slice a3 1 q3] (.mk 3 0 s [t1])/\Rows 4 (RdT S7) css ks/\
   Inv w [br] [.blk b4 (.cells #[.int .i64 3,.int .i64 0,.string s,.slice a3 1 q3,kv] af),ax kv ad 4 css,B2,rdI br sl p3] S7 w',fun a _=>(intOf a).toNat,
   ⟨n,p2+1,S6,_,[],[],by simp only [bY],rfl,by simp; omega,by simp,by simp [wL],hE6,hhd0,Rows.nil _ _,hI⟩,?_⟩
  intro t5 _ _ t45 t44 t43 t42 t41 t40 t39 t38 t37 t36 t35 t34 t33 t32 _ _ w'
  rintro ⟨j,p3,S7,kv,css,ks,hou,rfl,hkj,hp3,hwk,hE7,hhd,hR,hI⟩
  have hcl:=hR.hc
  refine r_gtr ?_
  refine condP (fun hj0=>?_) (fun _=>?_)
  ·obtain ⟨j',rfl⟩:∃ j',j=j'+1:=⟨j - 1,by omega⟩
   refine ⟨fun D x45 x44 x43 x42 x41 x40 x39 x38 x37 x36 x35 x34 x33 x32 w_=>(D 0=true->x32=.pointer (some ⟨b4,4,none⟩))/\(D 1=true->x33=kv)/\(D 2=true->x34=rdP br)/\(D 3=true->True)/\(D 4=true->True)/\(D 5=true->x37=rdP br)/\(D 6=true->True)/\(D 7=true->x39=rdP br)/\(D 8=true->True)/\(D 9=true->True)/\(D 10=true->True)/\(D 11=true->True)/\(D 12=true->True)/\(D 13=true->x45=.pointer (some ⟨b4,4,none⟩))/\(D 14=true->True)/\∃ n_:Nat,n_<=9/\D 3=decide (1<=n_)/\D 4=decide (2<=n_)/\D 6=decide (3<=n_)/\D 8=decide (4<=n_)/\D 9=decide (5<=n_)/\D 10=decide (6<=n_)/\D 11=decide (7<=n_)/\D 12=decide (8<=n_)/\D 14=decide (9<=n_)/\(D 14=true->D 1=true)/\(dk (Inv w [br] [.blk b4 (.cells #[.int .i64 3,.int .i64 0,.string s,.slice a3 1 q3,kv] af),ax kv ad 4 css,B2,rdI br sl p3] S7 w_) (dk (∃ S8 l,RdSl S8 1 iG x35 l/\0<l.length/\(l.all fun s=>decide (s.size<=3))=true/\Ext w.heap.size [br] S7 S8/\Inv w [br] [.blk b4 (.cells #[.int .i64 3,.int .i64 0,.string s,.slice a3 1 q3,kv] af),ax kv ad 4 css,B2,rdI br sl p3] S8 w_) (dk (∃ S8 s2,x36=.string s2/\s2.size<=3/\Ext w.heap.size [br] S7 S8/\Inv w [br] [.blk b4 (.cells #[.int .i64 3,.int .i64 0,.string s,.slice a3 1 q3,kv] af),ax kv ad 4 css,B2,rdI br sl (p3+1)] S8 w_) (dk (∃ S8 s2 p4 c1 t1,x36=.string s2/\s2.size<=3/\x38=.agg c1.toArray/\RdT S8 c1 t1/\okU 26 t1/\wT t1+3<=54/\p4+2<=p3+1+54/\Ext w.heap.size [br] S7 S8/\Inv w [br] [.blk b4 (.cells #[.int .i64 3,.int .i64 0,.string s,.slice a3 1 q3,kv] af),ax kv ad 4 css,B2,rdI br sl p4] S8 w_) (dk (∃ S8 s2 p4 c1 t1 c2 t2,x36=.string s2/\s2.size<=3/\x38=.agg c1.toArray/\RdT S8 c1 t1/\okU 26 t1/\wT t1+3<=54/\x40=.agg c2.toArray/\RdT S8 c2 t2/\okU 26 t2/\wT t2+3<=54/\p4<=p3+110/\Ext w.heap.size [br] S7 S8/\Inv w [br] [.blk b4 (.cells #[.int .i64 3,.int .i64 0,.string s,.slice a3 1 q3,kv] af),ax kv ad 4 css,B2,rdI br sl p4] S8 w_) (dk (∃ S8 s2 p4 t1 t2,x36=.string s2/\s2.size<=3/\RdSl S8 4 (RdT S8) x41 [t1,t2]/\bY 26 [t1,t2]/\wT t1+3<=54/\wT t2+3<=54/\p4<=p3+110/\Ext w.heap.size [br] S7 S8/\Inv w [br] [.blk b4 (.cells #[.int .i64 3,.int .i64 0,.string s,.slice a3 1 q3,kv] af),ax kv ad 4 css,B2,rdI br sl p4] S8 w_) (lo w [br] b4 #[.int .i64 3,.int .i64 0,.string s,.slice a3 1 q3,kv] 4 af kv css (fun p=>[B2,rdI br sl p]) (fun cs p' S'=>∃ t,okU 26 t/\RdT S' cs t/\wT t<=110/\p'<=p3+110/\Ext w.heap.size [br] S7 S') x42 x43 x44 w_)))))) n_),⟨fun h=>Bool.noConfusion h,fun h=>Bool.noConfusion h,fun h=>Bool.noConfusion h,fun h=>Bool.noConfusion h,fun h=>Bool.noConfusion h,fun h=>Bool.noConfusion h,fun h=>Bool.noConfusion h,fun h=>Bool.noConfusion h,fun h=>Bool.noConfusion h,fun h=>Bool.noConfusion h,fun h=>Bool.noConfusion h,fun h=>Bool.noConfusion h,fun h=>Bool.noConfusion h,fun h=>Bool.noConfusion h,fun h=>Bool.noConfusion h,⟨0,Nat.zero_le _,rfl,rfl,rfl,rfl,rfl,rfl,rfl,rfl,rfl,(fun h=>Bool.noConfusion h),hI.draw⟩⟩,⟨?_,?_,?_,?_,?_,?_,?_,?_,?_,?_,?_,?_,?_,?_,?_,trivial⟩,?_⟩
   ·intro D hD_  x45 x44 x43 x42 x41 x40 x39 x38 x37 x36 x35 x34 x33 x32 w_
    rintro ⟨h0_,h1_,h2_,h3_,h4_,h5_,h6_,h7_,h8_,h9_,h10_,h11_,h12_,h13_,h14_,⟨n_,ln_,e1_,e2_,e3_,e4_,e5_,e6_,e7_,e8_,e9_,kp_,hS⟩⟩
    refine r_field aw ?_
    exact ⟨fun _=>rfl,h1_,h2_,h3_,h4_,h5_,h6_,h7_,h8_,h9_,h10_,h11_,h12_,h13_,h14_,⟨n_,ln_,e1_,e2_,e3_,e4_,e5_,e6_,e7_,e8_,e9_,kp_,hS⟩⟩
   ·intro D hD_ d0_0 x45 x44 x43 x42 x41 x40 x39 x38 x37 x36 x35 x34 x33 x32 w_
    rintro ⟨h0_,h1_,h2_,h3_,h4_,h5_,h6_,h7_,h8_,h9_,h10_,h11_,h12_,h13_,h14_,⟨n_,ln_,e1_,e2_,e3_,e4_,e5_,e6_,e7_,e8_,e9_,kp_,hS⟩⟩
    obtain rfl:=h0_ d0_0
    have ln2_:=vU e9_ kp_ hD_
    refine r_load ao ((vf (fun h=>h.cellL (i:=0) rfl) (vf (fun ⟨_,_,_,_,_,_,h⟩=>h.cellL (i:=0) rfl) (vf (fun ⟨_,_,_,_,_,h⟩=>h.cellL (i:=0) rfl) (vf (fun ⟨_,_,_,_,_,_,_,_,_,_,_,_,_,h⟩=>h.cellL (i:=0) rfl) (vf (fun ⟨_,_,_,_,_,_,_,_,_,_,_,_,_,_,_,_,_,_,_,h⟩=>h.cellL (i:=0) rfl) (vf (fun ⟨_,_,_,_,_,_,_,_,_,_,_,_,_,h⟩=>h.cellL (i:=0) rfl) (fun n hn h=>od h hn)))))) n_ ln2_ hS).trans rfl) ?_
    exact ⟨h0_,fun _=>rfl,h2_,h3_,h4_,h5_,h6_,h7_,h8_,h9_,h10_,h11_,h12_,h13_,h14_,⟨n_,ln_,e1_,e2_,e3_,e4_,e5_,e6_,e7_,e8_,e9_,(fun _=>rfl),hS⟩⟩
   ·intro D hD_  x45 x44 x43 x42 x41 x40 x39 x38 x37 x36 x35 x34 x33 x32 w_
    rintro ⟨h0_,h1_,h2_,h3_,h4_,h5_,h6_,h7_,h8_,h9_,h10_,h11_,h12_,h13_,h14_,⟨n_,ln_,e1_,e2_,e3_,e4_,e5_,e6_,e7_,e8_,e9_,kp_,hS⟩⟩
    exact ⟨h0_,h1_,fun _=>rfl,h3_,h4_,h5_,h6_,h7_,h8_,h9_,h10_,h11_,h12_,h13_,h14_,⟨n_,ln_,e1_,e2_,e3_,e4_,e5_,e6_,e7_,e8_,e9_,kp_,hS⟩⟩
   ·intro D hD_  x45 x44 x43 x42 x41 x40 x39 x38 x37 x36 x35 x34 x33 x32 w_
    rintro ⟨h0_,h1_,h2_,h3_,h4_,h5_,h6_,h7_,h8_,h9_,h10_,h11_,h12_,h13_,h14_,⟨n_,ln_,e1_,e2_,e3_,e4_,e5_,e6_,e7_,e8_,e9_,kp_,hS⟩⟩
    obtain rfl:n_=0:=wk e1_ hD_
    refine iu (L:=[.blk b4 _,ax _ ad 4 css,B2,rdI br sl p3]) hS (by kernel_rfl) rfl (by omega) fun v S8 w_ hE8 hv hI=>?_
    exact ⟨h0_,h1_,h2_,fun _=>by first|assumption|trivial,h4_,h5_,h6_,h7_,h8_,h9_,h10_,h11_,h12_,h13_,h14_,⟨1,by decide,rfl,(by first|exact e2_|rfl),(by first|exact e3_|rfl),(by first|exact e4_|rfl),(by first|exact e5_|rfl),(by first|exact e6_|rfl),(by first|exact e7_|rfl),(by first|exact e8_|rfl),(by first|exact e9_|rfl),kp_,⟨S8,_,hv,by decide,by decide,hE8,hI⟩⟩⟩
   ·intro D hD_ d2_0 d3_1 x45 x44 x43 x42 x41 x40 x39 x38 x37 x36 x35 x34 x33 x32 w_
    rintro ⟨h0_,h1_,h2_,h3_,h4_,h5_,h6_,h7_,h8_,h9_,h10_,h11_,h12_,h13_,h14_,⟨n_,ln_,e1_,e2_,e3_,e4_,e5_,e6_,e7_,e8_,e9_,kp_,hS⟩⟩
    obtain rfl:=h2_ d2_0
    have g3_:=h3_ d3_1
    obtain rfl:n_=1:=dN e1_ d3_1 e2_ hD_
    obtain ⟨S8,l,hv,hl0,hl3,hE8,hI⟩:=bg hS
    refine Run.callL bO bP (L:=[.blk b4 _,ax _ ad 4 css,B2,rdI br sl p3]) hI (dY (p:=p3) (hrd.monoU (hE7.trans hE8).1) hv hl0 (by omega)) rfl fun v' I' S8 w_=>?_
    rintro ⟨rfl,rfl,s2,hs2,rfl⟩ _ hI
    have hs2:=gp hs2 hl3
    exact ⟨h0_,h1_,h2_,h3_,fun _=>by first|assumption|trivial,h5_,h6_,h7_,h8_,h9_,h10_,h11_,h12_,h13_,h14_,⟨2,by decide,(by first|exact e1_|rfl),rfl,(by first|exact e3_|rfl),(by first|exact e4_|rfl),(by first|exact e5_|rfl),(by first|exact e6_|rfl),(by first|exact e7_|rfl),(by first|exact e8_|rfl),(by first|exact e9_|rfl),kp_,⟨S8,s2,rfl,hs2,hE8,hI⟩⟩⟩
   ·intro D hD_  x45 x44 x43 x42 x41 x40 x39 x38 x37 x36 x35 x34 x33 x32 w_
    rintro ⟨h0_,h1_,h2_,h3_,h4_,h5_,h6_,h7_,h8_,h9_,h10_,h11_,h12_,h13_,h14_,⟨n_,ln_,e1_,e2_,e3_,e4_,e5_,e6_,e7_,e8_,e9_,kp_,hS⟩⟩
    exact ⟨h0_,h1_,h2_,h3_,h4_,fun _=>rfl,h6_,h7_,h8_,h9_,h10_,h11_,h12_,h13_,h14_,⟨n_,ln_,e1_,e2_,e3_,e4_,e5_,e6_,e7_,e8_,e9_,kp_,hS⟩⟩
   ·intro D hD_ d5_0 d4_1 x45 x44 x43 x42 x41 x40 x39 x38 x37 x36 x35 x34 x33 x32 w_
    rintro ⟨h0_,h1_,h2_,h3_,h4_,h5_,h6_,h7_,h8_,h9_,h10_,h11_,h12_,h13_,h14_,⟨n_,ln_,e1_,e2_,e3_,e4_,e5_,e6_,e7_,e8_,e9_,kp_,hS⟩⟩
    obtain rfl:=h5_ d5_0
    obtain rfl:n_=2:=dN e2_ d4_1 e3_ hD_
    obtain ⟨S8,s2,rfl,hs2,hE8,hI⟩:=bg (bg hS)
    refine Run.callL cc cd (L:=[.blk b4 _,ax _ ad 4 css,B2,rdI br sl (p3+1)]) hI (cE 2 (by omega) (p3+1) S8 (hrd.monoU (hE7.trans hE8).1) (by rw [kO]; omega)) rfl fun v' I' S9 w_=>?_
    rintro ⟨p4,hp4,rfl,c1,u1,rfl,hc1,hw1,ho1⟩ hE9 hI
    rw [kO] at hp4 hw1
    exact ⟨h0_,h1_,h2_,h3_,h4_,h5_,fun _=>by first|assumption|trivial,h7_,h8_,h9_,h10_,h11_,h12_,h13_,h14_,⟨3,by decide,(by first|exact e1_|rfl),(by first|exact e2_|rfl),rfl,(by first|exact e4_|rfl),(by first|exact e5_|rfl),(by first|exact e6_|rfl),(by first|exact e7_|rfl),(by first|exact e8_|rfl),(by first|exact e9_|rfl),kp_,⟨S9,s2,p4,c1,u1,rfl,hs2,rfl,hc1,ho1,hw1,hp4,hE8.trans hE9,hI⟩⟩⟩
   ·intro D hD_  x45 x44 x43 x42 x41 x40 x39 x38 x37 x36 x35 x34 x33 x32 w_
    rintro ⟨h0_,h1_,h2_,h3_,h4_,h5_,h6_,h7_,h8_,h9_,h10_,h11_,h12_,h13_,h14_,⟨n_,ln_,e1_,e2_,e3_,e4_,e5_,e6_,e7_,e8_,e9_,kp_,hS⟩⟩
    exact ⟨h0_,h1_,h2_,h3_,h4_,h5_,h6_,fun _=>rfl,h8_,h9_,h10_,h11_,h12_,h13_,h14_,⟨n_,ln_,e1_,e2_,e3_,e4_,e5_,e6_,e7_,e8_,e9_,kp_,hS⟩⟩
   ·intro D hD_ d7_0 d6_1 x45 x44 x43 x42 x41 x40 x39 x38 x37 x36 x35 x34 x33 x32 w_
    rintro ⟨h0_,h1_,h2_,h3_,h4_,h5_,h6_,h7_,h8_,h9_,h10_,h11_,h12_,h13_,h14_,⟨n_,ln_,e1_,e2_,e3_,e4_,e5_,e6_,e7_,e8_,e9_,kp_,hS⟩⟩
    obtain rfl:=h7_ d7_0
    obtain rfl:n_=3:=dN e3_ d6_1 e4_ hD_
    obtain ⟨S8,s2,p4,c1,u1,rfl,hs2,rfl,hc1,ho1,hw1,hp4,hE8,hI⟩:=bg (bg (bg hS))
    refine Run.callL cc cd (L:=[.blk b4 _,ax _ ad 4 css,B2,rdI br sl p4]) hI (cE 2 (by omega) p4 S8 (hrd.monoU (hE7.trans hE8).1) (by rw [kO]; omega)) rfl fun v' I' S9 w_=>?_
    rintro ⟨p5,hp5,rfl,c2,u2,rfl,hc2,hw2,ho2⟩ hE9 hI
    rw [kO] at hp5 hw2
    exact ⟨h0_,h1_,h2_,h3_,h4_,h5_,h6_,h7_,fun _=>by first|assumption|trivial,h9_,h10_,h11_,h12_,h13_,h14_,⟨4,by decide,(by first|exact e1_|rfl),(by first|exact e2_|rfl),(by first|exact e3_|rfl),rfl,(by first|exact e5_|rfl),(by first|exact e6_|rfl),(by first|exact e7_|rfl),(by first|exact e8_|rfl),(by first|exact e9_|rfl),kp_,⟨S9,s2,p5,c1,u1,c2,u2,rfl,hs2,rfl,hc1.mono hE9.1,ho1,hw1,rfl,hc2,ho2,hw2,by omega,hE8.trans hE9,hI⟩⟩⟩
   ·intro D hD_ d6_0 d8_1 x45 x44 x43 x42 x41 x40 x39 x38 x37 x36 x35 x34 x33 x32 w_
    rintro ⟨h0_,h1_,h2_,h3_,h4_,h5_,h6_,h7_,h8_,h9_,h10_,h11_,h12_,h13_,h14_,⟨n_,ln_,e1_,e2_,e3_,e4_,e5_,e6_,e7_,e8_,e9_,kp_,hS⟩⟩
    have g6_:=h6_ d6_0
    have g8_:=h8_ d8_1
    obtain rfl:n_=4:=dN e4_ d8_1 e5_ hD_
    obtain ⟨S8,s2,p4,c1,u1,c2,u2,rfl,hs2,rfl,hc1,ho1,hw1,rfl,hc2,ho2,hw2,hp4,hE8,hI⟩:=bg (bg (bg (bg hS)))
    obtain ⟨kv1,rfl,_,_,_,a1,q1,rfl,_⟩:=RdT.iff.1 hc1
    obtain ⟨kv2,rfl,_,_,_,a2,q2,rfl,_⟩:=RdT.iff.1 hc2
    refine fZ (v:=fun b=>.slice (some ⟨b,0,none⟩) 2 2) (o:=.cells #[.int .i64 u1.kind,.int .i64 u1.n,.string u1.name,.slice a1 u1.kids.length q1,.int .i64 u2.kind,.int .i64 u2.n,.string u2.name,.slice a2 u2.kids.length q2] ad) hI (by kernel_rfl) fun b w_ hI=>?_
    obtain ⟨S9,hI,hE9,hS9⟩:=hI.pub1
    exact ⟨h0_,h1_,h2_,h3_,h4_,h5_,h6_,h7_,h8_,fun _=>by first|assumption|trivial,h10_,h11_,h12_,h13_,h14_,⟨5,by decide,(by first|exact e1_|rfl),(by first|exact e2_|rfl),(by first|exact e3_|rfl),(by first|exact e4_|rfl),rfl,(by first|exact e6_|rfl),(by first|exact e7_|rfl),(by first|exact e8_|rfl),(by first|exact e9_|rfl),kp_,⟨S9,s2,p4,u1,u2,rfl,hs2,qb hS9 (hc1.mono hE9.1) (hc2.mono hE9.1),(by simp only [bY]; exact ⟨ho1,ho2,trivial⟩),hw1,hw2,hp4,hE8.trans hE9,hI⟩⟩⟩
   ·intro D hD_ d4_0 d9_1 d8_2 x45 x44 x43 x42 x41 x40 x39 x38 x37 x36 x35 x34 x33 x32 w_
    rintro ⟨h0_,h1_,h2_,h3_,h4_,h5_,h6_,h7_,h8_,h9_,h10_,h11_,h12_,h13_,h14_,⟨n_,ln_,e1_,e2_,e3_,e4_,e5_,e6_,e7_,e8_,e9_,kp_,hS⟩⟩
    have g4_:=h4_ d4_0
    have g9_:=h9_ d9_1
    obtain rfl:n_=5:=dN e5_ d9_1 e6_ hD_
    obtain ⟨S8,s2,p4,u1,u2,rfl,hs2,hsl,ho12,hw1,hw2,hp4,hE8,hI⟩:=bg (bg (bg (bg (bg hS))))
    refine Run.call0E be bf (L:=[.blk b4 _,ax _ ad 4 css,B2,rdI br sl p4]) hI (bl s2 (by simp only [maxLen]; omega) hsl (by simp)) fun v' I' S9 w_=>?_
    rintro ⟨rfl,cs,rfl,hcs⟩ hE9 hI
    exact ⟨h0_,h1_,h2_,h3_,h4_,h5_,h6_,h7_,h8_,h9_,fun _=>by first|assumption|trivial,h11_,h12_,h13_,h14_,⟨6,by decide,(by first|exact e1_|rfl),(by first|exact e2_|rfl),(by first|exact e3_|rfl),(by first|exact e4_|rfl),(by first|exact e5_|rfl),rfl,(by first|exact e7_|rfl),(by first|exact e8_|rfl),(by first|exact e9_|rfl),kp_,bS (bS (bS (bS (bS (oo ⟨_,iK (by omega) ho12,hcs,by have e:wT (T.mk 3 0 s2 [u1,u2])=s2.size+2+(wT u1+(wT u2+0)):=(by simp only [wT,wL,List.length_cons,List.length_nil]); omega,hp4,hE8.trans hE9⟩ hcs hI)))))⟩⟩
   ·intro D hD_ d10_0 x45 x44 x43 x42 x41 x40 x39 x38 x37 x36 x35 x34 x33 x32 w_
    rintro ⟨h0_,h1_,h2_,h3_,h4_,h5_,h6_,h7_,h8_,h9_,h10_,h11_,h12_,h13_,h14_,⟨n_,ln_,e1_,e2_,e3_,e4_,e5_,e6_,e7_,e8_,e9_,kp_,hS⟩⟩
    have g10_:=h10_ d10_0
    obtain rfl:n_=6:=dN e6_ d10_0 e7_ hD_
    refine ap1 (bg (bg (bg (bg (bg hS))))) fun u w_ hS=>?_
    exact ⟨h0_,h1_,h2_,h3_,h4_,h5_,h6_,h7_,h8_,h9_,h10_,fun _=>by first|assumption|trivial,h12_,h13_,h14_,⟨7,by decide,(by first|exact e1_|rfl),(by first|exact e2_|rfl),(by first|exact e3_|rfl),(by first|exact e4_|rfl),(by first|exact e5_|rfl),(by first|exact e6_|rfl),rfl,(by first|exact e8_|rfl),(by first|exact e9_|rfl),kp_,bS (bS (bS (bS (bS hS))))⟩⟩
   ·intro D hD_ d1_0 d11_1 d10_2 x45 x44 x43 x42 x41 x40 x39 x38 x37 x36 x35 x34 x33 x32 w_
    rintro ⟨h0_,h1_,h2_,h3_,h4_,h5_,h6_,h7_,h8_,h9_,h10_,h11_,h12_,h13_,h14_,⟨n_,ln_,e1_,e2_,e3_,e4_,e5_,e6_,e7_,e8_,e9_,kp_,hS⟩⟩
    obtain rfl:=h1_ d1_0
    have g11_:=h11_ d11_1
    obtain rfl:n_=7:=dN e7_ d11_1 e8_ hD_
    refine ap2 (bg (bg (bg (bg (bg hS))))) (by omega) fun u w_ hS=>?_
    exact ⟨h0_,h1_,h2_,h3_,h4_,h5_,h6_,h7_,h8_,h9_,h10_,h11_,fun _=>by first|assumption|trivial,h13_,h14_,⟨8,by decide,(by first|exact e1_|rfl),(by first|exact e2_|rfl),(by first|exact e3_|rfl),(by first|exact e4_|rfl),(by first|exact e5_|rfl),(by first|exact e6_|rfl),(by first|exact e7_|rfl),rfl,(by first|exact e9_|rfl),kp_,bS (bS (bS (bS (bS hS))))⟩⟩
   ·intro D hD_ d0_0 d1_1 d2_2 d3_3 d4_4 d5_5 d6_6 d7_7 d8_8 d9_9 d10_10 d11_11 d12_12 x45 x44 x43 x42 x41 x40 x39 x38 x37 x36 x35 x34 x33 x32 w_
    rintro ⟨h0_,h1_,h2_,h3_,h4_,h5_,h6_,h7_,h8_,h9_,h10_,h11_,h12_,h13_,h14_,⟨n_,ln_,e1_,e2_,e3_,e4_,e5_,e6_,e7_,e8_,e9_,kp_,hS⟩⟩
    refine r_field aw ?_
    exact ⟨h0_,h1_,h2_,h3_,h4_,h5_,h6_,h7_,h8_,h9_,h10_,h11_,h12_,fun _=>rfl,h14_,⟨n_,ln_,e1_,e2_,e3_,e4_,e5_,e6_,e7_,e8_,e9_,kp_,hS⟩⟩
   ·intro D hD_ d13_0 d12_1 d12_2 d0_3 d1_4 d2_5 d3_6 d4_7 d5_8 d6_9 d7_10 d8_11 d9_12 d10_13 d11_14 d12_15 x45 x44 x43 x42 x41 x40 x39 x38 x37 x36 x35 x34 x33 x32 w_
    rintro ⟨h0_,h1_,h2_,h3_,h4_,h5_,h6_,h7_,h8_,h9_,h10_,h11_,h12_,h13_,h14_,⟨n_,ln_,e1_,e2_,e3_,e4_,e5_,e6_,e7_,e8_,e9_,kp_,hS⟩⟩
    obtain rfl:=h13_ d13_0
    have g12_:=h12_ d12_1
    obtain rfl:n_=8:=dN e8_ d12_1 e9_ hD_
    refine ap3 (bg (bg (bg (bg (bg hS))))) (by simp) fun w_ hS=>?_
    exact ⟨h0_,h1_,h2_,h3_,h4_,h5_,h6_,h7_,h8_,h9_,h10_,h11_,h12_,h13_,fun _=>trivial,⟨9,by decide,(by first|exact e1_|rfl),(by first|exact e2_|rfl),(by first|exact e3_|rfl),(by first|exact e4_|rfl),(by first|exact e5_|rfl),(by first|exact e6_|rfl),(by first|exact e7_|rfl),(by first|exact e8_|rfl),rfl,(fun _=>d1_4),bS (bS (bS (bS (bS hS))))⟩⟩
   intro D d14_ d13_ d12_ d11_ d10_ d9_ d8_ d7_ d6_ d5_ d4_ d3_ d2_ d1_ d0_ x45 x44 x43 x42 x41 x40 x39 x38 x37 x36 x35 x34 x33 x32 w_
   rintro ⟨h0_,h1_,h2_,h3_,h4_,h5_,h6_,h7_,h8_,h9_,h10_,h11_,h12_,h13_,h14_,⟨n_,ln_,e1_,e2_,e3_,e4_,e5_,e6_,e7_,e8_,e9_,kp_,hS⟩⟩
   obtain rfl:n_=9:=xk ln_ e9_ d14_
   clear e1_ e2_ e3_ e4_ e5_ e6_ e7_ e8_ e9_
   obtain ⟨p5,S9,cs,⟨t,hot,hcs,hwt,hp5,hE9⟩,hl,hI⟩:=bg (bg (bg (bg (bg (bg hS)))))
   refine ob (by omega) ?_
   refine ⟨⟨j',p5,S9,_,_,ks++[t],nR hou (by simp only [bY]; exact ⟨hot,trivial⟩),rfl,by rw [List.length_append]; simp only [List.length_cons,List.length_nil]; omega,by rw [List.length_append]; simp only [List.length_cons,List.length_nil]; omega,by rw [dq,List.length_append]; simp only [wL,List.length_cons,List.length_nil]; omega,hE7.trans hE9,hhd.mono hE9.1,(hR.monoR fun _ _ h=>RdT.mono hE9.1 h).snoc hcs hl.1,hI⟩,by simp only [intOf,Int.toNat_natCast]; omega⟩
  ·obtain ⟨S8,hE8,hI,hr,_⟩:=iI hI hR hhd
   refine r_loadW hI 0 al rfl rfl ?_
   subst hB2
   have hl5:=hr.length
   refine au hI 1 rfl al rfl rfl (by simpa using hr.one) fun w' hI=>?_
   refine loadV_W hI 1 al rfl rfl ?_
   refine ⟨_,_,S8,rfl,hI.pick [false,false,true],hE7.trans hE8,p3,by omega,rfl,_,_,rfl,hr,?_,iK (by omega) (by simp only [bY]; exact ⟨ho1,trivial⟩),kC hou⟩
   show wT (T.mk 3 0 s [t1])+ks.length+wL ks<=500
   omega
end
end Go.Proofs.YtmnnpgdeecnfpaaGreat

/- What calls what, and what can be reached: both sides. -/
namespace Go.Proofs.YtmnnpgdeecnfpaaGreat
open Go Go.RowKit
attribute [local irreducible] Run CondV GuardV LoadV

end Go.Proofs.YtmnnpgdeecnfpaaGreat

/- The graph of calls: the plain form. -/
namespace Go.Proofs.YtmnnpgdeecnfpaaGreat
open Go Go.RowKit
attribute [local irreducible] Run CondV GuardV LoadV

/- what may still come in -/
/- rows of predicates: their length, an element -/
section
variable {P:Program} {w w0:World} {X:List Nat} {L:List Item} {S:Store} {K:Value->World->Prop}
end

end Go.Proofs.YtmnnpgdeecnfpaaGreat

/- What the clauses for a name call: both sides. -/
namespace Go.Proofs.YtmnnpgdeecnfpaaGreat
open Go Go.RowKit
attribute [local irreducible] Run CondV GuardV LoadV

/- the program's side goes over the clauses' numbers -/
end Go.Proofs.YtmnnpgdeecnfpaaGreat

/- What some predicates can lead to: both sides. -/
namespace Go.Proofs.YtmnnpgdeecnfpaaGreat
open Go Go.RowKit
attribute [local irreducible] Run CondV GuardV LoadV

end Go.Proofs.YtmnnpgdeecnfpaaGreat

/- Which predicates can lead to themselves: both sides. -/
namespace Go.Proofs.YtmnnpgdeecnfpaaGreat
open Go Go.RowKit
attribute [local irreducible] Run CondV GuardV LoadV

end Go.Proofs.YtmnnpgdeecnfpaaGreat

/- PredsOf, CallsOf, ReachOf: both sides. -/
namespace Go.Proofs.YtmnnpgdeecnfpaaGreat
open Go Go.RowKit
attribute [local irreducible] Run CondV GuardV LoadV

end Go.Proofs.YtmnnpgdeecnfpaaGreat

/- A predicate that comes in: its size, its copy, its reading. -/
namespace Go.Proofs.YtmnnpgdeecnfpaaGreat
open Go Go.ChangeShapes Go.WideShapes Go.ChangeAt Go.RowKit
section
attribute [local irreducible] Run CondV GuardV LoadV
end
theorem two {cs:List Value} (h:cs.length=2):∃ a b,cs=[a,b]:=by
 match cs,h with
 | [a,b],_=>exact ⟨a,b,rfl⟩
end Go.Proofs.YtmnnpgdeecnfpaaGreat

/- spec.l14Pred, DrawPredsOf, DrawCallsOf, DrawRecursivePred. -/
namespace Go.Proofs.YtmnnpgdeecnfpaaGreat
open Go Go.RowKit
section
variable {br:Nat} {sl:Value} {ys:List Nat}
attribute [local irreducible] Run CondV GuardV LoadV
theorem Pd.one (x:Pd):∀ u∈x.cells,u.oneCell'=true:=by
 intro u hu
 have hu':u∈([.string x.name,.int .i64 x.arity]:List Value):=hu
 simp at hu'
 rcases hu' with rfl|rfl <;> rfl
end
end Go.Proofs.YtmnnpgdeecnfpaaGreat

/- What the laws compare with: pgPreds, pgPred, impl.ClauseSame, pgClauses; bytes that come in. -/
namespace Go.Proofs.YtmnnpgdeecnfpaaGreat
open Go Go.ChangeShapes Go.WideShapes Go.ChangeAt Go.RowKit
theorem yp:Tryz.prog.underlying ql=some (.int .u8):=by kernel_rfl
theorem xK {H:Type} {enc:TypeId × Value->H} {W:World} {sp:Nat->Bool} {held:Bool} {fuel:Nat} {cs:List Value} {x:DataW H × List MemPlace} (h:DataW.trod enc Tryz.prog W 0 sp held fuel ql cs=some x) :
  ∃ n,dD cs n:=by
 cases fuel with
 | zero=>simp [DataW.trod] at h
 | succ n=>
  unfold DataW.trod at h
  rw [yp] at h
  split at h <;> simp_all
  rename_i k1 k2 m he
  subst he
  obtain ⟨⟨_,h⟩,_⟩:=h
  simp only [Lit.wf,Bool.and_eq_true,decide_eq_true_eq] at h
  have h1:0<=m/\m<=255:=h
  exact ⟨m.toNat,by rw [dD,Int.toNat_of_nonneg (by omega)]; exact ⟨rfl,by omega⟩⟩
theorem iw {H:Type} {enc:TypeId × Value->H} {W:World} {sp:Nat->Bool} {held:Bool} {fuel:Nat} {v:Value} {x:DataW H × List MemPlace} (h:DataW.trod enc Tryz.prog W 0 sp held fuel r2 [v]=some x) :
  ∃ ys,RdSl (ug W) 1 dD v ys:=xJ bi (by omega) h fun _ _ _ _ hy=>xK hy
section
variable {w0 w:World} {X:List Nat} {L:List Item} {S:Store} {K:Value->World->Prop}
attribute [local irreducible] Run CondV GuardV LoadV
theorem qJ {P:Program} {T:TypeId} {cx cy:Bool} {a b:Bool} (hu:P.underlying T=some .bool) (hk:K (.bool (a == b)) w):Run P (sBin .eql T cx cy (.bool a) (.bool b)) w K:=
 Run.of (by
  have he:(Op.equal T (.bool a) (.bool b)).run P w=.ok (a == b) w:=by
   rw [Op.equal,Op.maxDepth,Op.equalIn.eq_def]
   simp [run_underlying hu]
  simp only [sBin,binOp,Sem.run_bind,eqGuard_bool,Result.andThen_ok,he,Sem.run_pure]) hk
end
end Go.Proofs.YtmnnpgdeecnfpaaGreat

/- spec.DrawSubsumedClause. -/
namespace Go.Proofs.YtmnnpgdeecnfpaaGreat
open Go Go.RowKit
abbrev dsA (A:List Item) (Y:Item) (d:Bool):List Item:=A++(match d with|true=>[Y]|false=>[])
def ycD (d:Bool) (u v:Array Value):Array Value:=match d with
 | true=>u
 | false=>v
abbrev zCl:Array Value:=#[.int .i64 0,.int .i64 0,.string ⟨#[]⟩,.slice none 0 0,.slice none 0 0]
theorem ue:∀ (l:List T) (k:Nat),wL (l.take k)<=wL l
 | [],k=>by simp [wL]
 | t::l,0=>by simp [wL]
 | t::l,k+1=>by
  have:=ue l k
  rw [List.take_succ_cons]
  simp only [wL]
  omega
theorem me (m:Int):∀ ts:List T,(cv m ts).length=ts.length
 | []=>rfl
 | t::ts=>by rw [cv,List.length_cons,me m ts,List.length_cons]
theorem wJ (m:Int) (c:C):wC (tq m c)=wC c:=by
 show wT (bE m c.head)+(cv m c.body).length+wL (cv m c.body)=_
 rw [rR,oe,me]
 rfl
section
variable {S:Store} {ys:List Nat} {v:Value}
attribute [local irreducible] Run CondV GuardV LoadV
abbrev yg (v':Value) (I':List Item) (S':Store):Prop:=I'=[]/\∃ cs ds c d,v'=.tuple #[.agg cs.toArray,.agg ds.toArray]/\RdC S' cs c/\RdC S' ds d/\wC c<=2000/\wC d<=2000
theorem bw (h:RdSl S 1 dD v ys):Tri Tryz.prog eD [v] [] S yg:=by
 intro w hI
 refine dz ?_
 unfold cz
 refine r_alloc hI aP fun b2 w' hI=>?_
 refine r_alloc hI aP fun b3 w' hI=>?_
 refine Run.call0E rg qQ hI (tm h) fun v1 I' S1 w'=>?_
 rintro ⟨rfl,br,sl,ys',rfl,rfl,hrd⟩ _ hI
 have hI:Inv w [] [.blk b2 (.cells zCl af),.blk b3 (.cells zCl af),rdI br sl 0] S1 w':=hI
 refine Run.callL gK ic hI (ft (p:=0) hrd (by omega)) rfl fun v2 I' S2 w'=>?_
 rintro ⟨p1,hp1,rfl,cs,c,rfl,hc,hwc,hoh,hob⟩ hE2 hI
 have hl5:=hc.length
 refine r_alloc hI aP fun b5 w' hI=>?_
 refine au hI 3 rfl al (by simpa using hl5) rfl (by simpa using hc.one) fun w' hI=>?_
 have hI:Inv w [] [.blk b2 (.cells zCl af),.blk b3 (.cells zCl af),.blk b5 (.cells cs.toArray af),rdI br sl p1] S2 w':=hI.last 2 rfl
 refine ⟨fun D x6 x14 x13 x12 x11 w_=>(D 0=true->x11=.agg cs.toArray)/\(D 1=true->x12=rdP br)/\(D 2=true->∃ k:Nat,k<3/\x13=.int .i64 (k:Int))/\(D 3=true->True)/\(D 4=true->True)/\(D 5=true->True)/\∃ b6 p2 S3 ds d,p2<=p1+1/\(D 2=false->p2=p1)/\Ext w.heap.size [] S1 S3/\(D 3=true->x14=.agg ds.toArray/\RdC S3 ds d/\wC d<=1000)/\(D 4=true->x6=.pointer (some ⟨b6,0,none⟩))/\(D 5=true->D 3=true)/\(D 5=true->D 4=true)/\RdC S3 cs c/\Sle S1 S3/\Inv w [] (dsA [.blk b2 (.cells zCl af),.blk b3 (.cells zCl af),.blk b5 (.cells cs.toArray af)] (.blk b6 (.cells (ycD (D 5) ds.toArray zCl) af)) (D 4)++[rdI br sl p2]) S3 w_,⟨fun h=>Bool.noConfusion h,fun h=>Bool.noConfusion h,fun h=>Bool.noConfusion h,fun h=>Bool.noConfusion h,fun h=>Bool.noConfusion h,fun h=>Bool.noConfusion h,⟨0,p1,S2,[],c,by omega,fun _=>rfl,hE2,fun h=>Bool.noConfusion h,fun h=>Bool.noConfusion h,fun h=>Bool.noConfusion h,fun h=>Bool.noConfusion h,hc,hE2.1,hI.draw⟩⟩,⟨?_,?_,?_,?_,?_,?_,trivial⟩,?_⟩
 ·intro D hD_  x6 x14 x13 x12 x11 w_
  rintro ⟨h0_,h1_,h2_,h3_,h4_,h5_,⟨b6,p2,S3,ds,d,hp2,e2,hE3,e3,e4,k3,k4,hc,hle,hI⟩⟩
  refine r_loadW hI 2 al (by cases D 4 <;> rfl) (by simpa using hl5) ?_
  exact ⟨fun _=>rfl,h1_,h2_,h3_,h4_,h5_,⟨b6,p2,S3,ds,d,hp2,e2,hE3,e3,e4,k3,k4,hc,hle,hI⟩⟩
 ·intro D hD_  x6 x14 x13 x12 x11 w_
  rintro ⟨h0_,h1_,h2_,h3_,h4_,h5_,⟨b6,p2,S3,ds,d,hp2,e2,hE3,e3,e4,k3,k4,hc,hle,hI⟩⟩
  exact ⟨h0_,fun _=>rfl,h2_,h3_,h4_,h5_,⟨b6,p2,S3,ds,d,hp2,e2,hE3,e3,e4,k3,k4,hc,hle,hI⟩⟩
 ·intro D hD_ d1_0 x6 x14 x13 x12 x11 w_
  rintro ⟨h0_,h1_,h2_,h3_,h4_,h5_,⟨b6,p2,S3,ds,d,hp2,e2,hE3,e3,e4,k3,k4,hc,hle,hI⟩⟩
  obtain rfl:=h1_ d1_0
  have hpe:=e2 hD_
  refine Run.callE (A:=dsA [.blk b2 (.cells zCl af),.blk b3 (.cells zCl af),.blk b5 (.cells cs.toArray af)] (.blk b6 (.cells (ycD (D 5) ds.toArray zCl) af)) (D 4)) aM aL hI (bh (n:=3) (p:=p2) (hrd.monoU hle) (by omega) (by omega)) fun v' I' S3 w_=>?_
  rintro ⟨rfl,rfl,k,hk,rfl⟩ _ hI
  obtain ⟨p2,hp2e⟩:∃ p3,p3=p2+1:=⟨_,rfl⟩
  rw [<- hp2e] at hI
  have hp2:p2<=p1+1:=by omega
  have e2:setD D 2 2=false->p2=p1:=fun h=>Bool.noConfusion h
  have hnew:∃ k':Nat,k'<3/\Value.int .i64 (k:Int)=.int .i64 (k':Int):=⟨k,hk,rfl⟩
  exact ⟨h0_,h1_,fun _=>by first|assumption|trivial,h3_,h4_,h5_,⟨b6,p2,S3,ds,d,hp2,e2,hE3,e3,e4,k3,k4,hc,hle,hI⟩⟩
 ·intro D hD_ d0_0 d2_1 d2_2 x6 x14 x13 x12 x11 w_
  rintro ⟨h0_,h1_,h2_,h3_,h4_,h5_,⟨b6,p2,S3,ds,d,hp2,e2,hE3,e3,e4,k3,k4,hc,hle,hI⟩⟩
  obtain rfl:=h0_ d0_0
  have g2_:=h2_ d2_1
  obtain ⟨k,hk,rfl⟩:=g2_
  have f5:D 5=false:=Bool.eq_false_iff.2 fun h=>by rw [k3 h] at hD_; cases hD_
  refine Run.call0E oQ oO hI (nh (Nv:=26) (by omega) (k:Int) (by omega) (by omega) hc hoh hob (by omega)) fun v' I' S4 w_=>?_
  rintro ⟨rfl,ds,M,rfl,rfl,hT⟩ _ hI
  obtain ⟨S3,hI,hE4,hins⟩:=hI.pubExt
  have hI:Inv w [] (dsA [.blk b2 (.cells zCl af),.blk b3 (.cells zCl af),.blk b5 (.cells cs.toArray af)] (.blk b6 (.cells (ycD (D 5) ds.toArray zCl) af)) (D 4)++[rdI br sl p2]) S3 w_:=by
   rw [f5] at hI ⊢
   exact hI
  have hE3:=hE3.trans hE4
  have hc:=hc.mono hE4.1
  have hle:=hle.trans hE4.1
  obtain ⟨d,hd⟩:∃ d,d=tq (k:Int) c:=⟨_,rfl⟩
  have e3:setD D 3 3=true->Value.agg ds.toArray=.agg ds.toArray/\RdC S3 ds d/\wC d<=1000:=fun _=>⟨rfl,by rw [hd]; exact hT.rd hins,by rw [hd,wJ]; omega⟩
  have k3:=fun (_:setD D 3 5=true)=>(rfl:setD D 3 3=true)
  exact ⟨h0_,h1_,h2_,fun _=>by first|assumption|trivial,h4_,h5_,⟨b6,p2,S3,ds,d,hp2,e2,hE3,e3,e4,k3,k4,hc,hle,hI⟩⟩
 ·intro D hD_  x6 x14 x13 x12 x11 w_
  rintro ⟨h0_,h1_,h2_,h3_,h4_,h5_,⟨b6,p2,S3,ds,d,hp2,e2,hE3,e3,e4,k3,k4,hc,hle,hI⟩⟩
  have f5:D 5=false:=Bool.eq_false_iff.2 fun h=>by rw [k4 h] at hD_; cases hD_
  rw [hD_] at hI
  refine r_alloc hI aP fun b6 w_ hI=>?_
  have hI:Inv w [] (dsA [.blk b2 (.cells zCl af),.blk b3 (.cells zCl af),.blk b5 (.cells cs.toArray af)] (.blk b6 (.cells (ycD (D 5) ds.toArray zCl) af)) true++[rdI br sl p2]) S3 w_:=by
   rw [f5]
   exact hI.last 3 rfl
  have e4:=fun (_:setD D 4 4=true)=>(rfl:Value.pointer (some ⟨b6,0,none⟩)=_)
  have k4:=fun (_:setD D 4 5=true)=>(rfl:setD D 4 4=true)
  exact ⟨h0_,h1_,h2_,h3_,fun _=>by first|assumption|trivial,h5_,⟨b6,p2,S3,ds,d,hp2,e2,hE3,e3,e4,k3,k4,hc,hle,hI⟩⟩
 ·intro D hD_ d4_0 d3_1 d3_2 d0_3 d1_4 d2_5 d3_6 d4_7 x6 x14 x13 x12 x11 w_
  rintro ⟨h0_,h1_,h2_,h3_,h4_,h5_,⟨b6,p2,S3,ds,d,hp2,e2,hE3,e3,e4,k3,k4,hc,hle,hI⟩⟩
  have g4_:=h4_ d4_0
  have g3_:=h3_ d3_1
  obtain ⟨rfl,hrd6,hwd6⟩:=e3 d3_1
  obtain rfl:=e4 d4_0
  rw [d4_0,hD_] at hI
  refine au hI 3 rfl al (by simpa using hrd6.length) rfl (by simpa using hrd6.one) fun w_ hI=>?_
  have hI:Inv w [] (dsA [.blk b2 (.cells zCl af),.blk b3 (.cells zCl af),.blk b5 (.cells cs.toArray af)] (.blk b6 (.cells (ycD true ds.toArray zCl) af)) (D 4)++[rdI br sl p2]) S3 w_:=by
   rw [d4_0]
   exact hI
  have k3:=fun (_:setD D 5 5=true)=>d3_1
  have k4:=fun (_:setD D 5 5=true)=>d4_0
  exact ⟨h0_,h1_,h2_,h3_,h4_,fun _=>trivial,⟨b6,p2,S3,ds,d,hp2,e2,hE3,e3,e4,k3,k4,hc,hle,hI⟩⟩
 intro D d5_ d4_ d3_ d2_ d1_ d0_ x6 x14 x13 x12 x11 w_
 rintro ⟨h0_,h1_,h2_,h3_,h4_,h5_,⟨b6,p2,S3,ds,d,hp2,e2,hE3,e3,e4,k3,k4,hc,hle,hI⟩⟩
 have g4_:=h4_ d4_
 have g3_:=h3_ d3_
 have g2_:=h2_ d2_
 obtain rfl:=h1_ d1_
 obtain rfl:=h0_ d0_
 clear h0_ h1_ h2_ h3_ h4_ h5_
 obtain ⟨_,hd,hwd⟩:=e3 d3_
 obtain rfl:=e4 d4_
 rw [d4_,d5_] at hI
 have hI:Inv w [] [.blk b2 (.cells zCl af),.blk b3 (.cells zCl af),.blk b5 (.cells cs.toArray af),.blk b6 (.cells ds.toArray af),rdI br sl p2] S3 w_:=hI
 clear e2 e3 e4 k3 k4
 have hrd:=hrd.monoU hle
 refine ⟨fun w'=>∃ (p3:Nat) (es:List Value) (e:C),p3<=p2+1/\RdC S3 es e/\wC e<=1000/\Inv w [] [.blk b2 (.cells zCl af),.blk b3 (.cells zCl af),.blk b5 (.cells cs.toArray af),.blk b6 (.cells es.toArray af),rdI br sl p3] S3 w',?_,?_⟩
 ·have hd0:=hd
  obtain ⟨hd',kb,rfl,hh,hb⟩:=hd
  have hh0:=hh
  obtain ⟨kv,rfl,_⟩:=RdT.iff.1 hh
  refine ⟨fun t w'=>∃ (p3:Nat) (q:Bool),t=.bool q/\p3<=p2+1/\(q=true->0<d.body.length)/\Inv w [] [.blk b2 (.cells zCl af),.blk b3 (.cells zCl af),.blk b5 (.cells cs.toArray af),.blk b6 (.cells #[.int .i64 d.head.kind,.int .i64 d.head.n,.string d.head.name,kv,kb] af),rdI br sl p3] S3 w',?_,?_⟩
  ·refine r_fieldL hI 3 rfl aw ao rfl ?_
   refine r_lenSl hb aq ?_
   refine r_gtr ?_
   cases hq:decide ((0:Int)<(d.body.length:Int))
   ·repeat (first|refine ac ?_|refine ag (by decide) ?_|refine ae ?_|refine ai ?_|refine ah ?_)
    exact ⟨p2,false,rfl,by omega,(fun h=>by cases h),hI⟩
   ·have hq:=of_decide_eq_true hq
    repeat (first|refine ac ?_|refine ag (by decide) ?_|refine ae ?_|refine ai ?_|refine ah ?_)
    refine Run.callL aM aL hI (bh (n:=2) hrd (by omega) (by omega)) rfl fun v' I' S3 w'=>?_
    rintro ⟨rfl,rfl,k,hk,rfl⟩ _ hI
    refine r_eql ?_
    repeat (first|refine ac ?_|refine ag (by decide) ?_|refine ae ?_|refine ai ?_|refine ah ?_)
    exact ⟨p2+1,_,rfl,by omega,fun _=>by omega,hI⟩
  intro t23 _ _ _ _ _ _ _ _ w'
  rintro ⟨p3,q,rfl,hp3,hq,hI⟩
  refine condV (fun hqt=>?_) (fun _=>⟨p3,_,d,hp3,hd0,hwd,hI⟩)
  have h0:=hq hqt
  refine r_fieldL hI 3 rfl aw ao rfl ?_
  refine r_fieldL hI 3 rfl aw ao rfl ?_
  refine r_lenSl hb aq ?_
  have hbl:=hb.le
  simp only [maxLen] at hbl
  refine r_sub (by omega) ?_
  rw [show (d.body.length:Int) - 1=((d.body.length - 1:Nat):Int) by omega]
  refine vq aq hb (by omega) fun kb' hb'=>?_
  obtain ⟨ab,mb,hkb,_⟩:=id hb'
  refine dt hI 3 rfl aw ao rfl (by rw [hkb]; rfl) (by rw [hkb]; rfl) fun w' hI=>?_
  refine ⟨p3,[.int .i64 d.head.kind,.int .i64 d.head.n,.string d.head.name,kv,kb'],⟨d.head,d.body.take (d.body.length - 1)⟩,hp3,⟨[.int .i64 d.head.kind,.int .i64 d.head.n,.string d.head.name,kv],kb',rfl,hh0,hb'⟩,?_,hI⟩
  have h1:wC d=wT d.head+d.body.length+wL d.body:=rfl
  have h2:=ue d.body (d.body.length - 1)
  show wT d.head+(d.body.take (d.body.length - 1)).length+wL (d.body.take (d.body.length - 1))<=1000
  rw [List.length_take]
  omega
 intro _ _ _ _ _ _ _ _ _ _ _ _ _ _ _ _ _ w'
 rintro ⟨p3,es,e,hp3,he,hwe,hI⟩
 refine ⟨fun w'=>∃ (p4:Nat) (S4:Store) (es:List Value) (e:C),p4<=p3+501/\Ext w.heap.size [] S3 S4/\RdC S4 es e/\wC e<=1000/\Inv w [] [.blk b2 (.cells zCl af),.blk b3 (.cells zCl af),.blk b5 (.cells cs.toArray af),.blk b6 (.cells es.toArray af),rdI br sl p4] S4 w',?_,?_⟩
 ·refine Run.callL aM aL hI (bh (n:=3) hrd (by omega) (by omega)) rfl fun v' I' S3 w'=>?_
  rintro ⟨rfl,rfl,k,hk,rfl⟩ _ hI
  refine r_eql ?_
  refine condP (fun _=>?_) (fun _=>?_)
  ·refine Run.callL gK ic hI (ft (p:=p3+1) hrd (by omega)) rfl fun v2 I' S4 w'=>?_
   rintro ⟨p4,hp4,rfl,es2,e2,rfl,he2,hwe2,_,_⟩ hE4 hI
   refine au hI 3 rfl al (by simpa using he2.length) (by simpa using he.length) (by simpa using he2.one) fun w' hI=>?_
   exact ⟨p4,S4,es2,e2,by omega,hE4,he2,by omega,hI⟩
  ·exact ⟨p3+1,_,es,e,by omega,Ext.refl _ _ _,he,hwe,hI⟩
 intro _ _ _ _ _ w'
 rintro ⟨p4,S4,es,e,hp4,hE4,he,hwe,hI⟩
 have hc:=hc.mono hE4.1
 have hrd:=hrd.monoU hE4.1
 have hE4:=hE3.trans hE4
 refine ⟨fun D x42 x41 x40 x39 x38 x37 w_=>(D 0=true->x37=rdP br)/\(D 1=true->x38=.agg cs.toArray)/\(D 2=true->True)/\(D 3=true->x40=rdP br)/\(D 4=true->x41=.agg es.toArray)/\(D 5=true->True)/\(D 6=true->True)/\(D 7=true->True)/\∃ p5 S5 c1s c1 d1s d1,(D 2=false->p5<=10000)/\(D 5=false->p5<=20000)/\Ext w.heap.size [] S4 S5/\(D 2=true->x39=.agg c1s.toArray/\RdC S5 c1s c1/\wC c1<=2000)/\(D 5=true->x42=.agg d1s.toArray/\RdC S5 d1s d1/\wC d1<=2000)/\(D 6=true->D 2=true)/\(D 7=true->D 5=true)/\(D 5=true->D 2=true)/\Inv w [] [.blk b2 (.cells (ycD (D 6) c1s.toArray zCl) af),.blk b3 (.cells (ycD (D 7) d1s.toArray zCl) af),.blk b5 (.cells cs.toArray af),.blk b6 (.cells es.toArray af),rdI br sl p5] S5 w_,⟨fun h=>Bool.noConfusion h,fun h=>Bool.noConfusion h,fun h=>Bool.noConfusion h,fun h=>Bool.noConfusion h,fun h=>Bool.noConfusion h,fun h=>Bool.noConfusion h,fun h=>Bool.noConfusion h,fun h=>Bool.noConfusion h,⟨p4,S4,[],c,[],c,fun _=>by omega,fun _=>by omega,Ext.refl _ _ _,fun h=>Bool.noConfusion h,fun h=>Bool.noConfusion h,fun h=>Bool.noConfusion h,fun h=>Bool.noConfusion h,fun h=>Bool.noConfusion h,hI.draw⟩⟩,⟨?_,?_,?_,?_,?_,?_,?_,?_,trivial⟩,?_⟩
 ·intro D hD_  x42 x41 x40 x39 x38 x37 w_
  rintro ⟨h0_,h1_,h2_,h3_,h4_,h5_,h6_,h7_,⟨p5,S5,c1s,c1,d1s,d1,q2,q5,hE5,e2,e5,k6,k7,k5,hI⟩⟩
  exact ⟨fun _=>rfl,h1_,h2_,h3_,h4_,h5_,h6_,h7_,⟨p5,S5,c1s,c1,d1s,d1,q2,q5,hE5,e2,e5,k6,k7,k5,hI⟩⟩
 ·intro D hD_  x42 x41 x40 x39 x38 x37 w_
  rintro ⟨h0_,h1_,h2_,h3_,h4_,h5_,h6_,h7_,⟨p5,S5,c1s,c1,d1s,d1,q2,q5,hE5,e2,e5,k6,k7,k5,hI⟩⟩
  refine r_loadW hI 2 al rfl (by simpa using hl5) ?_
  exact ⟨h0_,fun _=>rfl,h2_,h3_,h4_,h5_,h6_,h7_,⟨p5,S5,c1s,c1,d1s,d1,q2,q5,hE5,e2,e5,k6,k7,k5,hI⟩⟩
 ·intro D hD_ d0_0 d1_1 x42 x41 x40 x39 x38 x37 w_
  rintro ⟨h0_,h1_,h2_,h3_,h4_,h5_,h6_,h7_,⟨p5,S5,c1s,c1,d1s,d1,q2,q5,hE5,e2,e5,k6,k7,k5,hI⟩⟩
  obtain rfl:=h0_ d0_0
  obtain rfl:=h1_ d1_1
  have hpl:=q2 hD_
  have f6:D 6=false:=Bool.eq_false_iff.2 fun h=>by rw [k6 h] at hD_; cases hD_
  have f5:D 5=false:=Bool.eq_false_iff.2 fun h=>by rw [k5 h] at hD_; cases hD_
  refine Run.callL gW gM hI (gb (p:=p5) (hrd.monoU hE5.1) (hc.mono hE5.1) (by omega) (by omega)) rfl fun v' I' S6 w_=>?_
  rintro ⟨p6,hp6,rfl,c1s,c1,rfl,hc1,hwc1⟩ hE6 hI
  obtain ⟨p5,rfl⟩:∃ p7,p7=p6:=⟨_,rfl⟩
  obtain ⟨S5,rfl⟩:∃ S7,S7=S6:=⟨_,rfl⟩
  have hI:Inv w [] [.blk b2 (.cells (ycD (D 6) c1s.toArray zCl) af),.blk b3 (.cells (ycD (D 7) d1s.toArray zCl) af),.blk b5 (.cells cs.toArray af),.blk b6 (.cells es.toArray af),rdI br sl p5] S5 w_:=by
   rw [f6] at hI ⊢
   exact hI
  have q2:setD D 2 2=false->p5<=10000:=fun h=>Bool.noConfusion h
  have q5:setD D 2 5=false->p5<=20000:=fun _=>by omega
  have hE5:=hE5.trans hE6
  have e2:setD D 2 2=true->Value.agg c1s.toArray=.agg c1s.toArray/\RdC S5 c1s c1/\wC c1<=2000:=fun _=>⟨rfl,hc1,by omega⟩
  have e5:setD D 2 5=true->x42=.agg d1s.toArray/\RdC S5 d1s d1/\wC d1<=2000:=fun h=>by have h:D 5=true:=h; rw [f5] at h; cases h
  have k6:=fun (_:setD D 2 6=true)=>(rfl:setD D 2 2=true)
  have k5:=fun (_:setD D 2 5=true)=>(rfl:setD D 2 2=true)
  exact ⟨h0_,h1_,fun _=>by first|assumption|trivial,h3_,h4_,h5_,h6_,h7_,⟨p5,S5,c1s,c1,d1s,d1,q2,q5,hE5,e2,e5,k6,k7,k5,hI⟩⟩
 ·intro D hD_  x42 x41 x40 x39 x38 x37 w_
  rintro ⟨h0_,h1_,h2_,h3_,h4_,h5_,h6_,h7_,⟨p5,S5,c1s,c1,d1s,d1,q2,q5,hE5,e2,e5,k6,k7,k5,hI⟩⟩
  exact ⟨h0_,h1_,h2_,fun _=>rfl,h4_,h5_,h6_,h7_,⟨p5,S5,c1s,c1,d1s,d1,q2,q5,hE5,e2,e5,k6,k7,k5,hI⟩⟩
 ·intro D hD_  x42 x41 x40 x39 x38 x37 w_
  rintro ⟨h0_,h1_,h2_,h3_,h4_,h5_,h6_,h7_,⟨p5,S5,c1s,c1,d1s,d1,q2,q5,hE5,e2,e5,k6,k7,k5,hI⟩⟩
  refine r_loadW hI 3 al rfl (by simpa using he.length) ?_
  exact ⟨h0_,h1_,h2_,h3_,fun _=>rfl,h5_,h6_,h7_,⟨p5,S5,c1s,c1,d1s,d1,q2,q5,hE5,e2,e5,k6,k7,k5,hI⟩⟩
 ·intro D hD_ d3_0 d4_1 d2_2 x42 x41 x40 x39 x38 x37 w_
  rintro ⟨h0_,h1_,h2_,h3_,h4_,h5_,h6_,h7_,⟨p5,S5,c1s,c1,d1s,d1,q2,q5,hE5,e2,e5,k6,k7,k5,hI⟩⟩
  obtain rfl:=h3_ d3_0
  obtain rfl:=h4_ d4_1
  have hpl:=q5 hD_
  have f7:D 7=false:=Bool.eq_false_iff.2 fun h=>by rw [k7 h] at hD_; cases hD_
  refine Run.callL gW gM hI (gb (p:=p5) (hrd.monoU hE5.1) (he.mono hE5.1) (by omega) (by omega)) rfl fun v' I' S6 w_=>?_
  rintro ⟨p6,hp6,rfl,d1s,d1,rfl,hd1,hwd1⟩ hE6 hI
  obtain ⟨p5,rfl⟩:∃ p7,p7=p6:=⟨_,rfl⟩
  have e2:setD D 5 2=true->x39=.agg c1s.toArray/\RdC S6 c1s c1/\wC c1<=2000:=fun h=>⟨(e2 h).1,(e2 h).2.1.mono hE6.1,(e2 h).2.2⟩
  obtain ⟨S5,rfl⟩:∃ S7,S7=S6:=⟨_,rfl⟩
  have hI:Inv w [] [.blk b2 (.cells (ycD (D 6) c1s.toArray zCl) af),.blk b3 (.cells (ycD (D 7) d1s.toArray zCl) af),.blk b5 (.cells cs.toArray af),.blk b6 (.cells es.toArray af),rdI br sl p5] S5 w_:=by
   rw [f7] at hI ⊢
   exact hI
  have q2:setD D 5 2=false->p5<=10000:=fun h=>by have h:D 2=false:=h; rw [d2_2] at h; cases h
  have q5:setD D 5 5=false->p5<=20000:=fun h=>Bool.noConfusion h
  have hE5:=hE5.trans hE6
  have e5:setD D 5 5=true->Value.agg d1s.toArray=.agg d1s.toArray/\RdC S5 d1s d1/\wC d1<=2000:=fun _=>⟨rfl,hd1,by omega⟩
  have k7:=fun (_:setD D 5 7=true)=>(rfl:setD D 5 5=true)
  have k5:=fun (_:setD D 5 5=true)=>d2_2
  exact ⟨h0_,h1_,h2_,h3_,h4_,fun _=>by first|assumption|trivial,h6_,h7_,⟨p5,S5,c1s,c1,d1s,d1,q2,q5,hE5,e2,e5,k6,k7,k5,hI⟩⟩
 ·intro D hD_ d2_0 d5_1 d0_2 d1_3 d2_4 x42 x41 x40 x39 x38 x37 w_
  rintro ⟨h0_,h1_,h2_,h3_,h4_,h5_,h6_,h7_,⟨p5,S5,c1s,c1,d1s,d1,q2,q5,hE5,e2,e5,k6,k7,k5,hI⟩⟩
  have g2_:=h2_ d2_0
  obtain ⟨rfl,hr1,_⟩:=e2 d2_0
  rw [hD_] at hI
  refine au hI 0 rfl al (by simpa using hr1.length) rfl (by simpa using hr1.one) fun w_ hI=>?_
  have k6:=fun (_:setD D 6 6=true)=>d2_0
  exact ⟨h0_,h1_,h2_,h3_,h4_,h5_,fun _=>trivial,h7_,⟨p5,S5,c1s,c1,d1s,d1,q2,q5,hE5,e2,e5,k6,k7,k5,hI⟩⟩
 ·intro D hD_ d5_0 d6_1 d0_2 d1_3 d2_4 d3_5 d4_6 d5_7 d6_8 x42 x41 x40 x39 x38 x37 w_
  rintro ⟨h0_,h1_,h2_,h3_,h4_,h5_,h6_,h7_,⟨p5,S5,c1s,c1,d1s,d1,q2,q5,hE5,e2,e5,k6,k7,k5,hI⟩⟩
  have g5_:=h5_ d5_0
  obtain ⟨rfl,hr1,_⟩:=e5 d5_0
  rw [hD_] at hI
  refine au hI 1 rfl al (by simpa using hr1.length) rfl (by simpa using hr1.one) fun w_ hI=>?_
  have k7:=fun (_:setD D 7 7=true)=>d5_0
  exact ⟨h0_,h1_,h2_,h3_,h4_,h5_,h6_,fun _=>trivial,⟨p5,S5,c1s,c1,d1s,d1,q2,q5,hE5,e2,e5,k6,k7,k5,hI⟩⟩
 intro D d7_ d6_ d5_ d4_ d3_ d2_ d1_ d0_ x42 x41 x40 x39 x38 x37 w_
 rintro ⟨h0_,h1_,h2_,h3_,h4_,h5_,h6_,h7_,⟨p5,S5,c1s,c1,d1s,d1,q2,q5,hE5,e2,e5,k6,k7,k5,hI⟩⟩
 have g5_:=h5_ d5_
 obtain rfl:=h4_ d4_
 obtain rfl:=h3_ d3_
 have g2_:=h2_ d2_
 obtain rfl:=h1_ d1_
 obtain rfl:=h0_ d0_
 clear h0_ h1_ h2_ h3_ h4_ h5_ h6_ h7_
 obtain ⟨_,hc1,hwc1⟩:=e2 d2_
 obtain ⟨_,hd1,hwd1⟩:=e5 d5_
 rw [d6_,d7_] at hI
 have hI:Inv w [] [.blk b2 (.cells c1s.toArray af),.blk b3 (.cells d1s.toArray af),.blk b5 (.cells cs.toArray af),.blk b6 (.cells es.toArray af),rdI br sl p5] S5 w_:=hI
 refine loadV_W hI 0 al rfl (by simpa using hc1.length) ?_
 refine loadV_W hI 1 al rfl (by simpa using hd1.length) ?_
 exact ⟨_,[],S5,rfl,hI.nil,hE4.trans hE5,rfl,c1s,d1s,c1,d1,rfl,hc1,hd1,hwc1,hwd1⟩
end
end Go.Proofs.YtmnnpgdeecnfpaaGreat
