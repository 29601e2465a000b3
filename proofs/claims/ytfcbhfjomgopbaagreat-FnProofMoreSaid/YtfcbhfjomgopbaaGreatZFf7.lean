/- spec: shifted terms and clauses. -/
import Derived.Test.YtfcbhfjomgopbaaGreatZFf6
import Derived.Test.YtfcbhfjomgopbaaGreatZFf5
import Derived.Test.YtfcbhfjomgopbaaGreatZFf1
import Derived.Test.YtfcbhfjomgopbaaGreatZFf2
import Derived.Test.YtfcbhfjomgopbaaGreatZFf0
namespace Go.Proofs.YtfcbhfjomgopbaaGreat
section
open Go Go.RowKit
mutual
def cH (m:Int):T->T
 | .mk k n s ks=>.mk k (if k=1 then n+m else n) s (fV m ks)
def fV (m:Int):List T->List T
 | []=>[]
 | t::ts=>cH m t::fV m ts
end
theorem kX (m:Int):∀ ts:List T,fV m ts=ts.map (cH m)
 | []=>rfl
 | t::ts=>by rw [fV,kX m ts]; rfl
theorem Hh (m:Int) (ks:List T) (j:Nat) (h:j<ks.length):fV m (ks.take (j+1))=fV m (ks.take j)++[cH m ks[j]]:=by
 rw [kX,kX,List.take_succ_eq_append_getElem h,List.map_append]; rfl
section
attribute [local irreducible] Run CondV aB aS
theorem sw {N:Nat} (hN:N<=1000000) (m:Int) (hm0:0<=m) (hm1:m<=1000000):∀ (t:T) (S:ae) (cs:List Value),RdT S cs t->okU N t->wT t<=1048576->Tri Tryz.prog H8 [.agg cs.toArray,.int .i64 m] [] S (DX S (cH m t)):=by
 refine T.ind fun k n s ks ih S cs h hou hw=>?_
 intro w hI
 obtain ⟨kv,rfl,h1,h2,hs,hks⟩:=RdT.iff.1 h
 simp only [T.name,T.kids,T.kind,T.n] at h1 h2 hs hks ⊢
 simp only [wT] at hw
 rw [okU] at hou
 obtain ⟨_,hvar,hou,_⟩:=hou
 obtain ⟨cur,hcur⟩:∃ cur,cur=if k=1 then n+m else n:=⟨_,rfl⟩
 have hci:inI cur:=by
  rw [hcur]
  split
  ·have:=hvar (by assumption)
   simp only [inI]
   omega
  ·exact h2
 refine uF.2 ?_
 dsimp only[uF,aX]
 refine be hI fun b1 w' hI=>?_
 refine aG hI aP fun b2 w' hI=>?_
 refine ad hI 0 rfl aE aw rfl ?_
 refine ad hI 0 rfl aK aw rfl ?_
 refine ad hI 0 rfl aM aJ rfl ?_
 refine gf ?_
 refine aG hI aP fun b3 w' hI=>?_
 refine ao hI 2 rfl ac rfl rfl (by simp [Value.oneCell']) fun w' hI=>?_
 have hI:Inv w [] [.blk b1 (.cells #[.int .i64 k,.int .i64 n,.string s,kv] ab),.blk b2 (.cells #[.int .i64 0,.int .i64 0,.string ⟨#[]⟩,.slice none 0 0] ab),.blk b3 (.cells #[.int .i64 k,.int .i64 n,.string s,.slice none 0 0] ab)] S w':=hI
 refine ⟨fun w'=>Inv w [] [.blk b1 (.cells #[.int .i64 k,.int .i64 n,.string s,kv] ab),.blk b2 (.cells #[.int .i64 0,.int .i64 0,.string ⟨#[]⟩,.slice none 0 0] ab),.blk b3 (.cells #[.int .i64 k,.int .i64 cur,.string s,.slice none 0 0] ab)] S w',?_,?_⟩
 ·refine ad hI 0 rfl aE aw rfl ?_
  refine aY ?_
  refine aI (fun he=>?_) (fun he=>?_)
  ·have hv:=hvar he
   refine ad hI 0 rfl aK aw rfl ?_
   refine bn (by omega) ?_
   rw [if_pos he] at hcur
   rw [hcur]
   exact cG hI 2 rfl aK aw rfl rfl rfl fun w' hI=>hI
  ·rw [if_neg he] at hcur
   rw [hcur]
   exact hI
 intro _ _ _ _ _ _ _ _ w' hI
 have hI:=hI.rowNil ab 4
 refine ⟨fun i w'=>∃ (j:Nat) (kvc:Value) (Ls:List bg) (css:List (List Value)),j<=ks.length/\i=.int .i64 j/\Grown 4 TrT Ls css (fV m (ks.take j))/\
   Inv w [] (.blk b1 (.cells #[.int .i64 k,.int .i64 n,.string s,kv] ab)::.blk b2 (.cells #[.int .i64 0,.int .i64 0,.string ⟨#[]⟩,.slice none 0 0] ab)::.blk b3 (.cells #[.int .i64 k,.int .i64 cur,.string s,kvc] ab)::aL kvc ab 4 css::bq Ls.flatten) S w',
  fun i _=>ks.length - (intOf i).toNat,⟨0,_,[],[],Nat.zero_le _,rfl,Grown.nil _ _,hI⟩,?_⟩
 intro t7 _ _ _ _ _ _ _ _ _ _ _ _ _ _ _ _ _ _ _ w'
 rintro ⟨j,kvc,Ls,css,hj,rfl,hg,hI⟩
 refine ad hI 0 rfl al ag rfl ?_
 refine aD hks af ?_
 refine bA ?_
 refine aI (fun hji=>?_) (fun hji=>?_)
 ·have hj':j<ks.length:=by omega
  have hjl:(ks.take j).length=j:=by simp; omega
  have hcl:=hg.hc
  rw [kX,List.length_map] at hcl
  have hm:=List.getElem_mem hj'
  have hwm:=kH hm
  obtain ⟨b,o,cap,c,E,fz,rfl,hS,hR⟩:=hks.at_ hj'
  refine ⟨fun D na ij gX nL jL kz pz mt oE jM jd lw w_=>Fx D 0 [lw=.pointer (some ⟨b3,3,none⟩),jd=kvc,jM=.pointer (some ⟨b1,3,none⟩),oE=.slice (some ⟨b,o,none⟩) ks.length cap,mt=.int .i64 j,pz=.pointer (some ⟨b,o+j * 4,none⟩),kz=.agg (aH c (o+j * 4) 4).toArray,jL=.int .i64 m,True,True,True,na=.pointer (some ⟨b3,3,none⟩),True]/\∃ M cs7 b8,(D 8=true->nL=.agg cs7.toArray/\TrT M cs7 (cH m ks[j]))/\(D 9=true->gX=.slice (some ⟨b8,0,none⟩) 1 1)/\(D 9=true->D 8=true)/\(D 10=true->D 9=true)/\(D 12=true->D 10=true)/\(D 12=true->D 1=true)/\Inv w [] (bh (.blk b1 (.cells #[.int .i64 k,.int .i64 n,.string s,.slice (some ⟨b,o,none⟩) ks.length cap] ab)) (.blk b2 (.cells #[.int .i64 0,.int .i64 0,.string ⟨#[]⟩,.slice none 0 0] ab)) (.blk b3 (.cells #[.int .i64 k,.int .i64 cur,.string s,kvc] ab)) (.blk b3 (.cells #[.int .i64 k,.int .i64 cur,.string s,ij] ab)) (aL kvc ab 4 css) (aL ij ab 4 (css++[cs7])) (bq Ls.flatten) M (.blk b8 (.cells cs7.toArray ab)) (D 8) (D 9) (D 10) (D 12)) S w_,⟨Fx.nil _ _,⟨[],[],0,aU,aU,aU,aU,aU,aU,by simpa [bh,bq] using hI.draw⟩⟩,⟨?_,?_,?_,?_,?_,?_,?_,?_,?_,?_,?_,?_,?_,trivial⟩,?_⟩
  all_goals (intro D bo; intros; rename_i na ij gX nL jL kz pz mt oE jM jd lw w_ hA_; have hF_:=hA_.1; obtain ⟨⟨bU,bV,bH,bR,bZ,bI,bB,ct,cF,cK,bG,bX,cI,_⟩,⟨M,cs7,b8,e7,e8,k8,k9,k11,k1,hI⟩⟩:=hA_)
  ·refine ai al ?_
   exact ⟨hF_.set 0 rfl,⟨M,cs7,b8,e7,e8,k8,k9,k11,k1,hI⟩⟩
  ·obtain rfl:=bU ‹_›
   have f11:D 12=false:=Bool.eq_false_iff.2 fun h=>by rw [k1 h] at bo; cases bo
   refine aA (b:=b3) hI 2 (c:=(#[.int .i64 k,.int .i64 cur,.string s,kvc])) ag (by rw [f11]; rfl) rfl ?_
   have k1:=fun (_:aF D 1 12=true)=>(rfl:aF D 1 1=true)
   exact ⟨hF_.set 1 rfl,⟨M,cs7,b8,e7,e8,k8,k9,k11,k1,hI⟩⟩
  ·refine ai al ?_
   exact ⟨hF_.set 2 rfl,⟨M,cs7,b8,e7,e8,k8,k9,k11,k1,hI⟩⟩
  ·obtain rfl:=bH ‹_›
   refine aA hI 0 ag rfl rfl ?_
   exact ⟨hF_.set 3 rfl,⟨M,cs7,b8,e7,e8,k8,k9,k11,k1,hI⟩⟩
  ·exact ⟨hF_.set 4 rfl,⟨M,cs7,b8,e7,e8,k8,k9,k11,k1,hI⟩⟩
  ·obtain rfl:=bR ‹_›
   obtain rfl:=bZ ‹_›
   refine au af hj' ?_
   exact ⟨hF_.set 5 rfl,⟨M,cs7,b8,e7,e8,k8,k9,k11,k1,hI⟩⟩
  ·obtain rfl:=bI ‹_›
   refine bw ac hR.length (fun j v hj=>by rw [hI.cellS hS]; exact ar rfl j v hj) ?_
   exact ⟨hF_.set 6 rfl,⟨M,cs7,b8,e7,e8,k8,k9,k11,k1,hI⟩⟩
  ·exact ⟨hF_.set 7 rfl,⟨M,cs7,b8,e7,e8,k8,k9,k11,k1,hI⟩⟩
  ·obtain rfl:=bB ‹_›
   obtain rfl:=ct ‹_›
   have f8:D 9=false:=Bool.eq_false_iff.2 fun h=>by rw [k8 h] at bo; cases bo
   have f9:D 10=false:=Bool.eq_false_iff.2 fun h=>by rw [k9 h] at f8; cases f8
   have f11:D 12=false:=Bool.eq_false_iff.2 fun h=>by rw [k11 h] at f9; cases f9
   rw [bo,f8,f9,f11] at hI
   refine Run.call0 oy oq hI (ih _ (List.getElem_mem hj') S _ hR (m8 hou _ (List.getElem_mem hj')) (by omega)) fun v' I' S w_=>?_
   rintro ⟨rfl,cs7,M,rfl,rfl,hT⟩ _ hI
   have e7:aF D 8 8=true->Value.agg cs7.toArray=Value.agg cs7.toArray/\TrT M cs7 (cH m ks[j]):=fun _=>⟨rfl,hT⟩
   have k8:=fun (_:aF D 8 9=true)=>(rfl:aF D 8 8=true)
   have hI:Inv w [] (bh (.blk b1 (.cells #[.int .i64 k,.int .i64 n,.string s,.slice (some ⟨b,o,none⟩) ks.length cap] ab)) (.blk b2 (.cells #[.int .i64 0,.int .i64 0,.string ⟨#[]⟩,.slice none 0 0] ab)) (.blk b3 (.cells #[.int .i64 k,.int .i64 cur,.string s,kvc] ab)) (.blk b3 (.cells #[.int .i64 k,.int .i64 cur,.string s,ij] ab)) (aL kvc ab 4 css) (aL ij ab 4 (css++[cs7])) (bq Ls.flatten) M (.blk b8 (.cells cs7.toArray ab)) true (D 9) (D 10) (D 12)) S w_:=by
    rw [f8,f9,f11]
    simpa [bh] using hI
   exact ⟨hF_.set 8 (by first|assumption|trivial),⟨M,cs7,b8,e7,e8,k8,k9,k11,k1,hI⟩⟩
  ·have CJ:=cF ‹_›
   have f9:D 10=false:=Bool.eq_false_iff.2 fun h=>by rw [k9 h] at bo; cases bo
   have f11:D 12=false:=Bool.eq_false_iff.2 fun h=>by rw [k11 h] at f9; cases f9
   obtain ⟨q7,hT⟩:=e7 ‹D 8=true›
   subst q7
   rw [‹D 8=true›,bo,f9,f11] at hI
   refine dQ hI bm (by simp [Value.cells,hT.length]) (by omega) (by omega) fun b8 w_ hI=>?_
   have e7:aF D 9 8=true->Value.agg cs7.toArray=Value.agg cs7.toArray/\TrT M cs7 (cH m ks[j]):=fun _=>⟨rfl,hT⟩
   have e8:=fun (_:aF D 9 9=true)=>(rfl:Value.slice (some ⟨b8,0,none⟩) 1 1=_)
   have k8:=fun (_:aF D 9 9=true)=>‹D 8=true›
   have k9:=fun (_:aF D 9 10=true)=>(rfl:aF D 9 9=true)
   have hI:Inv w [] (bh (.blk b1 (.cells #[.int .i64 k,.int .i64 n,.string s,.slice (some ⟨b,o,none⟩) ks.length cap] ab)) (.blk b2 (.cells #[.int .i64 0,.int .i64 0,.string ⟨#[]⟩,.slice none 0 0] ab)) (.blk b3 (.cells #[.int .i64 k,.int .i64 cur,.string s,kvc] ab)) (.blk b3 (.cells #[.int .i64 k,.int .i64 cur,.string s,ij] ab)) (aL kvc ab 4 css) (aL ij ab 4 (css++[cs7])) (bq Ls.flatten) M (.blk b8 (.cells cs7.toArray ab)) (D 8) true (D 10) (D 12)) S w_:=by
    rw [‹D 8=true›,f9,f11]
    simpa [bh,Value.cells] using hI
   exact ⟨hF_.set 9 (by first|assumption|trivial),⟨M,cs7,b8,e7,e8,k8,k9,k11,k1,hI⟩⟩
  ·obtain rfl:=bV ‹_›
   have Hc:=cK ‹_›
   have f11:D 12=false:=Bool.eq_false_iff.2 fun h=>by rw [k11 h] at bo; cases bo
   have q8:=e8 ‹D 9=true›
   subst q8
   obtain ⟨_,hT⟩:=e7 ‹D 8=true›
   rw [‹D 8=true›,‹D 9=true›,bo,f11] at hI
   have hblk:((bh (.blk b1 (.cells #[.int .i64 k,.int .i64 n,.string s,.slice (some ⟨b,o,none⟩) ks.length cap] ab)) (.blk b2 (.cells #[.int .i64 0,.int .i64 0,.string ⟨#[]⟩,.slice none 0 0] ab)) (.blk b3 (.cells #[.int .i64 k,.int .i64 cur,.string s,jd] ab)) (.blk b3 (.cells #[.int .i64 k,.int .i64 cur,.string s,ij] ab)) (aL jd ab 4 css) (aL ij ab 4 (css++[cs7])) (bq Ls.flatten) M (.blk b8 (.cells cs7.toArray ab)) true true false false))[4+(bq Ls.flatten).length+(bq M).length]?=some (.blk b8 (.cells cs7.toArray ab)):=by
    have e4:4+(bq Ls.flatten).length+(bq M).length=((bq Ls.flatten).length+(bq M).length)+1+1+1+1:=by omega
    rw [e4]
    simp only [bh,List.getElem?_cons_succ]
    rw [List.getElem?_append_right (by omega),Nat.add_sub_cancel_left,List.getElem?_append_right (Nat.le_refl _),Nat.sub_self]; rfl
   refine eR hI 3 cs7 bm (by omega) rfl (by rw [hT.length]) (m:=1) (o:=0) ?_ hT.one (by omega) (by omega) fun v' w_ hI=>?_
   ·intro i u hi
    rw [hI.cellL hblk,Nat.zero_add]
    simpa using hi
   rw [gB] at hI
   have k9:=fun (_:aF D 10 10=true)=>‹D 9=true›
   have k11:=fun (_:aF D 10 12=true)=>(rfl:aF D 10 10=true)
   have hI:Inv w [] (bh (.blk b1 (.cells #[.int .i64 k,.int .i64 n,.string s,.slice (some ⟨b,o,none⟩) ks.length cap] ab)) (.blk b2 (.cells #[.int .i64 0,.int .i64 0,.string ⟨#[]⟩,.slice none 0 0] ab)) (.blk b3 (.cells #[.int .i64 k,.int .i64 cur,.string s,jd] ab)) (.blk b3 (.cells #[.int .i64 k,.int .i64 cur,.string s,v'] ab)) (aL jd ab 4 css) (aL v' ab 4 (css++[cs7])) (bq Ls.flatten) M (.blk b8 (.cells cs7.toArray ab)) (D 8) (D 9) true (D 12)) S w_:=by
    rw [‹D 8=true›,‹D 9=true›,f11]
    exact hI
   exact ⟨hF_.set 10 (by first|assumption|trivial),⟨M,cs7,b8,e7,e8,k8,k9,k11,k1,hI⟩⟩
  ·refine ai al ?_
   exact ⟨hF_.set 11 rfl,⟨M,cs7,b8,e7,e8,k8,k9,k11,k1,hI⟩⟩
  ·obtain rfl:=bX ‹_›
   have vp:=bG ‹_›
   rw [‹D 8=true›,‹D 9=true›,‹D 10=true›,bo] at hI
   obtain ⟨va,vn,vc,hv9⟩:=Inv.rowSlice hI 3 rfl
   refine dK hI 2 (n:=1) (by rw [hv9]; rfl) (by decide +kernel) rfl (by simp) (by rw [hv9]; simp [Value.cells,Value.oneCell']) fun w_ hI=>?_
   have hcl9:Value.cells ij=#[ij]:=by rw [hv9]; rfl
   rw [hcl9] at hI
   have k1:=fun (_:aF D 12 12=true)=>‹D 1=true›
   have k11:=fun (_:aF D 12 12=true)=>‹D 10=true›
   have hI:Inv w [] (bh (.blk b1 (.cells #[.int .i64 k,.int .i64 n,.string s,.slice (some ⟨b,o,none⟩) ks.length cap] ab)) (.blk b2 (.cells #[.int .i64 0,.int .i64 0,.string ⟨#[]⟩,.slice none 0 0] ab)) (.blk b3 (.cells #[.int .i64 k,.int .i64 cur,.string s,kvc] ab)) (.blk b3 (.cells #[.int .i64 k,.int .i64 cur,.string s,ij] ab)) (aL kvc ab 4 css) (aL ij ab 4 (css++[cs7])) (bq Ls.flatten) M (.blk b8 (.cells cs7.toArray ab)) (D 8) (D 9) (D 10) true) S w_:=by
    rw [‹D 8=true›,‹D 9=true›,‹D 10=true›]
    exact hI
   exact ⟨hF_.set 12 trivial,⟨M,cs7,b8,e7,e8,k8,k9,k11,k1,hI⟩⟩
  obtain ⟨rfl,rfl,rfl,rfl,rfl,rfl,rfl,rfl,CJ,Hc,vp,rfl,_,_⟩:=hF_.all
  have Am:D 8=true:=by assumption
  have Fz:D 9=true:=by assumption
  have xV:D 10=true:=by assumption
  have LB:D 12=true:=by assumption
  clear hF_ bU bV bH bR bZ bI bB ct cF cK bG bX cI
  obtain ⟨_,hT⟩:=e7 Am
  rw [Am,Fz,xV,LB] at hI
  refine bn (by omega) ?_
  refine ⟨⟨j+1,ij,Ls++[M],css++[cs7],hj',rfl,?_,?_⟩,by simp [intOf]; omega⟩
  ·rw [Hh m ks j hj']
   exact hg.snoc hT hT.length
  ·simp only [List.flatten_append,List.flatten_cons,List.flatten_nil,List.append_nil,eJ]
   refine hI.sub ?_
   simp only [bh]
   rw [<- List.append_assoc]
   exact (((List.sublist_append_left _ _).cons_cons _).cons_cons _).cons_cons _ |>.cons_cons _
 ·have:j=ks.length:=by omega
  subst this
  rw [List.take_length] at hg
  obtain ⟨va,vn,vc,hvk⟩:=hI.rowSlice 3 rfl
  have hv1:kvc.oneCell'=true:=by rw [hvk]; rfl
  refine aq hI 2 ac rfl rfl ?_
  refine ao hI 1 rfl ac rfl rfl ?_ fun w' hI=>?_
  ·intro u hu
   have hu':u∈([.int .i64 k,.int .i64 cur,.string s,kvc]:List Value):=hu
   simp at hu'
   rcases hu' with rfl|rfl|rfl|rfl <;> first|rfl|exact hv1
  refine aW hI 1 ac rfl rfl ?_
  have hI:Inv w [] ([]++(aL kvc ab 4 css::bq Ls.flatten)) S w':=hI.sub (List.sublist_append_right [_,_,_] _)
  obtain ⟨L,hT,hI⟩:=Inv.rowTree hI hg
  exact ⟨_,_,_,rfl,hI,Ext.refl _ _ _,rfl,_,L,rfl,rfl,TrT.iff.2 ⟨kvc,by rw [cH,<- hcur]; rfl,by rw [cH]; exact h1,by rw [cH,<- hcur]; exact hci,by rw [cH]; exact hs,by rw [cH]; exact hT⟩⟩
end
end
section
open Go Go.RowKit
theorem H4 {s:ByteArray} (h:mn s=true):s.size<=6:=by
 rw [mn,Bool.or_eq_true] at h
 rcases h with h|h
 ·rw [lS] at h
  simp only [Bool.and_eq_true,decide_eq_true_eq] at h
  exact h.2.2
 ·simp only [List.any_eq_true,decide_eq_true_eq] at h
  obtain ⟨x,hx,rfl⟩:=h
  have:∀ y∈signs,y.size<=6:=by decide +kernel
  exact this x hx
theorem Ll {t:T} (h:eN t=true):t.name.size<=6:=by
 unfold eN at h
 have he:emptyB.size=0:=by decide +kernel
 by_cases e1:t.kind=1
 ·rw [if_pos e1] at h
  simp only [Bool.and_eq_true,decide_eq_true_eq] at h
  rw [h.2.2.1]; omega
 ·rw [if_neg e1] at h
  by_cases e2:t.kind=2
  ·rw [if_pos e2] at h
   simp only [Bool.and_eq_true,decide_eq_true_eq] at h
   rw [h.2.2.1]; omega
  ·rw [if_neg e2] at h
   by_cases e3:t.kind=3
   ·rw [if_pos e3] at h
    simp only [Bool.and_eq_true,decide_eq_true_eq] at h
    exact H4 h.2.1
   ·rw [if_neg e3] at h
    cases h
mutual
theorem Ep:∀ (t:T) (d:Int),eY t d=true->okU 26 t
 | .mk k n s ks,d,h=>by
  rw [eY] at h
  split at h
  ·cases h
  ·rw [Bool.and_eq_true] at h
   have h1:=OV h.1
   have h2:=fun hk=>NT h.1 hk
   have h3:=Ll h.1
   rw [okU]
   refine ⟨h1.2,fun hk=>?_,AC ks _ h.2,h3⟩
   have h4:=h1.1 hk
   have h5:=h2 hk
   simp only [T.n] at h4
   simp only [T.name,T.kids] at h5
   exact ⟨h4.1,by omega,h5.1,List.eq_nil_of_length_eq_zero h5.2⟩
theorem AC:∀ (ts:List T) (d:Int),eU ts d=true->dC 26 ts
 | [],_,_=>by rw [dC]; trivial
 | t::ts,d,h=>by
  rw [eU,Bool.and_eq_true] at h
  rw [dC]
  exact ⟨Ep t d h.1,AC ts d h.2⟩
end
theorem iO {t:T} (h:dd t=true):okU 26 t:=Ep t 30 (qH h)
theorem iL {c:C} (h:ce c=true):okU 26 c.head/\(∀ t∈c.body,okU 26 t)/\c.body.length<=6:=by
 rw [ce] at h
 simp only [Bool.and_eq_true,List.all_eq_true,decide_eq_true_eq] at h
 refine ⟨iO h.2.2.1,fun t ht=>?_,h.1⟩
 have:=h.2.1 t ht
 rw [ef,Bool.and_eq_true] at this
 exact iO this.1
mutual
theorem kG {N M:Nat} (h:N<=M):∀ t:T,okU N t->okU M t
 | .mk k n s ks,ht=>by
  rw [okU] at ht ⊢
  refine ⟨ht.1,fun hk=>?_,Mj h ks ht.2.2.1,ht.2.2.2⟩
  have:=ht.2.1 hk
  exact ⟨this.1,by omega,this.2.2⟩
theorem Mj {N M:Nat} (h:N<=M):∀ ts:List T,dC N ts->dC M ts
 | [],_=>by rw [dC]; trivial
 | t::ts,ht=>by
  rw [dC] at ht ⊢
  exact ⟨kG h t ht.1,Mj h ts ht.2⟩
end
mutual
theorem nK {N:Nat} (m:Nat):∀ t:T,okU N t->okU (N+m) (cH m t)
 | .mk k n s ks,ht=>by
  rw [okU] at ht
  rw [cH,okU]
  refine ⟨ht.1,fun hk=>?_,tq m ks ht.2.2.1,ht.2.2.2⟩
  have:=ht.2.1 hk
  rw [if_pos hk]
  refine ⟨by omega,by omega,this.2.2.1,?_⟩
  rw [this.2.2.2,fV]
theorem tq {N:Nat} (m:Nat):∀ ts:List T,dC N ts->dC (N+m) (fV m ts)
 | [],_=>by rw [fV,dC]; trivial
 | t::ts,ht=>by
  rw [dC] at ht
  rw [fV,dC]
  exact ⟨nK m t ht.1,tq m ts ht.2⟩
end
mutual
theorem pY (m:Int):∀ t:T,wT (cH m t)=wT t
 | .mk k n s ks=>by
  rw [cH,wT,wT,HF m ks]
  rw [kX,List.length_map]
theorem HF (m:Int):∀ ts:List T,wL (fV m ts)=wL ts
 | []=>rfl
 | t::ts=>by rw [fV,wL,wL,pY m t,HF m ts]
end
mutual
theorem KJ {N:Nat}:∀ t:T,okU N t->(wT t:Int)+1<=7 * dF t
 | .mk k n s ks,h=>by
  rw [okU] at h
  have h1:=Oa ks h.2.2.1
  rw [wT,gz]
  omega
theorem Oa {N:Nat}:∀ ts:List T,dC N ts->(wL ts:Int)+ts.length<=7 * dc ts
 | [],_=>by simp [wL,dc]
 | t::ts,h=>by
  rw [dC] at h
  have h1:=KJ t h.1
  have h2:=Oa ts h.2
  rw [wL,dc,List.length_cons]
  omega
end
theorem Lu {N:Nat} {st:aC} {t v:T} (h:Good N st) (hw:cS st t v) (ht:okU N t):okU N v:=by
 induction hw with
 | stop=>exact ht
 | step hl _ ih=>exact ih (h.look_ok hl).1
theorem mj {N:Nat} {st:aC} (hg:Good N st) {j:M9} (hr:Res st j):match j with
  | .one t u=>okU N t->okU N u
  | .list ts us=>dC N ts->dC N us/\us.length=ts.length:=by
 induction hr with
 | one hw hl ih=>
  rename_i t v us
  intro ho
  have hv:=Lu hg hw ho
  obtain ⟨h1,h2⟩:=ih hv.kids
  obtain ⟨k,n,s,ks⟩:=v
  have hv2:=hv
  rw [okU] at hv2
  show okU N (.mk k n s us)
  rw [okU]
  refine ⟨hv2.1,fun hk=>?_,h1,hv2.2.2.2⟩
  have h3:=hv2.2.1 hk
  refine ⟨h3.1,h3.2.1,h3.2.2.1,?_⟩
  simp only [T.kids] at h2
  exact List.eq_nil_of_length_eq_zero (by rw [h2,h3.2.2.2]; rfl)
 | nil=>exact fun h=>⟨h,rfl⟩
 | cons _ _ ih1 ih2=>
  intro ho
  rw [dC] at ho
  obtain ⟨h1,h2⟩:=ih2 ho.2
  rw [dC]
  exact ⟨⟨ih1 ho.1,h1⟩,by simp [h2]⟩
theorem Cj {N:Nat} {st:aC} (h:Good N st):∀ ts:List T,dC N ts->∃ us,Res st (.list ts us)
 | [],_=>⟨[],.nil⟩
 | t::ts,ho=>by
  rw [dC] at ho
  obtain ⟨u,hu⟩:=Fv h t ho.1
  obtain ⟨us,hus⟩:=Cj h ts ho.2
  exact ⟨u::us,.cons hu hus⟩
def stU:aC:=List.replicate 52 none
theorem IJ:Good 52 stU:=⟨by simp [stU],fun t ht=>by simp [stU] at ht,fun t ht=>by simp [stU] at ht,fun n=>n,fun n u hu=>by
 have:=List.mem_of_getElem? hu
 simp [stU] at this⟩
def Mu (c d:C):List T:=c.head::(fV 26 d.body++c.body.drop 1)
def ofL:List T->C
 | []=>⟨⟨0,0,⟨#[]⟩,[]⟩,[]⟩
 | t::ts=>⟨t,ts⟩
def RO (c d:C) (o:Option (Option C)):Prop:=∃ r st,Uni stU (.one (c.body.headD ⟨0,0,⟨#[]⟩,[]⟩) (cH 26 d.head)) r st/\
 ((r=false/\o=none) ∨ (r=true/\∃ us,Res st (.list (Mu c d) us)/\((us.all cA=false/\o=some none) ∨ (us.all cA=true/\o=some (some (SX (SL (ofL us)) (ofL us)))))))
theorem NJ {c d:C} (hc:ce c=true) (hd:ce d=true):dC 52 (Mu c d):=by
 obtain ⟨c1,c2,_⟩:=iL hc
 obtain ⟨d1,d2,_⟩:=iL hd
 rw [Mu,dC]
 exact ⟨kG (by decide) _ c1,Ce (tq 26 _ (Ak d2)) (Ak fun t ht=>kG (by decide) _ (c2 t (List.mem_of_mem_drop ht)))⟩
theorem MK {c d:C} (hc:ce c=true) (hd:ce d=true) (hwc:wC c<=1048576) (hwd:wC d<=1048576) (hb:c.body≠[]):okJ 52 (.one (c.body.headD ⟨0,0,⟨#[]⟩,[]⟩) (cH 26 d.head)):=by
 obtain ⟨c1,c2,_⟩:=iL hc
 obtain ⟨d1,d2,_⟩:=iL hd
 unfold wC at hwc hwd
 cases hcb:c.body with
 | nil=>exact absurd hcb hb
 | cons t ts=>
  rw [List.headD_cons]
  have hm:t∈c.body:=by rw [hcb]; exact List.mem_cons_self ..
  have:=Fe hm
  exact ⟨⟨kG (by decide) _ (c2 t hm),by omega⟩,⟨nK 26 _ d1,by rw [pY]; omega⟩⟩
theorem RO.ex {c d:C} (hc:ce c=true) (hd:ce d=true) (hwc:wC c<=1048576) (hwd:wC d<=1048576) (hb:c.body≠[]):∃ o,RO c d o:=by
 have hj:=MK hc hd hwc hwd hb
 obtain ⟨r,st,hu⟩:=GS (unb stU) stU IJ (Nat.le_refl _) _ hj
 cases r with
 | false=>exact ⟨none,false,st,hu,.inl ⟨rfl,rfl⟩⟩
 | true=>
  obtain ⟨us,hus⟩:=Cj (hu.good IJ hj).1 (Mu c d) (NJ hc hd)
  cases hs:us.all cA with
  | false=>exact ⟨some none,true,st,hu,.inr ⟨rfl,us,hus,.inl ⟨hs,rfl⟩⟩⟩
  | true=>exact ⟨_,true,st,hu,.inr ⟨rfl,us,hus,.inr ⟨hs,rfl⟩⟩⟩
theorem lO {N:Nat} {u:T} (h:cA u=true) (ho:okU N u):wT u<=840:=by
 rw [cA,Bool.and_eq_true,decide_eq_true_eq] at h
 have:=KJ u ho
 omega
end
section
open Go Go.RowKit
section
variable {br:Nat} {sl:Value} {ys:List Nat}
attribute [local irreducible] Run CondV aB aS
theorem Ps:dW 2=54:=rfl
end
end
section
open Go Go.RowKit
theorem Ly {q:List T} (h:iR q=true):q.length<=6:=by
 rw [iR,Bool.and_eq_true] at h
 have:=h.1
 simp at this
 omega
def LightT (n m:Nat) (q:List T):Prop:=q.length<=n/\∀ t∈q,wT t<=m
theorem LightT.le {n m:Nat} {q:List T} (h:LightT n m q):q.length+wL q<=n+n * m:=by
 have:∀ q:List T,(∀ c∈q,wT c<=m)->wL q<=q.length * m:=by
  intro q
  induction q with
  | nil=>intro _; simp [wL]
  | cons c q ih=>
   intro h
   have h1:=h c (List.mem_cons_self ..)
   have h2:=ih fun d hd=>h d (List.mem_cons_of_mem _ hd)
   simp only [wL,List.length_cons,Nat.succ_mul]
   omega
 have h1:=this q h.2
 have h2:q.length * m<=n * m:=Nat.mul_le_mul_right _ h.1
 have:=h.1
 omega
section
variable {w0 w:World} {X:List Nat} {L A:List Item} {S:ae}
theorem ME {v:Value} {css:List (List Value)} {q:List T} (hI:Inv w0 X (aL v ab 4 css::A) S w) (hR:Rows 4 (RdT S) css q) :
  ∃ S',Ext w0.heap.size X S S'/\Inv w0 X A S' w/\RdSl S' 4 (RdT S') v q:=by
 have hI:Inv w0 X (A++[aL v ab 4 css]) S w:=hI.last 0 rfl
 obtain ⟨S',hE,hrd,hI⟩:=Inv.lendExt hI
 exact ⟨S',hE,hI,RowRd.rows (hR.monoR fun _ _ h=>RdT.mono hE.1 h) hrd⟩
end
section
variable {br:Nat} {sl:Value} {ys:List Nat} {S:ae}
attribute [local irreducible] Run CondV aB aS
end
end
section
open Go Go.RowKit
def Vq (q:List T):Prop:=iR q=true/\0<q.length
def Ox (s:ByteArray):Bool:=match n3 60 8 (bs s) 0 [] with
 | some (q,n)=>decide (n=s.size) && (iR q && (decide (wL q<=300) && (decide (s.size<=1000) && decide (0<q.length))))
 | none=>false
theorem Ni {s:ByteArray} (h:Ox s=true):∃ q,n3 60 8 (bs s) 0 []=some (q,s.size)/\iR q=true/\wL q<=300/\s.size<=1000/\0<q.length:=by
 unfold Ox at h
 split at h
 ·rename_i q n hq
  simp only [Bool.and_eq_true,decide_eq_true_eq] at h
  obtain ⟨rfl,h2,h3,h4,h5⟩:=h
  exact ⟨q,hq,h2,h3,h4,h5⟩
 ·cases h
abbrev PJ (br:Nat) (sl:Value) (p k n m:Nat):Value->List Item->ae->Prop:=fun v I' S'=>∃ p',p'<=p+k/\I'=[rdI br sl p']/\∃ q,RdSl S' 4 (RdT S') v q/\LightT n m q/\Vq q
section
variable {br:Nat} {sl:Value} {ys:List Nat} {S:ae}
attribute [local irreducible] Run CondV aB aS
theorem lL {s:ByteArray} (h:Ox s=true):Tri Tryz.prog Cl [.string s] [] S fun v I' S'=>I'=[]/\∃ u q,v=.tuple #[u,.bool true]/\RdSl S' 4 (RdT S') u q/\LightT 6 300 q/\Vq q:=by
 intro w hI
 obtain ⟨q,hq,hqv,hqw,hs,hq0⟩:=Ni h
 have hql:=Ly hqv
 have hbs:(bs s).length=s.size:=(kq (bs s)).symm
 refine oJ.2 ?_
 dsimp only[oJ,aO]
 refine gq aR ?_
 refine jN (by omega) ?_
 refine az (fun hb=>by cases hb) (fun _=>?_)
 refine Run.call0E vN u6 hI (sJ (i:=0) hq (Nat.le_trans (Nat.le_of_eq hbs) (by omega)) (Nat.zero_le _)) fun v I' S1 w'=>?_
 rintro ⟨rfl,u,rfl,hu⟩ hE1 hI
 have hI:Inv w [] [] S1 w':=hI
 refine aj (v:=u) rfl ?_
 refine aj (v:=.int .i64 (s.size:Int)) rfl ?_
 refine ⟨fun t w'=>t=.bool false/\Inv w [] [] S1 w',?_,?_⟩
 ·refine gq aR ?_
  refine cE ?_
  rw [decide_eq_true rfl]
  refine rpG ?_
  refine Run.callPure Ac z0 hI (te hu (by omega)) fun w' hI=>?_
  rw [hqv]
  refine bM ?_
  refine rpG ?_
  exact ⟨rfl,hI⟩
 intro t25 _ _ _ _ _ _ _ _ w'
 rintro ⟨rfl,hI⟩
 refine az (fun hb=>by cases hb) (fun _=>?_)
 refine dE hI bm fun v0 w' hI=>?_
 refine ⟨fun a b w'=>∃ (j:Nat) (S2:ae) (css:List (List Value)),a=.int .i64 (j:Int)/\j<=q.length/\Ext w.heap.size [] S S2/\Sle S1 S2/\Rows 4 (RdT S2) css (q.take j)/\Inv w [] [aL b ab 4 css] S2 w',
  fun a _ _=>q.length - (intOf a).toNat,⟨0,S1,[],rfl,Nat.zero_le _,hE1,Sle.refl _,Rows.nil _ _,hI⟩,?_⟩
 intro t7 _ _ t6 _ _ _ _ _ _ _ _ _ _ _ _ w'
 rintro ⟨j,S2,css,rfl,hj,hE2,hle,hR,hI⟩
 have hu:=hu.monoT hle
 have hcl:=hR.hc
 refine aD hu af ?_
 refine bA ?_
 refine aI (fun hji=>?_) (fun hji=>?_)
 ·have hj':j<q.length:=by omega
  have hm:=kH (List.getElem_mem hj')
  have htk:(q.take j).length=j:=by rw [List.length_take]; omega
  refine ch hI hu af ac hj' (fun _ _=>RdT.length) fun cs hcs=>?_
  refine Run.call0E eo ei hI (eI _ S2 cs hcs (by omega)) fun v' I' S3 w'=>?_
  rintro ⟨rfl,ds,M,rfl,rfl,hT⟩ hE3 hI
  obtain ⟨S3,hI,hE3,hins⟩:=hI.pubExt
  have hr3:=hT.rd hins
  refine dM (css:=css) hI 0 ds bm (by omega) (by omega) rfl hr3.length hr3.one (by omega) (by omega) fun v' w' hI=>?_
  refine bn (by omega) ?_
  exact ⟨⟨j+1,S3,_,rfl,hj',hE2.trans hE3,hle.trans hE3.1,by rw [List.take_succ_eq_append_getElem hj']; exact (hR.monoR fun _ _ h=>RdT.mono hE3.1 h).snoc hr3 hr3.length,hI⟩,by simp [intOf]; omega⟩
 ·have:j=q.length:=by omega
  subst this
  rw [List.take_length] at hR
  obtain ⟨S3,hE3,hI,hr⟩:=ME hI hR
  exact ⟨_,[],S3,rfl,hI,hE2.trans hE3,rfl,_,q,rfl,hr,⟨hql,fun t ht=>by have:=kH ht; omega⟩,hqv,hq0⟩
theorem xw (S:ae):Tri Tryz.prog DA [] [] S fun v I' S'=>I'=[]/\∃ l,RdSl S' 1 mS v l/\0<l.length/\l.all Ox=true:=by
 intro w hI
 refine qN.2 ?_
 dsimp only[qN,r7]
 refine eV hI (by kernel_rfl) rfl (by omega) fun v S1 w' hE1 hv hI=>?_
 exact ⟨_,[],S1,rfl,hI,hE1,rfl,_,hv,by decide,by decide +kernel⟩
theorem AG {p:Nat} (hrd:RdSl S 1 jC sl ys) (hp:p<=100000000):Tri Tryz.prog Jg [rdP br] [rdI br sl p] S (PJ br sl p 1 6 300):=by
 intro w hI
 refine wG.2 ?_
 dsimp only[wG,aO]
 refine Run.call0E Bj Be hI (xw S) fun v' I' S1 w'=>?_
 rintro ⟨rfl,l,hl,hl0,hok⟩ hE1 hI
 have hI:Inv w [br] [rdI br sl p] S1 w':=hI
 refine aD hl cg ?_
 refine Run.callL bO bN hI (cY (n:=l.length) (hrd.monoU hE1.1) (by omega) hl0) rfl fun v' I' S1 w'=>?_
 rintro ⟨rfl,rfl,k,hk,rfl⟩ _ hI
 have hI:Inv w [br] [rdI br sl (p+1)] S1 w':=hI
 refine fy hI hl cg aJ hk (fun cs hcs=>hcs) ?_
 rw [List.all_eq_true] at hok
 refine Run.call0E o7 oY hI (lL (hok _ (List.getElem_mem hk))) fun v I' S2 w'=>?_
 rintro ⟨rfl,u,q,rfl,hu,hq⟩ hE2 hI
 refine aj (v:=u) rfl ?_
 refine aj (v:=.bool true) rfl ?_
 exact ⟨_,_,S2,rfl,hI,hE1.trans hE2,p+1,Nat.le_refl _,rfl,q,hu,hq⟩
abbrev Qg (br:Nat) (sl:Value) (p k:Nat):Value->List Item->ae->Prop:=fun v I' S'=>∃ p',p'<=p+k/\I'=[rdI br sl p']/\∃ u g ps q,v=.tuple #[u,g]/\RdSl S' 5 (RdC S') u ps/\Light 8 200 ps/\0<ps.length/\(∀ c∈ps,ce c=true)/\RdSl S' 4 (RdT S') g q/\LightT 6 300 q/\Vq q
theorem C4 {p:Nat} (hrd:RdSl S 1 jC sl ys) (hp:p<=10000000):Tri Tryz.prog Ky [rdP br] [rdI br sl p] S (Qg br sl p 5):=by
 intro w hI
 refine yq.2 ?_
 dsimp only[yq,aO]
 refine Run.call0E vX vL hI (sI S) fun v' I' S1 w'=>?_
 rintro ⟨rfl,l,hl,hl11,hok⟩ hE1 hI
 have hI:Inv w [br] [rdI br sl p] S1 w':=hI
 refine aD hl cg ?_
 refine Run.callL bO bN hI (cY (n:=l.length) (hrd.monoU hE1.1) (by omega) (by omega)) rfl fun v' I' S1 w'=>?_
 rintro ⟨rfl,rfl,k,hk,rfl⟩ _ hI
 have hI:Inv w [br] [rdI br sl (p+1)] S1 w':=hI
 refine fy hI hl cg aJ hk (fun cs hcs=>hcs) ?_
 rw [List.all_eq_true] at hok
 refine Run.call0E l5 lP hI (Ea (hok _ (List.getElem_mem hk))) fun v I' S2 w'=>?_
 rintro ⟨u,css,ps,rfl,rfl,hR,h0,hps,hpv⟩ hE2 hI
 have hI:Inv w [br] [aL u av 5 css,rdI br sl (p+1)] S2 w':=hI.last 0 rfl
 obtain ⟨T0,hE3,hI,hr⟩:=pu hI hR
 refine aj (v:=u) rfl ?_
 refine aj (v:=.bool true) rfl ?_
 have F0:Ext w.heap.size [br] S T0:=(hE1.trans hE2).trans hE3
 refine eV hI (by kernel_rfl) rfl (by omega) fun v1 T1 w' G1 h1 hI=>?_
 have F1:=F0.trans G1
 refine eV hI (by kernel_rfl) rfl (by omega) fun v2 T2 w' G2 h2 hI=>?_
 have F2:=F1.trans G2
 refine eV hI (by kernel_rfl) rfl (by omega) fun v3 T3 w' G3 h3 hI=>?_
 have F3:=F2.trans G3
 refine eV hI (by kernel_rfl) rfl (by omega) fun v4 T4 w' G4 h4 hI=>?_
 have F4:=F3.trans G4
 refine eV hI (by kernel_rfl) rfl (by omega) fun v5 T5 w' G5 h5 hI=>?_
 have F5:=F4.trans G5
 refine eV hI (by kernel_rfl) rfl (by omega) fun v6 T6 w' G6 h6 hI=>?_
 have F6:=F5.trans G6
 refine eV hI (by kernel_rfl) rfl (by omega) fun v7 T7 w' G7 h7 hI=>?_
 have F7:=F6.trans G7
 refine eV hI (by kernel_rfl) rfl (by omega) fun v8 T8 w' G8 h8 hI=>?_
 have F8:=F7.trans G8
 refine eV hI (by kernel_rfl) rfl (by omega) fun v9 T9 w' G9 h9 hI=>?_
 have F9:=F8.trans G9
 refine eV hI (by kernel_rfl) rfl (by omega) fun v10 T10 w' G10 h10 hI=>?_
 have F10:=F9.trans G10
 refine eV hI (by kernel_rfl) rfl (by omega) fun v11 T11 w' G11 h11 hI=>?_
 have F11:=F10.trans G11
 refine qz (v:=fun b=>.slice (some ⟨b,0,none⟩) 11 11) (o:=.cells #[v1,v2,v3,v4,v5,v6,v7,v8,v9,v10,v11] wQ) hI ?_ fun b w' hI=>?_
 ·obtain ⟨a1,c1,rfl,_⟩:=id h1; obtain ⟨a2,c2,rfl,_⟩:=id h2; obtain ⟨a3,c3,rfl,_⟩:=id h3; obtain ⟨a4,c4,rfl,_⟩:=id h4; obtain ⟨a5,c5,rfl,_⟩:=id h5; obtain ⟨a6,c6,rfl,_⟩:=id h6; obtain ⟨a7,c7,rfl,_⟩:=id h7; obtain ⟨a8,c8,rfl,_⟩:=id h8; obtain ⟨a9,c9,rfl,_⟩:=id h9; obtain ⟨a10,c10,rfl,_⟩:=id h10; obtain ⟨a11,c11,rfl,_⟩:=id h11; kernel_rfl
 obtain ⟨T12,hI,G12,hS⟩:=Inv.pub1 (A:=[rdI br sl (p+1)]) hI
 have F12:=F11.trans G12
 have L11:=G12.1
 have L10:=G11.1.trans L11
 have L9:=G10.1.trans L10
 have L8:=G9.1.trans L9
 have L7:=G8.1.trans L8
 have L6:=G7.1.trans L7
 have L5:=G6.1.trans L6
 have L4:=G5.1.trans L5
 have L3:=G4.1.trans L4
 have L2:=G3.1.trans L3
 have L1:=G2.1.trans L2
 have hsel:∃ v l,(#[v1,v2,v3,v4,v5,v6,v7,v8,v9,v10,v11]:Array Value)[0+k * 1]?=some v/\RdSl T12 1 mS v l/\0<l.length/\l.all Ox=true:=by
  have hk:k<11:=by omega
  match k,hk with
  | 0,_=>exact ⟨v1,_,rfl,h1.monoS L1,by decide,by decide +kernel⟩
  | 1,_=>exact ⟨v2,_,rfl,h2.monoS L2,by decide,by decide +kernel⟩
  | 2,_=>exact ⟨v3,_,rfl,h3.monoS L3,by decide,by decide +kernel⟩
  | 3,_=>exact ⟨v4,_,rfl,h4.monoS L4,by decide,by decide +kernel⟩
  | 4,_=>exact ⟨v5,_,rfl,h5.monoS L5,by decide,by decide +kernel⟩
  | 5,_=>exact ⟨v6,_,rfl,h6.monoS L6,by decide,by decide +kernel⟩
  | 6,_=>exact ⟨v7,_,rfl,h7.monoS L7,by decide,by decide +kernel⟩
  | 7,_=>exact ⟨v8,_,rfl,h8.monoS L8,by decide,by decide +kernel⟩
  | 8,_=>exact ⟨v9,_,rfl,h9.monoS L9,by decide,by decide +kernel⟩
  | 9,_=>exact ⟨v10,_,rfl,h10.monoS L10,by decide,by decide +kernel⟩
  | 10,_=>exact ⟨v11,_,rfl,h11.monoS L11,by decide,by decide +kernel⟩
 obtain ⟨vk,lk,hcell,hlk,hlk0,hokq⟩:=hsel
 refine au (k:=1) Hu (by omega) ?_
 refine cz K9 ((hI.cellS hS).trans hcell) ?_
 refine Run.callL bO bN hI (cY (n:=5) (hrd.monoU F12.1) (by omega) (by omega)) rfl fun v' I' S3 w'=>?_
 rintro ⟨rfl,rfl,k5,hk5,rfl⟩ _ hI
 have hI:Inv w [br] [rdI br sl (p+2)] S3 w':=hI
 have hr:=hr.monoC (G1.1.trans L1)
 refine aY ?_
 refine aI (fun _=>?_) (fun _=>?_)
 ·refine Run.callL Gq FF hI (AG (hrd.monoU F12.1) (by omega)) rfl fun v' I' S4 w'=>?_
  rintro ⟨p3,hp3,rfl,q,hq,hlq⟩ hE4 hI
  exact ⟨_,_,S4,rfl,hI,F12.trans hE4,p3,by omega,rfl,_,_,ps,q,rfl,hr.monoC hE4.1,hps,h0,hpv,hq,hlq⟩
 ·refine aD hlk cg ?_
  refine Run.callL bO bN hI (cY (n:=lk.length) (hrd.monoU F12.1) (by omega) hlk0) rfl fun v' I' S3 w'=>?_
  rintro ⟨rfl,rfl,k6,hk6,rfl⟩ _ hI
  have hI:Inv w [br] [rdI br sl (p+3)] S3 w':=hI
  refine fy hI hlk cg aJ hk6 (fun cs hcs=>hcs) ?_
  rw [List.all_eq_true] at hokq
  refine Run.call0E o7 oY hI (lL (hokq _ (List.getElem_mem hk6))) fun v I' S4 w'=>?_
  rintro ⟨rfl,g,q,rfl,hg,hlq⟩ hE4 hI
  refine aj (v:=g) rfl ?_
  refine aj (v:=.bool true) rfl ?_
  exact ⟨_,_,S4,rfl,hI,F12.trans hE4,p+3,by omega,rfl,u,g,ps,q,rfl,hr.monoC hE4.1,hps,h0,hpv,hg,hlq⟩
end
end
section
open Go Go.RowKit
def RdO (S:ae) (cs:List Value):Option T->Prop
 | none=>cs=md
 | some t=>RdT S cs t
theorem RdO.length {S:ae} {cs:List Value}:∀ {x:Option T},RdO S cs x->cs.length=4
 | none,h=>by rw [h]; rfl
 | some _,h=>RdT.length h
theorem RdO.one {S:ae} {cs:List Value}:∀ {x:Option T},RdO S cs x->∀ u∈cs,u.oneCell'=true
 | none,h=>by rw [h]; simp [md,Value.oneCell']
 | some _,h=>RdT.one h
theorem RdO.mono {S S':ae} {cs:List Value} (hs:Sle S S'):∀ {x:Option T},RdO S cs x->RdO S' cs x
 | none,h=>h
 | some _,h=>RdT.mono hs h
theorem KnU.rdO {S:ae} {c:Array Value} {st:aC} (h:KnU S c st) (i:Nat) (hi:i<st.length):RdO S (aH c (i * 4) 4) st[i]:=by
 cases hs:st[i] with
 | none=>exact (h.2 i hi).1 hs
 | some t=>exact (h.2 i hi).2 t hs
theorem KnU.of {S:ae} {c:Array Value} {st:aC} (hs:st.length * 4<=c.size) (h:∀ i (hi:i<st.length),RdO S (aH c (i * 4) 4) st[i]):KnU S c st:=
 ⟨hs,fun i hi=>⟨fun e=>by have:=h i hi; rw [e] at this; exact this,fun t e=>by have:=h i hi; rw [e] at this; exact this⟩⟩
theorem KnU.rd {S S':ae} {c:Array Value} {st:aC} {b cap:Nat} {E:TypeId} {fz:Nat × Nat} (h:KnU S c st) (hS:S' b=some (.cells c E fz)) (h1:st.length<=cap) (h2:cap<=maxLen):RdSl S' 4 (RdO S) (.slice (some ⟨b,0,none⟩) st.length cap) st:=
 ⟨_,cap,rfl,h1,h2,.inr ⟨b,0,c,E,fz,rfl,hS,fun i hi=>by rw [Nat.zero_add]; exact h.rdO i hi⟩⟩
theorem Rows.knu {S:ae} {css:List (List Value)} {st:aC} {c:Array Value} (h:Rows 4 (RdO S) css st) (hs:st.length * 4<=c.size) (hc:c.toList.take (css.length * 4)=css.flatten):KnU S c st:=by
 refine KnU.of hs fun i hi=>?_
 have hcy:=h.hc
 have:=gY 4 css i h.hk (by omega)
 rw [<- hc,List.drop_take,List.take_take,Nat.min_eq_left (by omega)] at this
 rw [aH,this]
 exact h.hR i hi (by omega)
section
variable {w w0:World} {X:List Nat} {A:List Item} {S:ae}
theorem Inv.tab {v:Value} {e:TypeId} {css:List (List Value)} {S1:ae} {st:aC} (h:Inv w0 X (A++[aL v e 4 css]) S w) (hR:Rows 4 (RdO S1) css st) (h0:0<st.length) :
  ∃ g cap cur,v=kvU g st.length cap/\st.length<=cap/\cap<=maxLen/\KnU S1 cur st/\Inv w0 X (A++[.blk g (.cells cur e)]) S w:=by
 have hcy:=hR.hc
 obtain ⟨hl,ho⟩:=Inv.openRow h
 rcases ho with ⟨rfl,h1⟩|⟨g,cap,cur,rfl,hnc,hcm,hcs,ht,hI⟩
 ·omega
 ·rw [hcy] at hnc
  exact ⟨g,cap,cur,by rw [hcy],hnc,hcm,hR.knu (by rw [hcs]; exact Nat.mul_le_mul_right 4 hnc) ht,hI⟩
end
end
section
open Go Go.RowKit
def kI:List Int->Int->Int
 | [],m=>m
 | x::xs,m=>kI xs (if m<=x then x+1 else m)
def i0 (c:C):Int:=kI (de (c.head::c.body) []) 0
theorem xP:∀ (l:List Int) (m:Int),m<=kI l m/\∀ x∈l,x<kI l m
 | [],m=>⟨Int.le_refl _,fun _ h=>by cases h⟩
 | y::l,m=>by
  have hm:m<=(if m<=y then y+1 else m)/\y<(if m<=y then y+1 else m):=by split <;> omega
  rw [kI]
  generalize (if m<=y then y+1 else m)=m' at hm ⊢
  obtain ⟨h1,h2⟩:=xP l m'
  refine ⟨by omega,fun x hx=>?_⟩
  rcases List.mem_cons.1 hx with rfl|hx
  ·omega
  ·exact h2 x hx
theorem ES (N:Int):∀ (l:List Int) (m:Int),m<=N->(∀ x∈l,x<N)->kI l m<=N
 | [],m,h,_=>h
 | y::l,m,h,hx=>by
  rw [kI]
  refine ES N l _ ?_ fun x h=>hx x (List.mem_cons_of_mem _ h)
  have:=hx y (List.mem_cons_self ..)
  split <;> omega
section
attribute [local irreducible] Run CondV aB aS
theorem FN {ts:List T} {S:ae} {v:Value} (h:RdSl S 4 (RdT S) v ts) (hw:ts.length+wL ts<=1048577):Tri Tryz.prog K5 [v] [] S (HO S (de ts [])):=by
 intro w hI
 have hlen:=h.le
 simp only [maxLen] at hlen
 have hcl:=Gs ts
 refine yv.2 ?_
 dsimp only[yv,aO]
 refine dE hI lB fun v0 w' hI=>?_
 refine ⟨fun i t w'=>∃ (j:Nat) (l:List Int),j<=ts.length/\i=.int .i64 j/\de (ts.drop j) l=de ts []/\l.length+dc (ts.drop j)<=3000000/\Inv w [] [dZ t l] S w',
  fun i _ _=>ts.length - (intOf i).toNat,⟨0,[],Nat.zero_le _,rfl,rfl,by simp only [List.drop_zero,List.length_nil]; omega,hI⟩,?_⟩
 intro t4 _ _ t3 _ _ _ _ _ _ _ _ _ _ w'
 rintro ⟨j,l,hj,rfl,hvs,hl,hI⟩
 refine aD h af ?_
 refine bA ?_
 refine aI (fun hji=>?_) (fun hji=>?_)
 ·have hj':j<ts.length:=by omega
  rw [s6 ts j hj'] at hl
  rw [IM ts j hj'] at hvs
  have hc1:=dR (ts.drop (j+1))
  have hc2:=mU ts[j] l
  refine ch hI h af ac hj' (fun _ _=>RdT.length) fun cs' hcs'=>?_
  refine Run.call (A:=[]) jI jq hI (kj _ S cs' t3 l hcs' (by omega)) fun v' I' S' w'=>?_
  rintro ⟨rfl,rfl⟩ _ hI
  refine bn (by omega) ?_
  exact ⟨⟨j+1,_,hj',rfl,hvs,by omega,hI⟩,by simp [intOf]; omega⟩
 have:j=ts.length:=by omega
 subst this
 rw [List.drop_length,de] at hvs
 subst hvs
 exact ⟨_,_,_,rfl,hI,Ext.refl _ _ _,rfl,rfl⟩
theorem CO {c:C} {S:ae} {cs:List Value} (h:RdC S cs c) (hw:wC c<=1048576) (hx:∀ x∈de (c.head::c.body) [],0<=x/\x<1000000) :
  Pure Tryz.prog JB [.agg cs.toArray] S (.int .i64 (i0 c)):=by
 intro w hI
 obtain ⟨hd,ks,rfl,h1,h2⟩:=h
 have h1':=h1
 obtain ⟨kv,rfl,g1,g2,g3,g4⟩:=RdT.iff.1 h1
 have hlen:=h2.le
 simp only [maxLen] at hlen
 unfold wC at hw
 refine uj.2 ?_
 dsimp only[uj,aO]
 refine be hI fun b1 w' hI=>?_
 refine ai co ?_
 refine b0 hI 0 [.int .i64 c.head.kind,.int .i64 c.head.n,.string c.head.name,kv] ac rfl rfl H2 ?_
 refine dQ hI bm (by simp [Value.cells]) (by omega) (by omega) fun b7 w' hI=>?_
 refine ad hI 0 rfl bi ag rfl ?_
 have hI:=Inv.closeRow (A:=[_]) (cap:=1) (k:=4) (n:=1) hI (by omega) (by simp [maxLen]) (by simp [Value.cells])
 refine ed hI 1 (css:=[[.int .i64 c.head.kind,.int .i64 c.head.n,.string c.head.name,kv]]) bm (by omega) rfl h2 (fun _ _=>RdT.length) (fun _ _=>RdT.one) (by simp; omega) (by omega) fun v' w' css2 hR hI=>?_
 have hR:=(Rows.one h1' h1'.length).append hR
 obtain ⟨S1,hle1,hrd,hI,_⟩:=Inv.lend (A:=[_]) hI
 have hts:RdSl S1 4 (RdT S1) v' (c.head::c.body):=(RowRd.rows hR hrd).mono (Sle.refl _) fun _ _ h=>h.mono hle1
 refine Run.call0 IE Iw hI (FN hts (by simp only [wL,List.length_cons]; omega)) fun v11 I' S' w'=>?_
 rintro ⟨rfl,rfl⟩ _ hI
 rw [i0]
 generalize de (c.head::c.body) []=vs at hI hx ⊢
 obtain ⟨S2,hle2,hrd,hI,_⟩:=Inv.lend (A:=[_]) hI
 have hrd:=hrd.ints
 have hvl:=hrd.le
 simp only [maxLen] at hvl
 refine ⟨fun i t w'=>∃ (j:Nat) (m:Int),j<=vs.length/\i=.int .i64 j/\t=.int .i64 m/\kI (vs.drop j) m=kI vs 0/\Inv w [] [.blk b1 (.cells #[.int .i64 c.head.kind,.int .i64 c.head.n,.string c.head.name,kv,ks] av)] S2 w',
  fun i _ _=>vs.length - (intOf i).toNat,⟨0,0,Nat.zero_le _,rfl,rfl,rfl,hI⟩,?_⟩
 intro t5 _ _ t4 _ _ _ _ _ _ _ _ _ _ _ _ _ _ _ w'
 rintro ⟨j,m,hj,rfl,rfl,hvs,hI⟩
 refine aD hrd cQ ?_
 refine bA ?_
 refine aI (fun hji=>?_) (fun hji=>?_)
 ·have hj':j<vs.length:=by omega
  obtain ⟨hx0,hx1⟩:=hx _ (List.getElem_mem hj')
  rw [List.drop_eq_getElem_cons hj',kI] at hvs
  refine ⟨fun t w'=>t=.int .i64 (if m<=vs[j] then vs[j]+1 else m)/\Inv w [] [.blk b1 (.cells #[.int .i64 c.head.kind,.int .i64 c.head.n,.string c.head.name,kv,ks] av)] S2 w',?_,?_⟩
  ·refine fy hI hrd cQ aw hj' (fun cs hcs=>hcs) ?_
   refine fY ?_
   refine aI (fun he=>?_) (fun he=>?_)
   ·refine fy hI hrd cQ aw hj' (fun cs hcs=>hcs) ?_
    refine bn (by omega) ?_
    exact ⟨by rw [if_pos (by omega)],hI⟩
   ·exact ⟨by rw [if_neg (by omega)],hI⟩
  intro t4' _ _ _ _ _ _ _ _ _ _ _ w'
  rintro ⟨rfl,hI⟩
  refine bn (by omega) ?_
  exact ⟨⟨j+1,_,hj',rfl,rfl,hvs,hI⟩,by simp [intOf]; omega⟩
 have:j=vs.length:=by omega
 subst this
 rw [List.drop_length,kI] at hvs
 subst hvs
 exact ⟨rfl,((hI.less hle2).less hle1).pick [false]⟩
end
end
section
open Go Go.RowKit
def RdG (S:ae) (cs:List Value) (g:T × Int):Prop:=∃ hd,cs=hd++[.int .i64 g.2]/\RdT S hd g.1
theorem RdG.length {S:ae} {cs:List Value} {g:T × Int} (h:RdG S cs g):cs.length=5:=by
 obtain ⟨hd,rfl,h⟩:=h; simp [h.length]
theorem RdG.one {S:ae} {cs:List Value} {g:T × Int} (h:RdG S cs g):∀ u∈cs,u.oneCell'=true:=by
 obtain ⟨hd,rfl,h⟩:=h
 intro u hu
 rcases List.mem_append.1 hu with hu|hu
 ·exact h.one u hu
 ·rw [List.mem_singleton] at hu; subst hu; rfl
theorem RdG.mono {S S':ae} {cs:List Value} {g:T × Int} (hs:Sle S S') (h:RdG S cs g):RdG S' cs g:=by
 obtain ⟨hd,rfl,h⟩:=h; exact ⟨hd,rfl,h.mono hs⟩
theorem RdSl.monoG {S S':ae} {v:Value} {gs:List (T × Int)} (hs:Sle S S') (h:RdSl S 5 (RdG S) v gs):RdSl S' 5 (RdG S') v gs:=h.mono hs fun _ _=>RdG.mono hs
section
variable {w:World} {K:Value->World->Prop}
attribute [local irreducible] Run
theorem IQ {a b k:Int} {s:ByteArray} {x:Value} (hk:K (.agg #[.int .i64 a,.int .i64 b,.string s,x,.int .i64 k]) w) :
  Run Tryz.prog (bW i6 [(0,.agg #[.int .i64 a,.int .i64 b,.string s,x]),(1,.int .i64 k)]) w K:=by
 refine Run.of (v:=.agg #[.int .i64 a,.int .i64 b,.string s,x,.int .i64 k]) (w':=w) ?_ hk
 unfold bW
 rw [Sem.run_bind,run_build w i6 _ #[.int .i64 a,.int .i64 b,.string s,x,.int .i64 k] (by kernel_rfl),Result.andThen_ok]
 rfl
end
section
attribute [local irreducible] Run CondV aB aS
abbrev Oe (gs:List (T × Int)):Value->List Item->ae->Prop:=fun q I' S'=>I'=[]/\RdSl S' 5 (RdG S') q gs
theorem sn {N:Nat} (hN:N<=1000000) (m:Int) (hm0:0<=m) (hm1:m<=1000000) (k:Int) {ts:List T} {rest:List (T × Int)} {S:ae} {v vr:Value} (h:RdSl S 4 (RdT S) v ts) (hr:RdSl S 5 (RdG S) vr rest)
  (ho:∀ t∈ts,okU N t/\wT t<=1048576) (hl:ts.length<=1000000) (hlr:rest.length<=1000000000) :
  Tri Tryz.prog y9 [v,.int .i64 m,.int .i64 k,vr] [] S (Oe (ts.map (fun t=>(cH m t,k))++rest)):=by
 intro w hI
 refine uE.2 ?_
 dsimp only[uE,sK]
 refine dE hI pM fun v0 w' hI=>?_
 refine ⟨fun i t w'=>∃ (j:Nat) (css:List (List Value)) (S1:ae),j<=ts.length/\i=.int .i64 j/\Ext w.heap.size [] S S1/\Rows 5 (RdG S1) css ((ts.take j).map (fun t=>(cH m t,k)))/\Inv w [] [aL t i6 5 css] S1 w',
  fun i _ _=>ts.length - (intOf i).toNat,⟨0,[],S,Nat.zero_le _,rfl,Ext.refl _ _ _,Rows.nil _ _,hI⟩,?_⟩
 intro t10 _ _ t9 _ _ _ _ _ _ _ _ _ _ _ _ _ _ _ w'
 rintro ⟨j,css,S1,hj,rfl,hE,hR,hI⟩
 have hcl:=hR.hc
 rw [List.length_map,List.length_take,Nat.min_eq_left hj] at hcl
 refine aD h af ?_
 refine bA ?_
 refine aI (fun hji=>?_) (fun hji=>?_)
 ·have hj':j<ts.length:=by omega
  obtain ⟨ho1,ho2⟩:=ho _ (List.getElem_mem hj')
  refine ch hI (h.monoT hE.1) af ac hj' (fun _ _=>RdT.length) fun cs hcs=>?_
  refine Run.call0E oy oq hI (sw hN m hm0 hm1 _ S1 cs hcs ho1 ho2) fun v' I' S' w'=>?_
  rintro ⟨eS,cs',L,rfl,rfl,hT⟩ _ hI
  rw [eS] at hI
  obtain ⟨S2,hI,hE2,hins⟩:=hI.pubExt
  have hrd:=hT.rd hins
  have hrd0:=hrd
  obtain ⟨kv,rfl,_⟩:=RdT.iff.1 hrd
  refine IQ ?_
  have hG:RdG S2 [.int .i64 (cH m ts[j]).kind,.int .i64 (cH m ts[j]).n,.string (cH m ts[j]).name,kv,.int .i64 k] (cH m ts[j],k):=⟨_,rfl,hrd0⟩
  refine dM hI 0 [.int .i64 (cH m ts[j]).kind,.int .i64 (cH m ts[j]).n,.string (cH m ts[j]).name,kv,.int .i64 k] pM (by omega) (by omega) rfl rfl hG.one (by omega) (by omega) fun v' w' hI=>?_
  refine bn (by omega) ?_
  refine ⟨⟨j+1,_,S2,hj',rfl,hE.trans hE2,?_,hI⟩,by simp [intOf]; omega⟩
  rw [List.take_succ_eq_append_getElem hj',List.map_append]
  exact (hR.monoR fun _ _ h=>h.mono hE2.1).snoc hG rfl
 have:j=ts.length:=by omega
 subst this
 rw [List.take_length] at hR
 refine ed hI 0 (css:=css) pM (by omega) rfl (hr.monoG hE.1) (fun _ _=>RdG.length) (fun _ _=>RdG.one) (by omega) (by omega) fun v' w' css2 hR2 hI=>?_
 obtain ⟨S3,hE3,hrd,hI⟩:=Inv.lendExt (A:=[]) hI
 exact ⟨_,_,_,rfl,hI,hE.trans hE3,rfl,RowRd.rows ((hR.append hR2).monoR fun _ _ h=>h.mono hE3.1) hrd⟩
end
end
section
open Go Go.RowKit

def KnownM (S:ae) (es:Array MapEntry) (st:aC):Prop:=
 (∀ e∈es.toList,∃ (n:Nat) (t:T) (cs:List Value),e.key=.int .i64 n/\e.val=.agg cs.toArray/\RdT S cs t/\st[n]?=some (some t))/\(∀ (n:Nat) (t:T),st[n]?=some (some t)->∃ e∈es.toList,e.key=.int .i64 n)/\(es.toList.map (·.key)).Nodup
theorem KnownM.find {S:ae} {es:Array MapEntry} {st:aC} (h:KnownM S es st) (n:Nat) :
  (∃ j v t cs,Instr.findNow (.int .i64) (.int .i64 n) es.toList 0=some (some (j,v))/\v=.agg cs.toArray/\RdT S cs t/\st[n]?=some (some t)) ∨
  ((∀ t,st[n]?≠some (some t))/\Instr.findNow (.int .i64) (.int .i64 n) es.toList 0=some none):=by
 rcases pl (n:=n) es.toList 0 (fun e he=>by obtain ⟨m,_,_,hk,_⟩:=h.1 e he; exact ⟨m,hk⟩) with ⟨j,e,he,hk,hf⟩|⟨hk,hf⟩
 ·obtain ⟨m,t,cs,hk2,hv,hR,hs⟩:=h.1 e he
  rw [hk] at hk2
  simp only [Value.int.injEq,true_and] at hk2
  have:n=m:=by omega
  subst this
  exact .inl ⟨j,e.val,t,cs,hf,hv,hR,hs⟩
 ·refine .inr ⟨fun t ht=>?_,hf⟩
  obtain ⟨e,he,hk2⟩:=h.2.1 n t ht
  exact hk e he hk2
theorem KnownM.push {S:ae} {es:Array MapEntry} {st:aC} (h:KnownM S es st) {n:Nat} (hn:n<st.length) (hno:∀ t,st[n]?≠some (some t)) {cs:List Value} {u:T} (hu:RdT S cs u) (ck:Nat) :
  KnownM S (es.push { key:=.int .i64 n,val:=.agg cs.toArray,born:=ck }) (st.set n (some u)):=by
 refine ⟨fun e he=>?_,fun m t ht=>?_,?_⟩
 ·rw [Array.toList_push] at he
  rcases List.mem_append.1 he with he|he
  ·obtain ⟨m,t,cs',hk,hv,hR,hs⟩:=h.1 e he
   refine ⟨m,t,cs',hk,hv,hR,?_⟩
   have:n≠m:=fun e=>hno t (by rw [e]; exact hs)
   rw [List.getElem?_set_ne this]
   exact hs
  ·simp at he
   subst he
   exact ⟨n,u,cs,rfl,rfl,hu,by rw [List.getElem?_set_self hn]⟩
 ·rw [Array.toList_push]
  by_cases e:n=m
  ·exact ⟨_,List.mem_append_right _ (List.mem_singleton.2 rfl),by rw [e]⟩
  ·rw [List.getElem?_set_ne e] at ht
   obtain ⟨x,hx,hk⟩:=h.2.1 m t ht
   exact ⟨x,List.mem_append_left _ hx,hk⟩
 ·rw [Array.toList_push,List.map_append,List.nodup_append]
  refine ⟨h.2.2,by simp,fun a ha b hb e=>?_⟩
  simp only [List.map_cons,List.map_nil,List.mem_singleton] at hb
  subst hb
  obtain ⟨x,hx,rfl⟩:=List.mem_map.1 ha
  obtain ⟨m,t,cs',hk,_,_,hs⟩:=h.1 x hx
  rw [hk] at e
  simp only [Value.int.injEq,true_and] at e
  have:m=n:=by omega
  subst this
  exact hno t hs
theorem EL (t u:T):ic t u=ic u t:=by
 rw [ic,ic,Bool.eq_iff_iff]
 simp only [Bool.and_eq_true,decide_eq_true_eq]
 constructor
 ·rintro ⟨a,b,c,d⟩; exact ⟨a.symm,b.symm,c.symm,d.symm⟩
 ·rintro ⟨a,b,c,d⟩; exact ⟨a.symm,b.symm,c.symm,d.symm⟩
section
attribute [local irreducible] Run CondV aB aS
theorem ld:∀ (t u:T) (S:ae) (cs ds:List Value) (mb ck:Nat) (es:Array MapEntry) (st:aC),RdT S cs t->RdT S ds u->okV t->okK u->xy st->KnownM S es st->
  Tri Tryz.prog GX [.agg ds.toArray,.agg cs.toArray,.map (some mb)] [.blk mb (.map es ck)] S fun r I' S'=>S'=S/\r=.bool (bL t u st).1/\∃ es' ck',I'=[.blk mb (.map es' ck')]/\KnownM S es' (bL t u st).2:=by
 refine T.ind fun k' n' s' ks' ih u S cs ds mb ck es st h' h hv hu hst hkc=>?_
 intro w hI
 have hds:=h
 obtain ⟨kv',rfl,_,_,_,hks'⟩:=RdT.iff.1 h'
 obtain ⟨kv,rfl,_,_,_,hks⟩:=RdT.iff.1 h
 obtain ⟨k,n,s,ks⟩:=u
 simp only [T.name,T.kids,T.kind,T.n] at hks hks' ⊢
 have hlen:=hks'.le
 simp only [maxLen] at hlen
 rw [okV] at hv
 obtain ⟨hv1,hv2⟩:=hv
 have huk:=hu
 rw [okK] at hu
 obtain ⟨X,hX⟩:∃ X,X=bE [Item.blk mb (.map es ck)]:=⟨_,rfl⟩
 rw [<- hX] at hI ⊢
 refine r5.2 ?_
 dsimp only[r5,cX]
 refine be hI fun b1 w' hI=>?_
 refine be hI fun b2 w' hI=>?_
 have hI:Inv w X [.blk b1 (.cells #[.int .i64 k,.int .i64 n,.string s,kv] ab),.blk b2 (.cells #[.int .i64 k',.int .i64 n',.string s',kv'] ab),.blk mb (.map es ck)] S w':=hI.perm (by
  refine (List.perm_append_comm (l₁:=[_,_]) (l₂:=[_])).trans ?_
  exact List.Perm.refl _)
 refine ad hI 1 rfl aE aw rfl ?_
 refine aY ?_
 refine aI (fun hk1=>?_) (fun hk1=>?_)
 ·obtain ⟨hn0,hn25⟩:=hv1 hk1
  obtain ⟨j,rfl⟩:∃ j:Nat,n'=j:=⟨n'.toNat,by omega⟩
  have hj:j<26:=by omega
  have hjs:j<st.length:=by rw [hst.1]; exact hj
  refine ad hI 1 rfl aK aw rfl ?_
  rcases hkc.find j with ⟨q,v,t0,cs0,hf,rfl,hR,hst2⟩|⟨hno,hf⟩
  ·refine HE (v:=.agg cs0.toArray) (ok:=true) hI 2 dO eW aP rfl (.inl ⟨q,hf,rfl⟩) ?_
   refine aj rfl ?_
   refine aj rfl ?_
   have hlc:=hR.length
   refine aG hI aP fun b7 w' hI=>?_
   refine ao hI 3 rfl ac (by simpa using hlc) rfl (by simpa using hR.one) fun w' hI=>?_
   refine bM ?_
   refine az (fun hb=>by cases hb) (fun _=>?_)
   refine aq hI 3 ac rfl (by simpa using hlc) ?_
   refine aq hI 0 ac rfl rfl ?_
   refine Run.callPure mz mC hI (mL t0 _ S _ _ hR hds) fun w' hI=>?_
   have hm:bL (.mk k' j s' ks') (.mk k n s ks) st=(eqT t0 (.mk k n s ks),st):=by
    rw [bL,if_pos hk1,Int.toNat_natCast,hst2]
   rw [hm]
   exact ⟨_,_,_,rfl,hI.pick [false,false,true,false],Ext.refl _ _ _,rfl,rfl,_,_,rfl,hkc⟩
  ·refine HE (ok:=false) hI 2 dO eW aP rfl (.inr ⟨hf,rfl,rfl⟩) ?_
   refine aj rfl ?_
   refine aj rfl ?_
   refine aG hI aP fun b7 w' hI=>?_
   refine ao hI 3 rfl ac rfl rfl (by simp [Value.oneCell']) fun w' hI=>?_
   refine bM ?_
   refine az (fun _=>?_) (fun hb=>by cases hb)
   refine ad hI 1 rfl aK aw rfl ?_
   refine aq hI 0 ac rfl rfl ?_
   refine AA hI 2 dO eW rfl hf fun w' hI=>?_
   have hm:bL (.mk k' j s' ks') (.mk k n s ks) st=(true,st.set j (some (.mk k n s ks))):=by
    rw [bL,if_pos hk1,Int.toNat_natCast,List.getElem?_eq_getElem hjs]
    cases hq:st[j] with
    | none=>rfl
    | some t=>exact absurd (by rw [List.getElem?_eq_getElem hjs,hq]) (hno t)
   rw [hm]
   exact ⟨_,_,_,rfl,hI.pick [false,false,true,false],Ext.refl _ _ _,rfl,rfl,_,_,rfl,hkc.push hjs hno hds ck⟩
 refine ⟨fun q w'=>q=.bool (!ic (.mk k n s ks) (.mk k' n' s' ks'))/\Inv w X [.blk b1 (.cells #[.int .i64 k,.int .i64 n,.string s,kv] ab),.blk b2 (.cells #[.int .i64 k',.int .i64 n',.string s',kv'] ab),.blk mb (.map es ck)] S w',?_,?_⟩
 ·refine ad hI 0 rfl aE aw rfl ?_
  refine ad hI 1 rfl aE aw rfl ?_
  refine cE ?_
  by_cases e1:k=k'
  ·rw [decide_eq_true e1]
   refine rpG ?_
   refine ad hI 0 rfl aK aw rfl ?_
   refine ad hI 1 rfl aK aw rfl ?_
   refine cE ?_
   by_cases e2:n=n'
   ·rw [decide_eq_true e2]
    refine rpG ?_
    refine ad hI 0 rfl aM aJ rfl ?_
    refine ad hI 1 rfl aM aJ rfl ?_
    refine xF ?_
    by_cases e3:s=s'
    ·rw [decide_eq_true e3]
     refine rpG ?_
     refine ad hI 0 rfl al ag rfl ?_
     refine aD hks af ?_
     refine ad hI 1 rfl al ag rfl ?_
     refine aD hks' af ?_
     refine cE ?_
     refine rpG ?_
     exact ⟨by rw [dx,decide_eq_true e1,decide_eq_true e2,decide_eq_true e3,HJ]; rfl,hI⟩
    ·rw [decide_eq_false e3]
     refine rpG ?_
     exact ⟨by rw [dx,decide_eq_true e1,decide_eq_true e2,decide_eq_false e3]; rfl,hI⟩
   ·rw [decide_eq_false e2]
    refine rpG ?_
    exact ⟨by rw [dx,decide_eq_true e1,decide_eq_false e2]; rfl,hI⟩
  ·rw [decide_eq_false e1]
   refine rpG ?_
   exact ⟨by rw [dx,decide_eq_false e1]; rfl,hI⟩

 intro q _ _ _ _ _ _ _ _ _ _ _ _ _ _ _ _ _ _ _ _ _ _ _ _ _ _ _ w'
 rintro ⟨rfl,hI⟩
 cases hd:ic (.mk k n s ks) (.mk k' n' s' ks')
 ·refine az (fun _=>?_) (fun hb=>by cases hb)
  have hm:bL (.mk k' n' s' ks') (.mk k n s ks) st=(false,st):=by rw [bL,if_neg hk1,if_neg (by rw [EL,hd]; decide)]
  rw [hm]
  exact ⟨_,_,_,rfl,hI.pick [false,false,true],Ext.refl _ _ _,rfl,rfl,_,_,rfl,hkc⟩
 refine az (fun hb=>by cases hb) (fun _=>?_)
 have hle:ks.length=ks'.length:=by
  rw [dx] at hd
  simp only [Bool.and_eq_true,decide_eq_true_eq] at hd
  exact hd.2.2.2
 have hm:bL (.mk k' n' s' ks') (.mk k n s ks) st=dS ks' ks st:=by rw [bL,if_neg hk1,if_pos (by rw [EL,hd])]; rfl
 rw [hm]
 have hu2:=hu.2
 refine ad hI 1 rfl al ag rfl ?_
 refine aD hks' af ?_
 refine ⟨fun i w'=>∃ (j:Nat) (st':aC) (es':Array MapEntry) (ck':Nat),j<=ks'.length/\i=.int .i64 j/\dS (ks'.drop j) (ks.drop j) st'=dS ks' ks st/\xy st'/\KnownM S es' st'/\Inv w X [.blk b1 (.cells #[.int .i64 k,.int .i64 n,.string s,kv] ab),.blk b2 (.cells #[.int .i64 k',.int .i64 n',.string s',kv'] ab),.blk mb (.map es' ck')] S w',fun i _=>ks'.length - (intOf i).toNat,⟨0,st,es,ck,Nat.zero_le _,rfl,rfl,hst,hkc,hI⟩,?_⟩
 intro t60 _ _ _ _ _ _ _ _ _ _ _ _ _ _ _ _ _ _ w'
 rintro ⟨j,st',es',ck',hj,rfl,hrel,hst',hkc',hI⟩
 refine bA ?_
 refine aI (fun hji=>?_) (fun hji=>?_)
 ·have hj2:j<ks'.length:=by omega
  have hj1:j<ks.length:=by omega
  obtain ⟨c1,o1,cap1,a1,E1,fz1,rfl,hS1,hR1⟩:=hks.at_ hj1
  obtain ⟨c2,o2,cap2,a2,E2,fz2,rfl,hS2,hR2⟩:=hks'.at_ hj2
  rw [yd ks' ks st' j hj2 hj1] at hrel
  have hcall:=ih _ (List.getElem_mem hj2) ks[j] S _ _ mb ck' es' st' hR2 hR1 (nD hv2 _ (List.getElem_mem hj2)) (qg hu2 _ (List.getElem_mem hj1)) hst' hkc'
  have hsn:=jx ks'[j] ks[j] st' hst' (qg hu2 _ (List.getElem_mem hj1))
  generalize hr:bL ks'[j] ks[j] st'=r at hrel hcall hsn
  refine ⟨fun D As Ad Bt AH Bw Ag Aq Eh LV KR Aw Co tH w_=>Fx D 0 [tH=.pointer (some ⟨b1,3,none⟩),Co=.slice (some ⟨c1,o1,none⟩) ks.length cap1,Aw=.int .i64 j,KR=.pointer (some ⟨c1,o1+j * 4,none⟩),LV=.agg (aH a1 (o1+j * 4) 4).toArray,Eh=.pointer (some ⟨b2,3,none⟩),Aq=.slice (some ⟨c2,o2,none⟩) ks'.length cap2,Ag=.int .i64 j,Bw=.pointer (some ⟨c2,o2+j * 4,none⟩),AH=.agg (aH a2 (o2+j * 4) 4).toArray,Bt=.map (some mb),Ad=.bool r.1,As=.bool (!r.1)]/\(D 11=false->Inv w X [.blk b1 (.cells #[.int .i64 k,.int .i64 n,.string s,.slice (some ⟨c1,o1,none⟩) ks.length cap1] ab),.blk b2 (.cells #[.int .i64 k',.int .i64 n',.string s',.slice (some ⟨c2,o2,none⟩) ks'.length cap2] ab),.blk mb (.map es' ck')] S w_)/\(D 11=true->∃ es2 ck2,KnownM S es2 r.2/\Inv w X [.blk b1 (.cells #[.int .i64 k,.int .i64 n,.string s,.slice (some ⟨c1,o1,none⟩) ks.length cap1] ab),.blk b2 (.cells #[.int .i64 k',.int .i64 n',.string s',.slice (some ⟨c2,o2,none⟩) ks'.length cap2] ab),.blk mb (.map es2 ck2)] S w_)/\∃ es3 ck3,Inv w X [.blk b1 (.cells #[.int .i64 k,.int .i64 n,.string s,.slice (some ⟨c1,o1,none⟩) ks.length cap1] ab),.blk b2 (.cells #[.int .i64 k',.int .i64 n',.string s',.slice (some ⟨c2,o2,none⟩) ks'.length cap2] ab),.blk mb (.map es3 ck3)] S w_,⟨Fx.nil _ _,⟨fun _=>hI.draw,aU,es',ck',hI.draw⟩⟩,⟨?_,?_,?_,?_,?_,?_,?_,?_,?_,?_,?_,?_,?_,trivial⟩,?_⟩
  all_goals (intro D bo; intros; rename_i As Ad Bt AH Bw Ag Aq Eh LV KR Aw Co tH w_ hA_; have hF_:=hA_.1; obtain ⟨⟨bU,bV,bH,bR,bZ,bI,bB,ct,cF,cK,bG,bX,cI,_⟩,⟨hI0,hI1,es3,ck3,hI⟩⟩:=hA_)
  ·refine ai al ?_
   exact ⟨hF_.set 0 rfl,⟨hI0,hI1,es3,ck3,hI⟩⟩
  ·obtain rfl:=bU ‹_›
   refine aA hI 0 ag rfl rfl ?_
   exact ⟨hF_.set 1 rfl,⟨hI0,hI1,es3,ck3,hI⟩⟩
  ·exact ⟨hF_.set 2 rfl,⟨hI0,hI1,es3,ck3,hI⟩⟩
  ·obtain rfl:=bV ‹_›
   obtain rfl:=bH ‹_›
   refine au af hj1 ?_
   exact ⟨hF_.set 3 rfl,⟨hI0,hI1,es3,ck3,hI⟩⟩
  ·obtain rfl:=bR ‹_›
   refine bw ac hR1.length (fun j v hj=>by rw [hI.cellS hS1]; exact ar rfl j v hj) ?_
   exact ⟨hF_.set 4 rfl,⟨hI0,hI1,es3,ck3,hI⟩⟩
  ·refine ai al ?_
   exact ⟨hF_.set 5 rfl,⟨hI0,hI1,es3,ck3,hI⟩⟩
  ·obtain rfl:=bI ‹_›
   refine aA hI 1 ag rfl rfl ?_
   exact ⟨hF_.set 6 rfl,⟨hI0,hI1,es3,ck3,hI⟩⟩
  ·exact ⟨hF_.set 7 rfl,⟨hI0,hI1,es3,ck3,hI⟩⟩
  ·obtain rfl:=bB ‹_›
   obtain rfl:=ct ‹_›
   refine au af hj2 ?_
   exact ⟨hF_.set 8 rfl,⟨hI0,hI1,es3,ck3,hI⟩⟩
  ·obtain rfl:=cF ‹_›
   refine bw ac hR2.length (fun j v hj=>by rw [hI.cellS hS2]; exact ar rfl j v hj) ?_
   exact ⟨hF_.set 9 rfl,⟨hI0,hI1,es3,ck3,hI⟩⟩
  ·exact ⟨hF_.set 10 rfl,⟨hI0,hI1,es3,ck3,hI⟩⟩
  ·obtain rfl:=bZ ‹_›
   obtain rfl:=cK ‹_›
   obtain rfl:=bG ‹_›
   refine Run.call (A:=[_,_]) ji i8 (hI0 bo) hcall fun v' I' S w_=>?_
   rintro ⟨rfl,rfl,es2,ck2,rfl,hk2⟩ _ hI
   have hI0:=fun (h:aF D 11 11=false)=>(Bool.noConfusion h:Inv w X [.blk b1 (.cells #[.int .i64 k,.int .i64 n,.string s,.slice (some ⟨c1,o1,none⟩) ks.length cap1] ab),.blk b2 (.cells #[.int .i64 k',.int .i64 n',.string s',.slice (some ⟨c2,o2,none⟩) ks'.length cap2] ab),.blk mb (.map es' ck')] S w_)
   have hI1:=fun (_:aF D 11 11=true)=>(⟨es2,ck2,hk2,hI⟩:∃ es2 ck2,KnownM S es2 r.2/\Inv w X [.blk b1 (.cells #[.int .i64 k,.int .i64 n,.string s,.slice (some ⟨c1,o1,none⟩) ks.length cap1] ab),.blk b2 (.cells #[.int .i64 k',.int .i64 n',.string s',.slice (some ⟨c2,o2,none⟩) ks'.length cap2] ab),.blk mb (.map es2 ck2)] S w_)
   obtain ⟨es3,ck3,hI⟩:∃ es3 ck3,Inv w X [.blk b1 (.cells #[.int .i64 k,.int .i64 n,.string s,.slice (some ⟨c1,o1,none⟩) ks.length cap1] ab),.blk b2 (.cells #[.int .i64 k',.int .i64 n',.string s',.slice (some ⟨c2,o2,none⟩) ks'.length cap2] ab),.blk mb (.map es3 ck3)] S w_:=⟨es2,ck2,hI⟩
   exact ⟨hF_.set 11 rfl,⟨hI0,hI1,es3,ck3,hI⟩⟩
  ·obtain rfl:=bX ‹_›
   refine bM ?_
   exact ⟨hF_.set 12 rfl,⟨hI0,hI1,es3,ck3,hI⟩⟩
  obtain ⟨rfl,rfl,rfl,rfl,rfl,rfl,rfl,rfl,rfl,rfl,rfl,rfl,rfl,_⟩:=hF_.all
  have jP:D 11=true:=by assumption
  clear hF_ bU bV bH bR bZ bI bB ct cF cK bG bX cI
  obtain ⟨es2,ck2,hk2,hI⟩:=hI1 jP
  clear hI0 hI1
  refine az (fun hne=>?_) (fun he'=>?_)
  ·simp only [Bool.not_eq_true'] at hne
   rw [hne,if_neg (by decide)] at hrel
   rw [<- hrel]
   exact ⟨_,_,_,rfl,hI.pick [false,false,true],Ext.refl _ _ _,rfl,rfl,_,_,rfl,hk2⟩
  ·simp only [Bool.not_eq_false'] at he'
   rw [he',if_pos rfl] at hrel
   refine bn (by omega) ?_
   exact ⟨⟨j+1,r.2,es2,ck2,hj2,rfl,hrel,hsn,hk2,hI⟩,by simp [intOf]; omega⟩
 ·have:j=ks'.length:=by omega
  subst this
  rw [List.drop_length,<- hle,List.drop_length] at hrel
  rw [<- hrel]
  exact ⟨_,_,_,rfl,hI.pick [false,false,true],Ext.refl _ _ _,rfl,rfl,_,_,rfl,hkc'⟩
end
end
section
open Go Go.RowKit

def st0:aC:=List.replicate 26 none
theorem Fh:xy st0:=⟨by simp [st0],fun t ht=>by simp [st0] at ht⟩
theorem KnownM.empty (S:ae):KnownM S #[] st0:=by
 refine ⟨by simp,fun n t ht=>?_,by simp⟩
 rw [st0,List.getElem?_replicate] at ht
 split at ht <;> cases ht
theorem LR:∀ {ts:List T},(∀ t∈ts,okV t)->qI ts
 | [],_=>by simp [qI]
 | t::ts,h=>by rw [qI]; exact ⟨h t (List.mem_cons_self ..),LR fun u hu=>h u (List.mem_cons_of_mem _ hu)⟩
theorem LK:∀ {ts:List T},(∀ t∈ts,okK t)->z8 ts
 | [],_=>by simp [z8]
 | t::ts,h=>by rw [z8]; exact ⟨h t (List.mem_cons_self ..),LK fun u hu=>h u (List.mem_cons_of_mem _ hu)⟩
theorem rf {c:C} (h:ce c=true):(okV c.head/\okK c.head)/\qI c.body/\z8 c.body:=by
 rw [ce] at h
 simp only [Bool.and_eq_true,List.all_eq_true] at h
 obtain ⟨_,h2,h3,_⟩:=h
 have hb:∀ t∈c.body,okV t/\okK t:=fun t ht=>by
  have:=h2 t ht
  rw [ef,Bool.and_eq_true] at this
  exact iy this.1
 exact ⟨iy h3,LR fun t ht=>(hb t ht).1,LK fun t ht=>(hb t ht).2⟩
theorem PS (z:Array Value) (hz:z=#[.int .i64 0,.int .i64 0,.string ⟨#[]⟩,.slice none 0 0]) (S:ae):KnownC S ((Array.range 104).map (z[· % z.size]!)) st0:=by
 subst hz
 refine ⟨by simp,fun i hi=>⟨fun _=>?_,fun t ht=>?_⟩⟩
 ·simp only [st0,List.length_replicate] at hi
  apply List.ext_getElem?
  intro j
  rw [aH,List.getElem?_take]
  match j with
  | 0|1|2|3=>
   rw [if_pos (by omega),List.getElem?_drop,Array.getElem?_toList,Array.getElem?_map,Array.getElem?_range,if_pos (by omega)]
   simp only [Option.map_some,List.size_toArray,List.length_cons,List.length_nil]
   first
    | rw [show (i * 4+0) % 4=0 by omega]; rfl
    | rw [show (i * 4+1) % 4=1 by omega]; rfl
    | rw [show (i * 4+2) % 4=2 by omega]; rfl
    | rw [show (i * 4+3) % 4=3 by omega]; rfl
  | j+4=>
   rw [if_neg (by omega)]
   rfl
 ·have e:st0[i]=none:=by simp only [st0,List.getElem_replicate]
  rw [e] at ht
  cases ht
section
variable {P:Program} {w w0:World} {X:List Nat} {L:List Item} {S:ae} {K:Value->World->Prop}
attribute [local irreducible] Run CondV aB aS
theorem nU (h:Inv w0 X L S w) {T ty e:TypeId} {k by_ n:Nat} {z:Value} (hT:fQ P T=some (e,k,by_,z)) (hn:n<=4294967296) (hby:by_<=65536) (hn0:n * k≠0)
  (hk:∀ b w',Inv w0 X (L++[.blk b (.cells ((Array.range (n * k)).map (z.cells[· % z.cells.size]!)) e)]) S w'->K (.slice (some ⟨b,0,none⟩) n n) w') :
  Run P (sOp (.makeSlice T (.const (.int .i64 n)) (.const (.int .i64 n))) ty) w K:=by
 obtain ⟨hu,i,hi,hz,hs,hb,hzs⟩:=iX hT
 have hw:IntKind.i64.wrap (n:Int)=n:=IntWalk.i64_in _ (by omega)
 have hle:by_ * n<=2 ^ 48:=Nat.le_trans (Nat.mul_le_mul hby hn) (by decide)
 have h1:¬ ((n:Int)<0):=by omega
 have h2:¬ (281474976710656<(i.bytes:Int) * (n:Int)):=by
  rw [hb]
  have:((by_ * n:Nat):Int)<=((2 ^ 48:Nat):Int):=by exact_mod_cast hle
  have e:(((2 ^ 48:Nat)):Int)=281474976710656:=by decide
  rw [e,Int.natCast_mul] at this
  omega
 refine Run.of (v:=.slice (some ⟨w.heap.size,0,none⟩) n n) (w':={ w with heap:=w.heap.push (.cells ((Array.range (n * k)).map (z.cells[· % z.cells.size]!)) e) }) ?_ (hk _ _ (h.alloc _))
 simp [sOp,execOp,ev0,evE,Instr.makeSlice,run_underlying hu,asInt,asIntOf,typeInfo,hi,hw,h1,h2,sizeOf,hs,newRow,newObj,Sem.run,hn0,zeroValue,hz]
end
section
attribute [local irreducible] Run CondV aB aS
end
end
section
open Go Go.RowKit

section
variable {P:Program} {w w0:World} {X:List Nat} {L:List Item} {S:ae} {K:Value->World->Prop}
attribute [local irreducible] Run CondV aB aS
end
section
attribute [local irreducible] Run CondV aB aS
end
end
section
open Go Go.RowKit
section
variable {P:Program} {w:World} {K:Value->World->Prop}
attribute [local irreducible] Run
end
section
attribute [local irreducible] Run CondV aB aS
end
end
section
open Go Go.RowKit
mutual
theorem Mr (vs:List Int):∀ t:T,wT (gG vs t)=wT t
 | .mk k n s ks=>by rw [gG,wT,wT,xK,Ma vs ks]
theorem Ma (vs:List Int):∀ ts:List T,wL (lC vs ts)=wL ts
 | []=>rfl
 | t::ts=>by rw [lC,wL,wL,Mr vs t,Ma vs ts]
end
section
attribute [local irreducible] Run CondV aB aS
theorem TrC.zero:TrC [] [.int .i64 0,.int .i64 0,.string ⟨#[]⟩,.slice none 0 0,.slice none 0 0] ⟨⟨0,0,⟨#[]⟩,[]⟩,[]⟩:=
 ⟨[.int .i64 0,.int .i64 0,.string ⟨#[]⟩,.slice none 0 0],.slice none 0 0,[],[],rfl,rfl,TrT.iff.2 ⟨_,rfl,by simp [inI,T.kind],by simp [inI,T.n],by rw [T.name]; decide +kernel,TrSl.nil (by simp [maxLen])⟩,TrSl.nil (by simp [maxLen])⟩
end
end
section
open Go Go.RowKit
section
variable {P:Program} {w:World} {K:Value->World->Prop}
attribute [local irreducible] Run
end
section
attribute [local irreducible] Run CondV aB aS
end
end
section
open Go Go.RowKit
attribute [local irreducible] Run CondV aB aS
end
section
open Go Go.RowKit
attribute [local irreducible] Run CondV aB aS

section
variable {P:Program} {w w0:World} {X:List Nat} {L:List Item} {S:ae} {K:Value->World->Prop}
end
end
section
open Go Go.RowKit
attribute [local irreducible] Run CondV aB aS
end
section
open Go Go.RowKit
attribute [local irreducible] Run CondV aB aS
end
section
open Go Go.RowKit
attribute [local irreducible] Run CondV aB aS
end
section
open Go Go.RowKit
attribute [local irreducible] Run CondV aB aS
end
section
open Go Go.ChangeShapes Go.WideShapes Go.ChangeAt Go.RowKit
section
attribute [local irreducible] Run CondV aB aS
end
theorem two {cs:List Value} (h:cs.length=2):∃ a b,cs=[a,b]:=by
 match cs,h with
 | [a,b],_=>exact ⟨a,b,rfl⟩
end
section
open Go Go.RowKit
section
variable {br:Nat} {sl:Value} {ys:List Nat}
attribute [local irreducible] Run CondV aB aS
theorem Pd.one (x:Pd):∀ u∈x.cells,u.oneCell'=true:=by
 intro u hu
 have hu':u∈([.string x.name,.int .i64 x.arity]:List Value):=hu
 simp at hu'
 rcases hu' with rfl|rfl <;> rfl
end
end
section
open Go Go.ChangeShapes Go.WideShapes Go.ChangeAt Go.RowKit
theorem R3:Tryz.prog.underlying Gy=some (.int .u8):=by kernel_rfl
theorem Qq {H:Type} {enc:TypeId × Value->H} {W:World} {sp:Nat->Bool} {held:Bool} {fuel:Nat} {cs:List Value} {x:DataW H × List MemPlace} (h:DataW.trod enc Tryz.prog W 0 sp held fuel Gy cs=some x) :
  ∃ n,jC cs n:=by
 cases fuel with
 | zero=>simp [DataW.trod] at h
 | succ n=>
  unfold DataW.trod at h
  rw [R3] at h
  split at h <;> simp_all
  rename_i k1 k2 m he
  subst he
  obtain ⟨⟨_,h⟩,_⟩:=h
  simp only [Lit.wf,Bool.and_eq_true,decide_eq_true_eq] at h
  have h1:0<=m/\m<=255:=h
  exact ⟨m.toNat,by rw [jC,Int.toNat_of_nonneg (by omega)]; exact ⟨rfl,by omega⟩⟩
theorem s4 {H:Type} {enc:TypeId × Value->H} {W:World} {sp:Nat->Bool} {held:Bool} {fuel:Nat} {v:Value} {x:DataW H × List MemPlace} (h:DataW.trod enc Tryz.prog W 0 sp held fuel HZ [v]=some x) :
  ∃ ys,RdSl (Ms W) 1 jC v ys:=PV dg (by omega) h fun _ _ _ _ hy=>Qq hy
section
variable {w0 w:World} {X:List Nat} {L:List Item} {S:ae} {K:Value->World->Prop}
attribute [local irreducible] Run CondV aB aS
theorem KB {P:Program} {T:TypeId} {cx cy:Bool} {a b:Bool} (hu:P.underlying T=some .bool) (hk:K (.bool (a == b)) w):Run P (cR .eql T cx cy (.bool a) (.bool b)) w K:=
 Run.of (by
  have he:(Op.equal T (.bool a) (.bool b)).run P w=.ok (a == b) w:=by
   rw [Op.equal,Op.maxDepth,Op.equalIn.eq_def]
   simp [run_underlying hu]
  simp only [cR,binOp,Sem.run_bind,ur,Result.andThen_ok,he,Sem.run_pure]) hk
end
end
end Go.Proofs.YtfcbhfjomgopbaaGreat
