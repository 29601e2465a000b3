/- spec.RenumberClause. -/
import Derived.Test.YtfcbhfjomgopbaaGreatZFu5
import Derived.Test.YtfcbhfjomgopbaaGreatZFu7
import Derived.Test.YtfcbhfjomgopbaaGreatZFu6
namespace Go.Proofs.YtfcbhfjomgopbaaGreat
section
open Go Go.RowKit
section
attribute [local irreducible] Run CondV aB aS
theorem Pb {vs:List Int} {n:Int} (hn:inI n) (hl:vs.length<=1000000000):inI (td vs n n 0):=by
 rcases EL vs n n 0 with h|h
 ·rw [h]; exact hn
 ·simp only [inI] at hn ⊢; omega
theorem BL (vs:List Int) (hvl:vs.length<=1000000000):∀ (t:T) (S:ae) (cs:List Value) (v:Value),RdT S cs t->RdSl S 1 ik v vs->wT t<=1048576->Tri Tryz.prog GW [.agg cs.toArray,v] [] S (FH S (gD vs t)):=by
 refine T.ind fun k n s ks ih S cs v h hv hw=>?_
 intro w hI
 obtain ⟨kv,rfl,h1,h2,hs,hks⟩:=RdT.iff.1 h
 simp only [T.name,T.kids,T.kind,T.n] at h1 h2 hs hks ⊢
 simp only [wT] at hw
 obtain ⟨N,hN⟩:∃ N,N=if k=1 then td vs n n 0 else n:=⟨_,rfl⟩
 have hNi:inI N:=by
  rw [hN]
  split
  ·exact Pb h2 hvl
  ·exact h2
 refine sg.2 ?_
 dsimp only[sg,aW]
 refine bf hI fun b1 w' hI=>?_
 refine aD hI aQ fun b2 w' hI=>?_
 refine ad hI 0 rfl aE av rfl ?_
 refine ad hI 0 rfl aM av rfl ?_
 refine ad hI 0 rfl aO aJ rfl ?_
 refine gj ?_
 refine aD hI aQ fun b3 w' hI=>?_
 refine aq hI 2 rfl ac rfl rfl (by simp [Value.oneCell']) fun w' hI=>?_
 refine ⟨fun i w'=>∃ (j:Nat) (cur:Int),j<=vs.length/\i=.int .i64 j/\(if k=1 then td (vs.drop j) n cur j else cur)=N/\
   Inv w [] [.blk b1 (.cells #[.int .i64 k,.int .i64 n,.string s,kv] ab),.blk b2 (.cells #[.int .i64 0,.int .i64 0,.string ⟨#[]⟩,.slice none 0 0] ab),.blk b3 (.cells #[.int .i64 k,.int .i64 cur,.string s,.slice none 0 0] ab)] S w',
  fun i _=>vs.length - (intOf i).toNat,⟨0,n,Nat.zero_le _,rfl,hN.symm,hI⟩,?_⟩
 intro t6 _ _ _ _ _ _ _ _ _ _ _ _ _ _ _ _ _ _ _ _ w'
 rintro ⟨j,cur,hj,rfl,hrel,hI⟩
 refine ⟨fun t w'=>t=.bool (decide (j<vs.length) && decide (k=1))/\Inv w [] [.blk b1 (.cells #[.int .i64 k,.int .i64 n,.string s,kv] ab),.blk b2 (.cells #[.int .i64 0,.int .i64 0,.string ⟨#[]⟩,.slice none 0 0] ab),.blk b3 (.cells #[.int .i64 k,.int .i64 cur,.string s,.slice none 0 0] ab)] S w',?_,?_⟩
 ·refine aC hv bV ?_
  refine bq ?_
  by_cases hji:j<vs.length
  ·rw [decide_eq_true (show (j:Int)<(vs.length:Int) by omega)]
   refine rpG ?_
   refine ad hI 0 rfl aE av rfl ?_
   refine aZ ?_
   refine rpG ?_
   exact ⟨by rw [decide_eq_true hji]; rfl,hI⟩
  ·rw [decide_eq_false (show ¬ (j:Int)<(vs.length:Int) by omega)]
   refine rpG ?_
   exact ⟨by rw [decide_eq_false hji]; rfl,hI⟩
 intro t _ _ _ _ _ _ _ _ w'
 rintro ⟨rfl,hI⟩
 refine az (fun hb=>?_) (fun hb=>?_)
 ·simp only [Bool.and_eq_true,decide_eq_true_eq] at hb
  obtain ⟨hji,hk⟩:=hb
  rw [if_pos hk,List.drop_eq_getElem_cons hji,td] at hrel
  refine ⟨fun w'=>Inv w [] [.blk b1 (.cells #[.int .i64 k,.int .i64 n,.string s,kv] ab),.blk b2 (.cells #[.int .i64 0,.int .i64 0,.string ⟨#[]⟩,.slice none 0 0] ab),.blk b3 (.cells #[.int .i64 k,.int .i64 (if vs[j]=n then (j:Int) else cur),.string s,.slice none 0 0] ab)] S w',?_,?_⟩
  ·obtain ⟨b,o,cap,c,E,fz,rfl,hS,hR⟩:=hv.at_ hji
   refine ⟨fun D mD iE ia jM gI lq lw w_=>Fx D 0 [lw=.slice (some ⟨b,o,none⟩) vs.length cap,lq=.int .i64 j,gI=.pointer (some ⟨b,o+j * 1,none⟩),jM=.int .i64 vs[j],ia=.pointer (some ⟨b1,1,none⟩),iE=.int .i64 n,mD=.bool (decide (vs[j]=n))]/\Inv w [] [.blk b1 (.cells #[.int .i64 k,.int .i64 n,.string s,kv] ab),.blk b2 (.cells #[.int .i64 0,.int .i64 0,.string ⟨#[]⟩,.slice none 0 0] ab),.blk b3 (.cells #[.int .i64 k,.int .i64 cur,.string s,.slice none 0 0] ab)] S w_,⟨Fx.nil _ _,hI.draw⟩,⟨?_,?_,?_,?_,?_,?_,?_,trivial⟩,?_⟩
   all_goals (intro D bn; intros; rename_i mD iE ia jM gI lq lw w_ hA_; have hF_:=hA_.1; obtain ⟨⟨bR,bQ,bG,bS,bU,bB,bD,_⟩,hI⟩:=hA_)
   ·exact ⟨hF_.set 0 rfl,hI⟩
   ·exact ⟨hF_.set 1 rfl,hI⟩
   ·obtain rfl:=bR ‹_›
    obtain rfl:=bQ ‹_›
    refine ar bV hji ?_
    exact ⟨hF_.set 2 rfl,hI⟩
   ·obtain rfl:=bG ‹_›
    refine ce av (by rw [hI.cellS hS]; exact au hR 0 _ rfl) ?_
    exact ⟨hF_.set 3 rfl,hI⟩
   ·refine ai aM ?_
    exact ⟨hF_.set 4 rfl,hI⟩
   ·obtain rfl:=bU ‹_›
    refine aA hI 0 av rfl rfl ?_
    exact ⟨hF_.set 5 rfl,hI⟩
   ·obtain rfl:=bS ‹_›
    obtain rfl:=bB ‹_›
    refine aZ ?_
    exact ⟨hF_.set 6 rfl,hI⟩
   obtain ⟨rfl,rfl,rfl,rfl,rfl,rfl,rfl,_⟩:=hF_.all
   clear hF_ bR bQ bG bS bU bB bD
   refine aI (fun he=>?_) (fun he=>?_)
   ·rw [if_pos he]
    exact cJ hI 2 rfl aM av rfl rfl rfl fun w' hI=>hI
   ·rw [if_neg he]
    exact hI
  intro _ _ _ _ _ _ _ _ _ w' hI
  refine bl (by omega) ?_
  exact ⟨⟨j+1,_,hji,rfl,by rw [if_pos hk]; exact hrel,hI⟩,by simp [intOf]; omega⟩
 have hcur:cur=N:=by
  by_cases hk:k=1
  ·rw [if_pos hk] at hrel
   have:j=vs.length:=by
    have:decide (j<vs.length)=false:=by
     rw [decide_eq_true hk,Bool.and_true] at hb
     exact hb
    have:=of_decide_eq_false this
    omega
   rw [this,List.drop_length] at hrel
   exact hrel
  ·rw [if_neg hk] at hrel
   exact hrel
 clear hrel hb
 subst hcur
 have hI:=hI.rowNil ab 4
 refine ⟨fun i w'=>∃ (j:Nat) (kvc:Value) (Ls:List bh) (css:List (List Value)),j<=ks.length/\i=.int .i64 j/\Grown 4 TrT Ls css (my vs (ks.take j))/\
   Inv w [] (.blk b1 (.cells #[.int .i64 k,.int .i64 n,.string s,kv] ab)::.blk b2 (.cells #[.int .i64 0,.int .i64 0,.string ⟨#[]⟩,.slice none 0 0] ab)::.blk b3 (.cells #[.int .i64 k,.int .i64 cur,.string s,kvc] ab)::aK kvc ab 4 css::bt Ls.flatten) S w',
  fun i _=>ks.length - (intOf i).toNat,⟨0,_,[],[],Nat.zero_le _,rfl,Grown.nil _ _,hI⟩,?_⟩
 intro t7 _ _ _ _ _ _ _ _ _ _ _ _ _ _ _ _ _ _ _ w'
 rintro ⟨j,kvc,Ls,css,hj,rfl,hg,hI⟩
 refine ad hI 0 rfl al ah rfl ?_
 refine aC hks af ?_
 refine bq ?_
 refine aI (fun hji=>?_) (fun hji=>?_)
 ·have hj':j<ks.length:=by omega
  have hjl:(ks.take j).length=j:=by simp; omega
  have hcl:=hg.hc
  rw [xO] at hcl
  have hm:=List.getElem_mem hj'
  have hwm:=lD hm
  obtain ⟨b,o,cap,c,E,fz,rfl,hS,hR⟩:=hks.at_ hj'
  refine ⟨fun D pD kX rR s3 sO rp jL mw kL jY iC iJ w_=>Fx D 0 [iJ=.pointer (some ⟨b3,3,none⟩),iC=kvc,jY=.pointer (some ⟨b1,3,none⟩),kL=.slice (some ⟨b,o,none⟩) ks.length cap,mw=.int .i64 j,jL=.pointer (some ⟨b,o+j * 4,none⟩),rp=.agg (aH c (o+j * 4) 4).toArray,sO=v,True,True,True,pD=.pointer (some ⟨b3,3,none⟩),True]/\∃ M cs7 b8,(D 8=true->s3=.agg cs7.toArray/\TrT M cs7 (gD vs ks[j]))/\(D 9=true->rR=.slice (some ⟨b8,0,none⟩) 1 1)/\(D 9=true->D 8=true)/\(D 10=true->D 9=true)/\(D 12=true->D 10=true)/\(D 12=true->D 1=true)/\Inv w [] (bi (.blk b1 (.cells #[.int .i64 k,.int .i64 n,.string s,.slice (some ⟨b,o,none⟩) ks.length cap] ab)) (.blk b2 (.cells #[.int .i64 0,.int .i64 0,.string ⟨#[]⟩,.slice none 0 0] ab)) (.blk b3 (.cells #[.int .i64 k,.int .i64 cur,.string s,kvc] ab)) (.blk b3 (.cells #[.int .i64 k,.int .i64 cur,.string s,kX] ab)) (aK kvc ab 4 css) (aK kX ab 4 (css++[cs7])) (bt Ls.flatten) M (.blk b8 (.cells cs7.toArray ab)) (D 8) (D 9) (D 10) (D 12)) S w_,⟨Fx.nil _ _,⟨[],[],0,aV,aV,aV,aV,aV,aV,by simpa [bi,bt] using hI.draw⟩⟩,⟨?_,?_,?_,?_,?_,?_,?_,?_,?_,?_,?_,?_,?_,trivial⟩,?_⟩
  all_goals (intro D bn; intros; rename_i pD kX rR s3 sO rp jL mw kL jY iC iJ w_ hA_; have hF_:=hA_.1; obtain ⟨⟨bR,bQ,bG,bS,bU,bB,bD,cq,ci,cL,bH,bT,cH,_⟩,⟨M,cs7,b8,e7,e8,k8,k9,k11,k1,hI⟩⟩:=hA_)
  ·refine ai al ?_
   exact ⟨hF_.set 0 rfl,⟨M,cs7,b8,e7,e8,k8,k9,k11,k1,hI⟩⟩
  ·obtain rfl:=bR ‹_›
   have f11:D 12=false:=Bool.eq_false_iff.2 fun h=>by rw [k1 h] at bn; cases bn
   refine aA (b:=b3) hI 2 (c:=(#[.int .i64 k,.int .i64 cur,.string s,kvc])) ah (by rw [f11]; rfl) rfl ?_
   have k1:=fun (_:aG D 1 12=true)=>(rfl:aG D 1 1=true)
   exact ⟨hF_.set 1 rfl,⟨M,cs7,b8,e7,e8,k8,k9,k11,k1,hI⟩⟩
  ·refine ai al ?_
   exact ⟨hF_.set 2 rfl,⟨M,cs7,b8,e7,e8,k8,k9,k11,k1,hI⟩⟩
  ·obtain rfl:=bG ‹_›
   refine aA hI 0 ah rfl rfl ?_
   exact ⟨hF_.set 3 rfl,⟨M,cs7,b8,e7,e8,k8,k9,k11,k1,hI⟩⟩
  ·exact ⟨hF_.set 4 rfl,⟨M,cs7,b8,e7,e8,k8,k9,k11,k1,hI⟩⟩
  ·obtain rfl:=bS ‹_›
   obtain rfl:=bU ‹_›
   refine ar af hj' ?_
   exact ⟨hF_.set 5 rfl,⟨M,cs7,b8,e7,e8,k8,k9,k11,k1,hI⟩⟩
  ·obtain rfl:=bB ‹_›
   refine bE ac hR.length (fun j v hj=>by rw [hI.cellS hS]; exact au rfl j v hj) ?_
   exact ⟨hF_.set 6 rfl,⟨M,cs7,b8,e7,e8,k8,k9,k11,k1,hI⟩⟩
  ·exact ⟨hF_.set 7 rfl,⟨M,cs7,b8,e7,e8,k8,k9,k11,k1,hI⟩⟩
  ·obtain rfl:=bD ‹_›
   obtain rfl:=cq ‹_›
   have f8:D 9=false:=Bool.eq_false_iff.2 fun h=>by rw [k8 h] at bn; cases bn
   have f9:D 10=false:=Bool.eq_false_iff.2 fun h=>by rw [k9 h] at f8; cases f8
   have f11:D 12=false:=Bool.eq_false_iff.2 fun h=>by rw [k11 h] at f9; cases f9
   rw [bn,f8,f9,f11] at hI
   refine Run.call0 tw sy hI (ih _ (List.getElem_mem hj') S _ _ hR hv (by omega)) fun v' I' S w_=>?_
   rintro ⟨rfl,cs7,M,rfl,rfl,hT⟩ _ hI
   have e7:aG D 8 8=true->Value.agg cs7.toArray=Value.agg cs7.toArray/\TrT M cs7 (gD vs ks[j]):=fun _=>⟨rfl,hT⟩
   have k8:=fun (_:aG D 8 9=true)=>(rfl:aG D 8 8=true)
   have hI:Inv w [] (bi (.blk b1 (.cells #[.int .i64 k,.int .i64 n,.string s,.slice (some ⟨b,o,none⟩) ks.length cap] ab)) (.blk b2 (.cells #[.int .i64 0,.int .i64 0,.string ⟨#[]⟩,.slice none 0 0] ab)) (.blk b3 (.cells #[.int .i64 k,.int .i64 cur,.string s,kvc] ab)) (.blk b3 (.cells #[.int .i64 k,.int .i64 cur,.string s,kX] ab)) (aK kvc ab 4 css) (aK kX ab 4 (css++[cs7])) (bt Ls.flatten) M (.blk b8 (.cells cs7.toArray ab)) true (D 9) (D 10) (D 12)) S w_:=by
    rw [f8,f9,f11]
    simpa [bi] using hI
   exact ⟨hF_.set 8 (by first|assumption|trivial),⟨M,cs7,b8,e7,e8,k8,k9,k11,k1,hI⟩⟩
  ·have Dt:=ci ‹_›
   have f9:D 10=false:=Bool.eq_false_iff.2 fun h=>by rw [k9 h] at bn; cases bn
   have f11:D 12=false:=Bool.eq_false_iff.2 fun h=>by rw [k11 h] at f9; cases f9
   obtain ⟨q7,hT⟩:=e7 ‹D 8=true›
   subst q7
   rw [‹D 8=true›,bn,f9,f11] at hI
   refine dT hI bp (by simp [Value.cells,hT.length]) (by omega) (by omega) fun b8 w_ hI=>?_
   have e7:aG D 9 8=true->Value.agg cs7.toArray=Value.agg cs7.toArray/\TrT M cs7 (gD vs ks[j]):=fun _=>⟨rfl,hT⟩
   have e8:=fun (_:aG D 9 9=true)=>(rfl:Value.slice (some ⟨b8,0,none⟩) 1 1=_)
   have k8:=fun (_:aG D 9 9=true)=>‹D 8=true›
   have k9:=fun (_:aG D 9 10=true)=>(rfl:aG D 9 9=true)
   have hI:Inv w [] (bi (.blk b1 (.cells #[.int .i64 k,.int .i64 n,.string s,.slice (some ⟨b,o,none⟩) ks.length cap] ab)) (.blk b2 (.cells #[.int .i64 0,.int .i64 0,.string ⟨#[]⟩,.slice none 0 0] ab)) (.blk b3 (.cells #[.int .i64 k,.int .i64 cur,.string s,kvc] ab)) (.blk b3 (.cells #[.int .i64 k,.int .i64 cur,.string s,kX] ab)) (aK kvc ab 4 css) (aK kX ab 4 (css++[cs7])) (bt Ls.flatten) M (.blk b8 (.cells cs7.toArray ab)) (D 8) true (D 10) (D 12)) S w_:=by
    rw [‹D 8=true›,f9,f11]
    simpa [bi,Value.cells] using hI
   exact ⟨hF_.set 9 (by first|assumption|trivial),⟨M,cs7,b8,e7,e8,k8,k9,k11,k1,hI⟩⟩
  ·obtain rfl:=bQ ‹_›
   have H9:=cL ‹_›
   have f11:D 12=false:=Bool.eq_false_iff.2 fun h=>by rw [k11 h] at bn; cases bn
   have q8:=e8 ‹D 9=true›
   subst q8
   obtain ⟨_,hT⟩:=e7 ‹D 8=true›
   rw [‹D 8=true›,‹D 9=true›,bn,f11] at hI
   have hblk:((bi (.blk b1 (.cells #[.int .i64 k,.int .i64 n,.string s,.slice (some ⟨b,o,none⟩) ks.length cap] ab)) (.blk b2 (.cells #[.int .i64 0,.int .i64 0,.string ⟨#[]⟩,.slice none 0 0] ab)) (.blk b3 (.cells #[.int .i64 k,.int .i64 cur,.string s,iC] ab)) (.blk b3 (.cells #[.int .i64 k,.int .i64 cur,.string s,kX] ab)) (aK iC ab 4 css) (aK kX ab 4 (css++[cs7])) (bt Ls.flatten) M (.blk b8 (.cells cs7.toArray ab)) true true false false))[4+(bt Ls.flatten).length+(bt M).length]?=some (.blk b8 (.cells cs7.toArray ab)):=by
    have e4:4+(bt Ls.flatten).length+(bt M).length=((bt Ls.flatten).length+(bt M).length)+1+1+1+1:=by omega
    rw [e4]
    simp only [bi,List.getElem?_cons_succ]
    rw [List.getElem?_append_right (by omega),Nat.add_sub_cancel_left,List.getElem?_append_right (Nat.le_refl _),Nat.sub_self]; rfl
   refine eU hI 3 cs7 bp (by omega) rfl (by rw [hT.length]) (m:=1) (o:=0) ?_ hT.one (by omega) (by omega) fun v' w_ hI=>?_
   ·intro i u hi
    rw [hI.cellL hblk,Nat.zero_add]
    simpa using hi
   rw [gB] at hI
   have k9:=fun (_:aG D 10 10=true)=>‹D 9=true›
   have k11:=fun (_:aG D 10 12=true)=>(rfl:aG D 10 10=true)
   have hI:Inv w [] (bi (.blk b1 (.cells #[.int .i64 k,.int .i64 n,.string s,.slice (some ⟨b,o,none⟩) ks.length cap] ab)) (.blk b2 (.cells #[.int .i64 0,.int .i64 0,.string ⟨#[]⟩,.slice none 0 0] ab)) (.blk b3 (.cells #[.int .i64 k,.int .i64 cur,.string s,iC] ab)) (.blk b3 (.cells #[.int .i64 k,.int .i64 cur,.string s,v'] ab)) (aK iC ab 4 css) (aK v' ab 4 (css++[cs7])) (bt Ls.flatten) M (.blk b8 (.cells cs7.toArray ab)) (D 8) (D 9) true (D 12)) S w_:=by
    rw [‹D 8=true›,‹D 9=true›,f11]
    exact hI
   exact ⟨hF_.set 10 (by first|assumption|trivial),⟨M,cs7,b8,e7,e8,k8,k9,k11,k1,hI⟩⟩
  ·refine ai al ?_
   exact ⟨hF_.set 11 rfl,⟨M,cs7,b8,e7,e8,k8,k9,k11,k1,hI⟩⟩
  ·obtain rfl:=bT ‹_›
   have wB:=bH ‹_›
   rw [‹D 8=true›,‹D 9=true›,‹D 10=true›,bn] at hI
   obtain ⟨va,vn,vc,hv9⟩:=Inv.rowSlice hI 3 rfl
   refine dA hI 2 (n:=1) (by rw [hv9]; rfl) (by decide +kernel) rfl (by simp) (by rw [hv9]; simp [Value.cells,Value.oneCell']) fun w_ hI=>?_
   have hcl9:Value.cells kX=#[kX]:=by rw [hv9]; rfl
   rw [hcl9] at hI
   have k1:=fun (_:aG D 12 12=true)=>‹D 1=true›
   have k11:=fun (_:aG D 12 12=true)=>‹D 10=true›
   have hI:Inv w [] (bi (.blk b1 (.cells #[.int .i64 k,.int .i64 n,.string s,.slice (some ⟨b,o,none⟩) ks.length cap] ab)) (.blk b2 (.cells #[.int .i64 0,.int .i64 0,.string ⟨#[]⟩,.slice none 0 0] ab)) (.blk b3 (.cells #[.int .i64 k,.int .i64 cur,.string s,kvc] ab)) (.blk b3 (.cells #[.int .i64 k,.int .i64 cur,.string s,kX] ab)) (aK kvc ab 4 css) (aK kX ab 4 (css++[cs7])) (bt Ls.flatten) M (.blk b8 (.cells cs7.toArray ab)) (D 8) (D 9) (D 10) true) S w_:=by
    rw [‹D 8=true›,‹D 9=true›,‹D 10=true›]
    exact hI
   exact ⟨hF_.set 12 trivial,⟨M,cs7,b8,e7,e8,k8,k9,k11,k1,hI⟩⟩
  obtain ⟨rfl,rfl,rfl,rfl,rfl,rfl,rfl,rfl,Dt,H9,wB,rfl,_,_⟩:=hF_.all
  have A8:D 8=true:=by assumption
  have Hq:D 9=true:=by assumption
  have xI:D 10=true:=by assumption
  have KS:D 12=true:=by assumption
  clear hF_ bR bQ bG bS bU bB bD cq ci cL bH bT cH
  obtain ⟨_,hT⟩:=e7 A8
  rw [A8,Hq,xI,KS] at hI
  refine bl (by omega) ?_
  refine ⟨⟨j+1,kX,Ls++[M],css++[cs7],hj',rfl,?_,?_⟩,by simp [intOf]; omega⟩
  ·rw [Mm vs ks j hj']
   exact hg.snoc hT hT.length
  ·simp only [List.flatten_append,List.flatten_cons,List.flatten_nil,List.append_nil,eK]
   refine hI.sub ?_
   simp only [bi]
   rw [<- List.append_assoc]
   exact (((List.sublist_append_left _ _).cons_cons _).cons_cons _).cons_cons _ |>.cons_cons _
 ·have:j=ks.length:=by omega
  subst this
  rw [List.take_length] at hg
  obtain ⟨va,vn,vc,hvk⟩:=hI.rowSlice 3 rfl
  have hv1:kvc.oneCell'=true:=by rw [hvk]; rfl
  refine ao hI 2 ac rfl rfl ?_
  refine aq hI 1 rfl ac rfl rfl ?_ fun w' hI=>?_
  ·intro u hu
   have hu':u∈([.int .i64 k,.int .i64 cur,.string s,kvc]:List Value):=hu
   simp at hu'
   rcases hu' with rfl|rfl|rfl|rfl <;> first|rfl|exact hv1
  refine aU hI 1 ac rfl rfl ?_
  have hI:Inv w [] ([]++(aK kvc ab 4 css::bt Ls.flatten)) S w':=hI.sub (List.sublist_append_right [_,_,_] _)
  obtain ⟨L,hT,hI⟩:=Inv.rowTree hI hg
  exact ⟨_,_,_,rfl,hI,Ext.refl _ _ _,rfl,_,L,rfl,rfl,TrT.iff.2 ⟨kvc,by rw [gD,<- hN]; rfl,by rw [gD]; exact h1,by rw [gD,<- hN]; exact hNi,by rw [gD]; exact hs,by rw [gD]; exact hT⟩⟩
end
end
section
open Go Go.RowKit
section
variable {w:World} {K:Value->World->Prop}
attribute [local irreducible] Run
end
theorem Ip (ts:List T) (j:Nat) (h:j<ts.length) (l:List Int):df (ts.drop j) l=df (ts.drop (j+1)) (eX ts[j] l):=by
 rw [List.drop_eq_getElem_cons h,df]
section
attribute [local irreducible] Run CondV aB aS
theorem RdC.zero (S:ae):RdC S [.int .i64 0,.int .i64 0,.string ⟨#[]⟩,.slice none 0 0,.slice none 0 0] ⟨⟨0,0,⟨#[]⟩,[]⟩,[]⟩:=
 ⟨[.int .i64 0,.int .i64 0,.string ⟨#[]⟩,.slice none 0 0],.slice none 0 0,rfl,RdT.iff.2 ⟨_,rfl,by simp [inI,T.kind],by simp [inI,T.n],by rw [T.name]; decide +kernel,⟨none,0,rfl,Nat.le_refl _,Nat.zero_le _,.inl rfl⟩⟩,⟨none,0,rfl,Nat.le_refl _,Nat.zero_le _,.inl rfl⟩⟩
end
end
section
open Go Go.RowKit
mutual
def qv:T->Int->Bool
 | .mk _ _ _ ks,d=>if d<1 then false else N4 ks (d - 1)
def N4:List T->Int->Bool
 | [],_=>true
 | t::ts,d=>qv t d && N4 ts d
end
theorem uV:∀ (ts:List T) (d:Int),N4 ts d=ts.all fun t=>qv t d
 | [],_=>rfl
 | t::ts,d=>by rw [N4,uV ts d]; rfl
def cI (u:T):Bool:=decide (dE u<=120) && qv u 30
theorem yv (us:List T) (j:Nat) (h:j<us.length):dd (us.take (j+1))=dd (us.take j)+dE us[j]:=by
 induction us generalizing j with
 | nil=>simp at h
 | cons u us ih=>
  cases j with
  | zero=>simp only [List.take_succ_cons,List.take_zero,List.getElem_cons_zero,dd]; omega
  | succ j=>
   have:=ih j (by simpa using h)
   simp only [List.take_succ_cons,List.getElem_cons_succ,dd] at *
   omega
theorem oy (us:List T) (j:Nat):dd (us.take j)<=dd us:=by
 induction us generalizing j with
 | nil=>simp
 | cons u us ih=>
  cases j with
  | zero=>simp only [List.take_zero]; exact dX _
  | succ j=>
   have:=ih j
   simp only [List.take_succ_cons,dd]
   omega
theorem gC (k n:Int) (s:ByteArray) (ks:List T):dE (.mk k n s ks)=1+dd ks:=rfl
theorem i7 {w:World} {v:Value} {e:TypeId} {k n:Nat} {xs:List Value} (h:(Item.row v e k n xs).holds w):v.cells=#[v]/\v.oneCell'=true:=by
 have h:w.ownsRow 0 e k v n xs:=h
 rcases h.2 with ⟨rfl,_⟩|⟨g,cap,cur,rfl,_⟩ <;> exact ⟨rfl,rfl⟩
section
attribute [local irreducible] Run CondV aB aS
theorem fC {K:Value->World->Prop} {w:World} (hk:K (.agg #[.int .i64 0,.int .i64 0,.string ⟨#[]⟩,.slice none 0 0]) w):Run Tryz.prog (bX ab []) w K:=by
 refine Run.of ?_ hk
 kernel_rfl
theorem GI:∀ (t:T) (d:Int) (S:ae) (cs:List Value),RdT S cs t->-1000000<=d->d<=1000000->Pure Tryz.prog MO [.agg cs.toArray,.int .i64 d] S (.bool (qv t d)):=by
 refine T.ind fun k n s ks ih d S cs h hd0 hd1=>?_
 intro w hI
 obtain ⟨kv,rfl,_,_,_,hks⟩:=RdT.iff.1 h
 simp only [T.name,T.kids,T.kind,T.n] at hks ⊢
 have hlen:=hks.le
 simp only [maxLen] at hlen
 refine zb.2 ?_
 dsimp only[zb,aW]
 refine bf hI fun b2 w' hI=>?_
 rw [qv]
 refine bq ?_
 refine aI (fun hd=>?_) (fun hd=>?_)
 ·rw [if_pos hd]
  exact done hI rfl
 rw [if_neg hd,uV]
 refine ⟨fun i w'=>∃ j:Nat,j<=ks.length/\i=.int .i64 j/\((ks.drop j).all fun t=>qv t (d - 1))=(ks.all fun t=>qv t (d - 1))/\Inv w [] [.blk b2 (.cells #[.int .i64 k,.int .i64 n,.string s,kv] ab)] S w',
  fun i _=>ks.length - (intOf i).toNat,⟨0,Nat.zero_le _,rfl,rfl,hI⟩,?_⟩
 intro t5 _ _ _ _ _ _ _ _ _ _ _ _ _ _ _ _ _ w'
 rintro ⟨j,hj,rfl,hrel,hI⟩
 refine ad hI 0 rfl al ah rfl ?_
 refine aC hks af ?_
 refine bq ?_
 refine aI (fun hji=>?_) (fun hji=>?_)
 ·have hj':j<ks.length:=by omega
  have hstep:=Da (fun t=>qv t (d - 1)) ks j hj'
  refine ad hI 0 rfl al ah rfl ?_
  refine bY hI hks af ac hj' (fun _ _=>RdT.length) fun cs hcs=>?_
  refine hK (by omega) ?_
  refine Run.callPure z0 yT hI (ih _ (List.getElem_mem hj') (d - 1) S cs hcs (by omega) (by omega)) fun w' hI=>?_
  refine bK ?_
  refine az (fun hne=>done hI ?_) (fun he=>?_)
  ·have hne':qv ks[j] (d - 1)=false:=by simpa using hne
   rw [<- hrel,hstep,hne']; rfl
  ·have he':qv ks[j] (d - 1)=true:=by simpa using he
   refine bl (by omega) ?_
   exact ⟨⟨j+1,hj',rfl,by rw [<- hrel,hstep,he']; rfl,hI⟩,by simp [intOf]; omega⟩
 ·have:j=ks.length:=by omega
  subst this
  exact done hI (by rw [<- hrel,List.drop_length]; rfl)
def Ul (kb:Nat) (kc:Array Value) (u:T) (room:Int):Value->List Item->ae->Prop:=fun q I' S'=>I'=[.blk kb (.cells kc ab)]/\
 ∃ cs':List Value,cs'.length=4/\(∀ x∈cs',x.oneCell'=true)/\q=.tuple #[.agg cs'.toArray,.int .i64 (if dE u<=room then room - dE u else -1)]/\(dE u<=room->RdT S' cs' u)
def FC (N kp:Nat) (st:aF) (t u:T):Prop:=∀ (S:ae) (cs:List Value) (kb:Nat) (kc:Array Value) (room:Int),RdT S cs t->KnU S kc st->-1<=room->room<=1000000->
 Tri Tryz.prog CS [.agg cs.toArray,kvU kb N kp,.int .i64 room] [.blk kb (.cells kc ab)] S (Ul kb kc u room)
theorem js:∀ x∈([.int .i64 0,.int .i64 0,.string ⟨#[]⟩,.slice none 0 0]:List Value),x.oneCell'=true:=by simp [Value.oneCell']
theorem IG {N kp:Nat} {st:aF} {t v:T} {us:List T} (hg:Good N st) (hwv:cU st t v) (hot:okU N t/\wT t<=1048576) (hlu:us.length=v.kids.length)
  (hk:∀ i (h:i<us.length) (h':i<v.kids.length),FC N kp st v.kids[i] us[i]):FC N kp st t (.mk v.kind v.n v.name us):=by
 intro S cs kb kc room h hkc hr0 hr1 w hI
 have hlc:=h.length
 have hov:=dQ hg hwv hot
 obtain ⟨X,hX⟩:∃ X,X=bC [Item.blk kb (.cells kc ab)]:=⟨_,rfl⟩
 rw [<- hX] at hI ⊢
 have hcu:=dX us
 refine lY.2 ?_
 dsimp only[lY,cW]
 refine bf hI fun b3 w' hI=>?_
 refine aD hI aQ fun b6 w' hI=>?_
 have hI:Inv w X ([.blk b3 (.cells cs.toArray ab),.blk b6 (.cells #[.int .i64 0,.int .i64 0,.string ⟨#[]⟩,.slice none 0 0] ab)]++[.blk kb (.cells kc ab)]) S w':=hI.perm (List.perm_append_comm (l₁:=[_,_]) (l₂:=[_]))
 refine bq ?_
 refine aI (fun hlt=>?_) (fun hlt=>?_)
 ·refine fC ?_
  refine aq hI 1 rfl ac rfl rfl js fun w' hI=>?_
  refine aU hI 1 ac rfl rfl ?_
  refine ⟨_,_,_,rfl,hI.pick [false,false,true],Ext.refl _ _ _,rfl,_,rfl,js,?_,fun h=>?_⟩
  ·rw [gC,if_neg (by omega)]
  ·rw [gC] at h; omega
 refine ao hI 0 ac rfl (by simpa using hlc) ?_
 refine Run.call mn mA hI (ol hg hwv hot.1 h hkc) fun v' I' S' w'=>?_
 rintro ⟨eS,rfl,cs',rfl,hcs'⟩ _ hI
 rw [eS] at hI
 clear eS
 refine aq hI 0 rfl ac (by simpa using hcs'.length) (by simpa using hlc) (by simpa using hcs'.one) fun w' hI=>?_
 obtain ⟨kv,rfl,hi1,hi2,hs,hks⟩:=RdT.iff.1 hcs'
 have hI:Inv w X [.blk b3 (.cells #[.int .i64 v.kind,.int .i64 v.n,.string v.name,kv] ab),.blk b6 (.cells #[.int .i64 0,.int .i64 0,.string ⟨#[]⟩,.slice none 0 0] ab),.blk kb (.cells kc ab)] S w':=hI
 have hlen:=hks.le
 have hkl:v.kids.length<=1048576:=by
  have:=hov.2
  cases v
  simp only [wT] at this
  simp only [T.kids]
  omega
 refine ad hI 0 rfl aE av rfl ?_
 refine ad hI 0 rfl aM av rfl ?_
 refine ad hI 0 rfl aO aJ rfl ?_
 refine gj ?_
 refine aD hI aQ fun b8 w' hI=>?_
 have hI:Inv w X [.blk b3 (.cells #[.int .i64 v.kind,.int .i64 v.n,.string v.name,kv] ab),.blk b6 (.cells #[.int .i64 0,.int .i64 0,.string ⟨#[]⟩,.slice none 0 0] ab),.blk b8 _,.blk kb (.cells kc ab)] S w':=hI.perm (((List.perm_append_comm (l₁:=[_]) (l₂:=[_])).cons _).cons _)
 refine aq hI 2 rfl ac rfl rfl (by simp [Value.oneCell']) fun w' hI=>?_
 refine hK (by omega) ?_
 have hI:=hI.rowNil ab 4
 have hI:Inv w X [.blk b3 (.cells #[.int .i64 v.kind,.int .i64 v.n,.string v.name,kv] ab),.blk b6 (.cells #[.int .i64 0,.int .i64 0,.string ⟨#[]⟩,.slice none 0 0] ab),.blk b8 (.cells #[.int .i64 v.kind,.int .i64 v.n,.string v.name,.slice none 0 0] ab),aK (.slice none 0 0) ab 4 [],.blk kb (.cells kc ab)] S w':=hI.perm ((((List.perm_append_comm (l₁:=[_]) (l₂:=[_])).cons _).cons _).cons _)
 refine ⟨fun i l w'=>∃ (j:Nat) (left:Int) (kvc:Value) (css:List (List Value)) (S1:ae),j<=us.length/\i=.int .i64 j/\l=.int .i64 left/\Ext w.heap.size X S S1/\css.length=j/\
   ((left=room - 1 - dd (us.take j)/\0<=left/\Rows 4 (RdT S1) css (us.take j)) ∨ (left=-1/\room - 1<dd us))/\
   Inv w X [.blk b3 (.cells #[.int .i64 v.kind,.int .i64 v.n,.string v.name,kv] ab),.blk b6 (.cells #[.int .i64 0,.int .i64 0,.string ⟨#[]⟩,.slice none 0 0] ab),.blk b8 (.cells #[.int .i64 v.kind,.int .i64 v.n,.string v.name,kvc] ab),aK kvc ab 4 css,.blk kb (.cells kc ab)] S1 w',
  fun i _ _=>us.length - (intOf i).toNat,⟨0,room - 1,_,[],S,Nat.zero_le _,rfl,rfl,Ext.refl _ _ _,rfl,.inl ⟨by simp [dd],by omega,Rows.nil _ _⟩,hI⟩,?_⟩
 intro t10 _ _ t9 _ _ _ _ _ _ _ _ _ _ _ _ _ _ _ _ _ _ _ _ _ _ _ _ _ _ _ _ _ w'
 rintro ⟨j,left,kvc,css,S1,hj,rfl,rfl,hE,hcl,hst,hI⟩
 refine ⟨fun q w'=>q=.bool (decide (j<us.length/\0<=left))/\Inv w X [.blk b3 (.cells #[.int .i64 v.kind,.int .i64 v.n,.string v.name,kv] ab),.blk b6 (.cells #[.int .i64 0,.int .i64 0,.string ⟨#[]⟩,.slice none 0 0] ab),.blk b8 (.cells #[.int .i64 v.kind,.int .i64 v.n,.string v.name,kvc] ab),aK kvc ab 4 css,.blk kb (.cells kc ab)] S1 w',?_,?_⟩
 ·refine ad hI 0 rfl al ah rfl ?_
  refine aC hks af ?_
  refine bq ?_
  by_cases e1:(j:Int)<(v.kids.length:Nat)
  ·rw [decide_eq_true e1]
   refine rpG ?_
   refine fw ?_
   refine rpG ?_
   refine ⟨?_,hI⟩
   congr 1
   rw [Bool.eq_iff_iff,decide_eq_true_eq,decide_eq_true_eq]
   omega
  ·rw [decide_eq_false e1]
   refine rpG ?_
   refine ⟨?_,hI⟩
   rw [decide_eq_false (by omega)]
 intro q _ _ _ _ _ _ _ _ w'
 rintro ⟨rfl,hI⟩
 refine aI (fun hgo=>?_) (fun hgo=>?_)
 ·obtain ⟨hj1,hl0⟩:=hgo
  have hj2:j<v.kids.length:=by omega
  obtain ⟨hleft,_,hR⟩:left=room - 1 - dd (us.take j)/\0<=left/\Rows 4 (RdT S1) css (us.take j):=by
   rcases hst with h1|⟨h1,_⟩
   ·exact h1
   ·omega
  have hpos:=dX (us.take j)
  refine ad hI 0 rfl al ah rfl ?_
  refine bY hI (hks.monoT hE.1) af ac hj2 (fun _ _=>RdT.length) fun cs0 hcs0=>?_
  have hI:Inv w X ([.blk b3 (.cells #[.int .i64 v.kind,.int .i64 v.n,.string v.name,kv] ab),.blk b6 (.cells #[.int .i64 0,.int .i64 0,.string ⟨#[]⟩,.slice none 0 0] ab),.blk b8 (.cells #[.int .i64 v.kind,.int .i64 v.n,.string v.name,kvc] ab),aK kvc ab 4 css]++[.blk kb (.cells kc ab)]) S1 _:=hI
  refine Run.callE lZ lU hI (hk j hj1 hj2 S1 cs0 kb kc left hcs0 (hkc.mono hE.1) (by omega) (by omega)) fun v' I' S2 w'=>?_
  rintro ⟨rfl,cs2,hl4,ho4,rfl,hrd⟩ hE2 hI
  refine aj rfl ?_
  refine aj rfl ?_
  refine aD hI aQ fun b11 w' hI=>?_
  have hI:=hI.perm (M:=.blk b11 _::[.blk b3 (.cells #[.int .i64 v.kind,.int .i64 v.n,.string v.name,kv] ab),.blk b6 (.cells #[.int .i64 0,.int .i64 0,.string ⟨#[]⟩,.slice none 0 0] ab),.blk b8 (.cells #[.int .i64 v.kind,.int .i64 v.n,.string v.name,kvc] ab),aK kvc ab 4 css,.blk kb (.cells kc ab)]) (List.perm_append_comm (l₁:=[_]))
  refine aq hI 0 rfl ac (by simpa using hl4) rfl (by simpa using ho4) fun w' hI=>?_
  refine ad (b:=b8) (c:=#[.int .i64 v.kind,.int .i64 v.n,.string v.name,kvc]) hI 3 rfl al ah rfl ?_
  refine ao hI 0 ac rfl (by simpa using hl4) ?_
  refine dZ hI 4 cs2 bp (by omega) (by omega) rfl hl4 ho4 (by omega) (by omega) fun kvc2 w' hI=>?_
  have hkv2:=i7 (hI.its (aK kvc2 ab 4 (css++[cs2])) (by simp))
  refine cJ (b:=b8) (c:=#[.int .i64 v.kind,.int .i64 v.n,.string v.name,kvc]) hI 3 rfl al ah rfl hkv2.1 hkv2.2 fun w' hI=>?_
  have hI:Inv w X [.blk b3 (.cells #[.int .i64 v.kind,.int .i64 v.n,.string v.name,kv] ab),.blk b6 (.cells #[.int .i64 0,.int .i64 0,.string ⟨#[]⟩,.slice none 0 0] ab),.blk b8 (.cells #[.int .i64 v.kind,.int .i64 v.n,.string v.name,kvc2] ab),aK kvc2 ab 4 (css++[cs2]),.blk kb (.cells kc ab)] S2 w':=hI.pick [false,true,true,true,true,true]
  refine bl (by omega) ?_
  have hct:=yv us j hj1
  have hcle:=oy us (j+1)
  have hc0:=jy us[j]
  refine ⟨⟨j+1,_,kvc2,css++[cs2],S2,hj1,rfl,rfl,hE.trans hE2,by simp [hcl],?_,hI⟩,by simp [intOf]; omega⟩
  by_cases hfit:dE us[j]<=left
  ·left
   rw [if_pos hfit]
   refine ⟨by omega,by omega,?_⟩
   rw [List.take_succ_eq_append_getElem hj1]
   exact (hR.monoR fun _ _ h=>RdT.mono hE2.1 h).snoc (hrd hfit) hl4
  ·right
   rw [if_neg hfit]
   exact ⟨rfl,by omega⟩
 ·refine ao (b:=b8) (c:=#[.int .i64 v.kind,.int .i64 v.n,.string v.name,kvc]) hI 2 ac rfl rfl ?_
  have hkv2:=i7 (hI.its (aK kvc ab 4 css) (by simp))
  have hone:∀ x∈([.int .i64 v.kind,.int .i64 v.n,.string v.name,kvc]:List Value),x.oneCell'=true:=by
   intro x hx
   simp at hx
   rcases hx with rfl|rfl|rfl|rfl <;> first|rfl|exact hkv2.2
  refine aq hI 1 rfl ac rfl rfl hone fun w' hI=>?_
  refine aU (c:=#[.int .i64 v.kind,.int .i64 v.n,.string v.name,kvc]) hI 1 ac rfl rfl ?_
  have hI:Inv w X ([.blk kb (.cells kc ab)]++[aK kvc ab 4 css]) S1 w':=(hI.pick [false,false,false,true,true]).perm (List.Perm.swap ..)
  rcases hst with ⟨h1,h2,hR⟩|⟨h1,h2⟩
  ·have hje:j=us.length:=by omega
   rw [hje,List.take_length] at h1 hR
   obtain ⟨S3,hE3,hrd,hI⟩:=hI.lendExt
   have hrr:=RowRd.rows (hR.monoR fun _ _ h=>RdT.mono hE3.1 h) hrd
   refine ⟨_,_,_,rfl,hI,hE.trans hE3,rfl,[.int .i64 v.kind,.int .i64 v.n,.string v.name,kvc],rfl,hone,?_,fun _=>RdT.iff.2 ⟨kvc,rfl,hi1,hi2,hs,hrr⟩⟩
   rw [gC,if_pos (by omega),show left=room - (1+dd us) by omega]
  ·refine ⟨_,_,_,rfl,hI.sub (List.sublist_append_left _ _),hE,rfl,[.int .i64 v.kind,.int .i64 v.n,.string v.name,kvc],rfl,hone,?_,fun h=>?_⟩
   ·rw [gC,if_neg (by omega),h1]
   ·rw [gC] at h; omega
theorem Hm {N kp:Nat} {st:aF} (hg:Good N st) {j:N0} (hr:Res st j):match j with
  | .one t u=>(okU N t/\wT t<=1048576)->FC N kp st t u
  | .list ts us=>(∀ t∈ts,okU N t/\wT t<=1048576)->us.length=ts.length/\∀ i (h:i<us.length) (h':i<ts.length),FC N kp st ts[i] us[i]:=by
 induction hr with
 | one hw _ ih=>
  intro ho
  have h1:=ih (jb (dQ hg hw ho))
  exact IG hg hw ho h1.1 h1.2
 | nil=>exact fun _=>⟨rfl,fun i h _=>by simp at h⟩
 | cons _ _ ih1 ih2=>
  intro ho
  obtain ⟨h1,h2⟩:=ih2 fun t ht=>ho t (List.mem_cons_of_mem _ ht)
  refine ⟨by simp [h1],fun i h h'=>?_⟩
  cases i with
  | zero=>exact ih1 (ho _ (List.mem_cons_self ..))
  | succ i=>exact h2 i (by simpa using h) (by simpa using h')
end
end
section
open Go Go.RowKit
mutual
def cK (m:Int):T->T
 | .mk k n s ks=>.mk k (if k=1 then n+m else n) s (fS m ks)
def fS (m:Int):List T->List T
 | []=>[]
 | t::ts=>cK m t::fS m ts
end
theorem kO (m:Int):∀ ts:List T,fS m ts=ts.map (cK m)
 | []=>rfl
 | t::ts=>by rw [fS,kO m ts]; rfl
theorem JY (m:Int) (ks:List T) (j:Nat) (h:j<ks.length):fS m (ks.take (j+1))=fS m (ks.take j)++[cK m ks[j]]:=by
 rw [kO,kO,List.take_succ_eq_append_getElem h,List.map_append]; rfl
section
attribute [local irreducible] Run CondV aB aS
theorem s6 {N:Nat} (hN:N<=1000000) (m:Int) (hm0:0<=m) (hm1:m<=1000000):∀ (t:T) (S:ae) (cs:List Value),RdT S cs t->okU N t->wT t<=1048576->Tri Tryz.prog IW [.agg cs.toArray,.int .i64 m] [] S (FH S (cK m t)):=by
 refine T.ind fun k n s ks ih S cs h hou hw=>?_
 intro w hI
 obtain ⟨kv,rfl,h1,h2,hs,hks⟩:=RdT.iff.1 h
 simp only [T.name,T.kids,T.kind,T.n] at h1 h2 hs hks ⊢
 simp only [wT] at hw
 rw [okU] at hou
 obtain ⟨_,hvar,hou,_⟩:=hou
 obtain ⟨cur,hcur⟩:∃ cur,cur=if k=1 then n+m else n:=⟨_,rfl⟩
 have hci:inI cur:=by
  rw [hcur]
  split
  ·have:=hvar (by assumption)
   simp only [inI]
   omega
  ·exact h2
 refine uw.2 ?_
 dsimp only[uw,aW]
 refine bf hI fun b1 w' hI=>?_
 refine aD hI aQ fun b2 w' hI=>?_
 refine ad hI 0 rfl aE av rfl ?_
 refine ad hI 0 rfl aM av rfl ?_
 refine ad hI 0 rfl aO aJ rfl ?_
 refine gj ?_
 refine aD hI aQ fun b3 w' hI=>?_
 refine aq hI 2 rfl ac rfl rfl (by simp [Value.oneCell']) fun w' hI=>?_
 have hI:Inv w [] [.blk b1 (.cells #[.int .i64 k,.int .i64 n,.string s,kv] ab),.blk b2 (.cells #[.int .i64 0,.int .i64 0,.string ⟨#[]⟩,.slice none 0 0] ab),.blk b3 (.cells #[.int .i64 k,.int .i64 n,.string s,.slice none 0 0] ab)] S w':=hI
 refine ⟨fun w'=>Inv w [] [.blk b1 (.cells #[.int .i64 k,.int .i64 n,.string s,kv] ab),.blk b2 (.cells #[.int .i64 0,.int .i64 0,.string ⟨#[]⟩,.slice none 0 0] ab),.blk b3 (.cells #[.int .i64 k,.int .i64 cur,.string s,.slice none 0 0] ab)] S w',?_,?_⟩
 ·refine ad hI 0 rfl aE av rfl ?_
  refine aZ ?_
  refine aI (fun he=>?_) (fun he=>?_)
  ·have hv:=hvar he
   refine ad hI 0 rfl aM av rfl ?_
   refine bl (by omega) ?_
   rw [if_pos he] at hcur
   rw [hcur]
   exact cJ hI 2 rfl aM av rfl rfl rfl fun w' hI=>hI
  ·rw [if_neg he] at hcur
   rw [hcur]
   exact hI
 intro _ _ _ _ _ _ _ _ w' hI
 have hI:=hI.rowNil ab 4
 refine ⟨fun i w'=>∃ (j:Nat) (kvc:Value) (Ls:List bh) (css:List (List Value)),j<=ks.length/\i=.int .i64 j/\Grown 4 TrT Ls css (fS m (ks.take j))/\
   Inv w [] (.blk b1 (.cells #[.int .i64 k,.int .i64 n,.string s,kv] ab)::.blk b2 (.cells #[.int .i64 0,.int .i64 0,.string ⟨#[]⟩,.slice none 0 0] ab)::.blk b3 (.cells #[.int .i64 k,.int .i64 cur,.string s,kvc] ab)::aK kvc ab 4 css::bt Ls.flatten) S w',
  fun i _=>ks.length - (intOf i).toNat,⟨0,_,[],[],Nat.zero_le _,rfl,Grown.nil _ _,hI⟩,?_⟩
 intro t7 _ _ _ _ _ _ _ _ _ _ _ _ _ _ _ _ _ _ _ w'
 rintro ⟨j,kvc,Ls,css,hj,rfl,hg,hI⟩
 refine ad hI 0 rfl al ah rfl ?_
 refine aC hks af ?_
 refine bq ?_
 refine aI (fun hji=>?_) (fun hji=>?_)
 ·have hj':j<ks.length:=by omega
  have hjl:(ks.take j).length=j:=by simp; omega
  have hcl:=hg.hc
  rw [kO,List.length_map] at hcl
  have hm:=List.getElem_mem hj'
  have hwm:=lD hm
  obtain ⟨b,o,cap,c,E,fz,rfl,hS,hR⟩:=hks.at_ hj'
  refine ⟨fun D lK gK gr lN iD ji nU j9 mD iE ia jM w_=>Fx D 0 [jM=.pointer (some ⟨b3,3,none⟩),ia=kvc,iE=.pointer (some ⟨b1,3,none⟩),mD=.slice (some ⟨b,o,none⟩) ks.length cap,j9=.int .i64 j,nU=.pointer (some ⟨b,o+j * 4,none⟩),ji=.agg (aH c (o+j * 4) 4).toArray,iD=.int .i64 m,True,True,True,lK=.pointer (some ⟨b3,3,none⟩),True]/\∃ M cs7 b8,(D 8=true->lN=.agg cs7.toArray/\TrT M cs7 (cK m ks[j]))/\(D 9=true->gr=.slice (some ⟨b8,0,none⟩) 1 1)/\(D 9=true->D 8=true)/\(D 10=true->D 9=true)/\(D 12=true->D 10=true)/\(D 12=true->D 1=true)/\Inv w [] (bi (.blk b1 (.cells #[.int .i64 k,.int .i64 n,.string s,.slice (some ⟨b,o,none⟩) ks.length cap] ab)) (.blk b2 (.cells #[.int .i64 0,.int .i64 0,.string ⟨#[]⟩,.slice none 0 0] ab)) (.blk b3 (.cells #[.int .i64 k,.int .i64 cur,.string s,kvc] ab)) (.blk b3 (.cells #[.int .i64 k,.int .i64 cur,.string s,gK] ab)) (aK kvc ab 4 css) (aK gK ab 4 (css++[cs7])) (bt Ls.flatten) M (.blk b8 (.cells cs7.toArray ab)) (D 8) (D 9) (D 10) (D 12)) S w_,⟨Fx.nil _ _,⟨[],[],0,aV,aV,aV,aV,aV,aV,by simpa [bi,bt] using hI.draw⟩⟩,⟨?_,?_,?_,?_,?_,?_,?_,?_,?_,?_,?_,?_,?_,trivial⟩,?_⟩
  all_goals (intro D bn; intros; rename_i lK gK gr lN iD ji nU j9 mD iE ia jM w_ hA_; have hF_:=hA_.1; obtain ⟨⟨bR,bQ,bG,bS,bU,bB,bD,cq,ci,cL,bH,bT,cH,_⟩,⟨M,cs7,b8,e7,e8,k8,k9,k11,k1,hI⟩⟩:=hA_)
  ·refine ai al ?_
   exact ⟨hF_.set 0 rfl,⟨M,cs7,b8,e7,e8,k8,k9,k11,k1,hI⟩⟩
  ·obtain rfl:=bR ‹_›
   have f11:D 12=false:=Bool.eq_false_iff.2 fun h=>by rw [k1 h] at bn; cases bn
   refine aA (b:=b3) hI 2 (c:=(#[.int .i64 k,.int .i64 cur,.string s,kvc])) ah (by rw [f11]; rfl) rfl ?_
   have k1:=fun (_:aG D 1 12=true)=>(rfl:aG D 1 1=true)
   exact ⟨hF_.set 1 rfl,⟨M,cs7,b8,e7,e8,k8,k9,k11,k1,hI⟩⟩
  ·refine ai al ?_
   exact ⟨hF_.set 2 rfl,⟨M,cs7,b8,e7,e8,k8,k9,k11,k1,hI⟩⟩
  ·obtain rfl:=bG ‹_›
   refine aA hI 0 ah rfl rfl ?_
   exact ⟨hF_.set 3 rfl,⟨M,cs7,b8,e7,e8,k8,k9,k11,k1,hI⟩⟩
  ·exact ⟨hF_.set 4 rfl,⟨M,cs7,b8,e7,e8,k8,k9,k11,k1,hI⟩⟩
  ·obtain rfl:=bS ‹_›
   obtain rfl:=bU ‹_›
   refine ar af hj' ?_
   exact ⟨hF_.set 5 rfl,⟨M,cs7,b8,e7,e8,k8,k9,k11,k1,hI⟩⟩
  ·obtain rfl:=bB ‹_›
   refine bE ac hR.length (fun j v hj=>by rw [hI.cellS hS]; exact au rfl j v hj) ?_
   exact ⟨hF_.set 6 rfl,⟨M,cs7,b8,e7,e8,k8,k9,k11,k1,hI⟩⟩
  ·exact ⟨hF_.set 7 rfl,⟨M,cs7,b8,e7,e8,k8,k9,k11,k1,hI⟩⟩
  ·obtain rfl:=bD ‹_›
   obtain rfl:=cq ‹_›
   have f8:D 9=false:=Bool.eq_false_iff.2 fun h=>by rw [k8 h] at bn; cases bn
   have f9:D 10=false:=Bool.eq_false_iff.2 fun h=>by rw [k9 h] at f8; cases f8
   have f11:D 12=false:=Bool.eq_false_iff.2 fun h=>by rw [k11 h] at f9; cases f9
   rw [bn,f8,f9,f11] at hI
   refine Run.call0 oq oN hI (ih _ (List.getElem_mem hj') S _ hR (jr hou _ (List.getElem_mem hj')) (by omega)) fun v' I' S w_=>?_
   rintro ⟨rfl,cs7,M,rfl,rfl,hT⟩ _ hI
   have e7:aG D 8 8=true->Value.agg cs7.toArray=Value.agg cs7.toArray/\TrT M cs7 (cK m ks[j]):=fun _=>⟨rfl,hT⟩
   have k8:=fun (_:aG D 8 9=true)=>(rfl:aG D 8 8=true)
   have hI:Inv w [] (bi (.blk b1 (.cells #[.int .i64 k,.int .i64 n,.string s,.slice (some ⟨b,o,none⟩) ks.length cap] ab)) (.blk b2 (.cells #[.int .i64 0,.int .i64 0,.string ⟨#[]⟩,.slice none 0 0] ab)) (.blk b3 (.cells #[.int .i64 k,.int .i64 cur,.string s,kvc] ab)) (.blk b3 (.cells #[.int .i64 k,.int .i64 cur,.string s,gK] ab)) (aK kvc ab 4 css) (aK gK ab 4 (css++[cs7])) (bt Ls.flatten) M (.blk b8 (.cells cs7.toArray ab)) true (D 9) (D 10) (D 12)) S w_:=by
    rw [f8,f9,f11]
    simpa [bi] using hI
   exact ⟨hF_.set 8 (by first|assumption|trivial),⟨M,cs7,b8,e7,e8,k8,k9,k11,k1,hI⟩⟩
  ·have Dt:=ci ‹_›
   have f9:D 10=false:=Bool.eq_false_iff.2 fun h=>by rw [k9 h] at bn; cases bn
   have f11:D 12=false:=Bool.eq_false_iff.2 fun h=>by rw [k11 h] at f9; cases f9
   obtain ⟨q7,hT⟩:=e7 ‹D 8=true›
   subst q7
   rw [‹D 8=true›,bn,f9,f11] at hI
   refine dT hI bp (by simp [Value.cells,hT.length]) (by omega) (by omega) fun b8 w_ hI=>?_
   have e7:aG D 9 8=true->Value.agg cs7.toArray=Value.agg cs7.toArray/\TrT M cs7 (cK m ks[j]):=fun _=>⟨rfl,hT⟩
   have e8:=fun (_:aG D 9 9=true)=>(rfl:Value.slice (some ⟨b8,0,none⟩) 1 1=_)
   have k8:=fun (_:aG D 9 9=true)=>‹D 8=true›
   have k9:=fun (_:aG D 9 10=true)=>(rfl:aG D 9 9=true)
   have hI:Inv w [] (bi (.blk b1 (.cells #[.int .i64 k,.int .i64 n,.string s,.slice (some ⟨b,o,none⟩) ks.length cap] ab)) (.blk b2 (.cells #[.int .i64 0,.int .i64 0,.string ⟨#[]⟩,.slice none 0 0] ab)) (.blk b3 (.cells #[.int .i64 k,.int .i64 cur,.string s,kvc] ab)) (.blk b3 (.cells #[.int .i64 k,.int .i64 cur,.string s,gK] ab)) (aK kvc ab 4 css) (aK gK ab 4 (css++[cs7])) (bt Ls.flatten) M (.blk b8 (.cells cs7.toArray ab)) (D 8) true (D 10) (D 12)) S w_:=by
    rw [‹D 8=true›,f9,f11]
    simpa [bi,Value.cells] using hI
   exact ⟨hF_.set 9 (by first|assumption|trivial),⟨M,cs7,b8,e7,e8,k8,k9,k11,k1,hI⟩⟩
  ·obtain rfl:=bQ ‹_›
   have H9:=cL ‹_›
   have f11:D 12=false:=Bool.eq_false_iff.2 fun h=>by rw [k11 h] at bn; cases bn
   have q8:=e8 ‹D 9=true›
   subst q8
   obtain ⟨_,hT⟩:=e7 ‹D 8=true›
   rw [‹D 8=true›,‹D 9=true›,bn,f11] at hI
   have hblk:((bi (.blk b1 (.cells #[.int .i64 k,.int .i64 n,.string s,.slice (some ⟨b,o,none⟩) ks.length cap] ab)) (.blk b2 (.cells #[.int .i64 0,.int .i64 0,.string ⟨#[]⟩,.slice none 0 0] ab)) (.blk b3 (.cells #[.int .i64 k,.int .i64 cur,.string s,ia] ab)) (.blk b3 (.cells #[.int .i64 k,.int .i64 cur,.string s,gK] ab)) (aK ia ab 4 css) (aK gK ab 4 (css++[cs7])) (bt Ls.flatten) M (.blk b8 (.cells cs7.toArray ab)) true true false false))[4+(bt Ls.flatten).length+(bt M).length]?=some (.blk b8 (.cells cs7.toArray ab)):=by
    have e4:4+(bt Ls.flatten).length+(bt M).length=((bt Ls.flatten).length+(bt M).length)+1+1+1+1:=by omega
    rw [e4]
    simp only [bi,List.getElem?_cons_succ]
    rw [List.getElem?_append_right (by omega),Nat.add_sub_cancel_left,List.getElem?_append_right (Nat.le_refl _),Nat.sub_self]; rfl
   refine eU hI 3 cs7 bp (by omega) rfl (by rw [hT.length]) (m:=1) (o:=0) ?_ hT.one (by omega) (by omega) fun v' w_ hI=>?_
   ·intro i u hi
    rw [hI.cellL hblk,Nat.zero_add]
    simpa using hi
   rw [gB] at hI
   have k9:=fun (_:aG D 10 10=true)=>‹D 9=true›
   have k11:=fun (_:aG D 10 12=true)=>(rfl:aG D 10 10=true)
   have hI:Inv w [] (bi (.blk b1 (.cells #[.int .i64 k,.int .i64 n,.string s,.slice (some ⟨b,o,none⟩) ks.length cap] ab)) (.blk b2 (.cells #[.int .i64 0,.int .i64 0,.string ⟨#[]⟩,.slice none 0 0] ab)) (.blk b3 (.cells #[.int .i64 k,.int .i64 cur,.string s,ia] ab)) (.blk b3 (.cells #[.int .i64 k,.int .i64 cur,.string s,v'] ab)) (aK ia ab 4 css) (aK v' ab 4 (css++[cs7])) (bt Ls.flatten) M (.blk b8 (.cells cs7.toArray ab)) (D 8) (D 9) true (D 12)) S w_:=by
    rw [‹D 8=true›,‹D 9=true›,f11]
    exact hI
   exact ⟨hF_.set 10 (by first|assumption|trivial),⟨M,cs7,b8,e7,e8,k8,k9,k11,k1,hI⟩⟩
  ·refine ai al ?_
   exact ⟨hF_.set 11 rfl,⟨M,cs7,b8,e7,e8,k8,k9,k11,k1,hI⟩⟩
  ·obtain rfl:=bT ‹_›
   have wB:=bH ‹_›
   rw [‹D 8=true›,‹D 9=true›,‹D 10=true›,bn] at hI
   obtain ⟨va,vn,vc,hv9⟩:=Inv.rowSlice hI 3 rfl
   refine dA hI 2 (n:=1) (by rw [hv9]; rfl) (by decide +kernel) rfl (by simp) (by rw [hv9]; simp [Value.cells,Value.oneCell']) fun w_ hI=>?_
   have hcl9:Value.cells gK=#[gK]:=by rw [hv9]; rfl
   rw [hcl9] at hI
   have k1:=fun (_:aG D 12 12=true)=>‹D 1=true›
   have k11:=fun (_:aG D 12 12=true)=>‹D 10=true›
   have hI:Inv w [] (bi (.blk b1 (.cells #[.int .i64 k,.int .i64 n,.string s,.slice (some ⟨b,o,none⟩) ks.length cap] ab)) (.blk b2 (.cells #[.int .i64 0,.int .i64 0,.string ⟨#[]⟩,.slice none 0 0] ab)) (.blk b3 (.cells #[.int .i64 k,.int .i64 cur,.string s,kvc] ab)) (.blk b3 (.cells #[.int .i64 k,.int .i64 cur,.string s,gK] ab)) (aK kvc ab 4 css) (aK gK ab 4 (css++[cs7])) (bt Ls.flatten) M (.blk b8 (.cells cs7.toArray ab)) (D 8) (D 9) (D 10) true) S w_:=by
    rw [‹D 8=true›,‹D 9=true›,‹D 10=true›]
    exact hI
   exact ⟨hF_.set 12 trivial,⟨M,cs7,b8,e7,e8,k8,k9,k11,k1,hI⟩⟩
  obtain ⟨rfl,rfl,rfl,rfl,rfl,rfl,rfl,rfl,Dt,H9,wB,rfl,_,_⟩:=hF_.all
  have A8:D 8=true:=by assumption
  have Hq:D 9=true:=by assumption
  have xI:D 10=true:=by assumption
  have KS:D 12=true:=by assumption
  clear hF_ bR bQ bG bS bU bB bD cq ci cL bH bT cH
  obtain ⟨_,hT⟩:=e7 A8
  rw [A8,Hq,xI,KS] at hI
  refine bl (by omega) ?_
  refine ⟨⟨j+1,gK,Ls++[M],css++[cs7],hj',rfl,?_,?_⟩,by simp [intOf]; omega⟩
  ·rw [JY m ks j hj']
   exact hg.snoc hT hT.length
  ·simp only [List.flatten_append,List.flatten_cons,List.flatten_nil,List.append_nil,eK]
   refine hI.sub ?_
   simp only [bi]
   rw [<- List.append_assoc]
   exact (((List.sublist_append_left _ _).cons_cons _).cons_cons _).cons_cons _ |>.cons_cons _
 ·have:j=ks.length:=by omega
  subst this
  rw [List.take_length] at hg
  obtain ⟨va,vn,vc,hvk⟩:=hI.rowSlice 3 rfl
  have hv1:kvc.oneCell'=true:=by rw [hvk]; rfl
  refine ao hI 2 ac rfl rfl ?_
  refine aq hI 1 rfl ac rfl rfl ?_ fun w' hI=>?_
  ·intro u hu
   have hu':u∈([.int .i64 k,.int .i64 cur,.string s,kvc]:List Value):=hu
   simp at hu'
   rcases hu' with rfl|rfl|rfl|rfl <;> first|rfl|exact hv1
  refine aU hI 1 ac rfl rfl ?_
  have hI:Inv w [] ([]++(aK kvc ab 4 css::bt Ls.flatten)) S w':=hI.sub (List.sublist_append_right [_,_,_] _)
  obtain ⟨L,hT,hI⟩:=Inv.rowTree hI hg
  exact ⟨_,_,_,rfl,hI,Ext.refl _ _ _,rfl,_,L,rfl,rfl,TrT.iff.2 ⟨kvc,by rw [cK,<- hcur]; rfl,by rw [cK]; exact h1,by rw [cK,<- hcur]; exact hci,by rw [cK]; exact hs,by rw [cK]; exact hT⟩⟩
end
end
end Go.Proofs.YtfcbhfjomgopbaaGreat
