/- spec.RenumberClause. -/
import Derived.Test.YtbocelianhcfmaaGreatDoorZEg10
import Derived.Test.YtbocelianhcfmaaGreatDoorZEg12
import Derived.Test.YtbocelianhcfmaaGreatDoorZEg5
import Derived.Test.YtbocelianhcfmaaGreatDoorZEg2
import Derived.Test.YtbocelianhcfmaaGreatDoorZEg11
namespace Go.Proofs.YtbocelianhcfmaaGreatDoor
section
open Go Go.RowKit
section
attribute [local irreducible] Run CondV ar aI
theorem LI {vs:List Int} {n:Int} (hn:inI n) (hl:vs.length<=1000000000):inI (p8 vs n n 0):=by
 rcases Bx vs n n 0 with h|h
 ·rw [h]; exact hn
 ·simp only [inI] at hn ⊢; omega
theorem zU (vs:List Int) (hvl:vs.length<=1000000000):∀ (t:T) (S:ae) (cs:List Value) (v:Value),RdT S cs t->RdSl S 1 gz v vs->wT t<=1048576->Tri Tryz.prog D8 [.agg cs.toArray,v] [] S (BU S (fw vs t)):=by
 refine T.ind fun k n s ks ih S cs v h hv hw=>?_
 intro w hI
 obtain ⟨kv,rfl,h1,h2,hs,hks⟩:=RdT.iff.1 h
 simp only [T.name,T.kids,T.kind,T.n] at h1 h2 hs hks ⊢
 simp only [wT] at hw
 obtain ⟨N,hN⟩:∃ N,N=if k=1 then p8 vs n n 0 else n:=⟨_,rfl⟩
 have hNi:inI N:=by
  rw [hN]
  split
  ·exact LI h2 hvl
  ·exact h2
 refine qf.2 ?_
 dsimp only[qf,aY]
 refine be hI fun b1 w' hI=>?_
 refine aA hI aU fun b2 w' hI=>?_
 refine ad hI 0 rfl aM aw rfl ?_
 refine ad hI 0 rfl aR aw rfl ?_
 refine ad hI 0 rfl aH aC rfl ?_
 refine ip ?_
 refine aA hI aU fun b3 w' hI=>?_
 refine aj hI 2 rfl ac rfl rfl (by simp [Value.oneCell']) fun w' hI=>?_
 refine ⟨fun i w'=>∃ (j:Nat) (cur:Int),j<=vs.length/\i=.int .i64 j/\(if k=1 then p8 (vs.drop j) n cur j else cur)=N/\
   Inv w [] [.blk b1 (.cells #[.int .i64 k,.int .i64 n,.string s,kv] ab),.blk b2 (.cells #[.int .i64 0,.int .i64 0,.string ⟨#[]⟩,.slice none 0 0] ab),.blk b3 (.cells #[.int .i64 k,.int .i64 cur,.string s,.slice none 0 0] ab)] S w',
  fun i _=>vs.length - (intOf i).toNat,⟨0,n,Nat.zero_le _,rfl,hN.symm,hI⟩,?_⟩
 intro t6 _ _ _ _ _ _ _ _ _ _ _ _ _ _ _ _ _ _ _ _ w'
 rintro ⟨j,cur,hj,rfl,hrel,hI⟩
 refine ⟨fun t w'=>t=.bool (decide (j<vs.length) && decide (k=1))/\Inv w [] [.blk b1 (.cells #[.int .i64 k,.int .i64 n,.string s,kv] ab),.blk b2 (.cells #[.int .i64 0,.int .i64 0,.string ⟨#[]⟩,.slice none 0 0] ab),.blk b3 (.cells #[.int .i64 k,.int .i64 cur,.string s,.slice none 0 0] ab)] S w',?_,?_⟩
 ·refine aK hv cW ?_
  refine bD ?_
  by_cases hji:j<vs.length
  ·rw [decide_eq_true (show (j:Int)<(vs.length:Int) by omega)]
   refine rpG ?_
   refine ad hI 0 rfl aM aw rfl ?_
   refine bh ?_
   refine rpG ?_
   exact ⟨by rw [decide_eq_true hji]; rfl,hI⟩
  ·rw [decide_eq_false (show ¬ (j:Int)<(vs.length:Int) by omega)]
   refine rpG ?_
   exact ⟨by rw [decide_eq_false hji]; rfl,hI⟩
 intro t _ _ _ _ _ _ _ _ w'
 rintro ⟨rfl,hI⟩
 refine av (fun hb=>?_) (fun hb=>?_)
 ·simp only [Bool.and_eq_true,decide_eq_true_eq] at hb
  obtain ⟨hji,hk⟩:=hb
  rw [if_pos hk,List.drop_eq_getElem_cons hji,p8] at hrel
  refine ⟨fun w'=>Inv w [] [.blk b1 (.cells #[.int .i64 k,.int .i64 n,.string s,kv] ab),.blk b2 (.cells #[.int .i64 0,.int .i64 0,.string ⟨#[]⟩,.slice none 0 0] ab),.blk b3 (.cells #[.int .i64 k,.int .i64 (if vs[j]=n then (j:Int) else cur),.string s,.slice none 0 0] ab)] S w',?_,?_⟩
  ·obtain ⟨b,o,cap,c,E,fz,rfl,hS,hR⟩:=hv.at_ hji
   refine ⟨fun D mP iM ia iF fC kl lf w_=>Fx D 0 [lf=.slice (some ⟨b,o,none⟩) vs.length cap,kl=.int .i64 j,fC=.pointer (some ⟨b,o+j * 1,none⟩),iF=.int .i64 vs[j],ia=.pointer (some ⟨b1,1,none⟩),iM=.int .i64 n,mP=.bool (decide (vs[j]=n))]/\Inv w [] [.blk b1 (.cells #[.int .i64 k,.int .i64 n,.string s,kv] ab),.blk b2 (.cells #[.int .i64 0,.int .i64 0,.string ⟨#[]⟩,.slice none 0 0] ab),.blk b3 (.cells #[.int .i64 k,.int .i64 cur,.string s,.slice none 0 0] ab)] S w_,⟨Fx.nil _ _,hI.draw⟩,⟨?_,?_,?_,?_,?_,?_,?_,trivial⟩,?_⟩
   all_goals (intro D bw; intros; rename_i mP iM ia iF fC kl lf w_ hA_; have hF_:=hA_.1; obtain ⟨⟨bQ,bS,bU,bR,bY,bZ,bO,_⟩,hI⟩:=hA_)
   ·exact ⟨hF_.set 0 rfl,hI⟩
   ·exact ⟨hF_.set 1 rfl,hI⟩
   ·obtain rfl:=bQ ‹_›
    obtain rfl:=bS ‹_›
    refine ay cW hji ?_
    exact ⟨hF_.set 2 rfl,hI⟩
   ·obtain rfl:=bU ‹_›
    refine dd aw (by rw [hI.cellS hS]; exact aD hR 0 _ rfl) ?_
    exact ⟨hF_.set 3 rfl,hI⟩
   ·refine ao aR ?_
    exact ⟨hF_.set 4 rfl,hI⟩
   ·obtain rfl:=bY ‹_›
    refine ax hI 0 aw rfl rfl ?_
    exact ⟨hF_.set 5 rfl,hI⟩
   ·obtain rfl:=bR ‹_›
    obtain rfl:=bZ ‹_›
    refine bh ?_
    exact ⟨hF_.set 6 rfl,hI⟩
   obtain ⟨rfl,rfl,rfl,rfl,rfl,rfl,rfl,_⟩:=hF_.all
   clear hF_ bQ bS bU bR bY bZ bO
   refine aN (fun he=>?_) (fun he=>?_)
   ·rw [if_pos he]
    exact cP hI 2 rfl aR aw rfl rfl rfl fun w' hI=>hI
   ·rw [if_neg he]
    exact hI
  intro _ _ _ _ _ _ _ _ _ w' hI
  refine bm (by omega) ?_
  exact ⟨⟨j+1,_,hji,rfl,by rw [if_pos hk]; exact hrel,hI⟩,by simp [intOf]; omega⟩
 have hcur:cur=N:=by
  by_cases hk:k=1
  ·rw [if_pos hk] at hrel
   have:j=vs.length:=by
    have:decide (j<vs.length)=false:=by
     rw [decide_eq_true hk,Bool.and_true] at hb
     exact hb
    have:=of_decide_eq_false this
    omega
   rw [this,List.drop_length] at hrel
   exact hrel
  ·rw [if_neg hk] at hrel
   exact hrel
 clear hrel hb
 subst hcur
 have hI:=hI.rowNil ab 4
 refine ⟨fun i w'=>∃ (j:Nat) (kvc:Value) (Ls:List aV) (css:List (List Value)),j<=ks.length/\i=.int .i64 j/\Grown 4 TrT Ls css (kG vs (ks.take j))/\
   Inv w [] (.blk b1 (.cells #[.int .i64 k,.int .i64 n,.string s,kv] ab)::.blk b2 (.cells #[.int .i64 0,.int .i64 0,.string ⟨#[]⟩,.slice none 0 0] ab)::.blk b3 (.cells #[.int .i64 k,.int .i64 cur,.string s,kvc] ab)::aP kvc ab 4 css::bB Ls.flatten) S w',
  fun i _=>ks.length - (intOf i).toNat,⟨0,_,[],[],Nat.zero_le _,rfl,Grown.nil _ _,hI⟩,?_⟩
 intro t7 _ _ _ _ _ _ _ _ _ _ _ _ _ _ _ _ _ _ _ w'
 rintro ⟨j,kvc,Ls,css,hj,rfl,hg,hI⟩
 refine ad hI 0 rfl ak al rfl ?_
 refine aK hks ah ?_
 refine bD ?_
 refine aN (fun hji=>?_) (fun hji=>?_)
 ·have hj':j<ks.length:=by omega
  have hjl:(ks.take j).length=j:=by simp; omega
  have hcl:=hg.hc
  rw [uZ] at hcl
  have hm:=List.getElem_mem hj'
  have hwm:=kM hm
  obtain ⟨b,o,cap,c,E,fz,rfl,hS,hR⟩:=hks.at_ hj'
  refine ⟨fun D pu kq rq rP sg pK lW nU mf kB iE jb w_=>Fx D 0 [jb=.pointer (some ⟨b3,3,none⟩),iE=kvc,kB=.pointer (some ⟨b1,3,none⟩),mf=.slice (some ⟨b,o,none⟩) ks.length cap,nU=.int .i64 j,lW=.pointer (some ⟨b,o+j * 4,none⟩),pK=.agg (aL c (o+j * 4) 4).toArray,sg=v,True,True,True,pu=.pointer (some ⟨b3,3,none⟩),True]/\∃ M cs7 b8,(D 8=true->rP=.agg cs7.toArray/\TrT M cs7 (fw vs ks[j]))/\(D 9=true->rq=.slice (some ⟨b8,0,none⟩) 1 1)/\(D 9=true->D 8=true)/\(D 10=true->D 9=true)/\(D 12=true->D 10=true)/\(D 12=true->D 1=true)/\Inv w [] (bg (.blk b1 (.cells #[.int .i64 k,.int .i64 n,.string s,.slice (some ⟨b,o,none⟩) ks.length cap] ab)) (.blk b2 (.cells #[.int .i64 0,.int .i64 0,.string ⟨#[]⟩,.slice none 0 0] ab)) (.blk b3 (.cells #[.int .i64 k,.int .i64 cur,.string s,kvc] ab)) (.blk b3 (.cells #[.int .i64 k,.int .i64 cur,.string s,kq] ab)) (aP kvc ab 4 css) (aP kq ab 4 (css++[cs7])) (bB Ls.flatten) M (.blk b8 (.cells cs7.toArray ab)) (D 8) (D 9) (D 10) (D 12)) S w_,⟨Fx.nil _ _,⟨[],[],0,aT,aT,aT,aT,aT,aT,by simpa [bg,bB] using hI.draw⟩⟩,⟨?_,?_,?_,?_,?_,?_,?_,?_,?_,?_,?_,?_,?_,trivial⟩,?_⟩
  all_goals (intro D bw; intros; rename_i pu kq rq rP sg pK lW nU mf kB iE jb w_ hA_; have hF_:=hA_.1; obtain ⟨⟨bQ,bS,bU,bR,bY,bZ,bO,cG,cS,cT,bL,co,cO,_⟩,⟨M,cs7,b8,e7,e8,k8,k9,k11,k1,hI⟩⟩:=hA_)
  ·refine ao ak ?_
   exact ⟨hF_.set 0 rfl,⟨M,cs7,b8,e7,e8,k8,k9,k11,k1,hI⟩⟩
  ·obtain rfl:=bQ ‹_›
   have f11:D 12=false:=Bool.eq_false_iff.2 fun h=>by rw [k1 h] at bw; cases bw
   refine ax (b:=b3) hI 2 (c:=(#[.int .i64 k,.int .i64 cur,.string s,kvc])) al (by rw [f11]; rfl) rfl ?_
   have k1:=fun (_:aB D 1 12=true)=>(rfl:aB D 1 1=true)
   exact ⟨hF_.set 1 rfl,⟨M,cs7,b8,e7,e8,k8,k9,k11,k1,hI⟩⟩
  ·refine ao ak ?_
   exact ⟨hF_.set 2 rfl,⟨M,cs7,b8,e7,e8,k8,k9,k11,k1,hI⟩⟩
  ·obtain rfl:=bU ‹_›
   refine ax hI 0 al rfl rfl ?_
   exact ⟨hF_.set 3 rfl,⟨M,cs7,b8,e7,e8,k8,k9,k11,k1,hI⟩⟩
  ·exact ⟨hF_.set 4 rfl,⟨M,cs7,b8,e7,e8,k8,k9,k11,k1,hI⟩⟩
  ·obtain rfl:=bR ‹_›
   obtain rfl:=bY ‹_›
   refine ay ah hj' ?_
   exact ⟨hF_.set 5 rfl,⟨M,cs7,b8,e7,e8,k8,k9,k11,k1,hI⟩⟩
  ·obtain rfl:=bZ ‹_›
   refine ci ac hR.length (fun j v hj=>by rw [hI.cellS hS]; exact aD rfl j v hj) ?_
   exact ⟨hF_.set 6 rfl,⟨M,cs7,b8,e7,e8,k8,k9,k11,k1,hI⟩⟩
  ·exact ⟨hF_.set 7 rfl,⟨M,cs7,b8,e7,e8,k8,k9,k11,k1,hI⟩⟩
  ·obtain rfl:=bO ‹_›
   obtain rfl:=cG ‹_›
   have f8:D 9=false:=Bool.eq_false_iff.2 fun h=>by rw [k8 h] at bw; cases bw
   have f9:D 10=false:=Bool.eq_false_iff.2 fun h=>by rw [k9 h] at f8; cases f8
   have f11:D 12=false:=Bool.eq_false_iff.2 fun h=>by rw [k11 h] at f9; cases f9
   rw [bw,f8,f9,f11] at hI
   refine Run.call0 p7 qh hI (ih _ (List.getElem_mem hj') S _ _ hR hv (by omega)) fun v' I' S w_=>?_
   rintro ⟨rfl,cs7,M,rfl,rfl,hT⟩ _ hI
   have e7:aB D 8 8=true->Value.agg cs7.toArray=Value.agg cs7.toArray/\TrT M cs7 (fw vs ks[j]):=fun _=>⟨rfl,hT⟩
   have k8:=fun (_:aB D 8 9=true)=>(rfl:aB D 8 8=true)
   have hI:Inv w [] (bg (.blk b1 (.cells #[.int .i64 k,.int .i64 n,.string s,.slice (some ⟨b,o,none⟩) ks.length cap] ab)) (.blk b2 (.cells #[.int .i64 0,.int .i64 0,.string ⟨#[]⟩,.slice none 0 0] ab)) (.blk b3 (.cells #[.int .i64 k,.int .i64 cur,.string s,kvc] ab)) (.blk b3 (.cells #[.int .i64 k,.int .i64 cur,.string s,kq] ab)) (aP kvc ab 4 css) (aP kq ab 4 (css++[cs7])) (bB Ls.flatten) M (.blk b8 (.cells cs7.toArray ab)) true (D 9) (D 10) (D 12)) S w_:=by
    rw [f8,f9,f11]
    simpa [bg] using hI
   exact ⟨hF_.set 8 (by first|assumption|trivial),⟨M,cs7,b8,e7,e8,k8,k9,k11,k1,hI⟩⟩
  ·have Bo:=cS ‹_›
   have f9:D 10=false:=Bool.eq_false_iff.2 fun h=>by rw [k9 h] at bw; cases bw
   have f11:D 12=false:=Bool.eq_false_iff.2 fun h=>by rw [k11 h] at f9; cases f9
   obtain ⟨q7,hT⟩:=e7 ‹D 8=true›
   subst q7
   rw [‹D 8=true›,bw,f9,f11] at hI
   refine dH hI bj (by simp [Value.cells,hT.length]) (by omega) (by omega) fun b8 w_ hI=>?_
   have e7:aB D 9 8=true->Value.agg cs7.toArray=Value.agg cs7.toArray/\TrT M cs7 (fw vs ks[j]):=fun _=>⟨rfl,hT⟩
   have e8:=fun (_:aB D 9 9=true)=>(rfl:Value.slice (some ⟨b8,0,none⟩) 1 1=_)
   have k8:=fun (_:aB D 9 9=true)=>‹D 8=true›
   have k9:=fun (_:aB D 9 10=true)=>(rfl:aB D 9 9=true)
   have hI:Inv w [] (bg (.blk b1 (.cells #[.int .i64 k,.int .i64 n,.string s,.slice (some ⟨b,o,none⟩) ks.length cap] ab)) (.blk b2 (.cells #[.int .i64 0,.int .i64 0,.string ⟨#[]⟩,.slice none 0 0] ab)) (.blk b3 (.cells #[.int .i64 k,.int .i64 cur,.string s,kvc] ab)) (.blk b3 (.cells #[.int .i64 k,.int .i64 cur,.string s,kq] ab)) (aP kvc ab 4 css) (aP kq ab 4 (css++[cs7])) (bB Ls.flatten) M (.blk b8 (.cells cs7.toArray ab)) (D 8) true (D 10) (D 12)) S w_:=by
    rw [‹D 8=true›,f9,f11]
    simpa [bg,Value.cells] using hI
   exact ⟨hF_.set 9 (by first|assumption|trivial),⟨M,cs7,b8,e7,e8,k8,k9,k11,k1,hI⟩⟩
  ·obtain rfl:=bS ‹_›
   have GP:=cT ‹_›
   have f11:D 12=false:=Bool.eq_false_iff.2 fun h=>by rw [k11 h] at bw; cases bw
   have q8:=e8 ‹D 9=true›
   subst q8
   obtain ⟨_,hT⟩:=e7 ‹D 8=true›
   rw [‹D 8=true›,‹D 9=true›,bw,f11] at hI
   have hblk:((bg (.blk b1 (.cells #[.int .i64 k,.int .i64 n,.string s,.slice (some ⟨b,o,none⟩) ks.length cap] ab)) (.blk b2 (.cells #[.int .i64 0,.int .i64 0,.string ⟨#[]⟩,.slice none 0 0] ab)) (.blk b3 (.cells #[.int .i64 k,.int .i64 cur,.string s,iE] ab)) (.blk b3 (.cells #[.int .i64 k,.int .i64 cur,.string s,kq] ab)) (aP iE ab 4 css) (aP kq ab 4 (css++[cs7])) (bB Ls.flatten) M (.blk b8 (.cells cs7.toArray ab)) true true false false))[4+(bB Ls.flatten).length+(bB M).length]?=some (.blk b8 (.cells cs7.toArray ab)):=by
    have e4:4+(bB Ls.flatten).length+(bB M).length=((bB Ls.flatten).length+(bB M).length)+1+1+1+1:=by omega
    rw [e4]
    simp only [bg,List.getElem?_cons_succ]
    rw [List.getElem?_append_right (by omega),Nat.add_sub_cancel_left,List.getElem?_append_right (Nat.le_refl _),Nat.sub_self]; rfl
   refine eZ hI 3 cs7 bj (by omega) rfl (by rw [hT.length]) (m:=1) (o:=0) ?_ hT.one (by omega) (by omega) fun v' w_ hI=>?_
   ·intro i u hi
    rw [hI.cellL hblk,Nat.zero_add]
    simpa using hi
   rw [fS] at hI
   have k9:=fun (_:aB D 10 10=true)=>‹D 9=true›
   have k11:=fun (_:aB D 10 12=true)=>(rfl:aB D 10 10=true)
   have hI:Inv w [] (bg (.blk b1 (.cells #[.int .i64 k,.int .i64 n,.string s,.slice (some ⟨b,o,none⟩) ks.length cap] ab)) (.blk b2 (.cells #[.int .i64 0,.int .i64 0,.string ⟨#[]⟩,.slice none 0 0] ab)) (.blk b3 (.cells #[.int .i64 k,.int .i64 cur,.string s,iE] ab)) (.blk b3 (.cells #[.int .i64 k,.int .i64 cur,.string s,v'] ab)) (aP iE ab 4 css) (aP v' ab 4 (css++[cs7])) (bB Ls.flatten) M (.blk b8 (.cells cs7.toArray ab)) (D 8) (D 9) true (D 12)) S w_:=by
    rw [‹D 8=true›,‹D 9=true›,f11]
    exact hI
   exact ⟨hF_.set 10 (by first|assumption|trivial),⟨M,cs7,b8,e7,e8,k8,k9,k11,k1,hI⟩⟩
  ·refine ao ak ?_
   exact ⟨hF_.set 11 rfl,⟨M,cs7,b8,e7,e8,k8,k9,k11,k1,hI⟩⟩
  ·obtain rfl:=co ‹_›
   have xG:=bL ‹_›
   rw [‹D 8=true›,‹D 9=true›,‹D 10=true›,bw] at hI
   obtain ⟨va,vn,vc,hv9⟩:=Inv.rowSlice hI 3 rfl
   refine dB hI 2 (n:=1) (by rw [hv9]; rfl) (by decide +kernel) rfl (by simp) (by rw [hv9]; simp [Value.cells,Value.oneCell']) fun w_ hI=>?_
   have hcl9:Value.cells kq=#[kq]:=by rw [hv9]; rfl
   rw [hcl9] at hI
   have k1:=fun (_:aB D 12 12=true)=>‹D 1=true›
   have k11:=fun (_:aB D 12 12=true)=>‹D 10=true›
   have hI:Inv w [] (bg (.blk b1 (.cells #[.int .i64 k,.int .i64 n,.string s,.slice (some ⟨b,o,none⟩) ks.length cap] ab)) (.blk b2 (.cells #[.int .i64 0,.int .i64 0,.string ⟨#[]⟩,.slice none 0 0] ab)) (.blk b3 (.cells #[.int .i64 k,.int .i64 cur,.string s,kvc] ab)) (.blk b3 (.cells #[.int .i64 k,.int .i64 cur,.string s,kq] ab)) (aP kvc ab 4 css) (aP kq ab 4 (css++[cs7])) (bB Ls.flatten) M (.blk b8 (.cells cs7.toArray ab)) (D 8) (D 9) (D 10) true) S w_:=by
    rw [‹D 8=true›,‹D 9=true›,‹D 10=true›]
    exact hI
   exact ⟨hF_.set 12 trivial,⟨M,cs7,b8,e7,e8,k8,k9,k11,k1,hI⟩⟩
  obtain ⟨rfl,rfl,rfl,rfl,rfl,rfl,rfl,rfl,Bo,GP,xG,rfl,_,_⟩:=hF_.all
  have z8:D 8=true:=by assumption
  have Fk:D 9=true:=by assumption
  have Ac:D 10=true:=by assumption
  have IM:D 12=true:=by assumption
  clear hF_ bQ bS bU bR bY bZ bO cG cS cT bL co cO
  obtain ⟨_,hT⟩:=e7 z8
  rw [z8,Fk,Ac,IM] at hI
  refine bm (by omega) ?_
  refine ⟨⟨j+1,kq,Ls++[M],css++[cs7],hj',rfl,?_,?_⟩,by simp [intOf]; omega⟩
  ·rw [HZ vs ks j hj']
   exact hg.snoc hT hT.length
  ·simp only [List.flatten_append,List.flatten_cons,List.flatten_nil,List.append_nil,fj]
   refine hI.sub ?_
   simp only [bg]
   rw [<- List.append_assoc]
   exact (((List.sublist_append_left _ _).cons_cons _).cons_cons _).cons_cons _ |>.cons_cons _
 ·have:j=ks.length:=by omega
  subst this
  rw [List.take_length] at hg
  obtain ⟨va,vn,vc,hvk⟩:=hI.rowSlice 3 rfl
  have hv1:kvc.oneCell'=true:=by rw [hvk]; rfl
  refine ag hI 2 ac rfl rfl ?_
  refine aj hI 1 rfl ac rfl rfl ?_ fun w' hI=>?_
  ·intro u hu
   have hu':u∈([.int .i64 k,.int .i64 cur,.string s,kvc]:List Value):=hu
   simp at hu'
   rcases hu' with rfl|rfl|rfl|rfl <;> first|rfl|exact hv1
  refine aS hI 1 ac rfl rfl ?_
  have hI:Inv w [] ([]++(aP kvc ab 4 css::bB Ls.flatten)) S w':=hI.sub (List.sublist_append_right [_,_,_] _)
  obtain ⟨L,hT,hI⟩:=Inv.rowTree hI hg
  exact ⟨_,_,_,rfl,hI,Ext.refl _ _ _,rfl,_,L,rfl,rfl,TrT.iff.2 ⟨kvc,by rw [fw,<- hN]; rfl,by rw [fw]; exact h1,by rw [fw,<- hN]; exact hNi,by rw [fw]; exact hs,by rw [fw]; exact hT⟩⟩
end
end
section
open Go Go.RowKit
section
variable {w:World} {K:Value->World->Prop}
attribute [local irreducible] Run
end
theorem Fg (ts:List T) (j:Nat) (h:j<ts.length) (l:List Int):cB (ts.drop j) l=cB (ts.drop (j+1)) (dZ ts[j] l):=by
 rw [List.drop_eq_getElem_cons h,cB]
section
attribute [local irreducible] Run CondV ar aI
theorem RdC.zero (S:ae):RdC S [.int .i64 0,.int .i64 0,.string ⟨#[]⟩,.slice none 0 0,.slice none 0 0] ⟨⟨0,0,⟨#[]⟩,[]⟩,[]⟩:=
 ⟨[.int .i64 0,.int .i64 0,.string ⟨#[]⟩,.slice none 0 0],.slice none 0 0,rfl,RdT.iff.2 ⟨_,rfl,by simp [inI,T.kind],by simp [inI,T.n],by rw [T.name]; decide +kernel,⟨none,0,rfl,Nat.le_refl _,Nat.zero_le _,.inl rfl⟩⟩,⟨none,0,rfl,Nat.le_refl _,Nat.zero_le _,.inl rfl⟩⟩
end
end
section
open Go Go.RowKit
mutual
def rD:T->Int->Bool
 | .mk _ _ _ ks,d=>if d<1 then false else NH ks (d - 1)
def NH:List T->Int->Bool
 | [],_=>true
 | t::ts,d=>rD t d && NH ts d
end
theorem FT:∀ (ts:List T) (d:Int),NH ts d=ts.all fun t=>rD t d
 | [],_=>rfl
 | t::ts,d=>by rw [NH,FT ts d]; rfl
def ch (u:T):Bool:=decide (dl u<=120) && rD u 30
theorem Kg (us:List T) (j:Nat) (h:j<us.length):cL (us.take (j+1))=cL (us.take j)+dl us[j]:=by
 induction us generalizing j with
 | nil=>simp at h
 | cons u us ih=>
  cases j with
  | zero=>simp only [List.take_succ_cons,List.take_zero,List.getElem_cons_zero,cL]; omega
  | succ j=>
   have:=ih j (by simpa using h)
   simp only [List.take_succ_cons,List.getElem_cons_succ,cL] at *
   omega
theorem CD (us:List T) (j:Nat):cL (us.take j)<=cL us:=by
 induction us generalizing j with
 | nil=>simp
 | cons u us ih=>
  cases j with
  | zero=>simp only [List.take_zero]; exact dS _
  | succ j=>
   have:=ih j
   simp only [List.take_succ_cons,cL]
   omega
theorem oU (k n:Int) (s:ByteArray) (ks:List T):dl (.mk k n s ks)=1+cL ks:=rfl
theorem yy {w:World} {v:Value} {e:TypeId} {k n:Nat} {xs:List Value} (h:(Item.row v e k n xs).holds w):v.cells=#[v]/\v.oneCell'=true:=by
 have h:w.ownsRow 0 e k v n xs:=h
 rcases h.2 with ⟨rfl,_⟩|⟨g,cap,cur,rfl,_⟩ <;> exact ⟨rfl,rfl⟩
section
attribute [local irreducible] Run CondV ar aI
theorem iX {K:Value->World->Prop} {w:World} (hk:K (.agg #[.int .i64 0,.int .i64 0,.string ⟨#[]⟩,.slice none 0 0]) w):Run Tryz.prog (bI ab []) w K:=by
 refine Run.of ?_ hk
 kernel_rfl
theorem DX:∀ (t:T) (d:Int) (S:ae) (cs:List Value),RdT S cs t->-1000000<=d->d<=1000000->Pure Tryz.prog HB [.agg cs.toArray,.int .i64 d] S (.bool (rD t d)):=by
 refine T.ind fun k n s ks ih d S cs h hd0 hd1=>?_
 intro w hI
 obtain ⟨kv,rfl,_,_,_,hks⟩:=RdT.iff.1 h
 simp only [T.name,T.kids,T.kind,T.n] at hks ⊢
 have hlen:=hks.le
 simp only [maxLen] at hlen
 refine wx.2 ?_
 dsimp only[wx,aY]
 refine be hI fun b2 w' hI=>?_
 rw [rD]
 refine bD ?_
 refine aN (fun hd=>?_) (fun hd=>?_)
 ·rw [if_pos hd]
  exact done hI rfl
 rw [if_neg hd,FT]
 refine ⟨fun i w'=>∃ j:Nat,j<=ks.length/\i=.int .i64 j/\((ks.drop j).all fun t=>rD t (d - 1))=(ks.all fun t=>rD t (d - 1))/\Inv w [] [.blk b2 (.cells #[.int .i64 k,.int .i64 n,.string s,kv] ab)] S w',
  fun i _=>ks.length - (intOf i).toNat,⟨0,Nat.zero_le _,rfl,rfl,hI⟩,?_⟩
 intro t5 _ _ _ _ _ _ _ _ _ _ _ _ _ _ _ _ _ w'
 rintro ⟨j,hj,rfl,hrel,hI⟩
 refine ad hI 0 rfl ak al rfl ?_
 refine aK hks ah ?_
 refine bD ?_
 refine aN (fun hji=>?_) (fun hji=>?_)
 ·have hj':j<ks.length:=by omega
  have hstep:=yI (fun t=>rD t (d - 1)) ks j hj'
  refine ad hI 0 rfl ak al rfl ?_
  refine bP hI hks ah ac hj' (fun _ _=>RdT.length) fun cs hcs=>?_
  refine gy (by omega) ?_
  refine Run.callPure wK wJ hI (ih _ (List.getElem_mem hj') (d - 1) S cs hcs (by omega) (by omega)) fun w' hI=>?_
  refine bW ?_
  refine av (fun hne=>done hI ?_) (fun he=>?_)
  ·have hne':rD ks[j] (d - 1)=false:=by simpa using hne
   rw [<- hrel,hstep,hne']; rfl
  ·have he':rD ks[j] (d - 1)=true:=by simpa using he
   refine bm (by omega) ?_
   exact ⟨⟨j+1,hj',rfl,by rw [<- hrel,hstep,he']; rfl,hI⟩,by simp [intOf]; omega⟩
 ·have:j=ks.length:=by omega
  subst this
  exact done hI (by rw [<- hrel,List.drop_length]; rfl)
theorem EG:∀ x∈([.int .i64 0,.int .i64 0,.string ⟨#[]⟩,.slice none 0 0]:List Value),x.oneCell'=true:=by simp [Value.oneCell']
end
end
section
open Go Go.RowKit
mutual
def bT (m:Int):T->T
 | .mk k n s ks=>.mk k (if k=1 then n+m else n) s (fe m ks)
def fe (m:Int):List T->List T
 | []=>[]
 | t::ts=>bT m t::fe m ts
end
theorem jH (m:Int):∀ ts:List T,fe m ts=ts.map (bT m)
 | []=>rfl
 | t::ts=>by rw [fe,jH m ts]; rfl
theorem Gy (m:Int) (ks:List T) (j:Nat) (h:j<ks.length):fe m (ks.take (j+1))=fe m (ks.take j)++[bT m ks[j]]:=by
 rw [jH,jH,List.take_succ_eq_append_getElem h,List.map_append]; rfl
section
attribute [local irreducible] Run CondV ar aI
theorem pM {N:Nat} (hN:N<=1000000) (m:Int) (hm0:0<=m) (hm1:m<=1000000):∀ (t:T) (S:ae) (cs:List Value),RdT S cs t->okU N t->wT t<=1048576->Tri Tryz.prog Gv [.agg cs.toArray,.int .i64 m] [] S (BU S (bT m t)):=by
 refine T.ind fun k n s ks ih S cs h hou hw=>?_
 intro w hI
 obtain ⟨kv,rfl,h1,h2,hs,hks⟩:=RdT.iff.1 h
 simp only [T.name,T.kids,T.kind,T.n] at h1 h2 hs hks ⊢
 simp only [wT] at hw
 rw [okU] at hou
 obtain ⟨_,hvar,hou,_⟩:=hou
 obtain ⟨cur,hcur⟩:∃ cur,cur=if k=1 then n+m else n:=⟨_,rfl⟩
 have hci:inI cur:=by
  rw [hcur]
  split
  ·have:=hvar (by assumption)
   simp only [inI]
   omega
  ·exact h2
 refine rB.2 ?_
 dsimp only[rB,aY]
 refine be hI fun b1 w' hI=>?_
 refine aA hI aU fun b2 w' hI=>?_
 refine ad hI 0 rfl aM aw rfl ?_
 refine ad hI 0 rfl aR aw rfl ?_
 refine ad hI 0 rfl aH aC rfl ?_
 refine ip ?_
 refine aA hI aU fun b3 w' hI=>?_
 refine aj hI 2 rfl ac rfl rfl (by simp [Value.oneCell']) fun w' hI=>?_
 have hI:Inv w [] [.blk b1 (.cells #[.int .i64 k,.int .i64 n,.string s,kv] ab),.blk b2 (.cells #[.int .i64 0,.int .i64 0,.string ⟨#[]⟩,.slice none 0 0] ab),.blk b3 (.cells #[.int .i64 k,.int .i64 n,.string s,.slice none 0 0] ab)] S w':=hI
 refine ⟨fun w'=>Inv w [] [.blk b1 (.cells #[.int .i64 k,.int .i64 n,.string s,kv] ab),.blk b2 (.cells #[.int .i64 0,.int .i64 0,.string ⟨#[]⟩,.slice none 0 0] ab),.blk b3 (.cells #[.int .i64 k,.int .i64 cur,.string s,.slice none 0 0] ab)] S w',?_,?_⟩
 ·refine ad hI 0 rfl aM aw rfl ?_
  refine bh ?_
  refine aN (fun he=>?_) (fun he=>?_)
  ·have hv:=hvar he
   refine ad hI 0 rfl aR aw rfl ?_
   refine bm (by omega) ?_
   rw [if_pos he] at hcur
   rw [hcur]
   exact cP hI 2 rfl aR aw rfl rfl rfl fun w' hI=>hI
  ·rw [if_neg he] at hcur
   rw [hcur]
   exact hI
 intro _ _ _ _ _ _ _ _ w' hI
 have hI:=hI.rowNil ab 4
 refine ⟨fun i w'=>∃ (j:Nat) (kvc:Value) (Ls:List aV) (css:List (List Value)),j<=ks.length/\i=.int .i64 j/\Grown 4 TrT Ls css (fe m (ks.take j))/\
   Inv w [] (.blk b1 (.cells #[.int .i64 k,.int .i64 n,.string s,kv] ab)::.blk b2 (.cells #[.int .i64 0,.int .i64 0,.string ⟨#[]⟩,.slice none 0 0] ab)::.blk b3 (.cells #[.int .i64 k,.int .i64 cur,.string s,kvc] ab)::aP kvc ab 4 css::bB Ls.flatten) S w',
  fun i _=>ks.length - (intOf i).toNat,⟨0,_,[],[],Nat.zero_le _,rfl,Grown.nil _ _,hI⟩,?_⟩
 intro t7 _ _ _ _ _ _ _ _ _ _ _ _ _ _ _ _ _ _ _ w'
 rintro ⟨j,kvc,Ls,css,hj,rfl,hg,hI⟩
 refine ad hI 0 rfl ak al rfl ?_
 refine aK hks ah ?_
 refine bD ?_
 refine aN (fun hji=>?_) (fun hji=>?_)
 ·have hj':j<ks.length:=by omega
  have hjl:(ks.take j).length=j:=by simp; omega
  have hcl:=hg.hc
  rw [jH,List.length_map] at hcl
  have hm:=List.getElem_mem hj'
  have hwm:=kM hm
  obtain ⟨b,o,cap,c,E,fz,rfl,hS,hR⟩:=hks.at_ hj'
  refine ⟨fun D lX gD fN kJ gU iI nC jT mP iM ia iF w_=>Fx D 0 [iF=.pointer (some ⟨b3,3,none⟩),ia=kvc,iM=.pointer (some ⟨b1,3,none⟩),mP=.slice (some ⟨b,o,none⟩) ks.length cap,jT=.int .i64 j,nC=.pointer (some ⟨b,o+j * 4,none⟩),iI=.agg (aL c (o+j * 4) 4).toArray,gU=.int .i64 m,True,True,True,lX=.pointer (some ⟨b3,3,none⟩),True]/\∃ M cs7 b8,(D 8=true->kJ=.agg cs7.toArray/\TrT M cs7 (bT m ks[j]))/\(D 9=true->fN=.slice (some ⟨b8,0,none⟩) 1 1)/\(D 9=true->D 8=true)/\(D 10=true->D 9=true)/\(D 12=true->D 10=true)/\(D 12=true->D 1=true)/\Inv w [] (bg (.blk b1 (.cells #[.int .i64 k,.int .i64 n,.string s,.slice (some ⟨b,o,none⟩) ks.length cap] ab)) (.blk b2 (.cells #[.int .i64 0,.int .i64 0,.string ⟨#[]⟩,.slice none 0 0] ab)) (.blk b3 (.cells #[.int .i64 k,.int .i64 cur,.string s,kvc] ab)) (.blk b3 (.cells #[.int .i64 k,.int .i64 cur,.string s,gD] ab)) (aP kvc ab 4 css) (aP gD ab 4 (css++[cs7])) (bB Ls.flatten) M (.blk b8 (.cells cs7.toArray ab)) (D 8) (D 9) (D 10) (D 12)) S w_,⟨Fx.nil _ _,⟨[],[],0,aT,aT,aT,aT,aT,aT,by simpa [bg,bB] using hI.draw⟩⟩,⟨?_,?_,?_,?_,?_,?_,?_,?_,?_,?_,?_,?_,?_,trivial⟩,?_⟩
  all_goals (intro D bw; intros; rename_i lX gD fN kJ gU iI nC jT mP iM ia iF w_ hA_; have hF_:=hA_.1; obtain ⟨⟨bQ,bS,bU,bR,bY,bZ,bO,cG,cS,cT,bL,co,cO,_⟩,⟨M,cs7,b8,e7,e8,k8,k9,k11,k1,hI⟩⟩:=hA_)
  ·refine ao ak ?_
   exact ⟨hF_.set 0 rfl,⟨M,cs7,b8,e7,e8,k8,k9,k11,k1,hI⟩⟩
  ·obtain rfl:=bQ ‹_›
   have f11:D 12=false:=Bool.eq_false_iff.2 fun h=>by rw [k1 h] at bw; cases bw
   refine ax (b:=b3) hI 2 (c:=(#[.int .i64 k,.int .i64 cur,.string s,kvc])) al (by rw [f11]; rfl) rfl ?_
   have k1:=fun (_:aB D 1 12=true)=>(rfl:aB D 1 1=true)
   exact ⟨hF_.set 1 rfl,⟨M,cs7,b8,e7,e8,k8,k9,k11,k1,hI⟩⟩
  ·refine ao ak ?_
   exact ⟨hF_.set 2 rfl,⟨M,cs7,b8,e7,e8,k8,k9,k11,k1,hI⟩⟩
  ·obtain rfl:=bU ‹_›
   refine ax hI 0 al rfl rfl ?_
   exact ⟨hF_.set 3 rfl,⟨M,cs7,b8,e7,e8,k8,k9,k11,k1,hI⟩⟩
  ·exact ⟨hF_.set 4 rfl,⟨M,cs7,b8,e7,e8,k8,k9,k11,k1,hI⟩⟩
  ·obtain rfl:=bR ‹_›
   obtain rfl:=bY ‹_›
   refine ay ah hj' ?_
   exact ⟨hF_.set 5 rfl,⟨M,cs7,b8,e7,e8,k8,k9,k11,k1,hI⟩⟩
  ·obtain rfl:=bZ ‹_›
   refine ci ac hR.length (fun j v hj=>by rw [hI.cellS hS]; exact aD rfl j v hj) ?_
   exact ⟨hF_.set 6 rfl,⟨M,cs7,b8,e7,e8,k8,k9,k11,k1,hI⟩⟩
  ·exact ⟨hF_.set 7 rfl,⟨M,cs7,b8,e7,e8,k8,k9,k11,k1,hI⟩⟩
  ·obtain rfl:=bO ‹_›
   obtain rfl:=cG ‹_›
   have f8:D 9=false:=Bool.eq_false_iff.2 fun h=>by rw [k8 h] at bw; cases bw
   have f9:D 10=false:=Bool.eq_false_iff.2 fun h=>by rw [k9 h] at f8; cases f8
   have f11:D 12=false:=Bool.eq_false_iff.2 fun h=>by rw [k11 h] at f9; cases f9
   rw [bw,f8,f9,f11] at hI
   refine Run.call0 mx mn hI (ih _ (List.getElem_mem hj') S _ hR (ol hou _ (List.getElem_mem hj')) (by omega)) fun v' I' S w_=>?_
   rintro ⟨rfl,cs7,M,rfl,rfl,hT⟩ _ hI
   have e7:aB D 8 8=true->Value.agg cs7.toArray=Value.agg cs7.toArray/\TrT M cs7 (bT m ks[j]):=fun _=>⟨rfl,hT⟩
   have k8:=fun (_:aB D 8 9=true)=>(rfl:aB D 8 8=true)
   have hI:Inv w [] (bg (.blk b1 (.cells #[.int .i64 k,.int .i64 n,.string s,.slice (some ⟨b,o,none⟩) ks.length cap] ab)) (.blk b2 (.cells #[.int .i64 0,.int .i64 0,.string ⟨#[]⟩,.slice none 0 0] ab)) (.blk b3 (.cells #[.int .i64 k,.int .i64 cur,.string s,kvc] ab)) (.blk b3 (.cells #[.int .i64 k,.int .i64 cur,.string s,gD] ab)) (aP kvc ab 4 css) (aP gD ab 4 (css++[cs7])) (bB Ls.flatten) M (.blk b8 (.cells cs7.toArray ab)) true (D 9) (D 10) (D 12)) S w_:=by
    rw [f8,f9,f11]
    simpa [bg] using hI
   exact ⟨hF_.set 8 (by first|assumption|trivial),⟨M,cs7,b8,e7,e8,k8,k9,k11,k1,hI⟩⟩
  ·have Bo:=cS ‹_›
   have f9:D 10=false:=Bool.eq_false_iff.2 fun h=>by rw [k9 h] at bw; cases bw
   have f11:D 12=false:=Bool.eq_false_iff.2 fun h=>by rw [k11 h] at f9; cases f9
   obtain ⟨q7,hT⟩:=e7 ‹D 8=true›
   subst q7
   rw [‹D 8=true›,bw,f9,f11] at hI
   refine dH hI bj (by simp [Value.cells,hT.length]) (by omega) (by omega) fun b8 w_ hI=>?_
   have e7:aB D 9 8=true->Value.agg cs7.toArray=Value.agg cs7.toArray/\TrT M cs7 (bT m ks[j]):=fun _=>⟨rfl,hT⟩
   have e8:=fun (_:aB D 9 9=true)=>(rfl:Value.slice (some ⟨b8,0,none⟩) 1 1=_)
   have k8:=fun (_:aB D 9 9=true)=>‹D 8=true›
   have k9:=fun (_:aB D 9 10=true)=>(rfl:aB D 9 9=true)
   have hI:Inv w [] (bg (.blk b1 (.cells #[.int .i64 k,.int .i64 n,.string s,.slice (some ⟨b,o,none⟩) ks.length cap] ab)) (.blk b2 (.cells #[.int .i64 0,.int .i64 0,.string ⟨#[]⟩,.slice none 0 0] ab)) (.blk b3 (.cells #[.int .i64 k,.int .i64 cur,.string s,kvc] ab)) (.blk b3 (.cells #[.int .i64 k,.int .i64 cur,.string s,gD] ab)) (aP kvc ab 4 css) (aP gD ab 4 (css++[cs7])) (bB Ls.flatten) M (.blk b8 (.cells cs7.toArray ab)) (D 8) true (D 10) (D 12)) S w_:=by
    rw [‹D 8=true›,f9,f11]
    simpa [bg,Value.cells] using hI
   exact ⟨hF_.set 9 (by first|assumption|trivial),⟨M,cs7,b8,e7,e8,k8,k9,k11,k1,hI⟩⟩
  ·obtain rfl:=bS ‹_›
   have GP:=cT ‹_›
   have f11:D 12=false:=Bool.eq_false_iff.2 fun h=>by rw [k11 h] at bw; cases bw
   have q8:=e8 ‹D 9=true›
   subst q8
   obtain ⟨_,hT⟩:=e7 ‹D 8=true›
   rw [‹D 8=true›,‹D 9=true›,bw,f11] at hI
   have hblk:((bg (.blk b1 (.cells #[.int .i64 k,.int .i64 n,.string s,.slice (some ⟨b,o,none⟩) ks.length cap] ab)) (.blk b2 (.cells #[.int .i64 0,.int .i64 0,.string ⟨#[]⟩,.slice none 0 0] ab)) (.blk b3 (.cells #[.int .i64 k,.int .i64 cur,.string s,ia] ab)) (.blk b3 (.cells #[.int .i64 k,.int .i64 cur,.string s,gD] ab)) (aP ia ab 4 css) (aP gD ab 4 (css++[cs7])) (bB Ls.flatten) M (.blk b8 (.cells cs7.toArray ab)) true true false false))[4+(bB Ls.flatten).length+(bB M).length]?=some (.blk b8 (.cells cs7.toArray ab)):=by
    have e4:4+(bB Ls.flatten).length+(bB M).length=((bB Ls.flatten).length+(bB M).length)+1+1+1+1:=by omega
    rw [e4]
    simp only [bg,List.getElem?_cons_succ]
    rw [List.getElem?_append_right (by omega),Nat.add_sub_cancel_left,List.getElem?_append_right (Nat.le_refl _),Nat.sub_self]; rfl
   refine eZ hI 3 cs7 bj (by omega) rfl (by rw [hT.length]) (m:=1) (o:=0) ?_ hT.one (by omega) (by omega) fun v' w_ hI=>?_
   ·intro i u hi
    rw [hI.cellL hblk,Nat.zero_add]
    simpa using hi
   rw [fS] at hI
   have k9:=fun (_:aB D 10 10=true)=>‹D 9=true›
   have k11:=fun (_:aB D 10 12=true)=>(rfl:aB D 10 10=true)
   have hI:Inv w [] (bg (.blk b1 (.cells #[.int .i64 k,.int .i64 n,.string s,.slice (some ⟨b,o,none⟩) ks.length cap] ab)) (.blk b2 (.cells #[.int .i64 0,.int .i64 0,.string ⟨#[]⟩,.slice none 0 0] ab)) (.blk b3 (.cells #[.int .i64 k,.int .i64 cur,.string s,ia] ab)) (.blk b3 (.cells #[.int .i64 k,.int .i64 cur,.string s,v'] ab)) (aP ia ab 4 css) (aP v' ab 4 (css++[cs7])) (bB Ls.flatten) M (.blk b8 (.cells cs7.toArray ab)) (D 8) (D 9) true (D 12)) S w_:=by
    rw [‹D 8=true›,‹D 9=true›,f11]
    exact hI
   exact ⟨hF_.set 10 (by first|assumption|trivial),⟨M,cs7,b8,e7,e8,k8,k9,k11,k1,hI⟩⟩
  ·refine ao ak ?_
   exact ⟨hF_.set 11 rfl,⟨M,cs7,b8,e7,e8,k8,k9,k11,k1,hI⟩⟩
  ·obtain rfl:=co ‹_›
   have xG:=bL ‹_›
   rw [‹D 8=true›,‹D 9=true›,‹D 10=true›,bw] at hI
   obtain ⟨va,vn,vc,hv9⟩:=Inv.rowSlice hI 3 rfl
   refine dB hI 2 (n:=1) (by rw [hv9]; rfl) (by decide +kernel) rfl (by simp) (by rw [hv9]; simp [Value.cells,Value.oneCell']) fun w_ hI=>?_
   have hcl9:Value.cells gD=#[gD]:=by rw [hv9]; rfl
   rw [hcl9] at hI
   have k1:=fun (_:aB D 12 12=true)=>‹D 1=true›
   have k11:=fun (_:aB D 12 12=true)=>‹D 10=true›
   have hI:Inv w [] (bg (.blk b1 (.cells #[.int .i64 k,.int .i64 n,.string s,.slice (some ⟨b,o,none⟩) ks.length cap] ab)) (.blk b2 (.cells #[.int .i64 0,.int .i64 0,.string ⟨#[]⟩,.slice none 0 0] ab)) (.blk b3 (.cells #[.int .i64 k,.int .i64 cur,.string s,kvc] ab)) (.blk b3 (.cells #[.int .i64 k,.int .i64 cur,.string s,gD] ab)) (aP kvc ab 4 css) (aP gD ab 4 (css++[cs7])) (bB Ls.flatten) M (.blk b8 (.cells cs7.toArray ab)) (D 8) (D 9) (D 10) true) S w_:=by
    rw [‹D 8=true›,‹D 9=true›,‹D 10=true›]
    exact hI
   exact ⟨hF_.set 12 trivial,⟨M,cs7,b8,e7,e8,k8,k9,k11,k1,hI⟩⟩
  obtain ⟨rfl,rfl,rfl,rfl,rfl,rfl,rfl,rfl,Bo,GP,xG,rfl,_,_⟩:=hF_.all
  have z8:D 8=true:=by assumption
  have Fk:D 9=true:=by assumption
  have Ac:D 10=true:=by assumption
  have IM:D 12=true:=by assumption
  clear hF_ bQ bS bU bR bY bZ bO cG cS cT bL co cO
  obtain ⟨_,hT⟩:=e7 z8
  rw [z8,Fk,Ac,IM] at hI
  refine bm (by omega) ?_
  refine ⟨⟨j+1,gD,Ls++[M],css++[cs7],hj',rfl,?_,?_⟩,by simp [intOf]; omega⟩
  ·rw [Gy m ks j hj']
   exact hg.snoc hT hT.length
  ·simp only [List.flatten_append,List.flatten_cons,List.flatten_nil,List.append_nil,fj]
   refine hI.sub ?_
   simp only [bg]
   rw [<- List.append_assoc]
   exact (((List.sublist_append_left _ _).cons_cons _).cons_cons _).cons_cons _ |>.cons_cons _
 ·have:j=ks.length:=by omega
  subst this
  rw [List.take_length] at hg
  obtain ⟨va,vn,vc,hvk⟩:=hI.rowSlice 3 rfl
  have hv1:kvc.oneCell'=true:=by rw [hvk]; rfl
  refine ag hI 2 ac rfl rfl ?_
  refine aj hI 1 rfl ac rfl rfl ?_ fun w' hI=>?_
  ·intro u hu
   have hu':u∈([.int .i64 k,.int .i64 cur,.string s,kvc]:List Value):=hu
   simp at hu'
   rcases hu' with rfl|rfl|rfl|rfl <;> first|rfl|exact hv1
  refine aS hI 1 ac rfl rfl ?_
  have hI:Inv w [] ([]++(aP kvc ab 4 css::bB Ls.flatten)) S w':=hI.sub (List.sublist_append_right [_,_,_] _)
  obtain ⟨L,hT,hI⟩:=Inv.rowTree hI hg
  exact ⟨_,_,_,rfl,hI,Ext.refl _ _ _,rfl,_,L,rfl,rfl,TrT.iff.2 ⟨kvc,by rw [bT,<- hcur]; rfl,by rw [bT]; exact h1,by rw [bT,<- hcur]; exact hci,by rw [bT]; exact hs,by rw [bT]; exact hT⟩⟩
end
end
section
open Go Go.RowKit
theorem Ep {s:ByteArray} (h:gt s=true):s.size<=6:=by
 rw [gt,Bool.or_eq_true] at h
 rcases h with h|h
 ·rw [iw] at h
  simp only [Bool.and_eq_true,decide_eq_true_eq] at h
  exact h.2.2
 ·simp only [List.any_eq_true,decide_eq_true_eq] at h
  obtain ⟨x,hx,rfl⟩:=h
  have:∀ y∈signs,y.size<=6:=by decide +kernel
  exact this x hx
theorem Is {t:T} (h:dC t=true):t.name.size<=6:=by
 unfold dC at h
 have he:emptyB.size=0:=by decide +kernel
 by_cases e1:t.kind=1
 ·rw [if_pos e1] at h
  simp only [Bool.and_eq_true,decide_eq_true_eq] at h
  rw [h.2.2.1]; omega
 ·rw [if_neg e1] at h
  by_cases e2:t.kind=2
  ·rw [if_pos e2] at h
   simp only [Bool.and_eq_true,decide_eq_true_eq] at h
   rw [h.2.2.1]; omega
  ·rw [if_neg e2] at h
   by_cases e3:t.kind=3
   ·rw [if_pos e3] at h
    simp only [Bool.and_eq_true,decide_eq_true_eq] at h
    exact Ep h.2.1
   ·rw [if_neg e3] at h
    cases h
mutual
theorem Bu:∀ (t:T) (d:Int),ei t d=true->okU 26 t
 | .mk k n s ks,d,h=>by
  rw [ei] at h
  split at h
  ·cases h
  ·rw [Bool.and_eq_true] at h
   have h1:=Pc h.1
   have h2:=fun hk=>LM h.1 hk
   have h3:=Is h.1
   rw [okU]
   refine ⟨h1.2,fun hk=>?_,zL ks _ h.2,h3⟩
   have h4:=h1.1 hk
   have h5:=h2 hk
   simp only [T.n] at h4
   simp only [T.name,T.kids] at h5
   exact ⟨h4.1,by omega,h5.1,List.eq_nil_of_length_eq_zero h5.2⟩
theorem zL:∀ (ts:List T) (d:Int),eV ts d=true->df 26 ts
 | [],_,_=>by rw [df]; trivial
 | t::ts,d,h=>by
  rw [eV,Bool.and_eq_true] at h
  rw [df]
  exact ⟨Bu t d h.1,zL ts d h.2⟩
end
theorem li {t:T} (h:cE t=true):okU 26 t:=Bu t 30 (xg h)
theorem jC {c:C} (h:dg c=true):okU 26 c.head/\(∀ t∈c.body,okU 26 t)/\c.body.length<=6:=by
 rw [dg] at h
 simp only [Bool.and_eq_true,List.all_eq_true,decide_eq_true_eq] at h
 refine ⟨li h.2.2.1,fun t ht=>?_,h.1⟩
 have:=h.2.1 t ht
 rw [fk,Bool.and_eq_true] at this
 exact li this.1
mutual
theorem jA {N M:Nat} (h:N<=M):∀ t:T,okU N t->okU M t
 | .mk k n s ks,ht=>by
  rw [okU] at ht ⊢
  refine ⟨ht.1,fun hk=>?_,Jh h ks ht.2.2.1,ht.2.2.2⟩
  have:=ht.2.1 hk
  exact ⟨this.1,by omega,this.2.2⟩
theorem Jh {N M:Nat} (h:N<=M):∀ ts:List T,df N ts->df M ts
 | [],_=>by rw [df]; trivial
 | t::ts,ht=>by
  rw [df] at ht ⊢
  exact ⟨jA h t ht.1,Jh h ts ht.2⟩
end
mutual
theorem lP {N:Nat} (m:Nat):∀ t:T,okU N t->okU (N+m) (bT m t)
 | .mk k n s ks,ht=>by
  rw [okU] at ht
  rw [bT,okU]
  refine ⟨ht.1,fun hk=>?_,re m ks ht.2.2.1,ht.2.2.2⟩
  have:=ht.2.1 hk
  rw [if_pos hk]
  refine ⟨by omega,by omega,this.2.2.1,?_⟩
  rw [this.2.2.2,fe]
theorem re {N:Nat} (m:Nat):∀ ts:List T,df N ts->df (N+m) (fe m ts)
 | [],_=>by rw [fe,df]; trivial
 | t::ts,ht=>by
  rw [df] at ht
  rw [fe,df]
  exact ⟨lP m t ht.1,re m ts ht.2⟩
end
mutual
theorem oy (m:Int):∀ t:T,wT (bT m t)=wT t
 | .mk k n s ks=>by
  rw [bT,wT,wT,GH m ks]
  rw [jH,List.length_map]
theorem GH (m:Int):∀ ts:List T,wL (fe m ts)=wL ts
 | []=>rfl
 | t::ts=>by rw [fe,wL,wL,oy m t,GH m ts]
end
mutual
theorem HT {N:Nat}:∀ t:T,okU N t->(wT t:Int)+1<=7 * dl t
 | .mk k n s ks,h=>by
  rw [okU] at h
  have h1:=Mx ks h.2.2.1
  rw [wT,oU]
  omega
theorem Mx {N:Nat}:∀ ts:List T,df N ts->(wL ts:Int)+ts.length<=7 * cL ts
 | [],_=>by simp [wL,cL]
 | t::ts,h=>by
  rw [df] at h
  have h1:=HT t h.1
  have h2:=Mx ts h.2
  rw [wL,cL,List.length_cons]
  omega
end
theorem Il {N:Nat} {st:aG} {t v:T} (h:Good N st) (hw:dk st t v) (ht:okU N t):okU N v:=by
 induction hw with
 | stop=>exact ht
 | step hl _ ih=>exact ih (h.look_ok hl).1
theorem jX {N:Nat} {st:aG} (hg:Good N st) {j:N2} (hr:Res st j):match j with
  | .one t u=>okU N t->okU N u
  | .list ts us=>df N ts->df N us/\us.length=ts.length:=by
 induction hr with
 | one hw hl ih=>
  rename_i t v us
  intro ho
  have hv:=Il hg hw ho
  obtain ⟨h1,h2⟩:=ih hv.kids
  obtain ⟨k,n,s,ks⟩:=v
  have hv2:=hv
  rw [okU] at hv2
  show okU N (.mk k n s us)
  rw [okU]
  refine ⟨hv2.1,fun hk=>?_,h1,hv2.2.2.2⟩
  have h3:=hv2.2.1 hk
  refine ⟨h3.1,h3.2.1,h3.2.2.1,?_⟩
  simp only [T.kids] at h2
  exact List.eq_nil_of_length_eq_zero (by rw [h2,h3.2.2.2]; rfl)
 | nil=>exact fun h=>⟨h,rfl⟩
 | cons _ _ ih1 ih2=>
  intro ho
  rw [df] at ho
  obtain ⟨h1,h2⟩:=ih2 ho.2
  rw [df]
  exact ⟨⟨ih1 ho.1,h1⟩,by simp [h2]⟩
theorem zQ {N:Nat} {st:aG} (h:Good N st):∀ ts:List T,df N ts->∃ us,Res st (.list ts us)
 | [],_=>⟨[],.nil⟩
 | t::ts,ho=>by
  rw [df] at ho
  obtain ⟨u,hu⟩:=Lj h t ho.1
  obtain ⟨us,hus⟩:=zQ h ts ho.2
  exact ⟨u::us,.cons hu hus⟩
def stU:aG:=List.replicate 52 none
theorem EC:Good 52 stU:=⟨by simp [stU],fun t ht=>by simp [stU] at ht,fun t ht=>by simp [stU] at ht,fun n=>n,fun n u hu=>by
 have:=List.mem_of_getElem? hu
 simp [stU] at this⟩
def Jn (c d:C):List T:=c.head::(fe 26 d.body++c.body.drop 1)
def ofL:List T->C
 | []=>⟨⟨0,0,⟨#[]⟩,[]⟩,[]⟩
 | t::ts=>⟨t,ts⟩
def RO (c d:C) (o:Option (Option C)):Prop:=∃ r st,Uni stU (.one (c.body.headD ⟨0,0,⟨#[]⟩,[]⟩) (bT 26 d.head)) r st/\
 ((r=false/\o=none) ∨ (r=true/\∃ us,Res st (.list (Jn c d) us)/\((us.all ch=false/\o=some none) ∨ (us.all ch=true/\o=some (some (QE (P2 (ofL us)) (ofL us)))))))
theorem LT {c d:C} (hc:dg c=true) (hd:dg d=true):df 52 (Jn c d):=by
 obtain ⟨c1,c2,_⟩:=jC hc
 obtain ⟨d1,d2,_⟩:=jC hd
 rw [Jn,df]
 exact ⟨jA (by decide) _ c1,zc (re 26 _ (xK d2)) (xK fun t ht=>jA (by decide) _ (c2 t (List.mem_of_mem_drop ht)))⟩
theorem Kb {c d:C} (hc:dg c=true) (hd:dg d=true) (hwc:wC c<=1048576) (hwd:wC d<=1048576) (hb:c.body≠[]):okJ 52 (.one (c.body.headD ⟨0,0,⟨#[]⟩,[]⟩) (bT 26 d.head)):=by
 obtain ⟨c1,c2,_⟩:=jC hc
 obtain ⟨d1,d2,_⟩:=jC hd
 unfold wC at hwc hwd
 cases hcb:c.body with
 | nil=>exact absurd hcb hb
 | cons t ts=>
  rw [List.headD_cons]
  have hm:t∈c.body:=by rw [hcb]; exact List.mem_cons_self ..
  have:=D9 hm
  exact ⟨⟨jA (by decide) _ (c2 t hm),by omega⟩,⟨lP 26 _ d1,by rw [oy]; omega⟩⟩
theorem RO.ex {c d:C} (hc:dg c=true) (hd:dg d=true) (hwc:wC c<=1048576) (hwd:wC d<=1048576) (hb:c.body≠[]):∃ o,RO c d o:=by
 have hj:=Kb hc hd hwc hwd hb
 obtain ⟨r,st,hu⟩:=D3 (unb stU) stU EC (Nat.le_refl _) _ hj
 cases r with
 | false=>exact ⟨none,false,st,hu,.inl ⟨rfl,rfl⟩⟩
 | true=>
  obtain ⟨us,hus⟩:=zQ (hu.good EC hj).1 (Jn c d) (LT hc hd)
  cases hs:us.all ch with
  | false=>exact ⟨some none,true,st,hu,.inr ⟨rfl,us,hus,.inl ⟨hs,rfl⟩⟩⟩
  | true=>exact ⟨_,true,st,hu,.inr ⟨rfl,us,hus,.inr ⟨hs,rfl⟩⟩⟩
theorem j5 {N:Nat} {u:T} (h:ch u=true) (ho:okU N u):wT u<=840:=by
 rw [ch,Bool.and_eq_true,decide_eq_true_eq] at h
 have:=HT u ho
 omega
end
section
open Go Go.RowKit
section
variable {br:Nat} {sl:Value} {ys:List Nat}
attribute [local irreducible] Run CondV ar aI
theorem Lv:dW 2=54:=rfl
end
end
section
open Go Go.RowKit
theorem Ir {q:List T} (h:l4 q=true):q.length<=6:=by
 rw [l4,Bool.and_eq_true] at h
 have:=h.1
 simp at this
 omega
def LightT (n m:Nat) (q:List T):Prop:=q.length<=n/\∀ t∈q,wT t<=m
theorem LightT.le {n m:Nat} {q:List T} (h:LightT n m q):q.length+wL q<=n+n * m:=by
 have:∀ q:List T,(∀ c∈q,wT c<=m)->wL q<=q.length * m:=by
  intro q
  induction q with
  | nil=>intro _; simp [wL]
  | cons c q ih=>
   intro h
   have h1:=h c (List.mem_cons_self ..)
   have h2:=ih fun d hd=>h d (List.mem_cons_of_mem _ hd)
   simp only [wL,List.length_cons,Nat.succ_mul]
   omega
 have h1:=this q h.2
 have h2:q.length * m<=n * m:=Nat.mul_le_mul_right _ h.1
 have:=h.1
 omega
section
variable {w0 w:World} {X:List Nat} {L A:List Item} {S:ae}
theorem JW {v:Value} {css:List (List Value)} {q:List T} (hI:Inv w0 X (aP v ab 4 css::A) S w) (hR:Rows 4 (RdT S) css q) :
  ∃ S',Ext w0.heap.size X S S'/\Inv w0 X A S' w/\RdSl S' 4 (RdT S') v q:=by
 have hI:Inv w0 X (A++[aP v ab 4 css]) S w:=hI.last 0 rfl
 obtain ⟨S',hE,hrd,hI⟩:=Inv.lendExt hI
 exact ⟨S',hE,hI,RowRd.rows (hR.monoR fun _ _ h=>RdT.mono hE.1 h) hrd⟩
end
section
variable {br:Nat} {sl:Value} {ys:List Nat} {S:ae}
attribute [local irreducible] Run CondV ar aI
end
end
end Go.Proofs.YtbocelianhcfmaaGreatDoor
