/- spec.RenumberClause. -/
import Derived.Test.YtnmnddpdikghhaaGreatZr6
import Derived.Test.YtnmnddpdikghhaaGreatZr7
import Derived.Test.YtnmnddpdikghhaaGreatZr3
namespace Go.Proofs.YtnmnddpdikghhaaGreat
open Go Go.RowKit
section
attribute [local irreducible] Run CondV ai a4
theorem Ks {vs:List Int} {n:Int} (hn:inI n) (hl:vs.length<=1000000000):inI (iF vs n n 0):=by
 rcases BG vs n n 0 with h|h
 ·rw [h]; exact hn
 ·simp only [inI] at hn ⊢; omega
theorem xR (vs:List Int) (hvl:vs.length<=1000000000):∀ (t:T) (S:ay) (cs:List Value) (v:Value),RdT S cs t->RdSl S 1 rT v vs->wT t<=1048576->Tri Tryz.prog Dg [.agg cs.toArray,v] [] S (vb S (c5 vs t)):=by
 refine T.ind fun k n s ks ih S cs v h hv hw=>?_
 intro w hI
 obtain ⟨kv,rfl,h1,h2,hs,hks⟩:=RdT.iff.1 h
 simp only [T.name,T.kids,T.kind,T.n] at h1 h2 hs hks ⊢
 simp only [wT] at hw
 obtain ⟨N,hN⟩:∃ N,N=if k=1 then iF vs n n 0 else n:=⟨_,rfl⟩
 have hNi:inI N:=by
  rw [hN]
  split
  ·exact Ks h2 hvl
  ·exact h2
 refine tH ?_
 unfold pr
 refine bN hI fun b1 w' hI=>?_
 refine a9 hI bt fun b2 w' hI=>?_
 refine ar hI 0 rfl bv bg rfl ?_
 refine ar hI 0 rfl bn bg rfl ?_
 refine ar hI 0 rfl bH bz rfl ?_
 refine g6 ?_
 refine a9 hI bt fun b3 w' hI=>?_
 refine aM hI 2 rfl ag rfl rfl (by simp [Value.oneCell']) fun w' hI=>?_
 refine ⟨fun i w'=>∃ (j:Nat) (cur:Int),j<=vs.length/\i=.int .i64 j/\(if k=1 then iF (vs.drop j) n cur j else cur)=N/\
   Inv w [] [.blk b1 (.cells #[.int .i64 k,.int .i64 n,.string s,kv] ab),.blk b2 (.cells #[.int .i64 0,.int .i64 0,.string ⟨#[]⟩,.slice none 0 0] ab),.blk b3 (.cells #[.int .i64 k,.int .i64 cur,.string s,.slice none 0 0] ab)] S w',
  fun i _=>vs.length - (intOf i).toNat,⟨0,n,Nat.zero_le _,rfl,hN.symm,hI⟩,?_⟩
 intro t6 _ _ _ _ _ _ _ _ _ _ _ _ _ _ _ _ _ _ _ _ w'
 rintro ⟨j,cur,hj,rfl,hrel,hI⟩
 refine ⟨fun t w'=>t=.bool (decide (j<vs.length) && decide (k=1))/\Inv w [] [.blk b1 (.cells #[.int .i64 k,.int .i64 n,.string s,kv] ab),.blk b2 (.cells #[.int .i64 0,.int .i64 0,.string ⟨#[]⟩,.slice none 0 0] ab),.blk b3 (.cells #[.int .i64 k,.int .i64 cur,.string s,.slice none 0 0] ab)] S w',?_,?_⟩
 ·refine bm hv gB ?_
  refine cF ?_
  by_cases hji:j<vs.length
  ·rw [decide_eq_true (show (j:Int)<(vs.length:Int) by omega)]
   repeat (first|refine ae ?_|refine ah (by decide) ?_|refine ad ?_|refine al ?_|refine aj ?_)
   refine ar hI 0 rfl bv bg rfl ?_
   refine bO ?_
   repeat (first|refine ae ?_|refine ah (by decide) ?_|refine ad ?_|refine al ?_|refine aj ?_)
   exact ⟨by rw [decide_eq_true hji]; rfl,hI⟩
  ·rw [decide_eq_false (show ¬ (j:Int)<(vs.length:Int) by omega)]
   repeat (first|refine ae ?_|refine ah (by decide) ?_|refine ad ?_|refine al ?_|refine aj ?_)
   exact ⟨by rw [decide_eq_false hji]; rfl,hI⟩
 intro t _ _ _ _ _ _ _ _ w'
 rintro ⟨rfl,hI⟩
 refine a7 (fun hb=>?_) (fun hb=>?_)
 ·simp only [Bool.and_eq_true,decide_eq_true_eq] at hb
  obtain ⟨hji,hk⟩:=hb
  rw [if_pos hk,List.drop_eq_getElem_cons hji,iF] at hrel
  refine ⟨fun w'=>Inv w [] [.blk b1 (.cells #[.int .i64 k,.int .i64 n,.string s,kv] ab),.blk b2 (.cells #[.int .i64 0,.int .i64 0,.string ⟨#[]⟩,.slice none 0 0] ab),.blk b3 (.cells #[.int .i64 k,.int .i64 (if vs[j]=n then (j:Int) else cur),.string s,.slice none 0 0] ab)] S w',?_,?_⟩
  ·obtain ⟨b,o,cap,c,E,fz,rfl,hS,hR⟩:=hv.at_ hji
   refine ⟨fun D g8 fc dx c4 db c7 cB w_=>(D 0=true->cB=.slice (some ⟨b,o,none⟩) vs.length cap)/\(D 1=true->c7=.int .i64 j)/\(D 2=true->db=.pointer (some ⟨b,o+j * 1,none⟩))/\(D 3=true->c4=.int .i64 vs[j])/\(D 4=true->dx=.pointer (some ⟨b1,1,none⟩))/\(D 5=true->fc=.int .i64 n)/\(D 6=true->g8=.bool (decide (vs[j]=n)))/\Inv w [] [.blk b1 (.cells #[.int .i64 k,.int .i64 n,.string s,kv] ab),.blk b2 (.cells #[.int .i64 0,.int .i64 0,.string ⟨#[]⟩,.slice none 0 0] ab),.blk b3 (.cells #[.int .i64 k,.int .i64 cur,.string s,.slice none 0 0] ab)] S w_,⟨af,af,af,af,af,af,af,hI.draw⟩,⟨?_,?_,?_,?_,?_,?_,?_,trivial⟩,?_⟩
   ·intro D aS  g8 fc dx c4 db c7 cB w_
    rintro ⟨aA,az,aB,ax,aD,aC,aw,hI⟩
    exact ⟨fun _=>rfl,az,aB,ax,aD,aC,aw,hI⟩
   ·intro D aS  g8 fc dx c4 db c7 cB w_
    rintro ⟨aA,az,aB,ax,aD,aC,aw,hI⟩
    exact ⟨aA,fun _=>rfl,aB,ax,aD,aC,aw,hI⟩
   ·intro D aS cA iz g8 fc dx c4 db c7 cB w_
    rintro ⟨aA,az,aB,ax,aD,aC,aw,hI⟩
    obtain rfl:=aA cA
    obtain rfl:=az iz
    refine bq gB hji ?_
    exact ⟨aA,az,fun _=>rfl,ax,aD,aC,aw,hI⟩
   ·intro D aS cM g8 fc dx c4 db c7 cB w_
    rintro ⟨aA,az,aB,ax,aD,aC,aw,hI⟩
    obtain rfl:=aB cM
    refine eE bg (by rw [hI.cellS hS]; exact bx hR 0 _ rfl) ?_
    exact ⟨aA,az,aB,fun _=>rfl,aD,aC,aw,hI⟩
   ·intro D aS  g8 fc dx c4 db c7 cB w_
    rintro ⟨aA,az,aB,ax,aD,aC,aw,hI⟩
    refine bj bn ?_
    exact ⟨aA,az,aB,ax,fun _=>rfl,aC,aw,hI⟩
   ·intro D aS fO g8 fc dx c4 db c7 cB w_
    rintro ⟨aA,az,aB,ax,aD,aC,aw,hI⟩
    obtain rfl:=aD fO
    refine bB hI 0 bg rfl rfl ?_
    exact ⟨aA,az,aB,ax,aD,fun _=>rfl,aw,hI⟩
   ·intro D aS dh eF g8 fc dx c4 db c7 cB w_
    rintro ⟨aA,az,aB,ax,aD,aC,aw,hI⟩
    obtain rfl:=ax dh
    obtain rfl:=aC eF
    refine bO ?_
    exact ⟨aA,az,aB,ax,aD,aC,fun _=>rfl,hI⟩
   intro D fj ft fL fX fM fP fY g8 fc dx c4 db c7 cB w_
   rintro ⟨aA,az,aB,ax,aD,aC,aw,hI⟩
   obtain rfl:=aw fj
   obtain rfl:=aC ft
   obtain rfl:=aD fL
   obtain rfl:=ax fX
   obtain rfl:=aB fM
   obtain rfl:=az fP
   obtain rfl:=aA fY
   clear aA az aB ax aD aC aw
   refine bF (fun he=>?_) (fun he=>?_)
   ·rw [if_pos he]
    exact eM hI 2 rfl bn bg rfl rfl rfl fun w' hI=>hI
   ·rw [if_neg he]
    exact hI
  intro _ _ _ _ _ _ _ _ _ w' hI
  refine bR (by omega) ?_
  exact ⟨⟨j+1,_,hji,rfl,by rw [if_pos hk]; exact hrel,hI⟩,by simp [intOf]; omega⟩
 have hcur:cur=N:=by
  by_cases hk:k=1
  ·rw [if_pos hk] at hrel
   have:j=vs.length:=by
    have:decide (j<vs.length)=false:=by
     rw [decide_eq_true hk,Bool.and_true] at hb
     exact hb
    have:=of_decide_eq_false this
    omega
   rw [this,List.drop_length] at hrel
   exact hrel
  ·rw [if_neg hk] at hrel
   exact hrel
 clear hrel hb
 subst hcur
 have hI:=hI.rowNil ab 4
 refine ⟨fun i w'=>∃ (j:Nat) (kvc:Value) (Ls:List bI) (css:List (List Value)),j<=ks.length/\i=.int .i64 j/\Grown 4 TrT Ls css (dM vs (ks.take j))/\
   Inv w [] (.blk b1 (.cells #[.int .i64 k,.int .i64 n,.string s,kv] ab)::.blk b2 (.cells #[.int .i64 0,.int .i64 0,.string ⟨#[]⟩,.slice none 0 0] ab)::.blk b3 (.cells #[.int .i64 k,.int .i64 cur,.string s,kvc] ab)::a5 kvc ab 4 css::bw Ls.flatten) S w',
  fun i _=>ks.length - (intOf i).toNat,⟨0,_,[],[],Nat.zero_le _,rfl,Grown.nil _ _,hI⟩,?_⟩
 intro t7 _ _ _ _ _ _ _ _ _ _ _ _ _ _ _ _ _ _ _ w'
 rintro ⟨j,kvc,Ls,css,hj,rfl,hg,hI⟩
 refine ar hI 0 rfl aP aL rfl ?_
 refine bm hks aG ?_
 refine cF ?_
 refine bF (fun hji=>?_) (fun hji=>?_)
 ·have hj':j<ks.length:=by omega
  have hjl:(ks.take j).length=j:=by simp; omega
  have hcl:=hg.hc
  rw [jD] at hcl
  have hm:=List.getElem_mem hj'
  have hwm:=gF hm
  obtain ⟨b,o,cap,c,E,fz,rfl,hS,hR⟩:=hks.at_ hj'
  refine ⟨fun D cS cI cU cQ cP cR cT ey eA eC eq ez w_=>(D 0=true->ez=.pointer (some ⟨b3,3,none⟩))/\(D 1=true->eq=kvc)/\(D 2=true->eC=.pointer (some ⟨b1,3,none⟩))/\(D 3=true->eA=.slice (some ⟨b,o,none⟩) ks.length cap)/\(D 4=true->ey=.int .i64 j)/\(D 5=true->cT=.pointer (some ⟨b,o+j * 4,none⟩))/\(D 6=true->cR=.agg (bJ c (o+j * 4) 4).toArray)/\(D 7=true->cP=v)/\(D 8=true->True)/\(D 9=true->True)/\(D 10=true->True)/\(D 11=true->cS=.pointer (some ⟨b3,3,none⟩))/\(D 12=true->True)/\∃ M cs7 b8,(D 8=true->cQ=.agg cs7.toArray/\TrT M cs7 (c5 vs ks[j]))/\(D 9=true->cU=.slice (some ⟨b8,0,none⟩) 1 1)/\(D 9=true->D 8=true)/\(D 10=true->D 9=true)/\(D 12=true->D 10=true)/\(D 12=true->D 1=true)/\Inv w [] (bi (.blk b1 (.cells #[.int .i64 k,.int .i64 n,.string s,.slice (some ⟨b,o,none⟩) ks.length cap] ab)) (.blk b2 (.cells #[.int .i64 0,.int .i64 0,.string ⟨#[]⟩,.slice none 0 0] ab)) (.blk b3 (.cells #[.int .i64 k,.int .i64 cur,.string s,kvc] ab)) (.blk b3 (.cells #[.int .i64 k,.int .i64 cur,.string s,cI] ab)) (a5 kvc ab 4 css) (a5 cI ab 4 (css++[cs7])) (bw Ls.flatten) M (.blk b8 (.cells cs7.toArray ab)) (D 8) (D 9) (D 10) (D 12)) S w_,⟨af,af,af,af,af,af,af,af,af,af,af,af,af,⟨[],[],0,af,af,af,af,af,af,by simpa [bi,bw] using hI.draw⟩⟩,⟨?_,?_,?_,?_,?_,?_,?_,?_,?_,?_,?_,?_,?_,trivial⟩,?_⟩
  ·intro D aS  cS cI cU cQ cP cR cT ey eA eC eq ez w_
   rintro ⟨aA,az,aB,ax,aD,aC,aw,aJ,aN,aR,aq,au,aH,⟨M,cs7,b8,e7,e8,k8,k9,k11,k1,hI⟩⟩
   refine bj aP ?_
   exact ⟨fun _=>rfl,az,aB,ax,aD,aC,aw,aJ,aN,aR,aq,au,aH,⟨M,cs7,b8,e7,e8,k8,k9,k11,k1,hI⟩⟩
  ·intro D aS cA cS cI cU cQ cP cR cT ey eA eC eq ez w_
   rintro ⟨aA,az,aB,ax,aD,aC,aw,aJ,aN,aR,aq,au,aH,⟨M,cs7,b8,e7,e8,k8,k9,k11,k1,hI⟩⟩
   obtain rfl:=aA cA
   have f11:D 12=false:=Bool.eq_false_iff.2 fun h=>by rw [k1 h] at aS; cases aS
   refine bB (b:=b3) hI 2 (c:=(#[.int .i64 k,.int .i64 cur,.string s,kvc])) aL (by rw [f11]; rfl) rfl ?_
   have k1:=fun (_:ao D 1 12=true)=>(rfl:ao D 1 1=true)
   exact ⟨aA,fun _=>rfl,aB,ax,aD,aC,aw,aJ,aN,aR,aq,au,aH,⟨M,cs7,b8,e7,e8,k8,k9,k11,k1,hI⟩⟩
  ·intro D aS  cS cI cU cQ cP cR cT ey eA eC eq ez w_
   rintro ⟨aA,az,aB,ax,aD,aC,aw,aJ,aN,aR,aq,au,aH,⟨M,cs7,b8,e7,e8,k8,k9,k11,k1,hI⟩⟩
   refine bj aP ?_
   exact ⟨aA,az,fun _=>rfl,ax,aD,aC,aw,aJ,aN,aR,aq,au,aH,⟨M,cs7,b8,e7,e8,k8,k9,k11,k1,hI⟩⟩
  ·intro D aS cM cS cI cU cQ cP cR cT ey eA eC eq ez w_
   rintro ⟨aA,az,aB,ax,aD,aC,aw,aJ,aN,aR,aq,au,aH,⟨M,cs7,b8,e7,e8,k8,k9,k11,k1,hI⟩⟩
   obtain rfl:=aB cM
   refine bB hI 0 aL rfl rfl ?_
   exact ⟨aA,az,aB,fun _=>rfl,aD,aC,aw,aJ,aN,aR,aq,au,aH,⟨M,cs7,b8,e7,e8,k8,k9,k11,k1,hI⟩⟩
  ·intro D aS  cS cI cU cQ cP cR cT ey eA eC eq ez w_
   rintro ⟨aA,az,aB,ax,aD,aC,aw,aJ,aN,aR,aq,au,aH,⟨M,cs7,b8,e7,e8,k8,k9,k11,k1,hI⟩⟩
   exact ⟨aA,az,aB,ax,fun _=>rfl,aC,aw,aJ,aN,aR,aq,au,aH,⟨M,cs7,b8,e7,e8,k8,k9,k11,k1,hI⟩⟩
  ·intro D aS dh eD cS cI cU cQ cP cR cT ey eA eC eq ez w_
   rintro ⟨aA,az,aB,ax,aD,aC,aw,aJ,aN,aR,aq,au,aH,⟨M,cs7,b8,e7,e8,k8,k9,k11,k1,hI⟩⟩
   obtain rfl:=ax dh
   obtain rfl:=aD eD
   refine bq aG hj' ?_
   exact ⟨aA,az,aB,ax,aD,fun _=>rfl,aw,aJ,aN,aR,aq,au,aH,⟨M,cs7,b8,e7,e8,k8,k9,k11,k1,hI⟩⟩
  ·intro D aS dT cS cI cU cQ cP cR cT ey eA eC eq ez w_
   rintro ⟨aA,az,aB,ax,aD,aC,aw,aJ,aN,aR,aq,au,aH,⟨M,cs7,b8,e7,e8,k8,k9,k11,k1,hI⟩⟩
   obtain rfl:=aC dT
   refine dF ag hR.length (fun j v hj=>by rw [hI.cellS hS]; exact bx rfl j v hj) ?_
   exact ⟨aA,az,aB,ax,aD,aC,fun _=>rfl,aJ,aN,aR,aq,au,aH,⟨M,cs7,b8,e7,e8,k8,k9,k11,k1,hI⟩⟩
  ·intro D aS  cS cI cU cQ cP cR cT ey eA eC eq ez w_
   rintro ⟨aA,az,aB,ax,aD,aC,aw,aJ,aN,aR,aq,au,aH,⟨M,cs7,b8,e7,e8,k8,k9,k11,k1,hI⟩⟩
   exact ⟨aA,az,aB,ax,aD,aC,aw,fun _=>rfl,aN,aR,aq,au,aH,⟨M,cs7,b8,e7,e8,k8,k9,k11,k1,hI⟩⟩
  ·intro D aS bW lP cS cI cU cQ cP cR cT ey eA eC eq ez w_
   rintro ⟨aA,az,aB,ax,aD,aC,aw,aJ,aN,aR,aq,au,aH,⟨M,cs7,b8,e7,e8,k8,k9,k11,k1,hI⟩⟩
   obtain rfl:=aw bW
   obtain rfl:=aJ lP
   have f8:D 9=false:=Bool.eq_false_iff.2 fun h=>by rw [k8 h] at aS; cases aS
   have f9:D 10=false:=Bool.eq_false_iff.2 fun h=>by rw [k9 h] at f8; cases f8
   have f11:D 12=false:=Bool.eq_false_iff.2 fun h=>by rw [k11 h] at f9; cases f9
   rw [aS,f8,f9,f11] at hI
   refine Run.call0 pQ pF hI (ih _ (List.getElem_mem hj') S _ _ hR hv (by omega)) fun v' I' S w_=>?_
   rintro ⟨rfl,cs7,M,rfl,rfl,hT⟩ _ hI
   have e7:ao D 8 8=true->Value.agg cs7.toArray=Value.agg cs7.toArray/\TrT M cs7 (c5 vs ks[j]):=fun _=>⟨rfl,hT⟩
   have k8:=fun (_:ao D 8 9=true)=>(rfl:ao D 8 8=true)
   have hI:Inv w [] (bi (.blk b1 (.cells #[.int .i64 k,.int .i64 n,.string s,.slice (some ⟨b,o,none⟩) ks.length cap] ab)) (.blk b2 (.cells #[.int .i64 0,.int .i64 0,.string ⟨#[]⟩,.slice none 0 0] ab)) (.blk b3 (.cells #[.int .i64 k,.int .i64 cur,.string s,kvc] ab)) (.blk b3 (.cells #[.int .i64 k,.int .i64 cur,.string s,cI] ab)) (a5 kvc ab 4 css) (a5 cI ab 4 (css++[cs7])) (bw Ls.flatten) M (.blk b8 (.cells cs7.toArray ab)) true (D 9) (D 10) (D 12)) S w_:=by
    rw [f8,f9,f11]
    simpa [bi] using hI
   exact ⟨aA,az,aB,ax,aD,aC,aw,aJ,fun _=>by first|assumption|trivial,aR,aq,au,aH,⟨M,cs7,b8,e7,e8,k8,k9,k11,k1,hI⟩⟩
  ·intro D aS iP cS cI cU cQ cP cR cT ey eA eC eq ez w_
   rintro ⟨aA,az,aB,ax,aD,aC,aw,aJ,aN,aR,aq,au,aH,⟨M,cs7,b8,e7,e8,k8,k9,k11,k1,hI⟩⟩
   have E3:=aN iP
   have f9:D 10=false:=Bool.eq_false_iff.2 fun h=>by rw [k9 h] at aS; cases aS
   have f11:D 12=false:=Bool.eq_false_iff.2 fun h=>by rw [k11 h] at f9; cases f9
   obtain ⟨q7,hT⟩:=e7 iP
   subst q7
   rw [iP,aS,f9,f11] at hI
   refine dJ hI bC (by simp [Value.cells,hT.length]) (by omega) (by omega) fun b8 w_ hI=>?_
   have e7:ao D 9 8=true->Value.agg cs7.toArray=Value.agg cs7.toArray/\TrT M cs7 (c5 vs ks[j]):=fun _=>⟨rfl,hT⟩
   have e8:=fun (_:ao D 9 9=true)=>(rfl:Value.slice (some ⟨b8,0,none⟩) 1 1=_)
   have k8:=fun (_:ao D 9 9=true)=>iP
   have k9:=fun (_:ao D 9 10=true)=>(rfl:ao D 9 9=true)
   have hI:Inv w [] (bi (.blk b1 (.cells #[.int .i64 k,.int .i64 n,.string s,.slice (some ⟨b,o,none⟩) ks.length cap] ab)) (.blk b2 (.cells #[.int .i64 0,.int .i64 0,.string ⟨#[]⟩,.slice none 0 0] ab)) (.blk b3 (.cells #[.int .i64 k,.int .i64 cur,.string s,kvc] ab)) (.blk b3 (.cells #[.int .i64 k,.int .i64 cur,.string s,cI] ab)) (a5 kvc ab 4 css) (a5 cI ab 4 (css++[cs7])) (bw Ls.flatten) M (.blk b8 (.cells cs7.toArray ab)) (D 8) true (D 10) (D 12)) S w_:=by
    rw [iP,f9,f11]
    simpa [bi,Value.cells] using hI
   exact ⟨aA,az,aB,ax,aD,aC,aw,aJ,aN,fun _=>by first|assumption|trivial,aq,au,aH,⟨M,cs7,b8,e7,e8,k8,k9,k11,k1,hI⟩⟩
  ·intro D aS dB eQ o6 cS cI cU cQ cP cR cT ey eA eC eq ez w_
   rintro ⟨aA,az,aB,ax,aD,aC,aw,aJ,aN,aR,aq,au,aH,⟨M,cs7,b8,e7,e8,k8,k9,k11,k1,hI⟩⟩
   obtain rfl:=az dB
   have HC:=aR eQ
   have f11:D 12=false:=Bool.eq_false_iff.2 fun h=>by rw [k11 h] at aS; cases aS
   have q8:=e8 eQ
   subst q8
   obtain ⟨_,hT⟩:=e7 o6
   rw [o6,eQ,aS,f11] at hI
   have hblk:((bi (.blk b1 (.cells #[.int .i64 k,.int .i64 n,.string s,.slice (some ⟨b,o,none⟩) ks.length cap] ab)) (.blk b2 (.cells #[.int .i64 0,.int .i64 0,.string ⟨#[]⟩,.slice none 0 0] ab)) (.blk b3 (.cells #[.int .i64 k,.int .i64 cur,.string s,eq] ab)) (.blk b3 (.cells #[.int .i64 k,.int .i64 cur,.string s,cI] ab)) (a5 eq ab 4 css) (a5 cI ab 4 (css++[cs7])) (bw Ls.flatten) M (.blk b8 (.cells cs7.toArray ab)) true true false false))[4+(bw Ls.flatten).length+(bw M).length]?=some (.blk b8 (.cells cs7.toArray ab)):=by
    have e4:4+(bw Ls.flatten).length+(bw M).length=((bw Ls.flatten).length+(bw M).length)+1+1+1+1:=by omega
    rw [e4]
    simp only [bi,List.getElem?_cons_succ]
    rw [List.getElem?_append_right (by omega),Nat.add_sub_cancel_left,List.getElem?_append_right (Nat.le_refl _),Nat.sub_self]; rfl
   refine ev hI 3 cs7 bC (by omega) rfl (by rw [hT.length]) (m:=1) (o:=0) ?_ hT.one (by omega) (by omega) fun v' w_ hI=>?_
   ·intro i u hi
    rw [hI.cellL hblk,Nat.zero_add]
    simpa using hi
   rw [eN] at hI
   have k9:=fun (_:ao D 10 10=true)=>eQ
   have k11:=fun (_:ao D 10 12=true)=>(rfl:ao D 10 10=true)
   have hI:Inv w [] (bi (.blk b1 (.cells #[.int .i64 k,.int .i64 n,.string s,.slice (some ⟨b,o,none⟩) ks.length cap] ab)) (.blk b2 (.cells #[.int .i64 0,.int .i64 0,.string ⟨#[]⟩,.slice none 0 0] ab)) (.blk b3 (.cells #[.int .i64 k,.int .i64 cur,.string s,eq] ab)) (.blk b3 (.cells #[.int .i64 k,.int .i64 cur,.string s,v'] ab)) (a5 eq ab 4 css) (a5 v' ab 4 (css++[cs7])) (bw Ls.flatten) M (.blk b8 (.cells cs7.toArray ab)) (D 8) (D 9) true (D 12)) S w_:=by
    rw [o6,eQ,f11]
    exact hI
   exact ⟨aA,az,aB,ax,aD,aC,aw,aJ,aN,aR,fun _=>by first|assumption|trivial,au,aH,⟨M,cs7,b8,e7,e8,k8,k9,k11,k1,hI⟩⟩
  ·intro D aS cA iz qD xd uq AH zT EA I6 Jj Ju cS cI cU cQ cP cR cT ey eA eC eq ez w_
   rintro ⟨aA,az,aB,ax,aD,aC,aw,aJ,aN,aR,aq,au,aH,⟨M,cs7,b8,e7,e8,k8,k9,k11,k1,hI⟩⟩
   refine bj aP ?_
   exact ⟨aA,az,aB,ax,aD,aC,aw,aJ,aN,aR,aq,fun _=>rfl,aH,⟨M,cs7,b8,e7,e8,k8,k9,k11,k1,hI⟩⟩
  ·intro D aS j0 gE vX tP i8 uJ uE qF qJ zY jt gY mu JL cS cI cU cQ cP cR cT ey eA eC eq ez w_
   rintro ⟨aA,az,aB,ax,aD,aC,aw,aJ,aN,aR,aq,au,aH,⟨M,cs7,b8,e7,e8,k8,k9,k11,k1,hI⟩⟩
   obtain rfl:=au j0
   have EZ:=aq gE
   rw [gY,mu,gE,aS] at hI
   obtain ⟨va,vn,vc,hv9⟩:=Inv.rowSlice hI 3 rfl
   refine ei hI 2 (n:=1) (by rw [hv9]; rfl) (by decide +kernel) rfl (by simp) (by rw [hv9]; simp [Value.cells,Value.oneCell']) fun w_ hI=>?_
   have hcl9:Value.cells cI=#[cI]:=by rw [hv9]; rfl
   rw [hcl9] at hI
   have k1:=fun (_:ao D 12 12=true)=>i8
   have k11:=fun (_:ao D 12 12=true)=>gE
   have hI:Inv w [] (bi (.blk b1 (.cells #[.int .i64 k,.int .i64 n,.string s,.slice (some ⟨b,o,none⟩) ks.length cap] ab)) (.blk b2 (.cells #[.int .i64 0,.int .i64 0,.string ⟨#[]⟩,.slice none 0 0] ab)) (.blk b3 (.cells #[.int .i64 k,.int .i64 cur,.string s,kvc] ab)) (.blk b3 (.cells #[.int .i64 k,.int .i64 cur,.string s,cI] ab)) (a5 kvc ab 4 css) (a5 cI ab 4 (css++[cs7])) (bw Ls.flatten) M (.blk b8 (.cells cs7.toArray ab)) (D 8) (D 9) (D 10) true) S w_:=by
    rw [gY,mu,gE]
    exact hI
   exact ⟨aA,az,aB,ax,aD,aC,aw,aJ,aN,aR,aq,au,fun _=>trivial,⟨M,cs7,b8,e7,e8,k8,k9,k11,k1,hI⟩⟩
  intro D jV gw fg jA g7 gc fj ft fL fX fM fP fY cS cI cU cQ cP cR cT ey eA eC eq ez w_
  rintro ⟨aA,az,aB,ax,aD,aC,aw,aJ,aN,aR,aq,au,aH,⟨M,cs7,b8,e7,e8,k8,k9,k11,k1,hI⟩⟩
  obtain rfl:=au gw
  have EZ:=aq fg
  have HC:=aR jA
  have E3:=aN g7
  obtain rfl:=aJ gc
  obtain rfl:=aw fj
  obtain rfl:=aC ft
  obtain rfl:=aD fL
  obtain rfl:=ax fX
  obtain rfl:=aB fM
  obtain rfl:=az fP
  obtain rfl:=aA fY
  clear aA az aB ax aD aC aw aJ aN aR aq au aH
  obtain ⟨_,hT⟩:=e7 g7
  rw [g7,jA,fg,jV] at hI
  refine bR (by omega) ?_
  refine ⟨⟨j+1,cI,Ls++[M],css++[cs7],hj',rfl,?_,?_⟩,by simp [intOf]; omega⟩
  ·rw [xP vs ks j hj']
   exact hg.snoc hT hT.length
  ·simp only [List.flatten_append,List.flatten_cons,List.flatten_nil,List.append_nil,c8]
   refine hI.sub ?_
   simp only [bi]
   rw [<- List.append_assoc]
   exact (((List.sublist_append_left _ _).cons_cons _).cons_cons _).cons_cons _ |>.cons_cons _
 ·have:j=ks.length:=by omega
  subst this
  rw [List.take_length] at hg
  obtain ⟨va,vn,vc,hvk⟩:=hI.rowSlice 3 rfl
  have hv1:kvc.oneCell'=true:=by rw [hvk]; rfl
  refine aO hI 2 ag rfl rfl ?_
  refine aM hI 1 rfl ag rfl rfl ?_ fun w' hI=>?_
  ·intro u hu
   have hu':u∈([.int .i64 k,.int .i64 cur,.string s,kvc]:List Value):=hu
   simp at hu'
   rcases hu' with rfl|rfl|rfl|rfl <;> first|rfl|exact hv1
  refine bA hI 1 ag rfl rfl ?_
  have hI:Inv w [] ([]++(a5 kvc ab 4 css::bw Ls.flatten)) S w':=hI.sub (List.sublist_append_right [_,_,_] _)
  obtain ⟨L,hT,hI⟩:=Inv.rowTree hI hg
  exact ⟨_,_,_,rfl,hI,Ext.refl _ _ _,rfl,_,L,rfl,rfl,TrT.iff.2 ⟨kvc,by rw [c5,<- hN]; rfl,by rw [c5]; exact h1,by rw [c5,<- hN]; exact hNi,by rw [c5]; exact hs,by rw [c5]; exact hT⟩⟩
end

end Go.Proofs.YtnmnddpdikghhaaGreat

/- spec.RenumberClause: lists and clauses. -/
namespace Go.Proofs.YtnmnddpdikghhaaGreat
open Go Go.RowKit
section
variable {w:World} {K:Value->World->Prop}
attribute [local irreducible] Run
theorem dL (hk:K (.agg #[.int .i64 0,.int .i64 0,.string ⟨#[]⟩,.slice none 0 0,.slice none 0 0]) w):Run Tryz.prog (bP ac []) w K:=by
 refine Run.of (v:=.agg #[.int .i64 0,.int .i64 0,.string ⟨#[]⟩,.slice none 0 0,.slice none 0 0]) (w':=w) ?_ hk
 unfold bP
 rw [Sem.run_bind,run_build w ac _ #[.int .i64 0,.int .i64 0,.string ⟨#[]⟩,.slice none 0 0,.slice none 0 0] (by kernel_rfl),Result.andThen_ok]
 rfl
end
theorem Fo (ts:List T) (j:Nat) (h:j<ts.length) (l:List Int):cW (ts.drop j) l=cW (ts.drop (j+1)) (ew ts[j] l):=by
 rw [List.drop_eq_getElem_cons h,cW]
section
attribute [local irreducible] Run CondV ai a4
theorem tK {ts:List T} {S:ay} {v:Value} (h:RdSl S 4 (RdT S) v ts) (hw:ts.length+wL ts<=1048577):Tri Tryz.prog zw [v] [] S (H2 4 TrT S (dM (cW ts []) ts)):=by
 intro w hI
 have hlen:=h.le
 simp only [maxLen] at hlen
 have hcl:=ze ts
 refine qz ?_
 unfold mj
 refine gN hI lM fun v0 w' hI=>?_
 refine ⟨fun i t w'=>∃ (j:Nat) (l:List Int),j<=ts.length/\i=.int .i64 j/\cW (ts.drop j) l=cW ts []/\l.length+cZ (ts.drop j)<=3000000/\Inv w [] [el t l] S w',
  fun i _ _=>ts.length - (intOf i).toNat,⟨0,[],Nat.zero_le _,rfl,rfl,by simp only [List.drop_zero,List.length_nil]; omega,hI⟩,?_⟩
 intro t4 _ _ t3 _ _ _ _ _ _ _ _ _ _ w'
 rintro ⟨j,l,hj,rfl,hvs,hl,hI⟩
 refine bm h aG ?_
 refine cF ?_
 refine bF (fun hji=>?_) (fun hji=>?_)
 ·have hj':j<ts.length:=by omega
  rw [jE ts j hj'] at hl
  rw [Fo ts j hj'] at hvs
  have hc1:=dS (ts.drop (j+1))
  have hc2:=uL ts[j] l
  refine dN hI h aG ag hj' (fun _ _=>RdT.length) fun cs' hcs'=>?_
  refine Run.call (A:=[]) j9 kE hI (l7 _ S cs' t3 l hcs' (by omega)) fun v' I' S' w'=>?_
  rintro ⟨rfl,rfl⟩ _ hI
  refine bR (by omega) ?_
  exact ⟨⟨j+1,_,hj',rfl,hvs,by omega,hI⟩,by simp [intOf]; omega⟩
 have:j=ts.length:=by omega
 subst this
 rw [List.drop_length,cW] at hvs
 rw [List.drop_length] at hl
 subst hvs
 have hl':(cW ts []).length<=1000000000:=by
  have:cZ ([]:List T)=0:=rfl
  omega
 clear hl
 generalize cW ts []=vs at hI hl' ⊢
 obtain ⟨S1,hle1,hrd,hI,_⟩:=Inv.lend (A:=[]) hI
 have hrd:=hrd.ints
 have h:=h.mono hle1 fun _ _ h=>h.mono hle1
 refine gN hI bC fun v1 w' hI=>?_
 refine ⟨fun i t w'=>∃ (k:Nat) (Ls:List bI) (css:List (List Value)),k<=ts.length/\i=.int .i64 k/\Grown 4 TrT Ls css (dM vs (ts.take k))/\Inv w [] (a5 t ab 4 css::bw Ls.flatten) S1 w',
  fun i _ _=>ts.length - (intOf i).toNat,⟨0,[],[],Nat.zero_le _,rfl,Grown.nil _ _,hI⟩,?_⟩
 intro t6 _ _ t5 _ _ _ _ _ _ _ _ _ _ _ _ _ w'
 rintro ⟨k,Ls,css,hk,rfl,hg,hI⟩
 refine bm h aG ?_
 refine cF ?_
 refine bF (fun hki=>?_) (fun hki=>?_)
 ·have hk':k<ts.length:=by omega
  have htl:(ts.take k).length=k:=by simp; omega
  have hcl:=hg.hc
  rw [jD] at hcl
  have hm:=List.getElem_mem hk'
  have hwm:=gF hm
  refine dN hI h aG ag hk' (fun _ _=>RdT.length) fun cs hcs=>?_
  refine Run.call0 pQ pF hI (xR vs hl' _ S1 cs _ hcs hrd (by omega)) fun v' I' S' w'=>?_
  rintro ⟨rfl,cs',L,rfl,rfl,hT⟩ _ hI
  refine eL hI 0 cs' bC (by omega) (by omega) rfl hT.length hT.one (by omega) (by omega) fun v' w' hI=>?_
  refine bR (by omega) ?_
  refine ⟨⟨k+1,Ls++[L],css++[cs'],hk',rfl,?_,?_⟩,by simp [intOf]; omega⟩
  ·rw [xP vs ts k hk']
   exact hg.snoc hT hT.length
  ·simp only [List.flatten_append,List.flatten_cons,List.flatten_nil,List.append_nil,c8]
   exact hI
 ·have:k=ts.length:=by omega
  subst this
  rw [List.take_length] at hg
  obtain ⟨L,hT,hI⟩:=Inv.rowTree (A:=[]) hI hg
  exact ⟨_,_,_,rfl,hI.less hle1,Ext.refl _ _ _,rfl,_,rfl,hT⟩
abbrev La (c:C):Value->List Item->ay->Prop:=fun v I' S'=>I'=[]/\∃ cs,v=.agg cs.toArray/\RdC S' cs c
def JH (c:C):C:=if bG c=true then ir (bD c) c else ⟨⟨0,0,⟨#[]⟩,[]⟩,[]⟩
theorem RdC.zero (S:ay):RdC S [.int .i64 0,.int .i64 0,.string ⟨#[]⟩,.slice none 0 0,.slice none 0 0] ⟨⟨0,0,⟨#[]⟩,[]⟩,[]⟩:=
 ⟨[.int .i64 0,.int .i64 0,.string ⟨#[]⟩,.slice none 0 0],.slice none 0 0,rfl,RdT.iff.2 ⟨_,rfl,by simp [inI,T.kind],by simp [inI,T.n],by rw [T.name]; decide +kernel,⟨none,0,rfl,Nat.le_refl _,Nat.zero_le _,.inl rfl⟩⟩,⟨none,0,rfl,Nat.le_refl _,Nat.zero_le _,.inl rfl⟩⟩
end

end Go.Proofs.YtnmnddpdikghhaaGreat

/- spec: resolved terms, if they are small. -/
namespace Go.Proofs.YtnmnddpdikghhaaGreat
open Go Go.RowKit
mutual
def nU:T->Int->Bool
 | .mk _ _ _ ks,d=>if d<1 then false else Ji ks (d - 1)
def Ji:List T->Int->Bool
 | [],_=>true
 | t::ts,d=>nU t d && Ji ts d
end
theorem r8:∀ (ts:List T) (d:Int),Ji ts d=ts.all fun t=>nU t d
 | [],_=>rfl
 | t::ts,d=>by rw [Ji,r8 ts d]; rfl
def dO (u:T):Bool:=decide (dQ u<=120) && nU u 30
theorem Bq (us:List T) (j:Nat) (h:j<us.length):cZ (us.take (j+1))=cZ (us.take j)+dQ us[j]:=by
 induction us generalizing j with
 | nil=>simp at h
 | cons u us ih=>
  cases j with
  | zero=>simp only [List.take_succ_cons,List.take_zero,List.getElem_cons_zero,cZ]; omega
  | succ j=>
   have:=ih j (by simpa using h)
   simp only [List.take_succ_cons,List.getElem_cons_succ,cZ] at *
   omega
theorem s5 (us:List T) (j:Nat):cZ (us.take j)<=cZ us:=by
 induction us generalizing j with
 | nil=>simp
 | cons u us ih=>
  cases j with
  | zero=>simp only [List.take_zero]; exact dS _
  | succ j=>
   have:=ih j
   simp only [List.take_succ_cons,cZ]
   omega
theorem kA (k n:Int) (s:ByteArray) (ks:List T):dQ (.mk k n s ks)=1+cZ ks:=rfl
theorem l5 {w:World} {v:Value} {e:TypeId} {k n:Nat} {xs:List Value} (h:(Item.row v e k n xs).holds w):v.cells=#[v]/\v.oneCell'=true:=by
 have h:w.ownsRow 0 e k v n xs:=h
 rcases h.2 with ⟨rfl,_⟩|⟨g,cap,cur,rfl,_⟩ <;> exact ⟨rfl,rfl⟩
section
attribute [local irreducible] Run CondV ai a4
theorem l0 {K:Value->World->Prop} {w:World} (hk:K (.agg #[.int .i64 0,.int .i64 0,.string ⟨#[]⟩,.slice none 0 0]) w):Run Tryz.prog (bP ab []) w K:=by
 refine Run.of ?_ hk
 kernel_rfl
theorem CV:∀ (t:T) (d:Int) (S:ay) (cs:List Value),RdT S cs t->-1000000<=d->d<=1000000->Pure Tryz.prog Hu [.agg cs.toArray,.int .i64 d] S (.bool (nU t d)):=by
 refine T.ind fun k n s ks ih d S cs h hd0 hd1=>?_
 intro w hI
 obtain ⟨kv,rfl,_,_,_,hks⟩:=RdT.iff.1 h
 simp only [T.name,T.kids,T.kind,T.n] at hks ⊢
 have hlen:=hks.le
 simp only [maxLen] at hlen
 refine yR ?_
 unfold vo
 refine bN hI fun b2 w' hI=>?_
 rw [nU]
 refine cF ?_
 refine bF (fun hd=>?_) (fun hd=>?_)
 ·rw [if_pos hd]
  exact done hI rfl
 rw [if_neg hd,r8]
 refine ⟨fun i w'=>∃ j:Nat,j<=ks.length/\i=.int .i64 j/\((ks.drop j).all fun t=>nU t (d - 1))=(ks.all fun t=>nU t (d - 1))/\Inv w [] [.blk b2 (.cells #[.int .i64 k,.int .i64 n,.string s,kv] ab)] S w',
  fun i _=>ks.length - (intOf i).toNat,⟨0,Nat.zero_le _,rfl,rfl,hI⟩,?_⟩
 intro t5 _ _ _ _ _ _ _ _ _ _ _ _ _ _ _ _ _ w'
 rintro ⟨j,hj,rfl,hrel,hI⟩
 refine ar hI 0 rfl aP aL rfl ?_
 refine bm hks aG ?_
 refine cF ?_
 refine bF (fun hji=>?_) (fun hji=>?_)
 ·have hj':j<ks.length:=by omega
  have hstep:=xU (fun t=>nU t (d - 1)) ks j hj'
  refine ar hI 0 rfl aP aL rfl ?_
  refine dN hI hks aG ag hj' (fun _ _=>RdT.length) fun cs hcs=>?_
  refine lq (by omega) ?_
  refine Run.callPure vM vQ hI (ih _ (List.getElem_mem hj') (d - 1) S cs hcs (by omega) (by omega)) fun w' hI=>?_
  refine cN ?_
  refine a7 (fun hne=>done hI ?_) (fun he=>?_)
  ·have hne':nU ks[j] (d - 1)=false:=by simpa using hne
   rw [<- hrel,hstep,hne']; rfl
  ·have he':nU ks[j] (d - 1)=true:=by simpa using he
   refine bR (by omega) ?_
   exact ⟨⟨j+1,hj',rfl,by rw [<- hrel,hstep,he']; rfl,hI⟩,by simp [intOf]; omega⟩
 ·have:j=ks.length:=by omega
  subst this
  exact done hI (by rw [<- hrel,List.drop_length]; rfl)
/- a tuple of a term and of how many nodes are left -/
def LU (kb:Nat) (kc:Array Value) (u:T) (room:Int):Value->List Item->ay->Prop:=fun q I' S'=>I'=[.blk kb (.cells kc ab)]/\
 ∃ cs':List Value,cs'.length=4/\(∀ x∈cs',x.oneCell'=true)/\q=.tuple #[.agg cs'.toArray,.int .i64 (if dQ u<=room then room - dQ u else -1)]/\(dQ u<=room->RdT S' cs' u)
def FC (N kp:Nat) (st:bu) (t u:T):Prop:=∀ (S:ay) (cs:List Value) (kb:Nat) (kc:Array Value) (room:Int),RdT S cs t->KnU S kc st->-1<=room->room<=1000000->
 Tri Tryz.prog Gy [.agg cs.toArray,kvU kb N kp,.int .i64 room] [.blk kb (.cells kc ab)] S (LU kb kc u room)
theorem lw:∀ x∈([.int .i64 0,.int .i64 0,.string ⟨#[]⟩,.slice none 0 0]:List Value),x.oneCell'=true:=by simp [Value.oneCell']
theorem D8 {N kp:Nat} {st:bu} {t v:T} {us:List T} (hg:Good N st) (hwv:dy st t v) (hot:okU N t/\wT t<=1048576) (hlu:us.length=v.kids.length)
  (hk:∀ i (h:i<us.length) (h':i<v.kids.length),FC N kp st v.kids[i] us[i]):FC N kp st t (.mk v.kind v.n v.name us):=by
 intro S cs kb kc room h hkc hr0 hr1 w hI
 have hlc:=h.length
 have hov:=eG hg hwv hot
 obtain ⟨X,hX⟩:∃ X,X=bS [Item.blk kb (.cells kc ab)]:=⟨_,rfl⟩
 rw [<- hX] at hI ⊢
 have hcu:=dS us
 refine xH ?_
 unfold vF
 refine bN hI fun b3 w' hI=>?_
 refine a9 hI bt fun b6 w' hI=>?_
 have hI:Inv w X ([.blk b3 (.cells cs.toArray ab),.blk b6 (.cells #[.int .i64 0,.int .i64 0,.string ⟨#[]⟩,.slice none 0 0] ab)]++[.blk kb (.cells kc ab)]) S w':=hI.perm (List.perm_append_comm (l₁:=[_,_]) (l₂:=[_]))
 refine cF ?_
 refine bF (fun hlt=>?_) (fun hlt=>?_)
 ·refine l0 ?_
  refine aM hI 1 rfl ag rfl rfl lw fun w' hI=>?_
  refine bA hI 1 ag rfl rfl ?_
  refine ⟨_,_,_,rfl,hI.pick [false,false,true],Ext.refl _ _ _,rfl,_,rfl,lw,?_,fun h=>?_⟩
  ·rw [kA,if_neg (by omega)]
  ·rw [kA] at h; omega
 refine aO hI 0 ag rfl (by simpa using hlc) ?_
 refine Run.call nv nI hI (lU hg hwv hot.1 h hkc) fun v' I' S' w'=>?_
 rintro ⟨eS,rfl,cs',rfl,hcs'⟩ _ hI
 rw [eS] at hI
 clear eS
 refine aM hI 0 rfl ag (by simpa using hcs'.length) (by simpa using hlc) (by simpa using hcs'.one) fun w' hI=>?_
 obtain ⟨kv,rfl,hi1,hi2,hs,hks⟩:=RdT.iff.1 hcs'
 have hI:Inv w X [.blk b3 (.cells #[.int .i64 v.kind,.int .i64 v.n,.string v.name,kv] ab),.blk b6 (.cells #[.int .i64 0,.int .i64 0,.string ⟨#[]⟩,.slice none 0 0] ab),.blk kb (.cells kc ab)] S w':=hI
 have hlen:=hks.le
 have hkl:v.kids.length<=1048576:=by
  have:=hov.2
  cases v
  simp only [wT] at this
  simp only [T.kids]
  omega
 refine ar hI 0 rfl bv bg rfl ?_
 refine ar hI 0 rfl bn bg rfl ?_
 refine ar hI 0 rfl bH bz rfl ?_
 refine g6 ?_
 refine a9 hI bt fun b8 w' hI=>?_
 have hI:Inv w X [.blk b3 (.cells #[.int .i64 v.kind,.int .i64 v.n,.string v.name,kv] ab),.blk b6 (.cells #[.int .i64 0,.int .i64 0,.string ⟨#[]⟩,.slice none 0 0] ab),.blk b8 _,.blk kb (.cells kc ab)] S w':=hI.perm (((List.perm_append_comm (l₁:=[_]) (l₂:=[_])).cons _).cons _)
 refine aM hI 2 rfl ag rfl rfl (by simp [Value.oneCell']) fun w' hI=>?_
 refine lq (by omega) ?_
 have hI:=hI.rowNil ab 4
 have hI:Inv w X [.blk b3 (.cells #[.int .i64 v.kind,.int .i64 v.n,.string v.name,kv] ab),.blk b6 (.cells #[.int .i64 0,.int .i64 0,.string ⟨#[]⟩,.slice none 0 0] ab),.blk b8 (.cells #[.int .i64 v.kind,.int .i64 v.n,.string v.name,.slice none 0 0] ab),a5 (.slice none 0 0) ab 4 [],.blk kb (.cells kc ab)] S w':=hI.perm ((((List.perm_append_comm (l₁:=[_]) (l₂:=[_])).cons _).cons _).cons _)
 refine ⟨fun i l w'=>∃ (j:Nat) (left:Int) (kvc:Value) (css:List (List Value)) (S1:ay),j<=us.length/\i=.int .i64 j/\l=.int .i64 left/\Ext w.heap.size X S S1/\css.length=j/\
   ((left=room - 1 - cZ (us.take j)/\0<=left/\Rows 4 (RdT S1) css (us.take j)) ∨ (left=-1/\room - 1<cZ us))/\
   Inv w X [.blk b3 (.cells #[.int .i64 v.kind,.int .i64 v.n,.string v.name,kv] ab),.blk b6 (.cells #[.int .i64 0,.int .i64 0,.string ⟨#[]⟩,.slice none 0 0] ab),.blk b8 (.cells #[.int .i64 v.kind,.int .i64 v.n,.string v.name,kvc] ab),a5 kvc ab 4 css,.blk kb (.cells kc ab)] S1 w',
  fun i _ _=>us.length - (intOf i).toNat,⟨0,room - 1,_,[],S,Nat.zero_le _,rfl,rfl,Ext.refl _ _ _,rfl,.inl ⟨by simp [cZ],by omega,Rows.nil _ _⟩,hI⟩,?_⟩
 intro t10 _ _ t9 _ _ _ _ _ _ _ _ _ _ _ _ _ _ _ _ _ _ _ _ _ _ _ _ _ _ _ _ _ w'
 rintro ⟨j,left,kvc,css,S1,hj,rfl,rfl,hE,hcl,hst,hI⟩
 refine ⟨fun q w'=>q=.bool (decide (j<us.length/\0<=left))/\Inv w X [.blk b3 (.cells #[.int .i64 v.kind,.int .i64 v.n,.string v.name,kv] ab),.blk b6 (.cells #[.int .i64 0,.int .i64 0,.string ⟨#[]⟩,.slice none 0 0] ab),.blk b8 (.cells #[.int .i64 v.kind,.int .i64 v.n,.string v.name,kvc] ab),a5 kvc ab 4 css,.blk kb (.cells kc ab)] S1 w',?_,?_⟩
 ·refine ar hI 0 rfl aP aL rfl ?_
  refine bm hks aG ?_
  refine cF ?_
  by_cases e1:(j:Int)<(v.kids.length:Nat)
  ·rw [decide_eq_true e1]
   repeat (first|refine ae ?_|refine ah (by decide) ?_|refine ad ?_|refine al ?_|refine aj ?_)
   refine kT ?_
   repeat (first|refine ae ?_|refine ah (by decide) ?_|refine ad ?_|refine al ?_|refine aj ?_)
   refine ⟨?_,hI⟩
   congr 1
   rw [Bool.eq_iff_iff,decide_eq_true_eq,decide_eq_true_eq]
   omega
  ·rw [decide_eq_false e1]
   repeat (first|refine ae ?_|refine ah (by decide) ?_|refine ad ?_|refine al ?_|refine aj ?_)
   refine ⟨?_,hI⟩
   rw [decide_eq_false (by omega)]
 intro q _ _ _ _ _ _ _ _ w'
 rintro ⟨rfl,hI⟩
 refine bF (fun hgo=>?_) (fun hgo=>?_)
 ·obtain ⟨hj1,hl0⟩:=hgo
  have hj2:j<v.kids.length:=by omega
  obtain ⟨hleft,_,hR⟩:left=room - 1 - cZ (us.take j)/\0<=left/\Rows 4 (RdT S1) css (us.take j):=by
   rcases hst with h1|⟨h1,_⟩
   ·exact h1
   ·omega
  have hpos:=dS (us.take j)
  refine ar hI 0 rfl aP aL rfl ?_
  refine dN hI (hks.monoT hE.1) aG ag hj2 (fun _ _=>RdT.length) fun cs0 hcs0=>?_
  have hI:Inv w X ([.blk b3 (.cells #[.int .i64 v.kind,.int .i64 v.n,.string v.name,kv] ab),.blk b6 (.cells #[.int .i64 0,.int .i64 0,.string ⟨#[]⟩,.slice none 0 0] ab),.blk b8 (.cells #[.int .i64 v.kind,.int .i64 v.n,.string v.name,kvc] ab),a5 kvc ab 4 css]++[.blk kb (.cells kc ab)]) S1 _:=hI
  refine Run.callE vO vj hI (hk j hj1 hj2 S1 cs0 kb kc left hcs0 (hkc.mono hE.1) (by omega) (by omega)) fun v' I' S2 w'=>?_
  rintro ⟨rfl,cs2,hl4,ho4,rfl,hrd⟩ hE2 hI
  refine aT rfl ?_
  refine aT rfl ?_
  refine a9 hI bt fun b11 w' hI=>?_
  have hI:=hI.perm (M:=.blk b11 _::[.blk b3 (.cells #[.int .i64 v.kind,.int .i64 v.n,.string v.name,kv] ab),.blk b6 (.cells #[.int .i64 0,.int .i64 0,.string ⟨#[]⟩,.slice none 0 0] ab),.blk b8 (.cells #[.int .i64 v.kind,.int .i64 v.n,.string v.name,kvc] ab),a5 kvc ab 4 css,.blk kb (.cells kc ab)]) (List.perm_append_comm (l₁:=[_]))
  refine aM hI 0 rfl ag (by simpa using hl4) rfl (by simpa using ho4) fun w' hI=>?_
  refine ar (b:=b8) (c:=#[.int .i64 v.kind,.int .i64 v.n,.string v.name,kvc]) hI 3 rfl aP aL rfl ?_
  refine aO hI 0 ag rfl (by simpa using hl4) ?_
  refine eL hI 4 cs2 bC (by omega) (by omega) rfl hl4 ho4 (by omega) (by omega) fun kvc2 w' hI=>?_
  have hkv2:=l5 (hI.its (a5 kvc2 ab 4 (css++[cs2])) (by simp))
  refine eM (b:=b8) (c:=#[.int .i64 v.kind,.int .i64 v.n,.string v.name,kvc]) hI 3 rfl aP aL rfl hkv2.1 hkv2.2 fun w' hI=>?_
  have hI:Inv w X [.blk b3 (.cells #[.int .i64 v.kind,.int .i64 v.n,.string v.name,kv] ab),.blk b6 (.cells #[.int .i64 0,.int .i64 0,.string ⟨#[]⟩,.slice none 0 0] ab),.blk b8 (.cells #[.int .i64 v.kind,.int .i64 v.n,.string v.name,kvc2] ab),a5 kvc2 ab 4 (css++[cs2]),.blk kb (.cells kc ab)] S2 w':=hI.pick [false,true,true,true,true,true]
  refine bR (by omega) ?_
  have hct:=Bq us j hj1
  have hcle:=s5 us (j+1)
  have hc0:=lF us[j]
  refine ⟨⟨j+1,_,kvc2,css++[cs2],S2,hj1,rfl,rfl,hE.trans hE2,by simp [hcl],?_,hI⟩,by simp [intOf]; omega⟩
  by_cases hfit:dQ us[j]<=left
  ·left
   rw [if_pos hfit]
   refine ⟨by omega,by omega,?_⟩
   rw [List.take_succ_eq_append_getElem hj1]
   exact (hR.monoR fun _ _ h=>RdT.mono hE2.1 h).snoc (hrd hfit) hl4
  ·right
   rw [if_neg hfit]
   exact ⟨rfl,by omega⟩
 ·refine aO (b:=b8) (c:=#[.int .i64 v.kind,.int .i64 v.n,.string v.name,kvc]) hI 2 ag rfl rfl ?_
  have hkv2:=l5 (hI.its (a5 kvc ab 4 css) (by simp))
  have hone:∀ x∈([.int .i64 v.kind,.int .i64 v.n,.string v.name,kvc]:List Value),x.oneCell'=true:=by
   intro x hx
   simp at hx
   rcases hx with rfl|rfl|rfl|rfl <;> first|rfl|exact hkv2.2
  refine aM hI 1 rfl ag rfl rfl hone fun w' hI=>?_
  refine bA (c:=#[.int .i64 v.kind,.int .i64 v.n,.string v.name,kvc]) hI 1 ag rfl rfl ?_
  have hI:Inv w X ([.blk kb (.cells kc ab)]++[a5 kvc ab 4 css]) S1 w':=(hI.pick [false,false,false,true,true]).perm (List.Perm.swap ..)
  rcases hst with ⟨h1,h2,hR⟩|⟨h1,h2⟩
  ·have hje:j=us.length:=by omega
   rw [hje,List.take_length] at h1 hR
   obtain ⟨S3,hE3,hrd,hI⟩:=hI.lendExt
   have hrr:=RowRd.rows (hR.monoR fun _ _ h=>RdT.mono hE3.1 h) hrd
   refine ⟨_,_,_,rfl,hI,hE.trans hE3,rfl,[.int .i64 v.kind,.int .i64 v.n,.string v.name,kvc],rfl,hone,?_,fun _=>RdT.iff.2 ⟨kvc,rfl,hi1,hi2,hs,hrr⟩⟩
   rw [kA,if_pos (by omega),show left=room - (1+cZ us) by omega]
  ·refine ⟨_,_,_,rfl,hI.sub (List.sublist_append_left _ _),hE,rfl,[.int .i64 v.kind,.int .i64 v.n,.string v.name,kvc],rfl,hone,?_,fun h=>?_⟩
   ·rw [kA,if_neg (by omega),h1]
   ·rw [kA] at h; omega
theorem CK {N kp:Nat} {st:bu} (hg:Good N st) {j:Jg} (hr:Res st j):match j with
  | .one t u=>(okU N t/\wT t<=1048576)->FC N kp st t u
  | .list ts us=>(∀ t∈ts,okU N t/\wT t<=1048576)->us.length=ts.length/\∀ i (h:i<us.length) (h':i<ts.length),FC N kp st ts[i] us[i]:=by
 induction hr with
 | one hw _ ih=>
  intro ho
  have h1:=ih (ky (eG hg hw ho))
  exact D8 hg hw ho h1.1 h1.2
 | nil=>exact fun _=>⟨rfl,fun i h _=>by simp at h⟩
 | cons _ _ ih1 ih2=>
  intro ho
  obtain ⟨h1,h2⟩:=ih2 fun t ht=>ho t (List.mem_cons_of_mem _ ht)
  refine ⟨by simp [h1],fun i h h'=>?_⟩
  cases i with
  | zero=>exact ih1 (ho _ (List.mem_cons_self ..))
  | succ i=>exact h2 i (by simpa using h) (by simpa using h')
def Lx (kb:Nat) (kc:Array Value) (u:T):Value->List Item->ay->Prop:=fun q I' S'=>I'=[.blk kb (.cells kc ab)]/\
 ∃ cs':List Value,cs'.length=4/\(∀ x∈cs',x.oneCell'=true)/\q=.tuple #[.agg cs'.toArray,.bool (dO u)]/\(dO u=true->RdT S' cs' u)
theorem Ah {N kp:Nat} {st:bu} (hg:Good N st) {t u:T} (hr:Res st (.one t u)) (ho:okU N t/\wT t<=1048576) {S:ay} {cs:List Value} {kb:Nat} {kc:Array Value} (h:RdT S cs t) (hkc:KnU S kc st) :
  Tri Tryz.prog EB [.agg cs.toArray,kvU kb N kp] [.blk kb (.cells kc ab)] S (Lx kb kc u):=by
 intro w hI
 have hlc:=h.length
 obtain ⟨X,hX⟩:∃ X,X=bS [Item.blk kb (.cells kc ab)]:=⟨_,rfl⟩
 rw [<- hX] at hI ⊢
 have hfull:FC N kp st t u:=CK hg hr ho
 refine wE ?_
 unfold tb
 refine bN hI fun b2 w' hI=>?_
 refine a9 hI bt fun b4 w' hI=>?_
 have hI:Inv w X ([.blk b2 (.cells cs.toArray ab),.blk b4 (.cells #[.int .i64 0,.int .i64 0,.string ⟨#[]⟩,.slice none 0 0] ab)]++[.blk kb (.cells kc ab)]) S w':=hI.perm (List.perm_append_comm (l₁:=[_,_]) (l₂:=[_]))
 refine aO hI 0 ag rfl (by simpa using hlc) ?_
 refine Run.callE vO vj hI (hfull S cs kb kc 120 h hkc (by omega) (by omega)) fun v' I' S1 w'=>?_
 rintro ⟨rfl,cs',hl4,ho4,rfl,hrd⟩ hE hI
 refine aT rfl ?_
 refine aT rfl ?_
 refine a9 hI bt fun b6 w' hI=>?_
 have hI:Inv w X [.blk b2 (.cells cs.toArray ab),.blk b4 (.cells #[.int .i64 0,.int .i64 0,.string ⟨#[]⟩,.slice none 0 0] ab),.blk kb (.cells kc ab),.blk b6 _] S1 w':=hI
 refine aM hI 3 rfl ag (by simpa using hl4) rfl (by simpa using ho4) fun w' hI=>?_
 have hI:Inv w X [.blk b2 (.cells cs.toArray ab),.blk b4 (.cells #[.int .i64 0,.int .i64 0,.string ⟨#[]⟩,.slice none 0 0] ab),.blk kb (.cells kc ab),.blk b6 (.cells cs'.toArray ab)] S1 w':=hI
 by_cases hc:dQ u<=120
 ·rw [if_pos hc]
  have hc0:=lF u
  have hru:=hrd hc
  refine ⟨fun D x5 cC cz ef dD dV fh hH w_=>(D 0=true->hH=.agg cs'.toArray)/\(D 1=true->fh=.int .i64 (120 - dQ u))/\(D 2=true->dV=.bool true)/\(D 3=true->dD=.bool true)/\(D 4=true->ef=.agg cs'.toArray)/\(D 5=true->cz=.bool (nU u 30))/\(D 6=true->cC=.bool (nU u 30))/\(D 7=true->True)/\(D 8=true->x5=.bool (nU u 30))/\Inv w X [.blk b2 (.cells cs.toArray ab),.blk b4 (.cells (cond (D 7) cs'.toArray #[.int .i64 0,.int .i64 0,.string ⟨#[]⟩,.slice none 0 0]) ab),.blk kb (.cells kc ab),.blk b6 (.cells cs'.toArray ab)] S1 w_,⟨af,af,af,af,af,af,af,af,af,hI.draw⟩,⟨?_,?_,?_,?_,?_,?_,?_,?_,?_,trivial⟩,?_⟩
  ·intro D aS  x5 cC cz ef dD dV fh hH w_
   rintro ⟨aA,az,aB,ax,aD,aC,aw,aJ,aN,hI⟩
   refine aO hI 3 ag rfl (by simpa using hl4) ?_
   exact ⟨fun _=>rfl,az,aB,ax,aD,aC,aw,aJ,aN,hI⟩
  ·intro D aS  x5 cC cz ef dD dV fh hH w_
   rintro ⟨aA,az,aB,ax,aD,aC,aw,aJ,aN,hI⟩
   exact ⟨aA,fun _=>rfl,aB,ax,aD,aC,aw,aJ,aN,hI⟩
  ·intro D aS dB x5 cC cz ef dD dV fh hH w_
   rintro ⟨aA,az,aB,ax,aD,aC,aw,aJ,aN,hI⟩
   obtain rfl:=az dB
   refine kT ?_
   rw [decide_eq_true (by omega)]
   exact ⟨aA,az,fun _=>rfl,ax,aD,aC,aw,aJ,aN,hI⟩
  ·intro D aS cM x5 cC cz ef dD dV fh hH w_
   rintro ⟨aA,az,aB,ax,aD,aC,aw,aJ,aN,hI⟩
   obtain rfl:=aB cM
   exact ⟨aA,az,aB,fun _=>rfl,aD,aC,aw,aJ,aN,hI⟩
  ·intro D aS dh x5 cC cz ef dD dV fh hH w_
   rintro ⟨aA,az,aB,ax,aD,aC,aw,aJ,aN,hI⟩
   obtain rfl:=ax dh
   repeat (first|refine ae ?_|refine ah (by decide) ?_|refine ad ?_|refine al ?_|refine aj ?_)
   refine aO hI 3 ag rfl (by simpa using hl4) ?_
   exact ⟨aA,az,aB,ax,fun _=>rfl,aC,aw,aJ,aN,hI⟩
  ·intro D aS fO o0 LZ x5 cC cz ef dD dV fh hH w_
   rintro ⟨aA,az,aB,ax,aD,aC,aw,aJ,aN,hI⟩
   obtain rfl:=aD fO
   obtain rfl:=ax o0
   repeat (first|refine ae ?_|refine ah (by decide) ?_|refine ad ?_|refine al ?_|refine aj ?_)
   refine Run.callPure vM vQ hI (CV u 30 S1 cs' hru (by omega) (by omega)) fun w_ hI=>?_
   exact ⟨aA,az,aB,ax,aD,fun _=>rfl,aw,aJ,aN,hI⟩
  ·intro D aS dh eF x5 cC cz ef dD dV fh hH w_
   rintro ⟨aA,az,aB,ax,aD,aC,aw,aJ,aN,hI⟩
   obtain rfl:=ax dh
   obtain rfl:=aC eF
   repeat (first|refine ae ?_|refine ah (by decide) ?_|refine ad ?_|refine al ?_|refine aj ?_)
   exact ⟨aA,az,aB,ax,aD,aC,fun _=>rfl,aJ,aN,hI⟩
  ·intro D aS cA eF kS x5 cC cz ef dD dV fh hH w_
   rintro ⟨aA,az,aB,ax,aD,aC,aw,aJ,aN,hI⟩
   obtain rfl:=aA cA
   rw [aS] at hI
   refine aM hI 1 rfl ag (by simpa using hl4) rfl (by simpa using ho4) fun w_ hI=>?_
   exact ⟨aA,az,aB,ax,aD,aC,aw,fun _=>trivial,aN,hI⟩
  ·intro D aS bW lP kS mL kN qx oV th ug Hw x5 cC cz ef dD dV fh hH w_
   rintro ⟨aA,az,aB,ax,aD,aC,aw,aJ,aN,hI⟩
   obtain rfl:=aw bW
   exact ⟨aA,az,aB,ax,aD,aC,aw,aJ,fun _=>rfl,hI⟩
  intro D g7 gc fj ft fL fX fM fP fY x5 cC cz ef dD dV fh hH w_
  rintro ⟨aA,az,aB,ax,aD,aC,aw,aJ,aN,hI⟩
  obtain rfl:=aN g7
  obtain rfl:=aw fj
  obtain rfl:=aC ft
  obtain rfl:=aD fL
  obtain rfl:=ax fX
  obtain rfl:=aB fM
  obtain rfl:=az fP
  obtain rfl:=aA fY
  clear aA az aB ax aD aC aw aJ aN
  rw [gc] at hI
  refine bA hI 1 ag rfl (by simpa using hl4) ?_
  have e:dO u=nU u 30:=by rw [dO,decide_eq_true hc,Bool.true_and]
  exact ⟨_,_,_,rfl,hI.pick [false,false,true,false],hE,rfl,cs',hl4,ho4,by rw [e]; rfl,fun _=>hru⟩
 ·rw [if_neg hc]
  refine ⟨fun D x5 cC cz ef dD dV fh hH w_=>(D 0=true->hH=.agg cs'.toArray)/\(D 1=true->fh=.int .i64 (-1))/\(D 2=true->dV=.bool false)/\(D 3=true->dD=.bool false)/\(D 4=true->ef=undef)/\(D 5=true->cz=undef)/\(D 6=true->cC=.bool false)/\(D 7=true->True)/\(D 8=true->x5=.bool false)/\Inv w X [.blk b2 (.cells cs.toArray ab),.blk b4 (.cells (cond (D 7) cs'.toArray #[.int .i64 0,.int .i64 0,.string ⟨#[]⟩,.slice none 0 0]) ab),.blk kb (.cells kc ab),.blk b6 (.cells cs'.toArray ab)] S1 w_,⟨af,af,af,af,af,af,af,af,af,hI.draw⟩,⟨?_,?_,?_,?_,?_,?_,?_,?_,?_,trivial⟩,?_⟩
  ·intro D aS  x5 cC cz ef dD dV fh hH w_
   rintro ⟨aA,az,aB,ax,aD,aC,aw,aJ,aN,hI⟩
   refine aO hI 3 ag rfl (by simpa using hl4) ?_
   exact ⟨fun _=>rfl,az,aB,ax,aD,aC,aw,aJ,aN,hI⟩
  ·intro D aS  x5 cC cz ef dD dV fh hH w_
   rintro ⟨aA,az,aB,ax,aD,aC,aw,aJ,aN,hI⟩
   exact ⟨aA,fun _=>rfl,aB,ax,aD,aC,aw,aJ,aN,hI⟩
  ·intro D aS dB x5 cC cz ef dD dV fh hH w_
   rintro ⟨aA,az,aB,ax,aD,aC,aw,aJ,aN,hI⟩
   obtain rfl:=az dB
   refine kT ?_
   rw [decide_eq_false (by omega)]
   exact ⟨aA,az,fun _=>rfl,ax,aD,aC,aw,aJ,aN,hI⟩
  ·intro D aS cM x5 cC cz ef dD dV fh hH w_
   rintro ⟨aA,az,aB,ax,aD,aC,aw,aJ,aN,hI⟩
   obtain rfl:=aB cM
   exact ⟨aA,az,aB,fun _=>rfl,aD,aC,aw,aJ,aN,hI⟩
  ·intro D aS dh x5 cC cz ef dD dV fh hH w_
   rintro ⟨aA,az,aB,ax,aD,aC,aw,aJ,aN,hI⟩
   obtain rfl:=ax dh
   repeat (first|refine ae ?_|refine ah (by decide) ?_|refine ad ?_|refine al ?_|refine aj ?_)
   exact ⟨aA,az,aB,ax,fun _=>rfl,aC,aw,aJ,aN,hI⟩
  ·intro D aS fO o0 LZ x5 cC cz ef dD dV fh hH w_
   rintro ⟨aA,az,aB,ax,aD,aC,aw,aJ,aN,hI⟩
   obtain rfl:=aD fO
   obtain rfl:=ax o0
   repeat (first|refine ae ?_|refine ah (by decide) ?_|refine ad ?_|refine al ?_|refine aj ?_)
   exact ⟨aA,az,aB,ax,aD,fun _=>rfl,aw,aJ,aN,hI⟩
  ·intro D aS dh eF x5 cC cz ef dD dV fh hH w_
   rintro ⟨aA,az,aB,ax,aD,aC,aw,aJ,aN,hI⟩
   obtain rfl:=ax dh
   obtain rfl:=aC eF
   repeat (first|refine ae ?_|refine ah (by decide) ?_|refine ad ?_|refine al ?_|refine aj ?_)
   exact ⟨aA,az,aB,ax,aD,aC,fun _=>rfl,aJ,aN,hI⟩
  ·intro D aS cA eF kS x5 cC cz ef dD dV fh hH w_
   rintro ⟨aA,az,aB,ax,aD,aC,aw,aJ,aN,hI⟩
   obtain rfl:=aA cA
   rw [aS] at hI
   refine aM hI 1 rfl ag (by simpa using hl4) rfl (by simpa using ho4) fun w_ hI=>?_
   exact ⟨aA,az,aB,ax,aD,aC,aw,fun _=>trivial,aN,hI⟩
  ·intro D aS bW lP kS mL kN qx oV th ug Hw x5 cC cz ef dD dV fh hH w_
   rintro ⟨aA,az,aB,ax,aD,aC,aw,aJ,aN,hI⟩
   obtain rfl:=aw bW
   exact ⟨aA,az,aB,ax,aD,aC,aw,aJ,fun _=>rfl,hI⟩
  intro D g7 gc fj ft fL fX fM fP fY x5 cC cz ef dD dV fh hH w_
  rintro ⟨aA,az,aB,ax,aD,aC,aw,aJ,aN,hI⟩
  obtain rfl:=aN g7
  obtain rfl:=aw fj
  obtain rfl:=aC ft
  obtain rfl:=aD fL
  obtain rfl:=ax fX
  obtain rfl:=aB fM
  obtain rfl:=az fP
  obtain rfl:=aA fY
  clear aA az aB ax aD aC aw aJ aN
  rw [gc] at hI
  refine bA hI 1 ag rfl (by simpa using hl4) ?_
  have e:dO u=false:=by rw [dO,decide_eq_false hc,Bool.false_and]
  exact ⟨_,_,_,rfl,hI.pick [false,false,true,false],hE,rfl,cs',hl4,ho4,by rw [e]; rfl,fun h=>by rw [e] at h; cases h⟩
end

end Go.Proofs.YtnmnddpdikghhaaGreat

/- spec: shifted terms and clauses. -/
namespace Go.Proofs.YtnmnddpdikghhaaGreat
open Go Go.RowKit
mutual
def dR (m:Int):T->T
 | .mk k n s ks=>.mk k (if k=1 then n+m else n) s (ed m ks)
def ed (m:Int):List T->List T
 | []=>[]
 | t::ts=>dR m t::ed m ts
end
theorem eV (m:Int):∀ ts:List T,ed m ts=ts.map (dR m)
 | []=>rfl
 | t::ts=>by rw [ed,eV m ts]; rfl
theorem oH (m:Int) (ks:List T) (j:Nat) (h:j<ks.length):ed m (ks.take (j+1))=ed m (ks.take j)++[dR m ks[j]]:=by
 rw [eV,eV,List.take_succ_eq_append_getElem h,List.map_append]; rfl
def Jy (m:Int) (c:C):C:=⟨dR m c.head,ed m c.body⟩
section
attribute [local irreducible] Run CondV ai a4
theorem pM {N:Nat} (hN:N<=1000000) (m:Int) (hm0:0<=m) (hm1:m<=1000000):∀ (t:T) (S:ay) (cs:List Value),RdT S cs t->okU N t->wT t<=1048576->Tri Tryz.prog Dm [.agg cs.toArray,.int .i64 m] [] S (vb S (dR m t)):=by
 refine T.ind fun k n s ks ih S cs h hou hw=>?_
 intro w hI
 obtain ⟨kv,rfl,h1,h2,hs,hks⟩:=RdT.iff.1 h
 simp only [T.name,T.kids,T.kind,T.n] at h1 h2 hs hks ⊢
 simp only [wT] at hw
 rw [okU] at hou
 obtain ⟨_,hvar,hou,_⟩:=hou
 obtain ⟨cur,hcur⟩:∃ cur,cur=if k=1 then n+m else n:=⟨_,rfl⟩
 have hci:inI cur:=by
  rw [hcur]
  split
  ·have:=hvar (by assumption)
   simp only [inI]
   omega
  ·exact h2
 refine wv ?_
 unfold rD
 refine bN hI fun b1 w' hI=>?_
 refine a9 hI bt fun b2 w' hI=>?_
 refine ar hI 0 rfl bv bg rfl ?_
 refine ar hI 0 rfl bn bg rfl ?_
 refine ar hI 0 rfl bH bz rfl ?_
 refine g6 ?_
 refine a9 hI bt fun b3 w' hI=>?_
 refine aM hI 2 rfl ag rfl rfl (by simp [Value.oneCell']) fun w' hI=>?_
 have hI:Inv w [] [.blk b1 (.cells #[.int .i64 k,.int .i64 n,.string s,kv] ab),.blk b2 (.cells #[.int .i64 0,.int .i64 0,.string ⟨#[]⟩,.slice none 0 0] ab),.blk b3 (.cells #[.int .i64 k,.int .i64 n,.string s,.slice none 0 0] ab)] S w':=hI
 refine ⟨fun w'=>Inv w [] [.blk b1 (.cells #[.int .i64 k,.int .i64 n,.string s,kv] ab),.blk b2 (.cells #[.int .i64 0,.int .i64 0,.string ⟨#[]⟩,.slice none 0 0] ab),.blk b3 (.cells #[.int .i64 k,.int .i64 cur,.string s,.slice none 0 0] ab)] S w',?_,?_⟩
 ·refine ar hI 0 rfl bv bg rfl ?_
  refine bO ?_
  refine bF (fun he=>?_) (fun he=>?_)
  ·have hv:=hvar he
   refine ar hI 0 rfl bn bg rfl ?_
   refine bR (by omega) ?_
   rw [if_pos he] at hcur
   rw [hcur]
   exact eM hI 2 rfl bn bg rfl rfl rfl fun w' hI=>hI
  ·rw [if_neg he] at hcur
   rw [hcur]
   exact hI
 intro _ _ _ _ _ _ _ _ w' hI
 have hI:=hI.rowNil ab 4
 refine ⟨fun i w'=>∃ (j:Nat) (kvc:Value) (Ls:List bI) (css:List (List Value)),j<=ks.length/\i=.int .i64 j/\Grown 4 TrT Ls css (ed m (ks.take j))/\
   Inv w [] (.blk b1 (.cells #[.int .i64 k,.int .i64 n,.string s,kv] ab)::.blk b2 (.cells #[.int .i64 0,.int .i64 0,.string ⟨#[]⟩,.slice none 0 0] ab)::.blk b3 (.cells #[.int .i64 k,.int .i64 cur,.string s,kvc] ab)::a5 kvc ab 4 css::bw Ls.flatten) S w',
  fun i _=>ks.length - (intOf i).toNat,⟨0,_,[],[],Nat.zero_le _,rfl,Grown.nil _ _,hI⟩,?_⟩
 intro t7 _ _ _ _ _ _ _ _ _ _ _ _ _ _ _ _ _ _ _ w'
 rintro ⟨j,kvc,Ls,css,hj,rfl,hg,hI⟩
 refine ar hI 0 rfl aP aL rfl ?_
 refine bm hks aG ?_
 refine cF ?_
 refine bF (fun hji=>?_) (fun hji=>?_)
 ·have hj':j<ks.length:=by omega
  have hjl:(ks.take j).length=j:=by simp; omega
  have hcl:=hg.hc
  rw [eV,List.length_map] at hcl
  have hm:=List.getElem_mem hj'
  have hwm:=gF hm
  obtain ⟨b,o,cap,c,E,fz,rfl,hS,hR⟩:=hks.at_ hj'
  refine ⟨fun D lY g9 jv jh gj gp gW jj g8 fc dx c4 w_=>(D 0=true->c4=.pointer (some ⟨b3,3,none⟩))/\(D 1=true->dx=kvc)/\(D 2=true->fc=.pointer (some ⟨b1,3,none⟩))/\(D 3=true->g8=.slice (some ⟨b,o,none⟩) ks.length cap)/\(D 4=true->jj=.int .i64 j)/\(D 5=true->gW=.pointer (some ⟨b,o+j * 4,none⟩))/\(D 6=true->gp=.agg (bJ c (o+j * 4) 4).toArray)/\(D 7=true->gj=.int .i64 m)/\(D 8=true->True)/\(D 9=true->True)/\(D 10=true->True)/\(D 11=true->lY=.pointer (some ⟨b3,3,none⟩))/\(D 12=true->True)/\∃ M cs7 b8,(D 8=true->jh=.agg cs7.toArray/\TrT M cs7 (dR m ks[j]))/\(D 9=true->jv=.slice (some ⟨b8,0,none⟩) 1 1)/\(D 9=true->D 8=true)/\(D 10=true->D 9=true)/\(D 12=true->D 10=true)/\(D 12=true->D 1=true)/\Inv w [] (bi (.blk b1 (.cells #[.int .i64 k,.int .i64 n,.string s,.slice (some ⟨b,o,none⟩) ks.length cap] ab)) (.blk b2 (.cells #[.int .i64 0,.int .i64 0,.string ⟨#[]⟩,.slice none 0 0] ab)) (.blk b3 (.cells #[.int .i64 k,.int .i64 cur,.string s,kvc] ab)) (.blk b3 (.cells #[.int .i64 k,.int .i64 cur,.string s,g9] ab)) (a5 kvc ab 4 css) (a5 g9 ab 4 (css++[cs7])) (bw Ls.flatten) M (.blk b8 (.cells cs7.toArray ab)) (D 8) (D 9) (D 10) (D 12)) S w_,⟨af,af,af,af,af,af,af,af,af,af,af,af,af,⟨[],[],0,af,af,af,af,af,af,by simpa [bi,bw] using hI.draw⟩⟩,⟨?_,?_,?_,?_,?_,?_,?_,?_,?_,?_,?_,?_,?_,trivial⟩,?_⟩
  ·intro D aS  lY g9 jv jh gj gp gW jj g8 fc dx c4 w_
   rintro ⟨aA,az,aB,ax,aD,aC,aw,aJ,aN,aR,aq,au,aH,⟨M,cs7,b8,e7,e8,k8,k9,k11,k1,hI⟩⟩
   refine bj aP ?_
   exact ⟨fun _=>rfl,az,aB,ax,aD,aC,aw,aJ,aN,aR,aq,au,aH,⟨M,cs7,b8,e7,e8,k8,k9,k11,k1,hI⟩⟩
  ·intro D aS cA lY g9 jv jh gj gp gW jj g8 fc dx c4 w_
   rintro ⟨aA,az,aB,ax,aD,aC,aw,aJ,aN,aR,aq,au,aH,⟨M,cs7,b8,e7,e8,k8,k9,k11,k1,hI⟩⟩
   obtain rfl:=aA cA
   have f11:D 12=false:=Bool.eq_false_iff.2 fun h=>by rw [k1 h] at aS; cases aS
   refine bB (b:=b3) hI 2 (c:=(#[.int .i64 k,.int .i64 cur,.string s,kvc])) aL (by rw [f11]; rfl) rfl ?_
   have k1:=fun (_:ao D 1 12=true)=>(rfl:ao D 1 1=true)
   exact ⟨aA,fun _=>rfl,aB,ax,aD,aC,aw,aJ,aN,aR,aq,au,aH,⟨M,cs7,b8,e7,e8,k8,k9,k11,k1,hI⟩⟩
  ·intro D aS  lY g9 jv jh gj gp gW jj g8 fc dx c4 w_
   rintro ⟨aA,az,aB,ax,aD,aC,aw,aJ,aN,aR,aq,au,aH,⟨M,cs7,b8,e7,e8,k8,k9,k11,k1,hI⟩⟩
   refine bj aP ?_
   exact ⟨aA,az,fun _=>rfl,ax,aD,aC,aw,aJ,aN,aR,aq,au,aH,⟨M,cs7,b8,e7,e8,k8,k9,k11,k1,hI⟩⟩
  ·intro D aS cM lY g9 jv jh gj gp gW jj g8 fc dx c4 w_
   rintro ⟨aA,az,aB,ax,aD,aC,aw,aJ,aN,aR,aq,au,aH,⟨M,cs7,b8,e7,e8,k8,k9,k11,k1,hI⟩⟩
   obtain rfl:=aB cM
   refine bB hI 0 aL rfl rfl ?_
   exact ⟨aA,az,aB,fun _=>rfl,aD,aC,aw,aJ,aN,aR,aq,au,aH,⟨M,cs7,b8,e7,e8,k8,k9,k11,k1,hI⟩⟩
  ·intro D aS  lY g9 jv jh gj gp gW jj g8 fc dx c4 w_
   rintro ⟨aA,az,aB,ax,aD,aC,aw,aJ,aN,aR,aq,au,aH,⟨M,cs7,b8,e7,e8,k8,k9,k11,k1,hI⟩⟩
   exact ⟨aA,az,aB,ax,fun _=>rfl,aC,aw,aJ,aN,aR,aq,au,aH,⟨M,cs7,b8,e7,e8,k8,k9,k11,k1,hI⟩⟩
  ·intro D aS dh eD lY g9 jv jh gj gp gW jj g8 fc dx c4 w_
   rintro ⟨aA,az,aB,ax,aD,aC,aw,aJ,aN,aR,aq,au,aH,⟨M,cs7,b8,e7,e8,k8,k9,k11,k1,hI⟩⟩
   obtain rfl:=ax dh
   obtain rfl:=aD eD
   refine bq aG hj' ?_
   exact ⟨aA,az,aB,ax,aD,fun _=>rfl,aw,aJ,aN,aR,aq,au,aH,⟨M,cs7,b8,e7,e8,k8,k9,k11,k1,hI⟩⟩
  ·intro D aS dT lY g9 jv jh gj gp gW jj g8 fc dx c4 w_
   rintro ⟨aA,az,aB,ax,aD,aC,aw,aJ,aN,aR,aq,au,aH,⟨M,cs7,b8,e7,e8,k8,k9,k11,k1,hI⟩⟩
   obtain rfl:=aC dT
   refine dF ag hR.length (fun j v hj=>by rw [hI.cellS hS]; exact bx rfl j v hj) ?_
   exact ⟨aA,az,aB,ax,aD,aC,fun _=>rfl,aJ,aN,aR,aq,au,aH,⟨M,cs7,b8,e7,e8,k8,k9,k11,k1,hI⟩⟩
  ·intro D aS  lY g9 jv jh gj gp gW jj g8 fc dx c4 w_
   rintro ⟨aA,az,aB,ax,aD,aC,aw,aJ,aN,aR,aq,au,aH,⟨M,cs7,b8,e7,e8,k8,k9,k11,k1,hI⟩⟩
   exact ⟨aA,az,aB,ax,aD,aC,aw,fun _=>rfl,aN,aR,aq,au,aH,⟨M,cs7,b8,e7,e8,k8,k9,k11,k1,hI⟩⟩
  ·intro D aS bW lP lY g9 jv jh gj gp gW jj g8 fc dx c4 w_
   rintro ⟨aA,az,aB,ax,aD,aC,aw,aJ,aN,aR,aq,au,aH,⟨M,cs7,b8,e7,e8,k8,k9,k11,k1,hI⟩⟩
   obtain rfl:=aw bW
   obtain rfl:=aJ lP
   have f8:D 9=false:=Bool.eq_false_iff.2 fun h=>by rw [k8 h] at aS; cases aS
   have f9:D 10=false:=Bool.eq_false_iff.2 fun h=>by rw [k9 h] at f8; cases f8
   have f11:D 12=false:=Bool.eq_false_iff.2 fun h=>by rw [k11 h] at f9; cases f9
   rw [aS,f8,f9,f11] at hI
   refine Run.call0 lW lO hI (ih _ (List.getElem_mem hj') S _ hR (jL hou _ (List.getElem_mem hj')) (by omega)) fun v' I' S w_=>?_
   rintro ⟨rfl,cs7,M,rfl,rfl,hT⟩ _ hI
   have e7:ao D 8 8=true->Value.agg cs7.toArray=Value.agg cs7.toArray/\TrT M cs7 (dR m ks[j]):=fun _=>⟨rfl,hT⟩
   have k8:=fun (_:ao D 8 9=true)=>(rfl:ao D 8 8=true)
   have hI:Inv w [] (bi (.blk b1 (.cells #[.int .i64 k,.int .i64 n,.string s,.slice (some ⟨b,o,none⟩) ks.length cap] ab)) (.blk b2 (.cells #[.int .i64 0,.int .i64 0,.string ⟨#[]⟩,.slice none 0 0] ab)) (.blk b3 (.cells #[.int .i64 k,.int .i64 cur,.string s,kvc] ab)) (.blk b3 (.cells #[.int .i64 k,.int .i64 cur,.string s,g9] ab)) (a5 kvc ab 4 css) (a5 g9 ab 4 (css++[cs7])) (bw Ls.flatten) M (.blk b8 (.cells cs7.toArray ab)) true (D 9) (D 10) (D 12)) S w_:=by
    rw [f8,f9,f11]
    simpa [bi] using hI
   exact ⟨aA,az,aB,ax,aD,aC,aw,aJ,fun _=>by first|assumption|trivial,aR,aq,au,aH,⟨M,cs7,b8,e7,e8,k8,k9,k11,k1,hI⟩⟩
  ·intro D aS iP lY g9 jv jh gj gp gW jj g8 fc dx c4 w_
   rintro ⟨aA,az,aB,ax,aD,aC,aw,aJ,aN,aR,aq,au,aH,⟨M,cs7,b8,e7,e8,k8,k9,k11,k1,hI⟩⟩
   have E3:=aN iP
   have f9:D 10=false:=Bool.eq_false_iff.2 fun h=>by rw [k9 h] at aS; cases aS
   have f11:D 12=false:=Bool.eq_false_iff.2 fun h=>by rw [k11 h] at f9; cases f9
   obtain ⟨q7,hT⟩:=e7 iP
   subst q7
   rw [iP,aS,f9,f11] at hI
   refine dJ hI bC (by simp [Value.cells,hT.length]) (by omega) (by omega) fun b8 w_ hI=>?_
   have e7:ao D 9 8=true->Value.agg cs7.toArray=Value.agg cs7.toArray/\TrT M cs7 (dR m ks[j]):=fun _=>⟨rfl,hT⟩
   have e8:=fun (_:ao D 9 9=true)=>(rfl:Value.slice (some ⟨b8,0,none⟩) 1 1=_)
   have k8:=fun (_:ao D 9 9=true)=>iP
   have k9:=fun (_:ao D 9 10=true)=>(rfl:ao D 9 9=true)
   have hI:Inv w [] (bi (.blk b1 (.cells #[.int .i64 k,.int .i64 n,.string s,.slice (some ⟨b,o,none⟩) ks.length cap] ab)) (.blk b2 (.cells #[.int .i64 0,.int .i64 0,.string ⟨#[]⟩,.slice none 0 0] ab)) (.blk b3 (.cells #[.int .i64 k,.int .i64 cur,.string s,kvc] ab)) (.blk b3 (.cells #[.int .i64 k,.int .i64 cur,.string s,g9] ab)) (a5 kvc ab 4 css) (a5 g9 ab 4 (css++[cs7])) (bw Ls.flatten) M (.blk b8 (.cells cs7.toArray ab)) (D 8) true (D 10) (D 12)) S w_:=by
    rw [iP,f9,f11]
    simpa [bi,Value.cells] using hI
   exact ⟨aA,az,aB,ax,aD,aC,aw,aJ,aN,fun _=>by first|assumption|trivial,aq,au,aH,⟨M,cs7,b8,e7,e8,k8,k9,k11,k1,hI⟩⟩
  ·intro D aS dB eQ o6 lY g9 jv jh gj gp gW jj g8 fc dx c4 w_
   rintro ⟨aA,az,aB,ax,aD,aC,aw,aJ,aN,aR,aq,au,aH,⟨M,cs7,b8,e7,e8,k8,k9,k11,k1,hI⟩⟩
   obtain rfl:=az dB
   have HC:=aR eQ
   have f11:D 12=false:=Bool.eq_false_iff.2 fun h=>by rw [k11 h] at aS; cases aS
   have q8:=e8 eQ
   subst q8
   obtain ⟨_,hT⟩:=e7 o6
   rw [o6,eQ,aS,f11] at hI
   have hblk:((bi (.blk b1 (.cells #[.int .i64 k,.int .i64 n,.string s,.slice (some ⟨b,o,none⟩) ks.length cap] ab)) (.blk b2 (.cells #[.int .i64 0,.int .i64 0,.string ⟨#[]⟩,.slice none 0 0] ab)) (.blk b3 (.cells #[.int .i64 k,.int .i64 cur,.string s,dx] ab)) (.blk b3 (.cells #[.int .i64 k,.int .i64 cur,.string s,g9] ab)) (a5 dx ab 4 css) (a5 g9 ab 4 (css++[cs7])) (bw Ls.flatten) M (.blk b8 (.cells cs7.toArray ab)) true true false false))[4+(bw Ls.flatten).length+(bw M).length]?=some (.blk b8 (.cells cs7.toArray ab)):=by
    have e4:4+(bw Ls.flatten).length+(bw M).length=((bw Ls.flatten).length+(bw M).length)+1+1+1+1:=by omega
    rw [e4]
    simp only [bi,List.getElem?_cons_succ]
    rw [List.getElem?_append_right (by omega),Nat.add_sub_cancel_left,List.getElem?_append_right (Nat.le_refl _),Nat.sub_self]; rfl
   refine ev hI 3 cs7 bC (by omega) rfl (by rw [hT.length]) (m:=1) (o:=0) ?_ hT.one (by omega) (by omega) fun v' w_ hI=>?_
   ·intro i u hi
    rw [hI.cellL hblk,Nat.zero_add]
    simpa using hi
   rw [eN] at hI
   have k9:=fun (_:ao D 10 10=true)=>eQ
   have k11:=fun (_:ao D 10 12=true)=>(rfl:ao D 10 10=true)
   have hI:Inv w [] (bi (.blk b1 (.cells #[.int .i64 k,.int .i64 n,.string s,.slice (some ⟨b,o,none⟩) ks.length cap] ab)) (.blk b2 (.cells #[.int .i64 0,.int .i64 0,.string ⟨#[]⟩,.slice none 0 0] ab)) (.blk b3 (.cells #[.int .i64 k,.int .i64 cur,.string s,dx] ab)) (.blk b3 (.cells #[.int .i64 k,.int .i64 cur,.string s,v'] ab)) (a5 dx ab 4 css) (a5 v' ab 4 (css++[cs7])) (bw Ls.flatten) M (.blk b8 (.cells cs7.toArray ab)) (D 8) (D 9) true (D 12)) S w_:=by
    rw [o6,eQ,f11]
    exact hI
   exact ⟨aA,az,aB,ax,aD,aC,aw,aJ,aN,aR,fun _=>by first|assumption|trivial,au,aH,⟨M,cs7,b8,e7,e8,k8,k9,k11,k1,hI⟩⟩
  ·intro D aS cA iz qD xd uq AH zT EA I6 Jj Ju lY g9 jv jh gj gp gW jj g8 fc dx c4 w_
   rintro ⟨aA,az,aB,ax,aD,aC,aw,aJ,aN,aR,aq,au,aH,⟨M,cs7,b8,e7,e8,k8,k9,k11,k1,hI⟩⟩
   refine bj aP ?_
   exact ⟨aA,az,aB,ax,aD,aC,aw,aJ,aN,aR,aq,fun _=>rfl,aH,⟨M,cs7,b8,e7,e8,k8,k9,k11,k1,hI⟩⟩
  ·intro D aS j0 gE vX tP i8 uJ uE qF qJ zY jt gY mu JL lY g9 jv jh gj gp gW jj g8 fc dx c4 w_
   rintro ⟨aA,az,aB,ax,aD,aC,aw,aJ,aN,aR,aq,au,aH,⟨M,cs7,b8,e7,e8,k8,k9,k11,k1,hI⟩⟩
   obtain rfl:=au j0
   have EZ:=aq gE
   rw [gY,mu,gE,aS] at hI
   obtain ⟨va,vn,vc,hv9⟩:=Inv.rowSlice hI 3 rfl
   refine ei hI 2 (n:=1) (by rw [hv9]; rfl) (by decide +kernel) rfl (by simp) (by rw [hv9]; simp [Value.cells,Value.oneCell']) fun w_ hI=>?_
   have hcl9:Value.cells g9=#[g9]:=by rw [hv9]; rfl
   rw [hcl9] at hI
   have k1:=fun (_:ao D 12 12=true)=>i8
   have k11:=fun (_:ao D 12 12=true)=>gE
   have hI:Inv w [] (bi (.blk b1 (.cells #[.int .i64 k,.int .i64 n,.string s,.slice (some ⟨b,o,none⟩) ks.length cap] ab)) (.blk b2 (.cells #[.int .i64 0,.int .i64 0,.string ⟨#[]⟩,.slice none 0 0] ab)) (.blk b3 (.cells #[.int .i64 k,.int .i64 cur,.string s,kvc] ab)) (.blk b3 (.cells #[.int .i64 k,.int .i64 cur,.string s,g9] ab)) (a5 kvc ab 4 css) (a5 g9 ab 4 (css++[cs7])) (bw Ls.flatten) M (.blk b8 (.cells cs7.toArray ab)) (D 8) (D 9) (D 10) true) S w_:=by
    rw [gY,mu,gE]
    exact hI
   exact ⟨aA,az,aB,ax,aD,aC,aw,aJ,aN,aR,aq,au,fun _=>trivial,⟨M,cs7,b8,e7,e8,k8,k9,k11,k1,hI⟩⟩
  intro D jV gw fg jA g7 gc fj ft fL fX fM fP fY lY g9 jv jh gj gp gW jj g8 fc dx c4 w_
  rintro ⟨aA,az,aB,ax,aD,aC,aw,aJ,aN,aR,aq,au,aH,⟨M,cs7,b8,e7,e8,k8,k9,k11,k1,hI⟩⟩
  obtain rfl:=au gw
  have EZ:=aq fg
  have HC:=aR jA
  have E3:=aN g7
  obtain rfl:=aJ gc
  obtain rfl:=aw fj
  obtain rfl:=aC ft
  obtain rfl:=aD fL
  obtain rfl:=ax fX
  obtain rfl:=aB fM
  obtain rfl:=az fP
  obtain rfl:=aA fY
  clear aA az aB ax aD aC aw aJ aN aR aq au aH
  obtain ⟨_,hT⟩:=e7 g7
  rw [g7,jA,fg,jV] at hI
  refine bR (by omega) ?_
  refine ⟨⟨j+1,g9,Ls++[M],css++[cs7],hj',rfl,?_,?_⟩,by simp [intOf]; omega⟩
  ·rw [oH m ks j hj']
   exact hg.snoc hT hT.length
  ·simp only [List.flatten_append,List.flatten_cons,List.flatten_nil,List.append_nil,c8]
   refine hI.sub ?_
   simp only [bi]
   rw [<- List.append_assoc]
   exact (((List.sublist_append_left _ _).cons_cons _).cons_cons _).cons_cons _ |>.cons_cons _
 ·have:j=ks.length:=by omega
  subst this
  rw [List.take_length] at hg
  obtain ⟨va,vn,vc,hvk⟩:=hI.rowSlice 3 rfl
  have hv1:kvc.oneCell'=true:=by rw [hvk]; rfl
  refine aO hI 2 ag rfl rfl ?_
  refine aM hI 1 rfl ag rfl rfl ?_ fun w' hI=>?_
  ·intro u hu
   have hu':u∈([.int .i64 k,.int .i64 cur,.string s,kvc]:List Value):=hu
   simp at hu'
   rcases hu' with rfl|rfl|rfl|rfl <;> first|rfl|exact hv1
  refine bA hI 1 ag rfl rfl ?_
  have hI:Inv w [] ([]++(a5 kvc ab 4 css::bw Ls.flatten)) S w':=hI.sub (List.sublist_append_right [_,_,_] _)
  obtain ⟨L,hT,hI⟩:=Inv.rowTree hI hg
  exact ⟨_,_,_,rfl,hI,Ext.refl _ _ _,rfl,_,L,rfl,rfl,TrT.iff.2 ⟨kvc,by rw [dR,<- hcur]; rfl,by rw [dR]; exact h1,by rw [dR,<- hcur]; exact hci,by rw [dR]; exact hs,by rw [dR]; exact hT⟩⟩
theorem zb {Nv:Nat} (hN:Nv<=1000000) (m:Int) (hm0:0<=m) (hm1:m<=1000000) {c0:C} {S:ay} {cs:List Value} (h:RdC S cs c0) (hoh:okU Nv c0.head) (hob:∀ t∈c0.body,okU Nv t) (hw:wC c0<=1048576) :
  Tri Tryz.prog Cw [.agg cs.toArray,.int .i64 m] [] S (Js S (Jy m c0)):=by
 intro w hI
 obtain ⟨hd0,ks,rfl,h1,h2⟩:=h
 have h1':=h1
 obtain ⟨kv,rfl,g1,g2,g3,g4⟩:=RdT.iff.1 h1
 unfold wC at hw
 refine tJ ?_
 unfold pS
 refine bN hI fun b1 w' hI=>?_
 refine a9 hI bM fun b2 w' hI=>?_
 refine bj bQ ?_
 refine cY hI 0 [.int .i64 c0.head.kind,.int .i64 c0.head.n,.string c0.head.name,kv] ag rfl rfl n3 ?_
 refine Run.call0 lW lO hI (pM hN m hm0 hm1 _ S _ h1' hoh (by omega)) fun v' I' S w'=>?_
 rintro ⟨rfl,cs1,N,rfl,rfl,hT1⟩ _ hI
 obtain ⟨hd,hhd⟩:∃ hd,hd=dR m c0.head:=⟨_,rfl⟩
 rw [<- hhd] at hT1
 obtain ⟨kh,rfl,_⟩:=TrT.iff.1 hT1
 refine i3 ?_
 refine a9 hI bM fun b3 w' hI=>?_
 have hI:=hI.perm (M:=.blk b1 _::.blk b2 _::.blk b3 _::bw N) (((List.perm_append_comm (l₁:=[_])).cons _).cons _)
 refine aM hI 2 rfl aI rfl rfl ?_ fun w' hI=>?_
 ·intro u hu
  have hu':u∈([.int .i64 hd.kind,.int .i64 hd.n,.string hd.name,kh,.slice none 0 0]:List Value):=hu
  simp at hu'
  have o1:kh.oneCell'=true:=hT1.one kh (by simp)
  rcases hu' with rfl|rfl|rfl|rfl|rfl <;> first|rfl|exact o1
 have hI:=hI.rowNil ab 4
 have hI:=hI.perm (M:=.blk b1 (.cells #[.int .i64 c0.head.kind,.int .i64 c0.head.n,.string c0.head.name,kv,ks] ac)::.blk b2 (.cells #[.int .i64 0,.int .i64 0,.string ⟨#[]⟩,.slice none 0 0,.slice none 0 0] ac)::.blk b3 (.cells #[.int .i64 hd.kind,.int .i64 hd.n,.string hd.name,kh,.slice none 0 0] ac)::a5 (.slice none 0 0) ab 4 []::bw N) ((((List.perm_append_comm (l₁:=[_])).cons _).cons _).cons _)
 refine ⟨fun i w'=>∃ (j:Nat) (kvc:Value) (Ls:List bI) (css:List (List Value)),j<=c0.body.length/\i=.int .i64 j/\Grown 4 TrT Ls css (ed m (c0.body.take j))/\
   Inv w [] (.blk b1 (.cells #[.int .i64 c0.head.kind,.int .i64 c0.head.n,.string c0.head.name,kv,ks] ac)::.blk b2 (.cells #[.int .i64 0,.int .i64 0,.string ⟨#[]⟩,.slice none 0 0,.slice none 0 0] ac)::.blk b3 (.cells #[.int .i64 hd.kind,.int .i64 hd.n,.string hd.name,kh,kvc] ac)::a5 kvc ab 4 css::bw (N::Ls).flatten) S w',
  fun i _=>c0.body.length - (intOf i).toNat,⟨0,_,[],[],Nat.zero_le _,rfl,Grown.nil _ _,by simp only [List.flatten_cons,List.flatten_nil,List.append_nil]; exact hI⟩,?_⟩
 intro t4 _ _ _ _ _ _ _ _ _ _ _ _ _ _ _ _ _ _ _ w'
 rintro ⟨j,kvc,Ls,css,hj,rfl,hg,hI⟩
 refine ar hI 0 rfl bl aL rfl ?_
 refine bm h2 aG ?_
 refine cF ?_
 refine bF (fun hji=>?_) (fun hji=>?_)
 ·have hj':j<c0.body.length:=by omega
  have hjl:(c0.body.take j).length=j:=by simp; omega
  have hcl:=hg.hc
  rw [eV,List.length_map] at hcl
  have hm:=List.getElem_mem hj'
  have hwm:=gF hm
  obtain ⟨b,o,cap,c,E,fz,rfl,hS,hR⟩:=h2.at_ hj'
  refine ⟨fun D dx c4 db c7 cB bV cJ dz dg df cC cz w_=>(D 0=true->cz=.pointer (some ⟨b3,4,none⟩))/\(D 1=true->cC=kvc)/\(D 2=true->df=.pointer (some ⟨b1,4,none⟩))/\(D 3=true->dg=.slice (some ⟨b,o,none⟩) c0.body.length cap)/\(D 4=true->dz=.int .i64 j)/\(D 5=true->cJ=.pointer (some ⟨b,o+j * 4,none⟩))/\(D 6=true->bV=.agg (bJ c (o+j * 4) 4).toArray)/\(D 7=true->cB=.int .i64 m)/\(D 8=true->True)/\(D 9=true->True)/\(D 10=true->True)/\(D 11=true->dx=.pointer (some ⟨b3,4,none⟩))/\(D 12=true->True)/\∃ M cs7 b8,(D 8=true->c7=.agg cs7.toArray/\TrT M cs7 (dR m c0.body[j]))/\(D 9=true->db=.slice (some ⟨b8,0,none⟩) 1 1)/\(D 9=true->D 8=true)/\(D 10=true->D 9=true)/\(D 12=true->D 10=true)/\(D 12=true->D 1=true)/\Inv w [] (bi (.blk b1 (.cells #[.int .i64 c0.head.kind,.int .i64 c0.head.n,.string c0.head.name,kv,.slice (some ⟨b,o,none⟩) c0.body.length cap] ac)) (.blk b2 (.cells #[.int .i64 0,.int .i64 0,.string ⟨#[]⟩,.slice none 0 0,.slice none 0 0] ac)) (.blk b3 (.cells #[.int .i64 hd.kind,.int .i64 hd.n,.string hd.name,kh,kvc] ac)) (.blk b3 (.cells #[.int .i64 hd.kind,.int .i64 hd.n,.string hd.name,kh,c4] ac)) (a5 kvc ab 4 css) (a5 c4 ab 4 (css++[cs7])) (bw (N::Ls).flatten) M (.blk b8 (.cells cs7.toArray ab)) (D 8) (D 9) (D 10) (D 12)) S w_,⟨af,af,af,af,af,af,af,af,af,af,af,af,af,⟨[],[],0,af,af,af,af,af,af,by simpa [bi,bw] using hI.draw⟩⟩,⟨?_,?_,?_,?_,?_,?_,?_,?_,?_,?_,?_,?_,?_,trivial⟩,?_⟩
  ·intro D aS  dx c4 db c7 cB bV cJ dz dg df cC cz w_
   rintro ⟨aA,az,aB,ax,aD,aC,aw,aJ,aN,aR,aq,au,aH,⟨M,cs7,b8,e7,e8,k8,k9,k11,k1,hI⟩⟩
   refine bj bl ?_
   exact ⟨fun _=>rfl,az,aB,ax,aD,aC,aw,aJ,aN,aR,aq,au,aH,⟨M,cs7,b8,e7,e8,k8,k9,k11,k1,hI⟩⟩
  ·intro D aS cA dx c4 db c7 cB bV cJ dz dg df cC cz w_
   rintro ⟨aA,az,aB,ax,aD,aC,aw,aJ,aN,aR,aq,au,aH,⟨M,cs7,b8,e7,e8,k8,k9,k11,k1,hI⟩⟩
   obtain rfl:=aA cA
   have f11:D 12=false:=Bool.eq_false_iff.2 fun h=>by rw [k1 h] at aS; cases aS
   refine bB (b:=b3) hI 2 (c:=(#[.int .i64 hd.kind,.int .i64 hd.n,.string hd.name,kh,kvc])) aL (by rw [f11]; rfl) rfl ?_
   have k1:=fun (_:ao D 1 12=true)=>(rfl:ao D 1 1=true)
   exact ⟨aA,fun _=>rfl,aB,ax,aD,aC,aw,aJ,aN,aR,aq,au,aH,⟨M,cs7,b8,e7,e8,k8,k9,k11,k1,hI⟩⟩
  ·intro D aS  dx c4 db c7 cB bV cJ dz dg df cC cz w_
   rintro ⟨aA,az,aB,ax,aD,aC,aw,aJ,aN,aR,aq,au,aH,⟨M,cs7,b8,e7,e8,k8,k9,k11,k1,hI⟩⟩
   refine bj bl ?_
   exact ⟨aA,az,fun _=>rfl,ax,aD,aC,aw,aJ,aN,aR,aq,au,aH,⟨M,cs7,b8,e7,e8,k8,k9,k11,k1,hI⟩⟩
  ·intro D aS cM dx c4 db c7 cB bV cJ dz dg df cC cz w_
   rintro ⟨aA,az,aB,ax,aD,aC,aw,aJ,aN,aR,aq,au,aH,⟨M,cs7,b8,e7,e8,k8,k9,k11,k1,hI⟩⟩
   obtain rfl:=aB cM
   refine bB hI 0 aL rfl rfl ?_
   exact ⟨aA,az,aB,fun _=>rfl,aD,aC,aw,aJ,aN,aR,aq,au,aH,⟨M,cs7,b8,e7,e8,k8,k9,k11,k1,hI⟩⟩
  ·intro D aS  dx c4 db c7 cB bV cJ dz dg df cC cz w_
   rintro ⟨aA,az,aB,ax,aD,aC,aw,aJ,aN,aR,aq,au,aH,⟨M,cs7,b8,e7,e8,k8,k9,k11,k1,hI⟩⟩
   exact ⟨aA,az,aB,ax,fun _=>rfl,aC,aw,aJ,aN,aR,aq,au,aH,⟨M,cs7,b8,e7,e8,k8,k9,k11,k1,hI⟩⟩
  ·intro D aS dh eD dx c4 db c7 cB bV cJ dz dg df cC cz w_
   rintro ⟨aA,az,aB,ax,aD,aC,aw,aJ,aN,aR,aq,au,aH,⟨M,cs7,b8,e7,e8,k8,k9,k11,k1,hI⟩⟩
   obtain rfl:=ax dh
   obtain rfl:=aD eD
   refine bq aG hj' ?_
   exact ⟨aA,az,aB,ax,aD,fun _=>rfl,aw,aJ,aN,aR,aq,au,aH,⟨M,cs7,b8,e7,e8,k8,k9,k11,k1,hI⟩⟩
  ·intro D aS dT dx c4 db c7 cB bV cJ dz dg df cC cz w_
   rintro ⟨aA,az,aB,ax,aD,aC,aw,aJ,aN,aR,aq,au,aH,⟨M,cs7,b8,e7,e8,k8,k9,k11,k1,hI⟩⟩
   obtain rfl:=aC dT
   refine dF ag hR.length (fun j v hj=>by rw [hI.cellS hS]; exact bx rfl j v hj) ?_
   exact ⟨aA,az,aB,ax,aD,aC,fun _=>rfl,aJ,aN,aR,aq,au,aH,⟨M,cs7,b8,e7,e8,k8,k9,k11,k1,hI⟩⟩
  ·intro D aS  dx c4 db c7 cB bV cJ dz dg df cC cz w_
   rintro ⟨aA,az,aB,ax,aD,aC,aw,aJ,aN,aR,aq,au,aH,⟨M,cs7,b8,e7,e8,k8,k9,k11,k1,hI⟩⟩
   exact ⟨aA,az,aB,ax,aD,aC,aw,fun _=>rfl,aN,aR,aq,au,aH,⟨M,cs7,b8,e7,e8,k8,k9,k11,k1,hI⟩⟩
  ·intro D aS bW lP dx c4 db c7 cB bV cJ dz dg df cC cz w_
   rintro ⟨aA,az,aB,ax,aD,aC,aw,aJ,aN,aR,aq,au,aH,⟨M,cs7,b8,e7,e8,k8,k9,k11,k1,hI⟩⟩
   obtain rfl:=aw bW
   obtain rfl:=aJ lP
   have f8:D 9=false:=Bool.eq_false_iff.2 fun h=>by rw [k8 h] at aS; cases aS
   have f9:D 10=false:=Bool.eq_false_iff.2 fun h=>by rw [k9 h] at f8; cases f8
   have f11:D 12=false:=Bool.eq_false_iff.2 fun h=>by rw [k11 h] at f9; cases f9
   rw [aS,f8,f9,f11] at hI
   refine Run.call0 lW lO hI (pM hN m hm0 hm1 _ S _ hR (hob _ (List.getElem_mem hj')) (by omega)) fun v' I' S w_=>?_
   rintro ⟨rfl,cs7,M,rfl,rfl,hT⟩ _ hI
   have e7:ao D 8 8=true->Value.agg cs7.toArray=Value.agg cs7.toArray/\TrT M cs7 (dR m c0.body[j]):=fun _=>⟨rfl,hT⟩
   have k8:=fun (_:ao D 8 9=true)=>(rfl:ao D 8 8=true)
   have hI:Inv w [] (bi (.blk b1 (.cells #[.int .i64 c0.head.kind,.int .i64 c0.head.n,.string c0.head.name,kv,.slice (some ⟨b,o,none⟩) c0.body.length cap] ac)) (.blk b2 (.cells #[.int .i64 0,.int .i64 0,.string ⟨#[]⟩,.slice none 0 0,.slice none 0 0] ac)) (.blk b3 (.cells #[.int .i64 hd.kind,.int .i64 hd.n,.string hd.name,kh,kvc] ac)) (.blk b3 (.cells #[.int .i64 hd.kind,.int .i64 hd.n,.string hd.name,kh,c4] ac)) (a5 kvc ab 4 css) (a5 c4 ab 4 (css++[cs7])) (bw (N::Ls).flatten) M (.blk b8 (.cells cs7.toArray ab)) true (D 9) (D 10) (D 12)) S w_:=by
    rw [f8,f9,f11]
    simpa [bi] using hI
   exact ⟨aA,az,aB,ax,aD,aC,aw,aJ,fun _=>by first|assumption|trivial,aR,aq,au,aH,⟨M,cs7,b8,e7,e8,k8,k9,k11,k1,hI⟩⟩
  ·intro D aS iP dx c4 db c7 cB bV cJ dz dg df cC cz w_
   rintro ⟨aA,az,aB,ax,aD,aC,aw,aJ,aN,aR,aq,au,aH,⟨M,cs7,b8,e7,e8,k8,k9,k11,k1,hI⟩⟩
   have E3:=aN iP
   have f9:D 10=false:=Bool.eq_false_iff.2 fun h=>by rw [k9 h] at aS; cases aS
   have f11:D 12=false:=Bool.eq_false_iff.2 fun h=>by rw [k11 h] at f9; cases f9
   obtain ⟨q7,hT⟩:=e7 iP
   subst q7
   rw [iP,aS,f9,f11] at hI
   refine dJ hI bC (by simp [Value.cells,hT.length]) (by omega) (by omega) fun b8 w_ hI=>?_
   have e7:ao D 9 8=true->Value.agg cs7.toArray=Value.agg cs7.toArray/\TrT M cs7 (dR m c0.body[j]):=fun _=>⟨rfl,hT⟩
   have e8:=fun (_:ao D 9 9=true)=>(rfl:Value.slice (some ⟨b8,0,none⟩) 1 1=_)
   have k8:=fun (_:ao D 9 9=true)=>iP
   have k9:=fun (_:ao D 9 10=true)=>(rfl:ao D 9 9=true)
   have hI:Inv w [] (bi (.blk b1 (.cells #[.int .i64 c0.head.kind,.int .i64 c0.head.n,.string c0.head.name,kv,.slice (some ⟨b,o,none⟩) c0.body.length cap] ac)) (.blk b2 (.cells #[.int .i64 0,.int .i64 0,.string ⟨#[]⟩,.slice none 0 0,.slice none 0 0] ac)) (.blk b3 (.cells #[.int .i64 hd.kind,.int .i64 hd.n,.string hd.name,kh,kvc] ac)) (.blk b3 (.cells #[.int .i64 hd.kind,.int .i64 hd.n,.string hd.name,kh,c4] ac)) (a5 kvc ab 4 css) (a5 c4 ab 4 (css++[cs7])) (bw (N::Ls).flatten) M (.blk b8 (.cells cs7.toArray ab)) (D 8) true (D 10) (D 12)) S w_:=by
    rw [iP,f9,f11]
    simpa [bi,Value.cells] using hI
   exact ⟨aA,az,aB,ax,aD,aC,aw,aJ,aN,fun _=>by first|assumption|trivial,aq,au,aH,⟨M,cs7,b8,e7,e8,k8,k9,k11,k1,hI⟩⟩
  ·intro D aS dB eQ o6 dx c4 db c7 cB bV cJ dz dg df cC cz w_
   rintro ⟨aA,az,aB,ax,aD,aC,aw,aJ,aN,aR,aq,au,aH,⟨M,cs7,b8,e7,e8,k8,k9,k11,k1,hI⟩⟩
   obtain rfl:=az dB
   have HC:=aR eQ
   have f11:D 12=false:=Bool.eq_false_iff.2 fun h=>by rw [k11 h] at aS; cases aS
   have q8:=e8 eQ
   subst q8
   obtain ⟨_,hT⟩:=e7 o6
   rw [o6,eQ,aS,f11] at hI
   have hblk:((bi (.blk b1 (.cells #[.int .i64 c0.head.kind,.int .i64 c0.head.n,.string c0.head.name,kv,.slice (some ⟨b,o,none⟩) c0.body.length cap] ac)) (.blk b2 (.cells #[.int .i64 0,.int .i64 0,.string ⟨#[]⟩,.slice none 0 0,.slice none 0 0] ac)) (.blk b3 (.cells #[.int .i64 hd.kind,.int .i64 hd.n,.string hd.name,kh,cC] ac)) (.blk b3 (.cells #[.int .i64 hd.kind,.int .i64 hd.n,.string hd.name,kh,c4] ac)) (a5 cC ab 4 css) (a5 c4 ab 4 (css++[cs7])) (bw (N::Ls).flatten) M (.blk b8 (.cells cs7.toArray ab)) true true false false))[4+(bw (N::Ls).flatten).length+(bw M).length]?=some (.blk b8 (.cells cs7.toArray ab)):=by
    have e4:4+(bw (N::Ls).flatten).length+(bw M).length=((bw (N::Ls).flatten).length+(bw M).length)+1+1+1+1:=by omega
    rw [e4]
    simp only [bi,List.getElem?_cons_succ]
    rw [List.getElem?_append_right (by omega),Nat.add_sub_cancel_left,List.getElem?_append_right (Nat.le_refl _),Nat.sub_self]; rfl
   refine ev hI 3 cs7 bC (by omega) rfl (by rw [hT.length]) (m:=1) (o:=0) ?_ hT.one (by omega) (by omega) fun v' w_ hI=>?_
   ·intro i u hi
    rw [hI.cellL hblk,Nat.zero_add]
    simpa using hi
   rw [eN] at hI
   have k9:=fun (_:ao D 10 10=true)=>eQ
   have k11:=fun (_:ao D 10 12=true)=>(rfl:ao D 10 10=true)
   have hI:Inv w [] (bi (.blk b1 (.cells #[.int .i64 c0.head.kind,.int .i64 c0.head.n,.string c0.head.name,kv,.slice (some ⟨b,o,none⟩) c0.body.length cap] ac)) (.blk b2 (.cells #[.int .i64 0,.int .i64 0,.string ⟨#[]⟩,.slice none 0 0,.slice none 0 0] ac)) (.blk b3 (.cells #[.int .i64 hd.kind,.int .i64 hd.n,.string hd.name,kh,cC] ac)) (.blk b3 (.cells #[.int .i64 hd.kind,.int .i64 hd.n,.string hd.name,kh,v'] ac)) (a5 cC ab 4 css) (a5 v' ab 4 (css++[cs7])) (bw (N::Ls).flatten) M (.blk b8 (.cells cs7.toArray ab)) (D 8) (D 9) true (D 12)) S w_:=by
    rw [o6,eQ,f11]
    exact hI
   exact ⟨aA,az,aB,ax,aD,aC,aw,aJ,aN,aR,fun _=>by first|assumption|trivial,au,aH,⟨M,cs7,b8,e7,e8,k8,k9,k11,k1,hI⟩⟩
  ·intro D aS cA iz qD xd uq AH zT EA I6 Jj Ju dx c4 db c7 cB bV cJ dz dg df cC cz w_
   rintro ⟨aA,az,aB,ax,aD,aC,aw,aJ,aN,aR,aq,au,aH,⟨M,cs7,b8,e7,e8,k8,k9,k11,k1,hI⟩⟩
   refine bj bl ?_
   exact ⟨aA,az,aB,ax,aD,aC,aw,aJ,aN,aR,aq,fun _=>rfl,aH,⟨M,cs7,b8,e7,e8,k8,k9,k11,k1,hI⟩⟩
  ·intro D aS j0 gE vX tP i8 uJ uE qF qJ zY jt gY mu JL dx c4 db c7 cB bV cJ dz dg df cC cz w_
   rintro ⟨aA,az,aB,ax,aD,aC,aw,aJ,aN,aR,aq,au,aH,⟨M,cs7,b8,e7,e8,k8,k9,k11,k1,hI⟩⟩
   obtain rfl:=au j0
   have EZ:=aq gE
   rw [gY,mu,gE,aS] at hI
   obtain ⟨va,vn,vc,hv9⟩:=Inv.rowSlice hI 3 rfl
   refine ei hI 2 (n:=1) (by rw [hv9]; rfl) (by decide +kernel) rfl (by simp) (by rw [hv9]; simp [Value.cells,Value.oneCell']) fun w_ hI=>?_
   have hcl9:Value.cells c4=#[c4]:=by rw [hv9]; rfl
   rw [hcl9] at hI
   have k1:=fun (_:ao D 12 12=true)=>i8
   have k11:=fun (_:ao D 12 12=true)=>gE
   have hI:Inv w [] (bi (.blk b1 (.cells #[.int .i64 c0.head.kind,.int .i64 c0.head.n,.string c0.head.name,kv,.slice (some ⟨b,o,none⟩) c0.body.length cap] ac)) (.blk b2 (.cells #[.int .i64 0,.int .i64 0,.string ⟨#[]⟩,.slice none 0 0,.slice none 0 0] ac)) (.blk b3 (.cells #[.int .i64 hd.kind,.int .i64 hd.n,.string hd.name,kh,kvc] ac)) (.blk b3 (.cells #[.int .i64 hd.kind,.int .i64 hd.n,.string hd.name,kh,c4] ac)) (a5 kvc ab 4 css) (a5 c4 ab 4 (css++[cs7])) (bw (N::Ls).flatten) M (.blk b8 (.cells cs7.toArray ab)) (D 8) (D 9) (D 10) true) S w_:=by
    rw [gY,mu,gE]
    exact hI
   exact ⟨aA,az,aB,ax,aD,aC,aw,aJ,aN,aR,aq,au,fun _=>trivial,⟨M,cs7,b8,e7,e8,k8,k9,k11,k1,hI⟩⟩
  intro D jV gw fg jA g7 gc fj ft fL fX fM fP fY dx c4 db c7 cB bV cJ dz dg df cC cz w_
  rintro ⟨aA,az,aB,ax,aD,aC,aw,aJ,aN,aR,aq,au,aH,⟨M,cs7,b8,e7,e8,k8,k9,k11,k1,hI⟩⟩
  obtain rfl:=au gw
  have EZ:=aq fg
  have HC:=aR jA
  have E3:=aN g7
  obtain rfl:=aJ gc
  obtain rfl:=aw fj
  obtain rfl:=aC ft
  obtain rfl:=aD fL
  obtain rfl:=ax fX
  obtain rfl:=aB fM
  obtain rfl:=az fP
  obtain rfl:=aA fY
  clear aA az aB ax aD aC aw aJ aN aR aq au aH
  obtain ⟨_,hT⟩:=e7 g7
  rw [g7,jA,fg,jV] at hI
  refine bR (by omega) ?_
  refine ⟨⟨j+1,c4,Ls++[M],css++[cs7],hj',rfl,?_,?_⟩,by simp [intOf]; omega⟩
  ·rw [oH m c0.body j hj']
   exact hg.snoc hT hT.length
  ·rw [<- List.cons_append,List.flatten_append,c8]
   simp only [List.flatten_cons,List.flatten_nil,List.append_nil]
   refine hI.sub ?_
   simp only [bi,List.flatten_cons]
   rw [<- List.append_assoc]
   exact (((List.sublist_append_left _ _).cons_cons _).cons_cons _).cons_cons _ |>.cons_cons _
 ·have:j=c0.body.length:=by omega
  subst this
  rw [List.take_length] at hg
  obtain ⟨va,vn,vc,hvk⟩:=hI.rowSlice 3 rfl
  have hv1:kvc.oneCell'=true:=by rw [hvk]; rfl
  have o1:kh.oneCell'=true:=hT1.one kh (by simp)
  refine aO hI 2 aI rfl rfl ?_
  refine aM hI 1 rfl aI rfl rfl ?_ fun w' hI=>?_
  ·intro u hu
   have hu':u∈([.int .i64 hd.kind,.int .i64 hd.n,.string hd.name,kh,kvc]:List Value):=hu
   simp at hu'
   rcases hu' with rfl|rfl|rfl|rfl|rfl <;> first|rfl|exact o1|exact hv1
  refine bA hI 1 aI rfl rfl ?_
  have hI:Inv w [] (a5 kvc ab 4 css::bw (N::Ls).flatten) S w':=hI.sub (List.sublist_append_right [_,_,_] _)
  rw [List.flatten_cons,c8] at hI
  have hI:=hI.perm (M:=bw N++(a5 kvc ab 4 css::bw Ls.flatten)) (List.perm_middle)
  obtain ⟨L,hT,hI⟩:=Inv.rowTree hI hg
  rw [hhd] at hT1
  exact ⟨_,_,_,rfl,hI,Ext.refl _ _ _,rfl,_,N++L,rfl,by rw [c8],_,kvc,N,L,by rw [hhd]; rfl,rfl,hT1,hT⟩
end

end Go.Proofs.YtnmnddpdikghhaaGreat
