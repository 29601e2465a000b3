/- impl.ownProgram; spec's copies. -/
import Derived.Test.YtnmnddpdikghhaaGreatZr1
namespace Go.Proofs.YtnmnddpdikghhaaGreat
open Go Go.RowKit
theorem RdC.one {S:ay} {cs:List Value} {c:C} (h:RdC S cs c):∀ u∈cs,u.oneCell'=true:=by
 obtain ⟨hd,ks,rfl,h1,a,cap,rfl,_⟩:=h
 intro u hu
 rcases List.mem_append.1 hu with hu|hu
 ·exact h1.one u hu
 ·simp at hu; subst hu; rfl
section
attribute [local irreducible] Run CondV ai a4
/- a row's value is a slice -/
theorem Inv.rowSlice {w0 w:World} {X:List Nat} {L:List Item} {S:ay} {v:Value} {e:TypeId} {k n:Nat} {xs:List Value} (h:Inv w0 X L S w) (i:Nat) (hi:L[i]?=some (.row v e k n xs)):∃ a m c,v=.slice a m c:=by
 have hm:w.ownsRow 0 e k v n xs:=h.its (.row v e k n xs) (List.mem_of_getElem? hi)
 rcases hm.2 with ⟨rfl,_⟩|⟨g,cap,cur,rfl,_⟩
 ·exact ⟨_,_,_,rfl⟩
 ·exact ⟨_,_,_,rfl⟩
def bi (B1 B2 B3 B3' r r':Item) (rest:List Item) (M:bI) (B27:Item) (d7 d8 d9 d11:Bool):List Item:=
 B1::B2::(match d11 with|true=>B3'|false=>B3)::(match d9 with|true=>r'|false=>r)::(rest++((match d7 with|true=>bw M|false=>[])++(match d8 with|true=>[B27]|false=>[])))

theorem gv:∀ (t:T) (S:ay) (cs:List Value),RdT S cs t->wT t<=1048576->Tri Tryz.prog qC [.agg cs.toArray] [] S (vb S t):=by
 refine T.ind fun k n s ks ih S cs h hw=>?_
 intro w hI
 obtain ⟨kv,rfl,h1,h2,hs,hks⟩:=RdT.iff.1 h
 simp only [T.name,T.kids,T.kind,T.n] at h1 h2 hs hks ⊢
 simp only [wT] at hw
 refine n5 ?_
 unfold ot
 refine bN hI fun b1 w' hI=>?_
 refine a9 hI bt fun b2 w' hI=>?_
 refine ar hI 0 rfl bv bg rfl ?_
 refine ar hI 0 rfl bn bg rfl ?_
 refine ar hI 0 rfl bH bz rfl ?_
 refine g6 ?_
 refine a9 hI bt fun b3 w' hI=>?_
 refine aM hI 2 rfl ag rfl rfl (by simp [Value.oneCell']) fun w' hI=>?_
 have hI:=hI.rowNil ab 4
 refine ⟨fun i w'=>∃ (j:Nat) (kvc:Value) (Ls:List bI) (css:List (List Value)),j<=ks.length/\i=.int .i64 j/\Grown 4 TrT Ls css (ks.take j)/\
   Inv w [] (.blk b1 (.cells #[.int .i64 k,.int .i64 n,.string s,kv] ab)::.blk b2 (.cells #[.int .i64 0,.int .i64 0,.string ⟨#[]⟩,.slice none 0 0] ab)::.blk b3 (.cells #[.int .i64 k,.int .i64 n,.string s,kvc] ab)::a5 kvc ab 4 css::bw Ls.flatten) S w',
  fun i _=>ks.length - (intOf i).toNat,⟨0,_,[],[],Nat.zero_le _,rfl,Grown.nil _ _,hI⟩,?_⟩
 intro t4 _ _ _ _ _ _ _ _ _ _ _ _ _ _ _ _ _ _ w'
 rintro ⟨j,kvc,Ls,css,hj,rfl,hg,hI⟩
 refine ar hI 0 rfl aP aL rfl ?_
 refine bm hks aG ?_
 refine cF ?_
 refine bF (fun hji=>?_) (fun hji=>?_)
 ·have hj':j<ks.length:=by omega
  have hjl:(ks.take j).length=j:=by simp; omega
  have hcl:=hg.hc
  have hm:=List.getElem_mem hj'
  have hwm:=gF hm
  obtain ⟨b,o,cap,c,E,fz,rfl,hS,hR⟩:=hks.at_ hj'
  refine ⟨fun D c4 db c7 cB bV cJ dz dg df cC cz w_=>(D 0=true->cz=.pointer (some ⟨b3,3,none⟩))/\(D 1=true->cC=kvc)/\(D 2=true->df=.pointer (some ⟨b1,3,none⟩))/\(D 3=true->dg=.slice (some ⟨b,o,none⟩) (ks).length cap)/\(D 4=true->dz=.int .i64 j)/\(D 5=true->cJ=.pointer (some ⟨b,o+j * 4,none⟩))/\(D 6=true->bV=.agg (bJ c (o+j * 4) 4).toArray)/\(D 7=true->True)/\(D 8=true->True)/\(D 9=true->True)/\(D 10=true->c4=.pointer (some ⟨b3,3,none⟩))/\(D 11=true->True)/\∃ M cs7 b8,(D 7=true->cB=.agg cs7.toArray/\TrT M cs7 (ks)[j])/\(D 8=true->c7=.slice (some ⟨b8,0,none⟩) 1 1)/\(D 8=true->D 7=true)/\(D 9=true->D 8=true)/\(D 11=true->D 9=true)/\(D 11=true->D 1=true)/\Inv w [] (bi (.blk b1 (.cells #[.int .i64 k,.int .i64 n,.string s,.slice (some ⟨b,o,none⟩) ks.length cap] ab)) (.blk b2 (.cells #[.int .i64 0,.int .i64 0,.string ⟨#[]⟩,.slice none 0 0] ab)) (.blk b3 (.cells #[.int .i64 k,.int .i64 n,.string s,kvc] ab)) (.blk b3 (.cells #[.int .i64 k,.int .i64 n,.string s,db] ab)) (a5 kvc ab 4 css) (a5 db ab 4 (css++[cs7])) (bw Ls.flatten) M (.blk b8 (.cells cs7.toArray ab)) (D 7) (D 8) (D 9) (D 11)) S w_,⟨af,af,af,af,af,af,af,af,af,af,af,af,⟨[],[],0,af,af,af,af,af,af,by simpa [bi,bw] using hI.draw⟩⟩,⟨?_,?_,?_,?_,?_,?_,?_,?_,?_,?_,?_,?_,trivial⟩,?_⟩
  ·intro D aS  c4 db c7 cB bV cJ dz dg df cC cz w_
   rintro ⟨aA,az,aB,ax,aD,aC,aw,aJ,aN,aR,aq,au,⟨M,cs7,b8,e7,e8,k8,k9,k11,k1,hI⟩⟩
   refine bj aP ?_
   exact ⟨fun _=>rfl,az,aB,ax,aD,aC,aw,aJ,aN,aR,aq,au,⟨M,cs7,b8,e7,e8,k8,k9,k11,k1,hI⟩⟩
  ·intro D aS cA c4 db c7 cB bV cJ dz dg df cC cz w_
   rintro ⟨aA,az,aB,ax,aD,aC,aw,aJ,aN,aR,aq,au,⟨M,cs7,b8,e7,e8,k8,k9,k11,k1,hI⟩⟩
   obtain rfl:=aA cA
   have f11:D 11=false:=Bool.eq_false_iff.2 fun h=>by rw [k1 h] at aS; cases aS
   refine bB (b:=b3) hI 2 (c:=(#[.int .i64 k,.int .i64 n,.string s,kvc])) aL (by rw [f11]; rfl) rfl ?_
   have k1:=fun (_:ao D 1 11=true)=>(rfl:ao D 1 1=true)
   exact ⟨aA,fun _=>rfl,aB,ax,aD,aC,aw,aJ,aN,aR,aq,au,⟨M,cs7,b8,e7,e8,k8,k9,k11,k1,hI⟩⟩
  ·intro D aS  c4 db c7 cB bV cJ dz dg df cC cz w_
   rintro ⟨aA,az,aB,ax,aD,aC,aw,aJ,aN,aR,aq,au,⟨M,cs7,b8,e7,e8,k8,k9,k11,k1,hI⟩⟩
   refine bj aP ?_
   exact ⟨aA,az,fun _=>rfl,ax,aD,aC,aw,aJ,aN,aR,aq,au,⟨M,cs7,b8,e7,e8,k8,k9,k11,k1,hI⟩⟩
  ·intro D aS cM c4 db c7 cB bV cJ dz dg df cC cz w_
   rintro ⟨aA,az,aB,ax,aD,aC,aw,aJ,aN,aR,aq,au,⟨M,cs7,b8,e7,e8,k8,k9,k11,k1,hI⟩⟩
   obtain rfl:=aB cM
   refine bB hI 0 aL rfl rfl ?_
   exact ⟨aA,az,aB,fun _=>rfl,aD,aC,aw,aJ,aN,aR,aq,au,⟨M,cs7,b8,e7,e8,k8,k9,k11,k1,hI⟩⟩
  ·intro D aS  c4 db c7 cB bV cJ dz dg df cC cz w_
   rintro ⟨aA,az,aB,ax,aD,aC,aw,aJ,aN,aR,aq,au,⟨M,cs7,b8,e7,e8,k8,k9,k11,k1,hI⟩⟩
   exact ⟨aA,az,aB,ax,fun _=>rfl,aC,aw,aJ,aN,aR,aq,au,⟨M,cs7,b8,e7,e8,k8,k9,k11,k1,hI⟩⟩
  ·intro D aS dh eD c4 db c7 cB bV cJ dz dg df cC cz w_
   rintro ⟨aA,az,aB,ax,aD,aC,aw,aJ,aN,aR,aq,au,⟨M,cs7,b8,e7,e8,k8,k9,k11,k1,hI⟩⟩
   obtain rfl:=ax dh
   obtain rfl:=aD eD
   refine bq aG hj' ?_
   exact ⟨aA,az,aB,ax,aD,fun _=>rfl,aw,aJ,aN,aR,aq,au,⟨M,cs7,b8,e7,e8,k8,k9,k11,k1,hI⟩⟩
  ·intro D aS dT c4 db c7 cB bV cJ dz dg df cC cz w_
   rintro ⟨aA,az,aB,ax,aD,aC,aw,aJ,aN,aR,aq,au,⟨M,cs7,b8,e7,e8,k8,k9,k11,k1,hI⟩⟩
   obtain rfl:=aC dT
   refine dF ag hR.length (fun j v hj=>by rw [hI.cellS hS]; exact bx rfl j v hj) ?_
   exact ⟨aA,az,aB,ax,aD,aC,fun _=>rfl,aJ,aN,aR,aq,au,⟨M,cs7,b8,e7,e8,k8,k9,k11,k1,hI⟩⟩
  ·intro D aS bW c4 db c7 cB bV cJ dz dg df cC cz w_
   rintro ⟨aA,az,aB,ax,aD,aC,aw,aJ,aN,aR,aq,au,⟨M,cs7,b8,e7,e8,k8,k9,k11,k1,hI⟩⟩
   obtain rfl:=aw bW
   have f8:D 8=false:=Bool.eq_false_iff.2 fun h=>by rw [k8 h] at aS; cases aS
   have f9:D 9=false:=Bool.eq_false_iff.2 fun h=>by rw [k9 h] at f8; cases f8
   have f11:D 11=false:=Bool.eq_false_iff.2 fun h=>by rw [k11 h] at f9; cases f9
   rw [aS,f8,f9,f11] at hI
   refine Run.call0 fp fu hI (ih _ (List.getElem_mem hj') S _ hR (by omega)) fun v' I' S w_=>?_
   rintro ⟨rfl,cs7,M,rfl,rfl,hT⟩ _ hI
   have e7:ao D 7 7=true->Value.agg cs7.toArray=Value.agg cs7.toArray/\TrT M cs7 (ks)[j]:=fun _=>⟨rfl,hT⟩
   have k8:=fun (_:ao D 7 8=true)=>(rfl:ao D 7 7=true)
   have hI:Inv w [] (bi (.blk b1 (.cells #[.int .i64 k,.int .i64 n,.string s,.slice (some ⟨b,o,none⟩) ks.length cap] ab)) (.blk b2 (.cells #[.int .i64 0,.int .i64 0,.string ⟨#[]⟩,.slice none 0 0] ab)) (.blk b3 (.cells #[.int .i64 k,.int .i64 n,.string s,kvc] ab)) (.blk b3 (.cells #[.int .i64 k,.int .i64 n,.string s,db] ab)) (a5 kvc ab 4 css) (a5 db ab 4 (css++[cs7])) (bw Ls.flatten) M (.blk b8 (.cells cs7.toArray ab)) true (D 8) (D 9) (D 11)) S w_:=by
    rw [f8,f9,f11]
    simpa [bi] using hI
   exact ⟨aA,az,aB,ax,aD,aC,aw,fun _=>by first|assumption|trivial,aN,aR,aq,au,⟨M,cs7,b8,e7,e8,k8,k9,k11,k1,hI⟩⟩
  ·intro D aS eo c4 db c7 cB bV cJ dz dg df cC cz w_
   rintro ⟨aA,az,aB,ax,aD,aC,aw,aJ,aN,aR,aq,au,⟨M,cs7,b8,e7,e8,k8,k9,k11,k1,hI⟩⟩
   have K0:=aJ eo
   have f9:D 9=false:=Bool.eq_false_iff.2 fun h=>by rw [k9 h] at aS; cases aS
   have f11:D 11=false:=Bool.eq_false_iff.2 fun h=>by rw [k11 h] at f9; cases f9
   obtain ⟨q7,hT⟩:=e7 eo
   subst q7
   rw [eo,aS,f9,f11] at hI
   refine dJ hI bC (by simp [Value.cells,hT.length]) (by omega) (by omega) fun b8 w_ hI=>?_
   have e7:ao D 8 7=true->Value.agg cs7.toArray=Value.agg cs7.toArray/\TrT M cs7 (ks)[j]:=fun _=>⟨rfl,hT⟩
   have e8:=fun (_:ao D 8 8=true)=>(rfl:Value.slice (some ⟨b8,0,none⟩) 1 1=_)
   have k8:=fun (_:ao D 8 8=true)=>eo
   have k9:=fun (_:ao D 8 9=true)=>(rfl:ao D 8 8=true)
   have hI:Inv w [] (bi (.blk b1 (.cells #[.int .i64 k,.int .i64 n,.string s,.slice (some ⟨b,o,none⟩) ks.length cap] ab)) (.blk b2 (.cells #[.int .i64 0,.int .i64 0,.string ⟨#[]⟩,.slice none 0 0] ab)) (.blk b3 (.cells #[.int .i64 k,.int .i64 n,.string s,kvc] ab)) (.blk b3 (.cells #[.int .i64 k,.int .i64 n,.string s,db] ab)) (a5 kvc ab 4 css) (a5 db ab 4 (css++[cs7])) (bw Ls.flatten) M (.blk b8 (.cells cs7.toArray ab)) (D 7) true (D 9) (D 11)) S w_:=by
    rw [eo,f9,f11]
    simpa [bi,Value.cells] using hI
   exact ⟨aA,az,aB,ax,aD,aC,aw,aJ,fun _=>by first|assumption|trivial,aR,aq,au,⟨M,cs7,b8,e7,e8,k8,k9,k11,k1,hI⟩⟩
  ·intro D aS dB fT oI c4 db c7 cB bV cJ dz dg df cC cz w_
   rintro ⟨aA,az,aB,ax,aD,aC,aw,aJ,aN,aR,aq,au,⟨M,cs7,b8,e7,e8,k8,k9,k11,k1,hI⟩⟩
   obtain rfl:=az dB
   have E3:=aN fT
   have f11:D 11=false:=Bool.eq_false_iff.2 fun h=>by rw [k11 h] at aS; cases aS
   have q8:=e8 fT
   subst q8
   obtain ⟨_,hT⟩:=e7 oI
   rw [oI,fT,aS,f11] at hI
   have hblk:((bi (.blk b1 (.cells #[.int .i64 k,.int .i64 n,.string s,.slice (some ⟨b,o,none⟩) ks.length cap] ab)) (.blk b2 (.cells #[.int .i64 0,.int .i64 0,.string ⟨#[]⟩,.slice none 0 0] ab)) (.blk b3 (.cells #[.int .i64 k,.int .i64 n,.string s,cC] ab)) (.blk b3 (.cells #[.int .i64 k,.int .i64 n,.string s,db] ab)) (a5 cC ab 4 css) (a5 db ab 4 (css++[cs7])) (bw Ls.flatten) M (.blk b8 (.cells cs7.toArray ab)) true true false false))[4+(bw Ls.flatten).length+(bw M).length]?=some (.blk b8 (.cells cs7.toArray ab)):=by
    have e4:4+(bw Ls.flatten).length+(bw M).length=((bw Ls.flatten).length+(bw M).length)+1+1+1+1:=by omega
    rw [e4]
    simp only [bi,List.getElem?_cons_succ]
    rw [List.getElem?_append_right (by omega),Nat.add_sub_cancel_left,List.getElem?_append_right (Nat.le_refl _),Nat.sub_self]; rfl
   refine ev hI 3 cs7 bC (by omega) rfl (by rw [hT.length]) (m:=1) (o:=0) ?_ hT.one (by omega) (by omega) fun v' w_ hI=>?_
   ·intro i u hi
    rw [hI.cellL hblk,Nat.zero_add]
    simpa using hi
   rw [eN] at hI
   have k9:=fun (_:ao D 9 9=true)=>fT
   have k11:=fun (_:ao D 9 11=true)=>(rfl:ao D 9 9=true)
   have hI:Inv w [] (bi (.blk b1 (.cells #[.int .i64 k,.int .i64 n,.string s,.slice (some ⟨b,o,none⟩) ks.length cap] ab)) (.blk b2 (.cells #[.int .i64 0,.int .i64 0,.string ⟨#[]⟩,.slice none 0 0] ab)) (.blk b3 (.cells #[.int .i64 k,.int .i64 n,.string s,cC] ab)) (.blk b3 (.cells #[.int .i64 k,.int .i64 n,.string s,v'] ab)) (a5 cC ab 4 css) (a5 v' ab 4 (css++[cs7])) (bw Ls.flatten) M (.blk b8 (.cells cs7.toArray ab)) (D 7) (D 8) true (D 11)) S w_:=by
    rw [oI,fT,f11]
    exact hI
   exact ⟨aA,az,aB,ax,aD,aC,aw,aJ,aN,fun _=>by first|assumption|trivial,aq,au,⟨M,cs7,b8,e7,e8,k8,k9,k11,k1,hI⟩⟩
  ·intro D aS cA iz qD xd uq AH zT EA I6 Jj c4 db c7 cB bV cJ dz dg df cC cz w_
   rintro ⟨aA,az,aB,ax,aD,aC,aw,aJ,aN,aR,aq,au,⟨M,cs7,b8,e7,e8,k8,k9,k11,k1,hI⟩⟩
   refine bj aP ?_
   exact ⟨aA,az,aB,ax,aD,aC,aw,aJ,aN,aR,fun _=>rfl,au,⟨M,cs7,b8,e7,e8,k8,k9,k11,k1,hI⟩⟩
  ·intro D aS jP eQ Lo tP i8 uJ uE qF qJ zY jt gY mu c4 db c7 cB bV cJ dz dg df cC cz w_
   rintro ⟨aA,az,aB,ax,aD,aC,aw,aJ,aN,aR,aq,au,⟨M,cs7,b8,e7,e8,k8,k9,k11,k1,hI⟩⟩
   obtain rfl:=aq jP
   have HC:=aR eQ
   rw [jt,gY,eQ,aS] at hI
   obtain ⟨va,vn,vc,hv9⟩:=Inv.rowSlice hI 3 rfl
   refine ei hI 2 (n:=1) (by rw [hv9]; rfl) (by decide +kernel) rfl (by simp) (by rw [hv9]; simp [Value.cells,Value.oneCell']) fun w_ hI=>?_
   have hcl9:Value.cells db=#[db]:=by rw [hv9]; rfl
   rw [hcl9] at hI
   have k1:=fun (_:ao D 11 11=true)=>i8
   have k11:=fun (_:ao D 11 11=true)=>eQ
   have hI:Inv w [] (bi (.blk b1 (.cells #[.int .i64 k,.int .i64 n,.string s,.slice (some ⟨b,o,none⟩) ks.length cap] ab)) (.blk b2 (.cells #[.int .i64 0,.int .i64 0,.string ⟨#[]⟩,.slice none 0 0] ab)) (.blk b3 (.cells #[.int .i64 k,.int .i64 n,.string s,kvc] ab)) (.blk b3 (.cells #[.int .i64 k,.int .i64 n,.string s,db] ab)) (a5 kvc ab 4 css) (a5 db ab 4 (css++[cs7])) (bw Ls.flatten) M (.blk b8 (.cells cs7.toArray ab)) (D 7) (D 8) (D 9) true) S w_:=by
    rw [jt,gY,eQ]
    exact hI
   exact ⟨aA,az,aB,ax,aD,aC,aw,aJ,aN,aR,aq,fun _=>trivial,⟨M,cs7,b8,e7,e8,k8,k9,k11,k1,hI⟩⟩
  intro D gw fg jA g7 gc fj ft fL fX fM fP fY c4 db c7 cB bV cJ dz dg df cC cz w_
  rintro ⟨aA,az,aB,ax,aD,aC,aw,aJ,aN,aR,aq,au,⟨M,cs7,b8,e7,e8,k8,k9,k11,k1,hI⟩⟩
  obtain rfl:=aq fg
  have HC:=aR jA
  have E3:=aN g7
  have K0:=aJ gc
  obtain rfl:=aw fj
  obtain rfl:=aC ft
  obtain rfl:=aD fL
  obtain rfl:=ax fX
  obtain rfl:=aB fM
  obtain rfl:=az fP
  obtain rfl:=aA fY
  clear aA az aB ax aD aC aw aJ aN aR aq au
  obtain ⟨_,hT⟩:=e7 gc
  rw [gc,g7,jA,gw] at hI
  refine bR (by omega) ?_
  refine ⟨⟨j+1,db,Ls++[M],css++[cs7],hj',rfl,?_,?_⟩,by simp [intOf]; omega⟩
  ·rw [List.take_succ_eq_append_getElem hj']
   exact hg.snoc hT hT.length
  ·simp only [List.flatten_append,List.flatten_cons,List.flatten_nil,List.append_nil,c8]
   refine hI.sub ?_
   simp only [bi]
   rw [<- List.append_assoc]
   exact (((List.sublist_append_left _ _).cons_cons _).cons_cons _).cons_cons _ |>.cons_cons _
 ·have:j=ks.length:=by omega
  subst this
  rw [List.take_length] at hg
  obtain ⟨va,vn,vc,hvk⟩:=hI.rowSlice 3 rfl
  have hv1:kvc.oneCell'=true:=by rw [hvk]; rfl
  refine aO hI 2 ag rfl rfl ?_
  refine aM hI 1 rfl ag rfl rfl ?_ fun w' hI=>?_
  ·intro u hu
   have hu':u∈([.int .i64 k,.int .i64 n,.string s,kvc]:List Value):=hu
   simp at hu'
   rcases hu' with rfl|rfl|rfl|rfl <;> first|rfl|exact hv1
  refine bA hI 1 ag rfl rfl ?_
  have hI:Inv w [] ([]++(a5 kvc ab 4 css::bw Ls.flatten)) S w':=hI.sub (List.sublist_append_right [_,_,_] _)
  obtain ⟨L,hT,hI⟩:=Inv.rowTree hI hg
  exact ⟨_,_,_,rfl,hI,Ext.refl _ _ _,rfl,_,L,rfl,rfl,TrT.iff.2 ⟨kvc,rfl,h1,h2,hs,hT⟩⟩
end

end Go.Proofs.YtnmnddpdikghhaaGreat

/- spec.l4Copy, spec.l14Copy: clauses and programs copied. -/
namespace Go.Proofs.YtnmnddpdikghhaaGreat
open Go Go.RowKit
section
attribute [local irreducible] Run CondV ai a4
theorem sg {c0:C} {S:ay} {cs:List Value} (h:RdC S cs c0) (hw:wC c0<=1048576):Tri Tryz.prog yY [.agg cs.toArray] [] S (Js S c0):=by
 intro w hI
 obtain ⟨hd,ks,rfl,h1,h2⟩:=h
 have h1':=h1
 obtain ⟨kv,rfl,g1,g2,g3,g4⟩:=RdT.iff.1 h1
 unfold wC at hw
 refine nO ?_
 unfold mW
 refine bN hI fun b1 w' hI=>?_
 refine a9 hI bM fun b2 w' hI=>?_
 refine bj bQ ?_
 refine cY hI 0 [.int .i64 c0.head.kind,.int .i64 c0.head.n,.string c0.head.name,kv] ag rfl rfl n3 ?_
 refine Run.call0 fp fu hI (gv _ S _ h1' (by omega)) fun v' I' S w'=>?_
 rintro ⟨rfl,cs1,N,rfl,rfl,hT1⟩ _ hI
 obtain ⟨kh,rfl,_⟩:=TrT.iff.1 hT1
 refine i3 ?_
 refine a9 hI bM fun b3 w' hI=>?_
 have hI:=hI.perm (M:=.blk b1 _::.blk b2 _::.blk b3 _::bw N) (((List.perm_append_comm (l₁:=[_])).cons _).cons _)
 refine aM hI 2 rfl aI rfl rfl ?_ fun w' hI=>?_
 ·intro u hu
  have hu':u∈([.int .i64 c0.head.kind,.int .i64 c0.head.n,.string c0.head.name,kh,.slice none 0 0]:List Value):=hu
  simp at hu'
  have o1:kh.oneCell'=true:=hT1.one kh (by simp)
  rcases hu' with rfl|rfl|rfl|rfl|rfl <;> first|rfl|exact o1
 have hI:=hI.rowNil ab 4
 have hI:=hI.perm (M:=.blk b1 (.cells #[.int .i64 c0.head.kind,.int .i64 c0.head.n,.string c0.head.name,kv,ks] ac)::.blk b2 (.cells #[.int .i64 0,.int .i64 0,.string ⟨#[]⟩,.slice none 0 0,.slice none 0 0] ac)::.blk b3 (.cells #[.int .i64 c0.head.kind,.int .i64 c0.head.n,.string c0.head.name,kh,.slice none 0 0] ac)::a5 (.slice none 0 0) ab 4 []::bw N) ((((List.perm_append_comm (l₁:=[_])).cons _).cons _).cons _)
 refine ⟨fun i w'=>∃ (j:Nat) (kvc:Value) (Ls:List bI) (css:List (List Value)),j<=c0.body.length/\i=.int .i64 j/\Grown 4 TrT Ls css (c0.body.take j)/\
   Inv w [] (.blk b1 (.cells #[.int .i64 c0.head.kind,.int .i64 c0.head.n,.string c0.head.name,kv,ks] ac)::.blk b2 (.cells #[.int .i64 0,.int .i64 0,.string ⟨#[]⟩,.slice none 0 0,.slice none 0 0] ac)::.blk b3 (.cells #[.int .i64 c0.head.kind,.int .i64 c0.head.n,.string c0.head.name,kh,kvc] ac)::a5 kvc ab 4 css::bw (N::Ls).flatten) S w',
  fun i _=>c0.body.length - (intOf i).toNat,⟨0,_,[],[],Nat.zero_le _,rfl,Grown.nil _ _,by simp only [List.flatten_cons,List.flatten_nil,List.append_nil]; exact hI⟩,?_⟩
 intro t4 _ _ _ _ _ _ _ _ _ _ _ _ _ _ _ _ _ _ w'
 rintro ⟨j,kvc,Ls,css,hj,rfl,hg,hI⟩
 refine ar hI 0 rfl bl aL rfl ?_
 refine bm h2 aG ?_
 refine cF ?_
 refine bF (fun hji=>?_) (fun hji=>?_)
 ·have hj':j<c0.body.length:=by omega
  have hjl:(c0.body.take j).length=j:=by simp; omega
  have hcl:=hg.hc
  have hm:=List.getElem_mem hj'
  have hwm:=gF hm
  obtain ⟨b,o,cap,c,E,fz,rfl,hS,hR⟩:=h2.at_ hj'
  refine ⟨fun D cB bV cJ dz dg df cC cz ef dD dV w_=>(D 0=true->dV=.pointer (some ⟨b3,4,none⟩))/\(D 1=true->dD=kvc)/\(D 2=true->ef=.pointer (some ⟨b1,4,none⟩))/\(D 3=true->cz=.slice (some ⟨b,o,none⟩) (c0.body).length cap)/\(D 4=true->cC=.int .i64 j)/\(D 5=true->df=.pointer (some ⟨b,o+j * 4,none⟩))/\(D 6=true->dg=.agg (bJ c (o+j * 4) 4).toArray)/\(D 7=true->True)/\(D 8=true->True)/\(D 9=true->True)/\(D 10=true->cB=.pointer (some ⟨b3,4,none⟩))/\(D 11=true->True)/\∃ M cs7 b8,(D 7=true->dz=.agg cs7.toArray/\TrT M cs7 (c0.body)[j])/\(D 8=true->cJ=.slice (some ⟨b8,0,none⟩) 1 1)/\(D 8=true->D 7=true)/\(D 9=true->D 8=true)/\(D 11=true->D 9=true)/\(D 11=true->D 1=true)/\Inv w [] (bi (.blk b1 (.cells #[.int .i64 c0.head.kind,.int .i64 c0.head.n,.string c0.head.name,kv,.slice (some ⟨b,o,none⟩) c0.body.length cap] ac)) (.blk b2 (.cells #[.int .i64 0,.int .i64 0,.string ⟨#[]⟩,.slice none 0 0,.slice none 0 0] ac)) (.blk b3 (.cells #[.int .i64 c0.head.kind,.int .i64 c0.head.n,.string c0.head.name,kh,kvc] ac)) (.blk b3 (.cells #[.int .i64 c0.head.kind,.int .i64 c0.head.n,.string c0.head.name,kh,bV] ac)) (a5 kvc ab 4 css) (a5 bV ab 4 (css++[cs7])) (bw (N::Ls).flatten) M (.blk b8 (.cells cs7.toArray ab)) (D 7) (D 8) (D 9) (D 11)) S w_,⟨af,af,af,af,af,af,af,af,af,af,af,af,⟨[],[],0,af,af,af,af,af,af,by simpa [bi,bw] using hI.draw⟩⟩,⟨?_,?_,?_,?_,?_,?_,?_,?_,?_,?_,?_,?_,trivial⟩,?_⟩
  ·intro D aS  cB bV cJ dz dg df cC cz ef dD dV w_
   rintro ⟨aA,az,aB,ax,aD,aC,aw,aJ,aN,aR,aq,au,⟨M,cs7,b8,e7,e8,k8,k9,k11,k1,hI⟩⟩
   refine bj bl ?_
   exact ⟨fun _=>rfl,az,aB,ax,aD,aC,aw,aJ,aN,aR,aq,au,⟨M,cs7,b8,e7,e8,k8,k9,k11,k1,hI⟩⟩
  ·intro D aS cA cB bV cJ dz dg df cC cz ef dD dV w_
   rintro ⟨aA,az,aB,ax,aD,aC,aw,aJ,aN,aR,aq,au,⟨M,cs7,b8,e7,e8,k8,k9,k11,k1,hI⟩⟩
   obtain rfl:=aA cA
   have f11:D 11=false:=Bool.eq_false_iff.2 fun h=>by rw [k1 h] at aS; cases aS
   refine bB (b:=b3) hI 2 (c:=(#[.int .i64 c0.head.kind,.int .i64 c0.head.n,.string c0.head.name,kh,kvc])) aL (by rw [f11]; rfl) rfl ?_
   have k1:=fun (_:ao D 1 11=true)=>(rfl:ao D 1 1=true)
   exact ⟨aA,fun _=>rfl,aB,ax,aD,aC,aw,aJ,aN,aR,aq,au,⟨M,cs7,b8,e7,e8,k8,k9,k11,k1,hI⟩⟩
  ·intro D aS  cB bV cJ dz dg df cC cz ef dD dV w_
   rintro ⟨aA,az,aB,ax,aD,aC,aw,aJ,aN,aR,aq,au,⟨M,cs7,b8,e7,e8,k8,k9,k11,k1,hI⟩⟩
   refine bj bl ?_
   exact ⟨aA,az,fun _=>rfl,ax,aD,aC,aw,aJ,aN,aR,aq,au,⟨M,cs7,b8,e7,e8,k8,k9,k11,k1,hI⟩⟩
  ·intro D aS cM cB bV cJ dz dg df cC cz ef dD dV w_
   rintro ⟨aA,az,aB,ax,aD,aC,aw,aJ,aN,aR,aq,au,⟨M,cs7,b8,e7,e8,k8,k9,k11,k1,hI⟩⟩
   obtain rfl:=aB cM
   refine bB hI 0 aL rfl rfl ?_
   exact ⟨aA,az,aB,fun _=>rfl,aD,aC,aw,aJ,aN,aR,aq,au,⟨M,cs7,b8,e7,e8,k8,k9,k11,k1,hI⟩⟩
  ·intro D aS  cB bV cJ dz dg df cC cz ef dD dV w_
   rintro ⟨aA,az,aB,ax,aD,aC,aw,aJ,aN,aR,aq,au,⟨M,cs7,b8,e7,e8,k8,k9,k11,k1,hI⟩⟩
   exact ⟨aA,az,aB,ax,fun _=>rfl,aC,aw,aJ,aN,aR,aq,au,⟨M,cs7,b8,e7,e8,k8,k9,k11,k1,hI⟩⟩
  ·intro D aS dh eD cB bV cJ dz dg df cC cz ef dD dV w_
   rintro ⟨aA,az,aB,ax,aD,aC,aw,aJ,aN,aR,aq,au,⟨M,cs7,b8,e7,e8,k8,k9,k11,k1,hI⟩⟩
   obtain rfl:=ax dh
   obtain rfl:=aD eD
   refine bq aG hj' ?_
   exact ⟨aA,az,aB,ax,aD,fun _=>rfl,aw,aJ,aN,aR,aq,au,⟨M,cs7,b8,e7,e8,k8,k9,k11,k1,hI⟩⟩
  ·intro D aS dT cB bV cJ dz dg df cC cz ef dD dV w_
   rintro ⟨aA,az,aB,ax,aD,aC,aw,aJ,aN,aR,aq,au,⟨M,cs7,b8,e7,e8,k8,k9,k11,k1,hI⟩⟩
   obtain rfl:=aC dT
   refine dF ag hR.length (fun j v hj=>by rw [hI.cellS hS]; exact bx rfl j v hj) ?_
   exact ⟨aA,az,aB,ax,aD,aC,fun _=>rfl,aJ,aN,aR,aq,au,⟨M,cs7,b8,e7,e8,k8,k9,k11,k1,hI⟩⟩
  ·intro D aS bW cB bV cJ dz dg df cC cz ef dD dV w_
   rintro ⟨aA,az,aB,ax,aD,aC,aw,aJ,aN,aR,aq,au,⟨M,cs7,b8,e7,e8,k8,k9,k11,k1,hI⟩⟩
   obtain rfl:=aw bW
   have f8:D 8=false:=Bool.eq_false_iff.2 fun h=>by rw [k8 h] at aS; cases aS
   have f9:D 9=false:=Bool.eq_false_iff.2 fun h=>by rw [k9 h] at f8; cases f8
   have f11:D 11=false:=Bool.eq_false_iff.2 fun h=>by rw [k11 h] at f9; cases f9
   rw [aS,f8,f9,f11] at hI
   refine Run.call0 fp fu hI (gv _ S _ hR (by omega)) fun v' I' S w_=>?_
   rintro ⟨rfl,cs7,M,rfl,rfl,hT⟩ _ hI
   have e7:ao D 7 7=true->Value.agg cs7.toArray=Value.agg cs7.toArray/\TrT M cs7 (c0.body)[j]:=fun _=>⟨rfl,hT⟩
   have k8:=fun (_:ao D 7 8=true)=>(rfl:ao D 7 7=true)
   have hI:Inv w [] (bi (.blk b1 (.cells #[.int .i64 c0.head.kind,.int .i64 c0.head.n,.string c0.head.name,kv,.slice (some ⟨b,o,none⟩) c0.body.length cap] ac)) (.blk b2 (.cells #[.int .i64 0,.int .i64 0,.string ⟨#[]⟩,.slice none 0 0,.slice none 0 0] ac)) (.blk b3 (.cells #[.int .i64 c0.head.kind,.int .i64 c0.head.n,.string c0.head.name,kh,kvc] ac)) (.blk b3 (.cells #[.int .i64 c0.head.kind,.int .i64 c0.head.n,.string c0.head.name,kh,bV] ac)) (a5 kvc ab 4 css) (a5 bV ab 4 (css++[cs7])) (bw (N::Ls).flatten) M (.blk b8 (.cells cs7.toArray ab)) true (D 8) (D 9) (D 11)) S w_:=by
    rw [f8,f9,f11]
    simpa [bi] using hI
   exact ⟨aA,az,aB,ax,aD,aC,aw,fun _=>by first|assumption|trivial,aN,aR,aq,au,⟨M,cs7,b8,e7,e8,k8,k9,k11,k1,hI⟩⟩
  ·intro D aS eo cB bV cJ dz dg df cC cz ef dD dV w_
   rintro ⟨aA,az,aB,ax,aD,aC,aw,aJ,aN,aR,aq,au,⟨M,cs7,b8,e7,e8,k8,k9,k11,k1,hI⟩⟩
   have K0:=aJ eo
   have f9:D 9=false:=Bool.eq_false_iff.2 fun h=>by rw [k9 h] at aS; cases aS
   have f11:D 11=false:=Bool.eq_false_iff.2 fun h=>by rw [k11 h] at f9; cases f9
   obtain ⟨q7,hT⟩:=e7 eo
   subst q7
   rw [eo,aS,f9,f11] at hI
   refine dJ hI bC (by simp [Value.cells,hT.length]) (by omega) (by omega) fun b8 w_ hI=>?_
   have e7:ao D 8 7=true->Value.agg cs7.toArray=Value.agg cs7.toArray/\TrT M cs7 (c0.body)[j]:=fun _=>⟨rfl,hT⟩
   have e8:=fun (_:ao D 8 8=true)=>(rfl:Value.slice (some ⟨b8,0,none⟩) 1 1=_)
   have k8:=fun (_:ao D 8 8=true)=>eo
   have k9:=fun (_:ao D 8 9=true)=>(rfl:ao D 8 8=true)
   have hI:Inv w [] (bi (.blk b1 (.cells #[.int .i64 c0.head.kind,.int .i64 c0.head.n,.string c0.head.name,kv,.slice (some ⟨b,o,none⟩) c0.body.length cap] ac)) (.blk b2 (.cells #[.int .i64 0,.int .i64 0,.string ⟨#[]⟩,.slice none 0 0,.slice none 0 0] ac)) (.blk b3 (.cells #[.int .i64 c0.head.kind,.int .i64 c0.head.n,.string c0.head.name,kh,kvc] ac)) (.blk b3 (.cells #[.int .i64 c0.head.kind,.int .i64 c0.head.n,.string c0.head.name,kh,bV] ac)) (a5 kvc ab 4 css) (a5 bV ab 4 (css++[cs7])) (bw (N::Ls).flatten) M (.blk b8 (.cells cs7.toArray ab)) (D 7) true (D 9) (D 11)) S w_:=by
    rw [eo,f9,f11]
    simpa [bi,Value.cells] using hI
   exact ⟨aA,az,aB,ax,aD,aC,aw,aJ,fun _=>by first|assumption|trivial,aR,aq,au,⟨M,cs7,b8,e7,e8,k8,k9,k11,k1,hI⟩⟩
  ·intro D aS dB fT oI cB bV cJ dz dg df cC cz ef dD dV w_
   rintro ⟨aA,az,aB,ax,aD,aC,aw,aJ,aN,aR,aq,au,⟨M,cs7,b8,e7,e8,k8,k9,k11,k1,hI⟩⟩
   obtain rfl:=az dB
   have E3:=aN fT
   have f11:D 11=false:=Bool.eq_false_iff.2 fun h=>by rw [k11 h] at aS; cases aS
   have q8:=e8 fT
   subst q8
   obtain ⟨_,hT⟩:=e7 oI
   rw [oI,fT,aS,f11] at hI
   have hblk:((bi (.blk b1 (.cells #[.int .i64 c0.head.kind,.int .i64 c0.head.n,.string c0.head.name,kv,.slice (some ⟨b,o,none⟩) c0.body.length cap] ac)) (.blk b2 (.cells #[.int .i64 0,.int .i64 0,.string ⟨#[]⟩,.slice none 0 0,.slice none 0 0] ac)) (.blk b3 (.cells #[.int .i64 c0.head.kind,.int .i64 c0.head.n,.string c0.head.name,kh,dD] ac)) (.blk b3 (.cells #[.int .i64 c0.head.kind,.int .i64 c0.head.n,.string c0.head.name,kh,bV] ac)) (a5 dD ab 4 css) (a5 bV ab 4 (css++[cs7])) (bw (N::Ls).flatten) M (.blk b8 (.cells cs7.toArray ab)) true true false false))[4+(bw (N::Ls).flatten).length+(bw M).length]?=some (.blk b8 (.cells cs7.toArray ab)):=by
    have e4:4+(bw (N::Ls).flatten).length+(bw M).length=((bw (N::Ls).flatten).length+(bw M).length)+1+1+1+1:=by omega
    rw [e4]
    simp only [bi,List.getElem?_cons_succ]
    rw [List.getElem?_append_right (by omega),Nat.add_sub_cancel_left,List.getElem?_append_right (Nat.le_refl _),Nat.sub_self]; rfl
   refine ev hI 3 cs7 bC (by omega) rfl (by rw [hT.length]) (m:=1) (o:=0) ?_ hT.one (by omega) (by omega) fun v' w_ hI=>?_
   ·intro i u hi
    rw [hI.cellL hblk,Nat.zero_add]
    simpa using hi
   rw [eN] at hI
   have k9:=fun (_:ao D 9 9=true)=>fT
   have k11:=fun (_:ao D 9 11=true)=>(rfl:ao D 9 9=true)
   have hI:Inv w [] (bi (.blk b1 (.cells #[.int .i64 c0.head.kind,.int .i64 c0.head.n,.string c0.head.name,kv,.slice (some ⟨b,o,none⟩) c0.body.length cap] ac)) (.blk b2 (.cells #[.int .i64 0,.int .i64 0,.string ⟨#[]⟩,.slice none 0 0,.slice none 0 0] ac)) (.blk b3 (.cells #[.int .i64 c0.head.kind,.int .i64 c0.head.n,.string c0.head.name,kh,dD] ac)) (.blk b3 (.cells #[.int .i64 c0.head.kind,.int .i64 c0.head.n,.string c0.head.name,kh,v'] ac)) (a5 dD ab 4 css) (a5 v' ab 4 (css++[cs7])) (bw (N::Ls).flatten) M (.blk b8 (.cells cs7.toArray ab)) (D 7) (D 8) true (D 11)) S w_:=by
    rw [oI,fT,f11]
    exact hI
   exact ⟨aA,az,aB,ax,aD,aC,aw,aJ,aN,fun _=>by first|assumption|trivial,aq,au,⟨M,cs7,b8,e7,e8,k8,k9,k11,k1,hI⟩⟩
  ·intro D aS cA iz qD xd uq AH zT EA I6 Jj cB bV cJ dz dg df cC cz ef dD dV w_
   rintro ⟨aA,az,aB,ax,aD,aC,aw,aJ,aN,aR,aq,au,⟨M,cs7,b8,e7,e8,k8,k9,k11,k1,hI⟩⟩
   refine bj bl ?_
   exact ⟨aA,az,aB,ax,aD,aC,aw,aJ,aN,aR,fun _=>rfl,au,⟨M,cs7,b8,e7,e8,k8,k9,k11,k1,hI⟩⟩
  ·intro D aS jP eQ Lo tP i8 uJ uE qF qJ zY jt gY mu cB bV cJ dz dg df cC cz ef dD dV w_
   rintro ⟨aA,az,aB,ax,aD,aC,aw,aJ,aN,aR,aq,au,⟨M,cs7,b8,e7,e8,k8,k9,k11,k1,hI⟩⟩
   obtain rfl:=aq jP
   have HC:=aR eQ
   rw [jt,gY,eQ,aS] at hI
   obtain ⟨va,vn,vc,hv9⟩:=Inv.rowSlice hI 3 rfl
   refine ei hI 2 (n:=1) (by rw [hv9]; rfl) (by decide +kernel) rfl (by simp) (by rw [hv9]; simp [Value.cells,Value.oneCell']) fun w_ hI=>?_
   have hcl9:Value.cells bV=#[bV]:=by rw [hv9]; rfl
   rw [hcl9] at hI
   have k1:=fun (_:ao D 11 11=true)=>i8
   have k11:=fun (_:ao D 11 11=true)=>eQ
   have hI:Inv w [] (bi (.blk b1 (.cells #[.int .i64 c0.head.kind,.int .i64 c0.head.n,.string c0.head.name,kv,.slice (some ⟨b,o,none⟩) c0.body.length cap] ac)) (.blk b2 (.cells #[.int .i64 0,.int .i64 0,.string ⟨#[]⟩,.slice none 0 0,.slice none 0 0] ac)) (.blk b3 (.cells #[.int .i64 c0.head.kind,.int .i64 c0.head.n,.string c0.head.name,kh,kvc] ac)) (.blk b3 (.cells #[.int .i64 c0.head.kind,.int .i64 c0.head.n,.string c0.head.name,kh,bV] ac)) (a5 kvc ab 4 css) (a5 bV ab 4 (css++[cs7])) (bw (N::Ls).flatten) M (.blk b8 (.cells cs7.toArray ab)) (D 7) (D 8) (D 9) true) S w_:=by
    rw [jt,gY,eQ]
    exact hI
   exact ⟨aA,az,aB,ax,aD,aC,aw,aJ,aN,aR,aq,fun _=>trivial,⟨M,cs7,b8,e7,e8,k8,k9,k11,k1,hI⟩⟩
  intro D gw fg jA g7 gc fj ft fL fX fM fP fY cB bV cJ dz dg df cC cz ef dD dV w_
  rintro ⟨aA,az,aB,ax,aD,aC,aw,aJ,aN,aR,aq,au,⟨M,cs7,b8,e7,e8,k8,k9,k11,k1,hI⟩⟩
  obtain rfl:=aq fg
  have HC:=aR jA
  have E3:=aN g7
  have K0:=aJ gc
  obtain rfl:=aw fj
  obtain rfl:=aC ft
  obtain rfl:=aD fL
  obtain rfl:=ax fX
  obtain rfl:=aB fM
  obtain rfl:=az fP
  obtain rfl:=aA fY
  clear aA az aB ax aD aC aw aJ aN aR aq au
  obtain ⟨_,hT⟩:=e7 gc
  rw [gc,g7,jA,gw] at hI
  refine bR (by omega) ?_
  refine ⟨⟨j+1,bV,Ls++[M],css++[cs7],hj',rfl,?_,?_⟩,by simp [intOf]; omega⟩
  ·rw [List.take_succ_eq_append_getElem hj']
   exact hg.snoc hT hT.length
  ·rw [<- List.cons_append,List.flatten_append,c8]
   simp only [List.flatten_cons,List.flatten_nil,List.append_nil]
   refine hI.sub ?_
   simp only [bi,List.flatten_cons]
   rw [<- List.append_assoc]
   exact (((List.sublist_append_left _ _).cons_cons _).cons_cons _).cons_cons _ |>.cons_cons _
 ·have:j=c0.body.length:=by omega
  subst this
  rw [List.take_length] at hg
  obtain ⟨va,vn,vc,hvk⟩:=hI.rowSlice 3 rfl
  have hv1:kvc.oneCell'=true:=by rw [hvk]; rfl
  have o1:kh.oneCell'=true:=hT1.one kh (by simp)
  refine aO hI 2 aI rfl rfl ?_
  refine aM hI 1 rfl aI rfl rfl ?_ fun w' hI=>?_
  ·intro u hu
   have hu':u∈([.int .i64 c0.head.kind,.int .i64 c0.head.n,.string c0.head.name,kh,kvc]:List Value):=hu
   simp at hu'
   rcases hu' with rfl|rfl|rfl|rfl|rfl <;> first|rfl|exact o1|exact hv1
  refine bA hI 1 aI rfl rfl ?_
  have hI:Inv w [] (a5 kvc ab 4 css::bw (N::Ls).flatten) S w':=hI.sub (List.sublist_append_right [_,_,_] _)
  rw [List.flatten_cons,c8] at hI
  have hI:=hI.perm (M:=bw N++(a5 kvc ab 4 css::bw Ls.flatten)) (List.perm_middle)
  obtain ⟨L,hT,hI⟩:=Inv.rowTree hI hg
  exact ⟨_,_,_,rfl,hI,Ext.refl _ _ _,rfl,_,N++L,rfl,by rw [c8],_,kvc,N,L,rfl,rfl,hT1,hT⟩
end

end Go.Proofs.YtnmnddpdikghhaaGreat

/- append of a whole slice that is only read to a row of the function's own. -/
namespace Go.Proofs.YtnmnddpdikghhaaGreat
open Go Go.RowKit
section
variable {P:Program} {w w0:World} {X:List Nat} {L:List Item} {S:ay} {K:Value->World->Prop}
theorem IJ (h:Inv w0 X L S w) {T ty e:TypeId} {k by_ n cp:Nat} {z v:Value} {cs:List Bool} {xs:List Value} {a:Option Addr} (i:Nat)
  (hT:oQ P T=some (e,k,by_,z)) (hi:L[i]?=some (.row v e k n xs)) (hk:K v w) :
  Run P (aE .append #[T,T] ty cs [v,.slice a 0 cp]) w K:=by
 obtain ⟨hu,inf,hi',hz,hs,hb,hzs⟩:=lE hT
 have hown:=h.its _ (List.mem_of_getElem? hi)
 simp only [Item.holds] at hown
 refine Run.of (v:=v) (w':=w) ?_ hk
 rcases hown.2 with ⟨rfl,rfl⟩|⟨g,cap,cur,rfl,_,hg,hnc,hcm,hcs,ht⟩
 ·cases a <;> simp [aE,builtin,Builtin.append_,run_underlying hu,sizeOf,typeInfo,hi',Builtin.lenOf,Builtin.firstCells,loadCells,loadCellsFrom]
 ·cases a <;> simp [aE,builtin,Builtin.append_,run_underlying hu,sizeOf,typeInfo,hi',storeCells,hnc,Builtin.lenOf,Builtin.firstCells,loadCells,loadCellsFrom]
end

end Go.Proofs.YtnmnddpdikghhaaGreat

/- Rows of clauses that are only read: grown, joined, copied. -/
namespace Go.Proofs.YtnmnddpdikghhaaGreat
open Go Go.RowKit

structure Rows {α:Type} (k:Nat) (R:List Value->α->Prop) (css:List (List Value)) (ys:List α):Prop where
 hc:css.length=ys.length
 hk:∀ cs∈css,cs.length=k
 hR:∀ i (h:i<ys.length) (h1:i<css.length),R css[i] ys[i]
theorem Rows.nil {α:Type} (k:Nat) (R:List Value->α->Prop):Rows k R [] ([]:List α):=⟨rfl,by simp,fun i h=>by simp at h⟩
theorem Rows.snoc {α:Type} {k:Nat} {R:List Value->α->Prop} {css:List (List Value)} {ys:List α} (h:Rows k R css ys) {cs:List Value} {y:α} (hR:R cs y) (hl:cs.length=k):Rows k R (css++[cs]) (ys++[y]):=by
 refine ⟨by simp [h.hc],fun c hc=>?_,fun i h0 h2=>?_⟩
 ·rcases List.mem_append.1 hc with hc|hc
  ·exact h.hk c hc
  ·simp at hc; subst hc; exact hl
 ·have e2:=h.hc
  by_cases hi:i<ys.length
  ·rw [List.getElem_append_left (by omega),List.getElem_append_left hi]
   exact h.hR i hi (by omega)
  ·have:i=ys.length:=by simp at h0; omega
   subst this
   rw [List.getElem_append_right (by omega),List.getElem_append_right (by omega)]
   simp only [e2,Nat.sub_self,List.getElem_cons_zero]
   exact hR
theorem Rows.append {α:Type} {k:Nat} {R:List Value->α->Prop} {css css':List (List Value)} {ys ys':List α} (h:Rows k R css ys) (h':Rows k R css' ys'):Rows k R (css++css') (ys++ys'):=by
 have e:=h.hc
 have e':=h'.hc
 refine ⟨by simp [e,e'],fun c hc=>?_,fun i h0 h2=>?_⟩
 ·rcases List.mem_append.1 hc with hc|hc
  ·exact h.hk c hc
  ·exact h'.hk c hc
 ·by_cases hi:i<ys.length
  ·rw [List.getElem_append_left (by omega),List.getElem_append_left hi]
   exact h.hR i hi (by omega)
  ·have hi':i - css.length<ys'.length:=by simp at h0; omega
   rw [List.getElem_append_right (by omega),List.getElem_append_right (by omega)]
   have:=h'.hR (i - css.length) hi' (by omega)
   simpa only [e] using this
theorem RowRd.rows {α:Type} {S:ay} {v:Value} {e:TypeId} {k:Nat} {R:List Value->α->Prop} {css:List (List Value)} {ys:List α} (hr:Rows k R css ys) (h:RowRd S v e k css.length css.flatten):RdSl S k R v ys:=by
 obtain ⟨hl,h⟩:=h
 have hcy:=hr.hc
 rcases h with ⟨rfl,h0⟩|⟨g,cap,cur,rfl,hS,hnc,hcm,hcs,ht⟩
 ·have:ys=[]:=List.eq_nil_of_length_eq_zero (by omega)
  subst this
  exact ⟨none,0,rfl,Nat.le_refl _,Nat.zero_le _,.inl rfl⟩
 ·refine ⟨_,cap,by rw [hcy],by omega,hcm,.inr ⟨g,0,cur,e,(0,0),rfl,hS,fun i hi=>?_⟩⟩
  have:=jX k css i hr.hk (by omega)
  have hik:i * k+k<=css.length * k:=by rw [<- Nat.succ_mul]; exact Nat.mul_le_mul_right k (by omega)
  rw [<- ht,List.drop_take,List.take_take,Nat.min_eq_left (by omega)] at this
  rw [bJ,Nat.zero_add,this]
  exact hr.hR i hi (by omega)
theorem vU {k:Nat}:∀ {css:List (List Value)},(∀ cs∈css,cs.length=k)->css.flatten.length=css.length * k
 | [],_=>by simp
 | c::css,h=>by
  have:=vU (css:=css) fun cs hc=>h cs (List.mem_cons_of_mem _ hc)
  rw [List.flatten_cons,List.length_append,h c (List.mem_cons_self ..),this,List.length_cons,Nat.succ_mul,Nat.add_comm]
section
variable {P:Program} {w w0:World} {X:List Nat} {L:List Item} {S:ay} {K:Value->World->Prop}
attribute [local irreducible] Run CondV ai a4
/- append(row, other row...) -/
end
end Go.Proofs.YtnmnddpdikghhaaGreat

/- Reslicing; a read slice joined to a row. -/
namespace Go.Proofs.YtnmnddpdikghhaaGreat
open Go Go.RowKit

theorem lZ {P:Program} {T e:TypeId} {k:Nat} (h:dY P T=some (e,k)):P.underlying T=some (.slice e)/\∃ i,P.info? e=some i/\i.size=k:=by
 unfold dY at h
 split at h
 ·rename_i e1 he
  rw [Option.map_eq_some_iff] at h
  obtain ⟨i,hi,hx⟩:=h
  simp only [Prod.mk.injEq] at hx
  obtain ⟨rfl,rfl⟩:=hx
  exact ⟨he,i,hi,rfl⟩
 ·cases h
section
variable {P:Program} {w:World} {K:Value->World->Prop}
attribute [local irreducible] Run
theorem jB {n y:Nat} {code:BoundsCode} (h:n<=y):(Instr.sliceBound (.int .i64 n) y code).run P w=.ok n w:=by
 have h1:(0:Int)<=(n:Int)/\(n:Int)<=(y:Int):=by omega
 simp [Instr.sliceBound,asIntOf,h]
theorem Lz {T ty e:TypeId} {k h len cap:Nat} {a:Option Addr} (hT:dY P T=some (e,k)) (hh:h<=cap) (hk:K (.slice (if cap=0 then a else a.map (·.add (0 * k))) h cap) w) :
  Run P (sOp (.slice T (.const (.slice a len cap)) none (some (.const (.int .i64 h))) none) ty) w K:=by
 obtain ⟨hu,i,hi,_⟩:=lZ hT
 refine Run.of ?_ hk
 simp [sOp,execOp,ev0,evE,Instr.sliceAt,Instr.slice,Instr.sliceBounds,run_underlying hu,jB hh,sizeOf,typeInfo,hi]
theorem JG {T ty e:TypeId} {k l len cap:Nat} {a:Option Addr} (hT:dY P T=some (e,k)) (hl:l<=len) (hk:K (.slice (if cap=l then a else a.map (·.add (l * k))) (len - l) (cap - l)) w) :
  Run P (sOp (.slice T (.const (.slice a len cap)) (some (.const (.int .i64 l))) none none) ty) w K:=by
 obtain ⟨hu,i,hi,hs⟩:=lZ hT
 refine Run.of ?_ hk
 simp [sOp,execOp,ev0,evE,Instr.sliceAt,Instr.slice,Instr.sliceBounds,run_underlying hu,jB hl,sizeOf,typeInfo,hi,hs]
end
theorem RdSl.to {α:Type} {S:ay} {k:Nat} {R:List Value->α->Prop} {a:Option Addr} {cap n h:Nat} {xs:List α} (hx:RdSl S k R (.slice a n cap) xs) (hh:h<=xs.length) :
  RdSl S k R (.slice (if cap=0 then a else a.map (·.add (0 * k))) h cap) (xs.take h):=by
 obtain ⟨a',cap',e,hl,hc,hx⟩:=hx
 simp only [Value.slice.injEq] at e
 obtain ⟨rfl,rfl,rfl⟩:=e
 have e1:(if cap=0 then a else a.map (·.add (0 * k)))=a:=by
  split
  ·rfl
  ·cases a <;> simp [Addr.add]
 rw [e1]
 have e2:h=(xs.take h).length:=by rw [List.length_take]; omega
 refine ⟨a,cap,by rw [<- e2],by omega,hc,?_⟩
 rcases hx with rfl|⟨b,o,c,E,fz,rfl,hS,hR⟩
 ·left; simp
 ·right
  refine ⟨b,o,c,E,fz,rfl,hS,fun i hi=>?_⟩
  rw [List.getElem_take]
  exact hR i (by omega)
theorem RdSl.from {α:Type} {S:ay} {k:Nat} {R:List Value->α->Prop} {a:Option Addr} {cap n l:Nat} {xs:List α} (hx:RdSl S k R (.slice a n cap) xs) (hl:l<=xs.length) :
  RdSl S k R (.slice (if cap=l then a else a.map (·.add (l * k))) (n - l) (cap - l)) (xs.drop l):=by
 obtain ⟨a',cap',e,hlc,hc,hx⟩:=hx
 simp only [Value.slice.injEq] at e
 obtain ⟨rfl,rfl,rfl⟩:=e
 refine ⟨_,cap - l,by rw [List.length_drop],by rw [List.length_drop]; omega,by omega,?_⟩
 by_cases hd:xs.drop l=[]
 ·exact .inl hd
 ·rcases hx with rfl|⟨b,o,c,E,fz,rfl,hS,hR⟩
  ·simp at hd
  ·right
   have hlt:l<xs.length:=by
    rcases Nat.lt_or_ge l xs.length with h|h
    ·exact h
    ·exact absurd (List.drop_eq_nil_of_le h) hd
   refine ⟨b,o+l * k,c,E,fz,?_,hS,fun i hi=>?_⟩
   ·rw [if_neg (by omega)]
    simp [Addr.add]
   ·rw [List.getElem_drop]
    have:=hR (l+i) (by simp at hi; omega)
    rwa [Nat.add_mul,<- Nat.add_assoc] at this
section
variable {P:Program} {w w0:World} {X:List Nat} {L:List Item} {S:ay} {K:Value->World->Prop}
attribute [local irreducible] Run CondV ai a4
theorem je {α:Type} {R:List Value->α->Prop} {xs:List α} {v:Value} {T ty e:TypeId} {k l:Nat} (hT:dY P T=some (e,k)) (hx:RdSl S k R v xs) (hl:l<=xs.length)
  (hk:∀ v',RdSl S k R v' (xs.drop l)->K v' w):Run P (sOp (.slice T (.const v) (some (.const (.int .i64 l))) none none) ty) w K:=by
 obtain ⟨a,cap,rfl,hl',hc,hx'⟩:=id hx
 exact JG hT hl (hk _ (hx.from hl))
end
theorem RdSl.exact {α:Type} {S:ay} {k:Nat} {R:List Value->α->Prop} {v:Value} {ys:List α} (h:RdSl S k R v ys) (hk:∀ cs y,R cs y->cs.length=k) :
  ∃ ds:List {cs:List Value // cs.length=k},RdSl S k (fun cs d=>cs=d.val) v ds/\Rows k R (ds.map (·.val)) ys:=by
 obtain ⟨a,cap,rfl,hl,hc,hx⟩:=h
 rcases hx with rfl|⟨b,o,c,E,fz,rfl,hS,hR⟩
 ·exact ⟨[],⟨a,cap,rfl,hl,hc,.inl rfl⟩,Rows.nil _ _⟩
 ·refine ⟨List.ofFn fun i:Fin ys.length=>⟨bJ c (o+i.val * k) k,hk _ _ (hR i.val i.isLt)⟩,⟨_,cap,by rw [List.length_ofFn],by rw [List.length_ofFn]; exact hl,hc,.inr ⟨b,o,c,E,fz,rfl,hS,fun i hi=>by simp⟩⟩,⟨by simp,fun cs hcs=>?_,fun i h1 h2=>?_⟩⟩
  ·obtain ⟨d,_,rfl⟩:=List.mem_map.1 hcs
   exact d.property
  ·simp only [List.getElem_map,List.getElem_ofFn]
   exact hR i h1
section
variable {P:Program} {w w0:World} {X:List Nat} {L:List Item} {S:ay} {K:Value->World->Prop}
attribute [local irreducible] Run CondV ai a4
theorem j3 {α:Type} {R:List Value->α->Prop} (h:Inv w0 X L S w) {T ty e:TypeId} {k by_:Nat} {z v u:Value} {cs:List Bool} {css:List (List Value)} {ys:List α} (i:Nat)
  (hT:oQ P T=some (e,k,by_,z)) (hk0:0<k) (hi:L[i]?=some (a5 v e k css)) (hr:RdSl S k R u ys) (hlen:∀ cs y,R cs y->cs.length=k) (h1:∀ cs y,R cs y->∀ c∈cs,c.oneCell'=true)
  (hfit:css.length+ys.length<=4294967296) (hby:by_<=32768) (hk:∀ v' w' css2,Rows k R css2 ys->Inv w0 X (L.set i (a5 v' e k (css++css2))) S w'->K v' w') :
  Run P (aE .append #[T,T] ty cs [v,u]) w K:=by
 obtain ⟨ds,hd,hR⟩:=hr.exact hlen
 have hdl:ds.length=ys.length:=by have:=hR.hc; simpa using this
 have hone:∀ d∈ds,∀ c∈d.val,c.oneCell'=true:=by
  intro d hd' c hc
  obtain ⟨j,hj,rfl⟩:=List.mem_iff_getElem.1 hd'
  have:=hR.hR j (by omega) (by simpa using hj)
  simp only [List.getElem_map] at this
  exact h1 _ _ this c hc
 obtain ⟨a,cap,rfl,hl',hc',hx⟩:=id hd
 have e1:∀ v',Item.row v' e k (css.length+ds.length) (css.flatten++(ds.map (·.val)).flatten)=a5 v' e k (css++ds.map (·.val)):=fun v'=>by simp [a5]
 rcases hx with rfl|⟨b,o,c,E,fz,rfl,hS,hel⟩
 ·refine IJ h i hT hi (hk v w [] (by simpa using hR) ?_)
  have:L.set i (a5 v e k (css++[]))=L:=by
   obtain ⟨hlt,e'⟩:=List.getElem?_eq_some_iff.1 hi
   rw [List.append_nil,<- e',List.set_getElem_self]
  rw [this]
  exact h
 ·have hfl:(ds.map (·.val)).flatten.length=ds.length * k:=by
   rw [vU (k:=k) (fun cs hcs=>by obtain ⟨d,_,rfl⟩:=List.mem_map.1 hcs; exact d.property),List.length_map]
  refine ev h i (ds.map (·.val)).flatten hT hk0 hi hfl ?_ ?_ (by omega) hby fun v' w' hI=>hk _ _ _ hR ?_
  ·intro j u hj
   have hj':j<ds.length * k:=by
    rw [<- hfl]
    exact (List.getElem?_eq_some_iff.1 hj).1
   have hq:j / k<ds.length:=(Nat.div_lt_iff_lt_mul hk0).2 hj'
   have hcell:=hel (j / k) hq
   have hflat:=jX k (ds.map (·.val)) (j / k) (fun cs hcs=>by obtain ⟨d,_,rfl⟩:=List.mem_map.1 hcs; exact d.property) (by simpa using hq)
   have hdm:=Nat.div_add_mod j k
   rw [Nat.mul_comm] at hdm
   rw [h.cellS hS]
   have e2:(ds.map (·.val)).flatten[j]?=(ds[j / k].val)[j % k]?:=by
    rw [List.getElem_map] at hflat
    rw [<- hflat,List.getElem?_take,if_pos (Nat.mod_lt _ hk0),List.getElem?_drop]
    congr 1
    omega
   rw [e2] at hj
   have:=bx hcell (j % k) u hj
   rw [<- this]
   congr 1
   omega
  ·intro u hu
   obtain ⟨cs,hcs,hu⟩:=List.mem_flatten.1 hu
   obtain ⟨d,hd',rfl⟩:=List.mem_map.1 hcs
   exact hone d hd' u hu
  ·rw [<- e1]
   exact hI
end

end Go.Proofs.YtnmnddpdikghhaaGreat

/- Plain functions: texts of terms and clauses, and how texts are read. Fuel runs out: none. -/
namespace Go.Proofs.YtnmnddpdikghhaaGreat
open Go Go.RowKit

abbrev Bs:=List UInt8
abbrev bs (s:ByteArray):Bs:=s.data.toList
abbrev st (l:Bs):ByteArray:=⟨l.toArray⟩
theorem Bf (l:Bs):bs (st l)=l:=by simp [bs]
theorem kI (l:Bs):(st l).size=l.length:=by simp [ByteArray.size]

def sgn (s:Bs) (i:Nat) (c:Nat):Bool:=match s[i]? with
 | some b=>decide (b.toNat=c)
 | none=>false
def btw (s:Bs) (i:Nat) (a b:Nat):Bool:=match s[i]? with
 | some x=>decide (a<=x.toNat) && decide (x.toNat<=b)
 | none=>false
def sml (s:Bs) (i:Nat):Bool:=btw s i 97 122
def dig (s:Bs) (i:Nat):Bool:=btw s i 48 57
def upp (s:Bs) (i:Nat):Bool:=btw s i 65 90
def cut (s:Bs) (a b:Nat):Bs:=(s.take b).drop a

def wm (s:Bs):Nat->Nat->Nat
 | 0,e=>e
 | n+1,e=>if sml s e=true then wm s n (e+1) else e
def iB (s:Bs) (i:Nat):List ByteArray->Bs->Bs
 | [],b=>b
 | x::l,b=>iB s i l (if decide (i+x.size<=s.length)=true/\cut s i (i+x.size)=bs x/\b.length<x.size then bs x else b)
def rL (s:Bs) (i:Nat):Option (Bs × Nat):=
 let e:=wm s (s.length - i) i
 if i+6<e then none else if i<e then some (cut s i e,e) else
  let b:=iB s i signs []
  if b=[] then none else some (b,i+b.length)
def pb (s:Bs):Nat->Nat->Nat
 | 0,e=>e
 | n+1,e=>if dig s e=true then pb s n (e+1) else e
def AU:Bs->Nat->Nat
 | [],n=>n
 | b::l,n=>AU l (n * 10+(b.toNat - 48))
def KD (s:Bs) (i:Nat):Option (T × Nat):=
 let from_:=if sgn s i 45=true then i+1 else i
 let e:=pb s 4 from_
 let d:=cut s from_ e
 let n:=AU d 0
 if d=[] ∨ (sgn d 0 48=true/\1<d.length) ∨ (i<from_/\n=0) ∨ 999<n then none
 else some (.mk 2 (if i<from_ then -(n:Int) else n) emptyB [],e)
def DY (name:Bs) (kids:List T):T:=.mk 3 0 (st name) kids
def nilT:T:=DY [91,93] []
def DX (a b:T):T:=DY [46] [a,b]
def iQ:List T->T->T
 | [],t=>t
 | a::l,t=>DX a (iQ l t)
def opF (s:Bs) (i:Nat):Option (Bs × Nat):=
 let from_:=if sgn s i 32=true then i+1 else i
 if s.length<=from_ then none else match rL s from_ with
  | none=>none
  | some (name,next)=>
   let word:=decide (name=[105,115]) || decide (name=[109,111,100])
   if cV (st name)=0 ∨ word≠decide (i<from_) ∨ (word=true/\sgn s next 32=false) then none
   else some (name,if word=true then next+1 else next)
mutual
def jd:Nat->Bs->Nat->Nat->Nat->Option (T × Nat)
 | 0,_,_,_,_=>none
 | f+1,s,i,d,0=>p9 f s i d
 | f+1,s,i,d,l+1=>match jd f s i d l with
  | none=>none
  | some (t,n)=>Fj f s n d l t
def Fj:Nat->Bs->Nat->Nat->Nat->T->Option (T × Nat)
 | 0,_,_,_,_,_=>none
 | f+1,s,i,d,l,t=>match opF s i with
  | none=>some (t,i)
  | some (name,after)=>if cV (st name)=((l+1:Nat):Int) then match jd f s after d l with
    | none=>none
    | some (r,e)=>if l=2 then some (DY name [t,r],e) else Fj f s e d l (DY name [t,r])
   else some (t,i)
def p9:Nat->Bs->Nat->Nat->Option (T × Nat)
 | 0,_,_,_=>none
 | f+1,s,i,d=>if d=0 ∨ s.length<=i then none else if sgn s i 40=true then match jd f s (i+1) d 3 with
    | none=>none
    | some (t,n)=>if sgn s n 41=true then some (t,n+1) else none
  else if sgn s i 91=true/\sgn s (i+1) 93=false then match ie f s (i+1) (d - 1) 93 124 [] with
    | none=>none
    | some (ts,n)=>if sgn s n 93=true then some (iQ ts nilT,n+1) else match jd f s (n+1) (d - 1) 3 with
     | none=>none
     | some (t,e)=>if sgn s e 93=true then some (iQ ts t,e+1) else none
  else if upp s i=true then some (.mk 1 ((s.getD i 0).toNat - 65) emptyB [],i+1)
  else if dig s i=true ∨ (sgn s i 45=true/\dig s (i+1)=true) then KD s i
  else match rL s i with
   | none=>none
   | some (name,n)=>if sgn s n 40=false then some (DY name [],n) else match ie f s (n+1) (d - 1) 41 41 [] with
    | none=>none
    | some (ts,e)=>some (DY name ts,e+1)
def ie:Nat->Bs->Nat->Nat->Nat->Nat->List T->Option (List T × Nat)
 | 0,_,_,_,_,_,_=>none
 | f+1,s,i,d,e,o,acc=>match jd f s i d 3 with
  | none=>none
  | some (t,n)=>if sgn s n e=true ∨ sgn s n o=true then some (acc++[t],n) else if sgn s n 44=true then ie f s (n+1) d e o (acc++[t]) else none
end

/- texts -/
def lH (t:T):Bool:=decide (t.kind=3) && (decide (t.kids.length=2) && decide (0<cV t.name))
def zj (t:T):Bool:=decide (t.kind=3) && (decide (t.name=st [46]) && decide (t.kids.length=2))
def JD (t:T):Bool:=decide (t.kind=3) && (decide (t.name=st [91,93]) && decide (t.kids.length=0))
def u5 (t:T):Bool:=decide (t.kind=3) && (decide (t.kids.length=0) && decide (0<cV t.name))
def CC (s:Bs):Bool:=sml s 0 || (dig s 0 || (upp s 0 || (sgn s 0 91 || sgn s 0 40)))
def io (n:Bs):Bs:=if n=[105,115] ∨ n=[109,111,100] then 32::(n++[32]) else n
def Ac:Nat->Nat->Bs->Option Bs
 | 0,_,_=>none
 | f+1,n,out=>if 9<n then Ac f (n / 10) (UInt8.ofNat (48+n % 10)::out) else some (UInt8.ofNat (48+n)::out)
def Lp (n:Int):Option Bs:=if n<0 then (Ac 20 (-n).toNat []).map fun l=>45::l else Ac 20 n.toNat []
def Kg (t:T):Option Bs:=if t.kind=1 then (if 0<=t.n/\t.n<=25 then some [UInt8.ofNat (65+t.n.toNat)] else none)
 else if t.kind=2 then (if -999<=t.n/\t.n<=999 then Lp t.n else none) else if t.kids.length=0 then some (bs t.name) else none
mutual
def B6:Nat->T->Option Bs
 | 0,_=>none
 | f+1,t=>if zj t=true then Bk f t [] else if lH t=true then match t.kids with
   | [a,b]=>match HV f a (if cV t.name=3 then 2 else cV t.name),BS f b (cV t.name - 1) with
    | some x,some y=>some (x++io (bs t.name)++y)
    | _,_=>none
   | _=>none
  else if t.kind=3/\0<t.kids.length then match mv f t.kids [] with
   | some x=>some (bs t.name++[40]++x++[41])
   | none=>none
  else Kg t
def Bk:Nat->T->List T->Option Bs
 | 0,_,_=>none
 | f+1,t,items=>if zj t=true then match t.kids with
   | [a,b]=>Bk f b (items++[a])
   | _=>none
  else match mv f items [] with
   | none=>none
   | some x=>if JD t=true then some ([91]++x++[93]) else match B6 f t with
    | none=>none
    | some y=>some ([91]++x++[124]++y++[93])
def mv:Nat->List T->Bs->Option Bs
 | 0,_,_=>none
 | _+1,[],out=>some out
 | f+1,t::l,out=>match B6 f t with
  | none=>none
  | some x=>mv f l (out++x++(if l=[] then [] else [44]))
def mX:Nat->T->Int->Option Bs
 | 0,_,_=>none
 | f+1,t,l=>match B6 f t with
  | none=>none
  | some x=>some (if lH t=true/\l<cV t.name then [40]++x++[41] else x)
def HV:Nat->T->Int->Option Bs
 | 0,_,_=>none
 | f+1,t,l=>if u5 t=true then match B6 f t with
   | none=>none
   | some x=>some ([40]++x++[41])
  else mX f t l
def BS:Nat->T->Int->Option Bs
 | 0,_,_=>none
 | f+1,t,l=>match mX f t l with
  | none=>none
  | some x=>if x=[] then none else some (if u5 t=true ∨ CC x=false then [40]++x++[41] else x)
end
def v3 (f:Nat):List T->Bool->Bs->Option Bs
 | [],_,out=>some out
 | t::l,first,out=>match B6 f t with
  | none=>none
  | some x=>v3 f l false (out++(if first=true then [58,45] else [44])++x)
def HK (f:Nat) (c:C):Option Bs:=match B6 f c.head with
 | none=>none
 | some x=>match v3 f c.body true x with
  | none=>none
  | some y=>some (y++[46])

/- clauses and programs -/
def lG (f:Nat):Nat->Bs->Nat->List T->Option (List T × Nat)
 | 0,_,_,_=>none
 | k+1,s,i,acc=>if 6<acc.length then none else match jd f s i 30 3 with
  | none=>none
  | some (t,n)=>if sgn s n 44=true then lG f k s (n+1) (acc++[t]) else some (acc++[t],n)
def IF (f:Nat) (s:Bs) (c:C) (n:Nat):Option C:=
 if n+1=s.length/\sgn s n 46=true/\bG c=true/\wC c<=200/\HK f c=some s then some c else none
def td (f:Nat) (s:Bs):Option C:=if 1000<s.length then none else match jd f s 0 30 3 with
 | none=>none
 | some (h,n)=>if sgn s n 58=true/\sgn s (n+1) 45=true then match lG f 8 s (n+2) [] with
   | none=>none
   | some (b,n2)=>IF f s ⟨h,b⟩ n2
  else IF f s ⟨h,[]⟩ n
def zS (s:Bs) (c:Nat):Nat->Nat->Nat->List Bs->List Bs
 | 0,i,from_,acc=>acc++[cut s from_ i]
 | n+1,i,from_,acc=>if sgn s i c=true then zS s c n (i+1) (i+1) (acc++[cut s from_ i]) else zS s c n (i+1) from_ acc
def Jo (s:Bs):List Bs:=zS s 10 s.length 0 0 []
def jF (f:Nat):List Bs->List C->Option (List C)
 | [],acc=>some acc
 | l::ls,acc=>match td f l with
  | none=>none
  | some c=>jF f ls (acc++[c])
def HP (f:Nat) (s:Bs):Option (List C):=
 let ls:=Jo s
 if 21<ls.length ∨ ls.getLast?≠some [] then none else jF f ls.dropLast []
def Jw (s:Bs):Bool:=match HP 60 s with
 | some p=>decide (0<p.length) && (decide (p.length<=8) && p.all fun c=>bG c && decide (wC c<=200))
 | none=>false
end Go.Proofs.YtnmnddpdikghhaaGreat

/- More rules: arithmetic, conversions, texts joined and cut. -/
namespace Go.Proofs.YtnmnddpdikghhaaGreat
open Go Go.RowKit
section
variable {P:Program} {w w0:World} {X:List Nat} {L:List Item} {S:ay} {K:Value->World->Prop}
theorem yE {T:TypeId} {cx cy:Bool} {k:IntKind} {a b:Int} (h:a<b) (hk:K (.bool true) w):Run P (av .lss T cx cy (.int k a) (.int k b)) w K:=by
 refine cF ?_
 rw [decide_eq_true h]
 exact hk
theorem eU {T:TypeId} {cx cy:Bool} {k:IntKind} {a b:Int} (h:¬ (a<b)) (hk:K (.bool false) w):Run P (av .lss T cx cy (.int k a) (.int k b)) w K:=by
 refine cF ?_
 rw [decide_eq_false h]
 exact hk
theorem Ci {T:TypeId} {cx cy:Bool} {k:IntKind} {a b:Int} (h:a<=b) (hk:K (.bool true) w):Run P (av .leq T cx cy (.int k a) (.int k b)) w K:=by
 refine gO ?_
 rw [decide_eq_true h]
 exact hk
theorem Jp {T:TypeId} {cx cy:Bool} {k:IntKind} {a b:Int} (h:¬ (a<=b)) (hk:K (.bool false) w):Run P (av .leq T cx cy (.int k a) (.int k b)) w K:=by
 refine gO ?_
 rw [decide_eq_false h]
 exact hk
theorem G6 {T:TypeId} {cx cy:Bool} {k:IntKind} {a b:Int} (h:b<a) (hk:K (.bool true) w):Run P (av .gtr T cx cy (.int k a) (.int k b)) w K:=by
 refine ff ?_
 rw [decide_eq_true h]
 exact hk
theorem jH {T:TypeId} {cx cy:Bool} {k:IntKind} {a b:Int} (h:¬ (b<a)) (hk:K (.bool false) w):Run P (av .gtr T cx cy (.int k a) (.int k b)) w K:=by
 refine ff ?_
 rw [decide_eq_false h]
 exact hk
theorem lJ {T:TypeId} {cx cy:Bool} {k:IntKind} {a b:Int} (h:b<=a) (hk:K (.bool true) w):Run P (av .geq T cx cy (.int k a) (.int k b)) w K:=by
 refine kT ?_
 rw [decide_eq_true h]
 exact hk
theorem uH {T:TypeId} {cx cy:Bool} {k:IntKind} {a b:Int} (h:¬ (b<=a)) (hk:K (.bool false) w):Run P (av .geq T cx cy (.int k a) (.int k b)) w K:=by
 refine kT ?_
 rw [decide_eq_false h]
 exact hk
theorem fZ {T:TypeId} {cx cy:Bool} {k:IntKind} {a b:Int} (h:a=b) (hk:K (.bool true) w):Run P (av .eql T cx cy (.int k a) (.int k b)) w K:=by
 refine bO ?_
 rw [decide_eq_true h]
 exact hk
theorem eK {T:TypeId} {cx cy:Bool} {k:IntKind} {a b:Int} (h:¬ (a=b)) (hk:K (.bool false) w):Run P (av .eql T cx cy (.int k a) (.int k b)) w K:=by
 refine bO ?_
 rw [decide_eq_false h]
 exact hk
theorem yw {T:TypeId} {cx cy:Bool} {a b:Int} (hr:-9223372036854775808<=a * b/\a * b<=9223372036854775807) (hk:K (.int .i64 (a * b)) w):Run P (av .mul T cx cy (.int .i64 a) (.int .i64 b)) w K:=
 Run.of (by simp [av,dC,binOp,Op.intArith,IntWalk.i64_in _ hr]) hk
theorem Lq {T:TypeId} {cx cy:Bool} {a b:Nat} (hb:0<b) (ha:a<=9223372036854775807) (hk:K (.int .i64 ((a / b:Nat):Int)) w):Run P (av .quo T cx cy (.int .i64 (a:Int)) (.int .i64 (b:Int))) w K:=by
 refine Run.of ?_ hk
 have h0:¬ ((b:Int)=0):=by omega
 have h1:IntKind.i64.wrap ((a:Int).tdiv b)=((a / b:Nat):Int):=by
  rw [IntWalk.i64_quo _ _ (by omega)]; rfl
 simp only [av,dC,binOp,Op.intDiv,Sem.run_bind,Result.andThen_ok,if_neg h0,Sem.run_pure]
 exact congrArg (fun v=>Result.ok (Next.value (.int .i64 v)) w) h1
theorem Ha {T:TypeId} {cx cy:Bool} {a b:Nat} (hb:0<b) (hk:K (.int .i64 ((a % b:Nat):Int)) w):Run P (av .rem T cx cy (.int .i64 (a:Int)) (.int .i64 (b:Int))) w K:=by
 refine Run.of ?_ hk
 have h1:(a:Int).tmod b=((a % b:Nat):Int):=by
  rw [IntWalk.rem_in _ _ (by omega)]; rfl
 have h0:¬ ((b:Int)=0):=by omega
 simp only [av,dC,binOp,Op.intDiv,Sem.run_bind,Result.andThen_ok,if_neg h0,Sem.run_pure]
 exact congrArg (fun v=>Result.ok (Next.value (.int .i64 v)) w) h1
theorem Lu {T:TypeId} {cx cy:Bool} {a b:Nat} (ha:a<4611686018427387904) (hb:b<4611686018427387904) (hk:K (.int .i64 ((a ^^^ b:Nat):Int)) w):Run P (av .xor T cx cy (.int .i64 (a:Int)) (.int .i64 (b:Int))) w K:=by
 refine Run.of ?_ hk
 have hx:a ^^^ b<2 ^ 62:=Nat.xor_lt_two_pow (by simpa using ha) (by simpa using hb)
 have e1:(BitVec.ofInt 64 (a:Int)).toNat=a:=by rw [BitVec.toNat_ofInt]; omega
 have e2:(BitVec.ofInt 64 (b:Int)).toNat=b:=by rw [BitVec.toNat_ofInt]; omega
 have h1:IntKind.i64.wrap ((BitVec.ofInt 64 (a:Int) ^^^ BitVec.ofInt 64 (b:Int)).toNat:Int)=((a ^^^ b:Nat):Int):=by
  rw [BitVec.toNat_xor,e1,e2]
  exact IntWalk.i64_in _ (by omega)
 simp only [av,dC,binOp,Op.intBits,Sem.run_bind,Result.andThen_ok,Sem.run_pure]
 exact congrArg (fun v=>Result.ok (Next.value (.int .i64 v)) w) h1
theorem Lt {T:TypeId} {cx cy:Bool} {k:IntKind} {a b c:Int} (hr:k.wrap (a+b)=c) (hk:K (.int k c) w):Run P (av .add T cx cy (.int k a) (.int k b)) w K:=
 Run.of (by simp [av,dC,binOp,Op.intArith,hr]) hk
theorem Kv {T:TypeId} {cx cy:Bool} {k:IntKind} {a b c:Int} (hr:k.wrap (a - b)=c) (hk:K (.int k c) w):Run P (av .sub T cx cy (.int k a) (.int k b)) w K:=
 Run.of (by simp [av,dC,binOp,Op.intArith,hr]) hk
theorem mR {src dst ty:TypeId} {k k':IntKind} {n m:Int} {d:TypeDesc} (hs:P.underlying src=some d) (hd:P.underlying dst=some (.int k')) (hr:k'.wrap n=m) (hk:K (.int k' m) w) :
  Run P (sOp (.convert src dst (.const (.int k n))) ty) w K:=by
 refine Run.of ?_ hk
 simp [sOp,execOp,ev0,evE,convert,run_underlying hs,run_underlying hd,Conv.intToInt,hr]
theorem Lc {T ty:TypeId} {n:Int} (hr:-9223372036854775808<=-n/\-n<=9223372036854775807) (hk:K (.int .i64 (-n)) w):Run P (sOp (.unOp .neg T (.const (.int .i64 n))) ty) w K:=
 Run.of (by simp [sOp,execOp,ev0,evE,Op.unary,Op.intArith,Int.zero_sub,IntWalk.i64_in _ hr]) hk
theorem LA (a b:Bs):st a++st b=st (a++b):=by
 apply ByteArray.ext
 simp [st]
theorem dP {T:TypeId} {cx cy:Bool} {a b:Bs} (hl:a.length+b.length<=9223372036854775807) (hk:K (.string (st (a++b))) w):Run P (av .add T cx cy (.string (st a)) (.string (st b))) w K:=by
 refine Run.of ?_ hk
 have h1:¬ (9223372036854775807<(((st a).size+(st b).size:Nat):Int)):=by rw [kI,kI]; omega
 have h2:IntKind.i64.max=9223372036854775807:=by decide
 simp only [av,binOp,Op.stringOp,Sem.run_bind,oG,Result.andThen_ok,gt_iff_lt,h2,if_neg h1,Sem.run_pure,LA]
theorem Lw (s:Bs) (a b:Nat):(st s).extract a b=st (cut s a b):=by
 apply ByteArray.ext
 apply Array.toList_inj.1
 simp [cut,ByteArray.data_extract,List.drop_take]
theorem x1 {T ty:TypeId} {s:Bs} {a b:Nat} (hu:P.underlying T=some .string) (hab:a<=b) (hb:b<=s.length) (hk:K (.string (st (cut s a b))) w) :
  Run P (sOp (.slice T (.const (.string (st s))) (some (.const (.int .i64 a))) (some (.const (.int .i64 b))) none) ty) w K:=by
 refine Run.of ?_ hk
 have hb':b<=(st s).size:=by rw [kI]; exact hb
 simp [sOp,execOp,ev0,evE,Instr.sliceAt,Instr.slice,Instr.sliceBounds,run_underlying hu,jB hab,jB hb',Lw]
/- a byte out of a text -/
theorem eH {T ty:TypeId} {s:Bs} {i:Nat} (hu:P.underlying T=some .string) (hi:i<s.length) (hk:K (.int .u8 s[i].toNat) w) :
  Run P (sOp (.index T (.const (.string (st s))) (.const (.int .i64 i))) ty) w K:=by
 have hi':i<(st s).size:=by rw [kI]; exact hi
 refine jO hu hi' ?_
 have:(st s)[i]=s[i]:=by simp [st,ByteArray.getElem_eq_getElem_data]
 rw [this]
 exact hk
theorem fE {T ty:TypeId} {cs:List Bool} {s:Bs} (hu:P.underlying T=some .string) (hk:K (.int .i64 s.length) w):Run P (aE .len #[T] ty cs [.string (st s)]) w K:=by
 refine ij hu ?_
 rw [kI]
 exact hk
theorem xN {T:TypeId} {cx cy:Bool} {a b:Bs} (hk:K (.bool (decide (a=b))) w):Run P (av .eql T cx cy (.string (st a)) (.string (st b))) w K:=by
 refine cK ?_
 have:decide (st a=st b)=decide (a=b):=by
  rw [decide_eq_decide]
  exact ⟨fun h=>by rw [<- Bf a,h,Bf],fun h=>by rw [h]⟩
 rw [this]
 exact hk
theorem H4 {T:TypeId} {cx cy:Bool} {a b:Bs} (hk:K (.bool (!decide (a=b))) w):Run P (av .neq T cx cy (.string (st a)) (.string (st b))) w K:=by
 refine Cl ?_
 have:decide (st a=st b)=decide (a=b):=by
  rw [decide_eq_decide]
  exact ⟨fun h=>by rw [<- Bf a,h,Bf],fun h=>by rw [h]⟩
 rw [this]
 exact hk
/- string([]byte{x}) -/
theorem xQ (h:Inv w0 X L S w) {T T' D ty e:TypeId} {by_:Nat} {z:Value} {n:Nat} (hT:oQ P T=some (e,1,by_,z)) (he:P.underlying T'=some (.slice e)) (hb:P.underlying e=some (.int .u8)) (hD:P.underlying D=some .string)
  (hk:∀ w',Inv w0 X L S w'->K (.string (st [UInt8.ofNat n])) w') :
  Run P (aQ T 1 [(0,.int .u8 (n:Int))]) w fun u w'=>Run P (sOp (.convert T' D (.const u)) ty) w' K:=by
 refine dJ h hT rfl (by omega) (by omega) fun b w' hI=>?_
 have hi:(L++[Item.blk b (.cells (Value.int .u8 (n:Int)).cells e)])[L.length]?=some (.blk b (.cells (Value.int .u8 (n:Int)).cells e)):=by
  rw [List.getElem?_append_right (Nat.le_refl _),Nat.sub_self]; rfl
 have hc:w'.cell? ⟨b,0,none⟩=some (.int .u8 (n:Int)):=by rw [hI.cellL hi]; rfl
 have hl:=run_loadCells_list (P:=P) (w:=w') ⟨b,0,none⟩ [.int .u8 (n:Int)] (fun j v hj=>by
  match j with
  | 0=>simp only [List.getElem?_cons_zero,Option.some.injEq] at hj; subst hj; rw [lT]; exact hc
  | j+1=>simp at hj)
 simp only [List.length_cons,List.length_nil] at hl
 refine Run.of (w':=w') ?_ (hk _ (hI.sub (List.sublist_append_left _ _)))
 simp [sOp,execOp,ev0,evE,convert,run_underlying he,run_underlying hb,run_underlying hD,Conv.bytesToString,hl,st]
 rfl
end
end Go.Proofs.YtnmnddpdikghhaaGreat
