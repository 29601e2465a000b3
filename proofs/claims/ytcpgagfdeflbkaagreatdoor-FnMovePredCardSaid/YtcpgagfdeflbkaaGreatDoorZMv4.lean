/- impl.ownProgram; spec's copies. -/
import Derived.Test.YtcpgagfdeflbkaaGreatDoorZMv3
import Derived.Test.YtcpgagfdeflbkaaGreatDoorZMv2
namespace Go.Proofs.YtcpgagfdeflbkaaGreatDoor
section
open Go Go.RowKit
theorem RdC.one {S:ad} {cs:List Value} {c:C} (h:RdC S cs c):∀ u∈cs,u.oneCell'=true:=by
 obtain ⟨hd,ks,rfl,h1,a,cap,rfl,_⟩:=h
 intro u hu
 rcases List.mem_append.1 hu with hu|hu
 ·exact h1.one u hu
 ·simp at hu; subst hu; rfl
section
attribute [local irreducible] Run CondV ao aI
theorem uo {p:List C} {S:ad} {v:Value} (h:RdSl S 5 (RdC S) v p) (hw:p.length+wP p<=1048576):Tri Tryz.prog yK [v] [] S (EZ 5 TrC S p):=by
 intro w hI
 refine l0.2 ?_
 dsimp only[l0,aC]
 refine aD h aY ?_
 refine ⟨fun i t w'=>∃ (k:Nat) (Ls:List aN) (css:List (List Value)),k<=p.length/\i=.int .i64 k/\Grown 5 TrC Ls css (p.take k)/\Inv w [] (aB t af 5 css::aZ Ls.flatten) S w',
  fun i _ _=>p.length - (intOf i).toNat,⟨0,[],[],Nat.zero_le _,rfl,Grown.nil _ _,hI.rowNil af 5⟩,?_⟩
 intro t8 _ t3 _ _ _ _ _ _ _ _ _ w'
 rintro ⟨k,Ls,css,hk,rfl,hg,hI⟩
 refine bC ?_
 refine aH (fun hki=>?_) (fun hki=>?_)
 ·have hk':k<p.length:=by omega
  have htl:(p.take k).length=k:=by simp; omega
  have hcl:=hg.hc
  refine bM hI h aY aO hk' (fun _ _=>RdC.length) fun cs hcs=>?_
  have hm:=List.getElem_mem hk'
  have hwm:=Dd hm
  have hlc:=hcs.length
  refine aL hI cP fun b6 w' hI=>?_
  have hI:=hI.perm (M:=.blk b6 _::(aB t3 af 5 css::aZ Ls.flatten)) (List.perm_append_comm (l₁:=[_]))
  refine au hI 0 rfl aO (by simpa using hlc) rfl (by simpa using hcs.one) fun w' hI=>?_
  refine aw hI 0 aO rfl (by simpa using hlc) ?_
  have hI:Inv w [] (aB t3 af 5 css::aZ Ls.flatten) S w':=hI.sub (List.sublist_cons_self _ _)
  refine Run.call0 yA ye hI (wA hcs (by omega)) fun v' I' S' w'=>?_
  rintro ⟨rfl,cs',L,rfl,rfl,hT⟩ _ hI
  refine bP hI 0 cs' bD (by omega) (by omega) rfl hT.length hT.one (by omega) (by omega) fun v' w' hI=>?_
  refine bi (by omega) ?_
  refine ⟨⟨k+1,Ls++[L],css++[cs'],hk',rfl,?_,?_⟩,by simp [intOf]; omega⟩
  ·rw [List.take_succ_eq_append_getElem hk']
   exact hg.snoc hT hT.length
  ·simp only [List.flatten_append,List.flatten_cons,List.flatten_nil,List.append_nil,cL]
   exact hI
 ·have:k=p.length:=by omega
  subst this
  rw [List.take_length] at hg
  obtain ⟨L,hT,hI⟩:=Inv.rowTree (A:=[]) hI hg
  exact ⟨_,_,_,rfl,hI,Ext.refl _ _ _,rfl,_,rfl,hT⟩

theorem Inv.rowSlice {w0 w:World} {X:List Nat} {L:List Item} {S:ad} {v:Value} {e:TypeId} {k n:Nat} {xs:List Value} (h:Inv w0 X L S w) (i:Nat) (hi:L[i]?=some (.row v e k n xs)):∃ a m c,v=.slice a m c:=by
 have hm:w.ownsRow 0 e k v n xs:=h.its (.row v e k n xs) (List.mem_of_getElem? hi)
 rcases hm.2 with ⟨rfl,_⟩|⟨g,cap,cur,rfl,_⟩
 ·exact ⟨_,_,_,rfl⟩
 ·exact ⟨_,_,_,rfl⟩
def aU (B1 B2 B3 B3' r r':Item) (rest:List Item) (M:aN) (B27:Item) (d7 d8 d9 d11:Bool):List Item:=
 B1::B2::(match d11 with|true=>B3'|false=>B3)::(match d9 with|true=>r'|false=>r)::(rest++((match d7 with|true=>aZ M|false=>[])++(match d8 with|true=>[B27]|false=>[])))

theorem eO:∀ (t:T) (S:ad) (cs:List Value),RdT S cs t->wT t<=1048576->Tri Tryz.prog qj [.agg cs.toArray] [] S (Bk S t):=by
 refine T.ind fun k n s ks ih S cs h hw=>?_
 intro w hI
 obtain ⟨kv,rfl,h1,h2,hs,hks⟩:=RdT.iff.1 h
 simp only [T.name,T.kids,T.kind,T.n] at h1 h2 hs hks ⊢
 simp only [wT] at hw
 refine jp.2 ?_
 dsimp only[jp,aC]
 refine bl hI fun b1 w' hI=>?_
 refine aL hI aW fun b2 w' hI=>?_
 refine ae hI 0 rfl aP aF rfl ?_
 refine ae hI 0 rfl bb aF rfl ?_
 refine ae hI 0 rfl aQ aK rfl ?_
 refine oz ?_
 refine aL hI aW fun b3 w' hI=>?_
 refine au hI 2 rfl ac rfl rfl (by simp [Value.oneCell']) fun w' hI=>?_
 have hI:=hI.rowNil ab 4
 refine ⟨fun i w'=>∃ (j:Nat) (kvc:Value) (Ls:List aN) (css:List (List Value)),j<=ks.length/\i=.int .i64 j/\Grown 4 TrT Ls css (ks.take j)/\
   Inv w [] (.blk b1 (.cells #[.int .i64 k,.int .i64 n,.string s,kv] ab)::.blk b2 (.cells #[.int .i64 0,.int .i64 0,.string ⟨#[]⟩,.slice none 0 0] ab)::.blk b3 (.cells #[.int .i64 k,.int .i64 n,.string s,kvc] ab)::aB kvc ab 4 css::aZ Ls.flatten) S w',
  fun i _=>ks.length - (intOf i).toNat,⟨0,_,[],[],Nat.zero_le _,rfl,Grown.nil _ _,hI⟩,?_⟩
 intro t4 _ _ _ _ _ _ _ _ _ _ _ _ _ _ _ _ _ _ w'
 rintro ⟨j,kvc,Ls,css,hj,rfl,hg,hI⟩
 refine ae hI 0 rfl ar aj rfl ?_
 refine aD hks ag ?_
 refine bC ?_
 refine aH (fun hji=>?_) (fun hji=>?_)
 ·have hj':j<ks.length:=by omega
  have hjl:(ks.take j).length=j:=by simp; omega
  have hcl:=hg.hc
  have hm:=List.getElem_mem hj'
  have hwm:=gO hm
  obtain ⟨b,o,cap,c,E,fz,rfl,hS,hR⟩:=hks.at_ hj'
  refine ⟨fun D wR iC vG mu eH mw s3 rD pe mQ od w_=>Fx D 0 [od=.pointer (some ⟨b3,3,none⟩),mQ=kvc,pe=.pointer (some ⟨b1,3,none⟩),rD=.slice (some ⟨b,o,none⟩) (ks).length cap,s3=.int .i64 j,mw=.pointer (some ⟨b,o+j * 4,none⟩),eH=.agg (aV c (o+j * 4) 4).toArray,True,True,True,wR=.pointer (some ⟨b3,3,none⟩),True]/\∃ M cs7 b8,(D 7=true->mu=.agg cs7.toArray/\TrT M cs7 (ks)[j])/\(D 8=true->vG=.slice (some ⟨b8,0,none⟩) 1 1)/\(D 8=true->D 7=true)/\(D 9=true->D 8=true)/\(D 11=true->D 9=true)/\(D 11=true->D 1=true)/\Inv w [] (aU (.blk b1 (.cells #[.int .i64 k,.int .i64 n,.string s,.slice (some ⟨b,o,none⟩) ks.length cap] ab)) (.blk b2 (.cells #[.int .i64 0,.int .i64 0,.string ⟨#[]⟩,.slice none 0 0] ab)) (.blk b3 (.cells #[.int .i64 k,.int .i64 n,.string s,kvc] ab)) (.blk b3 (.cells #[.int .i64 k,.int .i64 n,.string s,iC] ab)) (aB kvc ab 4 css) (aB iC ab 4 (css++[cs7])) (aZ Ls.flatten) M (.blk b8 (.cells cs7.toArray ab)) (D 7) (D 8) (D 9) (D 11)) S w_,⟨Fx.nil _ _,⟨[],[],0,aM,aM,aM,aM,aM,aM,by simpa [aU,aZ] using hI.draw⟩⟩,⟨?_,?_,?_,?_,?_,?_,?_,?_,?_,?_,?_,?_,trivial⟩,?_⟩
  all_goals (intro D bv; intros; rename_i wR iC vG mu eH mw s3 rD pe mQ od w_ hA_; have hF_:=hA_.1; obtain ⟨⟨ci,cd,cj,cc,cm,cr,bO,cR,dt,eP,cI,db,_⟩,⟨M,cs7,b8,e7,e8,k8,k9,k11,k1,hI⟩⟩:=hA_)
  ·refine aA ar ?_
   exact ⟨hF_.set 0 rfl,⟨M,cs7,b8,e7,e8,k8,k9,k11,k1,hI⟩⟩
  ·obtain rfl:=ci ‹_›
   have f11:D 11=false:=Bool.eq_false_iff.2 fun h=>by rw [k1 h] at bv; cases bv
   refine aT (b:=b3) hI 2 (c:=(#[.int .i64 k,.int .i64 n,.string s,kvc])) aj (by rw [f11]; rfl) rfl ?_
   have k1:=fun (_:az D 1 11=true)=>(rfl:az D 1 1=true)
   exact ⟨hF_.set 1 rfl,⟨M,cs7,b8,e7,e8,k8,k9,k11,k1,hI⟩⟩
  ·refine aA ar ?_
   exact ⟨hF_.set 2 rfl,⟨M,cs7,b8,e7,e8,k8,k9,k11,k1,hI⟩⟩
  ·obtain rfl:=cj ‹_›
   refine aT hI 0 aj rfl rfl ?_
   exact ⟨hF_.set 3 rfl,⟨M,cs7,b8,e7,e8,k8,k9,k11,k1,hI⟩⟩
  ·exact ⟨hF_.set 4 rfl,⟨M,cs7,b8,e7,e8,k8,k9,k11,k1,hI⟩⟩
  ·obtain rfl:=cc ‹_›
   obtain rfl:=cm ‹_›
   refine aE ag hj' ?_
   exact ⟨hF_.set 5 rfl,⟨M,cs7,b8,e7,e8,k8,k9,k11,k1,hI⟩⟩
  ·obtain rfl:=cr ‹_›
   refine bK ac hR.length (fun j v hj=>by rw [hI.cellS hS]; exact aJ rfl j v hj) ?_
   exact ⟨hF_.set 6 rfl,⟨M,cs7,b8,e7,e8,k8,k9,k11,k1,hI⟩⟩
  ·obtain rfl:=bO ‹_›
   have f8:D 8=false:=Bool.eq_false_iff.2 fun h=>by rw [k8 h] at bv; cases bv
   have f9:D 9=false:=Bool.eq_false_iff.2 fun h=>by rw [k9 h] at f8; cases f8
   have f11:D 11=false:=Bool.eq_false_iff.2 fun h=>by rw [k11 h] at f9; cases f9
   rw [bv,f8,f9,f11] at hI
   refine Run.call0 dO dR hI (ih _ (List.getElem_mem hj') S _ hR (by omega)) fun v' I' S w_=>?_
   rintro ⟨rfl,cs7,M,rfl,rfl,hT⟩ _ hI
   have e7:az D 7 7=true->Value.agg cs7.toArray=Value.agg cs7.toArray/\TrT M cs7 (ks)[j]:=fun _=>⟨rfl,hT⟩
   have k8:=fun (_:az D 7 8=true)=>(rfl:az D 7 7=true)
   have hI:Inv w [] (aU (.blk b1 (.cells #[.int .i64 k,.int .i64 n,.string s,.slice (some ⟨b,o,none⟩) ks.length cap] ab)) (.blk b2 (.cells #[.int .i64 0,.int .i64 0,.string ⟨#[]⟩,.slice none 0 0] ab)) (.blk b3 (.cells #[.int .i64 k,.int .i64 n,.string s,kvc] ab)) (.blk b3 (.cells #[.int .i64 k,.int .i64 n,.string s,iC] ab)) (aB kvc ab 4 css) (aB iC ab 4 (css++[cs7])) (aZ Ls.flatten) M (.blk b8 (.cells cs7.toArray ab)) true (D 8) (D 9) (D 11)) S w_:=by
    rw [f8,f9,f11]
    simpa [aU] using hI
   exact ⟨hF_.set 7 (by first|assumption|trivial),⟨M,cs7,b8,e7,e8,k8,k9,k11,k1,hI⟩⟩
  ·have Ly:=cR ‹_›
   have f9:D 9=false:=Bool.eq_false_iff.2 fun h=>by rw [k9 h] at bv; cases bv
   have f11:D 11=false:=Bool.eq_false_iff.2 fun h=>by rw [k11 h] at f9; cases f9
   obtain ⟨q7,hT⟩:=e7 ‹D 7=true›
   subst q7
   rw [‹D 7=true›,bv,f9,f11] at hI
   refine du hI bo (by simp [Value.cells,hT.length]) (by omega) (by omega) fun b8 w_ hI=>?_
   have e7:az D 8 7=true->Value.agg cs7.toArray=Value.agg cs7.toArray/\TrT M cs7 (ks)[j]:=fun _=>⟨rfl,hT⟩
   have e8:=fun (_:az D 8 8=true)=>(rfl:Value.slice (some ⟨b8,0,none⟩) 1 1=_)
   have k8:=fun (_:az D 8 8=true)=>‹D 7=true›
   have k9:=fun (_:az D 8 9=true)=>(rfl:az D 8 8=true)
   have hI:Inv w [] (aU (.blk b1 (.cells #[.int .i64 k,.int .i64 n,.string s,.slice (some ⟨b,o,none⟩) ks.length cap] ab)) (.blk b2 (.cells #[.int .i64 0,.int .i64 0,.string ⟨#[]⟩,.slice none 0 0] ab)) (.blk b3 (.cells #[.int .i64 k,.int .i64 n,.string s,kvc] ab)) (.blk b3 (.cells #[.int .i64 k,.int .i64 n,.string s,iC] ab)) (aB kvc ab 4 css) (aB iC ab 4 (css++[cs7])) (aZ Ls.flatten) M (.blk b8 (.cells cs7.toArray ab)) (D 7) true (D 9) (D 11)) S w_:=by
    rw [‹D 7=true›,f9,f11]
    simpa [aU,Value.cells] using hI
   exact ⟨hF_.set 8 (by first|assumption|trivial),⟨M,cs7,b8,e7,e8,k8,k9,k11,k1,hI⟩⟩
  ·obtain rfl:=cd ‹_›
   have Ju:=dt ‹_›
   have f11:D 11=false:=Bool.eq_false_iff.2 fun h=>by rw [k11 h] at bv; cases bv
   have q8:=e8 ‹D 8=true›
   subst q8
   obtain ⟨_,hT⟩:=e7 ‹D 7=true›
   rw [‹D 7=true›,‹D 8=true›,bv,f11] at hI
   have hblk:((aU (.blk b1 (.cells #[.int .i64 k,.int .i64 n,.string s,.slice (some ⟨b,o,none⟩) ks.length cap] ab)) (.blk b2 (.cells #[.int .i64 0,.int .i64 0,.string ⟨#[]⟩,.slice none 0 0] ab)) (.blk b3 (.cells #[.int .i64 k,.int .i64 n,.string s,mQ] ab)) (.blk b3 (.cells #[.int .i64 k,.int .i64 n,.string s,iC] ab)) (aB mQ ab 4 css) (aB iC ab 4 (css++[cs7])) (aZ Ls.flatten) M (.blk b8 (.cells cs7.toArray ab)) true true false false))[4+(aZ Ls.flatten).length+(aZ M).length]?=some (.blk b8 (.cells cs7.toArray ab)):=by
    have e4:4+(aZ Ls.flatten).length+(aZ M).length=((aZ Ls.flatten).length+(aZ M).length)+1+1+1+1:=by omega
    rw [e4]
    simp only [aU,List.getElem?_cons_succ]
    rw [List.getElem?_append_right (by omega),Nat.add_sub_cancel_left,List.getElem?_append_right (Nat.le_refl _),Nat.sub_self]; rfl
   refine cN hI 3 cs7 bo (by omega) rfl (by rw [hT.length]) (m:=1) (o:=0) ?_ hT.one (by omega) (by omega) fun v' w_ hI=>?_
   ·intro i u hi
    rw [hI.cellL hblk,Nat.zero_add]
    simpa using hi
   rw [dJ] at hI
   have k9:=fun (_:az D 9 9=true)=>‹D 8=true›
   have k11:=fun (_:az D 9 11=true)=>(rfl:az D 9 9=true)
   have hI:Inv w [] (aU (.blk b1 (.cells #[.int .i64 k,.int .i64 n,.string s,.slice (some ⟨b,o,none⟩) ks.length cap] ab)) (.blk b2 (.cells #[.int .i64 0,.int .i64 0,.string ⟨#[]⟩,.slice none 0 0] ab)) (.blk b3 (.cells #[.int .i64 k,.int .i64 n,.string s,mQ] ab)) (.blk b3 (.cells #[.int .i64 k,.int .i64 n,.string s,v'] ab)) (aB mQ ab 4 css) (aB v' ab 4 (css++[cs7])) (aZ Ls.flatten) M (.blk b8 (.cells cs7.toArray ab)) (D 7) (D 8) true (D 11)) S w_:=by
    rw [‹D 7=true›,‹D 8=true›,f11]
    exact hI
   exact ⟨hF_.set 9 (by first|assumption|trivial),⟨M,cs7,b8,e7,e8,k8,k9,k11,k1,hI⟩⟩
  ·refine aA ar ?_
   exact ⟨hF_.set 10 rfl,⟨M,cs7,b8,e7,e8,k8,k9,k11,k1,hI⟩⟩
  ·obtain rfl:=cI ‹_›
   have LA:=eP ‹_›
   rw [‹D 7=true›,‹D 8=true›,‹D 9=true›,bv] at hI
   obtain ⟨va,vn,vc,hv9⟩:=Inv.rowSlice hI 3 rfl
   refine cB hI 2 (n:=1) (by rw [hv9]; rfl) (by decide +kernel) rfl (by simp) (by rw [hv9]; simp [Value.cells,Value.oneCell']) fun w_ hI=>?_
   have hcl9:Value.cells iC=#[iC]:=by rw [hv9]; rfl
   rw [hcl9] at hI
   have k1:=fun (_:az D 11 11=true)=>‹D 1=true›
   have k11:=fun (_:az D 11 11=true)=>‹D 9=true›
   have hI:Inv w [] (aU (.blk b1 (.cells #[.int .i64 k,.int .i64 n,.string s,.slice (some ⟨b,o,none⟩) ks.length cap] ab)) (.blk b2 (.cells #[.int .i64 0,.int .i64 0,.string ⟨#[]⟩,.slice none 0 0] ab)) (.blk b3 (.cells #[.int .i64 k,.int .i64 n,.string s,kvc] ab)) (.blk b3 (.cells #[.int .i64 k,.int .i64 n,.string s,iC] ab)) (aB kvc ab 4 css) (aB iC ab 4 (css++[cs7])) (aZ Ls.flatten) M (.blk b8 (.cells cs7.toArray ab)) (D 7) (D 8) (D 9) true) S w_:=by
    rw [‹D 7=true›,‹D 8=true›,‹D 9=true›]
    exact hI
   exact ⟨hF_.set 11 trivial,⟨M,cs7,b8,e7,e8,k8,k9,k11,k1,hI⟩⟩
  obtain ⟨rfl,rfl,rfl,rfl,rfl,rfl,rfl,Ly,Ju,LA,rfl,_,_⟩:=hF_.all
  have Aa:D 7=true:=by assumption
  have KW:D 8=true:=by assumption
  have Ns:D 9=true:=by assumption
  have yW:D 11=true:=by assumption
  clear hF_ ci cd cj cc cm cr bO cR dt eP cI db
  obtain ⟨_,hT⟩:=e7 Aa
  rw [Aa,KW,Ns,yW] at hI
  refine bi (by omega) ?_
  refine ⟨⟨j+1,iC,Ls++[M],css++[cs7],hj',rfl,?_,?_⟩,by simp [intOf]; omega⟩
  ·rw [List.take_succ_eq_append_getElem hj']
   exact hg.snoc hT hT.length
  ·simp only [List.flatten_append,List.flatten_cons,List.flatten_nil,List.append_nil,cL]
   refine hI.sub ?_
   simp only [aU]
   rw [<- List.append_assoc]
   exact (((List.sublist_append_left _ _).cons_cons _).cons_cons _).cons_cons _ |>.cons_cons _
 ·have:j=ks.length:=by omega
  subst this
  rw [List.take_length] at hg
  obtain ⟨va,vn,vc,hvk⟩:=hI.rowSlice 3 rfl
  have hv1:kvc.oneCell'=true:=by rw [hvk]; rfl
  refine aw hI 2 ac rfl rfl ?_
  refine au hI 1 rfl ac rfl rfl ?_ fun w' hI=>?_
  ·intro u hu
   have hu':u∈([.int .i64 k,.int .i64 n,.string s,kvc]:List Value):=hu
   simp at hu'
   rcases hu' with rfl|rfl|rfl|rfl <;> first|rfl|exact hv1
  refine be hI 1 ac rfl rfl ?_
  have hI:Inv w [] ([]++(aB kvc ab 4 css::aZ Ls.flatten)) S w':=hI.sub (List.sublist_append_right [_,_,_] _)
  obtain ⟨L,hT,hI⟩:=Inv.rowTree hI hg
  exact ⟨_,_,_,rfl,hI,Ext.refl _ _ _,rfl,_,L,rfl,rfl,TrT.iff.2 ⟨kvc,rfl,h1,h2,hs,hT⟩⟩
end
end
section
open Go Go.RowKit
attribute [local irreducible] Run CondV ao aI

def tg (t u:T):Bool:=decide (t.kind=u.kind) && (decide (t.n=u.n) && (decide (t.name=u.name) && decide (t.kids.length=u.kids.length)))
theorem wG (k n k' n':Int) (s s':ByteArray) (ks ks':List T):tg (.mk k n s ks) (.mk k' n' s' ks')=(decide (k=k') && (decide (n=n') && (decide (s=s') && decide (ks.length=ks'.length)))):=rfl
theorem Pj {α β:Type} (a:List α) (b:List β):decide (a.length=b.length)=decide ((a.length:Int)=(b.length:Int)):=by
 rw [Bool.eq_iff_iff]
 simp only [decide_eq_true_eq]
 omega
end
section
open Go Go.RowKit
attribute [local irreducible] Run CondV ao aI

theorem lJ {xs:List T} (ih:∀ t∈xs,∀ (u:T) (S:ad) (cs ds:List Value),RdT S cs t->RdT S ds u->Pure Tryz.prog lw [.agg cs.toArray,.agg ds.toArray] S (.bool (eqT t u)))
  {ys:List T} {S:ad} {v u:Value} (h:RdSl S 4 (RdT S) v xs) (h':RdSl S 4 (RdT S) u ys):Pure Tryz.prog qm [v,u,.func (.func lw) #[] #[]] S (.bool (eqL xs ys)):=by
 intro w hI
 have hlen:(xs.length:Int)<=9223372036854775807:=by have:=h.le; simp only [maxLen] at this; omega
 refine gT.2 ?_
 dsimp only[gT,ft]
 refine aD h ag ?_
 refine aD h' ag ?_
 refine fN ?_
 refine av (fun hne=>?_) (fun he=>?_)
 ·exact done hI (by rw [LP (by simp at hne; omega)])
 have he:xs.length=ys.length:=by simp at he; omega
 refine aD h ag ?_
 refine ⟨fun i w'=>∃ (k:Nat),k<=xs.length/\i=.int .i64 k/\eqL (xs.drop k) (ys.drop k)=eqL xs ys/\Inv w [] [] S w',fun i _=>xs.length - (intOf i).toNat,⟨0,Nat.zero_le _,rfl,rfl,hI⟩,?_⟩
 intro t5 _ _ _ _ _ _ _ _ _ _ _ _ _ _ _ _ _ _ w'
 rintro ⟨k,hk,rfl,hrel,hI⟩
 refine bC ?_
 refine aH (fun hki=>?_) (fun hki=>?_)
 ·have hk1:k<xs.length:=by omega
  have hk2:k<ys.length:=by omega
  have hstep:eqL (xs.drop k) (ys.drop k)=(eqT xs[k] ys[k] && eqL (xs.drop (k+1)) (ys.drop (k+1))):=by
   rw [List.drop_eq_getElem_cons hk1,List.drop_eq_getElem_cons hk2,eqL]
  refine bM hI h ag ac hk1 (fun _ _=>RdT.length) fun cs hcs=>?_
  have hlc:=hcs.length
  refine aL hI aW fun b8 w' hI=>?_
  refine au hI 0 rfl ac (by simpa using hlc) rfl (by simpa using hcs.one) fun w' hI=>?_
  refine bM hI h' ag ac hk2 (fun _ _=>RdT.length) fun ds hds=>?_
  have hld:=hds.length
  refine aL hI aW fun b9 w' hI=>?_
  refine au hI 1 rfl ac (by simpa using hld) rfl (by simpa using hds.one) fun w' hI=>?_
  refine aw hI 0 ac rfl (by simpa using hlc) ?_
  refine aw hI 1 ac rfl (by simpa using hld) ?_
  refine Run.callPure jO jG hI (ih _ (List.getElem_mem hk1) _ S _ _ hcs hds) fun w' hI=>?_
  refine bU ?_
  refine av (fun hne=>?_) (fun he'=>?_)
  ·exact done hI (by rw [<- hrel,hstep]; simp at hne; rw [hne]; rfl)
  ·refine bi (by omega) ?_
   refine ⟨⟨k+1,hk1,rfl,?_,hI.nil⟩,by simp [intOf]; omega⟩
   rw [<- hrel,hstep]
   simp at he'
   rw [he',Bool.true_and]
 ·have:k=xs.length:=by omega
  subst this
  refine done hI ?_
  rw [<- hrel,List.drop_length,he,List.drop_length]
  rfl
theorem eK:∀ (t u:T) (S:ad) (cs ds:List Value),RdT S cs t->RdT S ds u->Pure Tryz.prog lw [.agg cs.toArray,.agg ds.toArray] S (.bool (eqT t u)):=by
 refine T.ind fun k n s ks ih u S cs ds h h'=>?_
 intro w hI
 obtain ⟨kv,rfl,_,_,_,hks⟩:=RdT.iff.1 h
 obtain ⟨kv',rfl,_,_,_,hks'⟩:=RdT.iff.1 h'
 obtain ⟨k',n',s',ks'⟩:=u
 simp only [T.name,T.kids,T.kind,T.n] at hks hks' ⊢
 refine pt.2 ?_
 dsimp only[pt,aR]
 refine bl hI fun b1 w' hI=>?_
 refine bl hI fun b2 w' hI=>?_
 refine ae hI 0 rfl aP aF rfl ?_
 refine ae hI 1 rfl aP aF rfl ?_
 refine ba ?_
 by_cases e1:k=k'
 ·rw [decide_eq_true e1]
  refine rpG ?_
  refine ae hI 0 rfl bb aF rfl ?_
  refine ae hI 1 rfl bb aF rfl ?_
  refine ba ?_
  by_cases e2:n=n'
  ·rw [decide_eq_true e2]
   refine rpG ?_
   refine ae hI 0 rfl aQ aK rfl ?_
   refine ae hI 1 rfl aQ aK rfl ?_
   refine bj ?_
   by_cases e3:s=s'
   ·rw [decide_eq_true e3]
    refine rpG ?_
    refine ae hI 0 rfl ar aj rfl ?_
    refine ae hI 1 rfl ar aj rfl ?_
    refine Run.callPure eW eR hI (lJ ih hks hks') fun w' hI=>?_
    refine rpG ?_
    exact done hI (by rw [eqT,decide_eq_true e1,decide_eq_true e2,decide_eq_true e3]; rfl)
   ·rw [decide_eq_false e3]
    refine rpG ?_
    exact done hI (by rw [eqT,decide_eq_true e1,decide_eq_true e2,decide_eq_false e3]; rfl)
  ·rw [decide_eq_false e2]
   refine rpG ?_
   exact done hI (by rw [eqT,decide_eq_true e1,decide_eq_false e2]; rfl)
 ·rw [decide_eq_false e1]
  refine rpG ?_
  exact done hI (by rw [eqT,decide_eq_false e1]; rfl)
end
section
open Go Go.RowKit

theorem nR {n:Int}:∀ (l:List MapEntry) (i:Nat),(∀ e∈l,∃ m,e.key=.int .i64 m)->
  (∃ j,∃ e∈l,e.key=.int .i64 n/\Instr.findNow (.int .i64) (.int .i64 n) l i=some (some (j,e.val))) ∨ ((∀ e∈l,e.key≠.int .i64 n)/\Instr.findNow (.int .i64) (.int .i64 n) l i=some none)
 | [],i,_=>.inr ⟨by simp,rfl⟩
 | e::l,i,h=>by
  obtain ⟨m,hm⟩:=h e (List.mem_cons_self ..)
  have hs:Instr.sameNow (.int .i64) (.int .i64 n) e.key=some (n == m):=by rw [hm]; rfl
  by_cases hnm:n=m
  ·refine .inl ⟨i,e,List.mem_cons_self ..,by rw [hm,hnm],?_⟩
   have:(n == m)=true:=by simpa using hnm
   rw [Instr.findNow,hs,this]
  ·have h2:(n == m)=false:=by simpa using hnm
   rcases nR l (i+1) (fun e he=>h e (List.mem_cons_of_mem _ he)) with ⟨j,e',he',hk,hf⟩|⟨hk,hf⟩
   ·exact .inl ⟨j,e',List.mem_cons_of_mem _ he',hk,by rw [Instr.findNow,hs,h2]; exact hf⟩
   ·refine .inr ⟨fun x hx=>?_,by rw [Instr.findNow,hs,h2]; exact hf⟩
    rcases List.mem_cons.1 hx with rfl|hx
    ·rw [hm]
     intro e'
     simp only [Value.int.injEq,true_and] at e'
     exact hnm e'.symm
    ·exact hk x hx
section
variable {P:Program} {w w0:World} {X:List Nat} {L:List Item} {S:ad} {K:Value->World->Prop}
attribute [local irreducible] Run CondV ao aI
theorem hO {kt:TypeId} {d:TypeDesc} {k:Value} {l:List MapEntry} {a:Option (Nat × Value)} (hd:P.underlying kt=some d) (h:Instr.findNow d k l 0=some a):(Instr.findKey kt k l).run P w=.ok a w:=by
 simp [Instr.findKey,run_underlying hd,Result.andThen,h]
theorem A6 (h:Inv w0 X L S w) {T ty:TypeId} (hk:∀ b w',Inv w0 X (L++[.blk b (.map #[] 0)]) S w'->K (.map (some b)) w'):Run P (sOp (.makeMap T none) ty) w K:=by
 refine Run.of (v:=.map (some w.heap.size)) (w':={ w with heap:=w.heap.push (.map #[] 0) }) ?_ (hk _ _ (h.alloc _))
 simp [sOp,execOp,Instr.makeMap,newObj,Sem.run]
theorem DL (h:Inv w0 X L S w) {T kt et ty:TypeId} {b clock:Nat} {es:Array MapEntry} {n:Int} {v:Value} (i:Nat) (hT:P.underlying T=some (.map kt et)) (hkt:P.underlying kt=some (.int .i64))
  (hi:L[i]?=some (.blk b (.map es clock))) (hf:Instr.findNow (.int .i64) (.int .i64 n) es.toList 0=some none)
  (hk:∀ w',Inv w0 X (L.set i (.blk b (.map (es.push { key:=.int .i64 n,val:=v,born:=clock }) (clock+1)))) S w'->K undef w') :
  Run P (sOp (.mapUpdate T (.const (.map (some b))) (.const (.int .i64 n)) (.const v)) ty) w K:=by
 have hb:w.heap[b]?=some (.map es clock):=h.its _ (List.mem_of_getElem? hi)
 have hck:∀ e,(Instr.checkKey e 10000 kt (.int .i64 n)).run P w=.ok () w:=fun e=>by
  rw [show (10000:Nat)=9999+1 from rfl,Instr.checkKey]
  simp [run_underlying hkt]
 have hg:(getObj b).run P w=.ok (.map es clock) w:=by simp [getObj,Sem.run,hb]
 have hfk:=hO (P:=P) (w:=w) hkt hf
 refine Run.ofSkip (w':={ w with heap:=w.heap.setIfInBounds b (.map (es.push { key:=.int .i64 n,val:=v,born:=clock }) (clock+1)) }) ?_ (hk _ (h.setBlk hi _ rfl))
 have hst:(setObj b (.map (es.push { key:=.int .i64 n,val:=v,born:=clock }) (clock+1))).run P w=.ok () { w with heap:=w.heap.setIfInBounds b (.map (es.push { key:=.int .i64 n,val:=v,born:=clock }) (clock+1)) }:=by simp [setObj,Sem.run,hb]
 simp [sOp,execOp,ev0,evE,Instr.mapUpdate,run_underlying hT,hg,hck,hfk,hst]
end
end
section
open Go Go.RowKit

abbrev ah:=List (Option T)
mutual
def lA:T->T->ah->Bool × ah
 | .mk k n s ks,u,st=>if k=1 then (match st[n.toNat]? with
   | some (some t)=>(eqT t u,st)
   | _=>(true,st.set n.toNat (some u)))
  else if tg (.mk k n s ks) u=true then J0 ks u.kids st else (false,st)
def J0:List T->List T->ah->Bool × ah
 | [],_,st=>(true,st)
 | _::_,[],st=>(true,st)
 | t::ts,u::us,st=>if (lA t u st).1=true then J0 ts us (lA t u st).2 else (false,(lA t u st).2)
end
mutual
def okV:T->Prop
 | .mk k n _ ks=>(k=1->0<=n/\n<=25)/\y9 ks
def y9:List T->Prop
 | []=>True
 | t::ts=>okV t/\y9 ts
end
theorem DR:∀ {ts:List T},y9 ts->∀ t∈ts,okV t
 | _::_,h,t,ht=>by
  rcases List.mem_cons.1 ht with rfl|ht
  ·exact h.1
  ·exact DR h.2 t ht
theorem Nn {t:T} (h:dH t=true):(t.kind=1->0<=t.n/\t.n<=25)/\t.kind≠0:=by
 unfold dH at h
 refine ⟨fun hk=>?_,fun hk=>?_⟩
 ·rw [if_pos hk] at h
  simp only [Bool.and_eq_true,decide_eq_true_eq] at h
  exact ⟨h.1,h.2.1⟩
 ·rw [if_neg (by omega),if_neg (by omega),if_neg (by omega)] at h
  cases h
def lN:List Value:=[.int .i64 0,.int .i64 0,.string ⟨#[]⟩,.slice none 0 0]
def KnownC (S:ad) (c:Array Value) (st:ah):Prop:=104<=c.size/\∀ i (h:i<st.length),(st[i]=none->aV c (i * 4) 4=lN)/\(∀ t,st[i]=some t->RdT S (aV c (i * 4) 4) t)
theorem KnownC.set {S:ad} {c:Array Value} {st:ah} (h:KnownC S c st) {n:Nat} (hn:n<26) {cs:List Value} {u:T} (hu:RdT S cs u):KnownC S (bz c (n * 4) cs) (st.set n (some u)):=by
 have hlc:=hu.length
 have h1:=h.1
 have hs:104<=(bz c (n * 4) cs).size:=by rw [jJ _ _ _ (by omega)]; exact h1
 refine ⟨hs,fun i hi=>?_⟩
 rw [List.length_set] at hi
 by_cases e:n=i
 ·subst e
  rw [List.getElem_set_self]
  refine ⟨fun h=>(by cases h),fun t ht=>?_⟩
  simp only [Option.some.injEq] at ht
  subst ht
  have:=gf (c:=c) (o:=n * 4) (vs:=cs) (by omega)
  rw [hlc] at this
  rw [this]
  exact hu
 ·rw [List.getElem_set_ne e,iM (by omega) (by omega)]
  exact h.2 i hi
section
attribute [local irreducible] Run CondV ao aI
abbrev kvn (kb kp:Nat):Value:=.slice (some ⟨kb,0,none⟩) 26 kp
abbrev kv0 (kb:Nat):Value:=kvn kb 26
end
end
section
open Go Go.RowKit

def M7:List Int->Int->Int->Nat->Int
 | [],_,cur,_=>cur
 | x::xs,n,cur,k=>M7 xs n (if x=n then (k:Int) else cur) (k+1)
def Ln (vs:List Int) (n:Int):Int:=(bR (σ:=Unit) (fun _ x=>(decide (n=x),())) () vs 0).1
mutual
def M0 (vs:List Int):T->T
 | .mk k n s ks=>.mk k (if k=1 then M7 vs n n 0 else n) s (JS vs ks)
def JS (vs:List Int):List T->List T
 | []=>[]
 | t::ts=>M0 vs t::JS vs ts
end
mutual
def pS (vs:List Int):T->T
 | .mk k n s ks=>if k=1 then .mk 1 (Ln vs n) ⟨#[]⟩ [] else .mk k n s (gD vs ks)
def gD (vs:List Int):List T->List T
 | []=>[]
 | t::ts=>pS vs t::gD vs ts
end
theorem Ld (vs:List Int) (n:Int):-1<=Ln vs n/\Ln vs n<vs.length+1:=by
 have:∀ (xs:List Int) (k:Nat),-1<=(bR (σ:=Unit) (fun _ x=>(decide (n=x),())) () xs k).1/\(bR (σ:=Unit) (fun _ x=>(decide (n=x),())) () xs k).1<k+xs.length+1:=by
  intro xs
  induction xs with
  | nil=>intro k; simp [bR]; omega
  | cons x xs ih=>
   intro k
   rw [bR]
   have:=ih (k+1)
   split
   ·simp; omega
   ·simp only [List.length_cons]; omega
 have h:=this vs 0
 rw [Ln]
 omega
theorem KX (l:List Int) (n:Int):Lx l n=true↔n∈l:=by
 simp [Lx]
theorem JV {t:T} (h:dH t=true) (hk:t.kind=1):t.name=emptyB/\t.kids.length=0:=by
 unfold dH at h
 rw [if_pos hk] at h
 simp only [Bool.and_eq_true,decide_eq_true_eq] at h
 exact ⟨h.2.2.1,h.2.2.2⟩
theorem kY (vs:List Int):∀ ts:List T,(gD vs ts).length=ts.length
 | []=>rfl
 | t::ts=>by rw [gD]; simp [kY vs ts]
theorem xH (vs:List Int) (ts:List T) (j:Nat) (h:j<ts.length):gD vs (ts.take (j+1))=gD vs (ts.take j)++[pS vs ts[j]]:=by
 have:∀ (xs ys:List T),gD vs (xs++ys)=gD vs xs++gD vs ys:=by
  intro xs ys
  induction xs with
  | nil=>rfl
  | cons x xs ih=>simp [gD,ih]
 rw [List.take_succ_eq_append_getElem h,this]; rfl
def PV (vs:List Int) (c:C):C:=⟨M0 vs c.head,JS vs c.body⟩
def Pg (c:C):List Int:=jI (c.head::c.body) []
end
section
open Go Go.RowKit
section
attribute [local irreducible] Run CondV ao aI
theorem sg {c0:C} {S:ad} {cs:List Value} (h:RdC S cs c0) (hw:wC c0<=1048576):Tri Tryz.prog yw [.agg cs.toArray] [] S (MT S c0):=by
 intro w hI
 obtain ⟨hd,ks,rfl,h1,h2⟩:=h
 have h1':=h1
 obtain ⟨kv,rfl,g1,g2,g3,g4⟩:=RdT.iff.1 h1
 unfold wC at hw
 refine iW.2 ?_
 dsimp only[iW,aC]
 refine bl hI fun b1 w' hI=>?_
 refine aL hI cP fun b2 w' hI=>?_
 refine aA bF ?_
 refine dw hI 0 [.int .i64 c0.head.kind,.int .i64 c0.head.n,.string c0.head.name,kv] ac rfl rfl FJ ?_
 refine Run.call0 dO dR hI (eO _ S _ h1' (by omega)) fun v' I' S w'=>?_
 rintro ⟨rfl,cs1,N,rfl,rfl,hT1⟩ _ hI
 obtain ⟨kh,rfl,_⟩:=TrT.iff.1 hT1
 refine jf ?_
 refine aL hI cP fun b3 w' hI=>?_
 have hI:=hI.perm (M:=.blk b1 _::.blk b2 _::.blk b3 _::aZ N) (((List.perm_append_comm (l₁:=[_])).cons _).cons _)
 refine au hI 2 rfl aO rfl rfl ?_ fun w' hI=>?_
 ·intro u hu
  have hu':u∈([.int .i64 c0.head.kind,.int .i64 c0.head.n,.string c0.head.name,kh,.slice none 0 0]:List Value):=hu
  simp at hu'
  have o1:kh.oneCell'=true:=hT1.one kh (by simp)
  rcases hu' with rfl|rfl|rfl|rfl|rfl <;> first|rfl|exact o1
 have hI:=hI.rowNil ab 4
 have hI:=hI.perm (M:=.blk b1 (.cells #[.int .i64 c0.head.kind,.int .i64 c0.head.n,.string c0.head.name,kv,ks] af)::.blk b2 (.cells #[.int .i64 0,.int .i64 0,.string ⟨#[]⟩,.slice none 0 0,.slice none 0 0] af)::.blk b3 (.cells #[.int .i64 c0.head.kind,.int .i64 c0.head.n,.string c0.head.name,kh,.slice none 0 0] af)::aB (.slice none 0 0) ab 4 []::aZ N) ((((List.perm_append_comm (l₁:=[_])).cons _).cons _).cons _)
 refine ⟨fun i w'=>∃ (j:Nat) (kvc:Value) (Ls:List aN) (css:List (List Value)),j<=c0.body.length/\i=.int .i64 j/\Grown 4 TrT Ls css (c0.body.take j)/\
   Inv w [] (.blk b1 (.cells #[.int .i64 c0.head.kind,.int .i64 c0.head.n,.string c0.head.name,kv,ks] af)::.blk b2 (.cells #[.int .i64 0,.int .i64 0,.string ⟨#[]⟩,.slice none 0 0,.slice none 0 0] af)::.blk b3 (.cells #[.int .i64 c0.head.kind,.int .i64 c0.head.n,.string c0.head.name,kh,kvc] af)::aB kvc ab 4 css::aZ (N::Ls).flatten) S w',
  fun i _=>c0.body.length - (intOf i).toNat,⟨0,_,[],[],Nat.zero_le _,rfl,Grown.nil _ _,by simp only [List.flatten_cons,List.flatten_nil,List.append_nil]; exact hI⟩,?_⟩
 intro t4 _ _ _ _ _ _ _ _ _ _ _ _ _ _ _ _ _ _ w'
 rintro ⟨j,kvc,Ls,css,hj,rfl,hg,hI⟩
 refine ae hI 0 rfl bf aj rfl ?_
 refine aD h2 ag ?_
 refine bC ?_
 refine aH (fun hji=>?_) (fun hji=>?_)
 ·have hj':j<c0.body.length:=by omega
  have hjl:(c0.body.take j).length=j:=by simp; omega
  have hcl:=hg.hc
  have hm:=List.getElem_mem hj'
  have hwm:=gO hm
  obtain ⟨b,o,cap,c,E,fz,rfl,hS,hR⟩:=h2.at_ hj'
  refine ⟨fun D mu eH mw s3 rD pe mQ od AF mL xy w_=>Fx D 0 [xy=.pointer (some ⟨b3,4,none⟩),mL=kvc,AF=.pointer (some ⟨b1,4,none⟩),od=.slice (some ⟨b,o,none⟩) (c0.body).length cap,mQ=.int .i64 j,pe=.pointer (some ⟨b,o+j * 4,none⟩),rD=.agg (aV c (o+j * 4) 4).toArray,True,True,True,mu=.pointer (some ⟨b3,4,none⟩),True]/\∃ M cs7 b8,(D 7=true->s3=.agg cs7.toArray/\TrT M cs7 (c0.body)[j])/\(D 8=true->mw=.slice (some ⟨b8,0,none⟩) 1 1)/\(D 8=true->D 7=true)/\(D 9=true->D 8=true)/\(D 11=true->D 9=true)/\(D 11=true->D 1=true)/\Inv w [] (aU (.blk b1 (.cells #[.int .i64 c0.head.kind,.int .i64 c0.head.n,.string c0.head.name,kv,.slice (some ⟨b,o,none⟩) c0.body.length cap] af)) (.blk b2 (.cells #[.int .i64 0,.int .i64 0,.string ⟨#[]⟩,.slice none 0 0,.slice none 0 0] af)) (.blk b3 (.cells #[.int .i64 c0.head.kind,.int .i64 c0.head.n,.string c0.head.name,kh,kvc] af)) (.blk b3 (.cells #[.int .i64 c0.head.kind,.int .i64 c0.head.n,.string c0.head.name,kh,eH] af)) (aB kvc ab 4 css) (aB eH ab 4 (css++[cs7])) (aZ (N::Ls).flatten) M (.blk b8 (.cells cs7.toArray ab)) (D 7) (D 8) (D 9) (D 11)) S w_,⟨Fx.nil _ _,⟨[],[],0,aM,aM,aM,aM,aM,aM,by simpa [aU,aZ] using hI.draw⟩⟩,⟨?_,?_,?_,?_,?_,?_,?_,?_,?_,?_,?_,?_,trivial⟩,?_⟩
  all_goals (intro D bv; intros; rename_i mu eH mw s3 rD pe mQ od AF mL xy w_ hA_; have hF_:=hA_.1; obtain ⟨⟨ci,cd,cj,cc,cm,cr,bO,cR,dt,eP,cI,db,_⟩,⟨M,cs7,b8,e7,e8,k8,k9,k11,k1,hI⟩⟩:=hA_)
  ·refine aA bf ?_
   exact ⟨hF_.set 0 rfl,⟨M,cs7,b8,e7,e8,k8,k9,k11,k1,hI⟩⟩
  ·obtain rfl:=ci ‹_›
   have f11:D 11=false:=Bool.eq_false_iff.2 fun h=>by rw [k1 h] at bv; cases bv
   refine aT (b:=b3) hI 2 (c:=(#[.int .i64 c0.head.kind,.int .i64 c0.head.n,.string c0.head.name,kh,kvc])) aj (by rw [f11]; rfl) rfl ?_
   have k1:=fun (_:az D 1 11=true)=>(rfl:az D 1 1=true)
   exact ⟨hF_.set 1 rfl,⟨M,cs7,b8,e7,e8,k8,k9,k11,k1,hI⟩⟩
  ·refine aA bf ?_
   exact ⟨hF_.set 2 rfl,⟨M,cs7,b8,e7,e8,k8,k9,k11,k1,hI⟩⟩
  ·obtain rfl:=cj ‹_›
   refine aT hI 0 aj rfl rfl ?_
   exact ⟨hF_.set 3 rfl,⟨M,cs7,b8,e7,e8,k8,k9,k11,k1,hI⟩⟩
  ·exact ⟨hF_.set 4 rfl,⟨M,cs7,b8,e7,e8,k8,k9,k11,k1,hI⟩⟩
  ·obtain rfl:=cc ‹_›
   obtain rfl:=cm ‹_›
   refine aE ag hj' ?_
   exact ⟨hF_.set 5 rfl,⟨M,cs7,b8,e7,e8,k8,k9,k11,k1,hI⟩⟩
  ·obtain rfl:=cr ‹_›
   refine bK ac hR.length (fun j v hj=>by rw [hI.cellS hS]; exact aJ rfl j v hj) ?_
   exact ⟨hF_.set 6 rfl,⟨M,cs7,b8,e7,e8,k8,k9,k11,k1,hI⟩⟩
  ·obtain rfl:=bO ‹_›
   have f8:D 8=false:=Bool.eq_false_iff.2 fun h=>by rw [k8 h] at bv; cases bv
   have f9:D 9=false:=Bool.eq_false_iff.2 fun h=>by rw [k9 h] at f8; cases f8
   have f11:D 11=false:=Bool.eq_false_iff.2 fun h=>by rw [k11 h] at f9; cases f9
   rw [bv,f8,f9,f11] at hI
   refine Run.call0 dO dR hI (eO _ S _ hR (by omega)) fun v' I' S w_=>?_
   rintro ⟨rfl,cs7,M,rfl,rfl,hT⟩ _ hI
   have e7:az D 7 7=true->Value.agg cs7.toArray=Value.agg cs7.toArray/\TrT M cs7 (c0.body)[j]:=fun _=>⟨rfl,hT⟩
   have k8:=fun (_:az D 7 8=true)=>(rfl:az D 7 7=true)
   have hI:Inv w [] (aU (.blk b1 (.cells #[.int .i64 c0.head.kind,.int .i64 c0.head.n,.string c0.head.name,kv,.slice (some ⟨b,o,none⟩) c0.body.length cap] af)) (.blk b2 (.cells #[.int .i64 0,.int .i64 0,.string ⟨#[]⟩,.slice none 0 0,.slice none 0 0] af)) (.blk b3 (.cells #[.int .i64 c0.head.kind,.int .i64 c0.head.n,.string c0.head.name,kh,kvc] af)) (.blk b3 (.cells #[.int .i64 c0.head.kind,.int .i64 c0.head.n,.string c0.head.name,kh,eH] af)) (aB kvc ab 4 css) (aB eH ab 4 (css++[cs7])) (aZ (N::Ls).flatten) M (.blk b8 (.cells cs7.toArray ab)) true (D 8) (D 9) (D 11)) S w_:=by
    rw [f8,f9,f11]
    simpa [aU] using hI
   exact ⟨hF_.set 7 (by first|assumption|trivial),⟨M,cs7,b8,e7,e8,k8,k9,k11,k1,hI⟩⟩
  ·have Ly:=cR ‹_›
   have f9:D 9=false:=Bool.eq_false_iff.2 fun h=>by rw [k9 h] at bv; cases bv
   have f11:D 11=false:=Bool.eq_false_iff.2 fun h=>by rw [k11 h] at f9; cases f9
   obtain ⟨q7,hT⟩:=e7 ‹D 7=true›
   subst q7
   rw [‹D 7=true›,bv,f9,f11] at hI
   refine du hI bo (by simp [Value.cells,hT.length]) (by omega) (by omega) fun b8 w_ hI=>?_
   have e7:az D 8 7=true->Value.agg cs7.toArray=Value.agg cs7.toArray/\TrT M cs7 (c0.body)[j]:=fun _=>⟨rfl,hT⟩
   have e8:=fun (_:az D 8 8=true)=>(rfl:Value.slice (some ⟨b8,0,none⟩) 1 1=_)
   have k8:=fun (_:az D 8 8=true)=>‹D 7=true›
   have k9:=fun (_:az D 8 9=true)=>(rfl:az D 8 8=true)
   have hI:Inv w [] (aU (.blk b1 (.cells #[.int .i64 c0.head.kind,.int .i64 c0.head.n,.string c0.head.name,kv,.slice (some ⟨b,o,none⟩) c0.body.length cap] af)) (.blk b2 (.cells #[.int .i64 0,.int .i64 0,.string ⟨#[]⟩,.slice none 0 0,.slice none 0 0] af)) (.blk b3 (.cells #[.int .i64 c0.head.kind,.int .i64 c0.head.n,.string c0.head.name,kh,kvc] af)) (.blk b3 (.cells #[.int .i64 c0.head.kind,.int .i64 c0.head.n,.string c0.head.name,kh,eH] af)) (aB kvc ab 4 css) (aB eH ab 4 (css++[cs7])) (aZ (N::Ls).flatten) M (.blk b8 (.cells cs7.toArray ab)) (D 7) true (D 9) (D 11)) S w_:=by
    rw [‹D 7=true›,f9,f11]
    simpa [aU,Value.cells] using hI
   exact ⟨hF_.set 8 (by first|assumption|trivial),⟨M,cs7,b8,e7,e8,k8,k9,k11,k1,hI⟩⟩
  ·obtain rfl:=cd ‹_›
   have Ju:=dt ‹_›
   have f11:D 11=false:=Bool.eq_false_iff.2 fun h=>by rw [k11 h] at bv; cases bv
   have q8:=e8 ‹D 8=true›
   subst q8
   obtain ⟨_,hT⟩:=e7 ‹D 7=true›
   rw [‹D 7=true›,‹D 8=true›,bv,f11] at hI
   have hblk:((aU (.blk b1 (.cells #[.int .i64 c0.head.kind,.int .i64 c0.head.n,.string c0.head.name,kv,.slice (some ⟨b,o,none⟩) c0.body.length cap] af)) (.blk b2 (.cells #[.int .i64 0,.int .i64 0,.string ⟨#[]⟩,.slice none 0 0,.slice none 0 0] af)) (.blk b3 (.cells #[.int .i64 c0.head.kind,.int .i64 c0.head.n,.string c0.head.name,kh,mL] af)) (.blk b3 (.cells #[.int .i64 c0.head.kind,.int .i64 c0.head.n,.string c0.head.name,kh,eH] af)) (aB mL ab 4 css) (aB eH ab 4 (css++[cs7])) (aZ (N::Ls).flatten) M (.blk b8 (.cells cs7.toArray ab)) true true false false))[4+(aZ (N::Ls).flatten).length+(aZ M).length]?=some (.blk b8 (.cells cs7.toArray ab)):=by
    have e4:4+(aZ (N::Ls).flatten).length+(aZ M).length=((aZ (N::Ls).flatten).length+(aZ M).length)+1+1+1+1:=by omega
    rw [e4]
    simp only [aU,List.getElem?_cons_succ]
    rw [List.getElem?_append_right (by omega),Nat.add_sub_cancel_left,List.getElem?_append_right (Nat.le_refl _),Nat.sub_self]; rfl
   refine cN hI 3 cs7 bo (by omega) rfl (by rw [hT.length]) (m:=1) (o:=0) ?_ hT.one (by omega) (by omega) fun v' w_ hI=>?_
   ·intro i u hi
    rw [hI.cellL hblk,Nat.zero_add]
    simpa using hi
   rw [dJ] at hI
   have k9:=fun (_:az D 9 9=true)=>‹D 8=true›
   have k11:=fun (_:az D 9 11=true)=>(rfl:az D 9 9=true)
   have hI:Inv w [] (aU (.blk b1 (.cells #[.int .i64 c0.head.kind,.int .i64 c0.head.n,.string c0.head.name,kv,.slice (some ⟨b,o,none⟩) c0.body.length cap] af)) (.blk b2 (.cells #[.int .i64 0,.int .i64 0,.string ⟨#[]⟩,.slice none 0 0,.slice none 0 0] af)) (.blk b3 (.cells #[.int .i64 c0.head.kind,.int .i64 c0.head.n,.string c0.head.name,kh,mL] af)) (.blk b3 (.cells #[.int .i64 c0.head.kind,.int .i64 c0.head.n,.string c0.head.name,kh,v'] af)) (aB mL ab 4 css) (aB v' ab 4 (css++[cs7])) (aZ (N::Ls).flatten) M (.blk b8 (.cells cs7.toArray ab)) (D 7) (D 8) true (D 11)) S w_:=by
    rw [‹D 7=true›,‹D 8=true›,f11]
    exact hI
   exact ⟨hF_.set 9 (by first|assumption|trivial),⟨M,cs7,b8,e7,e8,k8,k9,k11,k1,hI⟩⟩
  ·refine aA bf ?_
   exact ⟨hF_.set 10 rfl,⟨M,cs7,b8,e7,e8,k8,k9,k11,k1,hI⟩⟩
  ·obtain rfl:=cI ‹_›
   have LA:=eP ‹_›
   rw [‹D 7=true›,‹D 8=true›,‹D 9=true›,bv] at hI
   obtain ⟨va,vn,vc,hv9⟩:=Inv.rowSlice hI 3 rfl
   refine cB hI 2 (n:=1) (by rw [hv9]; rfl) (by decide +kernel) rfl (by simp) (by rw [hv9]; simp [Value.cells,Value.oneCell']) fun w_ hI=>?_
   have hcl9:Value.cells eH=#[eH]:=by rw [hv9]; rfl
   rw [hcl9] at hI
   have k1:=fun (_:az D 11 11=true)=>‹D 1=true›
   have k11:=fun (_:az D 11 11=true)=>‹D 9=true›
   have hI:Inv w [] (aU (.blk b1 (.cells #[.int .i64 c0.head.kind,.int .i64 c0.head.n,.string c0.head.name,kv,.slice (some ⟨b,o,none⟩) c0.body.length cap] af)) (.blk b2 (.cells #[.int .i64 0,.int .i64 0,.string ⟨#[]⟩,.slice none 0 0,.slice none 0 0] af)) (.blk b3 (.cells #[.int .i64 c0.head.kind,.int .i64 c0.head.n,.string c0.head.name,kh,kvc] af)) (.blk b3 (.cells #[.int .i64 c0.head.kind,.int .i64 c0.head.n,.string c0.head.name,kh,eH] af)) (aB kvc ab 4 css) (aB eH ab 4 (css++[cs7])) (aZ (N::Ls).flatten) M (.blk b8 (.cells cs7.toArray ab)) (D 7) (D 8) (D 9) true) S w_:=by
    rw [‹D 7=true›,‹D 8=true›,‹D 9=true›]
    exact hI
   exact ⟨hF_.set 11 trivial,⟨M,cs7,b8,e7,e8,k8,k9,k11,k1,hI⟩⟩
  obtain ⟨rfl,rfl,rfl,rfl,rfl,rfl,rfl,Ly,Ju,LA,rfl,_,_⟩:=hF_.all
  have Aa:D 7=true:=by assumption
  have KW:D 8=true:=by assumption
  have Ns:D 9=true:=by assumption
  have yW:D 11=true:=by assumption
  clear hF_ ci cd cj cc cm cr bO cR dt eP cI db
  obtain ⟨_,hT⟩:=e7 Aa
  rw [Aa,KW,Ns,yW] at hI
  refine bi (by omega) ?_
  refine ⟨⟨j+1,eH,Ls++[M],css++[cs7],hj',rfl,?_,?_⟩,by simp [intOf]; omega⟩
  ·rw [List.take_succ_eq_append_getElem hj']
   exact hg.snoc hT hT.length
  ·rw [<- List.cons_append,List.flatten_append,cL]
   simp only [List.flatten_cons,List.flatten_nil,List.append_nil]
   refine hI.sub ?_
   simp only [aU,List.flatten_cons]
   rw [<- List.append_assoc]
   exact (((List.sublist_append_left _ _).cons_cons _).cons_cons _).cons_cons _ |>.cons_cons _
 ·have:j=c0.body.length:=by omega
  subst this
  rw [List.take_length] at hg
  obtain ⟨va,vn,vc,hvk⟩:=hI.rowSlice 3 rfl
  have hv1:kvc.oneCell'=true:=by rw [hvk]; rfl
  have o1:kh.oneCell'=true:=hT1.one kh (by simp)
  refine aw hI 2 aO rfl rfl ?_
  refine au hI 1 rfl aO rfl rfl ?_ fun w' hI=>?_
  ·intro u hu
   have hu':u∈([.int .i64 c0.head.kind,.int .i64 c0.head.n,.string c0.head.name,kh,kvc]:List Value):=hu
   simp at hu'
   rcases hu' with rfl|rfl|rfl|rfl|rfl <;> first|rfl|exact o1|exact hv1
  refine be hI 1 aO rfl rfl ?_
  have hI:Inv w [] (aB kvc ab 4 css::aZ (N::Ls).flatten) S w':=hI.sub (List.sublist_append_right [_,_,_] _)
  rw [List.flatten_cons,cL] at hI
  have hI:=hI.perm (M:=aZ N++(aB kvc ab 4 css::aZ Ls.flatten)) (List.perm_middle)
  obtain ⟨L,hT,hI⟩:=Inv.rowTree hI hg
  exact ⟨_,_,_,rfl,hI,Ext.refl _ _ _,rfl,_,N++L,rfl,by rw [cL],_,kvc,N,L,rfl,rfl,hT1,hT⟩
theorem z7 {p:List C} {S:ad} {v:Value} (h:RdSl S 5 (RdC S) v p) (hw:p.length+wP p<=1048576):Tri Tryz.prog Fv [v] [] S (EZ 5 TrC S p):=by
 intro w hI
 refine rW.2 ?_
 dsimp only[rW,aC]
 refine di hI bD fun v0 w' hI=>?_
 refine ⟨fun i t w'=>∃ (k:Nat) (Ls:List aN) (css:List (List Value)),k<=p.length/\i=.int .i64 k/\Grown 5 TrC Ls css (p.take k)/\Inv w [] (aB t af 5 css::aZ Ls.flatten) S w',
  fun i _ _=>p.length - (intOf i).toNat,⟨0,[],[],Nat.zero_le _,rfl,Grown.nil _ _,hI⟩,?_⟩
 intro t4 _ _ t3 _ _ _ _ _ _ _ _ _ _ _ _ w'
 rintro ⟨k,Ls,css,hk,rfl,hg,hI⟩
 refine aD h aY ?_
 refine bC ?_
 refine aH (fun hki=>?_) (fun hki=>?_)
 ·have hk':k<p.length:=by omega
  have htl:(p.take k).length=k:=by simp; omega
  have hcl:=hg.hc
  refine bM hI h aY aO hk' (fun _ _=>RdC.length) fun cs hcs=>?_
  have hm:=List.getElem_mem hk'
  have hwm:=Dd hm
  refine Run.call0 nJ nz hI (sg hcs (by omega)) fun v' I' S' w'=>?_
  rintro ⟨rfl,cs',L,rfl,rfl,hT⟩ _ hI
  refine bP hI 0 cs' bD (by omega) (by omega) rfl hT.length hT.one (by omega) (by omega) fun v' w' hI=>?_
  refine bi (by omega) ?_
  refine ⟨⟨k+1,Ls++[L],css++[cs'],hk',rfl,?_,?_⟩,by simp [intOf]; omega⟩
  ·rw [List.take_succ_eq_append_getElem hk']
   exact hg.snoc hT hT.length
  ·simp only [List.flatten_append,List.flatten_cons,List.flatten_nil,List.append_nil,cL]
   exact hI
 ·have:k=p.length:=by omega
  subst this
  rw [List.take_length] at hg
  obtain ⟨L,hT,hI⟩:=Inv.rowTree (A:=[]) hI hg
  exact ⟨_,_,_,rfl,hI,Ext.refl _ _ _,rfl,_,rfl,hT⟩
end
end
section
open Go Go.RowKit
section
variable {P:Program} {w w0:World} {X:List Nat} {L:List Item} {S:ad} {K:Value->World->Prop}
theorem tj (h:Inv w0 X L S w) {T ty e:TypeId} {k by_ n cp:Nat} {z v:Value} {cs:List Bool} {xs:List Value} {a:Option Addr} (i:Nat)
  (hT:iV P T=some (e,k,by_,z)) (hi:L[i]?=some (.row v e k n xs)) (hk:K v w) :
  Run P (bu .append #[T,T] ty cs [v,.slice a 0 cp]) w K:=by
 obtain ⟨hu,inf,hi',hz,hs,hb,hzs⟩:=oR hT
 have hown:=h.its _ (List.mem_of_getElem? hi)
 simp only [Item.holds] at hown
 refine Run.of (v:=v) (w':=w) ?_ hk
 rcases hown.2 with ⟨rfl,rfl⟩|⟨g,cap,cur,rfl,_,hg,hnc,hcm,hcs,ht⟩
 ·cases a <;> simp [bu,builtin,Builtin.append_,run_underlying hu,sizeOf,typeInfo,hi',Builtin.lenOf,Builtin.firstCells,loadCells,loadCellsFrom]
 ·cases a <;> simp [bu,builtin,Builtin.append_,run_underlying hu,sizeOf,typeInfo,hi',storeCells,hnc,Builtin.lenOf,Builtin.firstCells,loadCells,loadCellsFrom]
theorem yz {α:Type} {R:List Value->α->Prop} (h:Inv w0 X L S w) {T ty e:TypeId} {k by_ n:Nat} {z v u:Value} {cs:List Bool} {xs:List Value} {ys:List α} {f:α->List Value} (i:Nat)
  (hT:iV P T=some (e,k,by_,z)) (hk0:0<k) (hi:L[i]?=some (.row v e k n xs)) (hr:RdSl S k R u ys) (hR:∀ cs y,R cs y->cs=f y) (hf:∀ y,(f y).length=k) (h1:∀ y,∀ c∈f y,c.oneCell'=true)
  (hfit:n+ys.length<=4294967296) (hby:by_<=32768)
  (hk:∀ v' w',Inv w0 X (L.set i (.row v' e k (n+ys.length) (xs++ys.flatMap f))) S w'->K v' w') :
  Run P (bu .append #[T,T] ty cs [v,u]) w K:=by
 obtain ⟨a,cap,rfl,hl,hc,hx⟩:=hr
 rcases hx with rfl|⟨b,o,c,E,fz,rfl,hS,hel⟩
 ·refine tj h i hT hi (hk v w ?_)
  have:L.set i (.row v e k (n+([]:List α).length) (xs++([]:List α).flatMap f))=L:=by
   simp only [List.length_nil,Nat.add_zero,List.flatMap_nil,List.append_nil]
   obtain ⟨hlt,e'⟩:=List.getElem?_eq_some_iff.1 hi
   rw [<- e',List.set_getElem_self]
  rw [this]
  exact h
 ·refine cN h i (ys.flatMap f) hT hk0 hi (zc f k hf ys) ?_ ?_ hfit hby hk
  ·intro j v' hj
   have hj':j<ys.length * k:=by
    rw [<- zc f k hf ys]
    exact (List.getElem?_eq_some_iff.1 hj).1
   have hq:j / k<ys.length:=(Nat.div_lt_iff_lt_mul hk0).2 hj'
   have hcell:=hR _ _ (hel (j / k) hq)
   have hflat:=B0 f k hf ys (j / k) hq
   rw [h.cellS hS]
   have e1:(ys.flatMap f)[j]?=(f ys[j / k])[j % k]?:=by
    rw [<- hflat,List.getElem?_take,if_pos (Nat.mod_lt _ hk0),List.getElem?_drop]
    congr 1
    have:=Nat.div_add_mod j k
    rw [Nat.mul_comm] at this
    omega
   rw [e1] at hj
   have:=aJ hcell (j % k) v' hj
   rw [<- this]
   congr 1
   have:=Nat.div_add_mod j k
   rw [Nat.mul_comm] at this
   omega
  ·intro c' hc'
   obtain ⟨y,_,hy⟩:=List.mem_flatMap.1 hc'
   exact h1 y c' hy
end
end
end Go.Proofs.YtcpgagfdeflbkaaGreatDoor
