/- impl.ownProgram; spec's copies. -/
import Derived.Test.YtcpgagfdeflbkaaGreatDoorZSl2
import Derived.Test.YtcpgagfdeflbkaaGreatDoorZSl1
import Derived.Test.YtcpgagfdeflbkaaGreatDoorZSl0
namespace Go.Proofs.YtcpgagfdeflbkaaGreatDoor
section
open Go Go.RowKit
theorem RdC.one {S:ad} {cs:List Value} {c:C} (h:RdC S cs c):∀ u∈cs,u.oneCell'=true:=by
 obtain ⟨hd,ks,rfl,h1,a,cap,rfl,_⟩:=h
 intro u hu
 rcases cd.1 hu with hu|hu
 ·exact h1.one u hu
 ·simp at hu; subst hu; rfl
section
attribute [local irreducible] Run CondV aq aK
theorem wI {p:List C} {S:ad} {v:Value} (h:RdSl S 5 (RdC S) v p) (hw:p.length+wP p<=1048576):Tri Tryz.prog z7 [v] [] S (HP 5 TrC S p):=by
 intro w hI
 refine og.2 ?_
 dsimp only[og,aG]
 refine aF h bi ?_
 refine ⟨fun i t w'=>∃ (k:Nat) (Ls:List aU) (css:List (List Value)),k<=p.length/\i=.int .i64 k/\Grown 5 TrC Ls css (p.take k)/\Inv w [] (aE t ag 5 css::bj Ls.flatten) S w',
  fun i _ _=>p.length - (intOf i).toNat,⟨0,[],[],aR _,rfl,Grown.nil _ _,hI.rowNil ag 5⟩,?_⟩
 intro t8 _ t3 _ _ _ _ _ _ _ _ _ w'
 rintro ⟨k,Ls,css,hk,rfl,hg,hI⟩
 refine bL ?_
 refine aH (fun hki=>?_) (fun hki=>?_)
 ·have hk':k<p.length:=by omega
  have htl:(p.take k).length=k:=by simp; omega
  have hcl:=hg.hc
  refine cj hI h bi be hk' (fun _ _=>RdC.length) fun cs hcs=>?_
  have hm:=bQ hk'
  have hwm:=FJ hm
  have hlc:=hcs.length
  refine aP hI dA fun b6 w' hI=>?_
  have hI:=hI.perm (M:=.blk b6 _::(aE t3 ag 5 css::bj Ls.flatten)) (co (l₁:=[_]))
  refine aA hI 0 rfl be (by simpa using hlc) rfl (by simpa using hcs.one) fun w' hI=>?_
  refine az hI 0 be rfl (by simpa using hlc) ?_
  have hI:Inv w [] (aE t3 ag 5 css::bj Ls.flatten) S w':=hI.sub (gk _ _)
  refine Run.call0 CG BL hI (zj hcs (by omega)) fun v' I' S' w'=>?_
  rintro ⟨rfl,cs',L,rfl,rfl,hT⟩ _ hI
  refine cM hI 0 cs' de (by omega) (by omega) rfl hT.length hT.one (by omega) (by omega) fun v' w' hI=>?_
  refine bn (by omega) ?_
  refine ⟨⟨k+1,Ls++[L],css++[cs'],hk',rfl,?_,?_⟩,by simp [intOf]; omega⟩
  ·rw [fy hk']
   exact hg.snoc hT hT.length
  ·simp only [vD,gx,qW,cX,dv]
   exact hI
 ·have:k=p.length:=by omega
  subst this
  rw [fM] at hg
  obtain ⟨L,hT,hI⟩:=Inv.rowTree (A:=[]) hI hg
  exact ⟨_,_,_,rfl,hI,Ext.refl _ _ _,rfl,_,rfl,hT⟩

theorem Inv.rowSlice {w0 w:World} {X:List Nat} {L:List Item} {S:ad} {v:Value} {e:TypeId} {k n:Nat} {xs:List Value} (h:Inv w0 X L S w) (i:Nat) (hi:L[i]?=some (.row v e k n xs)):∃ a m c,v=.slice a m c:=by
 have hm:w.ownsRow 0 e k v n xs:=h.its (.row v e k n xs) (du hi)
 rcases hm.2 with ⟨rfl,_⟩|⟨g,cap,cur,rfl,_⟩
 ·exact ⟨_,_,_,rfl⟩
 ·exact ⟨_,_,_,rfl⟩
def aY (B1 B2 B3 B3' r r':Item) (rest:List Item) (M:aU) (B27:Item) (d7 d8 d9 d11:Bool):List Item:=
 B1::B2::(match d11 with|true=>B3'|false=>B3)::(match d9 with|true=>r'|false=>r)::(rest++((match d7 with|true=>bj M|false=>[])++(match d8 with|true=>[B27]|false=>[])))

theorem fV:∀ (t:T) (S:ad) (cs:List Value),RdT S cs t->wT t<=1048576->Tri Tryz.prog s0 [.agg cs.toArray] [] S (Eu S t):=by
 refine T.ind fun k n s ks ih S cs h hw=>?_
 intro w hI
 obtain ⟨kv,rfl,h1,h2,hs,hks⟩:=RdT.iff.1 h
 simp only [T.name,T.kids,T.kind,T.n] at h1 h2 hs hks ⊢
 simp only [wT] at hw
 refine lE.2 ?_
 dsimp only[lE,aG]
 refine bp hI fun b1 w' hI=>?_
 refine aP hI aZ fun b2 w' hI=>?_
 refine ae hI 0 rfl aV aI rfl ?_
 refine ae hI 0 rfl bm aI rfl ?_
 refine ae hI 0 rfl aW aN rfl ?_
 refine qQ ?_
 refine aP hI aZ fun b3 w' hI=>?_
 refine aA hI 2 rfl ac rfl rfl (by simp [Value.oneCell']) fun w' hI=>?_
 have hI:=hI.rowNil ab 4
 refine ⟨fun i w'=>∃ (j:Nat) (kvc:Value) (Ls:List aU) (css:List (List Value)),j<=ks.length/\i=.int .i64 j/\Grown 4 TrT Ls css (ks.take j)/\
   Inv w [] (.blk b1 (.cells #[.int .i64 k,.int .i64 n,.string s,kv] ab)::.blk b2 (.cells #[.int .i64 0,.int .i64 0,.string ⟨#[]⟩,.slice none 0 0] ab)::.blk b3 (.cells #[.int .i64 k,.int .i64 n,.string s,kvc] ab)::aE kvc ab 4 css::bj Ls.flatten) S w',
  fun i _=>ks.length - (intOf i).toNat,⟨0,_,[],[],aR _,rfl,Grown.nil _ _,hI⟩,?_⟩
 intro t4 _ _ _ _ _ _ _ _ _ _ _ _ _ _ _ _ _ _ w'
 rintro ⟨j,kvc,Ls,css,hj,rfl,hg,hI⟩
 refine ae hI 0 rfl av ao rfl ?_
 refine aF hks ah ?_
 refine bL ?_
 refine aH (fun hji=>?_) (fun hji=>?_)
 ·have hj':j<ks.length:=by omega
  have hjl:(ks.take j).length=j:=by simp; omega
  have hcl:=hg.hc
  have hm:=bQ hj'
  have hwm:=jf hm
  obtain ⟨b,o,cap,c,E,fz,rfl,hS,hR⟩:=hks.at_ hj'
  refine ⟨fun D zV lq Ak qm ge pu z5 Cm s5 pf pH w_=>Fx D 0 [pH=.pointer (some ⟨b3,3,none⟩),pf=kvc,s5=.pointer (some ⟨b1,3,none⟩),Cm=.slice (some ⟨b,o,none⟩) (ks).length cap,z5=.int .i64 j,pu=.pointer (some ⟨b,o+j * 4,none⟩),ge=.agg (ba c (o+j * 4) 4).toArray,True,True,True,zV=.pointer (some ⟨b3,3,none⟩),True]/\∃ M cs7 b8,(D 7=true->qm=.agg cs7.toArray/\TrT M cs7 (ks)[j])/\(D 8=true->Ak=.slice (some ⟨b8,0,none⟩) 1 1)/\(D 8=true->D 7=true)/\(D 9=true->D 8=true)/\(D 11=true->D 9=true)/\(D 11=true->D 1=true)/\Inv w [] (aY (.blk b1 (.cells #[.int .i64 k,.int .i64 n,.string s,.slice (some ⟨b,o,none⟩) ks.length cap] ab)) (.blk b2 (.cells #[.int .i64 0,.int .i64 0,.string ⟨#[]⟩,.slice none 0 0] ab)) (.blk b3 (.cells #[.int .i64 k,.int .i64 n,.string s,kvc] ab)) (.blk b3 (.cells #[.int .i64 k,.int .i64 n,.string s,lq] ab)) (aE kvc ab 4 css) (aE lq ab 4 (css++[cs7])) (bj Ls.flatten) M (.blk b8 (.cells cs7.toArray ab)) (D 7) (D 8) (D 9) (D 11)) S w_,⟨Fx.nil _ _,⟨[],[],0,aQ,aQ,aQ,aQ,aQ,aQ,by simpa [aY,bj] using hI.draw⟩⟩,⟨?_,?_,?_,?_,?_,?_,?_,?_,?_,?_,?_,?_,trivial⟩,?_⟩
  all_goals (intro D bI; intros; rename_i zV lq Ak qm ge pu z5 Cm s5 pf pH w_ hA_; have hF_:=hA_.1; obtain ⟨⟨cJ,cH,cK,cI,cN,cP,cz,dC,ek,fZ,dr,dM,_⟩,⟨M,cs7,b8,e7,e8,k8,k9,k11,k1,hI⟩⟩:=hA_)
  ·refine aC av ?_
   exact ⟨hF_.set 0 rfl,⟨M,cs7,b8,e7,e8,k8,k9,k11,k1,hI⟩⟩
  ·obtain rfl:=cJ ‹_›
   have f11:D 11=false:=cq.2 fun h=>by rw [k1 h] at bI; cases bI
   refine bb (b:=b3) hI 2 (c:=(#[.int .i64 k,.int .i64 n,.string s,kvc])) ao (by rw [f11]; rfl) rfl ?_
   have k1:=fun (_:aB D 1 11=true)=>(rfl:aB D 1 1=true)
   exact ⟨hF_.set 1 rfl,⟨M,cs7,b8,e7,e8,k8,k9,k11,k1,hI⟩⟩
  ·refine aC av ?_
   exact ⟨hF_.set 2 rfl,⟨M,cs7,b8,e7,e8,k8,k9,k11,k1,hI⟩⟩
  ·obtain rfl:=cK ‹_›
   refine bb hI 0 ao rfl rfl ?_
   exact ⟨hF_.set 3 rfl,⟨M,cs7,b8,e7,e8,k8,k9,k11,k1,hI⟩⟩
  ·exact ⟨hF_.set 4 rfl,⟨M,cs7,b8,e7,e8,k8,k9,k11,k1,hI⟩⟩
  ·obtain rfl:=cI ‹_›
   obtain rfl:=cN ‹_›
   refine aD ah hj' ?_
   exact ⟨hF_.set 5 rfl,⟨M,cs7,b8,e7,e8,k8,k9,k11,k1,hI⟩⟩
  ·obtain rfl:=cP ‹_›
   refine cm ac hR.length (fun j v hj=>by rw [hI.cellS hS]; exact aL rfl j v hj) ?_
   exact ⟨hF_.set 6 rfl,⟨M,cs7,b8,e7,e8,k8,k9,k11,k1,hI⟩⟩
  ·obtain rfl:=cz ‹_›
   have f8:D 8=false:=cq.2 fun h=>by rw [k8 h] at bI; cases bI
   have f9:D 9=false:=cq.2 fun h=>by rw [k9 h] at f8; cases f8
   have f11:D 11=false:=cq.2 fun h=>by rw [k11 h] at f9; cases f9
   rw [bI,f8,f9,f11] at hI
   refine Run.call0 eP eV hI (ih _ (bQ hj') S _ hR (by omega)) fun v' I' S w_=>?_
   rintro ⟨rfl,cs7,M,rfl,rfl,hT⟩ _ hI
   have e7:aB D 7 7=true->Value.agg cs7.toArray=Value.agg cs7.toArray/\TrT M cs7 (ks)[j]:=fun _=>⟨rfl,hT⟩
   have k8:=fun (_:aB D 7 8=true)=>(rfl:aB D 7 7=true)
   have hI:Inv w [] (aY (.blk b1 (.cells #[.int .i64 k,.int .i64 n,.string s,.slice (some ⟨b,o,none⟩) ks.length cap] ab)) (.blk b2 (.cells #[.int .i64 0,.int .i64 0,.string ⟨#[]⟩,.slice none 0 0] ab)) (.blk b3 (.cells #[.int .i64 k,.int .i64 n,.string s,kvc] ab)) (.blk b3 (.cells #[.int .i64 k,.int .i64 n,.string s,lq] ab)) (aE kvc ab 4 css) (aE lq ab 4 (css++[cs7])) (bj Ls.flatten) M (.blk b8 (.cells cs7.toArray ab)) true (D 8) (D 9) (D 11)) S w_:=by
    rw [f8,f9,f11]
    simpa [aY] using hI
   exact ⟨hF_.set 7 (by first|assumption|trivial),⟨M,cs7,b8,e7,e8,k8,k9,k11,k1,hI⟩⟩
  ·have PT:=dC ‹_›
   have f9:D 9=false:=cq.2 fun h=>by rw [k9 h] at bI; cases bI
   have f11:D 11=false:=cq.2 fun h=>by rw [k11 h] at f9; cases f9
   obtain ⟨q7,hT⟩:=e7 ‹D 7=true›
   subst q7
   rw [‹D 7=true›,bI,f9,f11] at hI
   refine d6 hI bA (by simp [Value.cells,hT.length]) (by omega) (by omega) fun b8 w_ hI=>?_
   have e7:aB D 8 7=true->Value.agg cs7.toArray=Value.agg cs7.toArray/\TrT M cs7 (ks)[j]:=fun _=>⟨rfl,hT⟩
   have e8:=fun (_:aB D 8 8=true)=>(rfl:Value.slice (some ⟨b8,0,none⟩) 1 1=_)
   have k8:=fun (_:aB D 8 8=true)=>‹D 7=true›
   have k9:=fun (_:aB D 8 9=true)=>(rfl:aB D 8 8=true)
   have hI:Inv w [] (aY (.blk b1 (.cells #[.int .i64 k,.int .i64 n,.string s,.slice (some ⟨b,o,none⟩) ks.length cap] ab)) (.blk b2 (.cells #[.int .i64 0,.int .i64 0,.string ⟨#[]⟩,.slice none 0 0] ab)) (.blk b3 (.cells #[.int .i64 k,.int .i64 n,.string s,kvc] ab)) (.blk b3 (.cells #[.int .i64 k,.int .i64 n,.string s,lq] ab)) (aE kvc ab 4 css) (aE lq ab 4 (css++[cs7])) (bj Ls.flatten) M (.blk b8 (.cells cs7.toArray ab)) (D 7) true (D 9) (D 11)) S w_:=by
    rw [‹D 7=true›,f9,f11]
    simpa [aY,Value.cells] using hI
   exact ⟨hF_.set 8 (by first|assumption|trivial),⟨M,cs7,b8,e7,e8,k8,k9,k11,k1,hI⟩⟩
  ·obtain rfl:=cH ‹_›
   have NO:=ek ‹_›
   have f11:D 11=false:=cq.2 fun h=>by rw [k11 h] at bI; cases bI
   have q8:=e8 ‹D 8=true›
   subst q8
   obtain ⟨_,hT⟩:=e7 ‹D 7=true›
   rw [‹D 7=true›,‹D 8=true›,bI,f11] at hI
   have hblk:((aY (.blk b1 (.cells #[.int .i64 k,.int .i64 n,.string s,.slice (some ⟨b,o,none⟩) ks.length cap] ab)) (.blk b2 (.cells #[.int .i64 0,.int .i64 0,.string ⟨#[]⟩,.slice none 0 0] ab)) (.blk b3 (.cells #[.int .i64 k,.int .i64 n,.string s,pf] ab)) (.blk b3 (.cells #[.int .i64 k,.int .i64 n,.string s,lq] ab)) (aE pf ab 4 css) (aE lq ab 4 (css++[cs7])) (bj Ls.flatten) M (.blk b8 (.cells cs7.toArray ab)) true true false false))[4+(bj Ls.flatten).length+(bj M).length]?=some (.blk b8 (.cells cs7.toArray ab)):=by
    have e4:4+(bj Ls.flatten).length+(bj M).length=((bj Ls.flatten).length+(bj M).length)+1+1+1+1:=by omega
    rw [e4]
    simp only [aY,lx]
    rw [gP (by omega),qj,gP (aM _),dY]; rfl
   refine dy hI 3 cs7 bA (by omega) rfl (by rw [hT.length]) (m:=1) (o:=0) ?_ hT.one (by omega) (by omega) fun v' w_ hI=>?_
   ·intro i u hi
    rw [hI.cellL hblk,cZ]
    simpa using hi
   rw [eK] at hI
   have k9:=fun (_:aB D 9 9=true)=>‹D 8=true›
   have k11:=fun (_:aB D 9 11=true)=>(rfl:aB D 9 9=true)
   have hI:Inv w [] (aY (.blk b1 (.cells #[.int .i64 k,.int .i64 n,.string s,.slice (some ⟨b,o,none⟩) ks.length cap] ab)) (.blk b2 (.cells #[.int .i64 0,.int .i64 0,.string ⟨#[]⟩,.slice none 0 0] ab)) (.blk b3 (.cells #[.int .i64 k,.int .i64 n,.string s,pf] ab)) (.blk b3 (.cells #[.int .i64 k,.int .i64 n,.string s,v'] ab)) (aE pf ab 4 css) (aE v' ab 4 (css++[cs7])) (bj Ls.flatten) M (.blk b8 (.cells cs7.toArray ab)) (D 7) (D 8) true (D 11)) S w_:=by
    rw [‹D 7=true›,‹D 8=true›,f11]
    exact hI
   exact ⟨hF_.set 9 (by first|assumption|trivial),⟨M,cs7,b8,e7,e8,k8,k9,k11,k1,hI⟩⟩
  ·refine aC av ?_
   exact ⟨hF_.set 10 rfl,⟨M,cs7,b8,e7,e8,k8,k9,k11,k1,hI⟩⟩
  ·obtain rfl:=dr ‹_›
   have PR:=fZ ‹_›
   rw [‹D 7=true›,‹D 8=true›,‹D 9=true›,bI] at hI
   obtain ⟨va,vn,vc,hv9⟩:=Inv.rowSlice hI 3 rfl
   refine df hI 2 (n:=1) (by rw [hv9]; rfl) (by decide +kernel) rfl (by simp) (by rw [hv9]; simp [Value.cells,Value.oneCell']) fun w_ hI=>?_
   have hcl9:Value.cells lq=#[lq]:=by rw [hv9]; rfl
   rw [hcl9] at hI
   have k1:=fun (_:aB D 11 11=true)=>‹D 1=true›
   have k11:=fun (_:aB D 11 11=true)=>‹D 9=true›
   have hI:Inv w [] (aY (.blk b1 (.cells #[.int .i64 k,.int .i64 n,.string s,.slice (some ⟨b,o,none⟩) ks.length cap] ab)) (.blk b2 (.cells #[.int .i64 0,.int .i64 0,.string ⟨#[]⟩,.slice none 0 0] ab)) (.blk b3 (.cells #[.int .i64 k,.int .i64 n,.string s,kvc] ab)) (.blk b3 (.cells #[.int .i64 k,.int .i64 n,.string s,lq] ab)) (aE kvc ab 4 css) (aE lq ab 4 (css++[cs7])) (bj Ls.flatten) M (.blk b8 (.cells cs7.toArray ab)) (D 7) (D 8) (D 9) true) S w_:=by
    rw [‹D 7=true›,‹D 8=true›,‹D 9=true›]
    exact hI
   exact ⟨hF_.set 11 trivial,⟨M,cs7,b8,e7,e8,k8,k9,k11,k1,hI⟩⟩
  obtain ⟨rfl,rfl,rfl,rfl,rfl,rfl,rfl,PT,NO,PR,rfl,_,_⟩:=hF_.all
  have C5:D 7=true:=by assumption
  have N5:D 8=true:=by assumption
  have Sd:D 9=true:=by assumption
  have Cc:D 11=true:=by assumption
  clear hF_ cJ cH cK cI cN cP cz dC ek fZ dr dM
  obtain ⟨_,hT⟩:=e7 C5
  rw [C5,N5,Sd,Cc] at hI
  refine bn (by omega) ?_
  refine ⟨⟨j+1,lq,Ls++[M],css++[cs7],hj',rfl,?_,?_⟩,by simp [intOf]; omega⟩
  ·rw [fy hj']
   exact hg.snoc hT hT.length
  ·simp only [vD,gx,qW,cX,dv]
   refine hI.sub ?_
   simp only [aY]
   rw [<- eI]
   exact (((dn _ _).cons_cons _).cons_cons _).cons_cons _ |>.cons_cons _
 ·have:j=ks.length:=by omega
  subst this
  rw [fM] at hg
  obtain ⟨va,vn,vc,hvk⟩:=hI.rowSlice 3 rfl
  have hv1:kvc.oneCell'=true:=by rw [hvk]; rfl
  refine az hI 2 ac rfl rfl ?_
  refine aA hI 1 rfl ac rfl rfl ?_ fun w' hI=>?_
  ·intro u hu
   have hu':u∈([.int .i64 k,.int .i64 n,.string s,kvc]:List Value):=hu
   simp at hu'
   rcases hu' with rfl|rfl|rfl|rfl <;> first|rfl|exact hv1
  refine bw hI 1 ac rfl rfl ?_
  have hI:Inv w [] ([]++(aE kvc ab 4 css::bj Ls.flatten)) S w':=hI.sub (dz [_,_,_] _)
  obtain ⟨L,hT,hI⟩:=Inv.rowTree hI hg
  exact ⟨_,_,_,rfl,hI,Ext.refl _ _ _,rfl,_,L,rfl,rfl,TrT.iff.2 ⟨kvc,rfl,h1,h2,hs,hT⟩⟩
end
end
section
open Go Go.RowKit
attribute [local irreducible] Run CondV aq aK

def ws (t u:T):Bool:=decide (t.kind=u.kind) && (decide (t.n=u.n) && (decide (t.name=u.name) && decide (t.kids.length=u.kids.length)))
theorem zS (k n k' n':Int) (s s':ByteArray) (ks ks':List T):ws (.mk k n s ks) (.mk k' n' s' ks')=(decide (k=k') && (decide (n=n') && (decide (s=s') && decide (ks.length=ks'.length)))):=rfl
theorem SV {α β:Type} (a:List α) (b:List β):decide (a.length=b.length)=decide ((a.length:Int)=(b.length:Int)):=by
 rw [oS]
 simp only [bC]
 omega
end
section
open Go Go.RowKit
attribute [local irreducible] Run CondV aq aK

theorem nl {xs:List T} (ih:∀ t∈xs,∀ (u:T) (S:ad) (cs ds:List Value),RdT S cs t->RdT S ds u->Pure Tryz.prog nC [.agg cs.toArray,.agg ds.toArray] S (.bool (eqT t u)))
  {ys:List T} {S:ad} {v u:Value} (h:RdSl S 4 (RdT S) v xs) (h':RdSl S 4 (RdT S) u ys):Pure Tryz.prog sD [v,u,.func (.func nC) #[] #[]] S (.bool (eqL xs ys)):=by
 intro w hI
 have hlen:(xs.length:Int)<=9223372036854775807:=by have:=h.le; simp only [maxLen] at this; omega
 refine jk.2 ?_
 dsimp only[jk,gM]
 refine aF h ah ?_
 refine aF h' ah ?_
 refine gV ?_
 refine aw (fun hne=>?_) (fun he=>?_)
 ·exact done hI (by rw [QW (by simp at hne; omega)])
 have he:xs.length=ys.length:=by simp at he; omega
 refine aF h ah ?_
 refine ⟨fun i w'=>∃ (k:Nat),k<=xs.length/\i=.int .i64 k/\eqL (xs.drop k) (ys.drop k)=eqL xs ys/\Inv w [] [] S w',fun i _=>xs.length - (intOf i).toNat,⟨0,aR _,rfl,rfl,hI⟩,?_⟩
 intro t5 _ _ _ _ _ _ _ _ _ _ _ _ _ _ _ _ _ _ w'
 rintro ⟨k,hk,rfl,hrel,hI⟩
 refine bL ?_
 refine aH (fun hki=>?_) (fun hki=>?_)
 ·have hk1:k<xs.length:=by omega
  have hk2:k<ys.length:=by omega
  have hstep:eqL (xs.drop k) (ys.drop k)=(eqT xs[k] ys[k] && eqL (xs.drop (k+1)) (ys.drop (k+1))):=by
   rw [di hk1,di hk2,eqL]
  refine cj hI h ah ac hk1 (fun _ _=>RdT.length) fun cs hcs=>?_
  have hlc:=hcs.length
  refine aP hI aZ fun b8 w' hI=>?_
  refine aA hI 0 rfl ac (by simpa using hlc) rfl (by simpa using hcs.one) fun w' hI=>?_
  refine cj hI h' ah ac hk2 (fun _ _=>RdT.length) fun ds hds=>?_
  have hld:=hds.length
  refine aP hI aZ fun b9 w' hI=>?_
  refine aA hI 1 rfl ac (by simpa using hld) rfl (by simpa using hds.one) fun w' hI=>?_
  refine az hI 0 ac rfl (by simpa using hlc) ?_
  refine az hI 1 ac rfl (by simpa using hld) ?_
  refine Run.callPure lK l3 hI (ih _ (bQ hk1) _ S _ _ hcs hds) fun w' hI=>?_
  refine ct ?_
  refine aw (fun hne=>?_) (fun he'=>?_)
  ·exact done hI (by rw [<- hrel,hstep]; simp at hne; rw [hne]; rfl)
  ·refine bn (by omega) ?_
   refine ⟨⟨k+1,hk1,rfl,?_,hI.nil⟩,by simp [intOf]; omega⟩
   rw [<- hrel,hstep]
   simp at he'
   rw [he',dU]
 ·have:k=xs.length:=by omega
  subst this
  refine done hI ?_
  rw [<- hrel,dP,he,dP]
  rfl
theorem fW:∀ (t u:T) (S:ad) (cs ds:List Value),RdT S cs t->RdT S ds u->Pure Tryz.prog nC [.agg cs.toArray,.agg ds.toArray] S (.bool (eqT t u)):=by
 refine T.ind fun k n s ks ih u S cs ds h h'=>?_
 intro w hI
 obtain ⟨kv,rfl,_,_,_,hks⟩:=RdT.iff.1 h
 obtain ⟨kv',rfl,_,_,_,hks'⟩:=RdT.iff.1 h'
 obtain ⟨k',n',s',ks'⟩:=u
 simp only [T.name,T.kids,T.kind,T.n] at hks hks' ⊢
 refine rP.2 ?_
 dsimp only[rP,aO]
 refine bp hI fun b1 w' hI=>?_
 refine bp hI fun b2 w' hI=>?_
 refine ae hI 0 rfl aV aI rfl ?_
 refine ae hI 1 rfl aV aI rfl ?_
 refine bl ?_
 by_cases e1:k=k'
 ·rw [aS e1]
  refine rpG ?_
  refine ae hI 0 rfl bm aI rfl ?_
  refine ae hI 1 rfl bm aI rfl ?_
  refine bl ?_
  by_cases e2:n=n'
  ·rw [aS e2]
   refine rpG ?_
   refine ae hI 0 rfl aW aN rfl ?_
   refine ae hI 1 rfl aW aN rfl ?_
   refine bt ?_
   by_cases e3:s=s'
   ·rw [aS e3]
    refine rpG ?_
    refine ae hI 0 rfl av ao rfl ?_
    refine ae hI 1 rfl av ao rfl ?_
    refine Run.callPure gj gn hI (nl ih hks hks') fun w' hI=>?_
    refine rpG ?_
    exact done hI (by rw [eqT,aS e1,aS e2,aS e3]; rfl)
   ·rw [bg e3]
    refine rpG ?_
    exact done hI (by rw [eqT,aS e1,aS e2,bg e3]; rfl)
  ·rw [bg e2]
   refine rpG ?_
   exact done hI (by rw [eqT,aS e1,bg e2]; rfl)
 ·rw [bg e1]
  refine rpG ?_
  exact done hI (by rw [eqT,bg e1]; rfl)
end
section
open Go Go.RowKit

theorem qU {n:Int}:∀ (l:List MapEntry) (i:Nat),(∀ e∈l,∃ m,e.key=.int .i64 m)->
  (∃ j,∃ e∈l,e.key=.int .i64 n/\Instr.findNow (.int .i64) (.int .i64 n) l i=some (some (j,e.val))) ∨ ((∀ e∈l,e.key≠.int .i64 n)/\Instr.findNow (.int .i64) (.int .i64 n) l i=some none)
 | [],i,_=>.inr ⟨by simp,rfl⟩
 | e::l,i,h=>by
  obtain ⟨m,hm⟩:=h e (bq ..)
  have hs:Instr.sameNow (.int .i64) (.int .i64 n) e.key=some (n == m):=by rw [hm]; rfl
  by_cases hnm:n=m
  ·refine .inl ⟨i,e,bq ..,by rw [hm,hnm],?_⟩
   have:(n == m)=true:=by simpa using hnm
   rw [Instr.findNow,hs,this]
  ·have h2:(n == m)=false:=by simpa using hnm
   rcases qU l (i+1) (fun e he=>h e (bv _ he)) with ⟨j,e',he',hk,hf⟩|⟨hk,hf⟩
   ·exact .inl ⟨j,e',bv _ he',hk,by rw [Instr.findNow,hs,h2]; exact hf⟩
   ·refine .inr ⟨fun x hx=>?_,by rw [Instr.findNow,hs,h2]; exact hf⟩
    rcases cQ.1 hx with rfl|hx
    ·rw [hm]
     intro e'
     simp only [Value.int.injEq,sy] at e'
     exact hnm e'.symm
    ·exact hk x hx
section
variable {P:Program} {w w0:World} {X:List Nat} {L:List Item} {S:ad} {K:Value->World->Prop}
attribute [local irreducible] Run CondV aq aK
theorem jA {kt:TypeId} {d:TypeDesc} {k:Value} {l:List MapEntry} {a:Option (Nat × Value)} (hd:P.underlying kt=some d) (h:Instr.findNow d k l 0=some a):(Instr.findKey kt k l).run P w=.ok a w:=by
 simp [Instr.findKey,run_underlying hd,Result.andThen,h]
theorem D7 (h:Inv w0 X L S w) {T ty:TypeId} (hk:∀ b w',Inv w0 X (L++[.blk b (.map #[] 0)]) S w'->K (.map (some b)) w'):Run P (sOp (.makeMap T none) ty) w K:=by
 refine Run.of (v:=.map (some w.heap.size)) (w':={ w with heap:=w.heap.push (.map #[] 0) }) ?_ (hk _ _ (h.alloc _))
 simp [sOp,execOp,Instr.makeMap,newObj,Sem.run]
theorem Io (h:Inv w0 X L S w) {T kt et ty:TypeId} {b clock:Nat} {es:Array MapEntry} {n:Int} {v:Value} (i:Nat) (hT:P.underlying T=some (.map kt et)) (hkt:P.underlying kt=some (.int .i64))
  (hi:L[i]?=some (.blk b (.map es clock))) (hf:Instr.findNow (.int .i64) (.int .i64 n) es.toList 0=some none)
  (hk:∀ w',Inv w0 X (L.set i (.blk b (.map (es.push { key:=.int .i64 n,val:=v,born:=clock }) (clock+1)))) S w'->K undef w') :
  Run P (sOp (.mapUpdate T (.const (.map (some b))) (.const (.int .i64 n)) (.const v)) ty) w K:=by
 have hb:w.heap[b]?=some (.map es clock):=h.its _ (du hi)
 have hck:∀ e,(Instr.checkKey e 10000 kt (.int .i64 n)).run P w=.ok () w:=fun e=>by
  rw [show (10000:Nat)=9999+1 from rfl,Instr.checkKey]
  simp [run_underlying hkt]
 have hg:(getObj b).run P w=.ok (.map es clock) w:=by simp [getObj,Sem.run,hb]
 have hfk:=jA (P:=P) (w:=w) hkt hf
 refine Run.ofSkip (w':={ w with heap:=w.heap.setIfInBounds b (.map (es.push { key:=.int .i64 n,val:=v,born:=clock }) (clock+1)) }) ?_ (hk _ (h.setBlk hi _ rfl))
 have hst:(setObj b (.map (es.push { key:=.int .i64 n,val:=v,born:=clock }) (clock+1))).run P w=.ok () { w with heap:=w.heap.setIfInBounds b (.map (es.push { key:=.int .i64 n,val:=v,born:=clock }) (clock+1)) }:=by simp [setObj,Sem.run,hb]
 simp [sOp,execOp,ev0,evE,Instr.mapUpdate,run_underlying hT,hg,hck,hfk,hst]
end
end
section
open Go Go.RowKit

abbrev aj:=List (Option T)
mutual
def nJ:T->T->aj->Bool × aj
 | .mk k n s ks,u,st=>if k=1 then (match st[n.toNat]? with
   | some (some t)=>(eqT t u,st)
   | _=>(true,st.set n.toNat (some u)))
  else if ws (.mk k n s ks) u=true then Ol ks u.kids st else (false,st)
def Ol:List T->List T->aj->Bool × aj
 | [],_,st=>(true,st)
 | _::_,[],st=>(true,st)
 | t::ts,u::us,st=>if (nJ t u st).1=true then Ol ts us (nJ t u st).2 else (false,(nJ t u st).2)
end
mutual
def okV:T->Prop
 | .mk k n _ ks=>(k=1->0<=n/\n<=25)/\Bm ks
def Bm:List T->Prop
 | []=>True
 | t::ts=>okV t/\Bm ts
end
theorem JB:∀ {ts:List T},Bm ts->∀ t∈ts,okV t
 | _::_,h,t,ht=>by
  rcases cQ.1 ht with rfl|ht
  ·exact h.1
  ·exact JB h.2 t ht
theorem Sc {t:T} (h:eN t=true):(t.kind=1->0<=t.n/\t.n<=25)/\t.kind≠0:=by
 unfold eN at h
 refine ⟨fun hk=>?_,fun hk=>?_⟩
 ·rw [ai hk] at h
  simp only [bN,bC] at h
  exact ⟨h.1,h.2.1⟩
 ·rw [af (by omega),af (by omega),af (by omega)] at h
  cases h
def n5:List Value:=[.int .i64 0,.int .i64 0,.string ⟨#[]⟩,.slice none 0 0]
def KnownC (S:ad) (c:Array Value) (st:aj):Prop:=104<=c.size/\∀ i (h:i<st.length),(st[i]=none->ba c (i * 4) 4=n5)/\(∀ t,st[i]=some t->RdT S (ba c (i * 4) 4) t)
theorem KnownC.set {S:ad} {c:Array Value} {st:aj} (h:KnownC S c st) {n:Nat} (hn:n<26) {cs:List Value} {u:T} (hu:RdT S cs u):KnownC S (bR c (n * 4) cs) (st.set n (some u)):=by
 have hlc:=hu.length
 have h1:=h.1
 have hs:104<=(bR c (n * 4) cs).size:=by rw [lU _ _ _ (by omega)]; exact h1
 refine ⟨hs,fun i hi=>?_⟩
 rw [oI] at hi
 by_cases e:n=i
 ·subst e
  rw [Jk]
  refine ⟨fun h=>(by cases h),fun t ht=>?_⟩
  simp only [aT] at ht
  subst ht
  have:=ip (c:=c) (o:=n * 4) (vs:=cs) (by omega)
  rw [hlc] at this
  rw [this]
  exact hu
 ·rw [Mi e,jR (by omega) (by omega)]
  exact h.2 i hi
section
attribute [local irreducible] Run CondV aq aK
abbrev kvn (kb kp:Nat):Value:=.slice (some ⟨kb,0,none⟩) 26 kp
abbrev kv0 (kb:Nat):Value:=kvn kb 26
end
end
section
open Go Go.RowKit

def Ro:List Int->Int->Int->Nat->Int
 | [],_,cur,_=>cur
 | x::xs,n,cur,k=>Ro xs n (if x=n then (k:Int) else cur) (k+1)
def Pb (vs:List Int) (n:Int):Int:=(ce (σ:=Unit) (fun _ x=>(decide (n=x),())) () vs 0).1
mutual
def Ri (vs:List Int):T->T
 | .mk k n s ks=>.mk k (if k=1 then Ro vs n n 0 else n) s (NU vs ks)
def NU (vs:List Int):List T->List T
 | []=>[]
 | t::ts=>Ri vs t::NU vs ts
end
mutual
def r4 (vs:List Int):T->T
 | .mk k n s ks=>if k=1 then .mk 1 (Pb vs n) ⟨#[]⟩ [] else .mk k n s (iN vs ks)
def iN (vs:List Int):List T->List T
 | []=>[]
 | t::ts=>r4 vs t::iN vs ts
end
theorem N3 (vs:List Int) (n:Int):-1<=Pb vs n/\Pb vs n<vs.length+1:=by
 have:∀ (xs:List Int) (k:Nat),-1<=(ce (σ:=Unit) (fun _ x=>(decide (n=x),())) () xs k).1/\(ce (σ:=Unit) (fun _ x=>(decide (n=x),())) () xs k).1<k+xs.length+1:=by
  intro xs
  induction xs with
  | nil=>intro k; simp [ce]; omega
  | cons x xs ih=>
   intro k
   rw [ce]
   have:=ih (k+1)
   split
   ·simp; omega
   ·simp only [bk]; omega
 have h:=this vs 0
 rw [Pb]
 omega
theorem O5 (l:List Int) (n:Int):PI l n=true↔n∈l:=by
 simp [PI]
theorem Pv {t:T} (h:eN t=true) (hk:t.kind=1):t.name=emptyB/\t.kids.length=0:=by
 unfold eN at h
 rw [ai hk] at h
 simp only [bN,bC] at h
 exact ⟨h.2.2.1,h.2.2.2⟩
theorem mj (vs:List Int):∀ ts:List T,(iN vs ts).length=ts.length
 | []=>rfl
 | t::ts=>by rw [iN]; simp [mj vs ts]
theorem Ap (vs:List Int) (ts:List T) (j:Nat) (h:j<ts.length):iN vs (ts.take (j+1))=iN vs (ts.take j)++[r4 vs ts[j]]:=by
 have:∀ (xs ys:List T),iN vs (xs++ys)=iN vs xs++iN vs ys:=by
  intro xs ys
  induction xs with
  | nil=>rfl
  | cons x xs ih=>simp [iN,ih]
 rw [fy h,this]; rfl
def Uq (vs:List Int) (c:C):C:=⟨Ri vs c.head,NU vs c.body⟩
def Ui (c:C):List Int:=lY (c.head::c.body) []
end
section
open Go Go.RowKit
section
attribute [local irreducible] Run CondV aq aK
theorem vM {c0:C} {S:ad} {cs:List Value} (h:RdC S cs c0) (hw:wC c0<=1048576):Tri Tryz.prog AZ [.agg cs.toArray] [] S (Rd S c0):=by
 intro w hI
 obtain ⟨hd,ks,rfl,h1,h2⟩:=h
 have h1':=h1
 obtain ⟨kv,rfl,g1,g2,g3,g4⟩:=RdT.iff.1 h1
 unfold wC at hw
 refine lr.2 ?_
 dsimp only[lr,aG]
 refine bp hI fun b1 w' hI=>?_
 refine aP hI dA fun b2 w' hI=>?_
 refine aC bZ ?_
 refine ey hI 0 [.int .i64 c0.head.kind,.int .i64 c0.head.n,.string c0.head.name,kv] ac rfl rfl Jp ?_
 refine Run.call0 eP eV hI (fV _ S _ h1' (by omega)) fun v' I' S w'=>?_
 rintro ⟨rfl,cs1,N,rfl,rfl,hT1⟩ _ hI
 obtain ⟨kh,rfl,_⟩:=TrT.iff.1 hT1
 refine kS ?_
 refine aP hI dA fun b3 w' hI=>?_
 have hI:=hI.perm (M:=.blk b1 _::.blk b2 _::.blk b3 _::bj N) (((co (l₁:=[_])).cons _).cons _)
 refine aA hI 2 rfl be rfl rfl ?_ fun w' hI=>?_
 ·intro u hu
  have hu':u∈([.int .i64 c0.head.kind,.int .i64 c0.head.n,.string c0.head.name,kh,.slice none 0 0]:List Value):=hu
  simp at hu'
  have o1:kh.oneCell'=true:=hT1.one kh (by simp)
  rcases hu' with rfl|rfl|rfl|rfl|rfl <;> first|rfl|exact o1
 have hI:=hI.rowNil ab 4
 have hI:=hI.perm (M:=.blk b1 (.cells #[.int .i64 c0.head.kind,.int .i64 c0.head.n,.string c0.head.name,kv,ks] ag)::.blk b2 (.cells #[.int .i64 0,.int .i64 0,.string ⟨#[]⟩,.slice none 0 0,.slice none 0 0] ag)::.blk b3 (.cells #[.int .i64 c0.head.kind,.int .i64 c0.head.n,.string c0.head.name,kh,.slice none 0 0] ag)::aE (.slice none 0 0) ab 4 []::bj N) ((((co (l₁:=[_])).cons _).cons _).cons _)
 refine ⟨fun i w'=>∃ (j:Nat) (kvc:Value) (Ls:List aU) (css:List (List Value)),j<=c0.body.length/\i=.int .i64 j/\Grown 4 TrT Ls css (c0.body.take j)/\
   Inv w [] (.blk b1 (.cells #[.int .i64 c0.head.kind,.int .i64 c0.head.n,.string c0.head.name,kv,ks] ag)::.blk b2 (.cells #[.int .i64 0,.int .i64 0,.string ⟨#[]⟩,.slice none 0 0,.slice none 0 0] ag)::.blk b3 (.cells #[.int .i64 c0.head.kind,.int .i64 c0.head.n,.string c0.head.name,kh,kvc] ag)::aE kvc ab 4 css::bj (N::Ls).flatten) S w',
  fun i _=>c0.body.length - (intOf i).toNat,⟨0,_,[],[],aR _,rfl,Grown.nil _ _,by simp only [gx,qW,cX]; exact hI⟩,?_⟩
 intro t4 _ _ _ _ _ _ _ _ _ _ _ _ _ _ _ _ _ _ w'
 rintro ⟨j,kvc,Ls,css,hj,rfl,hg,hI⟩
 refine ae hI 0 rfl bo ao rfl ?_
 refine aF h2 ah ?_
 refine bL ?_
 refine aH (fun hji=>?_) (fun hji=>?_)
 ·have hj':j<c0.body.length:=by omega
  have hjl:(c0.body.take j).length=j:=by simp; omega
  have hcl:=hg.hc
  have hm:=bQ hj'
  have hwm:=jf hm
  obtain ⟨b,o,cap,c,E,fz,rfl,hS,hR⟩:=h2.at_ hj'
  refine ⟨fun D qm ge pu z5 Cm s5 pf pH BX mZ vm w_=>Fx D 0 [vm=.pointer (some ⟨b3,4,none⟩),mZ=kvc,BX=.pointer (some ⟨b1,4,none⟩),pH=.slice (some ⟨b,o,none⟩) (c0.body).length cap,pf=.int .i64 j,s5=.pointer (some ⟨b,o+j * 4,none⟩),Cm=.agg (ba c (o+j * 4) 4).toArray,True,True,True,qm=.pointer (some ⟨b3,4,none⟩),True]/\∃ M cs7 b8,(D 7=true->z5=.agg cs7.toArray/\TrT M cs7 (c0.body)[j])/\(D 8=true->pu=.slice (some ⟨b8,0,none⟩) 1 1)/\(D 8=true->D 7=true)/\(D 9=true->D 8=true)/\(D 11=true->D 9=true)/\(D 11=true->D 1=true)/\Inv w [] (aY (.blk b1 (.cells #[.int .i64 c0.head.kind,.int .i64 c0.head.n,.string c0.head.name,kv,.slice (some ⟨b,o,none⟩) c0.body.length cap] ag)) (.blk b2 (.cells #[.int .i64 0,.int .i64 0,.string ⟨#[]⟩,.slice none 0 0,.slice none 0 0] ag)) (.blk b3 (.cells #[.int .i64 c0.head.kind,.int .i64 c0.head.n,.string c0.head.name,kh,kvc] ag)) (.blk b3 (.cells #[.int .i64 c0.head.kind,.int .i64 c0.head.n,.string c0.head.name,kh,ge] ag)) (aE kvc ab 4 css) (aE ge ab 4 (css++[cs7])) (bj (N::Ls).flatten) M (.blk b8 (.cells cs7.toArray ab)) (D 7) (D 8) (D 9) (D 11)) S w_,⟨Fx.nil _ _,⟨[],[],0,aQ,aQ,aQ,aQ,aQ,aQ,by simpa [aY,bj] using hI.draw⟩⟩,⟨?_,?_,?_,?_,?_,?_,?_,?_,?_,?_,?_,?_,trivial⟩,?_⟩
  all_goals (intro D bI; intros; rename_i qm ge pu z5 Cm s5 pf pH BX mZ vm w_ hA_; have hF_:=hA_.1; obtain ⟨⟨cJ,cH,cK,cI,cN,cP,cz,dC,ek,fZ,dr,dM,_⟩,⟨M,cs7,b8,e7,e8,k8,k9,k11,k1,hI⟩⟩:=hA_)
  ·refine aC bo ?_
   exact ⟨hF_.set 0 rfl,⟨M,cs7,b8,e7,e8,k8,k9,k11,k1,hI⟩⟩
  ·obtain rfl:=cJ ‹_›
   have f11:D 11=false:=cq.2 fun h=>by rw [k1 h] at bI; cases bI
   refine bb (b:=b3) hI 2 (c:=(#[.int .i64 c0.head.kind,.int .i64 c0.head.n,.string c0.head.name,kh,kvc])) ao (by rw [f11]; rfl) rfl ?_
   have k1:=fun (_:aB D 1 11=true)=>(rfl:aB D 1 1=true)
   exact ⟨hF_.set 1 rfl,⟨M,cs7,b8,e7,e8,k8,k9,k11,k1,hI⟩⟩
  ·refine aC bo ?_
   exact ⟨hF_.set 2 rfl,⟨M,cs7,b8,e7,e8,k8,k9,k11,k1,hI⟩⟩
  ·obtain rfl:=cK ‹_›
   refine bb hI 0 ao rfl rfl ?_
   exact ⟨hF_.set 3 rfl,⟨M,cs7,b8,e7,e8,k8,k9,k11,k1,hI⟩⟩
  ·exact ⟨hF_.set 4 rfl,⟨M,cs7,b8,e7,e8,k8,k9,k11,k1,hI⟩⟩
  ·obtain rfl:=cI ‹_›
   obtain rfl:=cN ‹_›
   refine aD ah hj' ?_
   exact ⟨hF_.set 5 rfl,⟨M,cs7,b8,e7,e8,k8,k9,k11,k1,hI⟩⟩
  ·obtain rfl:=cP ‹_›
   refine cm ac hR.length (fun j v hj=>by rw [hI.cellS hS]; exact aL rfl j v hj) ?_
   exact ⟨hF_.set 6 rfl,⟨M,cs7,b8,e7,e8,k8,k9,k11,k1,hI⟩⟩
  ·obtain rfl:=cz ‹_›
   have f8:D 8=false:=cq.2 fun h=>by rw [k8 h] at bI; cases bI
   have f9:D 9=false:=cq.2 fun h=>by rw [k9 h] at f8; cases f8
   have f11:D 11=false:=cq.2 fun h=>by rw [k11 h] at f9; cases f9
   rw [bI,f8,f9,f11] at hI
   refine Run.call0 eP eV hI (fV _ S _ hR (by omega)) fun v' I' S w_=>?_
   rintro ⟨rfl,cs7,M,rfl,rfl,hT⟩ _ hI
   have e7:aB D 7 7=true->Value.agg cs7.toArray=Value.agg cs7.toArray/\TrT M cs7 (c0.body)[j]:=fun _=>⟨rfl,hT⟩
   have k8:=fun (_:aB D 7 8=true)=>(rfl:aB D 7 7=true)
   have hI:Inv w [] (aY (.blk b1 (.cells #[.int .i64 c0.head.kind,.int .i64 c0.head.n,.string c0.head.name,kv,.slice (some ⟨b,o,none⟩) c0.body.length cap] ag)) (.blk b2 (.cells #[.int .i64 0,.int .i64 0,.string ⟨#[]⟩,.slice none 0 0,.slice none 0 0] ag)) (.blk b3 (.cells #[.int .i64 c0.head.kind,.int .i64 c0.head.n,.string c0.head.name,kh,kvc] ag)) (.blk b3 (.cells #[.int .i64 c0.head.kind,.int .i64 c0.head.n,.string c0.head.name,kh,ge] ag)) (aE kvc ab 4 css) (aE ge ab 4 (css++[cs7])) (bj (N::Ls).flatten) M (.blk b8 (.cells cs7.toArray ab)) true (D 8) (D 9) (D 11)) S w_:=by
    rw [f8,f9,f11]
    simpa [aY] using hI
   exact ⟨hF_.set 7 (by first|assumption|trivial),⟨M,cs7,b8,e7,e8,k8,k9,k11,k1,hI⟩⟩
  ·have PT:=dC ‹_›
   have f9:D 9=false:=cq.2 fun h=>by rw [k9 h] at bI; cases bI
   have f11:D 11=false:=cq.2 fun h=>by rw [k11 h] at f9; cases f9
   obtain ⟨q7,hT⟩:=e7 ‹D 7=true›
   subst q7
   rw [‹D 7=true›,bI,f9,f11] at hI
   refine d6 hI bA (by simp [Value.cells,hT.length]) (by omega) (by omega) fun b8 w_ hI=>?_
   have e7:aB D 8 7=true->Value.agg cs7.toArray=Value.agg cs7.toArray/\TrT M cs7 (c0.body)[j]:=fun _=>⟨rfl,hT⟩
   have e8:=fun (_:aB D 8 8=true)=>(rfl:Value.slice (some ⟨b8,0,none⟩) 1 1=_)
   have k8:=fun (_:aB D 8 8=true)=>‹D 7=true›
   have k9:=fun (_:aB D 8 9=true)=>(rfl:aB D 8 8=true)
   have hI:Inv w [] (aY (.blk b1 (.cells #[.int .i64 c0.head.kind,.int .i64 c0.head.n,.string c0.head.name,kv,.slice (some ⟨b,o,none⟩) c0.body.length cap] ag)) (.blk b2 (.cells #[.int .i64 0,.int .i64 0,.string ⟨#[]⟩,.slice none 0 0,.slice none 0 0] ag)) (.blk b3 (.cells #[.int .i64 c0.head.kind,.int .i64 c0.head.n,.string c0.head.name,kh,kvc] ag)) (.blk b3 (.cells #[.int .i64 c0.head.kind,.int .i64 c0.head.n,.string c0.head.name,kh,ge] ag)) (aE kvc ab 4 css) (aE ge ab 4 (css++[cs7])) (bj (N::Ls).flatten) M (.blk b8 (.cells cs7.toArray ab)) (D 7) true (D 9) (D 11)) S w_:=by
    rw [‹D 7=true›,f9,f11]
    simpa [aY,Value.cells] using hI
   exact ⟨hF_.set 8 (by first|assumption|trivial),⟨M,cs7,b8,e7,e8,k8,k9,k11,k1,hI⟩⟩
  ·obtain rfl:=cH ‹_›
   have NO:=ek ‹_›
   have f11:D 11=false:=cq.2 fun h=>by rw [k11 h] at bI; cases bI
   have q8:=e8 ‹D 8=true›
   subst q8
   obtain ⟨_,hT⟩:=e7 ‹D 7=true›
   rw [‹D 7=true›,‹D 8=true›,bI,f11] at hI
   have hblk:((aY (.blk b1 (.cells #[.int .i64 c0.head.kind,.int .i64 c0.head.n,.string c0.head.name,kv,.slice (some ⟨b,o,none⟩) c0.body.length cap] ag)) (.blk b2 (.cells #[.int .i64 0,.int .i64 0,.string ⟨#[]⟩,.slice none 0 0,.slice none 0 0] ag)) (.blk b3 (.cells #[.int .i64 c0.head.kind,.int .i64 c0.head.n,.string c0.head.name,kh,mZ] ag)) (.blk b3 (.cells #[.int .i64 c0.head.kind,.int .i64 c0.head.n,.string c0.head.name,kh,ge] ag)) (aE mZ ab 4 css) (aE ge ab 4 (css++[cs7])) (bj (N::Ls).flatten) M (.blk b8 (.cells cs7.toArray ab)) true true false false))[4+(bj (N::Ls).flatten).length+(bj M).length]?=some (.blk b8 (.cells cs7.toArray ab)):=by
    have e4:4+(bj (N::Ls).flatten).length+(bj M).length=((bj (N::Ls).flatten).length+(bj M).length)+1+1+1+1:=by omega
    rw [e4]
    simp only [aY,lx]
    rw [gP (by omega),qj,gP (aM _),dY]; rfl
   refine dy hI 3 cs7 bA (by omega) rfl (by rw [hT.length]) (m:=1) (o:=0) ?_ hT.one (by omega) (by omega) fun v' w_ hI=>?_
   ·intro i u hi
    rw [hI.cellL hblk,cZ]
    simpa using hi
   rw [eK] at hI
   have k9:=fun (_:aB D 9 9=true)=>‹D 8=true›
   have k11:=fun (_:aB D 9 11=true)=>(rfl:aB D 9 9=true)
   have hI:Inv w [] (aY (.blk b1 (.cells #[.int .i64 c0.head.kind,.int .i64 c0.head.n,.string c0.head.name,kv,.slice (some ⟨b,o,none⟩) c0.body.length cap] ag)) (.blk b2 (.cells #[.int .i64 0,.int .i64 0,.string ⟨#[]⟩,.slice none 0 0,.slice none 0 0] ag)) (.blk b3 (.cells #[.int .i64 c0.head.kind,.int .i64 c0.head.n,.string c0.head.name,kh,mZ] ag)) (.blk b3 (.cells #[.int .i64 c0.head.kind,.int .i64 c0.head.n,.string c0.head.name,kh,v'] ag)) (aE mZ ab 4 css) (aE v' ab 4 (css++[cs7])) (bj (N::Ls).flatten) M (.blk b8 (.cells cs7.toArray ab)) (D 7) (D 8) true (D 11)) S w_:=by
    rw [‹D 7=true›,‹D 8=true›,f11]
    exact hI
   exact ⟨hF_.set 9 (by first|assumption|trivial),⟨M,cs7,b8,e7,e8,k8,k9,k11,k1,hI⟩⟩
  ·refine aC bo ?_
   exact ⟨hF_.set 10 rfl,⟨M,cs7,b8,e7,e8,k8,k9,k11,k1,hI⟩⟩
  ·obtain rfl:=dr ‹_›
   have PR:=fZ ‹_›
   rw [‹D 7=true›,‹D 8=true›,‹D 9=true›,bI] at hI
   obtain ⟨va,vn,vc,hv9⟩:=Inv.rowSlice hI 3 rfl
   refine df hI 2 (n:=1) (by rw [hv9]; rfl) (by decide +kernel) rfl (by simp) (by rw [hv9]; simp [Value.cells,Value.oneCell']) fun w_ hI=>?_
   have hcl9:Value.cells ge=#[ge]:=by rw [hv9]; rfl
   rw [hcl9] at hI
   have k1:=fun (_:aB D 11 11=true)=>‹D 1=true›
   have k11:=fun (_:aB D 11 11=true)=>‹D 9=true›
   have hI:Inv w [] (aY (.blk b1 (.cells #[.int .i64 c0.head.kind,.int .i64 c0.head.n,.string c0.head.name,kv,.slice (some ⟨b,o,none⟩) c0.body.length cap] ag)) (.blk b2 (.cells #[.int .i64 0,.int .i64 0,.string ⟨#[]⟩,.slice none 0 0,.slice none 0 0] ag)) (.blk b3 (.cells #[.int .i64 c0.head.kind,.int .i64 c0.head.n,.string c0.head.name,kh,kvc] ag)) (.blk b3 (.cells #[.int .i64 c0.head.kind,.int .i64 c0.head.n,.string c0.head.name,kh,ge] ag)) (aE kvc ab 4 css) (aE ge ab 4 (css++[cs7])) (bj (N::Ls).flatten) M (.blk b8 (.cells cs7.toArray ab)) (D 7) (D 8) (D 9) true) S w_:=by
    rw [‹D 7=true›,‹D 8=true›,‹D 9=true›]
    exact hI
   exact ⟨hF_.set 11 trivial,⟨M,cs7,b8,e7,e8,k8,k9,k11,k1,hI⟩⟩
  obtain ⟨rfl,rfl,rfl,rfl,rfl,rfl,rfl,PT,NO,PR,rfl,_,_⟩:=hF_.all
  have C5:D 7=true:=by assumption
  have N5:D 8=true:=by assumption
  have Sd:D 9=true:=by assumption
  have Cc:D 11=true:=by assumption
  clear hF_ cJ cH cK cI cN cP cz dC ek fZ dr dM
  obtain ⟨_,hT⟩:=e7 C5
  rw [C5,N5,Sd,Cc] at hI
  refine bn (by omega) ?_
  refine ⟨⟨j+1,ge,Ls++[M],css++[cs7],hj',rfl,?_,?_⟩,by simp [intOf]; omega⟩
  ·rw [fy hj']
   exact hg.snoc hT hT.length
  ·rw [<- gt,vD,dv]
   simp only [gx,qW,cX]
   refine hI.sub ?_
   simp only [aY,gx]
   rw [<- eI]
   exact (((dn _ _).cons_cons _).cons_cons _).cons_cons _ |>.cons_cons _
 ·have:j=c0.body.length:=by omega
  subst this
  rw [fM] at hg
  obtain ⟨va,vn,vc,hvk⟩:=hI.rowSlice 3 rfl
  have hv1:kvc.oneCell'=true:=by rw [hvk]; rfl
  have o1:kh.oneCell'=true:=hT1.one kh (by simp)
  refine az hI 2 be rfl rfl ?_
  refine aA hI 1 rfl be rfl rfl ?_ fun w' hI=>?_
  ·intro u hu
   have hu':u∈([.int .i64 c0.head.kind,.int .i64 c0.head.n,.string c0.head.name,kh,kvc]:List Value):=hu
   simp at hu'
   rcases hu' with rfl|rfl|rfl|rfl|rfl <;> first|rfl|exact o1|exact hv1
  refine bw hI 1 be rfl rfl ?_
  have hI:Inv w [] (aE kvc ab 4 css::bj (N::Ls).flatten) S w':=hI.sub (dz [_,_,_] _)
  rw [gx,dv] at hI
  have hI:=hI.perm (M:=bj N++(aE kvc ab 4 css::bj Ls.flatten)) (zal110)
  obtain ⟨L,hT,hI⟩:=Inv.rowTree hI hg
  exact ⟨_,_,_,rfl,hI,Ext.refl _ _ _,rfl,_,N++L,rfl,by rw [dv],_,kvc,N,L,rfl,rfl,hT1,hT⟩
theorem C1 {p:List C} {S:ad} {v:Value} (h:RdSl S 5 (RdC S) v p) (hw:p.length+wP p<=1048576):Tri Tryz.prog HY [v] [] S (HP 5 TrC S p):=by
 intro w hI
 refine uj.2 ?_
 dsimp only[uj,aG]
 refine d3 hI de fun v0 w' hI=>?_
 refine ⟨fun i t w'=>∃ (k:Nat) (Ls:List aU) (css:List (List Value)),k<=p.length/\i=.int .i64 k/\Grown 5 TrC Ls css (p.take k)/\Inv w [] (aE t ag 5 css::bj Ls.flatten) S w',
  fun i _ _=>p.length - (intOf i).toNat,⟨0,[],[],aR _,rfl,Grown.nil _ _,hI⟩,?_⟩
 intro t4 _ _ t3 _ _ _ _ _ _ _ _ _ _ _ _ w'
 rintro ⟨k,Ls,css,hk,rfl,hg,hI⟩
 refine aF h bi ?_
 refine bL ?_
 refine aH (fun hki=>?_) (fun hki=>?_)
 ·have hk':k<p.length:=by omega
  have htl:(p.take k).length=k:=by simp; omega
  have hcl:=hg.hc
  refine cj hI h bi be hk' (fun _ _=>RdC.length) fun cs hcs=>?_
  have hm:=bQ hk'
  have hwm:=FJ hm
  refine Run.call0 pn qM hI (vM hcs (by omega)) fun v' I' S' w'=>?_
  rintro ⟨rfl,cs',L,rfl,rfl,hT⟩ _ hI
  refine cM hI 0 cs' de (by omega) (by omega) rfl hT.length hT.one (by omega) (by omega) fun v' w' hI=>?_
  refine bn (by omega) ?_
  refine ⟨⟨k+1,Ls++[L],css++[cs'],hk',rfl,?_,?_⟩,by simp [intOf]; omega⟩
  ·rw [fy hk']
   exact hg.snoc hT hT.length
  ·simp only [vD,gx,qW,cX,dv]
   exact hI
 ·have:k=p.length:=by omega
  subst this
  rw [fM] at hg
  obtain ⟨L,hT,hI⟩:=Inv.rowTree (A:=[]) hI hg
  exact ⟨_,_,_,rfl,hI,Ext.refl _ _ _,rfl,_,rfl,hT⟩
end
end
section
open Go Go.RowKit
section
variable {P:Program} {w w0:World} {X:List Nat} {L:List Item} {S:ad} {K:Value->World->Prop}
theorem Ea (h:Inv w0 X L S w) {T ty e:TypeId} {k by_ n cp:Nat} {z v:Value} {cs:List Bool} {xs:List Value} {a:Option Addr} (i:Nat)
  (hT:lG P T=some (e,k,by_,z)) (hi:L[i]?=some (.row v e k n xs)) (hk:K v w) :
  Run P (bH .append #[T,T] ty cs [v,.slice a 0 cp]) w K:=by
 obtain ⟨hu,inf,hi',hz,hs,hb,hzs⟩:=rq hT
 have hown:=h.its _ (du hi)
 simp only [Item.holds] at hown
 refine Run.of (v:=v) (w':=w) ?_ hk
 rcases hown.2 with ⟨rfl,rfl⟩|⟨g,cap,cur,rfl,_,hg,hnc,hcm,hcs,ht⟩
 ·cases a <;> simp [bH,builtin,Builtin.append_,run_underlying hu,sizeOf,typeInfo,hi',Builtin.lenOf,Builtin.firstCells,loadCells,loadCellsFrom]
 ·cases a <;> simp [bH,builtin,Builtin.append_,run_underlying hu,sizeOf,typeInfo,hi',storeCells,hnc,Builtin.lenOf,Builtin.firstCells,loadCells,loadCellsFrom]
theorem A0 {α:Type} {R:List Value->α->Prop} (h:Inv w0 X L S w) {T ty e:TypeId} {k by_ n:Nat} {z v u:Value} {cs:List Bool} {xs:List Value} {ys:List α} {f:α->List Value} (i:Nat)
  (hT:lG P T=some (e,k,by_,z)) (hk0:0<k) (hi:L[i]?=some (.row v e k n xs)) (hr:RdSl S k R u ys) (hR:∀ cs y,R cs y->cs=f y) (hf:∀ y,(f y).length=k) (h1:∀ y,∀ c∈f y,c.oneCell'=true)
  (hfit:n+ys.length<=4294967296) (hby:by_<=32768)
  (hk:∀ v' w',Inv w0 X (L.set i (.row v' e k (n+ys.length) (xs++ys.flatMap f))) S w'->K v' w') :
  Run P (bH .append #[T,T] ty cs [v,u]) w K:=by
 obtain ⟨a,cap,rfl,hl,hc,hx⟩:=hr
 rcases hx with rfl|⟨b,o,c,E,fz,rfl,hS,hel⟩
 ·refine Ea h i hT hi (hk v w ?_)
  have:L.set i (.row v e k (n+([]:List α).length) (xs++([]:List α).flatMap f))=L:=by
   simp only [bG,CJ,List.flatMap_nil,cX]
   obtain ⟨hlt,e'⟩:=fu.1 hi
   rw [<- e',KT]
  rw [this]
  exact h
 ·refine dy h i (ys.flatMap f) hT hk0 hi (Co f k hf ys) ?_ ?_ hfit hby hk
  ·intro j v' hj
   have hj':j<ys.length * k:=by
    rw [<- Co f k hf ys]
    exact (fu.1 hj).1
   have hq:j / k<ys.length:=(Nat.div_lt_iff_lt_mul hk0).2 hj'
   have hcell:=hR _ _ (hel (j / k) hq)
   have hflat:=E0 f k hf ys (j / k) hq
   rw [h.cellS hS]
   have e1:(ys.flatMap f)[j]?=(f ys[j / k])[j % k]?:=by
    rw [<- hflat,tx,ai (px _ hk0),uD]
    congr 1
    have:=Nat.div_add_mod j k
    rw [Nat.mul_comm] at this
    omega
   rw [e1] at hj
   have:=aL hcell (j % k) v' hj
   rw [<- this]
   congr 1
   have:=Nat.div_add_mod j k
   rw [Nat.mul_comm] at this
   omega
  ·intro c' hc'
   obtain ⟨y,_,hy⟩:=List.mem_flatMap.1 hc'
   exact h1 y c' hy
end
end
section
open Go Go.RowKit

structure Rows {α:Type} (k:Nat) (R:List Value->α->Prop) (css:List (List Value)) (ys:List α):Prop where
 hc:css.length=ys.length
 hk:∀ cs∈css,cs.length=k
 hR:∀ i (h:i<ys.length) (h1:i<css.length),R css[i] ys[i]
theorem Rows.nil {α:Type} (k:Nat) (R:List Value->α->Prop):Rows k R [] ([]:List α):=⟨rfl,by simp,fun i h=>by simp at h⟩
theorem Rows.snoc {α:Type} {k:Nat} {R:List Value->α->Prop} {css:List (List Value)} {ys:List α} (h:Rows k R css ys) {cs:List Value} {y:α} (hR:R cs y) (hl:cs.length=k):Rows k R (css++[cs]) (ys++[y]):=by
 refine ⟨by simp [h.hc],fun c hc=>?_,fun i h0 h2=>?_⟩
 ·rcases cd.1 hc with hc|hc
  ·exact h.hk c hc
  ·simp at hc; subst hc; exact hl
 ·have e2:=h.hc
  by_cases hi:i<ys.length
  ·rw [ft (by omega),ft hi]
   exact h.hR i hi (by omega)
  ·have:i=ys.length:=by simp at h0; omega
   subst this
   rw [eT (by omega),eT (by omega)]
   simp only [e2,dY,kQ]
   exact hR
theorem Rows.append {α:Type} {k:Nat} {R:List Value->α->Prop} {css css':List (List Value)} {ys ys':List α} (h:Rows k R css ys) (h':Rows k R css' ys'):Rows k R (css++css') (ys++ys'):=by
 have e:=h.hc
 have e':=h'.hc
 refine ⟨by simp [e,e'],fun c hc=>?_,fun i h0 h2=>?_⟩
 ·rcases cd.1 hc with hc|hc
  ·exact h.hk c hc
  ·exact h'.hk c hc
 ·by_cases hi:i<ys.length
  ·rw [ft (by omega),ft hi]
   exact h.hR i hi (by omega)
  ·have hi':i - css.length<ys'.length:=by simp at h0; omega
   rw [eT (by omega),eT (by omega)]
   have:=h'.hR (i - css.length) hi' (by omega)
   simpa only [e] using this
theorem RowRd.rows {α:Type} {S:ad} {v:Value} {e:TypeId} {k:Nat} {R:List Value->α->Prop} {css:List (List Value)} {ys:List α} (hr:Rows k R css ys) (h:RowRd S v e k css.length css.flatten):RdSl S k R v ys:=by
 obtain ⟨hl,h⟩:=h
 have hcy:=hr.hc
 rcases h with ⟨rfl,h0⟩|⟨g,cap,cur,rfl,hS,hnc,hcm,hcs,ht⟩
 ·have:ys=[]:=iW (by omega)
  subst this
  exact ⟨none,0,rfl,aM _,aR _,.inl rfl⟩
 ·refine ⟨_,cap,by rw [hcy],by omega,hcm,.inr ⟨g,0,cur,e,(0,0),rfl,hS,fun i hi=>?_⟩⟩
  have:=iC k css i hr.hk (by omega)
  have hik:i * k+k<=css.length * k:=by rw [<- jc]; exact iy k (by omega)
  rw [<- ht,LR,sF,qN (by omega)] at this
  rw [ba,cZ,this]
  exact hr.hR i hi (by omega)
theorem pm {k:Nat}:∀ {css:List (List Value)},(∀ cs∈css,cs.length=k)->css.flatten.length=css.length * k
 | [],_=>by simp
 | c::css,h=>by
  have:=pm (css:=css) fun cs hc=>h cs (bv _ hc)
  rw [gx,bh,h c (bq ..),this,bk,jc,n3]
section
variable {P:Program} {w w0:World} {X:List Nat} {L:List Item} {S:ad} {K:Value->World->Prop}
attribute [local irreducible] Run CondV aq aK
end
abbrev Lc (S:ad) (ys:List C) (b:Bool):Value->List Item->ad->Prop:=fun r I' S'=>S'=S/\∃ u L,r=.tuple #[u,.bool b]/\I'=bj L/\TrSl 5 TrC L u ys
theorem wm (f:C->Bool):∀ p:List C,(p.filter f).length+wP (p.filter f)+((p.filter fun c=>!f c).length+wP (p.filter fun c=>!f c))=p.length+wP p
 | []=>rfl
 | c::p=>by
  have:=wm f p
  rw [ow,ow]
  cases f c <;> simp [wP] <;> omega
theorem DR:∀ p q:List C,wP (p++q)=wP p+wP q
 | [],q=>by simp [wP]
 | c::p,q=>by simp only [gt,wP,DR p q]; omega
theorem ya {α:Type} (f:α->Bool) (l:List α) (k:Nat) (h:k<l.length) (m:List α):(if f l[k]=true then m++[l[k]] else m)++(l.drop (k+1)).filter f=m++(l.drop k).filter f:=by
 rw [di h,ow]
 split
 ·rw [eI]; rfl
 ·rfl
end
section
open Go Go.RowKit

theorem tV {P:Program} {T e:TypeId} {k:Nat} (h:cB P T=some (e,k)):P.underlying T=some (.slice e)/\∃ i,P.info? e=some i/\i.size=k:=by
 unfold cB at h
 split at h
 ·rename_i e1 he
  rw [LP] at h
  obtain ⟨i,hi,hx⟩:=h
  simp only [cL] at hx
  obtain ⟨rfl,rfl⟩:=hx
  exact ⟨he,i,hi,rfl⟩
 ·cases h
section
variable {P:Program} {w:World} {K:Value->World->Prop}
attribute [local irreducible] Run
theorem qZ {n y:Nat} {code:BoundsCode} (h:n<=y):(Instr.sliceBound (.int .i64 n) y code).run P w=.ok n w:=by
 have h1:(0:Int)<=(n:Int)/\(n:Int)<=(y:Int):=by omega
 simp [Instr.sliceBound,asIntOf,h]
theorem Gs {T ty e:TypeId} {k h len cap:Nat} {a:Option Addr} (hT:cB P T=some (e,k)) (hh:h<=cap) (hk:K (.slice (if cap=0 then a else a.map (·.add (0 * k))) h cap) w) :
  Run P (sOp (.slice T (.const (.slice a len cap)) none (some (.const (.int .i64 h))) none) ty) w K:=by
 obtain ⟨hu,i,hi,_⟩:=tV hT
 refine Run.of ?_ hk
 simp [sOp,execOp,ev0,evE,Instr.sliceAt,Instr.slice,Instr.sliceBounds,run_underlying hu,qZ hh,sizeOf,typeInfo,hi]
theorem IL {T ty e:TypeId} {k l len cap:Nat} {a:Option Addr} (hT:cB P T=some (e,k)) (hl:l<=len) (hk:K (.slice (if cap=l then a else a.map (·.add (l * k))) (len - l) (cap - l)) w) :
  Run P (sOp (.slice T (.const (.slice a len cap)) (some (.const (.int .i64 l))) none none) ty) w K:=by
 obtain ⟨hu,i,hi,hs⟩:=tV hT
 refine Run.of ?_ hk
 simp [sOp,execOp,ev0,evE,Instr.sliceAt,Instr.slice,Instr.sliceBounds,run_underlying hu,qZ hl,sizeOf,typeInfo,hi,hs]
end
theorem RdSl.to {α:Type} {S:ad} {k:Nat} {R:List Value->α->Prop} {a:Option Addr} {cap n h:Nat} {xs:List α} (hx:RdSl S k R (.slice a n cap) xs) (hh:h<=xs.length) :
  RdSl S k R (.slice (if cap=0 then a else a.map (·.add (0 * k))) h cap) (xs.take h):=by
 obtain ⟨a',cap',e,hl,hc,hx⟩:=hx
 simp only [Value.slice.injEq] at e
 obtain ⟨rfl,rfl,rfl⟩:=e
 have e1:(if cap=0 then a else a.map (·.add (0 * k)))=a:=by
  split
  ·rfl
  ·cases a <;> simp [Addr.add]
 rw [e1]
 have e2:h=(xs.take h).length:=by rw [dN]; omega
 refine ⟨a,cap,by rw [<- e2],by omega,hc,?_⟩
 rcases hx with rfl|⟨b,o,c,E,fz,rfl,hS,hR⟩
 ·left; simp
 ·right
  refine ⟨b,o,c,E,fz,rfl,hS,fun i hi=>?_⟩
  rw [Ik]
  exact hR i (by omega)
theorem RdSl.from {α:Type} {S:ad} {k:Nat} {R:List Value->α->Prop} {a:Option Addr} {cap n l:Nat} {xs:List α} (hx:RdSl S k R (.slice a n cap) xs) (hl:l<=xs.length) :
  RdSl S k R (.slice (if cap=l then a else a.map (·.add (l * k))) (n - l) (cap - l)) (xs.drop l):=by
 obtain ⟨a',cap',e,hlc,hc,hx⟩:=hx
 simp only [Value.slice.injEq] at e
 obtain ⟨rfl,rfl,rfl⟩:=e
 refine ⟨_,cap - l,by rw [xS],by rw [xS]; omega,by omega,?_⟩
 by_cases hd:xs.drop l=[]
 ·exact .inl hd
 ·rcases hx with rfl|⟨b,o,c,E,fz,rfl,hS,hR⟩
  ·simp at hd
  ·right
   have hlt:l<xs.length:=by
    rcases FZ l xs.length with h|h
    ·exact h
    ·exact absurd (tM h) hd
   refine ⟨b,o+l * k,c,E,fz,?_,hS,fun i hi=>?_⟩
   ·rw [af (by omega)]
    simp [Addr.add]
   ·rw [List.getElem_drop]
    have:=hR (l+i) (by simp at hi; omega)
    rwa [wq,<- Nat.add_assoc] at this
section
variable {P:Program} {w w0:World} {X:List Nat} {L:List Item} {S:ad} {K:Value->World->Prop}
attribute [local irreducible] Run CondV aq aK
theorem xT {α:Type} {R:List Value->α->Prop} {xs:List α} {v:Value} {T ty e:TypeId} {k l:Nat} (hT:cB P T=some (e,k)) (hx:RdSl S k R v xs) (hl:l<=xs.length)
  (hk:∀ v',RdSl S k R v' (xs.drop l)->K v' w):Run P (sOp (.slice T (.const v) (some (.const (.int .i64 l))) none none) ty) w K:=by
 obtain ⟨a,cap,rfl,hl',hc,hx'⟩:=id hx
 exact IL hT hl (hk _ (hx.from hl))
end
theorem RdSl.exact {α:Type} {S:ad} {k:Nat} {R:List Value->α->Prop} {v:Value} {ys:List α} (h:RdSl S k R v ys) (hk:∀ cs y,R cs y->cs.length=k) :
  ∃ ds:List {cs:List Value // cs.length=k},RdSl S k (fun cs d=>cs=d.val) v ds/\Rows k R (ds.map (·.val)) ys:=by
 obtain ⟨a,cap,rfl,hl,hc,hx⟩:=h
 rcases hx with rfl|⟨b,o,c,E,fz,rfl,hS,hR⟩
 ·exact ⟨[],⟨a,cap,rfl,hl,hc,.inl rfl⟩,Rows.nil _ _⟩
 ·refine ⟨List.ofFn fun i:Fin ys.length=>⟨ba c (o+i.val * k) k,hk _ _ (hR i.val i.isLt)⟩,⟨_,cap,by rw [List.length_ofFn],by rw [List.length_ofFn]; exact hl,hc,.inr ⟨b,o,c,E,fz,rfl,hS,fun i hi=>by simp⟩⟩,⟨by simp,fun cs hcs=>?_,fun i h1 h2=>?_⟩⟩
  ·obtain ⟨d,_,rfl⟩:=iX.1 hcs
   exact d.property
  ·simp only [EJ,List.getElem_ofFn]
   exact hR i h1
section
variable {P:Program} {w w0:World} {X:List Nat} {L:List Item} {S:ad} {K:Value->World->Prop}
attribute [local irreducible] Run CondV aq aK
theorem Bx {α:Type} {R:List Value->α->Prop} (h:Inv w0 X L S w) {T ty e:TypeId} {k by_:Nat} {z v u:Value} {cs:List Bool} {css:List (List Value)} {ys:List α} (i:Nat)
  (hT:lG P T=some (e,k,by_,z)) (hk0:0<k) (hi:L[i]?=some (aE v e k css)) (hr:RdSl S k R u ys) (hlen:∀ cs y,R cs y->cs.length=k) (h1:∀ cs y,R cs y->∀ c∈cs,c.oneCell'=true)
  (hfit:css.length+ys.length<=4294967296) (hby:by_<=32768) (hk:∀ v' w' css2,Rows k R css2 ys->Inv w0 X (L.set i (aE v' e k (css++css2))) S w'->K v' w') :
  Run P (bH .append #[T,T] ty cs [v,u]) w K:=by
 obtain ⟨ds,hd,hR⟩:=hr.exact hlen
 have hdl:ds.length=ys.length:=by have:=hR.hc; simpa using this
 have hone:∀ d∈ds,∀ c∈d.val,c.oneCell'=true:=by
  intro d hd' c hc
  obtain ⟨j,hj,rfl⟩:=Jy.1 hd'
  have:=hR.hR j (by omega) (by simpa using hj)
  simp only [EJ] at this
  exact h1 _ _ this c hc
 obtain ⟨a,cap,rfl,hl',hc',hx⟩:=id hd
 have e1:∀ v',Item.row v' e k (css.length+ds.length) (css.flatten++(ds.map (·.val)).flatten)=aE v' e k (css++ds.map (·.val)):=fun v'=>by simp [aE]
 rcases hx with rfl|⟨b,o,c,E,fz,rfl,hS,hel⟩
 ·refine Ea h i hT hi (hk v w [] (by simpa using hR) ?_)
  have:L.set i (aE v e k (css++[]))=L:=by
   obtain ⟨hlt,e'⟩:=fu.1 hi
   rw [cX,<- e',KT]
  rw [this]
  exact h
 ·have hfl:(ds.map (·.val)).flatten.length=ds.length * k:=by
   rw [pm (k:=k) (fun cs hcs=>by obtain ⟨d,_,rfl⟩:=iX.1 hcs; exact d.property),pF]
  refine dy h i (ds.map (·.val)).flatten hT hk0 hi hfl ?_ ?_ (by omega) hby fun v' w' hI=>hk _ _ _ hR ?_
  ·intro j u hj
   have hj':j<ds.length * k:=by
    rw [<- hfl]
    exact (fu.1 hj).1
   have hq:j / k<ds.length:=(Nat.div_lt_iff_lt_mul hk0).2 hj'
   have hcell:=hel (j / k) hq
   have hflat:=iC k (ds.map (·.val)) (j / k) (fun cs hcs=>by obtain ⟨d,_,rfl⟩:=iX.1 hcs; exact d.property) (by simpa using hq)
   have hdm:=Nat.div_add_mod j k
   rw [Nat.mul_comm] at hdm
   rw [h.cellS hS]
   have e2:(ds.map (·.val)).flatten[j]?=(ds[j / k].val)[j % k]?:=by
    rw [EJ] at hflat
    rw [<- hflat,tx,ai (px _ hk0),uD]
    congr 1
    omega
   rw [e2] at hj
   have:=aL hcell (j % k) u hj
   rw [<- this]
   congr 1
   omega
  ·intro u hu
   obtain ⟨cs,hcs,hu⟩:=List.mem_flatten.1 hu
   obtain ⟨d,hd',rfl⟩:=iX.1 hcs
   exact hone d hd' u hu
  ·rw [<- e1]
   exact hI
end
end
section
open Go Go.RowKit
section
variable {P:Program} {w w0:World} {X:List Nat} {L:List Item} {S:ad} {K:Value->World->Prop}
attribute [local irreducible] Run CondV aq aK
end
end
section
open Go Go.RowKit
attribute [local irreducible] Run CondV aq aK
end
section
open Go Go.RowKit
attribute [local irreducible] Run CondV aq aK
end
section
open Go Go.RowKit
section
attribute [local irreducible] Run CondV aq aK
end
end
section
open Go Go.RowKit
theorem Inv.pubExt {w0 w:World} {X:List Nat} {A:List Item} {S:ad} {L:aU} (h:Inv w0 X (A++bj L) S w) :
  ∃ S',Inv w0 X A S' w/\Ext w0.heap.size X S S'/\Ins S' L:=by
 obtain ⟨S',h1,h2,h3,h4⟩:=h.publishAll L
 refine ⟨S',h1,⟨h2,fun b o hb=>?_⟩,h3⟩
 rcases h4 b o hb with h5|h5
 ·exact .inl h5
 ·right
  exact h.new b (by rw [bD]; exact kw _ h5)
theorem Inv.pub1 {w0 w:World} {X:List Nat} {A:List Item} {S:ad} {b:Nat} {o:Obj} (h:Inv w0 X (A++[.blk b o]) S w) :
  ∃ S',Inv w0 X A S' w/\Ext w0.heap.size X S S'/\S' b=some o:=by
 obtain ⟨S',h1,h2,h3⟩:=Inv.pubExt (A:=A) (L:=[(b,o)]) h
 exact ⟨S',h1,h2,h3 _ (bY.2 rfl)⟩
theorem Rows.monoR {α:Type} {k:Nat} {R R':List Value->α->Prop} {css:List (List Value)} {ys:List α} (h:Rows k R css ys) (hR:∀ cs y,R cs y->R' cs y):Rows k R' css ys:=⟨h.hc,h.hk,fun i h1 h2=>hR _ _ (h.hR i h1 h2)⟩
theorem Rows.one {α:Type} {k:Nat} {R:List Value->α->Prop} {cs:List Value} {y:α} (hR:R cs y) (hl:cs.length=k):Rows k R [cs] [y]:=by
 have:=(Rows.nil k R).snoc hR hl
 exact this
section
variable {P:Program} {w w0:World} {X:List Nat} {L:List Item} {S:ad} {K:Value->World->Prop}
theorem Run.call0E {f:FuncId} {fn:Func} {args:List Value} {Post:Value->List Item->ad->Prop}
  (hf:P.funcs[f]?=some fn) (hn:(fn.name == "runtime.NumGoroutine" || fn.body.isNone)=false) (h:Inv w0 X L S w) (hc:Tri P f args [] S Post)
  (hk:∀ v I' S' w',Post v I' S'->Ext w0.heap.size X S S'->Inv w0 X (L++I') S' w'->K v w'):Run P (er (.func (.func f) #[] #[]) args) w K:=by
 refine Run.callP hf hn ((hc w h.nil.begin).mono ?_)
 rintro e w' ⟨v,I',S',rfl,hI,hE,hP⟩
 refine hk v I' S' w' hP ⟨hE.1,fun b o hb=>?_⟩ (Inv.step (A:=L) (B:=[]) (by simpa using h) hI hE.2)
 rcases hE.2 b o hb with h1|h1|h1
 ·exact .inl h1
 ·simp [bu] at h1
 ·exact .inr (.inr (il h.size h1))
end
theorem Ext.trans {n:Nat} {Y:List Nat} {S S' S'':ad} (h:Ext n Y S S') (h':Ext n Y S' S''):Ext n Y S S'':=by
 refine ⟨h.1.trans h'.1,fun b o hb=>?_⟩
 rcases h'.2 b o hb with h1|h1
 ·exact h.2 b o h1
 ·exact .inr h1
section
variable {P:Program} {w w0:World} {X:List Nat} {A I:List Item} {S:ad} {K:Value->World->Prop}
theorem LM {f:FuncId} {args:List Value} {Post:Value->List Item->ad->Prop} (h:Inv w0 X (A++I) S w) (hc:Tri P f args I S Post) :
  Calls P f args.toArray w fun e w'=>∃ v I' S',e=.returned v/\Inv w0 X (A++I') S' w'/\Ext w0.heap.size X S S'/\Post v I' S':=by
 refine (hc w (h.sub (dz A I)).begin).mono ?_
 rintro e w' ⟨v,I',S',rfl,hI,hE,hP⟩
 refine ⟨v,I',S',rfl,Inv.step h hI hE.2,⟨hE.1,fun b o hb=>?_⟩,hP⟩
 rcases hE.2 b o hb with h1|h1|h1
 ·exact .inl h1
 ·exact .inr (h.new b (by rw [bD]; exact kw _ h1))
 ·exact .inr (.inr (il h.size h1))
theorem Run.callE {f:FuncId} {fn:Func} {args:List Value} {Post:Value->List Item->ad->Prop}
  (hf:P.funcs[f]?=some fn) (hn:(fn.name == "runtime.NumGoroutine" || fn.body.isNone)=false) (h:Inv w0 X (A++I) S w) (hc:Tri P f args I S Post)
  (hk:∀ v I' S' w',Post v I' S'->Ext w0.heap.size X S S'->Inv w0 X (A++I') S' w'->K v w'):Run P (er (.func (.func f) #[] #[]) args) w K:=by
 refine Run.callP hf hn ((LM h hc).mono ?_)
 rintro e w' ⟨v,I',S',rfl,hI,hE,hP⟩
 exact hk v I' S' w' hP hE hI
theorem Run.callVE {f:FuncId} {fn:Func} {cap args:List Value} {Post:Value->List Item->ad->Prop}
  (hf:P.funcs[f]?=some fn) (hn:(fn.name == "runtime.NumGoroutine" || fn.body.isNone)=false) (h:Inv w0 X (A++I) S w) (hc:Tri P f (args++cap) I S Post)
  (hk:∀ v I' S' w',Post v I' S'->Ext w0.heap.size X S S'->Inv w0 X (A++I') S' w'->K v w'):Run P (er (fv f cap) args) w K:=by
 unfold Run
 rw [DX hf hn]
 refine (LM h hc).mono ?_
 rintro e w' ⟨v,I',S',rfl,hI,hE,hP⟩
 exact hk v I' S' w' hP hE hI
end
theorem Inv.lendExt {w0 w:World} {X:List Nat} {A:List Item} {S:ad} {v:Value} {e:TypeId} {k:Nat} {css:List (List Value)} (h:Inv w0 X (A++[aE v e k css]) S w) :
  ∃ S',Ext w0.heap.size X S S'/\RowRd S' v e k css.length css.flatten/\Inv w0 X A S' w:=by
 obtain ⟨hl,ho⟩:=h.openRow
 rcases ho with ⟨rfl,h0⟩|⟨g,cap,cur,rfl,hnc,hcm,hcs,ht,hI⟩
 ·exact ⟨S,Ext.refl _ _ _,⟨hl,.inl ⟨rfl,h0⟩⟩,h.sub (dn _ _)⟩
 ·obtain ⟨S',h1,h2,h3⟩:=Inv.pub1 (A:=A) hI
  exact ⟨S',h2,⟨hl,.inr ⟨g,cap,cur,rfl,h3,hnc,hcm,hcs,ht⟩⟩,h1⟩
end
section
open Go Go.RowKit
section
variable {w:World} {K:Value->World->Prop}
attribute [local irreducible] Run
end
section
attribute [local irreducible] Run CondV aq aK
theorem RdC.zero (S:ad):RdC S [.int .i64 0,.int .i64 0,.string ⟨#[]⟩,.slice none 0 0,.slice none 0 0] ⟨⟨0,0,⟨#[]⟩,[]⟩,[]⟩:=
 ⟨[.int .i64 0,.int .i64 0,.string ⟨#[]⟩,.slice none 0 0],.slice none 0 0,rfl,RdT.iff.2 ⟨_,rfl,by simp [inI,T.kind],by simp [inI,T.n],by rw [T.name]; decide +kernel,⟨none,0,rfl,aM _,aR _,.inl rfl⟩⟩,⟨none,0,rfl,aM _,aR _,.inl rfl⟩⟩
end
end
end Go.Proofs.YtcpgagfdeflbkaaGreatDoor
