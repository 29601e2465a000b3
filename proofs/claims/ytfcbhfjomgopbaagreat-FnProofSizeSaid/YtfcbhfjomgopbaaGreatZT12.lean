/- impl.ownProgram; spec's copies. -/
import Derived.Test.YtfcbhfjomgopbaaGreatZT11
namespace Go.Proofs.YtfcbhfjomgopbaaGreat
open Go Go.RowKit
theorem RdC.one {S:al} {cs:List Value} {c:C} (h:RdC S cs c):∀ u∈cs,u.oneCell'=true:=by
 obtain ⟨hd,ks,rfl,h1,a,cap,rfl,_⟩:=h
 intro u hu
 rcases List.mem_append.1 hu with hu|hu
 ·exact h1.one u hu
 ·simp at hu; subst hu; rfl
section
attribute [local irreducible] Run CondV ag aO
/- a row's value is a slice -/
theorem Inv.rowSlice {w0 w:World} {X:List Nat} {L:List Item} {S:al} {v:Value} {e:TypeId} {k n:Nat} {xs:List Value} (h:Inv w0 X L S w) (i:Nat) (hi:L[i]?=some (.row v e k n xs)):∃ a m c,v=.slice a m c:=by
 have hm:w.ownsRow 0 e k v n xs:=h.its (.row v e k n xs) (List.mem_of_getElem? hi)
 rcases hm.2 with ⟨rfl,_⟩|⟨g,cap,cur,rfl,_⟩
 ·exact ⟨_,_,_,rfl⟩
 ·exact ⟨_,_,_,rfl⟩
def bI (B1 B2 B3 B3' r r':Item) (rest:List Item) (M:bG) (B27:Item) (d7 d8 d9 d11:Bool):List Item:=
 B1::B2::(match d11 with|true=>B3'|false=>B3)::(match d9 with|true=>r'|false=>r)::(rest++((match d7 with|true=>bV M|false=>[])++(match d8 with|true=>[B27]|false=>[])))

theorem fE:∀ (t:T) (S:al) (cs:List Value),RdT S cs t->wT t<=1048576->Tri Tryz.prog pi [.agg cs.toArray] [] S (Bg S t):=by
 refine T.ind fun k n s ks ih S cs h hw=>?_
 intro w hI
 obtain ⟨kv,rfl,h1,h2,hs,hks⟩:=RdT.iff.1 h
 simp only [T.name,T.kids,T.kind,T.n] at h1 h2 hs hks ⊢
 simp only [wT] at hw
 refine mL ?_
 unfold mi
 refine bS hI fun b1 w' hI=>?_
 refine bi hI bH fun b2 w' hI=>?_
 refine ao hI 0 rfl bC aY rfl ?_
 refine ao hI 0 rfl bF aY rfl ?_
 refine ao hI 0 rfl bB bn rfl ?_
 refine ia ?_
 refine bi hI bH fun b3 w' hI=>?_
 refine aG hI 2 rfl ai rfl rfl (by simp [Value.oneCell']) fun w' hI=>?_
 have hI:=hI.rowNil ab 4
 refine ⟨fun i w'=>∃ (j:Nat) (kvc:Value) (Ls:List bG) (css:List (List Value)),j<=ks.length/\i=.int .i64 j/\Grown 4 TrT Ls css (ks.take j)/\
   Inv w [] (.blk b1 (.cells #[.int .i64 k,.int .i64 n,.string s,kv] ab)::.blk b2 (.cells #[.int .i64 0,.int .i64 0,.string ⟨#[]⟩,.slice none 0 0] ab)::.blk b3 (.cells #[.int .i64 k,.int .i64 n,.string s,kvc] ab)::bq kvc ab 4 css::bV Ls.flatten) S w',
  fun i _=>ks.length - (intOf i).toNat,⟨0,_,[],[],Nat.zero_le _,rfl,Grown.nil _ _,hI⟩,?_⟩
 intro t4 _ _ _ _ _ _ _ _ _ _ _ _ _ _ _ _ _ _ w'
 rintro ⟨j,kvc,Ls,css,hj,rfl,hg,hI⟩
 refine ao hI 0 rfl aK aJ rfl ?_
 refine bp hks aC ?_
 refine cg ?_
 refine bz (fun hji=>?_) (fun hji=>?_)
 ·have hj':j<ks.length:=by omega
  have hjl:(ks.take j).length=j:=by simp; omega
  have hcl:=hg.hc
  have hm:=List.getElem_mem hj'
  have hwm:=jO hm
  obtain ⟨b,o,cap,c,E,fz,rfl,hS,hR⟩:=hks.at_ hj'
  refine ⟨fun D jK gC mz oA ki qu uQ sH nU ku oZ w_=>(D 0=true->oZ=.pointer (some ⟨b3,3,none⟩))/\(D 1=true->ku=kvc)/\(D 2=true->nU=.pointer (some ⟨b1,3,none⟩))/\(D 3=true->sH=.slice (some ⟨b,o,none⟩) (ks).length cap)/\(D 4=true->uQ=.int .i64 j)/\(D 5=true->qu=.pointer (some ⟨b,o+j * 4,none⟩))/\(D 6=true->ki=.agg (bm c (o+j * 4) 4).toArray)/\(D 7=true->True)/\(D 8=true->True)/\(D 9=true->True)/\(D 10=true->jK=.pointer (some ⟨b3,3,none⟩))/\(D 11=true->True)/\∃ M cs7 b8,(D 7=true->oA=.agg cs7.toArray/\TrT M cs7 (ks)[j])/\(D 8=true->mz=.slice (some ⟨b8,0,none⟩) 1 1)/\(D 8=true->D 7=true)/\(D 9=true->D 8=true)/\(D 11=true->D 9=true)/\(D 11=true->D 1=true)/\Inv w [] (bI (.blk b1 (.cells #[.int .i64 k,.int .i64 n,.string s,.slice (some ⟨b,o,none⟩) ks.length cap] ab)) (.blk b2 (.cells #[.int .i64 0,.int .i64 0,.string ⟨#[]⟩,.slice none 0 0] ab)) (.blk b3 (.cells #[.int .i64 k,.int .i64 n,.string s,kvc] ab)) (.blk b3 (.cells #[.int .i64 k,.int .i64 n,.string s,gC] ab)) (bq kvc ab 4 css) (bq gC ab 4 (css++[cs7])) (bV Ls.flatten) M (.blk b8 (.cells cs7.toArray ab)) (D 7) (D 8) (D 9) (D 11)) S w_,⟨ac,ac,ac,ac,ac,ac,ac,ac,ac,ac,ac,ac,⟨[],[],0,ac,ac,ac,ac,ac,ac,by simpa [bI,bV] using hI.draw⟩⟩,⟨?_,?_,?_,?_,?_,?_,?_,?_,?_,?_,?_,?_,trivial⟩,?_⟩
  all_goals (intro D bX; intros; rename_i jK gC mz oA ki qu uQ sH nU ku oZ w_ hA_; obtain ⟨ax,ay,az,aA,aF,aH,aE,aM,aN,aR,aq,ar,⟨M,cs7,b8,e7,e8,k8,k9,k11,k1,hI⟩⟩:=hA_)
  ·refine aI aK ?_
   exact ⟨fun _=>rfl,ay,az,aA,aF,aH,aE,aM,aN,aR,aq,ar,⟨M,cs7,b8,e7,e8,k8,k9,k11,k1,hI⟩⟩
  ·obtain rfl:=ax ‹_›
   have f11:D 11=false:=Bool.eq_false_iff.2 fun h=>by rw [k1 h] at bX; cases bX
   refine aX (b:=b3) hI 2 (c:=(#[.int .i64 k,.int .i64 n,.string s,kvc])) aJ (by rw [f11]; rfl) rfl ?_
   have k1:=fun (_:ah D 1 11=true)=>(rfl:ah D 1 1=true)
   exact ⟨ax,fun _=>rfl,az,aA,aF,aH,aE,aM,aN,aR,aq,ar,⟨M,cs7,b8,e7,e8,k8,k9,k11,k1,hI⟩⟩
  ·refine aI aK ?_
   exact ⟨ax,ay,fun _=>rfl,aA,aF,aH,aE,aM,aN,aR,aq,ar,⟨M,cs7,b8,e7,e8,k8,k9,k11,k1,hI⟩⟩
  ·obtain rfl:=az ‹_›
   refine aX hI 0 aJ rfl rfl ?_
   exact ⟨ax,ay,az,fun _=>rfl,aF,aH,aE,aM,aN,aR,aq,ar,⟨M,cs7,b8,e7,e8,k8,k9,k11,k1,hI⟩⟩
  ·exact ⟨ax,ay,az,aA,fun _=>rfl,aH,aE,aM,aN,aR,aq,ar,⟨M,cs7,b8,e7,e8,k8,k9,k11,k1,hI⟩⟩
  ·obtain rfl:=aA ‹_›
   obtain rfl:=aF ‹_›
   refine be aC hj' ?_
   exact ⟨ax,ay,az,aA,aF,fun _=>rfl,aE,aM,aN,aR,aq,ar,⟨M,cs7,b8,e7,e8,k8,k9,k11,k1,hI⟩⟩
  ·obtain rfl:=aH ‹_›
   refine cL ai hR.length (fun j v hj=>by rw [hI.cellS hS]; exact bh rfl j v hj) ?_
   exact ⟨ax,ay,az,aA,aF,aH,fun _=>rfl,aM,aN,aR,aq,ar,⟨M,cs7,b8,e7,e8,k8,k9,k11,k1,hI⟩⟩
  ·obtain rfl:=aE ‹_›
   have f8:D 8=false:=Bool.eq_false_iff.2 fun h=>by rw [k8 h] at bX; cases bX
   have f9:D 9=false:=Bool.eq_false_iff.2 fun h=>by rw [k9 h] at f8; cases f8
   have f11:D 11=false:=Bool.eq_false_iff.2 fun h=>by rw [k11 h] at f9; cases f9
   rw [bX,f8,f9,f11] at hI
   refine Run.call0 eK eH hI (ih _ (List.getElem_mem hj') S _ hR (by omega)) fun v' I' S w_=>?_
   rintro ⟨rfl,cs7,M,rfl,rfl,hT⟩ _ hI
   have e7:ah D 7 7=true->Value.agg cs7.toArray=Value.agg cs7.toArray/\TrT M cs7 (ks)[j]:=fun _=>⟨rfl,hT⟩
   have k8:=fun (_:ah D 7 8=true)=>(rfl:ah D 7 7=true)
   have hI:Inv w [] (bI (.blk b1 (.cells #[.int .i64 k,.int .i64 n,.string s,.slice (some ⟨b,o,none⟩) ks.length cap] ab)) (.blk b2 (.cells #[.int .i64 0,.int .i64 0,.string ⟨#[]⟩,.slice none 0 0] ab)) (.blk b3 (.cells #[.int .i64 k,.int .i64 n,.string s,kvc] ab)) (.blk b3 (.cells #[.int .i64 k,.int .i64 n,.string s,gC] ab)) (bq kvc ab 4 css) (bq gC ab 4 (css++[cs7])) (bV Ls.flatten) M (.blk b8 (.cells cs7.toArray ab)) true (D 8) (D 9) (D 11)) S w_:=by
    rw [f8,f9,f11]
    simpa [bI] using hI
   exact ⟨ax,ay,az,aA,aF,aH,aE,fun _=>by first|assumption|trivial,aN,aR,aq,ar,⟨M,cs7,b8,e7,e8,k8,k9,k11,k1,hI⟩⟩
  ·have Gd:=aM ‹_›
   have f9:D 9=false:=Bool.eq_false_iff.2 fun h=>by rw [k9 h] at bX; cases bX
   have f11:D 11=false:=Bool.eq_false_iff.2 fun h=>by rw [k11 h] at f9; cases f9
   obtain ⟨q7,hT⟩:=e7 ‹D 7=true›
   subst q7
   rw [‹D 7=true›,bX,f9,f11] at hI
   refine dh hI bO (by simp [Value.cells,hT.length]) (by omega) (by omega) fun b8 w_ hI=>?_
   have e7:ah D 8 7=true->Value.agg cs7.toArray=Value.agg cs7.toArray/\TrT M cs7 (ks)[j]:=fun _=>⟨rfl,hT⟩
   have e8:=fun (_:ah D 8 8=true)=>(rfl:Value.slice (some ⟨b8,0,none⟩) 1 1=_)
   have k8:=fun (_:ah D 8 8=true)=>‹D 7=true›
   have k9:=fun (_:ah D 8 9=true)=>(rfl:ah D 8 8=true)
   have hI:Inv w [] (bI (.blk b1 (.cells #[.int .i64 k,.int .i64 n,.string s,.slice (some ⟨b,o,none⟩) ks.length cap] ab)) (.blk b2 (.cells #[.int .i64 0,.int .i64 0,.string ⟨#[]⟩,.slice none 0 0] ab)) (.blk b3 (.cells #[.int .i64 k,.int .i64 n,.string s,kvc] ab)) (.blk b3 (.cells #[.int .i64 k,.int .i64 n,.string s,gC] ab)) (bq kvc ab 4 css) (bq gC ab 4 (css++[cs7])) (bV Ls.flatten) M (.blk b8 (.cells cs7.toArray ab)) (D 7) true (D 9) (D 11)) S w_:=by
    rw [‹D 7=true›,f9,f11]
    simpa [bI,Value.cells] using hI
   exact ⟨ax,ay,az,aA,aF,aH,aE,aM,fun _=>by first|assumption|trivial,aR,aq,ar,⟨M,cs7,b8,e7,e8,k8,k9,k11,k1,hI⟩⟩
  ·obtain rfl:=ay ‹_›
   have BL:=aN ‹_›
   have f11:D 11=false:=Bool.eq_false_iff.2 fun h=>by rw [k11 h] at bX; cases bX
   have q8:=e8 ‹D 8=true›
   subst q8
   obtain ⟨_,hT⟩:=e7 ‹D 7=true›
   rw [‹D 7=true›,‹D 8=true›,bX,f11] at hI
   have hblk:((bI (.blk b1 (.cells #[.int .i64 k,.int .i64 n,.string s,.slice (some ⟨b,o,none⟩) ks.length cap] ab)) (.blk b2 (.cells #[.int .i64 0,.int .i64 0,.string ⟨#[]⟩,.slice none 0 0] ab)) (.blk b3 (.cells #[.int .i64 k,.int .i64 n,.string s,ku] ab)) (.blk b3 (.cells #[.int .i64 k,.int .i64 n,.string s,gC] ab)) (bq ku ab 4 css) (bq gC ab 4 (css++[cs7])) (bV Ls.flatten) M (.blk b8 (.cells cs7.toArray ab)) true true false false))[4+(bV Ls.flatten).length+(bV M).length]?=some (.blk b8 (.cells cs7.toArray ab)):=by
    have e4:4+(bV Ls.flatten).length+(bV M).length=((bV Ls.flatten).length+(bV M).length)+1+1+1+1:=by omega
    rw [e4]
    simp only [bI,List.getElem?_cons_succ]
    rw [List.getElem?_append_right (by omega),Nat.add_sub_cancel_left,List.getElem?_append_right (Nat.le_refl _),Nat.sub_self]; rfl
   refine fm hI 3 cs7 bO (by omega) rfl (by rw [hT.length]) (m:=1) (o:=0) ?_ hT.one (by omega) (by omega) fun v' w_ hI=>?_
   ·intro i u hi
    rw [hI.cellL hblk,Nat.zero_add]
    simpa using hi
   rw [f1] at hI
   have k9:=fun (_:ah D 9 9=true)=>‹D 8=true›
   have k11:=fun (_:ah D 9 11=true)=>(rfl:ah D 9 9=true)
   have hI:Inv w [] (bI (.blk b1 (.cells #[.int .i64 k,.int .i64 n,.string s,.slice (some ⟨b,o,none⟩) ks.length cap] ab)) (.blk b2 (.cells #[.int .i64 0,.int .i64 0,.string ⟨#[]⟩,.slice none 0 0] ab)) (.blk b3 (.cells #[.int .i64 k,.int .i64 n,.string s,ku] ab)) (.blk b3 (.cells #[.int .i64 k,.int .i64 n,.string s,v'] ab)) (bq ku ab 4 css) (bq v' ab 4 (css++[cs7])) (bV Ls.flatten) M (.blk b8 (.cells cs7.toArray ab)) (D 7) (D 8) true (D 11)) S w_:=by
    rw [‹D 7=true›,‹D 8=true›,f11]
    exact hI
   exact ⟨ax,ay,az,aA,aF,aH,aE,aM,aN,fun _=>by first|assumption|trivial,aq,ar,⟨M,cs7,b8,e7,e8,k8,k9,k11,k1,hI⟩⟩
  ·refine aI aK ?_
   exact ⟨ax,ay,az,aA,aF,aH,aE,aM,aN,aR,fun _=>rfl,ar,⟨M,cs7,b8,e7,e8,k8,k9,k11,k1,hI⟩⟩
  ·obtain rfl:=aq ‹_›
   have Ge:=aR ‹_›
   rw [‹D 7=true›,‹D 8=true›,‹D 9=true›,bX] at hI
   obtain ⟨va,vn,vc,hv9⟩:=Inv.rowSlice hI 3 rfl
   refine dy hI 2 (n:=1) (by rw [hv9]; rfl) (by decide +kernel) rfl (by simp) (by rw [hv9]; simp [Value.cells,Value.oneCell']) fun w_ hI=>?_
   have hcl9:Value.cells gC=#[gC]:=by rw [hv9]; rfl
   rw [hcl9] at hI
   have k1:=fun (_:ah D 11 11=true)=>‹D 1=true›
   have k11:=fun (_:ah D 11 11=true)=>‹D 9=true›
   have hI:Inv w [] (bI (.blk b1 (.cells #[.int .i64 k,.int .i64 n,.string s,.slice (some ⟨b,o,none⟩) ks.length cap] ab)) (.blk b2 (.cells #[.int .i64 0,.int .i64 0,.string ⟨#[]⟩,.slice none 0 0] ab)) (.blk b3 (.cells #[.int .i64 k,.int .i64 n,.string s,kvc] ab)) (.blk b3 (.cells #[.int .i64 k,.int .i64 n,.string s,gC] ab)) (bq kvc ab 4 css) (bq gC ab 4 (css++[cs7])) (bV Ls.flatten) M (.blk b8 (.cells cs7.toArray ab)) (D 7) (D 8) (D 9) true) S w_:=by
    rw [‹D 7=true›,‹D 8=true›,‹D 9=true›]
    exact hI
   exact ⟨ax,ay,az,aA,aF,aH,aE,aM,aN,aR,aq,fun _=>trivial,⟨M,cs7,b8,e7,e8,k8,k9,k11,k1,hI⟩⟩
  obtain rfl:=aq ‹_›
  have Ge:=aR ‹_›
  have BL:=aN ‹_›
  have Gd:=aM ‹_›
  obtain rfl:=aE ‹_›
  obtain rfl:=aH ‹_›
  obtain rfl:=aF ‹_›
  obtain rfl:=aA ‹_›
  obtain rfl:=az ‹_›
  obtain rfl:=ay ‹_›
  obtain rfl:=ax ‹_›
  have Bk:D 7=true:=by assumption
  have zn:D 8=true:=by assumption
  have ES:D 9=true:=by assumption
  have sR:D 11=true:=by assumption
  clear ax ay az aA aF aH aE aM aN aR aq ar
  obtain ⟨_,hT⟩:=e7 Bk
  rw [Bk,zn,ES,sR] at hI
  refine bT (by omega) ?_
  refine ⟨⟨j+1,gC,Ls++[M],css++[cs7],hj',rfl,?_,?_⟩,by simp [intOf]; omega⟩
  ·rw [List.take_succ_eq_append_getElem hj']
   exact hg.snoc hT hT.length
  ·simp only [List.flatten_append,List.flatten_cons,List.flatten_nil,List.append_nil,eF]
   refine hI.sub ?_
   simp only [bI]
   rw [<- List.append_assoc]
   exact (((List.sublist_append_left _ _).cons_cons _).cons_cons _).cons_cons _ |>.cons_cons _
 ·have:j=ks.length:=by omega
  subst this
  rw [List.take_length] at hg
  obtain ⟨va,vn,vc,hvk⟩:=hI.rowSlice 3 rfl
  have hv1:kvc.oneCell'=true:=by rw [hvk]; rfl
  refine aL hI 2 ai rfl rfl ?_
  refine aG hI 1 rfl ai rfl rfl ?_ fun w' hI=>?_
  ·intro u hu
   have hu':u∈([.int .i64 k,.int .i64 n,.string s,kvc]:List Value):=hu
   simp at hu'
   rcases hu' with rfl|rfl|rfl|rfl <;> first|rfl|exact hv1
  refine bE hI 1 ai rfl rfl ?_
  have hI:Inv w [] ([]++(bq kvc ab 4 css::bV Ls.flatten)) S w':=hI.sub (List.sublist_append_right [_,_,_] _)
  obtain ⟨L,hT,hI⟩:=Inv.rowTree hI hg
  exact ⟨_,_,_,rfl,hI,Ext.refl _ _ _,rfl,_,L,rfl,rfl,TrT.iff.2 ⟨kvc,rfl,h1,h2,hs,hT⟩⟩
end

end Go.Proofs.YtfcbhfjomgopbaaGreat

/- spec.l4Copy, spec.l14Copy: clauses and programs copied. -/
namespace Go.Proofs.YtfcbhfjomgopbaaGreat
open Go Go.RowKit
section
attribute [local irreducible] Run CondV ag aO
theorem BT {c0:C} {S:al} {cs:List Value} (h:RdC S cs c0) (hw:wC c0<=1048576):Tri Tryz.prog Gf [.agg cs.toArray] [] S (MT S c0):=by
 intro w hI
 obtain ⟨hd,ks,rfl,h1,h2⟩:=h
 have h1':=h1
 obtain ⟨kv,rfl,g1,g2,g3,g4⟩:=RdT.iff.1 h1
 unfold wC at hw
 refine yy ?_
 unfold uM
 refine bS hI fun b1 w' hI=>?_
 refine bi hI fo fun b2 w' hI=>?_
 refine aI dt ?_
 refine cN hI 0 [.int .i64 c0.head.kind,.int .i64 c0.head.n,.string c0.head.name,kv] ai rfl rfl KL ?_
 refine Run.call0 eK eH hI (fE _ S _ h1' (by omega)) fun v' I' S w'=>?_
 rintro ⟨rfl,cs1,N,rfl,rfl,hT1⟩ _ hI
 obtain ⟨kh,rfl,_⟩:=TrT.iff.1 hT1
 refine uW ?_
 refine bi hI fo fun b3 w' hI=>?_
 have hI:=hI.perm (M:=.blk b1 _::.blk b2 _::.blk b3 _::bV N) (((List.perm_append_comm (l₁:=[_])).cons _).cons _)
 refine aG hI 2 rfl cr rfl rfl ?_ fun w' hI=>?_
 ·intro u hu
  have hu':u∈([.int .i64 c0.head.kind,.int .i64 c0.head.n,.string c0.head.name,kh,.slice none 0 0]:List Value):=hu
  simp at hu'
  have o1:kh.oneCell'=true:=hT1.one kh (by simp)
  rcases hu' with rfl|rfl|rfl|rfl|rfl <;> first|rfl|exact o1
 have hI:=hI.rowNil ab 4
 have hI:=hI.perm (M:=.blk b1 (.cells #[.int .i64 c0.head.kind,.int .i64 c0.head.n,.string c0.head.name,kv,ks] bw)::.blk b2 (.cells #[.int .i64 0,.int .i64 0,.string ⟨#[]⟩,.slice none 0 0,.slice none 0 0] bw)::.blk b3 (.cells #[.int .i64 c0.head.kind,.int .i64 c0.head.n,.string c0.head.name,kh,.slice none 0 0] bw)::bq (.slice none 0 0) ab 4 []::bV N) ((((List.perm_append_comm (l₁:=[_])).cons _).cons _).cons _)
 refine ⟨fun i w'=>∃ (j:Nat) (kvc:Value) (Ls:List bG) (css:List (List Value)),j<=c0.body.length/\i=.int .i64 j/\Grown 4 TrT Ls css (c0.body.take j)/\
   Inv w [] (.blk b1 (.cells #[.int .i64 c0.head.kind,.int .i64 c0.head.n,.string c0.head.name,kv,ks] bw)::.blk b2 (.cells #[.int .i64 0,.int .i64 0,.string ⟨#[]⟩,.slice none 0 0,.slice none 0 0] bw)::.blk b3 (.cells #[.int .i64 c0.head.kind,.int .i64 c0.head.n,.string c0.head.name,kh,kvc] bw)::bq kvc ab 4 css::bV (N::Ls).flatten) S w',
  fun i _=>c0.body.length - (intOf i).toNat,⟨0,_,[],[],Nat.zero_le _,rfl,Grown.nil _ _,by simp only [List.flatten_cons,List.flatten_nil,List.append_nil]; exact hI⟩,?_⟩
 intro t4 _ _ _ _ _ _ _ _ _ _ _ _ _ _ _ _ _ _ w'
 rintro ⟨j,kvc,Ls,css,hj,rfl,hg,hI⟩
 refine ao hI 0 rfl cD aJ rfl ?_
 refine bp h2 aC ?_
 refine cg ?_
 refine bz (fun hji=>?_) (fun hji=>?_)
 ·have hj':j<c0.body.length:=by omega
  have hjl:(c0.body.take j).length=j:=by simp; omega
  have hcl:=hg.hc
  have hm:=List.getElem_mem hj'
  have hwm:=jO hm
  obtain ⟨b,o,cap,c,E,fz,rfl,hS,hR⟩:=h2.at_ hj'
  refine ⟨fun D oA ki qu uQ sH nU ku oZ xE tz BD w_=>(D 0=true->BD=.pointer (some ⟨b3,4,none⟩))/\(D 1=true->tz=kvc)/\(D 2=true->xE=.pointer (some ⟨b1,4,none⟩))/\(D 3=true->oZ=.slice (some ⟨b,o,none⟩) (c0.body).length cap)/\(D 4=true->ku=.int .i64 j)/\(D 5=true->nU=.pointer (some ⟨b,o+j * 4,none⟩))/\(D 6=true->sH=.agg (bm c (o+j * 4) 4).toArray)/\(D 7=true->True)/\(D 8=true->True)/\(D 9=true->True)/\(D 10=true->oA=.pointer (some ⟨b3,4,none⟩))/\(D 11=true->True)/\∃ M cs7 b8,(D 7=true->uQ=.agg cs7.toArray/\TrT M cs7 (c0.body)[j])/\(D 8=true->qu=.slice (some ⟨b8,0,none⟩) 1 1)/\(D 8=true->D 7=true)/\(D 9=true->D 8=true)/\(D 11=true->D 9=true)/\(D 11=true->D 1=true)/\Inv w [] (bI (.blk b1 (.cells #[.int .i64 c0.head.kind,.int .i64 c0.head.n,.string c0.head.name,kv,.slice (some ⟨b,o,none⟩) c0.body.length cap] bw)) (.blk b2 (.cells #[.int .i64 0,.int .i64 0,.string ⟨#[]⟩,.slice none 0 0,.slice none 0 0] bw)) (.blk b3 (.cells #[.int .i64 c0.head.kind,.int .i64 c0.head.n,.string c0.head.name,kh,kvc] bw)) (.blk b3 (.cells #[.int .i64 c0.head.kind,.int .i64 c0.head.n,.string c0.head.name,kh,ki] bw)) (bq kvc ab 4 css) (bq ki ab 4 (css++[cs7])) (bV (N::Ls).flatten) M (.blk b8 (.cells cs7.toArray ab)) (D 7) (D 8) (D 9) (D 11)) S w_,⟨ac,ac,ac,ac,ac,ac,ac,ac,ac,ac,ac,ac,⟨[],[],0,ac,ac,ac,ac,ac,ac,by simpa [bI,bV] using hI.draw⟩⟩,⟨?_,?_,?_,?_,?_,?_,?_,?_,?_,?_,?_,?_,trivial⟩,?_⟩
  all_goals (intro D bX; intros; rename_i oA ki qu uQ sH nU ku oZ xE tz BD w_ hA_; obtain ⟨ax,ay,az,aA,aF,aH,aE,aM,aN,aR,aq,ar,⟨M,cs7,b8,e7,e8,k8,k9,k11,k1,hI⟩⟩:=hA_)
  ·refine aI cD ?_
   exact ⟨fun _=>rfl,ay,az,aA,aF,aH,aE,aM,aN,aR,aq,ar,⟨M,cs7,b8,e7,e8,k8,k9,k11,k1,hI⟩⟩
  ·obtain rfl:=ax ‹_›
   have f11:D 11=false:=Bool.eq_false_iff.2 fun h=>by rw [k1 h] at bX; cases bX
   refine aX (b:=b3) hI 2 (c:=(#[.int .i64 c0.head.kind,.int .i64 c0.head.n,.string c0.head.name,kh,kvc])) aJ (by rw [f11]; rfl) rfl ?_
   have k1:=fun (_:ah D 1 11=true)=>(rfl:ah D 1 1=true)
   exact ⟨ax,fun _=>rfl,az,aA,aF,aH,aE,aM,aN,aR,aq,ar,⟨M,cs7,b8,e7,e8,k8,k9,k11,k1,hI⟩⟩
  ·refine aI cD ?_
   exact ⟨ax,ay,fun _=>rfl,aA,aF,aH,aE,aM,aN,aR,aq,ar,⟨M,cs7,b8,e7,e8,k8,k9,k11,k1,hI⟩⟩
  ·obtain rfl:=az ‹_›
   refine aX hI 0 aJ rfl rfl ?_
   exact ⟨ax,ay,az,fun _=>rfl,aF,aH,aE,aM,aN,aR,aq,ar,⟨M,cs7,b8,e7,e8,k8,k9,k11,k1,hI⟩⟩
  ·exact ⟨ax,ay,az,aA,fun _=>rfl,aH,aE,aM,aN,aR,aq,ar,⟨M,cs7,b8,e7,e8,k8,k9,k11,k1,hI⟩⟩
  ·obtain rfl:=aA ‹_›
   obtain rfl:=aF ‹_›
   refine be aC hj' ?_
   exact ⟨ax,ay,az,aA,aF,fun _=>rfl,aE,aM,aN,aR,aq,ar,⟨M,cs7,b8,e7,e8,k8,k9,k11,k1,hI⟩⟩
  ·obtain rfl:=aH ‹_›
   refine cL ai hR.length (fun j v hj=>by rw [hI.cellS hS]; exact bh rfl j v hj) ?_
   exact ⟨ax,ay,az,aA,aF,aH,fun _=>rfl,aM,aN,aR,aq,ar,⟨M,cs7,b8,e7,e8,k8,k9,k11,k1,hI⟩⟩
  ·obtain rfl:=aE ‹_›
   have f8:D 8=false:=Bool.eq_false_iff.2 fun h=>by rw [k8 h] at bX; cases bX
   have f9:D 9=false:=Bool.eq_false_iff.2 fun h=>by rw [k9 h] at f8; cases f8
   have f11:D 11=false:=Bool.eq_false_iff.2 fun h=>by rw [k11 h] at f9; cases f9
   rw [bX,f8,f9,f11] at hI
   refine Run.call0 eK eH hI (fE _ S _ hR (by omega)) fun v' I' S w_=>?_
   rintro ⟨rfl,cs7,M,rfl,rfl,hT⟩ _ hI
   have e7:ah D 7 7=true->Value.agg cs7.toArray=Value.agg cs7.toArray/\TrT M cs7 (c0.body)[j]:=fun _=>⟨rfl,hT⟩
   have k8:=fun (_:ah D 7 8=true)=>(rfl:ah D 7 7=true)
   have hI:Inv w [] (bI (.blk b1 (.cells #[.int .i64 c0.head.kind,.int .i64 c0.head.n,.string c0.head.name,kv,.slice (some ⟨b,o,none⟩) c0.body.length cap] bw)) (.blk b2 (.cells #[.int .i64 0,.int .i64 0,.string ⟨#[]⟩,.slice none 0 0,.slice none 0 0] bw)) (.blk b3 (.cells #[.int .i64 c0.head.kind,.int .i64 c0.head.n,.string c0.head.name,kh,kvc] bw)) (.blk b3 (.cells #[.int .i64 c0.head.kind,.int .i64 c0.head.n,.string c0.head.name,kh,ki] bw)) (bq kvc ab 4 css) (bq ki ab 4 (css++[cs7])) (bV (N::Ls).flatten) M (.blk b8 (.cells cs7.toArray ab)) true (D 8) (D 9) (D 11)) S w_:=by
    rw [f8,f9,f11]
    simpa [bI] using hI
   exact ⟨ax,ay,az,aA,aF,aH,aE,fun _=>by first|assumption|trivial,aN,aR,aq,ar,⟨M,cs7,b8,e7,e8,k8,k9,k11,k1,hI⟩⟩
  ·have Gd:=aM ‹_›
   have f9:D 9=false:=Bool.eq_false_iff.2 fun h=>by rw [k9 h] at bX; cases bX
   have f11:D 11=false:=Bool.eq_false_iff.2 fun h=>by rw [k11 h] at f9; cases f9
   obtain ⟨q7,hT⟩:=e7 ‹D 7=true›
   subst q7
   rw [‹D 7=true›,bX,f9,f11] at hI
   refine dh hI bO (by simp [Value.cells,hT.length]) (by omega) (by omega) fun b8 w_ hI=>?_
   have e7:ah D 8 7=true->Value.agg cs7.toArray=Value.agg cs7.toArray/\TrT M cs7 (c0.body)[j]:=fun _=>⟨rfl,hT⟩
   have e8:=fun (_:ah D 8 8=true)=>(rfl:Value.slice (some ⟨b8,0,none⟩) 1 1=_)
   have k8:=fun (_:ah D 8 8=true)=>‹D 7=true›
   have k9:=fun (_:ah D 8 9=true)=>(rfl:ah D 8 8=true)
   have hI:Inv w [] (bI (.blk b1 (.cells #[.int .i64 c0.head.kind,.int .i64 c0.head.n,.string c0.head.name,kv,.slice (some ⟨b,o,none⟩) c0.body.length cap] bw)) (.blk b2 (.cells #[.int .i64 0,.int .i64 0,.string ⟨#[]⟩,.slice none 0 0,.slice none 0 0] bw)) (.blk b3 (.cells #[.int .i64 c0.head.kind,.int .i64 c0.head.n,.string c0.head.name,kh,kvc] bw)) (.blk b3 (.cells #[.int .i64 c0.head.kind,.int .i64 c0.head.n,.string c0.head.name,kh,ki] bw)) (bq kvc ab 4 css) (bq ki ab 4 (css++[cs7])) (bV (N::Ls).flatten) M (.blk b8 (.cells cs7.toArray ab)) (D 7) true (D 9) (D 11)) S w_:=by
    rw [‹D 7=true›,f9,f11]
    simpa [bI,Value.cells] using hI
   exact ⟨ax,ay,az,aA,aF,aH,aE,aM,fun _=>by first|assumption|trivial,aR,aq,ar,⟨M,cs7,b8,e7,e8,k8,k9,k11,k1,hI⟩⟩
  ·obtain rfl:=ay ‹_›
   have BL:=aN ‹_›
   have f11:D 11=false:=Bool.eq_false_iff.2 fun h=>by rw [k11 h] at bX; cases bX
   have q8:=e8 ‹D 8=true›
   subst q8
   obtain ⟨_,hT⟩:=e7 ‹D 7=true›
   rw [‹D 7=true›,‹D 8=true›,bX,f11] at hI
   have hblk:((bI (.blk b1 (.cells #[.int .i64 c0.head.kind,.int .i64 c0.head.n,.string c0.head.name,kv,.slice (some ⟨b,o,none⟩) c0.body.length cap] bw)) (.blk b2 (.cells #[.int .i64 0,.int .i64 0,.string ⟨#[]⟩,.slice none 0 0,.slice none 0 0] bw)) (.blk b3 (.cells #[.int .i64 c0.head.kind,.int .i64 c0.head.n,.string c0.head.name,kh,tz] bw)) (.blk b3 (.cells #[.int .i64 c0.head.kind,.int .i64 c0.head.n,.string c0.head.name,kh,ki] bw)) (bq tz ab 4 css) (bq ki ab 4 (css++[cs7])) (bV (N::Ls).flatten) M (.blk b8 (.cells cs7.toArray ab)) true true false false))[4+(bV (N::Ls).flatten).length+(bV M).length]?=some (.blk b8 (.cells cs7.toArray ab)):=by
    have e4:4+(bV (N::Ls).flatten).length+(bV M).length=((bV (N::Ls).flatten).length+(bV M).length)+1+1+1+1:=by omega
    rw [e4]
    simp only [bI,List.getElem?_cons_succ]
    rw [List.getElem?_append_right (by omega),Nat.add_sub_cancel_left,List.getElem?_append_right (Nat.le_refl _),Nat.sub_self]; rfl
   refine fm hI 3 cs7 bO (by omega) rfl (by rw [hT.length]) (m:=1) (o:=0) ?_ hT.one (by omega) (by omega) fun v' w_ hI=>?_
   ·intro i u hi
    rw [hI.cellL hblk,Nat.zero_add]
    simpa using hi
   rw [f1] at hI
   have k9:=fun (_:ah D 9 9=true)=>‹D 8=true›
   have k11:=fun (_:ah D 9 11=true)=>(rfl:ah D 9 9=true)
   have hI:Inv w [] (bI (.blk b1 (.cells #[.int .i64 c0.head.kind,.int .i64 c0.head.n,.string c0.head.name,kv,.slice (some ⟨b,o,none⟩) c0.body.length cap] bw)) (.blk b2 (.cells #[.int .i64 0,.int .i64 0,.string ⟨#[]⟩,.slice none 0 0,.slice none 0 0] bw)) (.blk b3 (.cells #[.int .i64 c0.head.kind,.int .i64 c0.head.n,.string c0.head.name,kh,tz] bw)) (.blk b3 (.cells #[.int .i64 c0.head.kind,.int .i64 c0.head.n,.string c0.head.name,kh,v'] bw)) (bq tz ab 4 css) (bq v' ab 4 (css++[cs7])) (bV (N::Ls).flatten) M (.blk b8 (.cells cs7.toArray ab)) (D 7) (D 8) true (D 11)) S w_:=by
    rw [‹D 7=true›,‹D 8=true›,f11]
    exact hI
   exact ⟨ax,ay,az,aA,aF,aH,aE,aM,aN,fun _=>by first|assumption|trivial,aq,ar,⟨M,cs7,b8,e7,e8,k8,k9,k11,k1,hI⟩⟩
  ·refine aI cD ?_
   exact ⟨ax,ay,az,aA,aF,aH,aE,aM,aN,aR,fun _=>rfl,ar,⟨M,cs7,b8,e7,e8,k8,k9,k11,k1,hI⟩⟩
  ·obtain rfl:=aq ‹_›
   have Ge:=aR ‹_›
   rw [‹D 7=true›,‹D 8=true›,‹D 9=true›,bX] at hI
   obtain ⟨va,vn,vc,hv9⟩:=Inv.rowSlice hI 3 rfl
   refine dy hI 2 (n:=1) (by rw [hv9]; rfl) (by decide +kernel) rfl (by simp) (by rw [hv9]; simp [Value.cells,Value.oneCell']) fun w_ hI=>?_
   have hcl9:Value.cells ki=#[ki]:=by rw [hv9]; rfl
   rw [hcl9] at hI
   have k1:=fun (_:ah D 11 11=true)=>‹D 1=true›
   have k11:=fun (_:ah D 11 11=true)=>‹D 9=true›
   have hI:Inv w [] (bI (.blk b1 (.cells #[.int .i64 c0.head.kind,.int .i64 c0.head.n,.string c0.head.name,kv,.slice (some ⟨b,o,none⟩) c0.body.length cap] bw)) (.blk b2 (.cells #[.int .i64 0,.int .i64 0,.string ⟨#[]⟩,.slice none 0 0,.slice none 0 0] bw)) (.blk b3 (.cells #[.int .i64 c0.head.kind,.int .i64 c0.head.n,.string c0.head.name,kh,kvc] bw)) (.blk b3 (.cells #[.int .i64 c0.head.kind,.int .i64 c0.head.n,.string c0.head.name,kh,ki] bw)) (bq kvc ab 4 css) (bq ki ab 4 (css++[cs7])) (bV (N::Ls).flatten) M (.blk b8 (.cells cs7.toArray ab)) (D 7) (D 8) (D 9) true) S w_:=by
    rw [‹D 7=true›,‹D 8=true›,‹D 9=true›]
    exact hI
   exact ⟨ax,ay,az,aA,aF,aH,aE,aM,aN,aR,aq,fun _=>trivial,⟨M,cs7,b8,e7,e8,k8,k9,k11,k1,hI⟩⟩
  obtain rfl:=aq ‹_›
  have Ge:=aR ‹_›
  have BL:=aN ‹_›
  have Gd:=aM ‹_›
  obtain rfl:=aE ‹_›
  obtain rfl:=aH ‹_›
  obtain rfl:=aF ‹_›
  obtain rfl:=aA ‹_›
  obtain rfl:=az ‹_›
  obtain rfl:=ay ‹_›
  obtain rfl:=ax ‹_›
  have Bk:D 7=true:=by assumption
  have zn:D 8=true:=by assumption
  have ES:D 9=true:=by assumption
  have sR:D 11=true:=by assumption
  clear ax ay az aA aF aH aE aM aN aR aq ar
  obtain ⟨_,hT⟩:=e7 Bk
  rw [Bk,zn,ES,sR] at hI
  refine bT (by omega) ?_
  refine ⟨⟨j+1,ki,Ls++[M],css++[cs7],hj',rfl,?_,?_⟩,by simp [intOf]; omega⟩
  ·rw [List.take_succ_eq_append_getElem hj']
   exact hg.snoc hT hT.length
  ·rw [<- List.cons_append,List.flatten_append,eF]
   simp only [List.flatten_cons,List.flatten_nil,List.append_nil]
   refine hI.sub ?_
   simp only [bI,List.flatten_cons]
   rw [<- List.append_assoc]
   exact (((List.sublist_append_left _ _).cons_cons _).cons_cons _).cons_cons _ |>.cons_cons _
 ·have:j=c0.body.length:=by omega
  subst this
  rw [List.take_length] at hg
  obtain ⟨va,vn,vc,hvk⟩:=hI.rowSlice 3 rfl
  have hv1:kvc.oneCell'=true:=by rw [hvk]; rfl
  have o1:kh.oneCell'=true:=hT1.one kh (by simp)
  refine aL hI 2 cr rfl rfl ?_
  refine aG hI 1 rfl cr rfl rfl ?_ fun w' hI=>?_
  ·intro u hu
   have hu':u∈([.int .i64 c0.head.kind,.int .i64 c0.head.n,.string c0.head.name,kh,kvc]:List Value):=hu
   simp at hu'
   rcases hu' with rfl|rfl|rfl|rfl|rfl <;> first|rfl|exact o1|exact hv1
  refine bE hI 1 cr rfl rfl ?_
  have hI:Inv w [] (bq kvc ab 4 css::bV (N::Ls).flatten) S w':=hI.sub (List.sublist_append_right [_,_,_] _)
  rw [List.flatten_cons,eF] at hI
  have hI:=hI.perm (M:=bV N++(bq kvc ab 4 css::bV Ls.flatten)) (List.perm_middle)
  obtain ⟨L,hT,hI⟩:=Inv.rowTree hI hg
  exact ⟨_,_,_,rfl,hI,Ext.refl _ _ _,rfl,_,N++L,rfl,by rw [eF],_,kvc,N,L,rfl,rfl,hT1,hT⟩
end

end Go.Proofs.YtfcbhfjomgopbaaGreat

/- append of a whole slice that is only read to a row of the function's own. -/
namespace Go.Proofs.YtfcbhfjomgopbaaGreat
open Go Go.RowKit
section
variable {P:Program} {w w0:World} {X:List Nat} {L:List Item} {S:al} {K:Value->World->Prop}
theorem Jt (h:Inv w0 X L S w) {T ty e:TypeId} {k by_ n cp:Nat} {z v:Value} {cs:List Bool} {xs:List Value} {a:Option Addr} (i:Nat)
  (hT:fB P T=some (e,k,by_,z)) (hi:L[i]?=some (.row v e k n xs)) (hk:K v w) :
  Run P (bx .append #[T,T] ty cs [v,.slice a 0 cp]) w K:=by
 obtain ⟨hu,inf,hi',hz,hs,hb,hzs⟩:=gO hT
 have hown:=h.its _ (List.mem_of_getElem? hi)
 simp only [Item.holds] at hown
 refine Run.of (v:=v) (w':=w) ?_ hk
 rcases hown.2 with ⟨rfl,rfl⟩|⟨g,cap,cur,rfl,_,hg,hnc,hcm,hcs,ht⟩
 ·cases a <;> simp [bx,builtin,Builtin.append_,run_underlying hu,sizeOf,typeInfo,hi',Builtin.lenOf,Builtin.firstCells,loadCells,loadCellsFrom]
 ·cases a <;> simp [bx,builtin,Builtin.append_,run_underlying hu,sizeOf,typeInfo,hi',storeCells,hnc,Builtin.lenOf,Builtin.firstCells,loadCells,loadCellsFrom]
end

end Go.Proofs.YtfcbhfjomgopbaaGreat

/- Rows of clauses that are only read: grown, joined, copied. -/
namespace Go.Proofs.YtfcbhfjomgopbaaGreat
open Go Go.RowKit

structure Rows {α:Type} (k:Nat) (R:List Value->α->Prop) (css:List (List Value)) (ys:List α):Prop where
 hc:css.length=ys.length
 hk:∀ cs∈css,cs.length=k
 hR:∀ i (h:i<ys.length) (h1:i<css.length),R css[i] ys[i]
theorem Rows.nil {α:Type} (k:Nat) (R:List Value->α->Prop):Rows k R [] ([]:List α):=⟨rfl,by simp,fun i h=>by simp at h⟩
theorem Rows.snoc {α:Type} {k:Nat} {R:List Value->α->Prop} {css:List (List Value)} {ys:List α} (h:Rows k R css ys) {cs:List Value} {y:α} (hR:R cs y) (hl:cs.length=k):Rows k R (css++[cs]) (ys++[y]):=by
 refine ⟨by simp [h.hc],fun c hc=>?_,fun i h0 h2=>?_⟩
 ·rcases List.mem_append.1 hc with hc|hc
  ·exact h.hk c hc
  ·simp at hc; subst hc; exact hl
 ·have e2:=h.hc
  by_cases hi:i<ys.length
  ·rw [List.getElem_append_left (by omega),List.getElem_append_left hi]
   exact h.hR i hi (by omega)
  ·have:i=ys.length:=by simp at h0; omega
   subst this
   rw [List.getElem_append_right (by omega),List.getElem_append_right (by omega)]
   simp only [e2,Nat.sub_self,List.getElem_cons_zero]
   exact hR
theorem Rows.append {α:Type} {k:Nat} {R:List Value->α->Prop} {css css':List (List Value)} {ys ys':List α} (h:Rows k R css ys) (h':Rows k R css' ys'):Rows k R (css++css') (ys++ys'):=by
 have e:=h.hc
 have e':=h'.hc
 refine ⟨by simp [e,e'],fun c hc=>?_,fun i h0 h2=>?_⟩
 ·rcases List.mem_append.1 hc with hc|hc
  ·exact h.hk c hc
  ·exact h'.hk c hc
 ·by_cases hi:i<ys.length
  ·rw [List.getElem_append_left (by omega),List.getElem_append_left hi]
   exact h.hR i hi (by omega)
  ·have hi':i - css.length<ys'.length:=by simp at h0; omega
   rw [List.getElem_append_right (by omega),List.getElem_append_right (by omega)]
   have:=h'.hR (i - css.length) hi' (by omega)
   simpa only [e] using this
theorem RowRd.rows {α:Type} {S:al} {v:Value} {e:TypeId} {k:Nat} {R:List Value->α->Prop} {css:List (List Value)} {ys:List α} (hr:Rows k R css ys) (h:RowRd S v e k css.length css.flatten):RdSl S k R v ys:=by
 obtain ⟨hl,h⟩:=h
 have hcy:=hr.hc
 rcases h with ⟨rfl,h0⟩|⟨g,cap,cur,rfl,hS,hnc,hcm,hcs,ht⟩
 ·have:ys=[]:=List.eq_nil_of_length_eq_zero (by omega)
  subst this
  exact ⟨none,0,rfl,Nat.le_refl _,Nat.zero_le _,.inl rfl⟩
 ·refine ⟨_,cap,by rw [hcy],by omega,hcm,.inr ⟨g,0,cur,e,(0,0),rfl,hS,fun i hi=>?_⟩⟩
  have:=fT k css i hr.hk (by omega)
  have hik:i * k+k<=css.length * k:=by rw [<- Nat.succ_mul]; exact Nat.mul_le_mul_right k (by omega)
  rw [<- ht,List.drop_take,List.take_take,Nat.min_eq_left (by omega)] at this
  rw [bm,Nat.zero_add,this]
  exact hr.hR i hi (by omega)
theorem uK {k:Nat}:∀ {css:List (List Value)},(∀ cs∈css,cs.length=k)->css.flatten.length=css.length * k
 | [],_=>by simp
 | c::css,h=>by
  have:=uK (css:=css) fun cs hc=>h cs (List.mem_cons_of_mem _ hc)
  rw [List.flatten_cons,List.length_append,h c (List.mem_cons_self ..),this,List.length_cons,Nat.succ_mul,Nat.add_comm]
section
variable {P:Program} {w w0:World} {X:List Nat} {L:List Item} {S:al} {K:Value->World->Prop}
attribute [local irreducible] Run CondV ag aO
/- append(row, other row...) -/
end
end Go.Proofs.YtfcbhfjomgopbaaGreat

/- Reslicing; a read slice joined to a row. -/
namespace Go.Proofs.YtfcbhfjomgopbaaGreat
open Go Go.RowKit

theorem kV {P:Program} {T e:TypeId} {k:Nat} (h:cw P T=some (e,k)):P.underlying T=some (.slice e)/\∃ i,P.info? e=some i/\i.size=k:=by
 unfold cw at h
 split at h
 ·rename_i e1 he
  rw [Option.map_eq_some_iff] at h
  obtain ⟨i,hi,hx⟩:=h
  simp only [Prod.mk.injEq] at hx
  obtain ⟨rfl,rfl⟩:=hx
  exact ⟨he,i,hi,rfl⟩
 ·cases h
section
variable {P:Program} {w:World} {K:Value->World->Prop}
attribute [local irreducible] Run
theorem iD {n y:Nat} {code:BoundsCode} (h:n<=y):(Instr.sliceBound (.int .i64 n) y code).run P w=.ok n w:=by
 have h1:(0:Int)<=(n:Int)/\(n:Int)<=(y:Int):=by omega
 simp [Instr.sliceBound,asIntOf,h]
theorem Kb {T ty e:TypeId} {k h len cap:Nat} {a:Option Addr} (hT:cw P T=some (e,k)) (hh:h<=cap) (hk:K (.slice (if cap=0 then a else a.map (·.add (0 * k))) h cap) w) :
  Run P (sOp (.slice T (.const (.slice a len cap)) none (some (.const (.int .i64 h))) none) ty) w K:=by
 obtain ⟨hu,i,hi,_⟩:=kV hT
 refine Run.of ?_ hk
 simp [sOp,execOp,ev0,evE,Instr.sliceAt,Instr.slice,Instr.sliceBounds,run_underlying hu,iD hh,sizeOf,typeInfo,hi]
theorem K0 {T ty e:TypeId} {k l len cap:Nat} {a:Option Addr} (hT:cw P T=some (e,k)) (hl:l<=len) (hk:K (.slice (if cap=l then a else a.map (·.add (l * k))) (len - l) (cap - l)) w) :
  Run P (sOp (.slice T (.const (.slice a len cap)) (some (.const (.int .i64 l))) none none) ty) w K:=by
 obtain ⟨hu,i,hi,hs⟩:=kV hT
 refine Run.of ?_ hk
 simp [sOp,execOp,ev0,evE,Instr.sliceAt,Instr.slice,Instr.sliceBounds,run_underlying hu,iD hl,sizeOf,typeInfo,hi,hs]
theorem LA {T ty e:TypeId} {k l h len cap:Nat} {a:Option Addr} (hT:cw P T=some (e,k)) (hl:l<=h) (hh:h<=cap) (hk:K (.slice (if cap=l then a else a.map (·.add (l * k))) (h - l) (cap - l)) w) :
  Run P (sOp (.slice T (.const (.slice a len cap)) (some (.const (.int .i64 l))) (some (.const (.int .i64 h))) none) ty) w K:=by
 obtain ⟨hu,i,hi,hs⟩:=kV hT
 refine Run.of ?_ hk
 simp [sOp,execOp,ev0,evE,Instr.sliceAt,Instr.slice,Instr.sliceBounds,run_underlying hu,iD hl,iD hh,sizeOf,typeInfo,hi,hs]
end
theorem RdSl.to {α:Type} {S:al} {k:Nat} {R:List Value->α->Prop} {a:Option Addr} {cap n h:Nat} {xs:List α} (hx:RdSl S k R (.slice a n cap) xs) (hh:h<=xs.length) :
  RdSl S k R (.slice (if cap=0 then a else a.map (·.add (0 * k))) h cap) (xs.take h):=by
 obtain ⟨a',cap',e,hl,hc,hx⟩:=hx
 simp only [Value.slice.injEq] at e
 obtain ⟨rfl,rfl,rfl⟩:=e
 have e1:(if cap=0 then a else a.map (·.add (0 * k)))=a:=by
  split
  ·rfl
  ·cases a <;> simp [Addr.add]
 rw [e1]
 have e2:h=(xs.take h).length:=by rw [List.length_take]; omega
 refine ⟨a,cap,by rw [<- e2],by omega,hc,?_⟩
 rcases hx with rfl|⟨b,o,c,E,fz,rfl,hS,hR⟩
 ·left; simp
 ·right
  refine ⟨b,o,c,E,fz,rfl,hS,fun i hi=>?_⟩
  rw [List.getElem_take]
  exact hR i (by omega)
theorem RdSl.from {α:Type} {S:al} {k:Nat} {R:List Value->α->Prop} {a:Option Addr} {cap n l:Nat} {xs:List α} (hx:RdSl S k R (.slice a n cap) xs) (hl:l<=xs.length) :
  RdSl S k R (.slice (if cap=l then a else a.map (·.add (l * k))) (n - l) (cap - l)) (xs.drop l):=by
 obtain ⟨a',cap',e,hlc,hc,hx⟩:=hx
 simp only [Value.slice.injEq] at e
 obtain ⟨rfl,rfl,rfl⟩:=e
 refine ⟨_,cap - l,by rw [List.length_drop],by rw [List.length_drop]; omega,by omega,?_⟩
 by_cases hd:xs.drop l=[]
 ·exact .inl hd
 ·rcases hx with rfl|⟨b,o,c,E,fz,rfl,hS,hR⟩
  ·simp at hd
  ·right
   have hlt:l<xs.length:=by
    rcases Nat.lt_or_ge l xs.length with h|h
    ·exact h
    ·exact absurd (List.drop_eq_nil_of_le h) hd
   refine ⟨b,o+l * k,c,E,fz,?_,hS,fun i hi=>?_⟩
   ·rw [if_neg (by omega)]
    simp [Addr.add]
   ·rw [List.getElem_drop]
    have:=hR (l+i) (by simp at hi; omega)
    rwa [Nat.add_mul,<- Nat.add_assoc] at this
section
variable {P:Program} {w w0:World} {X:List Nat} {L:List Item} {S:al} {K:Value->World->Prop}
attribute [local irreducible] Run CondV ag aO
theorem A5 {α:Type} {R:List Value->α->Prop} {xs:List α} {v:Value} {T ty e:TypeId} {k h:Nat} (hT:cw P T=some (e,k)) (hx:RdSl S k R v xs) (hh:h<=xs.length)
  (hk:∀ v',RdSl S k R v' (xs.take h)->K v' w):Run P (sOp (.slice T (.const v) none (some (.const (.int .i64 h))) none) ty) w K:=by
 obtain ⟨a,cap,rfl,hl,hc,hx'⟩:=id hx
 exact Kb hT (by omega) (hk _ (hx.to hh))
theorem hK {α:Type} {R:List Value->α->Prop} {xs:List α} {v:Value} {T ty e:TypeId} {k l:Nat} (hT:cw P T=some (e,k)) (hx:RdSl S k R v xs) (hl:l<=xs.length)
  (hk:∀ v',RdSl S k R v' (xs.drop l)->K v' w):Run P (sOp (.slice T (.const v) (some (.const (.int .i64 l))) none none) ty) w K:=by
 obtain ⟨a,cap,rfl,hl',hc,hx'⟩:=id hx
 exact K0 hT hl (hk _ (hx.from hl))
end
theorem RdSl.exact {α:Type} {S:al} {k:Nat} {R:List Value->α->Prop} {v:Value} {ys:List α} (h:RdSl S k R v ys) (hk:∀ cs y,R cs y->cs.length=k) :
  ∃ ds:List {cs:List Value // cs.length=k},RdSl S k (fun cs d=>cs=d.val) v ds/\Rows k R (ds.map (·.val)) ys:=by
 obtain ⟨a,cap,rfl,hl,hc,hx⟩:=h
 rcases hx with rfl|⟨b,o,c,E,fz,rfl,hS,hR⟩
 ·exact ⟨[],⟨a,cap,rfl,hl,hc,.inl rfl⟩,Rows.nil _ _⟩
 ·refine ⟨List.ofFn fun i:Fin ys.length=>⟨bm c (o+i.val * k) k,hk _ _ (hR i.val i.isLt)⟩,⟨_,cap,by rw [List.length_ofFn],by rw [List.length_ofFn]; exact hl,hc,.inr ⟨b,o,c,E,fz,rfl,hS,fun i hi=>by simp⟩⟩,⟨by simp,fun cs hcs=>?_,fun i h1 h2=>?_⟩⟩
  ·obtain ⟨d,_,rfl⟩:=List.mem_map.1 hcs
   exact d.property
  ·simp only [List.getElem_map,List.getElem_ofFn]
   exact hR i h1
section
variable {P:Program} {w w0:World} {X:List Nat} {L:List Item} {S:al} {K:Value->World->Prop}
attribute [local irreducible] Run CondV ag aO
theorem ed {α:Type} {R:List Value->α->Prop} (h:Inv w0 X L S w) {T ty e:TypeId} {k by_:Nat} {z v u:Value} {cs:List Bool} {css:List (List Value)} {ys:List α} (i:Nat)
  (hT:fB P T=some (e,k,by_,z)) (hk0:0<k) (hi:L[i]?=some (bq v e k css)) (hr:RdSl S k R u ys) (hlen:∀ cs y,R cs y->cs.length=k) (h1:∀ cs y,R cs y->∀ c∈cs,c.oneCell'=true)
  (hfit:css.length+ys.length<=4294967296) (hby:by_<=32768) (hk:∀ v' w' css2,Rows k R css2 ys->Inv w0 X (L.set i (bq v' e k (css++css2))) S w'->K v' w') :
  Run P (bx .append #[T,T] ty cs [v,u]) w K:=by
 obtain ⟨ds,hd,hR⟩:=hr.exact hlen
 have hdl:ds.length=ys.length:=by have:=hR.hc; simpa using this
 have hone:∀ d∈ds,∀ c∈d.val,c.oneCell'=true:=by
  intro d hd' c hc
  obtain ⟨j,hj,rfl⟩:=List.mem_iff_getElem.1 hd'
  have:=hR.hR j (by omega) (by simpa using hj)
  simp only [List.getElem_map] at this
  exact h1 _ _ this c hc
 obtain ⟨a,cap,rfl,hl',hc',hx⟩:=id hd
 have e1:∀ v',Item.row v' e k (css.length+ds.length) (css.flatten++(ds.map (·.val)).flatten)=bq v' e k (css++ds.map (·.val)):=fun v'=>by simp [bq]
 rcases hx with rfl|⟨b,o,c,E,fz,rfl,hS,hel⟩
 ·refine Jt h i hT hi (hk v w [] (by simpa using hR) ?_)
  have:L.set i (bq v e k (css++[]))=L:=by
   obtain ⟨hlt,e'⟩:=List.getElem?_eq_some_iff.1 hi
   rw [List.append_nil,<- e',List.set_getElem_self]
  rw [this]
  exact h
 ·have hfl:(ds.map (·.val)).flatten.length=ds.length * k:=by
   rw [uK (k:=k) (fun cs hcs=>by obtain ⟨d,_,rfl⟩:=List.mem_map.1 hcs; exact d.property),List.length_map]
  refine fm h i (ds.map (·.val)).flatten hT hk0 hi hfl ?_ ?_ (by omega) hby fun v' w' hI=>hk _ _ _ hR ?_
  ·intro j u hj
   have hj':j<ds.length * k:=by
    rw [<- hfl]
    exact (List.getElem?_eq_some_iff.1 hj).1
   have hq:j / k<ds.length:=(Nat.div_lt_iff_lt_mul hk0).2 hj'
   have hcell:=hel (j / k) hq
   have hflat:=fT k (ds.map (·.val)) (j / k) (fun cs hcs=>by obtain ⟨d,_,rfl⟩:=List.mem_map.1 hcs; exact d.property) (by simpa using hq)
   have hdm:=Nat.div_add_mod j k
   rw [Nat.mul_comm] at hdm
   rw [h.cellS hS]
   have e2:(ds.map (·.val)).flatten[j]?=(ds[j / k].val)[j % k]?:=by
    rw [List.getElem_map] at hflat
    rw [<- hflat,List.getElem?_take,if_pos (Nat.mod_lt _ hk0),List.getElem?_drop]
    congr 1
    omega
   rw [e2] at hj
   have:=bh hcell (j % k) u hj
   rw [<- this]
   congr 1
   omega
  ·intro u hu
   obtain ⟨cs,hcs,hu⟩:=List.mem_flatten.1 hu
   obtain ⟨d,hd',rfl⟩:=List.mem_map.1 hcs
   exact hone d hd' u hu
  ·rw [<- e1]
   exact hI
end

end Go.Proofs.YtfcbhfjomgopbaaGreat

/- Plain functions: texts of terms and clauses, and how texts are read. Fuel runs out: none. -/
namespace Go.Proofs.YtfcbhfjomgopbaaGreat
open Go Go.RowKit

abbrev Bs:=List UInt8
abbrev bs (s:ByteArray):Bs:=s.data.toList
abbrev st (l:Bs):ByteArray:=⟨l.toArray⟩
theorem AN (l:Bs):bs (st l)=l:=by simp [bs]
theorem iv (l:Bs):(st l).size=l.length:=by simp [ByteArray.size]

def sgn (s:Bs) (i:Nat) (c:Nat):Bool:=match s[i]? with
 | some b=>decide (b.toNat=c)
 | none=>false
def btw (s:Bs) (i:Nat) (a b:Nat):Bool:=match s[i]? with
 | some x=>decide (a<=x.toNat) && decide (x.toNat<=b)
 | none=>false
def sml (s:Bs) (i:Nat):Bool:=btw s i 97 122
def dig (s:Bs) (i:Nat):Bool:=btw s i 48 57
def upp (s:Bs) (i:Nat):Bool:=btw s i 65 90
def cut (s:Bs) (a b:Nat):Bs:=(s.take b).drop a

def vE (s:Bs):Nat->Nat->Nat
 | 0,e=>e
 | n+1,e=>if sml s e=true then vE s n (e+1) else e
def gB (s:Bs) (i:Nat):List ByteArray->Bs->Bs
 | [],b=>b
 | x::l,b=>gB s i l (if decide (i+x.size<=s.length)=true/\cut s i (i+x.size)=bs x/\b.length<x.size then bs x else b)
def qV (s:Bs) (i:Nat):Option (Bs × Nat):=
 let e:=vE s (s.length - i) i
 if i+6<e then none else if i<e then some (cut s i e,e) else
  let b:=gB s i signs []
  if b=[] then none else some (b,i+b.length)
def nS (s:Bs):Nat->Nat->Nat
 | 0,e=>e
 | n+1,e=>if dig s e=true then nS s n (e+1) else e
def zS:Bs->Nat->Nat
 | [],n=>n
 | b::l,n=>zS l (n * 10+(b.toNat - 48))
def Ku (s:Bs) (i:Nat):Option (T × Nat):=
 let from_:=if sgn s i 45=true then i+1 else i
 let e:=nS s 4 from_
 let d:=cut s from_ e
 let n:=zS d 0
 if d=[] ∨ (sgn d 0 48=true/\1<d.length) ∨ (i<from_/\n=0) ∨ 999<n then none
 else some (.mk 2 (if i<from_ then -(n:Int) else n) emptyB [],e)
def Fy (name:Bs) (kids:List T):T:=.mk 3 0 (st name) kids
def Ni:T:=Fy [91,93] []
def D1 (a b:T):T:=Fy [46] [a,b]
def gH:List T->T->T
 | [],t=>t
 | a::l,t=>D1 a (gH l t)
def opF (s:Bs) (i:Nat):Option (Bs × Nat):=
 let from_:=if sgn s i 32=true then i+1 else i
 if s.length<=from_ then none else match qV s from_ with
  | none=>none
  | some (name,next)=>
   let word:=decide (name=[105,115]) || decide (name=[109,111,100])
   if cq (st name)=0 ∨ word≠decide (i<from_) ∨ (word=true/\sgn s next 32=false) then none
   else some (name,if word=true then next+1 else next)
mutual
def gw:Nat->Bs->Nat->Nat->Nat->Option (T × Nat)
 | 0,_,_,_,_=>none
 | f+1,s,i,d,0=>pC f s i d
 | f+1,s,i,d,l+1=>match gw f s i d l with
  | none=>none
  | some (t,n)=>Fj f s n d l t
def Fj:Nat->Bs->Nat->Nat->Nat->T->Option (T × Nat)
 | 0,_,_,_,_,_=>none
 | f+1,s,i,d,l,t=>match opF s i with
  | none=>some (t,i)
  | some (name,after)=>if cq (st name)=((l+1:Nat):Int) then match gw f s after d l with
    | none=>none
    | some (r,e)=>if l=2 then some (Fy name [t,r],e) else Fj f s e d l (Fy name [t,r])
   else some (t,i)
def pC:Nat->Bs->Nat->Nat->Option (T × Nat)
 | 0,_,_,_=>none
 | f+1,s,i,d=>if d=0 ∨ s.length<=i then none else if sgn s i 40=true then match gw f s (i+1) d 3 with
    | none=>none
    | some (t,n)=>if sgn s n 41=true then some (t,n+1) else none
  else if sgn s i 91=true/\sgn s (i+1) 93=false then match gy f s (i+1) (d - 1) 93 124 [] with
    | none=>none
    | some (ts,n)=>if sgn s n 93=true then some (gH ts Ni,n+1) else match gw f s (n+1) (d - 1) 3 with
     | none=>none
     | some (t,e)=>if sgn s e 93=true then some (gH ts t,e+1) else none
  else if upp s i=true then some (.mk 1 ((s.getD i 0).toNat - 65) emptyB [],i+1)
  else if dig s i=true ∨ (sgn s i 45=true/\dig s (i+1)=true) then Ku s i
  else match qV s i with
   | none=>none
   | some (name,n)=>if sgn s n 40=false then some (Fy name [],n) else match gy f s (n+1) (d - 1) 41 41 [] with
    | none=>none
    | some (ts,e)=>some (Fy name ts,e+1)
def gy:Nat->Bs->Nat->Nat->Nat->Nat->List T->Option (List T × Nat)
 | 0,_,_,_,_,_,_=>none
 | f+1,s,i,d,e,o,acc=>match gw f s i d 3 with
  | none=>none
  | some (t,n)=>if sgn s n e=true ∨ sgn s n o=true then some (acc++[t],n) else if sgn s n 44=true then gy f s (n+1) d e o (acc++[t]) else none
end

/- texts -/
def kX (t:T):Bool:=decide (t.kind=3) && (decide (t.kids.length=2) && decide (0<cq t.name))
def yO (t:T):Bool:=decide (t.kind=3) && (decide (t.name=st [46]) && decide (t.kids.length=2))
def Lp (t:T):Bool:=decide (t.kind=3) && (decide (t.name=st [91,93]) && decide (t.kids.length=0))
def u4 (t:T):Bool:=decide (t.kind=3) && (decide (t.kids.length=0) && decide (0<cq t.name))
def CY (s:Bs):Bool:=sml s 0 || (dig s 0 || (upp s 0 || (sgn s 0 91 || sgn s 0 40)))
def gp (n:Bs):Bs:=if n=[105,115] ∨ n=[109,111,100] then 32::(n++[32]) else n
def zK:Nat->Nat->Bs->Option Bs
 | 0,_,_=>none
 | f+1,n,out=>if 9<n then zK f (n / 10) (UInt8.ofNat (48+n % 10)::out) else some (UInt8.ofNat (48+n)::out)
def NF (n:Int):Option Bs:=if n<0 then (zK 20 (-n).toNat []).map fun l=>45::l else zK 20 n.toNat []
def KF (t:T):Option Bs:=if t.kind=1 then (if 0<=t.n/\t.n<=25 then some [UInt8.ofNat (65+t.n.toNat)] else none)
 else if t.kind=2 then (if -999<=t.n/\t.n<=999 then NF t.n else none) else if t.kids.length=0 then some (bs t.name) else none
mutual
def Df:Nat->T->Option Bs
 | 0,_=>none
 | f+1,t=>if yO t=true then Bf f t [] else if kX t=true then match t.kids with
   | [a,b]=>match Iw f a (if cq t.name=3 then 2 else cq t.name),Dt f b (cq t.name - 1) with
    | some x,some y=>some (x++gp (bs t.name)++y)
    | _,_=>none
   | _=>none
  else if t.kind=3/\0<t.kids.length then match lr f t.kids [] with
   | some x=>some (bs t.name++[40]++x++[41])
   | none=>none
  else KF t
def Bf:Nat->T->List T->Option Bs
 | 0,_,_=>none
 | f+1,t,items=>if yO t=true then match t.kids with
   | [a,b]=>Bf f b (items++[a])
   | _=>none
  else match lr f items [] with
   | none=>none
   | some x=>if Lp t=true then some ([91]++x++[93]) else match Df f t with
    | none=>none
    | some y=>some ([91]++x++[124]++y++[93])
def lr:Nat->List T->Bs->Option Bs
 | 0,_,_=>none
 | _+1,[],out=>some out
 | f+1,t::l,out=>match Df f t with
  | none=>none
  | some x=>lr f l (out++x++(if l=[] then [] else [44]))
def mv:Nat->T->Int->Option Bs
 | 0,_,_=>none
 | f+1,t,l=>match Df f t with
  | none=>none
  | some x=>some (if kX t=true/\l<cq t.name then [40]++x++[41] else x)
def Iw:Nat->T->Int->Option Bs
 | 0,_,_=>none
 | f+1,t,l=>if u4 t=true then match Df f t with
   | none=>none
   | some x=>some ([40]++x++[41])
  else mv f t l
def Dt:Nat->T->Int->Option Bs
 | 0,_,_=>none
 | f+1,t,l=>match mv f t l with
  | none=>none
  | some x=>if x=[] then none else some (if u4 t=true ∨ CY x=false then [40]++x++[41] else x)
end
def uh (f:Nat):List T->Bool->Bs->Option Bs
 | [],_,out=>some out
 | t::l,first,out=>match Df f t with
  | none=>none
  | some x=>uh f l false (out++(if first=true then [58,45] else [44])++x)
def Iu (f:Nat) (c:C):Option Bs:=match Df f c.head with
 | none=>none
 | some x=>match uh f c.body true x with
  | none=>none
  | some y=>some (y++[46])

/- clauses and programs -/
def kG (f:Nat):Nat->Bs->Nat->List T->Option (List T × Nat)
 | 0,_,_,_=>none
 | k+1,s,i,acc=>if 6<acc.length then none else match gw f s i 30 3 with
  | none=>none
  | some (t,n)=>if sgn s n 44=true then kG f k s (n+1) (acc++[t]) else some (acc++[t],n)
def IZ (f:Nat) (s:Bs) (c:C) (n:Nat):Option C:=
 if n+1=s.length/\sgn s n 46=true/\dg c=true/\wC c<=200/\Iu f c=some s then some c else none
def qJ (f:Nat) (s:Bs):Option C:=if 1000<s.length then none else match gw f s 0 30 3 with
 | none=>none
 | some (h,n)=>if sgn s n 58=true/\sgn s (n+1) 45=true then match kG f 8 s (n+2) [] with
   | none=>none
   | some (b,n2)=>IZ f s ⟨h,b⟩ n2
  else IZ f s ⟨h,[]⟩ n
def zJ (s:Bs) (c:Nat):Nat->Nat->Nat->List Bs->List Bs
 | 0,i,from_,acc=>acc++[cut s from_ i]
 | n+1,i,from_,acc=>if sgn s i c=true then zJ s c n (i+1) (i+1) (acc++[cut s from_ i]) else zJ s c n (i+1) from_ acc
def Kk (s:Bs):List Bs:=zJ s 10 s.length 0 0 []
def iP (f:Nat):List Bs->List C->Option (List C)
 | [],acc=>some acc
 | l::ls,acc=>match qJ f l with
  | none=>none
  | some c=>iP f ls (acc++[c])
def Ik (f:Nat) (s:Bs):Option (List C):=
 let ls:=Kk s
 if 21<ls.length ∨ ls.getLast?≠some [] then none else iP f ls.dropLast []
def KT (s:Bs):Bool:=match Ik 60 s with
 | some p=>decide (0<p.length) && (decide (p.length<=8) && p.all fun c=>dg c && decide (wC c<=200))
 | none=>false
end Go.Proofs.YtfcbhfjomgopbaaGreat

/- More rules: arithmetic, conversions, texts joined and cut. -/
namespace Go.Proofs.YtfcbhfjomgopbaaGreat
open Go Go.RowKit
section
variable {P:Program} {w w0:World} {X:List Nat} {L:List Item} {S:al} {K:Value->World->Prop}
theorem xy {T:TypeId} {cx cy:Bool} {k:IntKind} {a b:Int} (h:a<b) (hk:K (.bool true) w):Run P (cS .lss T cx cy (.int k a) (.int k b)) w K:=by
 refine cg ?_
 rw [decide_eq_true h]
 exact hk
theorem ey {T:TypeId} {cx cy:Bool} {k:IntKind} {a b:Int} (h:¬ (a<b)) (hk:K (.bool false) w):Run P (cS .lss T cx cy (.int k a) (.int k b)) w K:=by
 refine cg ?_
 rw [decide_eq_false h]
 exact hk
theorem Db {T:TypeId} {cx cy:Bool} {k:IntKind} {a b:Int} (h:a<=b) (hk:K (.bool true) w):Run P (cS .leq T cx cy (.int k a) (.int k b)) w K:=by
 refine fi ?_
 rw [decide_eq_true h]
 exact hk
theorem Lo {T:TypeId} {cx cy:Bool} {k:IntKind} {a b:Int} (h:¬ (a<=b)) (hk:K (.bool false) w):Run P (cS .leq T cx cy (.int k a) (.int k b)) w K:=by
 refine fi ?_
 rw [decide_eq_false h]
 exact hk
theorem HO {T:TypeId} {cx cy:Bool} {k:IntKind} {a b:Int} (h:b<a) (hk:K (.bool true) w):Run P (cS .gtr T cx cy (.int k a) (.int k b)) w K:=by
 refine di ?_
 rw [decide_eq_true h]
 exact hk
theorem ik {T:TypeId} {cx cy:Bool} {k:IntKind} {a b:Int} (h:¬ (b<a)) (hk:K (.bool false) w):Run P (cS .gtr T cx cy (.int k a) (.int k b)) w K:=by
 refine di ?_
 rw [decide_eq_false h]
 exact hk
theorem kU {T:TypeId} {cx cy:Bool} {k:IntKind} {a b:Int} (h:b<=a) (hk:K (.bool true) w):Run P (cS .geq T cx cy (.int k a) (.int k b)) w K:=by
 refine ja ?_
 rw [decide_eq_true h]
 exact hk
theorem tg {T:TypeId} {cx cy:Bool} {k:IntKind} {a b:Int} (h:¬ (b<=a)) (hk:K (.bool false) w):Run P (cS .geq T cx cy (.int k a) (.int k b)) w K:=by
 refine ja ?_
 rw [decide_eq_false h]
 exact hk
theorem fe {T:TypeId} {cx cy:Bool} {k:IntKind} {a b:Int} (h:a=b) (hk:K (.bool true) w):Run P (cS .eql T cx cy (.int k a) (.int k b)) w K:=by
 refine bP ?_
 rw [decide_eq_true h]
 exact hk
theorem ei {T:TypeId} {cx cy:Bool} {k:IntKind} {a b:Int} (h:¬ (a=b)) (hk:K (.bool false) w):Run P (cS .eql T cx cy (.int k a) (.int k b)) w K:=by
 refine bP ?_
 rw [decide_eq_false h]
 exact hk
theorem yp {T:TypeId} {cx cy:Bool} {a b:Int} (hr:-9223372036854775808<=a * b/\a * b<=9223372036854775807) (hk:K (.int .i64 (a * b)) w):Run P (cS .mul T cx cy (.int .i64 a) (.int .i64 b)) w K:=
 Run.of (by simp [cS,cC,binOp,Op.intArith,IntWalk.i64_in _ hr]) hk
theorem NR {T:TypeId} {cx cy:Bool} {a b:Nat} (hb:0<b) (ha:a<=9223372036854775807) (hk:K (.int .i64 ((a / b:Nat):Int)) w):Run P (cS .quo T cx cy (.int .i64 (a:Int)) (.int .i64 (b:Int))) w K:=by
 refine Run.of ?_ hk
 have h0:¬ ((b:Int)=0):=by omega
 have h1:IntKind.i64.wrap ((a:Int).tdiv b)=((a / b:Nat):Int):=by
  rw [IntWalk.i64_quo _ _ (by omega)]; rfl
 simp only [cS,cC,binOp,Op.intDiv,Sem.run_bind,Result.andThen_ok,if_neg h0,Sem.run_pure]
 exact congrArg (fun v=>Result.ok (Next.value (.int .i64 v)) w) h1
theorem HA {T:TypeId} {cx cy:Bool} {a b:Nat} (hb:0<b) (hk:K (.int .i64 ((a % b:Nat):Int)) w):Run P (cS .rem T cx cy (.int .i64 (a:Int)) (.int .i64 (b:Int))) w K:=by
 refine Run.of ?_ hk
 have h1:(a:Int).tmod b=((a % b:Nat):Int):=by
  rw [IntWalk.rem_in _ _ (by omega)]; rfl
 have h0:¬ ((b:Int)=0):=by omega
 simp only [cS,cC,binOp,Op.intDiv,Sem.run_bind,Result.andThen_ok,if_neg h0,Sem.run_pure]
 exact congrArg (fun v=>Result.ok (Next.value (.int .i64 v)) w) h1
theorem Nd {T:TypeId} {cx cy:Bool} {a b:Nat} (ha:a<4611686018427387904) (hb:b<4611686018427387904) (hk:K (.int .i64 ((a ^^^ b:Nat):Int)) w):Run P (cS .xor T cx cy (.int .i64 (a:Int)) (.int .i64 (b:Int))) w K:=by
 refine Run.of ?_ hk
 have hx:a ^^^ b<2 ^ 62:=Nat.xor_lt_two_pow (by simpa using ha) (by simpa using hb)
 have e1:(BitVec.ofInt 64 (a:Int)).toNat=a:=by rw [BitVec.toNat_ofInt]; omega
 have e2:(BitVec.ofInt 64 (b:Int)).toNat=b:=by rw [BitVec.toNat_ofInt]; omega
 have h1:IntKind.i64.wrap ((BitVec.ofInt 64 (a:Int) ^^^ BitVec.ofInt 64 (b:Int)).toNat:Int)=((a ^^^ b:Nat):Int):=by
  rw [BitVec.toNat_xor,e1,e2]
  exact IntWalk.i64_in _ (by omega)
 simp only [cS,cC,binOp,Op.intBits,Sem.run_bind,Result.andThen_ok,Sem.run_pure]
 exact congrArg (fun v=>Result.ok (Next.value (.int .i64 v)) w) h1
theorem NJ {T:TypeId} {cx cy:Bool} {k:IntKind} {a b c:Int} (hr:k.wrap (a+b)=c) (hk:K (.int k c) w):Run P (cS .add T cx cy (.int k a) (.int k b)) w K:=
 Run.of (by simp [cS,cC,binOp,Op.intArith,hr]) hk
theorem Lc {T:TypeId} {cx cy:Bool} {k:IntKind} {a b c:Int} (hr:k.wrap (a - b)=c) (hk:K (.int k c) w):Run P (cS .sub T cx cy (.int k a) (.int k b)) w K:=
 Run.of (by simp [cS,cC,binOp,Op.intArith,hr]) hk
theorem mQ {src dst ty:TypeId} {k k':IntKind} {n m:Int} {d:TypeDesc} (hs:P.underlying src=some d) (hd:P.underlying dst=some (.int k')) (hr:k'.wrap n=m) (hk:K (.int k' m) w) :
  Run P (sOp (.convert src dst (.const (.int k n))) ty) w K:=by
 refine Run.of ?_ hk
 simp [sOp,execOp,ev0,evE,convert,run_underlying hs,run_underlying hd,Conv.intToInt,hr]
theorem MY {T ty:TypeId} {n:Int} (hr:-9223372036854775808<=-n/\-n<=9223372036854775807) (hk:K (.int .i64 (-n)) w):Run P (sOp (.unOp .neg T (.const (.int .i64 n))) ty) w K:=
 Run.of (by simp [sOp,execOp,ev0,evE,Op.unary,Op.intArith,Int.zero_sub,IntWalk.i64_in _ hr]) hk
theorem ND (a b:Bs):st a++st b=st (a++b):=by
 apply ByteArray.ext
 simp [st]
theorem cZ {T:TypeId} {cx cy:Bool} {a b:Bs} (hl:a.length+b.length<=9223372036854775807) (hk:K (.string (st (a++b))) w):Run P (cS .add T cx cy (.string (st a)) (.string (st b))) w K:=by
 refine Run.of ?_ hk
 have h1:¬ (9223372036854775807<(((st a).size+(st b).size:Nat):Int)):=by rw [iv,iv]; omega
 have h2:IntKind.i64.max=9223372036854775807:=by decide
 simp only [cS,binOp,Op.stringOp,Sem.run_bind,mg,Result.andThen_ok,gt_iff_lt,h2,if_neg h1,Sem.run_pure,ND]
theorem NM (s:Bs) (a b:Nat):(st s).extract a b=st (cut s a b):=by
 apply ByteArray.ext
 apply Array.toList_inj.1
 simp [cut,ByteArray.data_extract,List.drop_take]
theorem yA {T ty:TypeId} {s:Bs} {a b:Nat} (hu:P.underlying T=some .string) (hab:a<=b) (hb:b<=s.length) (hk:K (.string (st (cut s a b))) w) :
  Run P (sOp (.slice T (.const (.string (st s))) (some (.const (.int .i64 a))) (some (.const (.int .i64 b))) none) ty) w K:=by
 refine Run.of ?_ hk
 have hb':b<=(st s).size:=by rw [iv]; exact hb
 simp [sOp,execOp,ev0,evE,Instr.sliceAt,Instr.slice,Instr.sliceBounds,run_underlying hu,iD hab,iD hb',NM]
/- a byte out of a text -/
theorem dZ {T ty:TypeId} {s:Bs} {i:Nat} (hu:P.underlying T=some .string) (hi:i<s.length) (hk:K (.int .u8 s[i].toNat) w) :
  Run P (sOp (.index T (.const (.string (st s))) (.const (.int .i64 i))) ty) w K:=by
 have hi':i<(st s).size:=by rw [iv]; exact hi
 refine iL hu hi' ?_
 have:(st s)[i]=s[i]:=by simp [st,ByteArray.getElem_eq_getElem_data]
 rw [this]
 exact hk
theorem eN {T ty:TypeId} {cs:List Bool} {s:Bs} (hu:P.underlying T=some .string) (hk:K (.int .i64 s.length) w):Run P (bx .len #[T] ty cs [.string (st s)]) w K:=by
 refine fj hu ?_
 rw [iv]
 exact hk
theorem xC {T:TypeId} {cx cy:Bool} {a b:Bs} (hk:K (.bool (decide (a=b))) w):Run P (cS .eql T cx cy (.string (st a)) (.string (st b))) w K:=by
 refine bJ ?_
 have:decide (st a=st b)=decide (a=b):=by
  rw [decide_eq_decide]
  exact ⟨fun h=>by rw [<- AN a,h,AN],fun h=>by rw [h]⟩
 rw [this]
 exact hk
theorem Ir {T:TypeId} {cx cy:Bool} {a b:Bs} (hk:K (.bool (!decide (a=b))) w):Run P (cS .neq T cx cy (.string (st a)) (.string (st b))) w K:=by
 refine Gh ?_
 have:decide (st a=st b)=decide (a=b):=by
  rw [decide_eq_decide]
  exact ⟨fun h=>by rw [<- AN a,h,AN],fun h=>by rw [h]⟩
 rw [this]
 exact hk
/- string([]byte{x}) -/
theorem yh (h:Inv w0 X L S w) {T T' D ty e:TypeId} {by_:Nat} {z:Value} {n:Nat} (hT:fB P T=some (e,1,by_,z)) (he:P.underlying T'=some (.slice e)) (hb:P.underlying e=some (.int .u8)) (hD:P.underlying D=some .string)
  (hk:∀ w',Inv w0 X L S w'->K (.string (st [UInt8.ofNat n])) w') :
  Run P (av T 1 [(0,.int .u8 (n:Int))]) w fun u w'=>Run P (sOp (.convert T' D (.const u)) ty) w' K:=by
 refine dh h hT rfl (by omega) (by omega) fun b w' hI=>?_
 have hi:(L++[Item.blk b (.cells (Value.int .u8 (n:Int)).cells e)])[L.length]?=some (.blk b (.cells (Value.int .u8 (n:Int)).cells e)):=by
  rw [List.getElem?_append_right (Nat.le_refl _),Nat.sub_self]; rfl
 have hc:w'.cell? ⟨b,0,none⟩=some (.int .u8 (n:Int)):=by rw [hI.cellL hi]; rfl
 have hl:=run_loadCells_list (P:=P) (w:=w') ⟨b,0,none⟩ [.int .u8 (n:Int)] (fun j v hj=>by
  match j with
  | 0=>simp only [List.getElem?_cons_zero,Option.some.injEq] at hj; subst hj; rw [iA]; exact hc
  | j+1=>simp at hj)
 simp only [List.length_cons,List.length_nil] at hl
 refine Run.of (w':=w') ?_ (hk _ (hI.sub (List.sublist_append_left _ _)))
 simp [sOp,execOp,ev0,evE,convert,run_underlying he,run_underlying hb,run_underlying hD,Conv.bytesToString,hl,st]
 rfl
end
end Go.Proofs.YtfcbhfjomgopbaaGreat
