/- Whether terms are the same: both sides. -/
import Derived.Test.YtemmhhdnlbmicaaGreatZMf1
import Derived.Test.YtemmhhdnlbmicaaGreatZMf0
import Derived.Test.YtemmhhdnlbmicaaGreatZMf6
namespace Go.Proofs.YtemmhhdnlbmicaaGreat
open Go Go.RowKit
attribute [local irreducible] Run CondV ag a4

def iz (t u:T):Bool:=decide (t.kind=u.kind) && (decide (t.n=u.n) && (decide (t.name=u.name) && decide (t.kids.length=u.kids.length)))
theorem d6 (k n k' n':Int) (s s':ByteArray) (ks ks':List T):iz (.mk k n s ks) (.mk k' n' s' ks')=(decide (k=k') && (decide (n=n') && (decide (s=s') && decide (ks.length=ks'.length)))):=rfl
theorem ED {α β:Type} (a:List α) (b:List β):decide (a.length=b.length)=decide ((a.length:Int)=(b.length:Int)):=by
 rw [Bool.eq_iff_iff]
 simp only [decide_eq_true_eq]
 omega
theorem Gm (t u:T):eqT t u=(iz t u && eqL t.kids u.kids):=by
 obtain ⟨k,n,s,ks⟩:=t
 obtain ⟨k',n',s',ks'⟩:=u
 rw [eqT,d6]
 by_cases h:ks.length=ks'.length
 ·rw [decide_eq_true h,Bool.and_true,Bool.and_assoc,Bool.and_assoc]; rfl
 ·rw [Cy h,decide_eq_false h]; simp
theorem jk:∀ (t u:T) (S:av) (cs ds:List Value),RdT S cs t->RdT S ds u->Pure Tryz.prog xl [.agg cs.toArray,.agg ds.toArray] S (.bool (eqT t u)):=by
 refine T.ind fun k n s ks ih u S cs ds h h'=>?_
 intro w hI
 obtain ⟨kv,rfl,_,_,_,hks⟩:=RdT.iff.1 h
 obtain ⟨kv',rfl,_,_,_,hks'⟩:=RdT.iff.1 h'
 obtain ⟨k',n',s',ks'⟩:=u
 simp only [T.name,T.kids,T.kind,T.n] at hks hks' ⊢
 have hlen:=hks.le
 simp only [maxLen] at hlen
 refine qx ?_
 unfold mN;dsimp only
 refine ca hI fun b1 w' hI=>?_
 refine ca hI fun b2 w' hI=>?_
 have hI:Inv w [] [.blk b1 (.cells #[.int .i64 k,.int .i64 n,.string s,kv] ad),.blk b2 (.cells #[.int .i64 k',.int .i64 n',.string s',kv'] ad)] S w':=hI
 refine ⟨fun q w'=>q=.bool (!iz (.mk k n s ks) (.mk k' n' s' ks'))/\Inv w [] [.blk b1 (.cells #[.int .i64 k,.int .i64 n,.string s,kv] ad),.blk b2 (.cells #[.int .i64 k',.int .i64 n',.string s',kv'] ad)] S w',?_,?_⟩
 ·refine az hI 0 rfl bt bj rfl ?_
  refine az hI 1 rfl bt bj rfl ?_
  refine fA ?_
  by_cases e1:k=k'
  ·rw [decide_eq_true e1]
   repeat (first|refine ac ?_|refine af (by decide) ?_|refine ab ?_|refine al ?_|refine ak ?_)
   refine az hI 0 rfl bv bj rfl ?_
   refine az hI 1 rfl bv bj rfl ?_
   refine fA ?_
   by_cases e2:n=n'
   ·rw [decide_eq_true e2]
    repeat (first|refine ac ?_|refine af (by decide) ?_|refine ab ?_|refine al ?_|refine ak ?_)
    refine az hI 0 rfl bk bi rfl ?_
    refine az hI 1 rfl bk bi rfl ?_
    refine pU ?_
    by_cases e3:s=s'
    ·rw [decide_eq_true e3]
     repeat (first|refine ac ?_|refine af (by decide) ?_|refine ab ?_|refine al ?_|refine ak ?_)
     refine az hI 0 rfl aT aS rfl ?_
     refine a9 hks ay ?_
     refine az hI 1 rfl aT aS rfl ?_
     refine a9 hks' ay ?_
     refine fA ?_
     repeat (first|refine ac ?_|refine af (by decide) ?_|refine ab ?_|refine al ?_|refine ak ?_)
     exact ⟨by rw [d6,decide_eq_true e1,decide_eq_true e2,decide_eq_true e3,ED]; rfl,hI⟩
    ·rw [decide_eq_false e3]
     repeat (first|refine ac ?_|refine af (by decide) ?_|refine ab ?_|refine al ?_|refine ak ?_)
     exact ⟨by rw [d6,decide_eq_true e1,decide_eq_true e2,decide_eq_false e3]; rfl,hI⟩
   ·rw [decide_eq_false e2]
    repeat (first|refine ac ?_|refine af (by decide) ?_|refine ab ?_|refine al ?_|refine ak ?_)
    exact ⟨by rw [d6,decide_eq_true e1,decide_eq_false e2]; rfl,hI⟩
  ·rw [decide_eq_false e1]
   repeat (first|refine ac ?_|refine af (by decide) ?_|refine ab ?_|refine al ?_|refine ak ?_)
   exact ⟨by rw [d6,decide_eq_false e1]; rfl,hI⟩

 intro q _ _ _ _ _ _ _ _ _ _ _ _ _ _ _ _ _ _ _ _ _ _ _ _ _ _ _ w'
 rintro ⟨rfl,hI⟩
 rw [Gm]
 cases hd:iz (.mk k n s ks) (.mk k' n' s' ks')
 ·refine aX (fun _=>done hI rfl) (fun hb=>by cases hb)
 refine aX (fun hb=>by cases hb) (fun _=>?_)
 have hle:ks.length=ks'.length:=by
  rw [d6] at hd
  simp only [Bool.and_eq_true,decide_eq_true_eq] at hd
  exact hd.2.2.2
 simp only [T.kids,Bool.true_and]
 refine ⟨fun i w'=>∃ j:Nat,j<=ks.length/\i=.int .i64 j/\eqL (ks.drop j) (ks'.drop j)=eqL ks ks'/\Inv w [] [.blk b1 (.cells #[.int .i64 k,.int .i64 n,.string s,kv] ad),.blk b2 (.cells #[.int .i64 k',.int .i64 n',.string s',kv'] ad)] S w',fun i _=>ks.length - (intOf i).toNat,⟨0,Nat.zero_le _,rfl,rfl,hI⟩,?_⟩
 intro t5 _ _ _ _ _ _ _ _ _ _ _ _ _ _ _ _ _ _ _ _ w'
 rintro ⟨j,hj,rfl,hrel,hI⟩
 refine az hI 0 rfl aT aS rfl ?_
 refine a9 hks ay ?_
 refine co ?_
 refine bp (fun hji=>?_) (fun hji=>?_)
 ·have hj1:j<ks.length:=by omega
  have hj2:j<ks'.length:=by omega
  obtain ⟨c1,o1,cap1,a1,E1,fz1,rfl,hS1,hR1⟩:=hks.at_ hj1
  obtain ⟨c2,o2,cap2,a2,E2,fz2,rfl,hS2,hR2⟩:=hks'.at_ hj2
  have hstep:eqL (ks.drop j) (ks'.drop j)=(eqT ks[j] ks'[j] && eqL (ks.drop (j+1)) (ks'.drop (j+1))):=by
   rw [List.drop_eq_getElem_cons hj1,List.drop_eq_getElem_cons hj2,eqL]
  refine ⟨fun D cv cd cf ce bD bE cO cQ cR cM cP cN w_=>(D 0=true->cN=.pointer (some ⟨b1,3,none⟩))/\(D 1=true->cP=.slice (some ⟨c1,o1,none⟩) ks.length cap1)/\(D 2=true->cM=.int .i64 j)/\(D 3=true->cR=.pointer (some ⟨c1,o1+j * 4,none⟩))/\(D 4=true->cQ=.agg (bf a1 (o1+j * 4) 4).toArray)/\(D 5=true->cO=.pointer (some ⟨b2,3,none⟩))/\(D 6=true->bE=.slice (some ⟨c2,o2,none⟩) ks'.length cap2)/\(D 7=true->bD=.int .i64 j)/\(D 8=true->ce=.pointer (some ⟨c2,o2+j * 4,none⟩))/\(D 9=true->cf=.agg (bf a2 (o2+j * 4) 4).toArray)/\(D 10=true->cd=.bool (eqT ks[j] ks'[j]))/\(D 11=true->cv=.bool (!eqT ks[j] ks'[j]))/\Inv w [] [.blk b1 (.cells #[.int .i64 k,.int .i64 n,.string s,.slice (some ⟨c1,o1,none⟩) ks.length cap1] ad),.blk b2 (.cells #[.int .i64 k',.int .i64 n',.string s',.slice (some ⟨c2,o2,none⟩) ks'.length cap2] ad)] S w_,⟨ae,ae,ae,ae,ae,ae,ae,ae,ae,ae,ae,ae,hI.draw⟩,⟨?_,?_,?_,?_,?_,?_,?_,?_,?_,?_,?_,?_,trivial⟩,?_⟩
  ·intro D a6  cv cd cf ce bD bE cO cQ cR cM cP cN w_
   rintro ⟨aB,aC,aA,aD,ax,aF,aE,aG,aI,aM,ah,aj,hI⟩
   refine bo aT ?_
   exact ⟨fun _=>rfl,aC,aA,aD,ax,aF,aE,aG,aI,aM,ah,aj,hI⟩
  ·intro D a6 cV cv cd cf ce bD bE cO cQ cR cM cP cN w_
   rintro ⟨aB,aC,aA,aD,ax,aF,aE,aG,aI,aM,ah,aj,hI⟩
   obtain rfl:=aB cV
   refine bA hI 0 aS rfl rfl ?_
   exact ⟨aB,fun _=>rfl,aA,aD,ax,aF,aE,aG,aI,aM,ah,aj,hI⟩
  ·intro D a6  cv cd cf ce bD bE cO cQ cR cM cP cN w_
   rintro ⟨aB,aC,aA,aD,ax,aF,aE,aG,aI,aM,ah,aj,hI⟩
   exact ⟨aB,aC,fun _=>rfl,aD,ax,aF,aE,aG,aI,aM,ah,aj,hI⟩
  ·intro D a6 d3 jg cv cd cf ce bD bE cO cQ cR cM cP cN w_
   rintro ⟨aB,aC,aA,aD,ax,aF,aE,aG,aI,aM,ah,aj,hI⟩
   obtain rfl:=aC d3
   obtain rfl:=aA jg
   refine ba ay hj1 ?_
   exact ⟨aB,aC,aA,fun _=>rfl,ax,aF,aE,aG,aI,aM,ah,aj,hI⟩
  ·intro D a6 dg cv cd cf ce bD bE cO cQ cR cM cP cN w_
   rintro ⟨aB,aC,aA,aD,ax,aF,aE,aG,aI,aM,ah,aj,hI⟩
   obtain rfl:=aD dg
   refine cu ai hR1.length (fun j v hj=>by rw [hI.cellS hS1]; exact be rfl j v hj) ?_
   exact ⟨aB,aC,aA,aD,fun _=>rfl,aF,aE,aG,aI,aM,ah,aj,hI⟩
  ·intro D a6  cv cd cf ce bD bE cO cQ cR cM cP cN w_
   rintro ⟨aB,aC,aA,aD,ax,aF,aE,aG,aI,aM,ah,aj,hI⟩
   refine bo aT ?_
   exact ⟨aB,aC,aA,aD,ax,fun _=>rfl,aE,aG,aI,aM,ah,aj,hI⟩
  ·intro D a6 ef cv cd cf ce bD bE cO cQ cR cM cP cN w_
   rintro ⟨aB,aC,aA,aD,ax,aF,aE,aG,aI,aM,ah,aj,hI⟩
   obtain rfl:=aF ef
   refine bA hI 1 aS rfl rfl ?_
   exact ⟨aB,aC,aA,aD,ax,aF,fun _=>rfl,aG,aI,aM,ah,aj,hI⟩
  ·intro D a6  cv cd cf ce bD bE cO cQ cR cM cP cN w_
   rintro ⟨aB,aC,aA,aD,ax,aF,aE,aG,aI,aM,ah,aj,hI⟩
   exact ⟨aB,aC,aA,aD,ax,aF,aE,fun _=>rfl,aI,aM,ah,aj,hI⟩
  ·intro D a6 cA mh cv cd cf ce bD bE cO cQ cR cM cP cN w_
   rintro ⟨aB,aC,aA,aD,ax,aF,aE,aG,aI,aM,ah,aj,hI⟩
   obtain rfl:=aE cA
   obtain rfl:=aG mh
   refine ba ay hj2 ?_
   exact ⟨aB,aC,aA,aD,ax,aF,aE,aG,fun _=>rfl,aM,ah,aj,hI⟩
  ·intro D a6 jc cv cd cf ce bD bE cO cQ cR cM cP cN w_
   rintro ⟨aB,aC,aA,aD,ax,aF,aE,aG,aI,aM,ah,aj,hI⟩
   obtain rfl:=aI jc
   refine cu ai hR2.length (fun j v hj=>by rw [hI.cellS hS2]; exact be rfl j v hj) ?_
   exact ⟨aB,aC,aA,aD,ax,aF,aE,aG,aI,fun _=>rfl,ah,aj,hI⟩
  ·intro D a6 dr fB cv cd cf ce bD bE cO cQ cR cM cP cN w_
   rintro ⟨aB,aC,aA,aD,ax,aF,aE,aG,aI,aM,ah,aj,hI⟩
   obtain rfl:=ax dr
   obtain rfl:=aM fB
   refine Run.callPure je jf hI (ih _ (List.getElem_mem hj1) _ S _ _ hR1 hR2) fun w_ hI=>?_
   exact ⟨aB,aC,aA,aD,ax,aF,aE,aG,aI,aM,fun _=>rfl,aj,hI⟩
  ·intro D a6 f2 cv cd cf ce bD bE cO cQ cR cM cP cN w_
   rintro ⟨aB,aC,aA,aD,ax,aF,aE,aG,aI,aM,ah,aj,hI⟩
   obtain rfl:=ah f2
   refine c9 ?_
   exact ⟨aB,aC,aA,aD,ax,aF,aE,aG,aI,aM,ah,fun _=>rfl,hI⟩
  intro D eR eX jG io gc gp f1 fL fJ fP fN fO cv cd cf ce bD bE cO cQ cR cM cP cN w_
  rintro ⟨aB,aC,aA,aD,ax,aF,aE,aG,aI,aM,ah,aj,hI⟩
  obtain rfl:=aj eR
  obtain rfl:=ah eX
  obtain rfl:=aM jG
  obtain rfl:=aI io
  obtain rfl:=aG gc
  obtain rfl:=aE gp
  obtain rfl:=aF f1
  obtain rfl:=ax fL
  obtain rfl:=aD fJ
  obtain rfl:=aA fP
  obtain rfl:=aC fN
  obtain rfl:=aB fO
  clear aB aC aA aD ax aF aE aG aI aM ah aj
  refine aX (fun hne=>?_) (fun he'=>?_)
  ·exact done hI (by rw [<- hrel,hstep]; simp at hne; rw [hne]; rfl)
  ·refine bC (by omega) ?_
   refine ⟨⟨j+1,hj1,rfl,?_,hI⟩,by simp [intOf]; omega⟩
   rw [<- hrel,hstep]
   simp at he'
   rw [he',Bool.true_and]
 ·have:j=ks.length:=by omega
  subst this
  refine done hI ?_
  rw [<- hrel,List.drop_length,hle,List.drop_length]
  rfl

end Go.Proofs.YtemmhhdnlbmicaaGreat

/- Whether terms are the same: the program's side. -/
namespace Go.Proofs.YtemmhhdnlbmicaaGreat
open Go Go.RowKit
attribute [local irreducible] Run CondV ag a4

theorem xI {xs:List T} (ih:∀ t∈xs,∀ (u:T) (S:av) (cs ds:List Value),RdT S cs t->RdT S ds u->Pure Tryz.prog gU [.agg cs.toArray,.agg ds.toArray] S (.bool (eqT t u)))
  {ys:List T} {S:av} {v u:Value} (h:RdSl S 4 (RdT S) v xs) (h':RdSl S 4 (RdT S) u ys):Pure Tryz.prog mX [v,u,.func (.func gU) #[] #[]] S (.bool (eqL xs ys)):=by
 intro w hI
 have hlen:(xs.length:Int)<=9223372036854775807:=by have:=h.le; simp only [maxLen] at this; omega
 refine j2 ?_
 unfold gN
 refine a9 h ay ?_
 refine a9 h' ay ?_
 refine fA ?_
 refine aX (fun hne=>?_) (fun he=>?_)
 ·exact done hI (by rw [Cy (by simp at hne; omega)])
 have he:xs.length=ys.length:=by simp at he; omega
 refine a9 h ay ?_
 refine ⟨fun i w'=>∃ (k:Nat),k<=xs.length/\i=.int .i64 k/\eqL (xs.drop k) (ys.drop k)=eqL xs ys/\Inv w [] [] S w',fun i _=>xs.length - (intOf i).toNat,⟨0,Nat.zero_le _,rfl,rfl,hI⟩,?_⟩
 intro t5 _ _ _ _ _ _ _ _ _ _ _ _ _ _ _ _ _ _ w'
 rintro ⟨k,hk,rfl,hrel,hI⟩
 refine co ?_
 refine bp (fun hki=>?_) (fun hki=>?_)
 ·have hk1:k<xs.length:=by omega
  have hk2:k<ys.length:=by omega
  have hstep:eqL (xs.drop k) (ys.drop k)=(eqT xs[k] ys[k] && eqL (xs.drop (k+1)) (ys.drop (k+1))):=by
   rw [List.drop_eq_getElem_cons hk1,List.drop_eq_getElem_cons hk2,eqL]
  refine ec hI h ay ai hk1 (fun _ _=>RdT.length) fun cs hcs=>?_
  have hlc:=hcs.length
  refine bw hI bu fun b8 w' hI=>?_
  refine bd hI 0 rfl ai (by simpa using hlc) rfl (by simpa using hcs.one) fun w' hI=>?_
  refine ec hI h' ay ai hk2 (fun _ _=>RdT.length) fun ds hds=>?_
  have hld:=hds.length
  refine bw hI bu fun b9 w' hI=>?_
  refine bd hI 1 rfl ai (by simpa using hld) rfl (by simpa using hds.one) fun w' hI=>?_
  refine a8 hI 0 ai rfl (by simpa using hlc) ?_
  refine a8 hI 1 ai rfl (by simpa using hld) ?_
  refine Run.callPure iX ja hI (ih _ (List.getElem_mem hk1) _ S _ _ hcs hds) fun w' hI=>?_
  refine c9 ?_
  refine aX (fun hne=>?_) (fun he'=>?_)
  ·exact done hI (by rw [<- hrel,hstep]; simp at hne; rw [hne]; rfl)
  ·refine bC (by omega) ?_
   refine ⟨⟨k+1,hk1,rfl,?_,hI.nil⟩,by simp [intOf]; omega⟩
   rw [<- hrel,hstep]
   simp at he'
   rw [he',Bool.true_and]
 ·have:k=xs.length:=by omega
  subst this
  refine done hI ?_
  rw [<- hrel,List.drop_length,he,List.drop_length]
  rfl
theorem jF:∀ (t u:T) (S:av) (cs ds:List Value),RdT S cs t->RdT S ds u->Pure Tryz.prog gU [.agg cs.toArray,.agg ds.toArray] S (.bool (eqT t u)):=by
 refine T.ind fun k n s ks ih u S cs ds h h'=>?_
 intro w hI
 obtain ⟨kv,rfl,_,_,_,hks⟩:=RdT.iff.1 h
 obtain ⟨kv',rfl,_,_,_,hks'⟩:=RdT.iff.1 h'
 obtain ⟨k',n',s',ks'⟩:=u
 simp only [T.name,T.kids,T.kind,T.n] at hks hks' ⊢
 refine qh ?_
 unfold mW;dsimp only
 refine ca hI fun b1 w' hI=>?_
 refine ca hI fun b2 w' hI=>?_
 refine az hI 0 rfl bt bj rfl ?_
 refine az hI 1 rfl bt bj rfl ?_
 refine cw ?_
 by_cases e1:k=k'
 ·rw [decide_eq_true e1]
  repeat (first|refine ac ?_|refine af (by decide) ?_|refine ab ?_|refine al ?_|refine ak ?_)
  refine az hI 0 rfl bv bj rfl ?_
  refine az hI 1 rfl bv bj rfl ?_
  refine cw ?_
  by_cases e2:n=n'
  ·rw [decide_eq_true e2]
   repeat (first|refine ac ?_|refine af (by decide) ?_|refine ab ?_|refine al ?_|refine ak ?_)
   refine az hI 0 rfl bk bi rfl ?_
   refine az hI 1 rfl bk bi rfl ?_
   refine dj ?_
   by_cases e3:s=s'
   ·rw [decide_eq_true e3]
    repeat (first|refine ac ?_|refine af (by decide) ?_|refine ab ?_|refine al ?_|refine ak ?_)
    refine az hI 0 rfl aT aS rfl ?_
    refine az hI 1 rfl aT aS rfl ?_
    refine Run.callPure mm mf hI (xI ih hks hks') fun w' hI=>?_
    repeat (first|refine ac ?_|refine af (by decide) ?_|refine ab ?_|refine al ?_|refine ak ?_)
    exact done hI (by rw [eqT,decide_eq_true e1,decide_eq_true e2,decide_eq_true e3]; rfl)
   ·rw [decide_eq_false e3]
    repeat (first|refine ac ?_|refine af (by decide) ?_|refine ab ?_|refine al ?_|refine ak ?_)
    exact done hI (by rw [eqT,decide_eq_true e1,decide_eq_true e2,decide_eq_false e3]; rfl)
  ·rw [decide_eq_false e2]
   repeat (first|refine ac ?_|refine af (by decide) ?_|refine ab ?_|refine al ?_|refine ak ?_)
   exact done hI (by rw [eqT,decide_eq_true e1,decide_eq_false e2]; rfl)
 ·rw [decide_eq_false e1]
  repeat (first|refine ac ?_|refine af (by decide) ?_|refine ab ?_|refine al ?_|refine ak ?_)
  exact done hI (by rw [eqT,decide_eq_false e1]; rfl)

end Go.Proofs.YtemmhhdnlbmicaaGreat

/- Maps from numbers to terms. -/
namespace Go.Proofs.YtemmhhdnlbmicaaGreat
open Go Go.RowKit

theorem qQ {n:Int}:∀ (l:List MapEntry) (i:Nat),(∀ e∈l,∃ m,e.key=.int .i64 m)->
  (∃ j,∃ e∈l,e.key=.int .i64 n/\Instr.findNow (.int .i64) (.int .i64 n) l i=some (some (j,e.val))) ∨ ((∀ e∈l,e.key≠.int .i64 n)/\Instr.findNow (.int .i64) (.int .i64 n) l i=some none)
 | [],i,_=>.inr ⟨by simp,rfl⟩
 | e::l,i,h=>by
  obtain ⟨m,hm⟩:=h e (List.mem_cons_self ..)
  have hs:Instr.sameNow (.int .i64) (.int .i64 n) e.key=some (n == m):=by rw [hm]; rfl
  by_cases hnm:n=m
  ·refine .inl ⟨i,e,List.mem_cons_self ..,by rw [hm,hnm],?_⟩
   have:(n == m)=true:=by simpa using hnm
   rw [Instr.findNow,hs,this]
  ·have h2:(n == m)=false:=by simpa using hnm
   rcases qQ l (i+1) (fun e he=>h e (List.mem_cons_of_mem _ he)) with ⟨j,e',he',hk,hf⟩|⟨hk,hf⟩
   ·exact .inl ⟨j,e',List.mem_cons_of_mem _ he',hk,by rw [Instr.findNow,hs,h2]; exact hf⟩
   ·refine .inr ⟨fun x hx=>?_,by rw [Instr.findNow,hs,h2]; exact hf⟩
    rcases List.mem_cons.1 hx with rfl|hx
    ·rw [hm]
     intro e'
     simp only [Value.int.injEq,true_and] at e'
     exact hnm e'.symm
    ·exact hk x hx
section
variable {P:Program} {w w0:World} {X:List Nat} {L:List Item} {S:av} {K:Value->World->Prop}
attribute [local irreducible] Run CondV ag a4
theorem jQ {kt:TypeId} {d:TypeDesc} {k:Value} {l:List MapEntry} {a:Option (Nat × Value)} (hd:P.underlying kt=some d) (h:Instr.findNow d k l 0=some a):(Instr.findKey kt k l).run P w=.ok a w:=by
 simp [Instr.findKey,run_underlying hd,Result.andThen,h]
theorem Dr (h:Inv w0 X L S w) {T ty:TypeId} (hk:∀ b w',Inv w0 X (L++[.blk b (.map #[] 0)]) S w'->K (.map (some b)) w'):Run P (sOp (.makeMap T none) ty) w K:=by
 refine Run.of (v:=.map (some w.heap.size)) (w':={ w with heap:=w.heap.push (.map #[] 0) }) ?_ (hk _ _ (h.alloc _))
 simp [sOp,execOp,Instr.makeMap,newObj,Sem.run]
theorem AQ (h:Inv w0 X L S w) {T kt et ty:TypeId} {b clock:Nat} {es:Array MapEntry} {n:Int} {z v:Value} {ok:Bool} (i:Nat) (hT:P.underlying T=some (.map kt et)) (hkt:P.underlying kt=some (.int .i64))
  (hz:li P et=some z) (hi:L[i]?=some (.blk b (.map es clock)))
  (hf:(∃ j,Instr.findNow (.int .i64) (.int .i64 n) es.toList 0=some (some (j,v))/\ok=true) ∨ (Instr.findNow (.int .i64) (.int .i64 n) es.toList 0=some none/\v=z/\ok=false))
  (hk:K (.tuple #[v,.bool ok]) w):Run P (sOp (.lookup T (.const (.map (some b))) (.const (.int .i64 n)) true) ty) w K:=by
 have hb:w.heap[b]?=some (.map es clock):=h.its _ (List.mem_of_getElem? hi)
 have hck:∀ e,(Instr.checkKey e 10000 kt (.int .i64 n)).run P w=.ok () w:=fun e=>by
  rw [show (10000:Nat)=9999+1 from rfl,Instr.checkKey]
  simp [run_underlying hkt]
 obtain ⟨inf,hi1,hi2⟩:∃ inf,P.info? et=some inf/\inf.zero=some z:=by
  unfold li at hz
  cases hinf:P.info? et with
  | none=>rw [hinf] at hz; simp at hz
  | some inf=>rw [hinf] at hz; exact ⟨inf,rfl,by simpa using hz⟩
 have hzv:(zeroValue et).run P w=.ok z w:=by simp [zeroValue,typeInfo,hi1,hi2]
 refine Run.of ?_ hk
 have hg:(getObj b).run P w=.ok (.map es clock) w:=by simp [getObj,Sem.run,hb]
 rcases hf with ⟨j,hf,rfl⟩|⟨hf,rfl,rfl⟩
 ·have hfk:=jQ (P:=P) (w:=w) hkt hf
  simp [sOp,execOp,ev0,evE,Instr.lookup,run_underlying hT,hg,hck,hfk]
 ·have hfk:=jQ (P:=P) (w:=w) hkt hf
  simp [sOp,execOp,ev0,evE,Instr.lookup,run_underlying hT,hg,hck,hfk,hzv]
theorem E3 (h:Inv w0 X L S w) {T kt et ty:TypeId} {b clock:Nat} {es:Array MapEntry} {n:Int} {v:Value} (i:Nat) (hT:P.underlying T=some (.map kt et)) (hkt:P.underlying kt=some (.int .i64))
  (hi:L[i]?=some (.blk b (.map es clock))) (hf:Instr.findNow (.int .i64) (.int .i64 n) es.toList 0=some none)
  (hk:∀ w',Inv w0 X (L.set i (.blk b (.map (es.push { key:=.int .i64 n,val:=v,born:=clock }) (clock+1)))) S w'->K undef w') :
  Run P (sOp (.mapUpdate T (.const (.map (some b))) (.const (.int .i64 n)) (.const v)) ty) w K:=by
 have hb:w.heap[b]?=some (.map es clock):=h.its _ (List.mem_of_getElem? hi)
 have hck:∀ e,(Instr.checkKey e 10000 kt (.int .i64 n)).run P w=.ok () w:=fun e=>by
  rw [show (10000:Nat)=9999+1 from rfl,Instr.checkKey]
  simp [run_underlying hkt]
 have hg:(getObj b).run P w=.ok (.map es clock) w:=by simp [getObj,Sem.run,hb]
 have hfk:=jQ (P:=P) (w:=w) hkt hf
 refine Run.ofSkip (w':={ w with heap:=w.heap.setIfInBounds b (.map (es.push { key:=.int .i64 n,val:=v,born:=clock }) (clock+1)) }) ?_ (hk _ (h.setBlk hi _ rfl))
 have hst:(setObj b (.map (es.push { key:=.int .i64 n,val:=v,born:=clock }) (clock+1))).run P w=.ok () { w with heap:=w.heap.setIfInBounds b (.map (es.push { key:=.int .i64 n,val:=v,born:=clock }) (clock+1)) }:=by simp [setObj,Sem.run,hb]
 simp [sOp,execOp,ev0,evE,Instr.mapUpdate,run_underlying hT,hg,hck,hfk,hst]
end

end Go.Proofs.YtemmhhdnlbmicaaGreat

/- Matching a general term to a special one: the plain form, and spec.l3Match. -/
namespace Go.Proofs.YtemmhhdnlbmicaaGreat
open Go Go.RowKit

abbrev bg:=List (Option T)
mutual
def bm:T->T->bg->Bool × bg
 | .mk k n s ks,u,st=>if k=1 then (match st[n.toNat]? with
   | some (some t)=>(eqT t u,st)
   | _=>(true,st.set n.toNat (some u)))
  else if iz (.mk k n s ks) u=true then cS ks u.kids st else (false,st)
def cS:List T->List T->bg->Bool × bg
 | [],_,st=>(true,st)
 | _::_,[],st=>(true,st)
 | t::ts,u::us,st=>if (bm t u st).1=true then cS ts us (bm t u st).2 else (false,(bm t u st).2)
end
theorem rE (ts us:List T) (st:bg) (j:Nat) (h:j<ts.length) (h':j<us.length) :
  cS (ts.drop j) (us.drop j) st=if (bm ts[j] us[j] st).1=true then cS (ts.drop (j+1)) (us.drop (j+1)) (bm ts[j] us[j] st).2 else (false,(bm ts[j] us[j] st).2):=by
 rw [List.drop_eq_getElem_cons h,List.drop_eq_getElem_cons h',cS]
/- variables within the table; kinds that are kinds -/
mutual
def okV:T->Prop
 | .mk k n _ ks=>(k=1->0<=n/\n<=25)/\lp ks
def lp:List T->Prop
 | []=>True
 | t::ts=>okV t/\lp ts
end
theorem nP:∀ {ts:List T},lp ts->∀ t∈ts,okV t
 | _::_,h,t,ht=>by
  rcases List.mem_cons.1 ht with rfl|ht
  ·exact h.1
  ·exact nP h.2 t ht
mutual
def okK:T->Prop
 | .mk k _ _ ks=>k≠0/\pO ks
def pO:List T->Prop
 | []=>True
 | t::ts=>okK t/\pO ts
end
theorem kP:∀ {ts:List T},pO ts->∀ t∈ts,okK t
 | _::_,h,t,ht=>by
  rcases List.mem_cons.1 ht with rfl|ht
  ·exact h.1
  ·exact kP h.2 t ht
theorem yx {t:T} (h:dE t=true):(t.kind=1->0<=t.n/\t.n<=25)/\t.kind≠0:=by
 unfold dE at h
 refine ⟨fun hk=>?_,fun hk=>?_⟩
 ·rw [if_pos hk] at h
  simp only [Bool.and_eq_true,decide_eq_true_eq] at h
  exact ⟨h.1,h.2.1⟩
 ·rw [if_neg (by omega),if_neg (by omega),if_neg (by omega)] at h
  cases h
mutual
theorem zn:∀ (t:T) (d:Int),dK t d=true->okV t/\okK t
 | .mk k n s ks,d,h=>by
  rw [dK] at h
  split at h
  ·cases h
  ·simp only [Bool.and_eq_true] at h
   obtain ⟨h1,h2⟩:=h
   obtain ⟨h3,h4⟩:=wG ks (d - 1) h2
   rw [okV,okK]
   obtain ⟨h5,h6⟩:=yx h1
   exact ⟨⟨h5,h3⟩,⟨h6,h4⟩⟩
theorem wG:∀ (ts:List T) (d:Int),dF ts d=true->lp ts/\pO ts
 | [],d,h=>by simp [lp,pO]
 | t::ts,d,h=>by
  rw [dF,Bool.and_eq_true] at h
  obtain ⟨h1,h2⟩:=zn t d h.1
  obtain ⟨h3,h4⟩:=wG ts d h.2
  rw [lp,pO]
  exact ⟨⟨h1,h3⟩,⟨h2,h4⟩⟩
end
theorem pu {t:T} (h:dd t=true):okV t/\okK t:=by
 rw [dd,Bool.and_eq_true] at h
 exact zn t 30 h.1
def nF (st:bg):Prop:=st.length=26/\∀ t,some t∈st->okK t
theorem DR {st:bg} {n:Nat} {u:T} (h:nF st) (hu:okK u):nF (st.set n (some u)):=by
 refine ⟨by rw [List.length_set]; exact h.1,fun t ht=>?_⟩
 rcases List.mem_or_eq_of_mem_set ht with ht|ht
 ·exact h.2 t ht
 ·simp only [Option.some.injEq] at ht
  rw [ht]; exact hu
mutual
theorem oz:∀ (t u:T) (st:bg),nF st->okK u->nF (bm t u st).2
 | .mk k n s ks,u,st,h,hu=>by
  rw [bm]
  split
  ·split
   ·exact h
   ·exact DR h hu
  ·split
   ·obtain ⟨k',n',s',ks'⟩:=u
    rw [okK] at hu
    exact wo ks ks' st h hu.2
   ·exact h
theorem wo:∀ (ts us:List T) (st:bg),nF st->pO us->nF (cS ts us st).2
 | [],_,st,h,_=>by rw [cS]; exact h
 | _::_,[],st,h,_=>by rw [cS]; exact h
 | t::ts,u::us,st,h,hu=>by
  rw [cS]
  rw [pO] at hu
  split
  ·exact wo ts us _ (oz t u st h hu.1) hu.2
  ·exact oz t u st h hu.1
end
def nT:List Value:=[.int .i64 0,.int .i64 0,.string ⟨#[]⟩,.slice none 0 0]
/- the table of spec.l3Match -/
def KnownC (S:av) (c:Array Value) (st:bg):Prop:=104<=c.size/\∀ i (h:i<st.length),(st[i]=none->bf c (i * 4) 4=nT)/\(∀ t,st[i]=some t->RdT S (bf c (i * 4) 4) t)
theorem KnownC.set {S:av} {c:Array Value} {st:bg} (h:KnownC S c st) {n:Nat} (hn:n<26) {cs:List Value} {u:T} (hu:RdT S cs u):KnownC S (cc c (n * 4) cs) (st.set n (some u)):=by
 have hlc:=hu.length
 have h1:=h.1
 have hs:104<=(cc c (n * 4) cs).size:=by rw [i8 _ _ _ (by omega)]; exact h1
 refine ⟨hs,fun i hi=>?_⟩
 rw [List.length_set] at hi
 by_cases e:n=i
 ·subst e
  rw [List.getElem_set_self]
  refine ⟨fun h=>(by cases h),fun t ht=>?_⟩
  simp only [Option.some.injEq] at ht
  subst ht
  have:=fj (c:=c) (o:=n * 4) (vs:=cs) (by omega)
  rw [hlc] at this
  rw [this]
  exact hu
 ·rw [List.getElem_set_ne e,eh (by omega) (by omega)]
  exact h.2 i hi
section
attribute [local irreducible] Run CondV ag a4
abbrev kvn (kb kp:Nat):Value:=.slice (some ⟨kb,0,none⟩) 26 kp
abbrev kv0 (kb:Nat):Value:=kvn kb 26
theorem mt (kp:Nat):∀ (t u:T) (S:av) (cs ds:List Value) (kb:Nat) (kc:Array Value) (st:bg),RdT S cs t->RdT S ds u->okV t->okK u->nF st->KnownC S kc st->
  Tri Tryz.prog zX [.agg cs.toArray,.agg ds.toArray,kvn kb kp] [.blk kb (.cells kc ad)] S fun r I' S'=>S'=S/\r=.bool (bm t u st).1/\∃ kc',I'=[.blk kb (.cells kc' ad)]/\KnownC S kc' (bm t u st).2:=by
 refine T.ind fun k n s ks ih u S cs ds kb kc st h h' hv hu hst hkc=>?_
 intro w hI
 have hds:=h'
 obtain ⟨kv,rfl,_,_,_,hks⟩:=RdT.iff.1 h
 obtain ⟨kv',rfl,_,_,_,hks'⟩:=RdT.iff.1 h'
 obtain ⟨k',n',s',ks'⟩:=u
 simp only [T.name,T.kids,T.kind,T.n] at hks hks' ⊢
 have hlen:=hks.le
 simp only [maxLen] at hlen
 rw [okV] at hv
 obtain ⟨hv1,hv2⟩:=hv
 have huk:=hu
 rw [okK] at hu
 obtain ⟨X,hX⟩:∃ X,X=bF [Item.blk kb (.cells kc ad)]:=⟨_,rfl⟩
 rw [<- hX] at hI ⊢
 refine sA ?_
 unfold oc;dsimp only
 refine ca hI fun b1 w' hI=>?_
 refine ca hI fun b2 w' hI=>?_
 have hI:Inv w X [.blk b1 (.cells #[.int .i64 k,.int .i64 n,.string s,kv] ad),.blk b2 (.cells #[.int .i64 k',.int .i64 n',.string s',kv'] ad),.blk kb (.cells kc ad)] S w':=hI.perm (by
  refine (List.perm_append_comm (l₁:=[_,_]) (l₂:=[_])).trans ?_
  exact List.Perm.refl _)
 refine az hI 0 rfl bt bj rfl ?_
 refine cw ?_
 refine bp (fun hk1=>?_) (fun hk1=>?_)
 ·obtain ⟨hn0,hn25⟩:=hv1 hk1
  obtain ⟨j,rfl⟩:∃ j:Nat,n=j:=⟨n.toNat,by omega⟩
  have hj:j<26:=by omega
  have hjs:j<st.length:=by rw [hst.1]; exact hj
  refine az hI 0 rfl bv bj rfl ?_
  refine ba ay hj ?_
  refine bo bt ?_
  rw [Nat.zero_add,Nat.add_zero]
  obtain ⟨hno,hso⟩:=hkc.2 j hjs
  cases hst2:st[j] with
  | none=>
   have hcell:=hno hst2
   refine bA hI 2 bj rfl (by have:=be hcell 0 _ rfl; exact this) ?_
   refine fA ?_
   refine aX (fun hb=>by simp at hb) (fun _=>?_)
   refine az hI 0 rfl bv bj rfl ?_
   refine a8 hI 1 ai rfl rfl ?_
   refine ba ay hj ?_
   rw [Nat.zero_add]
   refine yR hI 2 rfl ai rfl (by have:=hkc.1; exact Nat.ble_eq_true_of_le (by omega)) hds.one fun w' hI=>?_
   have hm:bm (.mk k j s ks) (.mk k' n' s' ks') st=(true,st.set j (some (.mk k' n' s' ks'))):=by
    rw [bm,if_pos hk1,Int.toNat_natCast,List.getElem?_eq_getElem hjs,hst2]
   rw [hm]
   exact ⟨_,_,_,rfl,hI.pick [false,false,true],Ext.refl _ _ _,rfl,rfl,_,rfl,hkc.set hj hds⟩
  | some t0=>
   have hR:=hso t0 hst2
   have hk0:t0.kind≠0:=by
    have:=hst.2 t0 (by rw [<- hst2]; exact List.getElem_mem hjs)
    obtain ⟨a,b,c,d⟩:=t0
    rw [okK] at this
    exact this.1
   obtain ⟨kv0',hcell,_,_,_,_⟩:=RdT.iff.1 hR
   refine bA hI 2 bj rfl (by have:=be hcell 0 _ rfl; exact this) ?_
   refine fA ?_
   rw [decide_eq_false hk0]
   refine aX (fun _=>?_) (fun hb=>by cases hb)
   refine ⟨fun D x6 cW df c5 db c4 cq dq w_=>(D 0=true->dq=kvn kb kp)/\(D 1=true->cq=.pointer (some ⟨b1,1,none⟩))/\(D 2=true->c4=.int .i64 j)/\(D 3=true->db=.pointer (some ⟨kb,j * 4,none⟩))/\(D 4=true->c5=.agg (bf kc (j * 4) 4).toArray)/\(D 5=true->df=.agg #[.int .i64 k',.int .i64 n',.string s',kv'])/\(D 6=true->cW=.bool (eqT t0 (.mk k' n' s' ks')))/\(D 7=true->x6=.bool (eqT t0 (.mk k' n' s' ks')))/\Inv w X [.blk b1 (.cells #[.int .i64 k,.int .i64 (j:Int),.string s,kv] ad),.blk b2 (.cells #[.int .i64 k',.int .i64 n',.string s',kv'] ad),.blk kb (.cells kc ad)] S w_,⟨ae,ae,ae,ae,ae,ae,ae,ae,hI.draw⟩,⟨?_,?_,?_,?_,?_,?_,?_,?_,trivial⟩,?_⟩
   ·intro D a6  x6 cW df c5 db c4 cq dq w_
    rintro ⟨aB,aC,aA,aD,ax,aF,aE,aG,hI⟩
    exact ⟨fun _=>rfl,aC,aA,aD,ax,aF,aE,aG,hI⟩
   ·intro D a6  x6 cW df c5 db c4 cq dq w_
    rintro ⟨aB,aC,aA,aD,ax,aF,aE,aG,hI⟩
    refine bo bv ?_
    exact ⟨aB,fun _=>rfl,aA,aD,ax,aF,aE,aG,hI⟩
   ·intro D a6 d3 x6 cW df c5 db c4 cq dq w_
    rintro ⟨aB,aC,aA,aD,ax,aF,aE,aG,hI⟩
    obtain rfl:=aC d3
    refine bA hI 0 bj rfl rfl ?_
    exact ⟨aB,aC,fun _=>rfl,aD,ax,aF,aE,aG,hI⟩
   ·intro D a6 cV jg x6 cW df c5 db c4 cq dq w_
    rintro ⟨aB,aC,aA,aD,ax,aF,aE,aG,hI⟩
    obtain rfl:=aB cV
    obtain rfl:=aA jg
    refine ba ay hj ?_; rw [Nat.zero_add]
    exact ⟨aB,aC,aA,fun _=>rfl,ax,aF,aE,aG,hI⟩
   ·intro D a6 dg x6 cW df c5 db c4 cq dq w_
    rintro ⟨aB,aC,aA,aD,ax,aF,aE,aG,hI⟩
    obtain rfl:=aD dg
    refine ft hI 2 (bf kc (j * 4) 4) ai rfl hR.length (fun i v hi=>be rfl i v hi) ?_
    exact ⟨aB,aC,aA,aD,fun _=>rfl,aF,aE,aG,hI⟩
   ·intro D a6  x6 cW df c5 db c4 cq dq w_
    rintro ⟨aB,aC,aA,aD,ax,aF,aE,aG,hI⟩
    refine a8 hI 1 ai rfl rfl ?_
    exact ⟨aB,aC,aA,aD,ax,fun _=>rfl,aE,aG,hI⟩
   ·intro D a6 dr kH x6 cW df c5 db c4 cq dq w_
    rintro ⟨aB,aC,aA,aD,ax,aF,aE,aG,hI⟩
    obtain rfl:=ax dr
    obtain rfl:=aF kH
    refine Run.callPure je jf hI (jk t0 _ S _ _ hR hds) fun w_ hI=>?_
    exact ⟨aB,aC,aA,aD,ax,aF,fun _=>rfl,aG,hI⟩
   ·intro D a6 cA jh ul ve u5 vw yh Ar z0 x6 cW df c5 db c4 cq dq w_
    rintro ⟨aB,aC,aA,aD,ax,aF,aE,aG,hI⟩
    obtain rfl:=aE cA
    exact ⟨aB,aC,aA,aD,ax,aF,aE,fun _=>rfl,hI⟩
   intro D gc gp f1 fL fJ fP fN fO x6 cW df c5 db c4 cq dq w_
   rintro ⟨aB,aC,aA,aD,ax,aF,aE,aG,hI⟩
   obtain rfl:=aG gc
   obtain rfl:=aE gp
   obtain rfl:=aF f1
   obtain rfl:=ax fL
   obtain rfl:=aD fJ
   obtain rfl:=aA fP
   obtain rfl:=aC fN
   obtain rfl:=aB fO
   clear aB aC aA aD ax aF aE aG
   have hm:bm (.mk k j s ks) (.mk k' n' s' ks') st=(eqT t0 (.mk k' n' s' ks'),st):=by
    rw [bm,if_pos hk1,Int.toNat_natCast,List.getElem?_eq_getElem hjs,hst2]
   rw [hm]
   exact ⟨_,_,_,rfl,hI.pick [false,false,true],Ext.refl _ _ _,rfl,rfl,_,rfl,hkc⟩
 refine ⟨fun q w'=>q=.bool (!iz (.mk k n s ks) (.mk k' n' s' ks'))/\Inv w X [.blk b1 (.cells #[.int .i64 k,.int .i64 n,.string s,kv] ad),.blk b2 (.cells #[.int .i64 k',.int .i64 n',.string s',kv'] ad),.blk kb (.cells kc ad)] S w',?_,?_⟩
 ·refine az hI 0 rfl bt bj rfl ?_
  refine az hI 1 rfl bt bj rfl ?_
  refine fA ?_
  by_cases e1:k=k'
  ·rw [decide_eq_true e1]
   repeat (first|refine ac ?_|refine af (by decide) ?_|refine ab ?_|refine al ?_|refine ak ?_)
   refine az hI 0 rfl bv bj rfl ?_
   refine az hI 1 rfl bv bj rfl ?_
   refine fA ?_
   by_cases e2:n=n'
   ·rw [decide_eq_true e2]
    repeat (first|refine ac ?_|refine af (by decide) ?_|refine ab ?_|refine al ?_|refine ak ?_)
    refine az hI 0 rfl bk bi rfl ?_
    refine az hI 1 rfl bk bi rfl ?_
    refine pU ?_
    by_cases e3:s=s'
    ·rw [decide_eq_true e3]
     repeat (first|refine ac ?_|refine af (by decide) ?_|refine ab ?_|refine al ?_|refine ak ?_)
     refine az hI 0 rfl aT aS rfl ?_
     refine a9 hks ay ?_
     refine az hI 1 rfl aT aS rfl ?_
     refine a9 hks' ay ?_
     refine fA ?_
     repeat (first|refine ac ?_|refine af (by decide) ?_|refine ab ?_|refine al ?_|refine ak ?_)
     exact ⟨by rw [d6,decide_eq_true e1,decide_eq_true e2,decide_eq_true e3,ED]; rfl,hI⟩
    ·rw [decide_eq_false e3]
     repeat (first|refine ac ?_|refine af (by decide) ?_|refine ab ?_|refine al ?_|refine ak ?_)
     exact ⟨by rw [d6,decide_eq_true e1,decide_eq_true e2,decide_eq_false e3]; rfl,hI⟩
   ·rw [decide_eq_false e2]
    repeat (first|refine ac ?_|refine af (by decide) ?_|refine ab ?_|refine al ?_|refine ak ?_)
    exact ⟨by rw [d6,decide_eq_true e1,decide_eq_false e2]; rfl,hI⟩
  ·rw [decide_eq_false e1]
   repeat (first|refine ac ?_|refine af (by decide) ?_|refine ab ?_|refine al ?_|refine ak ?_)
   exact ⟨by rw [d6,decide_eq_false e1]; rfl,hI⟩

 intro q _ _ _ _ _ _ _ _ _ _ _ _ _ _ _ _ _ _ _ _ _ _ _ _ _ _ _ w'
 rintro ⟨rfl,hI⟩
 cases hd:iz (.mk k n s ks) (.mk k' n' s' ks')
 ·refine aX (fun _=>?_) (fun hb=>by cases hb)
  have hm:bm (.mk k n s ks) (.mk k' n' s' ks') st=(false,st):=by rw [bm,if_neg hk1,if_neg (by rw [hd]; decide)]
  rw [hm]
  exact ⟨_,_,_,rfl,hI.pick [false,false,true],Ext.refl _ _ _,rfl,rfl,_,rfl,hkc⟩
 refine aX (fun hb=>by cases hb) (fun _=>?_)
 have hle:ks.length=ks'.length:=by
  rw [d6] at hd
  simp only [Bool.and_eq_true,decide_eq_true_eq] at hd
  exact hd.2.2.2
 have hm:bm (.mk k n s ks) (.mk k' n' s' ks') st=cS ks ks' st:=by rw [bm,if_neg hk1,if_pos hd]; rfl
 rw [hm]
 have hu2:=hu.2
 refine ⟨fun i w'=>∃ (j:Nat) (st':bg) (kc':Array Value),j<=ks.length/\i=.int .i64 j/\cS (ks.drop j) (ks'.drop j) st'=cS ks ks' st/\nF st'/\KnownC S kc' st'/\Inv w X [.blk b1 (.cells #[.int .i64 k,.int .i64 n,.string s,kv] ad),.blk b2 (.cells #[.int .i64 k',.int .i64 n',.string s',kv'] ad),.blk kb (.cells kc' ad)] S w',fun i _=>ks.length - (intOf i).toNat,⟨0,st,kc,Nat.zero_le _,rfl,rfl,hst,hkc,hI⟩,?_⟩
 intro t5 _ _ _ _ _ _ _ _ _ _ _ _ _ _ _ _ _ _ _ _ _ w'
 rintro ⟨j,st',kc',hj,rfl,hrel,hst',hkc',hI⟩
 refine az hI 0 rfl aT aS rfl ?_
 refine a9 hks ay ?_
 refine co ?_
 refine bp (fun hji=>?_) (fun hji=>?_)
 ·have hj1:j<ks.length:=by omega
  have hj2:j<ks'.length:=by omega
  obtain ⟨c1,o1,cap1,a1,E1,fz1,rfl,hS1,hR1⟩:=hks.at_ hj1
  obtain ⟨c2,o2,cap2,a2,E2,fz2,rfl,hS2,hR2⟩:=hks'.at_ hj2
  rw [rE ks ks' st' j hj1 hj2] at hrel
  have hcall:=ih _ (List.getElem_mem hj1) ks'[j] S _ _ kb kc' st' hR1 hR2 (nP hv2 _ (List.getElem_mem hj1)) (kP hu2 _ (List.getElem_mem hj2)) hst' hkc'
  have hsn:=oz ks[j] ks'[j] st' hst' (kP hu2 _ (List.getElem_mem hj2))
  generalize hr:bm ks[j] ks'[j] st'=r at hrel hcall hsn
  refine ⟨fun D fD fE ev ex eD eq ez eE eC eF eA dM ch w_=>(D 0=true->ch=.pointer (some ⟨b1,3,none⟩))/\(D 1=true->dM=.slice (some ⟨c1,o1,none⟩) ks.length cap1)/\(D 2=true->eA=.int .i64 j)/\(D 3=true->eF=.pointer (some ⟨c1,o1+j * 4,none⟩))/\(D 4=true->eC=.agg (bf a1 (o1+j * 4) 4).toArray)/\(D 5=true->eE=.pointer (some ⟨b2,3,none⟩))/\(D 6=true->ez=.slice (some ⟨c2,o2,none⟩) ks'.length cap2)/\(D 7=true->eq=.int .i64 j)/\(D 8=true->eD=.pointer (some ⟨c2,o2+j * 4,none⟩))/\(D 9=true->ex=.agg (bf a2 (o2+j * 4) 4).toArray)/\(D 10=true->ev=kvn kb kp)/\(D 11=true->fE=.bool r.1)/\(D 12=true->fD=.bool (!r.1))/\(D 11=false->Inv w X [.blk b1 (.cells #[.int .i64 k,.int .i64 n,.string s,.slice (some ⟨c1,o1,none⟩) ks.length cap1] ad),.blk b2 (.cells #[.int .i64 k',.int .i64 n',.string s',.slice (some ⟨c2,o2,none⟩) ks'.length cap2] ad),.blk kb (.cells kc' ad)] S w_)/\(D 11=true->∃ kc2,KnownC S kc2 r.2/\Inv w X [.blk b1 (.cells #[.int .i64 k,.int .i64 n,.string s,.slice (some ⟨c1,o1,none⟩) ks.length cap1] ad),.blk b2 (.cells #[.int .i64 k',.int .i64 n',.string s',.slice (some ⟨c2,o2,none⟩) ks'.length cap2] ad),.blk kb (.cells kc2 ad)] S w_)/\∃ kc3,Inv w X [.blk b1 (.cells #[.int .i64 k,.int .i64 n,.string s,.slice (some ⟨c1,o1,none⟩) ks.length cap1] ad),.blk b2 (.cells #[.int .i64 k',.int .i64 n',.string s',.slice (some ⟨c2,o2,none⟩) ks'.length cap2] ad),.blk kb (.cells kc3 ad)] S w_,⟨ae,ae,ae,ae,ae,ae,ae,ae,ae,ae,ae,ae,ae,⟨fun _=>hI.draw,ae,kc',hI.draw⟩⟩,⟨?_,?_,?_,?_,?_,?_,?_,?_,?_,?_,?_,?_,?_,trivial⟩,?_⟩
  ·intro D a6  fD fE ev ex eD eq ez eE eC eF eA dM ch w_
   rintro ⟨aB,aC,aA,aD,ax,aF,aE,aG,aI,aM,ah,aj,ar,⟨hI0,hI1,kc3,hI⟩⟩
   refine bo aT ?_
   exact ⟨fun _=>rfl,aC,aA,aD,ax,aF,aE,aG,aI,aM,ah,aj,ar,⟨hI0,hI1,kc3,hI⟩⟩
  ·intro D a6 cV fD fE ev ex eD eq ez eE eC eF eA dM ch w_
   rintro ⟨aB,aC,aA,aD,ax,aF,aE,aG,aI,aM,ah,aj,ar,⟨hI0,hI1,kc3,hI⟩⟩
   obtain rfl:=aB cV
   refine bA hI 0 aS rfl rfl ?_
   exact ⟨aB,fun _=>rfl,aA,aD,ax,aF,aE,aG,aI,aM,ah,aj,ar,⟨hI0,hI1,kc3,hI⟩⟩
  ·intro D a6  fD fE ev ex eD eq ez eE eC eF eA dM ch w_
   rintro ⟨aB,aC,aA,aD,ax,aF,aE,aG,aI,aM,ah,aj,ar,⟨hI0,hI1,kc3,hI⟩⟩
   exact ⟨aB,aC,fun _=>rfl,aD,ax,aF,aE,aG,aI,aM,ah,aj,ar,⟨hI0,hI1,kc3,hI⟩⟩
  ·intro D a6 d3 jg fD fE ev ex eD eq ez eE eC eF eA dM ch w_
   rintro ⟨aB,aC,aA,aD,ax,aF,aE,aG,aI,aM,ah,aj,ar,⟨hI0,hI1,kc3,hI⟩⟩
   obtain rfl:=aC d3
   obtain rfl:=aA jg
   refine ba ay hj1 ?_
   exact ⟨aB,aC,aA,fun _=>rfl,ax,aF,aE,aG,aI,aM,ah,aj,ar,⟨hI0,hI1,kc3,hI⟩⟩
  ·intro D a6 dg fD fE ev ex eD eq ez eE eC eF eA dM ch w_
   rintro ⟨aB,aC,aA,aD,ax,aF,aE,aG,aI,aM,ah,aj,ar,⟨hI0,hI1,kc3,hI⟩⟩
   obtain rfl:=aD dg
   refine cu ai hR1.length (fun j v hj=>by rw [hI.cellS hS1]; exact be rfl j v hj) ?_
   exact ⟨aB,aC,aA,aD,fun _=>rfl,aF,aE,aG,aI,aM,ah,aj,ar,⟨hI0,hI1,kc3,hI⟩⟩
  ·intro D a6  fD fE ev ex eD eq ez eE eC eF eA dM ch w_
   rintro ⟨aB,aC,aA,aD,ax,aF,aE,aG,aI,aM,ah,aj,ar,⟨hI0,hI1,kc3,hI⟩⟩
   refine bo aT ?_
   exact ⟨aB,aC,aA,aD,ax,fun _=>rfl,aE,aG,aI,aM,ah,aj,ar,⟨hI0,hI1,kc3,hI⟩⟩
  ·intro D a6 ef fD fE ev ex eD eq ez eE eC eF eA dM ch w_
   rintro ⟨aB,aC,aA,aD,ax,aF,aE,aG,aI,aM,ah,aj,ar,⟨hI0,hI1,kc3,hI⟩⟩
   obtain rfl:=aF ef
   refine bA hI 1 aS rfl rfl ?_
   exact ⟨aB,aC,aA,aD,ax,aF,fun _=>rfl,aG,aI,aM,ah,aj,ar,⟨hI0,hI1,kc3,hI⟩⟩
  ·intro D a6  fD fE ev ex eD eq ez eE eC eF eA dM ch w_
   rintro ⟨aB,aC,aA,aD,ax,aF,aE,aG,aI,aM,ah,aj,ar,⟨hI0,hI1,kc3,hI⟩⟩
   exact ⟨aB,aC,aA,aD,ax,aF,aE,fun _=>rfl,aI,aM,ah,aj,ar,⟨hI0,hI1,kc3,hI⟩⟩
  ·intro D a6 cA mh fD fE ev ex eD eq ez eE eC eF eA dM ch w_
   rintro ⟨aB,aC,aA,aD,ax,aF,aE,aG,aI,aM,ah,aj,ar,⟨hI0,hI1,kc3,hI⟩⟩
   obtain rfl:=aE cA
   obtain rfl:=aG mh
   refine ba ay hj2 ?_
   exact ⟨aB,aC,aA,aD,ax,aF,aE,aG,fun _=>rfl,aM,ah,aj,ar,⟨hI0,hI1,kc3,hI⟩⟩
  ·intro D a6 jc fD fE ev ex eD eq ez eE eC eF eA dM ch w_
   rintro ⟨aB,aC,aA,aD,ax,aF,aE,aG,aI,aM,ah,aj,ar,⟨hI0,hI1,kc3,hI⟩⟩
   obtain rfl:=aI jc
   refine cu ai hR2.length (fun j v hj=>by rw [hI.cellS hS2]; exact be rfl j v hj) ?_
   exact ⟨aB,aC,aA,aD,ax,aF,aE,aG,aI,fun _=>rfl,ah,aj,ar,⟨hI0,hI1,kc3,hI⟩⟩
  ·intro D a6  fD fE ev ex eD eq ez eE eC eF eA dM ch w_
   rintro ⟨aB,aC,aA,aD,ax,aF,aE,aG,aI,aM,ah,aj,ar,⟨hI0,hI1,kc3,hI⟩⟩
   exact ⟨aB,aC,aA,aD,ax,aF,aE,aG,aI,aM,fun _=>rfl,aj,ar,⟨hI0,hI1,kc3,hI⟩⟩
  ·intro D a6 dr fB Ef fD fE ev ex eD eq ez eE eC eF eA dM ch w_
   rintro ⟨aB,aC,aA,aD,ax,aF,aE,aG,aI,aM,ah,aj,ar,⟨hI0,hI1,kc3,hI⟩⟩
   obtain rfl:=ax dr
   obtain rfl:=aM fB
   obtain rfl:=ah Ef
   refine Run.call (A:=[_,_]) jP j5 (hI0 a6) hcall fun v' I' S w_=>?_
   rintro ⟨rfl,rfl,kc2,rfl,hk2⟩ _ hI
   have hI0:=fun (h:aw D 11 11=false)=>(Bool.noConfusion h:Inv w X [.blk b1 (.cells #[.int .i64 k,.int .i64 n,.string s,.slice (some ⟨c1,o1,none⟩) ks.length cap1] ad),.blk b2 (.cells #[.int .i64 k',.int .i64 n',.string s',.slice (some ⟨c2,o2,none⟩) ks'.length cap2] ad),.blk kb (.cells kc' ad)] S w_)
   have hI1:=fun (_:aw D 11 11=true)=>(⟨kc2,hk2,hI⟩:∃ kc2,KnownC S kc2 r.2/\Inv w X [.blk b1 (.cells #[.int .i64 k,.int .i64 n,.string s,.slice (some ⟨c1,o1,none⟩) ks.length cap1] ad),.blk b2 (.cells #[.int .i64 k',.int .i64 n',.string s',.slice (some ⟨c2,o2,none⟩) ks'.length cap2] ad),.blk kb (.cells kc2 ad)] S w_)
   obtain ⟨kc3,hI⟩:∃ kc3,Inv w X [.blk b1 (.cells #[.int .i64 k,.int .i64 n,.string s,.slice (some ⟨c1,o1,none⟩) ks.length cap1] ad),.blk b2 (.cells #[.int .i64 k',.int .i64 n',.string s',.slice (some ⟨c2,o2,none⟩) ks'.length cap2] ad),.blk kb (.cells kc3 ad)] S w_:=⟨kc2,hI⟩
   exact ⟨aB,aC,aA,aD,ax,aF,aE,aG,aI,aM,ah,fun _=>rfl,ar,⟨hI0,hI1,kc3,hI⟩⟩
  ·intro D a6 im fD fE ev ex eD eq ez eE eC eF eA dM ch w_
   rintro ⟨aB,aC,aA,aD,ax,aF,aE,aG,aI,aM,ah,aj,ar,⟨hI0,hI1,kc3,hI⟩⟩
   obtain rfl:=aj im
   refine c9 ?_
   exact ⟨aB,aC,aA,aD,ax,aF,aE,aG,aI,aM,ah,aj,fun _=>rfl,⟨hI0,hI1,kc3,hI⟩⟩
  intro D i5 eR eX jG io gc gp f1 fL fJ fP fN fO fD fE ev ex eD eq ez eE eC eF eA dM ch w_
  rintro ⟨aB,aC,aA,aD,ax,aF,aE,aG,aI,aM,ah,aj,ar,⟨hI0,hI1,kc3,hI⟩⟩
  obtain rfl:=ar i5
  obtain rfl:=aj eR
  obtain rfl:=ah eX
  obtain rfl:=aM jG
  obtain rfl:=aI io
  obtain rfl:=aG gc
  obtain rfl:=aE gp
  obtain rfl:=aF f1
  obtain rfl:=ax fL
  obtain rfl:=aD fJ
  obtain rfl:=aA fP
  obtain rfl:=aC fN
  obtain rfl:=aB fO
  clear aB aC aA aD ax aF aE aG aI aM ah aj ar
  obtain ⟨kc2,hk2,hI⟩:=hI1 eR
  clear hI0 hI1
  refine aX (fun hne=>?_) (fun he'=>?_)
  ·simp only [Bool.not_eq_true'] at hne
   rw [hne,if_neg (by decide)] at hrel
   rw [<- hrel]
   exact ⟨_,_,_,rfl,hI.pick [false,false,true],Ext.refl _ _ _,rfl,rfl,_,rfl,hk2⟩
  ·simp only [Bool.not_eq_false'] at he'
   rw [he',if_pos rfl] at hrel
   refine bC (by omega) ?_
   exact ⟨⟨j+1,r.2,kc2,hj1,rfl,hrel,hsn,hk2,hI⟩,by simp [intOf]; omega⟩
 ·have:j=ks.length:=by omega
  subst this
  rw [List.drop_length,hle,List.drop_length] at hrel
  rw [<- hrel]
  exact ⟨_,_,_,rfl,hI.pick [false,false,true],Ext.refl _ _ _,rfl,rfl,_,rfl,hkc'⟩
end

end Go.Proofs.YtemmhhdnlbmicaaGreat

/- Variables numbered anew: the plain form of both sides. -/
namespace Go.Proofs.YtemmhhdnlbmicaaGreat
open Go Go.RowKit

end Go.Proofs.YtemmhhdnlbmicaaGreat

/- Unification: the plain form. Lists of bindings, what a variable reaches, unifiers, resolved terms. -/
namespace Go.Proofs.YtemmhhdnlbmicaaGreat
open Go Go.RowKit
/- terms whose variables are bare and below a number -/
mutual
def okU (N:Nat):T->Prop
 | .mk k n s ks=>k≠0/\(k=1->0<=n/\n<N/\s=emptyB/\ks=[])/\DF N ks/\s.size<=6
def DF (N:Nat):List T->Prop
 | []=>True
 | t::ts=>okU N t/\DF N ts
end
mutual
def vT:T->List Nat
 | .mk k n _ ks=>if k=1 then [n.toNat] else vTL ks
def vTL:List T->List Nat
 | []=>[]
 | t::ts=>vT t++vTL ts
end
theorem Ay {N:Nat}:∀ {ts:List T},DF N ts->∀ t∈ts,okU N t
 | t::ts,h,x,hx=>by
  rw [DF] at h
  rcases List.mem_cons.1 hx with rfl|hx
  ·exact h.1
  ·exact Ay h.2 x hx
theorem okU.kids {N:Nat} {t:T} (h:okU N t):DF N t.kids:=by cases t; rw [okU] at h; exact h.2.2.1
theorem okU.var {N:Nat} {t:T} (h:okU N t) (hk:t.kind=1):0<=t.n/\t.n<N/\t.name=emptyB/\t.kids=[]:=by cases t; rw [okU] at h; exact h.2.1 hk
theorem okU.kind {N:Nat} {t:T} (h:okU N t):t.kind≠0:=by cases t; rw [okU] at h; exact h.1
/- what a term is bound to -/
def xk (st:bg) (t:T):Option T:=if t.kind=1 then (st[t.n.toNat]?).join else none
theorem Dc {st:bg} {t u:T}:xk st t=some u↔t.kind=1/\st[t.n.toNat]?=some (some u):=by
 unfold xk
 split
 ·rename_i h
  simp only [Option.join_eq_some_iff]
  exact ⟨fun e=>⟨h,e⟩,fun e=>e.2⟩
 ·rename_i h
  simp [h]
theorem Dx {st:bg} {t:T}:xk st t=none↔(t.kind=1->st[t.n.toNat]?=none ∨ st[t.n.toNat]?=some none):=by
 unfold xk
 split
 ·rename_i h
  rw [Option.join_eq_none_iff]
  constructor
  ·intro e _
   rcases e with e|e
   ·exact .inl e
   ·exact .inr e
  ·intro e
   rcases e h with e|e
   ·exact .inl e
   ·exact .inr e
 ·rename_i h
  simp [h]
inductive fx (st:bg):T->T->Prop
 | stop {t:T}:xk st t=none->fx st t t
 | step {t u v:T}:xk st t=some u->fx st u v->fx st t v
inductive Rch (st:bg):Nat->Nat->Prop
 | refl (m:Nat):Rch st m m
 | step {m k n:Nat} {u:T}:st[m]?=some (some u)->k∈vT u->Rch st k n->Rch st m n
theorem Rch.trans {st:bg} {a b c:Nat} (h:Rch st a b) (h':Rch st b c):Rch st a c:=by
 induction h with
 | refl=>exact h'
 | step h1 h2 _ ih=>exact .step h1 h2 (ih h')
def yB (st:bg) (n:Nat) (t:T):Prop:=∃ m∈vT t,Rch st m n
structure Good (N:Nat) (st:bg):Prop where
 len:st.length=N
 ok:∀ t,some t∈st->okU N t
 w:∀ t,some t∈st->wT t<=1048576
 rk:∃ r:Nat->Nat,∀ (n:Nat) (u:T),st[n]?=some (some u)->∀ m∈vT u,r m<r n
theorem Good.look_ok {N:Nat} {st:bg} (h:Good N st) {t u:T} (hl:xk st t=some u):okU N u/\wT u<=1048576:=by
 have:=List.mem_of_getElem? (Dc.1 hl).2
 exact ⟨h.ok u this,h.w u this⟩
theorem iC {N:Nat} {st:bg} {t v:T} (h:Good N st) (hw:fx st t v) (ht:okU N t/\wT t<=1048576):okU N v/\wT v<=1048576:=by
 induction hw with
 | stop=>exact ht
 | step hl _ ih=>exact ih (h.look_ok hl)
theorem wm {st:bg} {t v:T} (hw:fx st t v):xk st v=none:=by
 induction hw with
 | stop h=>exact h
 | step _ _ ih=>exact ih
/- what a walk leaves open -/
/- bindings that are left -/
def unb:bg->Nat
 | []=>0
 | none::st=>unb st+1
 | some _::st=>unb st
theorem xD:∀ (st:bg) (n:Nat) (t:T),st[n]?=some none->unb (st.set n (some t))+1=unb st
 | [],n,t,h=>by simp at h
 | x::st,0,t,h=>by
  simp only [List.getElem?_cons_zero,Option.some.injEq] at h
  subst h
  rfl
 | x::st,n+1,t,h=>by
  have h':st[n]?=some none:=by simpa using h
  have:=xD st n t h'
  cases x <;> simp only [List.set_cons_succ,unb] <;> omega
open Classical in
theorem Good.set {N:Nat} {st:bg} (h:Good N st) {n:Nat} {t:T} (hn:st[n]?=some none) (ht:okU N t) (hw:wT t<=1048576) (ho:¬ yB st n t):Good N (st.set n (some t)):=by
 have hnl:n<st.length:=(List.getElem?_eq_some_iff.1 hn).1
 refine ⟨by rw [List.length_set]; exact h.len,fun u hu=>?_,fun u hu=>?_,?_⟩
 ·rcases List.mem_or_eq_of_mem_set hu with hu|hu
  ·exact h.ok u hu
  ·rw [Option.some.injEq] at hu
   rw [hu]; exact ht
 ·rcases List.mem_or_eq_of_mem_set hu with hu|hu
  ·exact h.w u hu
  ·rw [Option.some.injEq] at hu
   rw [hu]; exact hw
 ·obtain ⟨r,hr⟩:=h.rk
  have hM:∀ l:List Nat,∃ M,∀ m∈l,r m<=M:=by
   intro l
   induction l with
   | nil=>exact ⟨0,by simp⟩
   | cons x l ih=>
    obtain ⟨M,hM⟩:=ih
    refine ⟨M+r x,fun m hm=>?_⟩
    rcases List.mem_cons.1 hm with rfl|hm
    ·omega
    ·have:=hM m hm; omega
  obtain ⟨M,hM⟩:=hM (vT t)
  refine ⟨fun m=>if Rch st m n then r m+M+1 else r m,fun k u hku m hm=>?_⟩
  by_cases hkn:n=k
  ·subst hkn
   rw [List.getElem?_set_self hnl,Option.some.injEq,Option.some.injEq] at hku
   subst hku
   have h1:¬ Rch st m n:=fun e=>ho ⟨m,hm,e⟩
   have h2:=hM m hm
   simp only [if_neg h1,if_pos (Rch.refl (st:=st) n)]
   omega
  ·rw [List.getElem?_set_ne hkn] at hku
   have h1:=hr k u hku m hm
   by_cases hmn:Rch st m n
   ·have h2:Rch st k n:=.step hku hm hmn
    simp only [if_pos hmn,if_pos h2]
    omega
   ·simp only [if_neg hmn]
    split <;> omega
/- unification -/
inductive Job where
 | one (a b:T)
 | list (xs ys:List T)
inductive Uni:bg->Job->Bool->bg->Prop
 | same {st:bg} {a b a' b':T}:fx st a a'->fx st b b'->a'.kind=1->b'.kind=1->a'.n=b'.n->Uni st (.one a b) true st
 | bindA {st:bg} {a b a' b':T}:fx st a a'->fx st b b'->a'.kind=1->¬ (b'.kind=1/\a'.n=b'.n)->¬ yB st a'.n.toNat b'->Uni st (.one a b) true (st.set a'.n.toNat (some b'))
 | occA {st:bg} {a b a' b':T}:fx st a a'->fx st b b'->a'.kind=1->¬ (b'.kind=1/\a'.n=b'.n)->yB st a'.n.toNat b'->Uni st (.one a b) false st
 | bindB {st:bg} {a b a' b':T}:fx st a a'->fx st b b'->a'.kind≠1->b'.kind=1->¬ yB st b'.n.toNat a'->Uni st (.one a b) true (st.set b'.n.toNat (some a'))
 | occB {st:bg} {a b a' b':T}:fx st a a'->fx st b b'->a'.kind≠1->b'.kind=1->yB st b'.n.toNat a'->Uni st (.one a b) false st
 | clash {st:bg} {a b a' b':T}:fx st a a'->fx st b b'->a'.kind≠1->b'.kind≠1->iz a' b'=false->Uni st (.one a b) false st
 | kids {st st':bg} {a b a' b':T} {r:Bool}:fx st a a'->fx st b b'->a'.kind≠1->b'.kind≠1->iz a' b'=true->Uni st (.list a'.kids b'.kids) r st'->Uni st (.one a b) r st'
 | nil {st:bg}:Uni st (.list [] []) true st
 | stop {st st':bg} {a b:T} {xs ys:List T}:Uni st (.one a b) false st'->Uni st (.list (a::xs) (b::ys)) false st'
 | go {st st1 st':bg} {a b:T} {xs ys:List T} {r:Bool}:Uni st (.one a b) true st1->Uni st1 (.list xs ys) r st'->Uni st (.list (a::xs) (b::ys)) r st'
def okJ (N:Nat):Job->Prop
 | .one a b=>(okU N a/\wT a<=1048576)/\(okU N b/\wT b<=1048576)
 | .list xs ys=>(∀ a∈xs,okU N a/\wT a<=1048576)/\(∀ b∈ys,okU N b/\wT b<=1048576)/\xs.length=ys.length
theorem sL {N:Nat} {t:T} (h:okU N t/\wT t<=1048576):∀ x∈t.kids,okU N x/\wT x<=1048576:=by
 intro x hx
 refine ⟨Ay h.1.kids x hx,?_⟩
 have h1:=i0 hx
 have h2:=h.2
 cases t
 rw [wT] at h2
 simp only [T.kids] at h1
 omega
theorem zu {a b:T} (h:iz a b=true):a.kids.length=b.kids.length:=by
 rw [iz] at h
 simp only [Bool.and_eq_true,decide_eq_true_eq] at h
 exact h.2.2.2
theorem y7 {N:Nat} {st:bg} (h:Good N st) {a:T} (hk:a.kind=1) (hl:xk st a=none) (ho:okU N a):st[a.n.toNat]?=some none:=by
 obtain ⟨h0,h1,_⟩:=ho.var hk
 rcases Dx.1 hl hk with e|e
 ·have:=List.getElem?_eq_none_iff.1 e
  have:=h.len
  omega
 ·exact e
theorem Uni.good {N:Nat} {st st':bg} {j:Job} {r:Bool} (hu:Uni st j r st'):Good N st->okJ N j->Good N st'/\(st'=st ∨ unb st'<unb st):=by
 induction hu with
 | same=>exact fun h _=>⟨h,.inl rfl⟩
 | occA=>exact fun h _=>⟨h,.inl rfl⟩
 | occB=>exact fun h _=>⟨h,.inl rfl⟩
 | clash=>exact fun h _=>⟨h,.inl rfl⟩
 | nil=>exact fun h _=>⟨h,.inl rfl⟩
 | bindA ha hb hk hns ho=>
  rename_i a' b'
  intro h hj
  have h1:=iC h ha hj.1
  have h2:=iC h hb hj.2
  have hf:=y7 h hk (wm ha) h1.1
  have:=xD _ _ b' hf
  exact ⟨h.set hf h2.1 h2.2 ho,.inr (by omega)⟩
 | bindB ha hb hns hk ho=>
  rename_i a' b'
  intro h hj
  have h1:=iC h ha hj.1
  have h2:=iC h hb hj.2
  have hf:=y7 h hk (wm hb) h2.1
  have:=xD _ _ a' hf
  exact ⟨h.set hf h1.1 h1.2 ho,.inr (by omega)⟩
 | kids ha hb _ _ hd _ ih=>
  intro h hj
  exact ih h ⟨sL (iC h ha hj.1),sL (iC h hb hj.2),zu hd⟩
 | stop _ ih=>
  intro h hj
  exact ih h ⟨hj.1 _ (List.mem_cons_self ..),hj.2.1 _ (List.mem_cons_self ..)⟩
 | go _ _ ih1 ih2=>
  intro h hj
  obtain ⟨h1,h2⟩:=ih1 h ⟨hj.1 _ (List.mem_cons_self ..),hj.2.1 _ (List.mem_cons_self ..)⟩
  obtain ⟨h3,h4⟩:=ih2 h1 ⟨fun a ha=>hj.1 a (List.mem_cons_of_mem _ ha),fun b hb=>hj.2.1 b (List.mem_cons_of_mem _ hb),by have:=hj.2.2; simpa using this⟩
  refine ⟨h3,?_⟩
  rcases h2 with rfl|h2
  ·exact h4
  ·rcases h4 with rfl|h4
   ·exact .inr h2
   ·exact .inr (by omega)
/- resolved terms -/
end Go.Proofs.YtemmhhdnlbmicaaGreat

/- Terms drawn: literal lists, appends in any order, spec.l1Draw, l1Some, l1Mutate: what is drawn is readable and light. -/
namespace Go.Proofs.YtemmhhdnlbmicaaGreat
open Go Go.RowKit
theorem HR {b:Bool} {n:Nat} (h:b=decide (1<=n)) (h':b=false):n=0:=by
 rw [h',eq_comm,decide_eq_false_iff_not] at h; omega
theorem F4 {a b:Bool} {k n:Nat} (h:a=decide (k<=n)) (ha:a=true) (h':b=decide (k+1<=n)) (hb:b=false):n=k:=by
 rw [ha,eq_comm,decide_eq_true_iff] at h
 rw [hb,eq_comm,decide_eq_false_iff_not] at h'
 omega
theorem HW {b:Bool} {n m:Nat} (hl:n<=m) (h:b=decide (m<=n)) (hb:b=true):n=m:=by
 rw [hb,eq_comm,decide_eq_true_iff] at h; omega
theorem Hs {b l:Bool} {n m:Nat} (h:b=decide (m<=n)) (k:b=true->l=true) (hl:l=false):n<m:=by
 cases b
 ·rw [eq_comm,decide_eq_false_iff_not] at h; omega
 ·rw [k rfl] at hl; cases hl
def EV:List (Nat × Value)->List ByteArray
 | (_,.string s)::l=>s::EV l
 | _=>[]
def EC:List (Nat × Value)->List Int
 | (_,.int _ n)::l=>n::EC l
 | _=>[]
theorem DJ {α:Type} {f:α->Value} (l:List α) {i:Nat} (hi:i<l.length):bf (l.map f).toArray i 1=[f l[i]]:=by
 rw [bf,List.drop_eq_getElem_cons (by simpa using hi)]
 simp
theorem RdSl.monoU {S S':av} {v:Value} {ys:List Nat} (hs:Sle S S') (h:RdSl S 1 kF v ys):RdSl S' 1 kF v ys:=h.mono hs fun _ _ h=>h
theorem F9 {S:av} {b:Nat} {E:TypeId} {cs:List Value} {t:T} (hS:S b=some (.cells cs.toArray E)) (h:RdT S cs t):RdSl S 4 (RdT S) (.slice (some ⟨b,0,none⟩) 1 1) [t]:=by
 refine ⟨_,1,rfl,Nat.le_refl _,by simp [maxLen],.inr ⟨b,0,_,E,(0,0),rfl,hS,fun i hi=>?_⟩⟩
 match i,hi with
 | 0,_=>
  have e:bf cs.toArray (0+0 * 4) 4=cs:=by
   rw [bf]
   simpa using List.take_of_length_le (Nat.le_of_eq h.length)
  rw [e]
  exact h
section
variable {w0 w:World} {X:List Nat} {L A:List Item} {S:av} {K:Value->World->Prop}
attribute [local irreducible] Run CondV ag a4
theorem Inv.last (h:Inv w0 X L S w) (i:Nat) {it:Item} (hi:L[i]?=some it):Inv w0 X (L.eraseIdx i++[it]) S w:=by
 refine h.perm ?_
 obtain ⟨h1,_⟩:=ql hi it
 rw [List.eraseIdx_eq_take_drop_succ]
 conv=>rhs; rw [h1]
 rw [List.append_assoc]
 exact List.Perm.append_left _ List.perm_append_comm
theorem yH {n:Nat} {ps:List (Nat × Value)} (h:Inv w0 X L S w)
  (hr:(aW wM n ps).run Tryz.prog w=.ok (.value (.slice (some ⟨w.heap.size,0,none⟩) n n)) { w with heap:=w.heap.push (.cells ((EV ps).map Value.string).toArray gv) })
  (hn:(EV ps).length=n) (hm:n<=1000) (hk:∀ v S1 w',Ext w0.heap.size X S S1->RdSl S1 1 mC v (EV ps)->Inv w0 X L S1 w'->K v w'):Run Tryz.prog (aW wM n ps) w K:=by
 refine qi (v:=fun b=>.slice (some ⟨b,0,none⟩) n n) (o:=.cells ((EV ps).map Value.string).toArray gv) h hr fun b w' hI=>?_
 obtain ⟨S1,hI,hE,hS⟩:=hI.pub1
 refine hk _ S1 w' hE ?_ hI
 exact RdSl.ofCells hS hn (by simp only [maxLen]; omega) fun i hi=>DJ _ hi
theorem EA {n:Nat} {ps:List (Nat × Value)} (h:Inv w0 X L S w)
  (hr:(aW DI n ps).run Tryz.prog w=.ok (.value (.slice (some ⟨w.heap.size,0,none⟩) n n)) { w with heap:=w.heap.push (.cells ((EC ps).map (Value.int .i64)).toArray ir) })
  (hn:(EC ps).length=n) (hm:n<=1000) (hk:∀ v S1 w',Ext w0.heap.size X S S1->RdSl S1 1 CR v (EC ps)->Inv w0 X L S1 w'->K v w'):Run Tryz.prog (aW DI n ps) w K:=by
 refine qi (v:=fun b=>.slice (some ⟨b,0,none⟩) n n) (o:=.cells ((EC ps).map (Value.int .i64)).toArray ir) h hr fun b w' hI=>?_
 obtain ⟨S1,hI,hE,hS⟩:=hI.pub1
 refine hk _ S1 w' hE ?_ hI
 exact RdSl.ofCells hS hn (by simp only [maxLen]; omega) fun i hi=>DJ _ hi
def x1 (Q:Prop) (R:Nat->Prop):Nat->Prop
 | 0=>Q
 | n+1=>R n
/- one value drawn by a call, put behind a row: the stages -/
def yd (w0:World) (X:List Nat) (b:Nat) (c:Array Value) (d:Nat) (E:TypeId) (kv:Value) (css:List (List Value)) (A:Nat->List Item) (Q:List Value->Nat->av->Prop) (xv xs xa:Value) (w':World):Nat->Prop
 | 0=>∃ p1 S1 cs,Q cs p1 S1/\(cs.length=4/\∀ u∈cs,u.oneCell'=true)/\xv=.agg cs.toArray/\Inv w0 X (.blk b (.cells c E)::bq kv ad 4 css::A p1) S1 w'
 | 1=>∃ p1 S1 cs b8,Q cs p1 S1/\(cs.length=4/\∀ u∈cs,u.oneCell'=true)/\xs=.slice (some ⟨b8,0,none⟩) 1 1/\Inv w0 X (.blk b (.cells c E)::bq kv ad 4 css::(A p1++[.blk b8 (.cells cs.toArray ad)])) S1 w'
 | 2=>∃ p1 S1 cs,Q cs p1 S1/\(cs.length=4/\∀ u∈cs,u.oneCell'=true)/\Inv w0 X (.blk b (.cells c E)::bq xa ad 4 (css++[cs])::A p1) S1 w'
 | 3=>∃ p1 S1 cs,Q cs p1 S1/\(cs.length=4/\∀ u∈cs,u.oneCell'=true)/\Inv w0 X (.blk b (.cells (c.setIfInBounds d xa) E)::bq xa ad 4 (css++[cs])::A p1) S1 w'
 | _=>False
variable {b d:Nat} {c:Array Value} {E:TypeId} {kv:Value} {css:List (List Value)} {F:Nat->List Item} {Q:List Value->Nat->av->Prop} {xv xs xa:Value}
theorem Gb {n:Nat} (h:yd w0 X b c d E kv css F Q xv xs xa w n) (hn:n<3):w.cell? ⟨b,d,none⟩=c[d]?:=by
 rcases n with _|_|_|n
 ·obtain ⟨p1,S1,cs,_,_,_,hI⟩:=h
  exact hI.cellL (i:=0) rfl
 ·obtain ⟨p1,S1,cs,b8,_,_,_,hI⟩:=h
  exact hI.cellL (i:=0) rfl
 ·obtain ⟨p1,S1,cs,_,_,hI⟩:=h
  exact hI.cellL (i:=0) rfl
 ·omega
theorem ap1 {B:Prop} (h:x1 B (yd w0 X b c d E kv css F Q xv xs xa w) 1) (hk:∀ u w',x1 B (yd w0 X b c d E kv css F Q xv u xa w') 2->K u w'):Run Tryz.prog (aW dc 1 [(0,xv)]) w K:=by
 obtain ⟨p1,S1,cs,hQ,hl,rfl,hI⟩:=h
 refine fq hI bn (by simp [Value.cells,hl.1]) (by omega) (by omega) fun b8 w' hI=>?_
 exact hk _ _ ⟨p1,S1,cs,b8,hQ,hl,rfl,hI⟩
theorem ap2 {B:Prop} {ty:TypeId} {bs:List Bool} (h:x1 B (yd w0 X b c d E kv css F Q xv xs xa w) 2) (hfit:css.length<=1000000) (hk:∀ u w',x1 B (yd w0 X b c d E kv css F Q xv xs u w') 3->K u w'):Run Tryz.prog (aq .append #[dc,dc] ty bs [kv,xs]) w K:=by
 obtain ⟨p1,S1,cs,b8,hQ,hl,rfl,hI⟩:=h
 have hblk:(Item.blk b (.cells c E)::bq kv ad 4 css::(F p1++[.blk b8 (.cells cs.toArray ad)]))[(F p1).length+1+1]?=some (.blk b8 (.cells cs.toArray ad)):=by
  rw [List.getElem?_cons_succ,List.getElem?_cons_succ,List.getElem?_append_right (Nat.le_refl _),Nat.sub_self]; rfl
 refine fX hI 1 cs bn (by omega) rfl (by rw [hl.1]) (m:=1) (o:=0) ?_ hl.2 (by omega) (by omega) fun v' w_ hI=>?_
 ·intro i u hi
  rw [hI.cellL hblk,Nat.zero_add]
  simpa using hi
 rw [gd] at hI
 refine hk _ _ ⟨p1,S1,cs,hQ,hl,?_⟩
 exact hI.sub (((List.sublist_append_left _ _).cons_cons _).cons_cons _)
theorem ap3 {B:Prop} {ty:TypeId} (h:x1 B (yd w0 X b c d E kv css F Q xv xs xa w) 3) (hd:d<c.size) {K:Value->World->Prop} (hk:∀ w',x1 B (yd w0 X b c d E kv css F Q xv xs xa w') 4->K undef w'):Run Tryz.prog (sOp (.store dc (.const (.pointer (some ⟨b,d,none⟩))) (.const xa)) ty) w K:=by
 obtain ⟨p1,S1,cs,hQ,hl,hI⟩:=h
 obtain ⟨va,vn,vc,hv9⟩:=Inv.rowSlice hI 1 rfl
 refine fW hI 0 (n:=1) (by rw [hv9]; rfl) (by decide +kernel) rfl (by omega) (by rw [hv9]; simp [Value.cells,Value.oneCell']) fun w_ hI=>?_
 have hcl9:Value.cells xa=#[xa]:=by rw [hv9]; rfl
 have e:cc c d (Value.cells xa).toList=c.setIfInBounds d xa:=by
  rw [hcl9]
  apply Array.toList_inj.1
  simp only [cc,Array.toList_setIfInBounds]
  have hl:d<c.toList.length:=by simpa using hd
  rw [List.set_eq_take_append_cons_drop,if_pos hl]
  simp
 rw [e] at hI
 exact hk _ ⟨p1,S1,cs,hQ,hl,hI⟩
end
/- how much a drawn term weighs, and how far the reader has gone -/
end Go.Proofs.YtemmhhdnlbmicaaGreat

/- spec.l1Draw, l1Some: a drawn term is readable and light. -/
namespace Go.Proofs.YtemmhhdnlbmicaaGreat
open Go Go.RowKit
theorem CS {l:List Int} {n a b:Int} (hm:n∈l) (h:(l.all fun n=>decide (a<=n) && decide (n<=b))=true):a<=n/\n<=b:=by
 rw [List.all_eq_true] at h
 have:=h n hm
 rw [Bool.and_eq_true,decide_eq_true_eq,decide_eq_true_eq] at this
 exact this
theorem FI {l:List ByteArray} {s:ByteArray} {m:Nat} (hm:s∈l) (h:(l.all fun s=>decide (s.size<=m))=true):s.size<=m:=by
 rw [List.all_eq_true] at h
 have:=h s hm
 rwa [decide_eq_true_eq] at this
theorem Gx {Q B:Prop} {R:Nat->Prop} (h1:Q->B) (h2:∀ n,n<3->R n->B):∀ {n:Nat},x1 Q R n->n<4->B
 | 0,h,_=>h1 h
 | n+1,h,hn=>h2 n (by omega) h
theorem wV:∀ l m:List T,wL (l++m)=wL l+wL m
 | [],m=>by simp [wL]
 | t::l,m=>by simp only [List.cons_append,wL,wV l m]; omega
theorem AO {S:av} {k n:Int} (hk:inI k) (hn:inI n):RdT S [.int .i64 k,.int .i64 n,.string ⟨#[]⟩,.slice none 0 0] (.mk k n emptyB []):=
 RdT.iff.2 ⟨_,rfl,hk,hn,Nat.zero_le _,py S⟩
section
variable {w0 w:World} {X:List Nat} {L:List Item} {S:av} {K:Value->World->Prop} {P:Program}
attribute [local irreducible] Run CondV ag a4
theorem Run.callL {f:FuncId} {fn:Func} {args:List Value} {I:List Item} {Post:Value->List Item->av->Prop}
  (hf:P.funcs[f]?=some fn) (hn:(fn.name == "runtime.NumGoroutine" || fn.body.isNone)=false) (h:Inv w0 X L S w) (hc:Tri P f args I S Post) (hL:L=L.dropLast++I)
  (hk:∀ v I' S' w',Post v I' S'->Ext w0.heap.size X S S'->Inv w0 X (L.dropLast++I') S' w'->K v w'):Run P (aH (.func (.func f) #[] #[]) args) w K:=
 Run.callE (A:=L.dropLast) hf hn (hL ▸ h) hc hk
theorem Gf {B:Prop} {b d:Nat} {c:Array Value} {E:TypeId} {kv xs xa:Value} {css:List (List Value)} {F:Nat->List Item} {Q:List Value->Nat->av->Prop} {p1:Nat} {S1:av} {cs:List Value} {t:T}
  (hQ:Q cs p1 S1) (hr:RdT S1 cs t) (hI:Inv w0 X (.blk b (.cells c E)::bq kv ad 4 css::F p1) S1 w):x1 B (yd w0 X b c d E kv css F Q (.agg cs.toArray) xs xa w) 1:=
 ⟨p1,S1,cs,hQ,⟨hr.length,hr.one⟩,rfl,hI⟩
end
section
variable {br:Nat} {sl:Value} {ys:List Nat}
attribute [local irreducible] Run CondV ag a4
abbrev Gj (br:Nat) (sl:Value) (p k m:Nat):Value->List Item->av->Prop:=fun v I' S'=>∃ p',p'<=p+k/\I'=[rdI br sl p']/\∃ cs t,v=.agg cs.toArray/\RdT S' cs t/\wT t<=m
end
end Go.Proofs.YtemmhhdnlbmicaaGreat

/- spec.l1Mutate. -/
namespace Go.Proofs.YtemmhhdnlbmicaaGreat
open Go Go.RowKit
def zi (w:World) (b o:Nat):Nat:=match w.cell? ⟨b,o,none⟩ with
 | some (.slice _ n _)=>n
 | _=>0
section
variable {w0 w:World} {X:List Nat} {L A:List Item} {S:av} {K:Value->World->Prop} {P:Program}
attribute [local irreducible] Run CondV ag a4
theorem zz (h:Inv w0 X L S w) {i b o:Nat} {c:Array Value} {E:TypeId} {a:Option Addr} {n m:Nat} (hi:L[i]?=some (.blk b (.cells c E))) (hc:c[o]?=some (.slice a n m)):zi w b o=n:=by
 rw [zi,h.cellL hi,hc]
theorem oL {b:Nat} {k n:Int} {s:ByteArray} {kv:Value} {css:List (List Value)} {ks:List T} {o:Obj}
  (hI:Inv w0 X (.blk b o::bq kv ad 4 css::A) S w) (hR:Rows 4 (RdT S) css ks) (hk:inI k) (hn:inI n) (hs:s.size<=maxLen) :
  ∃ S',Ext w0.heap.size X S S'/\Inv w0 X (.blk b o::A) S' w/\RdT S' [.int .i64 k,.int .i64 n,.string s,kv] (.mk k n s ks)/\RdSl S' 4 (RdT S') kv ks:=by
 have hI:Inv w0 X ((.blk b o::A)++[bq kv ad 4 css]) S w:=hI.last 1 rfl
 obtain ⟨S',hE,hrd,hI⟩:=Inv.lendExt hI
 have hrs:=RowRd.rows (hR.monoR fun _ _ h=>RdT.mono hE.1 h) hrd
 exact ⟨S',hE,hI,RdT.iff.2 ⟨_,rfl,hk,hn,hs,hrs⟩,hrs⟩
end
section
variable {br:Nat} {sl:Value} {ys:List Nat}
attribute [local irreducible] Run CondV ag a4
theorem uI {p:Nat} {S:av} {cs:List Value} {t:T} (hrd:RdSl S 1 kF sl ys) (h:RdT S cs t) (hw:wT t<=100000) (hp:p<=100000000) :
  Tri Tryz.prog yv [rdP br,.agg cs.toArray] [rdI br sl p] S (Gj br sl p 2 (wT t+100)):=by
 intro w hI
 have h0:=h
 obtain ⟨kv0,rfl,hk,hn,hs,hks⟩:=RdT.iff.1 h
 refine pY ?_
 unfold mT
 refine ca hI fun b3 w' hI=>?_
 refine bw hI bu fun b4 w' hI=>?_
 refine a8 hI 1 ai rfl rfl ?_
 refine Run.call0E er eG hI (Do t S _ h0 (by omega)) fun v' I' S1 w'=>?_
 rintro ⟨kv,css,rfl,rfl,hR⟩ hE1 hI
 have hE1:Ext w.heap.size [br] S S1:=hE1
 obtain ⟨a0,n0,q0,rfl⟩:=hI.rowSlice 3 rfl
 refine bw hI bu fun b5 w' hI=>?_
 refine bd hI 4 rfl ai rfl rfl (by simp [Value.oneCell']) fun w' hI=>?_
 obtain ⟨B4,hB4⟩:∃ B4,B4=Item.blk b4 (.cells #[.int .i64 0,.int .i64 0,.string ⟨#[]⟩,.slice none 0 0] ad):=⟨_,rfl⟩
 obtain ⟨k,hk'⟩:∃ k,k=t.kind:=⟨_,rfl⟩
 obtain ⟨n,hn'⟩:∃ n,n=t.n:=⟨_,rfl⟩
 obtain ⟨s,hs'⟩:∃ s,s=t.name:=⟨_,rfl⟩
 have hwt:wT t=s.size+t.kids.length+wL t.kids:=by rw [hs']; cases t; rw [wT]; rfl
 rw [<- hk',<- hn',<- hs'] at hI
 rw [<- hk'] at hk
 rw [<- hn'] at hn
 rw [<- hs'] at hs
 have hI:Inv w [br] [.blk b5 (.cells #[.int .i64 k,.int .i64 n,.string s,.slice a0 n0 q0] ad),bq (.slice a0 n0 q0) ad 4 css,B4,rdI br sl p] S1 w':=by
  rw [hB4]
  exact (((hI.pick [true,false,true,true,true]).last 2 rfl).last 1 rfl).last 0 rfl
 refine ⟨fun w'=>∃ (p1:Nat) (S2:av) (cs1:List Value) (t1:T),p1<=p+2/\Ext w.heap.size [br] S S2/\RdT S2 cs1 t1/\wT t1<=wT t+100/\Inv w [br] [.blk b5 (.cells cs1.toArray ad),B4,rdI br sl p1] S2 w',?_,?_⟩
 ·have hfin:∀ {k n:Int} {s1:ByteArray} {p1:Nat} {w':World} {S1:av} {css:List (List Value)} {kv:Value} {ks:List T},Ext w.heap.size [br] S S1->p1<=p+2->inI k->inI n->s1.size<=s.size+7->Rows 4 (RdT S1) css ks->ks.length<=t.kids.length+5->wL ks<=wL t.kids->
    Inv w [br] [.blk b5 (.cells #[.int .i64 k,.int .i64 n,.string s1,kv] ad),bq kv ad 4 css,B4,rdI br sl p1] S1 w'->
    ∃ (p1:Nat) (S2:av) (cs1:List Value) (t1:T),p1<=p+2/\Ext w.heap.size [br] S S2/\RdT S2 cs1 t1/\wT t1<=wT t+100/\Inv w [br] [.blk b5 (.cells cs1.toArray ad),B4,rdI br sl p1] S2 w':=by
   intro k n s1 p1 w' S1 css kv ks hE hp1 hk hn hs1 hR hkl hkw hI
   obtain ⟨S2,hE2,hI,hr,_⟩:=oL (s:=s1) hI hR hk hn (by simp only [maxLen]; omega)
   exact ⟨p1,S2,_,_,hp1,hE.trans hE2,hr,by rw [wT,hwt]; omega,hI⟩
  refine Run.callL dD dB hI (fH (n:=50) (hrd.monoU hE1.1) (by omega) (by omega)) rfl fun v' I' S1 w'=>?_
  rintro ⟨rfl,rfl,kk,hkk,rfl⟩ _ hI
  refine cw ?_
  refine bp (fun _=>?_) (fun _=>?_)
  ·refine EA hI (by kernel_rfl) rfl (by omega) fun v S3 w' hE3 hv hI=>?_
   refine Run.callL l6 ll hI (wU (p:=p+1) (hrd.monoU (hE1.trans hE3).1) hv (by decide) (by omega)) rfl fun v' I' S3 w'=>?_
   rintro ⟨rfl,rfl,m,hm,rfl⟩ _ hI
   have hm:=CS (a:=-1000) (b:=1000) hm (by decide)
   refine jy hI 0 rfl bt bj rfl rfl rfl fun w' hI=>?_
   exact hfin (hE1.trans hE3) (Nat.le_refl _) (by simp only [inI]; omega) hn (by omega) (hR.monoR fun _ _ h=>RdT.mono hE3.1 h) (by omega) (Nat.le_refl _) hI
  refine cw ?_
  refine bp (fun _=>?_) (fun _=>?_)
  ·refine EA hI (by kernel_rfl) rfl (by omega) fun v S3 w' hE3 hv hI=>?_
   refine Run.callL l6 ll hI (wU (p:=p+1) (hrd.monoU (hE1.trans hE3).1) hv (by decide) (by omega)) rfl fun v' I' S3 w'=>?_
   rintro ⟨rfl,rfl,m,hm,rfl⟩ _ hI
   have hm:=CS (a:=-1000) (b:=1000) hm (by decide)
   refine jy hI 0 rfl bv bj rfl rfl rfl fun w' hI=>?_
   exact hfin (hE1.trans hE3) (Nat.le_refl _) hk (by simp only [inI]; omega) (by omega) (hR.monoR fun _ _ h=>RdT.mono hE3.1 h) (by omega) (Nat.le_refl _) hI
  refine cw ?_
  refine bp (fun _=>?_) (fun _=>?_)
  ·refine yH hI (by kernel_rfl) rfl (by omega) fun v S3 w' hE3 hv hI=>?_
   refine Run.callL uZ vY hI (D7 (p:=p+1) (hrd.monoU (hE1.trans hE3).1) hv (by decide) (by omega)) rfl fun v' I' S3 w'=>?_
   rintro ⟨rfl,rfl,m,hm,rfl⟩ _ hI
   have hm:=FI (m:=7) hm (by decide)
   refine jy hI 0 rfl bk bi rfl rfl rfl fun w' hI=>?_
   exact hfin (hE1.trans hE3) (Nat.le_refl _) hk hn (by omega) (hR.monoR fun _ _ h=>RdT.mono hE3.1 h) (by omega) (Nat.le_refl _) hI
  refine cw ?_
  refine bp (fun _=>?_) (fun _=>?_)
  ·refine ⟨fun w'=>∃ (S2:av) (kv:Value) (css:List (List Value)) (ks:List T),Ext w.heap.size [br] S S2/\Rows 4 (RdT S2) css ks/\ks.length<=t.kids.length+5/\wL ks<=wL t.kids/\
     Inv w [br] [.blk b5 (.cells #[.int .i64 k,.int .i64 n,.string s,kv] ad),bq kv ad 4 css,B4,rdI br sl (p+1)] S2 w',fun w'=>5 - zi w' b5 3,⟨S1,_,css,t.kids,hE1,hR,by omega,Nat.le_refl _,hI⟩,?_⟩
   intro t40 t39 t38 t37 t36 t35 _ _ _ _ w'
   rintro ⟨S2,kv,css,ks,hE2,hR,hkl,hkw,hI⟩
   obtain ⟨a1,n1,q1,rfl,hn1⟩:∃ a m c,kv=.slice a m c/\m=ks.length:=by
    obtain ⟨S',_,_,_,hr⟩:=oL hI hR hk hn hs
    obtain ⟨a,q,rfl,_⟩:=hr
    exact ⟨a,_,q,rfl,rfl⟩
   subst hn1
   have hl1:=zz hI (i:=0) (o:=3) rfl rfl
   have hcl:=hR.hc
   refine az hI 0 rfl aT aS rfl ?_
   refine fu ay ?_
   refine fI ?_
   refine bp (fun hle=>?_) (fun hle=>?_)
   ·have hI:=hI
    refine ⟨fun D gu fF eP fC d4 d5 w_=>(D 0=true->d5=.pointer (some ⟨b5,3,none⟩))/\(D 1=true->d4=.slice a1 ks.length q1)/\(D 2=true->True)/\(D 3=true->True)/\(D 4=true->True)/\(D 5=true->gu=.pointer (some ⟨b5,3,none⟩))/\(D 6=true->True)/\∃ n_:Nat,n_<=4/\D 2=decide (1<=n_)/\D 3=decide (2<=n_)/\D 4=decide (3<=n_)/\D 6=decide (4<=n_)/\(D 6=true->D 1=true)/\(x1 (Inv w [br] [.blk b5 (.cells #[.int .i64 k,.int .i64 n,.string s,.slice a1 ks.length q1] ad),bq (.slice a1 ks.length q1) ad 4 css,B4,rdI br sl (p+1)] S2 w_) (yd w [br] b5 #[.int .i64 k,.int .i64 n,.string s,.slice a1 ks.length q1] 3 ad (.slice a1 ks.length q1) css (fun p=>[B4,rdI br sl (p+1)]) (fun cs p' S'=>p'=p/\S'=S2/\RdT S2 cs (.mk 2 1 emptyB [])) fC eP fF w_) n_),⟨ae,ae,ae,ae,ae,ae,ae,⟨0,Nat.zero_le _,rfl,rfl,rfl,rfl,(ae),hI.draw⟩⟩,⟨?_,?_,?_,?_,?_,?_,?_,trivial⟩,?_⟩
    ·intro D a6  gu fF eP fC d4 d5 w_
     rintro ⟨aB,aC,aA,aD,ax,aF,aE,⟨n_,ln_,e1_,e2_,e3_,e4_,kp_,hS⟩⟩
     refine bo aT ?_
     exact ⟨fun _=>rfl,aC,aA,aD,ax,aF,aE,⟨n_,ln_,e1_,e2_,e3_,e4_,kp_,hS⟩⟩
    ·intro D a6 cV gu fF eP fC d4 d5 w_
     rintro ⟨aB,aC,aA,aD,ax,aF,aE,⟨n_,ln_,e1_,e2_,e3_,e4_,kp_,hS⟩⟩
     obtain rfl:=aB cV
     have ln2_:=Hs e4_ kp_ a6
     refine eo aS ((Gx (fun h=>h.cellL (i:=0) rfl) (fun n hn h=>Gb h hn) hS ln2_).trans rfl) ?_
     exact ⟨aB,fun _=>rfl,aA,aD,ax,aF,aE,⟨n_,ln_,e1_,e2_,e3_,e4_,(fun _=>rfl),hS⟩⟩
    ·intro D a6  gu fF eP fC d4 d5 w_
     rintro ⟨aB,aC,aA,aD,ax,aF,aE,⟨n_,ln_,e1_,e2_,e3_,e4_,kp_,hS⟩⟩
     obtain rfl:n_=0:=HR e1_ a6
     refine Run.callPure tj tP (L:=[.blk b5 _,bq _ ad 4 css,B4,rdI br sl (p+1)]) hS (mJ 1 S2) fun w_ hI=>?_
     exact ⟨aB,aC,fun _=>by first|assumption|trivial,aD,ax,aF,aE,⟨1,by decide,rfl,(by first|exact e2_|rfl),(by first|exact e3_|rfl),(by first|exact e4_|rfl),kp_,Gf ⟨rfl,rfl,AO (by simp [inI]) (by simp [inI])⟩ (AO (by simp [inI]) (by simp [inI])) hI⟩⟩
    ·intro D a6 eL gu fF eP fC d4 d5 w_
     rintro ⟨aB,aC,aA,aD,ax,aF,aE,⟨n_,ln_,e1_,e2_,e3_,e4_,kp_,hS⟩⟩
     have Iw:=aA eL
     obtain rfl:n_=1:=F4 e1_ eL e2_ a6
     refine ap1 hS fun u w_ hS=>?_
     exact ⟨aB,aC,aA,fun _=>by first|assumption|trivial,ax,aF,aE,⟨2,by decide,(by first|exact e1_|rfl),rfl,(by first|exact e3_|rfl),(by first|exact e4_|rfl),kp_,hS⟩⟩
    ·intro D a6 d3 Bh sq gu fF eP fC d4 d5 w_
     rintro ⟨aB,aC,aA,aD,ax,aF,aE,⟨n_,ln_,e1_,e2_,e3_,e4_,kp_,hS⟩⟩
     obtain rfl:=aC d3
     have Ix:=aD Bh
     obtain rfl:n_=2:=F4 e2_ Bh e3_ a6
     refine ap2 hS (by omega) fun u w_ hS=>?_
     exact ⟨aB,aC,aA,aD,fun _=>by first|assumption|trivial,aF,aE,⟨3,by decide,(by first|exact e1_|rfl),(by first|exact e2_|rfl),rfl,(by first|exact e4_|rfl),kp_,hS⟩⟩
    ·intro D a6 cV gH sq FD FC gu fF eP fC d4 d5 w_
     rintro ⟨aB,aC,aA,aD,ax,aF,aE,⟨n_,ln_,e1_,e2_,e3_,e4_,kp_,hS⟩⟩
     refine bo aT ?_
     exact ⟨aB,aC,aA,aD,ax,fun _=>rfl,aE,⟨n_,ln_,e1_,e2_,e3_,e4_,kp_,hS⟩⟩
    ·intro D a6 ef dW me Fq yI Fh Dn C1 gu fF eP fC d4 d5 w_
     rintro ⟨aB,aC,aA,aD,ax,aF,aE,⟨n_,ln_,e1_,e2_,e3_,e4_,kp_,hS⟩⟩
     obtain rfl:=aF ef
     have Iz:=ax dW
     obtain rfl:n_=3:=F4 e3_ dW e4_ a6
     refine ap3 hS (by simp) fun w_ hS=>?_
     exact ⟨aB,aC,aA,aD,ax,aF,fun _=>trivial,⟨4,by decide,(by first|exact e1_|rfl),(by first|exact e2_|rfl),(by first|exact e3_|rfl),rfl,(fun _=>yI),hS⟩⟩
    intro D gp f1 fL fJ fP fN fO gu fF eP fC d4 d5 w_
    rintro ⟨aB,aC,aA,aD,ax,aF,aE,⟨n_,ln_,e1_,e2_,e3_,e4_,kp_,hS⟩⟩
    obtain rfl:n_=4:=HW ln_ e4_ gp
    clear e1_ e2_ e3_ e4_
    obtain ⟨p3,S7,cs,⟨rfl,rfl,hcs⟩,hl,hI⟩:=hS
    have hR2:=hR.snoc hcs hl.1
    refine ⟨⟨S7,_,_,_,hE2,hR2,by rw [List.length_append]; simp only [List.length_cons,List.length_nil]; omega,by rw [wV]; have e:emptyB.size=0:=rfl; simp only [wL,wT,List.length_nil,e]; omega,hI⟩,?_⟩
    obtain ⟨S',_,_,_,hr⟩:=oL hI hR2 hk hn hs
    obtain ⟨a,q,e,_⟩:=hr
    have hl2:=zz hI (i:=0) (o:=3) (a:=a) (n:=(ks++[T.mk 2 1 emptyB []]).length) (m:=q) rfl (by rw [<- e]; rfl)
    show 5 - zi w_ b5 3<5 - zi w' b5 3
    rw [hl1,hl2,List.length_append,List.length_cons,List.length_nil]
    omega
   ·exact hfin hE2 (by omega) hk hn (by omega) hR hkl hkw hI
  refine cw ?_
  refine bp (fun _=>?_) (fun _=>?_)
  ·obtain ⟨S2,hE2,hI,hr,_⟩:=oL hI hR hk hn hs
   have hI:Inv w [br] [.blk b5 (.cells #[.int .i64 k,.int .i64 n,.string s,.slice a0 n0 q0] ad),B4,rdI br sl (p+1)] S2 w':=hI
   have ht:T.mk k n s t.kids=t:=by rw [hk',hn',hs']; cases t; rfl
   rw [ht] at hr
   refine ⟨fun t6 w'=>∃ (j:Nat) (S3:av) (cs1:List Value) (t1:T),t6=.int .i64 (j:Int)/\j<=30/\Ext w.heap.size [br] S S3/\RdT S3 cs1 t1/\wT t1<=wT t+2 * j/\Inv w [br] [.blk b5 (.cells cs1.toArray ad),B4,rdI br sl (p+1)] S3 w',fun t6 _=>30 - (intOf t6).toNat,
    ⟨0,S2,_,t,rfl,by omega,hE1.trans hE2,hr,by omega,hI⟩,?_⟩
   intro t6 _ _ _ _ _ _ _ w'
   rintro ⟨j,S3,cs1,t1,rfl,hj,hE3,hr,hw1,hI⟩
   refine co ?_
   refine bp (fun hj'=>?_) (fun hj'=>?_)
   ·refine a8 hI 0 ai rfl (by simpa using hr.length) ?_
    refine fq hI bn (by simp [Value.cells,hr.length]) (by omega) (by omega) fun b8 w' hI=>?_
    obtain ⟨S4,hI,hE4,hS⟩:=hI.pub1
    refine Run.call0E eO eN hI (ff ⟨#[115]⟩ (by decide) (F9 hS (hr.mono hE4.1)) (by simp)) fun v' I' S5 w'=>?_
    rintro ⟨rfl,cs2,rfl,hcs2⟩ hE5 hI
    have hI:Inv w [br] [.blk b5 (.cells cs1.toArray ad),B4,rdI br sl (p+1)] S5 w':=by simpa using hI
    refine bd hI 0 rfl ai (by simpa using hcs2.length) (by simpa using hr.length) (by simpa using hcs2.one) fun w' hI=>?_
    refine bC (by omega) ?_
    have e:(ByteArray.mk #[115]).size=1:=rfl
    exact ⟨⟨j+1,S5,cs2,_,rfl,by omega,hE3.trans (hE4.trans hE5),hcs2,by simp only [wT,wL,List.length_cons,List.length_nil,e]; omega,hI⟩,by simp only [intOf,Int.toNat_natCast]; omega⟩
   ·exact ⟨p+1,S3,cs1,t1,by omega,hE3,hr,by omega,hI⟩
  ·exact hfin hE1 (by omega) hk hn (by omega) hR (by omega) (Nat.le_refl _) hI
 intro _ _ _ _ _ _ _ _ _ _ _ _ _ _ _ _ _ _ _ _ _ _ _ _ _ _ _ _ _ _ _ _ _ _ _ _ _ _ _ _ _ _ w'
 rintro ⟨p1,S2,cs1,t1,hp1,hE2,hr,hw1,hI⟩
 subst hB4
 refine a8 hI 0 ai rfl (by simpa using hr.length) ?_
 refine bd hI 1 rfl ai (by simpa using hr.length) rfl (by simpa using hr.one) fun w' hI=>?_
 refine cz hI 1 ai rfl (by simpa using hr.length) ?_
 exact ⟨_,_,S2,rfl,hI.pick [false,false,true],hE2,p1,hp1,rfl,cs1,t1,rfl,hr,hw1⟩
end
end Go.Proofs.YtemmhhdnlbmicaaGreat

/- spec.l4Mutate, l4MutateAll. -/
namespace Go.Proofs.YtemmhhdnlbmicaaGreat
open Go Go.RowKit
section
variable {w0 w:World} {X:List Nat} {L A:List Item} {S:av} {K:Value->World->Prop} {P:Program}
end
section
variable {br:Nat} {sl:Value} {ys:List Nat}
attribute [local irreducible] Run CondV ag a4
end
end Go.Proofs.YtemmhhdnlbmicaaGreat

/- spec.l4MutateAll, l4Texts, l4Program, l4Clause, l14Two. -/
namespace Go.Proofs.YtemmhhdnlbmicaaGreat
open Go Go.RowKit
def Light (n m:Nat) (q:List C):Prop:=q.length<=n/\∀ c∈q,wC c<=m
theorem Light.le {n m:Nat} {q:List C} (h:Light n m q):q.length+wP q<=n+n * m:=by
 have:∀ q:List C,(∀ c∈q,wC c<=m)->wP q<=q.length * m:=by
  intro q
  induction q with
  | nil=>intro _; simp [wP]
  | cons c q ih=>
   intro h
   have h1:=h c (List.mem_cons_self ..)
   have h2:=ih fun d hd=>h d (List.mem_cons_of_mem _ hd)
   simp only [wP,List.length_cons,Nat.succ_mul]
   omega
 have h1:=this q h.2
 have h2:q.length * m<=n * m:=Nat.mul_le_mul_right _ h.1
 have:=h.1
 omega
theorem Light.append {n n' m:Nat} {q q':List C} (h:Light n m q) (h':Light n' m q'):Light (n+n') m (q++q'):=
 ⟨by rw [List.length_append]; exact Nat.add_le_add h.1 h'.1,fun c hc=>(List.mem_append.1 hc).elim (h.2 c) (h'.2 c)⟩
/- a program that is still the caller's own row -/
abbrev Gg (br:Nat) (sl:Value) (p k n m:Nat):Value->List Item->av->Prop:=fun v I' S'=>∃ p' css q,p'<=p+k/\I'=[bq v bb 5 css,rdI br sl p']/\Rows 5 (RdC S') css q/\Light n m q/\0<q.length/\∀ c∈q,dt c=true
section
variable {w0 w:World} {X:List Nat} {L A:List Item} {S:av}
theorem zY {v:Value} {css:List (List Value)} {q:List C} (hI:Inv w0 X (bq v bb 5 css::A) S w) (hR:Rows 5 (RdC S) css q) :
  ∃ S',Ext w0.heap.size X S S'/\Inv w0 X A S' w/\RdSl S' 5 (RdC S') v q:=by
 have hI:Inv w0 X (A++[bq v bb 5 css]) S w:=hI.last 0 rfl
 obtain ⟨S',hE,hrd,hI⟩:=Inv.lendExt hI
 exact ⟨S',hE,hI,RowRd.rows (hR.monoR fun _ _ h=>RdC.mono hE.1 h) hrd⟩
end
section
variable {br:Nat} {sl:Value} {ys:List Nat}
attribute [local irreducible] Run CondV ag a4
end
end Go.Proofs.YtemmhhdnlbmicaaGreat

/- spec.l4Texts, l4Program, l4Clause, l14Two. -/
namespace Go.Proofs.YtemmhhdnlbmicaaGreat
open Go Go.RowKit
def okS (s:ByteArray):Bool:=DU (bs s) && decide (s.size<=1000)
theorem Ew {s:ByteArray} (h:okS s=true):∃ q,CT 60 (bs s)=some q/\0<q.length/\Light 8 200 q/\(∀ c∈q,dt c=true)/\s.size<=1000:=by
 rw [okS,Bool.and_eq_true,decide_eq_true_eq] at h
 obtain ⟨h,hs⟩:=h
 unfold DU at h
 split at h
 ·rename_i q hq
  simp only [Bool.and_eq_true,decide_eq_true_eq,List.all_eq_true] at h
  exact ⟨q,hq,h.1,⟨h.2.1,fun c hc=>(h.2.2 c hc).2⟩,fun c hc=>(h.2.2 c hc).1,hs⟩
 ·cases h
section
attribute [local irreducible] Run CondV ag a4
theorem xb {S:av} {s:ByteArray} (h:okS s=true):Tri Tryz.prog jE [.string s] [] S fun v I' S'=>∃ u css q,v=.tuple #[u,.bool true]/\I'=[bq u bb 5 css]/\Rows 5 (RdC S') css q/\0<q.length/\Light 8 200 q/\∀ c∈q,dt c=true:=by
 obtain ⟨q,hq,h0,hl,hc,hs⟩:=Ew h
 intro w hI
 have hb:(bs s).length=s.size:=(iU (bs s)).symm
 refine (ng (f:=60) (by omega) hq (by rw [hb]; omega) w hI).mono ?_
 rintro e w' ⟨v,I',S',rfl,hI,hE,u,css,rfl,rfl,hR⟩
 exact ⟨_,_,S',rfl,hI,hE,u,css,q,rfl,rfl,hR,h0,hl,hc⟩
theorem vE (S:av):Tri Tryz.prog Av [] [] S fun v I' S'=>I'=[]/\∃ l,RdSl S' 1 mC v l/\l.length=11/\l.all okS=true:=by
 intro w hI
 refine su ?_
 unfold oa
 refine yH hI (by kernel_rfl) rfl (by omega) fun v S1 w' hE1 hv hI=>?_
 exact ⟨_,[],S1,rfl,hI,hE1,rfl,_,hv,rfl,by decide +kernel⟩
variable {br:Nat} {sl:Value} {ys:List Nat}
theorem r2 {p:Nat} {S:av} (hrd:RdSl S 1 kF sl ys) (hp:p<=100000000):Tri Tryz.prog vI [rdP br] [rdI br sl p] S (Gg br sl p 1 8 200):=by
 intro w hI
 refine nW ?_
 unfold lM
 refine Run.call0E xM xz hI (vE S) fun v' I' S1 w'=>?_
 rintro ⟨rfl,l,hl,hl11,hok⟩ hE1 hI
 have hI:Inv w [br] [rdI br sl p] S1 w':=hI
 refine a9 hl cg ?_
 refine Run.callL dD dB hI (fH (n:=l.length) (hrd.monoU hE1.1) (by omega) (by omega)) rfl fun v' I' S1 w'=>?_
 rintro ⟨rfl,rfl,k,hk,rfl⟩ _ hI
 have hI:Inv w [br] [rdI br sl (p+1)] S1 w':=hI
 refine jO hI hl cg bi hk (fun cs hcs=>hcs) ?_
 rw [List.all_eq_true] at hok
 refine Run.call0E iN iT hI (xb (hok _ (List.getElem_mem hk))) fun v I' S2 w'=>?_
 rintro ⟨u,css,q,rfl,rfl,hR,h0,hq,hcv⟩ hE2 hI
 refine a5 (v:=u) rfl ?_
 refine a5 (v:=.bool true) rfl ?_
 exact ⟨_,_,S2,rfl,hI.last 0 rfl,hE1.trans hE2,p+1,css,q,Nat.le_refl _,rfl,hR,hq,h0,hcv⟩
end
end Go.Proofs.YtemmhhdnlbmicaaGreat

/- spec.l16Program, DrawFlatProgram, DrawStageModel. -/
namespace Go.Proofs.YtemmhhdnlbmicaaGreat
open Go Go.RowKit
section
variable {br:Nat} {sl:Value} {ys:List Nat} {S:av}
attribute [local irreducible] Run CondV ag a4
theorem tK (S:av):Tri Tryz.prog xo [] [] S fun v I' S'=>I'=[]/\∃ l,RdSl S' 1 mC v l/\l.length=6/\l.all okS=true:=by
 intro w hI
 refine pP ?_
 unfold mv
 refine yH hI (by kernel_rfl) rfl (by omega) fun v S1 w' hE1 hv hI=>?_
 exact ⟨_,[],S1,rfl,hI,hE1,rfl,_,hv,rfl,by decide +kernel⟩
abbrev FS (br:Nat) (sl:Value) (p k:Nat):Value->List Item->av->Prop:=fun u I' S'=>∃ p',p'<=p+k/\I'=[rdI br sl p']/\∃ ps,RdSl S' 5 (RdC S') u ps/\Light 8 200 ps/\0<ps.length
theorem pS {p:Nat} (hrd:RdSl S 1 kF sl ys) (hp:p<=10000000):Tri Tryz.prog tD [rdP br] [rdI br sl p] S (FS br sl p 3):=by
 intro w hI
 refine nC ?_
 unfold kj
 refine Run.call0E vd wa hI (tK S) fun v' I' S1 w'=>?_
 rintro ⟨rfl,l,hl,hl6,hok⟩ hE1 hI
 have hI:Inv w [br] [rdI br sl p] S1 w':=hI
 refine a9 hl cg ?_
 refine Run.callL dD dB hI (fH (n:=l.length) (hrd.monoU hE1.1) (by omega) (by omega)) rfl fun v' I' S1 w'=>?_
 rintro ⟨rfl,rfl,k,hk,rfl⟩ _ hI
 have hI:Inv w [br] [rdI br sl (p+1)] S1 w':=hI
 refine jO hI hl cg bi hk (fun cs hcs=>hcs) ?_
 rw [List.all_eq_true] at hok
 refine Run.call0E iN iT hI (xb (hok _ (List.getElem_mem hk))) fun v I' S3 w'=>?_
 rintro ⟨u,css,ps,rfl,rfl,hR,h0,hps,_⟩ hE3 hI
 have hI:Inv w [br] [bq u bb 5 css,rdI br sl (p+1)] S3 w':=hI.last 0 rfl
 obtain ⟨S4,hE4,hI,hr⟩:=zY hI hR
 have hE4:=hE1.trans (hE3.trans hE4)
 refine a5 (v:=u) rfl ?_
 refine a5 (v:=.bool true) rfl ?_
 refine ⟨fun t w'=>∃ (p2:Nat) (S5:av) (q:List C),p2<=p+3/\Ext w.heap.size [br] S S5/\RdSl S5 5 (RdC S5) t q/\Light 8 200 q/\0<q.length/\Inv w [br] [rdI br sl p2] S5 w',?_,?_⟩
 ·refine Run.callL dD dB hI (fH (n:=8) (hrd.monoU hE4.1) (by omega) (by omega)) rfl fun v' I' S2 w'=>?_
  rintro ⟨rfl,rfl,k2,hk2,rfl⟩ _ hI
  refine cw ?_
  refine bp (fun _=>?_) (fun _=>⟨p+2,_,ps,by omega,hE4,hr,hps,h0,hI⟩)
  refine Run.callL tf uC hI (r2 (p:=p+1+1) (hrd.monoU hE4.1) (by omega)) rfl fun v1 I' S5 w'=>?_
  rintro ⟨p2,css1,q1,hp2,rfl,hR1,hq1,h1,_⟩ hE5 hI
  obtain ⟨S6,hE6,hI,hr6⟩:=zY (A:=[rdI br sl p2]) hI hR1
  exact ⟨p2,S6,q1,by omega,hE4.trans (hE5.trans hE6),hr6,hq1,h1,hI⟩
 intro t4 _ _ _ _ _ w'
 rintro ⟨p2,S5,q,hp2,hE5,hr,hl,h0,hI⟩
 exact ⟨_,_,S5,rfl,hI,hE5,p2,hp2,rfl,q,hr,hl,h0⟩
end
end Go.Proofs.YtemmhhdnlbmicaaGreat
