/- spec.l1Draw, l1Some: a drawn term is readable and light. -/
import Derived.Test.YtcpgagfdeflbkaaGreatDoorZSl8
import Derived.Test.YtcpgagfdeflbkaaGreatDoorZSl4
import Derived.Test.YtcpgagfdeflbkaaGreatDoorZSl3
namespace Go.Proofs.YtcpgagfdeflbkaaGreatDoor
section
open Go Go.RowKit
theorem ub {l:List Int} {n a b:Int} (hm:n∈l) (h:(l.all fun n=>decide (a<=n) && decide (n<=b))=true):a<=n/\n<=b:=by
 rw [ed] at h
 have:=h n hm
 rw [bN,bC,bC] at this
 exact this
theorem zY {l:List ByteArray} {s:ByteArray} {m:Nat} (hm:s∈l) (h:(l.all fun s=>decide (s.size<=m))=true):s.size<=m:=by
 rw [ed] at h
 have:=h s hm
 rwa [bC] at this
theorem LD {Q B:Prop} {R:Nat->Prop} (h1:Q->B) (h2:∀ n,n<3->R n->B):∀ {n:Nat},pS Q R n->n<4->B
 | 0,h,_=>h1 h
 | n+1,h,hn=>h2 n (by omega) h
theorem mF:∀ l m:List T,wL (l++m)=wL l+wL m
 | [],m=>by simp [wL]
 | t::l,m=>by simp only [gt,wL,mF l m]; omega
theorem QD {n:Int} (h:0<=n/\n<26):okU 26 (.mk 1 n emptyB []):=by
 simp only [okU,cS]
 exact ⟨by decide,fun _=>⟨h.1,h.2,trivial,trivial⟩,trivial,by decide⟩
theorem PZ {n:Int}:okU 26 (.mk 2 n emptyB []):=by
 simp only [okU,cS]
 exact ⟨by decide,(fun h=>by cases h),trivial,by decide⟩
theorem GB {s:ByteArray} {ts:List T} (hs:s.size<=6) (h:cS 26 ts):okU 26 (.mk 3 0 s ts):=by
 simp only [okU]
 exact ⟨by decide,(fun h=>by cases h),h,hs⟩
theorem HM {N:Nat}:∀ {l m:List T},cS N l->cS N m->cS N (l++m)
 | [],_,_,h=>h
 | _::_,_,h,h'=>by
  rw [cS] at h
  rw [gt,cS]
  exact ⟨h.1,HM h.2 h'⟩
theorem qb {S:ad} {k n:Int} (hk:inI k) (hn:inI n):RdT S [.int .i64 k,.int .i64 n,.string ⟨#[]⟩,.slice none 0 0] (.mk k n emptyB []):=
 RdT.iff.2 ⟨_,rfl,hk,hn,aR _,iL S⟩
section
variable {w0 w:World} {X:List Nat} {L:List Item} {S:ad} {K:Value->World->Prop} {P:Program}
attribute [local irreducible] Run CondV aq aK
theorem Run.callL {f:FuncId} {fn:Func} {args:List Value} {I:List Item} {Post:Value->List Item->ad->Prop}
  (hf:P.funcs[f]?=some fn) (hn:(fn.name == "runtime.NumGoroutine" || fn.body.isNone)=false) (h:Inv w0 X L S w) (hc:Tri P f args I S Post) (hL:L=L.dropLast++I)
  (hk:∀ v I' S' w',Post v I' S'->Ext w0.heap.size X S S'->Inv w0 X (L.dropLast++I') S' w'->K v w'):Run P (er (.func (.func f) #[] #[]) args) w K:=
 Run.callE (A:=L.dropLast) hf hn (hL ▸ h) hc hk
theorem Gh {T:TypeId} {cx cy:Bool} {d:Nat} (hd:d<=1000000) (hk:K (.int .i64 (d:Int)) w):Run P (cw .sub T cx cy (.int .i64 ((d+1:Nat):Int)) (.int .i64 1)) w K:=by
 refine kY (by omega) ?_
 rw [show ((d+1:Nat):Int) - 1=d by omega]
 exact hk
theorem Hg {B:Prop} {b d:Nat} {c:Array Value} {E:TypeId} {kv xs xa:Value} {css:List (List Value)} {F:Nat->List Item} {Q:List Value->Nat->ad->Prop} {p1:Nat} {S1:ad} {cs:List Value} {t:T}
  (hQ:Q cs p1 S1) (hr:RdT S1 cs t) (hI:Inv w0 X (.blk b (.cells c E)::aE kv ab 4 css::F p1) S1 w):pS B (zK w0 X b c d E kv css F Q (.agg cs.toArray) xs xa w) 1:=
 ⟨p1,S1,cs,hQ,⟨hr.length,hr.one⟩,rfl,hI⟩
end
section
variable {br:Nat} {sl:Value} {ys:List Nat}
attribute [local irreducible] Run CondV aq aK
abbrev LE (br:Nat) (sl:Value) (ys:List Nat) (d:Nat):Prop:=∀ (p:Nat) (S:ad),RdSl S 1 jB sl ys->p+3 * dW d<=1000000000->Tri Tryz.prog K4 [rdP br,.int .i64 (d:Int)] [rdI br sl p] S (R6 br sl p d)
theorem D0 {d:Nat} (hd4:d<=4) (ih:∀ d',d'+1=d->LE br sl ys d'):LE br sl ys d:=by
 intro p S hrd hp w hI
 have hW:=Oq d
 refine xL.2 ?_
 dsimp only[xL,aO]
 refine aP hI aZ fun b4 w' hI=>?_
 have hI:Inv w [br] [.blk b4 (.cells #[.int .i64 0,.int .i64 0,.string ⟨#[]⟩,.slice none 0 0] ab),rdI br sl p] S w':=hI.last 0 rfl
 refine ⟨fun v w'=>∃ (c:Bool) (p1:Nat),v=.bool c/\p1<=p+1/\(c=false->2<=d)/\Inv w [br] [.blk b4 (.cells #[.int .i64 0,.int .i64 0,.string ⟨#[]⟩,.slice none 0 0] ab),rdI br sl p1] S w',?_,?_⟩
 ·refine bL ?_
  by_cases hd:(d:Int)<2
  ·rw [aS hd]
   refine rpG ?_
   exact ⟨true,p,rfl,by omega,(fun h=>by cases h),hI⟩
  ·rw [bg hd]
   refine rpG ?_
   refine Run.callL bK bJ hI (cY (n:=4) hrd (by omega) (by omega)) rfl fun v' I' S' w'=>?_
   rintro ⟨rfl,rfl,k,hk,rfl⟩ _ hI
   refine bl ?_
   refine rpG ?_
   exact ⟨_,p+1,rfl,by omega,fun _=>by omega,hI⟩
 intro t13 _ _ _ _ _ _ w'
 rintro ⟨c,p1,rfl,hp1,hcd,hI⟩
 refine aw (fun _=>?_) (fun hc=>?_)
 ·refine Run.callL bK bJ hI (cY (n:=4) hrd (by omega) (by omega)) rfl fun v' I' S' w'=>?_
  rintro ⟨rfl,rfl,k,hk,rfl⟩ _ hI
  have hI:Inv w [br] [.blk b4 (.cells #[.int .i64 0,.int .i64 0,.string ⟨#[]⟩,.slice none 0 0] ab),rdI br sl (p1+1)] S' w':=hI
  refine bl ?_
  refine aH (fun _=>?_) (fun _=>?_)
  ·refine Run.callL bK bJ hI (cY (n:=4) hrd (by omega) (by omega)) rfl fun v' I' S1 w'=>?_
   rintro ⟨rfl,rfl,k,hk,rfl⟩ _ hI
   refine Run.callPure z1 z9 hI (sg k S1) fun w' hI=>?_
   refine aA hI 0 rfl ac rfl rfl (by simp [Value.oneCell']) fun w' hI=>?_
   refine bw hI 0 ac rfl rfl ?_
   exact ⟨_,_,S1,rfl,hI.pick [false,true],Ext.refl _ _ _,p1+2,by omega,rfl,_,_,rfl,qb (by simp [inI]) (by simp only [inI]; omega),by have e:emptyB.size=0:=rfl; simp only [wT,wL,bG,e]; omega,QD (by omega)⟩
  refine bl ?_
  refine aH (fun _=>?_) (fun _=>?_)
  ·refine Ay hI (by kernel_rfl) rfl (by omega) fun v S1 w' hE1 hv hI=>?_
   refine Run.callL fA fI hI (mq (p:=p1+1) (hrd.monoU hE1.1) hv (by decide) (by omega)) rfl fun v' I' S2 w'=>?_
   rintro ⟨rfl,rfl,n,hn,rfl⟩ _ hI
   have hn:=ub (a:=-1000) (b:=1000) hn (by decide)
   refine Run.callPure sG sM hI (lO n S2) fun w' hI=>?_
   refine aA hI 0 rfl ac rfl rfl (by simp [Value.oneCell']) fun w' hI=>?_
   refine bw hI 0 ac rfl rfl ?_
   exact ⟨_,_,S2,rfl,hI.pick [false,true],hE1,p1+2,by omega,rfl,_,_,rfl,qb (by simp [inI]) (by simp only [inI]; omega),by have e:emptyB.size=0:=rfl; simp only [wT,wL,bG,e]; omega,PZ⟩
  ·refine eX hI (by kernel_rfl) rfl (by omega) fun v S1 w' hE1 hv hI=>?_
   refine Run.callL iJ iF hI (tl (p:=p1+1) (hrd.monoU hE1.1) hv (by decide) (by omega)) rfl fun v' I' S2 w'=>?_
   rintro ⟨rfl,rfl,s,hs,rfl⟩ _ hI
   have hs:=zY (m:=3) hs (by decide)
   refine Run.call0E cV cU hI (dE s (by simp only [maxLen]; omega) (iL S2) (by simp)) fun v' I' S3 w'=>?_
   rintro ⟨rfl,cs,rfl,hcs⟩ hE3 hI
   refine aA hI 0 rfl ac (by simpa using hcs.length) rfl (by simpa using hcs.one) fun w' hI=>?_
   refine bw hI 0 ac rfl (by simpa using hcs.length) ?_
   exact ⟨_,_,S3,rfl,hI.pick [false,true],hE1.trans hE3,p1+2,by omega,rfl,_,_,rfl,hcs,by simp only [wT,wL,bG]; omega,GB (by omega) (by simp only [cS])⟩
 obtain ⟨d',rfl⟩:∃ d',d=d'+1:=⟨d - 1,by have:=hcd hc; omega⟩
 have ih:=ih d' rfl
 have hD:=Oq d'
 have hDs:=P2 d'
 have h3:dW d'<=486:=by
  have:3 ^ d'<=3 ^ 4:=Kb (by omega) (by omega)
  simp only [dW]; omega
 refine Run.callL bK bJ hI (cY (n:=3) hrd (by omega) (by omega)) rfl fun v' I' S w'=>?_
 rintro ⟨rfl,rfl,k,hk,rfl⟩ _ hI
 refine bl ?_
 refine aH (fun _=>?_) (fun _=>?_)
 ·refine Gh (by omega) ?_
  refine Run.callL kT lu hI (ih (p1+1) S hrd (by omega)) rfl fun v' I' S1 w'=>?_
  rintro ⟨p2,hp2,rfl,cs1,t1,rfl,hc1,hw1,ho1⟩ hE1 hI
  refine Gh (by omega) ?_
  refine Run.callL kT lu hI (ih p2 S1 (hrd.monoU hE1.1) (by omega)) rfl fun v' I' S2 w'=>?_
  rintro ⟨p3,hp3,rfl,cs2,t2,rfl,hc2,hw2,ho2⟩ hE2 hI
  have hc1:=RdT.mono hE2.1 hc1
  obtain ⟨kv1,rfl,_,_,_,a1,q1,rfl,_⟩:=RdT.iff.1 hc1
  obtain ⟨kv2,rfl,_,_,_,a2,q2,rfl,_⟩:=RdT.iff.1 hc2
  refine qD (v:=fun b=>.slice (some ⟨b,0,none⟩) 2 2) (o:=.cells #[.int .i64 t1.kind,.int .i64 t1.n,.string t1.name,.slice a1 t1.kids.length q1,.int .i64 t2.kind,.int .i64 t2.n,.string t2.name,.slice a2 t2.kids.length q2] ab) hI (by kernel_rfl) fun b w' hI=>?_
  have hI:Inv w [br] ([.blk b4 (.cells #[.int .i64 0,.int .i64 0,.string ⟨#[]⟩,.slice none 0 0] ab),rdI br sl p3]++[_]) S2 w':=hI
  obtain ⟨S3,hI,hE3,hS⟩:=hI.pub1
  refine Run.call0E cV cU hI (dE ⟨#[46]⟩ (by decide) (KD hS (hc1.mono hE3.1) (hc2.mono hE3.1)) (by simp)) fun v' I' S4 w'=>?_
  rintro ⟨rfl,cs,rfl,hcs⟩ hE4 hI
  refine aA hI 0 rfl ac (by simpa using hcs.length) rfl (by simpa using hcs.one) fun w' hI=>?_
  refine bw hI 0 ac rfl (by simpa using hcs.length) ?_
  refine ⟨_,_,S4,rfl,hI.pick [false,true],(hE1.trans hE2).trans (hE3.trans hE4),p3,by omega,rfl,_,_,rfl,hcs,?_,GB (by decide) (by simp only [cS]; exact ⟨ho1,ho2,trivial⟩)⟩
  have e:(ByteArray.mk #[46]).size=1:=rfl
  simp only [wT,wL,bk,bG,e]
  omega
 ·refine eX hI (by kernel_rfl) rfl (by omega) fun v S1 w' hE1 hv hI=>?_
  refine Run.callL iJ iF hI (tl (p:=p1+1) (hrd.monoU hE1.1) hv (by decide) (by omega)) rfl fun v' I' S2 w'=>?_
  rintro ⟨rfl,rfl,s,hs,rfl⟩ _ hI
  have hs:=zY (m:=3) hs (by decide)
  refine Run.call0E cV cU hI (uq s (iL S2) (by simp)) fun v' I' S3 w'=>?_
  rintro ⟨rfl,kv0,css0,rfl,rfl,hR0⟩ hE3 hI
  refine aP hI aZ fun b5 w' hI=>?_
  obtain ⟨a0,n0,q0,rfl⟩:=hI.rowSlice 2 rfl
  refine aA hI 3 rfl ac rfl rfl (by simp [Value.oneCell']) fun w' hI=>?_
  obtain ⟨B4,hB4⟩:∃ B4,B4=Item.blk b4 (.cells #[.int .i64 0,.int .i64 0,.string ⟨#[]⟩,.slice none 0 0] ab):=⟨_,rfl⟩
  have hI:Inv w [br] [.blk b5 (.cells #[.int .i64 3,.int .i64 0,.string s,.slice a0 n0 q0] ab),aE (.slice a0 n0 q0) ab 4 css0,B4,rdI br sl (p1+2)] S3 w':=by
   rw [hB4]
   exact ((hI.last 2 rfl).last 0 rfl).last 0 rfl
  refine Ay hI (by kernel_rfl) rfl (by omega) fun v S4 w' hE4 hv hI=>?_
  refine Run.callL fA fI hI (mq (p:=p1+2) (hrd.monoU ((hE1.trans hE3).trans hE4).1) hv (by decide) (by omega)) rfl fun v' I' S5 w'=>?_
  rintro ⟨rfl,rfl,n,hn,rfl⟩ _ hI
  have hn:=ub (a:=1) (b:=3) hn (by decide)
  have hE5:Ext w.heap.size [br] S S5:=(hE1.trans hE3).trans hE4
  refine ⟨fun t w'=>∃ (j p2:Nat) (S6:ad) (kv:Value) (css:List (List Value)) (ts:List T),cS 26 ts/\t=.int .i64 (j:Int)/\ts.length+j<=3/\Rows 4 (RdT S6) css ts/\wL ts+3 * ts.length<=ts.length * dW d'/\p2+2 * ts.length<=p1+3+ts.length * dW d'/\Ext w.heap.size [br] S S6/\
   Inv w [br] [.blk b5 (.cells #[.int .i64 3,.int .i64 0,.string s,kv] ab),aE kv ab 4 css,B4,rdI br sl p2] S6 w',fun t _=>(intOf t).toNat,
   ⟨n.toNat,p1+3,S5,_,css0,[],by simp only [cS],by rw [Oo (by omega)],by simp; omega,hR0.monoR fun _ _ h=>RdT.mono hE4.1 h,by simp [wL],by simp,hE5,hI⟩,?_⟩
  intro t6 _ _ t63 t62 t61 t60 t59 t58 t57 t56 t55 _ _ w'
  rintro ⟨j,p2,S6,kv,css,ts,hou,rfl,hj,hR,hwts,hp2,hE6,hI⟩
  have hcl:=hR.hc
  have hm:ts.length * dW d'<=3 * dW d':=iy _ (by omega)
  refine eU ?_
  refine aH (fun hj0=>?_) (fun hj0=>?_)
  ·obtain ⟨j',rfl⟩:∃ j',j=j'+1:=⟨j - 1,by omega⟩
   refine ⟨fun D ET CE BK zR Bq Ct B5 BI Eo w_=>Fx D 0 [Eo=.pointer (some ⟨b5,3,none⟩),BI=kv,B5=rdP br,Ct=.int .i64 ((d'+1:Nat):Int),Bq=.int .i64 (d':Int),True,True,True,ET=.pointer (some ⟨b5,3,none⟩),True]/\∃ n_:Nat,n_<=4/\D 5=decide (1<=n_)/\D 6=decide (2<=n_)/\D 7=decide (3<=n_)/\D 9=decide (4<=n_)/\(D 9=true->D 1=true)/\(pS (Inv w [br] [.blk b5 (.cells #[.int .i64 3,.int .i64 0,.string s,kv] ab),aE kv ab 4 css,B4,rdI br sl p2] S6 w_) (zK w [br] b5 #[.int .i64 3,.int .i64 0,.string s,kv] 3 ab kv css (fun p=>[B4,rdI br sl p]) (fun cs p' S'=>∃ t,okU 26 t/\RdT S' cs t/\wT t+3<=dW d'/\p'+2<=p2+dW d'/\Ext w.heap.size [br] S6 S') zR BK CE w_) n_),⟨Fx.nil _ _,⟨0,aR _,rfl,rfl,rfl,rfl,(aQ),hI.draw⟩⟩,⟨?_,?_,?_,?_,?_,?_,?_,?_,?_,?_,trivial⟩,?_⟩
   all_goals (intro D bI; intros; rename_i ET CE BK zR Bq Ct B5 BI Eo w_ hA_; have hF_:=hA_.1; obtain ⟨⟨cJ,cH,cK,cI,cN,cP,cz,dC,ek,fZ,_⟩,⟨n_,ln_,e1_,e2_,e3_,e4_,kp_,hS⟩⟩:=hA_)
   ·refine aC av ?_
    exact ⟨hF_.set 0 rfl,⟨n_,ln_,e1_,e2_,e3_,e4_,kp_,hS⟩⟩
   ·obtain rfl:=cJ ‹_›
    have ln2_:=Qn e4_ kp_ bI
    refine cA ao ((LD (fun h=>h.cellL (i:=0) rfl) (fun n hn h=>FB h hn) hS ln2_).trans rfl) ?_
    exact ⟨hF_.set 1 rfl,⟨n_,ln_,e1_,e2_,e3_,e4_,(fun _=>rfl),hS⟩⟩
   ·exact ⟨hF_.set 2 rfl,⟨n_,ln_,e1_,e2_,e3_,e4_,kp_,hS⟩⟩
   ·exact ⟨hF_.set 3 rfl,⟨n_,ln_,e1_,e2_,e3_,e4_,kp_,hS⟩⟩
   ·obtain rfl:=cI ‹_›
    refine Gh (by omega) ?_
    exact ⟨hF_.set 4 rfl,⟨n_,ln_,e1_,e2_,e3_,e4_,kp_,hS⟩⟩
   ·obtain rfl:=cK ‹_›
    obtain rfl:=cN ‹_›
    obtain rfl:n_=0:=Qp e1_ bI
    refine Run.callL kT lu (L:=[.blk b5 _,aE _ ab 4 css,B4,rdI br sl p2]) hS (ih p2 S6 (hrd.monoU hE6.1) (by omega)) rfl fun v' I' S7 w_=>?_
    rintro ⟨p3,hp3,rfl,cs,t,rfl,hcs,hwt,hot⟩ hE7 hI
    exact ⟨hF_.set 5 (by first|assumption|trivial),⟨1,by decide,rfl,(by first|exact e2_|rfl),(by first|exact e3_|rfl),(by first|exact e4_|rfl),kp_,Hg ⟨t,hot,hcs,hwt,hp3,hE7⟩ hcs hI⟩⟩
   ·have NN:=cP ‹_›
    obtain rfl:n_=1:=wj e1_ ‹D 5=true› e2_ bI
    refine ap1 hS fun u w_ hS=>?_
    exact ⟨hF_.set 6 (by first|assumption|trivial),⟨2,by decide,(by first|exact e1_|rfl),rfl,(by first|exact e3_|rfl),(by first|exact e4_|rfl),kp_,hS⟩⟩
   ·obtain rfl:=cH ‹_›
    have M9:=cz ‹_›
    obtain rfl:n_=2:=wj e2_ ‹D 6=true› e3_ bI
    refine ap2 hS (by omega) fun u w_ hS=>?_
    exact ⟨hF_.set 7 (by first|assumption|trivial),⟨3,by decide,(by first|exact e1_|rfl),(by first|exact e2_|rfl),rfl,(by first|exact e4_|rfl),kp_,hS⟩⟩
   ·refine aC av ?_
    exact ⟨hF_.set 8 rfl,⟨n_,ln_,e1_,e2_,e3_,e4_,kp_,hS⟩⟩
   ·obtain rfl:=ek ‹_›
    have PT:=dC ‹_›
    obtain rfl:n_=3:=wj e3_ ‹D 7=true› e4_ bI
    refine ap3 hS (by simp) fun w_ hS=>?_
    exact ⟨hF_.set 9 trivial,⟨4,by decide,(by first|exact e1_|rfl),(by first|exact e2_|rfl),(by first|exact e3_|rfl),rfl,(fun _=>‹D 1=true›),hS⟩⟩
   obtain rfl:n_=4:=P0 ln_ e4_ ‹D 9=true›
   clear e1_ e2_ e3_ e4_
   obtain ⟨p3,S7,cs,⟨t,hot,hcs,hwt,hp3,hE7⟩,hl,hI⟩:=hS
   refine Gh (by omega) ?_
   refine ⟨⟨j',p3,S7,_,_,ts++[t],HM hou (by simp only [cS]; exact ⟨hot,trivial⟩),rfl,by rw [bh]; simp only [bk,bG]; omega,(hR.monoR fun _ _ h=>RdT.mono hE7.1 h).snoc hcs hl.1,?_,?_,hE6.trans hE7,hI⟩,by simp only [intOf,dF]; omega⟩
   ·rw [mF,bh,bk,bG,wq]
    simp only [wL]
    omega
   ·rw [bh,bk,bG,wq]
    omega
  ·have hI:Inv w [br] ([.blk b5 (.cells #[.int .i64 3,.int .i64 0,.string s,kv] ab),B4,rdI br sl p2]++[aE kv ab 4 css]) S6 w':=hI.last 1 rfl
   refine az hI 0 ac rfl rfl ?_
   obtain ⟨S7,hE7,hrdr,hI⟩:=Inv.lendExt hI
   have hrs:=RowRd.rows (hR.monoR fun _ _ h=>RdT.mono hE7.1 h) hrdr
   obtain ⟨a,q,rfl,_⟩:=id hrs
   subst hB4
   refine aA hI 1 rfl ac rfl rfl (by simp [Value.oneCell']) fun w' hI=>?_
   refine bw hI 1 ac rfl rfl ?_
   refine ⟨_,_,S7,rfl,hI.pick [false,false,true],hE6.trans hE7,p2,?_,rfl,[.int .i64 3,.int .i64 0,.string s,_],.mk 3 0 s ts,rfl,RdT.iff.2 ⟨_,rfl,by simp [inI,T.kind],by simp [inI,T.n],by simp only [T.name,maxLen]; omega,hrs⟩,?_,GB (by omega) hou⟩
   ·have:ts.length=0 ∨ ts.length=1 ∨ ts.length=2 ∨ ts.length=3:=by omega
    rcases this with h|h|h|h <;> rw [h] at hp2 hwts <;> omega
   ·simp only [wT]
    have:ts.length=0 ∨ ts.length=1 ∨ ts.length=2 ∨ ts.length=3:=by omega
    rcases this with h|h|h|h <;> rw [h] at hp2 hwts ⊢ <;> omega
theorem tO:∀ d:Nat,d<=4->LE br sl ys d
 | 0,h=>D0 h fun d' e=>by omega
 | d+1,h=>D0 h fun d' e=>by
  obtain rfl:d'=d:=by omega
  exact tO _ (by omega)
abbrev OX (br:Nat) (sl:Value) (p k m:Nat):Value->List Item->ad->Prop:=fun v I' S'=>∃ p',p'<=p+k/\I'=[rdI br sl p']/\∃ cs t,v=.agg cs.toArray/\RdT S' cs t/\wT t<=m
theorem vg {p:Nat} {S:ad} (hrd:RdSl S 1 jB sl ys) (hp:p<=400000000):Tri Tryz.prog Kp [rdP br] [rdI br sl p] S (OX br sl p 500 500):=by
 intro w hI
 refine xN.2 ?_
 dsimp only[xN,aG]
 refine aP hI aZ fun b2 w' hI=>?_
 have hI:Inv w [br] [.blk b2 (.cells #[.int .i64 0,.int .i64 0,.string ⟨#[]⟩,.slice none 0 0] ab),rdI br sl p] S w':=hI.last 0 rfl
 refine Ay hI (by kernel_rfl) rfl (by omega) fun v S1 w' hE1 hv hI=>?_
 refine Run.callL fA fI hI (mq (p:=p) (hrd.monoU hE1.1) hv (by decide) (by omega)) rfl fun v' I' S2 w'=>?_
 rintro ⟨rfl,rfl,n,hn,rfl⟩ _ hI
 have hn:=ub (a:=1) (b:=4) hn (by decide)
 obtain ⟨m,rfl⟩:∃ m:Nat,n=m:=⟨n.toNat,by rw [Oo (by omega)]⟩
 have h3:dW m<=486:=by
  have:3 ^ m<=3 ^ 4:=Kb (by omega) (by omega)
  simp only [dW]; omega
 refine Run.callL kT lu hI (tO m (by omega) (p+1) S2 (hrd.monoU hE1.1) (by omega)) rfl fun v' I' S3 w'=>?_
 rintro ⟨p1,hp1,rfl,cs,t,rfl,hcs,hw,_⟩ hE3 hI
 refine aA hI 0 rfl ac (by simpa using hcs.length) rfl (by simpa using hcs.one) fun w' hI=>?_
 refine bw hI 0 ac rfl (by simpa using hcs.length) ?_
 exact ⟨_,_,S3,rfl,hI.pick [false,true],hE1.trans hE3,p1,by omega,rfl,cs,t,rfl,hcs,by omega⟩
end
end
section
open Go Go.RowKit
def y8 (w:World) (b o:Nat):Nat:=match w.cell? ⟨b,o,none⟩ with
 | some (.slice _ n _)=>n
 | _=>0
theorem Qi {Q Q2 B:Prop} {R:Nat->Prop} (h1:Q->B) (h3:Q2->B) (h2:∀ n,n<3->R n->B):∀ {n:Nat},pS Q (pS Q2 R) n->n<5->B
 | 0,h,_=>h1 h
 | 1,h,_=>h3 h
 | n+2,h,hn=>h2 n (by omega) h
theorem Md {Q:Prop} {R:Nat->Prop} {n:Nat} (h:R n):pS Q R (n+1):=h
theorem Ey {Q:Prop} {R:Nat->Prop} {n:Nat} (h:pS Q R (n+1)):R n:=h
section
variable {w0 w:World} {X:List Nat} {L A:List Item} {S:ad} {K:Value->World->Prop} {P:Program}
attribute [local irreducible] Run CondV aq aK
theorem tw (h:Inv w0 X L S w) {i b o:Nat} {c:Array Value} {E:TypeId} {a:Option Addr} {n m:Nat} (hi:L[i]?=some (.blk b (.cells c E))) (hc:c[o]?=some (.slice a n m)):y8 w b o=n:=by
 rw [y8,h.cellL hi,hc]
theorem tG {b:Nat} {k n:Int} {s:ByteArray} {kv:Value} {css:List (List Value)} {ks:List T} {o:Obj}
  (hI:Inv w0 X (.blk b o::aE kv ab 4 css::A) S w) (hR:Rows 4 (RdT S) css ks) (hk:inI k) (hn:inI n) (hs:s.size<=maxLen) :
  ∃ S',Ext w0.heap.size X S S'/\Inv w0 X (.blk b o::A) S' w/\RdT S' [.int .i64 k,.int .i64 n,.string s,kv] (.mk k n s ks)/\RdSl S' 4 (RdT S') kv ks:=by
 have hI:Inv w0 X ((.blk b o::A)++[aE kv ab 4 css]) S w:=hI.last 1 rfl
 obtain ⟨S',hE,hrd,hI⟩:=Inv.lendExt hI
 have hrs:=RowRd.rows (hR.monoR fun _ _ h=>RdT.mono hE.1 h) hrd
 exact ⟨S',hE,hI,RdT.iff.2 ⟨_,rfl,hk,hn,hs,hrs⟩,hrs⟩
end
section
variable {br:Nat} {sl:Value} {ys:List Nat}
attribute [local irreducible] Run CondV aq aK
theorem kl {p:Nat} {S:ad} {cs:List Value} {t:T} (hrd:RdSl S 1 jB sl ys) (h:RdT S cs t) (hw:wT t<=100000) (hp:p<=400000000) :
  Tri Tryz.prog Fq [rdP br,.agg cs.toArray] [rdI br sl p] S (OX br sl p 2 (wT t+100)):=by
 intro w hI
 have h0:=h
 obtain ⟨kv0,rfl,hk,hn,hs,hks⟩:=RdT.iff.1 h
 refine r6.2 ?_
 dsimp only[r6,aO]
 refine bp hI fun b3 w' hI=>?_
 refine aP hI aZ fun b4 w' hI=>?_
 refine az hI 1 ac rfl rfl ?_
 refine Run.call0E eP eV hI (Nt t S _ h0 (by omega)) fun v' I' S1 w'=>?_
 rintro ⟨kv,css,rfl,rfl,hR⟩ hE1 hI
 have hE1:Ext w.heap.size [br] S S1:=hE1
 obtain ⟨a0,n0,q0,rfl⟩:=hI.rowSlice 3 rfl
 refine aP hI aZ fun b5 w' hI=>?_
 refine aA hI 4 rfl ac rfl rfl (by simp [Value.oneCell']) fun w' hI=>?_
 obtain ⟨B4,hB4⟩:∃ B4,B4=Item.blk b4 (.cells #[.int .i64 0,.int .i64 0,.string ⟨#[]⟩,.slice none 0 0] ab):=⟨_,rfl⟩
 obtain ⟨k,hk'⟩:∃ k,k=t.kind:=⟨_,rfl⟩
 obtain ⟨n,hn'⟩:∃ n,n=t.n:=⟨_,rfl⟩
 obtain ⟨s,hs'⟩:∃ s,s=t.name:=⟨_,rfl⟩
 have hwt:wT t=s.size+t.kids.length+wL t.kids:=by rw [hs']; cases t; rw [wT]; rfl
 rw [<- hk',<- hn',<- hs'] at hI
 rw [<- hk'] at hk
 rw [<- hn'] at hn
 rw [<- hs'] at hs
 have hI:Inv w [br] [.blk b5 (.cells #[.int .i64 k,.int .i64 n,.string s,.slice a0 n0 q0] ab),aE (.slice a0 n0 q0) ab 4 css,B4,rdI br sl p] S1 w':=by
  rw [hB4]
  exact (((hI.pick [true,false,true,true,true]).last 2 rfl).last 1 rfl).last 0 rfl
 refine ⟨fun w'=>∃ (p1:Nat) (S2:ad) (cs1:List Value) (t1:T),p1<=p+2/\Ext w.heap.size [br] S S2/\RdT S2 cs1 t1/\wT t1<=wT t+100/\Inv w [br] [.blk b5 (.cells cs1.toArray ab),B4,rdI br sl p1] S2 w',?_,?_⟩
 ·have hfin:∀ {k n:Int} {s1:ByteArray} {p1:Nat} {w':World} {S1:ad} {css:List (List Value)} {kv:Value} {ks:List T},Ext w.heap.size [br] S S1->p1<=p+2->inI k->inI n->s1.size<=s.size+7->Rows 4 (RdT S1) css ks->ks.length<=t.kids.length+5->wL ks<=wL t.kids->
    Inv w [br] [.blk b5 (.cells #[.int .i64 k,.int .i64 n,.string s1,kv] ab),aE kv ab 4 css,B4,rdI br sl p1] S1 w'->
    ∃ (p1:Nat) (S2:ad) (cs1:List Value) (t1:T),p1<=p+2/\Ext w.heap.size [br] S S2/\RdT S2 cs1 t1/\wT t1<=wT t+100/\Inv w [br] [.blk b5 (.cells cs1.toArray ab),B4,rdI br sl p1] S2 w':=by
   intro k n s1 p1 w' S1 css kv ks hE hp1 hk hn hs1 hR hkl hkw hI
   obtain ⟨S2,hE2,hI,hr,_⟩:=tG (s:=s1) hI hR hk hn (by simp only [maxLen]; omega)
   exact ⟨p1,S2,_,_,hp1,hE.trans hE2,hr,by rw [wT,hwt]; omega,hI⟩
  refine Run.callL bK bJ hI (cY (n:=50) (hrd.monoU hE1.1) (by omega) (by omega)) rfl fun v' I' S1 w'=>?_
  rintro ⟨rfl,rfl,kk,hkk,rfl⟩ _ hI
  refine bl ?_
  refine aH (fun _=>?_) (fun _=>?_)
  ·refine Ay hI (by kernel_rfl) rfl (by omega) fun v S3 w' hE3 hv hI=>?_
   refine Run.callL fA fI hI (mq (p:=p+1) (hrd.monoU (hE1.trans hE3).1) hv (by decide) (by omega)) rfl fun v' I' S3 w'=>?_
   rintro ⟨rfl,rfl,m,hm,rfl⟩ _ hI
   have hm:=ub (a:=-1000) (b:=1000) hm (by decide)
   refine cT hI 0 rfl aV aI rfl rfl rfl fun w' hI=>?_
   exact hfin (hE1.trans hE3) (aM _) (by simp only [inI]; omega) hn (by omega) (hR.monoR fun _ _ h=>RdT.mono hE3.1 h) (by omega) (aM _) hI
  refine bl ?_
  refine aH (fun _=>?_) (fun _=>?_)
  ·refine Ay hI (by kernel_rfl) rfl (by omega) fun v S3 w' hE3 hv hI=>?_
   refine Run.callL fA fI hI (mq (p:=p+1) (hrd.monoU (hE1.trans hE3).1) hv (by decide) (by omega)) rfl fun v' I' S3 w'=>?_
   rintro ⟨rfl,rfl,m,hm,rfl⟩ _ hI
   have hm:=ub (a:=-1000) (b:=1000) hm (by decide)
   refine cT hI 0 rfl bm aI rfl rfl rfl fun w' hI=>?_
   exact hfin (hE1.trans hE3) (aM _) hk (by simp only [inI]; omega) (by omega) (hR.monoR fun _ _ h=>RdT.mono hE3.1 h) (by omega) (aM _) hI
  refine bl ?_
  refine aH (fun _=>?_) (fun _=>?_)
  ·refine eX hI (by kernel_rfl) rfl (by omega) fun v S3 w' hE3 hv hI=>?_
   refine Run.callL iJ iF hI (tl (p:=p+1) (hrd.monoU (hE1.trans hE3).1) hv (by decide) (by omega)) rfl fun v' I' S3 w'=>?_
   rintro ⟨rfl,rfl,m,hm,rfl⟩ _ hI
   have hm:=zY (m:=7) hm (by decide)
   refine cT hI 0 rfl aW aN rfl rfl rfl fun w' hI=>?_
   exact hfin (hE1.trans hE3) (aM _) hk hn (by omega) (hR.monoR fun _ _ h=>RdT.mono hE3.1 h) (by omega) (aM _) hI
  refine bl ?_
  refine aH (fun _=>?_) (fun _=>?_)
  ·refine ⟨fun w'=>∃ (S2:ad) (kv:Value) (css:List (List Value)) (ks:List T),Ext w.heap.size [br] S S2/\Rows 4 (RdT S2) css ks/\ks.length<=t.kids.length+5/\wL ks<=wL t.kids/\
     Inv w [br] [.blk b5 (.cells #[.int .i64 k,.int .i64 n,.string s,kv] ab),aE kv ab 4 css,B4,rdI br sl (p+1)] S2 w',fun w'=>5 - y8 w' b5 3,⟨S1,_,css,t.kids,hE1,hR,by omega,aM _,hI⟩,?_⟩
   intro t40 t39 t38 t37 t36 t35 _ _ _ _ w'
   rintro ⟨S2,kv,css,ks,hE2,hR,hkl,hkw,hI⟩
   obtain ⟨a1,n1,q1,rfl,hn1⟩:∃ a m c,kv=.slice a m c/\m=ks.length:=by
    obtain ⟨S',_,_,_,hr⟩:=tG hI hR hk hn hs
    obtain ⟨a,q,rfl,_⟩:=hr
    exact ⟨a,_,q,rfl,rfl⟩
   subst hn1
   have hl1:=tw hI (i:=0) (o:=3) rfl rfl
   have hcl:=hR.hc
   refine ae hI 0 rfl av ao rfl ?_
   refine gL ah ?_
   refine eL ?_
   refine aH (fun hle=>?_) (fun hle=>?_)
   ·have hI:=hI
    refine ⟨fun D KL Pi JO Px MR MA w_=>Fx D 0 [MA=.pointer (some ⟨b5,3,none⟩),MR=.slice a1 ks.length q1,True,True,True,KL=.pointer (some ⟨b5,3,none⟩),True]/\∃ n_:Nat,n_<=4/\D 2=decide (1<=n_)/\D 3=decide (2<=n_)/\D 4=decide (3<=n_)/\D 6=decide (4<=n_)/\(D 6=true->D 1=true)/\(pS (Inv w [br] [.blk b5 (.cells #[.int .i64 k,.int .i64 n,.string s,.slice a1 ks.length q1] ab),aE (.slice a1 ks.length q1) ab 4 css,B4,rdI br sl (p+1)] S2 w_) (zK w [br] b5 #[.int .i64 k,.int .i64 n,.string s,.slice a1 ks.length q1] 3 ab (.slice a1 ks.length q1) css (fun p=>[B4,rdI br sl (p+1)]) (fun cs p' S'=>p'=p/\S'=S2/\RdT S2 cs (.mk 2 1 emptyB [])) Px JO Pi w_) n_),⟨Fx.nil _ _,⟨0,aR _,rfl,rfl,rfl,rfl,(aQ),hI.draw⟩⟩,⟨?_,?_,?_,?_,?_,?_,?_,trivial⟩,?_⟩
    all_goals (intro D bI; intros; rename_i KL Pi JO Px MR MA w_ hA_; have hF_:=hA_.1; obtain ⟨⟨cJ,cH,cK,cI,cN,cP,cz,_⟩,⟨n_,ln_,e1_,e2_,e3_,e4_,kp_,hS⟩⟩:=hA_)
    ·refine aC av ?_
     exact ⟨hF_.set 0 rfl,⟨n_,ln_,e1_,e2_,e3_,e4_,kp_,hS⟩⟩
    ·obtain rfl:=cJ ‹_›
     have ln2_:=Qn e4_ kp_ bI
     refine cA ao ((LD (fun h=>h.cellL (i:=0) rfl) (fun n hn h=>FB h hn) hS ln2_).trans rfl) ?_
     exact ⟨hF_.set 1 rfl,⟨n_,ln_,e1_,e2_,e3_,e4_,(fun _=>rfl),hS⟩⟩
    ·obtain rfl:n_=0:=Qp e1_ bI
     refine Run.callPure sG sM (L:=[.blk b5 _,aE _ ab 4 css,B4,rdI br sl (p+1)]) hS (lO 1 S2) fun w_ hI=>?_
     exact ⟨hF_.set 2 (by first|assumption|trivial),⟨1,by decide,rfl,(by first|exact e2_|rfl),(by first|exact e3_|rfl),(by first|exact e4_|rfl),kp_,Hg ⟨rfl,rfl,qb (by simp [inI]) (by simp [inI])⟩ (qb (by simp [inI]) (by simp [inI])) hI⟩⟩
    ·have RV:=cK ‹_›
     obtain rfl:n_=1:=wj e1_ ‹D 2=true› e2_ bI
     refine ap1 hS fun u w_ hS=>?_
     exact ⟨hF_.set 3 (by first|assumption|trivial),⟨2,by decide,(by first|exact e1_|rfl),rfl,(by first|exact e3_|rfl),(by first|exact e4_|rfl),kp_,hS⟩⟩
    ·obtain rfl:=cH ‹_›
     have UF:=cI ‹_›
     obtain rfl:n_=2:=wj e2_ ‹D 3=true› e3_ bI
     refine ap2 hS (by omega) fun u w_ hS=>?_
     exact ⟨hF_.set 4 (by first|assumption|trivial),⟨3,by decide,(by first|exact e1_|rfl),(by first|exact e2_|rfl),rfl,(by first|exact e4_|rfl),kp_,hS⟩⟩
    ·refine aC av ?_
     exact ⟨hF_.set 5 rfl,⟨n_,ln_,e1_,e2_,e3_,e4_,kp_,hS⟩⟩
    ·obtain rfl:=cP ‹_›
     have Ij:=cN ‹_›
     obtain rfl:n_=3:=wj e3_ ‹D 4=true› e4_ bI
     refine ap3 hS (by simp) fun w_ hS=>?_
     exact ⟨hF_.set 6 trivial,⟨4,by decide,(by first|exact e1_|rfl),(by first|exact e2_|rfl),(by first|exact e3_|rfl),rfl,(fun _=>‹D 1=true›),hS⟩⟩
    obtain rfl:n_=4:=P0 ln_ e4_ ‹D 6=true›
    clear e1_ e2_ e3_ e4_
    obtain ⟨p3,S7,cs,⟨rfl,rfl,hcs⟩,hl,hI⟩:=hS
    have hR2:=hR.snoc hcs hl.1
    refine ⟨⟨S7,_,_,_,hE2,hR2,by rw [bh]; simp only [bk,bG]; omega,by rw [mF]; have e:emptyB.size=0:=rfl; simp only [wL,wT,bG,e]; omega,hI⟩,?_⟩
    obtain ⟨S',_,_,_,hr⟩:=tG hI hR2 hk hn hs
    obtain ⟨a,q,e,_⟩:=hr
    have hl2:=tw hI (i:=0) (o:=3) (a:=a) (n:=(ks++[T.mk 2 1 emptyB []]).length) (m:=q) rfl (by rw [<- e]; rfl)
    show 5 - y8 w_ b5 3<5 - y8 w' b5 3
    rw [hl1,hl2,bh,bk,bG]
    omega
   ·exact hfin hE2 (by omega) hk hn (by omega) hR hkl hkw hI
  refine bl ?_
  refine aH (fun _=>?_) (fun _=>?_)
  ·obtain ⟨S2,hE2,hI,hr,_⟩:=tG hI hR hk hn hs
   have hI:Inv w [br] [.blk b5 (.cells #[.int .i64 k,.int .i64 n,.string s,.slice a0 n0 q0] ab),B4,rdI br sl (p+1)] S2 w':=hI
   have ht:T.mk k n s t.kids=t:=by rw [hk',hn',hs']; cases t; rfl
   rw [ht] at hr
   refine ⟨fun t6 w'=>∃ (j:Nat) (S3:ad) (cs1:List Value) (t1:T),t6=.int .i64 (j:Int)/\j<=30/\Ext w.heap.size [br] S S3/\RdT S3 cs1 t1/\wT t1<=wT t+2 * j/\Inv w [br] [.blk b5 (.cells cs1.toArray ab),B4,rdI br sl (p+1)] S3 w',fun t6 _=>30 - (intOf t6).toNat,
    ⟨0,S2,_,t,rfl,by omega,hE1.trans hE2,hr,by omega,hI⟩,?_⟩
   intro t6 _ _ _ _ _ _ _ w'
   rintro ⟨j,S3,cs1,t1,rfl,hj,hE3,hr,hw1,hI⟩
   refine bL ?_
   refine aH (fun hj'=>?_) (fun hj'=>?_)
   ·refine az hI 0 ac rfl (by simpa using hr.length) ?_
    refine d6 hI bA (by simp [Value.cells,hr.length]) (by omega) (by omega) fun b8 w' hI=>?_
    obtain ⟨S4,hI,hE4,hS⟩:=hI.pub1
    refine Run.call0E cV cU hI (dE ⟨#[115]⟩ (by decide) (R4 hS (hr.mono hE4.1)) (by simp)) fun v' I' S5 w'=>?_
    rintro ⟨rfl,cs2,rfl,hcs2⟩ hE5 hI
    have hI:Inv w [br] [.blk b5 (.cells cs1.toArray ab),B4,rdI br sl (p+1)] S5 w':=by simpa using hI
    refine aA hI 0 rfl ac (by simpa using hcs2.length) (by simpa using hr.length) (by simpa using hcs2.one) fun w' hI=>?_
    refine bn (by omega) ?_
    have e:(ByteArray.mk #[115]).size=1:=rfl
    exact ⟨⟨j+1,S5,cs2,_,rfl,by omega,hE3.trans (hE4.trans hE5),hcs2,by simp only [wT,wL,bk,bG,e]; omega,hI⟩,by simp only [intOf,dF]; omega⟩
   ·exact ⟨p+1,S3,cs1,t1,by omega,hE3,hr,by omega,hI⟩
  ·exact hfin hE1 (by omega) hk hn (by omega) hR (by omega) (aM _) hI
 intro _ _ _ _ _ _ _ _ _ _ _ _ _ _ _ _ _ _ _ _ _ _ _ _ _ _ _ _ _ _ _ _ _ _ _ _ _ _ _ _ _ _ w'
 rintro ⟨p1,S2,cs1,t1,hp1,hE2,hr,hw1,hI⟩
 subst hB4
 refine az hI 0 ac rfl (by simpa using hr.length) ?_
 refine aA hI 1 rfl ac (by simpa using hr.length) rfl (by simpa using hr.one) fun w' hI=>?_
 refine bw hI 1 ac rfl (by simpa using hr.length) ?_
 exact ⟨_,_,S2,rfl,hI.pick [false,false,true],hE2,p1,hp1,rfl,cs1,t1,rfl,hr,hw1⟩
end
end
section
open Go Go.RowKit
section
variable {w0 w:World} {X:List Nat} {L A:List Item} {S:ad} {K:Value->World->Prop} {P:Program}
theorem BM {b:Nat} {hd:List Value} {h:T} {kv:Value} {css:List (List Value)} {ks:List T} {o:Obj}
  (hI:Inv w0 X (.blk b o::aE kv ab 4 css::A) S w) (hR:Rows 4 (RdT S) css ks) (hh:RdT S hd h) :
  ∃ S',Ext w0.heap.size X S S'/\Inv w0 X (.blk b o::A) S' w/\RdC S' (hd++[kv]) ⟨h,ks⟩/\RdSl S' 4 (RdT S') kv ks:=by
 have hI:Inv w0 X ((.blk b o::A)++[aE kv ab 4 css]) S w:=hI.last 1 rfl
 obtain ⟨S',hE,hrd,hI⟩:=Inv.lendExt hI
 have hrs:=RowRd.rows (hR.monoR fun _ _ h=>RdT.mono hE.1 h) hrd
 exact ⟨S',hE,hI,⟨hd,kv,rfl,hh.mono hE.1,hrs⟩,hrs⟩
end
abbrev RF (br:Nat) (sl:Value) (p k m:Nat):Value->List Item->ad->Prop:=fun v I' S'=>∃ p',p'<=p+k/\I'=[rdI br sl p']/\∃ cs c,v=.agg cs.toArray/\RdC S' cs c/\wC c<=m
section
variable {br:Nat} {sl:Value} {ys:List Nat}
attribute [local irreducible] Run CondV aq aK
theorem B9 {p:Nat} {S:ad} {cs:List Value} {c:C} (hrd:RdSl S 1 jB sl ys) (h:RdC S cs c) (hw:wC c<=100000) (hp:p<=90000000) :
  Tri Tryz.prog Gt [rdP br,.agg cs.toArray] [rdI br sl p] S (RF br sl p 600 (wC c+700)):=by
 intro w hI
 have hl5:=h.length
 refine r5.2 ?_
 dsimp only[r5,aO]
 refine bp hI fun b3 w' hI=>?_
 refine aP hI dA fun b4 w' hI=>?_
 refine az hI 1 be rfl (by simpa [Value.cells] using hl5) ?_
 refine Run.call0E pn qM hI (M3 h (by omega)) fun v' I' S1 w'=>?_
 rintro ⟨hd,kv,css,rfl,hhd,rfl,hR⟩ hE1 hI
 have hE1:Ext w.heap.size [br] S S1:=hE1
 obtain ⟨a0,n0,q0,rfl⟩:=hI.rowSlice 3 rfl
 have hhd0:=hhd
 obtain ⟨k4,rfl,hk,hn,hs,_⟩:=RdT.iff.1 hhd
 obtain ⟨ak,nk,ck,hk4⟩:∃ a n c,k4=.slice a n c:=by
  obtain ⟨_,e,_,_,_,a,q,rfl,_⟩:=RdT.iff.1 hhd0
  simp only [jl,jP,sy] at e
  exact ⟨_,_,_,e⟩
 subst hk4
 refine aP hI dA fun b5 w' hI=>?_
 refine aA hI 4 rfl be rfl rfl (by simp [Value.oneCell']) fun w' hI=>?_
 obtain ⟨B4,hB4⟩:∃ B4,B4=Item.blk b4 (.cells #[.int .i64 0,.int .i64 0,.string ⟨#[]⟩,.slice none 0 0,.slice none 0 0] ag):=⟨_,rfl⟩
 have hI:Inv w [br] [.blk b5 (.cells #[.int .i64 c.head.kind,.int .i64 c.head.n,.string c.head.name,.slice ak nk ck,.slice a0 n0 q0] ag),aE (.slice a0 n0 q0) ab 4 css,B4,rdI br sl p] S1 w':=by
  rw [hB4]
  exact (((hI.pick [true,false,true,true,true]).last 2 rfl).last 1 rfl).last 0 rfl
 have hwc:wC c=wT c.head+c.body.length+wL c.body:=rfl
 refine ⟨fun w'=>∃ (p1:Nat) (S2:ad) (cs1:List Value) (c1:C),p1<=p+600/\Ext w.heap.size [br] S S2/\RdC S2 cs1 c1/\wC c1<=wC c+700/\Inv w [br] [.blk b5 (.cells cs1.toArray ag),B4,rdI br sl p1] S2 w',?_,?_⟩
 ·have hfin:∀ {hd:List Value} {h:T} {p1:Nat} {w':World} {S1:ad} {css:List (List Value)} {kv:Value} {ks:List T},Ext w.heap.size [br] S S1->p1<=p+600->RdT S1 hd h->Rows 4 (RdT S1) css ks->wT h+ks.length+wL ks<=wC c+700->
    Inv w [br] [.blk b5 (.cells (hd++[kv]).toArray ag),aE kv ab 4 css,B4,rdI br sl p1] S1 w'->
    ∃ (p1:Nat) (S2:ad) (cs1:List Value) (c1:C),p1<=p+600/\Ext w.heap.size [br] S S2/\RdC S2 cs1 c1/\wC c1<=wC c+700/\Inv w [br] [.blk b5 (.cells cs1.toArray ag),B4,rdI br sl p1] S2 w':=by
   intro hd h p1 w' S1 css kv ks hE hp1 hh hR hwn hI
   obtain ⟨S2,hE2,hI,hr,_⟩:=BM hI hR hh
   exact ⟨p1,S2,_,_,hp1,hE.trans hE2,hr,hwn,hI⟩
  refine Run.callL bK bJ hI (cY (n:=40) (hrd.monoU hE1.1) (by omega) (by omega)) rfl fun v' I' S1 w'=>?_
  rintro ⟨rfl,rfl,kk,hkk,rfl⟩ _ hI
  refine bl ?_
  refine aH (fun _=>?_) (fun _=>?_)
  ·refine Run.callL xX xV hI (vg (p:=p+1) (hrd.monoU hE1.1) (by omega)) rfl fun v' I' S2 w'=>?_
   rintro ⟨p2,hp2,rfl,cs2,t2,rfl,hr2,hw2⟩ hE2 hI
   refine Run.callL lV lT hI (kl (p:=p2) (hrd.monoU (hE1.trans hE2).1) hr2 (by omega) (by omega)) rfl fun v' I' S3 w'=>?_
   rintro ⟨p3,hp3,rfl,cs3,t3,rfl,hr3,hw3⟩ hE3 hI
   have hr3':=hr3
   obtain ⟨k3,rfl,_,_,_,a3,q3,rfl,_⟩:=RdT.iff.1 hr3
   refine aC bZ ?_
   refine PD hI 0 rfl ac rfl rfl (by simp [Value.cells,Value.oneCell']) fun w' hI=>?_
   exact hfin ((hE1.trans hE2).trans hE3) (by omega) hr3' (hR.monoR fun _ _ h=>RdT.mono (hE2.trans hE3).1 h) (by omega) hI
  refine bl ?_
  refine aH (fun _=>?_) (fun _=>?_)
  ·have hcl:=hR.hc
   have hI:=hI
   refine ⟨fun D Ak qm ge pu z5 Cm s5 pf pH w_=>Fx D 0 [pH=.pointer (some ⟨b5,4,none⟩),pf=.slice a0 n0 q0,s5=rdP br,Cm=rdP br,True,True,True,True,Ak=.pointer (some ⟨b5,4,none⟩),True]/\∃ n_:Nat,n_<=5/\D 4=decide (1<=n_)/\D 5=decide (2<=n_)/\D 6=decide (3<=n_)/\D 7=decide (4<=n_)/\D 9=decide (5<=n_)/\(D 9=true->D 1=true)/\(pS (Inv w [br] [.blk b5 (.cells #[.int .i64 c.head.kind,.int .i64 c.head.n,.string c.head.name,.slice ak nk ck,.slice a0 n0 q0] ag),aE (.slice a0 n0 q0) ab 4 css,B4,rdI br sl (p+1)] S1 w_) (pS (∃ p1 S2 cs t,z5=.agg cs.toArray/\RdT S2 cs t/\wT t<=500/\p1<=p+501/\Ext w.heap.size [br] S1 S2/\Inv w [br] [.blk b5 (.cells #[.int .i64 c.head.kind,.int .i64 c.head.n,.string c.head.name,.slice ak nk ck,.slice a0 n0 q0] ag),aE (.slice a0 n0 q0) ab 4 css,B4,rdI br sl p1] S2 w_) (zK w [br] b5 #[.int .i64 c.head.kind,.int .i64 c.head.n,.string c.head.name,.slice ak nk ck,.slice a0 n0 q0] 4 ag (.slice a0 n0 q0) css (fun p=>[B4,rdI br sl p]) (fun cs p' S'=>∃ t,RdT S' cs t/\wT t<=600/\p'<=p+503/\Ext w.heap.size [br] S1 S') pu ge qm w_)) n_),⟨Fx.nil _ _,⟨0,aR _,rfl,rfl,rfl,rfl,rfl,(aQ),hI.draw⟩⟩,⟨?_,?_,?_,?_,?_,?_,?_,?_,?_,?_,trivial⟩,?_⟩
   all_goals (intro D bI; intros; rename_i Ak qm ge pu z5 Cm s5 pf pH w_ hA_; have hF_:=hA_.1; obtain ⟨⟨cJ,cH,cK,cI,cN,cP,cz,dC,ek,fZ,_⟩,⟨n_,ln_,e1_,e2_,e3_,e4_,e5_,kp_,hS⟩⟩:=hA_)
   ·refine aC bo ?_
    exact ⟨hF_.set 0 rfl,⟨n_,ln_,e1_,e2_,e3_,e4_,e5_,kp_,hS⟩⟩
   ·obtain rfl:=cJ ‹_›
    have ln2_:=Qn e5_ kp_ bI
    refine cA ao ((Qi (fun h=>h.cellL (i:=0) rfl) (fun ⟨_,_,_,_,_,_,_,_,_,h⟩=>h.cellL (i:=0) rfl) (fun n hn h=>FB h hn) hS ln2_).trans rfl) ?_
    exact ⟨hF_.set 1 rfl,⟨n_,ln_,e1_,e2_,e3_,e4_,e5_,(fun _=>rfl),hS⟩⟩
   ·exact ⟨hF_.set 2 rfl,⟨n_,ln_,e1_,e2_,e3_,e4_,e5_,kp_,hS⟩⟩
   ·exact ⟨hF_.set 3 rfl,⟨n_,ln_,e1_,e2_,e3_,e4_,e5_,kp_,hS⟩⟩
   ·obtain rfl:=cI ‹_›
    obtain rfl:n_=0:=Qp e1_ bI
    refine Run.callL xX xV (L:=[.blk b5 _,aE _ ab 4 css,B4,rdI br sl (p+1)]) hS (vg (p:=p+1) (hrd.monoU hE1.1) (by omega)) rfl fun v' I' S2 w_=>?_
    rintro ⟨p2,hp2,rfl,cs2,t2,rfl,hr2,hw2⟩ hE2 hI
    exact ⟨hF_.set 4 (by first|assumption|trivial),⟨1,by decide,rfl,(by first|exact e2_|rfl),(by first|exact e3_|rfl),(by first|exact e4_|rfl),(by first|exact e5_|rfl),kp_,⟨p2,S2,cs2,t2,rfl,hr2,hw2,by omega,hE2,hI⟩⟩⟩
   ·obtain rfl:=cK ‹_›
    have Ij:=cN ‹_›
    obtain rfl:n_=1:=wj e1_ ‹D 4=true› e2_ bI
    obtain ⟨p2,S2,cs2,t2,rfl,hr2,hw2,hp2,hE2,hI⟩:=Ey hS
    refine Run.callL lV lT (L:=[.blk b5 _,aE _ ab 4 css,B4,rdI br sl p2]) hI (kl (p:=p2) (hrd.monoU (hE1.trans hE2).1) hr2 (by omega) (by omega)) rfl fun v' I' S3 w_=>?_
    rintro ⟨p3,hp3,rfl,cs3,t3,rfl,hr3,hw3⟩ hE3 hI
    exact ⟨hF_.set 5 (by first|assumption|trivial),⟨2,by decide,(by first|exact e1_|rfl),rfl,(by first|exact e3_|rfl),(by first|exact e4_|rfl),(by first|exact e5_|rfl),kp_,Md (Hg ⟨t3,hr3,by omega,by omega,hE2.trans hE3⟩ hr3 hI)⟩⟩
   ·have NN:=cP ‹_›
    obtain rfl:n_=2:=wj e2_ ‹D 5=true› e3_ bI
    refine ap1 (Ey hS) fun u w_ hS=>?_
    exact ⟨hF_.set 6 (by first|assumption|trivial),⟨3,by decide,(by first|exact e1_|rfl),(by first|exact e2_|rfl),rfl,(by first|exact e4_|rfl),(by first|exact e5_|rfl),kp_,Md hS⟩⟩
   ·obtain rfl:=cH ‹_›
    have M9:=cz ‹_›
    obtain rfl:n_=3:=wj e3_ ‹D 6=true› e4_ bI
    refine ap2 (Ey hS) (by omega) fun u w_ hS=>?_
    exact ⟨hF_.set 7 (by first|assumption|trivial),⟨4,by decide,(by first|exact e1_|rfl),(by first|exact e2_|rfl),(by first|exact e3_|rfl),rfl,(by first|exact e5_|rfl),kp_,Md hS⟩⟩
   ·refine aC bo ?_
    exact ⟨hF_.set 8 rfl,⟨n_,ln_,e1_,e2_,e3_,e4_,e5_,kp_,hS⟩⟩
   ·obtain rfl:=ek ‹_›
    have PT:=dC ‹_›
    obtain rfl:n_=4:=wj e4_ ‹D 7=true› e5_ bI
    refine ap3 (Ey hS) (by simp) fun w_ hS=>?_
    exact ⟨hF_.set 9 trivial,⟨5,by decide,(by first|exact e1_|rfl),(by first|exact e2_|rfl),(by first|exact e3_|rfl),(by first|exact e4_|rfl),rfl,(fun _=>‹D 1=true›),Md hS⟩⟩
   obtain rfl:n_=5:=P0 ln_ e5_ ‹D 9=true›
   clear e1_ e2_ e3_ e4_ e5_
   obtain ⟨p3,S7,cs,⟨t,hcs,hwt,hp3,hE7⟩,hl,hI⟩:=Ey (Ey hS)
   exact hfin (hE1.trans hE7) (by omega) (hhd0.mono hE7.1) ((hR.monoR fun _ _ h=>RdT.mono hE7.1 h).snoc hcs hl.1) (by rw [mF,bh,bk,bG]; simp only [wL]; omega) hI
  refine bl ?_
  refine aH (fun _=>?_) (fun _=>?_)
  ·refine ⟨fun w'=>∃ (S2:ad) (kv:Value) (css:List (List Value)) (ks:List T),Ext w.heap.size [br] S S2/\Rows 4 (RdT S2) css ks/\ks.length<=c.body.length+7/\wL ks+4 * (7 - (ks.length - c.body.length))<=wL c.body+28/\c.body.length<=ks.length/\
     RdT S2 [.int .i64 c.head.kind,.int .i64 c.head.n,.string c.head.name,.slice ak nk ck] c.head/\
     Inv w [br] [.blk b5 (.cells #[.int .i64 c.head.kind,.int .i64 c.head.n,.string c.head.name,.slice ak nk ck,kv] ag),aE kv ab 4 css,B4,rdI br sl (p+1)] S2 w',fun w'=>7 - y8 w' b5 4,⟨S1,_,css,c.body,hE1,hR,by omega,by omega,by omega,hhd0,hI⟩,?_⟩
   intro t39 t38 t37 t36 t35 t34 _ _ _ _ w'
   rintro ⟨S2,kv,css,ks,hE2,hR,hkl,hkw,hkb,hhd,hI⟩
   obtain ⟨a1,n1,q1,rfl,hn1⟩:∃ a m c,kv=.slice a m c/\m=ks.length:=by
    obtain ⟨S',_,_,_,hr⟩:=BM hI hR hhd
    obtain ⟨a,q,rfl,_⟩:=hr
    exact ⟨a,_,q,rfl,rfl⟩
   subst hn1
   have hl1:=tw hI (i:=0) (o:=4) rfl rfl
   have hcl:=hR.hc
   refine ae hI 0 rfl bo ao rfl ?_
   refine gL ah ?_
   refine eL ?_
   refine aH (fun hle=>?_) (fun hle=>?_)
   ·have hI:=hI
    refine ⟨fun D Pi JO Px MR MA NR w_=>Fx D 0 [NR=.pointer (some ⟨b5,4,none⟩),MA=.slice a1 ks.length q1,True,True,True,Pi=.pointer (some ⟨b5,4,none⟩),True]/\∃ n_:Nat,n_<=4/\D 2=decide (1<=n_)/\D 3=decide (2<=n_)/\D 4=decide (3<=n_)/\D 6=decide (4<=n_)/\(D 6=true->D 1=true)/\(pS (Inv w [br] [.blk b5 (.cells #[.int .i64 c.head.kind,.int .i64 c.head.n,.string c.head.name,.slice ak nk ck,.slice a1 ks.length q1] ag),aE (.slice a1 ks.length q1) ab 4 css,B4,rdI br sl (p+1)] S2 w_) (zK w [br] b5 #[.int .i64 c.head.kind,.int .i64 c.head.n,.string c.head.name,.slice ak nk ck,.slice a1 ks.length q1] 4 ag (.slice a1 ks.length q1) css (fun p=>[B4,rdI br sl (p+1)]) (fun cs p' S'=>p'=p/\Ext w.heap.size [br] S2 S'/\RdT S' cs (.mk 3 0 ⟨#[116,114,117,101]⟩ [])) MR Px JO w_) n_),⟨Fx.nil _ _,⟨0,aR _,rfl,rfl,rfl,rfl,(aQ),hI.draw⟩⟩,⟨?_,?_,?_,?_,?_,?_,?_,trivial⟩,?_⟩
    all_goals (intro D bI; intros; rename_i Pi JO Px MR MA NR w_ hA_; have hF_:=hA_.1; obtain ⟨⟨cJ,cH,cK,cI,cN,cP,cz,_⟩,⟨n_,ln_,e1_,e2_,e3_,e4_,kp_,hS⟩⟩:=hA_)
    ·refine aC bo ?_
     exact ⟨hF_.set 0 rfl,⟨n_,ln_,e1_,e2_,e3_,e4_,kp_,hS⟩⟩
    ·obtain rfl:=cJ ‹_›
     have ln2_:=Qn e4_ kp_ bI
     refine cA ao ((LD (fun h=>h.cellL (i:=0) rfl) (fun n hn h=>FB h hn) hS ln2_).trans rfl) ?_
     exact ⟨hF_.set 1 rfl,⟨n_,ln_,e1_,e2_,e3_,e4_,(fun _=>rfl),hS⟩⟩
    ·obtain rfl:n_=0:=Qp e1_ bI
     refine Run.call0E cV cU (L:=[.blk b5 _,aE _ ab 4 css,B4,rdI br sl (p+1)]) hS (dE ⟨#[116,114,117,101]⟩ (by decide) (iL S2) (by simp)) fun v' I' S3 w_=>?_
     rintro ⟨rfl,cs3,rfl,hcs3⟩ hE3 hI
     exact ⟨hF_.set 2 (by first|assumption|trivial),⟨1,by decide,rfl,(by first|exact e2_|rfl),(by first|exact e3_|rfl),(by first|exact e4_|rfl),kp_,Hg ⟨rfl,hE3,hcs3⟩ hcs3 hI⟩⟩
    ·have RV:=cK ‹_›
     obtain rfl:n_=1:=wj e1_ ‹D 2=true› e2_ bI
     refine ap1 hS fun u w_ hS=>?_
     exact ⟨hF_.set 3 (by first|assumption|trivial),⟨2,by decide,(by first|exact e1_|rfl),rfl,(by first|exact e3_|rfl),(by first|exact e4_|rfl),kp_,hS⟩⟩
    ·obtain rfl:=cH ‹_›
     have UF:=cI ‹_›
     obtain rfl:n_=2:=wj e2_ ‹D 3=true› e3_ bI
     refine ap2 hS (by omega) fun u w_ hS=>?_
     exact ⟨hF_.set 4 (by first|assumption|trivial),⟨3,by decide,(by first|exact e1_|rfl),(by first|exact e2_|rfl),rfl,(by first|exact e4_|rfl),kp_,hS⟩⟩
    ·refine aC bo ?_
     exact ⟨hF_.set 5 rfl,⟨n_,ln_,e1_,e2_,e3_,e4_,kp_,hS⟩⟩
    ·obtain rfl:=cP ‹_›
     have Ij:=cN ‹_›
     obtain rfl:n_=3:=wj e3_ ‹D 4=true› e4_ bI
     refine ap3 hS (by simp) fun w_ hS=>?_
     exact ⟨hF_.set 6 trivial,⟨4,by decide,(by first|exact e1_|rfl),(by first|exact e2_|rfl),(by first|exact e3_|rfl),rfl,(fun _=>‹D 1=true›),hS⟩⟩
    obtain rfl:n_=4:=P0 ln_ e4_ ‹D 6=true›
    clear e1_ e2_ e3_ e4_
    obtain ⟨p3,S7,cs,⟨rfl,hE7,hcs⟩,hl,hI⟩:=hS
    have hR2:=(hR.monoR fun _ _ h=>RdT.mono hE7.1 h).snoc hcs hl.1
    have e4:(ByteArray.mk #[116,114,117,101]).size=4:=rfl
    refine ⟨⟨S7,_,_,_,hE2.trans hE7,hR2,by rw [bh]; simp only [bk,bG]; omega,by rw [mF,bh,bk,bG]; simp only [wL,wT,bG,e4]; omega,by rw [bh]; omega,hhd.mono hE7.1,hI⟩,?_⟩
    obtain ⟨S',_,_,_,hr⟩:=BM hI hR2 (hhd.mono hE7.1)
    obtain ⟨a,q,e,_⟩:=hr
    have hl2:=tw hI (i:=0) (o:=4) (a:=a) (n:=(ks++[T.mk 3 0 ⟨#[116,114,117,101]⟩ []]).length) (m:=q) rfl (by rw [<- e]; rfl)
    show 7 - y8 w_ b5 4<7 - y8 w' b5 4
    rw [hl1,hl2,bh,bk,bG]
    omega
   ·exact hfin hE2 (by omega) hhd hR (by omega) hI
  refine bl ?_
  refine aH (fun _=>?_) (fun _=>?_)
  ·refine eX hI (by kernel_rfl) rfl (by omega) fun v S3 w' hE3 hv hI=>?_
   refine Run.callL iJ iF hI (tl (p:=p+1) (hrd.monoU (hE1.trans hE3).1) hv (by decide) (by omega)) rfl fun v' I' S3 w'=>?_
   rintro ⟨rfl,rfl,m,hm,rfl⟩ _ hI
   have hm:=zY (m:=7) hm (by decide)
   refine aC bZ ?_
   refine aC aW ?_
   refine df hI 0 (n:=1) rfl (by decide +kernel) rfl (by simp) (by simp [Value.cells,Value.oneCell']) fun w' hI=>?_
   have hr0:=hhd0.mono hE3.1
   obtain ⟨k3,e3,_,_,_,hk3⟩:=RdT.iff.1 hr0
   have hr1:RdT S3 [.int .i64 c.head.kind,.int .i64 c.head.n,.string m,.slice ak nk ck] (.mk c.head.kind c.head.n m c.head.kids):=by
    simp only [jl,jP,sy] at e3
    exact RdT.iff.2 ⟨_,rfl,hk,hn,by simp only [T.name,maxLen]; omega,e3 ▸ hk3⟩
   refine hfin (hE1.trans hE3) (by omega) hr1 (hR.monoR fun _ _ h=>RdT.mono hE3.1 h) ?_ hI
   have:wT c.head=c.head.name.size+c.head.kids.length+wL c.head.kids:=by cases c.head; rw [wT]; rfl
   rw [wT]
   omega
  ·exact hfin hE1 (by omega) hhd0 hR (by omega) hI
 intro _ _ _ _ _ _ _ _ _ _ _ _ _ _ _ _ _ _ _ _ _ _ _ _ _ _ _ _ _ _ _ _ _ _ _ _ _ _ _ w'
 rintro ⟨p1,S2,cs1,c1,hp1,hE2,hr,hw1,hI⟩
 subst hB4
 refine az hI 0 be rfl (by simpa using hr.length) ?_
 refine aA hI 1 rfl be (by simpa using hr.length) rfl (by simpa using hr.one) fun w' hI=>?_
 refine bw hI 1 be rfl (by simpa using hr.length) ?_
 exact ⟨_,_,S2,rfl,hI.pick [false,false,true],hE2,p1,hp1,rfl,cs1,c1,rfl,hr,hw1⟩
end
end
section
open Go Go.RowKit
def Light (n m:Nat) (q:List C):Prop:=q.length<=n/\∀ c∈q,wC c<=m
theorem Light.le {n m:Nat} {q:List C} (h:Light n m q):q.length+wP q<=n+n * m:=by
 have:∀ q:List C,(∀ c∈q,wC c<=m)->wP q<=q.length * m:=by
  intro q
  induction q with
  | nil=>intro _; simp [wP]
  | cons c q ih=>
   intro h
   have h1:=h c (bq ..)
   have h2:=ih fun d hd=>h d (bv _ hd)
   simp only [wP,bk,jc]
   omega
 have h1:=this q h.2
 have h2:q.length * m<=n * m:=iy _ h.1
 have:=h.1
 omega
theorem Light.append {n n' m:Nat} {q q':List C} (h:Light n m q) (h':Light n' m q'):Light (n+n') m (q++q'):=
 ⟨by rw [bh]; exact Nat.add_le_add h.1 h'.1,fun c hc=>(cd.1 hc).elim (h.2 c) (h'.2 c)⟩
abbrev RX (br:Nat) (sl:Value) (p k n m:Nat):Value->List Item->ad->Prop:=fun v I' S'=>∃ p',p'<=p+k/\I'=[rdI br sl p']/\∃ q,RdSl S' 5 (RdC S') v q/\Light n m q
abbrev Sb (br:Nat) (sl:Value) (p k n m:Nat):Value->List Item->ad->Prop:=fun v I' S'=>∃ p' css q,p'<=p+k/\I'=[aE v ag 5 css,rdI br sl p']/\Rows 5 (RdC S') css q/\Light n m q/\0<q.length/\∀ c∈q,bX c=true
section
variable {w0 w:World} {X:List Nat} {L A:List Item} {S:ad}
theorem qy {v:Value} {css:List (List Value)} {q:List C} (hI:Inv w0 X (aE v ag 5 css::A) S w) (hR:Rows 5 (RdC S) css q) :
  ∃ S',Ext w0.heap.size X S S'/\Inv w0 X A S' w/\RdSl S' 5 (RdC S') v q:=by
 have hI:Inv w0 X (A++[aE v ag 5 css]) S w:=hI.last 0 rfl
 obtain ⟨S',hE,hrd,hI⟩:=Inv.lendExt hI
 exact ⟨S',hE,hI,RowRd.rows (hR.monoR fun _ _ h=>RdC.mono hE.1 h) hrd⟩
end
section
variable {br:Nat} {sl:Value} {ys:List Nat}
attribute [local irreducible] Run CondV aq aK
theorem Tj:wC ⟨.mk 3 0 ⟨#[122]⟩ [],[]⟩=1:=by
 have e:(ByteArray.mk #[122]).size=1:=rfl
 simp only [wC,wT,wL,bG,e]
theorem vG {p m:Nat} {S:ad} {v:Value} {q:List C} (hrd:RdSl S 1 jB sl ys) (h:RdSl S 5 (RdC S) v q) (hq:Light 30 m q) (h0:0<q.length) (hm:m<=2000) (hp:p<=50000000) :
  Tri Tryz.prog zJ [rdP br,v] [rdI br sl p] S (RX br sl p 20000 30 (m+700)):=by
 intro w hI
 refine mB.2 ?_
 dsimp only[mB,aO]
 have hql:=hq.1
 refine d3 hI de fun v0 w' hI=>?_
 have hI:Inv w [br] [aE v0 ag 5 [],rdI br sl p] S w':=hI.last 0 rfl
 refine ⟨fun a b w'=>∃ (j p1:Nat) (S1:ad) (css:List (List Value)) (q1:List C),a=.int .i64 (j:Int)/\j<=q.length/\q1.length=j/\p1<=p+600 * j/\Ext w.heap.size [br] S S1/\Rows 5 (RdC S1) css q1/\(∀ c∈q1,wC c<=m+700)/\Inv w [br] [aE b ag 5 css,rdI br sl p1] S1 w',
  fun a _ _=>q.length - (intOf a).toNat,⟨0,p,S,[],[],rfl,aR _,rfl,by omega,Ext.refl _ _ _,Rows.nil _ _,by simp,hI⟩,?_⟩
 intro t6 _ _ t5 _ _ _ _ _ _ _ _ _ _ _ _ _ w'
 rintro ⟨j,p1,S1,css,q1,rfl,hj,hq1,hp1,hE1,hR,hqw,hI⟩
 have hcl:=hR.hc
 have h':=h.monoC hE1.1
 refine aF h' bi ?_
 refine bL ?_
 refine aH (fun hjl=>?_) (fun hjl=>?_)
 ·have hj':j<q.length:=by omega
  refine cj hI h' bi be hj' (fun _ _=>RdC.length) fun cs hcs=>?_
  have hwc:=hq.2 _ (bQ hj')
  refine Run.callL DK CP hI (B9 (p:=p1) (hrd.monoU hE1.1) hcs (by omega) (by omega)) rfl fun v' I' S2 w'=>?_
  rintro ⟨p2,hp2,rfl,ds,d,rfl,hds,hwd⟩ hE2 hI
  refine cM (css:=css) hI 0 _ de (by omega) (by omega) rfl hds.length hds.one (by omega) (by omega) fun v' w' hI=>?_
  refine bn (by omega) ?_
  have hpn:p2<=p+600 * (j+1):=il hp2 (il (Nat.add_le_add_right hp1 600) (by rw [Nat.mul_add,Nat.add_assoc]; exact aM _))
  exact ⟨⟨j+1,p2,S2,_,q1++[d],rfl,hj',by simp only [bh,hq1,bk,bG,cZ],hpn,hE1.trans hE2,(hR.monoR fun _ _ h=>RdC.mono hE2.1 h).snoc hds hds.length,fun c hc=>(cd.1 hc).elim (hqw c) (fun hc=>by simp only [bY] at hc; subst hc; omega),hI⟩,
   by simp only [intOf,dF]; omega⟩
 refine ⟨fun v w'=>∃ (p1:Nat) (S1:ad) (q1:List C),p1<=p+20000/\Ext w.heap.size [br] S S1/\RdSl S1 5 (RdC S1) v q1/\Light 30 (m+700) q1/\Inv w [br] [rdI br sl p1] S1 w',?_,?_⟩
 ·refine Run.callL bK bJ hI (cY (n:=30) (hrd.monoU hE1.1) (by omega) (by omega)) rfl fun v' I' S1 w'=>?_
  rintro ⟨rfl,rfl,kk,hkk,rfl⟩ _ hI
  have hI:Inv w [br] [aE t5 ag 5 css,rdI br sl (p1+1)] S1 w':=hI
  refine bl ?_
  refine aH (fun _=>?_) (fun _=>?_)
  ·refine ⟨fun b w'=>∃ (S2:ad) (css:List (List Value)) (q1:List C),q1.length<=30/\Ext w.heap.size [br] S S2/\Rows 5 (RdC S2) css q1/\(∀ c∈q1,wC c<=m+700)/\Inv w [br] [aE b ag 5 css,rdI br sl (p1+1)] S2 w',
    fun b _=>30 - lenOf b,⟨S1,css,q1,by omega,hE1,hR,hqw,hI⟩,?_⟩
   intro t5 _ _ _ _ _ _ _ _ w'
   rintro ⟨S2,css,q1,hq1,hE2,hR,hqw,hI⟩
   have hlen:∀ {w':World} {S2:ad} {t5:Value} {css:List (List Value)} {q1:List C},Inv w [br] [aE t5 ag 5 css,rdI br sl (p1+1)] S2 w'->Rows 5 (RdC S2) css q1->∃ a m,t5=.slice a q1.length m:=by
    intro w' S2 t5 css q1 hI hR
    obtain ⟨_,_,_,a,m,e,_⟩:=qy hI hR
    exact ⟨a,m,e⟩
   obtain ⟨a1,m1,rfl⟩:=hlen hI hR
   have hcl:=hR.hc
   refine gL bi ?_
   refine eL ?_
   refine aH (fun hle=>?_) (fun hle=>?_)
   ·refine Run.call0E cV cU hI (dE ⟨#[122]⟩ (by decide) (iL S2) (by simp)) fun v' I' S3 w'=>?_
    rintro ⟨rfl,cs3,rfl,hcs3⟩ hE3 hI
    obtain ⟨k3,rfl,_,_,_,a3,q3,rfl,_⟩:=RdT.iff.1 hcs3
    refine kS ?_
    have hds:RdC S3 [.int .i64 3,.int .i64 0,.string ⟨#[122]⟩,.slice a3 0 q3,.slice none 0 0] ⟨.mk 3 0 ⟨#[122]⟩ [],[]⟩:=⟨[.int .i64 3,.int .i64 0,.string ⟨#[122]⟩,.slice a3 0 q3],_,rfl,hcs3,iL S3⟩
    refine cM (css:=css) hI 0 [.int .i64 3,.int .i64 0,.string ⟨#[122]⟩,.slice a3 0 q3,.slice none 0 0] de (by omega) (by omega) rfl rfl hds.one (by omega) (by omega) fun v' w' hI=>?_
    have hI:Inv w [br] [aE v' ag 5 (css++[_]),rdI br sl (p1+1)] S3 w':=hI
    have hR2:=(hR.monoR fun _ _ h=>RdC.mono hE3.1 h).snoc hds rfl
    obtain ⟨a2,m2,rfl⟩:=hlen hI hR2
    refine ⟨⟨S3,_,_,by rw [bh]; simp only [bk,bG]; omega,hE2.trans hE3,hR2,fun c hc=>(cd.1 hc).elim (hqw c) (fun hc=>by simp only [bY] at hc; subst hc; rw [Tj]; omega),hI⟩,?_⟩
    simp only [lenOf,bh,bk,bG]
    omega
   ·obtain ⟨S3,hE3,hI,hr⟩:=qy hI hR
    exact ⟨_,S3,q1,by omega,hE2.trans hE3,hr,⟨hq1,hqw⟩,hI⟩
  ·obtain ⟨S3,hE3,hI,hr⟩:=qy hI hR
   refine bl ?_
   refine aH (fun _=>?_) (fun _=>?_)
   ·refine xT (l:=1) bi hr (by omega) fun u hu=>?_
    exact ⟨_,S3,_,by omega,hE1.trans hE3,hu,⟨by rw [xS]; omega,fun c hc=>hqw c (List.mem_of_mem_drop hc)⟩,hI⟩
   ·exact ⟨_,S3,q1,by omega,hE1.trans hE3,hr,⟨by omega,hqw⟩,hI⟩
 intro _ _ _ _ t5 _ _ _ _ _ _ _ _ _ _ _ _ w'
 rintro ⟨p2,S2,q2,hp2,hE2,hr,hl,hI⟩
 exact ⟨_,_,S2,rfl,hI,hE2,p2,hp2,rfl,q2,hr,hl⟩
end
end
section
open Go Go.RowKit
def okS (s:ByteArray):Bool:=Oh (bs s) && decide (s.size<=1000)
theorem Od {s:ByteArray} (h:okS s=true):∃ q,Mp 60 (bs s)=some q/\0<q.length/\Light 8 200 q/\(∀ c∈q,bX c=true)/\s.size<=1000:=by
 rw [okS,bN,bC] at h
 obtain ⟨h,hs⟩:=h
 unfold Oh at h
 split at h
 ·rename_i q hq
  simp only [bN,bC,ed] at h
  exact ⟨q,hq,h.1,⟨h.2.1,fun c hc=>(h.2.2 c hc).2⟩,fun c hc=>(h.2.2 c hc).1,hs⟩
 ·cases h
section
attribute [local irreducible] Run CondV aq aK
theorem Ee {S:ad} {s:ByteArray} (h:okS s=true):Tri Tryz.prog mA [.string s] [] S fun v I' S'=>∃ u css q,v=.tuple #[u,.bool true]/\I'=[aE u ag 5 css]/\Rows 5 (RdC S') css q/\0<q.length/\Light 8 200 q/\∀ c∈q,bX c=true:=by
 obtain ⟨q,hq,h0,hl,hc,hs⟩:=Od h
 intro w hI
 have hb:(bs s).length=s.size:=(kU (bs s)).symm
 refine (sz (f:=60) (by omega) hq (by rw [hb]; omega) w hI).mono ?_
 rintro e w' ⟨v,I',S',rfl,hI,hE,u,css,rfl,rfl,hR⟩
 exact ⟨_,_,S',rfl,hI,hE,u,css,q,rfl,rfl,hR,h0,hl,hc⟩
theorem rU (S:ad):Tri Tryz.prog Jn [] [] S fun v I' S'=>I'=[]/\∃ l,RdSl S' 1 oP v l/\l.length=11/\l.all okS=true:=by
 intro w hI
 refine vR.2 ?_
 dsimp only[vR,oJ]
 refine eX hI (by kernel_rfl) rfl (by omega) fun v S1 w' hE1 hv hI=>?_
 exact ⟨_,[],S1,rfl,hI,hE1,rfl,_,hv,rfl,by decide +kernel⟩
variable {br:Nat} {sl:Value} {ys:List Nat}
theorem zw {p:Nat} {S:ad} (hrd:RdSl S 1 jB sl ys) (hp:p<=100000000):Tri Tryz.prog C8 [rdP br] [rdI br sl p] S (Sb br sl p 1 8 200):=by
 intro w hI
 refine pX.2 ?_
 dsimp only[pX,aG]
 refine Run.call0E u6 tT hI (rU S) fun v' I' S1 w'=>?_
 rintro ⟨rfl,l,hl,hl11,hok⟩ hE1 hI
 have hI:Inv w [br] [rdI br sl p] S1 w':=hI
 refine aF hl bM ?_
 refine Run.callL bK bJ hI (cY (n:=l.length) (hrd.monoU hE1.1) (by omega) (by omega)) rfl fun v' I' S1 w'=>?_
 rintro ⟨rfl,rfl,k,hk,rfl⟩ _ hI
 have hI:Inv w [br] [rdI br sl (p+1)] S1 w':=hI
 refine hY hI hl bM aN hk (fun cs hcs=>hcs) ?_
 rw [ed] at hok
 refine Run.call0E lp kG hI (Ee (hok _ (bQ hk))) fun v I' S2 w'=>?_
 rintro ⟨u,css,q,rfl,rfl,hR,h0,hq,hcv⟩ hE2 hI
 refine al (v:=u) rfl ?_
 refine al (v:=.bool true) rfl ?_
 exact ⟨_,_,S2,rfl,hI.last 0 rfl,hE1.trans hE2,p+1,css,q,aM _,rfl,hR,hq,h0,hcv⟩
end
end
section
open Go Go.RowKit
section
variable {br:Nat} {sl:Value} {ys:List Nat}
attribute [local irreducible] Run CondV aq aK
end
end
section
open Go Go.RowKit
attribute [local irreducible] Run CondV aq aK

def kr (B blk rA rB rC:Item) (d0 d2 d4 d5:Bool):List Item:=
 B::((match d4 with|true=>[blk]|false=>[])++(match d5,d2,d0 with|true,_,_=>[rC]|false,true,_=>[rB]|false,false,true=>[rA]|false,false,false=>[]))
theorem vb (x:Pd) (l:List Pd) (v:Value) (S:ad) (hl:l.length<=1000000000):Tri Tryz.prog Ka [v,.agg x.cells.toArray] [cW v l] S (pP S (ff l x)):=by
 intro w hJ
 obtain ⟨xs,xn⟩:=x
 obtain ⟨X,hX⟩:∃ X,X=bu [cW v l]:=⟨_,rfl⟩
 rw [<- hX] at hJ ⊢
 refine xK.2 ?_
 dsimp only[xK,aO]
 refine bp hJ fun b3 w' hJ=>?_
 have hJ:=hJ.perm (M:=[.blk b3 (.cells #[.string xs,.int .i64 xn] bf),cW v l]) (List.Perm.swap _ _ _)
 refine az hJ 0 cO rfl rfl ?_
 obtain ⟨S1,hle,hrd,hI,hback⟩:=Inv.lend (A:=[_]) hJ
 have h:=hrd.preds
 refine Run.callPure xZ yz hI (uh ⟨xs,xn⟩ h) fun w' hI=>?_
 refine aw (fun hb=>?_) (fun hb=>?_)
 ·rw [ff,ai hb]
  exact ⟨_,_,_,rfl,Inv.pick (hback _ _ hI) [false,true],Ext.refl _ _ _,rfl,rfl⟩
 ·rw [ff,af (by rw [hb]; decide)]
  refine ⟨fun D x4 wb Em En Hn Pl x9 w_=>Fx D 0 [True,Pl=v,True,En=.agg #[.string xs,.int .i64 xn],True,True,True]/\∃ b13:Nat,(D 4=true->Em=.slice (some ⟨b13,0,none⟩) 1 1)/\(D 2=true->D 0=true)/\(D 5=true->D 2=true)/\(D 5=true->D 4=true)/\(D 6=true->D 5=true/\x4=wb)/\Inv w X (kr (.blk b3 (.cells #[.string xs,.int .i64 xn] bf)) (.blk b13 (.cells #[.string xs,.int .i64 xn] bf)) (cW x9 []) (cW Hn l) (cW wb (l++[⟨xs,xn⟩])) (D 0) (D 2) (D 4) (D 5)) S1 w_,⟨Fx.nil _ _,⟨0,aQ,aQ,aQ,aQ,aQ,hI.draw⟩⟩,⟨?_,?_,?_,?_,?_,?_,?_,trivial⟩,?_⟩
  all_goals (intro D bI; intros; rename_i x4 wb Em En Hn Pl x9 w_ hA_; have hF_:=hA_.1; obtain ⟨⟨cJ,cH,cK,cI,cN,cP,cz,_⟩,⟨b13,k4,k2,k5,k54,k6,hI⟩⟩:=hA_)
  ·have e2:D 2=false:=cq.2 fun h=>by rw [k2 h] at bI; cases bI
   have e5:D 5=false:=cq.2 fun h=>by rw [k5 h] at e2; cases e2
   refine d3 hI fT fun v9 w_ hI=>?_
   have k2:=fun (h:aB D 0 2=true)=>(show aB D 0 0=true from rfl)
   have hI:Inv w X (kr (.blk b3 (.cells #[.string xs,.int .i64 xn] bf)) (.blk b13 (.cells #[.string xs,.int .i64 xn] bf)) (cW v9 []) (cW Hn l) (cW wb (l++[⟨xs,xn⟩])) true (D 2) (D 4) (D 5)) S1 w_:=by
    rw [e2,e5] at hI ⊢
    rw [bI] at hI
    cases h4:D 4 <;> rw [h4] at hI <;> exact hI
   exact ⟨hF_.set 0 (by first|assumption|trivial),⟨b13,k4,k2,k5,k54,k6,hI⟩⟩
  ·exact ⟨hF_.set 1 rfl,⟨b13,k4,k2,k5,k54,k6,hI⟩⟩
  ·have UE:=cJ ‹_›
   obtain rfl:=cH ‹_›
   have e5:D 5=false:=cq.2 fun h=>by rw [k5 h] at bI; cases bI
   have hI:Inv w X (kr (.blk b3 (.cells #[.string xs,.int .i64 xn] bf)) (.blk b13 (.cells #[.string xs,.int .i64 xn] bf)) (cW x9 []) (cW Hn l) (cW wb (l++[⟨xs,xn⟩])) true false (D 4) false) S1 w_:=by
    rw [e5,bI,‹D 0=true›] at hI
    exact hI
   have k2:=fun (h:aB D 2 2=true)=>(show aB D 2 0=true from ‹D 0=true›)
   have k5:=fun (h:aB D 2 5=true)=>(show aB D 2 2=true from rfl)
   cases h4:D 4
   ·rw [h4] at hI
    refine A0 (f:=Pd.cells) hI 1 fT (by omega) rfl h (fun _ _ h=>h) (fun _=>rfl) (fun y c hc=>by simp [Pd.cells] at hc; rcases hc with rfl|rfl <;> rfl) (by simp; omega) (by omega) fun v' w_ hI=>?_
    have hI:Inv w X (kr (.blk b3 (.cells #[.string xs,.int .i64 xn] bf)) (.blk b13 (.cells #[.string xs,.int .i64 xn] bf)) (cW x9 []) (cW v' l) (cW wb (l++[⟨xs,xn⟩])) (D 0) true (D 4) (D 5)) S1 w_:=by
     rw [‹D 0=true›,h4,e5]
     have e:Item.row v' bf 2 (([]:List Pd).length+l.length) (pds []++l.flatMap Pd.cells)=cW v' l:=by simp [cW,pds]
     exact e ▸ hI
    exact ⟨hF_.set 2 trivial,⟨b13,k4,k2,k5,k54,k6,hI⟩⟩
   rw [h4] at hI
   refine A0 (f:=Pd.cells) hI 2 fT (by omega) rfl h (fun _ _ h=>h) (fun _=>rfl) (fun y c hc=>by simp [Pd.cells] at hc; rcases hc with rfl|rfl <;> rfl) (by simp; omega) (by omega) fun v' w_ hI=>?_
   have hI:Inv w X (kr (.blk b3 (.cells #[.string xs,.int .i64 xn] bf)) (.blk b13 (.cells #[.string xs,.int .i64 xn] bf)) (cW x9 []) (cW v' l) (cW wb (l++[⟨xs,xn⟩])) (D 0) true (D 4) (D 5)) S1 w_:=by
    rw [‹D 0=true›,h4,e5]
    have e:Item.row v' bf 2 (([]:List Pd).length+l.length) (pds []++l.flatMap Pd.cells)=cW v' l:=by simp [cW,pds]
    exact e ▸ hI
   exact ⟨hF_.set 2 (by first|assumption|trivial),⟨b13,k4,k2,k5,k54,k6,hI⟩⟩
  ·refine az hI 0 cO rfl rfl ?_
   exact ⟨hF_.set 3 rfl,⟨b13,k4,k2,k5,k54,k6,hI⟩⟩
  ·obtain rfl:=cI ‹_›
   have e5:D 5=false:=cq.2 fun h=>by rw [k54 h] at bI; cases bI
   refine d6 hI fT rfl (by omega) (by omega) fun b13 w_ hI=>?_
   have k4:=fun (_:aB D 4 4=true)=>(rfl:Value.slice (some ⟨b13,0,none⟩) 1 1=_)
   have k54:=fun (_:aB D 4 5=true)=>(rfl:aB D 4 4=true)
   have hI:Inv w X (kr (.blk b3 (.cells #[.string xs,.int .i64 xn] bf)) (.blk b13 (.cells #[.string xs,.int .i64 xn] bf)) (cW x9 []) (cW Hn l) (cW wb (l++[⟨xs,xn⟩])) (D 0) (D 2) true (D 5)) S1 w_:=by
    rw [e5,bI] at hI
    rw [e5]
    cases h0:D 0 <;> cases h2:D 2 <;> rw [h0,h2] at hI
    ·exact hI
    ·exact hI.perm ((List.Perm.swap _ _ _).cons _)
    ·exact hI.perm ((List.Perm.swap _ _ _).cons _)
    ·exact hI.perm ((List.Perm.swap _ _ _).cons _)
   exact ⟨hF_.set 4 (by first|assumption|trivial),⟨b13,k4,k2,k5,k54,k6,hI⟩⟩
  ·have RV:=cK ‹_›
   have Ij:=cN ‹_›
   obtain rfl:=k4 ‹D 4=true›
   rw [‹D 4=true›,‹D 2=true›,bI] at hI
   refine dy hI 2 (k:=2) [.string xs,.int .i64 xn] fT (by omega) rfl rfl ?_ ?_ (by omega) (by omega) fun v' w_ hI=>?_
   ·intro j u hj
    rw [hI.cellL (i:=1) rfl]
    match j with
    | 0|1=>simpa [Value.cells] using hj
    | j+2=>simp at hj
   ·simp [Value.oneCell']
   have e:Item.row v' bf 2 (l.length+1) (pds l++[.string xs,.int .i64 xn])=cW v' (l++[⟨xs,xn⟩]):=by
    rw [show ([.string xs,.int .i64 xn]:List Value)=Pd.cells ⟨xs,xn⟩ from rfl,H7]; simp [cW]
   have hI:Inv w X (kr (.blk b3 (.cells #[.string xs,.int .i64 xn] bf)) (.blk b13 (.cells #[.string xs,.int .i64 xn] bf)) (cW x9 []) (cW Hn l) (cW v' (l++[⟨xs,xn⟩])) (D 0) (D 2) (D 4) true) S1 w_:=by
    rw [‹D 4=true›]
    exact e ▸ hI
   have k5:=fun (_:aB D 5 5=true)=>‹D 2=true›
   have k54:=fun (_:aB D 5 5=true)=>‹D 4=true›
   have k6:aB D 5 6=true->aB D 5 5=true/\x4=v':=fun h=>absurd (k6 h).1 (by rw [bI]; decide)
   exact ⟨hF_.set 5 (by first|assumption|trivial),⟨b13,k4,k2,k5,k54,k6,hI⟩⟩
  ·have NN:=cP ‹_›
   have k6:=fun (_:aB D 6 6=true)=>(⟨‹D 5=true›,rfl⟩:D 5=true/\wb=wb)
   exact ⟨hF_.set 6 (by first|assumption|trivial),⟨b13,k4,k2,k5,k54,k6,hI⟩⟩
  obtain ⟨UE,rfl,RV,rfl,Ij,NN,M9,_⟩:=hF_.all
  have Sg:D 4=true:=by assumption
  have PS:D 5=true:=by assumption
  have M6:D 6=true:=by assumption
  clear hF_ cJ cH cK cI cN cP cz
  obtain ⟨_,rfl⟩:=k6 M6
  rw [PS,Sg] at hI
  exact ⟨_,_,_,rfl,(hI.less hle).pick [false,false,true],Ext.refl _ _ _,rfl,rfl⟩
end
end Go.Proofs.YtcpgagfdeflbkaaGreatDoor
