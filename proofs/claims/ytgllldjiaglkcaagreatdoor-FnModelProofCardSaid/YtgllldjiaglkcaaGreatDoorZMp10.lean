/- spec.l1Draw, l1Some: a drawn term is readable and light. -/
import Derived.Test.YtgllldjiaglkcaaGreatDoorZMp9
import Derived.Test.YtgllldjiaglkcaaGreatDoorZMp5
import Derived.Test.YtgllldjiaglkcaaGreatDoorZMp4
import Derived.Test.YtgllldjiaglkcaaGreatDoorZMp2
import Derived.Test.YtgllldjiaglkcaaGreatDoorZMp3
namespace Go.Proofs.YtgllldjiaglkcaaGreatDoor
section
open Go Go.RowKit
theorem yP {l:List Int} {n a b:Int} (hm:n∈l) (h:(l.all fun n=>decide (a<=n) && decide (n<=b))=true):a<=n/\n<=b:=by
 rw [dE] at h
 have:=h n hm
 rw [bu,bk,bk] at this
 exact this
theorem Ff {l:List ByteArray} {s:ByteArray} {m:Nat} (hm:s∈l) (h:(l.all fun s=>decide (s.size<=m))=true):s.size<=m:=by
 rw [dE] at h
 have:=h s hm
 rwa [bk] at this
theorem Q5 {Q B:Prop} {R:Nat->Prop} (h1:Q->B) (h2:∀ n,n<3->R n->B):∀ {n:Nat},sL Q R n->n<4->B
 | 0,h,_=>h1 h
 | n+1,h,hn=>h2 n (by omega) h
theorem pp:∀ l m:List T,wL (l++m)=wL l+wL m
 | [],m=>by simp [wL]
 | t::l,m=>by simp only [iR,wL,pp l m]; omega
theorem Za {n:Int} (h:0<=n/\n<26):okU 26 (.mk 1 n emptyB []):=by
 simp only [okU,dw]
 exact ⟨by decide,fun _=>⟨h.1,h.2,trivial,trivial⟩,trivial,by decide⟩
theorem YC {n:Int}:okU 26 (.mk 2 n emptyB []):=by
 simp only [okU,dw]
 exact ⟨by decide,(fun h=>by cases h),trivial,by decide⟩
theorem LE {s:ByteArray} {ts:List T} (hs:s.size<=6) (h:dw 26 ts):okU 26 (.mk 3 0 s ts):=by
 simp only [okU]
 exact ⟨by decide,(fun h=>by cases h),h,hs⟩
theorem uE {S:ae} {k n:Int} (hk:inI k) (hn:inI n):RdT S [.int .i64 k,.int .i64 n,.string ⟨#[]⟩,.slice none 0 0] (.mk k n emptyB []):=
 RdT.iff.2 ⟨_,rfl,hk,hn,be _,lQ S⟩
section
variable {w0 w:World} {X:List Nat} {L:List Item} {S:ae} {K:Value->World->Prop} {P:Program}
attribute [local irreducible] Run CondV az aO
theorem Run.callL {f:FuncId} {fn:Func} {args:List Value} {I:List Item} {Post:Value->List Item->ae->Prop}
  (hf:P.funcs[f]?=some fn) (hn:(fn.name == "runtime.NumGoroutine" || fn.body.isNone)=false) (h:Inv w0 X L S w) (hc:Tri P f args I S Post) (hL:L=L.dropLast++I)
  (hk:∀ v I' S' w',Post v I' S'->Ext w0.heap.size X S S'->Inv w0 X (L.dropLast++I') S' w'->K v w'):Run P (eM (.func (.func f) #[] #[]) args) w K:=
 Run.callE (A:=L.dropLast) hf hn (hL ▸ h) hc hk
theorem MP {T:TypeId} {cx cy:Bool} {d:Nat} (hd:d<=1000000) (hk:K (.int .i64 (d:Int)) w):Run P (cK .sub T cx cy (.int .i64 ((d+1:Nat):Int)) (.int .i64 1)) w K:=by
 refine mx (by omega) ?_
 rw [show ((d+1:Nat):Int) - 1=d by omega]
 exact hk
theorem L9 {B:Prop} {b d:Nat} {c:Array Value} {E:TypeId} {kv xs xa:Value} {css:List (List Value)} {F:Nat->List Item} {Q:List Value->Nat->ae->Prop} {p1:Nat} {S1:ae} {cs:List Value} {t:T}
  (hQ:Q cs p1 S1) (hr:RdT S1 cs t) (hI:Inv w0 X (.blk b (.cells c E)::aJ kv ab 4 css::F p1) S1 w):sL B (Es w0 X b c d E kv css F Q (.agg cs.toArray) xs xa w) 1:=
 ⟨p1,S1,cs,hQ,⟨hr.length,hr.one⟩,rfl,hI⟩
end
section
variable {br:Nat} {sl:Value} {ys:List Nat}
attribute [local irreducible] Run CondV az aO
abbrev Q7 (br:Nat) (sl:Value) (ys:List Nat) (d:Nat):Prop:=∀ (p:Nat) (S:ae),RdSl S 1 mE sl ys->p+3 * dW d<=1000000000->Tri Tryz.prog R4 [rdP br,.int .i64 (d:Int)] [rdI br sl p] S (ZJ br sl p d)
theorem Le {d:Nat} (hd4:d<=4) (ih:∀ d',d'+1=d->Q7 br sl ys d'):Q7 br sl ys d:=by
 intro p S hrd hp w hI
 have hW:=XV d
 refine C0.2 ?_
 dsimp only[C0,aY]
 refine aT hI aZ fun b4 w' hI=>?_
 have hI:Inv w [br] [.blk b4 (.cells #[.int .i64 0,.int .i64 0,.string ⟨#[]⟩,.slice none 0 0] ab),rdI br sl p] S w':=hI.last 0 rfl
 refine ⟨fun v w'=>∃ (c:Bool) (p1:Nat),v=.bool c/\p1<=p+1/\(c=false->2<=d)/\Inv w [br] [.blk b4 (.cells #[.int .i64 0,.int .i64 0,.string ⟨#[]⟩,.slice none 0 0] ab),rdI br sl p1] S w',?_,?_⟩
 ·refine bH ?_
  by_cases hd:(d:Int)<2
  ·rw [aI hd]
   refine rpG ?_
   exact ⟨true,p,rfl,by omega,(fun h=>by cases h),hI⟩
  ·rw [aP hd]
   refine rpG ?_
   refine Run.callL cP cO hI (eH (n:=4) hrd (by omega) (by omega)) rfl fun v' I' S' w'=>?_
   rintro ⟨rfl,rfl,k,hk,rfl⟩ _ hI
   refine bl ?_
   refine rpG ?_
   exact ⟨_,p+1,rfl,by omega,fun _=>by omega,hI⟩
 intro t13 _ _ _ _ _ _ w'
 rintro ⟨c,p1,rfl,hp1,hcd,hI⟩
 refine aw (fun _=>?_) (fun hc=>?_)
 ·refine Run.callL cP cO hI (eH (n:=4) hrd (by omega) (by omega)) rfl fun v' I' S' w'=>?_
  rintro ⟨rfl,rfl,k,hk,rfl⟩ _ hI
  have hI:Inv w [br] [.blk b4 (.cells #[.int .i64 0,.int .i64 0,.string ⟨#[]⟩,.slice none 0 0] ab),rdI br sl (p1+1)] S' w':=hI
  refine bl ?_
  refine aL (fun _=>?_) (fun _=>?_)
  ·refine Run.callL cP cO hI (eH (n:=4) hrd (by omega) (by omega)) rfl fun v' I' S1 w'=>?_
   rintro ⟨rfl,rfl,k,hk,rfl⟩ _ hI
   refine Run.callPure Hs FC hI (v8 k S1) fun w' hI=>?_
   refine aC hI 0 rfl ad rfl rfl (by simp [Value.oneCell']) fun w' hI=>?_
   refine bJ hI 0 ad rfl rfl ?_
   exact ⟨_,_,S1,rfl,hI.pick [false,true],Ext.refl _ _ _,p1+2,by omega,rfl,_,_,rfl,uE (by simp [inI]) (by simp only [inI]; omega),by have e:emptyB.size=0:=rfl; simp only [wT,wL,bU,e]; omega,Za (by omega)⟩
  refine bl ?_
  refine aL (fun _=>?_) (fun _=>?_)
  ·refine GR hI (by kernel_rfl) rfl (by omega) fun v S1 w' hE1 hv hI=>?_
   refine Run.callL g5 gN hI (pD (p:=p1+1) (hrd.monoU hE1.1) hv (by decide) (by omega)) rfl fun v' I' S2 w'=>?_
   rintro ⟨rfl,rfl,n,hn,rfl⟩ _ hI
   have hn:=yP (a:=-1000) (b:=1000) hn (by decide)
   refine Run.callPure xl xN hI (oO n S2) fun w' hI=>?_
   refine aC hI 0 rfl ad rfl rfl (by simp [Value.oneCell']) fun w' hI=>?_
   refine bJ hI 0 ad rfl rfl ?_
   exact ⟨_,_,S2,rfl,hI.pick [false,true],hE1,p1+2,by omega,rfl,_,_,rfl,uE (by simp [inI]) (by simp only [inI]; omega),by have e:emptyB.size=0:=rfl; simp only [wT,wL,bU,e]; omega,YC⟩
  ·refine um hI (by kernel_rfl) rfl (by omega) fun v S1 w' hE1 hv hI=>?_
   refine Run.callL kC kD hI (zC (p:=p1+1) (hrd.monoU hE1.1) hv (by decide) (by omega)) rfl fun v' I' S2 w'=>?_
   rintro ⟨rfl,rfl,s,hs,rfl⟩ _ hI
   have hs:=Ff (m:=3) hs (by decide)
   refine Run.call0E dT dP hI (eP s (by simp only [maxLen]; omega) (lQ S2) (by simp)) fun v' I' S3 w'=>?_
   rintro ⟨rfl,cs,rfl,hcs⟩ hE3 hI
   refine aC hI 0 rfl ad (by simpa using hcs.length) rfl (by simpa using hcs.one) fun w' hI=>?_
   refine bJ hI 0 ad rfl (by simpa using hcs.length) ?_
   exact ⟨_,_,S3,rfl,hI.pick [false,true],hE1.trans hE3,p1+2,by omega,rfl,_,_,rfl,hcs,by simp only [wT,wL,bU]; omega,LE (by omega) (by simp only [dw])⟩
 obtain ⟨d',rfl⟩:∃ d',d=d'+1:=⟨d - 1,by have:=hcd hc; omega⟩
 have ih:=ih d' rfl
 have hD:=XV d'
 have hDs:=Yd d'
 have h3:dW d'<=486:=by
  have:3 ^ d'<=3 ^ 4:=NB (by omega) (by omega)
  simp only [dW]; omega
 refine Run.callL cP cO hI (eH (n:=3) hrd (by omega) (by omega)) rfl fun v' I' S w'=>?_
 rintro ⟨rfl,rfl,k,hk,rfl⟩ _ hI
 refine bl ?_
 refine aL (fun _=>?_) (fun _=>?_)
 ·refine MP (by omega) ?_
  refine Run.callL nI nK hI (ih (p1+1) S hrd (by omega)) rfl fun v' I' S1 w'=>?_
  rintro ⟨p2,hp2,rfl,cs1,t1,rfl,hc1,hw1,ho1⟩ hE1 hI
  refine MP (by omega) ?_
  refine Run.callL nI nK hI (ih p2 S1 (hrd.monoU hE1.1) (by omega)) rfl fun v' I' S2 w'=>?_
  rintro ⟨p3,hp3,rfl,cs2,t2,rfl,hc2,hw2,ho2⟩ hE2 hI
  have hc1:=RdT.mono hE2.1 hc1
  obtain ⟨kv1,rfl,_,_,_,a1,q1,rfl,_⟩:=RdT.iff.1 hc1
  obtain ⟨kv2,rfl,_,_,_,a2,q2,rfl,_⟩:=RdT.iff.1 hc2
  refine wX (v:=fun b=>.slice (some ⟨b,0,none⟩) 2 2) (o:=.cells #[.int .i64 t1.kind,.int .i64 t1.n,.string t1.name,.slice a1 t1.kids.length q1,.int .i64 t2.kind,.int .i64 t2.n,.string t2.name,.slice a2 t2.kids.length q2] ab) hI (by kernel_rfl) fun b w' hI=>?_
  have hI:Inv w [br] ([.blk b4 (.cells #[.int .i64 0,.int .i64 0,.string ⟨#[]⟩,.slice none 0 0] ab),rdI br sl p3]++[_]) S2 w':=hI
  obtain ⟨S3,hI,hE3,hS⟩:=hI.pub1
  refine Run.call0E dT dP hI (eP ⟨#[46]⟩ (by decide) (Rl hS (hc1.mono hE3.1) (hc2.mono hE3.1)) (by simp)) fun v' I' S4 w'=>?_
  rintro ⟨rfl,cs,rfl,hcs⟩ hE4 hI
  refine aC hI 0 rfl ad (by simpa using hcs.length) rfl (by simpa using hcs.one) fun w' hI=>?_
  refine bJ hI 0 ad rfl (by simpa using hcs.length) ?_
  refine ⟨_,_,S4,rfl,hI.pick [false,true],(hE1.trans hE2).trans (hE3.trans hE4),p3,by omega,rfl,_,_,rfl,hcs,?_,LE (by decide) (by simp only [dw]; exact ⟨ho1,ho2,trivial⟩)⟩
  have e:(ByteArray.mk #[46]).size=1:=rfl
  simp only [wT,wL,bw,bU,e]
  omega
 ·refine um hI (by kernel_rfl) rfl (by omega) fun v S1 w' hE1 hv hI=>?_
  refine Run.callL kC kD hI (zC (p:=p1+1) (hrd.monoU hE1.1) hv (by decide) (by omega)) rfl fun v' I' S2 w'=>?_
  rintro ⟨rfl,rfl,s,hs,rfl⟩ _ hI
  have hs:=Ff (m:=3) hs (by decide)
  refine Run.call0E dT dP hI (zN s (lQ S2) (by simp)) fun v' I' S3 w'=>?_
  rintro ⟨rfl,kv0,css0,rfl,rfl,hR0⟩ hE3 hI
  refine aT hI aZ fun b5 w' hI=>?_
  obtain ⟨a0,n0,q0,rfl⟩:=hI.rowSlice 2 rfl
  refine aC hI 3 rfl ad rfl rfl (by simp [Value.oneCell']) fun w' hI=>?_
  obtain ⟨B4,hB4⟩:∃ B4,B4=Item.blk b4 (.cells #[.int .i64 0,.int .i64 0,.string ⟨#[]⟩,.slice none 0 0] ab):=⟨_,rfl⟩
  have hI:Inv w [br] [.blk b5 (.cells #[.int .i64 3,.int .i64 0,.string s,.slice a0 n0 q0] ab),aJ (.slice a0 n0 q0) ab 4 css0,B4,rdI br sl (p1+2)] S3 w':=by
   rw [hB4]
   exact ((hI.last 2 rfl).last 0 rfl).last 0 rfl
  refine GR hI (by kernel_rfl) rfl (by omega) fun v S4 w' hE4 hv hI=>?_
  refine Run.callL g5 gN hI (pD (p:=p1+2) (hrd.monoU ((hE1.trans hE3).trans hE4).1) hv (by decide) (by omega)) rfl fun v' I' S5 w'=>?_
  rintro ⟨rfl,rfl,n,hn,rfl⟩ _ hI
  have hn:=yP (a:=1) (b:=3) hn (by decide)
  have hE5:Ext w.heap.size [br] S S5:=(hE1.trans hE3).trans hE4
  refine ⟨fun t w'=>∃ (j p2:Nat) (S6:ae) (kv:Value) (css:List (List Value)) (ts:List T),dw 26 ts/\t=.int .i64 (j:Int)/\ts.length+j<=3/\Rows 4 (RdT S6) css ts/\wL ts+3 * ts.length<=ts.length * dW d'/\p2+2 * ts.length<=p1+3+ts.length * dW d'/\Ext w.heap.size [br] S S6/\
   Inv w [br] [.blk b5 (.cells #[.int .i64 3,.int .i64 0,.string s,kv] ab),aJ kv ab 4 css,B4,rdI br sl p2] S6 w',fun t _=>(intOf t).toNat,
   ⟨n.toNat,p1+3,S5,_,css0,[],by simp only [dw],by rw [Tm (by omega)],by simp; omega,hR0.monoR fun _ _ h=>RdT.mono hE4.1 h,by simp [wL],by simp,hE5,hI⟩,?_⟩
  intro t6 _ _ t63 t62 t61 t60 t59 t58 t57 t56 t55 _ _ w'
  rintro ⟨j,p2,S6,kv,css,ts,hou,rfl,hj,hR,hwts,hp2,hE6,hI⟩
  have hcl:=hR.hc
  have hm:ts.length * dW d'<=3 * dW d':=ja _ (by omega)
  refine dA ?_
  refine aL (fun hj0=>?_) (fun hj0=>?_)
  ·obtain ⟨j',rfl⟩:∃ j',j=j'+1:=⟨j - 1,by omega⟩
   refine ⟨fun D z4 x3 CC Cw Du DE DG CS CL w_=>Fx D 0 [CL=.pointer (some ⟨b5,3,none⟩),CS=kv,DG=rdP br,DE=.int .i64 ((d'+1:Nat):Int),Du=.int .i64 (d':Int),True,True,True,z4=.pointer (some ⟨b5,3,none⟩),True]/\∃ n_:Nat,n_<=4/\D 5=decide (1<=n_)/\D 6=decide (2<=n_)/\D 7=decide (3<=n_)/\D 9=decide (4<=n_)/\(D 9=true->D 1=true)/\(sL (Inv w [br] [.blk b5 (.cells #[.int .i64 3,.int .i64 0,.string s,kv] ab),aJ kv ab 4 css,B4,rdI br sl p2] S6 w_) (Es w [br] b5 #[.int .i64 3,.int .i64 0,.string s,kv] 3 ab kv css (fun p=>[B4,rdI br sl p]) (fun cs p' S'=>∃ t,okU 26 t/\RdT S' cs t/\wT t+3<=dW d'/\p'+2<=p2+dW d'/\Ext w.heap.size [br] S6 S') Cw CC x3 w_) n_),⟨Fx.nil _ _,⟨0,be _,rfl,rfl,rfl,rfl,(aQ),hI.draw⟩⟩,⟨?_,?_,?_,?_,?_,?_,?_,?_,?_,?_,trivial⟩,?_⟩
   all_goals (intro D bF; intros; rename_i z4 x3 CC Cw Du DE DG CS CL w_ hA_; have hF_:=hA_.1; obtain ⟨⟨cj,ci,bR,ce,bP,bY,bZ,cH,c5,dI,_⟩,⟨n_,ln_,e1_,e2_,e3_,e4_,kp_,hS⟩⟩:=hA_)
   ·refine au ao ?_
    exact ⟨hF_.set 0 rfl,⟨n_,ln_,e1_,e2_,e3_,e4_,kp_,hS⟩⟩
   ·obtain rfl:=cj ‹_›
    have ln2_:=Zc e4_ kp_ bF
    refine ct aj ((Q5 (fun h=>h.cellL (i:=0) rfl) (fun n hn h=>Mm h hn) hS ln2_).trans rfl) ?_
    exact ⟨hF_.set 1 rfl,⟨n_,ln_,e1_,e2_,e3_,e4_,(fun _=>rfl),hS⟩⟩
   ·exact ⟨hF_.set 2 rfl,⟨n_,ln_,e1_,e2_,e3_,e4_,kp_,hS⟩⟩
   ·exact ⟨hF_.set 3 rfl,⟨n_,ln_,e1_,e2_,e3_,e4_,kp_,hS⟩⟩
   ·obtain rfl:=ce ‹_›
    refine MP (by omega) ?_
    exact ⟨hF_.set 4 rfl,⟨n_,ln_,e1_,e2_,e3_,e4_,kp_,hS⟩⟩
   ·obtain rfl:=bR ‹_›
    obtain rfl:=bP ‹_›
    obtain rfl:n_=0:=Yt e1_ bF
    refine Run.callL nI nK (L:=[.blk b5 _,aJ _ ab 4 css,B4,rdI br sl p2]) hS (ih p2 S6 (hrd.monoU hE6.1) (by omega)) rfl fun v' I' S7 w_=>?_
    rintro ⟨p3,hp3,rfl,cs,t,rfl,hcs,hwt,hot⟩ hE7 hI
    exact ⟨hF_.set 5 (by first|assumption|trivial),⟨1,by decide,rfl,(by first|exact e2_|rfl),(by first|exact e3_|rfl),(by first|exact e4_|rfl),kp_,L9 ⟨t,hot,hcs,hwt,hp3,hE7⟩ hcs hI⟩⟩
   ·have Ro:=bY ‹_›
    obtain rfl:n_=1:=AU e1_ ‹D 5=true› e2_ bF
    refine ap1 hS fun u w_ hS=>?_
    exact ⟨hF_.set 6 (by first|assumption|trivial),⟨2,by decide,(by first|exact e1_|rfl),rfl,(by first|exact e3_|rfl),(by first|exact e4_|rfl),kp_,hS⟩⟩
   ·obtain rfl:=ci ‹_›
    have NF:=bZ ‹_›
    obtain rfl:n_=2:=AU e2_ ‹D 6=true› e3_ bF
    refine ap2 hS (by omega) fun u w_ hS=>?_
    exact ⟨hF_.set 7 (by first|assumption|trivial),⟨3,by decide,(by first|exact e1_|rfl),(by first|exact e2_|rfl),rfl,(by first|exact e4_|rfl),kp_,hS⟩⟩
   ·refine au ao ?_
    exact ⟨hF_.set 8 rfl,⟨n_,ln_,e1_,e2_,e3_,e4_,kp_,hS⟩⟩
   ·obtain rfl:=c5 ‹_›
    have Io:=cH ‹_›
    obtain rfl:n_=3:=AU e3_ ‹D 7=true› e4_ bF
    refine ap3 hS (by simp) fun w_ hS=>?_
    exact ⟨hF_.set 9 trivial,⟨4,by decide,(by first|exact e1_|rfl),(by first|exact e2_|rfl),(by first|exact e3_|rfl),rfl,(fun _=>‹D 1=true›),hS⟩⟩
   obtain rfl:n_=4:=YE ln_ e4_ ‹D 9=true›
   clear e1_ e2_ e3_ e4_
   obtain ⟨p3,S7,cs,⟨t,hot,hcs,hwt,hp3,hE7⟩,hl,hI⟩:=hS
   refine MP (by omega) ?_
   refine ⟨⟨j',p3,S7,_,_,ts++[t],QD hou (by simp only [dw]; exact ⟨hot,trivial⟩),rfl,by rw [bA]; simp only [bw,bU]; omega,(hR.monoR fun _ _ h=>RdT.mono hE7.1 h).snoc hcs hl.1,?_,?_,hE6.trans hE7,hI⟩,by simp only [intOf,dv]; omega⟩
   ·rw [pp,bA,bw,bU,tJ]
    simp only [wL]
    omega
   ·rw [bA,bw,bU,tJ]
    omega
  ·have hI:Inv w [br] ([.blk b5 (.cells #[.int .i64 3,.int .i64 0,.string s,kv] ab),B4,rdI br sl p2]++[aJ kv ab 4 css]) S6 w':=hI.last 1 rfl
   refine av hI 0 ad rfl rfl ?_
   obtain ⟨S7,hE7,hrdr,hI⟩:=Inv.lendExt hI
   have hrs:=RowRd.rows (hR.monoR fun _ _ h=>RdT.mono hE7.1 h) hrdr
   obtain ⟨a,q,rfl,_⟩:=id hrs
   subst hB4
   refine aC hI 1 rfl ad rfl rfl (by simp [Value.oneCell']) fun w' hI=>?_
   refine bJ hI 1 ad rfl rfl ?_
   refine ⟨_,_,S7,rfl,hI.pick [false,false,true],hE6.trans hE7,p2,?_,rfl,[.int .i64 3,.int .i64 0,.string s,_],.mk 3 0 s ts,rfl,RdT.iff.2 ⟨_,rfl,by simp [inI,T.kind],by simp [inI,T.n],by simp only [T.name,maxLen]; omega,hrs⟩,?_,LE (by omega) hou⟩
   ·have:ts.length=0 ∨ ts.length=1 ∨ ts.length=2 ∨ ts.length=3:=by omega
    rcases this with h|h|h|h <;> rw [h] at hp2 hwts <;> omega
   ·simp only [wT]
    have:ts.length=0 ∨ ts.length=1 ∨ ts.length=2 ∨ ts.length=3:=by omega
    rcases this with h|h|h|h <;> rw [h] at hp2 hwts ⊢ <;> omega
theorem Ae:∀ d:Nat,d<=4->Q7 br sl ys d
 | 0,h=>Le h fun d' e=>by omega
 | d+1,h=>Le h fun d' e=>by
  obtain rfl:d'=d:=by omega
  exact Ae _ (by omega)
abbrev We (br:Nat) (sl:Value) (p k m:Nat):Value->List Item->ae->Prop:=fun v I' S'=>∃ p',p'<=p+k/\I'=[rdI br sl p']/\∃ cs t,v=.agg cs.toArray/\RdT S' cs t/\wT t<=m
theorem Aq {p:Nat} {S:ae} (hrd:RdSl S 1 mE sl ys) (hp:p<=400000000):Tri Tryz.prog Sq [rdP br] [rdI br sl p] S (We br sl p 500 500):=by
 intro w hI
 refine C2.2 ?_
 dsimp only[C2,aM]
 refine aT hI aZ fun b2 w' hI=>?_
 have hI:Inv w [br] [.blk b2 (.cells #[.int .i64 0,.int .i64 0,.string ⟨#[]⟩,.slice none 0 0] ab),rdI br sl p] S w':=hI.last 0 rfl
 refine GR hI (by kernel_rfl) rfl (by omega) fun v S1 w' hE1 hv hI=>?_
 refine Run.callL g5 gN hI (pD (p:=p) (hrd.monoU hE1.1) hv (by decide) (by omega)) rfl fun v' I' S2 w'=>?_
 rintro ⟨rfl,rfl,n,hn,rfl⟩ _ hI
 have hn:=yP (a:=1) (b:=4) hn (by decide)
 obtain ⟨m,rfl⟩:∃ m:Nat,n=m:=⟨n.toNat,by rw [Tm (by omega)]⟩
 have h3:dW m<=486:=by
  have:3 ^ m<=3 ^ 4:=NB (by omega) (by omega)
  simp only [dW]; omega
 refine Run.callL nI nK hI (Ae m (by omega) (p+1) S2 (hrd.monoU hE1.1) (by omega)) rfl fun v' I' S3 w'=>?_
 rintro ⟨p1,hp1,rfl,cs,t,rfl,hcs,hw,_⟩ hE3 hI
 refine aC hI 0 rfl ad (by simpa using hcs.length) rfl (by simpa using hcs.one) fun w' hI=>?_
 refine bJ hI 0 ad rfl (by simpa using hcs.length) ?_
 exact ⟨_,_,S3,rfl,hI.pick [false,true],hE1.trans hE3,p1,by omega,rfl,cs,t,rfl,hcs,by omega⟩
end
end
section
open Go Go.RowKit
def CP (w:World) (b o:Nat):Nat:=match w.cell? ⟨b,o,none⟩ with
 | some (.slice _ n _)=>n
 | _=>0
theorem Zl {Q Q2 B:Prop} {R:Nat->Prop} (h1:Q->B) (h3:Q2->B) (h2:∀ n,n<3->R n->B):∀ {n:Nat},sL Q (sL Q2 R) n->n<5->B
 | 0,h,_=>h1 h
 | 1,h,_=>h3 h
 | n+2,h,hn=>h2 n (by omega) h
theorem UH {Q:Prop} {R:Nat->Prop} {n:Nat} (h:R n):sL Q R (n+1):=h
theorem KH {Q:Prop} {R:Nat->Prop} {n:Nat} (h:sL Q R (n+1)):R n:=h
section
variable {w0 w:World} {X:List Nat} {L A:List Item} {S:ae} {K:Value->World->Prop} {P:Program}
attribute [local irreducible] Run CondV az aO
theorem zf (h:Inv w0 X L S w) {i b o:Nat} {c:Array Value} {E:TypeId} {a:Option Addr} {n m:Nat} (hi:L[i]?=some (.blk b (.cells c E))) (hc:c[o]?=some (.slice a n m)):CP w b o=n:=by
 rw [CP,h.cellL hi,hc]
theorem yE {b:Nat} {k n:Int} {s:ByteArray} {kv:Value} {css:List (List Value)} {ks:List T} {o:Obj}
  (hI:Inv w0 X (.blk b o::aJ kv ab 4 css::A) S w) (hR:Rows 4 (RdT S) css ks) (hk:inI k) (hn:inI n) (hs:s.size<=maxLen) :
  ∃ S',Ext w0.heap.size X S S'/\Inv w0 X (.blk b o::A) S' w/\RdT S' [.int .i64 k,.int .i64 n,.string s,kv] (.mk k n s ks)/\RdSl S' 4 (RdT S') kv ks:=by
 have hI:Inv w0 X ((.blk b o::A)++[aJ kv ab 4 css]) S w:=hI.last 1 rfl
 obtain ⟨S',hE,hrd,hI⟩:=Inv.lendExt hI
 have hrs:=RowRd.rows (hR.monoR fun _ _ h=>RdT.mono hE.1 h) hrd
 exact ⟨S',hE,hI,RdT.iff.2 ⟨_,rfl,hk,hn,hs,hrs⟩,hrs⟩
end
section
variable {br:Nat} {sl:Value} {ys:List Nat}
attribute [local irreducible] Run CondV az aO
theorem tM {p:Nat} {S:ae} {cs:List Value} {t:T} (hrd:RdSl S 1 mE sl ys) (h:RdT S cs t) (hw:wT t<=100000) (hp:p<=400000000) :
  Tri Tryz.prog Lx [rdP br,.agg cs.toArray] [rdI br sl p] S (We br sl p 2 (wT t+100)):=by
 intro w hI
 have h0:=h
 obtain ⟨kv0,rfl,hk,hn,hs,hks⟩:=RdT.iff.1 h
 refine wk.2 ?_
 dsimp only[wk,aY]
 refine bq hI fun b3 w' hI=>?_
 refine aT hI aZ fun b4 w' hI=>?_
 refine av hI 1 ad rfl rfl ?_
 refine Run.call0E fy fB hI (Vx t S _ h0 (by omega)) fun v' I' S1 w'=>?_
 rintro ⟨kv,css,rfl,rfl,hR⟩ hE1 hI
 have hE1:Ext w.heap.size [br] S S1:=hE1
 obtain ⟨a0,n0,q0,rfl⟩:=hI.rowSlice 3 rfl
 refine aT hI aZ fun b5 w' hI=>?_
 refine aC hI 4 rfl ad rfl rfl (by simp [Value.oneCell']) fun w' hI=>?_
 obtain ⟨B4,hB4⟩:∃ B4,B4=Item.blk b4 (.cells #[.int .i64 0,.int .i64 0,.string ⟨#[]⟩,.slice none 0 0] ab):=⟨_,rfl⟩
 obtain ⟨k,hk'⟩:∃ k,k=t.kind:=⟨_,rfl⟩
 obtain ⟨n,hn'⟩:∃ n,n=t.n:=⟨_,rfl⟩
 obtain ⟨s,hs'⟩:∃ s,s=t.name:=⟨_,rfl⟩
 have hwt:wT t=s.size+t.kids.length+wL t.kids:=by rw [hs']; cases t; rw [wT]; rfl
 rw [<- hk',<- hn',<- hs'] at hI
 rw [<- hk'] at hk
 rw [<- hn'] at hn
 rw [<- hs'] at hs
 have hI:Inv w [br] [.blk b5 (.cells #[.int .i64 k,.int .i64 n,.string s,.slice a0 n0 q0] ab),aJ (.slice a0 n0 q0) ab 4 css,B4,rdI br sl p] S1 w':=by
  rw [hB4]
  exact (((hI.pick [true,false,true,true,true]).last 2 rfl).last 1 rfl).last 0 rfl
 refine ⟨fun w'=>∃ (p1:Nat) (S2:ae) (cs1:List Value) (t1:T),p1<=p+2/\Ext w.heap.size [br] S S2/\RdT S2 cs1 t1/\wT t1<=wT t+100/\Inv w [br] [.blk b5 (.cells cs1.toArray ab),B4,rdI br sl p1] S2 w',?_,?_⟩
 ·have hfin:∀ {k n:Int} {s1:ByteArray} {p1:Nat} {w':World} {S1:ae} {css:List (List Value)} {kv:Value} {ks:List T},Ext w.heap.size [br] S S1->p1<=p+2->inI k->inI n->s1.size<=s.size+7->Rows 4 (RdT S1) css ks->ks.length<=t.kids.length+5->wL ks<=wL t.kids->
    Inv w [br] [.blk b5 (.cells #[.int .i64 k,.int .i64 n,.string s1,kv] ab),aJ kv ab 4 css,B4,rdI br sl p1] S1 w'->
    ∃ (p1:Nat) (S2:ae) (cs1:List Value) (t1:T),p1<=p+2/\Ext w.heap.size [br] S S2/\RdT S2 cs1 t1/\wT t1<=wT t+100/\Inv w [br] [.blk b5 (.cells cs1.toArray ab),B4,rdI br sl p1] S2 w':=by
   intro k n s1 p1 w' S1 css kv ks hE hp1 hk hn hs1 hR hkl hkw hI
   obtain ⟨S2,hE2,hI,hr,_⟩:=yE (s:=s1) hI hR hk hn (by simp only [maxLen]; omega)
   exact ⟨p1,S2,_,_,hp1,hE.trans hE2,hr,by rw [wT,hwt]; omega,hI⟩
  refine Run.callL cP cO hI (eH (n:=50) (hrd.monoU hE1.1) (by omega) (by omega)) rfl fun v' I' S1 w'=>?_
  rintro ⟨rfl,rfl,kk,hkk,rfl⟩ _ hI
  refine bl ?_
  refine aL (fun _=>?_) (fun _=>?_)
  ·refine GR hI (by kernel_rfl) rfl (by omega) fun v S3 w' hE3 hv hI=>?_
   refine Run.callL g5 gN hI (pD (p:=p+1) (hrd.monoU (hE1.trans hE3).1) hv (by decide) (by omega)) rfl fun v' I' S3 w'=>?_
   rintro ⟨rfl,rfl,m,hm,rfl⟩ _ hI
   have hm:=yP (a:=-1000) (b:=1000) hm (by decide)
   refine du hI 0 rfl aR aG rfl rfl rfl fun w' hI=>?_
   exact hfin (hE1.trans hE3) (aW _) (by simp only [inI]; omega) hn (by omega) (hR.monoR fun _ _ h=>RdT.mono hE3.1 h) (by omega) (aW _) hI
  refine bl ?_
  refine aL (fun _=>?_) (fun _=>?_)
  ·refine GR hI (by kernel_rfl) rfl (by omega) fun v S3 w' hE3 hv hI=>?_
   refine Run.callL g5 gN hI (pD (p:=p+1) (hrd.monoU (hE1.trans hE3).1) hv (by decide) (by omega)) rfl fun v' I' S3 w'=>?_
   rintro ⟨rfl,rfl,m,hm,rfl⟩ _ hI
   have hm:=yP (a:=-1000) (b:=1000) hm (by decide)
   refine du hI 0 rfl bf aG rfl rfl rfl fun w' hI=>?_
   exact hfin (hE1.trans hE3) (aW _) hk (by simp only [inI]; omega) (by omega) (hR.monoR fun _ _ h=>RdT.mono hE3.1 h) (by omega) (aW _) hI
  refine bl ?_
  refine aL (fun _=>?_) (fun _=>?_)
  ·refine um hI (by kernel_rfl) rfl (by omega) fun v S3 w' hE3 hv hI=>?_
   refine Run.callL kC kD hI (zC (p:=p+1) (hrd.monoU (hE1.trans hE3).1) hv (by decide) (by omega)) rfl fun v' I' S3 w'=>?_
   rintro ⟨rfl,rfl,m,hm,rfl⟩ _ hI
   have hm:=Ff (m:=7) hm (by decide)
   refine du hI 0 rfl bb aU rfl rfl rfl fun w' hI=>?_
   exact hfin (hE1.trans hE3) (aW _) hk hn (by omega) (hR.monoR fun _ _ h=>RdT.mono hE3.1 h) (by omega) (aW _) hI
  refine bl ?_
  refine aL (fun _=>?_) (fun _=>?_)
  ·refine ⟨fun w'=>∃ (S2:ae) (kv:Value) (css:List (List Value)) (ks:List T),Ext w.heap.size [br] S S2/\Rows 4 (RdT S2) css ks/\ks.length<=t.kids.length+5/\wL ks<=wL t.kids/\
     Inv w [br] [.blk b5 (.cells #[.int .i64 k,.int .i64 n,.string s,kv] ab),aJ kv ab 4 css,B4,rdI br sl (p+1)] S2 w',fun w'=>5 - CP w' b5 3,⟨S1,_,css,t.kids,hE1,hR,by omega,aW _,hI⟩,?_⟩
   intro t40 t39 t38 t37 t36 t35 _ _ _ _ w'
   rintro ⟨S2,kv,css,ks,hE2,hR,hkl,hkw,hI⟩
   obtain ⟨a1,n1,q1,rfl,hn1⟩:∃ a m c,kv=.slice a m c/\m=ks.length:=by
    obtain ⟨S',_,_,_,hr⟩:=yE hI hR hk hn hs
    obtain ⟨a,q,rfl,_⟩:=hr
    exact ⟨a,_,q,rfl,rfl⟩
   subst hn1
   have hl1:=zf hI (i:=0) (o:=3) rfl rfl
   have hcl:=hR.hc
   refine af hI 0 rfl ao aj rfl ?_
   refine eV ag ?_
   refine gy ?_
   refine aL (fun hle=>?_) (fun hle=>?_)
   ·have hI:=hI
    refine ⟨fun D vh tI ll AB vN vL w_=>Fx D 0 [vL=.pointer (some ⟨b5,3,none⟩),vN=.slice a1 ks.length q1,True,True,True,vh=.pointer (some ⟨b5,3,none⟩),True]/\∃ n_:Nat,n_<=4/\D 2=decide (1<=n_)/\D 3=decide (2<=n_)/\D 4=decide (3<=n_)/\D 6=decide (4<=n_)/\(D 6=true->D 1=true)/\(sL (Inv w [br] [.blk b5 (.cells #[.int .i64 k,.int .i64 n,.string s,.slice a1 ks.length q1] ab),aJ (.slice a1 ks.length q1) ab 4 css,B4,rdI br sl (p+1)] S2 w_) (Es w [br] b5 #[.int .i64 k,.int .i64 n,.string s,.slice a1 ks.length q1] 3 ab (.slice a1 ks.length q1) css (fun p=>[B4,rdI br sl (p+1)]) (fun cs p' S'=>p'=p/\S'=S2/\RdT S2 cs (.mk 2 1 emptyB [])) AB ll tI w_) n_),⟨Fx.nil _ _,⟨0,be _,rfl,rfl,rfl,rfl,(aQ),hI.draw⟩⟩,⟨?_,?_,?_,?_,?_,?_,?_,trivial⟩,?_⟩
    all_goals (intro D bF; intros; rename_i vh tI ll AB vN vL w_ hA_; have hF_:=hA_.1; obtain ⟨⟨cj,ci,bR,ce,bP,bY,bZ,_⟩,⟨n_,ln_,e1_,e2_,e3_,e4_,kp_,hS⟩⟩:=hA_)
    ·refine au ao ?_
     exact ⟨hF_.set 0 rfl,⟨n_,ln_,e1_,e2_,e3_,e4_,kp_,hS⟩⟩
    ·obtain rfl:=cj ‹_›
     have ln2_:=Zc e4_ kp_ bF
     refine ct aj ((Q5 (fun h=>h.cellL (i:=0) rfl) (fun n hn h=>Mm h hn) hS ln2_).trans rfl) ?_
     exact ⟨hF_.set 1 rfl,⟨n_,ln_,e1_,e2_,e3_,e4_,(fun _=>rfl),hS⟩⟩
    ·obtain rfl:n_=0:=Yt e1_ bF
     refine Run.callPure xl xN (L:=[.blk b5 _,aJ _ ab 4 css,B4,rdI br sl (p+1)]) hS (oO 1 S2) fun w_ hI=>?_
     exact ⟨hF_.set 2 (by first|assumption|trivial),⟨1,by decide,rfl,(by first|exact e2_|rfl),(by first|exact e3_|rfl),(by first|exact e4_|rfl),kp_,L9 ⟨rfl,rfl,uE (by simp [inI]) (by simp [inI])⟩ (uE (by simp [inI]) (by simp [inI])) hI⟩⟩
    ·have g2_:=bR ‹_›
     obtain rfl:n_=1:=AU e1_ ‹D 2=true› e2_ bF
     refine ap1 hS fun u w_ hS=>?_
     exact ⟨hF_.set 3 (by first|assumption|trivial),⟨2,by decide,(by first|exact e1_|rfl),rfl,(by first|exact e3_|rfl),(by first|exact e4_|rfl),kp_,hS⟩⟩
    ·obtain rfl:=ci ‹_›
     have g3_:=ce ‹_›
     obtain rfl:n_=2:=AU e2_ ‹D 3=true› e3_ bF
     refine ap2 hS (by omega) fun u w_ hS=>?_
     exact ⟨hF_.set 4 (by first|assumption|trivial),⟨3,by decide,(by first|exact e1_|rfl),(by first|exact e2_|rfl),rfl,(by first|exact e4_|rfl),kp_,hS⟩⟩
    ·refine au ao ?_
     exact ⟨hF_.set 5 rfl,⟨n_,ln_,e1_,e2_,e3_,e4_,kp_,hS⟩⟩
    ·obtain rfl:=bY ‹_›
     have QG:=bP ‹_›
     obtain rfl:n_=3:=AU e3_ ‹D 4=true› e4_ bF
     refine ap3 hS (by simp) fun w_ hS=>?_
     exact ⟨hF_.set 6 trivial,⟨4,by decide,(by first|exact e1_|rfl),(by first|exact e2_|rfl),(by first|exact e3_|rfl),rfl,(fun _=>‹D 1=true›),hS⟩⟩
    obtain rfl:n_=4:=YE ln_ e4_ ‹D 6=true›
    clear e1_ e2_ e3_ e4_
    obtain ⟨p3,S7,cs,⟨rfl,rfl,hcs⟩,hl,hI⟩:=hS
    have hR2:=hR.snoc hcs hl.1
    refine ⟨⟨S7,_,_,_,hE2,hR2,by rw [bA]; simp only [bw,bU]; omega,by rw [pp]; have e:emptyB.size=0:=rfl; simp only [wL,wT,bU,e]; omega,hI⟩,?_⟩
    obtain ⟨S',_,_,_,hr⟩:=yE hI hR2 hk hn hs
    obtain ⟨a,q,e,_⟩:=hr
    have hl2:=zf hI (i:=0) (o:=3) (a:=a) (n:=(ks++[T.mk 2 1 emptyB []]).length) (m:=q) rfl (by rw [<- e]; rfl)
    show 5 - CP w_ b5 3<5 - CP w' b5 3
    rw [hl1,hl2,bA,bw,bU]
    omega
   ·exact hfin hE2 (by omega) hk hn (by omega) hR hkl hkw hI
  refine bl ?_
  refine aL (fun _=>?_) (fun _=>?_)
  ·obtain ⟨S2,hE2,hI,hr,_⟩:=yE hI hR hk hn hs
   have hI:Inv w [br] [.blk b5 (.cells #[.int .i64 k,.int .i64 n,.string s,.slice a0 n0 q0] ab),B4,rdI br sl (p+1)] S2 w':=hI
   have ht:T.mk k n s t.kids=t:=by rw [hk',hn',hs']; cases t; rfl
   rw [ht] at hr
   refine ⟨fun t6 w'=>∃ (j:Nat) (S3:ae) (cs1:List Value) (t1:T),t6=.int .i64 (j:Int)/\j<=30/\Ext w.heap.size [br] S S3/\RdT S3 cs1 t1/\wT t1<=wT t+2 * j/\Inv w [br] [.blk b5 (.cells cs1.toArray ab),B4,rdI br sl (p+1)] S3 w',fun t6 _=>30 - (intOf t6).toNat,
    ⟨0,S2,_,t,rfl,by omega,hE1.trans hE2,hr,by omega,hI⟩,?_⟩
   intro t6 _ _ _ _ _ _ _ w'
   rintro ⟨j,S3,cs1,t1,rfl,hj,hE3,hr,hw1,hI⟩
   refine bH ?_
   refine aL (fun hj'=>?_) (fun hj'=>?_)
   ·refine av hI 0 ad rfl (by simpa using hr.length) ?_
    refine er hI bo (by simp [Value.cells,hr.length]) (by omega) (by omega) fun b8 w' hI=>?_
    obtain ⟨S4,hI,hE4,hS⟩:=hI.pub1
    refine Run.call0E dT dP hI (eP ⟨#[115]⟩ (by decide) (Xd hS (hr.mono hE4.1)) (by simp)) fun v' I' S5 w'=>?_
    rintro ⟨rfl,cs2,rfl,hcs2⟩ hE5 hI
    have hI:Inv w [br] [.blk b5 (.cells cs1.toArray ab),B4,rdI br sl (p+1)] S5 w':=by simpa using hI
    refine aC hI 0 rfl ad (by simpa using hcs2.length) (by simpa using hr.length) (by simpa using hcs2.one) fun w' hI=>?_
    refine bp (by omega) ?_
    have e:(ByteArray.mk #[115]).size=1:=rfl
    exact ⟨⟨j+1,S5,cs2,_,rfl,by omega,hE3.trans (hE4.trans hE5),hcs2,by simp only [wT,wL,bw,bU,e]; omega,hI⟩,by simp only [intOf,dv]; omega⟩
   ·exact ⟨p+1,S3,cs1,t1,by omega,hE3,hr,by omega,hI⟩
  ·exact hfin hE1 (by omega) hk hn (by omega) hR (by omega) (aW _) hI
 intro _ _ _ _ _ _ _ _ _ _ _ _ _ _ _ _ _ _ _ _ _ _ _ _ _ _ _ _ _ _ _ _ _ _ _ _ _ _ _ _ _ _ w'
 rintro ⟨p1,S2,cs1,t1,hp1,hE2,hr,hw1,hI⟩
 subst hB4
 refine av hI 0 ad rfl (by simpa using hr.length) ?_
 refine aC hI 1 rfl ad (by simpa using hr.length) rfl (by simpa using hr.one) fun w' hI=>?_
 refine bJ hI 1 ad rfl (by simpa using hr.length) ?_
 exact ⟨_,_,S2,rfl,hI.pick [false,false,true],hE2,p1,hp1,rfl,cs1,t1,rfl,hr,hw1⟩
end
end
section
open Go Go.RowKit
section
variable {w0 w:World} {X:List Nat} {L A:List Item} {S:ae} {K:Value->World->Prop} {P:Program}
theorem F0 {b:Nat} {hd:List Value} {h:T} {kv:Value} {css:List (List Value)} {ks:List T} {o:Obj}
  (hI:Inv w0 X (.blk b o::aJ kv ab 4 css::A) S w) (hR:Rows 4 (RdT S) css ks) (hh:RdT S hd h) :
  ∃ S',Ext w0.heap.size X S S'/\Inv w0 X (.blk b o::A) S' w/\RdC S' (hd++[kv]) ⟨h,ks⟩/\RdSl S' 4 (RdT S') kv ks:=by
 have hI:Inv w0 X ((.blk b o::A)++[aJ kv ab 4 css]) S w:=hI.last 1 rfl
 obtain ⟨S',hE,hrd,hI⟩:=Inv.lendExt hI
 have hrs:=RowRd.rows (hR.monoR fun _ _ h=>RdT.mono hE.1 h) hrd
 exact ⟨S',hE,hI,⟨hd,kv,rfl,hh.mono hE.1,hrs⟩,hrs⟩
end
abbrev ZS (br:Nat) (sl:Value) (p k m:Nat):Value->List Item->ae->Prop:=fun v I' S'=>∃ p',p'<=p+k/\I'=[rdI br sl p']/\∃ cs c,v=.agg cs.toArray/\RdC S' cs c/\wC c<=m
section
variable {br:Nat} {sl:Value} {ys:List Nat}
attribute [local irreducible] Run CondV az aO
theorem HY {p:Nat} {S:ae} {cs:List Value} {c:C} (hrd:RdSl S 1 mE sl ys) (h:RdC S cs c) (hw:wC c<=100000) (hp:p<=90000000) :
  Tri Tryz.prog MH [rdP br,.agg cs.toArray] [rdI br sl p] S (ZS br sl p 600 (wC c+700)):=by
 intro w hI
 have hl5:=h.length
 refine vW.2 ?_
 dsimp only[vW,aY]
 refine bq hI fun b3 w' hI=>?_
 refine aT hI eI fun b4 w' hI=>?_
 refine av hI 1 bx rfl (by simpa [Value.cells] using hl5) ?_
 refine Run.call0E CZ DL hI (Vp h (by omega)) fun v' I' S1 w'=>?_
 rintro ⟨hd,kv,css,rfl,hhd,rfl,hR⟩ hE1 hI
 have hE1:Ext w.heap.size [br] S S1:=hE1
 obtain ⟨a0,n0,q0,rfl⟩:=hI.rowSlice 3 rfl
 have hhd0:=hhd
 obtain ⟨k4,rfl,hk,hn,hs,_⟩:=RdT.iff.1 hhd
 obtain ⟨ak,nk,ck,hk4⟩:∃ a n c,k4=.slice a n c:=by
  obtain ⟨_,e,_,_,_,a,q,rfl,_⟩:=RdT.iff.1 hhd0
  simp only [lE,mC,xO] at e
  exact ⟨_,_,_,e⟩
 subst hk4
 refine aT hI eI fun b5 w' hI=>?_
 refine aC hI 4 rfl bx rfl rfl (by simp [Value.oneCell']) fun w' hI=>?_
 obtain ⟨B4,hB4⟩:∃ B4,B4=Item.blk b4 (.cells #[.int .i64 0,.int .i64 0,.string ⟨#[]⟩,.slice none 0 0,.slice none 0 0] aq):=⟨_,rfl⟩
 have hI:Inv w [br] [.blk b5 (.cells #[.int .i64 c.head.kind,.int .i64 c.head.n,.string c.head.name,.slice ak nk ck,.slice a0 n0 q0] aq),aJ (.slice a0 n0 q0) ab 4 css,B4,rdI br sl p] S1 w':=by
  rw [hB4]
  exact (((hI.pick [true,false,true,true,true]).last 2 rfl).last 1 rfl).last 0 rfl
 have hwc:wC c=wT c.head+c.body.length+wL c.body:=rfl
 refine ⟨fun w'=>∃ (p1:Nat) (S2:ae) (cs1:List Value) (c1:C),p1<=p+600/\Ext w.heap.size [br] S S2/\RdC S2 cs1 c1/\wC c1<=wC c+700/\Inv w [br] [.blk b5 (.cells cs1.toArray aq),B4,rdI br sl p1] S2 w',?_,?_⟩
 ·have hfin:∀ {hd:List Value} {h:T} {p1:Nat} {w':World} {S1:ae} {css:List (List Value)} {kv:Value} {ks:List T},Ext w.heap.size [br] S S1->p1<=p+600->RdT S1 hd h->Rows 4 (RdT S1) css ks->wT h+ks.length+wL ks<=wC c+700->
    Inv w [br] [.blk b5 (.cells (hd++[kv]).toArray aq),aJ kv ab 4 css,B4,rdI br sl p1] S1 w'->
    ∃ (p1:Nat) (S2:ae) (cs1:List Value) (c1:C),p1<=p+600/\Ext w.heap.size [br] S S2/\RdC S2 cs1 c1/\wC c1<=wC c+700/\Inv w [br] [.blk b5 (.cells cs1.toArray aq),B4,rdI br sl p1] S2 w':=by
   intro hd h p1 w' S1 css kv ks hE hp1 hh hR hwn hI
   obtain ⟨S2,hE2,hI,hr,_⟩:=F0 hI hR hh
   exact ⟨p1,S2,_,_,hp1,hE.trans hE2,hr,hwn,hI⟩
  refine Run.callL cP cO hI (eH (n:=40) (hrd.monoU hE1.1) (by omega) (by omega)) rfl fun v' I' S1 w'=>?_
  rintro ⟨rfl,rfl,kk,hkk,rfl⟩ _ hI
  refine bl ?_
  refine aL (fun _=>?_) (fun _=>?_)
  ·refine Run.callL Ea DU hI (Aq (p:=p+1) (hrd.monoU hE1.1) (by omega)) rfl fun v' I' S2 w'=>?_
   rintro ⟨p2,hp2,rfl,cs2,t2,rfl,hr2,hw2⟩ hE2 hI
   refine Run.callL wv wj hI (tM (p:=p2) (hrd.monoU (hE1.trans hE2).1) hr2 (by omega) (by omega)) rfl fun v' I' S3 w'=>?_
   rintro ⟨p3,hp3,rfl,cs3,t3,rfl,hr3,hw3⟩ hE3 hI
   have hr3':=hr3
   obtain ⟨k3,rfl,_,_,_,a3,q3,rfl,_⟩:=RdT.iff.1 hr3
   refine au cE ?_
   refine PU hI 0 rfl ad rfl rfl (by simp [Value.cells,Value.oneCell']) fun w' hI=>?_
   exact hfin ((hE1.trans hE2).trans hE3) (by omega) hr3' (hR.monoR fun _ _ h=>RdT.mono (hE2.trans hE3).1 h) (by omega) hI
  refine bl ?_
  refine aL (fun _=>?_) (fun _=>?_)
  ·have hcl:=hR.hc
   have hI:=hI
   refine ⟨fun D uk mM gk lK tx uK sj oU lp w_=>Fx D 0 [lp=.pointer (some ⟨b5,4,none⟩),oU=.slice a0 n0 q0,sj=rdP br,uK=rdP br,True,True,True,True,uk=.pointer (some ⟨b5,4,none⟩),True]/\∃ n_:Nat,n_<=5/\D 4=decide (1<=n_)/\D 5=decide (2<=n_)/\D 6=decide (3<=n_)/\D 7=decide (4<=n_)/\D 9=decide (5<=n_)/\(D 9=true->D 1=true)/\(sL (Inv w [br] [.blk b5 (.cells #[.int .i64 c.head.kind,.int .i64 c.head.n,.string c.head.name,.slice ak nk ck,.slice a0 n0 q0] aq),aJ (.slice a0 n0 q0) ab 4 css,B4,rdI br sl (p+1)] S1 w_) (sL (∃ p1 S2 cs t,tx=.agg cs.toArray/\RdT S2 cs t/\wT t<=500/\p1<=p+501/\Ext w.heap.size [br] S1 S2/\Inv w [br] [.blk b5 (.cells #[.int .i64 c.head.kind,.int .i64 c.head.n,.string c.head.name,.slice ak nk ck,.slice a0 n0 q0] aq),aJ (.slice a0 n0 q0) ab 4 css,B4,rdI br sl p1] S2 w_) (Es w [br] b5 #[.int .i64 c.head.kind,.int .i64 c.head.n,.string c.head.name,.slice ak nk ck,.slice a0 n0 q0] 4 aq (.slice a0 n0 q0) css (fun p=>[B4,rdI br sl p]) (fun cs p' S'=>∃ t,RdT S' cs t/\wT t<=600/\p'<=p+503/\Ext w.heap.size [br] S1 S') lK gk mM w_)) n_),⟨Fx.nil _ _,⟨0,be _,rfl,rfl,rfl,rfl,rfl,(aQ),hI.draw⟩⟩,⟨?_,?_,?_,?_,?_,?_,?_,?_,?_,?_,trivial⟩,?_⟩
   all_goals (intro D bF; intros; rename_i uk mM gk lK tx uK sj oU lp w_ hA_; have hF_:=hA_.1; obtain ⟨⟨cj,ci,bR,ce,bP,bY,bZ,cH,c5,dI,_⟩,⟨n_,ln_,e1_,e2_,e3_,e4_,e5_,kp_,hS⟩⟩:=hA_)
   ·refine au bj ?_
    exact ⟨hF_.set 0 rfl,⟨n_,ln_,e1_,e2_,e3_,e4_,e5_,kp_,hS⟩⟩
   ·obtain rfl:=cj ‹_›
    have ln2_:=Zc e5_ kp_ bF
    refine ct aj ((Zl (fun h=>h.cellL (i:=0) rfl) (fun ⟨_,_,_,_,_,_,_,_,_,h⟩=>h.cellL (i:=0) rfl) (fun n hn h=>Mm h hn) hS ln2_).trans rfl) ?_
    exact ⟨hF_.set 1 rfl,⟨n_,ln_,e1_,e2_,e3_,e4_,e5_,(fun _=>rfl),hS⟩⟩
   ·exact ⟨hF_.set 2 rfl,⟨n_,ln_,e1_,e2_,e3_,e4_,e5_,kp_,hS⟩⟩
   ·exact ⟨hF_.set 3 rfl,⟨n_,ln_,e1_,e2_,e3_,e4_,e5_,kp_,hS⟩⟩
   ·obtain rfl:=ce ‹_›
    obtain rfl:n_=0:=Yt e1_ bF
    refine Run.callL Ea DU (L:=[.blk b5 _,aJ _ ab 4 css,B4,rdI br sl (p+1)]) hS (Aq (p:=p+1) (hrd.monoU hE1.1) (by omega)) rfl fun v' I' S2 w_=>?_
    rintro ⟨p2,hp2,rfl,cs2,t2,rfl,hr2,hw2⟩ hE2 hI
    exact ⟨hF_.set 4 (by first|assumption|trivial),⟨1,by decide,rfl,(by first|exact e2_|rfl),(by first|exact e3_|rfl),(by first|exact e4_|rfl),(by first|exact e5_|rfl),kp_,⟨p2,S2,cs2,t2,rfl,hr2,hw2,by omega,hE2,hI⟩⟩⟩
   ·obtain rfl:=bR ‹_›
    have QG:=bP ‹_›
    obtain rfl:n_=1:=AU e1_ ‹D 4=true› e2_ bF
    obtain ⟨p2,S2,cs2,t2,rfl,hr2,hw2,hp2,hE2,hI⟩:=KH hS
    refine Run.callL wv wj (L:=[.blk b5 _,aJ _ ab 4 css,B4,rdI br sl p2]) hI (tM (p:=p2) (hrd.monoU (hE1.trans hE2).1) hr2 (by omega) (by omega)) rfl fun v' I' S3 w_=>?_
    rintro ⟨p3,hp3,rfl,cs3,t3,rfl,hr3,hw3⟩ hE3 hI
    exact ⟨hF_.set 5 (by first|assumption|trivial),⟨2,by decide,(by first|exact e1_|rfl),rfl,(by first|exact e3_|rfl),(by first|exact e4_|rfl),(by first|exact e5_|rfl),kp_,UH (L9 ⟨t3,hr3,by omega,by omega,hE2.trans hE3⟩ hr3 hI)⟩⟩
   ·have Ro:=bY ‹_›
    obtain rfl:n_=2:=AU e2_ ‹D 5=true› e3_ bF
    refine ap1 (KH hS) fun u w_ hS=>?_
    exact ⟨hF_.set 6 (by first|assumption|trivial),⟨3,by decide,(by first|exact e1_|rfl),(by first|exact e2_|rfl),rfl,(by first|exact e4_|rfl),(by first|exact e5_|rfl),kp_,UH hS⟩⟩
   ·obtain rfl:=ci ‹_›
    have NF:=bZ ‹_›
    obtain rfl:n_=3:=AU e3_ ‹D 6=true› e4_ bF
    refine ap2 (KH hS) (by omega) fun u w_ hS=>?_
    exact ⟨hF_.set 7 (by first|assumption|trivial),⟨4,by decide,(by first|exact e1_|rfl),(by first|exact e2_|rfl),(by first|exact e3_|rfl),rfl,(by first|exact e5_|rfl),kp_,UH hS⟩⟩
   ·refine au bj ?_
    exact ⟨hF_.set 8 rfl,⟨n_,ln_,e1_,e2_,e3_,e4_,e5_,kp_,hS⟩⟩
   ·obtain rfl:=c5 ‹_›
    have Io:=cH ‹_›
    obtain rfl:n_=4:=AU e4_ ‹D 7=true› e5_ bF
    refine ap3 (KH hS) (by simp) fun w_ hS=>?_
    exact ⟨hF_.set 9 trivial,⟨5,by decide,(by first|exact e1_|rfl),(by first|exact e2_|rfl),(by first|exact e3_|rfl),(by first|exact e4_|rfl),rfl,(fun _=>‹D 1=true›),UH hS⟩⟩
   obtain rfl:n_=5:=YE ln_ e5_ ‹D 9=true›
   clear e1_ e2_ e3_ e4_ e5_
   obtain ⟨p3,S7,cs,⟨t,hcs,hwt,hp3,hE7⟩,hl,hI⟩:=KH (KH hS)
   exact hfin (hE1.trans hE7) (by omega) (hhd0.mono hE7.1) ((hR.monoR fun _ _ h=>RdT.mono hE7.1 h).snoc hcs hl.1) (by rw [pp,bA,bw,bU]; simp only [wL]; omega) hI
  refine bl ?_
  refine aL (fun _=>?_) (fun _=>?_)
  ·refine ⟨fun w'=>∃ (S2:ae) (kv:Value) (css:List (List Value)) (ks:List T),Ext w.heap.size [br] S S2/\Rows 4 (RdT S2) css ks/\ks.length<=c.body.length+7/\wL ks+4 * (7 - (ks.length - c.body.length))<=wL c.body+28/\c.body.length<=ks.length/\
     RdT S2 [.int .i64 c.head.kind,.int .i64 c.head.n,.string c.head.name,.slice ak nk ck] c.head/\
     Inv w [br] [.blk b5 (.cells #[.int .i64 c.head.kind,.int .i64 c.head.n,.string c.head.name,.slice ak nk ck,kv] aq),aJ kv ab 4 css,B4,rdI br sl (p+1)] S2 w',fun w'=>7 - CP w' b5 4,⟨S1,_,css,c.body,hE1,hR,by omega,by omega,by omega,hhd0,hI⟩,?_⟩
   intro t39 t38 t37 t36 t35 t34 _ _ _ _ w'
   rintro ⟨S2,kv,css,ks,hE2,hR,hkl,hkw,hkb,hhd,hI⟩
   obtain ⟨a1,n1,q1,rfl,hn1⟩:∃ a m c,kv=.slice a m c/\m=ks.length:=by
    obtain ⟨S',_,_,_,hr⟩:=F0 hI hR hhd
    obtain ⟨a,q,rfl,_⟩:=hr
    exact ⟨a,_,q,rfl,rfl⟩
   subst hn1
   have hl1:=zf hI (i:=0) (o:=4) rfl rfl
   have hcl:=hR.hc
   refine af hI 0 rfl bj aj rfl ?_
   refine eV ag ?_
   refine gy ?_
   refine aL (fun hle=>?_) (fun hle=>?_)
   ·have hI:=hI
    refine ⟨fun D tI ll AB vN vL JI w_=>Fx D 0 [JI=.pointer (some ⟨b5,4,none⟩),vL=.slice a1 ks.length q1,True,True,True,tI=.pointer (some ⟨b5,4,none⟩),True]/\∃ n_:Nat,n_<=4/\D 2=decide (1<=n_)/\D 3=decide (2<=n_)/\D 4=decide (3<=n_)/\D 6=decide (4<=n_)/\(D 6=true->D 1=true)/\(sL (Inv w [br] [.blk b5 (.cells #[.int .i64 c.head.kind,.int .i64 c.head.n,.string c.head.name,.slice ak nk ck,.slice a1 ks.length q1] aq),aJ (.slice a1 ks.length q1) ab 4 css,B4,rdI br sl (p+1)] S2 w_) (Es w [br] b5 #[.int .i64 c.head.kind,.int .i64 c.head.n,.string c.head.name,.slice ak nk ck,.slice a1 ks.length q1] 4 aq (.slice a1 ks.length q1) css (fun p=>[B4,rdI br sl (p+1)]) (fun cs p' S'=>p'=p/\Ext w.heap.size [br] S2 S'/\RdT S' cs (.mk 3 0 ⟨#[116,114,117,101]⟩ [])) vN AB ll w_) n_),⟨Fx.nil _ _,⟨0,be _,rfl,rfl,rfl,rfl,(aQ),hI.draw⟩⟩,⟨?_,?_,?_,?_,?_,?_,?_,trivial⟩,?_⟩
    all_goals (intro D bF; intros; rename_i tI ll AB vN vL JI w_ hA_; have hF_:=hA_.1; obtain ⟨⟨cj,ci,bR,ce,bP,bY,bZ,_⟩,⟨n_,ln_,e1_,e2_,e3_,e4_,kp_,hS⟩⟩:=hA_)
    ·refine au bj ?_
     exact ⟨hF_.set 0 rfl,⟨n_,ln_,e1_,e2_,e3_,e4_,kp_,hS⟩⟩
    ·obtain rfl:=cj ‹_›
     have ln2_:=Zc e4_ kp_ bF
     refine ct aj ((Q5 (fun h=>h.cellL (i:=0) rfl) (fun n hn h=>Mm h hn) hS ln2_).trans rfl) ?_
     exact ⟨hF_.set 1 rfl,⟨n_,ln_,e1_,e2_,e3_,e4_,(fun _=>rfl),hS⟩⟩
    ·obtain rfl:n_=0:=Yt e1_ bF
     refine Run.call0E dT dP (L:=[.blk b5 _,aJ _ ab 4 css,B4,rdI br sl (p+1)]) hS (eP ⟨#[116,114,117,101]⟩ (by decide) (lQ S2) (by simp)) fun v' I' S3 w_=>?_
     rintro ⟨rfl,cs3,rfl,hcs3⟩ hE3 hI
     exact ⟨hF_.set 2 (by first|assumption|trivial),⟨1,by decide,rfl,(by first|exact e2_|rfl),(by first|exact e3_|rfl),(by first|exact e4_|rfl),kp_,L9 ⟨rfl,hE3,hcs3⟩ hcs3 hI⟩⟩
    ·have g2_:=bR ‹_›
     obtain rfl:n_=1:=AU e1_ ‹D 2=true› e2_ bF
     refine ap1 hS fun u w_ hS=>?_
     exact ⟨hF_.set 3 (by first|assumption|trivial),⟨2,by decide,(by first|exact e1_|rfl),rfl,(by first|exact e3_|rfl),(by first|exact e4_|rfl),kp_,hS⟩⟩
    ·obtain rfl:=ci ‹_›
     have g3_:=ce ‹_›
     obtain rfl:n_=2:=AU e2_ ‹D 3=true› e3_ bF
     refine ap2 hS (by omega) fun u w_ hS=>?_
     exact ⟨hF_.set 4 (by first|assumption|trivial),⟨3,by decide,(by first|exact e1_|rfl),(by first|exact e2_|rfl),rfl,(by first|exact e4_|rfl),kp_,hS⟩⟩
    ·refine au bj ?_
     exact ⟨hF_.set 5 rfl,⟨n_,ln_,e1_,e2_,e3_,e4_,kp_,hS⟩⟩
    ·obtain rfl:=bY ‹_›
     have QG:=bP ‹_›
     obtain rfl:n_=3:=AU e3_ ‹D 4=true› e4_ bF
     refine ap3 hS (by simp) fun w_ hS=>?_
     exact ⟨hF_.set 6 trivial,⟨4,by decide,(by first|exact e1_|rfl),(by first|exact e2_|rfl),(by first|exact e3_|rfl),rfl,(fun _=>‹D 1=true›),hS⟩⟩
    obtain rfl:n_=4:=YE ln_ e4_ ‹D 6=true›
    clear e1_ e2_ e3_ e4_
    obtain ⟨p3,S7,cs,⟨rfl,hE7,hcs⟩,hl,hI⟩:=hS
    have hR2:=(hR.monoR fun _ _ h=>RdT.mono hE7.1 h).snoc hcs hl.1
    have e4:(ByteArray.mk #[116,114,117,101]).size=4:=rfl
    refine ⟨⟨S7,_,_,_,hE2.trans hE7,hR2,by rw [bA]; simp only [bw,bU]; omega,by rw [pp,bA,bw,bU]; simp only [wL,wT,bU,e4]; omega,by rw [bA]; omega,hhd.mono hE7.1,hI⟩,?_⟩
    obtain ⟨S',_,_,_,hr⟩:=F0 hI hR2 (hhd.mono hE7.1)
    obtain ⟨a,q,e,_⟩:=hr
    have hl2:=zf hI (i:=0) (o:=4) (a:=a) (n:=(ks++[T.mk 3 0 ⟨#[116,114,117,101]⟩ []]).length) (m:=q) rfl (by rw [<- e]; rfl)
    show 7 - CP w_ b5 4<7 - CP w' b5 4
    rw [hl1,hl2,bA,bw,bU]
    omega
   ·exact hfin hE2 (by omega) hhd hR (by omega) hI
  refine bl ?_
  refine aL (fun _=>?_) (fun _=>?_)
  ·refine um hI (by kernel_rfl) rfl (by omega) fun v S3 w' hE3 hv hI=>?_
   refine Run.callL kC kD hI (zC (p:=p+1) (hrd.monoU (hE1.trans hE3).1) hv (by decide) (by omega)) rfl fun v' I' S3 w'=>?_
   rintro ⟨rfl,rfl,m,hm,rfl⟩ _ hI
   have hm:=Ff (m:=7) hm (by decide)
   refine au cE ?_
   refine au bb ?_
   refine cW hI 0 (n:=1) rfl (by decide +kernel) rfl (by simp) (by simp [Value.cells,Value.oneCell']) fun w' hI=>?_
   have hr0:=hhd0.mono hE3.1
   obtain ⟨k3,e3,_,_,_,hk3⟩:=RdT.iff.1 hr0
   have hr1:RdT S3 [.int .i64 c.head.kind,.int .i64 c.head.n,.string m,.slice ak nk ck] (.mk c.head.kind c.head.n m c.head.kids):=by
    simp only [lE,mC,xO] at e3
    exact RdT.iff.2 ⟨_,rfl,hk,hn,by simp only [T.name,maxLen]; omega,e3 ▸ hk3⟩
   refine hfin (hE1.trans hE3) (by omega) hr1 (hR.monoR fun _ _ h=>RdT.mono hE3.1 h) ?_ hI
   have:wT c.head=c.head.name.size+c.head.kids.length+wL c.head.kids:=by cases c.head; rw [wT]; rfl
   rw [wT]
   omega
  ·exact hfin hE1 (by omega) hhd0 hR (by omega) hI
 intro _ _ _ _ _ _ _ _ _ _ _ _ _ _ _ _ _ _ _ _ _ _ _ _ _ _ _ _ _ _ _ _ _ _ _ _ _ _ _ w'
 rintro ⟨p1,S2,cs1,c1,hp1,hE2,hr,hw1,hI⟩
 subst hB4
 refine av hI 0 bx rfl (by simpa using hr.length) ?_
 refine aC hI 1 rfl bx (by simpa using hr.length) rfl (by simpa using hr.one) fun w' hI=>?_
 refine bJ hI 1 bx rfl (by simpa using hr.length) ?_
 exact ⟨_,_,S2,rfl,hI.pick [false,false,true],hE2,p1,hp1,rfl,cs1,c1,rfl,hr,hw1⟩
end
end
section
open Go Go.RowKit
def Light (n m:Nat) (q:List C):Prop:=q.length<=n/\∀ c∈q,wC c<=m
theorem Light.le {n m:Nat} {q:List C} (h:Light n m q):q.length+wP q<=n+n * m:=by
 have:∀ q:List C,(∀ c∈q,wC c<=m)->wP q<=q.length * m:=by
  intro q
  induction q with
  | nil=>intro _; simp [wP]
  | cons c q ih=>
   intro h
   have h1:=h c (aS ..)
   have h2:=ih fun d hd=>h d (aV _ hd)
   simp only [wP,bw,lw]
   omega
 have h1:=this q h.2
 have h2:q.length * m<=n * m:=ja _ h.1
 have:=h.1
 omega
theorem Light.append {n n' m:Nat} {q q':List C} (h:Light n m q) (h':Light n' m q'):Light (n+n') m (q++q'):=
 ⟨by rw [bA]; exact Nat.add_le_add h.1 h'.1,fun c hc=>(bO.1 hc).elim (h.2 c) (h'.2 c)⟩
abbrev ZO (br:Nat) (sl:Value) (p k n m:Nat):Value->List Item->ae->Prop:=fun v I' S'=>∃ p',p'<=p+k/\I'=[rdI br sl p']/\∃ q,RdSl S' 5 (RdC S') v q/\Light n m q
abbrev Z5 (br:Nat) (sl:Value) (p k n m:Nat):Value->List Item->ae->Prop:=fun v I' S'=>∃ p' css q,p'<=p+k/\I'=[aJ v aq 5 css,rdI br sl p']/\Rows 5 (RdC S') css q/\Light n m q/\0<q.length/\∀ c∈q,bK c=true
section
variable {w0 w:World} {X:List Nat} {L A:List Item} {S:ae}
theorem ud {v:Value} {css:List (List Value)} {q:List C} (hI:Inv w0 X (aJ v aq 5 css::A) S w) (hR:Rows 5 (RdC S) css q) :
  ∃ S',Ext w0.heap.size X S S'/\Inv w0 X A S' w/\RdSl S' 5 (RdC S') v q:=by
 have hI:Inv w0 X (A++[aJ v aq 5 css]) S w:=hI.last 0 rfl
 obtain ⟨S',hE,hrd,hI⟩:=Inv.lendExt hI
 exact ⟨S',hE,hI,RowRd.rows (hR.monoR fun _ _ h=>RdC.mono hE.1 h) hrd⟩
end
section
variable {br:Nat} {sl:Value} {ys:List Nat}
attribute [local irreducible] Run CondV az aO
theorem aaH:wC ⟨.mk 3 0 ⟨#[122]⟩ [],[]⟩=1:=by
 have e:(ByteArray.mk #[122]).size=1:=rfl
 simp only [wC,wT,wL,bU,e]
theorem zx {p m:Nat} {S:ae} {v:Value} {q:List C} (hrd:RdSl S 1 mE sl ys) (h:RdSl S 5 (RdC S) v q) (hq:Light 30 m q) (h0:0<q.length) (hm:m<=2000) (hp:p<=50000000) :
  Tri Tryz.prog EM [rdP br,v] [rdI br sl p] S (ZO br sl p 20000 30 (m+700)):=by
 intro w hI
 refine p6.2 ?_
 dsimp only[p6,aY]
 have hql:=hq.1
 refine fA hI ld fun v0 w' hI=>?_
 have hI:Inv w [br] [aJ v0 aq 5 [],rdI br sl p] S w':=hI.last 0 rfl
 refine ⟨fun a b w'=>∃ (j p1:Nat) (S1:ae) (css:List (List Value)) (q1:List C),a=.int .i64 (j:Int)/\j<=q.length/\q1.length=j/\p1<=p+600 * j/\Ext w.heap.size [br] S S1/\Rows 5 (RdC S1) css q1/\(∀ c∈q1,wC c<=m+700)/\Inv w [br] [aJ b aq 5 css,rdI br sl p1] S1 w',
  fun a _ _=>q.length - (intOf a).toNat,⟨0,p,S,[],[],rfl,be _,rfl,by omega,Ext.refl _ _ _,Rows.nil _ _,by simp,hI⟩,?_⟩
 intro t6 _ _ t5 _ _ _ _ _ _ _ _ _ _ _ _ _ w'
 rintro ⟨j,p1,S1,css,q1,rfl,hj,hq1,hp1,hE1,hR,hqw,hI⟩
 have hcl:=hR.hc
 have h':=h.monoC hE1.1
 refine aF h' b0 ?_
 refine bH ?_
 refine aL (fun hjl=>?_) (fun hjl=>?_)
 ·have hj':j<q.length:=by omega
  refine cL hI h' b0 bx hj' (fun _ _=>RdC.length) fun cs hcs=>?_
  have hwc:=hq.2 _ (bz hj')
  refine Run.callL Jm Jw hI (HY (p:=p1) (hrd.monoU hE1.1) hcs (by omega) (by omega)) rfl fun v' I' S2 w'=>?_
  rintro ⟨p2,hp2,rfl,ds,d,rfl,hds,hwd⟩ hE2 hI
  refine d6 (css:=css) hI 0 _ ld (by omega) (by omega) rfl hds.length hds.one (by omega) (by omega) fun v' w' hI=>?_
  refine bp (by omega) ?_
  have hpn:p2<=p+600 * (j+1):=gX hp2 (gX (Nat.add_le_add_right hp1 600) (by rw [Nat.mul_add,MT]; exact aW _))
  exact ⟨⟨j+1,p2,S2,_,q1++[d],rfl,hj',by simp only [bA,hq1,bw,bU,cq],hpn,hE1.trans hE2,(hR.monoR fun _ _ h=>RdC.mono hE2.1 h).snoc hds hds.length,fun c hc=>(bO.1 hc).elim (hqw c) (fun hc=>by simp only [cd] at hc; subst hc; omega),hI⟩,
   by simp only [intOf,dv]; omega⟩
 refine ⟨fun v w'=>∃ (p1:Nat) (S1:ae) (q1:List C),p1<=p+20000/\Ext w.heap.size [br] S S1/\RdSl S1 5 (RdC S1) v q1/\Light 30 (m+700) q1/\Inv w [br] [rdI br sl p1] S1 w',?_,?_⟩
 ·refine Run.callL cP cO hI (eH (n:=30) (hrd.monoU hE1.1) (by omega) (by omega)) rfl fun v' I' S1 w'=>?_
  rintro ⟨rfl,rfl,kk,hkk,rfl⟩ _ hI
  have hI:Inv w [br] [aJ t5 aq 5 css,rdI br sl (p1+1)] S1 w':=hI
  refine bl ?_
  refine aL (fun _=>?_) (fun _=>?_)
  ·refine ⟨fun b w'=>∃ (S2:ae) (css:List (List Value)) (q1:List C),q1.length<=30/\Ext w.heap.size [br] S S2/\Rows 5 (RdC S2) css q1/\(∀ c∈q1,wC c<=m+700)/\Inv w [br] [aJ b aq 5 css,rdI br sl (p1+1)] S2 w',
    fun b _=>30 - lenOf b,⟨S1,css,q1,by omega,hE1,hR,hqw,hI⟩,?_⟩
   intro t5 _ _ _ _ _ _ _ _ w'
   rintro ⟨S2,css,q1,hq1,hE2,hR,hqw,hI⟩
   have hlen:∀ {w':World} {S2:ae} {t5:Value} {css:List (List Value)} {q1:List C},Inv w [br] [aJ t5 aq 5 css,rdI br sl (p1+1)] S2 w'->Rows 5 (RdC S2) css q1->∃ a m,t5=.slice a q1.length m:=by
    intro w' S2 t5 css q1 hI hR
    obtain ⟨_,_,_,a,m,e,_⟩:=ud hI hR
    exact ⟨a,m,e⟩
   obtain ⟨a1,m1,rfl⟩:=hlen hI hR
   have hcl:=hR.hc
   refine eV b0 ?_
   refine gy ?_
   refine aL (fun hle=>?_) (fun hle=>?_)
   ·refine Run.call0E dT dP hI (eP ⟨#[122]⟩ (by decide) (lQ S2) (by simp)) fun v' I' S3 w'=>?_
    rintro ⟨rfl,cs3,rfl,hcs3⟩ hE3 hI
    obtain ⟨k3,rfl,_,_,_,a3,q3,rfl,_⟩:=RdT.iff.1 hcs3
    refine oz ?_
    have hds:RdC S3 [.int .i64 3,.int .i64 0,.string ⟨#[122]⟩,.slice a3 0 q3,.slice none 0 0] ⟨.mk 3 0 ⟨#[122]⟩ [],[]⟩:=⟨[.int .i64 3,.int .i64 0,.string ⟨#[122]⟩,.slice a3 0 q3],_,rfl,hcs3,lQ S3⟩
    refine d6 (css:=css) hI 0 [.int .i64 3,.int .i64 0,.string ⟨#[122]⟩,.slice a3 0 q3,.slice none 0 0] ld (by omega) (by omega) rfl rfl hds.one (by omega) (by omega) fun v' w' hI=>?_
    have hI:Inv w [br] [aJ v' aq 5 (css++[_]),rdI br sl (p1+1)] S3 w':=hI
    have hR2:=(hR.monoR fun _ _ h=>RdC.mono hE3.1 h).snoc hds rfl
    obtain ⟨a2,m2,rfl⟩:=hlen hI hR2
    refine ⟨⟨S3,_,_,by rw [bA]; simp only [bw,bU]; omega,hE2.trans hE3,hR2,fun c hc=>(bO.1 hc).elim (hqw c) (fun hc=>by simp only [cd] at hc; subst hc; rw [aaH]; omega),hI⟩,?_⟩
    simp only [lenOf,bA,bw,bU]
    omega
   ·obtain ⟨S3,hE3,hI,hr⟩:=ud hI hR
    exact ⟨_,S3,q1,by omega,hE2.trans hE3,hr,⟨hq1,hqw⟩,hI⟩
  ·obtain ⟨S3,hE3,hI,hr⟩:=ud hI hR
   refine bl ?_
   refine aL (fun _=>?_) (fun _=>?_)
   ·refine sQ (l:=1) b0 hr (by omega) fun u hu=>?_
    exact ⟨_,S3,_,by omega,hE1.trans hE3,hu,⟨by rw [vB]; omega,fun c hc=>hqw c (wR hc)⟩,hI⟩
   ·exact ⟨_,S3,q1,by omega,hE1.trans hE3,hr,⟨by omega,hqw⟩,hI⟩
 intro _ _ _ _ t5 _ _ _ _ _ _ _ _ _ _ _ _ w'
 rintro ⟨p2,S2,q2,hp2,hE2,hr,hl,hI⟩
 exact ⟨_,_,S2,rfl,hI,hE2,p2,hp2,rfl,q2,hr,hl⟩
end
end
section
open Go Go.RowKit
def okS (s:ByteArray):Bool:=VS (bs s) && decide (s.size<=1000)
theorem XK {s:ByteArray} (h:okS s=true):∃ q,TA 60 (bs s)=some q/\0<q.length/\Light 8 200 q/\(∀ c∈q,bK c=true)/\s.size<=1000:=by
 rw [okS,bu,bk] at h
 obtain ⟨h,hs⟩:=h
 unfold VS at h
 split at h
 ·rename_i q hq
  simp only [bu,bk,dE] at h
  exact ⟨q,hq,h.1,⟨h.2.1,fun c hc=>(h.2.2 c hc).2⟩,fun c hc=>(h.2.2 c hc).1,hs⟩
 ·cases h
section
attribute [local irreducible] Run CondV az aO
theorem Kh {S:ae} {s:ByteArray} (h:okS s=true):Tri Tryz.prog pg [.string s] [] S fun v I' S'=>∃ u css q,v=.tuple #[u,.bool true]/\I'=[aJ u aq 5 css]/\Rows 5 (RdC S') css q/\0<q.length/\Light 8 200 q/\∀ c∈q,bK c=true:=by
 obtain ⟨q,hq,h0,hl,hc,hs⟩:=XK h
 intro w hI
 have hb:(bs s).length=s.size:=(qs (bs s)).symm
 refine (xV (f:=60) (by omega) hq (by rw [hb]; omega) w hI).mono ?_
 rintro e w' ⟨v,I',S',rfl,hI,hE,u,css,rfl,rfl,hR⟩
 exact ⟨_,_,S',rfl,hI,hE,u,css,q,rfl,rfl,hR,h0,hl,hc⟩
theorem JE (S:ae):Tri Tryz.prog Ql [] [] S fun v I' S'=>I'=[]/\∃ l,RdSl S' 1 zV v l/\l.length=11/\l.all okS=true:=by
 intro w hI
 refine z2.2 ?_
 dsimp only[z2,rv]
 refine um hI (by kernel_rfl) rfl (by omega) fun v S1 w' hE1 hv hI=>?_
 exact ⟨_,[],S1,rfl,hI,hE1,rfl,_,hv,rfl,by decide +kernel⟩
variable {br:Nat} {sl:Value} {ys:List Nat}
theorem E0 {p:Nat} {S:ae} (hrd:RdSl S 1 mE sl ys) (hp:p<=100000000):Tri Tryz.prog JH [rdP br] [rdI br sl p] S (Z5 br sl p 1 8 200):=by
 intro w hI
 refine uu.2 ?_
 dsimp only[uu,aM]
 refine Run.call0E M7 Nk hI (JE S) fun v' I' S1 w'=>?_
 rintro ⟨rfl,l,hl,hl11,hok⟩ hE1 hI
 have hI:Inv w [br] [rdI br sl p] S1 w':=hI
 refine aF hl cR ?_
 refine Run.callL cP cO hI (eH (n:=l.length) (hrd.monoU hE1.1) (by omega) (by omega)) rfl fun v' I' S1 w'=>?_
 rintro ⟨rfl,rfl,k,hk,rfl⟩ _ hI
 have hI:Inv w [br] [rdI br sl (p+1)] S1 w':=hI
 refine i5 hI hl cR aU hk (fun cs hcs=>hcs) ?_
 rw [dE] at hok
 refine Run.call0E om og hI (Kh (hok _ (bz hk))) fun v I' S2 w'=>?_
 rintro ⟨u,css,q,rfl,rfl,hR,h0,hq,hcv⟩ hE2 hI
 refine ar (v:=u) rfl ?_
 refine ar (v:=.bool true) rfl ?_
 exact ⟨_,_,S2,rfl,hI.last 0 rfl,hE1.trans hE2,p+1,css,q,aW _,rfl,hR,hq,h0,hcv⟩
end
end
section
open Go Go.RowKit
section
variable {br:Nat} {sl:Value} {ys:List Nat}
attribute [local irreducible] Run CondV az aO
end
end
section
open Go Go.RowKit
attribute [local irreducible] Run CondV az aO
end
section
open Go Go.RowKit
attribute [local irreducible] Run CondV az aO

def iD (l:List Pd) (ts:List T):List Pd:=ts.foldl (fun l t=>if cD t=true then mW l (dk t) else l) l
def jf (l:List Pd) (p:List C) (x:Pd):List Pd:=p.foldl (fun l c=>if o9 (dk c.head) x=true then iD l c.body else l) l
def jG (p:List C) (x:Pd):List Pd:=jf [] p x
def hY (l m:List Pd):List Pd:=m.foldl mW l
def qw:Nat->List C->List Pd->Nat->List Pd
 | 0,_,l,_=>l
 | n+1,p,l,i=>if h:i<l.length then qw n p (hY l (jG p l[i])) (i+1) else l
def gPs (p:List C):List Pd:=p.flatMap fun c=>c.body.map dk
def wU (p:List C) (l:List Pd):List Pd:=qw (l.length+(gPs p).length) p l 0
theorem Gd:∀ (ts:List T) (l:List Pd) (y:Pd),y∈iD l ts->y∈l ∨ y∈ts.map dk
 | [],l,y,h=>.inl h
 | t::ts,l,y,h=>by
  have e:iD l (t::ts)=iD (if cD t=true then mW l (dk t) else l) ts:=rfl
  rw [e] at h
  rcases Gd ts _ y h with h|h
  ·split at h
   ·unfold mW at h
    split at h
    ·exact .inl h
    ·rcases bO.1 h with h|h
     ·exact .inl h
     ·simp at h; subst h; exact .inr (by simp)
   ·exact .inl h
  ·exact .inr (by simp at h ⊢; exact .inr h)
theorem wA (x:Pd):∀ (p:List C) (l:List Pd) (y:Pd),y∈jf l p x->y∈l ∨ y∈gPs p
 | [],l,y,h=>.inl h
 | c::p,l,y,h=>by
  have e:jf l (c::p) x=jf (if o9 (dk c.head) x=true then iD l c.body else l) p x:=rfl
  have hG:∀ z,z∈gPs (c::p)↔z∈c.body.map dk ∨ z∈gPs p:=fun z=>by simp only [gPs,rt,bO]
  rw [e] at h
  rcases wA x p _ y h with h|h
  ·split at h
   ·rcases Gd _ _ _ h with h|h
    ·exact .inl h
    ·exact .inr ((hG y).2 (.inl h))
   ·exact .inl h
  ·exact .inr ((hG y).2 (.inr h))
theorem SV {p:List C} {x y:Pd} (h:y∈jG p x):y∈gPs p:=by
 rcases wA x p [] y h with h|h
 ·simp at h
 ·exact h
def pot (G l:List Pd):Nat:=(G.filter fun g=>!HJ l g).length
theorem ZM (G l:List Pd):pot G l<=G.length:=W3 ..
theorem Bx (l:List Pd) (x g:Pd):HJ (l++[x]) g=(HJ l g || o9 g x):=by simp [HJ]
theorem DQ (l:List Pd) (x:Pd):∀ G:List Pd,pot G (l++[x])<=pot G l
 | []=>aW _
 | g::G=>by
  have:=DQ l x G
  unfold pot at *
  rw [uO,uO,Bx]
  cases HJ l g <;> cases o9 g x <;> simp <;> omega
theorem Do (l:List Pd) (x:Pd) (hx:HJ l x=false):∀ G:List Pd,x∈G->pot G (l++[x])+1<=pot G l
 | g::G,h=>by
  by_cases e:x=g
  ·subst e
   have:=DQ l x G
   unfold pot at *
   rw [uO,uO,Bx,hx,o4]
   simp
   omega
  ·have h':x∈G:=by
    rcases bN.1 h with h|h
    ·exact absurd h e
    ·exact h
   have:=Do l x hx G h'
   unfold pot at *
   rw [uO,uO,Bx]
   have e2:o9 g x=false:=by rw [o4]; exact aP fun h=>e h.symm
   rw [e2]
   cases HJ l g <;> simp <;> omega
theorem WC {G l:List Pd} {x:Pd} (hx:x∈G):(mW l x).length+pot G (mW l x)<=l.length+pot G l:=by
 unfold mW
 split
 ·exact aW _
 ·rename_i h
  have:=Do l x (bB.2 h) G hx
  rw [bA,n4]
  omega

section
variable {P:Program} {w w0:World} {X:List Nat} {L:List Item} {S:ae} {K:Value->World->Prop}
end
end
section
open Go Go.RowKit
attribute [local irreducible] Run CondV az aO
end
section
open Go Go.RowKit
attribute [local irreducible] Run CondV az aO
end
section
open Go Go.RowKit
attribute [local irreducible] Run CondV az aO
end
section
open Go Go.RowKit
attribute [local irreducible] Run CondV az aO

def gz (l:List Pd) (p:List C):List Pd:=p.foldl (fun l c=>mW l (dk c.head)) l
def Fb (p:List C):List Pd:=if de p=true then gz [] p else []
end
section
open Go Go.ChangeShapes Go.WideShapes Go.ChangeAt Go.RowKit
section
attribute [local irreducible] Run CondV az aO
end
theorem two {cs:List Value} (h:cs.length=2):∃ a b,cs=[a,b]:=by
 match cs,h with
 | [a,b],_=>exact ⟨a,b,rfl⟩
end
section
open Go Go.RowKit
section
variable {br:Nat} {sl:Value} {ys:List Nat}
attribute [local irreducible] Run CondV az aO
theorem Pd.one (x:Pd):∀ u∈x.cells,u.oneCell'=true:=by
 intro u hu
 have hu':u∈([.string x.name,.int .i64 x.arity]:List Value):=hu
 simp at hu'
 rcases hu' with rfl|rfl <;> rfl
end
end
section
open Go Go.ChangeShapes Go.WideShapes Go.ChangeAt Go.RowKit
theorem abw:Tryz.prog.underlying ND=some (.int .u8):=by kernel_rfl
theorem Yr {H:Type} {enc:TypeId × Value->H} {W:World} {sp:Nat->Bool} {held:Bool} {fuel:Nat} {cs:List Value} {x:DataW H × List MemPlace} (h:DataW.trod enc Tryz.prog W 0 sp held fuel ND cs=some x) :
  ∃ n,mE cs n:=by
 cases fuel with
 | zero=>simp [DataW.trod] at h
 | succ n=>
  unfold DataW.trod at h
  rw [abw] at h
  split at h <;> simp_all
  rename_i k1 k2 m he
  subst he
  obtain ⟨⟨_,h⟩,_⟩:=h
  simp only [Lit.wf,bu,bk] at h
  have h1:0<=m/\m<=255:=h
  exact ⟨m.toNat,by rw [mE,Tm (by omega)]; exact ⟨rfl,by omega⟩⟩
theorem Fj {H:Type} {enc:TypeId × Value->H} {W:World} {sp:Nat->Bool} {held:Bool} {fuel:Nat} {v:Value} {x:DataW H × List MemPlace} (h:DataW.trod enc Tryz.prog W 0 sp held fuel OJ [v]=some x) :
  ∃ ys,RdSl (T3 W) 1 mE v ys:=Yq ec (by omega) h fun _ _ _ _ hy=>Yr hy
section
variable {w0 w:World} {X:List Nat} {L:List Item} {S:ae} {K:Value->World->Prop}
attribute [local irreducible] Run CondV az aO
theorem aac {P:Program} {T:TypeId} {cx cy:Bool} {a b:Bool} (hu:P.underlying T=some .bool) (hk:K (.bool (a == b)) w):Run P (cK .eql T cx cy (.bool a) (.bool b)) w K:=
 Run.of (by
  have he:(Op.equal T (.bool a) (.bool b)).run P w=.ok (a == b) w:=by
   rw [Op.equal,Op.maxDepth,Op.equalIn.eq_def]
   simp [run_underlying hu]
  simp only [cK,binOp,Sem.run_bind,z3,Result.andThen_ok,he,Sem.run_pure]) hk
theorem Qz (t:T):eqT t t=true:=(lU t t).2 rfl
end
end
end Go.Proofs.YtgllldjiaglkcaaGreatDoor
