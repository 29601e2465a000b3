/- spec.l4Mutate, l4MutateAll. -/
import Derived.Test.YtfcbhfjomgopbaaGreatZFf5
import Derived.Test.YtfcbhfjomgopbaaGreatZFf1
import Derived.Test.YtfcbhfjomgopbaaGreatZFf2
namespace Go.Proofs.YtfcbhfjomgopbaaGreat
section
open Go Go.RowKit
section
variable {w0 w:World} {X:List Nat} {L A:List Item} {S:ae} {K:Value->World->Prop} {P:Program}
theorem AQ {b:Nat} {hd:List Value} {h:T} {kv:Value} {css:List (List Value)} {ks:List T} {o:Obj}
  (hI:Inv w0 X (.blk b o::aL kv ab 4 css::A) S w) (hR:Rows 4 (RdT S) css ks) (hh:RdT S hd h) :
  ∃ S',Ext w0.heap.size X S S'/\Inv w0 X (.blk b o::A) S' w/\RdC S' (hd++[kv]) ⟨h,ks⟩/\RdSl S' 4 (RdT S') kv ks:=by
 have hI:Inv w0 X ((.blk b o::A)++[aL kv ab 4 css]) S w:=hI.last 1 rfl
 obtain ⟨S',hE,hrd,hI⟩:=Inv.lendExt hI
 have hrs:=RowRd.rows (hR.monoR fun _ _ h=>RdT.mono hE.1 h) hrd
 exact ⟨S',hE,hI,⟨hd,kv,rfl,hh.mono hE.1,hrs⟩,hrs⟩
end
abbrev Q7 (br:Nat) (sl:Value) (p k m:Nat):Value->List Item->ae->Prop:=fun v I' S'=>∃ p',p'<=p+k/\I'=[rdI br sl p']/\∃ cs c,v=.agg cs.toArray/\RdC S' cs c/\wC c<=m
section
variable {br:Nat} {sl:Value} {ys:List Nat}
attribute [local irreducible] Run CondV aB aS
theorem Bd {p:Nat} {S:ae} {cs:List Value} {c:C} (hrd:RdSl S 1 jC sl ys) (h:RdC S cs c) (hw:wC c<=100000) (hp:p<=90000000) :
  Tri Tryz.prog FU [rdP br,.agg cs.toArray] [rdI br sl p] S (Q7 br sl p 600 (wC c+700)):=by
 intro w hI
 have hl5:=h.length
 refine sP.2 ?_
 dsimp only[sP,aX]
 refine be hI fun b3 w' hI=>?_
 refine aG hI dB fun b4 w' hI=>?_
 refine aq hI 1 bl rfl (by simpa [Value.cells] using hl5) ?_
 refine Run.call0E yF yT hI (M1 h (by omega)) fun v' I' S1 w'=>?_
 rintro ⟨hd,kv,css,rfl,hhd,rfl,hR⟩ hE1 hI
 have hE1:Ext w.heap.size [br] S S1:=hE1
 obtain ⟨a0,n0,q0,rfl⟩:=hI.rowSlice 3 rfl
 have hhd0:=hhd
 obtain ⟨k4,rfl,hk,hn,hs,_⟩:=RdT.iff.1 hhd
 obtain ⟨ak,nk,ck,hk4⟩:∃ a n c,k4=.slice a n c:=by
  obtain ⟨_,e,_,_,_,a,q,rfl,_⟩:=RdT.iff.1 hhd0
  simp only [List.cons.injEq,and_true,true_and] at e
  exact ⟨_,_,_,e⟩
 subst hk4
 refine aG hI dB fun b5 w' hI=>?_
 refine ao hI 4 rfl bl rfl rfl (by simp [Value.oneCell']) fun w' hI=>?_
 obtain ⟨B4,hB4⟩:∃ B4,B4=Item.blk b4 (.cells #[.int .i64 0,.int .i64 0,.string ⟨#[]⟩,.slice none 0 0,.slice none 0 0] av):=⟨_,rfl⟩
 have hI:Inv w [br] [.blk b5 (.cells #[.int .i64 c.head.kind,.int .i64 c.head.n,.string c.head.name,.slice ak nk ck,.slice a0 n0 q0] av),aL (.slice a0 n0 q0) ab 4 css,B4,rdI br sl p] S1 w':=by
  rw [hB4]
  exact (((hI.pick [true,false,true,true,true]).last 2 rfl).last 1 rfl).last 0 rfl
 have hwc:wC c=wT c.head+c.body.length+wL c.body:=rfl
 refine ⟨fun w'=>∃ (p1:Nat) (S2:ae) (cs1:List Value) (c1:C),p1<=p+600/\Ext w.heap.size [br] S S2/\RdC S2 cs1 c1/\wC c1<=wC c+700/\Inv w [br] [.blk b5 (.cells cs1.toArray av),B4,rdI br sl p1] S2 w',?_,?_⟩
 ·have hfin:∀ {hd:List Value} {h:T} {p1:Nat} {w':World} {S1:ae} {css:List (List Value)} {kv:Value} {ks:List T},Ext w.heap.size [br] S S1->p1<=p+600->RdT S1 hd h->Rows 4 (RdT S1) css ks->wT h+ks.length+wL ks<=wC c+700->
    Inv w [br] [.blk b5 (.cells (hd++[kv]).toArray av),aL kv ab 4 css,B4,rdI br sl p1] S1 w'->
    ∃ (p1:Nat) (S2:ae) (cs1:List Value) (c1:C),p1<=p+600/\Ext w.heap.size [br] S S2/\RdC S2 cs1 c1/\wC c1<=wC c+700/\Inv w [br] [.blk b5 (.cells cs1.toArray av),B4,rdI br sl p1] S2 w':=by
   intro hd h p1 w' S1 css kv ks hE hp1 hh hR hwn hI
   obtain ⟨S2,hE2,hI,hr,_⟩:=AQ hI hR hh
   exact ⟨p1,S2,_,_,hp1,hE.trans hE2,hr,hwn,hI⟩
  refine Run.callL bO bN hI (cY (n:=40) (hrd.monoU hE1.1) (by omega) (by omega)) rfl fun v' I' S1 w'=>?_
  rintro ⟨rfl,rfl,kk,hkk,rfl⟩ _ hI
  refine aY ?_
  refine aI (fun _=>?_) (fun _=>?_)
  ·refine Run.callL yu zr hI (wB (p:=p+1) (hrd.monoU hE1.1) (by omega)) rfl fun v' I' S2 w'=>?_
   rintro ⟨p2,hp2,rfl,cs2,t2,rfl,hr2,hw2⟩ hE2 hI
   refine Run.callL mo mx hI (kM (p:=p2) (hrd.monoU (hE1.trans hE2).1) hr2 (by omega) (by omega)) rfl fun v' I' S3 w'=>?_
   rintro ⟨p3,hp3,rfl,cs3,t3,rfl,hr3,hw3⟩ hE3 hI
   have hr3':=hr3
   obtain ⟨k3,rfl,_,_,_,a3,q3,rfl,_⟩:=RdT.iff.1 hr3
   refine ai co ?_
   refine kP hI 0 rfl ac rfl rfl (by simp [Value.cells,Value.oneCell']) fun w' hI=>?_
   exact hfin ((hE1.trans hE2).trans hE3) (by omega) hr3' (hR.monoR fun _ _ h=>RdT.mono (hE2.trans hE3).1 h) (by omega) hI
  refine aY ?_
  refine aI (fun _=>?_) (fun _=>?_)
  ·have hcl:=hR.hc
   have hI:=hI
   refine ⟨fun D mJ nh hY mY pC oZ mD ki ml w_=>Fx D 0 [ml=.pointer (some ⟨b5,4,none⟩),ki=.slice a0 n0 q0,mD=rdP br,oZ=rdP br,True,True,True,True,mJ=.pointer (some ⟨b5,4,none⟩),True]/\∃ n_:Nat,n_<=5/\D 4=decide (1<=n_)/\D 5=decide (2<=n_)/\D 6=decide (3<=n_)/\D 7=decide (4<=n_)/\D 9=decide (5<=n_)/\(D 9=true->D 1=true)/\(qi (Inv w [br] [.blk b5 (.cells #[.int .i64 c.head.kind,.int .i64 c.head.n,.string c.head.name,.slice ak nk ck,.slice a0 n0 q0] av),aL (.slice a0 n0 q0) ab 4 css,B4,rdI br sl (p+1)] S1 w_) (qi (∃ p1 S2 cs t,pC=.agg cs.toArray/\RdT S2 cs t/\wT t<=500/\p1<=p+501/\Ext w.heap.size [br] S1 S2/\Inv w [br] [.blk b5 (.cells #[.int .i64 c.head.kind,.int .i64 c.head.n,.string c.head.name,.slice ak nk ck,.slice a0 n0 q0] av),aL (.slice a0 n0 q0) ab 4 css,B4,rdI br sl p1] S2 w_) (zZ w [br] b5 #[.int .i64 c.head.kind,.int .i64 c.head.n,.string c.head.name,.slice ak nk ck,.slice a0 n0 q0] 4 av (.slice a0 n0 q0) css (fun p=>[B4,rdI br sl p]) (fun cs p' S'=>∃ t,RdT S' cs t/\wT t<=600/\p'<=p+503/\Ext w.heap.size [br] S1 S') mY hY nh w_)) n_),⟨Fx.nil _ _,⟨0,Nat.zero_le _,rfl,rfl,rfl,rfl,rfl,(aU),hI.draw⟩⟩,⟨?_,?_,?_,?_,?_,?_,?_,?_,?_,?_,trivial⟩,?_⟩
   all_goals (intro D bo; intros; rename_i mJ nh hY mY pC oZ mD ki ml w_ hA_; have hF_:=hA_.1; obtain ⟨⟨bU,bV,bH,bR,bZ,bI,bB,ct,cF,cK,_⟩,⟨n_,ln_,e1_,e2_,e3_,e4_,e5_,kp_,hS⟩⟩:=hA_)
   ·refine ai bi ?_
    exact ⟨hF_.set 0 rfl,⟨n_,ln_,e1_,e2_,e3_,e4_,e5_,kp_,hS⟩⟩
   ·obtain rfl:=bU ‹_›
    have ln2_:=MU e5_ kp_ bo
    refine cz ag ((Qj (fun h=>h.cellL (i:=0) rfl) (fun ⟨_,_,_,_,_,_,_,_,_,h⟩=>h.cellL (i:=0) rfl) (fun n hn h=>EW h hn) hS ln2_).trans rfl) ?_
    exact ⟨hF_.set 1 rfl,⟨n_,ln_,e1_,e2_,e3_,e4_,e5_,(fun _=>rfl),hS⟩⟩
   ·exact ⟨hF_.set 2 rfl,⟨n_,ln_,e1_,e2_,e3_,e4_,e5_,kp_,hS⟩⟩
   ·exact ⟨hF_.set 3 rfl,⟨n_,ln_,e1_,e2_,e3_,e4_,e5_,kp_,hS⟩⟩
   ·obtain rfl:=bR ‹_›
    obtain rfl:n_=0:=tY e1_ bo
    refine Run.callL yu zr (L:=[.blk b5 _,aL _ ab 4 css,B4,rdI br sl (p+1)]) hS (wB (p:=p+1) (hrd.monoU hE1.1) (by omega)) rfl fun v' I' S2 w_=>?_
    rintro ⟨p2,hp2,rfl,cs2,t2,rfl,hr2,hw2⟩ hE2 hI
    exact ⟨hF_.set 4 (by first|assumption|trivial),⟨1,by decide,rfl,(by first|exact e2_|rfl),(by first|exact e3_|rfl),(by first|exact e4_|rfl),(by first|exact e5_|rfl),kp_,⟨p2,S2,cs2,t2,rfl,hr2,hw2,by omega,hE2,hI⟩⟩⟩
   ·obtain rfl:=bH ‹_›
    have QH:=bZ ‹_›
    obtain rfl:n_=1:=fL e1_ ‹D 4=true› e2_ bo
    obtain ⟨p2,S2,cs2,t2,rfl,hr2,hw2,hp2,hE2,hI⟩:=EK hS
    refine Run.callL mo mx (L:=[.blk b5 _,aL _ ab 4 css,B4,rdI br sl p2]) hI (kM (p:=p2) (hrd.monoU (hE1.trans hE2).1) hr2 (by omega) (by omega)) rfl fun v' I' S3 w_=>?_
    rintro ⟨p3,hp3,rfl,cs3,t3,rfl,hr3,hw3⟩ hE3 hI
    exact ⟨hF_.set 5 (by first|assumption|trivial),⟨2,by decide,(by first|exact e1_|rfl),rfl,(by first|exact e3_|rfl),(by first|exact e4_|rfl),(by first|exact e5_|rfl),kp_,Ml (FM ⟨t3,hr3,by omega,by omega,hE2.trans hE3⟩ hr3 hI)⟩⟩
   ·have Mw:=bI ‹_›
    obtain rfl:n_=2:=fL e2_ ‹D 5=true› e3_ bo
    refine ap1 (EK hS) fun u w_ hS=>?_
    exact ⟨hF_.set 6 (by first|assumption|trivial),⟨3,by decide,(by first|exact e1_|rfl),(by first|exact e2_|rfl),rfl,(by first|exact e4_|rfl),(by first|exact e5_|rfl),kp_,Ml hS⟩⟩
   ·obtain rfl:=bV ‹_›
    have Mh:=bB ‹_›
    obtain rfl:n_=3:=fL e3_ ‹D 6=true› e4_ bo
    refine ap2 (EK hS) (by omega) fun u w_ hS=>?_
    exact ⟨hF_.set 7 (by first|assumption|trivial),⟨4,by decide,(by first|exact e1_|rfl),(by first|exact e2_|rfl),(by first|exact e3_|rfl),rfl,(by first|exact e5_|rfl),kp_,Ml hS⟩⟩
   ·refine ai bi ?_
    exact ⟨hF_.set 8 rfl,⟨n_,ln_,e1_,e2_,e3_,e4_,e5_,kp_,hS⟩⟩
   ·obtain rfl:=cF ‹_›
    have zQ:=ct ‹_›
    obtain rfl:n_=4:=fL e4_ ‹D 7=true› e5_ bo
    refine ap3 (EK hS) (by simp) fun w_ hS=>?_
    exact ⟨hF_.set 9 trivial,⟨5,by decide,(by first|exact e1_|rfl),(by first|exact e2_|rfl),(by first|exact e3_|rfl),(by first|exact e4_|rfl),rfl,(fun _=>‹D 1=true›),Ml hS⟩⟩
   obtain rfl:n_=5:=lx ln_ e5_ ‹D 9=true›
   clear e1_ e2_ e3_ e4_ e5_
   obtain ⟨p3,S7,cs,⟨t,hcs,hwt,hp3,hE7⟩,hl,hI⟩:=EK (EK hS)
   exact hfin (hE1.trans hE7) (by omega) (hhd0.mono hE7.1) ((hR.monoR fun _ _ h=>RdT.mono hE7.1 h).snoc hcs hl.1) (by rw [mF,List.length_append,List.length_cons,List.length_nil]; simp only [wL]; omega) hI
  refine aY ?_
  refine aI (fun _=>?_) (fun _=>?_)
  ·refine ⟨fun w'=>∃ (S2:ae) (kv:Value) (css:List (List Value)) (ks:List T),Ext w.heap.size [br] S S2/\Rows 4 (RdT S2) css ks/\ks.length<=c.body.length+7/\wL ks+4 * (7 - (ks.length - c.body.length))<=wL c.body+28/\c.body.length<=ks.length/\
     RdT S2 [.int .i64 c.head.kind,.int .i64 c.head.n,.string c.head.name,.slice ak nk ck] c.head/\
     Inv w [br] [.blk b5 (.cells #[.int .i64 c.head.kind,.int .i64 c.head.n,.string c.head.name,.slice ak nk ck,kv] av),aL kv ab 4 css,B4,rdI br sl (p+1)] S2 w',fun w'=>7 - yb w' b5 4,⟨S1,_,css,c.body,hE1,hR,by omega,by omega,by omega,hhd0,hI⟩,?_⟩
   intro t39 t38 t37 t36 t35 t34 _ _ _ _ w'
   rintro ⟨S2,kv,css,ks,hE2,hR,hkl,hkw,hkb,hhd,hI⟩
   obtain ⟨a1,n1,q1,rfl,hn1⟩:∃ a m c,kv=.slice a m c/\m=ks.length:=by
    obtain ⟨S',_,_,_,hr⟩:=AQ hI hR hhd
    obtain ⟨a,q,rfl,_⟩:=hr
    exact ⟨a,_,q,rfl,rfl⟩
   subst hn1
   have hl1:=vF hI (i:=0) (o:=4) rfl rfl
   have hcl:=hR.hc
   refine ad hI 0 rfl bi ag rfl ?_
   refine dX af ?_
   refine eK ?_
   refine aI (fun hle=>?_) (fun hle=>?_)
   ·have hI:=hI
    refine ⟨fun D ij gX nL jL kz pz w_=>Fx D 0 [pz=.pointer (some ⟨b5,4,none⟩),kz=.slice a1 ks.length q1,True,True,True,ij=.pointer (some ⟨b5,4,none⟩),True]/\∃ n_:Nat,n_<=4/\D 2=decide (1<=n_)/\D 3=decide (2<=n_)/\D 4=decide (3<=n_)/\D 6=decide (4<=n_)/\(D 6=true->D 1=true)/\(qi (Inv w [br] [.blk b5 (.cells #[.int .i64 c.head.kind,.int .i64 c.head.n,.string c.head.name,.slice ak nk ck,.slice a1 ks.length q1] av),aL (.slice a1 ks.length q1) ab 4 css,B4,rdI br sl (p+1)] S2 w_) (zZ w [br] b5 #[.int .i64 c.head.kind,.int .i64 c.head.n,.string c.head.name,.slice ak nk ck,.slice a1 ks.length q1] 4 av (.slice a1 ks.length q1) css (fun p=>[B4,rdI br sl (p+1)]) (fun cs p' S'=>p'=p/\Ext w.heap.size [br] S2 S'/\RdT S' cs (.mk 3 0 ⟨#[116,114,117,101]⟩ [])) jL nL gX w_) n_),⟨Fx.nil _ _,⟨0,Nat.zero_le _,rfl,rfl,rfl,rfl,(aU),hI.draw⟩⟩,⟨?_,?_,?_,?_,?_,?_,?_,trivial⟩,?_⟩
    all_goals (intro D bo; intros; rename_i ij gX nL jL kz pz w_ hA_; have hF_:=hA_.1; obtain ⟨⟨bU,bV,bH,bR,bZ,bI,bB,_⟩,⟨n_,ln_,e1_,e2_,e3_,e4_,kp_,hS⟩⟩:=hA_)
    ·refine ai bi ?_
     exact ⟨hF_.set 0 rfl,⟨n_,ln_,e1_,e2_,e3_,e4_,kp_,hS⟩⟩
    ·obtain rfl:=bU ‹_›
     have ln2_:=MU e4_ kp_ bo
     refine cz ag ((KH (fun h=>h.cellL (i:=0) rfl) (fun n hn h=>EW h hn) hS ln2_).trans rfl) ?_
     exact ⟨hF_.set 1 rfl,⟨n_,ln_,e1_,e2_,e3_,e4_,(fun _=>rfl),hS⟩⟩
    ·obtain rfl:n_=0:=tY e1_ bo
     refine Run.call0E di dp (L:=[.blk b5 _,aL _ ab 4 css,B4,rdI br sl (p+1)]) hS (dP ⟨#[116,114,117,101]⟩ (by decide) (jk S2) (by simp)) fun v' I' S3 w_=>?_
     rintro ⟨rfl,cs3,rfl,hcs3⟩ hE3 hI
     exact ⟨hF_.set 2 (by first|assumption|trivial),⟨1,by decide,rfl,(by first|exact e2_|rfl),(by first|exact e3_|rfl),(by first|exact e4_|rfl),kp_,FM ⟨rfl,hE3,hcs3⟩ hcs3 hI⟩⟩
    ·have PC:=bH ‹_›
     obtain rfl:n_=1:=fL e1_ ‹D 2=true› e2_ bo
     refine ap1 hS fun u w_ hS=>?_
     exact ⟨hF_.set 3 (by first|assumption|trivial),⟨2,by decide,(by first|exact e1_|rfl),rfl,(by first|exact e3_|rfl),(by first|exact e4_|rfl),kp_,hS⟩⟩
    ·obtain rfl:=bV ‹_›
     have JJ:=bR ‹_›
     obtain rfl:n_=2:=fL e2_ ‹D 3=true› e3_ bo
     refine ap2 hS (by omega) fun u w_ hS=>?_
     exact ⟨hF_.set 4 (by first|assumption|trivial),⟨3,by decide,(by first|exact e1_|rfl),(by first|exact e2_|rfl),rfl,(by first|exact e4_|rfl),kp_,hS⟩⟩
    ·refine ai bi ?_
     exact ⟨hF_.set 5 rfl,⟨n_,ln_,e1_,e2_,e3_,e4_,kp_,hS⟩⟩
    ·obtain rfl:=bI ‹_›
     have QH:=bZ ‹_›
     obtain rfl:n_=3:=fL e3_ ‹D 4=true› e4_ bo
     refine ap3 hS (by simp) fun w_ hS=>?_
     exact ⟨hF_.set 6 trivial,⟨4,by decide,(by first|exact e1_|rfl),(by first|exact e2_|rfl),(by first|exact e3_|rfl),rfl,(fun _=>‹D 1=true›),hS⟩⟩
    obtain rfl:n_=4:=lx ln_ e4_ ‹D 6=true›
    clear e1_ e2_ e3_ e4_
    obtain ⟨p3,S7,cs,⟨rfl,hE7,hcs⟩,hl,hI⟩:=hS
    have hR2:=(hR.monoR fun _ _ h=>RdT.mono hE7.1 h).snoc hcs hl.1
    have e4:(ByteArray.mk #[116,114,117,101]).size=4:=rfl
    refine ⟨⟨S7,_,_,_,hE2.trans hE7,hR2,by rw [List.length_append]; simp only [List.length_cons,List.length_nil]; omega,by rw [mF,List.length_append,List.length_cons,List.length_nil]; simp only [wL,wT,List.length_nil,e4]; omega,by rw [List.length_append]; omega,hhd.mono hE7.1,hI⟩,?_⟩
    obtain ⟨S',_,_,_,hr⟩:=AQ hI hR2 (hhd.mono hE7.1)
    obtain ⟨a,q,e,_⟩:=hr
    have hl2:=vF hI (i:=0) (o:=4) (a:=a) (n:=(ks++[T.mk 3 0 ⟨#[116,114,117,101]⟩ []]).length) (m:=q) rfl (by rw [<- e]; rfl)
    show 7 - yb w_ b5 4<7 - yb w' b5 4
    rw [hl1,hl2,List.length_append,List.length_cons,List.length_nil]
    omega
   ·exact hfin hE2 (by omega) hhd hR (by omega) hI
  refine aY ?_
  refine aI (fun _=>?_) (fun _=>?_)
  ·refine eV hI (by kernel_rfl) rfl (by omega) fun v S3 w' hE3 hv hI=>?_
   refine Run.callL i9 jl hI (wE (p:=p+1) (hrd.monoU (hE1.trans hE3).1) hv (by decide) (by omega)) rfl fun v' I' S3 w'=>?_
   rintro ⟨rfl,rfl,m,hm,rfl⟩ _ hI
   have hm:=Ap (m:=7) hm (by decide)
   refine ai co ?_
   refine ai aM ?_
   refine dK hI 0 (n:=1) rfl (by decide +kernel) rfl (by simp) (by simp [Value.cells,Value.oneCell']) fun w' hI=>?_
   have hr0:=hhd0.mono hE3.1
   obtain ⟨k3,e3,_,_,_,hk3⟩:=RdT.iff.1 hr0
   have hr1:RdT S3 [.int .i64 c.head.kind,.int .i64 c.head.n,.string m,.slice ak nk ck] (.mk c.head.kind c.head.n m c.head.kids):=by
    simp only [List.cons.injEq,and_true,true_and] at e3
    exact RdT.iff.2 ⟨_,rfl,hk,hn,by simp only [T.name,maxLen]; omega,e3 ▸ hk3⟩
   refine hfin (hE1.trans hE3) (by omega) hr1 (hR.monoR fun _ _ h=>RdT.mono hE3.1 h) ?_ hI
   have:wT c.head=c.head.name.size+c.head.kids.length+wL c.head.kids:=by cases c.head; rw [wT]; rfl
   rw [wT]
   omega
  ·exact hfin hE1 (by omega) hhd0 hR (by omega) hI
 intro _ _ _ _ _ _ _ _ _ _ _ _ _ _ _ _ _ _ _ _ _ _ _ _ _ _ _ _ _ _ _ _ _ _ _ _ _ _ _ w'
 rintro ⟨p1,S2,cs1,c1,hp1,hE2,hr,hw1,hI⟩
 subst hB4
 refine aq hI 0 bl rfl (by simpa using hr.length) ?_
 refine ao hI 1 rfl bl (by simpa using hr.length) rfl (by simpa using hr.one) fun w' hI=>?_
 refine aW hI 1 bl rfl (by simpa using hr.length) ?_
 exact ⟨_,_,S2,rfl,hI.pick [false,false,true],hE2,p1,hp1,rfl,cs1,c1,rfl,hr,hw1⟩
end
end
section
open Go Go.RowKit
def Light (n m:Nat) (q:List C):Prop:=q.length<=n/\∀ c∈q,wC c<=m
theorem Light.le {n m:Nat} {q:List C} (h:Light n m q):q.length+wP q<=n+n * m:=by
 have:∀ q:List C,(∀ c∈q,wC c<=m)->wP q<=q.length * m:=by
  intro q
  induction q with
  | nil=>intro _; simp [wP]
  | cons c q ih=>
   intro h
   have h1:=h c (List.mem_cons_self ..)
   have h2:=ih fun d hd=>h d (List.mem_cons_of_mem _ hd)
   simp only [wP,List.length_cons,Nat.succ_mul]
   omega
 have h1:=this q h.2
 have h2:q.length * m<=n * m:=Nat.mul_le_mul_right _ h.1
 have:=h.1
 omega
theorem Light.append {n n' m:Nat} {q q':List C} (h:Light n m q) (h':Light n' m q'):Light (n+n') m (q++q'):=
 ⟨by rw [List.length_append]; exact Nat.add_le_add h.1 h'.1,fun c hc=>(List.mem_append.1 hc).elim (h.2 c) (h'.2 c)⟩
abbrev Q9 (br:Nat) (sl:Value) (p k n m:Nat):Value->List Item->ae->Prop:=fun v I' S'=>∃ p',p'<=p+k/\I'=[rdI br sl p']/\∃ q,RdSl S' 5 (RdC S') v q/\Light n m q
section
variable {w0 w:World} {X:List Nat} {L A:List Item} {S:ae}
theorem pu {v:Value} {css:List (List Value)} {q:List C} (hI:Inv w0 X (aL v av 5 css::A) S w) (hR:Rows 5 (RdC S) css q) :
  ∃ S',Ext w0.heap.size X S S'/\Inv w0 X A S' w/\RdSl S' 5 (RdC S') v q:=by
 have hI:Inv w0 X (A++[aL v av 5 css]) S w:=hI.last 0 rfl
 obtain ⟨S',hE,hrd,hI⟩:=Inv.lendExt hI
 exact ⟨S',hE,hI,RowRd.rows (hR.monoR fun _ _ h=>RdC.mono hE.1 h) hrd⟩
end
section
variable {br:Nat} {sl:Value} {ys:List Nat}
attribute [local irreducible] Run CondV aB aS
theorem R1:wC ⟨.mk 3 0 ⟨#[122]⟩ [],[]⟩=1:=by
 have e:(ByteArray.mk #[122]).size=1:=rfl
 simp only [wC,wT,wL,List.length_nil,e]
theorem wi {p m:Nat} {S:ae} {v:Value} {q:List C} (hrd:RdSl S 1 jC sl ys) (h:RdSl S 5 (RdC S) v q) (hq:Light 30 m q) (h0:0<q.length) (hm:m<=2000) (hp:p<=50000000) :
  Tri Tryz.prog zR [rdP br,v] [rdI br sl p] S (Q9 br sl p 20000 30 (m+700)):=by
 intro w hI
 refine nR.2 ?_
 dsimp only[nR,aX]
 have hql:=hq.1
 refine dE hI eE fun v0 w' hI=>?_
 have hI:Inv w [br] [aL v0 av 5 [],rdI br sl p] S w':=hI.last 0 rfl
 refine ⟨fun a b w'=>∃ (j p1:Nat) (S1:ae) (css:List (List Value)) (q1:List C),a=.int .i64 (j:Int)/\j<=q.length/\q1.length=j/\p1<=p+600 * j/\Ext w.heap.size [br] S S1/\Rows 5 (RdC S1) css q1/\(∀ c∈q1,wC c<=m+700)/\Inv w [br] [aL b av 5 css,rdI br sl p1] S1 w',
  fun a _ _=>q.length - (intOf a).toNat,⟨0,p,S,[],[],rfl,Nat.zero_le _,rfl,by omega,Ext.refl _ _ _,Rows.nil _ _,by simp,hI⟩,?_⟩
 intro t6 _ _ t5 _ _ _ _ _ _ _ _ _ _ _ _ _ w'
 rintro ⟨j,p1,S1,css,q1,rfl,hj,hq1,hp1,hE1,hR,hqw,hI⟩
 have hcl:=hR.hc
 have h':=h.monoC hE1.1
 refine aD h' bz ?_
 refine bA ?_
 refine aI (fun hjl=>?_) (fun hjl=>?_)
 ·have hj':j<q.length:=by omega
  refine ch hI h' bz bl hj' (fun _ _=>RdC.length) fun cs hcs=>?_
  have hwc:=hq.2 _ (List.getElem_mem hj')
  refine Run.callL Db CK hI (Bd (p:=p1) (hrd.monoU hE1.1) hcs (by omega) (by omega)) rfl fun v' I' S2 w'=>?_
  rintro ⟨p2,hp2,rfl,ds,d,rfl,hds,hwd⟩ hE2 hI
  refine dM (css:=css) hI 0 _ eE (by omega) (by omega) rfl hds.length hds.one (by omega) (by omega) fun v' w' hI=>?_
  refine bn (by omega) ?_
  have hpn:p2<=p+600 * (j+1):=Nat.le_trans hp2 (Nat.le_trans (Nat.add_le_add_right hp1 600) (by rw [Nat.mul_add,Nat.add_assoc]; exact Nat.le_refl _))
  exact ⟨⟨j+1,p2,S2,_,q1++[d],rfl,hj',by simp only [List.length_append,hq1,List.length_cons,List.length_nil,Nat.zero_add],hpn,hE1.trans hE2,(hR.monoR fun _ _ h=>RdC.mono hE2.1 h).snoc hds hds.length,fun c hc=>(List.mem_append.1 hc).elim (hqw c) (fun hc=>by simp only [List.mem_singleton] at hc; subst hc; omega),hI⟩,
   by simp only [intOf,Int.toNat_natCast]; omega⟩
 refine ⟨fun v w'=>∃ (p1:Nat) (S1:ae) (q1:List C),p1<=p+20000/\Ext w.heap.size [br] S S1/\RdSl S1 5 (RdC S1) v q1/\Light 30 (m+700) q1/\Inv w [br] [rdI br sl p1] S1 w',?_,?_⟩
 ·refine Run.callL bO bN hI (cY (n:=30) (hrd.monoU hE1.1) (by omega) (by omega)) rfl fun v' I' S1 w'=>?_
  rintro ⟨rfl,rfl,kk,hkk,rfl⟩ _ hI
  have hI:Inv w [br] [aL t5 av 5 css,rdI br sl (p1+1)] S1 w':=hI
  refine aY ?_
  refine aI (fun _=>?_) (fun _=>?_)
  ·refine ⟨fun b w'=>∃ (S2:ae) (css:List (List Value)) (q1:List C),q1.length<=30/\Ext w.heap.size [br] S S2/\Rows 5 (RdC S2) css q1/\(∀ c∈q1,wC c<=m+700)/\Inv w [br] [aL b av 5 css,rdI br sl (p1+1)] S2 w',
    fun b _=>30 - lenOf b,⟨S1,css,q1,by omega,hE1,hR,hqw,hI⟩,?_⟩
   intro t5 _ _ _ _ _ _ _ _ w'
   rintro ⟨S2,css,q1,hq1,hE2,hR,hqw,hI⟩
   have hlen:∀ {w':World} {S2:ae} {t5:Value} {css:List (List Value)} {q1:List C},Inv w [br] [aL t5 av 5 css,rdI br sl (p1+1)] S2 w'->Rows 5 (RdC S2) css q1->∃ a m,t5=.slice a q1.length m:=by
    intro w' S2 t5 css q1 hI hR
    obtain ⟨_,_,_,a,m,e,_⟩:=pu hI hR
    exact ⟨a,m,e⟩
   obtain ⟨a1,m1,rfl⟩:=hlen hI hR
   have hcl:=hR.hc
   refine dX bz ?_
   refine eK ?_
   refine aI (fun hle=>?_) (fun hle=>?_)
   ·refine Run.call0E di dp hI (dP ⟨#[122]⟩ (by decide) (jk S2) (by simp)) fun v' I' S3 w'=>?_
    rintro ⟨rfl,cs3,rfl,hcs3⟩ hE3 hI
    obtain ⟨k3,rfl,_,_,_,a3,q3,rfl,_⟩:=RdT.iff.1 hcs3
    refine jz ?_
    have hds:RdC S3 [.int .i64 3,.int .i64 0,.string ⟨#[122]⟩,.slice a3 0 q3,.slice none 0 0] ⟨.mk 3 0 ⟨#[122]⟩ [],[]⟩:=⟨[.int .i64 3,.int .i64 0,.string ⟨#[122]⟩,.slice a3 0 q3],_,rfl,hcs3,jk S3⟩
    refine dM (css:=css) hI 0 [.int .i64 3,.int .i64 0,.string ⟨#[122]⟩,.slice a3 0 q3,.slice none 0 0] eE (by omega) (by omega) rfl rfl hds.one (by omega) (by omega) fun v' w' hI=>?_
    have hI:Inv w [br] [aL v' av 5 (css++[_]),rdI br sl (p1+1)] S3 w':=hI
    have hR2:=(hR.monoR fun _ _ h=>RdC.mono hE3.1 h).snoc hds rfl
    obtain ⟨a2,m2,rfl⟩:=hlen hI hR2
    refine ⟨⟨S3,_,_,by rw [List.length_append]; simp only [List.length_cons,List.length_nil]; omega,hE2.trans hE3,hR2,fun c hc=>(List.mem_append.1 hc).elim (hqw c) (fun hc=>by simp only [List.mem_singleton] at hc; subst hc; rw [R1]; omega),hI⟩,?_⟩
    simp only [lenOf,List.length_append,List.length_cons,List.length_nil]
    omega
   ·obtain ⟨S3,hE3,hI,hr⟩:=pu hI hR
    exact ⟨_,S3,q1,by omega,hE2.trans hE3,hr,⟨hq1,hqw⟩,hI⟩
  ·obtain ⟨S3,hE3,hI,hr⟩:=pu hI hR
   refine aY ?_
   refine aI (fun _=>?_) (fun _=>?_)
   ·refine gh (l:=1) bz hr (by omega) fun u hu=>?_
    exact ⟨_,S3,_,by omega,hE1.trans hE3,hu,⟨by rw [List.length_drop]; omega,fun c hc=>hqw c (List.mem_of_mem_drop hc)⟩,hI⟩
   ·exact ⟨_,S3,q1,by omega,hE1.trans hE3,hr,⟨by omega,hqw⟩,hI⟩
 intro _ _ _ _ t5 _ _ _ _ _ _ _ _ _ _ _ _ w'
 rintro ⟨p2,S2,q2,hp2,hE2,hr,hl,hI⟩
 exact ⟨_,_,S2,rfl,hI,hE2,p2,hp2,rfl,q2,hr,hl⟩
end
end
section
open Go Go.RowKit
def okS (s:ByteArray):Bool:=OW (bs s) && decide (s.size<=1000)
theorem O6 {s:ByteArray} (h:okS s=true):∃ q,Mp 60 (bs s)=some q/\0<q.length/\Light 8 200 q/\(∀ c∈q,ce c=true)/\s.size<=1000:=by
 rw [okS,Bool.and_eq_true,decide_eq_true_eq] at h
 obtain ⟨h,hs⟩:=h
 unfold OW at h
 split at h
 ·rename_i q hq
  simp only [Bool.and_eq_true,decide_eq_true_eq,List.all_eq_true] at h
  exact ⟨q,hq,h.1,⟨h.2.1,fun c hc=>(h.2.2 c hc).2⟩,fun c hc=>(h.2.2 c hc).1,hs⟩
 ·cases h
section
attribute [local irreducible] Run CondV aB aS
theorem Ea {S:ae} {s:ByteArray} (h:okS s=true):Tri Tryz.prog mN [.string s] [] S fun v I' S'=>∃ u css q,v=.tuple #[u,.bool true]/\I'=[aL u av 5 css]/\Rows 5 (RdC S') css q/\0<q.length/\Light 8 200 q/\∀ c∈q,ce c=true:=by
 obtain ⟨q,hq,h0,hl,hc,hs⟩:=O6 h
 intro w hI
 have hb:(bs s).length=s.size:=(kq (bs s)).symm
 refine (tj (f:=60) (by omega) hq (by rw [hb]; omega) w hI).mono ?_
 rintro e w' ⟨v,I',S',rfl,hI,hE,u,css,rfl,rfl,hR⟩
 exact ⟨_,_,S',rfl,hI,hE,u,css,q,rfl,rfl,hR,h0,hl,hc⟩
theorem sI (S:ae):Tri Tryz.prog IA [] [] S fun v I' S'=>I'=[]/\∃ l,RdSl S' 1 mS v l/\l.length=11/\l.all okS=true:=by
 intro w hI
 refine tO.2 ?_
 dsimp only[tO,r7]
 refine eV hI (by kernel_rfl) rfl (by omega) fun v S1 w' hE1 hv hI=>?_
 exact ⟨_,[],S1,rfl,hI,hE1,rfl,_,hv,rfl,by decide +kernel⟩
variable {br:Nat} {sl:Value} {ys:List Nat}
end
end
section
open Go Go.RowKit
def KnU (S:ae) (c:Array Value) (st:aC):Prop:=st.length * 4<=c.size/\∀ i (h:i<st.length),(st[i]=none->aH c (i * 4) 4=md)/\(∀ t,st[i]=some t->RdT S (aH c (i * 4) 4) t)
abbrev kvU (kb N kp:Nat):Value:=.slice (some ⟨kb,0,none⟩) N kp
theorem KnU.set {S:ae} {c:Array Value} {st:aC} (h:KnU S c st) {n:Nat} (hn:n<st.length) {cs:List Value} {u:T} (hu:RdT S cs u):KnU S (bx c (n * 4) cs) (st.set n (some u)):=by
 have hlc:=hu.length
 have h1:=h.1
 have hs:st.length * 4<=(bx c (n * 4) cs).size:=by rw [gN _ _ _ (by omega)]; exact h1
 refine ⟨by rw [List.length_set]; exact hs,fun i hi=>?_⟩
 rw [List.length_set] at hi
 by_cases e:n=i
 ·subst e
  rw [List.getElem_set_self]
  refine ⟨fun h=>(by cases h),fun t ht=>?_⟩
  simp only [Option.some.injEq] at ht
  subst ht
  have:=gD (c:=c) (o:=n * 4) (vs:=cs) (by omega)
  rw [hlc] at this
  rw [this]
  exact hu
 ·rw [List.getElem_set_ne e,iu (by omega) (by omega)]
  exact h.2 i hi
theorem KnU.mono {S S':ae} {c:Array Value} {st:aC} (h:KnU S c st) (hs:Sle S S'):KnU S' c st:=⟨h.1,fun i hi=>⟨(h.2 i hi).1,fun t ht=>((h.2 i hi).2 t ht).mono hs⟩⟩
def qQ (b:Nat) (r:Nat->Nat) (st:aC) (w:World):Nat:=
 match w.heap[b]? with
 | some (Obj.cells c _ _)=>(match c[0]?,c[1]? with
  | some (Value.int _ k),some (Value.int _ n)=>if (look st (.mk k n emptyB [])).isSome=true then r n.toNat+1 else 0
  | _,_=>0)
 | _=>0
theorem mX {w0 w:World} {X:List Nat} {L:List Item} {S S0:ae} {cs:List Value} {t:T} {E:TypeId} {b i:Nat} (hI:Inv w0 X L S w) (hi:L[i]?=some (.blk b (.cells cs.toArray E))) (h:RdT S0 cs t) (r:Nat->Nat) (st:aC) :
  qQ b r st w=if (look st t).isSome=true then r t.n.toNat+1 else 0:=by
 obtain ⟨kv,rfl,_⟩:=RdT.iff.1 h
 have hb:w.heap[b]?=_:=hI.its _ (List.mem_of_getElem? hi)
 unfold qQ
 rw [hb]
 obtain ⟨k,n,s,ks⟩:=t
 rfl
section
attribute [local irreducible] Run CondV aB aS
theorem ov {N:Nat} {st:aC} (hg:Good N st) {t v:T} (hw:cS st t v) (ht:okU N t) {S:ae} {cs:List Value} {kb kp:Nat} {kc:Array Value} (h:RdT S cs t) (hk:KnU S kc st) :
  Tri Tryz.prog Cv [.agg cs.toArray,kvU kb N kp] [.blk kb (.cells kc ab)] S fun r I' S'=>S'=S/\I'=[.blk kb (.cells kc ab)]/\∃ cs',r=.agg cs'.toArray/\RdT S cs' v:=by
 intro w hI
 obtain ⟨X,hX⟩:∃ X,X=bE [Item.blk kb (.cells kc ab)]:=⟨_,rfl⟩
 rw [<- hX] at hI ⊢
 have hlN:=hg.len
 obtain ⟨r,hr⟩:=hg.rk
 refine l9.2 ?_
 dsimp only[l9,aX]
 refine be hI fun b2 w' hI=>?_
 refine aG hI aP fun b4 w' hI=>?_
 have hI:Inv w X [.blk kb (.cells kc ab),.blk b2 (.cells cs.toArray ab),.blk b4 (.cells #[.int .i64 0,.int .i64 0,.string ⟨#[]⟩,.slice none 0 0] ab)] S w':=hI
 refine ⟨fun w'=>∃ (t':T) (cs':List Value),cS st t' v/\okU N t'/\RdT S cs' t'/\Inv w X [.blk kb (.cells kc ab),.blk b2 (.cells cs'.toArray ab),.blk b4 (.cells #[.int .i64 0,.int .i64 0,.string ⟨#[]⟩,.slice none 0 0] ab)] S w',
  fun w'=>qQ b2 r st w',⟨t,cs,hw,ht,h,hI⟩,?_⟩
 intro _ _ _ _ _ _ _ _ _ _ _ _ _ _ _ _ _ _ _ _ _ _ _ _ w'
 rintro ⟨t',cs',hw',ht',hcs',hI⟩
 have hrank:=mX hI (i:=1) rfl hcs' r st
 have hcs0:=hcs'
 obtain ⟨kv,rfl,_⟩:=RdT.iff.1 hcs'
 refine ⟨fun q w'=>q=.bool (look st t').isSome/\Inv w X [.blk kb (.cells kc ab),.blk b2 (.cells #[.int .i64 t'.kind,.int .i64 t'.n,.string t'.name,kv] ab),.blk b4 (.cells #[.int .i64 0,.int .i64 0,.string ⟨#[]⟩,.slice none 0 0] ab)] S w',?_,?_⟩
 ·refine ad hI 1 rfl aE aw rfl ?_
  refine aY ?_
  by_cases hk1:t'.kind=1
  ·rw [decide_eq_true hk1]
   obtain ⟨hn0,hnN,_⟩:=ht'.var hk1
   obtain ⟨j,hj⟩:∃ j:Nat,t'.n=j:=⟨t'.n.toNat,by omega⟩
   have hjN:j<N:=by omega
   have hjs:j<st.length:=by omega
   refine rpG ?_
   refine ad hI 1 rfl aK aw rfl ?_
   refine dX af ?_
   refine bA ?_
   rw [decide_eq_true hnN]
   refine rpG ?_
   refine ad hI 1 rfl aK aw rfl ?_
   rw [hj]
   refine au af hjN ?_
   refine ai aE ?_
   rw [Nat.zero_add,Nat.add_zero]
   obtain ⟨hno,hso⟩:=hk.2 j hjs
   rw [hj] at hI
   have hlk:look st t'=st[j]:=by
    rw [look,if_pos hk1,hj,Int.toNat_natCast,List.getElem?_eq_getElem hjs]; rfl
   rw [hlk]
   cases hst2:st[j] with
   | none=>
    have hcell:=hno hst2
    refine aA hI 0 aw rfl (by have:=ar hcell 0 _ rfl; exact this) ?_
    refine cE ?_
    refine rpG ?_
    refine ⟨by simp,hI⟩
   | some t0=>
    have hR:=hso t0 hst2
    have hk0:t0.kind≠0:=(hg.ok t0 (by rw [<- hst2]; exact List.getElem_mem hjs)).kind
    obtain ⟨kv0',hcell,_,_,_,_⟩:=RdT.iff.1 hR
    refine aA hI 0 aw rfl (by have:=ar hcell 0 _ rfl; exact this) ?_
    refine cE ?_
    rw [decide_eq_false hk0]
    refine rpG ?_
    refine ⟨rfl,hI⟩
  ·rw [decide_eq_false hk1]
   refine rpG ?_
   refine ⟨?_,hI⟩
   rw [look,if_neg hk1]; rfl
 intro q _ _ _ _ _ _ _ _ _ _ _ _ _ _ _ _ _ _ w'
 rintro ⟨rfl,hI⟩
 refine az (fun hb=>?_) (fun hb=>?_)
 ·obtain ⟨u,hl⟩:=Option.isSome_iff_exists.1 hb
  obtain ⟨hk1,hs⟩:=cT.1 hl
  obtain ⟨hn0,hnN,_⟩:=ht'.var hk1
  obtain ⟨j,hj⟩:∃ j:Nat,t'.n=j:=⟨t'.n.toNat,by omega⟩
  have hjN:j<N:=by omega
  have hjs:j<st.length:=by omega
  rw [hj,Int.toNat_natCast] at hs
  have hst2:st[j]=some u:=by rw [List.getElem?_eq_getElem hjs,Option.some.injEq] at hs; exact hs
  have hR:=(hk.2 j hjs).2 u hst2
  have hwu:cS st u v:=by
   cases hw' with
   | stop h0=>rw [hl] at h0; cases h0
   | step h1 h2=>rw [hl,Option.some.injEq] at h1; rw [h1]; exact h2
  have hu:=(hg.look_ok hl).1
  refine ad hI 1 rfl aK aw rfl ?_
  rw [hj]
  refine au af hjN ?_
  rw [Nat.zero_add]
  refine b0 hI 0 (aH kc (j * 4) 4) ac rfl hR.length (fun i v hi=>ar rfl i v hi) ?_
  refine ao hI 1 rfl ac (by simpa using hR.length) rfl (by simpa using hR.one) fun w' hI=>?_
  have hI:Inv w X [.blk kb (.cells kc ab),.blk b2 (.cells (aH kc (j * 4) 4).toArray ab),.blk b4 (.cells #[.int .i64 0,.int .i64 0,.string ⟨#[]⟩,.slice none 0 0] ab)] S w':=hI
  refine ⟨⟨u,_,hwu,hu,hR,hI⟩,?_⟩
  have hrank2:=mX hI (i:=1) rfl hR r st
  show qQ b2 r st w'<qQ b2 r st _
  rw [hrank,hrank2,if_pos hb,hj,Int.toNat_natCast]
  split
  ·rename_i hl2
   obtain ⟨u2,hl2⟩:=Option.isSome_iff_exists.1 hl2
   have:=hr j u hs u.n.toNat (by rw [ie (cT.1 hl2).1]; exact List.mem_singleton.2 rfl)
   omega
  ·omega
 ·have hv:v=t':=by
   cases hw' with
   | stop _=>rfl
   | step h1 _=>rw [h1] at hb; cases hb
  subst hv
  refine aq hI 1 ac rfl rfl ?_
  refine ao hI 2 rfl ac rfl rfl (by simpa using hcs0.one) fun w' hI=>?_
  refine aW hI 2 ac rfl rfl ?_
  exact ⟨_,_,_,rfl,hI.pick [true,false,false],Ext.refl _ _ _,rfl,rfl,_,rfl,hcs0⟩
end
theorem M7 (l:List Int) (n x:Int):x∈zF l n↔x∈l ∨ x=n:=by
 unfold zF
 split
 ·rename_i h
  rw [ID] at h
  constructor
  ·exact .inl
  ·rintro (h1|rfl)
   ·exact h1
   ·exact h
 ·simp
mutual
theorem kR {N:Nat}:∀ (t:T) (l:List Int),okU N t->∀ x,x∈fe t l↔x∈l ∨ ∃ m∈vT t,x=(m:Int)
 | .mk k n s ks,l,h,x=>by
  rw [okU] at h
  rw [fe,vT]
  by_cases hk:k=1
  ·rw [if_pos hk,if_pos hk,M7]
   have:=(h.2.1 hk).1
   constructor
   ·rintro (h1|h1)
    ·exact .inl h1
    ·exact .inr ⟨n.toNat,List.mem_singleton.2 rfl,by omega⟩
   ·rintro (h1|⟨m,hm,e⟩)
    ·exact .inl h1
    ·rw [List.mem_singleton] at hm
     exact .inr (by omega)
  ·rw [if_neg hk,if_neg hk]
   exact tw ks l h.2.2.1 x
theorem tw {N:Nat}:∀ (ts:List T) (l:List Int),dC N ts->∀ x,x∈de ts l↔x∈l ∨ ∃ m∈vTL ts,x=(m:Int)
 | [],l,_,x=>by simp [de,vTL]
 | t::ts,l,h,x=>by
  rw [dC] at h
  rw [de,vTL,tw ts _ h.2,kR t l h.1]
  simp only [List.mem_append]
  constructor
  ·rintro ((h|⟨m,h,e⟩)|⟨m,h,e⟩)
   ·exact .inl h
   ·exact .inr ⟨m,.inl h,e⟩
   ·exact .inr ⟨m,.inr h,e⟩
  ·rintro (h|⟨m,h|h,e⟩)
   ·exact .inl (.inl h)
   ·exact .inl (.inr ⟨m,h,e⟩)
   ·exact .inr ⟨m,h,e⟩
end
mutual
theorem xY:∀ (t:T) (l:List Int),l.Nodup->(fe t l).Nodup
 | .mk k n s ks,l,h=>by
  rw [fe]
  split
  ·exact Kb n h
  ·exact EM ks l h
theorem EM:∀ (ts:List T) (l:List Int),l.Nodup->(de ts l).Nodup
 | [],l,h=>by rw [de]; exact h
 | t::ts,l,h=>by rw [de]; exact EM ts _ (xY t l h)
end
theorem NO (l:List Int) (n:Int):l <+: zF l n:=by
 unfold zF
 split
 ·exact List.prefix_refl _
 ·exact List.prefix_append _ _
mutual
theorem AV:∀ (t:T) (l:List Int),l <+: fe t l
 | .mk k n s ks,l=>by
  rw [fe]
  split
  ·exact NO l n
  ·exact BA ks l
theorem BA:∀ (ts:List T) (l:List Int),l <+: de ts l
 | [],l=>by rw [de]; exact List.prefix_refl _
 | t::ts,l=>by
  rw [de]
  exact (AV t l).trans (BA ts _)
end
theorem IP (t:T):dF t<=1+(wT t:Int):=by
 have:=Gs [t]
 simp only [dc,wL,List.length_cons,List.length_nil] at this
 omega
theorem Qr:∀ (N:Nat) (l:List Int),l.Nodup->(∀ x∈l,0<=x/\x<N)->l.length<=N:=by
 intro N l hd h
 have hsub:∀ x∈l,x∈(List.range N).map (fun i:Nat=>(i:Int)):=fun x hx=>by
  obtain ⟨h1,h2⟩:=h x hx
  exact List.mem_map.2 ⟨x.toNat,List.mem_range.2 (by omega),by omega⟩
 have:=List.Nodup.length_le_of_subset hd hsub
 simpa using this
section
attribute [local irreducible] Run CondV aB aS
open Classical in
theorem CD {N:Nat} (hN:N<=1000000) {st:aC} (hg:Good N st) {t:T} (ht:okU N t) (hwt:wT t<=1048576) (n:Int) (hn0:0<=n) {S:ae} {cs:List Value} {kb kp:Nat} {kc:Array Value} (h:RdT S cs t) (hk:KnU S kc st) :
  Tri Tryz.prog FY [.int .i64 n,.agg cs.toArray,kvU kb N kp] [.blk kb (.cells kc ab)] S fun r I' S'=>S'=S/\I'=[.blk kb (.cells kc ab)]/\r=.bool (decide (fj st n.toNat t)):=by
 intro w hI
 obtain ⟨X,hX⟩:∃ X,X=bE [Item.blk kb (.cells kc ab)]:=⟨_,rfl⟩
 rw [<- hX] at hI ⊢
 have hlN:=hg.len
 have hlc:=h.length
 have hct:=IP t
 refine rJ.2 ?_
 dsimp only[rJ,cX]
 refine be hI fun b4 w' hI=>?_
 have hI:Inv w X [.blk kb (.cells kc ab),.blk b4 (.cells cs.toArray ab)] S w':=hI
 refine aq hI 1 ac rfl (by simpa using hlc) ?_
 have hI:Inv w X [.blk kb (.cells kc ab)] S w':=hI.pick [true,false]
 have hI:=hI.rowNil cD 1
 refine Run.call (A:=[_]) jI jq hI (kj t S cs (.slice none 0 0) [] h (by simp only [List.length_nil]; omega)) fun v' I' S' w'=>?_
 rintro ⟨rfl,eS⟩ _ hI
 rw [eS] at hI
 clear eS
 refine ⟨fun i t7 w'=>∃ (j:Nat) (ws:List Int),i=.int .i64 j/\j<=ws.length/\ws.Nodup/\(∀ x∈ws,0<=x/\x<N)/\(∀ x∈ws,∃ m∈vT t,Rch st m x.toNat)/\(∀ m∈vT t,(m:Int)∈ws)/\
   (∀ k (hk:k<ws.length),k<j->ws[k]≠n/\∀ u,st[ws[k].toNat]?=some (some u)->∀ m∈vT u,(m:Int)∈ws)/\Inv w X [.blk kb (.cells kc ab),dZ t7 ws] S w',
  fun i _ _=>N - (intOf i).toNat,⟨0,_,rfl,Nat.zero_le _,xY t [] List.nodup_nil,fun x hx=>?_,fun x hx=>?_,fun m hm=>?_,fun k _ hk0=>absurd hk0 (by omega),hI⟩,?_⟩
 ·rcases (kR t [] ht x).1 hx with hx|⟨m,hm,rfl⟩
  ·cases hx
  ·have:=N6 t ht m hm
   omega
 ·rcases (kR t [] ht x).1 hx with hx|⟨m,hm,rfl⟩
  ·cases hx
  ·exact ⟨m,hm,by rw [Int.toNat_natCast]; exact .refl m⟩
 ·exact (kR t [] ht _).2 (.inr ⟨m,hm,rfl⟩)
 intro t8 _ _ t7 _ _ _ _ _ _ _ _ _ _ _ _ _ _ _ _ _ _ _ _ _ _ _ _ _ _ _ _ _ _ _ _ _ _ _ _ _ _ w'
 rintro ⟨j,ws,rfl,hj,hnd,hrng,hreach,hroot,hdone,hI⟩
 have hwl:=Qr N ws hnd hrng
 obtain ⟨S1,hle,hrd,hI1,hback⟩:=Inv.lend (A:=[_]) hI
 have hrd:=hrd.ints
 refine aD hrd cQ ?_
 refine bA ?_
 refine aI (fun hji=>?_) (fun hji=>?_)
 ·have hj':j<ws.length:=by omega
  obtain ⟨hx0,hxN⟩:=hrng _ (List.getElem_mem hj')
  obtain ⟨x,hx⟩:∃ x:Nat,ws[j]=x:=⟨ws[j].toNat,by omega⟩
  have hxs:x<st.length:=by omega
  refine ⟨fun t7' w'=>∃ ws':List Int,ws'.Nodup/\(∀ x∈ws',0<=x/\x<N)/\(∀ x∈ws',∃ m∈vT t,Rch st m x.toNat)/\(∀ y∈ws,y∈ws')/\ws <+: ws'/\
   ws[j]≠n/\(∀ u,st[x]?=some (some u)->∀ m∈vT u,(m:Int)∈ws')/\Inv w X [.blk kb (.cells kc ab),dZ t7' ws'] S w',?_,?_⟩
  ·refine fy hI1 hrd cQ aw hj' (fun cs hcs=>hcs) ?_
   refine aY ?_
   refine aI (fun he=>?_) (fun he=>?_)
   ·have hocc:fj st n.toNat t:=by
     obtain ⟨m,hm,hr⟩:=hreach _ (List.getElem_mem hj')
     rw [he] at hr
     exact ⟨m,hm,hr⟩
    have hI:=hback _ _ hI1
    refine ⟨_,_,_,rfl,hI.pick [true,false],Ext.refl _ _ _,rfl,rfl,?_⟩
    rw [decide_eq_true hocc]
   ·refine ⟨fun q w'=>q=.bool (decide (∃ u,st[x]?=some (some u)))/\Inv w X [.blk kb (.cells kc ab)] S1 w',?_,?_⟩
    ·refine fy hI1 hrd cQ aw hj' (fun cs hcs=>hcs) ?_
     refine dX af ?_
     refine bA ?_
     rw [decide_eq_true hxN]
     refine rpG ?_
     refine fy hI1 hrd cQ aw hj' (fun cs hcs=>hcs) ?_
     rw [hx]
     refine au af (by omega) ?_
     refine ai aE ?_
     rw [Nat.zero_add,Nat.add_zero]
     obtain ⟨hno,hso⟩:=hk.2 x hxs
     cases hst2:st[x] with
     | none=>
      have hcell:=hno hst2
      refine aA hI1 0 aw rfl (by have:=ar hcell 0 _ rfl; exact this) ?_
      refine cE ?_
      refine rpG ?_
      refine ⟨?_,hI1⟩
      rw [decide_eq_false (show ¬ ∃ u,st[x]?=some (some u) from fun ⟨u,hu⟩=>by rw [List.getElem?_eq_getElem hxs,hst2] at hu; cases hu)]
      simp
     | some t0=>
      have hR:=hso t0 hst2
      have hk0:t0.kind≠0:=(hg.ok t0 (by rw [<- hst2]; exact List.getElem_mem hxs)).kind
      obtain ⟨kv0',hcell,_,_,_,_⟩:=RdT.iff.1 hR
      refine aA hI1 0 aw rfl (by have:=ar hcell 0 _ rfl; exact this) ?_
      refine cE ?_
      rw [decide_eq_false hk0]
      refine rpG ?_
      refine ⟨?_,hI1⟩
      rw [decide_eq_true (show ∃ u,st[x]?=some (some u) from ⟨t0,by rw [List.getElem?_eq_getElem hxs,hst2]⟩)]
      rfl
    intro q _ _ _ _ _ _ _ _ _ _ _ _ _ _ _ _ _ w'
    rintro ⟨rfl,hI1⟩
    refine aI (fun hq=>?_) (fun hq=>?_)
    ·obtain ⟨u,hu⟩:=hq
     have hst2:st[x]=some u:=by rw [List.getElem?_eq_getElem hxs,Option.some.injEq] at hu; exact hu
     have hR:=(hk.2 x hxs).2 u hst2
     have hum:=List.mem_of_getElem? hu
     have hou:=hg.ok u hum
     have hwu:=hg.w u hum
     have hcu:=IP u
     refine fy hI1 hrd cQ aw hj' (fun cs hcs=>hcs) ?_
     rw [hx]
     refine au af (by omega) ?_
     rw [Nat.zero_add]
     refine b0 hI1 0 (aH kc (x * 4) 4) ac rfl hR.length (fun i v hi=>ar rfl i v hi) ?_
     have hI:=hback _ _ hI1
     refine Run.call (A:=[_]) jI jq hI (kj u S _ t7 ws hR (by omega)) fun v' I' S' w'=>?_
     rintro ⟨rfl,eS⟩ _ hI
     rw [eS] at hI
     clear eS
     have hmem:=kR u ws hou
     refine ⟨_,xY u ws hnd,fun y hy=>?_,fun y hy=>?_,fun y hy=>(hmem y).2 (.inl hy),AV u ws,by rw [<- hx]; exact he,fun u' hu' m hm=>?_,hI⟩
     ·rcases (hmem y).1 hy with hy|⟨m,hm,rfl⟩
      ·exact hrng y hy
      ·have:=N6 u hou m hm
       omega
     ·rcases (hmem y).1 hy with hy|⟨m,hm,rfl⟩
      ·exact hreach y hy
      ·obtain ⟨m0,hm0,hr0⟩:=hreach _ (List.getElem_mem hj')
       rw [hx,Int.toNat_natCast] at hr0
       exact ⟨m0,hm0,hr0.trans (.step hu hm (by rw [Int.toNat_natCast]; exact .refl m))⟩
     ·rw [hu,Option.some.injEq,Option.some.injEq] at hu'
      subst hu'
      exact (hmem _).2 (.inr ⟨m,hm,rfl⟩)
    ·have hI:=hback _ _ hI1
     exact ⟨ws,hnd,hrng,hreach,fun y hy=>hy,List.prefix_refl _,he,fun u hu=>absurd ⟨u,hu⟩ hq,hI⟩
  intro t7' _ _ _ _ _ _ _ _ _ _ _ _ _ _ _ _ _ _ _ _ _ _ _ _ _ _ _ _ _ _ _ _ _ _ w'
  rintro ⟨ws',hnd',hrng',hreach',hsub,hpf,hne,hcl,hI⟩
  have hl':=hpf.length_le
  have hpre:∀ k (hk:k<ws.length),ws'[k]'(by omega)=ws[k]:=fun k hk=>(hpf.getElem hk).symm
  refine bn (by omega) ?_
  refine ⟨⟨j+1,ws',rfl,by omega,hnd',hrng',hreach',fun m hm=>hsub _ (hroot m hm),fun k hk' hkj=>?_,hI⟩,by simp [intOf]; omega⟩
  by_cases e:k=j
  ·subst e
   have e1:=hpre k hj'
   rw [e1]
   refine ⟨hne,fun u hu=>?_⟩
   rw [hx,Int.toNat_natCast] at hu
   exact hcl u hu
  ·have hkl:k<ws.length:=by omega
   rw [hpre k hkl]
   obtain ⟨h1,h2⟩:=hdone k hkl (by omega)
   exact ⟨h1,fun u hu m hm=>hsub _ (h2 u hu m hm)⟩
 ·have hj2:j=ws.length:=by omega
  have hno:¬ fj st n.toNat t:=by
   rintro ⟨m,hm,hr⟩
   have key:∀ a c,Rch st a c->(a:Int)∈ws->(c:Int)∈ws:=by
    intro a c hac
    induction hac with
    | refl=>exact id
    | step h1 h2 _ ih=>
     intro ha
     obtain ⟨k,hk,e⟩:=List.mem_iff_getElem.1 ha
     refine ih ((hdone k hk (by omega)).2 _ ?_ _ h2)
     rw [e,Int.toNat_natCast]
     exact h1
   have h1:=key m _ hr (hroot m hm)
   obtain ⟨k,hk,e⟩:=List.mem_iff_getElem.1 h1
   exact (hdone k hk (by omega)).1 (by rw [e]; omega)
  have hI:=hback _ _ hI1
  refine ⟨_,_,_,rfl,hI.pick [true,false],Ext.refl _ _ _,rfl,rfl,?_⟩
  rw [decide_eq_false hno]
end
end
section
open Go Go.RowKit
inductive Chain (Call:aC->T->T->Bool->aC->Prop):aC->List T->List T->Bool->aC->Prop
 | nil {st:aC}:Chain Call st [] [] true st
 | stop {st st':aC} {a b:T} {xs ys:List T}:Call st a b false st'->Chain Call st (a::xs) (b::ys) false st'
 | go {st st1 st':aC} {a b:T} {xs ys:List T} {r:Bool}:Call st a b true st1->Chain Call st1 xs ys r st'->Chain Call st (a::xs) (b::ys) r st'
theorem Chain.head {Call:aC->T->T->Bool->aC->Prop} {st st':aC} {a b:T} {xs ys:List T} {r:Bool} (h:Chain Call st (a::xs) (b::ys) r st') :
  ∃ r1 st1,Call st a b r1 st1/\(r1=false->r=false/\st'=st1)/\(r1=true->Chain Call st1 xs ys r st'):=by
 cases h with
 | stop h=>exact ⟨false,_,h,fun _=>⟨rfl,rfl⟩,fun e=>(by cases e)⟩
 | go h h'=>exact ⟨true,_,h,fun e=>(by cases e),fun _=>h'⟩
theorem Chain.done {Call:aC->T->T->Bool->aC->Prop} {st st':aC} {r:Bool} (h:Chain Call st [] [] r st'):r=true/\st'=st:=by
 cases h
 exact ⟨rfl,rfl⟩
def Ok (Call:aC->T->T->Bool->aC->Prop) (st:aC) (a' b':T) (r:Bool) (st':aC):Prop:=
 (a'.kind=1/\b'.kind=1/\a'.n=b'.n/\r=true/\st'=st) ∨
 (a'.kind=1/\¬ (b'.kind=1/\a'.n=b'.n)/\((¬ fj st a'.n.toNat b'/\r=true/\st'=st.set a'.n.toNat (some b')) ∨ (fj st a'.n.toNat b'/\r=false/\st'=st))) ∨
 (a'.kind≠1/\b'.kind=1/\((¬ fj st b'.n.toNat a'/\r=true/\st'=st.set b'.n.toNat (some a')) ∨ (fj st b'.n.toNat a'/\r=false/\st'=st))) ∨
 (a'.kind≠1/\b'.kind≠1/\((ic a' b'=false/\r=false/\st'=st) ∨ (ic a' b'=true/\Chain Call st a'.kids b'.kids r st')))
theorem Uni.calls {N:Nat} {Call:aC->T->T->Bool->aC->Prop} (hcall:∀ st a b a' b' r st',Good N st->okJ N (.one a b)->cS st a a'->cS st b b'->Ok Call st a' b' r st'->Call st a b r st') {st st':aC} {j:Job} {r:Bool} (hu:Uni st j r st') :
  Good N st->okJ N j->match j with
   | .one a b=>Call st a b r st'
   | .list xs ys=>Chain Call st xs ys r st':=by
 induction hu with
 | same h1 h2 h3 h4 h5=>exact fun hg hj=>hcall _ _ _ _ _ _ _ hg hj h1 h2 (.inl ⟨h3,h4,h5,rfl,rfl⟩)
 | bindA h1 h2 h3 h4 h5=>exact fun hg hj=>hcall _ _ _ _ _ _ _ hg hj h1 h2 (.inr (.inl ⟨h3,h4,.inl ⟨h5,rfl,rfl⟩⟩))
 | occA h1 h2 h3 h4 h5=>exact fun hg hj=>hcall _ _ _ _ _ _ _ hg hj h1 h2 (.inr (.inl ⟨h3,h4,.inr ⟨h5,rfl,rfl⟩⟩))
 | bindB h1 h2 h3 h4 h5=>exact fun hg hj=>hcall _ _ _ _ _ _ _ hg hj h1 h2 (.inr (.inr (.inl ⟨h3,h4,.inl ⟨h5,rfl,rfl⟩⟩)))
 | occB h1 h2 h3 h4 h5=>exact fun hg hj=>hcall _ _ _ _ _ _ _ hg hj h1 h2 (.inr (.inr (.inl ⟨h3,h4,.inr ⟨h5,rfl,rfl⟩⟩)))
 | clash h1 h2 h3 h4 h5=>exact fun hg hj=>hcall _ _ _ _ _ _ _ hg hj h1 h2 (.inr (.inr (.inr ⟨h3,h4,.inl ⟨h5,rfl,rfl⟩⟩)))
 | kids h1 h2 h3 h4 h5 _ ih=>
  exact fun hg hj=>hcall _ _ _ _ _ _ _ hg hj h1 h2 (.inr (.inr (.inr ⟨h3,h4,.inr ⟨h5,ih hg ⟨jf (dN hg h1 hj.1),jf (dN hg h2 hj.2),qm h5⟩⟩⟩)))
 | nil=>exact fun _ _=>.nil
 | stop _ ih=>exact fun hg hj=>.stop (ih hg ⟨hj.1 _ (List.mem_cons_self ..),hj.2.1 _ (List.mem_cons_self ..)⟩)
 | go h1 _ ih1 ih2=>
  intro hg hj
  have hj1:okJ N (.one _ _):=⟨hj.1 _ (List.mem_cons_self ..),hj.2.1 _ (List.mem_cons_self ..)⟩
  exact .go (ih1 hg hj1) (ih2 (h1.good hg hj1).1 ⟨fun a ha=>hj.1 a (List.mem_cons_of_mem _ ha),fun b hb=>hj.2.1 b (List.mem_cons_of_mem _ hb),by have:=hj.2.2; simpa using this⟩)
def UC (N kp:Nat) (st:aC) (a b:T) (r:Bool) (st':aC):Prop:=∀ (S:ae) (cs ds:List Value) (kb:Nat) (kc:Array Value),RdT S cs a->RdT S ds b->KnU S kc st->
 Tri Tryz.prog JF [.agg cs.toArray,.agg ds.toArray,kvU kb N kp] [.blk kb (.cells kc ab)] S fun q I' S'=>S'=S/\q=.bool r/\∃ kc',I'=[.blk kb (.cells kc' ab)]/\KnU S kc' st'
section
attribute [local irreducible] Run CondV aB aS
set_option maxHeartbeats 1000000 in
theorem vd {N kp:Nat} (hN:N<=1000000) {st st':aC} {a b a' b':T} {r:Bool} (hg:Good N st) (hj:okJ N (.one a b)) (hwa:cS st a a') (hwb:cS st b b')
  (hsw:a'.kind≠1->b'.kind=1->UC N kp st b' a' r st') (he:Ok (UC N kp) st a' b' r st'):UC N kp st a b r st':=by
 intro S cs ds kb kc h h' hkc w hI
 have hlc:=h.length
 have hld:=h'.length
 have hoa:=dN hg hwa hj.1
 have hob:=dN hg hwb hj.2
 have hlN:=hg.len
 obtain ⟨X,hX⟩:∃ X,X=bE [Item.blk kb (.cells kc ab)]:=⟨_,rfl⟩
 rw [<- hX] at hI ⊢
 refine wa.2 ?_
 dsimp only[wa,cX]
 refine be hI fun b1 w' hI=>?_
 refine be hI fun b2 w' hI=>?_
 have hI:Inv w X ([.blk b1 (.cells cs.toArray ab),.blk b2 (.cells ds.toArray ab)]++[.blk kb (.cells kc ab)]) S w':=hI.perm (List.perm_append_comm (l₁:=[_,_]) (l₂:=[_]))
 refine aq hI 0 ac rfl (by simpa using hlc) ?_
 refine Run.call lX lF hI (ov hg hwa hj.1.1 h hkc) fun v' I' S' w'=>?_
 rintro ⟨eS,rfl,cs',rfl,hcs'⟩ _ hI
 rw [eS] at hI
 clear eS
 refine ao hI 0 rfl ac (by simpa using hcs'.length) (by simpa using hlc) (by simpa using hcs'.one) fun w' hI=>?_
 have hI:Inv w X ([.blk b1 (.cells cs'.toArray ab),.blk b2 (.cells ds.toArray ab)]++[.blk kb (.cells kc ab)]) S w':=hI
 refine aq hI 1 ac rfl (by simpa using hld) ?_
 refine Run.call lX lF hI (ov hg hwb hj.2.1 h' hkc) fun v' I' S' w'=>?_
 rintro ⟨eS,rfl,ds',rfl,hds'⟩ _ hI
 rw [eS] at hI
 clear eS
 refine ao hI 1 rfl ac (by simpa using hds'.length) (by simpa using hld) (by simpa using hds'.one) fun w' hI=>?_
 have hI:Inv w X [.blk b1 (.cells cs'.toArray ab),.blk b2 (.cells ds'.toArray ab),.blk kb (.cells kc ab)] S w':=hI
 have hcs:=hcs'
 have hds:=hds'
 obtain ⟨kv,rfl,_,_,_,hks⟩:=RdT.iff.1 hcs'
 obtain ⟨kv',rfl,_,_,_,hks'⟩:=RdT.iff.1 hds'
 obtain ⟨k,n,s,ks⟩:=a'
 obtain ⟨k',n',s',ks'⟩:=b'
 unfold Ok at he
 simp only [T.name,T.kids,T.kind,T.n] at hks hks' hI he hsw ⊢
 have hlen:=hks.le
 simp only [maxLen] at hlen
 refine ⟨fun q w'=>q=.bool (decide (k=1/\k'=1/\n=n'))/\Inv w X [.blk b1 (.cells #[.int .i64 k,.int .i64 n,.string s,kv] ab),.blk b2 (.cells #[.int .i64 k',.int .i64 n',.string s',kv'] ab),.blk kb (.cells kc ab)] S w',?_,?_⟩
 ·refine ad hI 0 rfl aE aw rfl ?_
  refine aY ?_
  by_cases e1:k=1
  ·rw [decide_eq_true e1]
   refine rpG ?_
   refine ad hI 1 rfl aE aw rfl ?_
   refine aY ?_
   by_cases e2:k'=1
   ·rw [decide_eq_true e2]
    refine rpG ?_
    refine ad hI 0 rfl aK aw rfl ?_
    refine ad hI 1 rfl aK aw rfl ?_
    refine aY ?_
    refine rpG ?_
    exact ⟨by simp [e1,e2],hI⟩
   ·rw [decide_eq_false e2]
    refine rpG ?_
    exact ⟨by simp [e2],hI⟩
  ·rw [decide_eq_false e1]
   refine rpG ?_
   exact ⟨by simp [e1],hI⟩
 intro q _ _ _ _ _ _ _ _ _ _ _ _ _ _ w'
 rintro ⟨rfl,hI⟩
 refine aI (fun hsame=>?_) (fun hsame=>?_)
 ·have:r=true/\st'=st:=by
   rcases he with ⟨_,_,_,h1,h2⟩|⟨_,h1,_⟩|⟨h1,_,_⟩|⟨h1,_,_⟩
   ·exact ⟨h1,h2⟩
   ·exact absurd hsame.2 h1
   ·exact absurd hsame.1 h1
   ·exact absurd hsame.1 h1
  obtain ⟨rfl,rfl⟩:=this
  exact ⟨_,_,_,rfl,hI.pick [false,false,true],Ext.refl _ _ _,rfl,rfl,_,rfl,hkc⟩
 refine ad hI 0 rfl aE aw rfl ?_
 refine aY ?_
 refine aI (fun hk1=>?_) (fun hk1=>?_)
 ·have hend:(¬ fj st n.toNat (.mk k' n' s' ks')/\r=true/\st'=st.set n.toNat (some (.mk k' n' s' ks'))) ∨ (fj st n.toNat (.mk k' n' s' ks')/\r=false/\st'=st):=by
   rcases he with ⟨h1,h2,h3,_⟩|⟨_,_,h1⟩|⟨h1,_,_⟩|⟨h1,_,_⟩
   ·exact absurd ⟨h1,h2,h3⟩ hsame
   ·exact h1
   ·exact absurd hk1 h1
   ·exact absurd hk1 h1
  obtain ⟨hn0,hnN,_⟩:=hoa.1.var hk1
  simp only [T.n] at hn0 hnN
  obtain ⟨j,rfl⟩:∃ j:Nat,n=j:=⟨n.toNat,by omega⟩
  refine ad hI 0 rfl aK aw rfl ?_
  refine aq hI 1 ac rfl rfl ?_
  refine Run.call (A:=[_,_]) Dx Df hI (CD hN hg hob.1 hob.2 j (by omega) hds hkc) fun v' I' S' w'=>?_
  rintro ⟨eS,rfl,rfl⟩ _ hI
  rw [eS] at hI
  clear eS
  have hI:Inv w X [.blk b1 (.cells #[.int .i64 k,.int .i64 j,.string s,kv] ab),.blk b2 (.cells #[.int .i64 k',.int .i64 n',.string s',kv'] ab),.blk kb (.cells kc ab)] S w':=hI
  refine az (fun hb=>?_) (fun hb=>?_)
  ·have hocc:fj st (Int.toNat j) (.mk k' n' s' ks'):=@of_decide_eq_true _ (Classical.propDecidable _) hb
   have:r=false/\st'=st:=by
    rcases hend with ⟨h1,_⟩|⟨_,h1⟩
    ·exact absurd hocc h1
    ·exact h1
   obtain ⟨rfl,rfl⟩:=this
   exact ⟨_,_,_,rfl,hI.pick [false,false,true],Ext.refl _ _ _,rfl,rfl,_,rfl,hkc⟩
  ·have hocc:¬ fj st (Int.toNat j) (.mk k' n' s' ks'):=@of_decide_eq_false _ (Classical.propDecidable _) hb
   have:r=true/\st'=st.set (Int.toNat j) (some (.mk k' n' s' ks')):=by
    rcases hend with ⟨_,h1⟩|⟨h1,_⟩
    ·exact h1
    ·exact absurd h1 hocc
   obtain ⟨rfl,rfl⟩:=this
   rw [Int.toNat_natCast]
   refine ad hI 0 rfl aK aw rfl ?_
   refine aq hI 1 ac rfl rfl ?_
   refine au af (by omega) ?_
   rw [Nat.zero_add]
   refine kP hI 2 rfl ac rfl (by have:=hkc.1; exact Nat.ble_eq_true_of_le (by omega)) hds.one fun w' hI=>?_
   exact ⟨_,_,_,rfl,hI.pick [false,false,true],Ext.refl _ _ _,rfl,rfl,_,rfl,hkc.set (by omega) hds⟩
 refine ad hI 1 rfl aE aw rfl ?_
 refine aY ?_
 refine aI (fun hk2=>?_) (fun hk2=>?_)
 ·refine aq hI 1 ac rfl rfl ?_
  refine aq hI 0 ac rfl rfl ?_
  refine Run.call (A:=[_,_]) fG fB hI (hsw hk1 hk2 S _ _ kb kc hds hcs hkc) fun v' I' S' w'=>?_
  rintro ⟨eS,rfl,kc',rfl,hkc'⟩ _ hI
  rw [eS] at hI
  clear eS
  exact ⟨_,_,_,rfl,hI.pick [false,false,true],Ext.refl _ _ _,rfl,rfl,_,rfl,hkc'⟩
 have hend:(ic (.mk k n s ks) (.mk k' n' s' ks')=false/\r=false/\st'=st) ∨ (ic (.mk k n s ks) (.mk k' n' s' ks')=true/\Chain (UC N kp) st ks ks' r st'):=by
  rcases he with ⟨h1,_⟩|⟨h1,_,_⟩|⟨_,h1,_⟩|⟨_,_,h1⟩
  ·exact absurd h1 hk1
  ·exact absurd h1 hk1
  ·exact absurd h1 hk2
  ·exact h1
 refine ⟨fun q w'=>q=.bool (!ic (.mk k n s ks) (.mk k' n' s' ks'))/\Inv w X [.blk b1 (.cells #[.int .i64 k,.int .i64 n,.string s,kv] ab),.blk b2 (.cells #[.int .i64 k',.int .i64 n',.string s',kv'] ab),.blk kb (.cells kc ab)] S w',?_,?_⟩
 ·refine ad hI 0 rfl aE aw rfl ?_
  refine ad hI 1 rfl aE aw rfl ?_
  refine cE ?_
  by_cases e1:k=k'
  ·rw [decide_eq_true e1]
   refine rpG ?_
   refine ad hI 0 rfl aK aw rfl ?_
   refine ad hI 1 rfl aK aw rfl ?_
   refine cE ?_
   by_cases e2:n=n'
   ·rw [decide_eq_true e2]
    refine rpG ?_
    refine ad hI 0 rfl aM aJ rfl ?_
    refine ad hI 1 rfl aM aJ rfl ?_
    refine xF ?_
    by_cases e3:s=s'
    ·rw [decide_eq_true e3]
     refine rpG ?_
     refine ad hI 0 rfl al ag rfl ?_
     refine aD hks af ?_
     refine ad hI 1 rfl al ag rfl ?_
     refine aD hks' af ?_
     refine cE ?_
     refine rpG ?_
     exact ⟨by rw [dx,decide_eq_true e1,decide_eq_true e2,decide_eq_true e3,HJ]; rfl,hI⟩
    ·rw [decide_eq_false e3]
     refine rpG ?_
     exact ⟨by rw [dx,decide_eq_true e1,decide_eq_true e2,decide_eq_false e3]; rfl,hI⟩
   ·rw [decide_eq_false e2]
    refine rpG ?_
    exact ⟨by rw [dx,decide_eq_true e1,decide_eq_false e2]; rfl,hI⟩
  ·rw [decide_eq_false e1]
   refine rpG ?_
   exact ⟨by rw [dx,decide_eq_false e1]; rfl,hI⟩
 intro q _ _ _ _ _ _ _ _ _ _ _ _ _ _ _ _ _ _ _ _ _ _ _ _ _ _ _ w'
 rintro ⟨rfl,hI⟩
 cases hd:ic (.mk k n s ks) (.mk k' n' s' ks')
 ·refine az (fun _=>?_) (fun hb=>by cases hb)
  have:r=false/\st'=st:=by
   rcases hend with ⟨_,h1⟩|⟨h1,_⟩
   ·exact h1
   ·rw [hd] at h1; cases h1
  obtain ⟨rfl,rfl⟩:=this
  exact ⟨_,_,_,rfl,hI.pick [false,false,true],Ext.refl _ _ _,rfl,rfl,_,rfl,hkc⟩
 refine az (fun hb=>by cases hb) (fun _=>?_)
 have hle:ks.length=ks'.length:=qm hd
 have hch:Chain (UC N kp) st ks ks' r st':=by
  rcases hend with ⟨h1,_⟩|⟨_,h1⟩
  ·rw [hd] at h1; cases h1
  ·exact h1
 refine ⟨fun i w'=>∃ (j:Nat) (st1:aC) (kc1:Array Value),j<=ks.length/\i=.int .i64 j/\Chain (UC N kp) st1 (ks.drop j) (ks'.drop j) r st'/\KnU S kc1 st1/\Inv w X [.blk b1 (.cells #[.int .i64 k,.int .i64 n,.string s,kv] ab),.blk b2 (.cells #[.int .i64 k',.int .i64 n',.string s',kv'] ab),.blk kb (.cells kc1 ab)] S w',fun i _=>ks.length - (intOf i).toNat,⟨0,st,kc,Nat.zero_le _,rfl,hch,hkc,hI⟩,?_⟩
 intro t7 _ _ _ t96 t95 t94 t93 t92 t91 t90 t89 t88 t87 t86 t85 t84 _ _ _ _ _ w'
 rintro ⟨j,st1,kc1,hj,rfl,hrel,hkc1,hI⟩
 refine ad hI 0 rfl al ag rfl ?_
 refine aD hks af ?_
 refine bA ?_
 refine aI (fun hji=>?_) (fun hji=>?_)
 ·have hj1:j<ks.length:=by omega
  have hj2:j<ks'.length:=by omega
  obtain ⟨c1,o1,cap1,a1,E1,fz1,rfl,hS1,hR1⟩:=hks.at_ hj1
  obtain ⟨c2,o2,cap2,a2,E2,fz2,rfl,hS2,hR2⟩:=hks'.at_ hj2
  rw [List.drop_eq_getElem_cons hj1,List.drop_eq_getElem_cons hj2] at hrel
  obtain ⟨r1,st2,hcall,hno,hyes⟩:=hrel.head
  have hcall:=hcall S _ _ kb kc1 hR1 hR2 hkc1
  refine ⟨fun D O9 I0 DU CX Do Ca CG tJ sk tL tz tT tG w_=>Fx D 0 [tG=.pointer (some ⟨b1,3,none⟩),tT=.slice (some ⟨c1,o1,none⟩) ks.length cap1,tz=.int .i64 j,tL=.pointer (some ⟨c1,o1+j * 4,none⟩),sk=.agg (aH a1 (o1+j * 4) 4).toArray,tJ=.pointer (some ⟨b2,3,none⟩),CG=.slice (some ⟨c2,o2,none⟩) ks'.length cap2,Ca=.int .i64 j,Do=.pointer (some ⟨c2,o2+j * 4,none⟩),CX=.agg (aH a2 (o2+j * 4) 4).toArray,DU=kvU kb N kp,I0=.bool r1,O9=.bool (!r1)]/\(D 11=false->Inv w X [.blk b1 (.cells #[.int .i64 k,.int .i64 n,.string s,.slice (some ⟨c1,o1,none⟩) ks.length cap1] ab),.blk b2 (.cells #[.int .i64 k',.int .i64 n',.string s',.slice (some ⟨c2,o2,none⟩) ks'.length cap2] ab),.blk kb (.cells kc1 ab)] S w_)/\(D 11=true->∃ kc2,KnU S kc2 st2/\Inv w X [.blk b1 (.cells #[.int .i64 k,.int .i64 n,.string s,.slice (some ⟨c1,o1,none⟩) ks.length cap1] ab),.blk b2 (.cells #[.int .i64 k',.int .i64 n',.string s',.slice (some ⟨c2,o2,none⟩) ks'.length cap2] ab),.blk kb (.cells kc2 ab)] S w_)/\∃ kc3,Inv w X [.blk b1 (.cells #[.int .i64 k,.int .i64 n,.string s,.slice (some ⟨c1,o1,none⟩) ks.length cap1] ab),.blk b2 (.cells #[.int .i64 k',.int .i64 n',.string s',.slice (some ⟨c2,o2,none⟩) ks'.length cap2] ab),.blk kb (.cells kc3 ab)] S w_,⟨Fx.nil _ _,⟨fun _=>hI.draw,aU,kc1,hI.draw⟩⟩,⟨?_,?_,?_,?_,?_,?_,?_,?_,?_,?_,?_,?_,?_,trivial⟩,?_⟩
  all_goals (intro D bo; intros; rename_i O9 I0 DU CX Do Ca CG tJ sk tL tz tT tG w_ hA_; have hF_:=hA_.1; obtain ⟨⟨bU,bV,bH,bR,bZ,bI,bB,ct,cF,cK,bG,bX,cI,_⟩,⟨hI0,hI1,kc3,hI⟩⟩:=hA_)
  ·refine ai al ?_
   exact ⟨hF_.set 0 rfl,⟨hI0,hI1,kc3,hI⟩⟩
  ·obtain rfl:=bU ‹_›
   refine aA hI 0 ag rfl rfl ?_
   exact ⟨hF_.set 1 rfl,⟨hI0,hI1,kc3,hI⟩⟩
  ·exact ⟨hF_.set 2 rfl,⟨hI0,hI1,kc3,hI⟩⟩
  ·obtain rfl:=bV ‹_›
   obtain rfl:=bH ‹_›
   refine au af hj1 ?_
   exact ⟨hF_.set 3 rfl,⟨hI0,hI1,kc3,hI⟩⟩
  ·obtain rfl:=bR ‹_›
   refine bw ac hR1.length (fun j v hj=>by rw [hI.cellS hS1]; exact ar rfl j v hj) ?_
   exact ⟨hF_.set 4 rfl,⟨hI0,hI1,kc3,hI⟩⟩
  ·refine ai al ?_
   exact ⟨hF_.set 5 rfl,⟨hI0,hI1,kc3,hI⟩⟩
  ·obtain rfl:=bI ‹_›
   refine aA hI 1 ag rfl rfl ?_
   exact ⟨hF_.set 6 rfl,⟨hI0,hI1,kc3,hI⟩⟩
  ·exact ⟨hF_.set 7 rfl,⟨hI0,hI1,kc3,hI⟩⟩
  ·obtain rfl:=bB ‹_›
   obtain rfl:=ct ‹_›
   refine au af hj2 ?_
   exact ⟨hF_.set 8 rfl,⟨hI0,hI1,kc3,hI⟩⟩
  ·obtain rfl:=cF ‹_›
   refine bw ac hR2.length (fun j v hj=>by rw [hI.cellS hS2]; exact ar rfl j v hj) ?_
   exact ⟨hF_.set 9 rfl,⟨hI0,hI1,kc3,hI⟩⟩
  ·exact ⟨hF_.set 10 rfl,⟨hI0,hI1,kc3,hI⟩⟩
  ·obtain rfl:=bZ ‹_›
   obtain rfl:=cK ‹_›
   obtain rfl:=bG ‹_›
   refine Run.call (A:=[_,_]) fG fB (hI0 bo) hcall fun v' I' S' w_=>?_
   rintro ⟨eS,rfl,kc2,rfl,hk2⟩ _ hI
   rw [eS] at hI
   have hI0:=fun (h:aF D 11 11=false)=>(Bool.noConfusion h:Inv w X [.blk b1 (.cells #[.int .i64 k,.int .i64 n,.string s,.slice (some ⟨c1,o1,none⟩) ks.length cap1] ab),.blk b2 (.cells #[.int .i64 k',.int .i64 n',.string s',.slice (some ⟨c2,o2,none⟩) ks'.length cap2] ab),.blk kb (.cells kc1 ab)] S w_)
   have hI1:=fun (_:aF D 11 11=true)=>(⟨kc2,hk2,hI⟩:∃ kc2,KnU S kc2 st2/\Inv w X [.blk b1 (.cells #[.int .i64 k,.int .i64 n,.string s,.slice (some ⟨c1,o1,none⟩) ks.length cap1] ab),.blk b2 (.cells #[.int .i64 k',.int .i64 n',.string s',.slice (some ⟨c2,o2,none⟩) ks'.length cap2] ab),.blk kb (.cells kc2 ab)] S w_)
   obtain ⟨kc3,hI⟩:∃ kc3,Inv w X [.blk b1 (.cells #[.int .i64 k,.int .i64 n,.string s,.slice (some ⟨c1,o1,none⟩) ks.length cap1] ab),.blk b2 (.cells #[.int .i64 k',.int .i64 n',.string s',.slice (some ⟨c2,o2,none⟩) ks'.length cap2] ab),.blk kb (.cells kc3 ab)] S w_:=⟨kc2,hI⟩
   exact ⟨hF_.set 11 rfl,⟨hI0,hI1,kc3,hI⟩⟩
  ·obtain rfl:=bX ‹_›
   refine bM ?_
   exact ⟨hF_.set 12 rfl,⟨hI0,hI1,kc3,hI⟩⟩
  obtain ⟨rfl,rfl,rfl,rfl,rfl,rfl,rfl,rfl,rfl,rfl,rfl,rfl,rfl,_⟩:=hF_.all
  have jP:D 11=true:=by assumption
  clear hF_ bU bV bH bR bZ bI bB ct cF cK bG bX cI
  obtain ⟨kc2,hk2,hI⟩:=hI1 jP
  clear hI0 hI1
  refine az (fun hne=>?_) (fun he'=>?_)
  ·simp only [Bool.not_eq_true'] at hne
   obtain ⟨rfl,rfl⟩:=hno hne
   exact ⟨_,_,_,rfl,hI.pick [false,false,true],Ext.refl _ _ _,rfl,rfl,_,rfl,hk2⟩
  ·simp only [Bool.not_eq_false'] at he'
   refine bn (by omega) ?_
   exact ⟨⟨j+1,st2,kc2,hj1,rfl,hyes he',hk2,hI⟩,by simp [intOf]; omega⟩
 ·have:j=ks.length:=by omega
  subst this
  rw [List.drop_length,hle,List.drop_length] at hrel
  obtain ⟨rfl,rfl⟩:=hrel.done
  exact ⟨_,_,_,rfl,hI.pick [false,false,true],Ext.refl _ _ _,rfl,rfl,_,rfl,hkc1⟩
theorem gM {N kp:Nat} (hN:N<=1000000) {st st':aC} {a b:T} {r:Bool} (hg:Good N st) (hj:okJ N (.one a b)) (hu:Uni st (.one a b) r st'):UC N kp st a b r st':=by
 refine Uni.calls (N:=N) (Call:=UC N kp) (fun st a b a' b' r st' hg hj hwa hwb he=>?_) hu hg hj
 refine vd hN hg hj hwa hwb (fun h1 h2=>?_) he
 have hoa:=dN hg hwa hj.1
 have hob:=dN hg hwb hj.2
 have hend:(¬ fj st b'.n.toNat a'/\r=true/\st'=st.set b'.n.toNat (some a')) ∨ (fj st b'.n.toNat a'/\r=false/\st'=st):=by
  rcases he with ⟨h3,_⟩|⟨h3,_,_⟩|⟨_,_,h3⟩|⟨_,h3,_⟩
  ·exact absurd h3 h1
  ·exact absurd h3 h1
  ·exact h3
  ·exact absurd h2 h3
 refine vd hN hg ⟨hob,hoa⟩ (.stop (iN hwb)) (.stop (iN hwa)) (fun h3 _=>absurd h2 h3) (.inr (.inl ⟨h2,fun h3=>h1 h3.1,hend⟩))
end
end
section
open Go Go.RowKit
section
variable {P:Program} {w w0:World} {X:List Nat} {L:List Item} {S:ae} {K:Value->World->Prop}
attribute [local irreducible] Run CondV aB aS
end
end
section
open Go Go.RowKit
attribute [local irreducible] Run CondV aB aS
end
section
open Go Go.RowKit
attribute [local irreducible] Run CondV aB aS
end
section
open Go Go.RowKit
section
attribute [local irreducible] Run CondV aB aS
theorem Pc {vs:List Int} {n:Int} (hn:inI n) (hl:vs.length<=1000000000):inI (r2 vs n n 0):=by
 rcases Ez vs n n 0 with h|h
 ·rw [h]; exact hn
 ·simp only [inI] at hn ⊢; omega
theorem AY (vs:List Int) (hvl:vs.length<=1000000000):∀ (t:T) (S:ae) (cs:List Value) (v:Value),RdT S cs t->RdSl S 1 ig v vs->wT t<=1048576->Tri Tryz.prog FA [.agg cs.toArray,v] [] S (DX S (gG vs t)):=by
 refine T.ind fun k n s ks ih S cs v h hv hw=>?_
 intro w hI
 obtain ⟨kv,rfl,h1,h2,hs,hks⟩:=RdT.iff.1 h
 simp only [T.name,T.kids,T.kind,T.n] at h1 h2 hs hks ⊢
 simp only [wT] at hw
 obtain ⟨N,hN⟩:∃ N,N=if k=1 then r2 vs n n 0 else n:=⟨_,rfl⟩
 have hNi:inI N:=by
  rw [hN]
  split
  ·exact Pc h2 hvl
  ·exact h2
 refine sS.2 ?_
 dsimp only[sS,aX]
 refine be hI fun b1 w' hI=>?_
 refine aG hI aP fun b2 w' hI=>?_
 refine ad hI 0 rfl aE aw rfl ?_
 refine ad hI 0 rfl aK aw rfl ?_
 refine ad hI 0 rfl aM aJ rfl ?_
 refine gf ?_
 refine aG hI aP fun b3 w' hI=>?_
 refine ao hI 2 rfl ac rfl rfl (by simp [Value.oneCell']) fun w' hI=>?_
 refine ⟨fun i w'=>∃ (j:Nat) (cur:Int),j<=vs.length/\i=.int .i64 j/\(if k=1 then r2 (vs.drop j) n cur j else cur)=N/\
   Inv w [] [.blk b1 (.cells #[.int .i64 k,.int .i64 n,.string s,kv] ab),.blk b2 (.cells #[.int .i64 0,.int .i64 0,.string ⟨#[]⟩,.slice none 0 0] ab),.blk b3 (.cells #[.int .i64 k,.int .i64 cur,.string s,.slice none 0 0] ab)] S w',
  fun i _=>vs.length - (intOf i).toNat,⟨0,n,Nat.zero_le _,rfl,hN.symm,hI⟩,?_⟩
 intro t6 _ _ _ _ _ _ _ _ _ _ _ _ _ _ _ _ _ _ _ _ w'
 rintro ⟨j,cur,hj,rfl,hrel,hI⟩
 refine ⟨fun t w'=>t=.bool (decide (j<vs.length) && decide (k=1))/\Inv w [] [.blk b1 (.cells #[.int .i64 k,.int .i64 n,.string s,kv] ab),.blk b2 (.cells #[.int .i64 0,.int .i64 0,.string ⟨#[]⟩,.slice none 0 0] ab),.blk b3 (.cells #[.int .i64 k,.int .i64 cur,.string s,.slice none 0 0] ab)] S w',?_,?_⟩
 ·refine aD hv cQ ?_
  refine bA ?_
  by_cases hji:j<vs.length
  ·rw [decide_eq_true (show (j:Int)<(vs.length:Int) by omega)]
   refine rpG ?_
   refine ad hI 0 rfl aE aw rfl ?_
   refine aY ?_
   refine rpG ?_
   exact ⟨by rw [decide_eq_true hji]; rfl,hI⟩
  ·rw [decide_eq_false (show ¬ (j:Int)<(vs.length:Int) by omega)]
   refine rpG ?_
   exact ⟨by rw [decide_eq_false hji]; rfl,hI⟩
 intro t _ _ _ _ _ _ _ _ w'
 rintro ⟨rfl,hI⟩
 refine az (fun hb=>?_) (fun hb=>?_)
 ·simp only [Bool.and_eq_true,decide_eq_true_eq] at hb
  obtain ⟨hji,hk⟩:=hb
  rw [if_pos hk,List.drop_eq_getElem_cons hji,r2] at hrel
  refine ⟨fun w'=>Inv w [] [.blk b1 (.cells #[.int .i64 k,.int .i64 n,.string s,kv] ab),.blk b2 (.cells #[.int .i64 0,.int .i64 0,.string ⟨#[]⟩,.slice none 0 0] ab),.blk b3 (.cells #[.int .i64 k,.int .i64 (if vs[j]=n then (j:Int) else cur),.string s,.slice none 0 0] ab)] S w',?_,?_⟩
  ·obtain ⟨b,o,cap,c,E,fz,rfl,hS,hR⟩:=hv.at_ hji
   refine ⟨fun D oE jM jd lw iB mJ nh w_=>Fx D 0 [nh=.slice (some ⟨b,o,none⟩) vs.length cap,mJ=.int .i64 j,iB=.pointer (some ⟨b,o+j * 1,none⟩),lw=.int .i64 vs[j],jd=.pointer (some ⟨b1,1,none⟩),jM=.int .i64 n,oE=.bool (decide (vs[j]=n))]/\Inv w [] [.blk b1 (.cells #[.int .i64 k,.int .i64 n,.string s,kv] ab),.blk b2 (.cells #[.int .i64 0,.int .i64 0,.string ⟨#[]⟩,.slice none 0 0] ab),.blk b3 (.cells #[.int .i64 k,.int .i64 cur,.string s,.slice none 0 0] ab)] S w_,⟨Fx.nil _ _,hI.draw⟩,⟨?_,?_,?_,?_,?_,?_,?_,trivial⟩,?_⟩
   all_goals (intro D bo; intros; rename_i oE jM jd lw iB mJ nh w_ hA_; have hF_:=hA_.1; obtain ⟨⟨bU,bV,bH,bR,bZ,bI,bB,_⟩,hI⟩:=hA_)
   ·exact ⟨hF_.set 0 rfl,hI⟩
   ·exact ⟨hF_.set 1 rfl,hI⟩
   ·obtain rfl:=bU ‹_›
    obtain rfl:=bV ‹_›
    refine au cQ hji ?_
    exact ⟨hF_.set 2 rfl,hI⟩
   ·obtain rfl:=bH ‹_›
    refine cz aw (by rw [hI.cellS hS]; exact ar hR 0 _ rfl) ?_
    exact ⟨hF_.set 3 rfl,hI⟩
   ·refine ai aK ?_
    exact ⟨hF_.set 4 rfl,hI⟩
   ·obtain rfl:=bZ ‹_›
    refine aA hI 0 aw rfl rfl ?_
    exact ⟨hF_.set 5 rfl,hI⟩
   ·obtain rfl:=bR ‹_›
    obtain rfl:=bI ‹_›
    refine aY ?_
    exact ⟨hF_.set 6 rfl,hI⟩
   obtain ⟨rfl,rfl,rfl,rfl,rfl,rfl,rfl,_⟩:=hF_.all
   clear hF_ bU bV bH bR bZ bI bB
   refine aI (fun he=>?_) (fun he=>?_)
   ·rw [if_pos he]
    exact cG hI 2 rfl aK aw rfl rfl rfl fun w' hI=>hI
   ·rw [if_neg he]
    exact hI
  intro _ _ _ _ _ _ _ _ _ w' hI
  refine bn (by omega) ?_
  exact ⟨⟨j+1,_,hji,rfl,by rw [if_pos hk]; exact hrel,hI⟩,by simp [intOf]; omega⟩
 have hcur:cur=N:=by
  by_cases hk:k=1
  ·rw [if_pos hk] at hrel
   have:j=vs.length:=by
    have:decide (j<vs.length)=false:=by
     rw [decide_eq_true hk,Bool.and_true] at hb
     exact hb
    have:=of_decide_eq_false this
    omega
   rw [this,List.drop_length] at hrel
   exact hrel
  ·rw [if_neg hk] at hrel
   exact hrel
 clear hrel hb
 subst hcur
 have hI:=hI.rowNil ab 4
 refine ⟨fun i w'=>∃ (j:Nat) (kvc:Value) (Ls:List bg) (css:List (List Value)),j<=ks.length/\i=.int .i64 j/\Grown 4 TrT Ls css (lC vs (ks.take j))/\
   Inv w [] (.blk b1 (.cells #[.int .i64 k,.int .i64 n,.string s,kv] ab)::.blk b2 (.cells #[.int .i64 0,.int .i64 0,.string ⟨#[]⟩,.slice none 0 0] ab)::.blk b3 (.cells #[.int .i64 k,.int .i64 cur,.string s,kvc] ab)::aL kvc ab 4 css::bq Ls.flatten) S w',
  fun i _=>ks.length - (intOf i).toNat,⟨0,_,[],[],Nat.zero_le _,rfl,Grown.nil _ _,hI⟩,?_⟩
 intro t7 _ _ _ _ _ _ _ _ _ _ _ _ _ _ _ _ _ _ _ w'
 rintro ⟨j,kvc,Ls,css,hj,rfl,hg,hI⟩
 refine ad hI 0 rfl al ag rfl ?_
 refine aD hks af ?_
 refine bA ?_
 refine aI (fun hji=>?_) (fun hji=>?_)
 ·have hj':j<ks.length:=by omega
  have hjl:(ks.take j).length=j:=by simp; omega
  have hcl:=hg.hc
  rw [xK] at hcl
  have hm:=List.getElem_mem hj'
  have hwm:=kH hm
  obtain ⟨b,o,cap,c,E,fz,rfl,hS,hR⟩:=hks.at_ hj'
  refine ⟨fun D pj lp ro rZ rN pm jK mh kw lW jJ j1 w_=>Fx D 0 [j1=.pointer (some ⟨b3,3,none⟩),jJ=kvc,lW=.pointer (some ⟨b1,3,none⟩),kw=.slice (some ⟨b,o,none⟩) ks.length cap,mh=.int .i64 j,jK=.pointer (some ⟨b,o+j * 4,none⟩),pm=.agg (aH c (o+j * 4) 4).toArray,rN=v,True,True,True,pj=.pointer (some ⟨b3,3,none⟩),True]/\∃ M cs7 b8,(D 8=true->rZ=.agg cs7.toArray/\TrT M cs7 (gG vs ks[j]))/\(D 9=true->ro=.slice (some ⟨b8,0,none⟩) 1 1)/\(D 9=true->D 8=true)/\(D 10=true->D 9=true)/\(D 12=true->D 10=true)/\(D 12=true->D 1=true)/\Inv w [] (bh (.blk b1 (.cells #[.int .i64 k,.int .i64 n,.string s,.slice (some ⟨b,o,none⟩) ks.length cap] ab)) (.blk b2 (.cells #[.int .i64 0,.int .i64 0,.string ⟨#[]⟩,.slice none 0 0] ab)) (.blk b3 (.cells #[.int .i64 k,.int .i64 cur,.string s,kvc] ab)) (.blk b3 (.cells #[.int .i64 k,.int .i64 cur,.string s,lp] ab)) (aL kvc ab 4 css) (aL lp ab 4 (css++[cs7])) (bq Ls.flatten) M (.blk b8 (.cells cs7.toArray ab)) (D 8) (D 9) (D 10) (D 12)) S w_,⟨Fx.nil _ _,⟨[],[],0,aU,aU,aU,aU,aU,aU,by simpa [bh,bq] using hI.draw⟩⟩,⟨?_,?_,?_,?_,?_,?_,?_,?_,?_,?_,?_,?_,?_,trivial⟩,?_⟩
  all_goals (intro D bo; intros; rename_i pj lp ro rZ rN pm jK mh kw lW jJ j1 w_ hA_; have hF_:=hA_.1; obtain ⟨⟨bU,bV,bH,bR,bZ,bI,bB,ct,cF,cK,bG,bX,cI,_⟩,⟨M,cs7,b8,e7,e8,k8,k9,k11,k1,hI⟩⟩:=hA_)
  ·refine ai al ?_
   exact ⟨hF_.set 0 rfl,⟨M,cs7,b8,e7,e8,k8,k9,k11,k1,hI⟩⟩
  ·obtain rfl:=bU ‹_›
   have f11:D 12=false:=Bool.eq_false_iff.2 fun h=>by rw [k1 h] at bo; cases bo
   refine aA (b:=b3) hI 2 (c:=(#[.int .i64 k,.int .i64 cur,.string s,kvc])) ag (by rw [f11]; rfl) rfl ?_
   have k1:=fun (_:aF D 1 12=true)=>(rfl:aF D 1 1=true)
   exact ⟨hF_.set 1 rfl,⟨M,cs7,b8,e7,e8,k8,k9,k11,k1,hI⟩⟩
  ·refine ai al ?_
   exact ⟨hF_.set 2 rfl,⟨M,cs7,b8,e7,e8,k8,k9,k11,k1,hI⟩⟩
  ·obtain rfl:=bH ‹_›
   refine aA hI 0 ag rfl rfl ?_
   exact ⟨hF_.set 3 rfl,⟨M,cs7,b8,e7,e8,k8,k9,k11,k1,hI⟩⟩
  ·exact ⟨hF_.set 4 rfl,⟨M,cs7,b8,e7,e8,k8,k9,k11,k1,hI⟩⟩
  ·obtain rfl:=bR ‹_›
   obtain rfl:=bZ ‹_›
   refine au af hj' ?_
   exact ⟨hF_.set 5 rfl,⟨M,cs7,b8,e7,e8,k8,k9,k11,k1,hI⟩⟩
  ·obtain rfl:=bI ‹_›
   refine bw ac hR.length (fun j v hj=>by rw [hI.cellS hS]; exact ar rfl j v hj) ?_
   exact ⟨hF_.set 6 rfl,⟨M,cs7,b8,e7,e8,k8,k9,k11,k1,hI⟩⟩
  ·exact ⟨hF_.set 7 rfl,⟨M,cs7,b8,e7,e8,k8,k9,k11,k1,hI⟩⟩
  ·obtain rfl:=bB ‹_›
   obtain rfl:=ct ‹_›
   have f8:D 9=false:=Bool.eq_false_iff.2 fun h=>by rw [k8 h] at bo; cases bo
   have f9:D 10=false:=Bool.eq_false_iff.2 fun h=>by rw [k9 h] at f8; cases f8
   have f11:D 12=false:=Bool.eq_false_iff.2 fun h=>by rw [k11 h] at f9; cases f9
   rw [bo,f8,f9,f11] at hI
   refine Run.call0 sr rP hI (ih _ (List.getElem_mem hj') S _ _ hR hv (by omega)) fun v' I' S w_=>?_
   rintro ⟨rfl,cs7,M,rfl,rfl,hT⟩ _ hI
   have e7:aF D 8 8=true->Value.agg cs7.toArray=Value.agg cs7.toArray/\TrT M cs7 (gG vs ks[j]):=fun _=>⟨rfl,hT⟩
   have k8:=fun (_:aF D 8 9=true)=>(rfl:aF D 8 8=true)
   have hI:Inv w [] (bh (.blk b1 (.cells #[.int .i64 k,.int .i64 n,.string s,.slice (some ⟨b,o,none⟩) ks.length cap] ab)) (.blk b2 (.cells #[.int .i64 0,.int .i64 0,.string ⟨#[]⟩,.slice none 0 0] ab)) (.blk b3 (.cells #[.int .i64 k,.int .i64 cur,.string s,kvc] ab)) (.blk b3 (.cells #[.int .i64 k,.int .i64 cur,.string s,lp] ab)) (aL kvc ab 4 css) (aL lp ab 4 (css++[cs7])) (bq Ls.flatten) M (.blk b8 (.cells cs7.toArray ab)) true (D 9) (D 10) (D 12)) S w_:=by
    rw [f8,f9,f11]
    simpa [bh] using hI
   exact ⟨hF_.set 8 (by first|assumption|trivial),⟨M,cs7,b8,e7,e8,k8,k9,k11,k1,hI⟩⟩
  ·have CJ:=cF ‹_›
   have f9:D 10=false:=Bool.eq_false_iff.2 fun h=>by rw [k9 h] at bo; cases bo
   have f11:D 12=false:=Bool.eq_false_iff.2 fun h=>by rw [k11 h] at f9; cases f9
   obtain ⟨q7,hT⟩:=e7 ‹D 8=true›
   subst q7
   rw [‹D 8=true›,bo,f9,f11] at hI
   refine dQ hI bm (by simp [Value.cells,hT.length]) (by omega) (by omega) fun b8 w_ hI=>?_
   have e7:aF D 9 8=true->Value.agg cs7.toArray=Value.agg cs7.toArray/\TrT M cs7 (gG vs ks[j]):=fun _=>⟨rfl,hT⟩
   have e8:=fun (_:aF D 9 9=true)=>(rfl:Value.slice (some ⟨b8,0,none⟩) 1 1=_)
   have k8:=fun (_:aF D 9 9=true)=>‹D 8=true›
   have k9:=fun (_:aF D 9 10=true)=>(rfl:aF D 9 9=true)
   have hI:Inv w [] (bh (.blk b1 (.cells #[.int .i64 k,.int .i64 n,.string s,.slice (some ⟨b,o,none⟩) ks.length cap] ab)) (.blk b2 (.cells #[.int .i64 0,.int .i64 0,.string ⟨#[]⟩,.slice none 0 0] ab)) (.blk b3 (.cells #[.int .i64 k,.int .i64 cur,.string s,kvc] ab)) (.blk b3 (.cells #[.int .i64 k,.int .i64 cur,.string s,lp] ab)) (aL kvc ab 4 css) (aL lp ab 4 (css++[cs7])) (bq Ls.flatten) M (.blk b8 (.cells cs7.toArray ab)) (D 8) true (D 10) (D 12)) S w_:=by
    rw [‹D 8=true›,f9,f11]
    simpa [bh,Value.cells] using hI
   exact ⟨hF_.set 9 (by first|assumption|trivial),⟨M,cs7,b8,e7,e8,k8,k9,k11,k1,hI⟩⟩
  ·obtain rfl:=bV ‹_›
   have Hc:=cK ‹_›
   have f11:D 12=false:=Bool.eq_false_iff.2 fun h=>by rw [k11 h] at bo; cases bo
   have q8:=e8 ‹D 9=true›
   subst q8
   obtain ⟨_,hT⟩:=e7 ‹D 8=true›
   rw [‹D 8=true›,‹D 9=true›,bo,f11] at hI
   have hblk:((bh (.blk b1 (.cells #[.int .i64 k,.int .i64 n,.string s,.slice (some ⟨b,o,none⟩) ks.length cap] ab)) (.blk b2 (.cells #[.int .i64 0,.int .i64 0,.string ⟨#[]⟩,.slice none 0 0] ab)) (.blk b3 (.cells #[.int .i64 k,.int .i64 cur,.string s,jJ] ab)) (.blk b3 (.cells #[.int .i64 k,.int .i64 cur,.string s,lp] ab)) (aL jJ ab 4 css) (aL lp ab 4 (css++[cs7])) (bq Ls.flatten) M (.blk b8 (.cells cs7.toArray ab)) true true false false))[4+(bq Ls.flatten).length+(bq M).length]?=some (.blk b8 (.cells cs7.toArray ab)):=by
    have e4:4+(bq Ls.flatten).length+(bq M).length=((bq Ls.flatten).length+(bq M).length)+1+1+1+1:=by omega
    rw [e4]
    simp only [bh,List.getElem?_cons_succ]
    rw [List.getElem?_append_right (by omega),Nat.add_sub_cancel_left,List.getElem?_append_right (Nat.le_refl _),Nat.sub_self]; rfl
   refine eR hI 3 cs7 bm (by omega) rfl (by rw [hT.length]) (m:=1) (o:=0) ?_ hT.one (by omega) (by omega) fun v' w_ hI=>?_
   ·intro i u hi
    rw [hI.cellL hblk,Nat.zero_add]
    simpa using hi
   rw [gB] at hI
   have k9:=fun (_:aF D 10 10=true)=>‹D 9=true›
   have k11:=fun (_:aF D 10 12=true)=>(rfl:aF D 10 10=true)
   have hI:Inv w [] (bh (.blk b1 (.cells #[.int .i64 k,.int .i64 n,.string s,.slice (some ⟨b,o,none⟩) ks.length cap] ab)) (.blk b2 (.cells #[.int .i64 0,.int .i64 0,.string ⟨#[]⟩,.slice none 0 0] ab)) (.blk b3 (.cells #[.int .i64 k,.int .i64 cur,.string s,jJ] ab)) (.blk b3 (.cells #[.int .i64 k,.int .i64 cur,.string s,v'] ab)) (aL jJ ab 4 css) (aL v' ab 4 (css++[cs7])) (bq Ls.flatten) M (.blk b8 (.cells cs7.toArray ab)) (D 8) (D 9) true (D 12)) S w_:=by
    rw [‹D 8=true›,‹D 9=true›,f11]
    exact hI
   exact ⟨hF_.set 10 (by first|assumption|trivial),⟨M,cs7,b8,e7,e8,k8,k9,k11,k1,hI⟩⟩
  ·refine ai al ?_
   exact ⟨hF_.set 11 rfl,⟨M,cs7,b8,e7,e8,k8,k9,k11,k1,hI⟩⟩
  ·obtain rfl:=bX ‹_›
   have vp:=bG ‹_›
   rw [‹D 8=true›,‹D 9=true›,‹D 10=true›,bo] at hI
   obtain ⟨va,vn,vc,hv9⟩:=Inv.rowSlice hI 3 rfl
   refine dK hI 2 (n:=1) (by rw [hv9]; rfl) (by decide +kernel) rfl (by simp) (by rw [hv9]; simp [Value.cells,Value.oneCell']) fun w_ hI=>?_
   have hcl9:Value.cells lp=#[lp]:=by rw [hv9]; rfl
   rw [hcl9] at hI
   have k1:=fun (_:aF D 12 12=true)=>‹D 1=true›
   have k11:=fun (_:aF D 12 12=true)=>‹D 10=true›
   have hI:Inv w [] (bh (.blk b1 (.cells #[.int .i64 k,.int .i64 n,.string s,.slice (some ⟨b,o,none⟩) ks.length cap] ab)) (.blk b2 (.cells #[.int .i64 0,.int .i64 0,.string ⟨#[]⟩,.slice none 0 0] ab)) (.blk b3 (.cells #[.int .i64 k,.int .i64 cur,.string s,kvc] ab)) (.blk b3 (.cells #[.int .i64 k,.int .i64 cur,.string s,lp] ab)) (aL kvc ab 4 css) (aL lp ab 4 (css++[cs7])) (bq Ls.flatten) M (.blk b8 (.cells cs7.toArray ab)) (D 8) (D 9) (D 10) true) S w_:=by
    rw [‹D 8=true›,‹D 9=true›,‹D 10=true›]
    exact hI
   exact ⟨hF_.set 12 trivial,⟨M,cs7,b8,e7,e8,k8,k9,k11,k1,hI⟩⟩
  obtain ⟨rfl,rfl,rfl,rfl,rfl,rfl,rfl,rfl,CJ,Hc,vp,rfl,_,_⟩:=hF_.all
  have Am:D 8=true:=by assumption
  have Fz:D 9=true:=by assumption
  have xV:D 10=true:=by assumption
  have LB:D 12=true:=by assumption
  clear hF_ bU bV bH bR bZ bI bB ct cF cK bG bX cI
  obtain ⟨_,hT⟩:=e7 Am
  rw [Am,Fz,xV,LB] at hI
  refine bn (by omega) ?_
  refine ⟨⟨j+1,lp,Ls++[M],css++[cs7],hj',rfl,?_,?_⟩,by simp [intOf]; omega⟩
  ·rw [Kl vs ks j hj']
   exact hg.snoc hT hT.length
  ·simp only [List.flatten_append,List.flatten_cons,List.flatten_nil,List.append_nil,eJ]
   refine hI.sub ?_
   simp only [bh]
   rw [<- List.append_assoc]
   exact (((List.sublist_append_left _ _).cons_cons _).cons_cons _).cons_cons _ |>.cons_cons _
 ·have:j=ks.length:=by omega
  subst this
  rw [List.take_length] at hg
  obtain ⟨va,vn,vc,hvk⟩:=hI.rowSlice 3 rfl
  have hv1:kvc.oneCell'=true:=by rw [hvk]; rfl
  refine aq hI 2 ac rfl rfl ?_
  refine ao hI 1 rfl ac rfl rfl ?_ fun w' hI=>?_
  ·intro u hu
   have hu':u∈([.int .i64 k,.int .i64 cur,.string s,kvc]:List Value):=hu
   simp at hu'
   rcases hu' with rfl|rfl|rfl|rfl <;> first|rfl|exact hv1
  refine aW hI 1 ac rfl rfl ?_
  have hI:Inv w [] ([]++(aL kvc ab 4 css::bq Ls.flatten)) S w':=hI.sub (List.sublist_append_right [_,_,_] _)
  obtain ⟨L,hT,hI⟩:=Inv.rowTree hI hg
  exact ⟨_,_,_,rfl,hI,Ext.refl _ _ _,rfl,_,L,rfl,rfl,TrT.iff.2 ⟨kvc,by rw [gG,<- hN]; rfl,by rw [gG]; exact h1,by rw [gG,<- hN]; exact hNi,by rw [gG]; exact hs,by rw [gG]; exact hT⟩⟩
end
end
section
open Go Go.RowKit
section
variable {w:World} {K:Value->World->Prop}
attribute [local irreducible] Run
end
theorem IM (ts:List T) (j:Nat) (h:j<ts.length) (l:List Int):de (ts.drop j) l=de (ts.drop (j+1)) (fe ts[j] l):=by
 rw [List.drop_eq_getElem_cons h,de]
section
attribute [local irreducible] Run CondV aB aS
theorem RdC.zero (S:ae):RdC S [.int .i64 0,.int .i64 0,.string ⟨#[]⟩,.slice none 0 0,.slice none 0 0] ⟨⟨0,0,⟨#[]⟩,[]⟩,[]⟩:=
 ⟨[.int .i64 0,.int .i64 0,.string ⟨#[]⟩,.slice none 0 0],.slice none 0 0,rfl,RdT.iff.2 ⟨_,rfl,by simp [inI,T.kind],by simp [inI,T.n],by rw [T.name]; decide +kernel,⟨none,0,rfl,Nat.le_refl _,Nat.zero_le _,.inl rfl⟩⟩,⟨none,0,rfl,Nat.le_refl _,Nat.zero_le _,.inl rfl⟩⟩
end
end
section
open Go Go.RowKit
mutual
def qf:T->Int->Bool
 | .mk _ _ _ ks,d=>if d<1 then false else M2 ks (d - 1)
def M2:List T->Int->Bool
 | [],_=>true
 | t::ts,d=>qf t d && M2 ts d
end
theorem wK:∀ (ts:List T) (d:Int),M2 ts d=ts.all fun t=>qf t d
 | [],_=>rfl
 | t::ts,d=>by rw [M2,wK ts d]; rfl
def cA (u:T):Bool:=decide (dF u<=120) && qf u 30
theorem xB (us:List T) (j:Nat) (h:j<us.length):dc (us.take (j+1))=dc (us.take j)+dF us[j]:=by
 induction us generalizing j with
 | nil=>simp at h
 | cons u us ih=>
  cases j with
  | zero=>simp only [List.take_succ_cons,List.take_zero,List.getElem_cons_zero,dc]; omega
  | succ j=>
   have:=ih j (by simpa using h)
   simp only [List.take_succ_cons,List.getElem_cons_succ,dc] at *
   omega
theorem n6 (us:List T) (j:Nat):dc (us.take j)<=dc us:=by
 induction us generalizing j with
 | nil=>simp
 | cons u us ih=>
  cases j with
  | zero=>simp only [List.take_zero]; exact dR _
  | succ j=>
   have:=ih j
   simp only [List.take_succ_cons,dc]
   omega
theorem gz (k n:Int) (s:ByteArray) (ks:List T):dF (.mk k n s ks)=1+dc ks:=rfl
theorem iK {w:World} {v:Value} {e:TypeId} {k n:Nat} {xs:List Value} (h:(Item.row v e k n xs).holds w):v.cells=#[v]/\v.oneCell'=true:=by
 have h:w.ownsRow 0 e k v n xs:=h
 rcases h.2 with ⟨rfl,_⟩|⟨g,cap,cur,rfl,_⟩ <;> exact ⟨rfl,rfl⟩
section
attribute [local irreducible] Run CondV aB aS
theorem fD {K:Value->World->Prop} {w:World} (hk:K (.agg #[.int .i64 0,.int .i64 0,.string ⟨#[]⟩,.slice none 0 0]) w):Run Tryz.prog (bW ab []) w K:=by
 refine Run.of ?_ hk
 kernel_rfl
theorem GV:∀ (t:T) (d:Int) (S:ae) (cs:List Value),RdT S cs t->-1000000<=d->d<=1000000->Pure Tryz.prog Ke [.agg cs.toArray,.int .i64 d] S (.bool (qf t d)):=by
 refine T.ind fun k n s ks ih d S cs h hd0 hd1=>?_
 intro w hI
 obtain ⟨kv,rfl,_,_,_,hks⟩:=RdT.iff.1 h
 simp only [T.name,T.kids,T.kind,T.n] at hks ⊢
 have hlen:=hks.le
 simp only [maxLen] at hlen
 refine yW.2 ?_
 dsimp only[yW,aX]
 refine be hI fun b2 w' hI=>?_
 rw [qf]
 refine bA ?_
 refine aI (fun hd=>?_) (fun hd=>?_)
 ·rw [if_pos hd]
  exact done hI rfl
 rw [if_neg hd,wK]
 refine ⟨fun i w'=>∃ j:Nat,j<=ks.length/\i=.int .i64 j/\((ks.drop j).all fun t=>qf t (d - 1))=(ks.all fun t=>qf t (d - 1))/\Inv w [] [.blk b2 (.cells #[.int .i64 k,.int .i64 n,.string s,kv] ab)] S w',
  fun i _=>ks.length - (intOf i).toNat,⟨0,Nat.zero_le _,rfl,rfl,hI⟩,?_⟩
 intro t5 _ _ _ _ _ _ _ _ _ _ _ _ _ _ _ _ _ w'
 rintro ⟨j,hj,rfl,hrel,hI⟩
 refine ad hI 0 rfl al ag rfl ?_
 refine aD hks af ?_
 refine bA ?_
 refine aI (fun hji=>?_) (fun hji=>?_)
 ·have hj':j<ks.length:=by omega
  have hstep:=BI (fun t=>qf t (d - 1)) ks j hj'
  refine ad hI 0 rfl al ag rfl ?_
  refine ch hI hks af ac hj' (fun _ _=>RdT.length) fun cs hcs=>?_
  refine ib (by omega) ?_
  refine Run.callPure yG yH hI (ih _ (List.getElem_mem hj') (d - 1) S cs hcs (by omega) (by omega)) fun w' hI=>?_
  refine bM ?_
  refine az (fun hne=>done hI ?_) (fun he=>?_)
  ·have hne':qf ks[j] (d - 1)=false:=by simpa using hne
   rw [<- hrel,hstep,hne']; rfl
  ·have he':qf ks[j] (d - 1)=true:=by simpa using he
   refine bn (by omega) ?_
   exact ⟨⟨j+1,hj',rfl,by rw [<- hrel,hstep,he']; rfl,hI⟩,by simp [intOf]; omega⟩
 ·have:j=ks.length:=by omega
  subst this
  exact done hI (by rw [<- hrel,List.drop_length]; rfl)
def Sx (kb:Nat) (kc:Array Value) (u:T) (room:Int):Value->List Item->ae->Prop:=fun q I' S'=>I'=[.blk kb (.cells kc ab)]/\
 ∃ cs':List Value,cs'.length=4/\(∀ x∈cs',x.oneCell'=true)/\q=.tuple #[.agg cs'.toArray,.int .i64 (if dF u<=room then room - dF u else -1)]/\(dF u<=room->RdT S' cs' u)
def FC (N kp:Nat) (st:aC) (t u:T):Prop:=∀ (S:ae) (cs:List Value) (kb:Nat) (kc:Array Value) (room:Int),RdT S cs t->KnU S kc st->-1<=room->room<=1000000->
 Tri Tryz.prog Bb [.agg cs.toArray,kvU kb N kp,.int .i64 room] [.blk kb (.cells kc ab)] S (Sx kb kc u room)
theorem ju:∀ x∈([.int .i64 0,.int .i64 0,.string ⟨#[]⟩,.slice none 0 0]:List Value),x.oneCell'=true:=by simp [Value.oneCell']
theorem HU {N kp:Nat} {st:aC} {t v:T} {us:List T} (hg:Good N st) (hwv:cS st t v) (hot:okU N t/\wT t<=1048576) (hlu:us.length=v.kids.length)
  (hk:∀ i (h:i<us.length) (h':i<v.kids.length),FC N kp st v.kids[i] us[i]):FC N kp st t (.mk v.kind v.n v.name us):=by
 intro S cs kb kc room h hkc hr0 hr1 w hI
 have hlc:=h.length
 have hov:=dN hg hwv hot
 obtain ⟨X,hX⟩:∃ X,X=bE [Item.blk kb (.cells kc ab)]:=⟨_,rfl⟩
 rw [<- hX] at hI ⊢
 have hcu:=dR us
 refine mf.2 ?_
 dsimp only[mf,cX]
 refine be hI fun b3 w' hI=>?_
 refine aG hI aP fun b6 w' hI=>?_
 have hI:Inv w X ([.blk b3 (.cells cs.toArray ab),.blk b6 (.cells #[.int .i64 0,.int .i64 0,.string ⟨#[]⟩,.slice none 0 0] ab)]++[.blk kb (.cells kc ab)]) S w':=hI.perm (List.perm_append_comm (l₁:=[_,_]) (l₂:=[_]))
 refine bA ?_
 refine aI (fun hlt=>?_) (fun hlt=>?_)
 ·refine fD ?_
  refine ao hI 1 rfl ac rfl rfl ju fun w' hI=>?_
  refine aW hI 1 ac rfl rfl ?_
  refine ⟨_,_,_,rfl,hI.pick [false,false,true],Ext.refl _ _ _,rfl,_,rfl,ju,?_,fun h=>?_⟩
  ·rw [gz,if_neg (by omega)]
  ·rw [gz] at h; omega
 refine aq hI 0 ac rfl (by simpa using hlc) ?_
 refine Run.call lX lF hI (ov hg hwv hot.1 h hkc) fun v' I' S' w'=>?_
 rintro ⟨eS,rfl,cs',rfl,hcs'⟩ _ hI
 rw [eS] at hI
 clear eS
 refine ao hI 0 rfl ac (by simpa using hcs'.length) (by simpa using hlc) (by simpa using hcs'.one) fun w' hI=>?_
 obtain ⟨kv,rfl,hi1,hi2,hs,hks⟩:=RdT.iff.1 hcs'
 have hI:Inv w X [.blk b3 (.cells #[.int .i64 v.kind,.int .i64 v.n,.string v.name,kv] ab),.blk b6 (.cells #[.int .i64 0,.int .i64 0,.string ⟨#[]⟩,.slice none 0 0] ab),.blk kb (.cells kc ab)] S w':=hI
 have hlen:=hks.le
 have hkl:v.kids.length<=1048576:=by
  have:=hov.2
  cases v
  simp only [wT] at this
  simp only [T.kids]
  omega
 refine ad hI 0 rfl aE aw rfl ?_
 refine ad hI 0 rfl aK aw rfl ?_
 refine ad hI 0 rfl aM aJ rfl ?_
 refine gf ?_
 refine aG hI aP fun b8 w' hI=>?_
 have hI:Inv w X [.blk b3 (.cells #[.int .i64 v.kind,.int .i64 v.n,.string v.name,kv] ab),.blk b6 (.cells #[.int .i64 0,.int .i64 0,.string ⟨#[]⟩,.slice none 0 0] ab),.blk b8 _,.blk kb (.cells kc ab)] S w':=hI.perm (((List.perm_append_comm (l₁:=[_]) (l₂:=[_])).cons _).cons _)
 refine ao hI 2 rfl ac rfl rfl (by simp [Value.oneCell']) fun w' hI=>?_
 refine ib (by omega) ?_
 have hI:=hI.rowNil ab 4
 have hI:Inv w X [.blk b3 (.cells #[.int .i64 v.kind,.int .i64 v.n,.string v.name,kv] ab),.blk b6 (.cells #[.int .i64 0,.int .i64 0,.string ⟨#[]⟩,.slice none 0 0] ab),.blk b8 (.cells #[.int .i64 v.kind,.int .i64 v.n,.string v.name,.slice none 0 0] ab),aL (.slice none 0 0) ab 4 [],.blk kb (.cells kc ab)] S w':=hI.perm ((((List.perm_append_comm (l₁:=[_]) (l₂:=[_])).cons _).cons _).cons _)
 refine ⟨fun i l w'=>∃ (j:Nat) (left:Int) (kvc:Value) (css:List (List Value)) (S1:ae),j<=us.length/\i=.int .i64 j/\l=.int .i64 left/\Ext w.heap.size X S S1/\css.length=j/\
   ((left=room - 1 - dc (us.take j)/\0<=left/\Rows 4 (RdT S1) css (us.take j)) ∨ (left=-1/\room - 1<dc us))/\
   Inv w X [.blk b3 (.cells #[.int .i64 v.kind,.int .i64 v.n,.string v.name,kv] ab),.blk b6 (.cells #[.int .i64 0,.int .i64 0,.string ⟨#[]⟩,.slice none 0 0] ab),.blk b8 (.cells #[.int .i64 v.kind,.int .i64 v.n,.string v.name,kvc] ab),aL kvc ab 4 css,.blk kb (.cells kc ab)] S1 w',
  fun i _ _=>us.length - (intOf i).toNat,⟨0,room - 1,_,[],S,Nat.zero_le _,rfl,rfl,Ext.refl _ _ _,rfl,.inl ⟨by simp [dc],by omega,Rows.nil _ _⟩,hI⟩,?_⟩
 intro t10 _ _ t9 _ _ _ _ _ _ _ _ _ _ _ _ _ _ _ _ _ _ _ _ _ _ _ _ _ _ _ _ _ w'
 rintro ⟨j,left,kvc,css,S1,hj,rfl,rfl,hE,hcl,hst,hI⟩
 refine ⟨fun q w'=>q=.bool (decide (j<us.length/\0<=left))/\Inv w X [.blk b3 (.cells #[.int .i64 v.kind,.int .i64 v.n,.string v.name,kv] ab),.blk b6 (.cells #[.int .i64 0,.int .i64 0,.string ⟨#[]⟩,.slice none 0 0] ab),.blk b8 (.cells #[.int .i64 v.kind,.int .i64 v.n,.string v.name,kvc] ab),aL kvc ab 4 css,.blk kb (.cells kc ab)] S1 w',?_,?_⟩
 ·refine ad hI 0 rfl al ag rfl ?_
  refine aD hks af ?_
  refine bA ?_
  by_cases e1:(j:Int)<(v.kids.length:Nat)
  ·rw [decide_eq_true e1]
   refine rpG ?_
   refine fY ?_
   refine rpG ?_
   refine ⟨?_,hI⟩
   congr 1
   rw [Bool.eq_iff_iff,decide_eq_true_eq,decide_eq_true_eq]
   omega
  ·rw [decide_eq_false e1]
   refine rpG ?_
   refine ⟨?_,hI⟩
   rw [decide_eq_false (by omega)]
 intro q _ _ _ _ _ _ _ _ w'
 rintro ⟨rfl,hI⟩
 refine aI (fun hgo=>?_) (fun hgo=>?_)
 ·obtain ⟨hj1,hl0⟩:=hgo
  have hj2:j<v.kids.length:=by omega
  obtain ⟨hleft,_,hR⟩:left=room - 1 - dc (us.take j)/\0<=left/\Rows 4 (RdT S1) css (us.take j):=by
   rcases hst with h1|⟨h1,_⟩
   ·exact h1
   ·omega
  have hpos:=dR (us.take j)
  refine ad hI 0 rfl al ag rfl ?_
  refine ch hI (hks.monoT hE.1) af ac hj2 (fun _ _=>RdT.length) fun cs0 hcs0=>?_
  have hI:Inv w X ([.blk b3 (.cells #[.int .i64 v.kind,.int .i64 v.n,.string v.name,kv] ab),.blk b6 (.cells #[.int .i64 0,.int .i64 0,.string ⟨#[]⟩,.slice none 0 0] ab),.blk b8 (.cells #[.int .i64 v.kind,.int .i64 v.n,.string v.name,kvc] ab),aL kvc ab 4 css]++[.blk kb (.cells kc ab)]) S1 _:=hI
  refine Run.callE mi l6 hI (hk j hj1 hj2 S1 cs0 kb kc left hcs0 (hkc.mono hE.1) (by omega) (by omega)) fun v' I' S2 w'=>?_
  rintro ⟨rfl,cs2,hl4,ho4,rfl,hrd⟩ hE2 hI
  refine aj rfl ?_
  refine aj rfl ?_
  refine aG hI aP fun b11 w' hI=>?_
  have hI:=hI.perm (M:=.blk b11 _::[.blk b3 (.cells #[.int .i64 v.kind,.int .i64 v.n,.string v.name,kv] ab),.blk b6 (.cells #[.int .i64 0,.int .i64 0,.string ⟨#[]⟩,.slice none 0 0] ab),.blk b8 (.cells #[.int .i64 v.kind,.int .i64 v.n,.string v.name,kvc] ab),aL kvc ab 4 css,.blk kb (.cells kc ab)]) (List.perm_append_comm (l₁:=[_]))
  refine ao hI 0 rfl ac (by simpa using hl4) rfl (by simpa using ho4) fun w' hI=>?_
  refine ad (b:=b8) (c:=#[.int .i64 v.kind,.int .i64 v.n,.string v.name,kvc]) hI 3 rfl al ag rfl ?_
  refine aq hI 0 ac rfl (by simpa using hl4) ?_
  refine dM hI 4 cs2 bm (by omega) (by omega) rfl hl4 ho4 (by omega) (by omega) fun kvc2 w' hI=>?_
  have hkv2:=iK (hI.its (aL kvc2 ab 4 (css++[cs2])) (by simp))
  refine cG (b:=b8) (c:=#[.int .i64 v.kind,.int .i64 v.n,.string v.name,kvc]) hI 3 rfl al ag rfl hkv2.1 hkv2.2 fun w' hI=>?_
  have hI:Inv w X [.blk b3 (.cells #[.int .i64 v.kind,.int .i64 v.n,.string v.name,kv] ab),.blk b6 (.cells #[.int .i64 0,.int .i64 0,.string ⟨#[]⟩,.slice none 0 0] ab),.blk b8 (.cells #[.int .i64 v.kind,.int .i64 v.n,.string v.name,kvc2] ab),aL kvc2 ab 4 (css++[cs2]),.blk kb (.cells kc ab)] S2 w':=hI.pick [false,true,true,true,true,true]
  refine bn (by omega) ?_
  have hct:=xB us j hj1
  have hcle:=n6 us (j+1)
  have hc0:=jn us[j]
  refine ⟨⟨j+1,_,kvc2,css++[cs2],S2,hj1,rfl,rfl,hE.trans hE2,by simp [hcl],?_,hI⟩,by simp [intOf]; omega⟩
  by_cases hfit:dF us[j]<=left
  ·left
   rw [if_pos hfit]
   refine ⟨by omega,by omega,?_⟩
   rw [List.take_succ_eq_append_getElem hj1]
   exact (hR.monoR fun _ _ h=>RdT.mono hE2.1 h).snoc (hrd hfit) hl4
  ·right
   rw [if_neg hfit]
   exact ⟨rfl,by omega⟩
 ·refine aq (b:=b8) (c:=#[.int .i64 v.kind,.int .i64 v.n,.string v.name,kvc]) hI 2 ac rfl rfl ?_
  have hkv2:=iK (hI.its (aL kvc ab 4 css) (by simp))
  have hone:∀ x∈([.int .i64 v.kind,.int .i64 v.n,.string v.name,kvc]:List Value),x.oneCell'=true:=by
   intro x hx
   simp at hx
   rcases hx with rfl|rfl|rfl|rfl <;> first|rfl|exact hkv2.2
  refine ao hI 1 rfl ac rfl rfl hone fun w' hI=>?_
  refine aW (c:=#[.int .i64 v.kind,.int .i64 v.n,.string v.name,kvc]) hI 1 ac rfl rfl ?_
  have hI:Inv w X ([.blk kb (.cells kc ab)]++[aL kvc ab 4 css]) S1 w':=(hI.pick [false,false,false,true,true]).perm (List.Perm.swap ..)
  rcases hst with ⟨h1,h2,hR⟩|⟨h1,h2⟩
  ·have hje:j=us.length:=by omega
   rw [hje,List.take_length] at h1 hR
   obtain ⟨S3,hE3,hrd,hI⟩:=hI.lendExt
   have hrr:=RowRd.rows (hR.monoR fun _ _ h=>RdT.mono hE3.1 h) hrd
   refine ⟨_,_,_,rfl,hI,hE.trans hE3,rfl,[.int .i64 v.kind,.int .i64 v.n,.string v.name,kvc],rfl,hone,?_,fun _=>RdT.iff.2 ⟨kvc,rfl,hi1,hi2,hs,hrr⟩⟩
   rw [gz,if_pos (by omega),show left=room - (1+dc us) by omega]
  ·refine ⟨_,_,_,rfl,hI.sub (List.sublist_append_left _ _),hE,rfl,[.int .i64 v.kind,.int .i64 v.n,.string v.name,kvc],rfl,hone,?_,fun h=>?_⟩
   ·rw [gz,if_neg (by omega),h1]
   ·rw [gz] at h; omega
theorem GB {N kp:Nat} {st:aC} (hg:Good N st) {j:M9} (hr:Res st j):match j with
  | .one t u=>(okU N t/\wT t<=1048576)->FC N kp st t u
  | .list ts us=>(∀ t∈ts,okU N t/\wT t<=1048576)->us.length=ts.length/\∀ i (h:i<us.length) (h':i<ts.length),FC N kp st ts[i] us[i]:=by
 induction hr with
 | one hw _ ih=>
  intro ho
  have h1:=ih (jf (dN hg hw ho))
  exact HU hg hw ho h1.1 h1.2
 | nil=>exact fun _=>⟨rfl,fun i h _=>by simp at h⟩
 | cons _ _ ih1 ih2=>
  intro ho
  obtain ⟨h1,h2⟩:=ih2 fun t ht=>ho t (List.mem_cons_of_mem _ ht)
  refine ⟨by simp [h1],fun i h h'=>?_⟩
  cases i with
  | zero=>exact ih1 (ho _ (List.mem_cons_self ..))
  | succ i=>exact h2 i (by simpa using h) (by simpa using h')
end
end
end Go.Proofs.YtfcbhfjomgopbaaGreat
