/- spec.l4Mutate, l4MutateAll. -/
import Derived.Test.YtmnnpgdeecnfpaaGreatZMh6
import Derived.Test.YtmnnpgdeecnfpaaGreatZMh1
import Derived.Test.YtmnnpgdeecnfpaaGreatZMh2
import Derived.Test.YtmnnpgdeecnfpaaGreatZMh3
namespace Go.Proofs.YtmnnpgdeecnfpaaGreat
open Go Go.RowKit
section
variable {w0 w:World} {X:List Nat} {L A:List Item} {S:ax} {K:Value->World->Prop} {P:Program}
theorem nr {b:Nat} {hd:List Value} {h:T} {kv:Value} {css:List (List Value)} {ks:List T} {o:Obj}
  (hI:Inv w0 X (.blk b o::be kv ac 4 css::A) S w) (hR:Rows 4 (RdT S) css ks) (hh:RdT S hd h) :
  ∃ S',Ext w0.heap.size X S S'/\Inv w0 X (.blk b o::A) S' w/\RdC S' (hd++[kv]) ⟨h,ks⟩/\RdSl S' 4 (RdT S') kv ks:=by
 have hI:Inv w0 X ((.blk b o::A)++[be kv ac 4 css]) S w:=hI.last 1 rfl
 obtain ⟨S',hE,hrd,hI⟩:=Inv.lendExt hI
 have hrs:=RowRd.rows (hR.monoR fun _ _ h=>RdT.mono hE.1 h) hrd
 exact ⟨S',hE,hI,⟨hd,kv,rfl,hh.mono hE.1,hrs⟩,hrs⟩
end
abbrev Fc (br:Nat) (sl:Value) (p k m:Nat):Value->List Item->ax->Prop:=fun v I' S'=>∃ p',p'<=p+k/\I'=[rdI br sl p']/\∃ cs c,v=.agg cs.toArray/\RdC S' cs c/\wC c<=m
section
variable {br:Nat} {sl:Value} {ys:List Nat}
attribute [local irreducible] Run CondV ah ba
theorem ub {p:Nat} {S:ax} {cs:List Value} {c:C} (hrd:RdSl S 1 jA sl ys) (h:RdC S cs c) (hw:wC c<=100000) (hp:p<=90000000) :
  Tri Tryz.prog x0 [rdP br,.agg cs.toArray] [rdI br sl p] S (Fc br sl p 600 (wC c+700)):=by
 intro w hI
 have hl5:=h.length
 refine qk ?_
 unfold mj
 refine co hI fun b3 w' hI=>?_
 refine bm hI bI fun b4 w' hI=>?_
 refine bb hI 1 aW rfl (by simpa [Value.cells] using hl5) ?_
 refine Run.call0E rp qY hI (Cu h (by omega)) fun v' I' S1 w'=>?_
 rintro ⟨hd,kv,css,rfl,hhd,rfl,hR⟩ hE1 hI
 have hE1:Ext w.heap.size [br] S S1:=hE1
 obtain ⟨a0,n0,q0,rfl⟩:=hI.rowSlice 3 rfl
 have hhd0:=hhd
 obtain ⟨k4,rfl,hk,hn,hs,_⟩:=RdT.iff.1 hhd
 obtain ⟨ak,nk,ck,hk4⟩:∃ a n c,k4=.slice a n c:=by
  obtain ⟨_,e,_,_,_,a,q,rfl,_⟩:=RdT.iff.1 hhd0
  simp only [List.cons.injEq,and_true,true_and] at e
  exact ⟨_,_,_,e⟩
 subst hk4
 refine bm hI bI fun b5 w' hI=>?_
 refine aX hI 4 rfl aW rfl rfl (by simp [Value.oneCell']) fun w' hI=>?_
 obtain ⟨B4,hB4⟩:∃ B4,B4=Item.blk b4 (.cells #[.int .i64 0,.int .i64 0,.string ⟨#[]⟩,.slice none 0 0,.slice none 0 0] ai):=⟨_,rfl⟩
 have hI:Inv w [br] [.blk b5 (.cells #[.int .i64 c.head.kind,.int .i64 c.head.n,.string c.head.name,.slice ak nk ck,.slice a0 n0 q0] ai),be (.slice a0 n0 q0) ac 4 css,B4,rdI br sl p] S1 w':=by
  rw [hB4]
  exact (((hI.pick [true,false,true,true,true]).last 2 rfl).last 1 rfl).last 0 rfl
 have hwc:wC c=wT c.head+c.body.length+wL c.body:=rfl
 refine ⟨fun w'=>∃ (p1:Nat) (S2:ax) (cs1:List Value) (c1:C),p1<=p+600/\Ext w.heap.size [br] S S2/\RdC S2 cs1 c1/\wC c1<=wC c+700/\Inv w [br] [.blk b5 (.cells cs1.toArray ai),B4,rdI br sl p1] S2 w',?_,?_⟩
 ·have hfin:∀ {hd:List Value} {h:T} {p1:Nat} {w':World} {S1:ax} {css:List (List Value)} {kv:Value} {ks:List T},Ext w.heap.size [br] S S1->p1<=p+600->RdT S1 hd h->Rows 4 (RdT S1) css ks->wT h+ks.length+wL ks<=wC c+700->
    Inv w [br] [.blk b5 (.cells (hd++[kv]).toArray ai),be kv ac 4 css,B4,rdI br sl p1] S1 w'->
    ∃ (p1:Nat) (S2:ax) (cs1:List Value) (c1:C),p1<=p+600/\Ext w.heap.size [br] S S2/\RdC S2 cs1 c1/\wC c1<=wC c+700/\Inv w [br] [.blk b5 (.cells cs1.toArray ai),B4,rdI br sl p1] S2 w':=by
   intro hd h p1 w' S1 css kv ks hE hp1 hh hR hwn hI
   obtain ⟨S2,hE2,hI,hr,_⟩:=nr hI hR hh
   exact ⟨p1,S2,_,_,hp1,hE.trans hE2,hr,hwn,hI⟩
  refine Run.callL ch ci hI (dz (n:=40) (hrd.monoU hE1.1) (by omega) (by omega)) rfl fun v' I' S1 w'=>?_
  rintro ⟨rfl,rfl,kk,hkk,rfl⟩ _ hI
  refine bK ?_
  refine bz (fun _=>?_) (fun _=>?_)
  ·refine Run.callL rJ rn hI (nO (p:=p+1) (hrd.monoU hE1.1) (by omega)) rfl fun v' I' S2 w'=>?_
   rintro ⟨p2,hp2,rfl,cs2,t2,rfl,hr2,hw2⟩ hE2 hI
   refine Run.callL mh mC hI (lr (p:=p2) (hrd.monoU (hE1.trans hE2).1) hr2 (by omega) (by omega)) rfl fun v' I' S3 w'=>?_
   rintro ⟨p3,hp3,rfl,cs3,t3,rfl,hr3,hw3⟩ hE3 hI
   have hr3':=hr3
   obtain ⟨k3,rfl,_,_,_,a3,q3,rfl,_⟩:=RdT.iff.1 hr3
   refine bh cm ?_
   refine Ei hI 0 rfl aj rfl rfl (by simp [Value.cells,Value.oneCell']) fun w' hI=>?_
   exact hfin ((hE1.trans hE2).trans hE3) (by omega) hr3' (hR.monoR fun _ _ h=>RdT.mono (hE2.trans hE3).1 h) (by omega) hI
  refine bK ?_
  refine bz (fun _=>?_) (fun _=>?_)
  ·have hcl:=hR.hc
   have hI:=hI
   refine ⟨fun D dp cX cM dn dr de cY cK c4 w_=>(D 0=true->c4=.pointer (some ⟨b5,4,none⟩))/\(D 1=true->cK=.slice a0 n0 q0)/\(D 2=true->cY=rdP br)/\(D 3=true->de=rdP br)/\(D 4=true->True)/\(D 5=true->True)/\(D 6=true->True)/\(D 7=true->True)/\(D 8=true->dp=.pointer (some ⟨b5,4,none⟩))/\(D 9=true->True)/\∃ n_:Nat,n_<=5/\D 4=decide (1<=n_)/\D 5=decide (2<=n_)/\D 6=decide (3<=n_)/\D 7=decide (4<=n_)/\D 9=decide (5<=n_)/\(D 9=true->D 1=true)/\(gW (Inv w [br] [.blk b5 (.cells #[.int .i64 c.head.kind,.int .i64 c.head.n,.string c.head.name,.slice ak nk ck,.slice a0 n0 q0] ai),be (.slice a0 n0 q0) ac 4 css,B4,rdI br sl (p+1)] S1 w_) (gW (∃ p1 S2 cs t,dr=.agg cs.toArray/\RdT S2 cs t/\wT t<=500/\p1<=p+501/\Ext w.heap.size [br] S1 S2/\Inv w [br] [.blk b5 (.cells #[.int .i64 c.head.kind,.int .i64 c.head.n,.string c.head.name,.slice ak nk ck,.slice a0 n0 q0] ai),be (.slice a0 n0 q0) ac 4 css,B4,rdI br sl p1] S2 w_) (pP w [br] b5 #[.int .i64 c.head.kind,.int .i64 c.head.n,.string c.head.name,.slice ak nk ck,.slice a0 n0 q0] 4 ai (.slice a0 n0 q0) css (fun p=>[B4,rdI br sl p]) (fun cs p' S'=>∃ t,RdT S' cs t/\wT t<=600/\p'<=p+503/\Ext w.heap.size [br] S1 S') dn cM cX w_)) n_),⟨af,af,af,af,af,af,af,af,af,af,⟨0,Nat.zero_le _,rfl,rfl,rfl,rfl,rfl,(af),hI.draw⟩⟩,⟨?_,?_,?_,?_,?_,?_,?_,?_,?_,?_,trivial⟩,?_⟩
   ·intro D a6  dp cX cM dn dr de cY cK c4 w_
    rintro ⟨aF,aC,aB,aE,aD,aG,az,aK,aQ,aU,⟨n_,ln_,e1_,e2_,e3_,e4_,e5_,kp_,hS⟩⟩
    refine bh bi ?_
    exact ⟨fun _=>rfl,aC,aB,aE,aD,aG,az,aK,aQ,aU,⟨n_,ln_,e1_,e2_,e3_,e4_,e5_,kp_,hS⟩⟩
   ·intro D a6 dc dp cX cM dn dr de cY cK c4 w_
    rintro ⟨aF,aC,aB,aE,aD,aG,az,aK,aQ,aU,⟨n_,ln_,e1_,e2_,e3_,e4_,e5_,kp_,hS⟩⟩
    obtain rfl:=aF dc
    have ln2_:=C6 e5_ kp_ a6
    refine d4 aV ((EP (fun h=>h.cellL (i:=0) rfl) (fun ⟨_,_,_,_,_,_,_,_,_,h⟩=>h.cellL (i:=0) rfl) (fun n hn h=>tx h hn) hS ln2_).trans rfl) ?_
    exact ⟨aF,fun _=>rfl,aB,aE,aD,aG,az,aK,aQ,aU,⟨n_,ln_,e1_,e2_,e3_,e4_,e5_,(fun _=>rfl),hS⟩⟩
   ·intro D a6  dp cX cM dn dr de cY cK c4 w_
    rintro ⟨aF,aC,aB,aE,aD,aG,az,aK,aQ,aU,⟨n_,ln_,e1_,e2_,e3_,e4_,e5_,kp_,hS⟩⟩
    exact ⟨aF,aC,fun _=>rfl,aE,aD,aG,az,aK,aQ,aU,⟨n_,ln_,e1_,e2_,e3_,e4_,e5_,kp_,hS⟩⟩
   ·intro D a6  dp cX cM dn dr de cY cK c4 w_
    rintro ⟨aF,aC,aB,aE,aD,aG,az,aK,aQ,aU,⟨n_,ln_,e1_,e2_,e3_,e4_,e5_,kp_,hS⟩⟩
    exact ⟨aF,aC,aB,fun _=>rfl,aD,aG,az,aK,aQ,aU,⟨n_,ln_,e1_,e2_,e3_,e4_,e5_,kp_,hS⟩⟩
   ·intro D a6 ef dp cX cM dn dr de cY cK c4 w_
    rintro ⟨aF,aC,aB,aE,aD,aG,az,aK,aQ,aU,⟨n_,ln_,e1_,e2_,e3_,e4_,e5_,kp_,hS⟩⟩
    obtain rfl:=aE ef
    obtain rfl:n_=0:=Dy e1_ a6
    refine Run.callL rJ rn (L:=[.blk b5 _,be _ ac 4 css,B4,rdI br sl (p+1)]) hS (nO (p:=p+1) (hrd.monoU hE1.1) (by omega)) rfl fun v' I' S2 w_=>?_
    rintro ⟨p2,hp2,rfl,cs2,t2,rfl,hr2,hw2⟩ hE2 hI
    exact ⟨aF,aC,aB,aE,fun _=>by first|assumption|trivial,aG,az,aK,aQ,aU,⟨1,by decide,rfl,(by first|exact e2_|rfl),(by first|exact e3_|rfl),(by first|exact e4_|rfl),(by first|exact e5_|rfl),kp_,⟨p2,S2,cs2,t2,rfl,hr2,hw2,by omega,hE2,hI⟩⟩⟩
   ·intro D a6 dy ev Cz dp cX cM dn dr de cY cK c4 w_
    rintro ⟨aF,aC,aB,aE,aD,aG,az,aK,aQ,aU,⟨n_,ln_,e1_,e2_,e3_,e4_,e5_,kp_,hS⟩⟩
    obtain rfl:=aB dy
    have Dn:=aD ev
    obtain rfl:n_=1:=je e1_ ev e2_ a6
    obtain ⟨p2,S2,cs2,t2,rfl,hr2,hw2,hp2,hE2,hI⟩:=dd hS
    refine Run.callL mh mC (L:=[.blk b5 _,be _ ac 4 css,B4,rdI br sl p2]) hI (lr (p:=p2) (hrd.monoU (hE1.trans hE2).1) hr2 (by omega) (by omega)) rfl fun v' I' S3 w_=>?_
    rintro ⟨p3,hp3,rfl,cs3,t3,rfl,hr3,hw3⟩ hE3 hI
    exact ⟨aF,aC,aB,aE,aD,fun _=>by first|assumption|trivial,az,aK,aQ,aU,⟨2,by decide,(by first|exact e1_|rfl),rfl,(by first|exact e3_|rfl),(by first|exact e4_|rfl),(by first|exact e5_|rfl),kp_,eM (um ⟨t3,hr3,by omega,by omega,hE2.trans hE3⟩ hr3 hI)⟩⟩
   ·intro D a6 eq dp cX cM dn dr de cY cK c4 w_
    rintro ⟨aF,aC,aB,aE,aD,aG,az,aK,aQ,aU,⟨n_,ln_,e1_,e2_,e3_,e4_,e5_,kp_,hS⟩⟩
    have C3:=aG eq
    obtain rfl:n_=2:=je e2_ eq e3_ a6
    refine ap1 (dd hS) fun u w_ hS=>?_
    exact ⟨aF,aC,aB,aE,aD,aG,fun _=>by first|assumption|trivial,aK,aQ,aU,⟨3,by decide,(by first|exact e1_|rfl),(by first|exact e2_|rfl),rfl,(by first|exact e4_|rfl),(by first|exact e5_|rfl),kp_,eM hS⟩⟩
   ·intro D a6 eB eO Hn dp cX cM dn dr de cY cK c4 w_
    rintro ⟨aF,aC,aB,aE,aD,aG,az,aK,aQ,aU,⟨n_,ln_,e1_,e2_,e3_,e4_,e5_,kp_,hS⟩⟩
    obtain rfl:=aC eB
    have C7:=az eO
    obtain rfl:n_=3:=je e3_ eO e4_ a6
    refine ap2 (dd hS) (by omega) fun u w_ hS=>?_
    exact ⟨aF,aC,aB,aE,aD,aG,az,fun _=>by first|assumption|trivial,aQ,aU,⟨4,by decide,(by first|exact e1_|rfl),(by first|exact e2_|rfl),(by first|exact e3_|rfl),rfl,(by first|exact e5_|rfl),kp_,eM hS⟩⟩
   ·intro D a6 dc gl mM sC sr uT vy wI dp cX cM dn dr de cY cK c4 w_
    rintro ⟨aF,aC,aB,aE,aD,aG,az,aK,aQ,aU,⟨n_,ln_,e1_,e2_,e3_,e4_,e5_,kp_,hS⟩⟩
    refine bh bi ?_
    exact ⟨aF,aC,aB,aE,aD,aG,az,aK,fun _=>rfl,aU,⟨n_,ln_,e1_,e2_,e3_,e4_,e5_,kp_,hS⟩⟩
   ·intro D a6 gp s8 lH rY gF sg r4 pf rW uR gt dp cX cM dn dr de cY cK c4 w_
    rintro ⟨aF,aC,aB,aE,aD,aG,az,aK,aQ,aU,⟨n_,ln_,e1_,e2_,e3_,e4_,e5_,kp_,hS⟩⟩
    obtain rfl:=aQ gp
    have Eq:=aK s8
    obtain rfl:n_=4:=je e4_ s8 e5_ a6
    refine ap3 (dd hS) (by simp) fun w_ hS=>?_
    exact ⟨aF,aC,aB,aE,aD,aG,az,aK,aQ,fun _=>trivial,⟨5,by decide,(by first|exact e1_|rfl),(by first|exact e2_|rfl),(by first|exact e3_|rfl),(by first|exact e4_|rfl),rfl,(fun _=>gF),eM hS⟩⟩
   intro D kA iV ii gM gT hO iR im iT iS dp cX cM dn dr de cY cK c4 w_
   rintro ⟨aF,aC,aB,aE,aD,aG,az,aK,aQ,aU,⟨n_,ln_,e1_,e2_,e3_,e4_,e5_,kp_,hS⟩⟩
   obtain rfl:n_=5:=DW ln_ e5_ kA
   clear e1_ e2_ e3_ e4_ e5_
   obtain ⟨p3,S7,cs,⟨t,hcs,hwt,hp3,hE7⟩,hl,hI⟩:=dd (dd hS)
   exact hfin (hE1.trans hE7) (by omega) (hhd0.mono hE7.1) ((hR.monoR fun _ _ h=>RdT.mono hE7.1 h).snoc hcs hl.1) (by rw [g8,List.length_append,List.length_cons,List.length_nil]; simp only [wL]; omega) hI
  refine bK ?_
  refine bz (fun _=>?_) (fun _=>?_)
  ·refine ⟨fun w'=>∃ (S2:ax) (kv:Value) (css:List (List Value)) (ks:List T),Ext w.heap.size [br] S S2/\Rows 4 (RdT S2) css ks/\ks.length<=c.body.length+7/\wL ks+4 * (7 - (ks.length - c.body.length))<=wL c.body+28/\c.body.length<=ks.length/\
     RdT S2 [.int .i64 c.head.kind,.int .i64 c.head.n,.string c.head.name,.slice ak nk ck] c.head/\
     Inv w [br] [.blk b5 (.cells #[.int .i64 c.head.kind,.int .i64 c.head.n,.string c.head.name,.slice ak nk ck,kv] ai),be kv ac 4 css,B4,rdI br sl (p+1)] S2 w',fun w'=>7 - rl w' b5 4,⟨S1,_,css,c.body,hE1,hR,by omega,by omega,by omega,hhd0,hI⟩,?_⟩
   intro t39 t38 t37 t36 t35 t34 _ _ _ _ w'
   rintro ⟨S2,kv,css,ks,hE2,hR,hkl,hkw,hkb,hhd,hI⟩
   obtain ⟨a1,n1,q1,rfl,hn1⟩:∃ a m c,kv=.slice a m c/\m=ks.length:=by
    obtain ⟨S',_,_,_,hr⟩:=nr hI hR hhd
    obtain ⟨a,q,rfl,_⟩:=hr
    exact ⟨a,_,q,rfl,rfl⟩
   subst hn1
   have hl1:=pu hI (i:=0) (o:=4) rfl rfl
   have hcl:=hR.hc
   refine aH hI 0 rfl bi aV rfl ?_
   refine iD aS ?_
   refine fO ?_
   refine bz (fun hle=>?_) (fun hle=>?_)
   ·have hI:=hI
    refine ⟨fun D fp gg fg dD dS er w_=>(D 0=true->er=.pointer (some ⟨b5,4,none⟩))/\(D 1=true->dS=.slice a1 ks.length q1)/\(D 2=true->True)/\(D 3=true->True)/\(D 4=true->True)/\(D 5=true->fp=.pointer (some ⟨b5,4,none⟩))/\(D 6=true->True)/\∃ n_:Nat,n_<=4/\D 2=decide (1<=n_)/\D 3=decide (2<=n_)/\D 4=decide (3<=n_)/\D 6=decide (4<=n_)/\(D 6=true->D 1=true)/\(gW (Inv w [br] [.blk b5 (.cells #[.int .i64 c.head.kind,.int .i64 c.head.n,.string c.head.name,.slice ak nk ck,.slice a1 ks.length q1] ai),be (.slice a1 ks.length q1) ac 4 css,B4,rdI br sl (p+1)] S2 w_) (pP w [br] b5 #[.int .i64 c.head.kind,.int .i64 c.head.n,.string c.head.name,.slice ak nk ck,.slice a1 ks.length q1] 4 ai (.slice a1 ks.length q1) css (fun p=>[B4,rdI br sl (p+1)]) (fun cs p' S'=>p'=p/\Ext w.heap.size [br] S2 S'/\RdT S' cs (.mk 3 0 ⟨#[116,114,117,101]⟩ [])) dD fg gg w_) n_),⟨af,af,af,af,af,af,af,⟨0,Nat.zero_le _,rfl,rfl,rfl,rfl,(af),hI.draw⟩⟩,⟨?_,?_,?_,?_,?_,?_,?_,trivial⟩,?_⟩
    ·intro D a6  fp gg fg dD dS er w_
     rintro ⟨aF,aC,aB,aE,aD,aG,az,⟨n_,ln_,e1_,e2_,e3_,e4_,kp_,hS⟩⟩
     refine bh bi ?_
     exact ⟨fun _=>rfl,aC,aB,aE,aD,aG,az,⟨n_,ln_,e1_,e2_,e3_,e4_,kp_,hS⟩⟩
    ·intro D a6 dc fp gg fg dD dS er w_
     rintro ⟨aF,aC,aB,aE,aD,aG,az,⟨n_,ln_,e1_,e2_,e3_,e4_,kp_,hS⟩⟩
     obtain rfl:=aF dc
     have ln2_:=C6 e4_ kp_ a6
     refine d4 aV ((Aq (fun h=>h.cellL (i:=0) rfl) (fun n hn h=>tx h hn) hS ln2_).trans rfl) ?_
     exact ⟨aF,fun _=>rfl,aB,aE,aD,aG,az,⟨n_,ln_,e1_,e2_,e3_,e4_,(fun _=>rfl),hS⟩⟩
    ·intro D a6  fp gg fg dD dS er w_
     rintro ⟨aF,aC,aB,aE,aD,aG,az,⟨n_,ln_,e1_,e2_,e3_,e4_,kp_,hS⟩⟩
     obtain rfl:n_=0:=Dy e1_ a6
     refine Run.call0E c9 db (L:=[.blk b5 _,be _ ac 4 css,B4,rdI br sl (p+1)]) hS (dB ⟨#[116,114,117,101]⟩ (by decide) (j7 S2) (by simp)) fun v' I' S3 w_=>?_
     rintro ⟨rfl,cs3,rfl,hcs3⟩ hE3 hI
     exact ⟨aF,aC,fun _=>by first|assumption|trivial,aE,aD,aG,az,⟨1,by decide,rfl,(by first|exact e2_|rfl),(by first|exact e3_|rfl),(by first|exact e4_|rfl),kp_,um ⟨rfl,hE3,hcs3⟩ hcs3 hI⟩⟩
    ·intro D a6 dy fp gg fg dD dS er w_
     rintro ⟨aF,aC,aB,aE,aD,aG,az,⟨n_,ln_,e1_,e2_,e3_,e4_,kp_,hS⟩⟩
     have Gs:=aB dy
     obtain rfl:n_=1:=je e1_ dy e2_ a6
     refine ap1 hS fun u w_ hS=>?_
     exact ⟨aF,aC,aB,fun _=>by first|assumption|trivial,aD,aG,az,⟨2,by decide,(by first|exact e1_|rfl),rfl,(by first|exact e3_|rfl),(by first|exact e4_|rfl),kp_,hS⟩⟩
    ·intro D a6 eB vN mM fp gg fg dD dS er w_
     rintro ⟨aF,aC,aB,aE,aD,aG,az,⟨n_,ln_,e1_,e2_,e3_,e4_,kp_,hS⟩⟩
     obtain rfl:=aC eB
     have Hr:=aE vN
     obtain rfl:n_=2:=je e2_ vN e3_ a6
     refine ap2 hS (by omega) fun u w_ hS=>?_
     exact ⟨aF,aC,aB,aE,fun _=>by first|assumption|trivial,aG,az,⟨3,by decide,(by first|exact e1_|rfl),(by first|exact e2_|rfl),rfl,(by first|exact e4_|rfl),kp_,hS⟩⟩
    ·intro D a6 dc gl mM sC sr fp gg fg dD dS er w_
     rintro ⟨aF,aC,aB,aE,aD,aG,az,⟨n_,ln_,e1_,e2_,e3_,e4_,kp_,hS⟩⟩
     refine bh bi ?_
     exact ⟨aF,aC,aB,aE,aD,fun _=>rfl,az,⟨n_,ln_,e1_,e2_,e3_,e4_,kp_,hS⟩⟩
    ·intro D a6 eq ev Cz rY gF sg r4 pf fp gg fg dD dS er w_
     rintro ⟨aF,aC,aB,aE,aD,aG,az,⟨n_,ln_,e1_,e2_,e3_,e4_,kp_,hS⟩⟩
     obtain rfl:=aG eq
     have Dn:=aD ev
     obtain rfl:n_=3:=je e3_ ev e4_ a6
     refine ap3 hS (by simp) fun w_ hS=>?_
     exact ⟨aF,aC,aB,aE,aD,aG,fun _=>trivial,⟨4,by decide,(by first|exact e1_|rfl),(by first|exact e2_|rfl),(by first|exact e3_|rfl),rfl,(fun _=>gF),hS⟩⟩
    intro D gM gT hO iR im iT iS fp gg fg dD dS er w_
    rintro ⟨aF,aC,aB,aE,aD,aG,az,⟨n_,ln_,e1_,e2_,e3_,e4_,kp_,hS⟩⟩
    obtain rfl:n_=4:=DW ln_ e4_ gM
    clear e1_ e2_ e3_ e4_
    obtain ⟨p3,S7,cs,⟨rfl,hE7,hcs⟩,hl,hI⟩:=hS
    have hR2:=(hR.monoR fun _ _ h=>RdT.mono hE7.1 h).snoc hcs hl.1
    have e4:(ByteArray.mk #[116,114,117,101]).size=4:=rfl
    refine ⟨⟨S7,_,_,_,hE2.trans hE7,hR2,by rw [List.length_append]; simp only [List.length_cons,List.length_nil]; omega,by rw [g8,List.length_append,List.length_cons,List.length_nil]; simp only [wL,wT,List.length_nil,e4]; omega,by rw [List.length_append]; omega,hhd.mono hE7.1,hI⟩,?_⟩
    obtain ⟨S',_,_,_,hr⟩:=nr hI hR2 (hhd.mono hE7.1)
    obtain ⟨a,q,e,_⟩:=hr
    have hl2:=pu hI (i:=0) (o:=4) (a:=a) (n:=(ks++[T.mk 3 0 ⟨#[116,114,117,101]⟩ []]).length) (m:=q) rfl (by rw [<- e]; rfl)
    show 7 - rl w_ b5 4<7 - rl w' b5 4
    rw [hl1,hl2,List.length_append,List.length_cons,List.length_nil]
    omega
   ·exact hfin hE2 (by omega) hhd hR (by omega) hI
  refine bK ?_
  refine bz (fun _=>?_) (fun _=>?_)
  ·refine nf hI (by kernel_rfl) rfl (by omega) fun v S3 w' hE3 hv hI=>?_
   refine Run.callL eJ eH hI (jH (p:=p+1) (hrd.monoU (hE1.trans hE3).1) hv (by decide) (by omega)) rfl fun v' I' S3 w'=>?_
   rintro ⟨rfl,rfl,m,hm,rfl⟩ _ hI
   have hm:=lW (m:=7) hm (by decide)
   refine bh cm ?_
   refine bh bu ?_
   refine dY hI 0 (n:=1) rfl (by decide +kernel) rfl (by simp) (by simp [Value.cells,Value.oneCell']) fun w' hI=>?_
   have hr0:=hhd0.mono hE3.1
   obtain ⟨k3,e3,_,_,_,hk3⟩:=RdT.iff.1 hr0
   have hr1:RdT S3 [.int .i64 c.head.kind,.int .i64 c.head.n,.string m,.slice ak nk ck] (.mk c.head.kind c.head.n m c.head.kids):=by
    simp only [List.cons.injEq,and_true,true_and] at e3
    exact RdT.iff.2 ⟨_,rfl,hk,hn,by simp only [T.name,maxLen]; omega,e3 ▸ hk3⟩
   refine hfin (hE1.trans hE3) (by omega) hr1 (hR.monoR fun _ _ h=>RdT.mono hE3.1 h) ?_ hI
   have:wT c.head=c.head.name.size+c.head.kids.length+wL c.head.kids:=by cases c.head; rw [wT]; rfl
   rw [wT]
   omega
  ·exact hfin hE1 (by omega) hhd0 hR (by omega) hI
 intro _ _ _ _ _ _ _ _ _ _ _ _ _ _ _ _ _ _ _ _ _ _ _ _ _ _ _ _ _ _ _ _ _ _ _ _ _ _ _ w'
 rintro ⟨p1,S2,cs1,c1,hp1,hE2,hr,hw1,hI⟩
 subst hB4
 refine bb hI 0 aW rfl (by simpa using hr.length) ?_
 refine aX hI 1 rfl aW (by simpa using hr.length) rfl (by simpa using hr.one) fun w' hI=>?_
 refine bA hI 1 aW rfl (by simpa using hr.length) ?_
 exact ⟨_,_,S2,rfl,hI.pick [false,false,true],hE2,p1,hp1,rfl,cs1,c1,rfl,hr,hw1⟩
end
end Go.Proofs.YtmnnpgdeecnfpaaGreat

/- spec.l4MutateAll, l4Texts, l4Program, l4Clause, l14Two. -/
namespace Go.Proofs.YtmnnpgdeecnfpaaGreat
open Go Go.RowKit
def Light (n m:Nat) (q:List C):Prop:=q.length<=n/\∀ c∈q,wC c<=m
theorem Light.le {n m:Nat} {q:List C} (h:Light n m q):q.length+wP q<=n+n * m:=by
 have:∀ q:List C,(∀ c∈q,wC c<=m)->wP q<=q.length * m:=by
  intro q
  induction q with
  | nil=>intro _; simp [wP]
  | cons c q ih=>
   intro h
   have h1:=h c (List.mem_cons_self ..)
   have h2:=ih fun d hd=>h d (List.mem_cons_of_mem _ hd)
   simp only [wP,List.length_cons,Nat.succ_mul]
   omega
 have h1:=this q h.2
 have h2:q.length * m<=n * m:=Nat.mul_le_mul_right _ h.1
 have:=h.1
 omega
theorem Light.append {n n' m:Nat} {q q':List C} (h:Light n m q) (h':Light n' m q'):Light (n+n') m (q++q'):=
 ⟨by rw [List.length_append]; exact Nat.add_le_add h.1 h'.1,fun c hc=>(List.mem_append.1 hc).elim (h.2 c) (h'.2 c)⟩
/- a program that is still the caller's own row -/
abbrev FC (br:Nat) (sl:Value) (p k n m:Nat):Value->List Item->ax->Prop:=fun v I' S'=>∃ p' css q,p'<=p+k/\I'=[be v ai 5 css,rdI br sl p']/\Rows 5 (RdC S') css q/\Light n m q/\0<q.length/\∀ c∈q,bH c=true
section
variable {w0 w:World} {X:List Nat} {L A:List Item} {S:ax}
theorem D9 {v:Value} {css:List (List Value)} {q:List C} (hI:Inv w0 X (be v ai 5 css::A) S w) (hR:Rows 5 (RdC S) css q) :
  ∃ S',Ext w0.heap.size X S S'/\Inv w0 X A S' w/\RdSl S' 5 (RdC S') v q:=by
 have hI:Inv w0 X (A++[be v ai 5 css]) S w:=hI.last 0 rfl
 obtain ⟨S',hE,hrd,hI⟩:=Inv.lendExt hI
 exact ⟨S',hE,hI,RowRd.rows (hR.monoR fun _ _ h=>RdC.mono hE.1 h) hrd⟩
end
section
variable {br:Nat} {sl:Value} {ys:List Nat}
attribute [local irreducible] Run CondV ah ba
end
end Go.Proofs.YtmnnpgdeecnfpaaGreat

/- spec.l4Texts, l4Program, l4Clause, l14Two. -/
namespace Go.Proofs.YtmnnpgdeecnfpaaGreat
open Go Go.RowKit
def okS (s:ByteArray):Bool:=Du (bs s) && decide (s.size<=1000)
theorem Dm {s:ByteArray} (h:okS s=true):∃ q,BT 60 (bs s)=some q/\0<q.length/\Light 8 200 q/\(∀ c∈q,bH c=true)/\s.size<=1000:=by
 rw [okS,Bool.and_eq_true,decide_eq_true_eq] at h
 obtain ⟨h,hs⟩:=h
 unfold Du at h
 split at h
 ·rename_i q hq
  simp only [Bool.and_eq_true,decide_eq_true_eq,List.all_eq_true] at h
  exact ⟨q,hq,h.1,⟨h.2.1,fun c hc=>(h.2.2 c hc).2⟩,fun c hc=>(h.2.2 c hc).1,hs⟩
 ·cases h
theorem CF {Q B:Prop} {R:Nat->Prop} {m:Nat} (h1:Q->B) (h2:∀ n,n<m->R n->B):∀ n,n<m+1->gW Q R n->B
 | 0,_,h=>h1 h
 | n+1,hn,h=>h2 n (by omega) h
section
attribute [local irreducible] Run CondV ah ba
theorem CL {S:ax} {s:ByteArray} (h:okS s=true):Tri Tryz.prog jt [.string s] [] S fun v I' S'=>∃ u css q,v=.tuple #[u,.bool true]/\I'=[be u ai 5 css]/\Rows 5 (RdC S') css q/\0<q.length/\Light 8 200 q/\∀ c∈q,bH c=true:=by
 obtain ⟨q,hq,h0,hl,hc,hs⟩:=Dm h
 intro w hI
 have hb:(bs s).length=s.size:=(j8 (bs s)).symm
 refine (ne (f:=60) (by omega) hq (by rw [hb]; omega) w hI).mono ?_
 rintro e w' ⟨v,I',S',rfl,hI,hE,u,css,rfl,rfl,hR⟩
 exact ⟨_,_,S',rfl,hI,hE,u,css,q,rfl,rfl,hR,h0,hl,hc⟩
theorem vK (S:ax):Tri Tryz.prog zN [] [] S fun v I' S'=>I'=[]/\∃ l,RdSl S' 1 pH v l/\l.length=11/\l.all okS=true:=by
 intro w hI
 refine sf ?_
 unfold nG
 refine nf hI (by kernel_rfl) rfl (by omega) fun v S1 w' hE1 hv hI=>?_
 exact ⟨_,[],S1,rfl,hI,hE1,rfl,_,hv,rfl,by decide +kernel⟩
variable {br:Nat} {sl:Value} {ys:List Nat}
theorem sq {p:Nat} {S:ax} (hrd:RdSl S 1 jA sl ys) (hp:p<=100000000):Tri Tryz.prog u4 [rdP br] [rdI br sl p] S (FC br sl p 1 8 200):=by
 intro w hI
 refine ph ?_
 unfold kY
 refine Run.call0E xg xS hI (vK S) fun v' I' S1 w'=>?_
 rintro ⟨rfl,l,hl,hl11,hok⟩ hE1 hI
 have hI:Inv w [br] [rdI br sl p] S1 w':=hI
 refine bo hl cJ ?_
 refine Run.callL ch ci hI (dz (n:=l.length) (hrd.monoU hE1.1) (by omega) (by omega)) rfl fun v' I' S1 w'=>?_
 rintro ⟨rfl,rfl,k,hk,rfl⟩ _ hI
 have hI:Inv w [br] [rdI br sl (p+1)] S1 w':=hI
 refine sJ hI hl cJ bq hk (fun cs hcs=>hcs) ?_
 rw [List.all_eq_true] at hok
 refine Run.call0E oK oV hI (CL (hok _ (List.getElem_mem hk))) fun v I' S2 w'=>?_
 rintro ⟨u,css,q,rfl,rfl,hR,h0,hq,hcv⟩ hE2 hI
 refine bj (v:=u) rfl ?_
 refine bj (v:=.bool true) rfl ?_
 exact ⟨_,_,S2,rfl,hI.last 0 rfl,hE1.trans hE2,p+1,css,q,Nat.le_refl _,rfl,hR,hq,h0,hcv⟩
end
end Go.Proofs.YtmnnpgdeecnfpaaGreat

/- spec: walks, occurrence, unification. -/
namespace Go.Proofs.YtmnnpgdeecnfpaaGreat
open Go Go.RowKit
/- bindings as a row of terms -/
def KnU (S:ax) (c:Array Value) (st:cv):Prop:=st.length * 4<=c.size/\∀ i (h:i<st.length),(st[i]=none->bB c (i * 4) 4=B9)/\(∀ t,st[i]=some t->RdT S (bB c (i * 4) 4) t)
theorem KnU.set {S:ax} {c:Array Value} {st:cv} (h:KnU S c st) {n:Nat} (hn:n<st.length) {cs:List Value} {u:T} (hu:RdT S cs u):KnU S (cu c (n * 4) cs) (st.set n (some u)):=by
 have hlc:=hu.length
 have h1:=h.1
 have hs:st.length * 4<=(cu c (n * 4) cs).size:=by rw [mE _ _ _ (by omega)]; exact h1
 refine ⟨by rw [List.length_set]; exact hs,fun i hi=>?_⟩
 rw [List.length_set] at hi
 by_cases e:n=i
 ·subst e
  rw [List.getElem_set_self]
  refine ⟨fun h=>(by cases h),fun t ht=>?_⟩
  simp only [Option.some.injEq] at ht
  subst ht
  have:=ge (c:=c) (o:=n * 4) (vs:=cs) (by omega)
  rw [hlc] at this
  rw [this]
  exact hu
 ·rw [List.getElem_set_ne e,iB (by omega) (by omega)]
  exact h.2 i hi
theorem KnU.mono {S S':ax} {c:Array Value} {st:cv} (h:KnU S c st) (hs:Sle S S'):KnU S' c st:=⟨h.1,fun i hi=>⟨(h.2 i hi).1,fun t ht=>((h.2 i hi).2 t ht).mono hs⟩⟩
section
attribute [local irreducible] Run CondV ah ba
end
/- the variables of a term in a list of numbers -/
theorem Ey:∀ (N:Nat) (l:List Int),l.Nodup->(∀ x∈l,0<=x/\x<N)->l.length<=N:=by
 intro N l hd h
 have hsub:∀ x∈l,x∈(List.range N).map (fun i:Nat=>(i:Int)):=fun x hx=>by
  obtain ⟨h1,h2⟩:=h x hx
  exact List.mem_map.2 ⟨x.toNat,List.mem_range.2 (by omega),by omega⟩
 have:=List.Nodup.length_le_of_subset hd hsub
 simpa using this
section
attribute [local irreducible] Run CondV ah ba
open Classical in
end

end Go.Proofs.YtmnnpgdeecnfpaaGreat

/- spec.l3Unify. -/
namespace Go.Proofs.YtmnnpgdeecnfpaaGreat
open Go Go.RowKit
/- the calls of a loop over two lists -/
inductive Chain (Call:cv->T->T->Bool->cv->Prop):cv->List T->List T->Bool->cv->Prop
 | nil {st:cv}:Chain Call st [] [] true st
 | stop {st st':cv} {a b:T} {xs ys:List T}:Call st a b false st'->Chain Call st (a::xs) (b::ys) false st'
 | go {st st1 st':cv} {a b:T} {xs ys:List T} {r:Bool}:Call st a b true st1->Chain Call st1 xs ys r st'->Chain Call st (a::xs) (b::ys) r st'
theorem Chain.head {Call:cv->T->T->Bool->cv->Prop} {st st':cv} {a b:T} {xs ys:List T} {r:Bool} (h:Chain Call st (a::xs) (b::ys) r st') :
  ∃ r1 st1,Call st a b r1 st1/\(r1=false->r=false/\st'=st1)/\(r1=true->Chain Call st1 xs ys r st'):=by
 cases h with
 | stop h=>exact ⟨false,_,h,fun _=>⟨rfl,rfl⟩,fun e=>(by cases e)⟩
 | go h h'=>exact ⟨true,_,h,fun e=>(by cases e),fun _=>h'⟩
theorem Chain.done {Call:cv->T->T->Bool->cv->Prop} {st st':cv} {r:Bool} (h:Chain Call st [] [] r st'):r=true/\st'=st:=by
 cases h
 exact ⟨rfl,rfl⟩
/- how a unification of walked terms ends -/
def GR (Call:cv->T->T->Bool->cv->Prop) (st:cv) (a' b':T) (r:Bool) (st':cv):Prop:=
 (a'.kind=1/\b'.kind=1/\a'.n=b'.n/\r=true/\st'=st) ∨
 (a'.kind=1/\¬ (b'.kind=1/\a'.n=b'.n)/\((¬ xM st a'.n.toNat b'/\r=true/\st'=st.set a'.n.toNat (some b')) ∨ (xM st a'.n.toNat b'/\r=false/\st'=st))) ∨
 (a'.kind≠1/\b'.kind=1/\((¬ xM st b'.n.toNat a'/\r=true/\st'=st.set b'.n.toNat (some a')) ∨ (xM st b'.n.toNat a'/\r=false/\st'=st))) ∨
 (a'.kind≠1/\b'.kind≠1/\((CK a' b'=false/\r=false/\st'=st) ∨ (CK a' b'=true/\Chain Call st a'.kids b'.kids r st')))
theorem Uni.calls {N:Nat} {Call:cv->T->T->Bool->cv->Prop} (hcall:∀ st a b a' b' r st',Good N st->okJ N (.one a b)->fo st a a'->fo st b b'->GR Call st a' b' r st'->Call st a b r st') {st st':cv} {j:Job} {r:Bool} (hu:Uni st j r st') :
  Good N st->okJ N j->match j with
   | .one a b=>Call st a b r st'
   | .list xs ys=>Chain Call st xs ys r st':=by
 induction hu with
 | same h1 h2 h3 h4 h5=>exact fun hg hj=>hcall _ _ _ _ _ _ _ hg hj h1 h2 (.inl ⟨h3,h4,h5,rfl,rfl⟩)
 | bindA h1 h2 h3 h4 h5=>exact fun hg hj=>hcall _ _ _ _ _ _ _ hg hj h1 h2 (.inr (.inl ⟨h3,h4,.inl ⟨h5,rfl,rfl⟩⟩))
 | occA h1 h2 h3 h4 h5=>exact fun hg hj=>hcall _ _ _ _ _ _ _ hg hj h1 h2 (.inr (.inl ⟨h3,h4,.inr ⟨h5,rfl,rfl⟩⟩))
 | bindB h1 h2 h3 h4 h5=>exact fun hg hj=>hcall _ _ _ _ _ _ _ hg hj h1 h2 (.inr (.inr (.inl ⟨h3,h4,.inl ⟨h5,rfl,rfl⟩⟩)))
 | occB h1 h2 h3 h4 h5=>exact fun hg hj=>hcall _ _ _ _ _ _ _ hg hj h1 h2 (.inr (.inr (.inl ⟨h3,h4,.inr ⟨h5,rfl,rfl⟩⟩)))
 | clash h1 h2 h3 h4 h5=>exact fun hg hj=>hcall _ _ _ _ _ _ _ hg hj h1 h2 (.inr (.inr (.inr ⟨h3,h4,.inl ⟨h5,rfl,rfl⟩⟩)))
 | kids h1 h2 h3 h4 h5 _ ih=>
  exact fun hg hj=>hcall _ _ _ _ _ _ _ hg hj h1 h2 (.inr (.inr (.inr ⟨h3,h4,.inr ⟨h5,ih hg ⟨sI (i0 hg h1 hj.1),sI (i0 hg h2 hj.2),zy h5⟩⟩⟩)))
 | nil=>exact fun _ _=>.nil
 | stop _ ih=>exact fun hg hj=>.stop (ih hg ⟨hj.1 _ (List.mem_cons_self ..),hj.2.1 _ (List.mem_cons_self ..)⟩)
 | go h1 _ ih1 ih2=>
  intro hg hj
  have hj1:okJ N (.one _ _):=⟨hj.1 _ (List.mem_cons_self ..),hj.2.1 _ (List.mem_cons_self ..)⟩
  exact .go (ih1 hg hj1) (ih2 (h1.good hg hj1).1 ⟨fun a ha=>hj.1 a (List.mem_cons_of_mem _ ha),fun b hb=>hj.2.1 b (List.mem_cons_of_mem _ hb),by have:=hj.2.2; simpa using this⟩)
section
attribute [local irreducible] Run CondV ah ba
set_option maxHeartbeats 1000000 in
/- the case that a nonvariable meets a variable is handed on, so it comes with a contract -/
end

end Go.Proofs.YtmnnpgdeecnfpaaGreat

/- slices.Delete on a tree of the function's own. -/
namespace Go.Proofs.YtmnnpgdeecnfpaaGreat
open Go Go.RowKit
section
variable {P:Program} {w w0:World} {X:List Nat} {L:List Item} {S:ax} {K:Value->World->Prop}
attribute [local irreducible] Run CondV ah ba
/- append within the room of a block -/
end
end Go.Proofs.YtmnnpgdeecnfpaaGreat

/- DropClause: both sides. -/
namespace Go.Proofs.YtmnnpgdeecnfpaaGreat
open Go Go.RowKit
attribute [local irreducible] Run CondV ah ba

end Go.Proofs.YtmnnpgdeecnfpaaGreat

/- DropClause: both sides. -/
namespace Go.Proofs.YtmnnpgdeecnfpaaGreat
open Go Go.RowKit
attribute [local irreducible] Run CondV ah ba

end Go.Proofs.YtmnnpgdeecnfpaaGreat

/- spec.RenumberClause. -/
namespace Go.Proofs.YtmnnpgdeecnfpaaGreat
open Go Go.RowKit
section
attribute [local irreducible] Run CondV ah ba
theorem Dg {vs:List Int} {n:Int} (hn:inI n) (hl:vs.length<=1000000000):inI (gk vs n n 0):=by
 rcases vZ vs n n 0 with h|h
 ·rw [h]; exact hn
 ·simp only [inI] at hn ⊢; omega
theorem tO (vs:List Int) (hvl:vs.length<=1000000000):∀ (t:T) (S:ax) (cs:List Value) (v:Value),RdT S cs t->RdSl S 1 oH v vs->wT t<=1048576->Tri Tryz.prog xZ [.agg cs.toArray,v] [] S (rO S (cL vs t)):=by
 refine T.ind fun k n s ks ih S cs v h hv hw=>?_
 intro w hI
 obtain ⟨kv,rfl,h1,h2,hs,hks⟩:=RdT.iff.1 h
 simp only [T.name,T.kids,T.kind,T.n] at h1 h2 hs hks ⊢
 simp only [wT] at hw
 obtain ⟨N,hN⟩:∃ N,N=if k=1 then gk vs n n 0 else n:=⟨_,rfl⟩
 have hNi:inI N:=by
  rw [hN]
  split
  ·exact Dg h2 hvl
  ·exact h2
 refine qg ?_
 unfold mg
 refine co hI fun b1 w' hI=>?_
 refine bm hI bx fun b2 w' hI=>?_
 refine aH hI 0 rfl bF bw rfl ?_
 refine aH hI 0 rfl bE bw rfl ?_
 refine aH hI 0 rfl bu bq rfl ?_
 refine jc ?_
 refine bm hI bx fun b3 w' hI=>?_
 refine aX hI 2 rfl aj rfl rfl (by simp [Value.oneCell']) fun w' hI=>?_
 refine ⟨fun i w'=>∃ (j:Nat) (cur:Int),j<=vs.length/\i=.int .i64 j/\(if k=1 then gk (vs.drop j) n cur j else cur)=N/\
   Inv w [] [.blk b1 (.cells #[.int .i64 k,.int .i64 n,.string s,kv] ac),.blk b2 (.cells #[.int .i64 0,.int .i64 0,.string ⟨#[]⟩,.slice none 0 0] ac),.blk b3 (.cells #[.int .i64 k,.int .i64 cur,.string s,.slice none 0 0] ac)] S w',
  fun i _=>vs.length - (intOf i).toNat,⟨0,n,Nat.zero_le _,rfl,hN.symm,hI⟩,?_⟩
 intro t6 _ _ _ _ _ _ _ _ _ _ _ _ _ _ _ _ _ _ _ _ w'
 rintro ⟨j,cur,hj,rfl,hrel,hI⟩
 refine ⟨fun t w'=>t=.bool (decide (j<vs.length) && decide (k=1))/\Inv w [] [.blk b1 (.cells #[.int .i64 k,.int .i64 n,.string s,kv] ac),.blk b2 (.cells #[.int .i64 0,.int .i64 0,.string ⟨#[]⟩,.slice none 0 0] ac),.blk b3 (.cells #[.int .i64 k,.int .i64 cur,.string s,.slice none 0 0] ac)] S w',?_,?_⟩
 ·refine bo hv iZ ?_
  refine dh ?_
  by_cases hji:j<vs.length
  ·rw [decide_eq_true (show (j:Int)<(vs.length:Int) by omega)]
   repeat (first|refine ad ?_|refine ag (by decide) ?_|refine ae ?_|refine aq ?_|refine al ?_)
   refine aH hI 0 rfl bF bw rfl ?_
   refine bK ?_
   repeat (first|refine ad ?_|refine ag (by decide) ?_|refine ae ?_|refine aq ?_|refine al ?_)
   exact ⟨by rw [decide_eq_true hji]; rfl,hI⟩
  ·rw [decide_eq_false (show ¬ (j:Int)<(vs.length:Int) by omega)]
   repeat (first|refine ad ?_|refine ag (by decide) ?_|refine ae ?_|refine aq ?_|refine al ?_)
   exact ⟨by rw [decide_eq_false hji]; rfl,hI⟩
 intro t _ _ _ _ _ _ _ _ w'
 rintro ⟨rfl,hI⟩
 refine bg (fun hb=>?_) (fun hb=>?_)
 ·simp only [Bool.and_eq_true,decide_eq_true_eq] at hb
  obtain ⟨hji,hk⟩:=hb
  rw [if_pos hk,List.drop_eq_getElem_cons hji,gk] at hrel
  refine ⟨fun w'=>Inv w [] [.blk b1 (.cells #[.int .i64 k,.int .i64 n,.string s,kv] ac),.blk b2 (.cells #[.int .i64 0,.int .i64 0,.string ⟨#[]⟩,.slice none 0 0] ac),.blk b3 (.cells #[.int .i64 k,.int .i64 (if vs[j]=n then (j:Int) else cur),.string s,.slice none 0 0] ac)] S w',?_,?_⟩
  ·obtain ⟨b,o,cap,c,E,fz,rfl,hS,hR⟩:=hv.at_ hji
   refine ⟨fun D ew d3 dF dq di dp cX w_=>(D 0=true->cX=.slice (some ⟨b,o,none⟩) vs.length cap)/\(D 1=true->dp=.int .i64 j)/\(D 2=true->di=.pointer (some ⟨b,o+j * 1,none⟩))/\(D 3=true->dq=.int .i64 vs[j])/\(D 4=true->dF=.pointer (some ⟨b1,1,none⟩))/\(D 5=true->d3=.int .i64 n)/\(D 6=true->ew=.bool (decide (vs[j]=n)))/\Inv w [] [.blk b1 (.cells #[.int .i64 k,.int .i64 n,.string s,kv] ac),.blk b2 (.cells #[.int .i64 0,.int .i64 0,.string ⟨#[]⟩,.slice none 0 0] ac),.blk b3 (.cells #[.int .i64 k,.int .i64 cur,.string s,.slice none 0 0] ac)] S w_,⟨af,af,af,af,af,af,af,hI.draw⟩,⟨?_,?_,?_,?_,?_,?_,?_,trivial⟩,?_⟩
   ·intro D a6  ew d3 dF dq di dp cX w_
    rintro ⟨aF,aC,aB,aE,aD,aG,az,hI⟩
    exact ⟨fun _=>rfl,aC,aB,aE,aD,aG,az,hI⟩
   ·intro D a6  ew d3 dF dq di dp cX w_
    rintro ⟨aF,aC,aB,aE,aD,aG,az,hI⟩
    exact ⟨aF,fun _=>rfl,aB,aE,aD,aG,az,hI⟩
   ·intro D a6 dc gl ew d3 dF dq di dp cX w_
    rintro ⟨aF,aC,aB,aE,aD,aG,az,hI⟩
    obtain rfl:=aF dc
    obtain rfl:=aC gl
    refine bv iZ hji ?_
    exact ⟨aF,aC,fun _=>rfl,aE,aD,aG,az,hI⟩
   ·intro D a6 dy ew d3 dF dq di dp cX w_
    rintro ⟨aF,aC,aB,aE,aD,aG,az,hI⟩
    obtain rfl:=aB dy
    refine d4 bw (by rw [hI.cellS hS]; exact bC hR 0 _ rfl) ?_
    exact ⟨aF,aC,aB,fun _=>rfl,aD,aG,az,hI⟩
   ·intro D a6  ew d3 dF dq di dp cX w_
    rintro ⟨aF,aC,aB,aE,aD,aG,az,hI⟩
    refine bh bE ?_
    exact ⟨aF,aC,aB,aE,fun _=>rfl,aG,az,hI⟩
   ·intro D a6 jj ew d3 dF dq di dp cX w_
    rintro ⟨aF,aC,aB,aE,aD,aG,az,hI⟩
    obtain rfl:=aD jj
    refine bG hI 0 bw rfl rfl ?_
    exact ⟨aF,aC,aB,aE,aD,fun _=>rfl,az,hI⟩
   ·intro D a6 ef gd ew d3 dF dq di dp cX w_
    rintro ⟨aF,aC,aB,aE,aD,aG,az,hI⟩
    obtain rfl:=aE ef
    obtain rfl:=aG gd
    refine bK ?_
    exact ⟨aF,aC,aB,aE,aD,aG,fun _=>rfl,hI⟩
   intro D gM gT hO iR im iT iS ew d3 dF dq di dp cX w_
   rintro ⟨aF,aC,aB,aE,aD,aG,az,hI⟩
   obtain rfl:=az gM
   obtain rfl:=aG gT
   obtain rfl:=aD hO
   obtain rfl:=aE iR
   obtain rfl:=aB im
   obtain rfl:=aC iT
   obtain rfl:=aF iS
   clear aF aC aB aE aD aG az
   refine bz (fun he=>?_) (fun he=>?_)
   ·rw [if_pos he]
    exact ff hI 2 rfl bE bw rfl rfl rfl fun w' hI=>hI
   ·rw [if_neg he]
    exact hI
  intro _ _ _ _ _ _ _ _ _ w' hI
  refine ct (by omega) ?_
  exact ⟨⟨j+1,_,hji,rfl,by rw [if_pos hk]; exact hrel,hI⟩,by simp [intOf]; omega⟩
 have hcur:cur=N:=by
  by_cases hk:k=1
  ·rw [if_pos hk] at hrel
   have:j=vs.length:=by
    have:decide (j<vs.length)=false:=by
     rw [decide_eq_true hk,Bool.and_true] at hb
     exact hb
    have:=of_decide_eq_false this
    omega
   rw [this,List.drop_length] at hrel
   exact hrel
  ·rw [if_neg hk] at hrel
   exact hrel
 clear hrel hb
 subst hcur
 have hI:=hI.rowNil ac 4
 refine ⟨fun i w'=>∃ (j:Nat) (kvc:Value) (Ls:List bn) (css:List (List Value)),j<=ks.length/\i=.int .i64 j/\Grown 4 TrT Ls css (dE vs (ks.take j))/\
   Inv w [] (.blk b1 (.cells #[.int .i64 k,.int .i64 n,.string s,kv] ac)::.blk b2 (.cells #[.int .i64 0,.int .i64 0,.string ⟨#[]⟩,.slice none 0 0] ac)::.blk b3 (.cells #[.int .i64 k,.int .i64 cur,.string s,kvc] ac)::be kvc ac 4 css::bk Ls.flatten) S w',
  fun i _=>ks.length - (intOf i).toNat,⟨0,_,[],[],Nat.zero_le _,rfl,Grown.nil _ _,hI⟩,?_⟩
 intro t7 _ _ _ _ _ _ _ _ _ _ _ _ _ _ _ _ _ _ _ w'
 rintro ⟨j,kvc,Ls,css,hj,rfl,hg,hI⟩
 refine aH hI 0 rfl a9 aV rfl ?_
 refine bo hks aS ?_
 refine dh ?_
 refine bz (fun hji=>?_) (fun hji=>?_)
 ·have hj':j<ks.length:=by omega
  have hjl:(ks.take j).length=j:=by simp; omega
  have hcl:=hg.hc
  rw [gY] at hcl
  have hm:=List.getElem_mem hj'
  have hwm:=fV hm
  obtain ⟨b,o,cap,c,E,fz,rfl,hS,hR⟩:=hks.at_ hj'
  refine ⟨fun D cA cq cB cC cE cD cz dL dv dt dj du w_=>(D 0=true->du=.pointer (some ⟨b3,3,none⟩))/\(D 1=true->dj=kvc)/\(D 2=true->dt=.pointer (some ⟨b1,3,none⟩))/\(D 3=true->dv=.slice (some ⟨b,o,none⟩) ks.length cap)/\(D 4=true->dL=.int .i64 j)/\(D 5=true->cz=.pointer (some ⟨b,o+j * 4,none⟩))/\(D 6=true->cD=.agg (bB c (o+j * 4) 4).toArray)/\(D 7=true->cE=v)/\(D 8=true->True)/\(D 9=true->True)/\(D 10=true->True)/\(D 11=true->cA=.pointer (some ⟨b3,3,none⟩))/\(D 12=true->True)/\∃ M cs7 b8,(D 8=true->cC=.agg cs7.toArray/\TrT M cs7 (cL vs ks[j]))/\(D 9=true->cB=.slice (some ⟨b8,0,none⟩) 1 1)/\(D 9=true->D 8=true)/\(D 10=true->D 9=true)/\(D 12=true->D 10=true)/\(D 12=true->D 1=true)/\Inv w [] (bd (.blk b1 (.cells #[.int .i64 k,.int .i64 n,.string s,.slice (some ⟨b,o,none⟩) ks.length cap] ac)) (.blk b2 (.cells #[.int .i64 0,.int .i64 0,.string ⟨#[]⟩,.slice none 0 0] ac)) (.blk b3 (.cells #[.int .i64 k,.int .i64 cur,.string s,kvc] ac)) (.blk b3 (.cells #[.int .i64 k,.int .i64 cur,.string s,cq] ac)) (be kvc ac 4 css) (be cq ac 4 (css++[cs7])) (bk Ls.flatten) M (.blk b8 (.cells cs7.toArray ac)) (D 8) (D 9) (D 10) (D 12)) S w_,⟨af,af,af,af,af,af,af,af,af,af,af,af,af,⟨[],[],0,af,af,af,af,af,af,by simpa [bd,bk] using hI.draw⟩⟩,⟨?_,?_,?_,?_,?_,?_,?_,?_,?_,?_,?_,?_,?_,trivial⟩,?_⟩
  ·intro D a6  cA cq cB cC cE cD cz dL dv dt dj du w_
   rintro ⟨aF,aC,aB,aE,aD,aG,az,aK,aQ,aU,ao,ar,aw,⟨M,cs7,b8,e7,e8,k8,k9,k11,k1,hI⟩⟩
   refine bh a9 ?_
   exact ⟨fun _=>rfl,aC,aB,aE,aD,aG,az,aK,aQ,aU,ao,ar,aw,⟨M,cs7,b8,e7,e8,k8,k9,k11,k1,hI⟩⟩
  ·intro D a6 dc cA cq cB cC cE cD cz dL dv dt dj du w_
   rintro ⟨aF,aC,aB,aE,aD,aG,az,aK,aQ,aU,ao,ar,aw,⟨M,cs7,b8,e7,e8,k8,k9,k11,k1,hI⟩⟩
   obtain rfl:=aF dc
   have f11:D 12=false:=Bool.eq_false_iff.2 fun h=>by rw [k1 h] at a6; cases a6
   refine bG (b:=b3) hI 2 (c:=(#[.int .i64 k,.int .i64 cur,.string s,kvc])) aV (by rw [f11]; rfl) rfl ?_
   have k1:=fun (_:av D 1 12=true)=>(rfl:av D 1 1=true)
   exact ⟨aF,fun _=>rfl,aB,aE,aD,aG,az,aK,aQ,aU,ao,ar,aw,⟨M,cs7,b8,e7,e8,k8,k9,k11,k1,hI⟩⟩
  ·intro D a6  cA cq cB cC cE cD cz dL dv dt dj du w_
   rintro ⟨aF,aC,aB,aE,aD,aG,az,aK,aQ,aU,ao,ar,aw,⟨M,cs7,b8,e7,e8,k8,k9,k11,k1,hI⟩⟩
   refine bh a9 ?_
   exact ⟨aF,aC,fun _=>rfl,aE,aD,aG,az,aK,aQ,aU,ao,ar,aw,⟨M,cs7,b8,e7,e8,k8,k9,k11,k1,hI⟩⟩
  ·intro D a6 dy cA cq cB cC cE cD cz dL dv dt dj du w_
   rintro ⟨aF,aC,aB,aE,aD,aG,az,aK,aQ,aU,ao,ar,aw,⟨M,cs7,b8,e7,e8,k8,k9,k11,k1,hI⟩⟩
   obtain rfl:=aB dy
   refine bG hI 0 aV rfl rfl ?_
   exact ⟨aF,aC,aB,fun _=>rfl,aD,aG,az,aK,aQ,aU,ao,ar,aw,⟨M,cs7,b8,e7,e8,k8,k9,k11,k1,hI⟩⟩
  ·intro D a6  cA cq cB cC cE cD cz dL dv dt dj du w_
   rintro ⟨aF,aC,aB,aE,aD,aG,az,aK,aQ,aU,ao,ar,aw,⟨M,cs7,b8,e7,e8,k8,k9,k11,k1,hI⟩⟩
   exact ⟨aF,aC,aB,aE,fun _=>rfl,aG,az,aK,aQ,aU,ao,ar,aw,⟨M,cs7,b8,e7,e8,k8,k9,k11,k1,hI⟩⟩
  ·intro D a6 ef ev cA cq cB cC cE cD cz dL dv dt dj du w_
   rintro ⟨aF,aC,aB,aE,aD,aG,az,aK,aQ,aU,ao,ar,aw,⟨M,cs7,b8,e7,e8,k8,k9,k11,k1,hI⟩⟩
   obtain rfl:=aE ef
   obtain rfl:=aD ev
   refine bv aS hj' ?_
   exact ⟨aF,aC,aB,aE,aD,fun _=>rfl,az,aK,aQ,aU,ao,ar,aw,⟨M,cs7,b8,e7,e8,k8,k9,k11,k1,hI⟩⟩
  ·intro D a6 eq cA cq cB cC cE cD cz dL dv dt dj du w_
   rintro ⟨aF,aC,aB,aE,aD,aG,az,aK,aQ,aU,ao,ar,aw,⟨M,cs7,b8,e7,e8,k8,k9,k11,k1,hI⟩⟩
   obtain rfl:=aG eq
   refine dM aj hR.length (fun j v hj=>by rw [hI.cellS hS]; exact bC rfl j v hj) ?_
   exact ⟨aF,aC,aB,aE,aD,aG,fun _=>rfl,aK,aQ,aU,ao,ar,aw,⟨M,cs7,b8,e7,e8,k8,k9,k11,k1,hI⟩⟩
  ·intro D a6  cA cq cB cC cE cD cz dL dv dt dj du w_
   rintro ⟨aF,aC,aB,aE,aD,aG,az,aK,aQ,aU,ao,ar,aw,⟨M,cs7,b8,e7,e8,k8,k9,k11,k1,hI⟩⟩
   exact ⟨aF,aC,aB,aE,aD,aG,az,fun _=>rfl,aQ,aU,ao,ar,aw,⟨M,cs7,b8,e7,e8,k8,k9,k11,k1,hI⟩⟩
  ·intro D a6 cw s8 cA cq cB cC cE cD cz dL dv dt dj du w_
   rintro ⟨aF,aC,aB,aE,aD,aG,az,aK,aQ,aU,ao,ar,aw,⟨M,cs7,b8,e7,e8,k8,k9,k11,k1,hI⟩⟩
   obtain rfl:=az cw
   obtain rfl:=aK s8
   have f8:D 9=false:=Bool.eq_false_iff.2 fun h=>by rw [k8 h] at a6; cases a6
   have f9:D 10=false:=Bool.eq_false_iff.2 fun h=>by rw [k9 h] at f8; cases f8
   have f11:D 12=false:=Bool.eq_false_iff.2 fun h=>by rw [k11 h] at f9; cases f9
   rw [a6,f8,f9,f11] at hI
   refine Run.call0 mp mq hI (ih _ (List.getElem_mem hj') S _ _ hR hv (by omega)) fun v' I' S w_=>?_
   rintro ⟨rfl,cs7,M,rfl,rfl,hT⟩ _ hI
   have e7:av D 8 8=true->Value.agg cs7.toArray=Value.agg cs7.toArray/\TrT M cs7 (cL vs ks[j]):=fun _=>⟨rfl,hT⟩
   have k8:=fun (_:av D 8 9=true)=>(rfl:av D 8 8=true)
   have hI:Inv w [] (bd (.blk b1 (.cells #[.int .i64 k,.int .i64 n,.string s,.slice (some ⟨b,o,none⟩) ks.length cap] ac)) (.blk b2 (.cells #[.int .i64 0,.int .i64 0,.string ⟨#[]⟩,.slice none 0 0] ac)) (.blk b3 (.cells #[.int .i64 k,.int .i64 cur,.string s,kvc] ac)) (.blk b3 (.cells #[.int .i64 k,.int .i64 cur,.string s,cq] ac)) (be kvc ac 4 css) (be cq ac 4 (css++[cs7])) (bk Ls.flatten) M (.blk b8 (.cells cs7.toArray ac)) true (D 9) (D 10) (D 12)) S w_:=by
    rw [f8,f9,f11]
    simpa [bd] using hI
   exact ⟨aF,aC,aB,aE,aD,aG,az,aK,fun _=>by first|assumption|trivial,aU,ao,ar,aw,⟨M,cs7,b8,e7,e8,k8,k9,k11,k1,hI⟩⟩
  ·intro D a6 gp cA cq cB cC cE cD cz dL dv dt dj du w_
   rintro ⟨aF,aC,aB,aE,aD,aG,az,aK,aQ,aU,ao,ar,aw,⟨M,cs7,b8,e7,e8,k8,k9,k11,k1,hI⟩⟩
   have Ab:=aQ gp
   have f9:D 10=false:=Bool.eq_false_iff.2 fun h=>by rw [k9 h] at a6; cases a6
   have f11:D 12=false:=Bool.eq_false_iff.2 fun h=>by rw [k11 h] at f9; cases f9
   obtain ⟨q7,hT⟩:=e7 gp
   subst q7
   rw [gp,a6,f9,f11] at hI
   refine dg hI bt (by simp [Value.cells,hT.length]) (by omega) (by omega) fun b8 w_ hI=>?_
   have e7:av D 9 8=true->Value.agg cs7.toArray=Value.agg cs7.toArray/\TrT M cs7 (cL vs ks[j]):=fun _=>⟨rfl,hT⟩
   have e8:=fun (_:av D 9 9=true)=>(rfl:Value.slice (some ⟨b8,0,none⟩) 1 1=_)
   have k8:=fun (_:av D 9 9=true)=>gp
   have k9:=fun (_:av D 9 10=true)=>(rfl:av D 9 9=true)
   have hI:Inv w [] (bd (.blk b1 (.cells #[.int .i64 k,.int .i64 n,.string s,.slice (some ⟨b,o,none⟩) ks.length cap] ac)) (.blk b2 (.cells #[.int .i64 0,.int .i64 0,.string ⟨#[]⟩,.slice none 0 0] ac)) (.blk b3 (.cells #[.int .i64 k,.int .i64 cur,.string s,kvc] ac)) (.blk b3 (.cells #[.int .i64 k,.int .i64 cur,.string s,cq] ac)) (be kvc ac 4 css) (be cq ac 4 (css++[cs7])) (bk Ls.flatten) M (.blk b8 (.cells cs7.toArray ac)) (D 8) true (D 10) (D 12)) S w_:=by
    rw [gp,f9,f11]
    simpa [bd,Value.cells] using hI
   exact ⟨aF,aC,aB,aE,aD,aG,az,aK,aQ,fun _=>by first|assumption|trivial,ao,ar,aw,⟨M,cs7,b8,e7,e8,k8,k9,k11,k1,hI⟩⟩
  ·intro D a6 eB eh p7 cA cq cB cC cE cD cz dL dv dt dj du w_
   rintro ⟨aF,aC,aB,aE,aD,aG,az,aK,aQ,aU,ao,ar,aw,⟨M,cs7,b8,e7,e8,k8,k9,k11,k1,hI⟩⟩
   obtain rfl:=aC eB
   have Ac:=aU eh
   have f11:D 12=false:=Bool.eq_false_iff.2 fun h=>by rw [k11 h] at a6; cases a6
   have q8:=e8 eh
   subst q8
   obtain ⟨_,hT⟩:=e7 p7
   rw [p7,eh,a6,f11] at hI
   have hblk:((bd (.blk b1 (.cells #[.int .i64 k,.int .i64 n,.string s,.slice (some ⟨b,o,none⟩) ks.length cap] ac)) (.blk b2 (.cells #[.int .i64 0,.int .i64 0,.string ⟨#[]⟩,.slice none 0 0] ac)) (.blk b3 (.cells #[.int .i64 k,.int .i64 cur,.string s,dj] ac)) (.blk b3 (.cells #[.int .i64 k,.int .i64 cur,.string s,cq] ac)) (be dj ac 4 css) (be cq ac 4 (css++[cs7])) (bk Ls.flatten) M (.blk b8 (.cells cs7.toArray ac)) true true false false))[4+(bk Ls.flatten).length+(bk M).length]?=some (.blk b8 (.cells cs7.toArray ac)):=by
    have e4:4+(bk Ls.flatten).length+(bk M).length=((bk Ls.flatten).length+(bk M).length)+1+1+1+1:=by omega
    rw [e4]
    simp only [bd,List.getElem?_cons_succ]
    rw [List.getElem?_append_right (by omega),Nat.add_sub_cancel_left,List.getElem?_append_right (Nat.le_refl _),Nat.sub_self]; rfl
   refine dU hI 3 cs7 bt (by omega) rfl (by rw [hT.length]) (m:=1) (o:=0) ?_ hT.one (by omega) (by omega) fun v' w_ hI=>?_
   ·intro i u hi
    rw [hI.cellL hblk,Nat.zero_add]
    simpa using hi
   rw [el] at hI
   have k9:=fun (_:av D 10 10=true)=>eh
   have k11:=fun (_:av D 10 12=true)=>(rfl:av D 10 10=true)
   have hI:Inv w [] (bd (.blk b1 (.cells #[.int .i64 k,.int .i64 n,.string s,.slice (some ⟨b,o,none⟩) ks.length cap] ac)) (.blk b2 (.cells #[.int .i64 0,.int .i64 0,.string ⟨#[]⟩,.slice none 0 0] ac)) (.blk b3 (.cells #[.int .i64 k,.int .i64 cur,.string s,dj] ac)) (.blk b3 (.cells #[.int .i64 k,.int .i64 cur,.string s,v'] ac)) (be dj ac 4 css) (be v' ac 4 (css++[cs7])) (bk Ls.flatten) M (.blk b8 (.cells cs7.toArray ac)) (D 8) (D 9) true (D 12)) S w_:=by
    rw [p7,eh,f11]
    exact hI
   exact ⟨aF,aC,aB,aE,aD,aG,az,aK,aQ,aU,fun _=>by first|assumption|trivial,ar,aw,⟨M,cs7,b8,e7,e8,k8,k9,k11,k1,hI⟩⟩
  ·intro D a6 dc gl mM sC sr uT vy wI AO A4 Bw cA cq cB cC cE cD cz dL dv dt dj du w_
   rintro ⟨aF,aC,aB,aE,aD,aG,az,aK,aQ,aU,ao,ar,aw,⟨M,cs7,b8,e7,e8,k8,k9,k11,k1,hI⟩⟩
   refine bh a9 ?_
   exact ⟨aF,aC,aB,aE,aD,aG,az,aK,aQ,aU,ao,fun _=>rfl,aw,⟨M,cs7,b8,e7,e8,k8,k9,k11,k1,hI⟩⟩
  ·intro D a6 kl fi C8 rY gF sg r4 pf rW uR gt fm jx AJ cA cq cB cC cE cD cz dL dv dt dj du w_
   rintro ⟨aF,aC,aB,aE,aD,aG,az,aK,aQ,aU,ao,ar,aw,⟨M,cs7,b8,e7,e8,k8,k9,k11,k1,hI⟩⟩
   obtain rfl:=ar kl
   have z7:=ao fi
   rw [fm,jx,fi,a6] at hI
   obtain ⟨va,vn,vc,hv9⟩:=Inv.rowSlice hI 3 rfl
   refine dY hI 2 (n:=1) (by rw [hv9]; rfl) (by decide +kernel) rfl (by simp) (by rw [hv9]; simp [Value.cells,Value.oneCell']) fun w_ hI=>?_
   have hcl9:Value.cells cq=#[cq]:=by rw [hv9]; rfl
   rw [hcl9] at hI
   have k1:=fun (_:av D 12 12=true)=>gF
   have k11:=fun (_:av D 12 12=true)=>fi
   have hI:Inv w [] (bd (.blk b1 (.cells #[.int .i64 k,.int .i64 n,.string s,.slice (some ⟨b,o,none⟩) ks.length cap] ac)) (.blk b2 (.cells #[.int .i64 0,.int .i64 0,.string ⟨#[]⟩,.slice none 0 0] ac)) (.blk b3 (.cells #[.int .i64 k,.int .i64 cur,.string s,kvc] ac)) (.blk b3 (.cells #[.int .i64 k,.int .i64 cur,.string s,cq] ac)) (be kvc ac 4 css) (be cq ac 4 (css++[cs7])) (bk Ls.flatten) M (.blk b8 (.cells cs7.toArray ac)) (D 8) (D 9) (D 10) true) S w_:=by
    rw [fm,jx,fi]
    exact hI
   exact ⟨aF,aC,aB,aE,aD,aG,az,aK,aQ,aU,ao,ar,fun _=>trivial,⟨M,cs7,b8,e7,e8,k8,k9,k11,k1,hI⟩⟩
  intro D ky gw fK kA iV ii gM gT hO iR im iT iS cA cq cB cC cE cD cz dL dv dt dj du w_
  rintro ⟨aF,aC,aB,aE,aD,aG,az,aK,aQ,aU,ao,ar,aw,⟨M,cs7,b8,e7,e8,k8,k9,k11,k1,hI⟩⟩
  obtain rfl:=ar gw
  have z7:=ao fK
  have Ac:=aU kA
  have Ab:=aQ iV
  obtain rfl:=aK ii
  obtain rfl:=az gM
  obtain rfl:=aG gT
  obtain rfl:=aD hO
  obtain rfl:=aE iR
  obtain rfl:=aB im
  obtain rfl:=aC iT
  obtain rfl:=aF iS
  clear aF aC aB aE aD aG az aK aQ aU ao ar aw
  obtain ⟨_,hT⟩:=e7 iV
  rw [iV,kA,fK,ky] at hI
  refine ct (by omega) ?_
  refine ⟨⟨j+1,cq,Ls++[M],css++[cs7],hj',rfl,?_,?_⟩,by simp [intOf]; omega⟩
  ·rw [sY vs ks j hj']
   exact hg.snoc hT hT.length
  ·simp only [List.flatten_append,List.flatten_cons,List.flatten_nil,List.append_nil,cH]
   refine hI.sub ?_
   simp only [bd]
   rw [<- List.append_assoc]
   exact (((List.sublist_append_left _ _).cons_cons _).cons_cons _).cons_cons _ |>.cons_cons _
 ·have:j=ks.length:=by omega
  subst this
  rw [List.take_length] at hg
  obtain ⟨va,vn,vc,hvk⟩:=hI.rowSlice 3 rfl
  have hv1:kvc.oneCell'=true:=by rw [hvk]; rfl
  refine bb hI 2 aj rfl rfl ?_
  refine aX hI 1 rfl aj rfl rfl ?_ fun w' hI=>?_
  ·intro u hu
   have hu':u∈([.int .i64 k,.int .i64 cur,.string s,kvc]:List Value):=hu
   simp at hu'
   rcases hu' with rfl|rfl|rfl|rfl <;> first|rfl|exact hv1
  refine bA hI 1 aj rfl rfl ?_
  have hI:Inv w [] ([]++(be kvc ac 4 css::bk Ls.flatten)) S w':=hI.sub (List.sublist_append_right [_,_,_] _)
  obtain ⟨L,hT,hI⟩:=Inv.rowTree hI hg
  exact ⟨_,_,_,rfl,hI,Ext.refl _ _ _,rfl,_,L,rfl,rfl,TrT.iff.2 ⟨kvc,by rw [cL,<- hN]; rfl,by rw [cL]; exact h1,by rw [cL,<- hN]; exact hNi,by rw [cL]; exact hs,by rw [cL]; exact hT⟩⟩
end

end Go.Proofs.YtmnnpgdeecnfpaaGreat

/- spec.RenumberClause: lists and clauses. -/
namespace Go.Proofs.YtmnnpgdeecnfpaaGreat
open Go Go.RowKit
section
variable {w:World} {K:Value->World->Prop}
attribute [local irreducible] Run
theorem lz (hk:K (.agg #[.int .i64 0,.int .i64 0,.string ⟨#[]⟩,.slice none 0 0,.slice none 0 0]) w):Run Tryz.prog (cg ai []) w K:=by
 refine Run.of (v:=.agg #[.int .i64 0,.int .i64 0,.string ⟨#[]⟩,.slice none 0 0,.slice none 0 0]) (w':=w) ?_ hk
 unfold cg
 rw [Sem.run_bind,run_build w ai _ #[.int .i64 0,.int .i64 0,.string ⟨#[]⟩,.slice none 0 0,.slice none 0 0] (by kernel_rfl),Result.andThen_ok]
 rfl
end
theorem yX (ts:List T) (j:Nat) (h:j<ts.length) (l:List Int):dK (ts.drop j) l=dK (ts.drop (j+1)) (fl ts[j] l):=by
 rw [List.drop_eq_getElem_cons h,dK]
section
attribute [local irreducible] Run CondV ah ba
theorem pN {ts:List T} {S:ax} {v:Value} (h:RdSl S 4 (RdT S) v ts) (hw:ts.length+wL ts<=1048577):Tri Tryz.prog s5 [v] [] S (yk 4 TrT S (dE (dK ts []) ts)):=by
 intro w hI
 have hlen:=h.le
 simp only [maxLen] at hlen
 have hcl:=xJ ts
 refine nl ?_
 unfold j9
 refine gx hI nw fun v0 w' hI=>?_
 refine ⟨fun i t w'=>∃ (j:Nat) (l:List Int),j<=ts.length/\i=.int .i64 j/\dK (ts.drop j) l=dK ts []/\l.length+dk (ts.drop j)<=3000000/\Inv w [] [fB t l] S w',
  fun i _ _=>ts.length - (intOf i).toNat,⟨0,[],Nat.zero_le _,rfl,rfl,by simp only [List.drop_zero,List.length_nil]; omega,hI⟩,?_⟩
 intro t4 _ _ t3 _ _ _ _ _ _ _ _ _ _ w'
 rintro ⟨j,l,hj,rfl,hvs,hl,hI⟩
 refine bo h aS ?_
 refine dh ?_
 refine bz (fun hji=>?_) (fun hji=>?_)
 ·have hj':j<ts.length:=by omega
  rw [iI ts j hj'] at hl
  rw [yX ts j hj'] at hvs
  have hc1:=eo (ts.drop (j+1))
  have hc2:=pW ts[j] l
  refine ei hI h aS aj hj' (fun _ _=>RdT.length) fun cs' hcs'=>?_
  refine Run.call (A:=[]) qG rh hI (wR _ S cs' t3 l hcs' (by omega)) fun v' I' S' w'=>?_
  rintro ⟨rfl,rfl⟩ _ hI
  refine ct (by omega) ?_
  exact ⟨⟨j+1,_,hj',rfl,hvs,by omega,hI⟩,by simp [intOf]; omega⟩
 have:j=ts.length:=by omega
 subst this
 rw [List.drop_length,dK] at hvs
 rw [List.drop_length] at hl
 subst hvs
 have hl':(dK ts []).length<=1000000000:=by
  have:dk ([]:List T)=0:=rfl
  omega
 clear hl
 generalize dK ts []=vs at hI hl' ⊢
 obtain ⟨S1,hle1,hrd,hI,_⟩:=Inv.lend (A:=[]) hI
 have hrd:=hrd.ints
 have h:=h.mono hle1 fun _ _ h=>h.mono hle1
 refine gx hI bt fun v1 w' hI=>?_
 refine ⟨fun i t w'=>∃ (k:Nat) (Ls:List bn) (css:List (List Value)),k<=ts.length/\i=.int .i64 k/\Grown 4 TrT Ls css (dE vs (ts.take k))/\Inv w [] (be t ac 4 css::bk Ls.flatten) S1 w',
  fun i _ _=>ts.length - (intOf i).toNat,⟨0,[],[],Nat.zero_le _,rfl,Grown.nil _ _,hI⟩,?_⟩
 intro t6 _ _ t5 _ _ _ _ _ _ _ _ _ _ _ _ _ w'
 rintro ⟨k,Ls,css,hk,rfl,hg,hI⟩
 refine bo h aS ?_
 refine dh ?_
 refine bz (fun hki=>?_) (fun hki=>?_)
 ·have hk':k<ts.length:=by omega
  have htl:(ts.take k).length=k:=by simp; omega
  have hcl:=hg.hc
  rw [gY] at hcl
  have hm:=List.getElem_mem hk'
  have hwm:=fV hm
  refine ei hI h aS aj hk' (fun _ _=>RdT.length) fun cs hcs=>?_
  refine Run.call0 mp mq hI (tO vs hl' _ S1 cs _ hcs hrd (by omega)) fun v' I' S' w'=>?_
  rintro ⟨rfl,cs',L,rfl,rfl,hT⟩ _ hI
  refine gc hI 0 cs' bt (by omega) (by omega) rfl hT.length hT.one (by omega) (by omega) fun v' w' hI=>?_
  refine ct (by omega) ?_
  refine ⟨⟨k+1,Ls++[L],css++[cs'],hk',rfl,?_,?_⟩,by simp [intOf]; omega⟩
  ·rw [sY vs ts k hk']
   exact hg.snoc hT hT.length
  ·simp only [List.flatten_append,List.flatten_cons,List.flatten_nil,List.append_nil,cH]
   exact hI
 ·have:k=ts.length:=by omega
  subst this
  rw [List.take_length] at hg
  obtain ⟨L,hT,hI⟩:=Inv.rowTree (A:=[]) hI hg
  exact ⟨_,_,_,rfl,hI.less hle1,Ext.refl _ _ _,rfl,_,rfl,hT⟩
abbrev El (c:C):Value->List Item->ax->Prop:=fun v I' S'=>I'=[]/\∃ cs,v=.agg cs.toArray/\RdC S' cs c
abbrev Fo (c:C) (ok:Bool):Value->List Item->ax->Prop:=fun v I' S'=>I'=[]/\∃ cs,v=.tuple #[.agg cs.toArray,.bool ok]/\RdC S' cs c
theorem qx {c:C} {S:ax} {cs:List Value} (h:RdC S cs c) (hw:wC c<=1048576):Tri Tryz.prog up [.agg cs.toArray] [] S (El (jM (bp c) c)):=by
 intro w hI
 obtain ⟨hd,ks,rfl,h1,h2⟩:=h
 have h1':=h1
 obtain ⟨kv,rfl,g1,g2,g3,g4⟩:=RdT.iff.1 h1
 have hlen:=h2.le
 simp only [maxLen] at hlen
 unfold wC at hw
 refine nh ?_
 unfold kx
 refine co hI fun b1 w' hI=>?_
 refine bm hI bI fun b2 w' hI=>?_
 refine bh cm ?_
 refine dI hI 0 [.int .i64 c.head.kind,.int .i64 c.head.n,.string c.head.name,kv] aj rfl rfl tV ?_
 refine dg hI bt (by simp [Value.cells]) (by omega) (by omega) fun b7 w' hI=>?_
 refine aH hI 0 rfl bi aV rfl ?_
 have hI:=Inv.closeRow (A:=[_,_]) (cap:=1) (k:=4) (n:=1) hI (by omega) (by simp [maxLen]) (by simp [Value.cells])
 refine ng hI 2 (css:=[[.int .i64 c.head.kind,.int .i64 c.head.n,.string c.head.name,kv]]) bt (by omega) rfl h2 (fun _ _=>RdT.length) (fun _ _=>RdT.one) (by simp; omega) (by omega) fun v' w' css2 hR hI=>?_
 have hR:=(Rows.one h1' h1'.length).append hR
 obtain ⟨S1,hle1,hrd,hI,_⟩:=Inv.lend (A:=[_,_]) hI
 have hts:RdSl S1 4 (RdT S1) v' (c.head::c.body):=(RowRd.rows hR hrd).mono (Sle.refl _) fun _ _ h=>h.mono hle1
 refine Run.call0 r5 sA hI (pN hts (by simp only [wL,List.length_cons]; omega)) fun v11 I' S' w'=>?_
 rintro ⟨rfl,M,rfl,hT⟩ _ hI
 obtain ⟨S2,hI,hE,hins⟩:=(hI.less hle1).pubExt
 have hr:=hT.rd hins fun _ _ _ hi h=>h.rd hi
 rw [dE] at hr
 refine ei (i:=0) hI hr aS aj (by simp) (fun _ _=>RdT.length) fun cs' hcs'=>?_
 rw [List.getElem_cons_zero] at hcs'
 have hcs0:=hcs'
 obtain ⟨kv',rfl,f1,f2,f3,f4⟩:=RdT.iff.1 hcs'
 refine fA ?_
 refine bm hI bI fun b4 w' hI=>?_
 obtain ⟨ka,kn,kc,hk'⟩:∃ a n m,kv'=.slice a n m:=by
  obtain ⟨a,m,e,_⟩:=f4
  exact ⟨_,_,_,e⟩
 refine aX hI 2 rfl aW rfl rfl (by simp [Value.oneCell',hk']) fun w' hI=>?_
 refine ⟨fun w'=>∃ kb,RdSl S2 4 (RdT S2) kb (dE (bp c) c.body)/\Inv w [] [.blk b1 (.cells #[.int .i64 c.head.kind,.int .i64 c.head.n,.string c.head.name,kv,ks] ai),.blk b2 (.cells #[.int .i64 0,.int .i64 0,.string ⟨#[]⟩,.slice none 0 0,.slice none 0 0] ai),
   .blk b4 (.cells #[.int .i64 (cL (bp c) c.head).kind,.int .i64 (cL (bp c) c.head).n,.string (cL (bp c) c.head).name,kv',kb] ai)] S2 w',?_,?_⟩
 ·refine aH hI 0 rfl bi aV rfl ?_
  refine bo h2 aS ?_
  refine eN ?_
  refine bz (fun hb=>?_) (fun hb=>?_)
  ·refine qQ (l:=1) aS hr (by simp) fun kb hkb=>?_
   rw [List.drop_succ_cons,List.drop_zero] at hkb
   obtain ⟨a,m,e,_⟩:=id hkb
   subst e
   exact ff hI 2 rfl bi aV rfl rfl rfl fun w' hI=>⟨_,hkb,hI⟩
  ·have:c.body=[]:=List.eq_nil_of_length_eq_zero (by omega)
   refine ⟨_,?_,hI⟩
   rw [this]
   exact ⟨none,0,rfl,Nat.le_refl _,Nat.zero_le _,.inl rfl⟩
 intro _ _ _ _ _ _ _ w'
 rintro ⟨kb,hkb,hI⟩
 refine bb hI 2 aW rfl rfl ?_
 obtain ⟨a,m,e,_⟩:=id hkb
 subst e
 refine aX hI 1 rfl aW rfl rfl (by simp [Value.oneCell',hk']) fun w' hI=>?_
 refine bA hI 1 aW rfl rfl ?_
 exact ⟨_,_,_,rfl,hI.pick [false,false,false],hE,rfl,_,rfl,⟨_,_,rfl,hcs0,hkb⟩⟩
def AY (c:C):C:=if bH c=true then jM (bp c) c else ⟨⟨0,0,⟨#[]⟩,[]⟩,[]⟩
theorem RdC.zero (S:ax):RdC S [.int .i64 0,.int .i64 0,.string ⟨#[]⟩,.slice none 0 0,.slice none 0 0] ⟨⟨0,0,⟨#[]⟩,[]⟩,[]⟩:=
 ⟨[.int .i64 0,.int .i64 0,.string ⟨#[]⟩,.slice none 0 0],.slice none 0 0,rfl,RdT.iff.2 ⟨_,rfl,by simp [inI,T.kind],by simp [inI,T.n],by rw [T.name]; decide +kernel,⟨none,0,rfl,Nat.le_refl _,Nat.zero_le _,.inl rfl⟩⟩,⟨none,0,rfl,Nat.le_refl _,Nat.zero_le _,.inl rfl⟩⟩
theorem j6 {c:C} {S:ax} {cs:List Value} (h:RdC S cs c) (hw:wC c<=1048576):Tri Tryz.prog mO [.agg cs.toArray] [] S (Fo (AY c) (bH c)):=by
 intro w hI
 have h0:=h
 have hlc:=h.length
 have hon:=h.one
 refine j4 ?_
 unfold gL
 refine co hI fun b1 w' hI=>?_
 refine bm hI bI fun b2 w' hI=>?_
 refine bb hI 0 aW rfl (by simpa [Value.cells] using hlc) ?_
 refine Run.callPure jw jz hI (iL h0 hw) fun w' hI=>?_
 refine dT ?_
 rw [AY]
 cases hv:bH c
 ·refine bg (fun _=>?_) (fun hb=>by cases hb)
  refine lz ?_
  refine aX hI 1 rfl aW rfl rfl (by simp [Value.oneCell']) fun w' hI=>?_
  refine bA hI 1 aW rfl rfl ?_
  exact ⟨_,_,_,rfl,hI.pick [false,false],Ext.refl _ _ _,rfl,_,rfl,RdC.zero S⟩
 refine bg (fun hb=>by cases hb) (fun _=>?_)
 refine bb hI 0 aW rfl (by simpa [Value.cells] using hlc) ?_
 refine Run.call0E r2 rQ hI (qx h0 hw) fun v I' S' w'=>?_
 rintro ⟨rfl,cs',rfl,hR⟩ hE hI
 refine aX hI 1 rfl aW (by simpa using hR.length) rfl (by simpa using hR.one) fun w' hI=>?_
 refine bA hI 1 aW rfl (by simpa using hR.length) ?_
 exact ⟨_,_,_,rfl,hI.pick [false,false],hE,rfl,_,rfl,hR⟩
end

end Go.Proofs.YtmnnpgdeecnfpaaGreat

/- spec: resolved terms, if they are small. -/
namespace Go.Proofs.YtmnnpgdeecnfpaaGreat
open Go Go.RowKit
section
attribute [local irreducible] Run CondV ah ba
/- a tuple of a term and of how many nodes are left -/
end

end Go.Proofs.YtmnnpgdeecnfpaaGreat

/- spec: shifted terms and clauses. -/
namespace Go.Proofs.YtmnnpgdeecnfpaaGreat
open Go Go.RowKit
mutual
def ek (m:Int):T->T
 | .mk k n s ks=>.mk k (if k=1 then n+m else n) s (fu m ks)
def fu (m:Int):List T->List T
 | []=>[]
 | t::ts=>ek m t::fu m ts
end
theorem fW (m:Int):∀ ts:List T,fu m ts=ts.map (ek m)
 | []=>rfl
 | t::ts=>by rw [fu,fW m ts]; rfl
theorem qN (m:Int) (ks:List T) (j:Nat) (h:j<ks.length):fu m (ks.take (j+1))=fu m (ks.take j)++[ek m ks[j]]:=by
 rw [fW,fW,List.take_succ_eq_append_getElem h,List.map_append]; rfl
def Ee (m:Int) (c:C):C:=⟨ek m c.head,fu m c.body⟩
section
attribute [local irreducible] Run CondV ah ba
theorem mt {N:Nat} (hN:N<=1000000) (m:Int) (hm0:0<=m) (hm1:m<=1000000):∀ (t:T) (S:ax) (cs:List Value),RdT S cs t->okU N t->wT t<=1048576->Tri Tryz.prog yA [.agg cs.toArray,.int .i64 m] [] S (rO S (ek m t)):=by
 refine T.ind fun k n s ks ih S cs h hou hw=>?_
 intro w hI
 obtain ⟨kv,rfl,h1,h2,hs,hks⟩:=RdT.iff.1 h
 simp only [T.name,T.kids,T.kind,T.n] at h1 h2 hs hks ⊢
 simp only [wT] at hw
 rw [okU] at hou
 obtain ⟨_,hvar,hou,_⟩:=hou
 obtain ⟨cur,hcur⟩:∃ cur,cur=if k=1 then n+m else n:=⟨_,rfl⟩
 have hci:inI cur:=by
  rw [hcur]
  split
  ·have:=hvar (by assumption)
   simp only [inI]
   omega
  ·exact h2
 refine sb ?_
 unfold ol
 refine co hI fun b1 w' hI=>?_
 refine bm hI bx fun b2 w' hI=>?_
 refine aH hI 0 rfl bF bw rfl ?_
 refine aH hI 0 rfl bE bw rfl ?_
 refine aH hI 0 rfl bu bq rfl ?_
 refine jc ?_
 refine bm hI bx fun b3 w' hI=>?_
 refine aX hI 2 rfl aj rfl rfl (by simp [Value.oneCell']) fun w' hI=>?_
 have hI:Inv w [] [.blk b1 (.cells #[.int .i64 k,.int .i64 n,.string s,kv] ac),.blk b2 (.cells #[.int .i64 0,.int .i64 0,.string ⟨#[]⟩,.slice none 0 0] ac),.blk b3 (.cells #[.int .i64 k,.int .i64 n,.string s,.slice none 0 0] ac)] S w':=hI
 refine ⟨fun w'=>Inv w [] [.blk b1 (.cells #[.int .i64 k,.int .i64 n,.string s,kv] ac),.blk b2 (.cells #[.int .i64 0,.int .i64 0,.string ⟨#[]⟩,.slice none 0 0] ac),.blk b3 (.cells #[.int .i64 k,.int .i64 cur,.string s,.slice none 0 0] ac)] S w',?_,?_⟩
 ·refine aH hI 0 rfl bF bw rfl ?_
  refine bK ?_
  refine bz (fun he=>?_) (fun he=>?_)
  ·have hv:=hvar he
   refine aH hI 0 rfl bE bw rfl ?_
   refine ct (by omega) ?_
   rw [if_pos he] at hcur
   rw [hcur]
   exact ff hI 2 rfl bE bw rfl rfl rfl fun w' hI=>hI
  ·rw [if_neg he] at hcur
   rw [hcur]
   exact hI
 intro _ _ _ _ _ _ _ _ w' hI
 have hI:=hI.rowNil ac 4
 refine ⟨fun i w'=>∃ (j:Nat) (kvc:Value) (Ls:List bn) (css:List (List Value)),j<=ks.length/\i=.int .i64 j/\Grown 4 TrT Ls css (fu m (ks.take j))/\
   Inv w [] (.blk b1 (.cells #[.int .i64 k,.int .i64 n,.string s,kv] ac)::.blk b2 (.cells #[.int .i64 0,.int .i64 0,.string ⟨#[]⟩,.slice none 0 0] ac)::.blk b3 (.cells #[.int .i64 k,.int .i64 cur,.string s,kvc] ac)::be kvc ac 4 css::bk Ls.flatten) S w',
  fun i _=>ks.length - (intOf i).toNat,⟨0,_,[],[],Nat.zero_le _,rfl,Grown.nil _ _,hI⟩,?_⟩
 intro t7 _ _ _ _ _ _ _ _ _ _ _ _ _ _ _ _ _ _ _ w'
 rintro ⟨j,kvc,Ls,css,hj,rfl,hg,hI⟩
 refine aH hI 0 rfl a9 aV rfl ?_
 refine bo hks aS ?_
 refine dh ?_
 refine bz (fun hji=>?_) (fun hji=>?_)
 ·have hj':j<ks.length:=by omega
  have hjl:(ks.take j).length=j:=by simp; omega
  have hcl:=hg.hc
  rw [fW,List.length_map] at hcl
  have hm:=List.getElem_mem hj'
  have hwm:=fV hm
  obtain ⟨b,o,cap,c,E,fz,rfl,hS,hR⟩:=hks.at_ hj'
  refine ⟨fun D ji fp gg fg dD dS er eY ew d3 dF dq w_=>(D 0=true->dq=.pointer (some ⟨b3,3,none⟩))/\(D 1=true->dF=kvc)/\(D 2=true->d3=.pointer (some ⟨b1,3,none⟩))/\(D 3=true->ew=.slice (some ⟨b,o,none⟩) ks.length cap)/\(D 4=true->eY=.int .i64 j)/\(D 5=true->er=.pointer (some ⟨b,o+j * 4,none⟩))/\(D 6=true->dS=.agg (bB c (o+j * 4) 4).toArray)/\(D 7=true->dD=.int .i64 m)/\(D 8=true->True)/\(D 9=true->True)/\(D 10=true->True)/\(D 11=true->ji=.pointer (some ⟨b3,3,none⟩))/\(D 12=true->True)/\∃ M cs7 b8,(D 8=true->fg=.agg cs7.toArray/\TrT M cs7 (ek m ks[j]))/\(D 9=true->gg=.slice (some ⟨b8,0,none⟩) 1 1)/\(D 9=true->D 8=true)/\(D 10=true->D 9=true)/\(D 12=true->D 10=true)/\(D 12=true->D 1=true)/\Inv w [] (bd (.blk b1 (.cells #[.int .i64 k,.int .i64 n,.string s,.slice (some ⟨b,o,none⟩) ks.length cap] ac)) (.blk b2 (.cells #[.int .i64 0,.int .i64 0,.string ⟨#[]⟩,.slice none 0 0] ac)) (.blk b3 (.cells #[.int .i64 k,.int .i64 cur,.string s,kvc] ac)) (.blk b3 (.cells #[.int .i64 k,.int .i64 cur,.string s,fp] ac)) (be kvc ac 4 css) (be fp ac 4 (css++[cs7])) (bk Ls.flatten) M (.blk b8 (.cells cs7.toArray ac)) (D 8) (D 9) (D 10) (D 12)) S w_,⟨af,af,af,af,af,af,af,af,af,af,af,af,af,⟨[],[],0,af,af,af,af,af,af,by simpa [bd,bk] using hI.draw⟩⟩,⟨?_,?_,?_,?_,?_,?_,?_,?_,?_,?_,?_,?_,?_,trivial⟩,?_⟩
  ·intro D a6  ji fp gg fg dD dS er eY ew d3 dF dq w_
   rintro ⟨aF,aC,aB,aE,aD,aG,az,aK,aQ,aU,ao,ar,aw,⟨M,cs7,b8,e7,e8,k8,k9,k11,k1,hI⟩⟩
   refine bh a9 ?_
   exact ⟨fun _=>rfl,aC,aB,aE,aD,aG,az,aK,aQ,aU,ao,ar,aw,⟨M,cs7,b8,e7,e8,k8,k9,k11,k1,hI⟩⟩
  ·intro D a6 dc ji fp gg fg dD dS er eY ew d3 dF dq w_
   rintro ⟨aF,aC,aB,aE,aD,aG,az,aK,aQ,aU,ao,ar,aw,⟨M,cs7,b8,e7,e8,k8,k9,k11,k1,hI⟩⟩
   obtain rfl:=aF dc
   have f11:D 12=false:=Bool.eq_false_iff.2 fun h=>by rw [k1 h] at a6; cases a6
   refine bG (b:=b3) hI 2 (c:=(#[.int .i64 k,.int .i64 cur,.string s,kvc])) aV (by rw [f11]; rfl) rfl ?_
   have k1:=fun (_:av D 1 12=true)=>(rfl:av D 1 1=true)
   exact ⟨aF,fun _=>rfl,aB,aE,aD,aG,az,aK,aQ,aU,ao,ar,aw,⟨M,cs7,b8,e7,e8,k8,k9,k11,k1,hI⟩⟩
  ·intro D a6  ji fp gg fg dD dS er eY ew d3 dF dq w_
   rintro ⟨aF,aC,aB,aE,aD,aG,az,aK,aQ,aU,ao,ar,aw,⟨M,cs7,b8,e7,e8,k8,k9,k11,k1,hI⟩⟩
   refine bh a9 ?_
   exact ⟨aF,aC,fun _=>rfl,aE,aD,aG,az,aK,aQ,aU,ao,ar,aw,⟨M,cs7,b8,e7,e8,k8,k9,k11,k1,hI⟩⟩
  ·intro D a6 dy ji fp gg fg dD dS er eY ew d3 dF dq w_
   rintro ⟨aF,aC,aB,aE,aD,aG,az,aK,aQ,aU,ao,ar,aw,⟨M,cs7,b8,e7,e8,k8,k9,k11,k1,hI⟩⟩
   obtain rfl:=aB dy
   refine bG hI 0 aV rfl rfl ?_
   exact ⟨aF,aC,aB,fun _=>rfl,aD,aG,az,aK,aQ,aU,ao,ar,aw,⟨M,cs7,b8,e7,e8,k8,k9,k11,k1,hI⟩⟩
  ·intro D a6  ji fp gg fg dD dS er eY ew d3 dF dq w_
   rintro ⟨aF,aC,aB,aE,aD,aG,az,aK,aQ,aU,ao,ar,aw,⟨M,cs7,b8,e7,e8,k8,k9,k11,k1,hI⟩⟩
   exact ⟨aF,aC,aB,aE,fun _=>rfl,aG,az,aK,aQ,aU,ao,ar,aw,⟨M,cs7,b8,e7,e8,k8,k9,k11,k1,hI⟩⟩
  ·intro D a6 ef ev ji fp gg fg dD dS er eY ew d3 dF dq w_
   rintro ⟨aF,aC,aB,aE,aD,aG,az,aK,aQ,aU,ao,ar,aw,⟨M,cs7,b8,e7,e8,k8,k9,k11,k1,hI⟩⟩
   obtain rfl:=aE ef
   obtain rfl:=aD ev
   refine bv aS hj' ?_
   exact ⟨aF,aC,aB,aE,aD,fun _=>rfl,az,aK,aQ,aU,ao,ar,aw,⟨M,cs7,b8,e7,e8,k8,k9,k11,k1,hI⟩⟩
  ·intro D a6 eq ji fp gg fg dD dS er eY ew d3 dF dq w_
   rintro ⟨aF,aC,aB,aE,aD,aG,az,aK,aQ,aU,ao,ar,aw,⟨M,cs7,b8,e7,e8,k8,k9,k11,k1,hI⟩⟩
   obtain rfl:=aG eq
   refine dM aj hR.length (fun j v hj=>by rw [hI.cellS hS]; exact bC rfl j v hj) ?_
   exact ⟨aF,aC,aB,aE,aD,aG,fun _=>rfl,aK,aQ,aU,ao,ar,aw,⟨M,cs7,b8,e7,e8,k8,k9,k11,k1,hI⟩⟩
  ·intro D a6  ji fp gg fg dD dS er eY ew d3 dF dq w_
   rintro ⟨aF,aC,aB,aE,aD,aG,az,aK,aQ,aU,ao,ar,aw,⟨M,cs7,b8,e7,e8,k8,k9,k11,k1,hI⟩⟩
   exact ⟨aF,aC,aB,aE,aD,aG,az,fun _=>rfl,aQ,aU,ao,ar,aw,⟨M,cs7,b8,e7,e8,k8,k9,k11,k1,hI⟩⟩
  ·intro D a6 cw s8 ji fp gg fg dD dS er eY ew d3 dF dq w_
   rintro ⟨aF,aC,aB,aE,aD,aG,az,aK,aQ,aU,ao,ar,aw,⟨M,cs7,b8,e7,e8,k8,k9,k11,k1,hI⟩⟩
   obtain rfl:=az cw
   obtain rfl:=aK s8
   have f8:D 9=false:=Bool.eq_false_iff.2 fun h=>by rw [k8 h] at a6; cases a6
   have f9:D 10=false:=Bool.eq_false_iff.2 fun h=>by rw [k9 h] at f8; cases f8
   have f11:D 12=false:=Bool.eq_false_iff.2 fun h=>by rw [k11 h] at f9; cases f9
   rw [a6,f8,f9,f11] at hI
   refine Run.call0 jS jQ hI (ih _ (List.getElem_mem hj') S _ hR (oL hou _ (List.getElem_mem hj')) (by omega)) fun v' I' S w_=>?_
   rintro ⟨rfl,cs7,M,rfl,rfl,hT⟩ _ hI
   have e7:av D 8 8=true->Value.agg cs7.toArray=Value.agg cs7.toArray/\TrT M cs7 (ek m ks[j]):=fun _=>⟨rfl,hT⟩
   have k8:=fun (_:av D 8 9=true)=>(rfl:av D 8 8=true)
   have hI:Inv w [] (bd (.blk b1 (.cells #[.int .i64 k,.int .i64 n,.string s,.slice (some ⟨b,o,none⟩) ks.length cap] ac)) (.blk b2 (.cells #[.int .i64 0,.int .i64 0,.string ⟨#[]⟩,.slice none 0 0] ac)) (.blk b3 (.cells #[.int .i64 k,.int .i64 cur,.string s,kvc] ac)) (.blk b3 (.cells #[.int .i64 k,.int .i64 cur,.string s,fp] ac)) (be kvc ac 4 css) (be fp ac 4 (css++[cs7])) (bk Ls.flatten) M (.blk b8 (.cells cs7.toArray ac)) true (D 9) (D 10) (D 12)) S w_:=by
    rw [f8,f9,f11]
    simpa [bd] using hI
   exact ⟨aF,aC,aB,aE,aD,aG,az,aK,fun _=>by first|assumption|trivial,aU,ao,ar,aw,⟨M,cs7,b8,e7,e8,k8,k9,k11,k1,hI⟩⟩
  ·intro D a6 gp ji fp gg fg dD dS er eY ew d3 dF dq w_
   rintro ⟨aF,aC,aB,aE,aD,aG,az,aK,aQ,aU,ao,ar,aw,⟨M,cs7,b8,e7,e8,k8,k9,k11,k1,hI⟩⟩
   have Ab:=aQ gp
   have f9:D 10=false:=Bool.eq_false_iff.2 fun h=>by rw [k9 h] at a6; cases a6
   have f11:D 12=false:=Bool.eq_false_iff.2 fun h=>by rw [k11 h] at f9; cases f9
   obtain ⟨q7,hT⟩:=e7 gp
   subst q7
   rw [gp,a6,f9,f11] at hI
   refine dg hI bt (by simp [Value.cells,hT.length]) (by omega) (by omega) fun b8 w_ hI=>?_
   have e7:av D 9 8=true->Value.agg cs7.toArray=Value.agg cs7.toArray/\TrT M cs7 (ek m ks[j]):=fun _=>⟨rfl,hT⟩
   have e8:=fun (_:av D 9 9=true)=>(rfl:Value.slice (some ⟨b8,0,none⟩) 1 1=_)
   have k8:=fun (_:av D 9 9=true)=>gp
   have k9:=fun (_:av D 9 10=true)=>(rfl:av D 9 9=true)
   have hI:Inv w [] (bd (.blk b1 (.cells #[.int .i64 k,.int .i64 n,.string s,.slice (some ⟨b,o,none⟩) ks.length cap] ac)) (.blk b2 (.cells #[.int .i64 0,.int .i64 0,.string ⟨#[]⟩,.slice none 0 0] ac)) (.blk b3 (.cells #[.int .i64 k,.int .i64 cur,.string s,kvc] ac)) (.blk b3 (.cells #[.int .i64 k,.int .i64 cur,.string s,fp] ac)) (be kvc ac 4 css) (be fp ac 4 (css++[cs7])) (bk Ls.flatten) M (.blk b8 (.cells cs7.toArray ac)) (D 8) true (D 10) (D 12)) S w_:=by
    rw [gp,f9,f11]
    simpa [bd,Value.cells] using hI
   exact ⟨aF,aC,aB,aE,aD,aG,az,aK,aQ,fun _=>by first|assumption|trivial,ao,ar,aw,⟨M,cs7,b8,e7,e8,k8,k9,k11,k1,hI⟩⟩
  ·intro D a6 eB eh p7 ji fp gg fg dD dS er eY ew d3 dF dq w_
   rintro ⟨aF,aC,aB,aE,aD,aG,az,aK,aQ,aU,ao,ar,aw,⟨M,cs7,b8,e7,e8,k8,k9,k11,k1,hI⟩⟩
   obtain rfl:=aC eB
   have Ac:=aU eh
   have f11:D 12=false:=Bool.eq_false_iff.2 fun h=>by rw [k11 h] at a6; cases a6
   have q8:=e8 eh
   subst q8
   obtain ⟨_,hT⟩:=e7 p7
   rw [p7,eh,a6,f11] at hI
   have hblk:((bd (.blk b1 (.cells #[.int .i64 k,.int .i64 n,.string s,.slice (some ⟨b,o,none⟩) ks.length cap] ac)) (.blk b2 (.cells #[.int .i64 0,.int .i64 0,.string ⟨#[]⟩,.slice none 0 0] ac)) (.blk b3 (.cells #[.int .i64 k,.int .i64 cur,.string s,dF] ac)) (.blk b3 (.cells #[.int .i64 k,.int .i64 cur,.string s,fp] ac)) (be dF ac 4 css) (be fp ac 4 (css++[cs7])) (bk Ls.flatten) M (.blk b8 (.cells cs7.toArray ac)) true true false false))[4+(bk Ls.flatten).length+(bk M).length]?=some (.blk b8 (.cells cs7.toArray ac)):=by
    have e4:4+(bk Ls.flatten).length+(bk M).length=((bk Ls.flatten).length+(bk M).length)+1+1+1+1:=by omega
    rw [e4]
    simp only [bd,List.getElem?_cons_succ]
    rw [List.getElem?_append_right (by omega),Nat.add_sub_cancel_left,List.getElem?_append_right (Nat.le_refl _),Nat.sub_self]; rfl
   refine dU hI 3 cs7 bt (by omega) rfl (by rw [hT.length]) (m:=1) (o:=0) ?_ hT.one (by omega) (by omega) fun v' w_ hI=>?_
   ·intro i u hi
    rw [hI.cellL hblk,Nat.zero_add]
    simpa using hi
   rw [el] at hI
   have k9:=fun (_:av D 10 10=true)=>eh
   have k11:=fun (_:av D 10 12=true)=>(rfl:av D 10 10=true)
   have hI:Inv w [] (bd (.blk b1 (.cells #[.int .i64 k,.int .i64 n,.string s,.slice (some ⟨b,o,none⟩) ks.length cap] ac)) (.blk b2 (.cells #[.int .i64 0,.int .i64 0,.string ⟨#[]⟩,.slice none 0 0] ac)) (.blk b3 (.cells #[.int .i64 k,.int .i64 cur,.string s,dF] ac)) (.blk b3 (.cells #[.int .i64 k,.int .i64 cur,.string s,v'] ac)) (be dF ac 4 css) (be v' ac 4 (css++[cs7])) (bk Ls.flatten) M (.blk b8 (.cells cs7.toArray ac)) (D 8) (D 9) true (D 12)) S w_:=by
    rw [p7,eh,f11]
    exact hI
   exact ⟨aF,aC,aB,aE,aD,aG,az,aK,aQ,aU,fun _=>by first|assumption|trivial,ar,aw,⟨M,cs7,b8,e7,e8,k8,k9,k11,k1,hI⟩⟩
  ·intro D a6 dc gl mM sC sr uT vy wI AO A4 Bw ji fp gg fg dD dS er eY ew d3 dF dq w_
   rintro ⟨aF,aC,aB,aE,aD,aG,az,aK,aQ,aU,ao,ar,aw,⟨M,cs7,b8,e7,e8,k8,k9,k11,k1,hI⟩⟩
   refine bh a9 ?_
   exact ⟨aF,aC,aB,aE,aD,aG,az,aK,aQ,aU,ao,fun _=>rfl,aw,⟨M,cs7,b8,e7,e8,k8,k9,k11,k1,hI⟩⟩
  ·intro D a6 kl fi C8 rY gF sg r4 pf rW uR gt fm jx AJ ji fp gg fg dD dS er eY ew d3 dF dq w_
   rintro ⟨aF,aC,aB,aE,aD,aG,az,aK,aQ,aU,ao,ar,aw,⟨M,cs7,b8,e7,e8,k8,k9,k11,k1,hI⟩⟩
   obtain rfl:=ar kl
   have z7:=ao fi
   rw [fm,jx,fi,a6] at hI
   obtain ⟨va,vn,vc,hv9⟩:=Inv.rowSlice hI 3 rfl
   refine dY hI 2 (n:=1) (by rw [hv9]; rfl) (by decide +kernel) rfl (by simp) (by rw [hv9]; simp [Value.cells,Value.oneCell']) fun w_ hI=>?_
   have hcl9:Value.cells fp=#[fp]:=by rw [hv9]; rfl
   rw [hcl9] at hI
   have k1:=fun (_:av D 12 12=true)=>gF
   have k11:=fun (_:av D 12 12=true)=>fi
   have hI:Inv w [] (bd (.blk b1 (.cells #[.int .i64 k,.int .i64 n,.string s,.slice (some ⟨b,o,none⟩) ks.length cap] ac)) (.blk b2 (.cells #[.int .i64 0,.int .i64 0,.string ⟨#[]⟩,.slice none 0 0] ac)) (.blk b3 (.cells #[.int .i64 k,.int .i64 cur,.string s,kvc] ac)) (.blk b3 (.cells #[.int .i64 k,.int .i64 cur,.string s,fp] ac)) (be kvc ac 4 css) (be fp ac 4 (css++[cs7])) (bk Ls.flatten) M (.blk b8 (.cells cs7.toArray ac)) (D 8) (D 9) (D 10) true) S w_:=by
    rw [fm,jx,fi]
    exact hI
   exact ⟨aF,aC,aB,aE,aD,aG,az,aK,aQ,aU,ao,ar,fun _=>trivial,⟨M,cs7,b8,e7,e8,k8,k9,k11,k1,hI⟩⟩
  intro D ky gw fK kA iV ii gM gT hO iR im iT iS ji fp gg fg dD dS er eY ew d3 dF dq w_
  rintro ⟨aF,aC,aB,aE,aD,aG,az,aK,aQ,aU,ao,ar,aw,⟨M,cs7,b8,e7,e8,k8,k9,k11,k1,hI⟩⟩
  obtain rfl:=ar gw
  have z7:=ao fK
  have Ac:=aU kA
  have Ab:=aQ iV
  obtain rfl:=aK ii
  obtain rfl:=az gM
  obtain rfl:=aG gT
  obtain rfl:=aD hO
  obtain rfl:=aE iR
  obtain rfl:=aB im
  obtain rfl:=aC iT
  obtain rfl:=aF iS
  clear aF aC aB aE aD aG az aK aQ aU ao ar aw
  obtain ⟨_,hT⟩:=e7 iV
  rw [iV,kA,fK,ky] at hI
  refine ct (by omega) ?_
  refine ⟨⟨j+1,fp,Ls++[M],css++[cs7],hj',rfl,?_,?_⟩,by simp [intOf]; omega⟩
  ·rw [qN m ks j hj']
   exact hg.snoc hT hT.length
  ·simp only [List.flatten_append,List.flatten_cons,List.flatten_nil,List.append_nil,cH]
   refine hI.sub ?_
   simp only [bd]
   rw [<- List.append_assoc]
   exact (((List.sublist_append_left _ _).cons_cons _).cons_cons _).cons_cons _ |>.cons_cons _
 ·have:j=ks.length:=by omega
  subst this
  rw [List.take_length] at hg
  obtain ⟨va,vn,vc,hvk⟩:=hI.rowSlice 3 rfl
  have hv1:kvc.oneCell'=true:=by rw [hvk]; rfl
  refine bb hI 2 aj rfl rfl ?_
  refine aX hI 1 rfl aj rfl rfl ?_ fun w' hI=>?_
  ·intro u hu
   have hu':u∈([.int .i64 k,.int .i64 cur,.string s,kvc]:List Value):=hu
   simp at hu'
   rcases hu' with rfl|rfl|rfl|rfl <;> first|rfl|exact hv1
  refine bA hI 1 aj rfl rfl ?_
  have hI:Inv w [] ([]++(be kvc ac 4 css::bk Ls.flatten)) S w':=hI.sub (List.sublist_append_right [_,_,_] _)
  obtain ⟨L,hT,hI⟩:=Inv.rowTree hI hg
  exact ⟨_,_,_,rfl,hI,Ext.refl _ _ _,rfl,_,L,rfl,rfl,TrT.iff.2 ⟨kvc,by rw [ek,<- hcur]; rfl,by rw [ek]; exact h1,by rw [ek,<- hcur]; exact hci,by rw [ek]; exact hs,by rw [ek]; exact hT⟩⟩
end

end Go.Proofs.YtmnnpgdeecnfpaaGreat

/- Resolvents: the plain form. -/
namespace Go.Proofs.YtmnnpgdeecnfpaaGreat
open Go Go.RowKit
theorem zx {s:ByteArray} (h:jC s=true):s.size<=6:=by
 rw [jC,Bool.or_eq_true] at h
 rcases h with h|h
 ·rw [iY] at h
  simp only [Bool.and_eq_true,decide_eq_true_eq] at h
  exact h.2.2
 ·simp only [List.any_eq_true,decide_eq_true_eq] at h
  obtain ⟨x,hx,rfl⟩:=h
  have:∀ y∈signs,y.size<=6:=by decide +kernel
  exact this x hx
theorem A6 {t:T} (h:et t=true):t.name.size<=6:=by
 unfold et at h
 have he:emptyB.size=0:=by decide +kernel
 by_cases e1:t.kind=1
 ·rw [if_pos e1] at h
  simp only [Bool.and_eq_true,decide_eq_true_eq] at h
  rw [h.2.2.1]; omega
 ·rw [if_neg e1] at h
  by_cases e2:t.kind=2
  ·rw [if_pos e2] at h
   simp only [Bool.and_eq_true,decide_eq_true_eq] at h
   rw [h.2.2.1]; omega
  ·rw [if_neg e2] at h
   by_cases e3:t.kind=3
   ·rw [if_pos e3] at h
    simp only [Bool.and_eq_true,decide_eq_true_eq] at h
    exact zx h.2.1
   ·rw [if_neg e3] at h
    cases h
mutual
theorem wg:∀ (t:T) (d:Int),dG t d=true->okU 26 t
 | .mk k n s ks,d,h=>by
  rw [dG] at h
  split at h
  ·cases h
  ·rw [Bool.and_eq_true] at h
   have h1:=DY h.1
   have h2:=fun hk=>zm h.1 hk
   have h3:=A6 h.1
   rw [okU]
   refine ⟨h1.2,fun hk=>?_,uB ks _ h.2,h3⟩
   have h4:=h1.1 hk
   have h5:=h2 hk
   simp only [T.n] at h4
   simp only [T.name,T.kids] at h5
   exact ⟨h4.1,by omega,h5.1,List.eq_nil_of_length_eq_zero h5.2⟩
theorem uB:∀ (ts:List T) (d:Int),dx ts d=true->fC 26 ts
 | [],_,_=>by rw [fC]; trivial
 | t::ts,d,h=>by
  rw [dx,Bool.and_eq_true] at h
  rw [fC]
  exact ⟨wg t d h.1,uB ts d h.2⟩
end
theorem wb {t:T} (h:dA t=true):okU 26 t:=wg t 30 (lp h)
theorem tW {c:C} (h:bH c=true):okU 26 c.head/\(∀ t∈c.body,okU 26 t)/\c.body.length<=6:=by
 rw [bH] at h
 simp only [Bool.and_eq_true,List.all_eq_true,decide_eq_true_eq] at h
 refine ⟨wb h.2.2.1,fun t ht=>?_,h.1⟩
 have:=h.2.1 t ht
 rw [eL,Bool.and_eq_true] at this
 exact wb this.1
mutual
theorem zD (m:Int):∀ t:T,wT (ek m t)=wT t
 | .mk k n s ks=>by
  rw [ek,wT,wT,sT m ks]
  rw [fW,List.length_map]
theorem sT (m:Int):∀ ts:List T,wL (fu m ts)=wL ts
 | []=>rfl
 | t::ts=>by rw [fu,wL,wL,zD m t,sT m ts]
end
/- weights by nodes -/
/- numbered anew -/
/- the resolvent -/
/- small terms have small weights -/
end Go.Proofs.YtmnnpgdeecnfpaaGreat
