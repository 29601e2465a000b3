/- spec.l1Mutate. -/
import Derived.Test.YtnmnddpdikghhaaGreatZr6
import Derived.Test.YtnmnddpdikghhaaGreatZr1
import Derived.Test.YtnmnddpdikghhaaGreatZr2
namespace Go.Proofs.YtnmnddpdikghhaaGreat
open Go Go.RowKit
def vw (w:World) (b o:Nat):Nat:=match w.cell? ⟨b,o,none⟩ with
 | some (.slice _ n _)=>n
 | _=>0
theorem KI {Q Q2 B:Prop} {R:Nat->Prop} (h1:Q->B) (h3:Q2->B) (h2:∀ n,n<3->R n->B):∀ {n:Nat},nN Q (nN Q2 R) n->n<5->B
 | 0,h,_=>h1 h
 | 1,h,_=>h3 h
 | n+2,h,hn=>h2 n (by omega) h
theorem HO {Q:Prop} {R:Nat->Prop} {n:Nat} (h:R n):nN Q R (n+1):=h
theorem Bo {Q:Prop} {R:Nat->Prop} {n:Nat} (h:nN Q R (n+1)):R n:=h
section
variable {w0 w:World} {X:List Nat} {L A:List Item} {S:ay} {K:Value->World->Prop} {P:Program}
attribute [local irreducible] Run CondV ai a4
theorem sZ (h:Inv w0 X L S w) {i b o:Nat} {c:Array Value} {E:TypeId} {a:Option Addr} {n m:Nat} (hi:L[i]?=some (.blk b (.cells c E))) (hc:c[o]?=some (.slice a n m)):vw w b o=n:=by
 rw [vw,h.cellL hi,hc]
theorem sm {b:Nat} {k n:Int} {s:ByteArray} {kv:Value} {css:List (List Value)} {ks:List T} {o:Obj}
  (hI:Inv w0 X (.blk b o::a5 kv ab 4 css::A) S w) (hR:Rows 4 (RdT S) css ks) (hk:inI k) (hn:inI n) (hs:s.size<=maxLen) :
  ∃ S',Ext w0.heap.size X S S'/\Inv w0 X (.blk b o::A) S' w/\RdT S' [.int .i64 k,.int .i64 n,.string s,kv] (.mk k n s ks)/\RdSl S' 4 (RdT S') kv ks:=by
 have hI:Inv w0 X ((.blk b o::A)++[a5 kv ab 4 css]) S w:=hI.last 1 rfl
 obtain ⟨S',hE,hrd,hI⟩:=Inv.lendExt hI
 have hrs:=RowRd.rows (hR.monoR fun _ _ h=>RdT.mono hE.1 h) hrd
 exact ⟨S',hE,hI,RdT.iff.2 ⟨_,rfl,hk,hn,hs,hrs⟩,hrs⟩
end
section
variable {br:Nat} {sl:Value} {ys:List Nat}
attribute [local irreducible] Run CondV ai a4
theorem m7 {p:Nat} {S:ay} {cs:List Value} {t:T} (hrd:RdSl S 1 kR sl ys) (h:RdT S cs t) (hw:wT t<=100000) (hp:p<=100000000) :
  Tri Tryz.prog C2 [rdP br,.agg cs.toArray] [rdI br sl p] S (J0 br sl p 2 (wT t+100)):=by
 intro w hI
 have h0:=h
 obtain ⟨kv0,rfl,hk,hn,hs,hks⟩:=RdT.iff.1 h
 refine tS ?_
 unfold pD
 refine bN hI fun b3 w' hI=>?_
 refine a9 hI bt fun b4 w' hI=>?_
 refine aO hI 1 ag rfl rfl ?_
 refine Run.call0E fp fu hI (Io t S _ h0 (by omega)) fun v' I' S1 w'=>?_
 rintro ⟨kv,css,rfl,rfl,hR⟩ hE1 hI
 have hE1:Ext w.heap.size [br] S S1:=hE1
 obtain ⟨a0,n0,q0,rfl⟩:=hI.rowSlice 3 rfl
 refine a9 hI bt fun b5 w' hI=>?_
 refine aM hI 4 rfl ag rfl rfl (by simp [Value.oneCell']) fun w' hI=>?_
 obtain ⟨B4,hB4⟩:∃ B4,B4=Item.blk b4 (.cells #[.int .i64 0,.int .i64 0,.string ⟨#[]⟩,.slice none 0 0] ab):=⟨_,rfl⟩
 obtain ⟨k,hk'⟩:∃ k,k=t.kind:=⟨_,rfl⟩
 obtain ⟨n,hn'⟩:∃ n,n=t.n:=⟨_,rfl⟩
 obtain ⟨s,hs'⟩:∃ s,s=t.name:=⟨_,rfl⟩
 have hwt:wT t=s.size+t.kids.length+wL t.kids:=by rw [hs']; cases t; rw [wT]; rfl
 rw [<- hk',<- hn',<- hs'] at hI
 rw [<- hk'] at hk
 rw [<- hn'] at hn
 rw [<- hs'] at hs
 have hI:Inv w [br] [.blk b5 (.cells #[.int .i64 k,.int .i64 n,.string s,.slice a0 n0 q0] ab),a5 (.slice a0 n0 q0) ab 4 css,B4,rdI br sl p] S1 w':=by
  rw [hB4]
  exact (((hI.pick [true,false,true,true,true]).last 2 rfl).last 1 rfl).last 0 rfl
 refine ⟨fun w'=>∃ (p1:Nat) (S2:ay) (cs1:List Value) (t1:T),p1<=p+2/\Ext w.heap.size [br] S S2/\RdT S2 cs1 t1/\wT t1<=wT t+100/\Inv w [br] [.blk b5 (.cells cs1.toArray ab),B4,rdI br sl p1] S2 w',?_,?_⟩
 ·have hfin:∀ {k n:Int} {s1:ByteArray} {p1:Nat} {w':World} {S1:ay} {css:List (List Value)} {kv:Value} {ks:List T},Ext w.heap.size [br] S S1->p1<=p+2->inI k->inI n->s1.size<=s.size+7->Rows 4 (RdT S1) css ks->ks.length<=t.kids.length+5->wL ks<=wL t.kids->
    Inv w [br] [.blk b5 (.cells #[.int .i64 k,.int .i64 n,.string s1,kv] ab),a5 kv ab 4 css,B4,rdI br sl p1] S1 w'->
    ∃ (p1:Nat) (S2:ay) (cs1:List Value) (t1:T),p1<=p+2/\Ext w.heap.size [br] S S2/\RdT S2 cs1 t1/\wT t1<=wT t+100/\Inv w [br] [.blk b5 (.cells cs1.toArray ab),B4,rdI br sl p1] S2 w':=by
   intro k n s1 p1 w' S1 css kv ks hE hp1 hk hn hs1 hR hkl hkw hI
   obtain ⟨S2,hE2,hI,hr,_⟩:=sm (s:=s1) hI hR hk hn (by simp only [maxLen]; omega)
   exact ⟨p1,S2,_,_,hp1,hE.trans hE2,hr,by rw [wT,hwt]; omega,hI⟩
  refine Run.callL bU bT hI (dI (n:=50) (hrd.monoU hE1.1) (by omega) (by omega)) rfl fun v' I' S1 w'=>?_
  rintro ⟨rfl,rfl,kk,hkk,rfl⟩ _ hI
  refine bO ?_
  refine bF (fun _=>?_) (fun _=>?_)
  ·refine zx hI (by kernel_rfl) rfl (by omega) fun v S3 w' hE3 hv hI=>?_
   refine Run.callL gd gk hI (ln (p:=p+1) (hrd.monoU (hE1.trans hE3).1) hv (by decide) (by omega)) rfl fun v' I' S3 w'=>?_
   rintro ⟨rfl,rfl,m,hm,rfl⟩ _ hI
   have hm:=sD (a:=-1000) (b:=1000) hm (by decide)
   refine eM hI 0 rfl bv bg rfl rfl rfl fun w' hI=>?_
   exact hfin (hE1.trans hE3) (Nat.le_refl _) (by simp only [inI]; omega) hn (by omega) (hR.monoR fun _ _ h=>RdT.mono hE3.1 h) (by omega) (Nat.le_refl _) hI
  refine bO ?_
  refine bF (fun _=>?_) (fun _=>?_)
  ·refine zx hI (by kernel_rfl) rfl (by omega) fun v S3 w' hE3 hv hI=>?_
   refine Run.callL gd gk hI (ln (p:=p+1) (hrd.monoU (hE1.trans hE3).1) hv (by decide) (by omega)) rfl fun v' I' S3 w'=>?_
   rintro ⟨rfl,rfl,m,hm,rfl⟩ _ hI
   have hm:=sD (a:=-1000) (b:=1000) hm (by decide)
   refine eM hI 0 rfl bn bg rfl rfl rfl fun w' hI=>?_
   exact hfin (hE1.trans hE3) (Nat.le_refl _) hk (by simp only [inI]; omega) (by omega) (hR.monoR fun _ _ h=>RdT.mono hE3.1 h) (by omega) (Nat.le_refl _) hI
  refine bO ?_
  refine bF (fun _=>?_) (fun _=>?_)
  ·refine qr hI (by kernel_rfl) rfl (by omega) fun v S3 w' hE3 hv hI=>?_
   refine Run.callL iS iW hI (r5 (p:=p+1) (hrd.monoU (hE1.trans hE3).1) hv (by decide) (by omega)) rfl fun v' I' S3 w'=>?_
   rintro ⟨rfl,rfl,m,hm,rfl⟩ _ hI
   have hm:=xl (m:=7) hm (by decide)
   refine eM hI 0 rfl bH bz rfl rfl rfl fun w' hI=>?_
   exact hfin (hE1.trans hE3) (Nat.le_refl _) hk hn (by omega) (hR.monoR fun _ _ h=>RdT.mono hE3.1 h) (by omega) (Nat.le_refl _) hI
  refine bO ?_
  refine bF (fun _=>?_) (fun _=>?_)
  ·refine ⟨fun w'=>∃ (S2:ay) (kv:Value) (css:List (List Value)) (ks:List T),Ext w.heap.size [br] S S2/\Rows 4 (RdT S2) css ks/\ks.length<=t.kids.length+5/\wL ks<=wL t.kids/\
     Inv w [br] [.blk b5 (.cells #[.int .i64 k,.int .i64 n,.string s,kv] ab),a5 kv ab 4 css,B4,rdI br sl (p+1)] S2 w',fun w'=>5 - vw w' b5 3,⟨S1,_,css,t.kids,hE1,hR,by omega,Nat.le_refl _,hI⟩,?_⟩
   intro t40 t39 t38 t37 t36 t35 _ _ _ _ w'
   rintro ⟨S2,kv,css,ks,hE2,hR,hkl,hkw,hI⟩
   obtain ⟨a1,n1,q1,rfl,hn1⟩:∃ a m c,kv=.slice a m c/\m=ks.length:=by
    obtain ⟨S',_,_,_,hr⟩:=sm hI hR hk hn hs
    obtain ⟨a,q,rfl,_⟩:=hr
    exact ⟨a,_,q,rfl,rfl⟩
   subst hn1
   have hl1:=sZ hI (i:=0) (o:=3) rfl rfl
   have hcl:=hR.hc
   refine ar hI 0 rfl aP aL rfl ?_
   refine iE aG ?_
   refine gO ?_
   refine bF (fun hle=>?_) (fun hle=>?_)
   ·have hI:=hI
    refine ⟨fun D lY g9 jv jh gj gp w_=>(D 0=true->gp=.pointer (some ⟨b5,3,none⟩))/\(D 1=true->gj=.slice a1 ks.length q1)/\(D 2=true->True)/\(D 3=true->True)/\(D 4=true->True)/\(D 5=true->lY=.pointer (some ⟨b5,3,none⟩))/\(D 6=true->True)/\∃ n_:Nat,n_<=4/\D 2=decide (1<=n_)/\D 3=decide (2<=n_)/\D 4=decide (3<=n_)/\D 6=decide (4<=n_)/\(D 6=true->D 1=true)/\(nN (Inv w [br] [.blk b5 (.cells #[.int .i64 k,.int .i64 n,.string s,.slice a1 ks.length q1] ab),a5 (.slice a1 ks.length q1) ab 4 css,B4,rdI br sl (p+1)] S2 w_) (v7 w [br] b5 #[.int .i64 k,.int .i64 n,.string s,.slice a1 ks.length q1] 3 ab (.slice a1 ks.length q1) css (fun p=>[B4,rdI br sl (p+1)]) (fun cs p' S'=>p'=p/\S'=S2/\RdT S2 cs (.mk 2 1 emptyB [])) jh jv g9 w_) n_),⟨af,af,af,af,af,af,af,⟨0,Nat.zero_le _,rfl,rfl,rfl,rfl,(af),hI.draw⟩⟩,⟨?_,?_,?_,?_,?_,?_,?_,trivial⟩,?_⟩
    ·intro D aS  lY g9 jv jh gj gp w_
     rintro ⟨aA,az,aB,ax,aD,aC,aw,⟨n_,ln_,e1_,e2_,e3_,e4_,kp_,hS⟩⟩
     refine bj aP ?_
     exact ⟨fun _=>rfl,az,aB,ax,aD,aC,aw,⟨n_,ln_,e1_,e2_,e3_,e4_,kp_,hS⟩⟩
    ·intro D aS cA lY g9 jv jh gj gp w_
     rintro ⟨aA,az,aB,ax,aD,aC,aw,⟨n_,ln_,e1_,e2_,e3_,e4_,kp_,hS⟩⟩
     obtain rfl:=aA cA
     have ln2_:=KO e4_ kp_ aS
     refine eE aL ((Ho (fun h=>h.cellL (i:=0) rfl) (fun n hn h=>BN h hn) hS ln2_).trans rfl) ?_
     exact ⟨aA,fun _=>rfl,aB,ax,aD,aC,aw,⟨n_,ln_,e1_,e2_,e3_,e4_,(fun _=>rfl),hS⟩⟩
    ·intro D aS  lY g9 jv jh gj gp w_
     rintro ⟨aA,az,aB,ax,aD,aC,aw,⟨n_,ln_,e1_,e2_,e3_,e4_,kp_,hS⟩⟩
     obtain rfl:n_=0:=K5 e1_ aS
     refine Run.callPure p5 qf (L:=[.blk b5 _,a5 _ ab 4 css,B4,rdI br sl (p+1)]) hS (kM 1 S2) fun w_ hI=>?_
     exact ⟨aA,az,fun _=>by first|assumption|trivial,ax,aD,aC,aw,⟨1,by decide,rfl,(by first|exact e2_|rfl),(by first|exact e3_|rfl),(by first|exact e4_|rfl),kp_,CB ⟨rfl,rfl,sI (by simp [inI]) (by simp [inI])⟩ (sI (by simp [inI]) (by simp [inI])) hI⟩⟩
    ·intro D aS cM lY g9 jv jh gj gp w_
     rintro ⟨aA,az,aB,ax,aD,aC,aw,⟨n_,ln_,e1_,e2_,e3_,e4_,kp_,hS⟩⟩
     have LD:=aB cM
     obtain rfl:n_=1:=uv e1_ cM e2_ aS
     refine ap1 hS fun u w_ hS=>?_
     exact ⟨aA,az,aB,fun _=>by first|assumption|trivial,aD,aC,aw,⟨2,by decide,(by first|exact e1_|rfl),rfl,(by first|exact e3_|rfl),(by first|exact e4_|rfl),kp_,hS⟩⟩
    ·intro D aS dB o0 qD lY g9 jv jh gj gp w_
     rintro ⟨aA,az,aB,ax,aD,aC,aw,⟨n_,ln_,e1_,e2_,e3_,e4_,kp_,hS⟩⟩
     obtain rfl:=az dB
     have NB:=ax o0
     obtain rfl:n_=2:=uv e2_ o0 e3_ aS
     refine ap2 hS (by omega) fun u w_ hS=>?_
     exact ⟨aA,az,aB,ax,fun _=>by first|assumption|trivial,aC,aw,⟨3,by decide,(by first|exact e1_|rfl),(by first|exact e2_|rfl),rfl,(by first|exact e4_|rfl),kp_,hS⟩⟩
    ·intro D aS cA iz qD xd uq lY g9 jv jh gj gp w_
     rintro ⟨aA,az,aB,ax,aD,aC,aw,⟨n_,ln_,e1_,e2_,e3_,e4_,kp_,hS⟩⟩
     refine bj aP ?_
     exact ⟨aA,az,aB,ax,aD,fun _=>rfl,aw,⟨n_,ln_,e1_,e2_,e3_,e4_,kp_,hS⟩⟩
    ·intro D aS dT eD DA tP i8 uJ uE qF lY g9 jv jh gj gp w_
     rintro ⟨aA,az,aB,ax,aD,aC,aw,⟨n_,ln_,e1_,e2_,e3_,e4_,kp_,hS⟩⟩
     obtain rfl:=aC dT
     have Dl:=aD eD
     obtain rfl:n_=3:=uv e3_ eD e4_ aS
     refine ap3 hS (by simp) fun w_ hS=>?_
     exact ⟨aA,az,aB,ax,aD,aC,fun _=>trivial,⟨4,by decide,(by first|exact e1_|rfl),(by first|exact e2_|rfl),(by first|exact e3_|rfl),rfl,(fun _=>i8),hS⟩⟩
    intro D fj ft fL fX fM fP fY lY g9 jv jh gj gp w_
    rintro ⟨aA,az,aB,ax,aD,aC,aw,⟨n_,ln_,e1_,e2_,e3_,e4_,kp_,hS⟩⟩
    obtain rfl:n_=4:=KQ ln_ e4_ fj
    clear e1_ e2_ e3_ e4_
    obtain ⟨p3,S7,cs,⟨rfl,rfl,hcs⟩,hl,hI⟩:=hS
    have hR2:=hR.snoc hcs hl.1
    refine ⟨⟨S7,_,_,_,hE2,hR2,by rw [List.length_append]; simp only [List.length_cons,List.length_nil]; omega,by rw [lC]; have e:emptyB.size=0:=rfl; simp only [wL,wT,List.length_nil,e]; omega,hI⟩,?_⟩
    obtain ⟨S',_,_,_,hr⟩:=sm hI hR2 hk hn hs
    obtain ⟨a,q,e,_⟩:=hr
    have hl2:=sZ hI (i:=0) (o:=3) (a:=a) (n:=(ks++[T.mk 2 1 emptyB []]).length) (m:=q) rfl (by rw [<- e]; rfl)
    show 5 - vw w_ b5 3<5 - vw w' b5 3
    rw [hl1,hl2,List.length_append,List.length_cons,List.length_nil]
    omega
   ·exact hfin hE2 (by omega) hk hn (by omega) hR hkl hkw hI
  refine bO ?_
  refine bF (fun _=>?_) (fun _=>?_)
  ·obtain ⟨S2,hE2,hI,hr,_⟩:=sm hI hR hk hn hs
   have hI:Inv w [br] [.blk b5 (.cells #[.int .i64 k,.int .i64 n,.string s,.slice a0 n0 q0] ab),B4,rdI br sl (p+1)] S2 w':=hI
   have ht:T.mk k n s t.kids=t:=by rw [hk',hn',hs']; cases t; rfl
   rw [ht] at hr
   refine ⟨fun t6 w'=>∃ (j:Nat) (S3:ay) (cs1:List Value) (t1:T),t6=.int .i64 (j:Int)/\j<=30/\Ext w.heap.size [br] S S3/\RdT S3 cs1 t1/\wT t1<=wT t+2 * j/\Inv w [br] [.blk b5 (.cells cs1.toArray ab),B4,rdI br sl (p+1)] S3 w',fun t6 _=>30 - (intOf t6).toNat,
    ⟨0,S2,_,t,rfl,by omega,hE1.trans hE2,hr,by omega,hI⟩,?_⟩
   intro t6 _ _ _ _ _ _ _ w'
   rintro ⟨j,S3,cs1,t1,rfl,hj,hE3,hr,hw1,hI⟩
   refine cF ?_
   refine bF (fun hj'=>?_) (fun hj'=>?_)
   ·refine aO hI 0 ag rfl (by simpa using hr.length) ?_
    refine dJ hI bC (by simp [Value.cells,hr.length]) (by omega) (by omega) fun b8 w' hI=>?_
    obtain ⟨S4,hI,hE4,hS⟩:=hI.pub1
    refine Run.call0E dZ d4 hI (eO ⟨#[115]⟩ (by decide) (Lk hS (hr.mono hE4.1)) (by simp)) fun v' I' S5 w'=>?_
    rintro ⟨rfl,cs2,rfl,hcs2⟩ hE5 hI
    have hI:Inv w [br] [.blk b5 (.cells cs1.toArray ab),B4,rdI br sl (p+1)] S5 w':=by simpa using hI
    refine aM hI 0 rfl ag (by simpa using hcs2.length) (by simpa using hr.length) (by simpa using hcs2.one) fun w' hI=>?_
    refine bR (by omega) ?_
    have e:(ByteArray.mk #[115]).size=1:=rfl
    exact ⟨⟨j+1,S5,cs2,_,rfl,by omega,hE3.trans (hE4.trans hE5),hcs2,by simp only [wT,wL,List.length_cons,List.length_nil,e]; omega,hI⟩,by simp only [intOf,Int.toNat_natCast]; omega⟩
   ·exact ⟨p+1,S3,cs1,t1,by omega,hE3,hr,by omega,hI⟩
  ·exact hfin hE1 (by omega) hk hn (by omega) hR (by omega) (Nat.le_refl _) hI
 intro _ _ _ _ _ _ _ _ _ _ _ _ _ _ _ _ _ _ _ _ _ _ _ _ _ _ _ _ _ _ _ _ _ _ _ _ _ _ _ _ _ _ w'
 rintro ⟨p1,S2,cs1,t1,hp1,hE2,hr,hw1,hI⟩
 subst hB4
 refine aO hI 0 ag rfl (by simpa using hr.length) ?_
 refine aM hI 1 rfl ag (by simpa using hr.length) rfl (by simpa using hr.one) fun w' hI=>?_
 refine bA hI 1 ag rfl (by simpa using hr.length) ?_
 exact ⟨_,_,S2,rfl,hI.pick [false,false,true],hE2,p1,hp1,rfl,cs1,t1,rfl,hr,hw1⟩
end
end Go.Proofs.YtnmnddpdikghhaaGreat

/- spec.l4Mutate, l4MutateAll. -/
namespace Go.Proofs.YtnmnddpdikghhaaGreat
open Go Go.RowKit
section
variable {w0 w:World} {X:List Nat} {L A:List Item} {S:ay} {K:Value->World->Prop} {P:Program}
theorem yK {b:Nat} {hd:List Value} {h:T} {kv:Value} {css:List (List Value)} {ks:List T} {o:Obj}
  (hI:Inv w0 X (.blk b o::a5 kv ab 4 css::A) S w) (hR:Rows 4 (RdT S) css ks) (hh:RdT S hd h) :
  ∃ S',Ext w0.heap.size X S S'/\Inv w0 X (.blk b o::A) S' w/\RdC S' (hd++[kv]) ⟨h,ks⟩/\RdSl S' 4 (RdT S') kv ks:=by
 have hI:Inv w0 X ((.blk b o::A)++[a5 kv ab 4 css]) S w:=hI.last 1 rfl
 obtain ⟨S',hE,hrd,hI⟩:=Inv.lendExt hI
 have hrs:=RowRd.rows (hR.monoR fun _ _ h=>RdT.mono hE.1 h) hrd
 exact ⟨S',hE,hI,⟨hd,kv,rfl,hh.mono hE.1,hrs⟩,hrs⟩
end
abbrev Lj (br:Nat) (sl:Value) (p k m:Nat):Value->List Item->ay->Prop:=fun v I' S'=>∃ p',p'<=p+k/\I'=[rdI br sl p']/\∃ cs c,v=.agg cs.toArray/\RdC S' cs c/\wC c<=m
section
variable {br:Nat} {sl:Value} {ys:List Nat}
attribute [local irreducible] Run CondV ai a4
theorem oE {p:Nat} {S:ay} {cs:List Value} {c:C} (hrd:RdSl S 1 kR sl ys) (h:RdC S cs c) (hw:wC c<=100000) (hp:p<=90000000) :
  Tri Tryz.prog BZ [rdP br,.agg cs.toArray] [rdI br sl p] S (Lj br sl p 600 (wC c+700)):=by
 intro w hI
 have hl5:=h.length
 refine ui ?_
 unfold pe
 refine bN hI fun b3 w' hI=>?_
 refine a9 hI bM fun b4 w' hI=>?_
 refine aO hI 1 aI rfl (by simpa [Value.cells] using hl5) ?_
 refine Run.call0E oA n9 hI (IR h (by omega)) fun v' I' S1 w'=>?_
 rintro ⟨hd,kv,css,rfl,hhd,rfl,hR⟩ hE1 hI
 have hE1:Ext w.heap.size [br] S S1:=hE1
 obtain ⟨a0,n0,q0,rfl⟩:=hI.rowSlice 3 rfl
 have hhd0:=hhd
 obtain ⟨k4,rfl,hk,hn,hs,_⟩:=RdT.iff.1 hhd
 obtain ⟨ak,nk,ck,hk4⟩:∃ a n c,k4=.slice a n c:=by
  obtain ⟨_,e,_,_,_,a,q,rfl,_⟩:=RdT.iff.1 hhd0
  simp only [List.cons.injEq,and_true,true_and] at e
  exact ⟨_,_,_,e⟩
 subst hk4
 refine a9 hI bM fun b5 w' hI=>?_
 refine aM hI 4 rfl aI rfl rfl (by simp [Value.oneCell']) fun w' hI=>?_
 obtain ⟨B4,hB4⟩:∃ B4,B4=Item.blk b4 (.cells #[.int .i64 0,.int .i64 0,.string ⟨#[]⟩,.slice none 0 0,.slice none 0 0] ac):=⟨_,rfl⟩
 have hI:Inv w [br] [.blk b5 (.cells #[.int .i64 c.head.kind,.int .i64 c.head.n,.string c.head.name,.slice ak nk ck,.slice a0 n0 q0] ac),a5 (.slice a0 n0 q0) ab 4 css,B4,rdI br sl p] S1 w':=by
  rw [hB4]
  exact (((hI.pick [true,false,true,true,true]).last 2 rfl).last 1 rfl).last 0 rfl
 have hwc:wC c=wT c.head+c.body.length+wL c.body:=rfl
 refine ⟨fun w'=>∃ (p1:Nat) (S2:ay) (cs1:List Value) (c1:C),p1<=p+600/\Ext w.heap.size [br] S S2/\RdC S2 cs1 c1/\wC c1<=wC c+700/\Inv w [br] [.blk b5 (.cells cs1.toArray ac),B4,rdI br sl p1] S2 w',?_,?_⟩
 ·have hfin:∀ {hd:List Value} {h:T} {p1:Nat} {w':World} {S1:ay} {css:List (List Value)} {kv:Value} {ks:List T},Ext w.heap.size [br] S S1->p1<=p+600->RdT S1 hd h->Rows 4 (RdT S1) css ks->wT h+ks.length+wL ks<=wC c+700->
    Inv w [br] [.blk b5 (.cells (hd++[kv]).toArray ac),a5 kv ab 4 css,B4,rdI br sl p1] S1 w'->
    ∃ (p1:Nat) (S2:ay) (cs1:List Value) (c1:C),p1<=p+600/\Ext w.heap.size [br] S S2/\RdC S2 cs1 c1/\wC c1<=wC c+700/\Inv w [br] [.blk b5 (.cells cs1.toArray ac),B4,rdI br sl p1] S2 w':=by
   intro hd h p1 w' S1 css kv ks hE hp1 hh hR hwn hI
   obtain ⟨S2,hE2,hI,hr,_⟩:=yK hI hR hh
   exact ⟨p1,S2,_,_,hp1,hE.trans hE2,hr,hwn,hI⟩
  refine Run.callL bU bT hI (dI (n:=40) (hrd.monoU hE1.1) (by omega) (by omega)) rfl fun v' I' S1 w'=>?_
  rintro ⟨rfl,rfl,kk,hkk,rfl⟩ _ hI
  refine bO ?_
  refine bF (fun _=>?_) (fun _=>?_)
  ·refine Run.callL vf vD hI (rc (p:=p+1) (hrd.monoU hE1.1) (by omega)) rfl fun v' I' S2 w'=>?_
   rintro ⟨p2,hp2,rfl,cs2,t2,rfl,hr2,hw2⟩ hE2 hI
   refine Run.callL po pO hI (m7 (p:=p2) (hrd.monoU (hE1.trans hE2).1) hr2 (by omega) (by omega)) rfl fun v' I' S3 w'=>?_
   rintro ⟨p3,hp3,rfl,cs3,t3,rfl,hr3,hw3⟩ hE3 hI
   have hr3':=hr3
   obtain ⟨k3,rfl,_,_,_,a3,q3,rfl,_⟩:=RdT.iff.1 hr3
   refine bj bQ ?_
   refine yC hI 0 rfl ag rfl rfl (by simp [Value.cells,Value.oneCell']) fun w' hI=>?_
   exact hfin ((hE1.trans hE2).trans hE3) (by omega) hr3' (hR.monoR fun _ _ h=>RdT.mono (hE2.trans hE3).1 h) (by omega) hI
  refine bO ?_
  refine bF (fun _=>?_) (fun _=>?_)
  ·have hcl:=hR.hc
   have hI:=hI
   refine ⟨fun D c7 cB bV cJ dz dg df cC cz w_=>(D 0=true->cz=.pointer (some ⟨b5,4,none⟩))/\(D 1=true->cC=.slice a0 n0 q0)/\(D 2=true->df=rdP br)/\(D 3=true->dg=rdP br)/\(D 4=true->True)/\(D 5=true->True)/\(D 6=true->True)/\(D 7=true->True)/\(D 8=true->c7=.pointer (some ⟨b5,4,none⟩))/\(D 9=true->True)/\∃ n_:Nat,n_<=5/\D 4=decide (1<=n_)/\D 5=decide (2<=n_)/\D 6=decide (3<=n_)/\D 7=decide (4<=n_)/\D 9=decide (5<=n_)/\(D 9=true->D 1=true)/\(nN (Inv w [br] [.blk b5 (.cells #[.int .i64 c.head.kind,.int .i64 c.head.n,.string c.head.name,.slice ak nk ck,.slice a0 n0 q0] ac),a5 (.slice a0 n0 q0) ab 4 css,B4,rdI br sl (p+1)] S1 w_) (nN (∃ p1 S2 cs t,dz=.agg cs.toArray/\RdT S2 cs t/\wT t<=500/\p1<=p+501/\Ext w.heap.size [br] S1 S2/\Inv w [br] [.blk b5 (.cells #[.int .i64 c.head.kind,.int .i64 c.head.n,.string c.head.name,.slice ak nk ck,.slice a0 n0 q0] ac),a5 (.slice a0 n0 q0) ab 4 css,B4,rdI br sl p1] S2 w_) (v7 w [br] b5 #[.int .i64 c.head.kind,.int .i64 c.head.n,.string c.head.name,.slice ak nk ck,.slice a0 n0 q0] 4 ac (.slice a0 n0 q0) css (fun p=>[B4,rdI br sl p]) (fun cs p' S'=>∃ t,RdT S' cs t/\wT t<=600/\p'<=p+503/\Ext w.heap.size [br] S1 S') cJ bV cB w_)) n_),⟨af,af,af,af,af,af,af,af,af,af,⟨0,Nat.zero_le _,rfl,rfl,rfl,rfl,rfl,(af),hI.draw⟩⟩,⟨?_,?_,?_,?_,?_,?_,?_,?_,?_,?_,trivial⟩,?_⟩
   ·intro D aS  c7 cB bV cJ dz dg df cC cz w_
    rintro ⟨aA,az,aB,ax,aD,aC,aw,aJ,aN,aR,⟨n_,ln_,e1_,e2_,e3_,e4_,e5_,kp_,hS⟩⟩
    refine bj bl ?_
    exact ⟨fun _=>rfl,az,aB,ax,aD,aC,aw,aJ,aN,aR,⟨n_,ln_,e1_,e2_,e3_,e4_,e5_,kp_,hS⟩⟩
   ·intro D aS cA c7 cB bV cJ dz dg df cC cz w_
    rintro ⟨aA,az,aB,ax,aD,aC,aw,aJ,aN,aR,⟨n_,ln_,e1_,e2_,e3_,e4_,e5_,kp_,hS⟩⟩
    obtain rfl:=aA cA
    have ln2_:=KO e5_ kp_ aS
    refine eE aL ((KI (fun h=>h.cellL (i:=0) rfl) (fun ⟨_,_,_,_,_,_,_,_,_,h⟩=>h.cellL (i:=0) rfl) (fun n hn h=>BN h hn) hS ln2_).trans rfl) ?_
    exact ⟨aA,fun _=>rfl,aB,ax,aD,aC,aw,aJ,aN,aR,⟨n_,ln_,e1_,e2_,e3_,e4_,e5_,(fun _=>rfl),hS⟩⟩
   ·intro D aS  c7 cB bV cJ dz dg df cC cz w_
    rintro ⟨aA,az,aB,ax,aD,aC,aw,aJ,aN,aR,⟨n_,ln_,e1_,e2_,e3_,e4_,e5_,kp_,hS⟩⟩
    exact ⟨aA,az,fun _=>rfl,ax,aD,aC,aw,aJ,aN,aR,⟨n_,ln_,e1_,e2_,e3_,e4_,e5_,kp_,hS⟩⟩
   ·intro D aS  c7 cB bV cJ dz dg df cC cz w_
    rintro ⟨aA,az,aB,ax,aD,aC,aw,aJ,aN,aR,⟨n_,ln_,e1_,e2_,e3_,e4_,e5_,kp_,hS⟩⟩
    exact ⟨aA,az,aB,fun _=>rfl,aD,aC,aw,aJ,aN,aR,⟨n_,ln_,e1_,e2_,e3_,e4_,e5_,kp_,hS⟩⟩
   ·intro D aS dh c7 cB bV cJ dz dg df cC cz w_
    rintro ⟨aA,az,aB,ax,aD,aC,aw,aJ,aN,aR,⟨n_,ln_,e1_,e2_,e3_,e4_,e5_,kp_,hS⟩⟩
    obtain rfl:=ax dh
    obtain rfl:n_=0:=K5 e1_ aS
    refine Run.callL vf vD (L:=[.blk b5 _,a5 _ ab 4 css,B4,rdI br sl (p+1)]) hS (rc (p:=p+1) (hrd.monoU hE1.1) (by omega)) rfl fun v' I' S2 w_=>?_
    rintro ⟨p2,hp2,rfl,cs2,t2,rfl,hr2,hw2⟩ hE2 hI
    exact ⟨aA,az,aB,ax,fun _=>by first|assumption|trivial,aC,aw,aJ,aN,aR,⟨1,by decide,rfl,(by first|exact e2_|rfl),(by first|exact e3_|rfl),(by first|exact e4_|rfl),(by first|exact e5_|rfl),kp_,⟨p2,S2,cs2,t2,rfl,hr2,hw2,by omega,hE2,hI⟩⟩⟩
   ·intro D aS cM eD DA c7 cB bV cJ dz dg df cC cz w_
    rintro ⟨aA,az,aB,ax,aD,aC,aw,aJ,aN,aR,⟨n_,ln_,e1_,e2_,e3_,e4_,e5_,kp_,hS⟩⟩
    obtain rfl:=aB cM
    have Dl:=aD eD
    obtain rfl:n_=1:=uv e1_ eD e2_ aS
    obtain ⟨p2,S2,cs2,t2,rfl,hr2,hw2,hp2,hE2,hI⟩:=Bo hS
    refine Run.callL po pO (L:=[.blk b5 _,a5 _ ab 4 css,B4,rdI br sl p2]) hI (m7 (p:=p2) (hrd.monoU (hE1.trans hE2).1) hr2 (by omega) (by omega)) rfl fun v' I' S3 w_=>?_
    rintro ⟨p3,hp3,rfl,cs3,t3,rfl,hr3,hw3⟩ hE3 hI
    exact ⟨aA,az,aB,ax,aD,fun _=>by first|assumption|trivial,aw,aJ,aN,aR,⟨2,by decide,(by first|exact e1_|rfl),rfl,(by first|exact e3_|rfl),(by first|exact e4_|rfl),(by first|exact e5_|rfl),kp_,HO (CB ⟨t3,hr3,by omega,by omega,hE2.trans hE3⟩ hr3 hI)⟩⟩
   ·intro D aS dT c7 cB bV cJ dz dg df cC cz w_
    rintro ⟨aA,az,aB,ax,aD,aC,aw,aJ,aN,aR,⟨n_,ln_,e1_,e2_,e3_,e4_,e5_,kp_,hS⟩⟩
    have zK:=aC dT
    obtain rfl:n_=2:=uv e2_ dT e3_ aS
    refine ap1 (Bo hS) fun u w_ hS=>?_
    exact ⟨aA,az,aB,ax,aD,aC,fun _=>by first|assumption|trivial,aJ,aN,aR,⟨3,by decide,(by first|exact e1_|rfl),(by first|exact e2_|rfl),rfl,(by first|exact e4_|rfl),(by first|exact e5_|rfl),kp_,HO hS⟩⟩
   ·intro D aS dB iL KP c7 cB bV cJ dz dg df cC cz w_
    rintro ⟨aA,az,aB,ax,aD,aC,aw,aJ,aN,aR,⟨n_,ln_,e1_,e2_,e3_,e4_,e5_,kp_,hS⟩⟩
    obtain rfl:=az dB
    have Fw:=aw iL
    obtain rfl:n_=3:=uv e3_ iL e4_ aS
    refine ap2 (Bo hS) (by omega) fun u w_ hS=>?_
    exact ⟨aA,az,aB,ax,aD,aC,aw,fun _=>by first|assumption|trivial,aN,aR,⟨4,by decide,(by first|exact e1_|rfl),(by first|exact e2_|rfl),(by first|exact e3_|rfl),rfl,(by first|exact e5_|rfl),kp_,HO hS⟩⟩
   ·intro D aS cA iz qD xd uq AH zT EA c7 cB bV cJ dz dg df cC cz w_
    rintro ⟨aA,az,aB,ax,aD,aC,aw,aJ,aN,aR,⟨n_,ln_,e1_,e2_,e3_,e4_,e5_,kp_,hS⟩⟩
    refine bj bl ?_
    exact ⟨aA,az,aB,ax,aD,aC,aw,aJ,fun _=>rfl,aR,⟨n_,ln_,e1_,e2_,e3_,e4_,e5_,kp_,hS⟩⟩
   ·intro D aS iP lP oI tP i8 uJ uE qF qJ zY jt c7 cB bV cJ dz dg df cC cz w_
    rintro ⟨aA,az,aB,ax,aD,aC,aw,aJ,aN,aR,⟨n_,ln_,e1_,e2_,e3_,e4_,e5_,kp_,hS⟩⟩
    obtain rfl:=aN iP
    have K0:=aJ lP
    obtain rfl:n_=4:=uv e4_ lP e5_ aS
    refine ap3 (Bo hS) (by simp) fun w_ hS=>?_
    exact ⟨aA,az,aB,ax,aD,aC,aw,aJ,aN,fun _=>trivial,⟨5,by decide,(by first|exact e1_|rfl),(by first|exact e2_|rfl),(by first|exact e3_|rfl),(by first|exact e4_|rfl),rfl,(fun _=>i8),HO hS⟩⟩
   intro D jA g7 gc fj ft fL fX fM fP fY c7 cB bV cJ dz dg df cC cz w_
   rintro ⟨aA,az,aB,ax,aD,aC,aw,aJ,aN,aR,⟨n_,ln_,e1_,e2_,e3_,e4_,e5_,kp_,hS⟩⟩
   obtain rfl:n_=5:=KQ ln_ e5_ jA
   clear e1_ e2_ e3_ e4_ e5_
   obtain ⟨p3,S7,cs,⟨t,hcs,hwt,hp3,hE7⟩,hl,hI⟩:=Bo (Bo hS)
   exact hfin (hE1.trans hE7) (by omega) (hhd0.mono hE7.1) ((hR.monoR fun _ _ h=>RdT.mono hE7.1 h).snoc hcs hl.1) (by rw [lC,List.length_append,List.length_cons,List.length_nil]; simp only [wL]; omega) hI
  refine bO ?_
  refine bF (fun _=>?_) (fun _=>?_)
  ·refine ⟨fun w'=>∃ (S2:ay) (kv:Value) (css:List (List Value)) (ks:List T),Ext w.heap.size [br] S S2/\Rows 4 (RdT S2) css ks/\ks.length<=c.body.length+7/\wL ks+4 * (7 - (ks.length - c.body.length))<=wL c.body+28/\c.body.length<=ks.length/\
     RdT S2 [.int .i64 c.head.kind,.int .i64 c.head.n,.string c.head.name,.slice ak nk ck] c.head/\
     Inv w [br] [.blk b5 (.cells #[.int .i64 c.head.kind,.int .i64 c.head.n,.string c.head.name,.slice ak nk ck,kv] ac),a5 kv ab 4 css,B4,rdI br sl (p+1)] S2 w',fun w'=>7 - vw w' b5 4,⟨S1,_,css,c.body,hE1,hR,by omega,by omega,by omega,hhd0,hI⟩,?_⟩
   intro t39 t38 t37 t36 t35 t34 _ _ _ _ w'
   rintro ⟨S2,kv,css,ks,hE2,hR,hkl,hkw,hkb,hhd,hI⟩
   obtain ⟨a1,n1,q1,rfl,hn1⟩:∃ a m c,kv=.slice a m c/\m=ks.length:=by
    obtain ⟨S',_,_,_,hr⟩:=yK hI hR hhd
    obtain ⟨a,q,rfl,_⟩:=hr
    exact ⟨a,_,q,rfl,rfl⟩
   subst hn1
   have hl1:=sZ hI (i:=0) (o:=4) rfl rfl
   have hcl:=hR.hc
   refine ar hI 0 rfl bl aL rfl ?_
   refine iE aG ?_
   refine gO ?_
   refine bF (fun hle=>?_) (fun hle=>?_)
   ·have hI:=hI
    refine ⟨fun D g9 jv jh gj gp gW w_=>(D 0=true->gW=.pointer (some ⟨b5,4,none⟩))/\(D 1=true->gp=.slice a1 ks.length q1)/\(D 2=true->True)/\(D 3=true->True)/\(D 4=true->True)/\(D 5=true->g9=.pointer (some ⟨b5,4,none⟩))/\(D 6=true->True)/\∃ n_:Nat,n_<=4/\D 2=decide (1<=n_)/\D 3=decide (2<=n_)/\D 4=decide (3<=n_)/\D 6=decide (4<=n_)/\(D 6=true->D 1=true)/\(nN (Inv w [br] [.blk b5 (.cells #[.int .i64 c.head.kind,.int .i64 c.head.n,.string c.head.name,.slice ak nk ck,.slice a1 ks.length q1] ac),a5 (.slice a1 ks.length q1) ab 4 css,B4,rdI br sl (p+1)] S2 w_) (v7 w [br] b5 #[.int .i64 c.head.kind,.int .i64 c.head.n,.string c.head.name,.slice ak nk ck,.slice a1 ks.length q1] 4 ac (.slice a1 ks.length q1) css (fun p=>[B4,rdI br sl (p+1)]) (fun cs p' S'=>p'=p/\Ext w.heap.size [br] S2 S'/\RdT S' cs (.mk 3 0 ⟨#[116,114,117,101]⟩ [])) gj jh jv w_) n_),⟨af,af,af,af,af,af,af,⟨0,Nat.zero_le _,rfl,rfl,rfl,rfl,(af),hI.draw⟩⟩,⟨?_,?_,?_,?_,?_,?_,?_,trivial⟩,?_⟩
    ·intro D aS  g9 jv jh gj gp gW w_
     rintro ⟨aA,az,aB,ax,aD,aC,aw,⟨n_,ln_,e1_,e2_,e3_,e4_,kp_,hS⟩⟩
     refine bj bl ?_
     exact ⟨fun _=>rfl,az,aB,ax,aD,aC,aw,⟨n_,ln_,e1_,e2_,e3_,e4_,kp_,hS⟩⟩
    ·intro D aS cA g9 jv jh gj gp gW w_
     rintro ⟨aA,az,aB,ax,aD,aC,aw,⟨n_,ln_,e1_,e2_,e3_,e4_,kp_,hS⟩⟩
     obtain rfl:=aA cA
     have ln2_:=KO e4_ kp_ aS
     refine eE aL ((Ho (fun h=>h.cellL (i:=0) rfl) (fun n hn h=>BN h hn) hS ln2_).trans rfl) ?_
     exact ⟨aA,fun _=>rfl,aB,ax,aD,aC,aw,⟨n_,ln_,e1_,e2_,e3_,e4_,(fun _=>rfl),hS⟩⟩
    ·intro D aS  g9 jv jh gj gp gW w_
     rintro ⟨aA,az,aB,ax,aD,aC,aw,⟨n_,ln_,e1_,e2_,e3_,e4_,kp_,hS⟩⟩
     obtain rfl:n_=0:=K5 e1_ aS
     refine Run.call0E dZ d4 (L:=[.blk b5 _,a5 _ ab 4 css,B4,rdI br sl (p+1)]) hS (eO ⟨#[116,114,117,101]⟩ (by decide) (lL S2) (by simp)) fun v' I' S3 w_=>?_
     rintro ⟨rfl,cs3,rfl,hcs3⟩ hE3 hI
     exact ⟨aA,az,fun _=>by first|assumption|trivial,ax,aD,aC,aw,⟨1,by decide,rfl,(by first|exact e2_|rfl),(by first|exact e3_|rfl),(by first|exact e4_|rfl),kp_,CB ⟨rfl,hE3,hcs3⟩ hcs3 hI⟩⟩
    ·intro D aS cM g9 jv jh gj gp gW w_
     rintro ⟨aA,az,aB,ax,aD,aC,aw,⟨n_,ln_,e1_,e2_,e3_,e4_,kp_,hS⟩⟩
     have LD:=aB cM
     obtain rfl:n_=1:=uv e1_ cM e2_ aS
     refine ap1 hS fun u w_ hS=>?_
     exact ⟨aA,az,aB,fun _=>by first|assumption|trivial,aD,aC,aw,⟨2,by decide,(by first|exact e1_|rfl),rfl,(by first|exact e3_|rfl),(by first|exact e4_|rfl),kp_,hS⟩⟩
    ·intro D aS dB o0 qD g9 jv jh gj gp gW w_
     rintro ⟨aA,az,aB,ax,aD,aC,aw,⟨n_,ln_,e1_,e2_,e3_,e4_,kp_,hS⟩⟩
     obtain rfl:=az dB
     have NB:=ax o0
     obtain rfl:n_=2:=uv e2_ o0 e3_ aS
     refine ap2 hS (by omega) fun u w_ hS=>?_
     exact ⟨aA,az,aB,ax,fun _=>by first|assumption|trivial,aC,aw,⟨3,by decide,(by first|exact e1_|rfl),(by first|exact e2_|rfl),rfl,(by first|exact e4_|rfl),kp_,hS⟩⟩
    ·intro D aS cA iz qD xd uq g9 jv jh gj gp gW w_
     rintro ⟨aA,az,aB,ax,aD,aC,aw,⟨n_,ln_,e1_,e2_,e3_,e4_,kp_,hS⟩⟩
     refine bj bl ?_
     exact ⟨aA,az,aB,ax,aD,fun _=>rfl,aw,⟨n_,ln_,e1_,e2_,e3_,e4_,kp_,hS⟩⟩
    ·intro D aS dT eD DA tP i8 uJ uE qF g9 jv jh gj gp gW w_
     rintro ⟨aA,az,aB,ax,aD,aC,aw,⟨n_,ln_,e1_,e2_,e3_,e4_,kp_,hS⟩⟩
     obtain rfl:=aC dT
     have Dl:=aD eD
     obtain rfl:n_=3:=uv e3_ eD e4_ aS
     refine ap3 hS (by simp) fun w_ hS=>?_
     exact ⟨aA,az,aB,ax,aD,aC,fun _=>trivial,⟨4,by decide,(by first|exact e1_|rfl),(by first|exact e2_|rfl),(by first|exact e3_|rfl),rfl,(fun _=>i8),hS⟩⟩
    intro D fj ft fL fX fM fP fY g9 jv jh gj gp gW w_
    rintro ⟨aA,az,aB,ax,aD,aC,aw,⟨n_,ln_,e1_,e2_,e3_,e4_,kp_,hS⟩⟩
    obtain rfl:n_=4:=KQ ln_ e4_ fj
    clear e1_ e2_ e3_ e4_
    obtain ⟨p3,S7,cs,⟨rfl,hE7,hcs⟩,hl,hI⟩:=hS
    have hR2:=(hR.monoR fun _ _ h=>RdT.mono hE7.1 h).snoc hcs hl.1
    have e4:(ByteArray.mk #[116,114,117,101]).size=4:=rfl
    refine ⟨⟨S7,_,_,_,hE2.trans hE7,hR2,by rw [List.length_append]; simp only [List.length_cons,List.length_nil]; omega,by rw [lC,List.length_append,List.length_cons,List.length_nil]; simp only [wL,wT,List.length_nil,e4]; omega,by rw [List.length_append]; omega,hhd.mono hE7.1,hI⟩,?_⟩
    obtain ⟨S',_,_,_,hr⟩:=yK hI hR2 (hhd.mono hE7.1)
    obtain ⟨a,q,e,_⟩:=hr
    have hl2:=sZ hI (i:=0) (o:=4) (a:=a) (n:=(ks++[T.mk 3 0 ⟨#[116,114,117,101]⟩ []]).length) (m:=q) rfl (by rw [<- e]; rfl)
    show 7 - vw w_ b5 4<7 - vw w' b5 4
    rw [hl1,hl2,List.length_append,List.length_cons,List.length_nil]
    omega
   ·exact hfin hE2 (by omega) hhd hR (by omega) hI
  refine bO ?_
  refine bF (fun _=>?_) (fun _=>?_)
  ·refine qr hI (by kernel_rfl) rfl (by omega) fun v S3 w' hE3 hv hI=>?_
   refine Run.callL iS iW hI (r5 (p:=p+1) (hrd.monoU (hE1.trans hE3).1) hv (by decide) (by omega)) rfl fun v' I' S3 w'=>?_
   rintro ⟨rfl,rfl,m,hm,rfl⟩ _ hI
   have hm:=xl (m:=7) hm (by decide)
   refine bj bQ ?_
   refine bj bH ?_
   refine ei hI 0 (n:=1) rfl (by decide +kernel) rfl (by simp) (by simp [Value.cells,Value.oneCell']) fun w' hI=>?_
   have hr0:=hhd0.mono hE3.1
   obtain ⟨k3,e3,_,_,_,hk3⟩:=RdT.iff.1 hr0
   have hr1:RdT S3 [.int .i64 c.head.kind,.int .i64 c.head.n,.string m,.slice ak nk ck] (.mk c.head.kind c.head.n m c.head.kids):=by
    simp only [List.cons.injEq,and_true,true_and] at e3
    exact RdT.iff.2 ⟨_,rfl,hk,hn,by simp only [T.name,maxLen]; omega,e3 ▸ hk3⟩
   refine hfin (hE1.trans hE3) (by omega) hr1 (hR.monoR fun _ _ h=>RdT.mono hE3.1 h) ?_ hI
   have:wT c.head=c.head.name.size+c.head.kids.length+wL c.head.kids:=by cases c.head; rw [wT]; rfl
   rw [wT]
   omega
  ·exact hfin hE1 (by omega) hhd0 hR (by omega) hI
 intro _ _ _ _ _ _ _ _ _ _ _ _ _ _ _ _ _ _ _ _ _ _ _ _ _ _ _ _ _ _ _ _ _ _ _ _ _ _ _ w'
 rintro ⟨p1,S2,cs1,c1,hp1,hE2,hr,hw1,hI⟩
 subst hB4
 refine aO hI 0 aI rfl (by simpa using hr.length) ?_
 refine aM hI 1 rfl aI (by simpa using hr.length) rfl (by simpa using hr.one) fun w' hI=>?_
 refine bA hI 1 aI rfl (by simpa using hr.length) ?_
 exact ⟨_,_,S2,rfl,hI.pick [false,false,true],hE2,p1,hp1,rfl,cs1,c1,rfl,hr,hw1⟩
end
end Go.Proofs.YtnmnddpdikghhaaGreat

/- spec.l4MutateAll, l4Texts, l4Program, l4Clause, l14Two. -/
namespace Go.Proofs.YtnmnddpdikghhaaGreat
open Go Go.RowKit
def Light (n m:Nat) (q:List C):Prop:=q.length<=n/\∀ c∈q,wC c<=m
theorem Light.le {n m:Nat} {q:List C} (h:Light n m q):q.length+wP q<=n+n * m:=by
 have:∀ q:List C,(∀ c∈q,wC c<=m)->wP q<=q.length * m:=by
  intro q
  induction q with
  | nil=>intro _; simp [wP]
  | cons c q ih=>
   intro h
   have h1:=h c (List.mem_cons_self ..)
   have h2:=ih fun d hd=>h d (List.mem_cons_of_mem _ hd)
   simp only [wP,List.length_cons,Nat.succ_mul]
   omega
 have h1:=this q h.2
 have h2:q.length * m<=n * m:=Nat.mul_le_mul_right _ h.1
 have:=h.1
 omega
theorem Light.append {n n' m:Nat} {q q':List C} (h:Light n m q) (h':Light n' m q'):Light (n+n') m (q++q'):=
 ⟨by rw [List.length_append]; exact Nat.add_le_add h.1 h'.1,fun c hc=>(List.mem_append.1 hc).elim (h.2 c) (h'.2 c)⟩
/- a program that is still the caller's own row -/
abbrev Ll (br:Nat) (sl:Value) (p k n m:Nat):Value->List Item->ay->Prop:=fun v I' S'=>∃ p' css q,p'<=p+k/\I'=[a5 v ac 5 css,rdI br sl p']/\Rows 5 (RdC S') css q/\Light n m q/\0<q.length/\∀ c∈q,bG c=true
section
variable {w0 w:World} {X:List Nat} {L A:List Item} {S:ay}
theorem Eu {v:Value} {css:List (List Value)} {q:List C} (hI:Inv w0 X (a5 v ac 5 css::A) S w) (hR:Rows 5 (RdC S) css q) :
  ∃ S',Ext w0.heap.size X S S'/\Inv w0 X A S' w/\RdSl S' 5 (RdC S') v q:=by
 have hI:Inv w0 X (A++[a5 v ac 5 css]) S w:=hI.last 0 rfl
 obtain ⟨S',hE,hrd,hI⟩:=Inv.lendExt hI
 exact ⟨S',hE,hI,RowRd.rows (hR.monoR fun _ _ h=>RdC.mono hE.1 h) hrd⟩
end
section
variable {br:Nat} {sl:Value} {ys:List Nat}
attribute [local irreducible] Run CondV ai a4
end
end Go.Proofs.YtnmnddpdikghhaaGreat

/- spec.l4Texts, l4Program, l4Clause, l14Two. -/
namespace Go.Proofs.YtnmnddpdikghhaaGreat
open Go Go.RowKit
def okS (s:ByteArray):Bool:=Jw (bs s) && decide (s.size<=1000)
theorem Kn {s:ByteArray} (h:okS s=true):∃ q,HP 60 (bs s)=some q/\0<q.length/\Light 8 200 q/\(∀ c∈q,bG c=true)/\s.size<=1000:=by
 rw [okS,Bool.and_eq_true,decide_eq_true_eq] at h
 obtain ⟨h,hs⟩:=h
 unfold Jw at h
 split at h
 ·rename_i q hq
  simp only [Bool.and_eq_true,decide_eq_true_eq,List.all_eq_true] at h
  exact ⟨q,hq,h.1,⟨h.2.1,fun c hc=>(h.2.2 c hc).2⟩,fun c hc=>(h.2.2 c hc).1,hs⟩
 ·cases h
section
attribute [local irreducible] Run CondV ai a4
theorem BB {S:ay} {s:ByteArray} (h:okS s=true):Tri Tryz.prog lp [.string s] [] S fun v I' S'=>∃ u css q,v=.tuple #[u,.bool true]/\I'=[a5 u ac 5 css]/\Rows 5 (RdC S') css q/\0<q.length/\Light 8 200 q/\∀ c∈q,bG c=true:=by
 obtain ⟨q,hq,h0,hl,hc,hs⟩:=Kn h
 intro w hI
 have hb:(bs s).length=s.size:=(kI (bs s)).symm
 refine (qN (f:=60) (by omega) hq (by rw [hb]; omega) w hI).mono ?_
 rintro e w' ⟨v,I',S',rfl,hI,hE,u,css,rfl,rfl,hR⟩
 exact ⟨_,_,S',rfl,hI,hE,u,css,q,rfl,rfl,hR,h0,hl,hc⟩
theorem AS (S:ay):Tri Tryz.prog Fi [] [] S fun v I' S'=>I'=[]/\∃ l,RdSl S' 1 pk v l/\l.length=11/\l.all okS=true:=by
 intro w hI
 refine wb ?_
 unfold s9
 refine qr hI (by kernel_rfl) rfl (by omega) fun v S1 w' hE1 hv hI=>?_
 exact ⟨_,[],S1,rfl,hI,hE1,rfl,_,hv,rfl,by decide +kernel⟩
variable {br:Nat} {sl:Value} {ys:List Nat}
theorem xf {p:Nat} {S:ay} (hrd:RdSl S 1 kR sl ys) (hp:p<=100000000):Tri Tryz.prog Ax [rdP br] [rdI br sl p] S (Ll br sl p 1 8 200):=by
 intro w hI
 refine sK ?_
 unfold ne
 refine Run.call0E CL B5 hI (AS S) fun v' I' S1 w'=>?_
 rintro ⟨rfl,l,hl,hl11,hok⟩ hE1 hI
 have hI:Inv w [br] [rdI br sl p] S1 w':=hI
 refine bm hl cH ?_
 refine Run.callL bU bT hI (dI (n:=l.length) (hrd.monoU hE1.1) (by omega) (by omega)) rfl fun v' I' S1 w'=>?_
 rintro ⟨rfl,rfl,k,hk,rfl⟩ _ hI
 have hI:Inv w [br] [rdI br sl (p+1)] S1 w':=hI
 refine iX hI hl cH bz hk (fun cs hcs=>hcs) ?_
 rw [List.all_eq_true] at hok
 refine Run.call0E j7 ku hI (BB (hok _ (List.getElem_mem hk))) fun v I' S2 w'=>?_
 rintro ⟨u,css,q,rfl,rfl,hR,h0,hq,hcv⟩ hE2 hI
 refine aT (v:=u) rfl ?_
 refine aT (v:=.bool true) rfl ?_
 exact ⟨_,_,S2,rfl,hI.last 0 rfl,hE1.trans hE2,p+1,css,q,Nat.le_refl _,rfl,hR,hq,h0,hcv⟩
end
end Go.Proofs.YtnmnddpdikghhaaGreat

/- spec: walks, occurrence, unification. -/
namespace Go.Proofs.YtnmnddpdikghhaaGreat
open Go Go.RowKit
/- bindings as a row of terms -/
def KnU (S:ay) (c:Array Value) (st:bu):Prop:=st.length * 4<=c.size/\∀ i (h:i<st.length),(st[i]=none->bJ c (i * 4) 4=tw)/\(∀ t,st[i]=some t->RdT S (bJ c (i * 4) 4) t)
abbrev kvU (kb N kp:Nat):Value:=.slice (some ⟨kb,0,none⟩) N kp
theorem KnU.set {S:ay} {c:Array Value} {st:bu} (h:KnU S c st) {n:Nat} (hn:n<st.length) {cs:List Value} {u:T} (hu:RdT S cs u):KnU S (cD c (n * 4) cs) (st.set n (some u)):=by
 have hlc:=hu.length
 have h1:=h.1
 have hs:st.length * 4<=(cD c (n * 4) cs).size:=by rw [kL _ _ _ (by omega)]; exact h1
 refine ⟨by rw [List.length_set]; exact hs,fun i hi=>?_⟩
 rw [List.length_set] at hi
 by_cases e:n=i
 ·subst e
  rw [List.getElem_set_self]
  refine ⟨fun h=>(by cases h),fun t ht=>?_⟩
  simp only [Option.some.injEq] at ht
  subst ht
  have:=gu (c:=c) (o:=n * 4) (vs:=cs) (by omega)
  rw [hlc] at this
  rw [this]
  exact hu
 ·rw [List.getElem_set_ne e,gg (by omega) (by omega)]
  exact h.2 i hi
theorem KnU.mono {S S':ay} {c:Array Value} {st:bu} (h:KnU S c st) (hs:Sle S S'):KnU S' c st:=⟨h.1,fun i hi=>⟨(h.2 i hi).1,fun t ht=>((h.2 i hi).2 t ht).mono hs⟩⟩
def vq (b:Nat) (r:Nat->Nat) (st:bu) (w:World):Nat:=
 match w.heap[b]? with
 | some (Obj.cells c _ _)=>(match c[0]?,c[1]? with
  | some (Value.int _ k),some (Value.int _ n)=>if (gL st (.mk k n emptyB [])).isSome=true then r n.toNat+1 else 0
  | _,_=>0)
 | _=>0
theorem rO {w0 w:World} {X:List Nat} {L:List Item} {S S0:ay} {cs:List Value} {t:T} {E:TypeId} {b i:Nat} (hI:Inv w0 X L S w) (hi:L[i]?=some (.blk b (.cells cs.toArray E))) (h:RdT S0 cs t) (r:Nat->Nat) (st:bu) :
  vq b r st w=if (gL st t).isSome=true then r t.n.toNat+1 else 0:=by
 obtain ⟨kv,rfl,_⟩:=RdT.iff.1 h
 have hb:w.heap[b]?=_:=hI.its _ (List.mem_of_getElem? hi)
 unfold vq
 rw [hb]
 obtain ⟨k,n,s,ks⟩:=t
 rfl
section
attribute [local irreducible] Run CondV ai a4
theorem lU {N:Nat} {st:bu} (hg:Good N st) {t v:T} (hw:dy st t v) (ht:okU N t) {S:ay} {cs:List Value} {kb kp:Nat} {kc:Array Value} (h:RdT S cs t) (hk:KnU S kc st) :
  Tri Tryz.prog FN [.agg cs.toArray,kvU kb N kp] [.blk kb (.cells kc ab)] S fun r I' S'=>S'=S/\I'=[.blk kb (.cells kc ab)]/\∃ cs',r=.agg cs'.toArray/\RdT S cs' v:=by
 intro w hI
 obtain ⟨X,hX⟩:∃ X,X=bS [Item.blk kb (.cells kc ab)]:=⟨_,rfl⟩
 rw [<- hX] at hI ⊢
 have hlN:=hg.len
 obtain ⟨r,hr⟩:=hg.rk
 refine xW ?_
 unfold ve;dsimp only
 refine bN hI fun b2 w' hI=>?_
 refine a9 hI bt fun b4 w' hI=>?_
 have hI:Inv w X [.blk kb (.cells kc ab),.blk b2 (.cells cs.toArray ab),.blk b4 (.cells #[.int .i64 0,.int .i64 0,.string ⟨#[]⟩,.slice none 0 0] ab)] S w':=hI
 refine ⟨fun w'=>∃ (t':T) (cs':List Value),dy st t' v/\okU N t'/\RdT S cs' t'/\Inv w X [.blk kb (.cells kc ab),.blk b2 (.cells cs'.toArray ab),.blk b4 (.cells #[.int .i64 0,.int .i64 0,.string ⟨#[]⟩,.slice none 0 0] ab)] S w',
  fun w'=>vq b2 r st w',⟨t,cs,hw,ht,h,hI⟩,?_⟩
 intro _ _ _ _ _ _ _ _ _ _ _ _ _ _ _ _ _ _ _ _ _ _ _ _ w'
 rintro ⟨t',cs',hw',ht',hcs',hI⟩
 have hrank:=rO hI (i:=1) rfl hcs' r st
 have hcs0:=hcs'
 obtain ⟨kv,rfl,_⟩:=RdT.iff.1 hcs'
 refine ⟨fun q w'=>q=.bool (gL st t').isSome/\Inv w X [.blk kb (.cells kc ab),.blk b2 (.cells #[.int .i64 t'.kind,.int .i64 t'.n,.string t'.name,kv] ab),.blk b4 (.cells #[.int .i64 0,.int .i64 0,.string ⟨#[]⟩,.slice none 0 0] ab)] S w',?_,?_⟩
 ·refine ar hI 1 rfl bv bg rfl ?_
  refine bO ?_
  by_cases hk1:t'.kind=1
  ·rw [decide_eq_true hk1]
   obtain ⟨hn0,hnN,_⟩:=ht'.var hk1
   obtain ⟨j,hj⟩:∃ j:Nat,t'.n=j:=⟨t'.n.toNat,by omega⟩
   have hjN:j<N:=by omega
   have hjs:j<st.length:=by omega
   repeat (first|refine ae ?_|refine ah (by decide) ?_|refine ad ?_|refine al ?_|refine aj ?_)
   refine ar hI 1 rfl bn bg rfl ?_
   refine iE aG ?_
   refine cF ?_
   rw [decide_eq_true hnN]
   repeat (first|refine ae ?_|refine ah (by decide) ?_|refine ad ?_|refine al ?_|refine aj ?_)
   refine ar hI 1 rfl bn bg rfl ?_
   rw [hj]
   refine bq aG hjN ?_
   refine bj bv ?_
   rw [Nat.zero_add,Nat.add_zero]
   obtain ⟨hno,hso⟩:=hk.2 j hjs
   rw [hj] at hI
   have hlk:gL st t'=st[j]:=by
    rw [gL,if_pos hk1,hj,Int.toNat_natCast,List.getElem?_eq_getElem hjs]; rfl
   rw [hlk]
   cases hst2:st[j] with
   | none=>
    have hcell:=hno hst2
    refine bB hI 0 bg rfl (by have:=bx hcell 0 _ rfl; exact this) ?_
    refine iD ?_
    repeat (first|refine ae ?_|refine ah (by decide) ?_|refine ad ?_|refine al ?_|refine aj ?_)
    refine ⟨by simp,hI⟩
   | some t0=>
    have hR:=hso t0 hst2
    have hk0:t0.kind≠0:=(hg.ok t0 (by rw [<- hst2]; exact List.getElem_mem hjs)).kind
    obtain ⟨kv0',hcell,_,_,_,_⟩:=RdT.iff.1 hR
    refine bB hI 0 bg rfl (by have:=bx hcell 0 _ rfl; exact this) ?_
    refine iD ?_
    rw [decide_eq_false hk0]
    repeat (first|refine ae ?_|refine ah (by decide) ?_|refine ad ?_|refine al ?_|refine aj ?_)
    refine ⟨rfl,hI⟩
  ·rw [decide_eq_false hk1]
   repeat (first|refine ae ?_|refine ah (by decide) ?_|refine ad ?_|refine al ?_|refine aj ?_)
   refine ⟨?_,hI⟩
   rw [gL,if_neg hk1]; rfl
 intro q _ _ _ _ _ _ _ _ _ _ _ _ _ _ _ _ _ _ w'
 rintro ⟨rfl,hI⟩
 refine a7 (fun hb=>?_) (fun hb=>?_)
 ·obtain ⟨u,hl⟩:=Option.isSome_iff_exists.1 hb
  obtain ⟨hk1,hs⟩:=dK.1 hl
  obtain ⟨hn0,hnN,_⟩:=ht'.var hk1
  obtain ⟨j,hj⟩:∃ j:Nat,t'.n=j:=⟨t'.n.toNat,by omega⟩
  have hjN:j<N:=by omega
  have hjs:j<st.length:=by omega
  rw [hj,Int.toNat_natCast] at hs
  have hst2:st[j]=some u:=by rw [List.getElem?_eq_getElem hjs,Option.some.injEq] at hs; exact hs
  have hR:=(hk.2 j hjs).2 u hst2
  have hwu:dy st u v:=by
   cases hw' with
   | stop h0=>rw [hl] at h0; cases h0
   | step h1 h2=>rw [hl,Option.some.injEq] at h1; rw [h1]; exact h2
  have hu:=(hg.look_ok hl).1
  refine ar hI 1 rfl bn bg rfl ?_
  rw [hj]
  refine bq aG hjN ?_
  rw [Nat.zero_add]
  refine cY hI 0 (bJ kc (j * 4) 4) ag rfl hR.length (fun i v hi=>bx rfl i v hi) ?_
  refine aM hI 1 rfl ag (by simpa using hR.length) rfl (by simpa using hR.one) fun w' hI=>?_
  have hI:Inv w X [.blk kb (.cells kc ab),.blk b2 (.cells (bJ kc (j * 4) 4).toArray ab),.blk b4 (.cells #[.int .i64 0,.int .i64 0,.string ⟨#[]⟩,.slice none 0 0] ab)] S w':=hI
  refine ⟨⟨u,_,hwu,hu,hR,hI⟩,?_⟩
  have hrank2:=rO hI (i:=1) rfl hR r st
  show vq b2 r st w'<vq b2 r st _
  rw [hrank,hrank2,if_pos hb,hj,Int.toNat_natCast]
  split
  ·rename_i hl2
   obtain ⟨u2,hl2⟩:=Option.isSome_iff_exists.1 hl2
   have:=hr j u hs u.n.toNat (by rw [iK (dK.1 hl2).1]; exact List.mem_singleton.2 rfl)
   omega
  ·omega
 ·have hv:v=t':=by
   cases hw' with
   | stop _=>rfl
   | step h1 _=>rw [h1] at hb; cases hb
  subst hv
  refine aO hI 1 ag rfl rfl ?_
  refine aM hI 2 rfl ag rfl rfl (by simpa using hcs0.one) fun w' hI=>?_
  refine bA hI 2 ag rfl rfl ?_
  exact ⟨_,_,_,rfl,hI.pick [true,false,false],Ext.refl _ _ _,rfl,rfl,_,rfl,hcs0⟩
end
/- the variables of a term in a list of numbers -/
theorem IB (l:List Int) (n x:Int):x∈iA l n↔x∈l ∨ x=n:=by
 unfold iA
 split
 ·rename_i h
  rw [oi] at h
  constructor
  ·exact .inl
  ·rintro (h1|rfl)
   ·exact h1
   ·exact h
 ·simp
mutual
theorem jQ {N:Nat}:∀ (t:T) (l:List Int),okU N t->∀ x,x∈ew t l↔x∈l ∨ ∃ m∈vT t,x=(m:Int)
 | .mk k n s ks,l,h,x=>by
  rw [okU] at h
  rw [ew,vT]
  by_cases hk:k=1
  ·rw [if_pos hk,if_pos hk,IB]
   have:=(h.2.1 hk).1
   constructor
   ·rintro (h1|h1)
    ·exact .inl h1
    ·exact .inr ⟨n.toNat,List.mem_singleton.2 rfl,by omega⟩
   ·rintro (h1|⟨m,hm,e⟩)
    ·exact .inl h1
    ·rw [List.mem_singleton] at hm
     exact .inr (by omega)
  ·rw [if_neg hk,if_neg hk]
   exact zA ks l h.2.2.1 x
theorem zA {N:Nat}:∀ (ts:List T) (l:List Int),dA N ts->∀ x,x∈cW ts l↔x∈l ∨ ∃ m∈vTL ts,x=(m:Int)
 | [],l,_,x=>by simp [cW,vTL]
 | t::ts,l,h,x=>by
  rw [dA] at h
  rw [cW,vTL,zA ts _ h.2,jQ t l h.1]
  simp only [List.mem_append]
  constructor
  ·rintro ((h|⟨m,h,e⟩)|⟨m,h,e⟩)
   ·exact .inl h
   ·exact .inr ⟨m,.inl h,e⟩
   ·exact .inr ⟨m,.inr h,e⟩
  ·rintro (h|⟨m,h|h,e⟩)
   ·exact .inl (.inl h)
   ·exact .inl (.inr ⟨m,h,e⟩)
   ·exact .inr ⟨m,h,e⟩
end
mutual
theorem tL:∀ (t:T) (l:List Int),l.Nodup->(ew t l).Nodup
 | .mk k n s ks,l,h=>by
  rw [ew]
  split
  ·exact xx n h
  ·exact Bu ks l h
theorem Bu:∀ (ts:List T) (l:List Int),l.Nodup->(cW ts l).Nodup
 | [],l,h=>by rw [cW]; exact h
 | t::ts,l,h=>by rw [cW]; exact Bu ts _ (tL t l h)
end
theorem Kp (l:List Int) (n:Int):l <+: iA l n:=by
 unfold iA
 split
 ·exact List.prefix_refl _
 ·exact List.prefix_append _ _
mutual
theorem y3:∀ (t:T) (l:List Int),l <+: ew t l
 | .mk k n s ks,l=>by
  rw [ew]
  split
  ·exact Kp l n
  ·exact xz ks l
theorem xz:∀ (ts:List T) (l:List Int),l <+: cW ts l
 | [],l=>by rw [cW]; exact List.prefix_refl _
 | t::ts,l=>by
  rw [cW]
  exact (y3 t l).trans (xz ts _)
end
theorem D9 (t:T):dQ t<=1+(wT t:Int):=by
 have:=ze [t]
 simp only [cZ,wL,List.length_cons,List.length_nil] at this
 omega
theorem KS:∀ (N:Nat) (l:List Int),l.Nodup->(∀ x∈l,0<=x/\x<N)->l.length<=N:=by
 intro N l hd h
 have hsub:∀ x∈l,x∈(List.range N).map (fun i:Nat=>(i:Int)):=fun x hx=>by
  obtain ⟨h1,h2⟩:=h x hx
  exact List.mem_map.2 ⟨x.toNat,List.mem_range.2 (by omega),by omega⟩
 have:=List.Nodup.length_le_of_subset hd hsub
 simpa using this
section
attribute [local irreducible] Run CondV ai a4
open Classical in
theorem yn {N:Nat} (hN:N<=1000000) {st:bu} (hg:Good N st) {t:T} (ht:okU N t) (hwt:wT t<=1048576) (n:Int) (hn0:0<=n) {S:ay} {cs:List Value} {kb kp:Nat} {kc:Array Value} (h:RdT S cs t) (hk:KnU S kc st) :
  Tri Tryz.prog CG [.int .i64 n,.agg cs.toArray,kvU kb N kp] [.blk kb (.cells kc ab)] S fun r I' S'=>S'=S/\I'=[.blk kb (.cells kc ab)]/\r=.bool (decide (fi st n.toNat t)):=by
 intro w hI
 obtain ⟨X,hX⟩:∃ X,X=bS [Item.blk kb (.cells kc ab)]:=⟨_,rfl⟩
 rw [<- hX] at hI ⊢
 have hlN:=hg.len
 have hlc:=h.length
 have hct:=D9 t
 refine uo ?_
 unfold pq
 refine bN hI fun b4 w' hI=>?_
 have hI:Inv w X [.blk kb (.cells kc ab),.blk b4 (.cells cs.toArray ab)] S w':=hI
 refine aO hI 1 ag rfl (by simpa using hlc) ?_
 have hI:Inv w X [.blk kb (.cells kc ab)] S w':=hI.pick [true,false]
 have hI:=hI.rowNil dw 1
 refine Run.call (A:=[_]) j9 kE hI (l7 t S cs (.slice none 0 0) [] h (by simp only [List.length_nil]; omega)) fun v' I' S' w'=>?_
 rintro ⟨rfl,eS⟩ _ hI
 rw [eS] at hI
 clear eS
 refine ⟨fun i t7 w'=>∃ (j:Nat) (ws:List Int),i=.int .i64 j/\j<=ws.length/\ws.Nodup/\(∀ x∈ws,0<=x/\x<N)/\(∀ x∈ws,∃ m∈vT t,Rch st m x.toNat)/\(∀ m∈vT t,(m:Int)∈ws)/\
   (∀ k (hk:k<ws.length),k<j->ws[k]≠n/\∀ u,st[ws[k].toNat]?=some (some u)->∀ m∈vT u,(m:Int)∈ws)/\Inv w X [.blk kb (.cells kc ab),el t7 ws] S w',
  fun i _ _=>N - (intOf i).toNat,⟨0,_,rfl,Nat.zero_le _,tL t [] List.nodup_nil,fun x hx=>?_,fun x hx=>?_,fun m hm=>?_,fun k _ hk0=>absurd hk0 (by omega),hI⟩,?_⟩
 ·rcases (jQ t [] ht x).1 hx with hx|⟨m,hm,rfl⟩
  ·cases hx
  ·have:=Ki t ht m hm
   omega
 ·rcases (jQ t [] ht x).1 hx with hx|⟨m,hm,rfl⟩
  ·cases hx
  ·exact ⟨m,hm,by rw [Int.toNat_natCast]; exact .refl m⟩
 ·exact (jQ t [] ht _).2 (.inr ⟨m,hm,rfl⟩)
 intro t8 _ _ t7 _ _ _ _ _ _ _ _ _ _ _ _ _ _ _ _ _ _ _ _ _ _ _ _ _ _ _ _ _ _ _ _ _ _ _ _ _ _ w'
 rintro ⟨j,ws,rfl,hj,hnd,hrng,hreach,hroot,hdone,hI⟩
 have hwl:=KS N ws hnd hrng
 obtain ⟨S1,hle,hrd,hI1,hback⟩:=Inv.lend (A:=[_]) hI
 have hrd:=hrd.ints
 refine bm hrd gB ?_
 refine cF ?_
 refine bF (fun hji=>?_) (fun hji=>?_)
 ·have hj':j<ws.length:=by omega
  obtain ⟨hx0,hxN⟩:=hrng _ (List.getElem_mem hj')
  obtain ⟨x,hx⟩:∃ x:Nat,ws[j]=x:=⟨ws[j].toNat,by omega⟩
  have hxs:x<st.length:=by omega
  refine ⟨fun t7' w'=>∃ ws':List Int,ws'.Nodup/\(∀ x∈ws',0<=x/\x<N)/\(∀ x∈ws',∃ m∈vT t,Rch st m x.toNat)/\(∀ y∈ws,y∈ws')/\ws <+: ws'/\
   ws[j]≠n/\(∀ u,st[x]?=some (some u)->∀ m∈vT u,(m:Int)∈ws')/\Inv w X [.blk kb (.cells kc ab),el t7' ws'] S w',?_,?_⟩
  ·refine iX hI1 hrd gB bg hj' (fun cs hcs=>hcs) ?_
   refine bO ?_
   refine bF (fun he=>?_) (fun he=>?_)
   ·have hocc:fi st n.toNat t:=by
     obtain ⟨m,hm,hr⟩:=hreach _ (List.getElem_mem hj')
     rw [he] at hr
     exact ⟨m,hm,hr⟩
    have hI:=hback _ _ hI1
    refine ⟨_,_,_,rfl,hI.pick [true,false],Ext.refl _ _ _,rfl,rfl,?_⟩
    rw [decide_eq_true hocc]
   ·refine ⟨fun q w'=>q=.bool (decide (∃ u,st[x]?=some (some u)))/\Inv w X [.blk kb (.cells kc ab)] S1 w',?_,?_⟩
    ·refine iX hI1 hrd gB bg hj' (fun cs hcs=>hcs) ?_
     refine iE aG ?_
     refine cF ?_
     rw [decide_eq_true hxN]
     repeat (first|refine ae ?_|refine ah (by decide) ?_|refine ad ?_|refine al ?_|refine aj ?_)
     refine iX hI1 hrd gB bg hj' (fun cs hcs=>hcs) ?_
     rw [hx]
     refine bq aG (by omega) ?_
     refine bj bv ?_
     rw [Nat.zero_add,Nat.add_zero]
     obtain ⟨hno,hso⟩:=hk.2 x hxs
     cases hst2:st[x] with
     | none=>
      have hcell:=hno hst2
      refine bB hI1 0 bg rfl (by have:=bx hcell 0 _ rfl; exact this) ?_
      refine iD ?_
      repeat (first|refine ae ?_|refine ah (by decide) ?_|refine ad ?_|refine al ?_|refine aj ?_)
      refine ⟨?_,hI1⟩
      rw [decide_eq_false (show ¬ ∃ u,st[x]?=some (some u) from fun ⟨u,hu⟩=>by rw [List.getElem?_eq_getElem hxs,hst2] at hu; cases hu)]
      simp
     | some t0=>
      have hR:=hso t0 hst2
      have hk0:t0.kind≠0:=(hg.ok t0 (by rw [<- hst2]; exact List.getElem_mem hxs)).kind
      obtain ⟨kv0',hcell,_,_,_,_⟩:=RdT.iff.1 hR
      refine bB hI1 0 bg rfl (by have:=bx hcell 0 _ rfl; exact this) ?_
      refine iD ?_
      rw [decide_eq_false hk0]
      repeat (first|refine ae ?_|refine ah (by decide) ?_|refine ad ?_|refine al ?_|refine aj ?_)
      refine ⟨?_,hI1⟩
      rw [decide_eq_true (show ∃ u,st[x]?=some (some u) from ⟨t0,by rw [List.getElem?_eq_getElem hxs,hst2]⟩)]
      rfl
    intro q _ _ _ _ _ _ _ _ _ _ _ _ _ _ _ _ _ w'
    rintro ⟨rfl,hI1⟩
    refine bF (fun hq=>?_) (fun hq=>?_)
    ·obtain ⟨u,hu⟩:=hq
     have hst2:st[x]=some u:=by rw [List.getElem?_eq_getElem hxs,Option.some.injEq] at hu; exact hu
     have hR:=(hk.2 x hxs).2 u hst2
     have hum:=List.mem_of_getElem? hu
     have hou:=hg.ok u hum
     have hwu:=hg.w u hum
     have hcu:=D9 u
     refine iX hI1 hrd gB bg hj' (fun cs hcs=>hcs) ?_
     rw [hx]
     refine bq aG (by omega) ?_
     rw [Nat.zero_add]
     refine cY hI1 0 (bJ kc (x * 4) 4) ag rfl hR.length (fun i v hi=>bx rfl i v hi) ?_
     have hI:=hback _ _ hI1
     refine Run.call (A:=[_]) j9 kE hI (l7 u S _ t7 ws hR (by omega)) fun v' I' S' w'=>?_
     rintro ⟨rfl,eS⟩ _ hI
     rw [eS] at hI
     clear eS
     have hmem:=jQ u ws hou
     refine ⟨_,tL u ws hnd,fun y hy=>?_,fun y hy=>?_,fun y hy=>(hmem y).2 (.inl hy),y3 u ws,by rw [<- hx]; exact he,fun u' hu' m hm=>?_,hI⟩
     ·rcases (hmem y).1 hy with hy|⟨m,hm,rfl⟩
      ·exact hrng y hy
      ·have:=Ki u hou m hm
       omega
     ·rcases (hmem y).1 hy with hy|⟨m,hm,rfl⟩
      ·exact hreach y hy
      ·obtain ⟨m0,hm0,hr0⟩:=hreach _ (List.getElem_mem hj')
       rw [hx,Int.toNat_natCast] at hr0
       exact ⟨m0,hm0,hr0.trans (.step hu hm (by rw [Int.toNat_natCast]; exact .refl m))⟩
     ·rw [hu,Option.some.injEq,Option.some.injEq] at hu'
      subst hu'
      exact (hmem _).2 (.inr ⟨m,hm,rfl⟩)
    ·have hI:=hback _ _ hI1
     exact ⟨ws,hnd,hrng,hreach,fun y hy=>hy,List.prefix_refl _,he,fun u hu=>absurd ⟨u,hu⟩ hq,hI⟩
  intro t7' _ _ _ _ _ _ _ _ _ _ _ _ _ _ _ _ _ _ _ _ _ _ _ _ _ _ _ _ _ _ _ _ _ _ w'
  rintro ⟨ws',hnd',hrng',hreach',hsub,hpf,hne,hcl,hI⟩
  have hl':=hpf.length_le
  have hpre:∀ k (hk:k<ws.length),ws'[k]'(by omega)=ws[k]:=fun k hk=>(hpf.getElem hk).symm
  refine bR (by omega) ?_
  refine ⟨⟨j+1,ws',rfl,by omega,hnd',hrng',hreach',fun m hm=>hsub _ (hroot m hm),fun k hk' hkj=>?_,hI⟩,by simp [intOf]; omega⟩
  by_cases e:k=j
  ·subst e
   have e1:=hpre k hj'
   rw [e1]
   refine ⟨hne,fun u hu=>?_⟩
   rw [hx,Int.toNat_natCast] at hu
   exact hcl u hu
  ·have hkl:k<ws.length:=by omega
   rw [hpre k hkl]
   obtain ⟨h1,h2⟩:=hdone k hkl (by omega)
   exact ⟨h1,fun u hu m hm=>hsub _ (h2 u hu m hm)⟩
 ·have hj2:j=ws.length:=by omega
  have hno:¬ fi st n.toNat t:=by
   rintro ⟨m,hm,hr⟩
   have key:∀ a c,Rch st a c->(a:Int)∈ws->(c:Int)∈ws:=by
    intro a c hac
    induction hac with
    | refl=>exact id
    | step h1 h2 _ ih=>
     intro ha
     obtain ⟨k,hk,e⟩:=List.mem_iff_getElem.1 ha
     refine ih ((hdone k hk (by omega)).2 _ ?_ _ h2)
     rw [e,Int.toNat_natCast]
     exact h1
   have h1:=key m _ hr (hroot m hm)
   obtain ⟨k,hk,e⟩:=List.mem_iff_getElem.1 h1
   exact (hdone k hk (by omega)).1 (by rw [e]; omega)
  have hI:=hback _ _ hI1
  refine ⟨_,_,_,rfl,hI.pick [true,false],Ext.refl _ _ _,rfl,rfl,?_⟩
  rw [decide_eq_false hno]
end

end Go.Proofs.YtnmnddpdikghhaaGreat

/- spec.l3Unify. -/
namespace Go.Proofs.YtnmnddpdikghhaaGreat
open Go Go.RowKit
/- the calls of a loop over two lists -/
inductive Chain (Call:bu->T->T->Bool->bu->Prop):bu->List T->List T->Bool->bu->Prop
 | nil {st:bu}:Chain Call st [] [] true st
 | stop {st st':bu} {a b:T} {xs ys:List T}:Call st a b false st'->Chain Call st (a::xs) (b::ys) false st'
 | go {st st1 st':bu} {a b:T} {xs ys:List T} {r:Bool}:Call st a b true st1->Chain Call st1 xs ys r st'->Chain Call st (a::xs) (b::ys) r st'
theorem Chain.head {Call:bu->T->T->Bool->bu->Prop} {st st':bu} {a b:T} {xs ys:List T} {r:Bool} (h:Chain Call st (a::xs) (b::ys) r st') :
  ∃ r1 st1,Call st a b r1 st1/\(r1=false->r=false/\st'=st1)/\(r1=true->Chain Call st1 xs ys r st'):=by
 cases h with
 | stop h=>exact ⟨false,_,h,fun _=>⟨rfl,rfl⟩,fun e=>(by cases e)⟩
 | go h h'=>exact ⟨true,_,h,fun e=>(by cases e),fun _=>h'⟩
theorem Chain.done {Call:bu->T->T->Bool->bu->Prop} {st st':bu} {r:Bool} (h:Chain Call st [] [] r st'):r=true/\st'=st:=by
 cases h
 exact ⟨rfl,rfl⟩
/- how a unification of walked terms ends -/
def Kt (Call:bu->T->T->Bool->bu->Prop) (st:bu) (a' b':T) (r:Bool) (st':bu):Prop:=
 (a'.kind=1/\b'.kind=1/\a'.n=b'.n/\r=true/\st'=st) ∨
 (a'.kind=1/\¬ (b'.kind=1/\a'.n=b'.n)/\((¬ fi st a'.n.toNat b'/\r=true/\st'=st.set a'.n.toNat (some b')) ∨ (fi st a'.n.toNat b'/\r=false/\st'=st))) ∨
 (a'.kind≠1/\b'.kind=1/\((¬ fi st b'.n.toNat a'/\r=true/\st'=st.set b'.n.toNat (some a')) ∨ (fi st b'.n.toNat a'/\r=false/\st'=st))) ∨
 (a'.kind≠1/\b'.kind≠1/\((jk a' b'=false/\r=false/\st'=st) ∨ (jk a' b'=true/\Chain Call st a'.kids b'.kids r st')))
theorem Uni.calls {N:Nat} {Call:bu->T->T->Bool->bu->Prop} (hcall:∀ st a b a' b' r st',Good N st->okJ N (.one a b)->dy st a a'->dy st b b'->Kt Call st a' b' r st'->Call st a b r st') {st st':bu} {j:Job} {r:Bool} (hu:Uni st j r st') :
  Good N st->okJ N j->match j with
   | .one a b=>Call st a b r st'
   | .list xs ys=>Chain Call st xs ys r st':=by
 induction hu with
 | same h1 h2 h3 h4 h5=>exact fun hg hj=>hcall _ _ _ _ _ _ _ hg hj h1 h2 (.inl ⟨h3,h4,h5,rfl,rfl⟩)
 | bindA h1 h2 h3 h4 h5=>exact fun hg hj=>hcall _ _ _ _ _ _ _ hg hj h1 h2 (.inr (.inl ⟨h3,h4,.inl ⟨h5,rfl,rfl⟩⟩))
 | occA h1 h2 h3 h4 h5=>exact fun hg hj=>hcall _ _ _ _ _ _ _ hg hj h1 h2 (.inr (.inl ⟨h3,h4,.inr ⟨h5,rfl,rfl⟩⟩))
 | bindB h1 h2 h3 h4 h5=>exact fun hg hj=>hcall _ _ _ _ _ _ _ hg hj h1 h2 (.inr (.inr (.inl ⟨h3,h4,.inl ⟨h5,rfl,rfl⟩⟩)))
 | occB h1 h2 h3 h4 h5=>exact fun hg hj=>hcall _ _ _ _ _ _ _ hg hj h1 h2 (.inr (.inr (.inl ⟨h3,h4,.inr ⟨h5,rfl,rfl⟩⟩)))
 | clash h1 h2 h3 h4 h5=>exact fun hg hj=>hcall _ _ _ _ _ _ _ hg hj h1 h2 (.inr (.inr (.inr ⟨h3,h4,.inl ⟨h5,rfl,rfl⟩⟩)))
 | kids h1 h2 h3 h4 h5 _ ih=>
  exact fun hg hj=>hcall _ _ _ _ _ _ _ hg hj h1 h2 (.inr (.inr (.inr ⟨h3,h4,.inr ⟨h5,ih hg ⟨ky (eG hg h1 hj.1),ky (eG hg h2 hj.2),nq h5⟩⟩⟩)))
 | nil=>exact fun _ _=>.nil
 | stop _ ih=>exact fun hg hj=>.stop (ih hg ⟨hj.1 _ (List.mem_cons_self ..),hj.2.1 _ (List.mem_cons_self ..)⟩)
 | go h1 _ ih1 ih2=>
  intro hg hj
  have hj1:okJ N (.one _ _):=⟨hj.1 _ (List.mem_cons_self ..),hj.2.1 _ (List.mem_cons_self ..)⟩
  exact .go (ih1 hg hj1) (ih2 (h1.good hg hj1).1 ⟨fun a ha=>hj.1 a (List.mem_cons_of_mem _ ha),fun b hb=>hj.2.1 b (List.mem_cons_of_mem _ hb),by have:=hj.2.2; simpa using this⟩)
def UC (N kp:Nat) (st:bu) (a b:T) (r:Bool) (st':bu):Prop:=∀ (S:ay) (cs ds:List Value) (kb:Nat) (kc:Array Value),RdT S cs a->RdT S ds b->KnU S kc st->
 Tri Tryz.prog DC [.agg cs.toArray,.agg ds.toArray,kvU kb N kp] [.blk kb (.cells kc ab)] S fun q I' S'=>S'=S/\q=.bool r/\∃ kc',I'=[.blk kb (.cells kc' ab)]/\KnU S kc' st'
section
attribute [local irreducible] Run CondV ai a4
set_option maxHeartbeats 1000000 in
/- the case that a nonvariable meets a variable is handed on, so it comes with a contract -/
theorem rP {N kp:Nat} (hN:N<=1000000) {st st':bu} {a b a' b':T} {r:Bool} (hg:Good N st) (hj:okJ N (.one a b)) (hwa:dy st a a') (hwb:dy st b b')
  (hsw:a'.kind≠1->b'.kind=1->UC N kp st b' a' r st') (he:Kt (UC N kp) st a' b' r st'):UC N kp st a b r st':=by
 intro S cs ds kb kc h h' hkc w hI
 have hlc:=h.length
 have hld:=h'.length
 have hoa:=eG hg hwa hj.1
 have hob:=eG hg hwb hj.2
 have hlN:=hg.len
 obtain ⟨X,hX⟩:∃ X,X=bS [Item.blk kb (.cells kc ab)]:=⟨_,rfl⟩
 rw [<- hX] at hI ⊢
 refine xb ?_
 unfold tc;dsimp only
 refine bN hI fun b1 w' hI=>?_
 refine bN hI fun b2 w' hI=>?_
 have hI:Inv w X ([.blk b1 (.cells cs.toArray ab),.blk b2 (.cells ds.toArray ab)]++[.blk kb (.cells kc ab)]) S w':=hI.perm (List.perm_append_comm (l₁:=[_,_]) (l₂:=[_]))
 refine aO hI 0 ag rfl (by simpa using hlc) ?_
 refine Run.call nv nI hI (lU hg hwa hj.1.1 h hkc) fun v' I' S' w'=>?_
 rintro ⟨eS,rfl,cs',rfl,hcs'⟩ _ hI
 rw [eS] at hI
 clear eS
 refine aM hI 0 rfl ag (by simpa using hcs'.length) (by simpa using hlc) (by simpa using hcs'.one) fun w' hI=>?_
 have hI:Inv w X ([.blk b1 (.cells cs'.toArray ab),.blk b2 (.cells ds.toArray ab)]++[.blk kb (.cells kc ab)]) S w':=hI
 refine aO hI 1 ag rfl (by simpa using hld) ?_
 refine Run.call nv nI hI (lU hg hwb hj.2.1 h' hkc) fun v' I' S' w'=>?_
 rintro ⟨eS,rfl,ds',rfl,hds'⟩ _ hI
 rw [eS] at hI
 clear eS
 refine aM hI 1 rfl ag (by simpa using hds'.length) (by simpa using hld) (by simpa using hds'.one) fun w' hI=>?_
 have hI:Inv w X [.blk b1 (.cells cs'.toArray ab),.blk b2 (.cells ds'.toArray ab),.blk kb (.cells kc ab)] S w':=hI
 have hcs:=hcs'
 have hds:=hds'
 obtain ⟨kv,rfl,_,_,_,hks⟩:=RdT.iff.1 hcs'
 obtain ⟨kv',rfl,_,_,_,hks'⟩:=RdT.iff.1 hds'
 obtain ⟨k,n,s,ks⟩:=a'
 obtain ⟨k',n',s',ks'⟩:=b'
 unfold Kt at he
 simp only [T.name,T.kids,T.kind,T.n] at hks hks' hI he hsw ⊢
 have hlen:=hks.le
 simp only [maxLen] at hlen
 refine ⟨fun q w'=>q=.bool (decide (k=1/\k'=1/\n=n'))/\Inv w X [.blk b1 (.cells #[.int .i64 k,.int .i64 n,.string s,kv] ab),.blk b2 (.cells #[.int .i64 k',.int .i64 n',.string s',kv'] ab),.blk kb (.cells kc ab)] S w',?_,?_⟩
 ·refine ar hI 0 rfl bv bg rfl ?_
  refine bO ?_
  by_cases e1:k=1
  ·rw [decide_eq_true e1]
   repeat (first|refine ae ?_|refine ah (by decide) ?_|refine ad ?_|refine al ?_|refine aj ?_)
   refine ar hI 1 rfl bv bg rfl ?_
   refine bO ?_
   by_cases e2:k'=1
   ·rw [decide_eq_true e2]
    repeat (first|refine ae ?_|refine ah (by decide) ?_|refine ad ?_|refine al ?_|refine aj ?_)
    refine ar hI 0 rfl bn bg rfl ?_
    refine ar hI 1 rfl bn bg rfl ?_
    refine bO ?_
    repeat (first|refine ae ?_|refine ah (by decide) ?_|refine ad ?_|refine al ?_|refine aj ?_)
    exact ⟨by simp [e1,e2],hI⟩
   ·rw [decide_eq_false e2]
    repeat (first|refine ae ?_|refine ah (by decide) ?_|refine ad ?_|refine al ?_|refine aj ?_)
    exact ⟨by simp [e2],hI⟩
  ·rw [decide_eq_false e1]
   repeat (first|refine ae ?_|refine ah (by decide) ?_|refine ad ?_|refine al ?_|refine aj ?_)
   exact ⟨by simp [e1],hI⟩
 intro q _ _ _ _ _ _ _ _ _ _ _ _ _ _ w'
 rintro ⟨rfl,hI⟩
 refine bF (fun hsame=>?_) (fun hsame=>?_)
 ·have:r=true/\st'=st:=by
   rcases he with ⟨_,_,_,h1,h2⟩|⟨_,h1,_⟩|⟨h1,_,_⟩|⟨h1,_,_⟩
   ·exact ⟨h1,h2⟩
   ·exact absurd hsame.2 h1
   ·exact absurd hsame.1 h1
   ·exact absurd hsame.1 h1
  obtain ⟨rfl,rfl⟩:=this
  exact ⟨_,_,_,rfl,hI.pick [false,false,true],Ext.refl _ _ _,rfl,rfl,_,rfl,hkc⟩
 refine ar hI 0 rfl bv bg rfl ?_
 refine bO ?_
 refine bF (fun hk1=>?_) (fun hk1=>?_)
 ·have hend:(¬ fi st n.toNat (.mk k' n' s' ks')/\r=true/\st'=st.set n.toNat (some (.mk k' n' s' ks'))) ∨ (fi st n.toNat (.mk k' n' s' ks')/\r=false/\st'=st):=by
   rcases he with ⟨h1,h2,h3,_⟩|⟨_,_,h1⟩|⟨h1,_,_⟩|⟨h1,_,_⟩
   ·exact absurd ⟨h1,h2,h3⟩ hsame
   ·exact h1
   ·exact absurd hk1 h1
   ·exact absurd hk1 h1
  obtain ⟨hn0,hnN,_⟩:=hoa.1.var hk1
  simp only [T.n] at hn0 hnN
  obtain ⟨j,rfl⟩:∃ j:Nat,n=j:=⟨n.toNat,by omega⟩
  refine ar hI 0 rfl bn bg rfl ?_
  refine aO hI 1 ag rfl rfl ?_
  refine Run.call (A:=[_,_]) z9 Ap hI (yn hN hg hob.1 hob.2 j (by omega) hds hkc) fun v' I' S' w'=>?_
  rintro ⟨eS,rfl,rfl⟩ _ hI
  rw [eS] at hI
  clear eS
  have hI:Inv w X [.blk b1 (.cells #[.int .i64 k,.int .i64 j,.string s,kv] ab),.blk b2 (.cells #[.int .i64 k',.int .i64 n',.string s',kv'] ab),.blk kb (.cells kc ab)] S w':=hI
  refine a7 (fun hb=>?_) (fun hb=>?_)
  ·have hocc:fi st (Int.toNat j) (.mk k' n' s' ks'):=@of_decide_eq_true _ (Classical.propDecidable _) hb
   have:r=false/\st'=st:=by
    rcases hend with ⟨h1,_⟩|⟨_,h1⟩
    ·exact absurd hocc h1
    ·exact h1
   obtain ⟨rfl,rfl⟩:=this
   exact ⟨_,_,_,rfl,hI.pick [false,false,true],Ext.refl _ _ _,rfl,rfl,_,rfl,hkc⟩
  ·have hocc:¬ fi st (Int.toNat j) (.mk k' n' s' ks'):=@of_decide_eq_false _ (Classical.propDecidable _) hb
   have:r=true/\st'=st.set (Int.toNat j) (some (.mk k' n' s' ks')):=by
    rcases hend with ⟨_,h1⟩|⟨h1,_⟩
    ·exact h1
    ·exact absurd h1 hocc
   obtain ⟨rfl,rfl⟩:=this
   rw [Int.toNat_natCast]
   refine ar hI 0 rfl bn bg rfl ?_
   refine aO hI 1 ag rfl rfl ?_
   refine bq aG (by omega) ?_
   rw [Nat.zero_add]
   refine yC hI 2 rfl ag rfl (by have:=hkc.1; exact Nat.ble_eq_true_of_le (by omega)) hds.one fun w' hI=>?_
   exact ⟨_,_,_,rfl,hI.pick [false,false,true],Ext.refl _ _ _,rfl,rfl,_,rfl,hkc.set (by omega) hds⟩
 refine ar hI 1 rfl bv bg rfl ?_
 refine bO ?_
 refine bF (fun hk2=>?_) (fun hk2=>?_)
 ·refine aO hI 1 ag rfl rfl ?_
  refine aO hI 0 ag rfl rfl ?_
  refine Run.call (A:=[_,_]) lR l8 hI (hsw hk1 hk2 S _ _ kb kc hds hcs hkc) fun v' I' S' w'=>?_
  rintro ⟨eS,rfl,kc',rfl,hkc'⟩ _ hI
  rw [eS] at hI
  clear eS
  exact ⟨_,_,_,rfl,hI.pick [false,false,true],Ext.refl _ _ _,rfl,rfl,_,rfl,hkc'⟩
 have hend:(jk (.mk k n s ks) (.mk k' n' s' ks')=false/\r=false/\st'=st) ∨ (jk (.mk k n s ks) (.mk k' n' s' ks')=true/\Chain (UC N kp) st ks ks' r st'):=by
  rcases he with ⟨h1,_⟩|⟨h1,_,_⟩|⟨_,h1,_⟩|⟨_,_,h1⟩
  ·exact absurd h1 hk1
  ·exact absurd h1 hk1
  ·exact absurd h1 hk2
  ·exact h1
 refine ⟨fun q w'=>q=.bool (!jk (.mk k n s ks) (.mk k' n' s' ks'))/\Inv w X [.blk b1 (.cells #[.int .i64 k,.int .i64 n,.string s,kv] ab),.blk b2 (.cells #[.int .i64 k',.int .i64 n',.string s',kv'] ab),.blk kb (.cells kc ab)] S w',?_,?_⟩
 ·refine ar hI 0 rfl bv bg rfl ?_
  refine ar hI 1 rfl bv bg rfl ?_
  refine iD ?_
  by_cases e1:k=k'
  ·rw [decide_eq_true e1]
   repeat (first|refine ae ?_|refine ah (by decide) ?_|refine ad ?_|refine al ?_|refine aj ?_)
   refine ar hI 0 rfl bn bg rfl ?_
   refine ar hI 1 rfl bn bg rfl ?_
   refine iD ?_
   by_cases e2:n=n'
   ·rw [decide_eq_true e2]
    repeat (first|refine ae ?_|refine ah (by decide) ?_|refine ad ?_|refine al ?_|refine aj ?_)
    refine ar hI 0 rfl bH bz rfl ?_
    refine ar hI 1 rfl bH bz rfl ?_
    refine Cl ?_
    by_cases e3:s=s'
    ·rw [decide_eq_true e3]
     repeat (first|refine ae ?_|refine ah (by decide) ?_|refine ad ?_|refine al ?_|refine aj ?_)
     refine ar hI 0 rfl aP aL rfl ?_
     refine bm hks aG ?_
     refine ar hI 1 rfl aP aL rfl ?_
     refine bm hks' aG ?_
     refine iD ?_
     repeat (first|refine ae ?_|refine ah (by decide) ?_|refine ad ?_|refine al ?_|refine aj ?_)
     exact ⟨by rw [gy,decide_eq_true e1,decide_eq_true e2,decide_eq_true e3,JP]; rfl,hI⟩
    ·rw [decide_eq_false e3]
     repeat (first|refine ae ?_|refine ah (by decide) ?_|refine ad ?_|refine al ?_|refine aj ?_)
     exact ⟨by rw [gy,decide_eq_true e1,decide_eq_true e2,decide_eq_false e3]; rfl,hI⟩
   ·rw [decide_eq_false e2]
    repeat (first|refine ae ?_|refine ah (by decide) ?_|refine ad ?_|refine al ?_|refine aj ?_)
    exact ⟨by rw [gy,decide_eq_true e1,decide_eq_false e2]; rfl,hI⟩
  ·rw [decide_eq_false e1]
   repeat (first|refine ae ?_|refine ah (by decide) ?_|refine ad ?_|refine al ?_|refine aj ?_)
   exact ⟨by rw [gy,decide_eq_false e1]; rfl,hI⟩
 intro q _ _ _ _ _ _ _ _ _ _ _ _ _ _ _ _ _ _ _ _ _ _ _ _ _ _ _ w'
 rintro ⟨rfl,hI⟩
 cases hd:jk (.mk k n s ks) (.mk k' n' s' ks')
 ·refine a7 (fun _=>?_) (fun hb=>by cases hb)
  have:r=false/\st'=st:=by
   rcases hend with ⟨_,h1⟩|⟨h1,_⟩
   ·exact h1
   ·rw [hd] at h1; cases h1
  obtain ⟨rfl,rfl⟩:=this
  exact ⟨_,_,_,rfl,hI.pick [false,false,true],Ext.refl _ _ _,rfl,rfl,_,rfl,hkc⟩
 refine a7 (fun hb=>by cases hb) (fun _=>?_)
 have hle:ks.length=ks'.length:=nq hd
 have hch:Chain (UC N kp) st ks ks' r st':=by
  rcases hend with ⟨h1,_⟩|⟨_,h1⟩
  ·rw [hd] at h1; cases h1
  ·exact h1
 refine ⟨fun i w'=>∃ (j:Nat) (st1:bu) (kc1:Array Value),j<=ks.length/\i=.int .i64 j/\Chain (UC N kp) st1 (ks.drop j) (ks'.drop j) r st'/\KnU S kc1 st1/\Inv w X [.blk b1 (.cells #[.int .i64 k,.int .i64 n,.string s,kv] ab),.blk b2 (.cells #[.int .i64 k',.int .i64 n',.string s',kv'] ab),.blk kb (.cells kc1 ab)] S w',fun i _=>ks.length - (intOf i).toNat,⟨0,st,kc,Nat.zero_le _,rfl,hch,hkc,hI⟩,?_⟩
 intro t7 _ _ _ t96 t95 t94 t93 t92 t91 t90 t89 t88 t87 t86 t85 t84 _ _ _ _ _ w'
 rintro ⟨j,st1,kc1,hj,rfl,hrel,hkc1,hI⟩
 refine ar hI 0 rfl aP aL rfl ?_
 refine bm hks aG ?_
 refine cF ?_
 refine bF (fun hji=>?_) (fun hji=>?_)
 ·have hj1:j<ks.length:=by omega
  have hj2:j<ks'.length:=by omega
  obtain ⟨c1,o1,cap1,a1,E1,fz1,rfl,hS1,hR1⟩:=hks.at_ hj1
  obtain ⟨c2,o2,cap2,a2,E2,fz2,rfl,hS2,hR2⟩:=hks'.at_ hj2
  rw [List.drop_eq_getElem_cons hj1,List.drop_eq_getElem_cons hj2] at hrel
  obtain ⟨r1,st2,hcall,hno,hyes⟩:=hrel.head
  have hcall:=hcall S _ _ kb kc1 hR1 hR2 hkc1
  refine ⟨fun D FI qi pY qK qA fB fq fC fA fw fl fy fm w_=>(D 0=true->fm=.pointer (some ⟨b1,3,none⟩))/\(D 1=true->fy=.slice (some ⟨c1,o1,none⟩) ks.length cap1)/\(D 2=true->fl=.int .i64 j)/\(D 3=true->fw=.pointer (some ⟨c1,o1+j * 4,none⟩))/\(D 4=true->fA=.agg (bJ a1 (o1+j * 4) 4).toArray)/\(D 5=true->fC=.pointer (some ⟨b2,3,none⟩))/\(D 6=true->fq=.slice (some ⟨c2,o2,none⟩) ks'.length cap2)/\(D 7=true->fB=.int .i64 j)/\(D 8=true->qA=.pointer (some ⟨c2,o2+j * 4,none⟩))/\(D 9=true->qK=.agg (bJ a2 (o2+j * 4) 4).toArray)/\(D 10=true->pY=kvU kb N kp)/\(D 11=true->qi=.bool r1)/\(D 12=true->FI=.bool (!r1))/\(D 11=false->Inv w X [.blk b1 (.cells #[.int .i64 k,.int .i64 n,.string s,.slice (some ⟨c1,o1,none⟩) ks.length cap1] ab),.blk b2 (.cells #[.int .i64 k',.int .i64 n',.string s',.slice (some ⟨c2,o2,none⟩) ks'.length cap2] ab),.blk kb (.cells kc1 ab)] S w_)/\(D 11=true->∃ kc2,KnU S kc2 st2/\Inv w X [.blk b1 (.cells #[.int .i64 k,.int .i64 n,.string s,.slice (some ⟨c1,o1,none⟩) ks.length cap1] ab),.blk b2 (.cells #[.int .i64 k',.int .i64 n',.string s',.slice (some ⟨c2,o2,none⟩) ks'.length cap2] ab),.blk kb (.cells kc2 ab)] S w_)/\∃ kc3,Inv w X [.blk b1 (.cells #[.int .i64 k,.int .i64 n,.string s,.slice (some ⟨c1,o1,none⟩) ks.length cap1] ab),.blk b2 (.cells #[.int .i64 k',.int .i64 n',.string s',.slice (some ⟨c2,o2,none⟩) ks'.length cap2] ab),.blk kb (.cells kc3 ab)] S w_,⟨af,af,af,af,af,af,af,af,af,af,af,af,af,⟨fun _=>hI.draw,af,kc1,hI.draw⟩⟩,⟨?_,?_,?_,?_,?_,?_,?_,?_,?_,?_,?_,?_,?_,trivial⟩,?_⟩
  ·intro D aS  FI qi pY qK qA fB fq fC fA fw fl fy fm w_
   rintro ⟨aA,az,aB,ax,aD,aC,aw,aJ,aN,aR,aq,au,aH,⟨hI0,hI1,kc3,hI⟩⟩
   refine bj aP ?_
   exact ⟨fun _=>rfl,az,aB,ax,aD,aC,aw,aJ,aN,aR,aq,au,aH,⟨hI0,hI1,kc3,hI⟩⟩
  ·intro D aS cA FI qi pY qK qA fB fq fC fA fw fl fy fm w_
   rintro ⟨aA,az,aB,ax,aD,aC,aw,aJ,aN,aR,aq,au,aH,⟨hI0,hI1,kc3,hI⟩⟩
   obtain rfl:=aA cA
   refine bB hI 0 aL rfl rfl ?_
   exact ⟨aA,fun _=>rfl,aB,ax,aD,aC,aw,aJ,aN,aR,aq,au,aH,⟨hI0,hI1,kc3,hI⟩⟩
  ·intro D aS  FI qi pY qK qA fB fq fC fA fw fl fy fm w_
   rintro ⟨aA,az,aB,ax,aD,aC,aw,aJ,aN,aR,aq,au,aH,⟨hI0,hI1,kc3,hI⟩⟩
   exact ⟨aA,az,fun _=>rfl,ax,aD,aC,aw,aJ,aN,aR,aq,au,aH,⟨hI0,hI1,kc3,hI⟩⟩
  ·intro D aS dB EP FI qi pY qK qA fB fq fC fA fw fl fy fm w_
   rintro ⟨aA,az,aB,ax,aD,aC,aw,aJ,aN,aR,aq,au,aH,⟨hI0,hI1,kc3,hI⟩⟩
   obtain rfl:=az dB
   obtain rfl:=aB EP
   refine bq aG hj1 ?_
   exact ⟨aA,az,aB,fun _=>rfl,aD,aC,aw,aJ,aN,aR,aq,au,aH,⟨hI0,hI1,kc3,hI⟩⟩
  ·intro D aS dh FI qi pY qK qA fB fq fC fA fw fl fy fm w_
   rintro ⟨aA,az,aB,ax,aD,aC,aw,aJ,aN,aR,aq,au,aH,⟨hI0,hI1,kc3,hI⟩⟩
   obtain rfl:=ax dh
   refine dF ag hR1.length (fun j v hj=>by rw [hI.cellS hS1]; exact bx rfl j v hj) ?_
   exact ⟨aA,az,aB,ax,fun _=>rfl,aC,aw,aJ,aN,aR,aq,au,aH,⟨hI0,hI1,kc3,hI⟩⟩
  ·intro D aS  FI qi pY qK qA fB fq fC fA fw fl fy fm w_
   rintro ⟨aA,az,aB,ax,aD,aC,aw,aJ,aN,aR,aq,au,aH,⟨hI0,hI1,kc3,hI⟩⟩
   refine bj aP ?_
   exact ⟨aA,az,aB,ax,aD,fun _=>rfl,aw,aJ,aN,aR,aq,au,aH,⟨hI0,hI1,kc3,hI⟩⟩
  ·intro D aS dT FI qi pY qK qA fB fq fC fA fw fl fy fm w_
   rintro ⟨aA,az,aB,ax,aD,aC,aw,aJ,aN,aR,aq,au,aH,⟨hI0,hI1,kc3,hI⟩⟩
   obtain rfl:=aC dT
   refine bB hI 1 aL rfl rfl ?_
   exact ⟨aA,az,aB,ax,aD,aC,fun _=>rfl,aJ,aN,aR,aq,au,aH,⟨hI0,hI1,kc3,hI⟩⟩
  ·intro D aS  FI qi pY qK qA fB fq fC fA fw fl fy fm w_
   rintro ⟨aA,az,aB,ax,aD,aC,aw,aJ,aN,aR,aq,au,aH,⟨hI0,hI1,kc3,hI⟩⟩
   exact ⟨aA,az,aB,ax,aD,aC,aw,fun _=>rfl,aN,aR,aq,au,aH,⟨hI0,hI1,kc3,hI⟩⟩
  ·intro D aS bW lP FI qi pY qK qA fB fq fC fA fw fl fy fm w_
   rintro ⟨aA,az,aB,ax,aD,aC,aw,aJ,aN,aR,aq,au,aH,⟨hI0,hI1,kc3,hI⟩⟩
   obtain rfl:=aw bW
   obtain rfl:=aJ lP
   refine bq aG hj2 ?_
   exact ⟨aA,az,aB,ax,aD,aC,aw,aJ,fun _=>rfl,aR,aq,au,aH,⟨hI0,hI1,kc3,hI⟩⟩
  ·intro D aS iP FI qi pY qK qA fB fq fC fA fw fl fy fm w_
   rintro ⟨aA,az,aB,ax,aD,aC,aw,aJ,aN,aR,aq,au,aH,⟨hI0,hI1,kc3,hI⟩⟩
   obtain rfl:=aN iP
   refine dF ag hR2.length (fun j v hj=>by rw [hI.cellS hS2]; exact bx rfl j v hj) ?_
   exact ⟨aA,az,aB,ax,aD,aC,aw,aJ,aN,fun _=>rfl,aq,au,aH,⟨hI0,hI1,kc3,hI⟩⟩
  ·intro D aS  FI qi pY qK qA fB fq fC fA fw fl fy fm w_
   rintro ⟨aA,az,aB,ax,aD,aC,aw,aJ,aN,aR,aq,au,aH,⟨hI0,hI1,kc3,hI⟩⟩
   exact ⟨aA,az,aB,ax,aD,aC,aw,aJ,aN,aR,fun _=>rfl,au,aH,⟨hI0,hI1,kc3,hI⟩⟩
  ·intro D aS fO eQ vX FI qi pY qK qA fB fq fC fA fw fl fy fm w_
   rintro ⟨aA,az,aB,ax,aD,aC,aw,aJ,aN,aR,aq,au,aH,⟨hI0,hI1,kc3,hI⟩⟩
   obtain rfl:=aD fO
   obtain rfl:=aR eQ
   obtain rfl:=aq vX
   refine Run.call (A:=[_,_]) lR l8 (hI0 aS) hcall fun v' I' S' w_=>?_
   rintro ⟨eS,rfl,kc2,rfl,hk2⟩ _ hI
   rw [eS] at hI
   have hI0:=fun (h:ao D 11 11=false)=>(Bool.noConfusion h:Inv w X [.blk b1 (.cells #[.int .i64 k,.int .i64 n,.string s,.slice (some ⟨c1,o1,none⟩) ks.length cap1] ab),.blk b2 (.cells #[.int .i64 k',.int .i64 n',.string s',.slice (some ⟨c2,o2,none⟩) ks'.length cap2] ab),.blk kb (.cells kc1 ab)] S w_)
   have hI1:=fun (_:ao D 11 11=true)=>(⟨kc2,hk2,hI⟩:∃ kc2,KnU S kc2 st2/\Inv w X [.blk b1 (.cells #[.int .i64 k,.int .i64 n,.string s,.slice (some ⟨c1,o1,none⟩) ks.length cap1] ab),.blk b2 (.cells #[.int .i64 k',.int .i64 n',.string s',.slice (some ⟨c2,o2,none⟩) ks'.length cap2] ab),.blk kb (.cells kc2 ab)] S w_)
   obtain ⟨kc3,hI⟩:∃ kc3,Inv w X [.blk b1 (.cells #[.int .i64 k,.int .i64 n,.string s,.slice (some ⟨c1,o1,none⟩) ks.length cap1] ab),.blk b2 (.cells #[.int .i64 k',.int .i64 n',.string s',.slice (some ⟨c2,o2,none⟩) ks'.length cap2] ab),.blk kb (.cells kc3 ab)] S w_:=⟨kc2,hI⟩
   exact ⟨aA,az,aB,ax,aD,aC,aw,aJ,aN,aR,aq,fun _=>rfl,aH,⟨hI0,hI1,kc3,hI⟩⟩
  ·intro D aS j0 FI qi pY qK qA fB fq fC fA fw fl fy fm w_
   rintro ⟨aA,az,aB,ax,aD,aC,aw,aJ,aN,aR,aq,au,aH,⟨hI0,hI1,kc3,hI⟩⟩
   obtain rfl:=au j0
   refine cN ?_
   exact ⟨aA,az,aB,ax,aD,aC,aw,aJ,aN,aR,aq,au,fun _=>rfl,⟨hI0,hI1,kc3,hI⟩⟩
  intro D jV gw fg jA g7 gc fj ft fL fX fM fP fY FI qi pY qK qA fB fq fC fA fw fl fy fm w_
  rintro ⟨aA,az,aB,ax,aD,aC,aw,aJ,aN,aR,aq,au,aH,⟨hI0,hI1,kc3,hI⟩⟩
  obtain rfl:=aH jV
  obtain rfl:=au gw
  obtain rfl:=aq fg
  obtain rfl:=aR jA
  obtain rfl:=aN g7
  obtain rfl:=aJ gc
  obtain rfl:=aw fj
  obtain rfl:=aC ft
  obtain rfl:=aD fL
  obtain rfl:=ax fX
  obtain rfl:=aB fM
  obtain rfl:=az fP
  obtain rfl:=aA fY
  clear aA az aB ax aD aC aw aJ aN aR aq au aH
  obtain ⟨kc2,hk2,hI⟩:=hI1 gw
  clear hI0 hI1
  refine a7 (fun hne=>?_) (fun he'=>?_)
  ·simp only [Bool.not_eq_true'] at hne
   obtain ⟨rfl,rfl⟩:=hno hne
   exact ⟨_,_,_,rfl,hI.pick [false,false,true],Ext.refl _ _ _,rfl,rfl,_,rfl,hk2⟩
  ·simp only [Bool.not_eq_false'] at he'
   refine bR (by omega) ?_
   exact ⟨⟨j+1,st2,kc2,hj1,rfl,hyes he',hk2,hI⟩,by simp [intOf]; omega⟩
 ·have:j=ks.length:=by omega
  subst this
  rw [List.drop_length,hle,List.drop_length] at hrel
  obtain ⟨rfl,rfl⟩:=hrel.done
  exact ⟨_,_,_,rfl,hI.pick [false,false,true],Ext.refl _ _ _,rfl,rfl,_,rfl,hkc1⟩
theorem As {N kp:Nat} (hN:N<=1000000) {st st':bu} {a b:T} {r:Bool} (hg:Good N st) (hj:okJ N (.one a b)) (hu:Uni st (.one a b) r st'):UC N kp st a b r st':=by
 refine Uni.calls (N:=N) (Call:=UC N kp) (fun st a b a' b' r st' hg hj hwa hwb he=>?_) hu hg hj
 refine rP hN hg hj hwa hwb (fun h1 h2=>?_) he
 have hoa:=eG hg hwa hj.1
 have hob:=eG hg hwb hj.2
 have hend:(¬ fi st b'.n.toNat a'/\r=true/\st'=st.set b'.n.toNat (some a')) ∨ (fi st b'.n.toNat a'/\r=false/\st'=st):=by
  rcases he with ⟨h3,_⟩|⟨h3,_,_⟩|⟨_,_,h3⟩|⟨_,h3,_⟩
  ·exact absurd h3 h1
  ·exact absurd h3 h1
  ·exact h3
  ·exact absurd h2 h3
 refine rP hN hg ⟨hob,hoa⟩ (.stop (iO hwb)) (.stop (iO hwa)) (fun h3 _=>absurd h2 h3) (.inr (.inl ⟨h2,fun h3=>h1 h3.1,hend⟩))
end

end Go.Proofs.YtnmnddpdikghhaaGreat

/- slices.Delete on a tree of the function's own. -/
namespace Go.Proofs.YtnmnddpdikghhaaGreat
open Go Go.RowKit
section
variable {P:Program} {w w0:World} {X:List Nat} {L:List Item} {S:ay} {K:Value->World->Prop}
attribute [local irreducible] Run CondV ai a4
/- append within the room of a block -/
end
end Go.Proofs.YtnmnddpdikghhaaGreat

/- DropClause: both sides. -/
namespace Go.Proofs.YtnmnddpdikghhaaGreat
open Go Go.RowKit
attribute [local irreducible] Run CondV ai a4

end Go.Proofs.YtnmnddpdikghhaaGreat

/- DropClause: both sides. -/
namespace Go.Proofs.YtnmnddpdikghhaaGreat
open Go Go.RowKit
attribute [local irreducible] Run CondV ai a4

end Go.Proofs.YtnmnddpdikghhaaGreat
