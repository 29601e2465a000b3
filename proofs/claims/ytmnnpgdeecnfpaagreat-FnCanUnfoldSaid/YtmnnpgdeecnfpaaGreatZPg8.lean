/- spec.l1Mutate. -/
import Derived.Test.YtmnnpgdeecnfpaaGreatZPg7
import Derived.Test.YtmnnpgdeecnfpaaGreatZPg1
import Derived.Test.YtmnnpgdeecnfpaaGreatZPg3
import Derived.Test.YtmnnpgdeecnfpaaGreatZPg4
import Derived.Test.YtmnnpgdeecnfpaaGreatZPg0
namespace Go.Proofs.YtmnnpgdeecnfpaaGreat
open Go Go.RowKit
def qw (w:World) (b o:Nat):Nat:=match w.cell? ⟨b,o,none⟩ with
 | some (.slice _ n _)=>n
 | _=>0
theorem EM {Q Q2 B:Prop} {R:Nat->Prop} (h1:Q->B) (h3:Q2->B) (h2:∀ n,n<3->R n->B):∀ {n:Nat},iG Q (iG Q2 R) n->n<5->B
 | 0,h,_=>h1 h
 | 1,h,_=>h3 h
 | n+2,h,hn=>h2 n (by omega) h
theorem BR {Q:Prop} {R:Nat->Prop} {n:Nat} (h:R n):iG Q R (n+1):=h
theorem vZ {Q:Prop} {R:Nat->Prop} {n:Nat} (h:iG Q R (n+1)):R n:=h
section
variable {w0 w:World} {X:List Nat} {L A:List Item} {S:Store} {K:Value->World->Prop} {P:Program}
attribute [local irreducible] Run CondV GuardV LoadV
theorem nR (h:Inv w0 X L S w) {i b o:Nat} {c:Array Value} {E:TypeId} {a:Option Addr} {n m:Nat} (hi:L[i]?=some (.blk b (.cells c E))) (hc:c[o]?=some (.slice a n m)):qw w b o=n:=by
 rw [qw,h.cellL hi,hc]
theorem oU {b:Nat} {k n:Int} {s:ByteArray} {kv:Value} {css:List (List Value)} {ks:List T} {o:Obj}
  (hI:Inv w0 X (.blk b o::au kv ab 4 css::A) S w) (hR:Rows 4 (RdT S) css ks) (hk:inI k) (hn:inI n) (hs:s.size<=maxLen) :
  ∃ S',Ext w0.heap.size X S S'/\Inv w0 X (.blk b o::A) S' w/\RdT S' [.int .i64 k,.int .i64 n,.string s,kv] (.mk k n s ks)/\RdSl S' 4 (RdT S') kv ks:=by
 have hI:Inv w0 X ((.blk b o::A)++[au kv ab 4 css]) S w:=hI.last 1 rfl
 obtain ⟨S',hE,hrd,hI⟩:=Inv.lendExt hI
 have hrs:=RowRd.rows (hR.monoR fun _ _ h=>RdT.mono hE.1 h) hrd
 exact ⟨S',hE,hI,RdT.iff.2 ⟨_,rfl,hk,hn,hs,hrs⟩,hrs⟩
end
section
variable {br:Nat} {sl:Value} {ys:List Nat}
attribute [local irreducible] Run CondV GuardV LoadV
theorem jX {p:Nat} {S:Store} {cs:List Value} {t:T} (hrd:RdSl S 1 eV sl ys) (h:RdT S cs t) (hw:wT t<=100000) (hp:p<=100000000) :
  Tri Tryz.prog xb [rdP br,.agg cs.toArray] [rdI br sl p] S (DD br sl p 2 (wT t+100)):=by
 intro w hI
 have h0:=h
 obtain ⟨kv0,rfl,hk,hn,hs,hks⟩:=RdT.iff.1 h
 refine pl ?_
 unfold lH
 refine r_box hI fun b3 w' hI=>?_
 refine r_alloc hI aE fun b4 w' hI=>?_
 refine r_loadW hI 1 ag rfl rfl ?_
 refine Run.call0E bM bN hI (CB t S _ h0 (by omega)) fun v' I' S1 w'=>?_
 rintro ⟨kv,css,rfl,rfl,hR⟩ hE1 hI
 have hE1:Ext w.heap.size [br] S S1:=hE1
 obtain ⟨a0,n0,q0,rfl⟩:=hI.rowSlice 3 rfl
 refine r_alloc hI aE fun b5 w' hI=>?_
 refine ao hI 4 rfl ag rfl rfl (by simp [Value.oneCell']) fun w' hI=>?_
 obtain ⟨B4,hB4⟩:∃ B4,B4=Item.blk b4 (.cells #[.int .i64 0,.int .i64 0,.string ⟨#[]⟩,.slice none 0 0] ab):=⟨_,rfl⟩
 obtain ⟨k,hk'⟩:∃ k,k=t.kind:=⟨_,rfl⟩
 obtain ⟨n,hn'⟩:∃ n,n=t.n:=⟨_,rfl⟩
 obtain ⟨s,hs'⟩:∃ s,s=t.name:=⟨_,rfl⟩
 have hwt:wT t=s.size+t.kids.length+wL t.kids:=by rw [hs']; cases t; rw [wT]; rfl
 rw [<- hk',<- hn',<- hs'] at hI
 rw [<- hk'] at hk
 rw [<- hn'] at hn
 rw [<- hs'] at hs
 have hI:Inv w [br] [.blk b5 (.cells #[.int .i64 k,.int .i64 n,.string s,.slice a0 n0 q0] ab),au (.slice a0 n0 q0) ab 4 css,B4,rdI br sl p] S1 w':=by
  rw [hB4]
  exact (((hI.pick [true,false,true,true,true]).last 2 rfl).last 1 rfl).last 0 rfl
 refine ⟨fun w'=>∃ (p1:Nat) (S2:Store) (cs1:List Value) (t1:T),p1<=p+2/\Ext w.heap.size [br] S S2/\RdT S2 cs1 t1/\wT t1<=wT t+100/\Inv w [br] [.blk b5 (.cells cs1.toArray ab),B4,rdI br sl p1] S2 w',?_,?_⟩
 ·have hfin:∀ {k n:Int} {s1:ByteArray} {p1:Nat} {w':World} {S1:Store} {css:List (List Value)} {kv:Value} {ks:List T},Ext w.heap.size [br] S S1->p1<=p+2->inI k->inI n->s1.size<=s.size+7->Rows 4 (RdT S1) css ks->ks.length<=t.kids.length+5->wL ks<=wL t.kids->
    Inv w [br] [.blk b5 (.cells #[.int .i64 k,.int .i64 n,.string s1,kv] ab),au kv ab 4 css,B4,rdI br sl p1] S1 w'->
    ∃ (p1:Nat) (S2:Store) (cs1:List Value) (t1:T),p1<=p+2/\Ext w.heap.size [br] S S2/\RdT S2 cs1 t1/\wT t1<=wT t+100/\Inv w [br] [.blk b5 (.cells cs1.toArray ab),B4,rdI br sl p1] S2 w':=by
   intro k n s1 p1 w' S1 css kv ks hE hp1 hk hn hs1 hR hkl hkw hI
   obtain ⟨S2,hE2,hI,hr,_⟩:=oU (s:=s1) hI hR hk hn (by simp only [maxLen]; omega)
   exact ⟨p1,S2,_,_,hp1,hE.trans hE2,hr,by rw [wT,hwt]; omega,hI⟩
  refine Run.callL aN aM hI (ba (n:=50) (hrd.monoU hE1.1) (by omega) (by omega)) rfl fun v' I' S1 w'=>?_
  rintro ⟨rfl,rfl,kk,hkk,rfl⟩ _ hI
  refine r_eql ?_
  refine condP (fun _=>?_) (fun _=>?_)
  ·refine pV hI (by kernel_rfl) rfl (by omega) fun v S3 w' hE3 hv hI=>?_
   refine Run.callL bJ bK hI (ev (p:=p+1) (hrd.monoU (hE1.trans hE3).1) hv (by decide) (by omega)) rfl fun v' I' S3 w'=>?_
   rintro ⟨rfl,rfl,m,hm,rfl⟩ _ hI
   have hm:=kH (a:=-1000) (b:=1000) hm (by decide)
   refine cv hI 0 rfl aI aC rfl rfl rfl fun w' hI=>?_
   exact hfin (hE1.trans hE3) (Nat.le_refl _) (by simp only [inI]; omega) hn (by omega) (hR.monoR fun _ _ h=>RdT.mono hE3.1 h) (by omega) (Nat.le_refl _) hI
  refine r_eql ?_
  refine condP (fun _=>?_) (fun _=>?_)
  ·refine pV hI (by kernel_rfl) rfl (by omega) fun v S3 w' hE3 hv hI=>?_
   refine Run.callL bJ bK hI (ev (p:=p+1) (hrd.monoU (hE1.trans hE3).1) hv (by decide) (by omega)) rfl fun v' I' S3 w'=>?_
   rintro ⟨rfl,rfl,m,hm,rfl⟩ _ hI
   have hm:=kH (a:=-1000) (b:=1000) hm (by decide)
   refine cv hI 0 rfl aK aC rfl rfl rfl fun w' hI=>?_
   exact hfin (hE1.trans hE3) (Nat.le_refl _) hk (by simp only [inI]; omega) (by omega) (hR.monoR fun _ _ h=>RdT.mono hE3.1 h) (by omega) (Nat.le_refl _) hI
  refine r_eql ?_
  refine condP (fun _=>?_) (fun _=>?_)
  ·refine mo hI (by kernel_rfl) rfl (by omega) fun v S3 w' hE3 hv hI=>?_
   refine Run.callL dA dD hI (oB (p:=p+1) (hrd.monoU (hE1.trans hE3).1) hv (by decide) (by omega)) rfl fun v' I' S3 w'=>?_
   rintro ⟨rfl,rfl,m,hm,rfl⟩ _ hI
   have hm:=r9 (m:=7) hm (by decide)
   refine cv hI 0 rfl aF ay rfl rfl rfl fun w' hI=>?_
   exact hfin (hE1.trans hE3) (Nat.le_refl _) hk hn (by omega) (hR.monoR fun _ _ h=>RdT.mono hE3.1 h) (by omega) (Nat.le_refl _) hI
  refine r_eql ?_
  refine condP (fun _=>?_) (fun _=>?_)
  ·refine ⟨fun w'=>∃ (S2:Store) (kv:Value) (css:List (List Value)) (ks:List T),Ext w.heap.size [br] S S2/\Rows 4 (RdT S2) css ks/\ks.length<=t.kids.length+5/\wL ks<=wL t.kids/\
     Inv w [br] [.blk b5 (.cells #[.int .i64 k,.int .i64 n,.string s,kv] ab),au kv ab 4 css,B4,rdI br sl (p+1)] S2 w',fun w'=>5 - qw w' b5 3,⟨S1,_,css,t.kids,hE1,hR,by omega,Nat.le_refl _,hI⟩,?_⟩
   intro t40 t39 t38 t37 t36 t35 _ _ _ _ w'
   rintro ⟨S2,kv,css,ks,hE2,hR,hkl,hkw,hI⟩
   obtain ⟨a1,n1,q1,rfl,hn1⟩:∃ a m c,kv=.slice a m c/\m=ks.length:=by
    obtain ⟨S',_,_,_,hr⟩:=oU hI hR hk hn hs
    obtain ⟨a,q,rfl,_⟩:=hr
    exact ⟨a,_,q,rfl,rfl⟩
   subst hn1
   have hl1:=nR hI (i:=0) (o:=3) rfl rfl
   have hcl:=hR.hc
   refine r_fieldL hI 0 rfl aq al rfl ?_
   refine r_len aj ?_
   refine r_leq ?_
   refine condP (fun hle=>?_) (fun hle=>?_)
   ·have hI:=hI
    refine ⟨fun D x40 x39 x38 x37 x36 x35 w_=>(D 0=true->x35=.pointer (some ⟨b5,3,none⟩))/\(D 1=true->x36=.slice a1 ks.length q1)/\(D 2=true->True)/\(D 3=true->True)/\(D 4=true->True)/\(D 5=true->x40=.pointer (some ⟨b5,3,none⟩))/\(D 6=true->True)/\∃ n_:Nat,n_<=4/\D 2=decide (1<=n_)/\D 3=decide (2<=n_)/\D 4=decide (3<=n_)/\D 6=decide (4<=n_)/\(D 6=true->D 1=true)/\(iG (Inv w [br] [.blk b5 (.cells #[.int .i64 k,.int .i64 n,.string s,.slice a1 ks.length q1] ab),au (.slice a1 ks.length q1) ab 4 css,B4,rdI br sl (p+1)] S2 w_) (rj w [br] b5 #[.int .i64 k,.int .i64 n,.string s,.slice a1 ks.length q1] 3 ab (.slice a1 ks.length q1) css (fun p=>[B4,rdI br sl (p+1)]) (fun cs p' S'=>p'=p/\S'=S2/\RdT S2 cs (.mk 2 1 emptyB [])) x37 x38 x39 w_) n_),⟨fun h=>Bool.noConfusion h,fun h=>Bool.noConfusion h,fun h=>Bool.noConfusion h,fun h=>Bool.noConfusion h,fun h=>Bool.noConfusion h,fun h=>Bool.noConfusion h,fun h=>Bool.noConfusion h,⟨0,Nat.zero_le _,rfl,rfl,rfl,rfl,(fun h=>Bool.noConfusion h),hI.draw⟩⟩,⟨?_,?_,?_,?_,?_,?_,?_,trivial⟩,?_⟩
    ·intro D hD_  x40 x39 x38 x37 x36 x35 w_
     rintro ⟨h0_,h1_,h2_,h3_,h4_,h5_,h6_,⟨n_,ln_,e1_,e2_,e3_,e4_,kp_,hS⟩⟩
     refine r_field aq ?_
     exact ⟨fun _=>rfl,h1_,h2_,h3_,h4_,h5_,h6_,⟨n_,ln_,e1_,e2_,e3_,e4_,kp_,hS⟩⟩
    ·intro D hD_ d0_0 x40 x39 x38 x37 x36 x35 w_
     rintro ⟨h0_,h1_,h2_,h3_,h4_,h5_,h6_,⟨n_,ln_,e1_,e2_,e3_,e4_,kp_,hS⟩⟩
     obtain rfl:=h0_ d0_0
     have ln2_:=Eo e4_ kp_ hD_
     refine r_load al ((AN (fun h=>h.cellL (i:=0) rfl) (fun n hn h=>wz h hn) hS ln2_).trans rfl) ?_
     exact ⟨h0_,fun _=>rfl,h2_,h3_,h4_,h5_,h6_,⟨n_,ln_,e1_,e2_,e3_,e4_,(fun _=>rfl),hS⟩⟩
    ·intro D hD_  x40 x39 x38 x37 x36 x35 w_
     rintro ⟨h0_,h1_,h2_,h3_,h4_,h5_,h6_,⟨n_,ln_,e1_,e2_,e3_,e4_,kp_,hS⟩⟩
     obtain rfl:n_=0:=Eu e1_ hD_
     refine Run.callPure lL lZ (L:=[.blk b5 _,au _ ab 4 css,B4,rdI br sl (p+1)]) hS (fC 1 S2) fun w_ hI=>?_
     exact ⟨h0_,h1_,fun _=>by first|assumption|trivial,h3_,h4_,h5_,h6_,⟨1,by decide,rfl,(by first|exact e2_|rfl),(by first|exact e3_|rfl),(by first|exact e4_|rfl),kp_,wX ⟨rfl,rfl,nW (by simp [inI]) (by simp [inI])⟩ (nW (by simp [inI]) (by simp [inI])) hI⟩⟩
    ·intro D hD_ d2_0 x40 x39 x38 x37 x36 x35 w_
     rintro ⟨h0_,h1_,h2_,h3_,h4_,h5_,h6_,⟨n_,ln_,e1_,e2_,e3_,e4_,kp_,hS⟩⟩
     have g2_:=h2_ d2_0
     obtain rfl:n_=1:=pX e1_ d2_0 e2_ hD_
     refine ap1 hS fun u w_ hS=>?_
     exact ⟨h0_,h1_,h2_,fun _=>by first|assumption|trivial,h4_,h5_,h6_,⟨2,by decide,(by first|exact e1_|rfl),rfl,(by first|exact e3_|rfl),(by first|exact e4_|rfl),kp_,hS⟩⟩
    ·intro D hD_ d1_0 d3_1 d2_2 x40 x39 x38 x37 x36 x35 w_
     rintro ⟨h0_,h1_,h2_,h3_,h4_,h5_,h6_,⟨n_,ln_,e1_,e2_,e3_,e4_,kp_,hS⟩⟩
     obtain rfl:=h1_ d1_0
     have g3_:=h3_ d3_1
     obtain rfl:n_=2:=pX e2_ d3_1 e3_ hD_
     refine ap2 hS (by omega) fun u w_ hS=>?_
     exact ⟨h0_,h1_,h2_,h3_,fun _=>by first|assumption|trivial,h5_,h6_,⟨3,by decide,(by first|exact e1_|rfl),(by first|exact e2_|rfl),rfl,(by first|exact e4_|rfl),kp_,hS⟩⟩
    ·intro D hD_ d0_0 d1_1 d2_2 d3_3 d4_4 x40 x39 x38 x37 x36 x35 w_
     rintro ⟨h0_,h1_,h2_,h3_,h4_,h5_,h6_,⟨n_,ln_,e1_,e2_,e3_,e4_,kp_,hS⟩⟩
     refine r_field aq ?_
     exact ⟨h0_,h1_,h2_,h3_,h4_,fun _=>rfl,h6_,⟨n_,ln_,e1_,e2_,e3_,e4_,kp_,hS⟩⟩
    ·intro D hD_ d5_0 d4_1 d4_2 d0_3 d1_4 d2_5 d3_6 d4_7 x40 x39 x38 x37 x36 x35 w_
     rintro ⟨h0_,h1_,h2_,h3_,h4_,h5_,h6_,⟨n_,ln_,e1_,e2_,e3_,e4_,kp_,hS⟩⟩
     obtain rfl:=h5_ d5_0
     have g4_:=h4_ d4_1
     obtain rfl:n_=3:=pX e3_ d4_1 e4_ hD_
     refine ap3 hS (by simp) fun w_ hS=>?_
     exact ⟨h0_,h1_,h2_,h3_,h4_,h5_,fun _=>trivial,⟨4,by decide,(by first|exact e1_|rfl),(by first|exact e2_|rfl),(by first|exact e3_|rfl),rfl,(fun _=>d1_4),hS⟩⟩
    intro D d6_ d5_ d4_ d3_ d2_ d1_ d0_ x40 x39 x38 x37 x36 x35 w_
    rintro ⟨h0_,h1_,h2_,h3_,h4_,h5_,h6_,⟨n_,ln_,e1_,e2_,e3_,e4_,kp_,hS⟩⟩
    obtain rfl:n_=4:=EI ln_ e4_ d6_
    clear e1_ e2_ e3_ e4_
    obtain ⟨p3,S7,cs,⟨rfl,rfl,hcs⟩,hl,hI⟩:=hS
    have hR2:=hR.snoc hcs hl.1
    refine ⟨⟨S7,_,_,_,hE2,hR2,by rw [List.length_append]; simp only [List.length_cons,List.length_nil]; omega,by rw [fU]; have e:emptyB.size=0:=rfl; simp only [wL,wT,List.length_nil,e]; omega,hI⟩,?_⟩
    obtain ⟨S',_,_,_,hr⟩:=oU hI hR2 hk hn hs
    obtain ⟨a,q,e,_⟩:=hr
    have hl2:=nR hI (i:=0) (o:=3) (a:=a) (n:=(ks++[T.mk 2 1 emptyB []]).length) (m:=q) rfl (by rw [<- e]; rfl)
    show 5 - qw w_ b5 3<5 - qw w' b5 3
    rw [hl1,hl2,List.length_append,List.length_cons,List.length_nil]
    omega
   ·exact hfin hE2 (by omega) hk hn (by omega) hR hkl hkw hI
  refine r_eql ?_
  refine condP (fun _=>?_) (fun _=>?_)
  ·obtain ⟨S2,hE2,hI,hr,_⟩:=oU hI hR hk hn hs
   have hI:Inv w [br] [.blk b5 (.cells #[.int .i64 k,.int .i64 n,.string s,.slice a0 n0 q0] ab),B4,rdI br sl (p+1)] S2 w':=hI
   have ht:T.mk k n s t.kids=t:=by rw [hk',hn',hs']; cases t; rfl
   rw [ht] at hr
   refine ⟨fun t6 w'=>∃ (j:Nat) (S3:Store) (cs1:List Value) (t1:T),t6=.int .i64 (j:Int)/\j<=30/\Ext w.heap.size [br] S S3/\RdT S3 cs1 t1/\wT t1<=wT t+2 * j/\Inv w [br] [.blk b5 (.cells cs1.toArray ab),B4,rdI br sl (p+1)] S3 w',fun t6 _=>30 - (intOf t6).toNat,
    ⟨0,S2,_,t,rfl,by omega,hE1.trans hE2,hr,by omega,hI⟩,?_⟩
   intro t6 _ _ _ _ _ _ _ w'
   rintro ⟨j,S3,cs1,t1,rfl,hj,hE3,hr,hw1,hI⟩
   refine r_lss ?_
   refine condP (fun hj'=>?_) (fun hj'=>?_)
   ·refine r_loadW hI 0 ag rfl (by simpa using hr.length) ?_
    refine r_slice1 hI aJ (by simp [Value.cells,hr.length]) (by omega) (by omega) fun b8 w' hI=>?_
    obtain ⟨S4,hI,hE4,hS⟩:=hI.pub1
    refine Run.call0E bg bh hI (bu ⟨#[115]⟩ (by decide) (Fq hS (hr.mono hE4.1)) (by simp)) fun v' I' S5 w'=>?_
    rintro ⟨rfl,cs2,rfl,hcs2⟩ hE5 hI
    have hI:Inv w [br] [.blk b5 (.cells cs1.toArray ab),B4,rdI br sl (p+1)] S5 w':=by simpa using hI
    refine ao hI 0 rfl ag (by simpa using hcs2.length) (by simpa using hr.length) (by simpa using hcs2.one) fun w' hI=>?_
    refine r_add (by omega) ?_
    have e:(ByteArray.mk #[115]).size=1:=rfl
    exact ⟨⟨j+1,S5,cs2,_,rfl,by omega,hE3.trans (hE4.trans hE5),hcs2,by simp only [wT,wL,List.length_cons,List.length_nil,e]; omega,hI⟩,by simp only [intOf,Int.toNat_natCast]; omega⟩
   ·exact ⟨p+1,S3,cs1,t1,by omega,hE3,hr,by omega,hI⟩
  ·exact hfin hE1 (by omega) hk hn (by omega) hR (by omega) (Nat.le_refl _) hI
 intro _ _ _ _ _ _ _ _ _ _ _ _ _ _ _ _ _ _ _ _ _ _ _ _ _ _ _ _ _ _ _ _ _ _ _ _ _ _ _ _ _ _ w'
 rintro ⟨p1,S2,cs1,t1,hp1,hE2,hr,hw1,hI⟩
 subst hB4
 refine r_loadW hI 0 ag rfl (by simpa using hr.length) ?_
 refine ao hI 1 rfl ag (by simpa using hr.length) rfl (by simpa using hr.one) fun w' hI=>?_
 refine loadV_W hI 1 ag rfl (by simpa using hr.length) ?_
 exact ⟨_,_,S2,rfl,hI.pick [false,false,true],hE2,p1,hp1,rfl,cs1,t1,rfl,hr,hw1⟩
end
end Go.Proofs.YtmnnpgdeecnfpaaGreat

/- spec.l4Mutate, l4MutateAll. -/
namespace Go.Proofs.YtmnnpgdeecnfpaaGreat
open Go Go.RowKit
section
variable {w0 w:World} {X:List Nat} {L A:List Item} {S:Store} {K:Value->World->Prop} {P:Program}
theorem sL {b:Nat} {hd:List Value} {h:T} {kv:Value} {css:List (List Value)} {ks:List T} {o:Obj}
  (hI:Inv w0 X (.blk b o::au kv ab 4 css::A) S w) (hR:Rows 4 (RdT S) css ks) (hh:RdT S hd h) :
  ∃ S',Ext w0.heap.size X S S'/\Inv w0 X (.blk b o::A) S' w/\RdC S' (hd++[kv]) ⟨h,ks⟩/\RdSl S' 4 (RdT S') kv ks:=by
 have hI:Inv w0 X ((.blk b o::A)++[au kv ab 4 css]) S w:=hI.last 1 rfl
 obtain ⟨S',hE,hrd,hI⟩:=Inv.lendExt hI
 have hrs:=RowRd.rows (hR.monoR fun _ _ h=>RdT.mono hE.1 h) hrd
 exact ⟨S',hE,hI,⟨hd,kv,rfl,hh.mono hE.1,hrs⟩,hrs⟩
end
abbrev Fa (br:Nat) (sl:Value) (p k m:Nat):Value->List Item->Store->Prop:=fun v I' S'=>∃ p',p'<=p+k/\I'=[rdI br sl p']/\∃ cs c,v=.agg cs.toArray/\RdC S' cs c/\wC c<=m
section
variable {br:Nat} {sl:Value} {ys:List Nat}
attribute [local irreducible] Run CondV GuardV LoadV
theorem sq {p:Nat} {S:Store} {cs:List Value} {c:C} (hrd:RdSl S 1 eV sl ys) (h:RdC S cs c) (hw:wC c<=100000) (hp:p<=90000000) :
  Tri Tryz.prog wA [rdP br,.agg cs.toArray] [rdI br sl p] S (Fa br sl p 600 (wC c+700)):=by
 intro w hI
 have hl5:=h.length
 refine pp ?_
 unfold lK
 refine r_box hI fun b3 w' hI=>?_
 refine r_alloc hI bd fun b4 w' hI=>?_
 refine r_loadW hI 1 av rfl (by simpa [Value.cells] using hl5) ?_
 refine Run.call0E qT qF hI (Cm h (by omega)) fun v' I' S1 w'=>?_
 rintro ⟨hd,kv,css,rfl,hhd,rfl,hR⟩ hE1 hI
 have hE1:Ext w.heap.size [br] S S1:=hE1
 obtain ⟨a0,n0,q0,rfl⟩:=hI.rowSlice 3 rfl
 have hhd0:=hhd
 obtain ⟨k4,rfl,hk,hn,hs,_⟩:=RdT.iff.1 hhd
 obtain ⟨ak,nk,ck,hk4⟩:∃ a n c,k4=.slice a n c:=by
  obtain ⟨_,e,_,_,_,a,q,rfl,_⟩:=RdT.iff.1 hhd0
  simp only [List.cons.injEq,and_true,true_and] at e
  exact ⟨_,_,_,e⟩
 subst hk4
 refine r_alloc hI bd fun b5 w' hI=>?_
 refine ao hI 4 rfl av rfl rfl (by simp [Value.oneCell']) fun w' hI=>?_
 obtain ⟨B4,hB4⟩:∃ B4,B4=Item.blk b4 (.cells #[.int .i64 0,.int .i64 0,.string ⟨#[]⟩,.slice none 0 0,.slice none 0 0] af):=⟨_,rfl⟩
 have hI:Inv w [br] [.blk b5 (.cells #[.int .i64 c.head.kind,.int .i64 c.head.n,.string c.head.name,.slice ak nk ck,.slice a0 n0 q0] af),au (.slice a0 n0 q0) ab 4 css,B4,rdI br sl p] S1 w':=by
  rw [hB4]
  exact (((hI.pick [true,false,true,true,true]).last 2 rfl).last 1 rfl).last 0 rfl
 have hwc:wC c=wT c.head+c.body.length+wL c.body:=rfl
 refine ⟨fun w'=>∃ (p1:Nat) (S2:Store) (cs1:List Value) (c1:C),p1<=p+600/\Ext w.heap.size [br] S S2/\RdC S2 cs1 c1/\wC c1<=wC c+700/\Inv w [br] [.blk b5 (.cells cs1.toArray af),B4,rdI br sl p1] S2 w',?_,?_⟩
 ·have hfin:∀ {hd:List Value} {h:T} {p1:Nat} {w':World} {S1:Store} {css:List (List Value)} {kv:Value} {ks:List T},Ext w.heap.size [br] S S1->p1<=p+600->RdT S1 hd h->Rows 4 (RdT S1) css ks->wT h+ks.length+wL ks<=wC c+700->
    Inv w [br] [.blk b5 (.cells (hd++[kv]).toArray af),au kv ab 4 css,B4,rdI br sl p1] S1 w'->
    ∃ (p1:Nat) (S2:Store) (cs1:List Value) (c1:C),p1<=p+600/\Ext w.heap.size [br] S S2/\RdC S2 cs1 c1/\wC c1<=wC c+700/\Inv w [br] [.blk b5 (.cells cs1.toArray af),B4,rdI br sl p1] S2 w':=by
   intro hd h p1 w' S1 css kv ks hE hp1 hh hR hwn hI
   obtain ⟨S2,hE2,hI,hr,_⟩:=sL hI hR hh
   exact ⟨p1,S2,_,_,hp1,hE.trans hE2,hr,hwn,hI⟩
  refine Run.callL aN aM hI (ba (n:=40) (hrd.monoU hE1.1) (by omega) (by omega)) rfl fun v' I' S1 w'=>?_
  rintro ⟨rfl,rfl,kk,hkk,rfl⟩ _ hI
  refine r_eql ?_
  refine condP (fun _=>?_) (fun _=>?_)
  ·refine Run.callL ra qE hI (oL (p:=p+1) (hrd.monoU hE1.1) (by omega)) rfl fun v' I' S2 w'=>?_
   rintro ⟨p2,hp2,rfl,cs2,t2,rfl,hr2,hw2⟩ hE2 hI
   refine Run.callL lA lo hI (jX (p:=p2) (hrd.monoU (hE1.trans hE2).1) hr2 (by omega) (by omega)) rfl fun v' I' S3 w'=>?_
   rintro ⟨p3,hp3,rfl,cs3,t3,rfl,hr3,hw3⟩ hE3 hI
   have hr3':=hr3
   obtain ⟨k3,rfl,_,_,_,a3,q3,rfl,_⟩:=RdT.iff.1 hr3
   refine r_field aP ?_
   refine zj hI 0 rfl ag rfl rfl (by simp [Value.cells,Value.oneCell']) fun w' hI=>?_
   exact hfin ((hE1.trans hE2).trans hE3) (by omega) hr3' (hR.monoR fun _ _ h=>RdT.mono (hE2.trans hE3).1 h) (by omega) hI
  refine r_eql ?_
  refine condP (fun _=>?_) (fun _=>?_)
  ·have hcl:=hR.hc
   have hI:=hI
   refine ⟨fun D x27 x26 x25 x24 x23 x22 x21 x20 x19 w_=>(D 0=true->x19=.pointer (some ⟨b5,4,none⟩))/\(D 1=true->x20=.slice a0 n0 q0)/\(D 2=true->x21=rdP br)/\(D 3=true->x22=rdP br)/\(D 4=true->True)/\(D 5=true->True)/\(D 6=true->True)/\(D 7=true->True)/\(D 8=true->x27=.pointer (some ⟨b5,4,none⟩))/\(D 9=true->True)/\∃ n_:Nat,n_<=5/\D 4=decide (1<=n_)/\D 5=decide (2<=n_)/\D 6=decide (3<=n_)/\D 7=decide (4<=n_)/\D 9=decide (5<=n_)/\(D 9=true->D 1=true)/\(iG (Inv w [br] [.blk b5 (.cells #[.int .i64 c.head.kind,.int .i64 c.head.n,.string c.head.name,.slice ak nk ck,.slice a0 n0 q0] af),au (.slice a0 n0 q0) ab 4 css,B4,rdI br sl (p+1)] S1 w_) (iG (∃ p1 S2 cs t,x23=.agg cs.toArray/\RdT S2 cs t/\wT t<=500/\p1<=p+501/\Ext w.heap.size [br] S1 S2/\Inv w [br] [.blk b5 (.cells #[.int .i64 c.head.kind,.int .i64 c.head.n,.string c.head.name,.slice ak nk ck,.slice a0 n0 q0] af),au (.slice a0 n0 q0) ab 4 css,B4,rdI br sl p1] S2 w_) (rj w [br] b5 #[.int .i64 c.head.kind,.int .i64 c.head.n,.string c.head.name,.slice ak nk ck,.slice a0 n0 q0] 4 af (.slice a0 n0 q0) css (fun p=>[B4,rdI br sl p]) (fun cs p' S'=>∃ t,RdT S' cs t/\wT t<=600/\p'<=p+503/\Ext w.heap.size [br] S1 S') x24 x25 x26 w_)) n_),⟨fun h=>Bool.noConfusion h,fun h=>Bool.noConfusion h,fun h=>Bool.noConfusion h,fun h=>Bool.noConfusion h,fun h=>Bool.noConfusion h,fun h=>Bool.noConfusion h,fun h=>Bool.noConfusion h,fun h=>Bool.noConfusion h,fun h=>Bool.noConfusion h,fun h=>Bool.noConfusion h,⟨0,Nat.zero_le _,rfl,rfl,rfl,rfl,rfl,(fun h=>Bool.noConfusion h),hI.draw⟩⟩,⟨?_,?_,?_,?_,?_,?_,?_,?_,?_,?_,trivial⟩,?_⟩
   ·intro D hD_  x27 x26 x25 x24 x23 x22 x21 x20 x19 w_
    rintro ⟨h0_,h1_,h2_,h3_,h4_,h5_,h6_,h7_,h8_,h9_,⟨n_,ln_,e1_,e2_,e3_,e4_,e5_,kp_,hS⟩⟩
    refine r_field ax ?_
    exact ⟨fun _=>rfl,h1_,h2_,h3_,h4_,h5_,h6_,h7_,h8_,h9_,⟨n_,ln_,e1_,e2_,e3_,e4_,e5_,kp_,hS⟩⟩
   ·intro D hD_ d0_0 x27 x26 x25 x24 x23 x22 x21 x20 x19 w_
    rintro ⟨h0_,h1_,h2_,h3_,h4_,h5_,h6_,h7_,h8_,h9_,⟨n_,ln_,e1_,e2_,e3_,e4_,e5_,kp_,hS⟩⟩
    obtain rfl:=h0_ d0_0
    have ln2_:=Eo e5_ kp_ hD_
    refine r_load al ((EM (fun h=>h.cellL (i:=0) rfl) (fun ⟨_,_,_,_,_,_,_,_,_,h⟩=>h.cellL (i:=0) rfl) (fun n hn h=>wz h hn) hS ln2_).trans rfl) ?_
    exact ⟨h0_,fun _=>rfl,h2_,h3_,h4_,h5_,h6_,h7_,h8_,h9_,⟨n_,ln_,e1_,e2_,e3_,e4_,e5_,(fun _=>rfl),hS⟩⟩
   ·intro D hD_  x27 x26 x25 x24 x23 x22 x21 x20 x19 w_
    rintro ⟨h0_,h1_,h2_,h3_,h4_,h5_,h6_,h7_,h8_,h9_,⟨n_,ln_,e1_,e2_,e3_,e4_,e5_,kp_,hS⟩⟩
    exact ⟨h0_,h1_,fun _=>rfl,h3_,h4_,h5_,h6_,h7_,h8_,h9_,⟨n_,ln_,e1_,e2_,e3_,e4_,e5_,kp_,hS⟩⟩
   ·intro D hD_  x27 x26 x25 x24 x23 x22 x21 x20 x19 w_
    rintro ⟨h0_,h1_,h2_,h3_,h4_,h5_,h6_,h7_,h8_,h9_,⟨n_,ln_,e1_,e2_,e3_,e4_,e5_,kp_,hS⟩⟩
    exact ⟨h0_,h1_,h2_,fun _=>rfl,h4_,h5_,h6_,h7_,h8_,h9_,⟨n_,ln_,e1_,e2_,e3_,e4_,e5_,kp_,hS⟩⟩
   ·intro D hD_ d3_0 x27 x26 x25 x24 x23 x22 x21 x20 x19 w_
    rintro ⟨h0_,h1_,h2_,h3_,h4_,h5_,h6_,h7_,h8_,h9_,⟨n_,ln_,e1_,e2_,e3_,e4_,e5_,kp_,hS⟩⟩
    obtain rfl:=h3_ d3_0
    obtain rfl:n_=0:=Eu e1_ hD_
    refine Run.callL ra qE (L:=[.blk b5 _,au _ ab 4 css,B4,rdI br sl (p+1)]) hS (oL (p:=p+1) (hrd.monoU hE1.1) (by omega)) rfl fun v' I' S2 w_=>?_
    rintro ⟨p2,hp2,rfl,cs2,t2,rfl,hr2,hw2⟩ hE2 hI
    exact ⟨h0_,h1_,h2_,h3_,fun _=>by first|assumption|trivial,h5_,h6_,h7_,h8_,h9_,⟨1,by decide,rfl,(by first|exact e2_|rfl),(by first|exact e3_|rfl),(by first|exact e4_|rfl),(by first|exact e5_|rfl),kp_,⟨p2,S2,cs2,t2,rfl,hr2,hw2,by omega,hE2,hI⟩⟩⟩
   ·intro D hD_ d2_0 d4_1 d4_2 x27 x26 x25 x24 x23 x22 x21 x20 x19 w_
    rintro ⟨h0_,h1_,h2_,h3_,h4_,h5_,h6_,h7_,h8_,h9_,⟨n_,ln_,e1_,e2_,e3_,e4_,e5_,kp_,hS⟩⟩
    obtain rfl:=h2_ d2_0
    have g4_:=h4_ d4_1
    obtain rfl:n_=1:=pX e1_ d4_1 e2_ hD_
    obtain ⟨p2,S2,cs2,t2,rfl,hr2,hw2,hp2,hE2,hI⟩:=vZ hS
    refine Run.callL lA lo (L:=[.blk b5 _,au _ ab 4 css,B4,rdI br sl p2]) hI (jX (p:=p2) (hrd.monoU (hE1.trans hE2).1) hr2 (by omega) (by omega)) rfl fun v' I' S3 w_=>?_
    rintro ⟨p3,hp3,rfl,cs3,t3,rfl,hr3,hw3⟩ hE3 hI
    exact ⟨h0_,h1_,h2_,h3_,h4_,fun _=>by first|assumption|trivial,h6_,h7_,h8_,h9_,⟨2,by decide,(by first|exact e1_|rfl),rfl,(by first|exact e3_|rfl),(by first|exact e4_|rfl),(by first|exact e5_|rfl),kp_,BR (wX ⟨t3,hr3,by omega,by omega,hE2.trans hE3⟩ hr3 hI)⟩⟩
   ·intro D hD_ d5_0 x27 x26 x25 x24 x23 x22 x21 x20 x19 w_
    rintro ⟨h0_,h1_,h2_,h3_,h4_,h5_,h6_,h7_,h8_,h9_,⟨n_,ln_,e1_,e2_,e3_,e4_,e5_,kp_,hS⟩⟩
    have g5_:=h5_ d5_0
    obtain rfl:n_=2:=pX e2_ d5_0 e3_ hD_
    refine ap1 (vZ hS) fun u w_ hS=>?_
    exact ⟨h0_,h1_,h2_,h3_,h4_,h5_,fun _=>by first|assumption|trivial,h7_,h8_,h9_,⟨3,by decide,(by first|exact e1_|rfl),(by first|exact e2_|rfl),rfl,(by first|exact e4_|rfl),(by first|exact e5_|rfl),kp_,BR hS⟩⟩
   ·intro D hD_ d1_0 d6_1 d5_2 x27 x26 x25 x24 x23 x22 x21 x20 x19 w_
    rintro ⟨h0_,h1_,h2_,h3_,h4_,h5_,h6_,h7_,h8_,h9_,⟨n_,ln_,e1_,e2_,e3_,e4_,e5_,kp_,hS⟩⟩
    obtain rfl:=h1_ d1_0
    have g6_:=h6_ d6_1
    obtain rfl:n_=3:=pX e3_ d6_1 e4_ hD_
    refine ap2 (vZ hS) (by omega) fun u w_ hS=>?_
    exact ⟨h0_,h1_,h2_,h3_,h4_,h5_,h6_,fun _=>by first|assumption|trivial,h8_,h9_,⟨4,by decide,(by first|exact e1_|rfl),(by first|exact e2_|rfl),(by first|exact e3_|rfl),rfl,(by first|exact e5_|rfl),kp_,BR hS⟩⟩
   ·intro D hD_ d0_0 d1_1 d2_2 d3_3 d4_4 d5_5 d6_6 d7_7 x27 x26 x25 x24 x23 x22 x21 x20 x19 w_
    rintro ⟨h0_,h1_,h2_,h3_,h4_,h5_,h6_,h7_,h8_,h9_,⟨n_,ln_,e1_,e2_,e3_,e4_,e5_,kp_,hS⟩⟩
    refine r_field ax ?_
    exact ⟨h0_,h1_,h2_,h3_,h4_,h5_,h6_,h7_,fun _=>rfl,h9_,⟨n_,ln_,e1_,e2_,e3_,e4_,e5_,kp_,hS⟩⟩
   ·intro D hD_ d8_0 d7_1 d7_2 d0_3 d1_4 d2_5 d3_6 d4_7 d5_8 d6_9 d7_10 x27 x26 x25 x24 x23 x22 x21 x20 x19 w_
    rintro ⟨h0_,h1_,h2_,h3_,h4_,h5_,h6_,h7_,h8_,h9_,⟨n_,ln_,e1_,e2_,e3_,e4_,e5_,kp_,hS⟩⟩
    obtain rfl:=h8_ d8_0
    have g7_:=h7_ d7_1
    obtain rfl:n_=4:=pX e4_ d7_1 e5_ hD_
    refine ap3 (vZ hS) (by simp) fun w_ hS=>?_
    exact ⟨h0_,h1_,h2_,h3_,h4_,h5_,h6_,h7_,h8_,fun _=>trivial,⟨5,by decide,(by first|exact e1_|rfl),(by first|exact e2_|rfl),(by first|exact e3_|rfl),(by first|exact e4_|rfl),rfl,(fun _=>d1_4),BR hS⟩⟩
   intro D d9_ d8_ d7_ d6_ d5_ d4_ d3_ d2_ d1_ d0_ x27 x26 x25 x24 x23 x22 x21 x20 x19 w_
   rintro ⟨h0_,h1_,h2_,h3_,h4_,h5_,h6_,h7_,h8_,h9_,⟨n_,ln_,e1_,e2_,e3_,e4_,e5_,kp_,hS⟩⟩
   obtain rfl:n_=5:=EI ln_ e5_ d9_
   clear e1_ e2_ e3_ e4_ e5_
   obtain ⟨p3,S7,cs,⟨t,hcs,hwt,hp3,hE7⟩,hl,hI⟩:=vZ (vZ hS)
   exact hfin (hE1.trans hE7) (by omega) (hhd0.mono hE7.1) ((hR.monoR fun _ _ h=>RdT.mono hE7.1 h).snoc hcs hl.1) (by rw [fU,List.length_append,List.length_cons,List.length_nil]; simp only [wL]; omega) hI
  refine r_eql ?_
  refine condP (fun _=>?_) (fun _=>?_)
  ·refine ⟨fun w'=>∃ (S2:Store) (kv:Value) (css:List (List Value)) (ks:List T),Ext w.heap.size [br] S S2/\Rows 4 (RdT S2) css ks/\ks.length<=c.body.length+7/\wL ks+4 * (7 - (ks.length - c.body.length))<=wL c.body+28/\c.body.length<=ks.length/\
     RdT S2 [.int .i64 c.head.kind,.int .i64 c.head.n,.string c.head.name,.slice ak nk ck] c.head/\
     Inv w [br] [.blk b5 (.cells #[.int .i64 c.head.kind,.int .i64 c.head.n,.string c.head.name,.slice ak nk ck,kv] af),au kv ab 4 css,B4,rdI br sl (p+1)] S2 w',fun w'=>7 - qw w' b5 4,⟨S1,_,css,c.body,hE1,hR,by omega,by omega,by omega,hhd0,hI⟩,?_⟩
   intro t39 t38 t37 t36 t35 t34 _ _ _ _ w'
   rintro ⟨S2,kv,css,ks,hE2,hR,hkl,hkw,hkb,hhd,hI⟩
   obtain ⟨a1,n1,q1,rfl,hn1⟩:∃ a m c,kv=.slice a m c/\m=ks.length:=by
    obtain ⟨S',_,_,_,hr⟩:=sL hI hR hhd
    obtain ⟨a,q,rfl,_⟩:=hr
    exact ⟨a,_,q,rfl,rfl⟩
   subst hn1
   have hl1:=nR hI (i:=0) (o:=4) rfl rfl
   have hcl:=hR.hc
   refine r_fieldL hI 0 rfl ax al rfl ?_
   refine r_len aj ?_
   refine r_leq ?_
   refine condP (fun hle=>?_) (fun hle=>?_)
   ·have hI:=hI
    refine ⟨fun D x39 x38 x37 x36 x35 x34 w_=>(D 0=true->x34=.pointer (some ⟨b5,4,none⟩))/\(D 1=true->x35=.slice a1 ks.length q1)/\(D 2=true->True)/\(D 3=true->True)/\(D 4=true->True)/\(D 5=true->x39=.pointer (some ⟨b5,4,none⟩))/\(D 6=true->True)/\∃ n_:Nat,n_<=4/\D 2=decide (1<=n_)/\D 3=decide (2<=n_)/\D 4=decide (3<=n_)/\D 6=decide (4<=n_)/\(D 6=true->D 1=true)/\(iG (Inv w [br] [.blk b5 (.cells #[.int .i64 c.head.kind,.int .i64 c.head.n,.string c.head.name,.slice ak nk ck,.slice a1 ks.length q1] af),au (.slice a1 ks.length q1) ab 4 css,B4,rdI br sl (p+1)] S2 w_) (rj w [br] b5 #[.int .i64 c.head.kind,.int .i64 c.head.n,.string c.head.name,.slice ak nk ck,.slice a1 ks.length q1] 4 af (.slice a1 ks.length q1) css (fun p=>[B4,rdI br sl (p+1)]) (fun cs p' S'=>p'=p/\Ext w.heap.size [br] S2 S'/\RdT S' cs (.mk 3 0 ⟨#[116,114,117,101]⟩ [])) x36 x37 x38 w_) n_),⟨fun h=>Bool.noConfusion h,fun h=>Bool.noConfusion h,fun h=>Bool.noConfusion h,fun h=>Bool.noConfusion h,fun h=>Bool.noConfusion h,fun h=>Bool.noConfusion h,fun h=>Bool.noConfusion h,⟨0,Nat.zero_le _,rfl,rfl,rfl,rfl,(fun h=>Bool.noConfusion h),hI.draw⟩⟩,⟨?_,?_,?_,?_,?_,?_,?_,trivial⟩,?_⟩
    ·intro D hD_  x39 x38 x37 x36 x35 x34 w_
     rintro ⟨h0_,h1_,h2_,h3_,h4_,h5_,h6_,⟨n_,ln_,e1_,e2_,e3_,e4_,kp_,hS⟩⟩
     refine r_field ax ?_
     exact ⟨fun _=>rfl,h1_,h2_,h3_,h4_,h5_,h6_,⟨n_,ln_,e1_,e2_,e3_,e4_,kp_,hS⟩⟩
    ·intro D hD_ d0_0 x39 x38 x37 x36 x35 x34 w_
     rintro ⟨h0_,h1_,h2_,h3_,h4_,h5_,h6_,⟨n_,ln_,e1_,e2_,e3_,e4_,kp_,hS⟩⟩
     obtain rfl:=h0_ d0_0
     have ln2_:=Eo e4_ kp_ hD_
     refine r_load al ((AN (fun h=>h.cellL (i:=0) rfl) (fun n hn h=>wz h hn) hS ln2_).trans rfl) ?_
     exact ⟨h0_,fun _=>rfl,h2_,h3_,h4_,h5_,h6_,⟨n_,ln_,e1_,e2_,e3_,e4_,(fun _=>rfl),hS⟩⟩
    ·intro D hD_  x39 x38 x37 x36 x35 x34 w_
     rintro ⟨h0_,h1_,h2_,h3_,h4_,h5_,h6_,⟨n_,ln_,e1_,e2_,e3_,e4_,kp_,hS⟩⟩
     obtain rfl:n_=0:=Eu e1_ hD_
     refine Run.call0E bg bh (L:=[.blk b5 _,au _ ab 4 css,B4,rdI br sl (p+1)]) hS (bu ⟨#[116,114,117,101]⟩ (by decide) (eq S2) (by simp)) fun v' I' S3 w_=>?_
     rintro ⟨rfl,cs3,rfl,hcs3⟩ hE3 hI
     exact ⟨h0_,h1_,fun _=>by first|assumption|trivial,h3_,h4_,h5_,h6_,⟨1,by decide,rfl,(by first|exact e2_|rfl),(by first|exact e3_|rfl),(by first|exact e4_|rfl),kp_,wX ⟨rfl,hE3,hcs3⟩ hcs3 hI⟩⟩
    ·intro D hD_ d2_0 x39 x38 x37 x36 x35 x34 w_
     rintro ⟨h0_,h1_,h2_,h3_,h4_,h5_,h6_,⟨n_,ln_,e1_,e2_,e3_,e4_,kp_,hS⟩⟩
     have g2_:=h2_ d2_0
     obtain rfl:n_=1:=pX e1_ d2_0 e2_ hD_
     refine ap1 hS fun u w_ hS=>?_
     exact ⟨h0_,h1_,h2_,fun _=>by first|assumption|trivial,h4_,h5_,h6_,⟨2,by decide,(by first|exact e1_|rfl),rfl,(by first|exact e3_|rfl),(by first|exact e4_|rfl),kp_,hS⟩⟩
    ·intro D hD_ d1_0 d3_1 d2_2 x39 x38 x37 x36 x35 x34 w_
     rintro ⟨h0_,h1_,h2_,h3_,h4_,h5_,h6_,⟨n_,ln_,e1_,e2_,e3_,e4_,kp_,hS⟩⟩
     obtain rfl:=h1_ d1_0
     have g3_:=h3_ d3_1
     obtain rfl:n_=2:=pX e2_ d3_1 e3_ hD_
     refine ap2 hS (by omega) fun u w_ hS=>?_
     exact ⟨h0_,h1_,h2_,h3_,fun _=>by first|assumption|trivial,h5_,h6_,⟨3,by decide,(by first|exact e1_|rfl),(by first|exact e2_|rfl),rfl,(by first|exact e4_|rfl),kp_,hS⟩⟩
    ·intro D hD_ d0_0 d1_1 d2_2 d3_3 d4_4 x39 x38 x37 x36 x35 x34 w_
     rintro ⟨h0_,h1_,h2_,h3_,h4_,h5_,h6_,⟨n_,ln_,e1_,e2_,e3_,e4_,kp_,hS⟩⟩
     refine r_field ax ?_
     exact ⟨h0_,h1_,h2_,h3_,h4_,fun _=>rfl,h6_,⟨n_,ln_,e1_,e2_,e3_,e4_,kp_,hS⟩⟩
    ·intro D hD_ d5_0 d4_1 d4_2 d0_3 d1_4 d2_5 d3_6 d4_7 x39 x38 x37 x36 x35 x34 w_
     rintro ⟨h0_,h1_,h2_,h3_,h4_,h5_,h6_,⟨n_,ln_,e1_,e2_,e3_,e4_,kp_,hS⟩⟩
     obtain rfl:=h5_ d5_0
     have g4_:=h4_ d4_1
     obtain rfl:n_=3:=pX e3_ d4_1 e4_ hD_
     refine ap3 hS (by simp) fun w_ hS=>?_
     exact ⟨h0_,h1_,h2_,h3_,h4_,h5_,fun _=>trivial,⟨4,by decide,(by first|exact e1_|rfl),(by first|exact e2_|rfl),(by first|exact e3_|rfl),rfl,(fun _=>d1_4),hS⟩⟩
    intro D d6_ d5_ d4_ d3_ d2_ d1_ d0_ x39 x38 x37 x36 x35 x34 w_
    rintro ⟨h0_,h1_,h2_,h3_,h4_,h5_,h6_,⟨n_,ln_,e1_,e2_,e3_,e4_,kp_,hS⟩⟩
    obtain rfl:n_=4:=EI ln_ e4_ d6_
    clear e1_ e2_ e3_ e4_
    obtain ⟨p3,S7,cs,⟨rfl,hE7,hcs⟩,hl,hI⟩:=hS
    have hR2:=(hR.monoR fun _ _ h=>RdT.mono hE7.1 h).snoc hcs hl.1
    have e4:(ByteArray.mk #[116,114,117,101]).size=4:=rfl
    refine ⟨⟨S7,_,_,_,hE2.trans hE7,hR2,by rw [List.length_append]; simp only [List.length_cons,List.length_nil]; omega,by rw [fU,List.length_append,List.length_cons,List.length_nil]; simp only [wL,wT,List.length_nil,e4]; omega,by rw [List.length_append]; omega,hhd.mono hE7.1,hI⟩,?_⟩
    obtain ⟨S',_,_,_,hr⟩:=sL hI hR2 (hhd.mono hE7.1)
    obtain ⟨a,q,e,_⟩:=hr
    have hl2:=nR hI (i:=0) (o:=4) (a:=a) (n:=(ks++[T.mk 3 0 ⟨#[116,114,117,101]⟩ []]).length) (m:=q) rfl (by rw [<- e]; rfl)
    show 7 - qw w_ b5 4<7 - qw w' b5 4
    rw [hl1,hl2,List.length_append,List.length_cons,List.length_nil]
    omega
   ·exact hfin hE2 (by omega) hhd hR (by omega) hI
  refine r_eql ?_
  refine condP (fun _=>?_) (fun _=>?_)
  ·refine mo hI (by kernel_rfl) rfl (by omega) fun v S3 w' hE3 hv hI=>?_
   refine Run.callL dA dD hI (oB (p:=p+1) (hrd.monoU (hE1.trans hE3).1) hv (by decide) (by omega)) rfl fun v' I' S3 w'=>?_
   rintro ⟨rfl,rfl,m,hm,rfl⟩ _ hI
   have hm:=r9 (m:=7) hm (by decide)
   refine r_field aP ?_
   refine r_field aF ?_
   refine r_store hI 0 (n:=1) rfl (by decide +kernel) rfl (by simp) (by simp [Value.cells,Value.oneCell']) fun w' hI=>?_
   have hr0:=hhd0.mono hE3.1
   obtain ⟨k3,e3,_,_,_,hk3⟩:=RdT.iff.1 hr0
   have hr1:RdT S3 [.int .i64 c.head.kind,.int .i64 c.head.n,.string m,.slice ak nk ck] (.mk c.head.kind c.head.n m c.head.kids):=by
    simp only [List.cons.injEq,and_true,true_and] at e3
    exact RdT.iff.2 ⟨_,rfl,hk,hn,by simp only [T.name,maxLen]; omega,e3 ▸ hk3⟩
   refine hfin (hE1.trans hE3) (by omega) hr1 (hR.monoR fun _ _ h=>RdT.mono hE3.1 h) ?_ hI
   have:wT c.head=c.head.name.size+c.head.kids.length+wL c.head.kids:=by cases c.head; rw [wT]; rfl
   rw [wT]
   omega
  ·exact hfin hE1 (by omega) hhd0 hR (by omega) hI
 intro _ _ _ _ _ _ _ _ _ _ _ _ _ _ _ _ _ _ _ _ _ _ _ _ _ _ _ _ _ _ _ _ _ _ _ _ _ _ _ w'
 rintro ⟨p1,S2,cs1,c1,hp1,hE2,hr,hw1,hI⟩
 subst hB4
 refine r_loadW hI 0 av rfl (by simpa using hr.length) ?_
 refine ao hI 1 rfl av (by simpa using hr.length) rfl (by simpa using hr.one) fun w' hI=>?_
 refine loadV_W hI 1 av rfl (by simpa using hr.length) ?_
 exact ⟨_,_,S2,rfl,hI.pick [false,false,true],hE2,p1,hp1,rfl,cs1,c1,rfl,hr,hw1⟩
end
end Go.Proofs.YtmnnpgdeecnfpaaGreat

/- spec.l4MutateAll, l4Texts, l4Program, l4Clause, l14Two. -/
namespace Go.Proofs.YtmnnpgdeecnfpaaGreat
open Go Go.RowKit
def Light (n m:Nat) (q:List C):Prop:=q.length<=n/\∀ c∈q,wC c<=m
theorem Light.le {n m:Nat} {q:List C} (h:Light n m q):q.length+wP q<=n+n * m:=by
 have:∀ q:List C,(∀ c∈q,wC c<=m)->wP q<=q.length * m:=by
  intro q
  induction q with
  | nil=>intro _; simp [wP]
  | cons c q ih=>
   intro h
   have h1:=h c (List.mem_cons_self ..)
   have h2:=ih fun d hd=>h d (List.mem_cons_of_mem _ hd)
   simp only [wP,List.length_cons,Nat.succ_mul]
   omega
 have h1:=this q h.2
 have h2:q.length * m<=n * m:=Nat.mul_le_mul_right _ h.1
 have:=h.1
 omega
theorem Light.append {n n' m:Nat} {q q':List C} (h:Light n m q) (h':Light n' m q'):Light (n+n') m (q++q'):=
 ⟨by rw [List.length_append]; exact Nat.add_le_add h.1 h'.1,fun c hc=>(List.mem_append.1 hc).elim (h.2 c) (h'.2 c)⟩
abbrev EY (br:Nat) (sl:Value) (p k n m:Nat):Value->List Item->Store->Prop:=fun v I' S'=>∃ p',p'<=p+k/\I'=[rdI br sl p']/\∃ q,RdSl S' 5 (RdC S') v q/\Light n m q
/- a program that is still the caller's own row -/
abbrev EW (br:Nat) (sl:Value) (p k n m:Nat):Value->List Item->Store->Prop:=fun v I' S'=>∃ p' css q,p'<=p+k/\I'=[au v af 5 css,rdI br sl p']/\Rows 5 (RdC S') css q/\Light n m q/\0<q.length/\∀ c∈q,aH c=true
section
variable {w0 w:World} {X:List Nat} {L A:List Item} {S:Store}
theorem iO {v:Value} {css:List (List Value)} {q:List C} (hI:Inv w0 X (au v af 5 css::A) S w) (hR:Rows 5 (RdC S) css q) :
  ∃ S',Ext w0.heap.size X S S'/\Inv w0 X A S' w/\RdSl S' 5 (RdC S') v q:=by
 have hI:Inv w0 X (A++[au v af 5 css]) S w:=hI.last 0 rfl
 obtain ⟨S',hE,hrd,hI⟩:=Inv.lendExt hI
 exact ⟨S',hE,hI,RowRd.rows (hR.monoR fun _ _ h=>RdC.mono hE.1 h) hrd⟩
end
section
variable {br:Nat} {sl:Value} {ys:List Nat}
attribute [local irreducible] Run CondV GuardV LoadV
theorem Fy:wC ⟨.mk 3 0 ⟨#[122]⟩ [],[]⟩=1:=by
 have e:(ByteArray.mk #[122]).size=1:=rfl
 simp only [wC,wT,wL,List.length_nil,e]
theorem pf {p m:Nat} {S:Store} {v:Value} {q:List C} (hrd:RdSl S 1 eV sl ys) (h:RdSl S 5 (RdC S) v q) (hq:Light 30 m q) (h0:0<q.length) (hm:m<=2000) (hp:p<=50000000) :
  Tri Tryz.prog rH [rdP br,v] [rdI br sl p] S (EY br sl p 20000 30 (m+700)):=by
 intro w hI
 refine kW ?_
 unfold fV
 have hql:=hq.1
 refine r_slice0 hI bP fun v0 w' hI=>?_
 have hI:Inv w [br] [au v0 af 5 [],rdI br sl p] S w':=hI.last 0 rfl
 refine ⟨fun a b w'=>∃ (j p1:Nat) (S1:Store) (css:List (List Value)) (q1:List C),a=.int .i64 (j:Int)/\j<=q.length/\q1.length=j/\p1<=p+600 * j/\Ext w.heap.size [br] S S1/\Rows 5 (RdC S1) css q1/\(∀ c∈q1,wC c<=m+700)/\Inv w [br] [au b af 5 css,rdI br sl p1] S1 w',
  fun a _ _=>q.length - (intOf a).toNat,⟨0,p,S,[],[],rfl,Nat.zero_le _,rfl,by omega,Ext.refl _ _ _,Rows.nil _ _,by simp,hI⟩,?_⟩
 intro t6 _ _ t5 _ _ _ _ _ _ _ _ _ _ _ _ _ w'
 rintro ⟨j,p1,S1,css,q1,rfl,hj,hq1,hp1,hE1,hR,hqw,hI⟩
 have hcl:=hR.hc
 have h':=h.monoC hE1.1
 refine r_lenSl h' aB ?_
 refine r_lss ?_
 refine condP (fun hjl=>?_) (fun hjl=>?_)
 ·have hj':j<q.length:=by omega
  refine r_elem hI h' aB av hj' (fun _ _=>RdC.length) fun cs hcs=>?_
  have hwc:=hq.2 _ (List.getElem_mem hj')
  refine Run.callL uT vq hI (sq (p:=p1) (hrd.monoU hE1.1) hcs (by omega) (by omega)) rfl fun v' I' S2 w'=>?_
  rintro ⟨p2,hp2,rfl,ds,d,rfl,hds,hwd⟩ hE2 hI
  refine bx (css:=css) hI 0 _ bP (by omega) (by omega) rfl hds.length hds.one (by omega) (by omega) fun v' w' hI=>?_
  refine r_add (by omega) ?_
  have hpn:p2<=p+600 * (j+1):=Nat.le_trans hp2 (Nat.le_trans (Nat.add_le_add_right hp1 600) (by rw [Nat.mul_add,Nat.add_assoc]; exact Nat.le_refl _))
  exact ⟨⟨j+1,p2,S2,_,q1++[d],rfl,hj',by simp only [List.length_append,hq1,List.length_cons,List.length_nil,Nat.zero_add],hpn,hE1.trans hE2,(hR.monoR fun _ _ h=>RdC.mono hE2.1 h).snoc hds hds.length,fun c hc=>(List.mem_append.1 hc).elim (hqw c) (fun hc=>by simp only [List.mem_singleton] at hc; subst hc; omega),hI⟩,
   by simp only [intOf,Int.toNat_natCast]; omega⟩
 refine ⟨fun v w'=>∃ (p1:Nat) (S1:Store) (q1:List C),p1<=p+20000/\Ext w.heap.size [br] S S1/\RdSl S1 5 (RdC S1) v q1/\Light 30 (m+700) q1/\Inv w [br] [rdI br sl p1] S1 w',?_,?_⟩
 ·refine Run.callL aN aM hI (ba (n:=30) (hrd.monoU hE1.1) (by omega) (by omega)) rfl fun v' I' S1 w'=>?_
  rintro ⟨rfl,rfl,kk,hkk,rfl⟩ _ hI
  have hI:Inv w [br] [au t5 af 5 css,rdI br sl (p1+1)] S1 w':=hI
  refine r_eql ?_
  refine condP (fun _=>?_) (fun _=>?_)
  ·refine ⟨fun b w'=>∃ (S2:Store) (css:List (List Value)) (q1:List C),q1.length<=30/\Ext w.heap.size [br] S S2/\Rows 5 (RdC S2) css q1/\(∀ c∈q1,wC c<=m+700)/\Inv w [br] [au b af 5 css,rdI br sl (p1+1)] S2 w',
    fun b _=>30 - lenOf b,⟨S1,css,q1,by omega,hE1,hR,hqw,hI⟩,?_⟩
   intro t5 _ _ _ _ _ _ _ _ w'
   rintro ⟨S2,css,q1,hq1,hE2,hR,hqw,hI⟩
   have hlen:∀ {w':World} {S2:Store} {t5:Value} {css:List (List Value)} {q1:List C},Inv w [br] [au t5 af 5 css,rdI br sl (p1+1)] S2 w'->Rows 5 (RdC S2) css q1->∃ a m,t5=.slice a q1.length m:=by
    intro w' S2 t5 css q1 hI hR
    obtain ⟨_,_,_,a,m,e,_⟩:=iO hI hR
    exact ⟨a,m,e⟩
   obtain ⟨a1,m1,rfl⟩:=hlen hI hR
   have hcl:=hR.hc
   refine r_len aB ?_
   refine r_leq ?_
   refine condP (fun hle=>?_) (fun hle=>?_)
   ·refine Run.call0E bg bh hI (bu ⟨#[122]⟩ (by decide) (eq S2) (by simp)) fun v' I' S3 w'=>?_
    rintro ⟨rfl,cs3,rfl,hcs3⟩ hE3 hI
    obtain ⟨k3,rfl,_,_,_,a3,q3,rfl,_⟩:=RdT.iff.1 hcs3
    refine fh ?_
    have hds:RdC S3 [.int .i64 3,.int .i64 0,.string ⟨#[122]⟩,.slice a3 0 q3,.slice none 0 0] ⟨.mk 3 0 ⟨#[122]⟩ [],[]⟩:=⟨[.int .i64 3,.int .i64 0,.string ⟨#[122]⟩,.slice a3 0 q3],_,rfl,hcs3,eq S3⟩
    refine bx (css:=css) hI 0 [.int .i64 3,.int .i64 0,.string ⟨#[122]⟩,.slice a3 0 q3,.slice none 0 0] bP (by omega) (by omega) rfl rfl hds.one (by omega) (by omega) fun v' w' hI=>?_
    have hI:Inv w [br] [au v' af 5 (css++[_]),rdI br sl (p1+1)] S3 w':=hI
    have hR2:=(hR.monoR fun _ _ h=>RdC.mono hE3.1 h).snoc hds rfl
    obtain ⟨a2,m2,rfl⟩:=hlen hI hR2
    refine ⟨⟨S3,_,_,by rw [List.length_append]; simp only [List.length_cons,List.length_nil]; omega,hE2.trans hE3,hR2,fun c hc=>(List.mem_append.1 hc).elim (hqw c) (fun hc=>by simp only [List.mem_singleton] at hc; subst hc; rw [Fy]; omega),hI⟩,?_⟩
    simp only [lenOf,List.length_append,List.length_cons,List.length_nil]
    omega
   ·obtain ⟨S3,hE3,hI,hr⟩:=iO hI hR
    exact ⟨_,S3,q1,by omega,hE2.trans hE3,hr,⟨hq1,hqw⟩,hI⟩
  ·obtain ⟨S3,hE3,hI,hr⟩:=iO hI hR
   refine r_eql ?_
   refine condP (fun _=>?_) (fun _=>?_)
   ·refine dF (l:=1) aB hr (by omega) fun u hu=>?_
    exact ⟨_,S3,_,by omega,hE1.trans hE3,hu,⟨by rw [List.length_drop]; omega,fun c hc=>hqw c (List.mem_of_mem_drop hc)⟩,hI⟩
   ·exact ⟨_,S3,q1,by omega,hE1.trans hE3,hr,⟨by omega,hqw⟩,hI⟩
 intro _ _ _ _ t5 _ _ _ _ _ _ _ _ _ _ _ _ w'
 rintro ⟨p2,S2,q2,hp2,hE2,hr,hl,hI⟩
 exact ⟨_,_,S2,rfl,hI,hE2,p2,hp2,rfl,q2,hr,hl⟩
end
end Go.Proofs.YtmnnpgdeecnfpaaGreat

/- spec.l4Texts, l4Program, l4Clause, l14Two. -/
namespace Go.Proofs.YtmnnpgdeecnfpaaGreat
open Go Go.RowKit
def okS (s:ByteArray):Bool:=Dx (bs s) && decide (s.size<=1000)
theorem Db {s:ByteArray} (h:okS s=true):∃ q,BG 60 (bs s)=some q/\0<q.length/\Light 8 200 q/\(∀ c∈q,aH c=true)/\s.size<=1000:=by
 rw [okS,Bool.and_eq_true,decide_eq_true_eq] at h
 obtain ⟨h,hs⟩:=h
 unfold Dx at h
 split at h
 ·rename_i q hq
  simp only [Bool.and_eq_true,decide_eq_true_eq,List.all_eq_true] at h
  exact ⟨q,hq,h.1,⟨h.2.1,fun c hc=>(h.2.2 c hc).2⟩,fun c hc=>(h.2.2 c hc).1,hs⟩
 ·cases h
section
attribute [local irreducible] Run CondV GuardV LoadV
theorem vH {S:Store} {s:ByteArray} (h:okS s=true):Tri Tryz.prog gb [.string s] [] S fun v I' S'=>∃ u css q,v=.tuple #[u,.bool true]/\I'=[au u af 5 css]/\Rows 5 (RdC S') css q/\0<q.length/\Light 8 200 q/\∀ c∈q,aH c=true:=by
 obtain ⟨q,hq,h0,hl,hc,hs⟩:=Db h
 intro w hI
 have hb:(bs s).length=s.size:=(fb (bs s)).symm
 refine (lT (f:=60) (by omega) hq (by rw [hb]; omega) w hI).mono ?_
 rintro e w' ⟨v,I',S',rfl,hI,hE,u,css,rfl,rfl,hR⟩
 exact ⟨_,_,S',rfl,hI,hE,u,css,q,rfl,rfl,hR,h0,hl,hc⟩
theorem uU (S:Store):Tri Tryz.prog zc [] [] S fun v I' S'=>I'=[]/\∃ l,RdSl S' 1 lx v l/\l.length=11/\l.all okS=true:=by
 intro w hI
 refine rV ?_
 unfold pd
 refine mo hI (by kernel_rfl) rfl (by omega) fun v S1 w' hE1 hv hI=>?_
 exact ⟨_,[],S1,rfl,hI,hE1,rfl,_,hv,rfl,by decide +kernel⟩
variable {br:Nat} {sl:Value} {ys:List Nat}
theorem rq {p:Nat} {S:Store} (hrd:RdSl S 1 eV sl ys) (hp:p<=100000000):Tri Tryz.prog vh [rdP br] [rdI br sl p] S (EW br sl p 1 8 200):=by
 intro w hI
 refine oS ?_
 unfold jo
 refine Run.call0E xN wD hI (uU S) fun v' I' S1 w'=>?_
 rintro ⟨rfl,l,hl,hl11,hok⟩ hE1 hI
 have hI:Inv w [br] [rdI br sl p] S1 w':=hI
 refine r_lenSl hl aQ ?_
 refine Run.callL aN aM hI (ba (n:=l.length) (hrd.monoU hE1.1) (by omega) (by omega)) rfl fun v' I' S1 w'=>?_
 rintro ⟨rfl,rfl,k,hk,rfl⟩ _ hI
 have hI:Inv w [br] [rdI br sl (p+1)] S1 w':=hI
 refine dg hI hl aQ ay hk (fun cs hcs=>hcs) ?_
 rw [List.all_eq_true] at hok
 refine Run.call0E fc ft hI (vH (hok _ (List.getElem_mem hk))) fun v I' S2 w'=>?_
 rintro ⟨u,css,q,rfl,rfl,hR,h0,hq,hcv⟩ hE2 hI
 refine r_extract (v:=u) rfl ?_
 refine r_extract (v:=.bool true) rfl ?_
 exact ⟨_,_,S2,rfl,hI.last 0 rfl,hE1.trans hE2,p+1,css,q,Nat.le_refl _,rfl,hR,hq,h0,hcv⟩
end
end Go.Proofs.YtmnnpgdeecnfpaaGreat

/- spec: walks, occurrence, unification. -/
namespace Go.Proofs.YtmnnpgdeecnfpaaGreat
open Go Go.RowKit
/- bindings as a row of terms -/
def KnU (S:Store) (c:Array Value) (st:aG):Prop:=st.length * 4<=c.size/\∀ i (h:i<st.length),(st[i]=none->cellsAt c (i * 4) 4=nw)/\(∀ t,st[i]=some t->RdT S (cellsAt c (i * 4) 4) t)
theorem KnU.set {S:Store} {c:Array Value} {st:aG} (h:KnU S c st) {n:Nat} (hn:n<st.length) {cs:List Value} {u:T} (hu:RdT S cs u):KnU S (putCells c (n * 4) cs) (st.set n (some u)):=by
 have hlc:=hu.length
 have h1:=h.1
 have hs:st.length * 4<=(putCells c (n * 4) cs).size:=by rw [putCells_size _ _ _ (by omega)]; exact h1
 refine ⟨by rw [List.length_set]; exact hs,fun i hi=>?_⟩
 rw [List.length_set] at hi
 by_cases e:n=i
 ·subst e
  rw [List.getElem_set_self]
  refine ⟨fun h=>(by cases h),fun t ht=>?_⟩
  simp only [Option.some.injEq] at ht
  subst ht
  have:=cellsAt_put_self (c:=c) (o:=n * 4) (vs:=cs) (by omega)
  rw [hlc] at this
  rw [this]
  exact hu
 ·rw [List.getElem_set_ne e,cellsAt_put_ne (by omega) (by omega)]
  exact h.2 i hi
theorem KnU.mono {S S':Store} {c:Array Value} {st:aG} (h:KnU S c st) (hs:Sle S S'):KnU S' c st:=⟨h.1,fun i hi=>⟨(h.2 i hi).1,fun t ht=>((h.2 i hi).2 t ht).mono hs⟩⟩
def ym (b:Nat) (r:Nat->Nat) (st:aG) (w:World):Nat:=
 match w.heap[b]? with
 | some (Obj.cells c _ _)=>(match c[0]?,c[1]? with
  | some (Value.int _ k),some (Value.int _ n)=>if (di st (.mk k n emptyB [])).isSome=true then r n.toNat+1 else 0
  | _,_=>0)
 | _=>0
theorem yc {w0 w:World} {X:List Nat} {L:List Item} {S S0:Store} {cs:List Value} {t:T} {E:TypeId} {b i:Nat} (hI:Inv w0 X L S w) (hi:L[i]?=some (.blk b (.cells cs.toArray E))) (h:RdT S0 cs t) (r:Nat->Nat) (st:aG) :
  ym b r st w=if (di st t).isSome=true then r t.n.toNat+1 else 0:=by
 obtain ⟨kv,rfl,_⟩:=RdT.iff.1 h
 have hb:w.heap[b]?=_:=hI.its _ (List.mem_of_getElem? hi)
 unfold ym
 rw [hb]
 obtain ⟨k,n,s,ks⟩:=t
 rfl
section
attribute [local irreducible] Run CondV GuardV LoadV
end
/- the variables of a term in a list of numbers -/
section
attribute [local irreducible] Run CondV GuardV LoadV
open Classical in
end

end Go.Proofs.YtmnnpgdeecnfpaaGreat

/- spec.l3Unify. -/
namespace Go.Proofs.YtmnnpgdeecnfpaaGreat
open Go Go.RowKit
/- the calls of a loop over two lists -/
inductive Chain (Call:aG->T->T->Bool->aG->Prop):aG->List T->List T->Bool->aG->Prop
 | nil {st:aG}:Chain Call st [] [] true st
 | stop {st st':aG} {a b:T} {xs ys:List T}:Call st a b false st'->Chain Call st (a::xs) (b::ys) false st'
 | go {st st1 st':aG} {a b:T} {xs ys:List T} {r:Bool}:Call st a b true st1->Chain Call st1 xs ys r st'->Chain Call st (a::xs) (b::ys) r st'
theorem Chain.head {Call:aG->T->T->Bool->aG->Prop} {st st':aG} {a b:T} {xs ys:List T} {r:Bool} (h:Chain Call st (a::xs) (b::ys) r st') :
  ∃ r1 st1,Call st a b r1 st1/\(r1=false->r=false/\st'=st1)/\(r1=true->Chain Call st1 xs ys r st'):=by
 cases h with
 | stop h=>exact ⟨false,_,h,fun _=>⟨rfl,rfl⟩,fun e=>(by cases e)⟩
 | go h h'=>exact ⟨true,_,h,fun e=>(by cases e),fun _=>h'⟩
theorem Chain.done {Call:aG->T->T->Bool->aG->Prop} {st st':aG} {r:Bool} (h:Chain Call st [] [] r st'):r=true/\st'=st:=by
 cases h
 exact ⟨rfl,rfl⟩
/- how a unification of walked terms ends -/
def Fj (Call:aG->T->T->Bool->aG->Prop) (st:aG) (a' b':T) (r:Bool) (st':aG):Prop:=
 (a'.kind=1/\b'.kind=1/\a'.n=b'.n/\r=true/\st'=st) ∨
 (a'.kind=1/\¬ (b'.kind=1/\a'.n=b'.n)/\((¬ cM st a'.n.toNat b'/\r=true/\st'=st.set a'.n.toNat (some b')) ∨ (cM st a'.n.toNat b'/\r=false/\st'=st))) ∨
 (a'.kind≠1/\b'.kind=1/\((¬ cM st b'.n.toNat a'/\r=true/\st'=st.set b'.n.toNat (some a')) ∨ (cM st b'.n.toNat a'/\r=false/\st'=st))) ∨
 (a'.kind≠1/\b'.kind≠1/\((rX a' b'=false/\r=false/\st'=st) ∨ (rX a' b'=true/\Chain Call st a'.kids b'.kids r st')))
theorem Uni.calls {N:Nat} {Call:aG->T->T->Bool->aG->Prop} (hcall:∀ st a b a' b' r st',Good N st->okJ N (.one a b)->bl st a a'->bl st b b'->Fj Call st a' b' r st'->Call st a b r st') {st st':aG} {j:Job} {r:Bool} (hu:Uni st j r st') :
  Good N st->okJ N j->match j with
   | .one a b=>Call st a b r st'
   | .list xs ys=>Chain Call st xs ys r st':=by
 induction hu with
 | same h1 h2 h3 h4 h5=>exact fun hg hj=>hcall _ _ _ _ _ _ _ hg hj h1 h2 (.inl ⟨h3,h4,h5,rfl,rfl⟩)
 | bindA h1 h2 h3 h4 h5=>exact fun hg hj=>hcall _ _ _ _ _ _ _ hg hj h1 h2 (.inr (.inl ⟨h3,h4,.inl ⟨h5,rfl,rfl⟩⟩))
 | occA h1 h2 h3 h4 h5=>exact fun hg hj=>hcall _ _ _ _ _ _ _ hg hj h1 h2 (.inr (.inl ⟨h3,h4,.inr ⟨h5,rfl,rfl⟩⟩))
 | bindB h1 h2 h3 h4 h5=>exact fun hg hj=>hcall _ _ _ _ _ _ _ hg hj h1 h2 (.inr (.inr (.inl ⟨h3,h4,.inl ⟨h5,rfl,rfl⟩⟩)))
 | occB h1 h2 h3 h4 h5=>exact fun hg hj=>hcall _ _ _ _ _ _ _ hg hj h1 h2 (.inr (.inr (.inl ⟨h3,h4,.inr ⟨h5,rfl,rfl⟩⟩)))
 | clash h1 h2 h3 h4 h5=>exact fun hg hj=>hcall _ _ _ _ _ _ _ hg hj h1 h2 (.inr (.inr (.inr ⟨h3,h4,.inl ⟨h5,rfl,rfl⟩⟩)))
 | kids h1 h2 h3 h4 h5 _ ih=>
  exact fun hg hj=>hcall _ _ _ _ _ _ _ hg hj h1 h2 (.inr (.inr (.inr ⟨h3,h4,.inr ⟨h5,ih hg ⟨gw (cr hg h1 hj.1),gw (cr hg h2 hj.2),oJ h5⟩⟩⟩)))
 | nil=>exact fun _ _=>.nil
 | stop _ ih=>exact fun hg hj=>.stop (ih hg ⟨hj.1 _ (List.mem_cons_self ..),hj.2.1 _ (List.mem_cons_self ..)⟩)
 | go h1 _ ih1 ih2=>
  intro hg hj
  have hj1:okJ N (.one _ _):=⟨hj.1 _ (List.mem_cons_self ..),hj.2.1 _ (List.mem_cons_self ..)⟩
  exact .go (ih1 hg hj1) (ih2 (h1.good hg hj1).1 ⟨fun a ha=>hj.1 a (List.mem_cons_of_mem _ ha),fun b hb=>hj.2.1 b (List.mem_cons_of_mem _ hb),by have:=hj.2.2; simpa using this⟩)
section
attribute [local irreducible] Run CondV GuardV LoadV
set_option maxHeartbeats 1000000 in
/- the case that a nonvariable meets a variable is handed on, so it comes with a contract -/
end

end Go.Proofs.YtmnnpgdeecnfpaaGreat

/- slices.Delete on a tree of the function's own. -/
namespace Go.Proofs.YtmnnpgdeecnfpaaGreat
open Go Go.RowKit
section
variable {P:Program} {w w0:World} {X:List Nat} {L:List Item} {S:Store} {K:Value->World->Prop}
attribute [local irreducible] Run CondV GuardV LoadV
/- append within the room of a block -/
end
end Go.Proofs.YtmnnpgdeecnfpaaGreat

/- DropClause: both sides. -/
namespace Go.Proofs.YtmnnpgdeecnfpaaGreat
open Go Go.RowKit
attribute [local irreducible] Run CondV GuardV LoadV

end Go.Proofs.YtmnnpgdeecnfpaaGreat

/- DropClause: both sides. -/
namespace Go.Proofs.YtmnnpgdeecnfpaaGreat
open Go Go.RowKit
attribute [local irreducible] Run CondV GuardV LoadV

end Go.Proofs.YtmnnpgdeecnfpaaGreat

/- spec.RenumberClause. -/
namespace Go.Proofs.YtmnnpgdeecnfpaaGreat
open Go Go.RowKit
section
attribute [local irreducible] Run CondV GuardV LoadV
end

end Go.Proofs.YtmnnpgdeecnfpaaGreat

/- spec.RenumberClause: lists and clauses. -/
namespace Go.Proofs.YtmnnpgdeecnfpaaGreat
open Go Go.RowKit
section
variable {w:World} {K:Value->World->Prop}
attribute [local irreducible] Run
theorem jS (hk:K (.agg #[.int .i64 0,.int .i64 0,.string ⟨#[]⟩,.slice none 0 0,.slice none 0 0]) w):Run Tryz.prog (sBuild af []) w K:=by
 refine Run.of (v:=.agg #[.int .i64 0,.int .i64 0,.string ⟨#[]⟩,.slice none 0 0,.slice none 0 0]) (w':=w) ?_ hk
 unfold sBuild
 rw [Sem.run_bind,run_build w af _ #[.int .i64 0,.int .i64 0,.string ⟨#[]⟩,.slice none 0 0,.slice none 0 0] (by kernel_rfl),Result.andThen_ok]
 rfl
end
section
attribute [local irreducible] Run CondV GuardV LoadV
abbrev Fz (c:C):Value->List Item->Store->Prop:=fun v I' S'=>I'=[]/\∃ cs,v=.agg cs.toArray/\RdC S' cs c
theorem RdC.zero (S:Store):RdC S [.int .i64 0,.int .i64 0,.string ⟨#[]⟩,.slice none 0 0,.slice none 0 0] ⟨⟨0,0,⟨#[]⟩,[]⟩,[]⟩:=
 ⟨[.int .i64 0,.int .i64 0,.string ⟨#[]⟩,.slice none 0 0],.slice none 0 0,rfl,RdT.iff.2 ⟨_,rfl,by simp [inI,T.kind],by simp [inI,T.n],by rw [T.name]; decide +kernel,⟨none,0,rfl,Nat.le_refl _,Nat.zero_le _,.inl rfl⟩⟩,⟨none,0,rfl,Nat.le_refl _,Nat.zero_le _,.inl rfl⟩⟩
end

end Go.Proofs.YtmnnpgdeecnfpaaGreat

/- spec: resolved terms, if they are small. -/
namespace Go.Proofs.YtmnnpgdeecnfpaaGreat
open Go Go.RowKit
mutual
def Cx:T->Int->Bool
 | .mk _ _ _ ks,d=>if d<1 then false else Cr ks (d - 1)
def Cr:List T->Int->Bool
 | [],_=>true
 | t::ts,d=>Cx t d && Cr ts d
end
theorem uc:∀ (ts:List T) (d:Int),Cr ts d=ts.all fun t=>Cx t d
 | [],_=>rfl
 | t::ts,d=>by rw [Cr,uc ts d]; rfl
def cF (u:T):Bool:=decide (bD u<=120) && Cx u 30
theorem Co (us:List T) (j:Nat) (h:j<us.length):bf (us.take (j+1))=bf (us.take j)+bD us[j]:=by
 induction us generalizing j with
 | nil=>simp at h
 | cons u us ih=>
  cases j with
  | zero=>simp only [List.take_succ_cons,List.take_zero,List.getElem_cons_zero,bf]; omega
  | succ j=>
   have:=ih j (by simpa using h)
   simp only [List.take_succ_cons,List.getElem_cons_succ,bf] at *
   omega
theorem xD (us:List T) (j:Nat):bf (us.take j)<=bf us:=by
 induction us generalizing j with
 | nil=>simp
 | cons u us ih=>
  cases j with
  | zero=>simp only [List.take_zero]; exact bW _
  | succ j=>
   have:=ih j
   simp only [List.take_succ_cons,bf]
   omega
theorem xA (k n:Int) (s:ByteArray) (ks:List T):bD (.mk k n s ks)=1+bf ks:=rfl
theorem su {w:World} {v:Value} {e:TypeId} {k n:Nat} {xs:List Value} (h:(Item.row v e k n xs).holds w):v.cells=#[v]/\v.oneCell'=true:=by
 have h:w.ownsRow 0 e k v n xs:=h
 rcases h.2 with ⟨rfl,_⟩|⟨g,cap,cur,rfl,_⟩ <;> exact ⟨rfl,rfl⟩
section
attribute [local irreducible] Run CondV GuardV LoadV
theorem nX {K:Value->World->Prop} {w:World} (hk:K (.agg #[.int .i64 0,.int .i64 0,.string ⟨#[]⟩,.slice none 0 0]) w):Run Tryz.prog (sBuild ab []) w K:=by
 refine Run.of ?_ hk
 kernel_rfl
/- a tuple of a term and of how many nodes are left -/
theorem nL:∀ x∈([.int .i64 0,.int .i64 0,.string ⟨#[]⟩,.slice none 0 0]:List Value),x.oneCell'=true:=by simp [Value.oneCell']
end

end Go.Proofs.YtmnnpgdeecnfpaaGreat

/- spec: shifted terms and clauses. -/
namespace Go.Proofs.YtmnnpgdeecnfpaaGreat
open Go Go.RowKit
mutual
def dx (m:Int):T->T
 | .mk k n s ks=>.mk k (if k=1 then n+m else n) s (bZ m ks)
def bZ (m:Int):List T->List T
 | []=>[]
 | t::ts=>dx m t::bZ m ts
end
theorem cN (m:Int):∀ ts:List T,bZ m ts=ts.map (dx m)
 | []=>rfl
 | t::ts=>by rw [bZ,cN m ts]; rfl
theorem zx (m:Int) (ks:List T) (j:Nat) (h:j<ks.length):bZ m (ks.take (j+1))=bZ m (ks.take j)++[dx m ks[j]]:=by
 rw [cN,cN,List.take_succ_eq_append_getElem h,List.map_append]; rfl
section
attribute [local irreducible] Run CondV GuardV LoadV
end

end Go.Proofs.YtmnnpgdeecnfpaaGreat

/- Resolvents: the plain form. -/
namespace Go.Proofs.YtmnnpgdeecnfpaaGreat
open Go Go.RowKit
theorem yB {s:ByteArray} (h:gq s=true):s.size<=6:=by
 rw [gq,Bool.or_eq_true] at h
 rcases h with h|h
 ·rw [eZ] at h
  simp only [Bool.and_eq_true,decide_eq_true_eq] at h
  exact h.2.2
 ·simp only [List.any_eq_true,decide_eq_true_eq] at h
  obtain ⟨x,hx,rfl⟩:=h
  have:∀ y∈signs,y.size<=6:=by decide +kernel
  exact this x hx
theorem Ar {t:T} (h:bV t=true):t.name.size<=6:=by
 unfold bV at h
 have he:emptyB.size=0:=by decide +kernel
 by_cases e1:t.kind=1
 ·rw [if_pos e1] at h
  simp only [Bool.and_eq_true,decide_eq_true_eq] at h
  rw [h.2.2.1]; omega
 ·rw [if_neg e1] at h
  by_cases e2:t.kind=2
  ·rw [if_pos e2] at h
   simp only [Bool.and_eq_true,decide_eq_true_eq] at h
   rw [h.2.2.1]; omega
  ·rw [if_neg e2] at h
   by_cases e3:t.kind=3
   ·rw [if_pos e3] at h
    simp only [Bool.and_eq_true,decide_eq_true_eq] at h
    exact yB h.2.1
   ·rw [if_neg e3] at h
    cases h
mutual
theorem wv:∀ (t:T) (d:Int),dd t d=true->okU 26 t
 | .mk k n s ks,d,h=>by
  rw [dd] at h
  split at h
  ·cases h
  ·rw [Bool.and_eq_true] at h
   have h1:=Fe h.1
   have h2:=fun hk=>CV h.1 hk
   have h3:=Ar h.1
   rw [okU]
   refine ⟨h1.2,fun hk=>?_,tf ks _ h.2,h3⟩
   have h4:=h1.1 hk
   have h5:=h2 hk
   simp only [T.n] at h4
   simp only [T.name,T.kids] at h5
   exact ⟨h4.1,by omega,h5.1,List.eq_nil_of_length_eq_zero h5.2⟩
theorem tf:∀ (ts:List T) (d:Int),df ts d=true->bj 26 ts
 | [],_,_=>by rw [bj]; trivial
 | t::ts,d,h=>by
  rw [df,Bool.and_eq_true] at h
  rw [bj]
  exact ⟨wv t d h.1,tf ts d h.2⟩
end
theorem pC {t:T} (h:bz t=true):okU 26 t:=wv t 30 (yH h)
theorem cO {c:C} (h:aH c=true):okU 26 c.head/\(∀ t∈c.body,okU 26 t)/\c.body.length<=6:=by
 rw [aH] at h
 simp only [Bool.and_eq_true,List.all_eq_true,decide_eq_true_eq] at h
 refine ⟨pC h.2.2.1,fun t ht=>?_,h.1⟩
 have:=h.2.1 t ht
 rw [cw,Bool.and_eq_true] at this
 exact pC this.1
mutual
theorem xm {N M:Nat} (h:N<=M):∀ t:T,okU N t->okU M t
 | .mk k n s ks,ht=>by
  rw [okU] at ht ⊢
  refine ⟨ht.1,fun hk=>?_,BT h ks ht.2.2.1,ht.2.2.2⟩
  have:=ht.2.1 hk
  exact ⟨this.1,by omega,this.2.2⟩
theorem BT {N M:Nat} (h:N<=M):∀ ts:List T,bj N ts->bj M ts
 | [],_=>by rw [bj]; trivial
 | t::ts,ht=>by
  rw [bj] at ht ⊢
  exact ⟨xm h t ht.1,BT h ts ht.2⟩
end
mutual
theorem vN {N:Nat} (m:Nat):∀ t:T,okU N t->okU (N+m) (dx m t)
 | .mk k n s ks,ht=>by
  rw [okU] at ht
  rw [dx,okU]
  refine ⟨ht.1,fun hk=>?_,lQ m ks ht.2.2.1,ht.2.2.2⟩
  have:=ht.2.1 hk
  rw [if_pos hk]
  refine ⟨by omega,by omega,this.2.2.1,?_⟩
  rw [this.2.2.2,bZ]
theorem lQ {N:Nat} (m:Nat):∀ ts:List T,bj N ts->bj (N+m) (bZ m ts)
 | [],_=>by rw [bZ,bj]; trivial
 | t::ts,ht=>by
  rw [bj] at ht
  rw [bZ,bj]
  exact ⟨vN m t ht.1,lQ m ts ht.2⟩
end
mutual
theorem zh (m:Int):∀ t:T,wT (dx m t)=wT t
 | .mk k n s ks=>by
  rw [dx,wT,wT,sx m ks]
  rw [cN,List.length_map]
theorem sx (m:Int):∀ ts:List T,wL (bZ m ts)=wL ts
 | []=>rfl
 | t::ts=>by rw [bZ,wL,wL,zh m t,sx m ts]
end
/- weights by nodes -/
mutual
theorem Ap {N:Nat}:∀ t:T,okU N t->(wT t:Int)+1<=7 * bD t
 | .mk k n s ks,h=>by
  rw [okU] at h
  have h1:=DU ks h.2.2.1
  rw [wT,xA]
  omega
theorem DU {N:Nat}:∀ ts:List T,bj N ts->(wL ts:Int)+ts.length<=7 * bf ts
 | [],_=>by simp [wL,bf]
 | t::ts,h=>by
  rw [bj] at h
  have h1:=Ap t h.1
  have h2:=DU ts h.2
  rw [wL,bf,List.length_cons]
  omega
end
theorem AQ {N:Nat} {st:aG} {t v:T} (h:Good N st) (hw:bl st t v) (ht:okU N t):okU N v:=by
 induction hw with
 | stop=>exact ht
 | step hl _ ih=>exact ih (h.look_ok hl).1
theorem BA {N:Nat} {st:aG} (hg:Good N st) {j:Fg} (hr:Res st j):match j with
  | .one t u=>okU N t->okU N u
  | .list ts us=>bj N ts->bj N us/\us.length=ts.length:=by
 induction hr with
 | one hw hl ih=>
  rename_i t v us
  intro ho
  have hv:=AQ hg hw ho
  obtain ⟨h1,h2⟩:=ih hv.kids
  obtain ⟨k,n,s,ks⟩:=v
  have hv2:=hv
  rw [okU] at hv2
  show okU N (.mk k n s us)
  rw [okU]
  refine ⟨hv2.1,fun hk=>?_,h1,hv2.2.2.2⟩
  have h3:=hv2.2.1 hk
  refine ⟨h3.1,h3.2.1,h3.2.2.1,?_⟩
  simp only [T.kids] at h2
  exact List.eq_nil_of_length_eq_zero (by rw [h2,h3.2.2.2]; rfl)
 | nil=>exact fun h=>⟨h,rfl⟩
 | cons _ _ ih1 ih2=>
  intro ho
  rw [bj] at ho
  obtain ⟨h1,h2⟩:=ih2 ho.2
  rw [bj]
  exact ⟨⟨ih1 ho.1,h1⟩,by simp [h2]⟩
theorem yY {N:Nat} {st:aG} (h:Good N st):∀ ts:List T,bj N ts->∃ us,Res st (.list ts us)
 | [],_=>⟨[],.nil⟩
 | t::ts,ho=>by
  rw [bj] at ho
  obtain ⟨u,hu⟩:=Fo h t ho.1
  obtain ⟨us,hus⟩:=yY h ts ho.2
  exact ⟨u::us,.cons hu hus⟩
theorem Dy {st:aG}:∀ {ts us:List T},Res st (.list ts us)->∀ i (h:i<ts.length) (h':i<us.length),Res st (.one ts[i] us[i])
 | _,_,.cons hu _,0,_,_=>hu
 | _,_,.cons _ hus,i+1,h,h'=>Dy hus i (by simpa using h) (by simpa using h')
/- numbered anew -/
mutual
theorem Ch {N:Nat}:∀ (t:T) (l:List Int),okU N t->Ay t l=eJ t l
 | .mk k n s ks,l,h=>by
  rw [okU] at h
  rw [Ay,eJ]
  split
  ·rename_i hk
   rw [(h.2.1 hk).2.2.2,bC]
  ·exact mq ks l h.2.2.1
theorem mq {N:Nat}:∀ (ts:List T) (l:List Int),bj N ts->pW ts l=bC ts l
 | [],l,_=>by rw [pW,bC]
 | t::ts,l,h=>by
  rw [bj] at h
  rw [pW,bC,Ch t l h.1,mq ts _ h.2]
end
mutual
theorem Bv {N:Nat} (vs:List Int) (hd:vs.Nodup):∀ t:T,okU N t->inT vs t->gO vs t=bp vs t
 | .mk k n s ks,h,hi=>by
  rw [okU] at h
  rw [inT] at hi
  rw [gO,bp]
  by_cases hk:k=1
  ·have h1:=h.2.1 hk
   rw [if_pos hk,if_pos hk,vX vs n n 0 (hi.1 hk) hd,h1.2.2.2,cA,h1.2.2.1,hk]
   rfl
  ·rw [if_neg hk,if_neg hk,tK vs hd ks h.2.2.1 hi.2]
theorem tK {N:Nat} (vs:List Int) (hd:vs.Nodup):∀ ts:List T,bj N ts->inL vs ts->dq vs ts=cA vs ts
 | [],_,_=>rfl
 | t::ts,h,hi=>by
  rw [bj] at h
  rw [inL] at hi
  rw [dq,cA,Bv vs hd t h.1 hi.1,tK vs hd ts h.2 hi.2]
end
theorem Ex {N:Nat} {c:C} (hh:okU N c.head) (hb:bj N c.body):bC (c.head::c.body) []=aS c/\gO (aS c) c.head=bp (aS c) c.head/\dq (aS c) c.body=cA (aS c) c.body:=by
 have hl:bj N (c.head::c.body):=by rw [bj]; exact ⟨hh,hb⟩
 have hv:bC (c.head::c.body) []=aS c:=by rw [aS,mq _ _ hl]
 have hd:(aS c).Nodup:=by rw [<- hv]; exact jj _ _ List.nodup_nil
 have hi:inL (aS c) (c.head::c.body):=by rw [<- hv]; exact tP _ _
 rw [inL] at hi
 exact ⟨hv,Bv _ hd _ hh hi.1,tK _ hd _ hb hi.2⟩
/- the resolvent -/
def stU:aG:=List.replicate 52 none
theorem Ee:∀ n:Nat,unb (List.replicate n none)=n
 | 0=>rfl
 | n+1=>by rw [List.replicate_succ,unb,Ee n]
theorem kz:Good 52 stU:=⟨by simp [stU],fun t ht=>by simp [stU] at ht,fun t ht=>by simp [stU] at ht,fun n=>n,fun n u hu=>by
 have:=List.mem_of_getElem? hu
 simp [stU] at this⟩
def eQ (c d:C):List T:=c.head::(bZ 26 d.body++c.body.drop 1)
def ofL:List T->C
 | []=>⟨⟨0,0,⟨#[]⟩,[]⟩,[]⟩
 | t::ts=>⟨t,ts⟩
def RO (c d:C) (o:Option (Option C)):Prop:=∃ r st,Uni stU (.one (c.body.headD ⟨0,0,⟨#[]⟩,[]⟩) (dx 26 d.head)) r st/\
 ((r=false/\o=none) ∨ (r=true/\∃ us,Res st (.list (eQ c d) us)/\((us.all cF=false/\o=some none) ∨ (us.all cF=true/\o=some (some (yv (aS (ofL us)) (ofL us)))))))
theorem tq {c d:C} (hc:aH c=true) (hd:aH d=true):bj 52 (eQ c d):=by
 obtain ⟨c1,c2,_⟩:=cO hc
 obtain ⟨d1,d2,_⟩:=cO hd
 rw [eQ,bj]
 exact ⟨xm (by decide) _ c1,sT (lQ 26 _ (wN d2)) (wN fun t ht=>xm (by decide) _ (c2 t (List.mem_of_mem_drop ht)))⟩
theorem p8 {c d:C} (hc:aH c=true) (hd:aH d=true) (hwc:wC c<=1048576) (hwd:wC d<=1048576) (hb:c.body≠[]):okJ 52 (.one (c.body.headD ⟨0,0,⟨#[]⟩,[]⟩) (dx 26 d.head)):=by
 obtain ⟨c1,c2,_⟩:=cO hc
 obtain ⟨d1,d2,_⟩:=cO hd
 unfold wC at hwc hwd
 cases hcb:c.body with
 | nil=>exact absurd hcb hb
 | cons t ts=>
  rw [List.headD_cons]
  have hm:t∈c.body:=by rw [hcb]; exact List.mem_cons_self ..
  have:=kJ hm
  exact ⟨⟨xm (by decide) _ (c2 t hm),by omega⟩,⟨vN 26 _ d1,by rw [zh]; omega⟩⟩
theorem RO.ex {c d:C} (hc:aH c=true) (hd:aH d=true) (hwc:wC c<=1048576) (hwd:wC d<=1048576) (hb:c.body≠[]):∃ o,RO c d o:=by
 have hj:=p8 hc hd hwc hwd hb
 obtain ⟨r,st,hu⟩:=EX (unb stU) stU kz (Nat.le_refl _) _ hj
 cases r with
 | false=>exact ⟨none,false,st,hu,.inl ⟨rfl,rfl⟩⟩
 | true=>
  obtain ⟨us,hus⟩:=yY (hu.good kz hj).1 (eQ c d) (tq hc hd)
  cases hs:us.all cF with
  | false=>exact ⟨some none,true,st,hu,.inr ⟨rfl,us,hus,.inl ⟨hs,rfl⟩⟩⟩
  | true=>exact ⟨_,true,st,hu,.inr ⟨rfl,us,hus,.inr ⟨hs,rfl⟩⟩⟩
/- small terms have small weights -/
theorem EN {N:Nat} {u:T} (h:cF u=true) (ho:okU N u):wT u<=840:=by
 rw [cF,Bool.and_eq_true,decide_eq_true_eq] at h
 have:=Ap u ho
 omega
theorem tx {N:Nat}:∀ {us:List T},us.all cF=true->bj N us->wL us<=us.length * 840
 | [],_,_=>by simp [wL]
 | u::us,h,ho=>by
  rw [List.all_cons,Bool.and_eq_true] at h
  rw [bj] at ho
  have h1:=EN h.1 ho.1
  have h2:=tx h.2 ho.2
  rw [wL,List.length_cons,Nat.succ_mul]
  omega
theorem vY {c d:C} (hc:aH c=true) (hd:aH d=true):(eQ c d).length<=13:=by
 obtain ⟨_,_,c3⟩:=cO hc
 obtain ⟨_,_,d3⟩:=cO hd
 rw [eQ,List.length_cons,List.length_append,cN,List.length_map,List.length_drop]
 omega

end Go.Proofs.YtmnnpgdeecnfpaaGreat

/- spec.l4Clause. -/
namespace Go.Proofs.YtmnnpgdeecnfpaaGreat
open Go Go.RowKit
section
variable {br:Nat} {sl:Value} {ys:List Nat}
attribute [local irreducible] Run CondV GuardV LoadV
end
end Go.Proofs.YtmnnpgdeecnfpaaGreat

/- Queries parsed and drawn: spec.ParseQuery, l6Query, l6Pair, l6MutateAll, DrawReachOf. (printed by gen_drawq.py) -/
namespace Go.Proofs.YtmnnpgdeecnfpaaGreat
open Go Go.RowKit
def okQ (s:ByteArray):Bool:=match gD 60 8 (bs s) 0 [] with
 | some (q,n)=>decide (n=s.size) && (eU q && (decide (wL q<=300) && decide (s.size<=1000)))
 | none=>false
theorem DN {s:ByteArray} (h:okQ s=true):∃ q,gD 60 8 (bs s) 0 []=some (q,s.size)/\eU q=true/\wL q<=300/\s.size<=1000:=by
 unfold okQ at h
 split at h
 ·rename_i q n hq
  simp only [Bool.and_eq_true,decide_eq_true_eq] at h
  obtain ⟨rfl,h2,h3,h4⟩:=h
  exact ⟨q,hq,h2,h3,h4⟩
 ·cases h
theorem AB {q:List T} (h:eU q=true):q.length<=6:=by
 rw [eU,Bool.and_eq_true] at h
 have:=h.1
 simp at this
 omega
def LightT (n m:Nat) (q:List T):Prop:=q.length<=n/\∀ t∈q,wT t<=m
theorem LightT.le {n m:Nat} {q:List T} (h:LightT n m q):q.length+wL q<=n+n * m:=by
 have:∀ q:List T,(∀ c∈q,wT c<=m)->wL q<=q.length * m:=by
  intro q
  induction q with
  | nil=>intro _; simp [wL]
  | cons c q ih=>
   intro h
   have h1:=h c (List.mem_cons_self ..)
   have h2:=ih fun d hd=>h d (List.mem_cons_of_mem _ hd)
   simp only [wL,List.length_cons,Nat.succ_mul]
   omega
 have h1:=this q h.2
 have h2:q.length * m<=n * m:=Nat.mul_le_mul_right _ h.1
 have:=h.1
 omega
section
variable {w0 w:World} {X:List Nat} {L A:List Item} {S:Store}
theorem CF {v:Value} {css:List (List Value)} {q:List T} (hI:Inv w0 X (au v ab 4 css::A) S w) (hR:Rows 4 (RdT S) css q) :
  ∃ S',Ext w0.heap.size X S S'/\Inv w0 X A S' w/\RdSl S' 4 (RdT S') v q:=by
 have hI:Inv w0 X (A++[au v ab 4 css]) S w:=hI.last 0 rfl
 obtain ⟨S',hE,hrd,hI⟩:=Inv.lendExt hI
 exact ⟨S',hE,hI,RowRd.rows (hR.monoR fun _ _ h=>RdT.mono hE.1 h) hrd⟩
end
section
variable {br:Nat} {sl:Value} {ys:List Nat} {S:Store}
attribute [local irreducible] Run CondV GuardV LoadV
theorem qb {s:ByteArray} (h:okQ s=true):Tri Tryz.prog tH [.string s] [] S fun v I' S'=>I'=[]/\∃ u q,v=.tuple #[u,.bool true]/\RdSl S' 4 (RdT S') u q/\LightT 6 300 q:=by
 intro w hI
 obtain ⟨q,hq,hqv,hqw,hs⟩:=DN h
 have hql:=AB hqv
 have hbs:(bs s).length=s.size:=(fb (bs s)).symm
 refine lO ?_
 unfold ij
 refine r_lenStr ar ?_
 refine eF (by omega) ?_
 refine condV (fun hb=>by cases hb) (fun _=>?_)
 refine Run.call0E oa nO hI (lk (i:=0) hq (Nat.le_trans (Nat.le_of_eq hbs) (by omega)) (Nat.zero_le _)) fun v I' S1 w'=>?_
 rintro ⟨rfl,u,rfl,hu⟩ hE1 hI
 have hI:Inv w [] [] S1 w':=hI
 refine r_extract (v:=u) rfl ?_
 refine r_extract (v:=.int .i64 (s.size:Int)) rfl ?_
 refine ⟨fun t w'=>t=.bool false/\Inv w [] [] S1 w',?_,?_⟩
 ·refine r_lenStr ar ?_
  refine r_neq ?_
  rw [decide_eq_true rfl]
  repeat (first|refine ac ?_|refine ae (by decide) ?_|refine ad ?_|refine ai ?_|refine ah ?_)
  refine Run.callPure rp rC hI (mt hu (by omega)) fun w' hI=>?_
  rw [hqv]
  refine r_not ?_
  repeat (first|refine ac ?_|refine ae (by decide) ?_|refine ad ?_|refine ai ?_|refine ah ?_)
  exact ⟨rfl,hI⟩
 intro t25 _ _ _ _ _ _ _ _ w'
 rintro ⟨rfl,hI⟩
 refine condV (fun hb=>by cases hb) (fun _=>?_)
 refine r_slice0 hI aJ fun v0 w' hI=>?_
 refine ⟨fun a b w'=>∃ (j:Nat) (S2:Store) (css:List (List Value)),a=.int .i64 (j:Int)/\j<=q.length/\Ext w.heap.size [] S S2/\Sle S1 S2/\Rows 4 (RdT S2) css (q.take j)/\Inv w [] [au b ab 4 css] S2 w',
  fun a _ _=>q.length - (intOf a).toNat,⟨0,S1,[],rfl,Nat.zero_le _,hE1,Sle.refl _,Rows.nil _ _,hI⟩,?_⟩
 intro t7 _ _ t6 _ _ _ _ _ _ _ _ _ _ _ _ w'
 rintro ⟨j,S2,css,rfl,hj,hE2,hle,hR,hI⟩
 have hu:=hu.monoT hle
 have hcl:=hR.hc
 refine r_lenSl hu aj ?_
 refine r_lss ?_
 refine condP (fun hji=>?_) (fun hji=>?_)
 ·have hj':j<q.length:=by omega
  have hm:=dP (List.getElem_mem hj')
  have htk:(q.take j).length=j:=by rw [List.length_take]; omega
  refine r_elem hI hu aj ag hj' (fun _ _=>RdT.length) fun cs hcs=>?_
  refine Run.call0E bM bN hI (cq _ S2 cs hcs (by omega)) fun v' I' S3 w'=>?_
  rintro ⟨rfl,ds,M,rfl,rfl,hT⟩ hE3 hI
  obtain ⟨S3,hI,hE3,hins⟩:=hI.pubExt
  have hr3:=hT.rd hins
  refine bx (css:=css) hI 0 ds aJ (by omega) (by omega) rfl hr3.length hr3.one (by omega) (by omega) fun v' w' hI=>?_
  refine r_add (by omega) ?_
  exact ⟨⟨j+1,S3,_,rfl,hj',hE2.trans hE3,hle.trans hE3.1,by rw [List.take_succ_eq_append_getElem hj']; exact (hR.monoR fun _ _ h=>RdT.mono hE3.1 h).snoc hr3 hr3.length,hI⟩,by simp [intOf]; omega⟩
 ·have:j=q.length:=by omega
  subst this
  rw [List.take_length] at hR
  obtain ⟨S3,hE3,hI,hr⟩:=CF hI hR
  exact ⟨_,[],S3,rfl,hI,hE2.trans hE3,rfl,_,q,rfl,hr,hql,fun t ht=>by have:=dP ht; omega⟩
/- a program and a query: published -/
abbrev Ev (br:Nat) (sl:Value) (p k:Nat):Value->List Item->Store->Prop:=fun v I' S'=>∃ p',p'<=p+k/\I'=[rdI br sl p']/\∃ u g ps q,v=.tuple #[u,g]/\RdSl S' 5 (RdC S') u ps/\Light 8 200 ps/\0<ps.length/\RdSl S' 4 (RdT S') g q/\LightT 6 300 q
end
end Go.Proofs.YtmnnpgdeecnfpaaGreat

/- spec.l15Pair, DrawUnfoldClause, DrawCanUnfold. -/
namespace Go.Proofs.YtmnnpgdeecnfpaaGreat
open Go Go.RowKit
section
variable {br:Nat} {sl:Value} {ys:List Nat} {S:Store}
attribute [local irreducible] Run CondV GuardV LoadV
theorem jz (S:Store):Tri Tryz.prog wQ [] [] S fun v I' S'=>I'=[]/\∃ l,RdSl S' 1 lx v l/\l.length=7/\l.all okS=true:=by
 intro w hI
 refine pk ?_
 unfold lu
 refine mo hI (by kernel_rfl) rfl (by omega) fun v S1 w' hE1 hv hI=>?_
 exact ⟨_,[],S1,rfl,hI,hE1,rfl,_,hv,rfl,by decide +kernel⟩
theorem pI (S:Store):Tri Tryz.prog tb [] [] S fun v I' S'=>I'=[]/\∃ l,RdSl S' 1 lx v l/\l.length=7/\l.all okQ=true:=by
 intro w hI
 refine ml ?_
 unfold gZ
 refine mo hI (by kernel_rfl) rfl (by omega) fun v S1 w' hE1 hv hI=>?_
 exact ⟨_,[],S1,rfl,hI,hE1,rfl,_,hv,rfl,by decide +kernel⟩
theorem uL {p:Nat} (hrd:RdSl S 1 eV sl ys) (hp:p<=10000000):Tri Tryz.prog zH [rdP br] [rdI br sl p] S (Ev br sl p 3):=by
 intro w hI
 refine rI ?_
 unfold oK
 refine Run.call0E lF lJ hI (jz S) fun v' I' S1 w'=>?_
 rintro ⟨rfl,l,hl,hl7,_⟩ hE1 hI
 have hI:Inv w [br] [rdI br sl p] S1 w':=hI
 refine r_lenSl hl aQ ?_
 refine Run.callL aN aM hI (ba (n:=l.length) (hrd.monoU hE1.1) (by omega) (by omega)) rfl fun v' I' S1 w'=>?_
 rintro ⟨rfl,rfl,k,hk,rfl⟩ _ hI
 have hI:Inv w [br] [rdI br sl (p+1)] S1 w':=hI
 refine ⟨fun t w'=>∃ k p1:Nat,t=.int .i64 (k:Int)/\k<7/\p1<=p+3/\Inv w [br] [rdI br sl p1] S1 w',?_,?_⟩
 ·refine Run.callL aN aM hI (ba (n:=3) (hrd.monoU hE1.1) (by omega) (by omega)) rfl fun v' I' S1 w'=>?_
  rintro ⟨rfl,rfl,k2,hk2,rfl⟩ _ hI
  have hI:Inv w [br] [rdI br sl (p+2)] S1 w':=hI
  refine r_gtr ?_
  refine condP (fun _=>?_) (fun _=>⟨k,p+2,rfl,by omega,by omega,hI⟩)
  refine Run.callL aN aM hI (ba (n:=4) (hrd.monoU hE1.1) (by omega) (by omega)) rfl fun v' I' S1 w'=>?_
  rintro ⟨rfl,rfl,k3,hk3,rfl⟩ _ hI
  exact ⟨k3,p+3,rfl,by omega,by omega,hI⟩
 intro t4 _ _ _ _ _ w'
 rintro ⟨k,p1,rfl,hk7,hp1,hI⟩
 refine Run.call0E lF lJ hI (jz S1) fun v' I' S2 w'=>?_
 rintro ⟨rfl,l,hl,hl7,hok⟩ hE2 hI
 have hk:k<l.length:=by omega
 refine dg hI hl aQ ay hk (fun cs hcs=>hcs) ?_
 rw [List.all_eq_true] at hok
 refine Run.call0E fc ft hI (vH (hok _ (List.getElem_mem hk))) fun v I' S3 w'=>?_
 rintro ⟨u,css,ps,rfl,rfl,hR,h0,hps,_⟩ hE3 hI
 have hI:Inv w [br] [au u af 5 css,rdI br sl p1] S3 w':=hI.last 0 rfl
 obtain ⟨S4,hE4,hI,hr⟩:=iO hI hR
 refine r_extract (v:=u) rfl ?_
 refine r_extract (v:=.bool true) rfl ?_
 refine Run.call0E r2 rK hI (pI S4) fun v' I' S5 w'=>?_
 rintro ⟨rfl,l2,hl2,hl27,hokq⟩ hE5 hI
 have hk2:k<l2.length:=by omega
 refine dg hI hl2 aQ ay hk2 (fun cs hcs=>hcs) ?_
 rw [List.all_eq_true] at hokq
 refine Run.call0E rY rG hI (qb (hokq _ (List.getElem_mem hk2))) fun v I' S6 w'=>?_
 rintro ⟨rfl,g,q,rfl,hg,hlq⟩ hE6 hI
 have hI:Inv w [br] [rdI br sl p1] S6 w':=by simpa using hI
 refine r_extract (v:=g) rfl ?_
 refine r_extract (v:=.bool true) rfl ?_
 exact ⟨_,_,S6,rfl,hI,hE1.trans (hE2.trans (hE3.trans (hE4.trans (hE5.trans hE6)))),p1,hp1,rfl,u,g,ps,q,rfl,hr.monoC (hE5.trans hE6).1,hps,h0,hg,hlq⟩
abbrev Eb (v':Value) (I':List Item) (S':Store):Prop:=I'=[]/\∃ u q i,v'=.tuple #[u,.int .i64 i]/\(-1000<=i/\i<=1000)/\RdSl S' 5 (RdC S') u q/\Light 30 900 q
theorem gI {v:Value} (h:RdSl S 1 eV v ys):Tri Tryz.prog kw [v] [] S Eb:=by
 intro w hI
 refine fy ?_
 unfold dk
 refine Run.call0E xq xh hI (AD h) fun v1 I' S1 w'=>?_
 rintro ⟨rfl,br,sl,ys',rfl,rfl,hrd⟩ _ hI
 have hI:Inv w [] [rdI br sl 0] S1 w':=hI
 refine Run.callL wH xQ hI (uL (p:=0) hrd (by omega)) rfl fun v2 I' S2 w'=>?_
 rintro ⟨p1,hp1,rfl,u,g,ps,q,rfl,hps,hlp,h0,hq,hlq⟩ hE2 hI
 have hI:Inv w [] [rdI br sl p1] S2 w':=hI
 refine r_extract (v:=u) rfl ?_
 refine r_extract (v:=g) rfl ?_
 refine ⟨fun t w'=>∃ (p2:Nat) (S3:Store) (q:List C),p2<=100000/\Ext w.heap.size [] S1 S3/\RdSl S3 5 (RdC S3) t q/\Light 30 900 q/\Inv w [] [rdI br sl p2] S3 w',?_,?_⟩
 ·refine Run.callL aN aM hI (ba (n:=6) (hrd.monoU hE2.1) (by omega) (by omega)) rfl fun v' I' S2 w'=>?_
  rintro ⟨rfl,rfl,k,hk,rfl⟩ _ hI
  refine r_eql ?_
  refine condP (fun _=>?_) (fun _=>⟨p1+1,_,ps,by omega,hE2,hps,⟨by have:=hlp.1; omega,fun c hc=>by have:=hlp.2 c hc; omega⟩,hI⟩)
  refine Run.callL se sJ hI (rq (p:=p1+1) (hrd.monoU hE2.1) (by omega)) rfl fun v1 I' S3 w'=>?_
  rintro ⟨p2,css1,q1,hp2,rfl,hR1,hq1,h1,_⟩ hE3 hI
  obtain ⟨S4,hE4,hI,hr⟩:=iO (A:=[rdI br sl p2]) hI hR1
  have hE4:=(hE2.trans hE3).trans hE4
  refine Run.callL pw py hI (pf (m:=200) (p:=p2) (hrd.monoU hE4.1) hr ⟨by have:=hq1.1; omega,hq1.2⟩ h1 (by omega) (by omega)) rfl fun v3 I' S5 w'=>?_
  rintro ⟨p3,hp3,rfl,q2,hr2,hq2⟩ hE5 hI
  exact ⟨p3,S5,q2,by omega,hE4.trans hE5,hr2,hq2,hI⟩
 intro t5 _ _ _ _ _ _ _ w'
 rintro ⟨p2,S3,q3,hp2,hE3,hr,hl,hI⟩
 refine Run.callL aN aM hI (ba (n:=3) (hrd.monoU hE3.1) (by omega) (by omega)) rfl fun v' I' S3 w'=>?_
 rintro ⟨rfl,rfl,k,hk,rfl⟩ _ hI
 refine r_gtr ?_
 refine condP (fun _=>?_) (fun _=>?_)
 ·exact ⟨_,[],S3,rfl,hI.nil,hE3,rfl,_,q3,0,rfl,by omega,hr,hl⟩
 ·refine pV hI (by kernel_rfl) rfl (by omega) fun v S4 w' hE4 hv hI=>?_
  refine Run.callL bJ bK hI (ev (p:=p2+1) (hrd.monoU (hE3.trans hE4).1) hv (by decide) (by omega)) rfl fun v' I' S4 w'=>?_
  rintro ⟨rfl,rfl,m,hm,rfl⟩ _ hI
  have hm:=kH (a:=-1000) (b:=1000) hm (by decide)
  exact ⟨_,[],S4,rfl,hI.nil,hE3.trans hE4,rfl,_,q3,m,rfl,hm,hr.monoC hE4.1,hl⟩
theorem ld {v:Value} (h:RdSl S 1 eV v ys):Tri Tryz.prog mO [v] [] S Eb:=by
 intro w hI
 refine iF ?_
 unfold eC
 refine Run.call0E iz iA hI (gI h) fun v I' S2 w'=>?_
 rintro ⟨rfl,u,q,i,rfl,hi,hr,hl⟩ hE2 hI
 refine r_extract (v:=u) rfl ?_
 refine r_extract (v:=.int .i64 i) rfl ?_
 exact ⟨_,[],S2,rfl,hI,hE2,rfl,u,q,i,rfl,hi,hr,hl⟩
end
end Go.Proofs.YtmnnpgdeecnfpaaGreat

/- Matching with a map: impl.instance. -/
namespace Go.Proofs.YtmnnpgdeecnfpaaGreat
open Go Go.RowKit

/- the map of impl.instance -/
def KnownM (S:Store) (es:Array MapEntry) (st:aG):Prop:=
 (∀ e∈es.toList,∃ (n:Nat) (t:T) (cs:List Value),e.key=.int .i64 n/\e.val=.agg cs.toArray/\RdT S cs t/\st[n]?=some (some t))/\(∀ (n:Nat) (t:T),st[n]?=some (some t)->∃ e∈es.toList,e.key=.int .i64 n)
theorem KnownM.find {S:Store} {es:Array MapEntry} {st:aG} (h:KnownM S es st) (n:Nat) :
  (∃ j v t cs,Instr.findNow (.int .i64) (.int .i64 n) es.toList 0=some (some (j,v))/\v=.agg cs.toArray/\RdT S cs t/\st[n]?=some (some t)) ∨
  ((∀ t,st[n]?≠some (some t))/\Instr.findNow (.int .i64) (.int .i64 n) es.toList 0=some none):=by
 rcases jV (n:=n) es.toList 0 (fun e he=>by obtain ⟨m,_,_,hk,_⟩:=h.1 e he; exact ⟨m,hk⟩) with ⟨j,e,he,hk,hf⟩|⟨hk,hf⟩
 ·obtain ⟨m,t,cs,hk2,hv,hR,hs⟩:=h.1 e he
  rw [hk] at hk2
  simp only [Value.int.injEq,true_and] at hk2
  have:n=m:=by omega
  subst this
  exact .inl ⟨j,e.val,t,cs,hf,hv,hR,hs⟩
 ·refine .inr ⟨fun t ht=>?_,hf⟩
  obtain ⟨e,he,hk2⟩:=h.2 n t ht
  exact hk e he hk2
theorem KnownM.push {S:Store} {es:Array MapEntry} {st:aG} (h:KnownM S es st) {n:Nat} (hn:n<st.length) (hno:∀ t,st[n]?≠some (some t)) {cs:List Value} {u:T} (hu:RdT S cs u) (ck:Nat) :
  KnownM S (es.push { key:=.int .i64 n,val:=.agg cs.toArray,born:=ck }) (st.set n (some u)):=by
 refine ⟨fun e he=>?_,fun m t ht=>?_⟩
 ·rw [Array.toList_push] at he
  rcases List.mem_append.1 he with he|he
  ·obtain ⟨m,t,cs',hk,hv,hR,hs⟩:=h.1 e he
   refine ⟨m,t,cs',hk,hv,hR,?_⟩
   have:n≠m:=fun e=>hno t (by rw [e]; exact hs)
   rw [List.getElem?_set_ne this]
   exact hs
  ·simp at he
   subst he
   exact ⟨n,u,cs,rfl,rfl,hu,by rw [List.getElem?_set_self hn]⟩
 ·rw [Array.toList_push]
  by_cases e:n=m
  ·exact ⟨_,List.mem_append_right _ (List.mem_singleton.2 rfl),by rw [e]⟩
  ·rw [List.getElem?_set_ne e] at ht
   obtain ⟨x,hx,hk⟩:=h.2 m t ht
   exact ⟨x,List.mem_append_left _ hx,hk⟩
section
attribute [local irreducible] Run CondV GuardV LoadV
end

end Go.Proofs.YtmnnpgdeecnfpaaGreat

/- SubsumedClause: both sides. -/
namespace Go.Proofs.YtmnnpgdeecnfpaaGreat
open Go Go.RowKit

def st0:aG:=List.replicate 26 none
theorem KnownM.empty (S:Store):KnownM S #[] st0:=⟨by simp,fun n t ht=>by
 rw [st0,List.getElem?_replicate] at ht
 split at ht <;> cases ht⟩
section
variable {P:Program} {w w0:World} {X:List Nat} {L:List Item} {S:Store} {K:Value->World->Prop}
attribute [local irreducible] Run CondV GuardV LoadV
end
section
attribute [local irreducible] Run CondV GuardV LoadV
end

end Go.Proofs.YtmnnpgdeecnfpaaGreat

/- slices.Clone and slices.DeleteFunc of terms. -/
namespace Go.Proofs.YtmnnpgdeecnfpaaGreat
open Go Go.RowKit

section
variable {P:Program} {w w0:World} {X:List Nat} {L:List Item} {S:Store} {K:Value->World->Prop}
attribute [local irreducible] Run CondV GuardV LoadV
theorem Run.callVPure {f:FuncId} {fn:Func} {cap args:List Value} {r:Value} (hf:P.funcs[f]?=some fn) (hn:(fn.name == "runtime.NumGoroutine" || fn.body.isNone)=false) (h:Inv w0 X L S w) (hc:Pure P f (args++cap) S r)
  (hk:∀ w',Inv w0 X L S w'->K r w'):Run P (sCall (fv f cap) args) w K:=by
 refine Run.callV (A:=L) (I:=[]) hf hn (by simpa using h) (Post:=fun v I' S'=>v=r/\I'=[]/\S'=S) ?_ fun v' I' S' w'=>?_
 ·intro w1 hI
  exact (hc w1 hI).mono fun e w' ⟨he,hI⟩=>⟨_,_,_,he,hI,Ext.refl _ _ _,rfl,rfl,rfl⟩
 ·rintro ⟨rfl,rfl,rfl⟩ _ hI
  exact hk _ (by simpa using hI)
end
section
attribute [local irreducible] Run CondV GuardV LoadV
end

end Go.Proofs.YtmnnpgdeecnfpaaGreat
