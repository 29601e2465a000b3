/- spec.l4Mutate, l4MutateAll. -/
import Derived.Test.YtgllldjiaglkcaaGreatDoorZDr9
import Derived.Test.YtgllldjiaglkcaaGreatDoorZDr1
import Derived.Test.YtgllldjiaglkcaaGreatDoorZDr3
import Derived.Test.YtgllldjiaglkcaaGreatDoorZDr8
namespace Go.Proofs.YtgllldjiaglkcaaGreatDoor
section
open Go Go.RowKit
section
variable {w0 w:World} {X:List Nat} {L A:List Item} {S:ad} {K:Value->World->Prop} {P:Program}
theorem yF {b:Nat} {hd:List Value} {h:T} {kv:Value} {css:List (List Value)} {ks:List T} {o:Obj}
  (hI:Inv w0 X (.blk b o::aC kv ab 4 css::A) S w) (hR:Rows 4 (RdT S) css ks) (hh:RdT S hd h) :
  ∃ S',Ext w0.heap.size X S S'/\Inv w0 X (.blk b o::A) S' w/\RdC S' (hd++[kv]) ⟨h,ks⟩/\RdSl S' 4 (RdT S') kv ks:=by
 have hI:Inv w0 X ((.blk b o::A)++[aC kv ab 4 css]) S w:=hI.last 1 rfl
 obtain ⟨S',hE,hrd,hI⟩:=Inv.lendExt hI
 have hrs:=RowRd.rows (hR.monoR fun _ _ h=>RdT.mono hE.1 h) hrd
 exact ⟨S',hE,hI,⟨hd,kv,rfl,hh.mono hE.1,hrs⟩,hrs⟩
end
abbrev Po (br:Nat) (sl:Value) (p k m:Nat):Value->List Item->ad->Prop:=fun v I' S'=>∃ p',p'<=p+k/\I'=[rdI br sl p']/\∃ cs c,v=.agg cs.toArray/\RdC S' cs c/\wC c<=m
section
variable {br:Nat} {sl:Value} {ys:List Nat}
attribute [local irreducible] Run CondV ai az
theorem x1 {p:Nat} {S:ad} {cs:List Value} {c:C} (hrd:RdSl S 1 jy sl ys) (h:RdC S cs c) (hw:wC c<=100000) (hp:p<=90000000) :
  Tri Tryz.prog DH [rdP br,.agg cs.toArray] [rdI br sl p] S (Po br sl p 600 (wC c+700)):=by
 intro w hI
 have hl5:=h.length
 refine qm.2 ?_
 dsimp only[qm,aX]
 refine bt hI fun b3 w' hI=>?_
 refine aM hI cZ fun b4 w' hI=>?_
 refine aA hI 1 aY rfl (by simpa [Value.cells] using hl5) ?_
 refine Run.call0E n6 oe hI (KK h (by omega)) fun v' I' S1 w'=>?_
 rintro ⟨hd,kv,css,rfl,hhd,rfl,hR⟩ hE1 hI
 have hE1:Ext w.heap.size [br] S S1:=hE1
 obtain ⟨a0,n0,q0,rfl⟩:=hI.rowSlice 3 rfl
 have hhd0:=hhd
 obtain ⟨k4,rfl,hk,hn,hs,_⟩:=RdT.iff.1 hhd
 obtain ⟨ak,nk,ck,hk4⟩:∃ a n c,k4=.slice a n c:=by
  obtain ⟨_,e,_,_,_,a,q,rfl,_⟩:=RdT.iff.1 hhd0
  simp only [List.cons.injEq,and_true,true_and] at e
  exact ⟨_,_,_,e⟩
 subst hk4
 refine aM hI cZ fun b5 w' hI=>?_
 refine av hI 4 rfl aY rfl rfl (by simp [Value.oneCell']) fun w' hI=>?_
 obtain ⟨B4,hB4⟩:∃ B4,B4=Item.blk b4 (.cells #[.int .i64 0,.int .i64 0,.string ⟨#[]⟩,.slice none 0 0,.slice none 0 0] af):=⟨_,rfl⟩
 have hI:Inv w [br] [.blk b5 (.cells #[.int .i64 c.head.kind,.int .i64 c.head.n,.string c.head.name,.slice ak nk ck,.slice a0 n0 q0] af),aC (.slice a0 n0 q0) ab 4 css,B4,rdI br sl p] S1 w':=by
  rw [hB4]
  exact (((hI.pick [true,false,true,true,true]).last 2 rfl).last 1 rfl).last 0 rfl
 have hwc:wC c=wT c.head+c.body.length+wL c.body:=rfl
 refine ⟨fun w'=>∃ (p1:Nat) (S2:ad) (cs1:List Value) (c1:C),p1<=p+600/\Ext w.heap.size [br] S S2/\RdC S2 cs1 c1/\wC c1<=wC c+700/\Inv w [br] [.blk b5 (.cells cs1.toArray af),B4,rdI br sl p1] S2 w',?_,?_⟩
 ·have hfin:∀ {hd:List Value} {h:T} {p1:Nat} {w':World} {S1:ad} {css:List (List Value)} {kv:Value} {ks:List T},Ext w.heap.size [br] S S1->p1<=p+600->RdT S1 hd h->Rows 4 (RdT S1) css ks->wT h+ks.length+wL ks<=wC c+700->
    Inv w [br] [.blk b5 (.cells (hd++[kv]).toArray af),aC kv ab 4 css,B4,rdI br sl p1] S1 w'->
    ∃ (p1:Nat) (S2:ad) (cs1:List Value) (c1:C),p1<=p+600/\Ext w.heap.size [br] S S2/\RdC S2 cs1 c1/\wC c1<=wC c+700/\Inv w [br] [.blk b5 (.cells cs1.toArray af),B4,rdI br sl p1] S2 w':=by
   intro hd h p1 w' S1 css kv ks hE hp1 hh hR hwn hI
   obtain ⟨S2,hE2,hI,hr,_⟩:=yF hI hR hh
   exact ⟨p1,S2,_,_,hp1,hE.trans hE2,hr,hwn,hI⟩
  refine Run.callL bz bA hI (cA (n:=40) (hrd.monoU hE1.1) (by omega) (by omega)) rfl fun v' I' S1 w'=>?_
  rintro ⟨rfl,rfl,kk,hkk,rfl⟩ _ hI
  refine aZ ?_
  refine aI (fun _=>?_) (fun _=>?_)
  ·refine Run.callL vS vK hI (rU (p:=p+1) (hrd.monoU hE1.1) (by omega)) rfl fun v' I' S2 w'=>?_
   rintro ⟨p2,hp2,rfl,cs2,t2,rfl,hr2,hw2⟩ hE2 hI
   refine Run.callL qs qy hI (oK (p:=p2) (hrd.monoU (hE1.trans hE2).1) hr2 (by omega) (by omega)) rfl fun v' I' S3 w'=>?_
   rintro ⟨p3,hp3,rfl,cs3,t3,rfl,hr3,hw3⟩ hE3 hI
   have hr3':=hr3
   obtain ⟨k3,rfl,_,_,_,a3,q3,rfl,_⟩:=RdT.iff.1 hr3
   refine aB bM ?_
   refine LX hI 0 rfl ac rfl rfl (by simp [Value.cells,Value.oneCell']) fun w' hI=>?_
   exact hfin ((hE1.trans hE2).trans hE3) (by omega) hr3' (hR.monoR fun _ _ h=>RdT.mono (hE2.trans hE3).1 h) (by omega) hI
  refine aZ ?_
  refine aI (fun _=>?_) (fun _=>?_)
  ·have hcl:=hR.hc
   have hI:=hI
   refine ⟨fun D ww nf eV lO wo wi rD md sn w_=>Fx D 0 [sn=.pointer (some ⟨b5,4,none⟩),md=.slice a0 n0 q0,rD=rdP br,wi=rdP br,True,True,True,True,ww=.pointer (some ⟨b5,4,none⟩),True]/\∃ n_:Nat,n_<=5/\D 4=decide (1<=n_)/\D 5=decide (2<=n_)/\D 6=decide (3<=n_)/\D 7=decide (4<=n_)/\D 9=decide (5<=n_)/\(D 9=true->D 1=true)/\(oZ (Inv w [br] [.blk b5 (.cells #[.int .i64 c.head.kind,.int .i64 c.head.n,.string c.head.name,.slice ak nk ck,.slice a0 n0 q0] af),aC (.slice a0 n0 q0) ab 4 css,B4,rdI br sl (p+1)] S1 w_) (oZ (∃ p1 S2 cs t,wo=.agg cs.toArray/\RdT S2 cs t/\wT t<=500/\p1<=p+501/\Ext w.heap.size [br] S1 S2/\Inv w [br] [.blk b5 (.cells #[.int .i64 c.head.kind,.int .i64 c.head.n,.string c.head.name,.slice ak nk ck,.slice a0 n0 q0] af),aC (.slice a0 n0 q0) ab 4 css,B4,rdI br sl p1] S2 w_) (xw w [br] b5 #[.int .i64 c.head.kind,.int .i64 c.head.n,.string c.head.name,.slice ak nk ck,.slice a0 n0 q0] 4 af (.slice a0 n0 q0) css (fun p=>[B4,rdI br sl p]) (fun cs p' S'=>∃ t,RdT S' cs t/\wT t<=600/\p'<=p+503/\Ext w.heap.size [br] S1 S') lO eV nf w_)) n_),⟨Fx.nil _ _,⟨0,Nat.zero_le _,rfl,rfl,rfl,rfl,rfl,(aK),hI.draw⟩⟩,⟨?_,?_,?_,?_,?_,?_,?_,?_,?_,?_,trivial⟩,?_⟩
   all_goals (intro D bx; intros; rename_i ww nf eV lO wo wi rD md sn w_ hA_; have hF_:=hA_.1; obtain ⟨⟨cr,cq,ct,cu,cz,cB,bP,cT,dw,fc,_⟩,⟨n_,ln_,e1_,e2_,e3_,e4_,e5_,kp_,hS⟩⟩:=hA_)
   ·refine aB bb ?_
    exact ⟨hF_.set 0 rfl,⟨n_,ln_,e1_,e2_,e3_,e4_,e5_,kp_,hS⟩⟩
   ·obtain rfl:=cr ‹_›
    have ln2_:=Nh e5_ kp_ bx
    refine bX aj ((M4 (fun h=>h.cellL (i:=0) rfl) (fun ⟨_,_,_,_,_,_,_,_,_,h⟩=>h.cellL (i:=0) rfl) (fun n hn h=>DO h hn) hS ln2_).trans rfl) ?_
    exact ⟨hF_.set 1 rfl,⟨n_,ln_,e1_,e2_,e3_,e4_,e5_,(fun _=>rfl),hS⟩⟩
   ·exact ⟨hF_.set 2 rfl,⟨n_,ln_,e1_,e2_,e3_,e4_,e5_,kp_,hS⟩⟩
   ·exact ⟨hF_.set 3 rfl,⟨n_,ln_,e1_,e2_,e3_,e4_,e5_,kp_,hS⟩⟩
   ·obtain rfl:=cu ‹_›
    obtain rfl:n_=0:=Oc e1_ bx
    refine Run.callL vS vK (L:=[.blk b5 _,aC _ ab 4 css,B4,rdI br sl (p+1)]) hS (rU (p:=p+1) (hrd.monoU hE1.1) (by omega)) rfl fun v' I' S2 w_=>?_
    rintro ⟨p2,hp2,rfl,cs2,t2,rfl,hr2,hw2⟩ hE2 hI
    exact ⟨hF_.set 4 (by first|assumption|trivial),⟨1,by decide,rfl,(by first|exact e2_|rfl),(by first|exact e3_|rfl),(by first|exact e4_|rfl),(by first|exact e5_|rfl),kp_,⟨p2,S2,cs2,t2,rfl,hr2,hw2,by omega,hE2,hI⟩⟩⟩
   ·obtain rfl:=ct ‹_›
    have FF:=cz ‹_›
    obtain rfl:n_=1:=uv e1_ ‹D 4=true› e2_ bx
    obtain ⟨p2,S2,cs2,t2,rfl,hr2,hw2,hp2,hE2,hI⟩:=BB hS
    refine Run.callL qs qy (L:=[.blk b5 _,aC _ ab 4 css,B4,rdI br sl p2]) hI (oK (p:=p2) (hrd.monoU (hE1.trans hE2).1) hr2 (by omega) (by omega)) rfl fun v' I' S3 w_=>?_
    rintro ⟨p3,hp3,rfl,cs3,t3,rfl,hr3,hw3⟩ hE3 hI
    exact ⟨hF_.set 5 (by first|assumption|trivial),⟨2,by decide,(by first|exact e1_|rfl),rfl,(by first|exact e3_|rfl),(by first|exact e4_|rfl),(by first|exact e5_|rfl),kp_,JO (Eh ⟨t3,hr3,by omega,by omega,hE2.trans hE3⟩ hr3 hI)⟩⟩
   ·have I7:=cB ‹_›
    obtain rfl:n_=2:=uv e2_ ‹D 5=true› e3_ bx
    refine ap1 (BB hS) fun u w_ hS=>?_
    exact ⟨hF_.set 6 (by first|assumption|trivial),⟨3,by decide,(by first|exact e1_|rfl),(by first|exact e2_|rfl),rfl,(by first|exact e4_|rfl),(by first|exact e5_|rfl),kp_,JO hS⟩⟩
   ·obtain rfl:=cq ‹_›
    have IU:=bP ‹_›
    obtain rfl:n_=3:=uv e3_ ‹D 6=true› e4_ bx
    refine ap2 (BB hS) (by omega) fun u w_ hS=>?_
    exact ⟨hF_.set 7 (by first|assumption|trivial),⟨4,by decide,(by first|exact e1_|rfl),(by first|exact e2_|rfl),(by first|exact e3_|rfl),rfl,(by first|exact e5_|rfl),kp_,JO hS⟩⟩
   ·refine aB bb ?_
    exact ⟨hF_.set 8 rfl,⟨n_,ln_,e1_,e2_,e3_,e4_,e5_,kp_,hS⟩⟩
   ·obtain rfl:=dw ‹_›
    have Mh:=cT ‹_›
    obtain rfl:n_=4:=uv e4_ ‹D 7=true› e5_ bx
    refine ap3 (BB hS) (by simp) fun w_ hS=>?_
    exact ⟨hF_.set 9 trivial,⟨5,by decide,(by first|exact e1_|rfl),(by first|exact e2_|rfl),(by first|exact e3_|rfl),(by first|exact e4_|rfl),rfl,(fun _=>‹D 1=true›),JO hS⟩⟩
   obtain rfl:n_=5:=Nj ln_ e5_ ‹D 9=true›
   clear e1_ e2_ e3_ e4_ e5_
   obtain ⟨p3,S7,cs,⟨t,hcs,hwt,hp3,hE7⟩,hl,hI⟩:=BB (BB hS)
   exact hfin (hE1.trans hE7) (by omega) (hhd0.mono hE7.1) ((hR.monoR fun _ _ h=>RdT.mono hE7.1 h).snoc hcs hl.1) (by rw [lC,List.length_append,List.length_cons,List.length_nil]; simp only [wL]; omega) hI
  refine aZ ?_
  refine aI (fun _=>?_) (fun _=>?_)
  ·refine ⟨fun w'=>∃ (S2:ad) (kv:Value) (css:List (List Value)) (ks:List T),Ext w.heap.size [br] S S2/\Rows 4 (RdT S2) css ks/\ks.length<=c.body.length+7/\wL ks+4 * (7 - (ks.length - c.body.length))<=wL c.body+28/\c.body.length<=ks.length/\
     RdT S2 [.int .i64 c.head.kind,.int .i64 c.head.n,.string c.head.name,.slice ak nk ck] c.head/\
     Inv w [br] [.blk b5 (.cells #[.int .i64 c.head.kind,.int .i64 c.head.n,.string c.head.name,.slice ak nk ck,kv] af),aC kv ab 4 css,B4,rdI br sl (p+1)] S2 w',fun w'=>7 - vF w' b5 4,⟨S1,_,css,c.body,hE1,hR,by omega,by omega,by omega,hhd0,hI⟩,?_⟩
   intro t39 t38 t37 t36 t35 t34 _ _ _ _ w'
   rintro ⟨S2,kv,css,ks,hE2,hR,hkl,hkw,hkb,hhd,hI⟩
   obtain ⟨a1,n1,q1,rfl,hn1⟩:∃ a m c,kv=.slice a m c/\m=ks.length:=by
    obtain ⟨S',_,_,_,hr⟩:=yF hI hR hhd
    obtain ⟨a,q,rfl,_⟩:=hr
    exact ⟨a,_,q,rfl,rfl⟩
   subst hn1
   have hl1:=sg hI (i:=0) (o:=4) rfl rfl
   have hcl:=hR.hc
   refine ae hI 0 rfl bb aj rfl ?_
   refine ez ah ?_
   refine dO ?_
   refine aI (fun hle=>?_) (fun hle=>?_)
   ·have hI:=hI
    refine ⟨fun D Ht wV GX xX EI Mv w_=>Fx D 0 [Mv=.pointer (some ⟨b5,4,none⟩),EI=.slice a1 ks.length q1,True,True,True,Ht=.pointer (some ⟨b5,4,none⟩),True]/\∃ n_:Nat,n_<=4/\D 2=decide (1<=n_)/\D 3=decide (2<=n_)/\D 4=decide (3<=n_)/\D 6=decide (4<=n_)/\(D 6=true->D 1=true)/\(oZ (Inv w [br] [.blk b5 (.cells #[.int .i64 c.head.kind,.int .i64 c.head.n,.string c.head.name,.slice ak nk ck,.slice a1 ks.length q1] af),aC (.slice a1 ks.length q1) ab 4 css,B4,rdI br sl (p+1)] S2 w_) (xw w [br] b5 #[.int .i64 c.head.kind,.int .i64 c.head.n,.string c.head.name,.slice ak nk ck,.slice a1 ks.length q1] 4 af (.slice a1 ks.length q1) css (fun p=>[B4,rdI br sl (p+1)]) (fun cs p' S'=>p'=p/\Ext w.heap.size [br] S2 S'/\RdT S' cs (.mk 3 0 ⟨#[116,114,117,101]⟩ [])) xX GX wV w_) n_),⟨Fx.nil _ _,⟨0,Nat.zero_le _,rfl,rfl,rfl,rfl,(aK),hI.draw⟩⟩,⟨?_,?_,?_,?_,?_,?_,?_,trivial⟩,?_⟩
    all_goals (intro D bx; intros; rename_i Ht wV GX xX EI Mv w_ hA_; have hF_:=hA_.1; obtain ⟨⟨cr,cq,ct,cu,cz,cB,bP,_⟩,⟨n_,ln_,e1_,e2_,e3_,e4_,kp_,hS⟩⟩:=hA_)
    ·refine aB bb ?_
     exact ⟨hF_.set 0 rfl,⟨n_,ln_,e1_,e2_,e3_,e4_,kp_,hS⟩⟩
    ·obtain rfl:=cr ‹_›
     have ln2_:=Nh e4_ kp_ bx
     refine bX aj ((Ha (fun h=>h.cellL (i:=0) rfl) (fun n hn h=>DO h hn) hS ln2_).trans rfl) ?_
     exact ⟨hF_.set 1 rfl,⟨n_,ln_,e1_,e2_,e3_,e4_,(fun _=>rfl),hS⟩⟩
    ·obtain rfl:n_=0:=Oc e1_ bx
     refine Run.call0E cJ cH (L:=[.blk b5 _,aC _ ab 4 css,B4,rdI br sl (p+1)]) hS (c7 ⟨#[116,114,117,101]⟩ (by decide) (iR S2) (by simp)) fun v' I' S3 w_=>?_
     rintro ⟨rfl,cs3,rfl,hcs3⟩ hE3 hI
     exact ⟨hF_.set 2 (by first|assumption|trivial),⟨1,by decide,rfl,(by first|exact e2_|rfl),(by first|exact e3_|rfl),(by first|exact e4_|rfl),kp_,Eh ⟨rfl,hE3,hcs3⟩ hcs3 hI⟩⟩
    ·have OJ:=ct ‹_›
     obtain rfl:n_=1:=uv e1_ ‹D 2=true› e2_ bx
     refine ap1 hS fun u w_ hS=>?_
     exact ⟨hF_.set 3 (by first|assumption|trivial),⟨2,by decide,(by first|exact e1_|rfl),rfl,(by first|exact e3_|rfl),(by first|exact e4_|rfl),kp_,hS⟩⟩
    ·obtain rfl:=cq ‹_›
     have PT:=cu ‹_›
     obtain rfl:n_=2:=uv e2_ ‹D 3=true› e3_ bx
     refine ap2 hS (by omega) fun u w_ hS=>?_
     exact ⟨hF_.set 4 (by first|assumption|trivial),⟨3,by decide,(by first|exact e1_|rfl),(by first|exact e2_|rfl),rfl,(by first|exact e4_|rfl),kp_,hS⟩⟩
    ·refine aB bb ?_
     exact ⟨hF_.set 5 rfl,⟨n_,ln_,e1_,e2_,e3_,e4_,kp_,hS⟩⟩
    ·obtain rfl:=cB ‹_›
     have FF:=cz ‹_›
     obtain rfl:n_=3:=uv e3_ ‹D 4=true› e4_ bx
     refine ap3 hS (by simp) fun w_ hS=>?_
     exact ⟨hF_.set 6 trivial,⟨4,by decide,(by first|exact e1_|rfl),(by first|exact e2_|rfl),(by first|exact e3_|rfl),rfl,(fun _=>‹D 1=true›),hS⟩⟩
    obtain rfl:n_=4:=Nj ln_ e4_ ‹D 6=true›
    clear e1_ e2_ e3_ e4_
    obtain ⟨p3,S7,cs,⟨rfl,hE7,hcs⟩,hl,hI⟩:=hS
    have hR2:=(hR.monoR fun _ _ h=>RdT.mono hE7.1 h).snoc hcs hl.1
    have e4:(ByteArray.mk #[116,114,117,101]).size=4:=rfl
    refine ⟨⟨S7,_,_,_,hE2.trans hE7,hR2,by rw [List.length_append]; simp only [List.length_cons,List.length_nil]; omega,by rw [lC,List.length_append,List.length_cons,List.length_nil]; simp only [wL,wT,List.length_nil,e4]; omega,by rw [List.length_append]; omega,hhd.mono hE7.1,hI⟩,?_⟩
    obtain ⟨S',_,_,_,hr⟩:=yF hI hR2 (hhd.mono hE7.1)
    obtain ⟨a,q,e,_⟩:=hr
    have hl2:=sg hI (i:=0) (o:=4) (a:=a) (n:=(ks++[T.mk 3 0 ⟨#[116,114,117,101]⟩ []]).length) (m:=q) rfl (by rw [<- e]; rfl)
    show 7 - vF w_ b5 4<7 - vF w' b5 4
    rw [hl1,hl2,List.length_append,List.length_cons,List.length_nil]
    omega
   ·exact hfin hE2 (by omega) hhd hR (by omega) hI
  refine aZ ?_
  refine aI (fun _=>?_) (fun _=>?_)
  ·refine kG hI (by kernel_rfl) rfl (by omega) fun v S3 w' hE3 hv hI=>?_
   refine Run.callL gY gU hI (sL (p:=p+1) (hrd.monoU (hE1.trans hE3).1) hv (by decide) (by omega)) rfl fun v' I' S3 w'=>?_
   rintro ⟨rfl,rfl,m,hm,rfl⟩ _ hI
   have hm:=xP (m:=7) hm (by decide)
   refine aB bM ?_
   refine aB aR ?_
   refine cw hI 0 (n:=1) rfl (by decide +kernel) rfl (by simp) (by simp [Value.cells,Value.oneCell']) fun w' hI=>?_
   have hr0:=hhd0.mono hE3.1
   obtain ⟨k3,e3,_,_,_,hk3⟩:=RdT.iff.1 hr0
   have hr1:RdT S3 [.int .i64 c.head.kind,.int .i64 c.head.n,.string m,.slice ak nk ck] (.mk c.head.kind c.head.n m c.head.kids):=by
    simp only [List.cons.injEq,and_true,true_and] at e3
    exact RdT.iff.2 ⟨_,rfl,hk,hn,by simp only [T.name,maxLen]; omega,e3 ▸ hk3⟩
   refine hfin (hE1.trans hE3) (by omega) hr1 (hR.monoR fun _ _ h=>RdT.mono hE3.1 h) ?_ hI
   have:wT c.head=c.head.name.size+c.head.kids.length+wL c.head.kids:=by cases c.head; rw [wT]; rfl
   rw [wT]
   omega
  ·exact hfin hE1 (by omega) hhd0 hR (by omega) hI
 intro _ _ _ _ _ _ _ _ _ _ _ _ _ _ _ _ _ _ _ _ _ _ _ _ _ _ _ _ _ _ _ _ _ _ _ _ _ _ _ w'
 rintro ⟨p1,S2,cs1,c1,hp1,hE2,hr,hw1,hI⟩
 subst hB4
 refine aA hI 0 aY rfl (by simpa using hr.length) ?_
 refine av hI 1 rfl aY (by simpa using hr.length) rfl (by simpa using hr.one) fun w' hI=>?_
 refine bl hI 1 aY rfl (by simpa using hr.length) ?_
 exact ⟨_,_,S2,rfl,hI.pick [false,false,true],hE2,p1,hp1,rfl,cs1,c1,rfl,hr,hw1⟩
end
end
section
open Go Go.RowKit
def Light (n m:Nat) (q:List C):Prop:=q.length<=n/\∀ c∈q,wC c<=m
theorem Light.le {n m:Nat} {q:List C} (h:Light n m q):q.length+wP q<=n+n * m:=by
 have:∀ q:List C,(∀ c∈q,wC c<=m)->wP q<=q.length * m:=by
  intro q
  induction q with
  | nil=>intro _; simp [wP]
  | cons c q ih=>
   intro h
   have h1:=h c (List.mem_cons_self ..)
   have h2:=ih fun d hd=>h d (List.mem_cons_of_mem _ hd)
   simp only [wP,List.length_cons,Nat.succ_mul]
   omega
 have h1:=this q h.2
 have h2:q.length * m<=n * m:=Nat.mul_le_mul_right _ h.1
 have:=h.1
 omega
theorem Light.append {n n' m:Nat} {q q':List C} (h:Light n m q) (h':Light n' m q'):Light (n+n') m (q++q'):=
 ⟨by rw [List.length_append]; exact Nat.add_le_add h.1 h'.1,fun c hc=>(List.mem_append.1 hc).elim (h.2 c) (h'.2 c)⟩
abbrev Pu (br:Nat) (sl:Value) (p k n m:Nat):Value->List Item->ad->Prop:=fun v I' S'=>∃ p',p'<=p+k/\I'=[rdI br sl p']/\∃ q,RdSl S' 5 (RdC S') v q/\Light n m q
abbrev PO (br:Nat) (sl:Value) (p k n m:Nat):Value->List Item->ad->Prop:=fun v I' S'=>∃ p' css q,p'<=p+k/\I'=[aC v af 5 css,rdI br sl p']/\Rows 5 (RdC S') css q/\Light n m q/\0<q.length/\∀ c∈q,bh c=true
section
variable {w0 w:World} {X:List Nat} {L A:List Item} {S:ad}
theorem nN {v:Value} {css:List (List Value)} {q:List C} (hI:Inv w0 X (aC v af 5 css::A) S w) (hR:Rows 5 (RdC S) css q) :
  ∃ S',Ext w0.heap.size X S S'/\Inv w0 X A S' w/\RdSl S' 5 (RdC S') v q:=by
 have hI:Inv w0 X (A++[aC v af 5 css]) S w:=hI.last 0 rfl
 obtain ⟨S',hE,hrd,hI⟩:=Inv.lendExt hI
 exact ⟨S',hE,hI,RowRd.rows (hR.monoR fun _ _ h=>RdC.mono hE.1 h) hrd⟩
end
section
variable {br:Nat} {sl:Value} {ys:List Nat}
attribute [local irreducible] Run CondV ai az
theorem P4:wC ⟨.mk 3 0 ⟨#[122]⟩ [],[]⟩=1:=by
 have e:(ByteArray.mk #[122]).size=1:=rfl
 simp only [wC,wT,wL,List.length_nil,e]
theorem rM {p m:Nat} {S:ad} {v:Value} {q:List C} (hrd:RdSl S 1 jy sl ys) (h:RdSl S 5 (RdC S) v q) (hq:Light 30 m q) (h0:0<q.length) (hm:m<=2000) (hp:p<=50000000) :
  Tri Tryz.prog xq [rdP br,v] [rdI br sl p] S (Pu br sl p 20000 30 (m+700)):=by
 intro w hI
 refine lI.2 ?_
 dsimp only[lI,aX]
 have hql:=hq.1
 refine eJ hI cj fun v0 w' hI=>?_
 have hI:Inv w [br] [aC v0 af 5 [],rdI br sl p] S w':=hI.last 0 rfl
 refine ⟨fun a b w'=>∃ (j p1:Nat) (S1:ad) (css:List (List Value)) (q1:List C),a=.int .i64 (j:Int)/\j<=q.length/\q1.length=j/\p1<=p+600 * j/\Ext w.heap.size [br] S S1/\Rows 5 (RdC S1) css q1/\(∀ c∈q1,wC c<=m+700)/\Inv w [br] [aC b af 5 css,rdI br sl p1] S1 w',
  fun a _ _=>q.length - (intOf a).toNat,⟨0,p,S,[],[],rfl,Nat.zero_le _,rfl,by omega,Ext.refl _ _ _,Rows.nil _ _,by simp,hI⟩,?_⟩
 intro t6 _ _ t5 _ _ _ _ _ _ _ _ _ _ _ _ _ w'
 rintro ⟨j,p1,S1,css,q1,rfl,hj,hq1,hp1,hE1,hR,hqw,hI⟩
 have hcl:=hR.hc
 have h':=h.monoC hE1.1
 refine aG h' aP ?_
 refine bI ?_
 refine aI (fun hjl=>?_) (fun hjl=>?_)
 ·have hj':j<q.length:=by omega
  refine ci hI h' aP aY hj' (fun _ _=>RdC.length) fun cs hcs=>?_
  have hwc:=hq.2 _ (List.getElem_mem hj')
  refine Run.callL AN A8 hI (x1 (p:=p1) (hrd.monoU hE1.1) hcs (by omega) (by omega)) rfl fun v' I' S2 w'=>?_
  rintro ⟨p2,hp2,rfl,ds,d,rfl,hds,hwd⟩ hE2 hI
  refine cR (css:=css) hI 0 _ cj (by omega) (by omega) rfl hds.length hds.one (by omega) (by omega) fun v' w' hI=>?_
  refine bq (by omega) ?_
  have hpn:p2<=p+600 * (j+1):=Nat.le_trans hp2 (Nat.le_trans (Nat.add_le_add_right hp1 600) (by rw [Nat.mul_add,Nat.add_assoc]; exact Nat.le_refl _))
  exact ⟨⟨j+1,p2,S2,_,q1++[d],rfl,hj',by simp only [List.length_append,hq1,List.length_cons,List.length_nil,Nat.zero_add],hpn,hE1.trans hE2,(hR.monoR fun _ _ h=>RdC.mono hE2.1 h).snoc hds hds.length,fun c hc=>(List.mem_append.1 hc).elim (hqw c) (fun hc=>by simp only [List.mem_singleton] at hc; subst hc; omega),hI⟩,
   by simp only [intOf,Int.toNat_natCast]; omega⟩
 refine ⟨fun v w'=>∃ (p1:Nat) (S1:ad) (q1:List C),p1<=p+20000/\Ext w.heap.size [br] S S1/\RdSl S1 5 (RdC S1) v q1/\Light 30 (m+700) q1/\Inv w [br] [rdI br sl p1] S1 w',?_,?_⟩
 ·refine Run.callL bz bA hI (cA (n:=30) (hrd.monoU hE1.1) (by omega) (by omega)) rfl fun v' I' S1 w'=>?_
  rintro ⟨rfl,rfl,kk,hkk,rfl⟩ _ hI
  have hI:Inv w [br] [aC t5 af 5 css,rdI br sl (p1+1)] S1 w':=hI
  refine aZ ?_
  refine aI (fun _=>?_) (fun _=>?_)
  ·refine ⟨fun b w'=>∃ (S2:ad) (css:List (List Value)) (q1:List C),q1.length<=30/\Ext w.heap.size [br] S S2/\Rows 5 (RdC S2) css q1/\(∀ c∈q1,wC c<=m+700)/\Inv w [br] [aC b af 5 css,rdI br sl (p1+1)] S2 w',
    fun b _=>30 - lenOf b,⟨S1,css,q1,by omega,hE1,hR,hqw,hI⟩,?_⟩
   intro t5 _ _ _ _ _ _ _ _ w'
   rintro ⟨S2,css,q1,hq1,hE2,hR,hqw,hI⟩
   have hlen:∀ {w':World} {S2:ad} {t5:Value} {css:List (List Value)} {q1:List C},Inv w [br] [aC t5 af 5 css,rdI br sl (p1+1)] S2 w'->Rows 5 (RdC S2) css q1->∃ a m,t5=.slice a q1.length m:=by
    intro w' S2 t5 css q1 hI hR
    obtain ⟨_,_,_,a,m,e,_⟩:=nN hI hR
    exact ⟨a,m,e⟩
   obtain ⟨a1,m1,rfl⟩:=hlen hI hR
   have hcl:=hR.hc
   refine ez aP ?_
   refine dO ?_
   refine aI (fun hle=>?_) (fun hle=>?_)
   ·refine Run.call0E cJ cH hI (c7 ⟨#[122]⟩ (by decide) (iR S2) (by simp)) fun v' I' S3 w'=>?_
    rintro ⟨rfl,cs3,rfl,hcs3⟩ hE3 hI
    obtain ⟨k3,rfl,_,_,_,a3,q3,rfl,_⟩:=RdT.iff.1 hcs3
    refine kl ?_
    have hds:RdC S3 [.int .i64 3,.int .i64 0,.string ⟨#[122]⟩,.slice a3 0 q3,.slice none 0 0] ⟨.mk 3 0 ⟨#[122]⟩ [],[]⟩:=⟨[.int .i64 3,.int .i64 0,.string ⟨#[122]⟩,.slice a3 0 q3],_,rfl,hcs3,iR S3⟩
    refine cR (css:=css) hI 0 [.int .i64 3,.int .i64 0,.string ⟨#[122]⟩,.slice a3 0 q3,.slice none 0 0] cj (by omega) (by omega) rfl rfl hds.one (by omega) (by omega) fun v' w' hI=>?_
    have hI:Inv w [br] [aC v' af 5 (css++[_]),rdI br sl (p1+1)] S3 w':=hI
    have hR2:=(hR.monoR fun _ _ h=>RdC.mono hE3.1 h).snoc hds rfl
    obtain ⟨a2,m2,rfl⟩:=hlen hI hR2
    refine ⟨⟨S3,_,_,by rw [List.length_append]; simp only [List.length_cons,List.length_nil]; omega,hE2.trans hE3,hR2,fun c hc=>(List.mem_append.1 hc).elim (hqw c) (fun hc=>by simp only [List.mem_singleton] at hc; subst hc; rw [P4]; omega),hI⟩,?_⟩
    simp only [lenOf,List.length_append,List.length_cons,List.length_nil]
    omega
   ·obtain ⟨S3,hE3,hI,hr⟩:=nN hI hR
    exact ⟨_,S3,q1,by omega,hE2.trans hE3,hr,⟨hq1,hqw⟩,hI⟩
  ·obtain ⟨S3,hE3,hI,hr⟩:=nN hI hR
   refine aZ ?_
   refine aI (fun _=>?_) (fun _=>?_)
   ·refine o7 (l:=1) aP hr (by omega) fun u hu=>?_
    exact ⟨_,S3,_,by omega,hE1.trans hE3,hu,⟨by rw [List.length_drop]; omega,fun c hc=>hqw c (List.mem_of_mem_drop hc)⟩,hI⟩
   ·exact ⟨_,S3,q1,by omega,hE1.trans hE3,hr,⟨by omega,hqw⟩,hI⟩
 intro _ _ _ _ t5 _ _ _ _ _ _ _ _ _ _ _ _ w'
 rintro ⟨p2,S2,q2,hp2,hE2,hr,hl,hI⟩
 exact ⟨_,_,S2,rfl,hI,hE2,p2,hp2,rfl,q2,hr,hl⟩
end
end
section
open Go Go.RowKit
def okS (s:ByteArray):Bool:=LU (bs s) && decide (s.size<=1000)
theorem Mr {s:ByteArray} (h:okS s=true):∃ q,JN 60 (bs s)=some q/\0<q.length/\Light 8 200 q/\(∀ c∈q,bh c=true)/\s.size<=1000:=by
 rw [okS,Bool.and_eq_true,decide_eq_true_eq] at h
 obtain ⟨h,hs⟩:=h
 unfold LU at h
 split at h
 ·rename_i q hq
  simp only [Bool.and_eq_true,decide_eq_true_eq,List.all_eq_true] at h
  exact ⟨q,hq,h.1,⟨h.2.1,fun c hc=>(h.2.2 c hc).2⟩,fun c hc=>(h.2.2 c hc).1,hs⟩
 ·cases h
section
attribute [local irreducible] Run CondV ai az
theorem Ct {S:ad} {s:ByteArray} (h:okS s=true):Tri Tryz.prog lN [.string s] [] S fun v I' S'=>∃ u css q,v=.tuple #[u,.bool true]/\I'=[aC u af 5 css]/\Rows 5 (RdC S') css q/\0<q.length/\Light 8 200 q/\∀ c∈q,bh c=true:=by
 obtain ⟨q,hq,h0,hl,hc,hs⟩:=Mr h
 intro w hI
 have hb:(bs s).length=s.size:=(jR (bs s)).symm
 refine (qS (f:=60) (by omega) hq (by rw [hb]; omega) w hI).mono ?_
 rintro e w' ⟨v,I',S',rfl,hI,hE,u,css,rfl,rfl,hR⟩
 exact ⟨_,_,S',rfl,hI,hE,u,css,q,rfl,rfl,hR,h0,hl,hc⟩
theorem AG (S:ad):Tri Tryz.prog GS [] [] S fun v I' S'=>I'=[]/\∃ l,RdSl S' 1 qh v l/\l.length=11/\l.all okS=true:=by
 intro w hI
 refine tg.2 ?_
 dsimp only[tg,j9]
 refine kG hI (by kernel_rfl) rfl (by omega) fun v S1 w' hE1 hv hI=>?_
 exact ⟨_,[],S1,rfl,hI,hE1,rfl,_,hv,rfl,by decide +kernel⟩
variable {br:Nat} {sl:Value} {ys:List Nat}
theorem xp {p:Nat} {S:ad} (hrd:RdSl S 1 jy sl ys) (hp:p<=100000000):Tri Tryz.prog AR [rdP br] [rdI br sl p] S (PO br sl p 1 8 200):=by
 intro w hI
 refine pm.2 ?_
 dsimp only[pm,aD]
 refine Run.call0E Dr Dw hI (AG S) fun v' I' S1 w'=>?_
 rintro ⟨rfl,l,hl,hl11,hok⟩ hE1 hI
 have hI:Inv w [br] [rdI br sl p] S1 w':=hI
 refine aG hl bF ?_
 refine Run.callL bz bA hI (cA (n:=l.length) (hrd.monoU hE1.1) (by omega) (by omega)) rfl fun v' I' S1 w'=>?_
 rintro ⟨rfl,rfl,k,hk,rfl⟩ _ hI
 have hI:Inv w [br] [rdI br sl (p+1)] S1 w':=hI
 refine iP hI hl bF aL hk (fun cs hcs=>hcs) ?_
 rw [List.all_eq_true] at hok
 refine Run.call0E jN jG hI (Ct (hok _ (List.getElem_mem hk))) fun v I' S2 w'=>?_
 rintro ⟨u,css,q,rfl,rfl,hR,h0,hq,hcv⟩ hE2 hI
 refine al (v:=u) rfl ?_
 refine al (v:=.bool true) rfl ?_
 exact ⟨_,_,S2,rfl,hI.last 0 rfl,hE1.trans hE2,p+1,css,q,Nat.le_refl _,rfl,hR,hq,h0,hcv⟩
end
end
section
open Go Go.RowKit
def KnU (S:ad) (c:Array Value) (st:ag):Prop:=st.length * 4<=c.size/\∀ i (h:i<st.length),(st[i]=none->aJ c (i * 4) 4=my)/\(∀ t,st[i]=some t->RdT S (aJ c (i * 4) 4) t)
abbrev kvU (kb N kp:Nat):Value:=.slice (some ⟨kb,0,none⟩) N kp
theorem KnU.set {S:ad} {c:Array Value} {st:ag} (h:KnU S c st) {n:Nat} (hn:n<st.length) {cs:List Value} {u:T} (hu:RdT S cs u):KnU S (bf c (n * 4) cs) (st.set n (some u)):=by
 have hlc:=hu.length
 have h1:=h.1
 have hs:st.length * 4<=(bf c (n * 4) cs).size:=by rw [fq _ _ _ (by omega)]; exact h1
 refine ⟨by rw [List.length_set]; exact hs,fun i hi=>?_⟩
 rw [List.length_set] at hi
 by_cases e:n=i
 ·subst e
  rw [List.getElem_set_self]
  refine ⟨fun h=>(by cases h),fun t ht=>?_⟩
  simp only [Option.some.injEq] at ht
  subst ht
  have:=gJ (c:=c) (o:=n * 4) (vs:=cs) (by omega)
  rw [hlc] at this
  rw [this]
  exact hu
 ·rw [List.getElem_set_ne e,eI (by omega) (by omega)]
  exact h.2 i hi
theorem KnU.mono {S S':ad} {c:Array Value} {st:ag} (h:KnU S c st) (hs:Sle S S'):KnU S' c st:=⟨h.1,fun i hi=>⟨(h.2 i hi).1,fun t ht=>((h.2 i hi).2 t ht).mono hs⟩⟩
def Fj (b:Nat) (r:Nat->Nat) (st:ag) (w:World):Nat:=
 match w.heap[b]? with
 | some (Obj.cells c _ _)=>(match c[0]?,c[1]? with
  | some (Value.int _ k),some (Value.int _ n)=>if (look st (.mk k n emptyB [])).isSome=true then r n.toNat+1 else 0
  | _,_=>0)
 | _=>0
theorem Gm {w0 w:World} {X:List Nat} {L:List Item} {S S0:ad} {cs:List Value} {t:T} {E:TypeId} {b i:Nat} (hI:Inv w0 X L S w) (hi:L[i]?=some (.blk b (.cells cs.toArray E))) (h:RdT S0 cs t) (r:Nat->Nat) (st:ag) :
  Fj b r st w=if (look st t).isSome=true then r t.n.toNat+1 else 0:=by
 obtain ⟨kv,rfl,_⟩:=RdT.iff.1 h
 have hb:w.heap[b]?=_:=hI.its _ (List.mem_of_getElem? hi)
 unfold Fj
 rw [hb]
 obtain ⟨k,n,s,ks⟩:=t
 rfl
section
attribute [local irreducible] Run CondV ai az
end
theorem Kb (l:List Int) (n x:Int):x∈rx l n↔x∈l ∨ x=n:=by
 unfold rx
 split
 ·rename_i h
  rw [Le] at h
  constructor
  ·exact .inl
  ·rintro (h1|rfl)
   ·exact h1
   ·exact h
 ·simp
mutual
theorem H7 {N:Nat}:∀ (t:T) (l:List Int),okU N t->∀ x,x∈EF t l↔x∈l ∨ ∃ m∈vT t,x=(m:Int)
 | .mk k n s ks,l,h,x=>by
  rw [okU] at h
  rw [EF,vT]
  by_cases hk:k=1
  ·rw [if_pos hk,if_pos hk,Kb]
   have:=(h.2.1 hk).1
   constructor
   ·rintro (h1|h1)
    ·exact .inl h1
    ·exact .inr ⟨n.toNat,List.mem_singleton.2 rfl,by omega⟩
   ·rintro (h1|⟨m,hm,e⟩)
    ·exact .inl h1
    ·rw [List.mem_singleton] at hm
     exact .inr (by omega)
  ·rw [if_neg hk,if_neg hk]
   exact qN ks l h.2.2.1 x
theorem qN {N:Nat}:∀ (ts:List T) (l:List Int),bH N ts->∀ x,x∈kK ts l↔x∈l ∨ ∃ m∈vTL ts,x=(m:Int)
 | [],l,_,x=>by simp [kK,vTL]
 | t::ts,l,h,x=>by
  rw [bH] at h
  rw [kK,vTL,qN ts _ h.2,H7 t l h.1]
  simp only [List.mem_append]
  constructor
  ·rintro ((h|⟨m,h,e⟩)|⟨m,h,e⟩)
   ·exact .inl h
   ·exact .inr ⟨m,.inl h,e⟩
   ·exact .inr ⟨m,.inr h,e⟩
  ·rintro (h|⟨m,h|h,e⟩)
   ·exact .inl (.inl h)
   ·exact .inl (.inr ⟨m,h,e⟩)
   ·exact .inr ⟨m,h,e⟩
end
section
attribute [local irreducible] Run CondV ai az
end
end
section
open Go Go.RowKit
inductive Chain (Call:ag->T->T->Bool->ag->Prop):ag->List T->List T->Bool->ag->Prop
 | nil {st:ag}:Chain Call st [] [] true st
 | stop {st st':ag} {a b:T} {xs ys:List T}:Call st a b false st'->Chain Call st (a::xs) (b::ys) false st'
 | go {st st1 st':ag} {a b:T} {xs ys:List T} {r:Bool}:Call st a b true st1->Chain Call st1 xs ys r st'->Chain Call st (a::xs) (b::ys) r st'
theorem Chain.head {Call:ag->T->T->Bool->ag->Prop} {st st':ag} {a b:T} {xs ys:List T} {r:Bool} (h:Chain Call st (a::xs) (b::ys) r st') :
  ∃ r1 st1,Call st a b r1 st1/\(r1=false->r=false/\st'=st1)/\(r1=true->Chain Call st1 xs ys r st'):=by
 cases h with
 | stop h=>exact ⟨false,_,h,fun _=>⟨rfl,rfl⟩,fun e=>(by cases e)⟩
 | go h h'=>exact ⟨true,_,h,fun e=>(by cases e),fun _=>h'⟩
theorem Chain.done {Call:ag->T->T->Bool->ag->Prop} {st st':ag} {r:Bool} (h:Chain Call st [] [] r st'):r=true/\st'=st:=by
 cases h
 exact ⟨rfl,rfl⟩
def Pz (Call:ag->T->T->Bool->ag->Prop) (st:ag) (a' b':T) (r:Bool) (st':ag):Prop:=
 (a'.kind=1/\b'.kind=1/\a'.n=b'.n/\r=true/\st'=st) ∨
 (a'.kind=1/\¬ (b'.kind=1/\a'.n=b'.n)/\((¬ fp st a'.n.toNat b'/\r=true/\st'=st.set a'.n.toNat (some b')) ∨ (fp st a'.n.toNat b'/\r=false/\st'=st))) ∨
 (a'.kind≠1/\b'.kind=1/\((¬ fp st b'.n.toNat a'/\r=true/\st'=st.set b'.n.toNat (some a')) ∨ (fp st b'.n.toNat a'/\r=false/\st'=st))) ∨
 (a'.kind≠1/\b'.kind≠1/\((p6 a' b'=false/\r=false/\st'=st) ∨ (p6 a' b'=true/\Chain Call st a'.kids b'.kids r st')))
theorem Uni.calls {N:Nat} {Call:ag->T->T->Bool->ag->Prop} (hcall:∀ st a b a' b' r st',Good N st->okJ N (.one a b)->cD st a a'->cD st b b'->Pz Call st a' b' r st'->Call st a b r st') {st st':ag} {j:Job} {r:Bool} (hu:Uni st j r st') :
  Good N st->okJ N j->match j with
   | .one a b=>Call st a b r st'
   | .list xs ys=>Chain Call st xs ys r st':=by
 induction hu with
 | same h1 h2 h3 h4 h5=>exact fun hg hj=>hcall _ _ _ _ _ _ _ hg hj h1 h2 (.inl ⟨h3,h4,h5,rfl,rfl⟩)
 | bindA h1 h2 h3 h4 h5=>exact fun hg hj=>hcall _ _ _ _ _ _ _ hg hj h1 h2 (.inr (.inl ⟨h3,h4,.inl ⟨h5,rfl,rfl⟩⟩))
 | occA h1 h2 h3 h4 h5=>exact fun hg hj=>hcall _ _ _ _ _ _ _ hg hj h1 h2 (.inr (.inl ⟨h3,h4,.inr ⟨h5,rfl,rfl⟩⟩))
 | bindB h1 h2 h3 h4 h5=>exact fun hg hj=>hcall _ _ _ _ _ _ _ hg hj h1 h2 (.inr (.inr (.inl ⟨h3,h4,.inl ⟨h5,rfl,rfl⟩⟩)))
 | occB h1 h2 h3 h4 h5=>exact fun hg hj=>hcall _ _ _ _ _ _ _ hg hj h1 h2 (.inr (.inr (.inl ⟨h3,h4,.inr ⟨h5,rfl,rfl⟩⟩)))
 | clash h1 h2 h3 h4 h5=>exact fun hg hj=>hcall _ _ _ _ _ _ _ hg hj h1 h2 (.inr (.inr (.inr ⟨h3,h4,.inl ⟨h5,rfl,rfl⟩⟩)))
 | kids h1 h2 h3 h4 h5 _ ih=>
  exact fun hg hj=>hcall _ _ _ _ _ _ _ hg hj h1 h2 (.inr (.inr (.inr ⟨h3,h4,.inr ⟨h5,ih hg ⟨gX (cU hg h1 hj.1),gX (cU hg h2 hj.2),nL h5⟩⟩⟩)))
 | nil=>exact fun _ _=>.nil
 | stop _ ih=>exact fun hg hj=>.stop (ih hg ⟨hj.1 _ (List.mem_cons_self ..),hj.2.1 _ (List.mem_cons_self ..)⟩)
 | go h1 _ ih1 ih2=>
  intro hg hj
  have hj1:okJ N (.one _ _):=⟨hj.1 _ (List.mem_cons_self ..),hj.2.1 _ (List.mem_cons_self ..)⟩
  exact .go (ih1 hg hj1) (ih2 (h1.good hg hj1).1 ⟨fun a ha=>hj.1 a (List.mem_cons_of_mem _ ha),fun b hb=>hj.2.1 b (List.mem_cons_of_mem _ hb),by have:=hj.2.2; simpa using this⟩)
section
attribute [local irreducible] Run CondV ai az
set_option maxHeartbeats 1000000 in
end
end
section
open Go Go.RowKit
attribute [local irreducible] Run CondV ai az

theorem Ej {ys:List C} {S:ad} {L:aN} {v:Value} {i:Nat} (hT:TrSl 5 TrC L v ys) (hi:i<ys.length) (hlen:ys.length<=4000000000) :
  Tri Tryz.prog tG [v,.int .i64 i,.int .i64 ((i:Int)+1)] (aV L) S fun r I' S'=>S'=S/\∃ L',I'=aV L'/\TrSl 5 TrC L' r (ys.eraseIdx i):=by
 intro w hI
 obtain ⟨a,cap,rfl,hl,hc,hT⟩:=hT
 rcases hT with ⟨rfl,_⟩|⟨b,c,E,Ls,rfl,rfl,hLs,hsz,hT⟩
 ·simp at hi
 obtain ⟨X,hX⟩:∃ X,X=bk (aV ((b,.cells c E)::Ls.flatten)):=⟨_,rfl⟩
 rw [<- hX] at hI ⊢
 obtain ⟨n,hn⟩:∃ n,ys.length=n+1:=⟨ys.length - 1,by omega⟩
 have ei:((i:Int)+1)=((i+1:Nat):Int):=by omega
 rw [ei]
 refine i8.2 ?_
 dsimp only[i8,fe]
 refine ez aP ?_
 refine Nm (m:=ys.length) aP (Nat.le_succ i) (by omega) hl ?_
 refine aZ ?_
 rw [decide_eq_false (by omega)]
 refine aw (fun hb=>by cases hb) (fun _=>?_)
 refine ez aP ?_
 obtain ⟨news,hnews⟩:∃ news,news=(c.toList.drop ((i+1) * 5)).take ((n - i) * 5):=⟨_,rfl⟩
 have hcsz:(n+1) * 5<=c.size:=by omega
 have hnl:news.length=(n - i) * 5:=by
  rw [hnews,List.length_take,List.length_drop,Array.length_toList]
  omega
 have hnu:∀ j u,news[j]?=some u->c[(i+1) * 5+j]?=some u:=by
  intro j u hj
  rw [hnews,List.getElem?_take] at hj
  split at hj
  ·rw [List.getElem?_drop] at hj
   rw [<- Array.getElem?_toList]
   exact hj
  ·cases hj
 have hone:∀ u∈news,u.oneCell'=true:=by
  intro u hu
  obtain ⟨j,hj,rfl⟩:=List.mem_iff_getElem.1 hu
  have hj5:j / 5+(i+1)<ys.length:=by omega
  have hc1:=(hT (j / 5+(i+1)) hj5 (by omega)).one
  refine hc1 _ ?_
  have hg:=hnu j _ (List.getElem?_eq_getElem hj)
  have:(aJ c ((j / 5+(i+1)) * 5) 5)[j % 5]?=some news[j]:=by
   rw [aJ,List.getElem?_take,if_pos (by omega),List.getElem?_drop,Array.getElem?_toList,<- hg]
   congr 1
   omega
  exact List.mem_of_getElem? this
 obtain ⟨c1,hc1⟩:∃ c1,c1=bf c (i * 5) news:=⟨_,rfl⟩
 have hs1:c1.size=c.size:=by rw [hc1]; exact fq _ _ _ (by omega)
 have e0:(if cap=0 then some (⟨b,0,none⟩:Addr) else (some (⟨b,0,none⟩:Addr)).map (·.add (0 * 5)))=some ⟨b,0,none⟩:=by
  rw [if_neg (by omega)]; rfl
 refine ⟨fun D x0 nf eV lO wo wi rD md w_=>Fx D 0 [md=.slice (some ⟨b,0,none⟩) ys.length cap,rD=.int .i64 i,wi=.slice (some ⟨b,0,none⟩) i cap,wo=.slice (some ⟨b,0,none⟩) ys.length cap,lO=.int .i64 ((i+1:Nat):Int),eV=.slice (some (if cap=i+1 then ⟨b,0,none⟩ else ⟨b,(i+1) * 5,none⟩)) (n - i) (cap - (i+1)),True,True]/\(D 7=false->x0=.slice (some ⟨b,0,none⟩) ys.length cap)/\(D 7=true->x0=.slice (some ⟨b,0,none⟩) n cap)/\(D 7=true->D 0=true/\D 3=true/\D 6=true)/\(D 6=true->nf=.slice (some ⟨b,0,none⟩) n cap)/\Inv w X (.blk b (.cells (match D 6 with|true=>c1|false=>c) E)::aV Ls.flatten) S w_,⟨Fx.nil _ _,⟨fun _=>rfl,aK,aK,aK,hI.draw⟩⟩,⟨?_,?_,?_,?_,?_,?_,?_,?_,trivial⟩,?_⟩
 all_goals (intro D bx; intros; rename_i x0 nf eV lO wo wi rD md w_ hA_; have hF_:=hA_.1; obtain ⟨⟨cr,cq,ct,cu,cz,cB,bP,cT,_⟩,⟨e0',e7,k7,e6,hI⟩⟩:=hA_)
 ·have f7:D 7=false:=Bool.eq_false_iff.2 fun h=>by rw [(k7 h).1] at bx; cases bx
  have q0:=e0' f7
  subst q0
  have k7:ar D 0 7=true->ar D 0 0=true/\ar D 0 3=true/\ar D 0 6=true:=fun h=>absurd h (by rw [show ar D 0 7=D 7 from rfl,f7]; decide)
  exact ⟨hF_.set 0 (by first|assumption|trivial),⟨e0',e7,k7,e6,hI⟩⟩
 ·exact ⟨hF_.set 1 rfl,⟨e0',e7,k7,e6,hI⟩⟩
 ·have RD:=cr ‹_›
  obtain rfl:=cq ‹_›
  subst RD
  refine u6 aP (by omega) ?_
  rw [e0]
  exact ⟨hF_.set 2 (by first|assumption|trivial),⟨e0',e7,k7,e6,hI⟩⟩
 ·have f7:D 7=false:=Bool.eq_false_iff.2 fun h=>by rw [(k7 h).2.1] at bx; cases bx
  have q0:=e0' f7
  subst q0
  have k7:ar D 3 7=true->ar D 3 0=true/\ar D 3 3=true/\ar D 3 6=true:=fun h=>absurd h (by rw [show ar D 3 7=D 7 from rfl,f7]; decide)
  exact ⟨hF_.set 3 (by first|assumption|trivial),⟨e0',e7,k7,e6,hI⟩⟩
 ·exact ⟨hF_.set 4 rfl,⟨e0',e7,k7,e6,hI⟩⟩
 ·have PT:=cu ‹_›
  obtain rfl:=cz ‹_›
  subst PT
  refine z9 aP (by omega) ?_
  have ea:(if cap=i+1 then some (⟨b,0,none⟩:Addr) else (some (⟨b,0,none⟩:Addr)).map (·.add ((i+1) * 5)))=some (if cap=i+1 then ⟨b,0,none⟩ else ⟨b,(i+1) * 5,none⟩):=by
   split <;> simp [Addr.add]
  have em:ys.length - (i+1)=n - i:=by omega
  rw [ea,em]
  exact ⟨hF_.set 5 (by first|assumption|trivial),⟨e0',e7,k7,e6,hI⟩⟩
 ·have OJ:=ct ‹_›
  have I7:=cB ‹_›
  subst OJ I7
  have f7:D 7=false:=Bool.eq_false_iff.2 fun h=>by rw [(k7 h).2.2] at bx; cases bx
  rw [bx] at hI
  refine HK (o:=(i+1) * 5) hI 0 news (by by_cases hq:cap=i+1; right; omega; left; rw [if_neg hq]) cj rfl hnl hnu hone (by omega) (by show i * 5+news.length<=c.size; omega) fun w_ hI=>?_
  have ei2:i+(n - i)=n:=by omega
  rw [ei2]
  have e6:ar D 6 6=true->Value.slice (some ⟨b,0,none⟩) n cap=.slice (some ⟨b,0,none⟩) n cap:=fun _=>rfl
  have k7:ar D 6 7=true->ar D 6 0=true/\ar D 6 3=true/\ar D 6 6=true:=fun h=>absurd h (by rw [show ar D 6 7=D 7 from rfl,f7]; decide)
  have hI:Inv w X (.blk b (.cells (match ar D 6 6 with|true=>c1|false=>c) E)::aV Ls.flatten) S w_:=by
   show Inv w X (.blk b (.cells c1 E)::aV Ls.flatten) S w_
   rw [hc1]
   exact hI
  exact ⟨hF_.set 6 (by first|assumption|trivial),⟨e0',e7,k7,e6,hI⟩⟩
 ·have IU:=bP ‹_›
  have q6:=e6 ‹D 6=true›
  subst q6
  have e0':ar D 7 7=false->Value.slice (some ⟨b,0,none⟩) n cap=.slice (some ⟨b,0,none⟩) ys.length cap:=fun h=>Bool.noConfusion h
  have e7:ar D 7 7=true->Value.slice (some ⟨b,0,none⟩) n cap=.slice (some ⟨b,0,none⟩) n cap:=fun _=>rfl
  have k7:ar D 7 7=true->ar D 7 0=true/\ar D 7 3=true/\ar D 7 6=true:=fun _=>⟨‹D 0=true›,‹D 3=true›,‹D 6=true›⟩
  exact ⟨hF_.set 7 (by first|assumption|trivial),⟨e0',e7,k7,e6,hI⟩⟩
 obtain ⟨RD,rfl,OJ,PT,rfl,I7,IU,Mh,_⟩:=hF_.all
 have KW:D 6=true:=by assumption
 have zn:D 7=true:=by assumption
 clear hF_ cr cq ct cu cz cB bP cT
 have q7:=e7 zn
 subst q7
 rw [KW] at hI
 have hI:Inv w X (.blk b (.cells c1 E)::aV Ls.flatten) S w_:=hI
 refine ez aP ?_
 rw [hn]
 refine Nf aP (Nat.le_succ n) (by omega) ?_
 rw [if_neg (by omega)]
 have hz5:(Builtin.zeroCells (Value.agg #[.int .i64 0,.int .i64 0,.string ⟨#[]⟩,.slice none 0 0,.slice none 0 0]).cells 1).toList=[.int .i64 0,.int .i64 0,.string ⟨#[]⟩,.slice none 0 0,.slice none 0 0]:=by kernel_rfl
 have en:n+1 - n=1:=by omega
 rw [en]
 have ead:(some (⟨b,0,none⟩:Addr)).map (·.add (n * 5))=some ⟨b,n * 5,none⟩:=by rw [Option.map_some,gr,Nat.zero_add]
 rw [ead]
 refine Nn (n:=1) (o:=n * 5) hI 0 cj rfl (by omega) (by omega) (by rw [hz5]; simp [Value.oneCell']) fun w' hI=>?_
 rw [hz5] at hI
 obtain ⟨c2,hc2⟩:∃ c2,c2=bf c1 (n * 5) [.int .i64 0,.int .i64 0,.string ⟨#[]⟩,.slice none 0 0,.slice none 0 0]:=⟨_,rfl⟩
 have hs2:c2.size=c.size:=by rw [hc2]; exact (fq _ _ _ (by simp only [List.length_cons,List.length_nil]; omega)).trans hs1
 have hI:Inv w X (aV ((b,.cells c2 E)::(Ls.eraseIdx i).flatten)) S w':=by
  have h1:Inv w X (aV ((b,.cells c2 E)::Ls.flatten)) S w':=by rw [hc2]; exact hI
  refine h1.sub ?_
  exact ((EK (List.eraseIdx_sublist Ls i)).map _).cons_cons _
 have hel:(ys.eraseIdx i).length=n:=by rw [List.length_eraseIdx,if_pos hi]; omega
 have hLl:(Ls.eraseIdx i).length=n:=by rw [List.length_eraseIdx,if_pos (by omega)]; omega
 refine ⟨_,_,_,rfl,hI,Ext.refl _ _ _,rfl,_,rfl,_,cap,by rw [hel],by omega,hc,.inr ⟨b,c2,E,Ls.eraseIdx i,rfl,rfl,by omega,by omega,fun j h1 h2=>?_⟩⟩
 have hjn:j<n:=by omega
 have hcell:aJ c2 (j * 5) 5=aJ c1 (j * 5) 5:=by
  rw [hc2,eI (by simp; omega) (by simp; omega)]
 rw [hcell,List.getElem_eraseIdx,List.getElem_eraseIdx]
 by_cases hji:j<i
 ·have hcell2:aJ c1 (j * 5) 5=aJ c (j * 5) 5:=by
   rw [hc1,eI (by omega) (by omega)]
  rw [dif_pos hji,dif_pos hji,hcell2]
  exact hT j (by omega) (by omega)
 ·rw [dif_neg hji,dif_neg hji]
  have hcell2:aJ c1 (j * 5) 5=aJ c ((j+1) * 5) 5:=by
   have e1:j * 5=i * 5+(j - i) * 5:=by omega
   rw [hc1,e1,zI (by omega) (by omega),hnews,List.drop_take,List.take_take,List.drop_drop,aJ]
   have e2:min 5 ((n - i) * 5 - (j - i) * 5)=5:=by omega
   have e3:(i+1) * 5+(j - i) * 5=(j+1) * 5:=by omega
   rw [e2,e3]
  rw [hcell2]
  exact hT (j+1) (by omega) (by omega)
end
section
open Go Go.RowKit
attribute [local irreducible] Run CondV ai az

def gw (p:List C) (i:Int):Bool:=co p && (decide (0<=i) && decide (i<p.length))
def lQ (p:List C) (i:Int):List C:=if gw p i=true then p.eraseIdx i.toNat else []
theorem BC {p:List C} {i:Int} (h:gw p i=true):∃ j:Nat,i=j/\j<p.length:=by
 simp only [gw,Bool.and_eq_true,decide_eq_true_eq] at h
 exact ⟨i.toNat,by omega,by omega⟩
theorem JD:∀ (p:List C) (j:Nat),(p.eraseIdx j).length+wP (p.eraseIdx j)<=p.length+wP p
 | [],j=>by simp
 | c::p,0=>by simp [wP]; omega
 | c::p,j+1=>by
  have:=JD p j
  simp only [List.eraseIdx_cons_succ,List.length_cons,wP]
  omega
theorem ri {p:List C} {S:ad} {v:Value} (i:Int) (h:RdSl S 5 (RdC S) v p) (hw:p.length+wP p<=1048576):Tri Tryz.prog z3 [v,.int .i64 i] [] S (IJ S (lQ p i) (gw p i)):=by
 intro w hI
 refine mY.2 ?_
 dsimp only[mY,aX]
 refine ⟨fun t w'=>t=.bool (!gw p i)/\Inv w [] [] S w',?_,?_⟩
 ·refine Run.callPure gi fT hI (fi h) fun w' hI=>?_
  refine bK ?_
  cases hv:co p
  ·refine rpG ?_
   exact ⟨by rw [gw,hv]; rfl,hI⟩
  ·refine rpG ?_
   refine aG h aP ?_
   refine iw (by omega) ?_
   refine Run.callPure dT dX hI (dF _ _ _ S) fun w' hI=>?_
   refine bK ?_
   refine rpG ?_
   refine ⟨?_,hI⟩
   have e:decide (i<=(p.length:Int) - 1)=decide (i<(p.length:Int)):=by
    rw [Bool.eq_iff_iff]
    simp only [decide_eq_true_eq]
    omega
   rw [gw,hv,e]; rfl
 intro t _ _ _ _ _ _ _ _ _ _ w'
 rintro ⟨rfl,hI⟩
 rw [lQ]
 cases hd:gw p i
 ·refine aw (fun _=>?_) (fun hb=>by cases hb)
  rw [if_neg (by decide)]
  exact ⟨_,_,_,rfl,hI,Ext.refl _ _ _,rfl,_,[],rfl,rfl,TrSl.nil (by simp [maxLen])⟩
 refine aw (fun hb=>by cases hb) (fun _=>?_)
 rw [if_pos rfl]
 obtain ⟨j,rfl,hj⟩:=BC hd
 refine Run.call0 xC xL hI (ub h hw) fun v3 I' S' w'=>?_
 rintro ⟨rfl,L,rfl,hT⟩ _ hI
 refine bq (by omega) ?_
 refine Run.call (A:=[]) rp rC hI (Ej hT hj (by omega)) fun v4 I' S2 w'=>?_
 rintro ⟨rfl,L',rfl,hT'⟩ _ hI
 exact ⟨_,_,_,rfl,hI,Ext.refl _ _ _,rfl,_,L',rfl,rfl,hT'⟩
def xW (r0 r4 r9:Item) (M:aN) (d0 d4 d9 d10:Bool):List Item:=match d10,d9,d4,d0 with
 | true,_,_,_=>aV M
 | false,true,_,_=>[r9]
 | false,false,true,_=>[r4]
 | false,false,false,true=>[r0]
 | false,false,false,false=>[]
theorem rt {p:List C} {S:ad} {v:Value} (i:Int) (h:RdSl S 5 (RdC S) v p) (hw:p.length+wP p<=1048576):Tri Tryz.prog zm [v,.int .i64 i] [] S (IJ S (lQ p i) (gw p i)):=by
 intro w hI
 refine mW.2 ?_
 dsimp only[mW,aX]
 refine ⟨fun t w'=>t=.bool (!gw p i)/\Inv w [] [] S w',?_,?_⟩
 ·refine Run.callPure rG s4 hI (ov h (by omega)) fun w' hI=>?_
  refine bK ?_
  cases hv:co p
  ·refine rpG ?_
   exact ⟨by rw [gw,hv]; rfl,hI⟩
  ·refine rpG ?_
   refine bI ?_
   by_cases h0:i<0
   ·rw [decide_eq_true h0]
    refine rpG ?_
    exact ⟨by rw [gw,hv,decide_eq_false (show ¬ 0<=i by omega)]; rfl,hI⟩
   ·rw [decide_eq_false h0]
    refine rpG ?_
    refine aG h aP ?_
    refine j0 ?_
    refine rpG ?_
    refine ⟨?_,hI⟩
    have e:decide ((p.length:Int)<=i)=!decide (i<(p.length:Int)):=by
     by_cases h1:i<(p.length:Int)
     ·rw [decide_eq_true h1,decide_eq_false (by omega)]; rfl
     ·rw [decide_eq_false h1,decide_eq_true (by omega)]; rfl
    rw [gw,hv,decide_eq_true (show 0<=i by omega),e]; rfl
 intro t _ _ _ _ _ _ _ _ _ _ _ _ w'
 rintro ⟨rfl,hI⟩
 rw [lQ]
 cases hd:gw p i
 ·refine aw (fun _=>?_) (fun hb=>by cases hb)
  refine eJ hI cj fun v0 w' hI=>?_
  rw [if_neg (by decide)]
  have hI:Inv w [] ([]++(aC v0 af 5 []::aV ([]:List aN).flatten)) S w':=hI
  obtain ⟨L,hT,hI⟩:=Inv.rowTree (R:=TrC) hI (Grown.nil 5 TrC)
  exact ⟨_,_,_,rfl,hI,Ext.refl _ _ _,rfl,_,L,rfl,rfl,hT⟩
 refine aw (fun hb=>by cases hb) (fun _=>?_)
 rw [if_pos rfl]
 obtain ⟨j,rfl,hj⟩:=BC hd
 rw [Int.toNat_natCast]
 have hew:=JD p j
 have hle:=h.le
 simp only [maxLen] at hle
 refine ⟨fun D x5 x4 g6 np jo ww nf eV lO wo wi rD md w_=>Fx D 0 [True,rD=v,wi=.int .i64 j,True,True,eV=v,nf=.int .i64 j,ww=.int .i64 ((j+1:Nat):Int),True,True,True,True,x5=.bool true]/\∃ c1 c2 M,(D 3=true->RdSl S 5 (RdC S) wo (p.take j))/\(D 8=true->RdSl S 5 (RdC S) jo (p.drop (j+1)))/\(D 4=true->Rows 5 (RdC S) c1 (p.take j))/\(D 9=true->Rows 5 (RdC S) c2 (p.drop (j+1)))/\(D 10=true->TrSl 5 TrC M g6 (p.eraseIdx j))/\(D 11=true->x4=g6)/\(D 4=true->D 0=true)/\(D 9=true->D 4=true)/\(D 10=true->D 9=true)/\(D 11=true->D 10=true)/\Inv w [] (xW (aC md af 5 []) (aC lO af 5 c1) (aC np af 5 (c1++c2)) M (D 0) (D 4) (D 9) (D 10)) S w_,⟨Fx.nil _ _,⟨[],[],[],aK,aK,aK,aK,aK,aK,aK,aK,aK,aK,hI.draw⟩⟩,⟨?_,?_,?_,?_,?_,?_,?_,?_,?_,?_,?_,?_,?_,trivial⟩,?_⟩
 all_goals (intro D bx; intros; rename_i x5 x4 g6 np jo ww nf eV lO wo wi rD md w_ hA_; have hF_:=hA_.1; obtain ⟨⟨cr,cq,ct,cu,cz,cB,bP,cT,dw,fc,cE,cY,dS,_⟩,⟨c1,c2,M,e3,e8,e4,e9,e10,e11,k4,k9,k10,k11,hI⟩⟩:=hA_)
 ·have f4:D 4=false:=Bool.eq_false_iff.2 fun h=>by rw [k4 h] at bx; cases bx
  have f9:D 9=false:=Bool.eq_false_iff.2 fun h=>by rw [k9 h] at f4; cases f4
  have f10:D 10=false:=Bool.eq_false_iff.2 fun h=>by rw [k10 h] at f9; cases f9
  rw [bx,f4,f9,f10] at hI
  refine eJ hI cj fun v0 w_ hI=>?_
  have k4:=fun (_:ar D 0 4=true)=>(rfl:ar D 0 0=true)
  have hI:Inv w [] (xW (aC v0 af 5 []) (aC lO af 5 c1) (aC np af 5 (c1++c2)) M true (D 4) (D 9) (D 10)) S w_:=by
   rw [f4,f9,f10]
   exact hI
  exact ⟨hF_.set 0 (by first|assumption|trivial),⟨c1,c2,M,e3,e8,e4,e9,e10,e11,k4,k9,k10,k11,hI⟩⟩
 ·exact ⟨hF_.set 1 rfl,⟨c1,c2,M,e3,e8,e4,e9,e10,e11,k4,k9,k10,k11,hI⟩⟩
 ·exact ⟨hF_.set 2 rfl,⟨c1,c2,M,e3,e8,e4,e9,e10,e11,k4,k9,k10,k11,hI⟩⟩
 ·obtain rfl:=cq ‹_›
  obtain rfl:=ct ‹_›
  refine Kn aP h (by omega) fun v3 e3=>?_
  have e3:=fun (_:ar D 3 3=true)=>e3
  exact ⟨hF_.set 3 (by first|assumption|trivial),⟨c1,c2,M,e3,e8,e4,e9,e10,e11,k4,k9,k10,k11,hI⟩⟩
 ·have RD:=cr ‹_›
  have PT:=cu ‹_›
  have f9:D 9=false:=Bool.eq_false_iff.2 fun h=>by rw [k9 h] at bx; cases bx
  have f10:D 10=false:=Bool.eq_false_iff.2 fun h=>by rw [k10 h] at f9; cases f9
  rw [‹D 0=true›,bx,f9,f10] at hI
  refine rv hI 0 cj (by omega) rfl (e3 ‹D 3=true›) (fun _ _=>RdC.length) (fun _ _=>RdC.one) (by simp; omega) (by omega) fun v4 w_ c1 hR hI=>?_
  have e4:=fun (_:ar D 4 4=true)=>hR
  have k4:=fun (_:ar D 4 4=true)=>‹D 0=true›
  have k9:=fun (_:ar D 4 9=true)=>(rfl:ar D 4 4=true)
  have hI:Inv w [] (xW (aC md af 5 []) (aC v4 af 5 c1) (aC np af 5 (c1++c2)) M (D 0) true (D 9) (D 10)) S w_:=by
   rw [‹D 0=true›,f9,f10]
   exact hI
  exact ⟨hF_.set 4 (by first|assumption|trivial),⟨c1,c2,M,e3,e8,e4,e9,e10,e11,k4,k9,k10,k11,hI⟩⟩
 ·exact ⟨hF_.set 5 rfl,⟨c1,c2,M,e3,e8,e4,e9,e10,e11,k4,k9,k10,k11,hI⟩⟩
 ·exact ⟨hF_.set 6 rfl,⟨c1,c2,M,e3,e8,e4,e9,e10,e11,k4,k9,k10,k11,hI⟩⟩
 ·obtain rfl:=bP ‹_›
  refine bq (by omega) ?_; rw [show ((j:Int)+1)=((j+1:Nat):Int) by omega]
  exact ⟨hF_.set 7 rfl,⟨c1,c2,M,e3,e8,e4,e9,e10,e11,k4,k9,k10,k11,hI⟩⟩
 ·obtain rfl:=cB ‹_›
  obtain rfl:=cT ‹_›
  refine o7 aP h (by omega) fun v8 e8=>?_
  have e8:=fun (_:ar D 8 8=true)=>e8
  exact ⟨hF_.set 8 (by first|assumption|trivial),⟨c1,c2,M,e3,e8,e4,e9,e10,e11,k4,k9,k10,k11,hI⟩⟩
 ·have FF:=cz ‹_›
  have IA:=dw ‹_›
  have f10:D 10=false:=Bool.eq_false_iff.2 fun h=>by rw [k10 h] at bx; cases bx
  rw [‹D 4=true›,bx,f10] at hI
  have hc1:=(e4 ‹D 4=true›).hc
  refine rv hI 0 cj (by omega) rfl (e8 ‹D 8=true›) (fun _ _=>RdC.length) (fun _ _=>RdC.one) (by simp at hc1 ⊢; omega) (by omega) fun v9 w_ c2 hR hI=>?_
  have e9:=fun (_:ar D 9 9=true)=>hR
  have k9:=fun (_:ar D 9 9=true)=>‹D 4=true›
  have k10:=fun (_:ar D 9 10=true)=>(rfl:ar D 9 9=true)
  have hI:Inv w [] (xW (aC md af 5 []) (aC lO af 5 c1) (aC v9 af 5 (c1++c2)) M (D 0) (D 4) true (D 10)) S w_:=by
   rw [‹D 4=true›,f10]
   exact hI
  exact ⟨hF_.set 9 (by first|assumption|trivial),⟨c1,c2,M,e3,e8,e4,e9,e10,e11,k4,k9,k10,k11,hI⟩⟩
 ·have KY:=fc ‹_›
  rw [‹D 9=true›,bx] at hI
  have f11:D 11=false:=Bool.eq_false_iff.2 fun h=>by rw [k11 h] at bx; cases bx
  have hR:=(e4 (k9 ‹D 9=true›)).append (e9 ‹D 9=true›)
  rw [<- List.eraseIdx_eq_take_drop_succ] at hR
  have hI:Inv w [] ([]++[aC np af 5 (c1++c2)]) S w_:=hI
  obtain ⟨S1,hle1,hrd,hI,_⟩:=hI.lend
  have hrr:RdSl S1 5 (RdC S1) np (p.eraseIdx j):=(RowRd.rows hR hrd).mono (Sle.refl _) fun _ _ h=>h.mono hle1
  refine Run.call0 Er CW hI (Bv hrr (by omega)) fun v10 I' S' w_=>?_
  rintro ⟨rfl,M,rfl,hT⟩ _ hI
  have hI:=hI.less hle1
  have e10:=fun (_:ar D 10 10=true)=>hT
  have e11:ar D 10 11=true->x4=v10:=fun h=>absurd h (by rw [show ar D 10 11=D 11 from rfl,f11]; decide)
  have k10:=fun (_:ar D 10 10=true)=>‹D 9=true›
  have k11:=fun (_:ar D 10 11=true)=>(rfl:ar D 10 10=true)
  exact ⟨hF_.set 10 (by first|assumption|trivial),⟨c1,c2,M,e3,e8,e4,e9,e10,e11,k4,k9,k10,k11,hI⟩⟩
 ·have MF:=cE ‹_›
  have e11:=fun (_:ar D 11 11=true)=>(rfl:g6=g6)
  have k11:=fun (_:ar D 11 11=true)=>‹D 10=true›
  exact ⟨hF_.set 11 (by first|assumption|trivial),⟨c1,c2,M,e3,e8,e4,e9,e10,e11,k4,k9,k10,k11,hI⟩⟩
 ·exact ⟨hF_.set 12 rfl,⟨c1,c2,M,e3,e8,e4,e9,e10,e11,k4,k9,k10,k11,hI⟩⟩
 obtain ⟨RD,rfl,rfl,PT,FF,rfl,rfl,rfl,IA,KY,MF,Qz,rfl,_⟩:=hF_.all
 have Mm:D 10=true:=by assumption
 have ui:D 11=true:=by assumption
 clear hF_ cr cq ct cu cz cB bP cT dw fc cE cY dS
 have hT:=e10 Mm
 have q4:=e11 ui
 subst q4
 rw [Mm] at hI
 exact ⟨_,_,_,rfl,hI,Ext.refl _ _ _,rfl,_,M,rfl,rfl,hT⟩
end
section
open Go Go.RowKit
section
attribute [local irreducible] Run CondV ai az
end
end
section
open Go Go.RowKit
section
variable {w:World} {K:Value->World->Prop}
attribute [local irreducible] Run
end
section
attribute [local irreducible] Run CondV ai az
theorem RdC.zero (S:ad):RdC S [.int .i64 0,.int .i64 0,.string ⟨#[]⟩,.slice none 0 0,.slice none 0 0] ⟨⟨0,0,⟨#[]⟩,[]⟩,[]⟩:=
 ⟨[.int .i64 0,.int .i64 0,.string ⟨#[]⟩,.slice none 0 0],.slice none 0 0,rfl,RdT.iff.2 ⟨_,rfl,by simp [inI,T.kind],by simp [inI,T.n],by rw [T.name]; decide +kernel,⟨none,0,rfl,Nat.le_refl _,Nat.zero_le _,.inl rfl⟩⟩,⟨none,0,rfl,Nat.le_refl _,Nat.zero_le _,.inl rfl⟩⟩
end
end
section
open Go Go.RowKit
mutual
def Kf:T->Int->Bool
 | .mk _ _ _ ks,d=>if d<1 then false else KH ks (d - 1)
def KH:List T->Int->Bool
 | [],_=>true
 | t::ts,d=>Kf t d && KH ts d
end
theorem yO:∀ (ts:List T) (d:Int),KH ts d=ts.all fun t=>Kf t d
 | [],_=>rfl
 | t::ts,d=>by rw [KH,yO ts d]; rfl
def bw (u:T):Bool:=decide (di u<=120) && Kf u 30
theorem KE (us:List T) (j:Nat) (h:j<us.length):cm (us.take (j+1))=cm (us.take j)+di us[j]:=by
 induction us generalizing j with
 | nil=>simp at h
 | cons u us ih=>
  cases j with
  | zero=>simp only [List.take_succ_cons,List.take_zero,List.getElem_cons_zero,cm]; omega
  | succ j=>
   have:=ih j (by simpa using h)
   simp only [List.take_succ_cons,List.getElem_cons_succ,cm] at *
   omega
theorem DU (us:List T) (j:Nat):cm (us.take j)<=cm us:=by
 induction us generalizing j with
 | nil=>simp
 | cons u us ih=>
  cases j with
  | zero=>simp only [List.take_zero]; exact ey _
  | succ j=>
   have:=ih j
   simp only [List.take_succ_cons,cm]
   omega
theorem CQ (k n:Int) (s:ByteArray) (ks:List T):di (.mk k n s ks)=1+cm ks:=rfl
theorem yB {w:World} {v:Value} {e:TypeId} {k n:Nat} {xs:List Value} (h:(Item.row v e k n xs).holds w):v.cells=#[v]/\v.oneCell'=true:=by
 have h:w.ownsRow 0 e k v n xs:=h
 rcases h.2 with ⟨rfl,_⟩|⟨g,cap,cur,rfl,_⟩ <;> exact ⟨rfl,rfl⟩
section
attribute [local irreducible] Run CondV ai az
theorem tR {K:Value->World->Prop} {w:World} (hk:K (.agg #[.int .i64 0,.int .i64 0,.string ⟨#[]⟩,.slice none 0 0]) w):Run Tryz.prog (bJ ab []) w K:=by
 refine Run.of ?_ hk
 kernel_rfl
theorem rW:∀ x∈([.int .i64 0,.int .i64 0,.string ⟨#[]⟩,.slice none 0 0]:List Value),x.oneCell'=true:=by simp [Value.oneCell']
end
end
section
open Go Go.RowKit
mutual
def bv (m:Int):T->T
 | .mk k n s ks=>.mk k (if k=1 then n+m else n) s (ek m ks)
def ek (m:Int):List T->List T
 | []=>[]
 | t::ts=>bv m t::ek m ts
end
theorem jl (m:Int):∀ ts:List T,ek m ts=ts.map (bv m)
 | []=>rfl
 | t::ts=>by rw [ek,jl m ts]; rfl
section
attribute [local irreducible] Run CondV ai az
end
end
section
open Go Go.RowKit
theorem ET {s:ByteArray} (h:iH s=true):s.size<=6:=by
 rw [iH,Bool.or_eq_true] at h
 rcases h with h|h
 ·rw [jh] at h
  simp only [Bool.and_eq_true,decide_eq_true_eq] at h
  exact h.2.2
 ·simp only [List.any_eq_true,decide_eq_true_eq] at h
  obtain ⟨x,hx,rfl⟩:=h
  have:∀ y∈signs,y.size<=6:=by decide +kernel
  exact this x hx
theorem HL {t:T} (h:cX t=true):t.name.size<=6:=by
 unfold cX at h
 have he:emptyB.size=0:=by decide +kernel
 by_cases e1:t.kind=1
 ·rw [if_pos e1] at h
  simp only [Bool.and_eq_true,decide_eq_true_eq] at h
  rw [h.2.2.1]; omega
 ·rw [if_neg e1] at h
  by_cases e2:t.kind=2
  ·rw [if_pos e2] at h
   simp only [Bool.and_eq_true,decide_eq_true_eq] at h
   rw [h.2.2.1]; omega
  ·rw [if_neg e2] at h
   by_cases e3:t.kind=3
   ·rw [if_pos e3] at h
    simp only [Bool.and_eq_true,decide_eq_true_eq] at h
    exact ET h.2.1
   ·rw [if_neg e3] at h
    cases h
theorem vB:emptyB.size<=6:=by decide +kernel
mutual
theorem BF:∀ (t:T) (d:Int),ff t d=true->okU 26 t
 | .mk k n s ks,d,h=>by
  rw [ff] at h
  split at h
  ·cases h
  ·rw [Bool.and_eq_true] at h
   have h1:=GZ h.1
   have h2:=fun hk=>Mq h.1 hk
   have h3:=HL h.1
   rw [okU]
   refine ⟨h1.2,fun hk=>?_,zb ks _ h.2,h3⟩
   have h4:=h1.1 hk
   have h5:=h2 hk
   simp only [T.n] at h4
   simp only [T.name,T.kids] at h5
   exact ⟨h4.1,by omega,h5.1,List.eq_nil_of_length_eq_zero h5.2⟩
theorem zb:∀ (ts:List T) (d:Int),fk ts d=true->bH 26 ts
 | [],_,_=>by rw [bH]; trivial
 | t::ts,d,h=>by
  rw [fk,Bool.and_eq_true] at h
  rw [bH]
  exact ⟨BF t d h.1,zb ts d h.2⟩
end
theorem i5 {t:T} (h:cW t=true):okU 26 t:=BF t 30 (wy h)
theorem eq {c:C} (h:bh c=true):okU 26 c.head/\(∀ t∈c.body,okU 26 t)/\c.body.length<=6:=by
 rw [bh] at h
 simp only [Bool.and_eq_true,List.all_eq_true,decide_eq_true_eq] at h
 refine ⟨i5 h.2.2.1,fun t ht=>?_,h.1⟩
 have:=h.2.1 t ht
 rw [df,Bool.and_eq_true] at this
 exact i5 this.1
mutual
theorem fm {N M:Nat} (h:N<=M):∀ t:T,okU N t->okU M t
 | .mk k n s ks,ht=>by
  rw [okU] at ht ⊢
  refine ⟨ht.1,fun hk=>?_,IX h ks ht.2.2.1,ht.2.2.2⟩
  have:=ht.2.1 hk
  exact ⟨this.1,by omega,this.2.2⟩
theorem IX {N M:Nat} (h:N<=M):∀ ts:List T,bH N ts->bH M ts
 | [],_=>by rw [bH]; trivial
 | t::ts,ht=>by
  rw [bH] at ht ⊢
  exact ⟨fm h t ht.1,IX h ts ht.2⟩
end
mutual
theorem iW {N:Nat} (m:Nat):∀ t:T,okU N t->okU (N+m) (bv m t)
 | .mk k n s ks,ht=>by
  rw [okU] at ht
  rw [bv,okU]
  refine ⟨ht.1,fun hk=>?_,qX m ks ht.2.2.1,ht.2.2.2⟩
  have:=ht.2.1 hk
  rw [if_pos hk]
  refine ⟨by omega,by omega,this.2.2.1,?_⟩
  rw [this.2.2.2,ek]
theorem qX {N:Nat} (m:Nat):∀ ts:List T,bH N ts->bH (N+m) (ek m ts)
 | [],_=>by rw [ek,bH]; trivial
 | t::ts,ht=>by
  rw [bH] at ht
  rw [ek,bH]
  exact ⟨iW m t ht.1,qX m ts ht.2⟩
end
mutual
theorem lp (m:Int):∀ t:T,wT (bv m t)=wT t
 | .mk k n s ks=>by
  rw [bv,wT,wT,Fw m ks]
  rw [jl,List.length_map]
theorem Fw (m:Int):∀ ts:List T,wL (ek m ts)=wL ts
 | []=>rfl
 | t::ts=>by rw [ek,wL,wL,lp m t,Fw m ts]
end
mutual
theorem Hh {N:Nat}:∀ t:T,okU N t->(wT t:Int)+1<=7 * di t
 | .mk k n s ks,h=>by
  rw [okU] at h
  have h1:=Lk ks h.2.2.1
  rw [wT,CQ]
  omega
theorem Lk {N:Nat}:∀ ts:List T,bH N ts->(wL ts:Int)+ts.length<=7 * cm ts
 | [],_=>by simp [wL,cm]
 | t::ts,h=>by
  rw [bH] at h
  have h1:=Hh t h.1
  have h2:=Lk ts h.2
  rw [wL,cm,List.length_cons]
  omega
end
theorem yU {N:Nat} {st:ag} {t v:T} (h:Good N st) (hw:cD st t v) (ht:okU N t):okU N v:=by
 induction hw with
 | stop=>exact ht
 | step hl _ ih=>exact ih (h.look_ok hl).1
theorem gu {N:Nat} {st:ag} (hg:Good N st) {j:Ij} (hr:Res st j):match j with
  | .one t u=>okU N t->okU N u
  | .list ts us=>bH N ts->bH N us/\us.length=ts.length:=by
 induction hr with
 | one hw hl ih=>
  rename_i t v us
  intro ho
  have hv:=yU hg hw ho
  obtain ⟨h1,h2⟩:=ih hv.kids
  obtain ⟨k,n,s,ks⟩:=v
  have hv2:=hv
  rw [okU] at hv2
  show okU N (.mk k n s us)
  rw [okU]
  refine ⟨hv2.1,fun hk=>?_,h1,hv2.2.2.2⟩
  have h3:=hv2.2.1 hk
  refine ⟨h3.1,h3.2.1,h3.2.2.1,?_⟩
  simp only [T.kids] at h2
  exact List.eq_nil_of_length_eq_zero (by rw [h2,h3.2.2.2]; rfl)
 | nil=>exact fun h=>⟨h,rfl⟩
 | cons _ _ ih1 ih2=>
  intro ho
  rw [bH] at ho
  obtain ⟨h1,h2⟩:=ih2 ho.2
  rw [bH]
  exact ⟨⟨ih1 ho.1,h1⟩,by simp [h2]⟩
theorem sE {N:Nat} {st:ag} (h:Good N st):∀ ts:List T,bH N ts->∃ us,Res st (.list ts us)
 | [],_=>⟨[],.nil⟩
 | t::ts,ho=>by
  rw [bH] at ho
  obtain ⟨u,hu⟩:=DF h t ho.1
  obtain ⟨us,hus⟩:=sE h ts ho.2
  exact ⟨u::us,.cons hu hus⟩
theorem Ez {st:ag}:∀ {ts us:List T},Res st (.list ts us)->∀ i (h:i<ts.length) (h':i<us.length),Res st (.one ts[i] us[i])
 | _,_,.cons hu _,0,_,_=>hu
 | _,_,.cons _ hus,i+1,h,h'=>Ez hus i (by simpa using h) (by simpa using h')
def stU:ag:=List.replicate 52 none
theorem yv:Good 52 stU:=⟨by simp [stU],fun t ht=>by simp [stU] at ht,fun t ht=>by simp [stU] at ht,fun n=>n,fun n u hu=>by
 have:=List.mem_of_getElem? hu
 simp [stU] at this⟩
def BI (c d:C):List T:=c.head::(ek 26 d.body++c.body.drop 1)
def ofL:List T->C
 | []=>⟨⟨0,0,⟨#[]⟩,[]⟩,[]⟩
 | t::ts=>⟨t,ts⟩
def RO (c d:C) (o:Option (Option C)):Prop:=∃ r st,Uni stU (.one (c.body.headD ⟨0,0,⟨#[]⟩,[]⟩) (bv 26 d.head)) r st/\
 ((r=false/\o=none) ∨ (r=true/\∃ us,Res st (.list (BI c d) us)/\((us.all bw=false/\o=some none) ∨ (us.all bw=true/\o=some (some (N3 (OD (ofL us)) (ofL us)))))))
theorem F6 {c d:C} (hc:bh c=true) (hd:bh d=true):bH 52 (BI c d):=by
 obtain ⟨c1,c2,_⟩:=eq hc
 obtain ⟨d1,d2,_⟩:=eq hd
 rw [BI,bH]
 exact ⟨fm (by decide) _ c1,yy (qX 26 _ (ma d2)) (ma fun t ht=>fm (by decide) _ (c2 t (List.mem_of_mem_drop ht)))⟩
theorem Ce {c d:C} (hc:bh c=true) (hd:bh d=true) (hwc:wC c<=1048576) (hwd:wC d<=1048576) (hb:c.body≠[]):okJ 52 (.one (c.body.headD ⟨0,0,⟨#[]⟩,[]⟩) (bv 26 d.head)):=by
 obtain ⟨c1,c2,_⟩:=eq hc
 obtain ⟨d1,d2,_⟩:=eq hd
 unfold wC at hwc hwd
 cases hcb:c.body with
 | nil=>exact absurd hcb hb
 | cons t ts=>
  rw [List.headD_cons]
  have hm:t∈c.body:=by rw [hcb]; exact List.mem_cons_self ..
  have:=C1 hm
  exact ⟨⟨fm (by decide) _ (c2 t hm),by omega⟩,⟨iW 26 _ d1,by rw [lp]; omega⟩⟩
theorem RO.ex {c d:C} (hc:bh c=true) (hd:bh d=true) (hwc:wC c<=1048576) (hwd:wC d<=1048576) (hb:c.body≠[]):∃ o,RO c d o:=by
 have hj:=Ce hc hd hwc hwd hb
 obtain ⟨r,st,hu⟩:=yY (unb stU) stU yv (Nat.le_refl _) _ hj
 cases r with
 | false=>exact ⟨none,false,st,hu,.inl ⟨rfl,rfl⟩⟩
 | true=>
  obtain ⟨us,hus⟩:=sE (hu.good yv hj).1 (BI c d) (F6 hc hd)
  cases hs:us.all bw with
  | false=>exact ⟨some none,true,st,hu,.inr ⟨rfl,us,hus,.inl ⟨hs,rfl⟩⟩⟩
  | true=>exact ⟨_,true,st,hu,.inr ⟨rfl,us,hus,.inr ⟨hs,rfl⟩⟩⟩
theorem er {N:Nat} {u:T} (h:bw u=true) (ho:okU N u):wT u<=840:=by
 rw [bw,Bool.and_eq_true,decide_eq_true_eq] at h
 have:=Hh u ho
 omega
theorem Gs {N:Nat}:∀ {us:List T},us.all bw=true->bH N us->wL us<=us.length * 840
 | [],_,_=>by simp [wL]
 | u::us,h,ho=>by
  rw [List.all_cons,Bool.and_eq_true] at h
  rw [bH] at ho
  have h1:=er h.1 ho.1
  have h2:=Gs h.2 ho.2
  rw [wL,List.length_cons,Nat.succ_mul]
  omega
theorem Ks {c d:C} (hc:bh c=true) (hd:bh d=true):(BI c d).length<=13:=by
 obtain ⟨_,_,c3⟩:=eq hc
 obtain ⟨_,_,d3⟩:=eq hd
 rw [BI,List.length_cons,List.length_append,jl,List.length_map,List.length_drop]
 omega
end
end Go.Proofs.YtgllldjiaglkcaaGreatDoor
