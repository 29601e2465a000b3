/- The laws' marks, written into trees of the function's own. -/
import Derived.Test.YtbocelianhcfmaaGreatDoorZEg2
import Derived.Laws.StructEq
import Derived.Laws.Tables
namespace Go.Proofs.YtbocelianhcfmaaGreatDoor
section
open Go Go.RowKit

theorem Part.upd {α:Type} {k:Nat} {R:aV->List Value->α->Prop} {c c':Array Value} {Ls:List aV} {xs:List α} (h:Part k R c Ls xs) {i:Nat} {L':aV} {x:α} (hx:R L' (aL c' (i * k) k) x)
  (hne:∀ j,j≠i->aL c' (j * k) k=aL c (j * k) k):Part k R c' (Ls.set i L') (xs.set i x):=by
 refine ⟨by simp [h.1],fun j h1 h2=>?_⟩
 by_cases e:i=j
 ·subst e
  rw [List.getElem_set_self,List.getElem_set_self]
  exact hx
 ·rw [List.getElem_set_ne e,List.getElem_set_ne e,hne j fun e'=>e e'.symm]
  exact h.2 j (by simpa using h1) (by simpa using h2)
section
attribute [local irreducible] Run CondV ar aI
end
end
section
open Go Go.RowKit

section
attribute [local irreducible] Run CondV ar aI
theorem TrC.parts {L:aV} {cs:List Value} {c:C} (h:TrC L cs c):∃ kv ks L1 L2,cs=[.int .i64 c.head.kind,.int .i64 c.head.n,.string c.head.name,kv,ks]/\L=L1++L2/\TrSl 4 TrT L1 kv c.head.kids/\TrSl 4 TrT L2 ks c.body:=by
 obtain ⟨hd,ks,L1,L2,rfl,rfl,h1,h2⟩:=h
 obtain ⟨kv,rfl,_,_,_,hkT⟩:=TrT.iff.1 h1
 exact ⟨kv,ks,L1,L2,rfl,rfl,hkT,h2⟩
end
end
section
open Go Go.RowKit

section
attribute [local irreducible] Run CondV ar aI
end
end
section
open Go Go.RowKit

section
variable {w:World} {K:Value->World->Prop}
attribute [local irreducible] Run
end

attribute [local irreducible] Run CondV ar aI
structure Pd where
 name:ByteArray
 arity:Int
deriving DecidableEq
def Pd.cells (x:Pd):List Value:=[.string x.name,.int .i64 x.arity]
def gE (t:T):Pd:=⟨t.name,t.kids.length⟩
def CI (x y:Pd):Bool:=decide (x.name=y.name) && decide (x.arity=y.arity)
def km (f:C->Bool):List C->Nat->List Int
 | [],_=>[]
 | c::cs,k=>if f c=true then (k:Int)::km f cs (k+1) else km f cs (k+1)
theorem ED (f:C->Bool):∀ (p:List C) (k:Nat) (n:Int),n∈km f p k->∃ i:Nat,(k:Int)<=n/\n=k+i/\∃ h:i<p.length,f p[i]=true
 | [],k,n,h=>by simp [km] at h
 | c::cs,k,n,h=>by
  have hrec:n∈km f cs (k+1)->∃ i:Nat,(k:Int)<=n/\n=k+i/\∃ h:i<(c::cs).length,f (c::cs)[i]=true:=by
   intro h
   obtain ⟨i,h1,h2,h3,h4⟩:=ED f cs (k+1) n h
   exact ⟨i+1,by omega,by omega,by simpa using h3,by simpa using h4⟩
  rw [km] at h
  split at h
  ·rcases List.mem_cons.1 h with rfl|h
   ·exact ⟨0,by omega,by omega,by simp,by simpa using ‹f c=true›⟩
   ·exact hrec h
  ·exact hrec h
end
section
open Go Go.RowKit
attribute [local irreducible] Run CondV ar aI

theorem IK (f:C->Bool) (p:List C) (k:Nat) (h:k<p.length) (l:List Int):(if f p[k]=true then l++[(k:Int)] else l)++km f (p.drop (k+1)) (k+1)=l++km f (p.drop k) k:=by
 rw [List.drop_eq_getElem_cons h,km]
 split
 ·rw [List.append_assoc]; rfl
 ·rfl

theorem Fc {p:List C} {g:T} {S:ae} {v:Value} {cs:List Value} (h:RdSl S 5 (RdC S) v p) (hg:RdT S cs g) (hp:p.length<=2000000) :
  Tri Tryz.prog Kn [v,.agg cs.toArray] [] S (EY S (km (fun c=>CI (gE c.head) (gE g)) p 0)):=by
 intro w hI
 obtain ⟨gv,rfl,_,_,hgs,hgk⟩:=RdT.iff.1 hg
 obtain ⟨gk,gn,gs,gks⟩:=g
 simp only [T.name,T.kids,T.kind,T.n] at hgs hgk ⊢
 refine xV.2 ?_
 dsimp only[xV,aY]
 refine be hI fun b3 w' hI=>?_
 refine dG hI o7 fun v0 w' hI=>?_
 refine ⟨fun i t w'=>∃ (k:Nat) (l:List Int),k<=p.length/\i=.int .i64 k/\l++km (fun c=>CI (gE c.head) (gE (.mk gk gn gs gks))) (p.drop k) k=km (fun c=>CI (gE c.head) (gE (.mk gk gn gs gks))) p 0/\l.length<=k/\
   Inv w [] [.blk b3 (.cells #[.int .i64 gk,.int .i64 gn,.string gs,gv] ab),fY t l] S w',fun i _ _=>p.length - (intOf i).toNat,⟨0,[],Nat.zero_le _,rfl,rfl,Nat.le_refl _,hI⟩,?_⟩
 intro t6 _ _ t5 _ _ _ _ t35 t34 t33 t32 t31 t30 t29 t28 t27 t26 t25 t24 t23 t22 t21 t20 t19 t18 t17 t16 t15 t14 _ _ _ _ w'
 rintro ⟨k,l,hk,rfl,hrel,hl,hI⟩
 refine aK h fT ?_
 refine bD ?_
 refine aN (fun hki=>?_) (fun hki=>?_)
 ·have hk':k<p.length:=by omega
  refine ⟨fun t w'=>Inv w [] [.blk b3 (.cells #[.int .i64 gk,.int .i64 gn,.string gs,gv] ab),fY t (if CI (gE p[k].head) (gE (.mk gk gn gs gks))=true then l++[(k:Int)] else l)] S w',?_,?_⟩
  ·obtain ⟨b,o,cap,c,E,fz,rfl,hS,hR⟩:=h.at_ hk'
   obtain ⟨hd,ks2,hcs,h1,h2⟩:=hR
   obtain ⟨kv,rfl,_,_,hs1,hk1⟩:=RdT.iff.1 h1
   have hf0:CI (gE p[k].head) (gE (.mk gk gn gs gks))=(decide (p[k].head.name=gs) && decide ((p[k].head.kids.length:Int)=gks.length)):=rfl
   cases hq:decide (p[k].head.name=gs)
   ·have hf:CI (gE p[k].head) (gE (.mk gk gn gs gks))=false:=by rw [hf0,hq]; rfl
    refine ⟨fun D iI nC jT mP iM ia iF fC kl lf iT lY ni mD kX i6 lQ pJ mX Ca Dv xP w_=>Fx D 0 [xP=.slice (some ⟨b,o,none⟩) p.length cap,Dv=.int .i64 k,Ca=.pointer (some ⟨b,o+k * 5,none⟩),mX=.pointer (some ⟨b,o+k * 5,none⟩),pJ=.pointer (some ⟨b,o+k * 5+2,none⟩),lQ=.string p[k].head.name,i6=.pointer (some ⟨b3,2,none⟩),kX=.string gs,mD=.bool false,ni=.bool false,lY=undef,iT=undef,lf=undef,kl=undef,fC=undef,iF=undef,ia=undef,iM=undef,mP=undef,jT=undef,nC=undef,iI=.bool false]/\Inv w [] [.blk b3 (.cells #[.int .i64 gk,.int .i64 gn,.string gs,gv] ab),fY t5 l] S w_,⟨Fx.nil _ _,hI.draw⟩,⟨?_,?_,?_,?_,?_,?_,?_,?_,?_,?_,?_,?_,?_,?_,?_,?_,?_,?_,?_,?_,?_,?_,trivial⟩,?_⟩
    all_goals (intro D bw; intros; rename_i iI nC jT mP iM ia iF fC kl lf iT lY ni mD kX i6 lQ pJ mX Ca Dv xP w_ hA_; have hF_:=hA_.1; obtain ⟨⟨bQ,bS,bU,bR,bY,bZ,bO,cG,cS,cT,bL,co,cO,dJ,dT,dY,ew,dK,fy,dV,eL,jU,_⟩,hI⟩:=hA_)
    ·exact ⟨hF_.set 0 rfl,hI⟩
    ·exact ⟨hF_.set 1 rfl,hI⟩
    ·obtain rfl:=bQ ‹_›
     obtain rfl:=bS ‹_›
     refine ay fT hk' ?_
     exact ⟨hF_.set 2 rfl,hI⟩
    ·obtain rfl:=bU ‹_›
     refine ao dA ?_
     exact ⟨hF_.set 3 rfl,hI⟩
    ·obtain rfl:=bR ‹_›
     refine ao aH ?_
     exact ⟨hF_.set 4 rfl,hI⟩
    ·obtain rfl:=bY ‹_›
     refine dd aC (by rw [hI.cellS hS]; exact aD hcs 2 _ rfl) ?_
     exact ⟨hF_.set 5 rfl,hI⟩
    ·refine ao aH ?_
     exact ⟨hF_.set 6 rfl,hI⟩
    ·obtain rfl:=bO ‹_›
     refine ax hI 0 aC rfl rfl ?_
     exact ⟨hF_.set 7 rfl,hI⟩
    ·obtain rfl:=bZ ‹_›
     obtain rfl:=cG ‹_›
     refine bf ?_; rw [hq]
     exact ⟨hF_.set 8 rfl,hI⟩
    ·obtain rfl:=cS ‹_›
     exact ⟨hF_.set 9 rfl,hI⟩
    ·obtain rfl:=cT ‹_›
     refine bn (c:=false) (b:=true) (by decide) ?_
     exact ⟨hF_.set 10 rfl,hI⟩
    ·obtain rfl:=cT ‹_›
     refine bn (c:=false) (b:=true) (by decide) ?_
     exact ⟨hF_.set 11 rfl,hI⟩
    ·obtain rfl:=bL ‹_›
     obtain rfl:=co ‹_›
     obtain rfl:=cT ‹_›
     refine bn (c:=false) (b:=true) (by decide) ?_
     exact ⟨hF_.set 12 rfl,hI⟩
    ·obtain rfl:=cO ‹_›
     obtain rfl:=cT ‹_›
     refine bn (c:=false) (b:=true) (by decide) ?_
     exact ⟨hF_.set 13 rfl,hI⟩
    ·obtain rfl:=dJ ‹_›
     obtain rfl:=cT ‹_›
     refine bn (c:=false) (b:=true) (by decide) ?_
     exact ⟨hF_.set 14 rfl,hI⟩
    ·obtain rfl:=dT ‹_›
     obtain rfl:=cT ‹_›
     refine bn (c:=false) (b:=true) (by decide) ?_
     exact ⟨hF_.set 15 rfl,hI⟩
    ·obtain rfl:=dY ‹_›
     obtain rfl:=cT ‹_›
     refine bn (c:=false) (b:=true) (by decide) ?_
     exact ⟨hF_.set 16 rfl,hI⟩
    ·obtain rfl:=cT ‹_›
     refine bn (c:=false) (b:=true) (by decide) ?_
     exact ⟨hF_.set 17 rfl,hI⟩
    ·obtain rfl:=dK ‹_›
     obtain rfl:=cT ‹_›
     refine bn (c:=false) (b:=true) (by decide) ?_
     exact ⟨hF_.set 18 rfl,hI⟩
    ·obtain rfl:=fy ‹_›
     obtain rfl:=cT ‹_›
     refine bn (c:=false) (b:=true) (by decide) ?_
     exact ⟨hF_.set 19 rfl,hI⟩
    ·obtain rfl:=ew ‹_›
     obtain rfl:=dV ‹_›
     obtain rfl:=cT ‹_›
     refine bn (c:=false) (b:=true) (by decide) ?_
     exact ⟨hF_.set 20 rfl,hI⟩
    ·obtain rfl:=cT ‹_›
     obtain rfl:=eL ‹_›
     refine fM ?_
     exact ⟨hF_.set 21 rfl,hI⟩
    obtain ⟨rfl,rfl,rfl,rfl,rfl,rfl,rfl,rfl,rfl,rfl,rfl,rfl,rfl,rfl,rfl,rfl,rfl,rfl,rfl,rfl,rfl,rfl,_⟩:=hF_.all
    clear hF_ bQ bS bU bR bY bZ bO cG cS cT bL co cO dJ dT dY ew dK fy dV eL jU
    refine av (fun hb=>by cases hb) (fun hb=>?_)
    rw [hf,if_neg (by decide)]
    exact hI
   ·have hf:CI (gE p[k].head) (gE (.mk gk gn gs gks))=decide ((p[k].head.kids.length:Int)=gks.length):=by rw [hf0,hq]; rfl
    refine ⟨fun D iI nC jT mP iM ia iF fC kl lf iT lY ni mD kX i6 lQ pJ mX Ca Dv xP w_=>Fx D 0 [xP=.slice (some ⟨b,o,none⟩) p.length cap,Dv=.int .i64 k,Ca=.pointer (some ⟨b,o+k * 5,none⟩),mX=.pointer (some ⟨b,o+k * 5,none⟩),pJ=.pointer (some ⟨b,o+k * 5+2,none⟩),lQ=.string p[k].head.name,i6=.pointer (some ⟨b3,2,none⟩),kX=.string gs,mD=.bool true,ni=.bool true,lY=.slice (some ⟨b,o,none⟩) p.length cap,iT=.int .i64 k,lf=.pointer (some ⟨b,o+k * 5,none⟩),kl=.pointer (some ⟨b,o+k * 5,none⟩),fC=.pointer (some ⟨b,o+k * 5+3,none⟩),iF=kv,ia=.int .i64 p[k].head.kids.length,iM=.pointer (some ⟨b3,3,none⟩),mP=gv,jT=.int .i64 gks.length,nC=.bool (decide ((p[k].head.kids.length:Int)=gks.length)),iI=.bool (decide ((p[k].head.kids.length:Int)=gks.length))]/\Inv w [] [.blk b3 (.cells #[.int .i64 gk,.int .i64 gn,.string gs,gv] ab),fY t5 l] S w_,⟨Fx.nil _ _,hI.draw⟩,⟨?_,?_,?_,?_,?_,?_,?_,?_,?_,?_,?_,?_,?_,?_,?_,?_,?_,?_,?_,?_,?_,?_,trivial⟩,?_⟩
    all_goals (intro D bw; intros; rename_i iI nC jT mP iM ia iF fC kl lf iT lY ni mD kX i6 lQ pJ mX Ca Dv xP w_ hA_; have hF_:=hA_.1; obtain ⟨⟨bQ,bS,bU,bR,bY,bZ,bO,cG,cS,cT,bL,co,cO,dJ,dT,dY,ew,dK,fy,dV,eL,jU,_⟩,hI⟩:=hA_)
    ·exact ⟨hF_.set 0 rfl,hI⟩
    ·exact ⟨hF_.set 1 rfl,hI⟩
    ·obtain rfl:=bQ ‹_›
     obtain rfl:=bS ‹_›
     refine ay fT hk' ?_
     exact ⟨hF_.set 2 rfl,hI⟩
    ·obtain rfl:=bU ‹_›
     refine ao dA ?_
     exact ⟨hF_.set 3 rfl,hI⟩
    ·obtain rfl:=bR ‹_›
     refine ao aH ?_
     exact ⟨hF_.set 4 rfl,hI⟩
    ·obtain rfl:=bY ‹_›
     refine dd aC (by rw [hI.cellS hS]; exact aD hcs 2 _ rfl) ?_
     exact ⟨hF_.set 5 rfl,hI⟩
    ·refine ao aH ?_
     exact ⟨hF_.set 6 rfl,hI⟩
    ·obtain rfl:=bO ‹_›
     refine ax hI 0 aC rfl rfl ?_
     exact ⟨hF_.set 7 rfl,hI⟩
    ·obtain rfl:=bZ ‹_›
     obtain rfl:=cG ‹_›
     refine bf ?_; rw [hq]
     exact ⟨hF_.set 8 rfl,hI⟩
    ·obtain rfl:=cS ‹_›
     exact ⟨hF_.set 9 rfl,hI⟩
    ·obtain rfl:=cT ‹_›
     refine au ?_
     exact ⟨hF_.set 10 rfl,hI⟩
    ·obtain rfl:=cT ‹_›
     refine au ?_
     exact ⟨hF_.set 11 rfl,hI⟩
    ·obtain rfl:=bL ‹_›
     obtain rfl:=co ‹_›
     obtain rfl:=cT ‹_›
     refine au ?_; refine ay fT hk' ?_
     exact ⟨hF_.set 12 rfl,hI⟩
    ·obtain rfl:=cO ‹_›
     obtain rfl:=cT ‹_›
     refine au ?_; refine ao dA ?_
     exact ⟨hF_.set 13 rfl,hI⟩
    ·obtain rfl:=dJ ‹_›
     obtain rfl:=cT ‹_›
     refine au ?_; refine ao ak ?_
     exact ⟨hF_.set 14 rfl,hI⟩
    ·obtain rfl:=dT ‹_›
     obtain rfl:=cT ‹_›
     refine au ?_; refine dd al (by rw [hI.cellS hS]; exact aD hcs 3 _ rfl) ?_
     exact ⟨hF_.set 15 rfl,hI⟩
    ·obtain rfl:=dY ‹_›
     obtain rfl:=cT ‹_›
     refine au ?_; refine aK hk1 ah ?_
     exact ⟨hF_.set 16 rfl,hI⟩
    ·obtain rfl:=cT ‹_›
     refine au ?_; refine ao ak ?_
     exact ⟨hF_.set 17 rfl,hI⟩
    ·obtain rfl:=dK ‹_›
     obtain rfl:=cT ‹_›
     refine au ?_; refine ax hI 0 al rfl rfl ?_
     exact ⟨hF_.set 18 rfl,hI⟩
    ·obtain rfl:=fy ‹_›
     obtain rfl:=cT ‹_›
     refine au ?_; refine aK hgk ah ?_
     exact ⟨hF_.set 19 rfl,hI⟩
    ·obtain rfl:=ew ‹_›
     obtain rfl:=dV ‹_›
     obtain rfl:=cT ‹_›
     refine au ?_; refine bh ?_
     exact ⟨hF_.set 20 rfl,hI⟩
    ·obtain rfl:=cT ‹_›
     obtain rfl:=eL ‹_›
     refine ik ?_
     exact ⟨hF_.set 21 rfl,hI⟩
    obtain ⟨rfl,rfl,rfl,rfl,rfl,rfl,rfl,rfl,rfl,rfl,rfl,rfl,rfl,rfl,rfl,rfl,rfl,rfl,rfl,rfl,rfl,rfl,_⟩:=hF_.all
    clear hF_ bQ bS bU bR bY bZ bO cG cS cT bL co cO dJ dT dY ew dK fy dV eL jU
    refine av (fun hb=>?_) (fun hb=>?_)
    ·refine dH hI o7 rfl (by omega) (by omega) fun b w' hI=>?_
     refine eZ hI 1 (k:=1) [.int .i64 k] o7 (by omega) rfl rfl ?_ ?_ (by omega) (by omega) fun v' w' hI=>?_
     ·intro j u hj
      rw [hI.cellL (i:=2) rfl]
      match j with
      | 0=>simpa [Value.cells] using hj
      | j+1=>simp at hj
     ·simp [Value.oneCell']
     ·rw [Bv] at hI
      have hI:=hI.pick [true,true,false]
      rw [hf,if_pos hb]
      have e:Item.row v' eN 1 (l.length+1) (ints (l++[(k:Int)]))=fY v' (l++[(k:Int)]):=by simp [fY]
      rw [show List.length l+1=l.length+1 from rfl,e] at hI
      exact hI
    ·rw [hf,if_neg (by rw [hb]; decide)]
     exact hI
  intro t5 _ _ _ _ _ _ _ _ _ _ _ _ _ _ _ _ _ _ _ _ _ _ _ _ _ _ w' hI
  refine bm (by omega) ?_
  refine ⟨⟨k+1,_,hk',rfl,?_,?_,hI⟩,by simp [intOf]; omega⟩
  ·rw [IK (fun c=>CI (gE c.head) (gE (.mk gk gn gs gks))) p k hk' l,hrel]
  ·split
   ·simp; omega
   ·omega
 ·have:k=p.length:=by omega
  subst this
  rw [List.drop_length,km,List.append_nil] at hrel
  subst hrel
  exact ⟨_,_,_,rfl,hI.pick [false,true],Ext.refl _ _ _,rfl,rfl⟩
end
section
open Go Go.RowKit
attribute [local irreducible] Run CondV ar aI
end
section
open Go Go.RowKit

theorem Inv.lendAll {w0 w:World} {X:List Nat} {A:List Item} (M:aV) {S:ae} (h:Inv w0 X (A++bB M) S w) :
  ∃ S',Sle S S'/\Ins S' M/\Inv w0 X A S' w/\∀ B w',Inv w0 X B S' w'->Inv w0 X (B++bB M) S w':=by
 obtain ⟨S',h1,h2,h3,h4⟩:=Inv.publishAll M h
 have hnd:=h.nd
 rw [bN,List.nodup_append] at hnd
 refine ⟨S',h2,h3,h1,fun B w' hB=>⟨hB.size,hB.os,hB.tape,hB.output,hB.old,fun it hit=>?_,?_,fun b hb=>?_,fun b o hb=>⟨(hB.pub b o (h2 b o hb)).1,fun hb'=>?_⟩⟩⟩
 ·rcases List.mem_append.1 hit with hit|hit
  ·exact hB.its it hit
  ·obtain ⟨p,hp,rfl⟩:=List.mem_map.1 hit
   exact (hB.pub _ _ (h3 p hp)).1
 ·rw [bN,List.nodup_append]
  refine ⟨hB.nd,hnd.2.1,fun a ha b hb e=>?_⟩
  subst e
  obtain ⟨p,hp,rfl⟩:=ie.1 hb
  exact (hB.pub _ _ (h3 p hp)).2 ha
 ·rw [bN] at hb
  rcases List.mem_append.1 hb with hb|hb
  ·exact hB.new b hb
  ·exact h.new b (by rw [bN]; exact List.mem_append_right _ hb)
 ·rw [bN] at hb'
  rcases List.mem_append.1 hb' with hb'|hb'
  ·exact (hB.pub b o (h2 b o hb)).2 hb'
  ·exact (h.pub b o hb).2 (by rw [bN]; exact List.mem_append_right _ hb')
theorem Inv.openRow {w0 w:World} {X:List Nat} {A:List Item} {S:ae} {v:Value} {e:TypeId} {k n:Nat} {xs:List Value} (h:Inv w0 X (A++[.row v e k n xs]) S w) :
  xs.length=n * k/\((v=.slice none 0 0/\n=0) ∨ ∃ g cap cur,v=.slice (some ⟨g,0,none⟩) n cap/\n<=cap/\cap<=maxLen/\cur.size=cap * k/\cur.toList.take (n * k)=xs/\Inv w0 X (A++[.blk g (.cells cur e)]) S w):=by
 have hm:w.ownsRow 0 e k v n xs:=h.its (.row v e k n xs) (by simp)
 obtain ⟨hl,hm⟩:=hm
 refine ⟨hl,?_⟩
 rcases hm with hn|⟨g,cap,cur,rfl,_,hg,hnc,hcm,hcs,ht⟩
 ·exact .inl hn
 ·have hf:bz (A++[Item.blk g (.cells cur e)])=bz (A++[Item.row (.slice (some ⟨g,0,none⟩) n cap) e k n xs]):=by
   simp [bz,Item.foot,Value.ownBlock]
  refine .inr ⟨g,cap,cur,rfl,hnc,hcm,hcs,ht,h.size,h.os,h.tape,h.output,h.old,fun it hit=>?_,by rw [hf]; exact h.nd,by rw [hf]; exact h.new,by rw [hf]; exact h.pub⟩
  rcases List.mem_append.1 hit with hit|hit
  ·exact h.its it (List.mem_append_left _ hit)
  ·simp at hit
   subst hit
   exact hg
theorem Inv.closeRow {w0 w:World} {X:List Nat} {A:List Item} {S:ae} {g cap k n:Nat} {cur:Array Value} {e:TypeId} (h:Inv w0 X (A++[.blk g (.cells cur e)]) S w) (hn:n<=cap) (hc:cap<=maxLen) (hs:cur.size=cap * k) :
  Inv w0 X (A++[.row (.slice (some ⟨g,0,none⟩) n cap) e k n (cur.toList.take (n * k))]) S w:=by
 have hg:w.heap[g]?=some (.cells cur e):=h.its (.blk g (.cells cur e)) (by simp)
 have hf:bz (A++[Item.row (.slice (some ⟨g,0,none⟩) n cap) e k n (cur.toList.take (n * k))])=bz (A++[Item.blk g (.cells cur e)]):=by
  simp [bz,Item.foot,Value.ownBlock]
 refine ⟨h.size,h.os,h.tape,h.output,h.old,fun it hit=>?_,by rw [hf]; exact h.nd,by rw [hf]; exact h.new,by rw [hf]; exact h.pub⟩
 rcases List.mem_append.1 hit with hit|hit
 ·exact h.its it (List.mem_append_left _ hit)
 ·simp at hit
  subst hit
  refine ⟨?_,.inr ⟨g,cap,cur,rfl,Nat.zero_le _,hg,hn,hc,hs,rfl⟩⟩
  rw [List.length_take,Array.length_toList,hs]
  exact Nat.min_eq_left (Nat.mul_le_mul_right k hn)

section
attribute [local irreducible] Run CondV ar aI
end
end
section
open Go Go.RowKit

structure Grown {α:Type} (k:Nat) (R:aV->List Value->α->Prop) (Ls:List aV) (css:List (List Value)) (ys:List α):Prop where
 hL:Ls.length=ys.length
 hc:css.length=ys.length
 hk:∀ cs∈css,cs.length=k
 hR:∀ i (h:i<ys.length) (h1:i<Ls.length) (h2:i<css.length),R Ls[i] css[i] ys[i]
theorem Grown.nil {α:Type} (k:Nat) (R:aV->List Value->α->Prop):Grown k R [] [] ([]:List α):=⟨rfl,rfl,by simp,fun i h=>by simp at h⟩
theorem Grown.snoc {α:Type} {k:Nat} {R:aV->List Value->α->Prop} {Ls:List aV} {css:List (List Value)} {ys:List α} (h:Grown k R Ls css ys) {L:aV} {cs:List Value} {y:α} (hR:R L cs y) (hl:cs.length=k) :
  Grown k R (Ls++[L]) (css++[cs]) (ys++[y]):=by
 refine ⟨by simp [h.hL],by simp [h.hc],fun c hc=>?_,fun i h0 h1 h2=>?_⟩
 ·rcases List.mem_append.1 hc with hc|hc
  ·exact h.hk c hc
  ·simp at hc; subst hc; exact hl
 ·have e1:=h.hL
  have e2:=h.hc
  by_cases hi:i<ys.length
  ·rw [List.getElem_append_left (by omega),List.getElem_append_left (by omega),List.getElem_append_left hi]
   exact h.hR i hi (by omega) (by omega)
  ·have:i=ys.length:=by simp at h0; omega
   subst this
   rw [List.getElem_append_right (by omega),List.getElem_append_right (by omega),List.getElem_append_right (by omega)]
   simp only [e1,e2,Nat.sub_self,List.getElem_cons_zero]
   exact hR
theorem fP (k:Nat):∀ (css:List (List Value)) (i:Nat) (_:∀ cs∈css,cs.length=k) (h:i<css.length),(css.flatten.drop (i * k)).take k=css[i]
 | [],i,_,h=>by simp at h
 | c::css,0,hk,_=>by
  have:=hk c (List.mem_cons_self ..)
  rw [List.flatten_cons,Nat.zero_mul,List.drop_zero,List.take_append_of_le_length (by omega),List.take_of_length_le (by omega)]
  rfl
 | c::css,i+1,hk,h=>by
  have:=hk c (List.mem_cons_self ..)
  rw [List.flatten_cons,Nat.succ_mul,Nat.add_comm,<- List.drop_drop,List.drop_left' this]
  exact fP k css i (fun cs hc=>hk cs (List.mem_cons_of_mem _ hc)) (by simpa using h)
abbrev aP (v:Value) (e:TypeId) (k:Nat) (css:List (List Value)):Item:=.row v e k css.length css.flatten
theorem Inv.rowTree {α:Type} {w0 w:World} {X:List Nat} {A:List Item} {S:ae} {v:Value} {e:TypeId} {k:Nat} {R:aV->List Value->α->Prop} {Ls:List aV} {css:List (List Value)} {ys:List α}
  (h:Inv w0 X (A++(aP v e k css::bB Ls.flatten)) S w) (hg:Grown k R Ls css ys):∃ L,TrSl k R L v ys/\Inv w0 X (A++bB L) S w:=by
 have hp:List.Perm ((A++bB Ls.flatten)++[aP v e k css]) (A++(aP v e k css::bB Ls.flatten)):=by
  rw [List.append_assoc]
  exact List.Perm.append_left _ List.perm_append_comm
 obtain ⟨hl,ho⟩:=(h.perm hp).openRow
 have hcy:=hg.hc
 have hLy:=hg.hL
 rcases ho with ⟨rfl,h0⟩|⟨g,cap,cur,rfl,hnc,hcm,hcs,ht,hI⟩
 ·have:ys=[]:=List.eq_nil_of_length_eq_zero (by omega)
  subst this
  refine ⟨[],TrSl.nil (by simp [maxLen]),?_⟩
  simpa [bB] using h.sub (List.sublist_append_left _ _)
 ·by_cases hy:ys=[]
  ·subst hy
   have:css=[]:=List.eq_nil_of_length_eq_zero (by simpa using hcy)
   subst this
   refine ⟨[],TrSl.nil hcm,?_⟩
   simpa [bB] using h.sub (List.sublist_append_left _ _)
  ·refine ⟨(g,.cells cur e)::Ls.flatten,⟨_,cap,by rw [hcy],by omega,hcm,.inr ⟨g,cur,e,Ls,rfl,rfl,hLy,by omega,fun i h1 h2=>?_⟩⟩,?_⟩
   ·have hik:i * k+k<=css.length * k:=by rw [<- Nat.succ_mul]; exact Nat.mul_le_mul_right k (by omega)
    have:=fP k css i hg.hk (by omega)
    rw [<- ht,List.drop_take,List.take_take,Nat.min_eq_left (by omega)] at this
    rw [aL,this]
    exact hg.hR i h1 h2 (by omega)
   ·refine hI.perm ?_
    rw [List.append_assoc]
    exact List.Perm.append_left _ (List.perm_append_comm (l₁:=[Item.blk g (.cells cur e)]))
theorem fS (v:Value) (e:TypeId) (k:Nat) (css:List (List Value)) (cs:List Value):Item.row v e k (css.length+1) (css.flatten++cs)=aP v e k (css++[cs]):=by
 simp [aP]
section
variable {P:Program} {w w0:World} {X:List Nat} {L:List Item} {S:ae} {K:Value->World->Prop}
attribute [local irreducible] Run CondV ar aI
theorem fU (h:Inv w0 X L S w) {T ty e:TypeId} {k by_:Nat} {z v:Value} {cs:List Bool} {css:List (List Value)} (i:Nat) (xs:List Value)
  (hT:fb P T=some (e,k,by_,z)) (hk0:0<k) (hk24:k<=65536) (hi:L[i]?=some (aP v e k css)) (hl:xs.length=k) (h1:∀ u∈xs,u.oneCell'=true) (hfit:css.length+1<=4294967296) (hby:by_<=32768)
  {K:Value->Value->World->Prop} (hk:∀ v' w',Inv w0 X (L.set i (aP v' e k (css++[xs]))) S w'->K (.slice (some ⟨w.heap.size,0,none⟩) 1 1) v' w') :
  Run P (bi T 1 [(0,.agg xs.toArray)]) w fun u w'=>Run P (bx .append #[T,T] ty cs [v,u]) w' (K u):=by
 refine oY h hT (by simp [Value.cells,hl]) hk24 hk0 fun w' hI=>?_
 have hil:i<L.length:=(List.getElem?_eq_some_iff.1 hi).1
 refine eZ hI i xs hT hk0 (by rw [List.getElem?_append_left hil]; exact hi) (by omega) (m:=1) (o:=0) ?_ h1 hfit hby fun v' w' hI=>?_
 ·intro j u hj
  rw [hI.cellL (i:=L.length) (by rw [List.getElem?_append_right (Nat.le_refl _),Nat.sub_self]; rfl)]
  rw [Nat.zero_add]
  simpa [Value.cells] using hj
 ·refine hk _ _ ?_
  rw [<- fS]
  rw [List.set_append_left _ _ hil] at hI
  exact hI.sub (List.sublist_append_left _ _)
end

section
attribute [local irreducible] Run CondV ar aI
end
end
section
open Go Go.RowKit
section
variable {w:World} {K:Value->World->Prop}
attribute [local irreducible] Run
theorem xk {a b:Int} {s:ByteArray} {k:Value} (hk:K (.agg #[.int .i64 a,.int .i64 b,.string s,k,.slice none 0 0]) w):Run Tryz.prog (bI aQ [(0,.agg #[.int .i64 a,.int .i64 b,.string s,k])]) w K:=by
 refine Run.of (v:=.agg #[.int .i64 a,.int .i64 b,.string s,k,.slice none 0 0]) (w':=w) ?_ hk
 unfold bI
 rw [Sem.run_bind,run_build w aQ _ #[.int .i64 a,.int .i64 b,.string s,k,.slice none 0 0] (by kernel_rfl),Result.andThen_ok]
 rfl
theorem ip {a b:Int} {s:ByteArray} (hk:K (.agg #[.int .i64 a,.int .i64 b,.string s,.slice none 0 0]) w):Run Tryz.prog (bI ab [(0,.int .i64 a),(1,.int .i64 b),(2,.string s)]) w K:=by
 refine Run.of (v:=.agg #[.int .i64 a,.int .i64 b,.string s,.slice none 0 0]) (w':=w) ?_ hk
 unfold bI
 rw [Sem.run_bind,run_build w ab _ #[.int .i64 a,.int .i64 b,.string s,.slice none 0 0] (by kernel_rfl),Result.andThen_ok]
 rfl
end
section
attribute [local irreducible] Run CondV ar aI
end
end
section
open Go Go.RowKit
theorem RdC.one {S:ae} {cs:List Value} {c:C} (h:RdC S cs c):∀ u∈cs,u.oneCell'=true:=by
 obtain ⟨hd,ks,rfl,h1,a,cap,rfl,_⟩:=h
 intro u hu
 rcases List.mem_append.1 hu with hu|hu
 ·exact h1.one u hu
 ·simp at hu; subst hu; rfl
section
attribute [local irreducible] Run CondV ar aI
theorem Inv.rowSlice {w0 w:World} {X:List Nat} {L:List Item} {S:ae} {v:Value} {e:TypeId} {k n:Nat} {xs:List Value} (h:Inv w0 X L S w) (i:Nat) (hi:L[i]?=some (.row v e k n xs)):∃ a m c,v=.slice a m c:=by
 have hm:w.ownsRow 0 e k v n xs:=h.its (.row v e k n xs) (List.mem_of_getElem? hi)
 rcases hm.2 with ⟨rfl,_⟩|⟨g,cap,cur,rfl,_⟩
 ·exact ⟨_,_,_,rfl⟩
 ·exact ⟨_,_,_,rfl⟩
def bg (B1 B2 B3 B3' r r':Item) (rest:List Item) (M:aV) (B27:Item) (d7 d8 d9 d11:Bool):List Item:=
 B1::B2::(match d11 with|true=>B3'|false=>B3)::(match d9 with|true=>r'|false=>r)::(rest++((match d7 with|true=>bB M|false=>[])++(match d8 with|true=>[B27]|false=>[])))

theorem fu:∀ (t:T) (S:ae) (cs:List Value),RdT S cs t->wT t<=1048576->Tri Tryz.prog qL [.agg cs.toArray] [] S (BU S t):=by
 refine T.ind fun k n s ks ih S cs h hw=>?_
 intro w hI
 obtain ⟨kv,rfl,h1,h2,hs,hks⟩:=RdT.iff.1 h
 simp only [T.name,T.kids,T.kind,T.n] at h1 h2 hs hks ⊢
 simp only [wT] at hw
 refine kD.2 ?_
 dsimp only[kD,aE]
 refine be hI fun b1 w' hI=>?_
 refine aA hI aU fun b2 w' hI=>?_
 refine ad hI 0 rfl aM aw rfl ?_
 refine ad hI 0 rfl aR aw rfl ?_
 refine ad hI 0 rfl aH aC rfl ?_
 refine ip ?_
 refine aA hI aU fun b3 w' hI=>?_
 refine aj hI 2 rfl ac rfl rfl (by simp [Value.oneCell']) fun w' hI=>?_
 have hI:=hI.rowNil ab 4
 refine ⟨fun i w'=>∃ (j:Nat) (kvc:Value) (Ls:List aV) (css:List (List Value)),j<=ks.length/\i=.int .i64 j/\Grown 4 TrT Ls css (ks.take j)/\
   Inv w [] (.blk b1 (.cells #[.int .i64 k,.int .i64 n,.string s,kv] ab)::.blk b2 (.cells #[.int .i64 0,.int .i64 0,.string ⟨#[]⟩,.slice none 0 0] ab)::.blk b3 (.cells #[.int .i64 k,.int .i64 n,.string s,kvc] ab)::aP kvc ab 4 css::bB Ls.flatten) S w',
  fun i _=>ks.length - (intOf i).toNat,⟨0,_,[],[],Nat.zero_le _,rfl,Grown.nil _ _,hI⟩,?_⟩
 intro t4 _ _ _ _ _ _ _ _ _ _ _ _ _ _ _ _ _ _ w'
 rintro ⟨j,kvc,Ls,css,hj,rfl,hg,hI⟩
 refine ad hI 0 rfl ak al rfl ?_
 refine aK hks ah ?_
 refine bD ?_
 refine aN (fun hji=>?_) (fun hji=>?_)
 ·have hj':j<ks.length:=by omega
  have hjl:(ks.take j).length=j:=by simp; omega
  have hcl:=hg.hc
  have hm:=List.getElem_mem hj'
  have hwm:=kM hm
  obtain ⟨b,o,cap,c,E,fz,rfl,hS,hR⟩:=hks.at_ hj'
  refine ⟨fun D iF fC kl lf iT lY ni mD kX i6 lQ w_=>Fx D 0 [lQ=.pointer (some ⟨b3,3,none⟩),i6=kvc,kX=.pointer (some ⟨b1,3,none⟩),mD=.slice (some ⟨b,o,none⟩) (ks).length cap,ni=.int .i64 j,lY=.pointer (some ⟨b,o+j * 4,none⟩),iT=.agg (aL c (o+j * 4) 4).toArray,True,True,True,iF=.pointer (some ⟨b3,3,none⟩),True]/\∃ M cs7 b8,(D 7=true->lf=.agg cs7.toArray/\TrT M cs7 (ks)[j])/\(D 8=true->kl=.slice (some ⟨b8,0,none⟩) 1 1)/\(D 8=true->D 7=true)/\(D 9=true->D 8=true)/\(D 11=true->D 9=true)/\(D 11=true->D 1=true)/\Inv w [] (bg (.blk b1 (.cells #[.int .i64 k,.int .i64 n,.string s,.slice (some ⟨b,o,none⟩) ks.length cap] ab)) (.blk b2 (.cells #[.int .i64 0,.int .i64 0,.string ⟨#[]⟩,.slice none 0 0] ab)) (.blk b3 (.cells #[.int .i64 k,.int .i64 n,.string s,kvc] ab)) (.blk b3 (.cells #[.int .i64 k,.int .i64 n,.string s,fC] ab)) (aP kvc ab 4 css) (aP fC ab 4 (css++[cs7])) (bB Ls.flatten) M (.blk b8 (.cells cs7.toArray ab)) (D 7) (D 8) (D 9) (D 11)) S w_,⟨Fx.nil _ _,⟨[],[],0,aT,aT,aT,aT,aT,aT,by simpa [bg,bB] using hI.draw⟩⟩,⟨?_,?_,?_,?_,?_,?_,?_,?_,?_,?_,?_,?_,trivial⟩,?_⟩
  all_goals (intro D bw; intros; rename_i iF fC kl lf iT lY ni mD kX i6 lQ w_ hA_; have hF_:=hA_.1; obtain ⟨⟨bQ,bS,bU,bR,bY,bZ,bO,cG,cS,cT,bL,co,_⟩,⟨M,cs7,b8,e7,e8,k8,k9,k11,k1,hI⟩⟩:=hA_)
  ·refine ao ak ?_
   exact ⟨hF_.set 0 rfl,⟨M,cs7,b8,e7,e8,k8,k9,k11,k1,hI⟩⟩
  ·obtain rfl:=bQ ‹_›
   have f11:D 11=false:=Bool.eq_false_iff.2 fun h=>by rw [k1 h] at bw; cases bw
   refine ax (b:=b3) hI 2 (c:=(#[.int .i64 k,.int .i64 n,.string s,kvc])) al (by rw [f11]; rfl) rfl ?_
   have k1:=fun (_:aB D 1 11=true)=>(rfl:aB D 1 1=true)
   exact ⟨hF_.set 1 rfl,⟨M,cs7,b8,e7,e8,k8,k9,k11,k1,hI⟩⟩
  ·refine ao ak ?_
   exact ⟨hF_.set 2 rfl,⟨M,cs7,b8,e7,e8,k8,k9,k11,k1,hI⟩⟩
  ·obtain rfl:=bU ‹_›
   refine ax hI 0 al rfl rfl ?_
   exact ⟨hF_.set 3 rfl,⟨M,cs7,b8,e7,e8,k8,k9,k11,k1,hI⟩⟩
  ·exact ⟨hF_.set 4 rfl,⟨M,cs7,b8,e7,e8,k8,k9,k11,k1,hI⟩⟩
  ·obtain rfl:=bR ‹_›
   obtain rfl:=bY ‹_›
   refine ay ah hj' ?_
   exact ⟨hF_.set 5 rfl,⟨M,cs7,b8,e7,e8,k8,k9,k11,k1,hI⟩⟩
  ·obtain rfl:=bZ ‹_›
   refine ci ac hR.length (fun j v hj=>by rw [hI.cellS hS]; exact aD rfl j v hj) ?_
   exact ⟨hF_.set 6 rfl,⟨M,cs7,b8,e7,e8,k8,k9,k11,k1,hI⟩⟩
  ·obtain rfl:=bO ‹_›
   have f8:D 8=false:=Bool.eq_false_iff.2 fun h=>by rw [k8 h] at bw; cases bw
   have f9:D 9=false:=Bool.eq_false_iff.2 fun h=>by rw [k9 h] at f8; cases f8
   have f11:D 11=false:=Bool.eq_false_iff.2 fun h=>by rw [k11 h] at f9; cases f9
   rw [bw,f8,f9,f11] at hI
   refine Run.call0 eD eC hI (ih _ (List.getElem_mem hj') S _ hR (by omega)) fun v' I' S w_=>?_
   rintro ⟨rfl,cs7,M,rfl,rfl,hT⟩ _ hI
   have e7:aB D 7 7=true->Value.agg cs7.toArray=Value.agg cs7.toArray/\TrT M cs7 (ks)[j]:=fun _=>⟨rfl,hT⟩
   have k8:=fun (_:aB D 7 8=true)=>(rfl:aB D 7 7=true)
   have hI:Inv w [] (bg (.blk b1 (.cells #[.int .i64 k,.int .i64 n,.string s,.slice (some ⟨b,o,none⟩) ks.length cap] ab)) (.blk b2 (.cells #[.int .i64 0,.int .i64 0,.string ⟨#[]⟩,.slice none 0 0] ab)) (.blk b3 (.cells #[.int .i64 k,.int .i64 n,.string s,kvc] ab)) (.blk b3 (.cells #[.int .i64 k,.int .i64 n,.string s,fC] ab)) (aP kvc ab 4 css) (aP fC ab 4 (css++[cs7])) (bB Ls.flatten) M (.blk b8 (.cells cs7.toArray ab)) true (D 8) (D 9) (D 11)) S w_:=by
    rw [f8,f9,f11]
    simpa [bg] using hI
   exact ⟨hF_.set 7 (by first|assumption|trivial),⟨M,cs7,b8,e7,e8,k8,k9,k11,k1,hI⟩⟩
  ·have GO:=cG ‹_›
   have f9:D 9=false:=Bool.eq_false_iff.2 fun h=>by rw [k9 h] at bw; cases bw
   have f11:D 11=false:=Bool.eq_false_iff.2 fun h=>by rw [k11 h] at f9; cases f9
   obtain ⟨q7,hT⟩:=e7 ‹D 7=true›
   subst q7
   rw [‹D 7=true›,bw,f9,f11] at hI
   refine dH hI bj (by simp [Value.cells,hT.length]) (by omega) (by omega) fun b8 w_ hI=>?_
   have e7:aB D 8 7=true->Value.agg cs7.toArray=Value.agg cs7.toArray/\TrT M cs7 (ks)[j]:=fun _=>⟨rfl,hT⟩
   have e8:=fun (_:aB D 8 8=true)=>(rfl:Value.slice (some ⟨b8,0,none⟩) 1 1=_)
   have k8:=fun (_:aB D 8 8=true)=>‹D 7=true›
   have k9:=fun (_:aB D 8 9=true)=>(rfl:aB D 8 8=true)
   have hI:Inv w [] (bg (.blk b1 (.cells #[.int .i64 k,.int .i64 n,.string s,.slice (some ⟨b,o,none⟩) ks.length cap] ab)) (.blk b2 (.cells #[.int .i64 0,.int .i64 0,.string ⟨#[]⟩,.slice none 0 0] ab)) (.blk b3 (.cells #[.int .i64 k,.int .i64 n,.string s,kvc] ab)) (.blk b3 (.cells #[.int .i64 k,.int .i64 n,.string s,fC] ab)) (aP kvc ab 4 css) (aP fC ab 4 (css++[cs7])) (bB Ls.flatten) M (.blk b8 (.cells cs7.toArray ab)) (D 7) true (D 9) (D 11)) S w_:=by
    rw [‹D 7=true›,f9,f11]
    simpa [bg,Value.cells] using hI
   exact ⟨hF_.set 8 (by first|assumption|trivial),⟨M,cs7,b8,e7,e8,k8,k9,k11,k1,hI⟩⟩
  ·obtain rfl:=bS ‹_›
   have Bo:=cS ‹_›
   have f11:D 11=false:=Bool.eq_false_iff.2 fun h=>by rw [k11 h] at bw; cases bw
   have q8:=e8 ‹D 8=true›
   subst q8
   obtain ⟨_,hT⟩:=e7 ‹D 7=true›
   rw [‹D 7=true›,‹D 8=true›,bw,f11] at hI
   have hblk:((bg (.blk b1 (.cells #[.int .i64 k,.int .i64 n,.string s,.slice (some ⟨b,o,none⟩) ks.length cap] ab)) (.blk b2 (.cells #[.int .i64 0,.int .i64 0,.string ⟨#[]⟩,.slice none 0 0] ab)) (.blk b3 (.cells #[.int .i64 k,.int .i64 n,.string s,i6] ab)) (.blk b3 (.cells #[.int .i64 k,.int .i64 n,.string s,fC] ab)) (aP i6 ab 4 css) (aP fC ab 4 (css++[cs7])) (bB Ls.flatten) M (.blk b8 (.cells cs7.toArray ab)) true true false false))[4+(bB Ls.flatten).length+(bB M).length]?=some (.blk b8 (.cells cs7.toArray ab)):=by
    have e4:4+(bB Ls.flatten).length+(bB M).length=((bB Ls.flatten).length+(bB M).length)+1+1+1+1:=by omega
    rw [e4]
    simp only [bg,List.getElem?_cons_succ]
    rw [List.getElem?_append_right (by omega),Nat.add_sub_cancel_left,List.getElem?_append_right (Nat.le_refl _),Nat.sub_self]; rfl
   refine eZ hI 3 cs7 bj (by omega) rfl (by rw [hT.length]) (m:=1) (o:=0) ?_ hT.one (by omega) (by omega) fun v' w_ hI=>?_
   ·intro i u hi
    rw [hI.cellL hblk,Nat.zero_add]
    simpa using hi
   rw [fS] at hI
   have k9:=fun (_:aB D 9 9=true)=>‹D 8=true›
   have k11:=fun (_:aB D 9 11=true)=>(rfl:aB D 9 9=true)
   have hI:Inv w [] (bg (.blk b1 (.cells #[.int .i64 k,.int .i64 n,.string s,.slice (some ⟨b,o,none⟩) ks.length cap] ab)) (.blk b2 (.cells #[.int .i64 0,.int .i64 0,.string ⟨#[]⟩,.slice none 0 0] ab)) (.blk b3 (.cells #[.int .i64 k,.int .i64 n,.string s,i6] ab)) (.blk b3 (.cells #[.int .i64 k,.int .i64 n,.string s,v'] ab)) (aP i6 ab 4 css) (aP v' ab 4 (css++[cs7])) (bB Ls.flatten) M (.blk b8 (.cells cs7.toArray ab)) (D 7) (D 8) true (D 11)) S w_:=by
    rw [‹D 7=true›,‹D 8=true›,f11]
    exact hI
   exact ⟨hF_.set 9 (by first|assumption|trivial),⟨M,cs7,b8,e7,e8,k8,k9,k11,k1,hI⟩⟩
  ·refine ao ak ?_
   exact ⟨hF_.set 10 rfl,⟨M,cs7,b8,e7,e8,k8,k9,k11,k1,hI⟩⟩
  ·obtain rfl:=bL ‹_›
   have GP:=cT ‹_›
   rw [‹D 7=true›,‹D 8=true›,‹D 9=true›,bw] at hI
   obtain ⟨va,vn,vc,hv9⟩:=Inv.rowSlice hI 3 rfl
   refine dB hI 2 (n:=1) (by rw [hv9]; rfl) (by decide +kernel) rfl (by simp) (by rw [hv9]; simp [Value.cells,Value.oneCell']) fun w_ hI=>?_
   have hcl9:Value.cells fC=#[fC]:=by rw [hv9]; rfl
   rw [hcl9] at hI
   have k1:=fun (_:aB D 11 11=true)=>‹D 1=true›
   have k11:=fun (_:aB D 11 11=true)=>‹D 9=true›
   have hI:Inv w [] (bg (.blk b1 (.cells #[.int .i64 k,.int .i64 n,.string s,.slice (some ⟨b,o,none⟩) ks.length cap] ab)) (.blk b2 (.cells #[.int .i64 0,.int .i64 0,.string ⟨#[]⟩,.slice none 0 0] ab)) (.blk b3 (.cells #[.int .i64 k,.int .i64 n,.string s,kvc] ab)) (.blk b3 (.cells #[.int .i64 k,.int .i64 n,.string s,fC] ab)) (aP kvc ab 4 css) (aP fC ab 4 (css++[cs7])) (bB Ls.flatten) M (.blk b8 (.cells cs7.toArray ab)) (D 7) (D 8) (D 9) true) S w_:=by
    rw [‹D 7=true›,‹D 8=true›,‹D 9=true›]
    exact hI
   exact ⟨hF_.set 11 trivial,⟨M,cs7,b8,e7,e8,k8,k9,k11,k1,hI⟩⟩
  obtain ⟨rfl,rfl,rfl,rfl,rfl,rfl,rfl,GO,Bo,GP,rfl,_,_⟩:=hF_.all
  have Cs:D 7=true:=by assumption
  have z8:D 8=true:=by assumption
  have Fk:D 9=true:=by assumption
  have uL:D 11=true:=by assumption
  clear hF_ bQ bS bU bR bY bZ bO cG cS cT bL co
  obtain ⟨_,hT⟩:=e7 Cs
  rw [Cs,z8,Fk,uL] at hI
  refine bm (by omega) ?_
  refine ⟨⟨j+1,fC,Ls++[M],css++[cs7],hj',rfl,?_,?_⟩,by simp [intOf]; omega⟩
  ·rw [List.take_succ_eq_append_getElem hj']
   exact hg.snoc hT hT.length
  ·simp only [List.flatten_append,List.flatten_cons,List.flatten_nil,List.append_nil,fj]
   refine hI.sub ?_
   simp only [bg]
   rw [<- List.append_assoc]
   exact (((List.sublist_append_left _ _).cons_cons _).cons_cons _).cons_cons _ |>.cons_cons _
 ·have:j=ks.length:=by omega
  subst this
  rw [List.take_length] at hg
  obtain ⟨va,vn,vc,hvk⟩:=hI.rowSlice 3 rfl
  have hv1:kvc.oneCell'=true:=by rw [hvk]; rfl
  refine ag hI 2 ac rfl rfl ?_
  refine aj hI 1 rfl ac rfl rfl ?_ fun w' hI=>?_
  ·intro u hu
   have hu':u∈([.int .i64 k,.int .i64 n,.string s,kvc]:List Value):=hu
   simp at hu'
   rcases hu' with rfl|rfl|rfl|rfl <;> first|rfl|exact hv1
  refine aS hI 1 ac rfl rfl ?_
  have hI:Inv w [] ([]++(aP kvc ab 4 css::bB Ls.flatten)) S w':=hI.sub (List.sublist_append_right [_,_,_] _)
  obtain ⟨L,hT,hI⟩:=Inv.rowTree hI hg
  exact ⟨_,_,_,rfl,hI,Ext.refl _ _ _,rfl,_,L,rfl,rfl,TrT.iff.2 ⟨kvc,rfl,h1,h2,hs,hT⟩⟩
end
end
end Go.Proofs.YtbocelianhcfmaaGreatDoor
