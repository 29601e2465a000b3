/- The variables of terms, on both sides: lists of numbers that grow. -/
import Derived.Test.YtgllldjiaglkcaaGreatDoorZMp1
import Derived.Test.YtgllldjiaglkcaaGreatDoorRows
import Derived.ProofKit
import Derived.ReadAgain
import Derived.Carry
import Derived.Test.YtgllldjiaglkcaaGreatDoorZMpS
import Derived.Test.YtgllldjiaglkcaaGreatDoorZMpF
import Derived.Test.YtgllldjiaglkcaaGreatDoorZMpgz
import Derived.Test.YtgllldjiaglkcaaGreatDoorZMp0
import Derived.Laws.BytesArg
import Derived.Laws.StructEq
import Derived.Laws.Tables
namespace Go.Proofs.YtgllldjiaglkcaaGreatDoor
section
open Go Go.RowKit
attribute [local irreducible] Run CondV az aO

mutual
def fO:T->List Int->List Int
 | .mk k n _ ks,l=>cN ks (if k=1 then ly l n else l)
def cN:List T->List Int->List Int
 | [],l=>l
 | t::ts,l=>cN ts (fO t l)
end
mutual
def gD:T->List Int->List Int
 | .mk k n _ ks,l=>if k=1 then ly l n else ek ks l
def ek:List T->List Int->List Int
 | [],l=>l
 | t::ts,l=>ek ts (gD t l)
end
mutual
theorem Hr:∀ (t:T) (l:List Int),((fO t l).length:Int)<=l.length+ew t
 | .mk k n s ks,l=>by
  rw [fO,show ew (T.mk k n s ks)=1+cV ks from rfl]
  have h1:=MZ l n
  have:=zj ks (if k=1 then ly l n else l)
  split at this <;> rename_i hk <;> simp only [hk,if_true,if_false] at this ⊢ <;> omega
theorem zj:∀ (ts:List T) (l:List Int),((cN ts l).length:Int)<=l.length+cV ts
 | [],l=>by simp [cN,cV]
 | t::ts,l=>by
  rw [cN,show cV (t::ts)=ew t+cV ts from rfl]
  have:=Hr t l
  have:=zj ts (fO t l)
  omega
end
mutual
theorem Bi:∀ (t:T) (l:List Int),((gD t l).length:Int)<=l.length+ew t
 | .mk k n s ks,l=>by
  rw [gD,show ew (T.mk k n s ks)=1+cV ks from rfl]
  have h1:=MZ l n
  have:=eL ks
  split
  ·omega
  ·have:=Kg ks l
   omega
theorem Kg:∀ (ts:List T) (l:List Int),((ek ts l).length:Int)<=l.length+cV ts
 | [],l=>by simp [ek,cV]
 | t::ts,l=>by
  rw [ek,show cV (t::ts)=ew t+cV ts from rfl]
  have:=Bi t l
  have:=Kg ts (gD t l)
  omega
end
mutual
theorem Oj:∀ (t:T) (d:Int) (l:List Int),dV t d=true->gD t l=fO t l
 | .mk k n s ks,d,l,h=>by
  rw [dV] at h
  split at h
  ·cases h
  ·rw [bu] at h
   rw [gD,fO]
   split
   ·rw [Pv h.1 (.inl ‹k=1›)]; rfl
   ·exact FI ks (d - 1) l h.2
theorem FI:∀ (ts:List T) (d:Int) (l:List Int),dJ ts d=true->ek ts l=cN ts l
 | [],d,l,h=>rfl
 | t::ts,d,l,h=>by
  rw [dJ,bu] at h
  rw [ek,cN,Oj t d l h.1]
  exact FI ts d _ h.2
end
theorem jk {t:T} (h:dt t=true):dV t 30=true:=by
 rw [dt,bu] at h
 exact h.1
abbrev PT (S:ae) (r:List Int):Value->List Item->ae->Prop:=fun v I' S'=>I'=[dz v r]/\S'=S

theorem zL:∀ (t:T) (S:ae) (cs:List Value) (v:Value) (l:List Int),RdT S cs t->l.length+ew t<=1000000000->Tri Tryz.prog Th [v,.agg cs.toArray] [dz v l] S (PT S (gD t l)):=by
 refine T.ind fun k n s ks ih S cs v l h hl=>?_
 intro w hI
 obtain ⟨kv,rfl,_,_,hs,hks⟩:=RdT.iff.1 h
 simp only [T.name,T.kids,T.kind,T.n] at hs hks ⊢
 have hlen:=hks.le
 simp only [maxLen] at hlen
 rw [show ew (T.mk k n s ks)=1+cV ks from rfl] at hl
 have hcp:=eL ks
 have hend:∀ {w':World} {v':Value} {b:Nat} {o:Obj} (r:List Int),Inv w (bE [dz v l]) [.blk b o,dz v' r] S w'->r=gD (.mk k n s ks) l->
   ∃ v'' I' S',Ending.returned v'=.returned v''/\Inv w (bE [dz v l]) I' S' w'/\Ext w.heap.size (bE [dz v l]) S S'/\PT S (gD (.mk k n s ks) l) v'' I' S':=by
  intro w' v' b o r h1 h2
  subst h2
  exact ⟨_,_,_,rfl,h1.pick [false,true],Ext.refl _ _ _,rfl,rfl⟩
 refine D5.2 ?_
 dsimp only[D5,aY]
 refine bq hI fun b3 w' hI=>?_
 have hI:=hI.perm (M:=[.blk b3 (.cells #[.int .i64 k,.int .i64 n,.string s,kv] ab),dz v l]) (List.Perm.swap _ _ _)
 refine af hI 0 rfl aR aG rfl ?_
 refine bl ?_
 refine aL (fun hk=>?_) (fun hk=>?_)
 ·have hr:ly l n=gD (.mk k n s ks) l:=by rw [gD,ai hk]
  obtain ⟨S1,hle,hrd,hI,hback⟩:=Inv.lend (A:=[_]) hI
  have hrd:=hrd.ints
  refine ⟨fun i w'=>∃ j:Nat,j<=l.length/\i=.int .i64 j/\jL (l.drop j) n=jL l n/\Inv w (bE [dz v l]) [.blk b3 (.cells #[.int .i64 k,.int .i64 n,.string s,kv] ab)] S1 w',
   fun i _=>l.length - (intOf i).toNat,⟨0,be _,rfl,rfl,hI⟩,?_⟩
  intro t5 _ _ _ _ t22 t21 t20 t19 t18 t17 t16 _ _ _ _ w'
  rintro ⟨j,hj,rfl,hrel,hI⟩
  refine aF hrd dd ?_
  refine bH ?_
  refine aL (fun hji=>?_) (fun hji=>?_)
  ·have hj':j<l.length:=by omega
   have hstep:jL (l.drop j) n=(decide (n=l[j]) || jL (l.drop (j+1)) n):=FD _ l j hj'
   obtain ⟨b,o,cap,c,E,fz,rfl,hS,hR⟩:=hrd.at_ hj'
   refine ⟨fun D uK sj oU lp rT lN pr w_=>Fx D 0 [pr=.slice (some ⟨b,o,none⟩) l.length cap,lN=.int .i64 j,rT=.pointer (some ⟨b,o+j * 1,none⟩),lp=.int .i64 l[j],oU=.pointer (some ⟨b3,1,none⟩),sj=.int .i64 n,uK=.bool (decide (l[j]=n))]/\Inv w (bE [dz (.slice (some ⟨b,o,none⟩) l.length cap) l]) [.blk b3 (.cells #[.int .i64 k,.int .i64 n,.string s,kv] ab)] S1 w_,⟨Fx.nil _ _,hI.draw⟩,⟨?_,?_,?_,?_,?_,?_,?_,trivial⟩,?_⟩
   all_goals (intro D bF; intros; rename_i uK sj oU lp rT lN pr w_ hA_; have hF_:=hA_.1; obtain ⟨⟨cj,ci,bR,ce,bP,bY,bZ,_⟩,hI⟩:=hA_)
   ·exact ⟨hF_.set 0 rfl,hI⟩
   ·exact ⟨hF_.set 1 rfl,hI⟩
   ·obtain rfl:=cj ‹_›
    obtain rfl:=ci ‹_›
    refine aE dd hj' ?_
    exact ⟨hF_.set 2 rfl,hI⟩
   ·obtain rfl:=bR ‹_›
    refine ct aG (by rw [hI.cellS hS]; exact aH hR 0 _ rfl) ?_
    exact ⟨hF_.set 3 rfl,hI⟩
   ·refine au bf ?_
    exact ⟨hF_.set 4 rfl,hI⟩
   ·obtain rfl:=bP ‹_›
    refine aN hI 0 aG rfl rfl ?_
    exact ⟨hF_.set 5 rfl,hI⟩
   ·obtain rfl:=ce ‹_›
    obtain rfl:=bY ‹_›
    refine bl ?_
    exact ⟨hF_.set 6 rfl,hI⟩
   obtain ⟨rfl,rfl,rfl,rfl,rfl,rfl,rfl,_⟩:=hF_.all
   clear hF_ cj ci bR ce bP bY bZ
   refine aL (fun he=>?_) (fun he=>?_)
   ·refine hend l (hback _ _ hI) ?_
    rw [<- hr,ly,ai (by rw [<- hrel,hstep,aI he.symm]; rfl)]
   ·refine bp (by omega) ?_
    exact ⟨⟨j+1,hj',rfl,by rw [<- hrel,hstep,aP (fun e=>he e.symm)]; rfl,hI⟩,by simp [intOf]; omega⟩
  ·have:j=l.length:=by omega
   subst this
   have hno:jL l n=false:=by rw [<- hrel,dO]; rfl
   have hI:Inv w (bE [dz v l]) [.blk b3 (.cells #[.int .i64 k,.int .i64 n,.string s,kv] ab),dz v l] S _:=hback _ _ hI
   refine af hI 0 rfl bf aG rfl ?_
   refine er hI kF rfl (by omega) (by omega) fun b w' hI=>?_
   refine dZ hI 1 (k:=1) [.int .i64 n] kF (by omega) rfl rfl ?_ ?_ (by omega) (by omega) fun v' w' hI=>?_
   ·intro j u hj
    rw [hI.cellL (i:=2) rfl]
    match j with
    | 0=>simpa [Value.cells] using hj
    | j+1=>simp at hj
   ·simp [Value.oneCell']
   ·rw [u5] at hI
    have hI:=hI.pick [true,true,false]
    refine hend (b:=b3) (o:=.cells #[.int .i64 k,.int .i64 n,.string s,kv] ab) (l++[n]) ?_ ?_
    ·have e:Item.row v' bV 1 (l.length+1) (ints (l++[n]))=dz v' (l++[n]):=by simp [dz]
     exact e ▸ hI
    ·rw [<- hr,ly,ah (by rw [hno]; decide)]
 ·have hr:ek ks l=gD (.mk k n s ks) l:=by rw [gD,ah hk]
  refine ⟨fun i t w'=>∃ (j:Nat) (l':List Int),j<=ks.length/\i=.int .i64 j/\ek (ks.drop j) l'=ek ks l/\l'.length+cV (ks.drop j)<=1000000000/\Inv w (bE [dz v l]) [.blk b3 (.cells #[.int .i64 k,.int .i64 n,.string s,kv] ab),dz t l'] S w',
   fun i _ _=>ks.length - (intOf i).toNat,⟨0,l,be _,rfl,rfl,by rw [Lb]; omega,hI⟩,?_⟩
  intro t6 _ _ t0 _ _ _ _ _ _ _ _ _ _ _ _ w'
  rintro ⟨j,l',hj,rfl,hrel,hl',hI⟩
  refine af hI 0 rfl ao aj rfl ?_
  refine aF hks ag ?_
  refine bH ?_
  refine aL (fun hji=>?_) (fun hji=>?_)
  ·have hj':j<ks.length:=by omega
   rw [nh ks j hj'] at hl'
   rw [cU hj',ek] at hrel
   have hc1:=eL (ks.drop (j+1))
   have hc2:=Bi ks[j] l'
   refine af hI 0 rfl ao aj rfl ?_
   refine cL hI hks ag ad hj' (fun _ _=>RdT.length) fun cs' hcs'=>?_
   refine Run.call (A:=[_]) uj uh hI (ih _ (bz hj') S cs' t0 l' hcs' (by omega)) fun v' I' S' w'=>?_
   rintro ⟨rfl,rfl⟩ _ hI
   refine bp (by omega) ?_
   exact ⟨⟨j+1,_,hj',rfl,hrel,by omega,hI⟩,by simp [intOf]; omega⟩
  ·have:j=ks.length:=by omega
   subst this
   rw [dO,ek] at hrel
   exact hend l' hI (by rw [hrel,hr])

theorem we:∀ (t:T) (S:ae) (cs:List Value) (v:Value) (l:List Int),RdT S cs t->l.length+ew t<=1000000000->Tri Tryz.prog Pr [.agg cs.toArray,v] [dz v l] S (PT S (fO t l)):=by
 refine T.ind fun k n s ks ih S cs v l h hl=>?_
 intro w hI
 obtain ⟨kv,rfl,_,_,hs,hks⟩:=RdT.iff.1 h
 simp only [T.name,T.kids,T.kind,T.n] at hs hks ⊢
 have hlen:=hks.le
 simp only [maxLen] at hlen
 rw [show ew (T.mk k n s ks)=1+cV ks from rfl] at hl
 have hcp:=eL ks
 have hal:=MZ l n
 refine Ak.2 ?_
 dsimp only[Ak,aY]
 refine bq hI fun b2 w' hI=>?_
 have hI:=hI.perm (M:=[.blk b2 (.cells #[.int .i64 k,.int .i64 n,.string s,kv] ab),dz v l]) (List.Perm.swap _ _ _)
 refine ⟨fun t w'=>Inv w (bE [dz v l]) [.blk b2 (.cells #[.int .i64 k,.int .i64 n,.string s,kv] ab),dz t (if k=1 then ly l n else l)] S w',?_,?_⟩
 ·refine ⟨fun t w'=>t=.bool (decide (k=1) && !jL l n)/\Inv w (bE [dz v l]) [.blk b2 (.cells #[.int .i64 k,.int .i64 n,.string s,kv] ab),dz v l] S w',?_,?_⟩
  ·refine af hI 0 rfl aR aG rfl ?_
   refine bl ?_
   cases h1:decide (k=1)
   ·refine rpG ?_
    exact ⟨rfl,hI⟩
   ·refine rpG ?_
    refine af hI 0 rfl bf aG rfl ?_
    obtain ⟨S1,hle,hrd,hI,hback⟩:=Inv.lend (A:=[_]) hI
    refine Run.callPure nt nS hI (mP n hrd.ints) fun w' hI=>?_
    refine bQ ?_
    refine rpG ?_
    exact ⟨rfl,hback _ _ hI⟩
  intro t16 _ _ _ _ _ _ _ _ _ w'
  rintro ⟨rfl,hI⟩
  refine aw (fun hb=>?_) (fun hb=>?_)
  ·simp only [bu,bk,jj] at hb
   refine af hI 0 rfl bf aG rfl ?_
   refine er hI kF rfl (by omega) (by omega) fun b w' hI=>?_
   refine dZ hI 1 (k:=1) [.int .i64 n] kF (by omega) rfl rfl ?_ ?_ (by omega) (by omega) fun v' w' hI=>?_
   ·intro j u hj
    rw [hI.cellL (i:=2) rfl]
    match j with
    | 0=>simpa [Value.cells] using hj
    | j+1=>simp at hj
   ·simp [Value.oneCell']
   ·rw [u5] at hI
    have hI:=hI.pick [true,true,false]
    rw [ai hb.1,ly,ah (by rw [hb.2]; decide)]
    have e:Item.row v' bV 1 (l.length+1) (ints (l++[n]))=dz v' (l++[n]):=by simp [dz]
    rw [show List.length l+1=l.length+1 from rfl,e] at hI
    exact hI
  ·have:(if k=1 then ly l n else l)=l:=by
    split
    ·rename_i hk
     rw [ly]
     simp [hk] at hb
     rw [ai hb]
    ·rfl
   rw [this]
   exact hI
 intro t1 _ _ _ _ _ _ _ _ _ _ _ _ _ _ _ w' hI
 have hl1:((if k=1 then ly l n else l).length:Int)+cV ks<=1000000000:=by split <;> omega
 rw [show fO (.mk k n s ks) l=cN ks (if k=1 then ly l n else l) from by rw [fO]]
 generalize (if k=1 then ly l n else l)=l1 at hI hl1 ⊢
 refine af hI 0 rfl ao aj rfl ?_
 refine aF hks ag ?_
 refine ⟨fun i t w'=>∃ (j:Nat) (l':List Int),j<=ks.length/\i=.int .i64 j/\cN (ks.drop j) l'=cN ks l1/\l'.length+cV (ks.drop j)<=1000000000/\Inv w (bE [dz v l]) [.blk b2 (.cells #[.int .i64 k,.int .i64 n,.string s,kv] ab),dz t l'] S w',
  fun i _ _=>ks.length - (intOf i).toNat,⟨0,l1,be _,rfl,rfl,by rw [Lb]; omega,hI⟩,?_⟩
 intro t25 _ t1 _ _ _ _ _ _ _ w'
 rintro ⟨j,l',hj,rfl,hrel,hl',hI⟩
 refine bH ?_
 refine aL (fun hji=>?_) (fun hji=>?_)
 ·have hj':j<ks.length:=by omega
  rw [nh ks j hj'] at hl'
  rw [cU hj',cN] at hrel
  have hc1:=eL (ks.drop (j+1))
  have hc2:=Hr ks[j] l'
  refine cL hI hks ag ad hj' (fun _ _=>RdT.length) fun cs' hcs'=>?_
  have hlc:=hcs'.length
  refine aT hI aZ fun b6 w' hI=>?_
  refine aC hI 2 rfl ad (by simpa using hlc) rfl (by simpa using hcs'.one) fun w' hI=>?_
  refine av hI 2 ad rfl (by simpa using hlc) ?_
  have hI:=hI.pick [true,true,false]
  refine Run.call (A:=[_]) qL qO hI (ih _ (bz hj') S cs' t1 l' hcs' (by omega)) fun v' I' S' w'=>?_
  rintro ⟨rfl,rfl⟩ _ hI
  refine bp (by omega) ?_
  exact ⟨⟨j+1,_,hj',rfl,hrel,by omega,hI⟩,by simp [intOf]; omega⟩
 ·have:j=ks.length:=by omega
  subst this
  rw [dO,cN] at hrel
  subst hrel
  exact ⟨_,_,_,rfl,hI.pick [false,true],Ext.refl _ _ _,rfl,rfl⟩
theorem lO {ts:List T} {S:ae} {v:Value} (h:RdSl S 4 (RdT S) v ts) (hl:cV ts<=1000000000):Tri Tryz.prog Tg [v] [] S (PT S (cN ts [])):=by
 intro w hI
 have hlen:=h.le
 simp only [maxLen] at hlen
 refine CV.2 ?_
 dsimp only[CV,aM]
 refine aF h ag ?_
 refine ⟨fun i t w'=>∃ (j:Nat) (l':List Int),j<=ts.length/\i=.int .i64 j/\cN (ts.drop j) l'=cN ts []/\l'.length+cV (ts.drop j)<=1000000000/\Inv w [] [dz t l'] S w',
  fun i _ _=>ts.length - (intOf i).toNat,⟨0,[],be _,rfl,rfl,by simpa using hl,hI.rowNil bV 1⟩,?_⟩
 intro t8 _ t3 _ _ _ _ _ _ _ w'
 rintro ⟨j,l',hj,rfl,hrel,hl',hI⟩
 refine bH ?_
 refine aL (fun hji=>?_) (fun hji=>?_)
 ·have hj':j<ts.length:=by omega
  rw [nh ts j hj'] at hl'
  rw [cU hj',cN] at hrel
  have hc1:=eL (ts.drop (j+1))
  have hc2:=Hr ts[j] l'
  refine cL hI h ag ad hj' (fun _ _=>RdT.length) fun cs' hcs'=>?_
  have hlc:=hcs'.length
  refine aT hI aZ fun b6 w' hI=>?_
  refine aC hI 1 rfl ad (by simpa using hlc) rfl (by simpa using hcs'.one) fun w' hI=>?_
  refine av hI 1 ad rfl (by simpa using hlc) ?_
  have hI:=hI.pick [true,false]
  refine Run.call (A:=[]) qL qO hI (we _ S cs' t3 l' hcs' (by omega)) fun v' I' S' w'=>?_
  rintro ⟨rfl,rfl⟩ _ hI
  refine bp (by omega) ?_
  exact ⟨⟨j+1,_,hj',rfl,hrel,by omega,hI⟩,by simp [intOf]; omega⟩
 ·have:j=ts.length:=by omega
  subst this
  rw [dO,cN] at hrel
  subst hrel
  exact ⟨_,_,_,rfl,hI,Ext.refl _ _ _,rfl,rfl⟩
end
section
open Go Go.RowKit
attribute [local irreducible] Run CondV az aO

section
variable {P:Program} {w w0:World} {X:List Nat} {L:List Item} {S:ae} {K:Value->Value->Value->World->Prop}
theorem Yl {α:Type} {T Tf U ty ty' ty'' E:TypeId} {k f d:Nat} {R:List Value->α->Prop} {v:Value} {xs:List α} (hI:Inv w0 X L S w) (h:RdSl S k R v xs) (hu:cG P T=some (E,k)) (hf:bG P Tf f=some d) (hU:jI P U=true)
  {i:Nat} (hi:i<xs.length) (hk:∀ cs,R cs xs[i]->∃ u,cs[d]?=some u/\K (elP v (i * k)) (elQ v (i * k) d) u w) :
  Run P (sOp (.indexAddr T (.const v) (.const (.int .i64 i))) ty) w fun p w'=>Run P (sOp (.fieldAddr Tf (.const p) f) ty') w' fun q w''=>Run P (sOp (.load U (.const q)) ty'') w'' (K p q):=by
 obtain ⟨b,o,cap,c,E',fz,rfl,hS,hR⟩:=h.at_ hi
 obtain ⟨u,hu',hK⟩:=hk _ hR
 refine aE hu hi ?_
 refine au hf ?_
 refine ct hU ?_ hK
 rw [hI.cellS hS]
 exact aH rfl d u hu'
end
def kj (u:T):Bool:=decide (u.kids.length=0)
def eE (t:T):Bool:=t.kids.all kj && cD t
def gQ (c:C):Bool:=eE c.head && (decide (c.body.length<=3) && (c.body.all eE && (fO c.head []).all fun n=>jL (cN c.body []) n))
def fi (p:List C):Bool:=de p && p.all gQ

theorem wm {t:T} {S:ae} {cs:List Value} (h:RdT S cs t):Pure Tryz.prog Ol [.agg cs.toArray] S (.bool (eE t)):=by
 intro w hI
 have h0:=h
 obtain ⟨kv,rfl,_,_,hs,hks⟩:=RdT.iff.1 h
 obtain ⟨k,n,s,ks⟩:=t
 simp only [T.name,T.kids,T.kind,T.n] at h0 hs hks ⊢
 have hlen:=hks.le
 simp only [maxLen] at hlen
 have hf:eE (.mk k n s ks)=(ks.all kj && cD (.mk k n s ks)):=rfl
 refine zU.2 ?_
 dsimp only[zU,aM]
 refine bq hI fun b1 w' hI=>?_
 refine ⟨fun i w'=>∃ j:Nat,j<=ks.length/\i=.int .i64 j/\(ks.drop j).all kj=ks.all kj/\Inv w [] [.blk b1 (.cells #[.int .i64 k,.int .i64 n,.string s,kv] ab)] S w',
  fun i _=>ks.length - (intOf i).toNat,⟨0,be _,rfl,rfl,hI⟩,?_⟩
 intro t3 _ _ _ _ _ _ _ _ _ _ _ _ _ _ _ _ w'
 rintro ⟨j,hj,rfl,hrel,hI⟩
 refine af hI 0 rfl ao aj rfl ?_
 refine aF hks ag ?_
 refine bH ?_
 refine aL (fun hji=>?_) (fun hji=>?_)
 ·have hj':j<ks.length:=by omega
  have hstep:=pU kj ks j hj'
  refine af hI 0 rfl ao aj rfl ?_
  refine Yl hI hks ag ao aj hj' fun cs' hcs'=>?_
  obtain ⟨kv',rfl,_,_,_,hkk⟩:=RdT.iff.1 hcs'
  refine ⟨kv',rfl,?_⟩
  refine aF hkk ag ?_
  refine dA ?_
  refine aL (fun hb=>done hI ?_) (fun hb=>?_)
  ·have:kj ks[j]=false:=aP (by omega)
   rw [hf,<- hrel,hstep,this]; rfl
  ·have:kj ks[j]=true:=aI (by omega)
   refine bp (by omega) ?_
   exact ⟨⟨j+1,hj',rfl,by rw [<- hrel,hstep,this]; rfl,hI⟩,by simp [intOf]; omega⟩
 ·have:j=ks.length:=by omega
  subst this
  refine av hI 0 ad rfl rfl ?_
  refine Run.callPure qP re hI (oY h0) fun w' hI=>done hI ?_
  rw [hf,<- hrel,dO]; rfl
theorem Hb {t:T} {S:ae} {cs:List Value} (h:RdT S cs t):Pure Tryz.prog zm [.agg cs.toArray] S (.bool (!kj t)):=by
 intro w hI
 obtain ⟨kv,rfl,_,_,hs,hks⟩:=RdT.iff.1 h
 obtain ⟨k,n,s,ks⟩:=t
 simp only [T.name,T.kids,T.kind,T.n] at hs hks ⊢
 refine wE.2 ?_
 dsimp only[wE,aM]
 refine bq hI fun b1 w' hI=>?_
 refine af hI 0 rfl ao aj rfl ?_
 refine aF hks ag ?_
 refine dA (done hI ?_)
 congr 1
 show decide (0<(ks.length:Int))=!decide (ks.length=0)
 by_cases h:ks.length=0
 ·rw [aI h,aP (by omega)]; rfl
 ·rw [aP h,aI (by omega)]; rfl
theorem y7 {t:T} {S:ae} {cs:List Value} (h:RdT S cs t):Pure Tryz.prog Sz [.agg cs.toArray] S (.bool (eE t)):=by
 intro w hI
 have h0:=h
 obtain ⟨kv,rfl,_,_,hs,hks⟩:=RdT.iff.1 h
 obtain ⟨k,n,s,ks⟩:=t
 simp only [T.name,T.kids,T.kind,T.n] at h0 hs hks ⊢
 rw [show eE (.mk k n s ks)=(ks.all kj && cD (.mk k n s ks)) from rfl]
 refine Dv.2 ?_
 dsimp only[Dv,aM]
 refine bq hI fun b1 w' hI=>?_
 refine av hI 0 ad rfl rfl ?_
 refine Run.callPure qy ra hI (oT h0) fun w' hI=>?_
 cases h1:cD (.mk k n s ks)
 ·refine rpG ?_
  exact done hI (by simp)
 ·refine rpG ?_
  refine af hI 0 rfl ao aj rfl ?_
  have hcb:Cb Tryz.prog zm _ [] S (fun _:Unit=>[]) (fun _=>True) (fun _ x=>(!kj x,())) (fun v x=>∃ cs,v=.agg cs.toArray/\RdT S cs x) ks:=
   Cb.pure [] Jh Jj fun x v _=>by
    rintro ⟨cs,rfl,hcs⟩ w1 hI
    exact (Hb hcs w1 hI).mono fun e w' ⟨he,hI⟩=>⟨_,_,_,he,hI,Ext.refl _ _ _,rfl,rfl,rfl⟩
  refine Run.call0 d5 d4 hI (ft hcb hks (st:=()) trivial) fun v' I' S' w'=>?_
  rintro ⟨rfl,rfl,rfl⟩ _ hI
  refine bQ ?_
  refine rpG ?_
  refine done hI ?_
  rw [ip (fun x=>!kj x) ks,qH]; simp

theorem SX {t:T} (h:eq t=true):dV t 30=true:=by
 rw [eq,bu] at h
 exact jk h.1
theorem DY:∀ {ts:List T},ts.all eq=true->dJ ts 30=true
 | [],_=>rfl
 | t::ts,h=>by
  rw [TQ,bu] at h
  rw [dJ,SX h.1,DY h.2]; rfl
theorem Pz {c:C} (h:bK c=true) (l:List Int):gD c.head l=fO c.head l/\ek c.body l=cN c.body l:=by
 simp only [bK,bu] at h
 exact ⟨Oj _ 30 _ (jk h.2.2.1),FI _ 30 _ (DY h.2.1)⟩
theorem EB {c:C} {S:ae} {cs:List Value} (h:RdC S cs c) (hv:bK c=true) (hw:wC c<=1048576):Pure Tryz.prog Is [.agg cs.toArray] S (.bool (gQ c)):=by
 intro w hI
 obtain ⟨hd,ks,rfl,h1,h2⟩:=h
 have h1':=h1
 obtain ⟨kv,rfl,g1,g2,g3,g4⟩:=RdT.iff.1 h1
 have hlen:=h2.le
 simp only [maxLen] at hlen
 unfold wC at hw
 have hcl:=BZ c.body
 have hct:=L4 c.head
 have hsv:=fun l=>Pz hv l
 refine uq.2 ?_
 dsimp only[uq,aM]
 refine bq hI fun b1 w' hI=>?_
 refine ⟨fun t w'=>t=.bool (!(eE c.head && decide (c.body.length<=3)))/\Inv w [] [.blk b1 (.cells #[.int .i64 c.head.kind,.int .i64 c.head.n,.string c.head.name,kv,ks] aq)] S w',?_,?_⟩
 ·refine au cE ?_
  refine di hI 0 [.int .i64 c.head.kind,.int .i64 c.head.n,.string c.head.name,kv] ad rfl rfl ?_ ?_
  ·intro j v hj
   match j with
   | 0|1|2|3=>exact hj
   | j+4=>simp at hj
  refine Run.callPure yy yw hI (wm h1') fun w' hI=>?_
  refine bQ ?_
  cases hf:eE c.head
  ·refine rpG ?_
   exact ⟨rfl,hI⟩
  ·refine rpG ?_
   refine af hI 0 rfl bj aj rfl ?_
   refine aF h2 ag ?_
   refine dA ?_
   refine rpG ?_
   refine ⟨?_,hI⟩
   congr 1
   by_cases hl:c.body.length<=3
   ·rw [aI hl,aP (by omega)]; rfl
   ·rw [aP hl,aI (by omega)]; rfl
 intro t _ _ _ _ _ _ _ _ _ w'
 rintro ⟨rfl,hI⟩
 refine aw (fun hb=>done hI ?_) (fun hb=>?_)
 ·have hb':(eE c.head && decide (c.body.length<=3))=false:=by rw [jj] at hb; exact hb
  rw [gQ,<- Ec,hb']; rfl
 have hb':(eE c.head && decide (c.body.length<=3))=true:=by rw [rK] at hb; exact hb
 have hfc:gQ c=(c.body.all eE && (fO c.head []).all fun n=>jL (cN c.body []) n):=by
  rw [gQ,<- Ec,hb']; rfl
 refine fA hI kF fun v0 w' hI=>?_
 refine ⟨fun i t w'=>∃ (j:Nat) (l:List Int),j<=c.body.length/\i=.int .i64 j/\(c.body.drop j).all eE=c.body.all eE/\ek (c.body.drop j) l=ek c.body []/\l.length+cV (c.body.drop j)<=3000000/\
   Inv w [] [.blk b1 (.cells #[.int .i64 c.head.kind,.int .i64 c.head.n,.string c.head.name,kv,ks] aq),dz t l] S w',
  fun i _ _=>c.body.length - (intOf i).toNat,⟨0,[],be _,rfl,rfl,rfl,by simp only [Lb,bU]; omega,hI⟩,?_⟩
 intro t4 _ _ t3 _ _ _ _ _ _ _ _ _ _ _ _ _ _ _ _ _ _ _ _ w'
 rintro ⟨j,l,hj,rfl,hall,hvs,hl,hI⟩
 refine af hI 0 rfl bj aj rfl ?_
 refine aF h2 ag ?_
 refine bH ?_
 refine aL (fun hji=>?_) (fun hji=>?_)
 ·have hj':j<c.body.length:=by omega
  have hstep:=pU eE c.body j hj'
  rw [nh c.body j hj'] at hl
  rw [cU hj',ek] at hvs
  have hc1:=eL (c.body.drop (j+1))
  have hc2:=Bi c.body[j] l
  refine af hI 0 rfl bj aj rfl ?_
  refine cL hI h2 ag ad hj' (fun _ _=>RdT.length) fun cs' hcs'=>?_
  refine Run.callPure yy yw hI (wm hcs') fun w' hI=>?_
  refine bQ ?_
  refine aw (fun hne=>done hI ?_) (fun he=>?_)
  ·have hne':eE c.body[j]=false:=by simpa using hne
   rw [hfc,<- hall,hstep,hne']; rfl
  ·have he':eE c.body[j]=true:=by simpa using he
   refine af hI 0 rfl bj aj rfl ?_
   refine cL hI h2 ag ad hj' (fun _ _=>RdT.length) fun cs' hcs'=>?_
   refine Run.call (A:=[_]) uj uh hI (zL _ S cs' t3 l hcs' (by omega)) fun v' I' S' w'=>?_
   rintro ⟨rfl,rfl⟩ _ hI
   refine bp (by omega) ?_
   exact ⟨⟨j+1,_,hj',rfl,by rw [<- hall,hstep,he']; rfl,hvs,by omega,hI⟩,by simp [intOf]; omega⟩
 ·have:j=c.body.length:=by omega
  subst this
  rw [dO] at hall hvs
  have hvs':l=cN c.body []:=by rw [<- (hsv []).2,<- hvs,ek]
  have hfc2:gQ c=(fO c.head []).all fun n=>jL l n:=by
   rw [hfc,<- hall,<- hvs']; rfl
  refine au cE ?_
  refine di hI 0 [.int .i64 c.head.kind,.int .i64 c.head.n,.string c.head.name,kv] ad rfl rfl ?_ ?_
  ·intro j v hj
   match j with
   | 0|1|2|3=>exact hj
   | j+4=>simp at hj
  have hI:=hI.rowNil bV 1
  refine Run.call (A:=[_,_]) uj uh hI (zL _ S _ (.slice none 0 0) [] h1' (by simp only [bU]; omega)) fun v' I' S w'=>?_
  rintro ⟨rfl,rfl⟩ _ hI
  rw [(hsv []).1] at hI
  generalize fO c.head []=hv at hI hfc2
  obtain ⟨S1,hle1,hrd1,hI,hback1⟩:=Inv.lend (A:=[_,_]) hI
  obtain ⟨S2,hle2,hrd2,hI,hback2⟩:=Inv.lend (A:=[_]) hI
  have hr1:=hrd1.ints.mono hle2 fun _ _ h=>h
  have hr2:=hrd2.ints
  have hle:Sle S S2:=hle1.trans hle2
  have hlv:=hr1.le
  simp only [maxLen] at hlv
  refine ⟨fun i w'=>∃ j:Nat,j<=hv.length/\i=.int .i64 j/\(hv.drop j).all (fun n=>jL l n)=hv.all (fun n=>jL l n)/\Inv w [] [.blk b1 (.cells #[.int .i64 c.head.kind,.int .i64 c.head.n,.string c.head.name,kv,ks] aq)] S2 w',
   fun i _=>hv.length - (intOf i).toNat,⟨0,be _,rfl,rfl,hI⟩,?_⟩
  intro t6 _ _ _ _ _ _ _ _ _ _ _ _ _ _ w'
  rintro ⟨j,hj,rfl,hall,hI⟩
  refine aF hr1 dd ?_
  refine bH ?_
  refine aL (fun hji=>?_) (fun hji=>?_)
  ·have hj':j<hv.length:=by omega
   have hstep:=pU (fun n=>jL l n) hv j hj'
   refine i5 hI hr1 dd aG hj' (fun cs hcs=>hcs) ?_
   refine Run.callPure Rj R1 hI (OV hv[j] hr2) fun w' hI=>?_
   refine bQ ?_
   refine aw (fun hne=>fT hI hle ?_) (fun he=>?_)
   ·have hne':jL l hv[j]=false:=by simpa using hne
    rw [hfc2,<- hall,hstep,hne']; rfl
   ·have he':jL l hv[j]=true:=by simpa using he
    refine bp (by omega) ?_
    exact ⟨⟨j+1,hj',rfl,by rw [<- hall,hstep,he']; rfl,hI⟩,by simp [intOf]; omega⟩
  ·have:j=hv.length:=by omega
   subst this
   refine fT hI hle ?_
   rw [hfc2,<- hall,dO]; rfl

theorem xI {t:T} {S:ae} {cs:List Value} (h:RdT S cs t):Pure Tryz.prog qq [.agg cs.toArray] S (.bool (!eE t)):=by
 intro w hI
 have hl:=h.length
 refine n5.2 ?_
 dsimp only[n5,aM]
 refine bq hI fun b1 w' hI=>?_
 refine av hI 0 ad rfl (by simpa [Value.cells] using hl) ?_
 refine Run.callPure CH CR hI (y7 h) fun w' hI=>?_
 exact bQ (done hI rfl)
theorem A4 {c:C} {S:ae} {cs:List Value} (h:RdC S cs c) (hw:wC c<=1048576):Pure Tryz.prog Gn [.agg cs.toArray] S (.bool (gQ c)):=by
 intro w hI
 obtain ⟨hd,ks,rfl,h1,h2⟩:=h
 have h1':=h1
 obtain ⟨kv,rfl,g1,g2,g3,g4⟩:=RdT.iff.1 h1
 have hlen:=h2.le
 simp only [maxLen] at hlen
 unfold wC at hw
 have hcl:=BZ c.body
 have hct:=L4 c.head
 refine rI.2 ?_
 dsimp only[rI,aM]
 refine bq hI fun b1 w' hI=>?_
 have hcb:Cb Tryz.prog qq _ [] S (fun _:Unit=>[]) (fun _=>True) (fun _ x=>(!eE x,())) (fun v x=>∃ cs,v=.agg cs.toArray/\RdT S cs x) c.body:=
  Cb.pure [] z5 Ax fun x v _=>by
   rintro ⟨cs,rfl,hcs⟩ w1 hI
   exact (xI hcs w1 hI).mono fun e w' ⟨he,hI⟩=>⟨_,_,_,he,hI,Ext.refl _ _ _,rfl,rfl,rfl⟩
 refine ⟨fun t w'=>t=.bool (!(eE c.head && (decide (c.body.length<=3) && c.body.all eE)))/\Inv w [] [.blk b1 (.cells #[.int .i64 c.head.kind,.int .i64 c.head.n,.string c.head.name,kv,ks] aq)] S w',?_,?_⟩
 ·refine au cE ?_
  refine di hI 0 [.int .i64 c.head.kind,.int .i64 c.head.n,.string c.head.name,kv] ad rfl rfl ?_ ?_
  ·intro j v hj
   match j with
   | 0|1|2|3=>exact hj
   | j+4=>simp at hj
  refine Run.callPure CH CR hI (y7 h1') fun w' hI=>?_
  refine bQ ?_
  cases hf:eE c.head
  ·refine rpG ?_
   exact ⟨rfl,hI⟩
  ·refine rpG ?_
   refine af hI 0 rfl bj aj rfl ?_
   refine aF h2 ag ?_
   refine dA ?_
   by_cases hl:c.body.length<=3
   ·rw [aI hl,aP (show ¬ (3:Int)<c.body.length by omega)]
    refine rpG ?_
    refine af hI 0 rfl bj aj rfl ?_
    refine Run.call0 d5 d4 hI (ft hcb h2 (st:=()) trivial) fun v' I' S' w'=>?_
    rintro ⟨rfl,rfl,rfl⟩ _ hI
    refine rpG ?_
    refine ⟨?_,by rw [dh] at hI; exact hI⟩
    rw [ip (fun x=>!eE x) c.body,<- qH]; simp
   ·rw [aP hl,aI (show (3:Int)<c.body.length by omega)]
    refine rpG ?_
    exact ⟨rfl,hI⟩
 intro t _ _ _ _ _ _ _ _ _ _ _ _ _ _ w'
 rintro ⟨rfl,hI⟩
 refine aw (fun hb=>done hI ?_) (fun hb=>?_)
 ·have hb':(eE c.head && (decide (c.body.length<=3) && c.body.all eE))=false:=by rw [jj] at hb; exact hb
  rw [gQ]
  rw [<- Ec,<- Ec,Ec (eE c.head),hb']; rfl
 have hb':(eE c.head && (decide (c.body.length<=3) && c.body.all eE))=true:=by rw [rK] at hb; exact hb
 have hfc:gQ c=(fO c.head []).all fun n=>jL (cN c.body []) n:=by
  rw [gQ]
  rw [<- Ec,<- Ec,Ec (eE c.head),hb']; rfl
 refine af hI 0 rfl bj aj rfl ?_
 refine Run.call0 n8 oE hI (lO h2 (by omega)) fun v1 I' S w'=>?_
 rintro ⟨rfl,rfl⟩ _ hI
 generalize cN c.body []=l at hI hfc
 refine aT hI TB fun b3 w' hI=>?_
 have hv1:v1.cells=#[v1]/\v1.oneCell'=true:=by
  have:=hI.its (dz v1 l) (by simp)
  rcases this.2 with ⟨rfl,_⟩|⟨g,cap,cur,rfl,_⟩ <;> exact ⟨rfl,rfl⟩
 refine cW hI 2 (n:=1) (by rw [hv1.1]; rfl) (by rw [il]; rfl) rfl (jw rfl) (by rw [hv1.1]; simpa using hv1.2) fun w' hI=>?_
 refine au cE ?_
 refine di hI 0 [.int .i64 c.head.kind,.int .i64 c.head.n,.string c.head.name,kv] ad rfl rfl ?_ ?_
 ·intro j v hj
  match j with
  | 0|1|2|3=>exact hj
  | j+4=>simp at hj
 have hI:=hI.rowNil bV 1
 refine Run.call (A:=[_,_,_]) qL qO hI (we _ S _ (.slice none 0 0) [] h1' (by simp only [bU]; omega)) fun v' I' S w'=>?_
 rintro ⟨rfl,rfl⟩ _ hI
 generalize fO c.head []=hv at hI hfc
 refine ia ?_
 have hst:bn (Value.slice none 0 0).cells 0 v1.cells.toList=#[v1]:=by
  rw [hv1.1]; rfl
 have hI:Inv w [] ([.blk b1 (.cells #[.int .i64 c.head.kind,.int .i64 c.head.n,.string c.head.name,kv,ks] aq),dz v1 l,.blk b3 (.cells #[v1] kw),dz v' hv]) S w':=by
  have:=hI
  simp only [iR,rg] at this
  rw [hst] at this
  exact this
 obtain ⟨S1,hle1,hrd1,hI,hback1⟩:=Inv.lend (A:=[_,_,_]) hI
 have hI:=hI.perm (M:=[.blk b1 (.cells #[.int .i64 c.head.kind,.int .i64 c.head.n,.string c.head.name,kv,ks] aq),.blk b3 (.cells #[v1] kw),dz v1 l]) (List.Perm.cons _ (List.Perm.swap _ _ _))
 obtain ⟨S2,hle2,hrd2,hI,hback2⟩:=Inv.lend (A:=[_,_]) hI
 have hr1:=hrd1.ints.mono hle2 fun _ _ h=>h
 have hr2:=hrd2.ints
 have hle:Sle S S2:=hle1.trans hle2
 have hcb2:Cb Tryz.prog Bv _ [.pointer (some ⟨b3,0,none⟩)] S2 (fun _:Unit=>[.blk b3 (.cells #[v1] kw)]) (fun _=>True) (fun _ x=>(!jL l x,())) (fun v x=>v=.int .i64 x) hv:=
  Cb.pure [.blk b3 (.cells #[v1] kw)] yY zv fun x v _=>by
   rintro rfl w1 hI
   refine ox.2 ?_
   dsimp only[ox,aY]
   refine aN hI 0 il rfl rfl ?_
   refine Run.callPure nt nS hI (mP x hr2) fun w' hI=>?_
   refine bQ ?_
   exact ⟨_,_,_,rfl,hI,Ext.refl _ _ _,rfl,rfl,rfl⟩
 refine Run.call (A:=[_]) sq sm hI (vr hcb2 hr1 (st:=()) trivial) fun v' I' S' w'=>?_
 rintro ⟨rfl,rfl,rfl⟩ _ hI
 refine bQ ?_
 refine fT hI hle ?_
 rw [ip (fun x=>!jL l x) hv,qH,hfc]

theorem xm {p:List C} {S:ae} {v:Value} (h:RdSl S 5 (RdC S) v p) (hw:wP p<=1048576):Pure Tryz.prog EV [v] S (.bool (fi p)):=by
 intro w hI
 have hlen:=h.le
 simp only [maxLen] at hlen
 refine qh.2 ?_
 dsimp only[qh,aM]
 refine ⟨fun i w'=>∃ j:Nat,j<=p.length/\i=.int .i64 j/\(p.drop j).all gQ=p.all gQ/\Inv w [] [] S w',fun i _=>p.length - (intOf i).toNat,⟨0,be _,rfl,rfl,hI⟩,?_⟩
 intro t3 _ _ _ _ _ _ _ _ _ _ _ _ _ _ _ _ _ w'
 rintro ⟨j,hj,rfl,hall,hI⟩
 refine ⟨fun t w'=>t=.bool (decide (j<p.length) && de p)/\Inv w [] [] S w',?_,?_⟩
 ·refine aF h b0 ?_
  refine bH ?_
  by_cases hji:j<p.length
  ·rw [aI (show (j:Int)<p.length by omega),aI hji]
   refine rpG ?_
   refine Run.callPure oo nD hI (kJ h hw) fun w' hI=>?_
   refine rpG ?_
   exact ⟨rfl,hI⟩
  ·rw [aP (show ¬ (j:Int)<p.length by omega),aP hji]
   refine rpG ?_
   exact ⟨rfl,hI⟩
 intro t _ _ _ _ _ _ _ w'
 rintro ⟨rfl,hI⟩
 refine aw (fun hb=>?_) (fun hb=>?_)
 ·simp only [bu,bk] at hb
  obtain ⟨hj',hpv⟩:=hb
  have hstep:=pU gQ p j hj'
  have hwm:=Nm (bz hj')
  have hcv:bK p[j]=true:=by
   simp only [de,bu,dE] at hpv
   exact hpv.2 _ (bz hj')
  refine cL hI h b0 bx hj' (fun _ _=>RdC.length) fun cs' hcs'=>?_
  refine Run.callPure FX FN hI (EB hcs' hcv (by omega)) fun w' hI=>?_
  refine bQ ?_
  refine aw (fun hne=>done hI ?_) (fun he=>?_)
  ·have hne':gQ p[j]=false:=by simpa using hne
   rw [fi,<- hall,hstep,hne']; simp
  ·have he':gQ p[j]=true:=by simpa using he
   refine bp (by omega) ?_
   exact ⟨⟨j+1,hj',rfl,by rw [<- hall,hstep,he']; rfl,hI⟩,by simp [intOf]; omega⟩
 ·refine Run.callPure oo nD hI (kJ h hw) fun w' hI=>done hI ?_
  rw [fi]
  by_cases hji:j<p.length
  ·rw [aI hji,dg] at hb
   rw [hb]; rfl
  ·rw [<- hall,List.drop_of_length_le (by omega)]; simp
theorem uv {c:C} {S:ae} {cs:List Value} (h:RdC S cs c) (hw:wC c<=1048576):Pure Tryz.prog nT [.agg cs.toArray] S (.bool (!gQ c)):=by
 intro w hI
 have hl:=h.length
 refine mV.2 ?_
 dsimp only[mV,aM]
 refine bq hI fun b1 w' hI=>?_
 refine av hI 0 bx rfl (by simpa [Value.cells] using hl) ?_
 refine Run.callPure Ew Eu hI (A4 h hw) fun w' hI=>?_
 exact bQ (done hI rfl)
theorem xe {p:List C} {S:ae} {v:Value} (h:RdSl S 5 (RdC S) v p) (hw:wP p<=1048576):Pure Tryz.prog Et [v] S (.bool (fi p)):=by
 intro w hI
 refine p5.2 ?_
 dsimp only[p5,aM]
 refine Run.callPure gK gM hI (fP h) fun w' hI=>?_
 rw [fi]
 cases hv:de p
 ·refine rpG ?_
  exact done hI rfl
 ·refine rpG ?_
  have hcb:Cb Tryz.prog nT _ [] S (fun _:Unit=>[]) (fun _=>True) (fun _ x=>(!gQ x,())) (fun v x=>∃ cs,v=.agg cs.toArray/\RdC S cs x) p:=
   Cb.pure [] xF xC fun x v hx=>by
    rintro ⟨cs,rfl,hcs⟩ w1 hI
    have hwm:=Nm hx
    exact (uv hcs (by omega) w1 hI).mono fun e w' ⟨he,hI⟩=>⟨_,_,_,he,hI,Ext.refl _ _ _,rfl,rfl,rfl⟩
  refine Run.call0 iJ iQ hI (jB hcb h (st:=()) trivial) fun v' I' S' w'=>?_
  rintro ⟨rfl,rfl,rfl⟩ _ hI
  refine bQ ?_
  refine rpG ?_
  refine done hI ?_
  rw [ip (fun x=>!gQ x) p,qH]; rfl
end
section
open Go Go.ChangeShapes Go.WideShapes Go.ChangeAt Go.RowKit

def T3 (W:World):ae:=fun b=>W.heap[b]?
section
variable {H:Type} {enc:TypeId × Value->H} {P:Program} {W:World} {sp:Nat->Bool} {held:Bool}
theorem UQ {a:Addr} {v:Value} (h:W.cell? a=some v):∃ b o c E fz,a=⟨b,o,none⟩/\W.heap[b]?=some (.cells c E fz)/\c[o]?=some v:=by
 obtain ⟨b,o,s⟩:=a
 simp only [World.cell?] at h
 split at h
 ·rename_i c E fz hb
  cases s with
  | none=>exact ⟨b,o,c,E,fz,rfl,hb,by simpa using h⟩
  | some s=>simp at h
 ·cases h
theorem WV {b o k:Nat} {cs:List Value} {c:Array Value} {E:TypeId} {fz:Nat × Nat} (hb:W.heap[b]?=some (.cells c E fz)) (h:W.cells? 0 ⟨b,o,none⟩ k=some cs):aX c o k=cs:=by
 unfold World.cells? at h
 rw [ai (be _)] at h
 have hl:cs.length=k:=by simpa using mapM_some_length h
 apply wD
 intro i
 rw [aX,r4]
 by_cases hi:i<k
 ·rw [ai hi,AD]
  have:=mapM_some_get h i i (by simp [hi])
  rw [<- this,gn]
  simp [World.cell?,hb]
 ·rw [ah hi,Uh (by omega)]
theorem CE {α:Type} (p:Nat->α->Prop):∀ n:Nat,(∀ i,i<n->∃ t,p i t)->∃ xs:List α,xs.length=n/\∀ i (h:i<xs.length),p i xs[i]
 | 0,_=>⟨[],rfl,fun i h=>by simp at h⟩
 | n+1,h=>by
  obtain ⟨xs,hl,hx⟩:=CE p n fun i hi=>h i (by omega)
  obtain ⟨t,ht⟩:=h n (by omega)
  refine ⟨xs++[t],by simp [hl],fun i hi=>?_⟩
  by_cases e:i<xs.length
  ·rw [gJ e]
   exact hx i e
  ·have:i=xs.length:=by simp at hi; omega
   subst this
   simp only [gd (aW _),eB,lG]
   rw [hl]
   exact ht
theorem tV {T e:TypeId} {k:Nat} (h:cG P T=some (e,k)):P.underlying T=some (.slice e)/\P.cellsOf e=k:=by
 unfold cG at h
 split at h
 ·rename_i e' he
  rw [QL] at h
  obtain ⟨i,hi,hx⟩:=h
  simp only [cT] at hx
  obtain ⟨rfl,rfl⟩:=hx
  exact ⟨he,by simp [Program.cellsOf,hi]⟩
 ·cases h
theorem Yq {α:Type} {R:List Value->α->Prop} {T e:TypeId} {k fuel:Nat} {v:Value} {x:DataW H × List MemPlace} (hu:cG P T=some (e,k)) (hk0:0<k)
  (h:DataW.trod enc P W 0 sp held fuel T [v]=some x) (hel:∀ n cs y,fuel=n+1->DataW.trod enc P W 0 sp held n e cs=some y->∃ t:α,R cs t):∃ xs,RdSl (T3 W) k R v xs:=by
 obtain ⟨hu1,hk⟩:=tV hu
 rcases DataW.trod_slice hu1 h with ⟨hcs,_⟩|⟨a,len,cap,elems,rest,n,hf,hcs,_,_,hl,hc,hlen,hE,_⟩
 ·simp only [lE,mC] at hcs
  subst hcs
  exact ⟨[],none,0,rfl,aW _,be _,.inl rfl⟩
 ·simp only [lE,mC] at hcs
  subst hcs
  have hE':∀ i,i<len->∃ t:α,∃ cs,W.cells? 0 (a.add (i * k)) k=some cs/\R cs t:=by
   intro i hi
   have:=hE i hi
   rw [hk,gL (by omega),Option.bind_eq_some_iff] at this
   obtain ⟨cs,h1,h2⟩:=this
   obtain ⟨t,ht⟩:=hel n cs _ hf h2
   exact ⟨t,cs,h1,ht⟩
  obtain ⟨xs,hxl,hxs⟩:=CE _ len hE'
  subst hxl
  refine ⟨xs,some a,cap,rfl,hl,hc,?_⟩
  by_cases h0:xs.length=0
  ·exact .inl (gO h0)
  ·obtain ⟨cs0,h1,_⟩:=hxs 0 (by omega)
   have e0:a.add (0 * k)=a:=by rw [Cf]; simp [Addr.add]
   rw [e0] at h1
   have hc0:∃ u,W.cell? a=some u:=by
    unfold World.cells? at h1
    rw [ai (be _)] at h1
    have hl0:cs0.length=k:=by simpa using mapM_some_length h1
    have:=mapM_some_get h1 0 0 (by simp [hk0])
    rw [gL (by omega)] at this
    have e1:a.add 0=a:=by simp [Addr.add]
    rw [e1] at this
    exact ⟨_,this⟩
   obtain ⟨u,hu0⟩:=hc0
   obtain ⟨b,o,c,E,fz,rfl,hb,_⟩:=UQ hu0
   refine .inr ⟨b,o,c,E,fz,rfl,hb,fun i hi=>?_⟩
   obtain ⟨cs,h2,hR⟩:=hxs i hi
   rw [gn] at h2
   rw [WV hb h2]
   exact hR
end

section
variable {H:Type} {enc:TypeId × Value->H} {W:World} {sp:Nat->Bool} {held:Bool}
theorem four {cs:List Value} (h:cs.length=4):∃ a b c d,cs=[a,b,c,d]:=by
 match cs,h with
 | [a,b,c,d],_=>exact ⟨a,b,c,d,rfl⟩
end

theorem Inv.entry (W:World):Inv W [] [] (T3 W) W:=Inv.start (L:=[]) (by simp) (by simp [bE]) fun b o hb=>⟨hb,by simp [bE]⟩
theorem Inv.same {W W':World} {L:List Item} {S:ae} (h:Inv W [] L S W') (b:Nat) (hb:b<W.heap.size):W'.heap[b]?=W.heap[b]?:=h.old b hb (by simp)
theorem Vz {W W':World} {may:MemPlace->Prop} (ho:W'.os=W.os) (hp:W'.output=W.output) (h:∀ b,b<W.heap.size->W'.heap[b]?=W.heap[b]?):W.keptBut W' may:=by
 refine ⟨ho,hp,fun i hi=>?_⟩
 rw [h i hi]
 split
 ·rename_i e1 e2
  rw [e1] at e2
  simp only [bg,Obj.cells.injEq] at e2
  obtain ⟨rfl,rfl,rfl⟩:=e2
  exact ⟨rfl,rfl,rfl,fun _ _=>rfl⟩
 ·rename_i e1 e2
  rw [e1] at e2
  simp only [bg,Obj.map.injEq] at e2
  obtain ⟨rfl,rfl⟩:=e2
  exact .inr ⟨rfl,rfl⟩
 ·rfl
end
section
open Go Go.RowKit
attribute [local irreducible] Run CondV az aO
end
section
open Go Go.RowKit
attribute [local irreducible] Run CondV az aO

mutual
def eqT:T->T->Bool
 | .mk k n s ks,.mk k' n' s' ks'=>decide (k=k') && (decide (n=n') && (decide (s=s') && eqL ks ks'))
def eqL:List T->List T->Bool
 | [],[]=>true
 | t::ts,u::us=>eqT t u && eqL ts us
 | _,_=>false
end
mutual
theorem lU:∀ a b:T,eqT a b=true↔a=b
 | .mk k n s ks,.mk k' n' s' ks'=>by
  simp only [eqT,bu,bk,Mc ks ks',T.mk.injEq]
theorem Mc:∀ a b:List T,eqL a b=true↔a=b
 | [],[]=>by simp [eqL]
 | [],_::_=>by simp [eqL]
 | _::_,[]=>by simp [eqL]
 | t::ts,u::us=>by
  simp only [eqL,bu,lU t u,Mc ts us,lE]
end
theorem TV:∀ {a b:List T},a.length≠b.length->eqL a b=false:=by
 intro a b h
 rw [<- Tq,Mc]
 rintro rfl
 exact h rfl
theorem SK {a b c d e:Value}:∀ (j:Nat) (v:Value),([a,b,c,d]:List Value)[j]?=some v->(#[a,b,c,d,e]:Array Value)[0+j]?=some v
 | 0,_,h|1,_,h|2,_,h|3,_,h=>h
 | j+4,_,h=>by simp at h
end
section
open Go Go.RowKit
attribute [local irreducible] Run CondV az aO
end
section
open Go Go.RowKit
section
variable {P:Program} {w w0:World} {X:List Nat} {L:List Item} {S:ae} {K:Value->World->Prop}
attribute [local irreducible] Run CondV az aO
theorem VW {T:TypeId} {cx cy:Bool} {a b:Int} (hb:b≠0) (hk:K (.int .i64 (a.tmod b)) w):Run P (cK .rem T cx cy (.int .i64 a) (.int .i64 b)) w K:=
 Run.of (by simp [cK,db,binOp,Op.intDiv,hb]) hk
theorem abJ {T:TypeId} {cx cy:Bool} {a b:Int} (hb:b≠0) (hr:-9223372036854775808<=a.tdiv b/\a.tdiv b<=9223372036854775807) (hk:K (.int .i64 (a.tdiv b)) w):Run P (cK .quo T cx cy (.int .i64 a) (.int .i64 b)) w K:=
 Run.of (by simp [cK,db,binOp,Op.intDiv,hb,IntWalk.i64_in _ hr]) hk
theorem TT {T U ty:TypeId} {k k':IntKind} {n:Int} (hT:P.underlying T=some (.int k')) (hU:P.underlying U=some (.int k)) (hk:K (.int k (k.wrap n)) w):Run P (sOp (.convert T U (.const (.int k' n))) ty) w K:=
 Run.of (by simp [sOp,execOp,ev0,evE,convert,Conv.intToInt,run_underlying hT,run_underlying hU]) hk
end

section
attribute [local irreducible] Run CondV az aO
end
end
section
open Go Go.RowKit

theorem Part.upd {α:Type} {k:Nat} {R:bm->List Value->α->Prop} {c c':Array Value} {Ls:List bm} {xs:List α} (h:Part k R c Ls xs) {i:Nat} {L':bm} {x:α} (hx:R L' (aX c' (i * k) k) x)
  (hne:∀ j,j≠i->aX c' (j * k) k=aX c (j * k) k):Part k R c' (Ls.set i L') (xs.set i x):=by
 refine ⟨by simp [h.1],fun j h1 h2=>?_⟩
 by_cases e:i=j
 ·subst e
  rw [Qp,Qp]
  exact hx
 ·rw [T0 e,T0 e,hne j fun e'=>e e'.symm]
  exact h.2 j (by simpa using h1) (by simpa using h2)
section
attribute [local irreducible] Run CondV az aO
end
end
section
open Go Go.RowKit

section
attribute [local irreducible] Run CondV az aO
theorem TrC.parts {L:bm} {cs:List Value} {c:C} (h:TrC L cs c):∃ kv ks L1 L2,cs=[.int .i64 c.head.kind,.int .i64 c.head.n,.string c.head.name,kv,ks]/\L=L1++L2/\TrSl 4 TrT L1 kv c.head.kids/\TrSl 4 TrT L2 ks c.body:=by
 obtain ⟨hd,ks,L1,L2,rfl,rfl,h1,h2⟩:=h
 obtain ⟨kv,rfl,_,_,_,hkT⟩:=TrT.iff.1 h1
 exact ⟨kv,ks,L1,L2,rfl,rfl,hkT,h2⟩
end
end
section
open Go Go.RowKit

section
attribute [local irreducible] Run CondV az aO
end
end
section
open Go Go.RowKit

theorem LD:Tryz.prog.underlying dq=some (.struct (Tryz.prog.fieldsOf dq)):=by kernel_rfl
theorem SE:Tryz.prog.stoodInHeld dq=false:=by kernel_rfl
theorem PJ:Tryz.prog.eqGuardType Tryz.prog.depth dq=false:=by kernel_rfl
theorem qz {P:Program} {w:World} {T:TypeId} {cs:Array Value} {off:Nat} {v:Value} (h:jI P T=true) (hx:cs[off]?=some v):(part T cs off).run P w=.ok v w:=by
 simp [part,(Cy (w:=w) h).1,hx]
theorem Wh {w:World} (s s':ByteArray) (n n':Int) :
  (Op.equalIn 10000 dq (.agg #[.string s,.int .i64 n]) (.agg #[.string s',.int .i64 n'])).run Tryz.prog w=.ok (decide (s=s') && decide (n=n')) w:=by
 rw [show (10000:Nat)=9999+1 from rfl,run_equalIn_struct w 9999 dq _ _ LD SE]
 have hf:(Tryz.prog.fieldsOf dq).toList=[(Tryz.prog.fieldsOf dq)[0]!,(Tryz.prog.fieldsOf dq)[1]!]:=by kernel_rfl
 have h0:((Tryz.prog.fieldsOf dq)[0]!).type=g9:=by kernel_rfl
 have h1:((Tryz.prog.fieldsOf dq)[1]!).type=bV:=by kernel_rfl
 have o0:((Tryz.prog.fieldsOf dq)[0]!).offset=0:=by kernel_rfl
 have o1:((Tryz.prog.fieldsOf dq)[1]!).offset=1:=by kernel_rfl
 have n0:((Tryz.prog.fieldsOf dq)[0]!).name≠"_" := by decide +kernel
 have n1:((Tryz.prog.fieldsOf dq)[1]!).name≠"_" := by decide +kernel
 rw [hf]
 have e0:(Op.equalIn (9998+1) g9 (.string s) (.string s')).run Tryz.prog w=.ok (decide (s=s')) w:=by
  rw [run_equalIn_string w 9998 g9 s s' ba,sv]
 have e1:(Op.equalIn (9998+1) bV (.int .i64 n) (.int .i64 n')).run Tryz.prog w=.ok (decide (n=n')) w:=by
  rw [run_equalIn_int w 9998 bV .i64 .i64 n n' fK]; rfl
 rw [show (9999:Nat)=9998+1 from rfl]
 generalize hg0:(Tryz.prog.fieldsOf dq)[0]! = g0 at *
 generalize hg1:(Tryz.prog.fieldsOf dq)[1]! = g1 at *
 simp only [Op.eqFields,n0,n1,ne_eq,not_false_eq_true,if_true,Sem.run_bind,h0,h1,o0,o1]
 rw [qz aU (v:=.string s) rfl,Result.andThen_ok,qz aU (v:=.string s') rfl,Result.andThen_ok,e0,Result.andThen_ok]
 cases decide (s=s') with
 | false=>rfl
 | true=>
  simp only [Bool.not_true,JS,if_false,Sem.run_bind]
  rw [qz aG (v:=.int .i64 n) rfl,Result.andThen_ok,qz aG (v:=.int .i64 n') rfl,Result.andThen_ok,e1,Result.andThen_ok]
  cases decide (n=n') with
  | false=>rfl
  | true=>rfl
section
variable {w:World} {K:Value->World->Prop}
attribute [local irreducible] Run
theorem Xz {cx cy:Bool} {s s':ByteArray} {n n':Int} :
  (cK .eql dq cx cy (.agg #[.string s,.int .i64 n]) (.agg #[.string s',.int .i64 n'])).run Tryz.prog w=.ok (.value (.bool (decide (s=s') && decide (n=n')))) w:=by
 unfold cK
 rw [Sem.run_bind,run_eqGuard_agg w .eql dq _ _ _ _ PJ,Result.andThen_ok,Sem.run_bind,run_eql_struct,Wh,Result.andThen_ok,Result.andThen_ok]
 rfl
theorem JM {s:ByteArray} {n:Int}:(cB dq [(0,.string s),(1,.int .i64 n)]).run Tryz.prog w=.ok (.value (.agg #[.string s,.int .i64 n])) w:=by
 unfold cB
 rw [Sem.run_bind,run_build w dq _ #[.string s,.int .i64 n] (by kernel_rfl),Result.andThen_ok]
 rfl
theorem aao {cx cy:Bool} {s s':ByteArray} {n n':Int} (hk:K (.bool (decide (s=s') && decide (n=n'))) w):Run Tryz.prog (cK .eql dq cx cy (.agg #[.string s,.int .i64 n]) (.agg #[.string s',.int .i64 n'])) w K:=
 Run.of Xz hk
theorem O2 {s:ByteArray} {n:Int} (hk:K (.agg #[.string s,.int .i64 n]) w):Run Tryz.prog (cB dq [(0,.string s),(1,.int .i64 n)]) w K:=
 Run.of JM hk
end

attribute [local irreducible] Run CondV az aO
structure Pd where
 name:ByteArray
 arity:Int
deriving DecidableEq
def Pd.cells (x:Pd):List Value:=[.string x.name,.int .i64 x.arity]
def dk (t:T):Pd:=⟨t.name,t.kids.length⟩
def o9 (x y:Pd):Bool:=decide (x.name=y.name) && decide (x.arity=y.arity)
theorem o4 (x y:Pd):o9 x y=decide (x=y):=by
 obtain ⟨a,b⟩:=x
 obtain ⟨c,d⟩:=y
 rw [o9,mf]
 simp
theorem AL {t:T} {S:ae} {cs:List Value} (h:RdT S cs t):Pure Tryz.prog VT [.agg cs.toArray] S (.agg (dk t).cells.toArray):=by
 intro w hI
 obtain ⟨kv,rfl,_,_,hs,hks⟩:=RdT.iff.1 h
 obtain ⟨k,n,s,ks⟩:=t
 simp only [T.name,T.kids,T.kind,T.n] at hs hks ⊢
 refine Lf.2 ?_
 dsimp only[Lf,aM]
 refine bq hI fun b1 w' hI=>?_
 refine aT hI Xs fun b2 w' hI=>?_
 refine af hI 0 rfl bb aU rfl ?_
 refine af hI 0 rfl ao aj rfl ?_
 refine aF hks ag ?_
 refine O2 ?_
 refine aC hI 1 rfl HN rfl rfl (by simp [Value.oneCell']) fun w' hI=>?_
 refine bJ hI 1 HN rfl rfl ?_
 exact done hI rfl
def jn (f:C->Bool):List C->Nat->List Int
 | [],_=>[]
 | c::cs,k=>if f c=true then (k:Int)::jn f cs (k+1) else jn f cs (k+1)
theorem FZ (f:C->Bool):∀ (p:List C) (k:Nat) (n:Int),n∈jn f p k->∃ i:Nat,(k:Int)<=n/\n=k+i/\∃ h:i<p.length,f p[i]=true
 | [],k,n,h=>by simp [jn] at h
 | c::cs,k,n,h=>by
  have hrec:n∈jn f cs (k+1)->∃ i:Nat,(k:Int)<=n/\n=k+i/\∃ h:i<(c::cs).length,f (c::cs)[i]=true:=by
   intro h
   obtain ⟨i,h1,h2,h3,h4⟩:=FZ f cs (k+1) n h
   exact ⟨i+1,by omega,by omega,by simpa using h3,by simpa using h4⟩
  rw [jn] at h
  split at h
  ·rcases bN.1 h with rfl|h
   ·exact ⟨0,by omega,by omega,by simp,by simpa using ‹f c=true›⟩
   ·exact hrec h
  ·exact hrec h
theorem uW (f:C->Bool):∀ (p:List C) (k:Nat),(jn f p k).length<=p.length
 | [],k=>by simp [jn]
 | c::cs,k=>by
  have:=uW f cs (k+1)
  rw [jn]
  split <;> simp <;> omega
end
section
open Go Go.RowKit
attribute [local irreducible] Run CondV az aO

theorem Sn (f:C->Bool) (p:List C) (k:Nat) (h:k<p.length) (l:List Int):(if f p[k]=true then l++[(k:Int)] else l)++jn f (p.drop (k+1)) (k+1)=l++jn f (p.drop k) k:=by
 rw [cU h,jn]
 split
 ·rw [eK]; rfl
 ·rfl

theorem Cp {p:List C} {S:ae} {v:Value} (x:Pd) (h:RdSl S 5 (RdC S) v p) (hp:p.length<=2000000):Tri Tryz.prog Ij [v,.agg x.cells.toArray] [] S (PT S (jn (fun c=>o9 (dk c.head) x) p 0)):=by
 intro w hI
 obtain ⟨xs,xn⟩:=x
 refine rm.2 ?_
 dsimp only[rm,aY]
 refine bq hI fun b3 w' hI=>?_
 refine aF h b0 ?_
 refine ⟨fun i t w'=>∃ (k:Nat) (l:List Int),k<=p.length/\i=.int .i64 k/\l++jn (fun c=>o9 (dk c.head) ⟨xs,xn⟩) (p.drop k) k=jn (fun c=>o9 (dk c.head) ⟨xs,xn⟩) p 0/\l.length<=k/\
   Inv w [] [.blk b3 (.cells #[.string xs,.int .i64 xn] dq),dz t l] S w',fun i _ _=>p.length - (intOf i).toNat,⟨0,[],be _,rfl,rfl,aW _,hI.rowNil bV 1⟩,?_⟩
 intro t10 _ t5 _ _ _ _ t19 t18 t17 t16 t15 _ _ _ _ _ _ w'
 rintro ⟨k,l,hk,rfl,hrel,hl,hI⟩
 refine bH ?_
 refine aL (fun hki=>?_) (fun hki=>?_)
 ·have hk':k<p.length:=by omega
  refine ⟨fun t w'=>Inv w [] [.blk b3 (.cells #[.string xs,.int .i64 xn] dq),dz t (if o9 (dk p[k].head) ⟨xs,xn⟩=true then l++[(k:Int)] else l)] S w',?_,?_⟩
  ·refine cL hI h b0 bx hk' (fun _ _=>RdC.length) fun cs hcs=>?_
   obtain ⟨hd,ks,rfl,h1,h2⟩:=hcs
   have h1':=h1
   obtain ⟨kv,rfl,_,_,hs,hks⟩:=RdT.iff.1 h1
   have hkv:kv.oneCell'=true/\ks.oneCell'=true:=by
    obtain ⟨a,cap,rfl,_⟩:=hks
    obtain ⟨a,cap,rfl,_⟩:=h2
    exact ⟨rfl,rfl⟩
   refine aT hI eI fun b7 w' hI=>?_
   refine aC hI 2 rfl bx rfl rfl (by
    intro u hu
    have hu':u∈([.int .i64 p[k].head.kind,.int .i64 p[k].head.n,.string p[k].head.name,kv,ks]:List Value):=hu
    simp at hu'
    rcases hu' with rfl|rfl|rfl|rfl|rfl <;> first|rfl|exact hkv.1|exact hkv.2) fun w' hI=>?_
   have hI:Inv w [] [.blk b3 (.cells #[.string xs,.int .i64 xn] dq),dz t5 l,.blk b7 (.cells #[.int .i64 p[k].head.kind,.int .i64 p[k].head.n,.string p[k].head.name,kv,ks] aq)] S w':=hI
   refine ⟨fun D lp rT lN pr wJ w_=>Fx D 0 [wJ=.pointer (some ⟨b7,0,none⟩),pr=.agg #[.int .i64 p[k].head.kind,.int .i64 p[k].head.n,.string p[k].head.name,kv],lN=.agg #[.string p[k].head.name,.int .i64 p[k].head.kids.length],rT=.agg #[.string xs,.int .i64 xn],lp=.bool (o9 (dk p[k].head) ⟨xs,xn⟩)]/\Inv w [] [.blk b3 (.cells #[.string xs,.int .i64 xn] dq),dz t5 l,.blk b7 (.cells #[.int .i64 p[k].head.kind,.int .i64 p[k].head.n,.string p[k].head.name,kv,ks] aq)] S w_,⟨Fx.nil _ _,hI.draw⟩,⟨?_,?_,?_,?_,?_,trivial⟩,?_⟩
   all_goals (intro D bF; intros; rename_i lp rT lN pr wJ w_ hA_; have hF_:=hA_.1; obtain ⟨⟨cj,ci,bR,ce,bP,_⟩,hI⟩:=hA_)
   ·refine au cE ?_
    exact ⟨hF_.set 0 rfl,hI⟩
   ·obtain rfl:=cj ‹_›
    refine di hI 2 [.int .i64 p[k].head.kind,.int .i64 p[k].head.n,.string p[k].head.name,kv] ad rfl rfl SK ?_
    exact ⟨hF_.set 1 rfl,hI⟩
   ·obtain rfl:=ci ‹_›
    refine Run.callPure Kd KM hI (AL h1') fun w_ hI=>?_
    exact ⟨hF_.set 2 rfl,hI⟩
   ·refine av hI 0 HN rfl rfl ?_
    exact ⟨hF_.set 3 rfl,hI⟩
   ·obtain rfl:=bR ‹_›
    obtain rfl:=ce ‹_›
    refine aao ?_
    exact ⟨hF_.set 4 rfl,hI⟩
   obtain ⟨rfl,rfl,rfl,rfl,rfl,_⟩:=hF_.all
   clear hF_ cj ci bR ce bP
   refine aw (fun hb=>?_) (fun hb=>?_)
   ·refine er hI kF rfl (by omega) (by omega) fun b w' hI=>?_
    refine dZ hI 1 (k:=1) [.int .i64 k] kF (by omega) rfl rfl ?_ ?_ (by omega) (by omega) fun v' w' hI=>?_
    ·intro j u hj
     rw [hI.cellL (i:=3) rfl]
     match j with
     | 0=>simpa [Value.cells] using hj
     | j+1=>simp at hj
    ·simp [Value.oneCell']
    ·rw [u5] at hI
     have hI:=hI.pick [true,true,false,false]
     rw [ai hb]
     have e:Item.row v' bV 1 (l.length+1) (ints (l++[(k:Int)]))=dz v' (l++[(k:Int)]):=by simp [dz]
     rw [show List.length l+1=l.length+1 from rfl,e] at hI
     exact hI
   ·rw [ah (by rw [hb]; decide)]
    exact hI.pick [true,true,false]
  intro t5 _ _ _ _ _ _ _ _ _ _ _ _ _ _ w' hI
  refine bp (by omega) ?_
  refine ⟨⟨k+1,_,hk',rfl,?_,?_,hI⟩,by simp [intOf]; omega⟩
  ·rw [Sn (fun c=>o9 (dk c.head) ⟨xs,xn⟩) p k hk' l,hrel]
  ·split
   ·simp; omega
   ·omega
 ·have:k=p.length:=by omega
  subst this
  rw [dO,jn,dh] at hrel
  subst hrel
  exact ⟨_,_,_,rfl,hI.pick [false,true],Ext.refl _ _ _,rfl,rfl⟩
end
section
open Go Go.RowKit
attribute [local irreducible] Run CondV az aO

def HJ (l:List Pd) (x:Pd):Bool:=l.any fun y=>o9 x y
def mW (l:List Pd) (x:Pd):List Pd:=if HJ l x=true then l else l++[x]
end
section
open Go Go.RowKit

theorem Inv.lendAll {w0 w:World} {X:List Nat} {A:List Item} (M:bm) {S:ae} (h:Inv w0 X (A++bv M) S w) :
  ∃ S',Sle S S'/\Ins S' M/\Inv w0 X A S' w/\∀ B w',Inv w0 X B S' w'->Inv w0 X (B++bv M) S w':=by
 obtain ⟨S',h1,h2,h3,h4⟩:=Inv.publishAll M h
 have hnd:=h.nd
 rw [bW,rc] at hnd
 refine ⟨S',h2,h3,h1,fun B w' hB=>⟨hB.size,hB.os,hB.tape,hB.output,hB.old,fun it hit=>?_,?_,fun b hb=>?_,fun b o hb=>⟨(hB.pub b o (h2 b o hb)).1,fun hb'=>?_⟩⟩⟩
 ·rcases bO.1 hit with hit|hit
  ·exact hB.its it hit
  ·obtain ⟨p,hp,rfl⟩:=eU.1 hit
   exact (hB.pub _ _ (h3 p hp)).1
 ·rw [bW,rc]
  refine ⟨hB.nd,hnd.2.1,fun a ha b hb e=>?_⟩
  subst e
  obtain ⟨p,hp,rfl⟩:=iP.1 hb
  exact (hB.pub _ _ (h3 p hp)).2 ha
 ·rw [bW] at hb
  rcases bO.1 hb with hb|hb
  ·exact hB.new b hb
  ·exact h.new b (by rw [bW]; exact iA _ hb)
 ·rw [bW] at hb'
  rcases bO.1 hb' with hb'|hb'
  ·exact (hB.pub b o (h2 b o hb)).2 hb'
  ·exact (h.pub b o hb).2 (by rw [bW]; exact iA _ hb')
theorem Inv.openRow {w0 w:World} {X:List Nat} {A:List Item} {S:ae} {v:Value} {e:TypeId} {k n:Nat} {xs:List Value} (h:Inv w0 X (A++[.row v e k n xs]) S w) :
  xs.length=n * k/\((v=.slice none 0 0/\n=0) ∨ ∃ g cap cur,v=.slice (some ⟨g,0,none⟩) n cap/\n<=cap/\cap<=maxLen/\cur.size=cap * k/\cur.toList.take (n * k)=xs/\Inv w0 X (A++[.blk g (.cells cur e)]) S w):=by
 have hm:w.ownsRow 0 e k v n xs:=h.its (.row v e k n xs) (by simp)
 obtain ⟨hl,hm⟩:=hm
 refine ⟨hl,?_⟩
 rcases hm with hn|⟨g,cap,cur,rfl,_,hg,hnc,hcm,hcs,ht⟩
 ·exact .inl hn
 ·have hf:bE (A++[Item.blk g (.cells cur e)])=bE (A++[Item.row (.slice (some ⟨g,0,none⟩) n cap) e k n xs]):=by
   simp [bE,Item.foot,Value.ownBlock]
  refine .inr ⟨g,cap,cur,rfl,hnc,hcm,hcs,ht,h.size,h.os,h.tape,h.output,h.old,fun it hit=>?_,by rw [hf]; exact h.nd,by rw [hf]; exact h.new,by rw [hf]; exact h.pub⟩
  rcases bO.1 hit with hit|hit
  ·exact h.its it (dy _ hit)
  ·simp at hit
   subst hit
   exact hg
theorem Inv.closeRow {w0 w:World} {X:List Nat} {A:List Item} {S:ae} {g cap k n:Nat} {cur:Array Value} {e:TypeId} (h:Inv w0 X (A++[.blk g (.cells cur e)]) S w) (hn:n<=cap) (hc:cap<=maxLen) (hs:cur.size=cap * k) :
  Inv w0 X (A++[.row (.slice (some ⟨g,0,none⟩) n cap) e k n (cur.toList.take (n * k))]) S w:=by
 have hg:w.heap[g]?=some (.cells cur e):=h.its (.blk g (.cells cur e)) (by simp)
 have hf:bE (A++[Item.row (.slice (some ⟨g,0,none⟩) n cap) e k n (cur.toList.take (n * k))])=bE (A++[Item.blk g (.cells cur e)]):=by
  simp [bE,Item.foot,Value.ownBlock]
 refine ⟨h.size,h.os,h.tape,h.output,h.old,fun it hit=>?_,by rw [hf]; exact h.nd,by rw [hf]; exact h.new,by rw [hf]; exact h.pub⟩
 rcases bO.1 hit with hit|hit
 ·exact h.its it (dy _ hit)
 ·simp at hit
  subst hit
  refine ⟨?_,.inr ⟨g,cap,cur,rfl,be _,hg,hn,hc,hs,rfl⟩⟩
  rw [dX,Og,hs]
  exact lm (ja k hn)

section
attribute [local irreducible] Run CondV az aO
end
end
end Go.Proofs.YtgllldjiaglkcaaGreatDoor
