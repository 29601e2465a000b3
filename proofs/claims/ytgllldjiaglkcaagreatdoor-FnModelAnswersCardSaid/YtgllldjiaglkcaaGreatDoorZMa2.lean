/- The variables of terms, on both sides: lists of numbers that grow. -/
import Derived.Test.YtgllldjiaglkcaaGreatDoorZMa1
import Derived.Test.YtgllldjiaglkcaaGreatDoorZMa0
namespace Go.Proofs.YtgllldjiaglkcaaGreatDoor
section
open Go Go.RowKit
attribute [local irreducible] Run CondV aw aN

mutual
def eI:T->List Int->List Int
 | .mk k n _ ks,l=>bM ks (if k=1 then jd l n else l)
def bM:List T->List Int->List Int
 | [],l=>l
 | t::ts,l=>bM ts (eI t l)
end
mutual
def gF:T->List Int->List Int
 | .mk k n _ ks,l=>if k=1 then jd l n else dY ks l
def dY:List T->List Int->List Int
 | [],l=>l
 | t::ts,l=>dY ts (gF t l)
end
mutual
theorem HU:∀ (t:T) (l:List Int),((eI t l).length:Int)<=l.length+eq t
 | .mk k n s ks,l=>by
  rw [eI,show eq (T.mk k n s ks)=1+cY ks from rfl]
  have h1:=MS l n
  have:=AE ks (if k=1 then jd l n else l)
  split at this <;> rename_i hk <;> simp only [hk,if_true,if_false] at this ⊢ <;> omega
theorem AE:∀ (ts:List T) (l:List Int),((bM ts l).length:Int)<=l.length+cY ts
 | [],l=>by simp [bM,cY]
 | t::ts,l=>by
  rw [bM,show cY (t::ts)=eq t+cY ts from rfl]
  have:=HU t l
  have:=AE ts (eI t l)
  omega
end
mutual
theorem BI:∀ (t:T) (l:List Int),((gF t l).length:Int)<=l.length+eq t
 | .mk k n s ks,l=>by
  rw [gF,show eq (T.mk k n s ks)=1+cY ks from rfl]
  have h1:=MS l n
  have:=eN ks
  split
  ·omega
  ·have:=Kp ks l
   omega
theorem Kp:∀ (ts:List T) (l:List Int),((dY ts l).length:Int)<=l.length+cY ts
 | [],l=>by simp [dY,cY]
 | t::ts,l=>by
  rw [dY,show cY (t::ts)=eq t+cY ts from rfl]
  have:=BI t l
  have:=Kp ts (gF t l)
  omega
end
mutual
theorem Qd:∀ (t:T) (d:Int) (l:List Int),d6 t d=true->gF t l=eI t l
 | .mk k n s ks,d,l,h=>by
  rw [d6] at h
  split at h
  ·cases h
  ·rw [bw] at h
   rw [gF,eI]
   split
   ·rw [OL h.1 (.inl ‹k=1›)]; rfl
   ·exact GR ks (d - 1) l h.2
theorem GR:∀ (ts:List T) (d:Int) (l:List Int),d4 ts d=true->dY ts l=bM ts l
 | [],d,l,h=>rfl
 | t::ts,d,l,h=>by
  rw [d4,bw] at h
  rw [dY,bM,Qd t d l h.1]
  exact GR ts d _ h.2
end
theorem lk {t:T} (h:cn t=true):d6 t 30=true:=by
 rw [cn,bw] at h
 exact h.1
abbrev Pj (S:af) (r:List Int):Value->List Item->af->Prop:=fun v I' S'=>I'=[dt v r]/\S'=S

theorem zq:∀ (t:T) (S:af) (cs:List Value) (v:Value) (l:List Int),RdT S cs t->l.length+eq t<=1000000000->Tri Tryz.prog SU [v,.agg cs.toArray] [dt v l] S (Pj S (gF t l)):=by
 refine T.ind fun k n s ks ih S cs v l h hl=>?_
 intro w hI
 obtain ⟨kv,rfl,_,_,hs,hks⟩:=RdT.iff.1 h
 simp only [T.name,T.kids,T.kind,T.n] at hs hks ⊢
 have hlen:=hks.le
 simp only [maxLen] at hlen
 rw [show eq (T.mk k n s ks)=1+cY ks from rfl] at hl
 have hcp:=eN ks
 have hend:∀ {w':World} {v':Value} {b:Nat} {o:Obj} (r:List Int),Inv w (bI [dt v l]) [.blk b o,dt v' r] S w'->r=gF (.mk k n s ks) l->
   ∃ v'' I' S',Ending.returned v'=.returned v''/\Inv w (bI [dt v l]) I' S' w'/\Ext w.heap.size (bI [dt v l]) S S'/\Pj S (gF (.mk k n s ks) l) v'' I' S':=by
  intro w' v' b o r h1 h2
  subst h2
  exact ⟨_,_,_,rfl,h1.pick [false,true],Ext.refl _ _ _,rfl,rfl⟩
 refine DZ.2 ?_
 dsimp only[DZ,aZ]
 refine bt hI fun b3 w' hI=>?_
 have hI:=hI.perm (M:=[.blk b3 (.cells #[.int .i64 k,.int .i64 n,.string s,kv] ac),dt v l]) (List.Perm.swap _ _ _)
 refine ag hI 0 rfl aP aH rfl ?_
 refine bo ?_
 refine aI (fun hk=>?_) (fun hk=>?_)
 ·have hr:jd l n=gF (.mk k n s ks) l:=by rw [gF,ai hk]
  obtain ⟨S1,hle,hrd,hI,hback⟩:=Inv.lend (A:=[_]) hI
  have hrd:=hrd.ints
  refine ⟨fun i w'=>∃ j:Nat,j<=l.length/\i=.int .i64 j/\jO (l.drop j) n=jO l n/\Inv w (bI [dt v l]) [.blk b3 (.cells #[.int .i64 k,.int .i64 n,.string s,kv] ac)] S1 w',
   fun i _=>l.length - (intOf i).toNat,⟨0,be _,rfl,rfl,hI⟩,?_⟩
  intro t5 _ _ _ _ t22 t21 t20 t19 t18 t17 t16 _ _ _ _ w'
  rintro ⟨j,hj,rfl,hrel,hI⟩
  refine aC hrd c5 ?_
  refine bF ?_
  refine aI (fun hji=>?_) (fun hji=>?_)
  ·have hj':j<l.length:=by omega
   have hstep:jO (l.drop j) n=(decide (n=l[j]) || jO (l.drop (j+1)) n):=yt _ l j hj'
   obtain ⟨b,o,cap,c,E,fz,rfl,hS,hR⟩:=hrd.at_ hj'
   refine ⟨fun D tR sv nj lS rK jY l5 w_=>Fx D 0 [l5=.slice (some ⟨b,o,none⟩) l.length cap,jY=.int .i64 j,rK=.pointer (some ⟨b,o+j * 1,none⟩),lS=.int .i64 l[j],nj=.pointer (some ⟨b3,1,none⟩),sv=.int .i64 n,tR=.bool (decide (l[j]=n))]/\Inv w (bI [dt (.slice (some ⟨b,o,none⟩) l.length cap) l]) [.blk b3 (.cells #[.int .i64 k,.int .i64 n,.string s,kv] ac)] S1 w_,⟨Fx.nil _ _,hI.draw⟩,⟨?_,?_,?_,?_,?_,?_,?_,trivial⟩,?_⟩
   all_goals (intro D bP; intros; rename_i tR sv nj lS rK jY l5 w_ hA_; have hF_:=hA_.1; obtain ⟨⟨cm,cj,cd,ci,bT,ct,bZ,_⟩,hI⟩:=hA_)
   ·exact ⟨hF_.set 0 rfl,hI⟩
   ·exact ⟨hF_.set 1 rfl,hI⟩
   ·obtain rfl:=cm ‹_›
    obtain rfl:=cj ‹_›
    refine aD c5 hj' ?_
    exact ⟨hF_.set 2 rfl,hI⟩
   ·obtain rfl:=cd ‹_›
    refine cw aH (by rw [hI.cellS hS]; exact aK hR 0 _ rfl) ?_
    exact ⟨hF_.set 3 rfl,hI⟩
   ·refine aB bh ?_
    exact ⟨hF_.set 4 rfl,hI⟩
   ·obtain rfl:=bT ‹_›
    refine aX hI 0 aH rfl rfl ?_
    exact ⟨hF_.set 5 rfl,hI⟩
   ·obtain rfl:=ci ‹_›
    obtain rfl:=ct ‹_›
    refine bo ?_
    exact ⟨hF_.set 6 rfl,hI⟩
   obtain ⟨rfl,rfl,rfl,rfl,rfl,rfl,rfl,_⟩:=hF_.all
   clear hF_ cm cj cd ci bT ct bZ
   refine aI (fun he=>?_) (fun he=>?_)
   ·refine hend l (hback _ _ hI) ?_
    rw [<- hr,jd,ai (by rw [<- hrel,hstep,aM he.symm]; rfl)]
   ·refine bq (by omega) ?_
    exact ⟨⟨j+1,hj',rfl,by rw [<- hrel,hstep,aW (fun e=>he e.symm)]; rfl,hI⟩,by simp [intOf]; omega⟩
  ·have:j=l.length:=by omega
   subst this
   have hno:jO l n=false:=by rw [<- hrel,dL]; rfl
   have hI:Inv w (bI [dt v l]) [.blk b3 (.cells #[.int .i64 k,.int .i64 n,.string s,kv] ac),dt v l] S _:=hback _ _ hI
   refine ag hI 0 rfl bh aH rfl ?_
   refine d5 hI kO rfl (by omega) (by omega) fun b w' hI=>?_
   refine dQ hI 1 (k:=1) [.int .i64 n] kO (by omega) rfl rfl ?_ ?_ (by omega) (by omega) fun v' w' hI=>?_
   ·intro j u hj
    rw [hI.cellL (i:=2) rfl]
    match j with
    | 0=>simpa [Value.cells] using hj
    | j+1=>simp at hj
   ·simp [Value.oneCell']
   ·rw [u6] at hI
    have hI:=hI.pick [true,true,false]
    refine hend (b:=b3) (o:=.cells #[.int .i64 k,.int .i64 n,.string s,kv] ac) (l++[n]) ?_ ?_
    ·have e:Item.row v' cc 1 (l.length+1) (ints (l++[n]))=dt v' (l++[n]):=by simp [dt]
     exact e ▸ hI
    ·rw [<- hr,jd,ah (by rw [hno]; decide)]
 ·have hr:dY ks l=gF (.mk k n s ks) l:=by rw [gF,ah hk]
  refine ⟨fun i t w'=>∃ (j:Nat) (l':List Int),j<=ks.length/\i=.int .i64 j/\dY (ks.drop j) l'=dY ks l/\l'.length+cY (ks.drop j)<=1000000000/\Inv w (bI [dt v l]) [.blk b3 (.cells #[.int .i64 k,.int .i64 n,.string s,kv] ac),dt t l'] S w',
   fun i _ _=>ks.length - (intOf i).toNat,⟨0,l,be _,rfl,rfl,by rw [Lo]; omega,hI⟩,?_⟩
  intro t6 _ _ t0 _ _ _ _ _ _ _ _ _ _ _ _ w'
  rintro ⟨j,l',hj,rfl,hrel,hl',hI⟩
  refine ag hI 0 rfl al aj rfl ?_
  refine aC hks ae ?_
  refine bF ?_
  refine aI (fun hji=>?_) (fun hji=>?_)
  ·have hj':j<ks.length:=by omega
   rw [mE ks j hj'] at hl'
   rw [cZ hj',dY] at hrel
   have hc1:=eN (ks.drop (j+1))
   have hc2:=BI ks[j] l'
   refine ag hI 0 rfl al aj rfl ?_
   refine cE hI hks ae ad hj' (fun _ _=>RdT.length) fun cs' hcs'=>?_
   refine Run.call (A:=[_]) uL ur hI (ih _ (bA hj') S cs' t0 l' hcs' (by omega)) fun v' I' S' w'=>?_
   rintro ⟨rfl,rfl⟩ _ hI
   refine bq (by omega) ?_
   exact ⟨⟨j+1,_,hj',rfl,hrel,by omega,hI⟩,by simp [intOf]; omega⟩
  ·have:j=ks.length:=by omega
   subst this
   rw [dL,dY] at hrel
   exact hend l' hI (by rw [hrel,hr])

theorem vX:∀ (t:T) (S:af) (cs:List Value) (v:Value) (l:List Int),RdT S cs t->l.length+eq t<=1000000000->Tri Tryz.prog Qn [.agg cs.toArray,v] [dt v l] S (Pj S (eI t l)):=by
 refine T.ind fun k n s ks ih S cs v l h hl=>?_
 intro w hI
 obtain ⟨kv,rfl,_,_,hs,hks⟩:=RdT.iff.1 h
 simp only [T.name,T.kids,T.kind,T.n] at hs hks ⊢
 have hlen:=hks.le
 simp only [maxLen] at hlen
 rw [show eq (T.mk k n s ks)=1+cY ks from rfl] at hl
 have hcp:=eN ks
 have hal:=MS l n
 refine zK.2 ?_
 dsimp only[zK,aZ]
 refine bt hI fun b2 w' hI=>?_
 have hI:=hI.perm (M:=[.blk b2 (.cells #[.int .i64 k,.int .i64 n,.string s,kv] ac),dt v l]) (List.Perm.swap _ _ _)
 refine ⟨fun t w'=>Inv w (bI [dt v l]) [.blk b2 (.cells #[.int .i64 k,.int .i64 n,.string s,kv] ac),dt t (if k=1 then jd l n else l)] S w',?_,?_⟩
 ·refine ⟨fun t w'=>t=.bool (decide (k=1) && !jO l n)/\Inv w (bI [dt v l]) [.blk b2 (.cells #[.int .i64 k,.int .i64 n,.string s,kv] ac),dt v l] S w',?_,?_⟩
  ·refine ag hI 0 rfl aP aH rfl ?_
   refine bo ?_
   cases h1:decide (k=1)
   ·refine rpG ?_
    exact ⟨rfl,hI⟩
   ·refine rpG ?_
    refine ag hI 0 rfl bh aH rfl ?_
    obtain ⟨S1,hle,hrd,hI,hback⟩:=Inv.lend (A:=[_]) hI
    refine Run.callPure oj oD hI (nh n hrd.ints) fun w' hI=>?_
    refine bX ?_
    refine rpG ?_
    exact ⟨rfl,hback _ _ hI⟩
  intro t16 _ _ _ _ _ _ _ _ _ w'
  rintro ⟨rfl,hI⟩
  refine az (fun hb=>?_) (fun hb=>?_)
  ·simp only [bw,bk,js] at hb
   refine ag hI 0 rfl bh aH rfl ?_
   refine d5 hI kO rfl (by omega) (by omega) fun b w' hI=>?_
   refine dQ hI 1 (k:=1) [.int .i64 n] kO (by omega) rfl rfl ?_ ?_ (by omega) (by omega) fun v' w' hI=>?_
   ·intro j u hj
    rw [hI.cellL (i:=2) rfl]
    match j with
    | 0=>simpa [Value.cells] using hj
    | j+1=>simp at hj
   ·simp [Value.oneCell']
   ·rw [u6] at hI
    have hI:=hI.pick [true,true,false]
    rw [ai hb.1,jd,ah (by rw [hb.2]; decide)]
    have e:Item.row v' cc 1 (l.length+1) (ints (l++[n]))=dt v' (l++[n]):=by simp [dt]
    rw [show List.length l+1=l.length+1 from rfl,e] at hI
    exact hI
  ·have:(if k=1 then jd l n else l)=l:=by
    split
    ·rename_i hk
     rw [jd]
     simp [hk] at hb
     rw [ai hb]
    ·rfl
   rw [this]
   exact hI
 intro t1 _ _ _ _ _ _ _ _ _ _ _ _ _ _ _ w' hI
 have hl1:((if k=1 then jd l n else l).length:Int)+cY ks<=1000000000:=by split <;> omega
 rw [show eI (.mk k n s ks) l=bM ks (if k=1 then jd l n else l) from by rw [eI]]
 generalize (if k=1 then jd l n else l)=l1 at hI hl1 ⊢
 refine ag hI 0 rfl al aj rfl ?_
 refine aC hks ae ?_
 refine ⟨fun i t w'=>∃ (j:Nat) (l':List Int),j<=ks.length/\i=.int .i64 j/\bM (ks.drop j) l'=bM ks l1/\l'.length+cY (ks.drop j)<=1000000000/\Inv w (bI [dt v l]) [.blk b2 (.cells #[.int .i64 k,.int .i64 n,.string s,kv] ac),dt t l'] S w',
  fun i _ _=>ks.length - (intOf i).toNat,⟨0,l1,be _,rfl,rfl,by rw [Lo]; omega,hI⟩,?_⟩
 intro t25 _ t1 _ _ _ _ _ _ _ w'
 rintro ⟨j,l',hj,rfl,hrel,hl',hI⟩
 refine bF ?_
 refine aI (fun hji=>?_) (fun hji=>?_)
 ·have hj':j<ks.length:=by omega
  rw [mE ks j hj'] at hl'
  rw [cZ hj',bM] at hrel
  have hc1:=eN (ks.drop (j+1))
  have hc2:=HU ks[j] l'
  refine cE hI hks ae ad hj' (fun _ _=>RdT.length) fun cs' hcs'=>?_
  have hlc:=hcs'.length
  refine aV hI aY fun b6 w' hI=>?_
  refine aA hI 2 rfl ad (by simpa using hlc) rfl (by simpa using hcs'.one) fun w' hI=>?_
  refine ar hI 2 ad rfl (by simpa using hlc) ?_
  have hI:=hI.pick [true,true,false]
  refine Run.call (A:=[_]) qH qR hI (ih _ (bA hj') S cs' t1 l' hcs' (by omega)) fun v' I' S' w'=>?_
  rintro ⟨rfl,rfl⟩ _ hI
  refine bq (by omega) ?_
  exact ⟨⟨j+1,_,hj',rfl,hrel,by omega,hI⟩,by simp [intOf]; omega⟩
 ·have:j=ks.length:=by omega
  subst this
  rw [dL,bM] at hrel
  subst hrel
  exact ⟨_,_,_,rfl,hI.pick [false,true],Ext.refl _ _ _,rfl,rfl⟩
theorem il {ts:List T} {S:af} {v:Value} (h:RdSl S 4 (RdT S) v ts) (hl:cY ts<=1000000000):Tri Tryz.prog Ro [v] [] S (Pj S (bM ts [])):=by
 intro w hI
 have hlen:=h.le
 simp only [maxLen] at hlen
 refine CB.2 ?_
 dsimp only[CB,aL]
 refine aC h ae ?_
 refine ⟨fun i t w'=>∃ (j:Nat) (l':List Int),j<=ts.length/\i=.int .i64 j/\bM (ts.drop j) l'=bM ts []/\l'.length+cY (ts.drop j)<=1000000000/\Inv w [] [dt t l'] S w',
  fun i _ _=>ts.length - (intOf i).toNat,⟨0,[],be _,rfl,rfl,by simpa using hl,hI.rowNil cc 1⟩,?_⟩
 intro t8 _ t3 _ _ _ _ _ _ _ w'
 rintro ⟨j,l',hj,rfl,hrel,hl',hI⟩
 refine bF ?_
 refine aI (fun hji=>?_) (fun hji=>?_)
 ·have hj':j<ts.length:=by omega
  rw [mE ts j hj'] at hl'
  rw [cZ hj',bM] at hrel
  have hc1:=eN (ts.drop (j+1))
  have hc2:=HU ts[j] l'
  refine cE hI h ae ad hj' (fun _ _=>RdT.length) fun cs' hcs'=>?_
  have hlc:=hcs'.length
  refine aV hI aY fun b6 w' hI=>?_
  refine aA hI 1 rfl ad (by simpa using hlc) rfl (by simpa using hcs'.one) fun w' hI=>?_
  refine ar hI 1 ad rfl (by simpa using hlc) ?_
  have hI:=hI.pick [true,false]
  refine Run.call (A:=[]) qH qR hI (vX _ S cs' t3 l' hcs' (by omega)) fun v' I' S' w'=>?_
  rintro ⟨rfl,rfl⟩ _ hI
  refine bq (by omega) ?_
  exact ⟨⟨j+1,_,hj',rfl,hrel,by omega,hI⟩,by simp [intOf]; omega⟩
 ·have:j=ts.length:=by omega
  subst this
  rw [dL,bM] at hrel
  subst hrel
  exact ⟨_,_,_,rfl,hI,Ext.refl _ _ _,rfl,rfl⟩
end
section
open Go Go.RowKit
attribute [local irreducible] Run CondV aw aN

def jM (t u:T):Bool:=decide (t.kind=u.kind) && (decide (t.n=u.n) && (decide (t.name=u.name) && decide (t.kids.length=u.kids.length)))
theorem eL (k n k' n':Int) (s s':ByteArray) (ks ks':List T):jM (.mk k n s ks) (.mk k' n' s' ks')=(decide (k=k') && (decide (n=n') && (decide (s=s') && decide (ks.length=ks'.length)))):=rfl
theorem T4 {α β:Type} (a:List α) (b:List β):decide (a.length=b.length)=decide ((a.length:Int)=(b.length:Int)):=by
 rw [mP]
 simp only [bk]
 omega
theorem aa5 (t u:T):eqT t u=(jM t u && eqL t.kids u.kids):=by
 obtain ⟨k,n,s,ks⟩:=t
 obtain ⟨k',n',s',ks'⟩:=u
 rw [eqT,eL]
 by_cases h:ks.length=ks'.length
 ·rw [aM h,UP,EL,EL]; rfl
 ·rw [U4 h,aW h]; simp
theorem ph:∀ (t u:T) (S:af) (cs ds:List Value),RdT S cs t->RdT S ds u->Pure Tryz.prog NL [.agg cs.toArray,.agg ds.toArray] S (.bool (eqT t u)):=by
 refine T.ind fun k n s ks ih u S cs ds h h'=>?_
 intro w hI
 obtain ⟨kv,rfl,_,_,_,hks⟩:=RdT.iff.1 h
 obtain ⟨kv',rfl,_,_,_,hks'⟩:=RdT.iff.1 h'
 obtain ⟨k',n',s',ks'⟩:=u
 simp only [T.name,T.kids,T.kind,T.n] at hks hks' ⊢
 have hlen:=hks.le
 simp only [maxLen] at hlen
 refine wI.2 ?_
 dsimp only[wI,aZ]
 refine bt hI fun b1 w' hI=>?_
 refine bt hI fun b2 w' hI=>?_
 have hI:Inv w [] [.blk b1 (.cells #[.int .i64 k,.int .i64 n,.string s,kv] ac),.blk b2 (.cells #[.int .i64 k',.int .i64 n',.string s',kv'] ac)] S w':=hI
 refine ⟨fun q w'=>q=.bool (!jM (.mk k n s ks) (.mk k' n' s' ks'))/\Inv w [] [.blk b1 (.cells #[.int .i64 k,.int .i64 n,.string s,kv] ac),.blk b2 (.cells #[.int .i64 k',.int .i64 n',.string s',kv'] ac)] S w',?_,?_⟩
 ·refine ag hI 0 rfl aP aH rfl ?_
  refine ag hI 1 rfl aP aH rfl ?_
  refine ei ?_
  by_cases e1:k=k'
  ·rw [aM e1]
   refine rpG ?_
   refine ag hI 0 rfl bh aH rfl ?_
   refine ag hI 1 rfl bh aH rfl ?_
   refine ei ?_
   by_cases e2:n=n'
   ·rw [aM e2]
    refine rpG ?_
    refine ag hI 0 rfl bb aQ rfl ?_
    refine ag hI 1 rfl bb aQ rfl ?_
    refine uD ?_
    by_cases e3:s=s'
    ·rw [aM e3]
     refine rpG ?_
     refine ag hI 0 rfl al aj rfl ?_
     refine aC hks ae ?_
     refine ag hI 1 rfl al aj rfl ?_
     refine aC hks' ae ?_
     refine ei ?_
     refine rpG ?_
     exact ⟨by rw [eL,aM e1,aM e2,aM e3,T4]; rfl,hI⟩
    ·rw [aW e3]
     refine rpG ?_
     exact ⟨by rw [eL,aM e1,aM e2,aW e3]; rfl,hI⟩
   ·rw [aW e2]
    refine rpG ?_
    exact ⟨by rw [eL,aM e1,aW e2]; rfl,hI⟩
  ·rw [aW e1]
   refine rpG ?_
   exact ⟨by rw [eL,aW e1]; rfl,hI⟩

 intro q _ _ _ _ _ _ _ _ _ _ _ _ _ _ _ _ _ _ _ _ _ _ _ _ _ _ _ w'
 rintro ⟨rfl,hI⟩
 rw [aa5]
 cases hd:jM (.mk k n s ks) (.mk k' n' s' ks')
 ·refine az (fun _=>done hI rfl) (fun hb=>by cases hb)
 refine az (fun hb=>by cases hb) (fun _=>?_)
 have hle:ks.length=ks'.length:=by
  rw [eL] at hd
  simp only [bw,bk] at hd
  exact hd.2.2.2
 simp only [T.kids,dM]
 refine ⟨fun i w'=>∃ j:Nat,j<=ks.length/\i=.int .i64 j/\eqL (ks.drop j) (ks'.drop j)=eqL ks ks'/\Inv w [] [.blk b1 (.cells #[.int .i64 k,.int .i64 n,.string s,kv] ac),.blk b2 (.cells #[.int .i64 k',.int .i64 n',.string s',kv'] ac)] S w',fun i _=>ks.length - (intOf i).toNat,⟨0,be _,rfl,rfl,hI⟩,?_⟩
 intro t5 _ _ _ _ _ _ _ _ _ _ _ _ _ _ _ _ _ _ _ _ w'
 rintro ⟨j,hj,rfl,hrel,hI⟩
 refine ag hI 0 rfl al aj rfl ?_
 refine aC hks ae ?_
 refine bF ?_
 refine aI (fun hji=>?_) (fun hji=>?_)
 ·have hj1:j<ks.length:=by omega
  have hj2:j<ks'.length:=by omega
  obtain ⟨c1,o1,cap1,a1,E1,fz1,rfl,hS1,hR1⟩:=hks.at_ hj1
  obtain ⟨c2,o2,cap2,a2,E2,fz2,rfl,hS2,hR2⟩:=hks'.at_ hj2
  have hstep:eqL (ks.drop j) (ks'.drop j)=(eqT ks[j] ks'[j] && eqL (ks.drop (j+1)) (ks'.drop (j+1))):=by
   rw [cZ hj1,cZ hj2,eqL]
  refine ⟨fun D C9 DN C5 Ai rY rx Az Eg DK Em Dd x1 w_=>Fx D 0 [x1=.pointer (some ⟨b1,3,none⟩),Dd=.slice (some ⟨c1,o1,none⟩) ks.length cap1,Em=.int .i64 j,DK=.pointer (some ⟨c1,o1+j * 4,none⟩),Eg=.agg (aO a1 (o1+j * 4) 4).toArray,Az=.pointer (some ⟨b2,3,none⟩),rx=.slice (some ⟨c2,o2,none⟩) ks'.length cap2,rY=.int .i64 j,Ai=.pointer (some ⟨c2,o2+j * 4,none⟩),C5=.agg (aO a2 (o2+j * 4) 4).toArray,DN=.bool (eqT ks[j] ks'[j]),C9=.bool (!eqT ks[j] ks'[j])]/\Inv w [] [.blk b1 (.cells #[.int .i64 k,.int .i64 n,.string s,.slice (some ⟨c1,o1,none⟩) ks.length cap1] ac),.blk b2 (.cells #[.int .i64 k',.int .i64 n',.string s',.slice (some ⟨c2,o2,none⟩) ks'.length cap2] ac)] S w_,⟨Fx.nil _ _,hI.draw⟩,⟨?_,?_,?_,?_,?_,?_,?_,?_,?_,?_,?_,?_,trivial⟩,?_⟩
  all_goals (intro D bP; intros; rename_i C9 DN C5 Ai rY rx Az Eg DK Em Dd x1 w_ hA_; have hF_:=hA_.1; obtain ⟨⟨cm,cj,cd,ci,bT,ct,bZ,cR,dq,er,co,cG,_⟩,hI⟩:=hA_)
  ·refine aB al ?_
   exact ⟨hF_.set 0 rfl,hI⟩
  ·obtain rfl:=cm ‹_›
   refine aX hI 0 aj rfl rfl ?_
   exact ⟨hF_.set 1 rfl,hI⟩
  ·exact ⟨hF_.set 2 rfl,hI⟩
  ·obtain rfl:=cj ‹_›
   obtain rfl:=cd ‹_›
   refine aD ae hj1 ?_
   exact ⟨hF_.set 3 rfl,hI⟩
  ·obtain rfl:=ci ‹_›
   refine bK ad hR1.length (fun j v hj=>by rw [hI.cellS hS1]; exact aK rfl j v hj) ?_
   exact ⟨hF_.set 4 rfl,hI⟩
  ·refine aB al ?_
   exact ⟨hF_.set 5 rfl,hI⟩
  ·obtain rfl:=ct ‹_›
   refine aX hI 1 aj rfl rfl ?_
   exact ⟨hF_.set 6 rfl,hI⟩
  ·exact ⟨hF_.set 7 rfl,hI⟩
  ·obtain rfl:=bZ ‹_›
   obtain rfl:=cR ‹_›
   refine aD ae hj2 ?_
   exact ⟨hF_.set 8 rfl,hI⟩
  ·obtain rfl:=dq ‹_›
   refine bK ad hR2.length (fun j v hj=>by rw [hI.cellS hS2]; exact aK rfl j v hj) ?_
   exact ⟨hF_.set 9 rfl,hI⟩
  ·obtain rfl:=bT ‹_›
   obtain rfl:=er ‹_›
   refine Run.callPure oJ oV hI (ih _ (bA hj1) _ S _ _ hR1 hR2) fun w_ hI=>?_
   exact ⟨hF_.set 10 rfl,hI⟩
  ·obtain rfl:=co ‹_›
   refine bX ?_
   exact ⟨hF_.set 11 rfl,hI⟩
  obtain ⟨rfl,rfl,rfl,rfl,rfl,rfl,rfl,rfl,rfl,rfl,rfl,rfl,_⟩:=hF_.all
  clear hF_ cm cj cd ci bT ct bZ cR dq er co cG
  refine az (fun hne=>?_) (fun he'=>?_)
  ·exact done hI (by rw [<- hrel,hstep]; simp at hne; rw [hne]; rfl)
  ·refine bq (by omega) ?_
   refine ⟨⟨j+1,hj1,rfl,?_,hI⟩,by simp [intOf]; omega⟩
   rw [<- hrel,hstep]
   simp at he'
   rw [he',dM]
 ·have:j=ks.length:=by omega
  subst this
  refine done hI ?_
  rw [<- hrel,dL,hle,dL]
  rfl
end
section
open Go Go.RowKit
attribute [local irreducible] Run CondV aw aN

theorem NM {xs:List T} (ih:∀ t∈xs,∀ (u:T) (S:af) (cs ds:List Value),RdT S cs t->RdT S ds u->Pure Tryz.prog lV [.agg cs.toArray,.agg ds.toArray] S (.bool (eqT t u)))
  {ys:List T} {S:af} {v u:Value} (h:RdSl S 4 (RdT S) v xs) (h':RdSl S 4 (RdT S) u ys):Pure Tryz.prog xy [v,u,.func (.func lV) #[] #[]] S (.bool (eqL xs ys)):=by
 intro w hI
 have hlen:(xs.length:Int)<=9223372036854775807:=by have:=h.le; simp only [maxLen] at this; omega
 refine lF.2 ?_
 dsimp only[lF,dV]
 refine aC h ae ?_
 refine aC h' ae ?_
 refine ei ?_
 refine az (fun hne=>?_) (fun he=>?_)
 ·exact done hI (by rw [U4 (by simp at hne; omega)])
 have he:xs.length=ys.length:=by simp at he; omega
 refine aC h ae ?_
 refine ⟨fun i w'=>∃ (k:Nat),k<=xs.length/\i=.int .i64 k/\eqL (xs.drop k) (ys.drop k)=eqL xs ys/\Inv w [] [] S w',fun i _=>xs.length - (intOf i).toNat,⟨0,be _,rfl,rfl,hI⟩,?_⟩
 intro t5 _ _ _ _ _ _ _ _ _ _ _ _ _ _ _ _ _ _ w'
 rintro ⟨k,hk,rfl,hrel,hI⟩
 refine bF ?_
 refine aI (fun hki=>?_) (fun hki=>?_)
 ·have hk1:k<xs.length:=by omega
  have hk2:k<ys.length:=by omega
  have hstep:eqL (xs.drop k) (ys.drop k)=(eqT xs[k] ys[k] && eqL (xs.drop (k+1)) (ys.drop (k+1))):=by
   rw [cZ hk1,cZ hk2,eqL]
  refine cE hI h ae ad hk1 (fun _ _=>RdT.length) fun cs hcs=>?_
  have hlc:=hcs.length
  refine aV hI aY fun b8 w' hI=>?_
  refine aA hI 0 rfl ad (by simpa using hlc) rfl (by simpa using hcs.one) fun w' hI=>?_
  refine cE hI h' ae ad hk2 (fun _ _=>RdT.length) fun ds hds=>?_
  have hld:=hds.length
  refine aV hI aY fun b9 w' hI=>?_
  refine aA hI 1 rfl ad (by simpa using hld) rfl (by simpa using hds.one) fun w' hI=>?_
  refine ar hI 0 ad rfl (by simpa using hlc) ?_
  refine ar hI 1 ad rfl (by simpa using hld) ?_
  refine Run.callPure iH iD hI (ih _ (bA hk1) _ S _ _ hcs hds) fun w' hI=>?_
  refine bX ?_
  refine az (fun hne=>?_) (fun he'=>?_)
  ·exact done hI (by rw [<- hrel,hstep]; simp at hne; rw [hne]; rfl)
  ·refine bq (by omega) ?_
   refine ⟨⟨k+1,hk1,rfl,?_,hI.nil⟩,by simp [intOf]; omega⟩
   rw [<- hrel,hstep]
   simp at he'
   rw [he',dM]
 ·have:k=xs.length:=by omega
  subst this
  refine done hI ?_
  rw [<- hrel,dL,he,dL]
  rfl
theorem ib:∀ (t u:T) (S:af) (cs ds:List Value),RdT S cs t->RdT S ds u->Pure Tryz.prog lV [.agg cs.toArray,.agg ds.toArray] S (.bool (eqT t u)):=by
 refine T.ind fun k n s ks ih u S cs ds h h'=>?_
 intro w hI
 obtain ⟨kv,rfl,_,_,_,hks⟩:=RdT.iff.1 h
 obtain ⟨kv',rfl,_,_,_,hks'⟩:=RdT.iff.1 h'
 obtain ⟨k',n',s',ks'⟩:=u
 simp only [T.name,T.kids,T.kind,T.n] at hks hks' ⊢
 refine v6.2 ?_
 dsimp only[v6,aZ]
 refine bt hI fun b1 w' hI=>?_
 refine bt hI fun b2 w' hI=>?_
 refine ag hI 0 rfl aP aH rfl ?_
 refine ag hI 1 rfl aP aH rfl ?_
 refine bo ?_
 by_cases e1:k=k'
 ·rw [aM e1]
  refine rpG ?_
  refine ag hI 0 rfl bh aH rfl ?_
  refine ag hI 1 rfl bh aH rfl ?_
  refine bo ?_
  by_cases e2:n=n'
  ·rw [aM e2]
   refine rpG ?_
   refine ag hI 0 rfl bb aQ rfl ?_
   refine ag hI 1 rfl bb aQ rfl ?_
   refine bO ?_
   by_cases e3:s=s'
   ·rw [aM e3]
    refine rpG ?_
    refine ag hI 0 rfl al aj rfl ?_
    refine ag hI 1 rfl al aj rfl ?_
    refine Run.callPure vw vk hI (NM ih hks hks') fun w' hI=>?_
    refine rpG ?_
    exact done hI (by rw [eqT,aM e1,aM e2,aM e3]; rfl)
   ·rw [aW e3]
    refine rpG ?_
    exact done hI (by rw [eqT,aM e1,aM e2,aW e3]; rfl)
  ·rw [aW e2]
   refine rpG ?_
   exact done hI (by rw [eqT,aM e1,aW e2]; rfl)
 ·rw [aW e1]
  refine rpG ?_
  exact done hI (by rw [eqT,aW e1]; rfl)
end
section
open Go Go.RowKit

theorem sT {n:Int}:∀ (l:List MapEntry) (i:Nat),(∀ e∈l,∃ m,e.key=.int .i64 m)->
  (∃ j,∃ e∈l,e.key=.int .i64 n/\Instr.findNow (.int .i64) (.int .i64 n) l i=some (some (j,e.val))) ∨ ((∀ e∈l,e.key≠.int .i64 n)/\Instr.findNow (.int .i64) (.int .i64 n) l i=some none)
 | [],i,_=>.inr ⟨by simp,rfl⟩
 | e::l,i,h=>by
  obtain ⟨m,hm⟩:=h e (aT ..)
  have hs:Instr.sameNow (.int .i64) (.int .i64 n) e.key=some (n == m):=by rw [hm]; rfl
  by_cases hnm:n=m
  ·refine .inl ⟨i,e,aT ..,by rw [hm,hnm],?_⟩
   have:(n == m)=true:=by simpa using hnm
   rw [Instr.findNow,hs,this]
  ·have h2:(n == m)=false:=by simpa using hnm
   rcases sT l (i+1) (fun e he=>h e (aS _ he)) with ⟨j,e',he',hk,hf⟩|⟨hk,hf⟩
   ·exact .inl ⟨j,e',aS _ he',hk,by rw [Instr.findNow,hs,h2]; exact hf⟩
   ·refine .inr ⟨fun x hx=>?_,by rw [Instr.findNow,hs,h2]; exact hf⟩
    rcases bG.1 hx with rfl|hx
    ·rw [hm]
     intro e'
     simp only [Value.int.injEq,wS] at e'
     exact hnm e'.symm
    ·exact hk x hx
section
variable {P:Program} {w w0:World} {X:List Nat} {L:List Item} {S:af} {K:Value->World->Prop}
attribute [local irreducible] Run CondV aw aN
theorem fo {kt:TypeId} {d:TypeDesc} {k:Value} {l:List MapEntry} {a:Option (Nat × Value)} (hd:P.underlying kt=some d) (h:Instr.findNow d k l 0=some a):(Instr.findKey kt k l).run P w=.ok a w:=by
 simp [Instr.findKey,run_underlying hd,Result.andThen,h]
theorem uY (h:Inv w0 X L S w) {T ty:TypeId} (hk:∀ b w',Inv w0 X (L++[.blk b (.map #[] 0)]) S w'->K (.map (some b)) w'):Run P (sOp (.makeMap T none) ty) w K:=by
 refine Run.of (v:=.map (some w.heap.size)) (w':={ w with heap:=w.heap.push (.map #[] 0) }) ?_ (hk _ _ (h.alloc _))
 simp [sOp,execOp,Instr.makeMap,newObj,Sem.run]
theorem QE (h:Inv w0 X L S w) {T kt et ty:TypeId} {b clock:Nat} {es:Array MapEntry} {n:Int} {z v:Value} {ok:Bool} (i:Nat) (hT:P.underlying T=some (.map kt et)) (hkt:P.underlying kt=some (.int .i64))
  (hz:fZ P et=some z) (hi:L[i]?=some (.blk b (.map es clock)))
  (hf:(∃ j,Instr.findNow (.int .i64) (.int .i64 n) es.toList 0=some (some (j,v))/\ok=true) ∨ (Instr.findNow (.int .i64) (.int .i64 n) es.toList 0=some none/\v=z/\ok=false))
  (hk:K (.tuple #[v,.bool ok]) w):Run P (sOp (.lookup T (.const (.map (some b))) (.const (.int .i64 n)) true) ty) w K:=by
 have hb:w.heap[b]?=some (.map es clock):=h.its _ (b0 hi)
 have hck:∀ e,(Instr.checkKey e 10000 kt (.int .i64 n)).run P w=.ok () w:=fun e=>by
  rw [show (10000:Nat)=9999+1 from rfl,Instr.checkKey]
  simp [run_underlying hkt]
 obtain ⟨inf,hi1,hi2⟩:∃ inf,P.info? et=some inf/\inf.zero=some z:=by
  unfold fZ at hz
  cases hinf:P.info? et with
  | none=>rw [hinf] at hz; simp at hz
  | some inf=>rw [hinf] at hz; exact ⟨inf,rfl,by simpa using hz⟩
 have hzv:(zeroValue et).run P w=.ok z w:=by simp [zeroValue,typeInfo,hi1,hi2]
 refine Run.of ?_ hk
 have hg:(getObj b).run P w=.ok (.map es clock) w:=by simp [getObj,Sem.run,hb]
 rcases hf with ⟨j,hf,rfl⟩|⟨hf,rfl,rfl⟩
 ·have hfk:=fo (P:=P) (w:=w) hkt hf
  simp [sOp,execOp,ev0,evE,Instr.lookup,run_underlying hT,hg,hck,hfk]
 ·have hfk:=fo (P:=P) (w:=w) hkt hf
  simp [sOp,execOp,ev0,evE,Instr.lookup,run_underlying hT,hg,hck,hfk,hzv]
theorem G5 (h:Inv w0 X L S w) {T kt et ty:TypeId} {b clock:Nat} {es:Array MapEntry} {n:Int} {v:Value} (i:Nat) (hT:P.underlying T=some (.map kt et)) (hkt:P.underlying kt=some (.int .i64))
  (hi:L[i]?=some (.blk b (.map es clock))) (hf:Instr.findNow (.int .i64) (.int .i64 n) es.toList 0=some none)
  (hk:∀ w',Inv w0 X (L.set i (.blk b (.map (es.push { key:=.int .i64 n,val:=v,born:=clock }) (clock+1)))) S w'->K undef w') :
  Run P (sOp (.mapUpdate T (.const (.map (some b))) (.const (.int .i64 n)) (.const v)) ty) w K:=by
 have hb:w.heap[b]?=some (.map es clock):=h.its _ (b0 hi)
 have hck:∀ e,(Instr.checkKey e 10000 kt (.int .i64 n)).run P w=.ok () w:=fun e=>by
  rw [show (10000:Nat)=9999+1 from rfl,Instr.checkKey]
  simp [run_underlying hkt]
 have hg:(getObj b).run P w=.ok (.map es clock) w:=by simp [getObj,Sem.run,hb]
 have hfk:=fo (P:=P) (w:=w) hkt hf
 refine Run.ofSkip (w':={ w with heap:=w.heap.setIfInBounds b (.map (es.push { key:=.int .i64 n,val:=v,born:=clock }) (clock+1)) }) ?_ (hk _ (h.setBlk hi _ rfl))
 have hst:(setObj b (.map (es.push { key:=.int .i64 n,val:=v,born:=clock }) (clock+1))).run P w=.ok () { w with heap:=w.heap.setIfInBounds b (.map (es.push { key:=.int .i64 n,val:=v,born:=clock }) (clock+1)) }:=by simp [setObj,Sem.run,hb]
 simp [sOp,execOp,ev0,evE,Instr.mapUpdate,run_underlying hT,hg,hck,hfk,hst]
end
end
section
open Go Go.RowKit

abbrev ao:=List (Option T)
mutual
def bm:T->T->ao->Bool × ao
 | .mk k n s ks,u,st=>if k=1 then (match st[n.toNat]? with
   | some (some t)=>(eqT t u,st)
   | _=>(true,st.set n.toNat (some u)))
  else if jM (.mk k n s ks) u=true then di ks u.kids st else (false,st)
def di:List T->List T->ao->Bool × ao
 | [],_,st=>(true,st)
 | _::_,[],st=>(true,st)
 | t::ts,u::us,st=>if (bm t u st).1=true then di ts us (bm t u st).2 else (false,(bm t u st).2)
end
theorem Df (ts us:List T) (st:ao) (j:Nat) (h:j<ts.length) (h':j<us.length) :
  di (ts.drop j) (us.drop j) st=if (bm ts[j] us[j] st).1=true then di (ts.drop (j+1)) (us.drop (j+1)) (bm ts[j] us[j] st).2 else (false,(bm ts[j] us[j] st).2):=by
 rw [cZ h,cZ h',di]
mutual
def okV:T->Prop
 | .mk k n _ ks=>(k=1->0<=n/\n<=25)/\nl ks
def nl:List T->Prop
 | []=>True
 | t::ts=>okV t/\nl ts
end
theorem qi:∀ {ts:List T},nl ts->∀ t∈ts,okV t
 | _::_,h,t,ht=>by
  rcases bG.1 ht with rfl|ht
  ·exact h.1
  ·exact qi h.2 t ht
mutual
def okK:T->Prop
 | .mk k _ _ ks=>k≠0/\Ci ks
def Ci:List T->Prop
 | []=>True
 | t::ts=>okK t/\Ci ts
end
theorem ux:∀ {ts:List T},Ci ts->∀ t∈ts,okK t
 | _::_,h,t,ht=>by
  rcases bG.1 ht with rfl|ht
  ·exact h.1
  ·exact ux h.2 t ht
theorem HV {t:T} (h:dS t=true):(t.kind=1->0<=t.n/\t.n<=25)/\t.kind≠0:=by
 unfold dS at h
 refine ⟨fun hk=>?_,fun hk=>?_⟩
 ·rw [ai hk] at h
  simp only [bw,bk] at h
  exact ⟨h.1,h.2.1⟩
 ·rw [ah (by omega),ah (by omega),ah (by omega)] at h
  cases h
mutual
theorem P9:∀ (t:T) (d:Int),d6 t d=true->okV t/\okK t
 | .mk k n s ks,d,h=>by
  rw [d6] at h
  split at h
  ·cases h
  ·simp only [bw] at h
   obtain ⟨h1,h2⟩:=h
   obtain ⟨h3,h4⟩:=K8 ks (d - 1) h2
   rw [okV,okK]
   obtain ⟨h5,h6⟩:=HV h1
   exact ⟨⟨h5,h3⟩,⟨h6,h4⟩⟩
theorem K8:∀ (ts:List T) (d:Int),d4 ts d=true->nl ts/\Ci ts
 | [],d,h=>by simp [nl,Ci]
 | t::ts,d,h=>by
  rw [d4,bw] at h
  obtain ⟨h1,h2⟩:=P9 t d h.1
  obtain ⟨h3,h4⟩:=K8 ts d h.2
  rw [nl,Ci]
  exact ⟨⟨h1,h3⟩,⟨h2,h4⟩⟩
end
theorem yW {t:T} (h:cn t=true):okV t/\okK t:=by
 rw [cn,bw] at h
 exact P9 t 30 h.1
def z2 (st:ao):Prop:=st.length=26/\∀ t,some t∈st->okK t
theorem Xe {st:ao} {n:Nat} {u:T} (h:z2 st) (hu:okK u):z2 (st.set n (some u)):=by
 refine ⟨by rw [oc]; exact h.1,fun t ht=>?_⟩
 rcases xi ht with ht|ht
 ·exact h.2 t ht
 ·simp only [bg] at ht
  rw [ht]; exact hu
mutual
theorem yd:∀ (t u:T) (st:ao),z2 st->okK u->z2 (bm t u st).2
 | .mk k n s ks,u,st,h,hu=>by
  rw [bm]
  split
  ·split
   ·exact h
   ·exact Xe h hu
  ·split
   ·obtain ⟨k',n',s',ks'⟩:=u
    rw [okK] at hu
    exact Kh ks ks' st h hu.2
   ·exact h
theorem Kh:∀ (ts us:List T) (st:ao),z2 st->Ci us->z2 (di ts us st).2
 | [],_,st,h,_=>by rw [di]; exact h
 | _::_,[],st,h,_=>by rw [di]; exact h
 | t::ts,u::us,st,h,hu=>by
  rw [di]
  rw [Ci] at hu
  split
  ·exact Kh ts us _ (yd t u st h hu.1) hu.2
  ·exact yd t u st h hu.1
end
def ot:List Value:=[.int .i64 0,.int .i64 0,.string ⟨#[]⟩,.slice none 0 0]
def KnownC (S:af) (c:Array Value) (st:ao):Prop:=104<=c.size/\∀ i (h:i<st.length),(st[i]=none->aO c (i * 4) 4=ot)/\(∀ t,st[i]=some t->RdT S (aO c (i * 4) 4) t)
theorem KnownC.set {S:af} {c:Array Value} {st:ao} (h:KnownC S c st) {n:Nat} (hn:n<26) {cs:List Value} {u:T} (hu:RdT S cs u):KnownC S (bl c (n * 4) cs) (st.set n (some u)):=by
 have hlc:=hu.length
 have h1:=h.1
 have hs:104<=(bl c (n * 4) cs).size:=by rw [eV _ _ _ (by omega)]; exact h1
 refine ⟨hs,fun i hi=>?_⟩
 rw [oc] at hi
 by_cases e:n=i
 ·subst e
  rw [QP]
  refine ⟨fun h=>(by cases h),fun t ht=>?_⟩
  simp only [bg] at ht
  subst ht
  have:=ie (c:=c) (o:=n * 4) (vs:=cs) (by omega)
  rw [hlc] at this
  rw [this]
  exact hu
 ·rw [UH e,fN (by omega) (by omega)]
  exact h.2 i hi
section
attribute [local irreducible] Run CondV aw aN
abbrev kvn (kb kp:Nat):Value:=.slice (some ⟨kb,0,none⟩) 26 kp
abbrev kv0 (kb:Nat):Value:=kvn kb 26
theorem Iz (kp:Nat):∀ (t u:T) (S:af) (cs ds:List Value) (kb:Nat) (kc:Array Value) (st:ao),RdT S cs t->RdT S ds u->okV t->okK u->z2 st->KnownC S kc st->
  Tri Tryz.prog OS [.agg cs.toArray,.agg ds.toArray,kvn kb kp] [.blk kb (.cells kc ac)] S fun r I' S'=>S'=S/\r=.bool (bm t u st).1/\∃ kc',I'=[.blk kb (.cells kc' ac)]/\KnownC S kc' (bm t u st).2:=by
 refine T.ind fun k n s ks ih u S cs ds kb kc st h h' hv hu hst hkc=>?_
 intro w hI
 have hds:=h'
 obtain ⟨kv,rfl,_,_,_,hks⟩:=RdT.iff.1 h
 obtain ⟨kv',rfl,_,_,_,hks'⟩:=RdT.iff.1 h'
 obtain ⟨k',n',s',ks'⟩:=u
 simp only [T.name,T.kids,T.kind,T.n] at hks hks' ⊢
 have hlen:=hks.le
 simp only [maxLen] at hlen
 rw [okV] at hv
 obtain ⟨hv1,hv2⟩:=hv
 have huk:=hu
 rw [okK] at hu
 obtain ⟨X,hX⟩:∃ X,X=bI [Item.blk kb (.cells kc ac)]:=⟨_,rfl⟩
 rw [<- hX] at hI ⊢
 refine yg.2 ?_
 dsimp only[yg,dV]
 refine bt hI fun b1 w' hI=>?_
 refine bt hI fun b2 w' hI=>?_
 have hI:Inv w X [.blk b1 (.cells #[.int .i64 k,.int .i64 n,.string s,kv] ac),.blk b2 (.cells #[.int .i64 k',.int .i64 n',.string s',kv'] ac),.blk kb (.cells kc ac)] S w':=hI.perm (by
  refine (cu (l₁:=[_,_]) (l₂:=[_])).trans ?_
  exact List.Perm.refl _)
 refine ag hI 0 rfl aP aH rfl ?_
 refine bo ?_
 refine aI (fun hk1=>?_) (fun hk1=>?_)
 ·obtain ⟨hn0,hn25⟩:=hv1 hk1
  obtain ⟨j,rfl⟩:∃ j:Nat,n=j:=⟨n.toNat,by omega⟩
  have hj:j<26:=by omega
  have hjs:j<st.length:=by rw [hst.1]; exact hj
  refine ag hI 0 rfl bh aH rfl ?_
  refine aD ae hj ?_
  refine aB aP ?_
  rw [bR,ud]
  obtain ⟨hno,hso⟩:=hkc.2 j hjs
  cases hst2:st[j] with
  | none=>
   have hcell:=hno hst2
   refine aX hI 2 aH rfl (by have:=aK hcell 0 _ rfl; exact this) ?_
   refine ei ?_
   refine az (fun hb=>by simp at hb) (fun _=>?_)
   refine ag hI 0 rfl bh aH rfl ?_
   refine ar hI 1 ad rfl rfl ?_
   refine aD ae hj ?_
   rw [bR]
   refine FI hI 2 rfl ad rfl (by have:=hkc.1; exact Nat.ble_eq_true_of_le (by omega)) hds.one fun w' hI=>?_
   have hm:bm (.mk k j s ks) (.mk k' n' s' ks') st=(true,st.set j (some (.mk k' n' s' ks'))):=by
    rw [bm,ai hk1,cV,fT hjs,hst2]
   rw [hm]
   exact ⟨_,_,_,rfl,hI.pick [false,false,true],Ext.refl _ _ _,rfl,rfl,_,rfl,hkc.set hj hds⟩
  | some t0=>
   have hR:=hso t0 hst2
   have hk0:t0.kind≠0:=by
    have:=hst.2 t0 (by rw [<- hst2]; exact bA hjs)
    obtain ⟨a,b,c,d⟩:=t0
    rw [okK] at this
    exact this.1
   obtain ⟨kv0',hcell,_,_,_,_⟩:=RdT.iff.1 hR
   refine aX hI 2 aH rfl (by have:=aK hcell 0 _ rfl; exact this) ?_
   refine ei ?_
   rw [aW hk0]
   refine az (fun _=>?_) (fun hb=>by cases hb)
   refine ⟨fun D x6 kU tA tR sv nj lS rK w_=>Fx D 0 [rK=kvn kb kp,lS=.pointer (some ⟨b1,1,none⟩),nj=.int .i64 j,sv=.pointer (some ⟨kb,j * 4,none⟩),tR=.agg (aO kc (j * 4) 4).toArray,tA=.agg #[.int .i64 k',.int .i64 n',.string s',kv'],kU=.bool (eqT t0 (.mk k' n' s' ks')),x6=.bool (eqT t0 (.mk k' n' s' ks'))]/\Inv w X [.blk b1 (.cells #[.int .i64 k,.int .i64 (j:Int),.string s,kv] ac),.blk b2 (.cells #[.int .i64 k',.int .i64 n',.string s',kv'] ac),.blk kb (.cells kc ac)] S w_,⟨Fx.nil _ _,hI.draw⟩,⟨?_,?_,?_,?_,?_,?_,?_,?_,trivial⟩,?_⟩
   all_goals (intro D bP; intros; rename_i x6 kU tA tR sv nj lS rK w_ hA_; have hF_:=hA_.1; obtain ⟨⟨cm,cj,cd,ci,bT,ct,bZ,cR,_⟩,hI⟩:=hA_)
   ·exact ⟨hF_.set 0 rfl,hI⟩
   ·refine aB bh ?_
    exact ⟨hF_.set 1 rfl,hI⟩
   ·obtain rfl:=cj ‹_›
    refine aX hI 0 aH rfl rfl ?_
    exact ⟨hF_.set 2 rfl,hI⟩
   ·obtain rfl:=cm ‹_›
    obtain rfl:=cd ‹_›
    refine aD ae hj ?_; rw [bR]
    exact ⟨hF_.set 3 rfl,hI⟩
   ·obtain rfl:=ci ‹_›
    refine eE hI 2 (aO kc (j * 4) 4) ad rfl hR.length (fun i v hi=>aK rfl i v hi) ?_
    exact ⟨hF_.set 4 rfl,hI⟩
   ·refine ar hI 1 ad rfl rfl ?_
    exact ⟨hF_.set 5 rfl,hI⟩
   ·obtain rfl:=bT ‹_›
    obtain rfl:=ct ‹_›
    refine Run.callPure oJ oV hI (ph t0 _ S _ _ hR hds) fun w_ hI=>?_
    exact ⟨hF_.set 6 rfl,hI⟩
   ·obtain rfl:=bZ ‹_›
    exact ⟨hF_.set 7 rfl,hI⟩
   obtain ⟨rfl,rfl,rfl,rfl,rfl,rfl,rfl,rfl,_⟩:=hF_.all
   clear hF_ cm cj cd ci bT ct bZ cR
   have hm:bm (.mk k j s ks) (.mk k' n' s' ks') st=(eqT t0 (.mk k' n' s' ks'),st):=by
    rw [bm,ai hk1,cV,fT hjs,hst2]
   rw [hm]
   exact ⟨_,_,_,rfl,hI.pick [false,false,true],Ext.refl _ _ _,rfl,rfl,_,rfl,hkc⟩
 refine ⟨fun q w'=>q=.bool (!jM (.mk k n s ks) (.mk k' n' s' ks'))/\Inv w X [.blk b1 (.cells #[.int .i64 k,.int .i64 n,.string s,kv] ac),.blk b2 (.cells #[.int .i64 k',.int .i64 n',.string s',kv'] ac),.blk kb (.cells kc ac)] S w',?_,?_⟩
 ·refine ag hI 0 rfl aP aH rfl ?_
  refine ag hI 1 rfl aP aH rfl ?_
  refine ei ?_
  by_cases e1:k=k'
  ·rw [aM e1]
   refine rpG ?_
   refine ag hI 0 rfl bh aH rfl ?_
   refine ag hI 1 rfl bh aH rfl ?_
   refine ei ?_
   by_cases e2:n=n'
   ·rw [aM e2]
    refine rpG ?_
    refine ag hI 0 rfl bb aQ rfl ?_
    refine ag hI 1 rfl bb aQ rfl ?_
    refine uD ?_
    by_cases e3:s=s'
    ·rw [aM e3]
     refine rpG ?_
     refine ag hI 0 rfl al aj rfl ?_
     refine aC hks ae ?_
     refine ag hI 1 rfl al aj rfl ?_
     refine aC hks' ae ?_
     refine ei ?_
     refine rpG ?_
     exact ⟨by rw [eL,aM e1,aM e2,aM e3,T4]; rfl,hI⟩
    ·rw [aW e3]
     refine rpG ?_
     exact ⟨by rw [eL,aM e1,aM e2,aW e3]; rfl,hI⟩
   ·rw [aW e2]
    refine rpG ?_
    exact ⟨by rw [eL,aM e1,aW e2]; rfl,hI⟩
  ·rw [aW e1]
   refine rpG ?_
   exact ⟨by rw [eL,aW e1]; rfl,hI⟩

 intro q _ _ _ _ _ _ _ _ _ _ _ _ _ _ _ _ _ _ _ _ _ _ _ _ _ _ _ w'
 rintro ⟨rfl,hI⟩
 cases hd:jM (.mk k n s ks) (.mk k' n' s' ks')
 ·refine az (fun _=>?_) (fun hb=>by cases hb)
  have hm:bm (.mk k n s ks) (.mk k' n' s' ks') st=(false,st):=by rw [bm,ah hk1,ah (by rw [hd]; decide)]
  rw [hm]
  exact ⟨_,_,_,rfl,hI.pick [false,false,true],Ext.refl _ _ _,rfl,rfl,_,rfl,hkc⟩
 refine az (fun hb=>by cases hb) (fun _=>?_)
 have hle:ks.length=ks'.length:=by
  rw [eL] at hd
  simp only [bw,bk] at hd
  exact hd.2.2.2
 have hm:bm (.mk k n s ks) (.mk k' n' s' ks') st=di ks ks' st:=by rw [bm,ah hk1,ai hd]; rfl
 rw [hm]
 have hu2:=hu.2
 refine ⟨fun i w'=>∃ (j:Nat) (st':ao) (kc':Array Value),j<=ks.length/\i=.int .i64 j/\di (ks.drop j) (ks'.drop j) st'=di ks ks' st/\z2 st'/\KnownC S kc' st'/\Inv w X [.blk b1 (.cells #[.int .i64 k,.int .i64 n,.string s,kv] ac),.blk b2 (.cells #[.int .i64 k',.int .i64 n',.string s',kv'] ac),.blk kb (.cells kc' ac)] S w',fun i _=>ks.length - (intOf i).toNat,⟨0,st,kc,be _,rfl,rfl,hst,hkc,hI⟩,?_⟩
 intro t5 _ _ _ _ _ _ _ _ _ _ _ _ _ _ _ _ _ _ _ _ _ w'
 rintro ⟨j,st',kc',hj,rfl,hrel,hst',hkc',hI⟩
 refine ag hI 0 rfl al aj rfl ?_
 refine aC hks ae ?_
 refine bF ?_
 refine aI (fun hji=>?_) (fun hji=>?_)
 ·have hj1:j<ks.length:=by omega
  have hj2:j<ks'.length:=by omega
  obtain ⟨c1,o1,cap1,a1,E1,fz1,rfl,hS1,hR1⟩:=hks.at_ hj1
  obtain ⟨c2,o2,cap2,a2,E2,fz2,rfl,hS2,hR2⟩:=hks'.at_ hj2
  rw [Df ks ks' st' j hj1 hj2] at hrel
  have hcall:=ih _ (bA hj1) ks'[j] S _ _ kb kc' st' hR1 hR2 (qi hv2 _ (bA hj1)) (ux hu2 _ (bA hj2)) hst' hkc'
  have hsn:=yd ks[j] ks'[j] st' hst' (ux hu2 _ (bA hj2))
  generalize hr:bm ks[j] ks'[j] st'=r at hrel hcall hsn
  refine ⟨fun D T2 T9 UO Ua Us Uw UK TS WK x68 x67 Yk KZ w_=>Fx D 0 [KZ=.pointer (some ⟨b1,3,none⟩),Yk=.slice (some ⟨c1,o1,none⟩) ks.length cap1,x67=.int .i64 j,x68=.pointer (some ⟨c1,o1+j * 4,none⟩),WK=.agg (aO a1 (o1+j * 4) 4).toArray,TS=.pointer (some ⟨b2,3,none⟩),UK=.slice (some ⟨c2,o2,none⟩) ks'.length cap2,Uw=.int .i64 j,Us=.pointer (some ⟨c2,o2+j * 4,none⟩),Ua=.agg (aO a2 (o2+j * 4) 4).toArray,UO=kvn kb kp,T9=.bool r.1,T2=.bool (!r.1)]/\(D 11=false->Inv w X [.blk b1 (.cells #[.int .i64 k,.int .i64 n,.string s,.slice (some ⟨c1,o1,none⟩) ks.length cap1] ac),.blk b2 (.cells #[.int .i64 k',.int .i64 n',.string s',.slice (some ⟨c2,o2,none⟩) ks'.length cap2] ac),.blk kb (.cells kc' ac)] S w_)/\(D 11=true->∃ kc2,KnownC S kc2 r.2/\Inv w X [.blk b1 (.cells #[.int .i64 k,.int .i64 n,.string s,.slice (some ⟨c1,o1,none⟩) ks.length cap1] ac),.blk b2 (.cells #[.int .i64 k',.int .i64 n',.string s',.slice (some ⟨c2,o2,none⟩) ks'.length cap2] ac),.blk kb (.cells kc2 ac)] S w_)/\∃ kc3,Inv w X [.blk b1 (.cells #[.int .i64 k,.int .i64 n,.string s,.slice (some ⟨c1,o1,none⟩) ks.length cap1] ac),.blk b2 (.cells #[.int .i64 k',.int .i64 n',.string s',.slice (some ⟨c2,o2,none⟩) ks'.length cap2] ac),.blk kb (.cells kc3 ac)] S w_,⟨Fx.nil _ _,⟨fun _=>hI.draw,ba,kc',hI.draw⟩⟩,⟨?_,?_,?_,?_,?_,?_,?_,?_,?_,?_,?_,?_,?_,trivial⟩,?_⟩
  all_goals (intro D bP; intros; rename_i T2 T9 UO Ua Us Uw UK TS WK x68 x67 Yk KZ w_ hA_; have hF_:=hA_.1; obtain ⟨⟨cm,cj,cd,ci,bT,ct,bZ,cR,dq,er,co,cG,dJ,_⟩,⟨hI0,hI1,kc3,hI⟩⟩:=hA_)
  ·refine aB al ?_
   exact ⟨hF_.set 0 rfl,⟨hI0,hI1,kc3,hI⟩⟩
  ·obtain rfl:=cm ‹_›
   refine aX hI 0 aj rfl rfl ?_
   exact ⟨hF_.set 1 rfl,⟨hI0,hI1,kc3,hI⟩⟩
  ·exact ⟨hF_.set 2 rfl,⟨hI0,hI1,kc3,hI⟩⟩
  ·obtain rfl:=cj ‹_›
   obtain rfl:=cd ‹_›
   refine aD ae hj1 ?_
   exact ⟨hF_.set 3 rfl,⟨hI0,hI1,kc3,hI⟩⟩
  ·obtain rfl:=ci ‹_›
   refine bK ad hR1.length (fun j v hj=>by rw [hI.cellS hS1]; exact aK rfl j v hj) ?_
   exact ⟨hF_.set 4 rfl,⟨hI0,hI1,kc3,hI⟩⟩
  ·refine aB al ?_
   exact ⟨hF_.set 5 rfl,⟨hI0,hI1,kc3,hI⟩⟩
  ·obtain rfl:=ct ‹_›
   refine aX hI 1 aj rfl rfl ?_
   exact ⟨hF_.set 6 rfl,⟨hI0,hI1,kc3,hI⟩⟩
  ·exact ⟨hF_.set 7 rfl,⟨hI0,hI1,kc3,hI⟩⟩
  ·obtain rfl:=bZ ‹_›
   obtain rfl:=cR ‹_›
   refine aD ae hj2 ?_
   exact ⟨hF_.set 8 rfl,⟨hI0,hI1,kc3,hI⟩⟩
  ·obtain rfl:=dq ‹_›
   refine bK ad hR2.length (fun j v hj=>by rw [hI.cellS hS2]; exact aK rfl j v hj) ?_
   exact ⟨hF_.set 9 rfl,⟨hI0,hI1,kc3,hI⟩⟩
  ·exact ⟨hF_.set 10 rfl,⟨hI0,hI1,kc3,hI⟩⟩
  ·obtain rfl:=bT ‹_›
   obtain rfl:=er ‹_›
   obtain rfl:=co ‹_›
   refine Run.call (A:=[_,_]) zI yV (hI0 bP) hcall fun v' I' S w_=>?_
   rintro ⟨rfl,rfl,kc2,rfl,hk2⟩ _ hI
   have hI0:=fun (h:aF D 11 11=false)=>(Bool.noConfusion h:Inv w X [.blk b1 (.cells #[.int .i64 k,.int .i64 n,.string s,.slice (some ⟨c1,o1,none⟩) ks.length cap1] ac),.blk b2 (.cells #[.int .i64 k',.int .i64 n',.string s',.slice (some ⟨c2,o2,none⟩) ks'.length cap2] ac),.blk kb (.cells kc' ac)] S w_)
   have hI1:=fun (_:aF D 11 11=true)=>(⟨kc2,hk2,hI⟩:∃ kc2,KnownC S kc2 r.2/\Inv w X [.blk b1 (.cells #[.int .i64 k,.int .i64 n,.string s,.slice (some ⟨c1,o1,none⟩) ks.length cap1] ac),.blk b2 (.cells #[.int .i64 k',.int .i64 n',.string s',.slice (some ⟨c2,o2,none⟩) ks'.length cap2] ac),.blk kb (.cells kc2 ac)] S w_)
   obtain ⟨kc3,hI⟩:∃ kc3,Inv w X [.blk b1 (.cells #[.int .i64 k,.int .i64 n,.string s,.slice (some ⟨c1,o1,none⟩) ks.length cap1] ac),.blk b2 (.cells #[.int .i64 k',.int .i64 n',.string s',.slice (some ⟨c2,o2,none⟩) ks'.length cap2] ac),.blk kb (.cells kc3 ac)] S w_:=⟨kc2,hI⟩
   exact ⟨hF_.set 11 rfl,⟨hI0,hI1,kc3,hI⟩⟩
  ·obtain rfl:=cG ‹_›
   refine bX ?_
   exact ⟨hF_.set 12 rfl,⟨hI0,hI1,kc3,hI⟩⟩
  obtain ⟨rfl,rfl,rfl,rfl,rfl,rfl,rfl,rfl,rfl,rfl,rfl,rfl,rfl,_⟩:=hF_.all
  have xw:D 11=true:=by assumption
  clear hF_ cm cj cd ci bT ct bZ cR dq er co cG dJ
  obtain ⟨kc2,hk2,hI⟩:=hI1 xw
  clear hI0 hI1
  refine az (fun hne=>?_) (fun he'=>?_)
  ·simp only [js] at hne
   rw [hne,ah (by decide)] at hrel
   rw [<- hrel]
   exact ⟨_,_,_,rfl,hI.pick [false,false,true],Ext.refl _ _ _,rfl,rfl,_,rfl,hk2⟩
  ·simp only [uk] at he'
   rw [he',ai rfl] at hrel
   refine bq (by omega) ?_
   exact ⟨⟨j+1,r.2,kc2,hj1,rfl,hrel,hsn,hk2,hI⟩,by simp [intOf]; omega⟩
 ·have:j=ks.length:=by omega
  subst this
  rw [dL,hle,dL] at hrel
  rw [<- hrel]
  exact ⟨_,_,_,rfl,hI.pick [false,false,true],Ext.refl _ _ _,rfl,rfl,_,rfl,hkc'⟩
end
end
section
open Go Go.RowKit

theorem G7:∀ (a b c:List UInt8),Op.bytesLess a b=true->Op.bytesLess b c=true->Op.bytesLess a c=true
 | _,[],_,h,_=>by simp [Op.bytesLess] at h
 | _,_::_,[],_,h=>by simp [Op.bytesLess] at h
 | [],_::_,_::_,_,_=>by simp [Op.bytesLess]
 | x::a,y::b,z::c,h,h'=>by
  simp only [Op.bytesLess,jC,bk,bw,beq_iff_eq] at h h' ⊢
  rcases h with h|⟨rfl,h⟩
  ·rcases h' with h'|⟨rfl,h'⟩
   ·left; exact UInt8.lt_trans h h'
   ·left; exact h
  ·rcases h' with h'|⟨rfl,h'⟩
   ·left; exact h'
   ·right; exact ⟨rfl,G7 a b c h h'⟩
theorem KT:∀ a:List UInt8,Op.bytesLess a a=false
 | []=>by simp [Op.bytesLess]
 | x::a=>by
  simp only [Op.bytesLess,KT a,lP,Bool.or_false,ji]
  exact UInt8.lt_irrefl x
theorem Of:∀ a b:List UInt8,a≠b->Op.bytesLess a b=true ∨ Op.bytesLess b a=true
 | [],[],h=>absurd rfl h
 | [],_::_,_=>.inl (by simp [Op.bytesLess])
 | _::_,[],_=>.inr (by simp [Op.bytesLess])
 | x::a,y::b,h=>by
  simp only [Op.bytesLess,jC,bk,bw,beq_iff_eq]
  by_cases e:x=y
  ·subst e
   rcases Of a b (fun e=>h (by rw [e])) with h1|h1
   ·exact .inl (.inr ⟨rfl,h1⟩)
   ·exact .inr (.inr ⟨rfl,h1⟩)
  ·rcases UInt8.lt_or_lt_of_ne e with h1|h1
   ·exact .inl (.inl h1)
   ·exact .inr (.inl h1)
def bls (a b:ByteArray):Bool:=Op.bytesLess a.toList b.toList
def cS (a b:Int):Int:=if a<b then -1 else if b<a then 1 else 0
def cX (a b:ByteArray):Int:=if bls a b=true then -1 else if bls b a=true then 1 else 0
def rkS (t:T):Int:=if t.kind=3/\0<t.kids.length then 4 else t.kind
def iF (a b:Int):Int:=if a≠0 then a else b
def hdC (t u:T):Int:=iF (cS (rkS t) (rkS u)) (iF (cS t.n u.n) (iF (cS t.kids.length u.kids.length) (cX t.name u.name)))
mutual
def dH:T->T->Int
 | .mk k n s ks,u=>iF (hdC (.mk k n s ks) u) (dy ks u.kids)
def dy:List T->List T->Int
 | [],[]=>0
 | [],_::_=>-1
 | _::_,[]=>1
 | t::ts,u::us=>iF (dH t u) (dy ts us)
end
mutual
def okO:T->Prop
 | .mk k n s ks=>(((k=1 ∨ k=2)/\s=emptyB/\ks=[]) ∨ (k=3/\n=0))/\BN ks
def BN:List T->Prop
 | []=>True
 | t::ts=>okO t/\BN ts
end
theorem Ie {t:T} (h:dS t=true):((t.kind=1 ∨ t.kind=2)/\t.name=emptyB/\t.kids=[]) ∨ (t.kind=3/\t.n=0):=by
 unfold dS at h
 by_cases e1:t.kind=1
 ·rw [ai e1] at h
  simp only [bw,bk] at h
  exact .inl ⟨.inl e1,h.2.2.1,gr h.2.2.2⟩
 ·rw [ah e1] at h
  by_cases e2:t.kind=2
  ·rw [ai e2] at h
   simp only [bw,bk] at h
   exact .inl ⟨.inr e2,h.2.2.1,gr h.2.2.2⟩
  ·rw [ah e2] at h
   by_cases e3:t.kind=3
   ·rw [ai e3] at h
    simp only [bw,bk] at h
    exact .inr ⟨e3,h.1⟩
   ·rw [ah e3] at h
    cases h
theorem dF (a b:Int):(a<b/\cS a b=-1) ∨ (b<a/\cS a b=1) ∨ (a=b/\cS a b=0):=by
 unfold cS
 by_cases h:a<b
 ·exact .inl ⟨h,ai h⟩
 ·by_cases h':b<a
  ·exact .inr (.inl ⟨h',by rw [ah h,ai h']⟩)
  ·exact .inr (.inr ⟨by omega,by rw [ah h,ah h']⟩)
theorem toList_inj {a b:ByteArray} (h:a.toList=b.toList):a=b:=by
 have:=tC a b
 rw [beq_iff_eq.2 h] at this
 exact of_decide_eq_true this.symm
theorem dN (a b:ByteArray):(bls a b=true/\cX a b=-1) ∨ (bls b a=true/\bls a b=false/\cX a b=1) ∨ (a=b/\cX a b=0):=by
 unfold cX
 cases h:bls a b with
 | true=>exact .inl ⟨rfl,ai rfl⟩
 | false=>
  cases h':bls b a with
  | true=>exact .inr (.inl ⟨rfl,rfl,by simp⟩)
  | false=>
   refine .inr (.inr ⟨?_,by simp⟩)
   refine toList_inj (Decidable.byContradiction fun e=>?_)
   rcases Of _ _ e with h1|h1
   ·rw [bls,h1] at h; cases h
   ·rw [bls,h1] at h'; cases h'
theorem WD {a b:ByteArray} (h:bls a b=true):bls b a=false:=by
 cases h':bls b a with
 | false=>rfl
 | true=>
  have:=G7 _ _ _ h h'
  rw [KT] at this
  cases this

structure TC (a b c:Int):Prop where
 lt:a=-1->b=-1->c=-1
 e1:a=0->c=b
 e2:b=0->c=a
theorem TC.lex {a b c a' b' c':Int} (h:TC a b c) (h':TC a' b' c'):TC (iF a a') (iF b b') (iF c c'):=by
 obtain ⟨h1,h2,h3⟩:=h
 obtain ⟨h4,h5,h6⟩:=h'
 unfold iF
 refine ⟨fun x y=>?_,fun x=>?_,fun x=>?_⟩
 ·by_cases ea:a=0
  ·rw [ah (by omega)] at x
   by_cases eb:b=0
   ·rw [ah (by omega)] at y
    rw [ah (by have:=h2 ea; omega)]
    exact h4 x y
   ·rw [ai (by omega)] at y
    have:=h2 ea
    rw [ai (by omega)]; omega
  ·rw [ai (by omega)] at x
   by_cases eb:b=0
   ·have:=h3 eb
    rw [ai (by omega)]; omega
   ·rw [ai (by omega)] at y
    have:=h1 x y
    rw [ai (by omega)]; omega
 ·by_cases ea:a=0
  ·rw [ah (by omega)] at x
   rw [h2 ea,h5 x]
  ·rw [ai (by omega)] at x; omega
 ·by_cases eb:b=0
  ·rw [ah (by omega)] at x
   rw [h3 eb,h6 x]
  ·rw [ai (by omega)] at x; omega
theorem TC.zero:TC 0 0 0:=⟨fun h=>by omega,fun _=>rfl,fun _=>rfl⟩
theorem TC.int (a b c:Int):TC (cS a b) (cS b c) (cS a c):=by
 have h1:=dF a b
 have h2:=dF b c
 have h3:=dF a c
 exact ⟨fun _ _=>by omega,fun _=>by omega,fun _=>by omega⟩
theorem TC.str (a b c:ByteArray):TC (cX a b) (cX b c) (cX a c):=by
 refine ⟨fun x y=>?_,fun x=>?_,fun x=>?_⟩
 ·rcases dN a b with h|h|h
  ·rcases dN b c with h'|h'|h'
   ·have:=G7 _ _ _ h.1 h'.1
    unfold cX
    rw [ai (show bls a c=true from this)]
   ·omega
   ·omega
  ·omega
  ·omega
 ·rcases dN a b with h|h|h
  ·omega
  ·omega
  ·rw [h.1]
 ·rcases dN b c with h|h|h
  ·omega
  ·omega
  ·rw [h.1]
theorem TC.hd (t u v:T):TC (hdC t u) (hdC u v) (hdC t v):=(TC.int _ _ _).lex ((TC.int _ _ _).lex ((TC.int _ _ _).lex (TC.str _ _ _)))
mutual
theorem TC.term:∀ t u v:T,TC (dH t u) (dH u v) (dH t v)
 | .mk k n s ks,.mk k' n' s' ks',v=>by
  rw [dH,dH,dH]
  exact (TC.hd _ _ _).lex (TC.list ks ks' v.kids)
theorem TC.list:∀ t u v:List T,TC (dy t u) (dy u v) (dy t v)
 | [],[],[]=>by simpa [dy] using TC.zero
 | [],[],_::_=>by rw [dy,dy]; exact ⟨fun h=>by omega,fun _=>rfl,fun h=>by omega⟩
 | [],_::_,[]=>by rw [dy,dy,dy]; exact ⟨fun _ h=>by omega,fun h=>by omega,fun h=>by omega⟩
 | [],_::_,_::_=>by rw [dy,dy]; exact ⟨fun h _=>h,fun h=>by omega,fun h=>rfl⟩
 | _::_,[],[]=>by rw [dy,dy]; exact ⟨fun h _=>h,fun h=>by omega,fun h=>rfl⟩
 | _::_,[],_::_=>by rw [dy,dy]; exact ⟨fun h _=>by omega,fun h=>by omega,fun h=>by omega⟩
 | _::_,_::_,[]=>by rw [dy,dy]; exact ⟨fun _ h=>by omega,fun h=>rfl,fun h=>by omega⟩
 | t::ts,u::us,v::vs=>by
  rw [dy,dy,dy]
  exact (TC.term t u v).lex (TC.list ts us vs)
end
theorem tF (a b:Int):-(iF a b)=iF (-a) (-b):=by
 unfold iF
 by_cases h:a=0
 ·subst h; simp
 ·rw [ai h,ai (by omega)]
theorem xT (a b:Int):cS b a=-cS a b:=by
 have:=dF a b
 have:=dF b a
 omega
theorem zV (a b:ByteArray):cX b a=-cX a b:=by
 rcases dN a b with h|h|h
 ·rw [h.2]
  have:=WD h.1
  unfold cX
  rw [this,ah (by decide),ai h.1]; rfl
 ·rw [h.2.2]
  unfold cX
  rw [ai h.1]
 ·rw [h.2]
  obtain rfl:=h.1
  rw [h.2]; rfl
theorem XY (t u:T):hdC u t=-hdC t u:=by
 rw [hdC,hdC,tF,tF,tF,xT (rkS t),xT t.n,xT t.kids.length,zV t.name]
mutual
theorem BF:∀ t u:T,dH u t=-dH t u
 | .mk k n s ks,.mk k' n' s' ks'=>by
  rw [dH,dH,tF,XY (.mk k n s ks)]
  congr 1
  exact Ln ks ks'
theorem Ln:∀ t u:List T,dy u t=-dy t u
 | [],[]=>by simp [dy]
 | [],_::_=>by simp [dy]
 | _::_,[]=>by simp [dy]
 | t::ts,u::us=>by rw [dy,dy,tF,BF t u,Ln ts us]
end
theorem pS {a b:Int} (h:iF a b=0):a=0/\b=0:=by
 unfold iF at h
 by_cases e:a=0
 ·rw [ah (by omega)] at h; exact ⟨e,h⟩
 ·rw [ai e] at h; exact ⟨h,by omega⟩
theorem uK {a b:Int} (h:a=-1 ∨ a=0 ∨ a=1) (h':b=-1 ∨ b=0 ∨ b=1):iF a b=-1 ∨ iF a b=0 ∨ iF a b=1:=by
 unfold iF
 split
 ·exact h
 ·exact h'
theorem AZ (a b:Int):cS a b=-1 ∨ cS a b=0 ∨ cS a b=1:=by have:=dF a b; omega
theorem Qk (a b:ByteArray):cX a b=-1 ∨ cX a b=0 ∨ cX a b=1:=by
 rcases dN a b with h|h|h
 ·exact .inl h.2
 ·exact .inr (.inr h.2.2)
 ·exact .inr (.inl h.2)
theorem Zg (t u:T):hdC t u=-1 ∨ hdC t u=0 ∨ hdC t u=1:=uK (AZ _ _) (uK (AZ _ _) (uK (AZ _ _) (Qk _ _)))
mutual
theorem AK:∀ t u:T,dH t u=-1 ∨ dH t u=0 ∨ dH t u=1
 | .mk k n s ks,u=>by rw [dH]; exact uK (Zg _ _) (Oi ks u.kids)
theorem Oi:∀ t u:List T,dy t u=-1 ∨ dy t u=0 ∨ dy t u=1
 | [],[]=>by simp [dy]
 | [],_::_=>by simp [dy]
 | _::_,[]=>by simp [dy]
 | t::ts,u::us=>by rw [dy]; exact uK (AK t u) (Oi ts us)
end
theorem Fj {t:T} (h:okO t):((t.kind=1 ∨ t.kind=2)/\t.name=emptyB/\t.kids=[]) ∨ (t.kind=3/\t.n=0):=by
 cases t
 rw [okO] at h
 exact h.1
theorem pM {t:T} (h:t.kids=[]):rkS t=t.kind:=by
 rw [rkS,h]
 simp
theorem WX {t u:T} (ht:okO t) (hu:okO u) (h:hdC t u=0):t.kind=u.kind/\t.n=u.n/\t.name=u.name/\t.kids.length=u.kids.length:=by
 rw [hdC] at h
 obtain ⟨h1,h⟩:=pS h
 obtain ⟨h2,h⟩:=pS h
 obtain ⟨h3,h4⟩:=pS h
 have c1:=dF (rkS t) (rkS u)
 have c2:=dF t.n u.n
 have c3:=dF t.kids.length u.kids.length
 have e3:t.kids.length=u.kids.length:=by omega
 have e1:rkS t=rkS u:=by omega
 refine ⟨?_,by omega,?_,e3⟩
 ·rcases Fj ht with ⟨_,_,hk⟩|⟨hk,_⟩
  ·have hk':u.kids=[]:=gr (by rw [<- e3,hk]; rfl)
   rw [pM hk,pM hk'] at e1
   exact e1
  ·rcases Fj hu with ⟨_,_,hk'⟩|⟨hk',_⟩
   ·have hk:t.kids=[]:=gr (by rw [e3,hk']; rfl)
    rw [pM hk,pM hk'] at e1
    exact e1
   ·rw [hk,hk']
 ·rcases dN t.name u.name with h|h|h
  ·omega
  ·omega
  ·exact h.1
mutual
theorem Ny:∀ t u:T,okO t->okO u->dH t u=0->t=u
 | .mk k n s ks,.mk k' n' s' ks',ht,hu,h=>by
  rw [dH] at h
  obtain ⟨h1,h2⟩:=pS h
  obtain ⟨e1,e2,e3,_⟩:=WX ht hu h1
  rw [okO] at ht hu
  have:=Uk ks ks' ht.2 hu.2 h2
  simp only [T.kind,T.n,T.name] at e1 e2 e3
  subst e1 e2 e3 this
  rfl
theorem Uk:∀ t u:List T,BN t->BN u->dy t u=0->t=u
 | [],[],_,_,_=>rfl
 | [],_::_,_,_,h=>by simp [dy] at h
 | _::_,[],_,_,h=>by simp [dy] at h
 | t::ts,u::us,ht,hu,h=>by
  rw [dy] at h
  rw [BN] at ht hu
  obtain ⟨h1,h2⟩:=pS h
  rw [Ny t u ht.1 hu.1 h1,Uk ts us ht.2 hu.2 h2]
end
theorem KA (t:T):dH t t=0:=by
 have:=BF t t
 omega
theorem Fr {t u v:T} (h:dH t u<0) (h':dH u v<0):dH t v<0:=by
 have h1:=AK t u
 have h2:=AK u v
 have:=(TC.term t u v).lt (by omega) (by omega)
 omega
def fg:List T->T->List T
 | [],t=>[t]
 | x::xs,t=>if dH x t<0 then x::fg xs t else if eqT x t=true then x::xs else t::x::xs
def Sorted:List T->Prop
 | []=>True
 | x::xs=>(∀ y∈xs,dH x y<0)/\Sorted xs
theorem tV {l:List T} {t y:T} (h:y∈fg l t):y∈l ∨ y=t:=by
 induction l with
 | nil=>rw [fg] at h; exact .inr (bL.1 h)
 | cons x xs ih=>
  rw [fg] at h
  split at h
  ·rcases bG.1 h with h|h
   ·exact .inl (by rw [h]; exact aT ..)
   ·rcases ih h with h|h
    ·exact .inl (aS _ h)
    ·exact .inr h
  ·split at h
   ·exact .inl h
   ·rcases bG.1 h with h|h
    ·exact .inr h
    ·exact .inl h
theorem Qu (l:List T) (t:T):t∈fg l t/\∀ y∈l,y∈fg l t:=by
 induction l with
 | nil=>simp [fg]
 | cons x xs ih=>
  rw [fg]
  split
  ·exact ⟨aS _ ih.1,fun y hy=>by
    rcases bG.1 hy with rfl|hy
    ·exact aT ..
    ·exact aS _ (ih.2 y hy)⟩
  ·split
   ·rename_i h
    rw [jJ] at h
    subst h
    exact ⟨aT ..,fun y hy=>hy⟩
   ·exact ⟨aT ..,fun y hy=>aS _ hy⟩
theorem Hh (l:List T) (t:T):(fg l t).length<=l.length+1/\l.length<=(fg l t).length:=by
 induction l with
 | nil=>simp [fg]
 | cons x xs ih=>
  rw [fg]
  split
  ·simp only [bu]; omega
  ·split
   ·simp
   ·simp
theorem uz {l:List T} {t:T} (h:Sorted l) (hl:∀ x∈l,okO x) (ht:okO t):Sorted (fg l t):=by
 induction l with
 | nil=>rw [fg]; exact ⟨fun y hy=>(by cases hy),trivial⟩
 | cons x xs ih=>
  rw [Sorted] at h
  rw [fg]
  split
  ·rename_i hc
   refine ⟨fun y hy=>?_,ih h.2 fun x hx=>hl x (aS _ hx)⟩
   rcases tV hy with hy|rfl
   ·exact h.1 y hy
   ·exact hc
  ·split
   ·exact h
   ·rename_i hc he
    have hx:dH t x<0:=by
     have h1:=AK x t
     have h2:=BF x t
     have h3:dH x t≠0:=fun e=>he ((jJ _ _).2 (Ny x t (hl x (aT ..)) ht e))
     omega
    refine ⟨fun y hy=>?_,h⟩
    rcases bG.1 hy with rfl|hy
    ·exact hx
    ·exact Fr hx (h.1 y hy)
theorem Sorted.nodup:∀ {l:List T},Sorted l->l.Nodup
 | [],_=>Ia
 | x::xs,h=>by
  rw [BC]
  refine ⟨fun hx=>?_,Sorted.nodup h.2⟩
  have:=h.1 x hx
  rw [KA] at this
  omega
end
end Go.Proofs.YtgllldjiaglkcaaGreatDoor
