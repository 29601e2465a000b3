/- spec.l1Compare. -/
import Derived.Test.YtgllldjiaglkcaaGreatDoorZMa2
import Derived.Test.YtgllldjiaglkcaaGreatDoorRows
import Derived.ProofKit
import Derived.ReadAgain
import Derived.Carry
import Derived.Test.YtgllldjiaglkcaaGreatDoorZMaS
import Derived.Test.YtgllldjiaglkcaaGreatDoorZMaF
import Derived.Test.YtgllldjiaglkcaaGreatDoorZMagz
import Derived.Test.YtgllldjiaglkcaaGreatDoorZMa0
import Derived.Laws.BytesArg
import Derived.Laws.StructEq
import Derived.Laws.Tables
namespace Go.Proofs.YtgllldjiaglkcaaGreatDoor
section
open Go Go.RowKit
theorem nW {a b:Int} (h:a≠0):iF a b=a:=ai h
theorem kQ (b:Int):iF 0 b=b:=ah (by decide)
theorem Ne (a:Int):iF a 0=a:=by
 unfold iF
 split <;> omega
theorem jX (a:Int):cS a a=0:=by have:=dF a a; omega
theorem zo {a b:Int} (h:a≠b):cS a b≠0:=by have:=dF a b; omega
theorem l3 (a:ByteArray):cX a a=0:=by
 have:=zV a a
 omega
theorem Sj {a b:ByteArray} (h:a≠b):cX a b≠0:=by
 rcases dN a b with h1|h1|h1
 ·omega
 ·omega
 ·exact absurd h1.1 h
theorem zS (t u:T):dH t u=iF (hdC t u) (dy t.kids u.kids):=by cases t; rw [dH]; rfl
theorem abj {t u:T} (h:rkS t≠rkS u):dH t u=cS (rkS t) (rkS u):=by
 rw [zS,hdC,nW (zo h),nW (zo h)]
theorem Ns {t:T} (h:okO t):(t.kind=1/\rkS t=1/\t.name=emptyB/\t.kids=[]) ∨ (t.kind=2/\rkS t=2/\t.name=emptyB/\t.kids=[]) ∨ (t.kind=3/\t.n=0/\(rkS t=3 ∨ rkS t=4)):=by
 rcases Fj h with ⟨hk,hs,hks⟩|⟨hk,hn⟩
 ·have:=pM hks
  rcases hk with hk|hk
  ·exact .inl ⟨hk,by omega,hs,hks⟩
  ·exact .inr (.inl ⟨hk,by omega,hs,hks⟩)
 ·refine .inr (.inr ⟨hk,hn,?_⟩)
  rw [rkS]
  split
  ·exact .inr rfl
  ·exact .inl hk
theorem abV {t u:T} (ht:okO t) (hu:okO u) (h:rkS t=rkS u) (hk:t.kind≠3):dH t u=cS t.n u.n:=by
 have h1:=Ns ht
 have h2:=Ns hu
 have h3:t.name=emptyB/\t.kids=[]/\u.name=emptyB/\u.kids=[]:=by
  rcases h1 with h1|h1|h1
  ·rcases h2 with h2|h2|h2
   ·exact ⟨h1.2.2.1,h1.2.2.2,h2.2.2.1,h2.2.2.2⟩
   ·omega
   ·omega
  ·rcases h2 with h2|h2|h2
   ·omega
   ·exact ⟨h1.2.2.1,h1.2.2.2,h2.2.2.1,h2.2.2.2⟩
   ·omega
  ·exact absurd h1.1 hk
 rw [zS,hdC,h,jX,kQ,h3.1,h3.2.1,h3.2.2.1,h3.2.2.2,jX,l3,kQ,Ne,dy,Ne]
theorem XW {t u:T} (ht:okO t) (hu:okO u) (h:rkS t=rkS u) (hk:t.kind=3):dH t u=iF (iF (cS t.kids.length u.kids.length) (cX t.name u.name)) (dy t.kids u.kids):=by
 have h1:=Ns ht
 have h2:=Ns hu
 have h3:t.n=u.n:=by
  rcases h1 with h1|h1|h1
  ·omega
  ·omega
  ·rcases h2 with h2|h2|h2 <;> omega
 rw [zS,hdC,h,jX,kQ,h3,jX,kQ]
theorem YE {t u:T} (ht:okO t) (hu:okO u) (h:rkS t=rkS u) (hk:t.kind=3) (hl:(t.kids.length:Int)≠u.kids.length):dH t u=cS t.kids.length u.kids.length:=by
 rw [XW ht hu h hk,nW (zo hl),nW (zo hl)]
theorem X4 {t u:T} (ht:okO t) (hu:okO u) (h:rkS t=rkS u) (hk:t.kind=3) (hl:(t.kids.length:Int)=u.kids.length) (hn:t.name≠u.name):dH t u=cX t.name u.name:=by
 rw [XW ht hu h hk,hl,jX,kQ,nW (Sj hn)]
theorem Yt {t u:T} (ht:okO t) (hu:okO u) (h:rkS t=rkS u) (hk:t.kind=3) (hl:(t.kids.length:Int)=u.kids.length) (hn:t.name=u.name):dH t u=dy t.kids u.kids:=by
 rw [XW ht hu h hk,hl,jX,kQ,hn,l3,kQ]
theorem Ld (ts us:List T) (j:Nat) (h:j<ts.length) (h':j<us.length):dy (ts.drop j) (us.drop j)=iF (dH ts[j] us[j]) (dy (ts.drop (j+1)) (us.drop (j+1))):=by
 rw [cZ h,cZ h',dy]
theorem sL:∀ {ts:List T},BN ts->∀ t∈ts,okO t
 | _::_,h,t,ht=>by
  rcases bG.1 ht with rfl|ht
  ·exact h.1
  ·exact sL h.2 t ht
section
variable {P:Program} {w:World} {K:Value->World->Prop}
attribute [local irreducible] Run
theorem Xr {T:TypeId} {cx cy:Bool} {a b:ByteArray} (hk:K (.bool (bls a b)) w):Run P (cN .lss T cx cy (.string a) (.string b)) w K:=by
 refine Run.of ?_ hk
 simp only [cN,binOp,Op.stringOp,Sem.run_bind,kY,Result.andThen_ok,Sem.run_pure,bls]
theorem XK {T:TypeId} {cx cy:Bool} {a b:ByteArray} (hk:K (.bool (!(bls a b || decide (a=b)))) w):Run P (cN .gtr T cx cy (.string a) (.string b)) w K:=by
 refine Run.of ?_ hk
 rw [<- tC]
 simp only [cN,binOp,Op.stringOp,Sem.run_bind,kY,Result.andThen_ok,Sem.run_pure,bls]
end
section
attribute [local irreducible] Run CondV aw aN
theorem qV (a b:Int) (S:af):Pure Tryz.prog TJ [.int .i64 a,.int .i64 b] S (.int .i64 (cS a b)):=by
 intro w hI
 refine D0.2 ?_
 dsimp only[D0,aZ]
 refine bF ?_
 refine aI (fun h=>done hI (by rw [cS,ai h])) (fun h=>?_)
 refine dC ?_
 exact aI (fun h'=>done hI (by rw [cS,ah h,ai h'])) (fun h'=>done hI (by rw [cS,ah h,ah h']))
theorem Is (a b:ByteArray) (S:af):Pure Tryz.prog L5 [.string a,.string b] S (.int .i64 (cX a b)):=by
 intro w hI
 refine wx.2 ?_
 dsimp only[wx,aZ]
 refine Xr ?_
 refine az (fun h=>done hI (by rw [cX,ai h])) (fun h=>?_)
 refine XK ?_
 rw [h,fL]
 refine az (fun h'=>done hI ?_) (fun h'=>done hI ?_)
 ·rw [js,ji] at h'
  rcases dN a b with h1|h1|h1
  ·rw [h1.1] at h; cases h
  ·rw [h1.2.2]
  ·exact absurd h1.1 h'
 ·rw [uk,bk] at h'
  rw [h',l3]
theorem lT {t:T} {S:af} {cs:List Value} (h:RdT S cs t):Pure Tryz.prog SY [.agg cs.toArray] S (.int .i64 (rkS t)):=by
 intro w hI
 obtain ⟨kv,rfl,_,_,_,hks⟩:=RdT.iff.1 h
 refine Dl.2 ?_
 dsimp only[Dl,aL]
 refine bt hI fun b1 w' hI=>?_
 refine ⟨fun v w'=>v=.bool (decide (t.kind=3) && decide (0<t.kids.length))/\Inv w [] [.blk b1 (.cells #[.int .i64 t.kind,.int .i64 t.n,.string t.name,kv] ac)] S w',?_,?_⟩
 ·refine ag hI 0 rfl aP aH rfl ?_
  refine bo ?_
  by_cases h3:t.kind=3
  ·rw [aM h3]
   refine rpG ?_
   refine ag hI 0 rfl al aj rfl ?_
   refine aC hks ae ?_
   refine dC ?_
   refine rpG ?_
   refine ⟨?_,hI⟩
   rw [dM]
   congr 1
   rw [mP]
   simp only [bk]
   omega
  ·rw [aW h3]
   refine rpG ?_
   exact ⟨rfl,hI⟩
 intro v _ _ _ _ _ _ _ _ w'
 rintro ⟨rfl,hI⟩
 refine az (fun hb=>done hI ?_) (fun hb=>?_)
 ·simp only [bw,bk] at hb
  rw [rkS,ai hb]
 ·refine ag hI 0 rfl aP aH rfl ?_
  refine done hI ?_
  have:¬ (t.kind=3/\0<t.kids.length):=by
   intro h
   rw [aM h.1,aM h.2] at hb
   cases hb
  rw [rkS,ah this]; rfl
theorem EM:∀ (t u:T) (S:af) (cs ds:List Value),RdT S cs t->RdT S ds u->okO t->okO u->Pure Tryz.prog JV [.agg cs.toArray,.agg ds.toArray] S (.int .i64 (dH t u)):=by
 refine T.ind fun k n s ks ih u S cs ds h h' ht hu=>?_
 intro w hI
 have hcs:=h
 have hds:=h'
 obtain ⟨kv,rfl,_,_,_,hks⟩:=RdT.iff.1 h
 obtain ⟨kv',rfl,_,_,_,hks'⟩:=RdT.iff.1 h'
 obtain ⟨k',n',s',ks'⟩:=u
 simp only [T.name,T.kids,T.kind,T.n] at hks hks' ⊢
 have hlen:=hks.le
 simp only [maxLen] at hlen
 refine uJ.2 ?_
 dsimp only[uJ,aZ]
 refine bt hI fun b1 w' hI=>?_
 refine bt hI fun b2 w' hI=>?_
 have hI:Inv w [] [.blk b1 (.cells #[.int .i64 k,.int .i64 n,.string s,kv] ac),.blk b2 (.cells #[.int .i64 k',.int .i64 n',.string s',kv'] ac)] S w':=hI
 refine ⟨fun D CL DB x9 x8 x7 w_=>Fx D 0 [x7=.agg #[.int .i64 k,.int .i64 n,.string s,kv],x8=.int .i64 (rkS (.mk k n s ks)),x9=.agg #[.int .i64 k',.int .i64 n',.string s',kv'],DB=.int .i64 (rkS (.mk k' n' s' ks')),CL=.bool (!decide (rkS (.mk k n s ks)=rkS (.mk k' n' s' ks')))]/\Inv w [] [.blk b1 (.cells #[.int .i64 k,.int .i64 n,.string s,kv] ac),.blk b2 (.cells #[.int .i64 k',.int .i64 n',.string s',kv'] ac)] S w_,⟨Fx.nil _ _,hI.draw⟩,⟨?_,?_,?_,?_,?_,trivial⟩,?_⟩
 all_goals (intro D bP; intros; rename_i CL DB x9 x8 x7 w_ hA_; have hF_:=hA_.1; obtain ⟨⟨cm,cj,cd,ci,bT,_⟩,hI⟩:=hA_)
 ·refine ar hI 0 ad rfl rfl ?_
  exact ⟨hF_.set 0 rfl,hI⟩
 ·obtain rfl:=cm ‹_›
  refine Run.callPure oA oH hI (lT hcs) fun w_ hI=>?_
  exact ⟨hF_.set 1 rfl,hI⟩
 ·refine ar hI 1 ad rfl rfl ?_
  exact ⟨hF_.set 2 rfl,hI⟩
 ·obtain rfl:=cd ‹_›
  refine Run.callPure oA oH hI (lT hds) fun w_ hI=>?_
  exact ⟨hF_.set 3 rfl,hI⟩
 ·obtain rfl:=cj ‹_›
  obtain rfl:=ci ‹_›
  refine ei ?_
  exact ⟨hF_.set 4 rfl,hI⟩
 obtain ⟨rfl,rfl,rfl,rfl,rfl,_⟩:=hF_.all
 clear hF_ cm cj cd ci bT
 refine az (fun hb=>?_) (fun hb=>?_)
 ·simp only [js,ji] at hb
  rw [abj hb]
  refine ⟨fun D x4 l5 sQ Ap wH vZ w_=>Fx D 0 [vZ=.agg #[.int .i64 k,.int .i64 n,.string s,kv],wH=.int .i64 (rkS (.mk k n s ks)),Ap=.agg #[.int .i64 k',.int .i64 n',.string s',kv'],sQ=.int .i64 (rkS (.mk k' n' s' ks')),l5=.int .i64 (cS (rkS (.mk k n s ks)) (rkS (.mk k' n' s' ks'))),x4=.int .i64 (cS (rkS (.mk k n s ks)) (rkS (.mk k' n' s' ks')))]/\Inv w [] [.blk b1 (.cells #[.int .i64 k,.int .i64 n,.string s,kv] ac),.blk b2 (.cells #[.int .i64 k',.int .i64 n',.string s',kv'] ac)] S w_,⟨Fx.nil _ _,hI.draw⟩,⟨?_,?_,?_,?_,?_,?_,trivial⟩,?_⟩
  all_goals (intro D bP; intros; rename_i x4 l5 sQ Ap wH vZ w_ hA_; have hF_:=hA_.1; obtain ⟨⟨cm,cj,cd,ci,bT,ct,_⟩,hI⟩:=hA_)
  ·refine ar hI 0 ad rfl rfl ?_
   exact ⟨hF_.set 0 rfl,hI⟩
  ·obtain rfl:=cm ‹_›
   refine Run.callPure oA oH hI (lT hcs) fun w_ hI=>?_
   exact ⟨hF_.set 1 rfl,hI⟩
  ·refine ar hI 1 ad rfl rfl ?_
   exact ⟨hF_.set 2 rfl,hI⟩
  ·obtain rfl:=cd ‹_›
   refine Run.callPure oA oH hI (lT hds) fun w_ hI=>?_
   exact ⟨hF_.set 3 rfl,hI⟩
  ·obtain rfl:=cj ‹_›
   obtain rfl:=ci ‹_›
   refine Run.callPure sI uH hI (qV _ _ S) fun w_ hI=>?_
   exact ⟨hF_.set 4 rfl,hI⟩
  ·obtain rfl:=bT ‹_›
   exact ⟨hF_.set 5 rfl,hI⟩
  obtain ⟨rfl,rfl,rfl,rfl,rfl,rfl,_⟩:=hF_.all
  clear hF_ cm cj cd ci bT ct
  exact done hI rfl
 have hrk:rkS (.mk k n s ks)=rkS (.mk k' n' s' ks'):=by simpa using hb
 refine ag hI 0 rfl aP aH rfl ?_
 refine ei ?_
 refine az (fun hb=>?_) (fun hb=>?_)
 ·have hk:k≠3:=by simpa using hb
  rw [abV ht hu hrk hk]
  refine ag hI 0 rfl bh aH rfl ?_
  refine ag hI 1 rfl bh aH rfl ?_
  refine Run.callPure sI uH hI (qV _ _ S) fun w' hI=>?_
  exact done hI rfl
 have hk:k=3:=by simpa using hb
 refine ag hI 0 rfl al aj rfl ?_
 refine aC hks ae ?_
 refine ag hI 1 rfl al aj rfl ?_
 refine aC hks' ae ?_
 refine ei ?_
 refine az (fun hb=>?_) (fun hb=>?_)
 ·have hl:(ks.length:Int)≠ks'.length:=by simpa using hb
  rw [YE ht hu hrk hk hl]
  refine ag hI 0 rfl al aj rfl ?_
  refine aC hks ae ?_
  refine ag hI 1 rfl al aj rfl ?_
  refine aC hks' ae ?_
  refine Run.callPure sI uH hI (qV _ _ S) fun w' hI=>?_
  exact done hI rfl
 have hl:(ks.length:Int)=ks'.length:=by simpa using hb
 refine ag hI 0 rfl bb aQ rfl ?_
 refine ag hI 1 rfl bb aQ rfl ?_
 refine uD ?_
 refine az (fun hb=>?_) (fun hb=>?_)
 ·have hn:s≠s':=by simpa using hb
  rw [X4 ht hu hrk hk hl hn]
  refine ag hI 0 rfl bb aQ rfl ?_
  refine ag hI 1 rfl bb aQ rfl ?_
  refine Run.callPure JD Jz hI (Is _ _ S) fun w' hI=>?_
  exact done hI rfl
 have hn:s=s':=by simpa using hb
 have hck:dH (.mk k n s ks) (.mk k' n' s' ks')=dy ks ks':=Yt ht hu hrk hk hl hn
 rw [hck]
 rw [okO] at ht hu
 have htk:=ht.2
 have huk:=hu.2
 refine ⟨fun i w'=>∃ j:Nat,j<=ks.length/\i=.int .i64 j/\dy (ks.drop j) (ks'.drop j)=dy ks ks'/\Inv w [] [.blk b1 (.cells #[.int .i64 k,.int .i64 n,.string s,kv] ac),.blk b2 (.cells #[.int .i64 k',.int .i64 n',.string s',kv'] ac)] S w',
  fun i _=>ks.length - (intOf i).toNat,⟨0,be _,rfl,rfl,hI⟩,?_⟩
 intro t5 _ _ _ _ _ _ _ _ _ _ _ _ _ _ _ _ _ _ _ _ _ _ _ w'
 rintro ⟨j,hj,rfl,hrel,hI⟩
 refine ag hI 0 rfl al aj rfl ?_
 refine aC hks ae ?_
 refine bF ?_
 refine aI (fun hji=>?_) (fun hji=>?_)
 ·have hj1:j<ks.length:=by omega
  have hj2:j<ks'.length:=by omega
  rw [Ld ks ks' j hj1 hj2] at hrel
  obtain ⟨c1,o1,cap1,cc1,E1,fz1,rfl,hS1,hR1⟩:=hks.at_ hj1
  obtain ⟨c2,o2,cap2,cc2,E2,fz2,rfl,hS2,hR2⟩:=hks'.at_ hj2
  have hcall:=ih _ (bA hj1) ks'[j] S _ _ hR1 hR2 (sL htk _ (bA hj1)) (sL huk _ (bA hj2))
  refine ⟨fun D x6 Yk KZ Ok DW DG El Ba CE CD C6 Ei w_=>Fx D 0 [Ei=.pointer (some ⟨b1,3,none⟩),C6=.slice (some ⟨c1,o1,none⟩) ks.length cap1,CD=.int .i64 j,CE=.pointer (some ⟨c1,o1+j * 4,none⟩),Ba=.agg (aO cc1 (o1+j * 4) 4).toArray,El=.pointer (some ⟨b2,3,none⟩),DG=.slice (some ⟨c2,o2,none⟩) ks'.length cap2,DW=.int .i64 j,Ok=.pointer (some ⟨c2,o2+j * 4,none⟩),KZ=.agg (aO cc2 (o2+j * 4) 4).toArray,Yk=.int .i64 (dH ks[j] ks'[j]),x6=.int .i64 (dH ks[j] ks'[j])]/\Inv w [] [.blk b1 (.cells #[.int .i64 k,.int .i64 n,.string s,.slice (some ⟨c1,o1,none⟩) ks.length cap1] ac),.blk b2 (.cells #[.int .i64 k',.int .i64 n',.string s',.slice (some ⟨c2,o2,none⟩) ks'.length cap2] ac)] S w_,⟨Fx.nil _ _,hI.draw⟩,⟨?_,?_,?_,?_,?_,?_,?_,?_,?_,?_,?_,?_,trivial⟩,?_⟩
  all_goals (intro D bP; intros; rename_i x6 Yk KZ Ok DW DG El Ba CE CD C6 Ei w_ hA_; have hF_:=hA_.1; obtain ⟨⟨cm,cj,cd,ci,bT,ct,bZ,cR,dq,er,co,cG,_⟩,hI⟩:=hA_)
  ·refine aB al ?_
   exact ⟨hF_.set 0 rfl,hI⟩
  ·obtain rfl:=cm ‹_›
   refine aX hI 0 aj rfl rfl ?_
   exact ⟨hF_.set 1 rfl,hI⟩
  ·exact ⟨hF_.set 2 rfl,hI⟩
  ·obtain rfl:=cj ‹_›
   obtain rfl:=cd ‹_›
   refine aD ae hj1 ?_
   exact ⟨hF_.set 3 rfl,hI⟩
  ·obtain rfl:=ci ‹_›
   refine bK ad hR1.length (fun j v hj=>by rw [hI.cellS hS1]; exact aK rfl j v hj) ?_
   exact ⟨hF_.set 4 rfl,hI⟩
  ·refine aB al ?_
   exact ⟨hF_.set 5 rfl,hI⟩
  ·obtain rfl:=ct ‹_›
   refine aX hI 1 aj rfl rfl ?_
   exact ⟨hF_.set 6 rfl,hI⟩
  ·exact ⟨hF_.set 7 rfl,hI⟩
  ·obtain rfl:=bZ ‹_›
   obtain rfl:=cR ‹_›
   refine aD ae hj2 ?_
   exact ⟨hF_.set 8 rfl,hI⟩
  ·obtain rfl:=dq ‹_›
   refine bK ad hR2.length (fun j v hj=>by rw [hI.cellS hS2]; exact aK rfl j v hj) ?_
   exact ⟨hF_.set 9 rfl,hI⟩
  ·obtain rfl:=bT ‹_›
   obtain rfl:=er ‹_›
   refine Run.callPure ug tT hI hcall fun w_ hI=>?_
   exact ⟨hF_.set 10 rfl,hI⟩
  ·obtain rfl:=co ‹_›
   exact ⟨hF_.set 11 rfl,hI⟩
  obtain ⟨rfl,rfl,rfl,rfl,rfl,rfl,rfl,rfl,rfl,rfl,rfl,rfl,_⟩:=hF_.all
  clear hF_ cm cj cd ci bT ct bZ cR dq er co cG
  refine ei ?_
  refine az (fun hb=>done hI ?_) (fun hb=>?_)
  ·have hne:dH ks[j] ks'[j]≠0:=by simpa using hb
   rw [<- hrel,nW hne]
  ·have he:dH ks[j] ks'[j]=0:=by simpa using hb
   rw [he,kQ] at hrel
   refine bq (by omega) ?_
   exact ⟨⟨j+1,hj1,rfl,hrel,hI⟩,by simp [intOf]; omega⟩
 ·have e1:ks.drop j=[]:=jQ (by omega)
  have e2:ks'.drop j=[]:=jQ (by omega)
  refine done hI ?_
  rw [<- hrel,e1,e2,dy]
end
end
section
open Go Go.RowKit
attribute [local irreducible] Run CondV aw aN

section
variable {P:Program} {w w0:World} {X:List Nat} {L:List Item} {S:af} {K:Value->Value->Value->World->Prop}
theorem ZA {α:Type} {T Tf U ty ty' ty'' E:TypeId} {k f d:Nat} {R:List Value->α->Prop} {v:Value} {xs:List α} (hI:Inv w0 X L S w) (h:RdSl S k R v xs) (hu:cL P T=some (E,k)) (hf:bS P Tf f=some d) (hU:kC P U=true)
  {i:Nat} (hi:i<xs.length) (hk:∀ cs,R cs xs[i]->∃ u,cs[d]?=some u/\K (elP v (i * k)) (elQ v (i * k) d) u w) :
  Run P (sOp (.indexAddr T (.const v) (.const (.int .i64 i))) ty) w fun p w'=>Run P (sOp (.fieldAddr Tf (.const p) f) ty') w' fun q w''=>Run P (sOp (.load U (.const q)) ty'') w'' (K p q):=by
 obtain ⟨b,o,cap,c,E',fz,rfl,hS,hR⟩:=h.at_ hi
 obtain ⟨u,hu',hK⟩:=hk _ hR
 refine aD hu hi ?_
 refine aB hf ?_
 refine cw hU ?_ hK
 rw [hI.cellS hS]
 exact aK rfl d u hu'
end
def kw (u:T):Bool:=decide (u.kids.length=0)
def eJ (t:T):Bool:=t.kids.all kw && cF t
def gL (c:C):Bool:=eJ c.head && (decide (c.body.length<=3) && (c.body.all eJ && (eI c.head []).all fun n=>jO (bM c.body []) n))
def fi (p:List C):Bool:=dx p && p.all gL

theorem vM {t:T} {S:af} {cs:List Value} (h:RdT S cs t):Pure Tryz.prog O8 [.agg cs.toArray] S (.bool (eJ t)):=by
 intro w hI
 have h0:=h
 obtain ⟨kv,rfl,_,_,hs,hks⟩:=RdT.iff.1 h
 obtain ⟨k,n,s,ks⟩:=t
 simp only [T.name,T.kids,T.kind,T.n] at h0 hs hks ⊢
 have hlen:=hks.le
 simp only [maxLen] at hlen
 have hf:eJ (.mk k n s ks)=(ks.all kw && cF (.mk k n s ks)):=rfl
 refine zW.2 ?_
 dsimp only[zW,aL]
 refine bt hI fun b1 w' hI=>?_
 refine ⟨fun i w'=>∃ j:Nat,j<=ks.length/\i=.int .i64 j/\(ks.drop j).all kw=ks.all kw/\Inv w [] [.blk b1 (.cells #[.int .i64 k,.int .i64 n,.string s,kv] ac)] S w',
  fun i _=>ks.length - (intOf i).toNat,⟨0,be _,rfl,rfl,hI⟩,?_⟩
 intro t3 _ _ _ _ _ _ _ _ _ _ _ _ _ _ _ _ w'
 rintro ⟨j,hj,rfl,hrel,hI⟩
 refine ag hI 0 rfl al aj rfl ?_
 refine aC hks ae ?_
 refine bF ?_
 refine aI (fun hji=>?_) (fun hji=>?_)
 ·have hj':j<ks.length:=by omega
  have hstep:=pA kw ks j hj'
  refine ag hI 0 rfl al aj rfl ?_
  refine ZA hI hks ae al aj hj' fun cs' hcs'=>?_
  obtain ⟨kv',rfl,_,_,_,hkk⟩:=RdT.iff.1 hcs'
  refine ⟨kv',rfl,?_⟩
  refine aC hkk ae ?_
  refine dC ?_
  refine aI (fun hb=>done hI ?_) (fun hb=>?_)
  ·have:kw ks[j]=false:=aW (by omega)
   rw [hf,<- hrel,hstep,this]; rfl
  ·have:kw ks[j]=true:=aM (by omega)
   refine bq (by omega) ?_
   exact ⟨⟨j+1,hj',rfl,by rw [<- hrel,hstep,this]; rfl,hI⟩,by simp [intOf]; omega⟩
 ·have:j=ks.length:=by omega
  subst this
  refine ar hI 0 ad rfl rfl ?_
  refine Run.callPure qQ qD hI (o3 h0) fun w' hI=>done hI ?_
  rw [hf,<- hrel,dL]; rfl
theorem GJ {t:T} {S:af} {cs:List Value} (h:RdT S cs t):Pure Tryz.prog yl [.agg cs.toArray] S (.bool (!kw t)):=by
 intro w hI
 obtain ⟨kv,rfl,_,_,hs,hks⟩:=RdT.iff.1 h
 obtain ⟨k,n,s,ks⟩:=t
 simp only [T.name,T.kids,T.kind,T.n] at hs hks ⊢
 refine wa.2 ?_
 dsimp only[wa,aL]
 refine bt hI fun b1 w' hI=>?_
 refine ag hI 0 rfl al aj rfl ?_
 refine aC hks ae ?_
 refine dC (done hI ?_)
 congr 1
 show decide (0<(ks.length:Int))=!decide (ks.length=0)
 by_cases h:ks.length=0
 ·rw [aM h,aW (by omega)]; rfl
 ·rw [aW h,aM (by omega)]; rfl
theorem AD {t:T} {S:af} {cs:List Value} (h:RdT S cs t):Pure Tryz.prog Rx [.agg cs.toArray] S (.bool (eJ t)):=by
 intro w hI
 have h0:=h
 obtain ⟨kv,rfl,_,_,hs,hks⟩:=RdT.iff.1 h
 obtain ⟨k,n,s,ks⟩:=t
 simp only [T.name,T.kids,T.kind,T.n] at h0 hs hks ⊢
 rw [show eJ (.mk k n s ks)=(ks.all kw && cF (.mk k n s ks)) from rfl]
 refine C3.2 ?_
 dsimp only[C3,aL]
 refine bt hI fun b1 w' hI=>?_
 refine ar hI 0 ad rfl rfl ?_
 refine Run.callPure qW qY hI (oL h0) fun w' hI=>?_
 cases h1:cF (.mk k n s ks)
 ·refine rpG ?_
  exact done hI (by simp)
 ·refine rpG ?_
  refine ag hI 0 rfl al aj rfl ?_
  have hcb:Cb Tryz.prog yl _ [] S (fun _:Unit=>[]) (fun _=>True) (fun _ x=>(!kw x,())) (fun v x=>∃ cs,v=.agg cs.toArray/\RdT S cs x) ks:=
   Cb.pure [] JH IM fun x v _=>by
    rintro ⟨cs,rfl,hcs⟩ w1 hI
    exact (GJ hcs w1 hI).mono fun e w' ⟨he,hI⟩=>⟨_,_,_,he,hI,Ext.refl _ _ _,rfl,rfl,rfl⟩
  refine Run.call0 dj dn hI (ez hcb hks (st:=()) trivial) fun v' I' S' w'=>?_
  rintro ⟨rfl,rfl,rfl⟩ _ hI
  refine bX ?_
  refine rpG ?_
  refine done hI ?_
  rw [gu (fun x=>!kw x) ks,qu]; simp

theorem RA {t:T} (h:eX t=true):d6 t 30=true:=by
 rw [eX,bw] at h
 exact lk h.1
theorem Dm:∀ {ts:List T},ts.all eX=true->d4 ts 30=true
 | [],_=>rfl
 | t::ts,h=>by
  rw [Pp,bw] at h
  rw [d4,RA h.1,Dm h.2]; rfl
theorem N6 {c:C} (h:bN c=true) (l:List Int):gF c.head l=eI c.head l/\dY c.body l=bM c.body l:=by
 simp only [bN,bw] at h
 exact ⟨Qd _ 30 _ (lk h.2.2.1),GR _ 30 _ (Dm h.2.1)⟩
theorem EK {c:C} {S:af} {cs:List Value} (h:RdC S cs c) (hv:bN c=true) (hw:wC c<=1048576):Pure Tryz.prog Jj [.agg cs.toArray] S (.bool (gL c)):=by
 intro w hI
 obtain ⟨hd,ks,rfl,h1,h2⟩:=h
 have h1':=h1
 obtain ⟨kv,rfl,g1,g2,g3,g4⟩:=RdT.iff.1 h1
 have hlen:=h2.le
 simp only [maxLen] at hlen
 unfold wC at hw
 have hcl:=Bq c.body
 have hct:=Mr c.head
 have hsv:=fun l=>N6 hv l
 refine s5.2 ?_
 dsimp only[s5,aL]
 refine bt hI fun b1 w' hI=>?_
 refine ⟨fun t w'=>t=.bool (!(eJ c.head && decide (c.body.length<=3)))/\Inv w [] [.blk b1 (.cells #[.int .i64 c.head.kind,.int .i64 c.head.n,.string c.head.name,kv,ks] au)] S w',?_,?_⟩
 ·refine aB cK ?_
  refine eE hI 0 [.int .i64 c.head.kind,.int .i64 c.head.n,.string c.head.name,kv] ad rfl rfl ?_ ?_
  ·intro j v hj
   match j with
   | 0|1|2|3=>exact hj
   | j+4=>simp at hj
  refine Run.callPure zQ Au hI (vM h1') fun w' hI=>?_
  refine bX ?_
  cases hf:eJ c.head
  ·refine rpG ?_
   exact ⟨rfl,hI⟩
  ·refine rpG ?_
   refine ag hI 0 rfl bp aj rfl ?_
   refine aC h2 ae ?_
   refine dC ?_
   refine rpG ?_
   refine ⟨?_,hI⟩
   congr 1
   by_cases hl:c.body.length<=3
   ·rw [aM hl,aW (by omega)]; rfl
   ·rw [aW hl,aM (by omega)]; rfl
 intro t _ _ _ _ _ _ _ _ _ w'
 rintro ⟨rfl,hI⟩
 refine az (fun hb=>done hI ?_) (fun hb=>?_)
 ·have hb':(eJ c.head && decide (c.body.length<=3))=false:=by rw [js] at hb; exact hb
  rw [gL,<- EL,hb']; rfl
 have hb':(eJ c.head && decide (c.body.length<=3))=true:=by rw [uk] at hb; exact hb
 have hfc:gL c=(c.body.all eJ && (eI c.head []).all fun n=>jO (bM c.body []) n):=by
  rw [gL,<- EL,hb']; rfl
 refine eQ hI kO fun v0 w' hI=>?_
 refine ⟨fun i t w'=>∃ (j:Nat) (l:List Int),j<=c.body.length/\i=.int .i64 j/\(c.body.drop j).all eJ=c.body.all eJ/\dY (c.body.drop j) l=dY c.body []/\l.length+cY (c.body.drop j)<=3000000/\
   Inv w [] [.blk b1 (.cells #[.int .i64 c.head.kind,.int .i64 c.head.n,.string c.head.name,kv,ks] au),dt t l] S w',
  fun i _ _=>c.body.length - (intOf i).toNat,⟨0,[],be _,rfl,rfl,rfl,by simp only [Lo,bQ]; omega,hI⟩,?_⟩
 intro t4 _ _ t3 _ _ _ _ _ _ _ _ _ _ _ _ _ _ _ _ _ _ _ _ w'
 rintro ⟨j,l,hj,rfl,hall,hvs,hl,hI⟩
 refine ag hI 0 rfl bp aj rfl ?_
 refine aC h2 ae ?_
 refine bF ?_
 refine aI (fun hji=>?_) (fun hji=>?_)
 ·have hj':j<c.body.length:=by omega
  have hstep:=pA eJ c.body j hj'
  rw [mE c.body j hj'] at hl
  rw [cZ hj',dY] at hvs
  have hc1:=eN (c.body.drop (j+1))
  have hc2:=BI c.body[j] l
  refine ag hI 0 rfl bp aj rfl ?_
  refine cE hI h2 ae ad hj' (fun _ _=>RdT.length) fun cs' hcs'=>?_
  refine Run.callPure zQ Au hI (vM hcs') fun w' hI=>?_
  refine bX ?_
  refine az (fun hne=>done hI ?_) (fun he=>?_)
  ·have hne':eJ c.body[j]=false:=by simpa using hne
   rw [hfc,<- hall,hstep,hne']; rfl
  ·have he':eJ c.body[j]=true:=by simpa using he
   refine ag hI 0 rfl bp aj rfl ?_
   refine cE hI h2 ae ad hj' (fun _ _=>RdT.length) fun cs' hcs'=>?_
   refine Run.call (A:=[_]) uL ur hI (zq _ S cs' t3 l hcs' (by omega)) fun v' I' S' w'=>?_
   rintro ⟨rfl,rfl⟩ _ hI
   refine bq (by omega) ?_
   exact ⟨⟨j+1,_,hj',rfl,by rw [<- hall,hstep,he']; rfl,hvs,by omega,hI⟩,by simp [intOf]; omega⟩
 ·have:j=c.body.length:=by omega
  subst this
  rw [dL] at hall hvs
  have hvs':l=bM c.body []:=by rw [<- (hsv []).2,<- hvs,dY]
  have hfc2:gL c=(eI c.head []).all fun n=>jO l n:=by
   rw [hfc,<- hall,<- hvs']; rfl
  refine aB cK ?_
  refine eE hI 0 [.int .i64 c.head.kind,.int .i64 c.head.n,.string c.head.name,kv] ad rfl rfl ?_ ?_
  ·intro j v hj
   match j with
   | 0|1|2|3=>exact hj
   | j+4=>simp at hj
  have hI:=hI.rowNil cc 1
  refine Run.call (A:=[_,_]) uL ur hI (zq _ S _ (.slice none 0 0) [] h1' (by simp only [bQ]; omega)) fun v' I' S w'=>?_
  rintro ⟨rfl,rfl⟩ _ hI
  rw [(hsv []).1] at hI
  generalize eI c.head []=hv at hI hfc2
  obtain ⟨S1,hle1,hrd1,hI,hback1⟩:=Inv.lend (A:=[_,_]) hI
  obtain ⟨S2,hle2,hrd2,hI,hback2⟩:=Inv.lend (A:=[_]) hI
  have hr1:=hrd1.ints.mono hle2 fun _ _ h=>h
  have hr2:=hrd2.ints
  have hle:Sle S S2:=hle1.trans hle2
  have hlv:=hr1.le
  simp only [maxLen] at hlv
  refine ⟨fun i w'=>∃ j:Nat,j<=hv.length/\i=.int .i64 j/\(hv.drop j).all (fun n=>jO l n)=hv.all (fun n=>jO l n)/\Inv w [] [.blk b1 (.cells #[.int .i64 c.head.kind,.int .i64 c.head.n,.string c.head.name,kv,ks] au)] S2 w',
   fun i _=>hv.length - (intOf i).toNat,⟨0,be _,rfl,rfl,hI⟩,?_⟩
  intro t6 _ _ _ _ _ _ _ _ _ _ _ _ _ _ w'
  rintro ⟨j,hj,rfl,hall,hI⟩
  refine aC hr1 c5 ?_
  refine bF ?_
  refine aI (fun hji=>?_) (fun hji=>?_)
  ·have hj':j<hv.length:=by omega
   have hstep:=pA (fun n=>jO l n) hv j hj'
   refine io hI hr1 c5 aH hj' (fun cs hcs=>hcs) ?_
   refine Run.callPure SG Rv hI (Ot hv[j] hr2) fun w' hI=>?_
   refine bX ?_
   refine az (fun hne=>jz hI hle ?_) (fun he=>?_)
   ·have hne':jO l hv[j]=false:=by simpa using hne
    rw [hfc2,<- hall,hstep,hne']; rfl
   ·have he':jO l hv[j]=true:=by simpa using he
    refine bq (by omega) ?_
    exact ⟨⟨j+1,hj',rfl,by rw [<- hall,hstep,he']; rfl,hI⟩,by simp [intOf]; omega⟩
  ·have:j=hv.length:=by omega
   subst this
   refine jz hI hle ?_
   rw [hfc2,<- hall,dL]; rfl

theorem xB {t:T} {S:af} {cs:List Value} (h:RdT S cs t):Pure Tryz.prog pU [.agg cs.toArray] S (.bool (!eJ t)):=by
 intro w hI
 have hl:=h.length
 refine ou.2 ?_
 dsimp only[ou,aL]
 refine bt hI fun b1 w' hI=>?_
 refine ar hI 0 ad rfl (by simpa [Value.cells] using hl) ?_
 refine Run.callPure C7 CM hI (AD h) fun w' hI=>?_
 exact bX (done hI rfl)
theorem BG {c:C} {S:af} {cs:List Value} (h:RdC S cs c) (hw:wC c<=1048576):Pure Tryz.prog HD [.agg cs.toArray] S (.bool (gL c)):=by
 intro w hI
 obtain ⟨hd,ks,rfl,h1,h2⟩:=h
 have h1':=h1
 obtain ⟨kv,rfl,g1,g2,g3,g4⟩:=RdT.iff.1 h1
 have hlen:=h2.le
 simp only [maxLen] at hlen
 unfold wC at hw
 have hcl:=Bq c.body
 have hct:=Mr c.head
 refine ru.2 ?_
 dsimp only[ru,aL]
 refine bt hI fun b1 w' hI=>?_
 have hcb:Cb Tryz.prog pU _ [] S (fun _:Unit=>[]) (fun _=>True) (fun _ x=>(!eJ x,())) (fun v x=>∃ cs,v=.agg cs.toArray/\RdT S cs x) c.body:=
  Cb.pure [] za zb fun x v _=>by
   rintro ⟨cs,rfl,hcs⟩ w1 hI
   exact (xB hcs w1 hI).mono fun e w' ⟨he,hI⟩=>⟨_,_,_,he,hI,Ext.refl _ _ _,rfl,rfl,rfl⟩
 refine ⟨fun t w'=>t=.bool (!(eJ c.head && (decide (c.body.length<=3) && c.body.all eJ)))/\Inv w [] [.blk b1 (.cells #[.int .i64 c.head.kind,.int .i64 c.head.n,.string c.head.name,kv,ks] au)] S w',?_,?_⟩
 ·refine aB cK ?_
  refine eE hI 0 [.int .i64 c.head.kind,.int .i64 c.head.n,.string c.head.name,kv] ad rfl rfl ?_ ?_
  ·intro j v hj
   match j with
   | 0|1|2|3=>exact hj
   | j+4=>simp at hj
  refine Run.callPure C7 CM hI (AD h1') fun w' hI=>?_
  refine bX ?_
  cases hf:eJ c.head
  ·refine rpG ?_
   exact ⟨rfl,hI⟩
  ·refine rpG ?_
   refine ag hI 0 rfl bp aj rfl ?_
   refine aC h2 ae ?_
   refine dC ?_
   by_cases hl:c.body.length<=3
   ·rw [aM hl,aW (show ¬ (3:Int)<c.body.length by omega)]
    refine rpG ?_
    refine ag hI 0 rfl bp aj rfl ?_
    refine Run.call0 dj dn hI (ez hcb h2 (st:=()) trivial) fun v' I' S' w'=>?_
    rintro ⟨rfl,rfl,rfl⟩ _ hI
    refine rpG ?_
    refine ⟨?_,by rw [dB] at hI; exact hI⟩
    rw [gu (fun x=>!eJ x) c.body,<- qu]; simp
   ·rw [aW hl,aM (show (3:Int)<c.body.length by omega)]
    refine rpG ?_
    exact ⟨rfl,hI⟩
 intro t _ _ _ _ _ _ _ _ _ _ _ _ _ _ w'
 rintro ⟨rfl,hI⟩
 refine az (fun hb=>done hI ?_) (fun hb=>?_)
 ·have hb':(eJ c.head && (decide (c.body.length<=3) && c.body.all eJ))=false:=by rw [js] at hb; exact hb
  rw [gL]
  rw [<- EL,<- EL,EL (eJ c.head),hb']; rfl
 have hb':(eJ c.head && (decide (c.body.length<=3) && c.body.all eJ))=true:=by rw [uk] at hb; exact hb
 have hfc:gL c=(eI c.head []).all fun n=>jO (bM c.body []) n:=by
  rw [gL]
  rw [<- EL,<- EL,EL (eJ c.head),hb']; rfl
 refine ag hI 0 rfl bp aj rfl ?_
 refine Run.call0 i6 ja hI (il h2 (by omega)) fun v1 I' S w'=>?_
 rintro ⟨rfl,rfl⟩ _ hI
 generalize bM c.body []=l at hI hfc
 refine aV hI T6 fun b3 w' hI=>?_
 have hv1:v1.cells=#[v1]/\v1.oneCell'=true:=by
  have:=hI.its (dt v1 l) (by simp)
  rcases this.2 with ⟨rfl,_⟩|⟨g,cap,cur,rfl,_⟩ <;> exact ⟨rfl,rfl⟩
 refine c8 hI 2 (n:=1) (by rw [hv1.1]; rfl) (by rw [gH]; rfl) rfl (lC rfl) (by rw [hv1.1]; simpa using hv1.2) fun w' hI=>?_
 refine aB cK ?_
 refine eE hI 0 [.int .i64 c.head.kind,.int .i64 c.head.n,.string c.head.name,kv] ad rfl rfl ?_ ?_
 ·intro j v hj
  match j with
  | 0|1|2|3=>exact hj
  | j+4=>simp at hj
 have hI:=hI.rowNil cc 1
 refine Run.call (A:=[_,_,_]) qH qR hI (vX _ S _ (.slice none 0 0) [] h1' (by simp only [bQ]; omega)) fun v' I' S w'=>?_
 rintro ⟨rfl,rfl⟩ _ hI
 generalize eI c.head []=hv at hI hfc
 refine gf ?_
 have hst:bl (Value.slice none 0 0).cells 0 v1.cells.toList=#[v1]:=by
  rw [hv1.1]; rfl
 have hI:Inv w [] ([.blk b1 (.cells #[.int .i64 c.head.kind,.int .i64 c.head.n,.string c.head.name,kv,ks] au),dt v1 l,.blk b3 (.cells #[v1] jw),dt v' hv]) S w':=by
  have:=hI
  simp only [iC,s3] at this
  rw [hst] at this
  exact this
 obtain ⟨S1,hle1,hrd1,hI,hback1⟩:=Inv.lend (A:=[_,_,_]) hI
 have hI:=hI.perm (M:=[.blk b1 (.cells #[.int .i64 c.head.kind,.int .i64 c.head.n,.string c.head.name,kv,ks] au),.blk b3 (.cells #[v1] jw),dt v1 l]) (List.Perm.cons _ (List.Perm.swap _ _ _))
 obtain ⟨S2,hle2,hrd2,hI,hback2⟩:=Inv.lend (A:=[_,_]) hI
 have hr1:=hrd1.ints.mono hle2 fun _ _ h=>h
 have hr2:=hrd2.ints
 have hle:Sle S S2:=hle1.trans hle2
 have hcb2:Cb Tryz.prog BE _ [.pointer (some ⟨b3,0,none⟩)] S2 (fun _:Unit=>[.blk b3 (.cells #[v1] jw)]) (fun _=>True) (fun _ x=>(!jO l x,())) (fun v x=>v=.int .i64 x) hv:=
  Cb.pure [.blk b3 (.cells #[v1] jw)] At yD fun x v _=>by
   rintro rfl w1 hI
   refine oq.2 ?_
   dsimp only[oq,aZ]
   refine aX hI 0 gH rfl rfl ?_
   refine Run.callPure oj oD hI (nh x hr2) fun w' hI=>?_
   refine bX ?_
   exact ⟨_,_,_,rfl,hI,Ext.refl _ _ _,rfl,rfl,rfl⟩
 refine Run.call (A:=[_]) sy sr hI (vq hcb2 hr1 (st:=()) trivial) fun v' I' S' w'=>?_
 rintro ⟨rfl,rfl,rfl⟩ _ hI
 refine bX ?_
 refine jz hI hle ?_
 rw [gu (fun x=>!jO l x) hv,qu,hfc]

theorem xP {p:List C} {S:af} {v:Value} (h:RdSl S 5 (RdC S) v p) (hw:wP p<=1048576):Pure Tryz.prog EO [v] S (.bool (fi p)):=by
 intro w hI
 have hlen:=h.le
 simp only [maxLen] at hlen
 refine pR.2 ?_
 dsimp only[pR,aL]
 refine ⟨fun i w'=>∃ j:Nat,j<=p.length/\i=.int .i64 j/\(p.drop j).all gL=p.all gL/\Inv w [] [] S w',fun i _=>p.length - (intOf i).toNat,⟨0,be _,rfl,rfl,hI⟩,?_⟩
 intro t3 _ _ _ _ _ _ _ _ _ _ _ _ _ _ _ _ _ w'
 rintro ⟨j,hj,rfl,hall,hI⟩
 refine ⟨fun t w'=>t=.bool (decide (j<p.length) && dx p)/\Inv w [] [] S w',?_,?_⟩
 ·refine aC h cD ?_
  refine bF ?_
  by_cases hji:j<p.length
  ·rw [aM (show (j:Int)<p.length by omega),aM hji]
   refine rpG ?_
   refine Run.callPure oe oi hI (kW h hw) fun w' hI=>?_
   refine rpG ?_
   exact ⟨rfl,hI⟩
  ·rw [aW (show ¬ (j:Int)<p.length by omega),aW hji]
   refine rpG ?_
   exact ⟨rfl,hI⟩
 intro t _ _ _ _ _ _ _ w'
 rintro ⟨rfl,hI⟩
 refine az (fun hb=>?_) (fun hb=>?_)
 ·simp only [bw,bk] at hb
  obtain ⟨hj',hpv⟩:=hb
  have hstep:=pA gL p j hj'
  have hwm:=LM (bA hj')
  have hcv:bN p[j]=true:=by
   simp only [dx,bw,dE] at hpv
   exact hpv.2 _ (bA hj')
  refine cE hI h cD bz hj' (fun _ _=>RdC.length) fun cs' hcs'=>?_
  refine Run.callPure FQ Hu hI (EK hcs' hcv (by omega)) fun w' hI=>?_
  refine bX ?_
  refine az (fun hne=>done hI ?_) (fun he=>?_)
  ·have hne':gL p[j]=false:=by simpa using hne
   rw [fi,<- hall,hstep,hne']; simp
  ·have he':gL p[j]=true:=by simpa using he
   refine bq (by omega) ?_
   exact ⟨⟨j+1,hj',rfl,by rw [<- hall,hstep,he']; rfl,hI⟩,by simp [intOf]; omega⟩
 ·refine Run.callPure oe oi hI (kW h hw) fun w' hI=>done hI ?_
  rw [fi]
  by_cases hji:j<p.length
  ·rw [aM hji,dM] at hb
   rw [hb]; rfl
  ·rw [<- hall,List.drop_of_length_le (by omega)]; simp
theorem tx {c:C} {S:af} {cs:List Value} (h:RdC S cs c) (hw:wC c<=1048576):Pure Tryz.prog n7 [.agg cs.toArray] S (.bool (!gL c)):=by
 intro w hI
 have hl:=h.length
 refine mB.2 ?_
 dsimp only[mB,aL]
 refine bt hI fun b1 w' hI=>?_
 refine ar hI 0 bz rfl (by simpa [Value.cells] using hl) ?_
 refine Run.callPure EN Ez hI (BG h hw) fun w' hI=>?_
 exact bX (done hI rfl)
theorem xN {p:List C} {S:af} {v:Value} (h:RdSl S 5 (RdC S) v p) (hw:wP p<=1048576):Pure Tryz.prog ET [v] S (.bool (fi p)):=by
 intro w hI
 refine pe.2 ?_
 dsimp only[pe,aL]
 refine Run.callPure nS oo hI (lO h) fun w' hI=>?_
 rw [fi]
 cases hv:dx p
 ·refine rpG ?_
  exact done hI rfl
 ·refine rpG ?_
  have hcb:Cb Tryz.prog n7 _ [] S (fun _:Unit=>[]) (fun _=>True) (fun _ x=>(!gL x,())) (fun v x=>∃ cs,v=.agg cs.toArray/\RdC S cs x) p:=
   Cb.pure [] xO wQ fun x v hx=>by
    rintro ⟨cs,rfl,hcs⟩ w1 hI
    have hwm:=LM hx
    exact (tx hcs (by omega) w1 hI).mono fun e w' ⟨he,hI⟩=>⟨_,_,_,he,hI,Ext.refl _ _ _,rfl,rfl,rfl⟩
  refine Run.call0 iK iM hI (jt hcb h (st:=()) trivial) fun v' I' S' w'=>?_
  rintro ⟨rfl,rfl,rfl⟩ _ hI
  refine bX ?_
  refine rpG ?_
  refine done hI ?_
  rw [gu (fun x=>!gL x) p,qu]; rfl
end
section
open Go Go.ChangeShapes Go.WideShapes Go.ChangeAt Go.RowKit

def UW (W:World):af:=fun b=>W.heap[b]?
section
variable {H:Type} {enc:TypeId × Value->H} {P:Program} {W:World} {sp:Nat->Bool} {held:Bool}
theorem Vw {a:Addr} {v:Value} (h:W.cell? a=some v):∃ b o c E fz,a=⟨b,o,none⟩/\W.heap[b]?=some (.cells c E fz)/\c[o]?=some v:=by
 obtain ⟨b,o,s⟩:=a
 simp only [World.cell?] at h
 split at h
 ·rename_i c E fz hb
  cases s with
  | none=>exact ⟨b,o,c,E,fz,rfl,hb,by simpa using h⟩
  | some s=>simp at h
 ·cases h
theorem Yx {b o k:Nat} {cs:List Value} {c:Array Value} {E:TypeId} {fz:Nat × Nat} (hb:W.heap[b]?=some (.cells c E fz)) (h:W.cells? 0 ⟨b,o,none⟩ k=some cs):aO c o k=cs:=by
 unfold World.cells? at h
 rw [ai (be _)] at h
 have hl:cs.length=k:=by simpa using mapM_some_length h
 apply wv
 intro i
 rw [aO,uj]
 by_cases hi:i<k
 ·rw [ai hi,Ax]
  have:=mapM_some_get h i i (by simp [hi])
  rw [<- this,fx]
  simp [World.cell?,hb]
 ·rw [ah hi,W3 (by omega)]
theorem Dz {α:Type} (p:Nat->α->Prop):∀ n:Nat,(∀ i,i<n->∃ t,p i t)->∃ xs:List α,xs.length=n/\∀ i (h:i<xs.length),p i xs[i]
 | 0,_=>⟨[],rfl,fun i h=>by simp at h⟩
 | n+1,h=>by
  obtain ⟨xs,hl,hx⟩:=Dz p n fun i hi=>h i (by omega)
  obtain ⟨t,ht⟩:=h n (by omega)
  refine ⟨xs++[t],by simp [hl],fun i hi=>?_⟩
  by_cases e:i<xs.length
  ·rw [gt e]
   exact hx i e
  ·have:i=xs.length:=by simp at hi; omega
   subst this
   simp only [fP (aR _),eD,mF]
   rw [hl]
   exact ht
theorem uy {T e:TypeId} {k:Nat} (h:cL P T=some (e,k)):P.underlying T=some (.slice e)/\P.cellsOf e=k:=by
 unfold cL at h
 split at h
 ·rename_i e' he
  rw [RM] at h
  obtain ⟨i,hi,hx⟩:=h
  simp only [cT] at hx
  obtain ⟨rfl,rfl⟩:=hx
  exact ⟨he,by simp [Program.cellsOf,hi]⟩
 ·cases h
theorem YO {α:Type} {R:List Value->α->Prop} {T e:TypeId} {k fuel:Nat} {v:Value} {x:DataW H × List MemPlace} (hu:cL P T=some (e,k)) (hk0:0<k)
  (h:DataW.trod enc P W 0 sp held fuel T [v]=some x) (hel:∀ n cs y,fuel=n+1->DataW.trod enc P W 0 sp held n e cs=some y->∃ t:α,R cs t):∃ xs,RdSl (UW W) k R v xs:=by
 obtain ⟨hu1,hk⟩:=uy hu
 rcases DataW.trod_slice hu1 h with ⟨hcs,_⟩|⟨a,len,cap,elems,rest,n,hf,hcs,_,_,hl,hc,hlen,hE,_⟩
 ·simp only [jp,mU] at hcs
  subst hcs
  exact ⟨[],none,0,rfl,aR _,be _,.inl rfl⟩
 ·simp only [jp,mU] at hcs
  subst hcs
  have hE':∀ i,i<len->∃ t:α,∃ cs,W.cells? 0 (a.add (i * k)) k=some cs/\R cs t:=by
   intro i hi
   have:=hE i hi
   rw [hk,fT (by omega),Option.bind_eq_some_iff] at this
   obtain ⟨cs,h1,h2⟩:=this
   obtain ⟨t,ht⟩:=hel n cs _ hf h2
   exact ⟨t,cs,h1,ht⟩
  obtain ⟨xs,hxl,hxs⟩:=Dz _ len hE'
  subst hxl
  refine ⟨xs,some a,cap,rfl,hl,hc,?_⟩
  by_cases h0:xs.length=0
  ·exact .inl (gr h0)
  ·obtain ⟨cs0,h1,_⟩:=hxs 0 (by omega)
   have e0:a.add (0 * k)=a:=by rw [Br]; simp [Addr.add]
   rw [e0] at h1
   have hc0:∃ u,W.cell? a=some u:=by
    unfold World.cells? at h1
    rw [ai (be _)] at h1
    have hl0:cs0.length=k:=by simpa using mapM_some_length h1
    have:=mapM_some_get h1 0 0 (by simp [hk0])
    rw [fT (by omega)] at this
    have e1:a.add 0=a:=by simp [Addr.add]
    rw [e1] at this
    exact ⟨_,this⟩
   obtain ⟨u,hu0⟩:=hc0
   obtain ⟨b,o,c,E,fz,rfl,hb,_⟩:=Vw hu0
   refine .inr ⟨b,o,c,E,fz,rfl,hb,fun i hi=>?_⟩
   obtain ⟨cs,h2,hR⟩:=hxs i hi
   rw [fx] at h2
   rw [Yx hb h2]
   exact hR
end

section
variable {H:Type} {enc:TypeId × Value->H} {W:World} {sp:Nat->Bool} {held:Bool}
theorem four {cs:List Value} (h:cs.length=4):∃ a b c d,cs=[a,b,c,d]:=by
 match cs,h with
 | [a,b,c,d],_=>exact ⟨a,b,c,d,rfl⟩
end

theorem Inv.entry (W:World):Inv W [] [] (UW W) W:=Inv.start (L:=[]) (by simp) (by simp [bI]) fun b o hb=>⟨hb,by simp [bI]⟩
theorem Inv.same {W W':World} {L:List Item} {S:af} (h:Inv W [] L S W') (b:Nat) (hb:b<W.heap.size):W'.heap[b]?=W.heap[b]?:=h.old b hb (by simp)
theorem Vl {W W':World} {may:MemPlace->Prop} (ho:W'.os=W.os) (hp:W'.output=W.output) (h:∀ b,b<W.heap.size->W'.heap[b]?=W.heap[b]?):W.keptBut W' may:=by
 refine ⟨ho,hp,fun i hi=>?_⟩
 rw [h i hi]
 split
 ·rename_i e1 e2
  rw [e1] at e2
  simp only [bg,Obj.cells.injEq] at e2
  obtain ⟨rfl,rfl,rfl⟩:=e2
  exact ⟨rfl,rfl,rfl,fun _ _=>rfl⟩
 ·rename_i e1 e2
  rw [e1] at e2
  simp only [bg,Obj.map.injEq] at e2
  obtain ⟨rfl,rfl⟩:=e2
  exact .inr ⟨rfl,rfl⟩
 ·rfl
end
section
open Go Go.RowKit
attribute [local irreducible] Run CondV aw aN
end
section
open Go Go.RowKit
attribute [local irreducible] Run CondV aw aN
end
section
open Go Go.RowKit
section
variable {P:Program} {w w0:World} {X:List Nat} {L:List Item} {S:af} {K:Value->World->Prop}
attribute [local irreducible] Run CondV aw aN
theorem Z4 {T:TypeId} {cx cy:Bool} {a b:Int} (hb:b≠0) (hk:K (.int .i64 (a.tmod b)) w):Run P (cN .rem T cx cy (.int .i64 a) (.int .i64 b)) w K:=
 Run.of (by simp [cN,c9,binOp,Op.intDiv,hb]) hk
theorem acb {T:TypeId} {cx cy:Bool} {a b:Int} (hb:b≠0) (hr:-9223372036854775808<=a.tdiv b/\a.tdiv b<=9223372036854775807) (hk:K (.int .i64 (a.tdiv b)) w):Run P (cN .quo T cx cy (.int .i64 a) (.int .i64 b)) w K:=
 Run.of (by simp [cN,c9,binOp,Op.intDiv,hb,IntWalk.i64_in _ hr]) hk
theorem Uz {T U ty:TypeId} {k k':IntKind} {n:Int} (hT:P.underlying T=some (.int k')) (hU:P.underlying U=some (.int k)) (hk:K (.int k (k.wrap n)) w):Run P (sOp (.convert T U (.const (.int k' n))) ty) w K:=
 Run.of (by simp [sOp,execOp,ev0,evE,convert,Conv.intToInt,run_underlying hT,run_underlying hU]) hk
end

section
attribute [local irreducible] Run CondV aw aN
end
end
section
open Go Go.RowKit

theorem Part.upd {α:Type} {k:Nat} {R:bn->List Value->α->Prop} {c c':Array Value} {Ls:List bn} {xs:List α} (h:Part k R c Ls xs) {i:Nat} {L':bn} {x:α} (hx:R L' (aO c' (i * k) k) x)
  (hne:∀ j,j≠i->aO c' (j * k) k=aO c (j * k) k):Part k R c' (Ls.set i L') (xs.set i x):=by
 refine ⟨by simp [h.1],fun j h1 h2=>?_⟩
 by_cases e:i=j
 ·subst e
  rw [QP,QP]
  exact hx
 ·rw [UH e,UH e,hne j fun e'=>e e'.symm]
  exact h.2 j (by simpa using h1) (by simpa using h2)
section
attribute [local irreducible] Run CondV aw aN
end
end
section
open Go Go.RowKit

section
attribute [local irreducible] Run CondV aw aN
theorem TrC.parts {L:bn} {cs:List Value} {c:C} (h:TrC L cs c):∃ kv ks L1 L2,cs=[.int .i64 c.head.kind,.int .i64 c.head.n,.string c.head.name,kv,ks]/\L=L1++L2/\TrSl 4 TrT L1 kv c.head.kids/\TrSl 4 TrT L2 ks c.body:=by
 obtain ⟨hd,ks,L1,L2,rfl,rfl,h1,h2⟩:=h
 obtain ⟨kv,rfl,_,_,_,hkT⟩:=TrT.iff.1 h1
 exact ⟨kv,ks,L1,L2,rfl,rfl,hkT,h2⟩
end
end
section
open Go Go.RowKit

section
attribute [local irreducible] Run CondV aw aN
end
end
section
open Go Go.RowKit

theorem LQ:Tryz.prog.underlying dk=some (.struct (Tryz.prog.fieldsOf dk)):=by kernel_rfl
theorem RX:Tryz.prog.stoodInHeld dk=false:=by kernel_rfl
theorem Pa:Tryz.prog.eqGuardType Tryz.prog.depth dk=false:=by kernel_rfl
theorem rf {P:Program} {w:World} {T:TypeId} {cs:Array Value} {off:Nat} {v:Value} (h:kC P T=true) (hx:cs[off]?=some v):(part T cs off).run P w=.ok v w:=by
 simp [part,(AL (w:=w) h).1,hx]
theorem XE {w:World} (s s':ByteArray) (n n':Int) :
  (Op.equalIn 10000 dk (.agg #[.string s,.int .i64 n]) (.agg #[.string s',.int .i64 n'])).run Tryz.prog w=.ok (decide (s=s') && decide (n=n')) w:=by
 rw [show (10000:Nat)=9999+1 from rfl,run_equalIn_struct w 9999 dk _ _ LQ RX]
 have hf:(Tryz.prog.fieldsOf dk).toList=[(Tryz.prog.fieldsOf dk)[0]!,(Tryz.prog.fieldsOf dk)[1]!]:=by kernel_rfl
 have h0:((Tryz.prog.fieldsOf dk)[0]!).type=gJ:=by kernel_rfl
 have h1:((Tryz.prog.fieldsOf dk)[1]!).type=cc:=by kernel_rfl
 have o0:((Tryz.prog.fieldsOf dk)[0]!).offset=0:=by kernel_rfl
 have o1:((Tryz.prog.fieldsOf dk)[1]!).offset=1:=by kernel_rfl
 have n0:((Tryz.prog.fieldsOf dk)[0]!).name≠"_" := by decide +kernel
 have n1:((Tryz.prog.fieldsOf dk)[1]!).name≠"_" := by decide +kernel
 rw [hf]
 have e0:(Op.equalIn (9998+1) gJ (.string s) (.string s')).run Tryz.prog w=.ok (decide (s=s')) w:=by
  rw [run_equalIn_string w 9998 gJ s s' aU,tC]
 have e1:(Op.equalIn (9998+1) cc (.int .i64 n) (.int .i64 n')).run Tryz.prog w=.ok (decide (n=n')) w:=by
  rw [run_equalIn_int w 9998 cc .i64 .i64 n n' fQ]; rfl
 rw [show (9999:Nat)=9998+1 from rfl]
 generalize hg0:(Tryz.prog.fieldsOf dk)[0]! = g0 at *
 generalize hg1:(Tryz.prog.fieldsOf dk)[1]! = g1 at *
 simp only [Op.eqFields,n0,n1,ne_eq,not_false_eq_true,if_true,Sem.run_bind,h0,h1,o0,o1]
 rw [rf aQ (v:=.string s) rfl,Result.andThen_ok,rf aQ (v:=.string s') rfl,Result.andThen_ok,e0,Result.andThen_ok]
 cases decide (s=s') with
 | false=>rfl
 | true=>
  simp only [Bool.not_true,F0,if_false,Sem.run_bind]
  rw [rf aH (v:=.int .i64 n) rfl,Result.andThen_ok,rf aH (v:=.int .i64 n') rfl,Result.andThen_ok,e1,Result.andThen_ok]
  cases decide (n=n') with
  | false=>rfl
  | true=>rfl
section
variable {w:World} {K:Value->World->Prop}
attribute [local irreducible] Run
theorem Xs {cx cy:Bool} {s s':ByteArray} {n n':Int} :
  (cN .eql dk cx cy (.agg #[.string s,.int .i64 n]) (.agg #[.string s',.int .i64 n'])).run Tryz.prog w=.ok (.value (.bool (decide (s=s') && decide (n=n')))) w:=by
 unfold cN
 rw [Sem.run_bind,run_eqGuard_agg w .eql dk _ _ _ _ Pa,Result.andThen_ok,Sem.run_bind,run_eql_struct,XE,Result.andThen_ok,Result.andThen_ok]
 rfl
theorem Jf {s:ByteArray} {n:Int}:(cU dk [(0,.string s),(1,.int .i64 n)]).run Tryz.prog w=.ok (.value (.agg #[.string s,.int .i64 n])) w:=by
 unfold cU
 rw [Sem.run_bind,run_build w dk _ #[.string s,.int .i64 n] (by kernel_rfl),Result.andThen_ok]
 rfl
theorem aaT {cx cy:Bool} {s s':ByteArray} {n n':Int} (hk:K (.bool (decide (s=s') && decide (n=n'))) w):Run Tryz.prog (cN .eql dk cx cy (.agg #[.string s,.int .i64 n]) (.agg #[.string s',.int .i64 n'])) w K:=
 Run.of Xs hk
theorem Oo {s:ByteArray} {n:Int} (hk:K (.agg #[.string s,.int .i64 n]) w):Run Tryz.prog (cU dk [(0,.string s),(1,.int .i64 n)]) w K:=
 Run.of Jf hk
end

attribute [local irreducible] Run CondV aw aN
structure Pd where
 name:ByteArray
 arity:Int
deriving DecidableEq
def Pd.cells (x:Pd):List Value:=[.string x.name,.int .i64 x.arity]
def db (t:T):Pd:=⟨t.name,t.kids.length⟩
def oI (x y:Pd):Bool:=decide (x.name=y.name) && decide (x.arity=y.arity)
theorem pZ (x y:Pd):oI x y=decide (x=y):=by
 obtain ⟨a,b⟩:=x
 obtain ⟨c,d⟩:=y
 rw [oI,mP]
 simp
theorem Ay {t:T} {S:af} {cs:List Value} (h:RdT S cs t):Pure Tryz.prog Yp [.agg cs.toArray] S (.agg (db t).cells.toArray):=by
 intro w hI
 obtain ⟨kv,rfl,_,_,hs,hks⟩:=RdT.iff.1 h
 obtain ⟨k,n,s,ks⟩:=t
 simp only [T.name,T.kids,T.kind,T.n] at hs hks ⊢
 refine Kb.2 ?_
 dsimp only[Kb,aL]
 refine bt hI fun b1 w' hI=>?_
 refine aV hI XU fun b2 w' hI=>?_
 refine ag hI 0 rfl bb aQ rfl ?_
 refine ag hI 0 rfl al aj rfl ?_
 refine aC hks ae ?_
 refine Oo ?_
 refine aA hI 1 rfl G6 rfl rfl (by simp [Value.oneCell']) fun w' hI=>?_
 refine bC hI 1 G6 rfl rfl ?_
 exact done hI rfl
def gW (f:C->Bool):List C->Nat->List Int
 | [],_=>[]
 | c::cs,k=>if f c=true then (k:Int)::gW f cs (k+1) else gW f cs (k+1)
theorem FL (f:C->Bool):∀ (p:List C) (k:Nat) (n:Int),n∈gW f p k->∃ i:Nat,(k:Int)<=n/\n=k+i/\∃ h:i<p.length,f p[i]=true
 | [],k,n,h=>by simp [gW] at h
 | c::cs,k,n,h=>by
  have hrec:n∈gW f cs (k+1)->∃ i:Nat,(k:Int)<=n/\n=k+i/\∃ h:i<(c::cs).length,f (c::cs)[i]=true:=by
   intro h
   obtain ⟨i,h1,h2,h3,h4⟩:=FL f cs (k+1) n h
   exact ⟨i+1,by omega,by omega,by simpa using h3,by simpa using h4⟩
  rw [gW] at h
  split at h
  ·rcases bG.1 h with rfl|h
   ·exact ⟨0,by omega,by omega,by simp,by simpa using ‹f c=true›⟩
   ·exact hrec h
  ·exact hrec h
theorem uX (f:C->Bool):∀ (p:List C) (k:Nat),(gW f p k).length<=p.length
 | [],k=>by simp [gW]
 | c::cs,k=>by
  have:=uX f cs (k+1)
  rw [gW]
  split <;> simp <;> omega
end
section
open Go Go.RowKit
attribute [local irreducible] Run CondV aw aN

theorem TA (f:C->Bool) (p:List C) (k:Nat) (h:k<p.length) (l:List Int):(if f p[k]=true then l++[(k:Int)] else l)++gW f (p.drop (k+1)) (k+1)=l++gW f (p.drop k) k:=by
 rw [cZ h,gW]
 split
 ·rw [eW]; rfl
 ·rfl

theorem BA {p:List C} {S:af} {v:Value} (x:Pd) (h:RdSl S 5 (RdC S) v p) (hp:p.length<=2000000):Tri Tryz.prog H5 [v,.agg x.cells.toArray] [] S (Pj S (gW (fun c=>oI (db c.head) x) p 0)):=by
 intro w hI
 obtain ⟨xs,xn⟩:=x
 refine rq.2 ?_
 dsimp only[rq,aZ]
 refine bt hI fun b3 w' hI=>?_
 refine aC h cD ?_
 refine ⟨fun i t w'=>∃ (k:Nat) (l:List Int),k<=p.length/\i=.int .i64 k/\l++gW (fun c=>oI (db c.head) ⟨xs,xn⟩) (p.drop k) k=gW (fun c=>oI (db c.head) ⟨xs,xn⟩) p 0/\l.length<=k/\
   Inv w [] [.blk b3 (.cells #[.string xs,.int .i64 xn] dk),dt t l] S w',fun i _ _=>p.length - (intOf i).toNat,⟨0,[],be _,rfl,rfl,aR _,hI.rowNil cc 1⟩,?_⟩
 intro t10 _ t5 _ _ _ _ t19 t18 t17 t16 t15 _ _ _ _ _ _ w'
 rintro ⟨k,l,hk,rfl,hrel,hl,hI⟩
 refine bF ?_
 refine aI (fun hki=>?_) (fun hki=>?_)
 ·have hk':k<p.length:=by omega
  refine ⟨fun t w'=>Inv w [] [.blk b3 (.cells #[.string xs,.int .i64 xn] dk),dt t (if oI (db p[k].head) ⟨xs,xn⟩=true then l++[(k:Int)] else l)] S w',?_,?_⟩
  ·refine cE hI h cD bz hk' (fun _ _=>RdC.length) fun cs hcs=>?_
   obtain ⟨hd,ks,rfl,h1,h2⟩:=hcs
   have h1':=h1
   obtain ⟨kv,rfl,_,_,hs,hks⟩:=RdT.iff.1 h1
   have hkv:kv.oneCell'=true/\ks.oneCell'=true:=by
    obtain ⟨a,cap,rfl,_⟩:=hks
    obtain ⟨a,cap,rfl,_⟩:=h2
    exact ⟨rfl,rfl⟩
   refine aV hI ff fun b7 w' hI=>?_
   refine aA hI 2 rfl bz rfl rfl (by
    intro u hu
    have hu':u∈([.int .i64 p[k].head.kind,.int .i64 p[k].head.n,.string p[k].head.name,kv,ks]:List Value):=hu
    simp at hu'
    rcases hu' with rfl|rfl|rfl|rfl|rfl <;> first|rfl|exact hkv.1|exact hkv.2) fun w' hI=>?_
   have hI:Inv w [] [.blk b3 (.cells #[.string xs,.int .i64 xn] dk),dt t5 l,.blk b7 (.cells #[.int .i64 p[k].head.kind,.int .i64 p[k].head.n,.string p[k].head.name,kv,ks] au)] S w':=hI
   refine ⟨fun D lS rK jY l5 sQ w_=>Fx D 0 [sQ=.pointer (some ⟨b7,0,none⟩),l5=.agg #[.int .i64 p[k].head.kind,.int .i64 p[k].head.n,.string p[k].head.name,kv],jY=.agg #[.string p[k].head.name,.int .i64 p[k].head.kids.length],rK=.agg #[.string xs,.int .i64 xn],lS=.bool (oI (db p[k].head) ⟨xs,xn⟩)]/\Inv w [] [.blk b3 (.cells #[.string xs,.int .i64 xn] dk),dt t5 l,.blk b7 (.cells #[.int .i64 p[k].head.kind,.int .i64 p[k].head.n,.string p[k].head.name,kv,ks] au)] S w_,⟨Fx.nil _ _,hI.draw⟩,⟨?_,?_,?_,?_,?_,trivial⟩,?_⟩
   all_goals (intro D bP; intros; rename_i lS rK jY l5 sQ w_ hA_; have hF_:=hA_.1; obtain ⟨⟨cm,cj,cd,ci,bT,_⟩,hI⟩:=hA_)
   ·refine aB cK ?_
    exact ⟨hF_.set 0 rfl,hI⟩
   ·obtain rfl:=cm ‹_›
    refine eE hI 2 [.int .i64 p[k].head.kind,.int .i64 p[k].head.n,.string p[k].head.name,kv] ad rfl rfl VH ?_
    exact ⟨hF_.set 1 rfl,hI⟩
   ·obtain rfl:=cj ‹_›
    refine Run.callPure Kv Kg hI (Ay h1') fun w_ hI=>?_
    exact ⟨hF_.set 2 rfl,hI⟩
   ·refine ar hI 0 G6 rfl rfl ?_
    exact ⟨hF_.set 3 rfl,hI⟩
   ·obtain rfl:=cd ‹_›
    obtain rfl:=ci ‹_›
    refine aaT ?_
    exact ⟨hF_.set 4 rfl,hI⟩
   obtain ⟨rfl,rfl,rfl,rfl,rfl,_⟩:=hF_.all
   clear hF_ cm cj cd ci bT
   refine az (fun hb=>?_) (fun hb=>?_)
   ·refine d5 hI kO rfl (by omega) (by omega) fun b w' hI=>?_
    refine dQ hI 1 (k:=1) [.int .i64 k] kO (by omega) rfl rfl ?_ ?_ (by omega) (by omega) fun v' w' hI=>?_
    ·intro j u hj
     rw [hI.cellL (i:=3) rfl]
     match j with
     | 0=>simpa [Value.cells] using hj
     | j+1=>simp at hj
    ·simp [Value.oneCell']
    ·rw [u6] at hI
     have hI:=hI.pick [true,true,false,false]
     rw [ai hb]
     have e:Item.row v' cc 1 (l.length+1) (ints (l++[(k:Int)]))=dt v' (l++[(k:Int)]):=by simp [dt]
     rw [show List.length l+1=l.length+1 from rfl,e] at hI
     exact hI
   ·rw [ah (by rw [hb]; decide)]
    exact hI.pick [true,true,false]
  intro t5 _ _ _ _ _ _ _ _ _ _ _ _ _ _ w' hI
  refine bq (by omega) ?_
  refine ⟨⟨k+1,_,hk',rfl,?_,?_,hI⟩,by simp [intOf]; omega⟩
  ·rw [TA (fun c=>oI (db c.head) ⟨xs,xn⟩) p k hk' l,hrel]
  ·split
   ·simp; omega
   ·omega
 ·have:k=p.length:=by omega
  subst this
  rw [dL,gW,dB] at hrel
  subst hrel
  exact ⟨_,_,_,rfl,hI.pick [false,true],Ext.refl _ _ _,rfl,rfl⟩
end
section
open Go Go.RowKit
attribute [local irreducible] Run CondV aw aN

def F1 (l:List Pd) (x:Pd):Bool:=l.any fun y=>oI x y
def mH (l:List Pd) (x:Pd):List Pd:=if F1 l x=true then l else l++[x]
end
section
open Go Go.RowKit

theorem Inv.lendAll {w0 w:World} {X:List Nat} {A:List Item} (M:bn) {S:af} (h:Inv w0 X (A++bv M) S w) :
  ∃ S',Sle S S'/\Ins S' M/\Inv w0 X A S' w/\∀ B w',Inv w0 X B S' w'->Inv w0 X (B++bv M) S w':=by
 obtain ⟨S',h1,h2,h3,h4⟩:=Inv.publishAll M h
 have hnd:=h.nd
 rw [bW,oN] at hnd
 refine ⟨S',h2,h3,h1,fun B w' hB=>⟨hB.size,hB.os,hB.tape,hB.output,hB.old,fun it hit=>?_,?_,fun b hb=>?_,fun b o hb=>⟨(hB.pub b o (h2 b o hb)).1,fun hb'=>?_⟩⟩⟩
 ·rcases bJ.1 hit with hit|hit
  ·exact hB.its it hit
  ·obtain ⟨p,hp,rfl⟩:=eF.1 hit
   exact (hB.pub _ _ (h3 p hp)).1
 ·rw [bW,oN]
  refine ⟨hB.nd,hnd.2.1,fun a ha b hb e=>?_⟩
  subst e
  obtain ⟨p,hp,rfl⟩:=iI.1 hb
  exact (hB.pub _ _ (h3 p hp)).2 ha
 ·rw [bW] at hb
  rcases bJ.1 hb with hb|hb
  ·exact hB.new b hb
  ·exact h.new b (by rw [bW]; exact gA _ hb)
 ·rw [bW] at hb'
  rcases bJ.1 hb' with hb'|hb'
  ·exact (hB.pub b o (h2 b o hb)).2 hb'
  ·exact (h.pub b o hb).2 (by rw [bW]; exact gA _ hb')
theorem Inv.openRow {w0 w:World} {X:List Nat} {A:List Item} {S:af} {v:Value} {e:TypeId} {k n:Nat} {xs:List Value} (h:Inv w0 X (A++[.row v e k n xs]) S w) :
  xs.length=n * k/\((v=.slice none 0 0/\n=0) ∨ ∃ g cap cur,v=.slice (some ⟨g,0,none⟩) n cap/\n<=cap/\cap<=maxLen/\cur.size=cap * k/\cur.toList.take (n * k)=xs/\Inv w0 X (A++[.blk g (.cells cur e)]) S w):=by
 have hm:w.ownsRow 0 e k v n xs:=h.its (.row v e k n xs) (by simp)
 obtain ⟨hl,hm⟩:=hm
 refine ⟨hl,?_⟩
 rcases hm with hn|⟨g,cap,cur,rfl,_,hg,hnc,hcm,hcs,ht⟩
 ·exact .inl hn
 ·have hf:bI (A++[Item.blk g (.cells cur e)])=bI (A++[Item.row (.slice (some ⟨g,0,none⟩) n cap) e k n xs]):=by
   simp [bI,Item.foot,Value.ownBlock]
  refine .inr ⟨g,cap,cur,rfl,hnc,hcm,hcs,ht,h.size,h.os,h.tape,h.output,h.old,fun it hit=>?_,by rw [hf]; exact h.nd,by rw [hf]; exact h.new,by rw [hf]; exact h.pub⟩
  rcases bJ.1 hit with hit|hit
  ·exact h.its it (dg _ hit)
  ·simp at hit
   subst hit
   exact hg
theorem Inv.closeRow {w0 w:World} {X:List Nat} {A:List Item} {S:af} {g cap k n:Nat} {cur:Array Value} {e:TypeId} (h:Inv w0 X (A++[.blk g (.cells cur e)]) S w) (hn:n<=cap) (hc:cap<=maxLen) (hs:cur.size=cap * k) :
  Inv w0 X (A++[.row (.slice (some ⟨g,0,none⟩) n cap) e k n (cur.toList.take (n * k))]) S w:=by
 have hg:w.heap[g]?=some (.cells cur e):=h.its (.blk g (.cells cur e)) (by simp)
 have hf:bI (A++[Item.row (.slice (some ⟨g,0,none⟩) n cap) e k n (cur.toList.take (n * k))])=bI (A++[Item.blk g (.cells cur e)]):=by
  simp [bI,Item.foot,Value.ownBlock]
 refine ⟨h.size,h.os,h.tape,h.output,h.old,fun it hit=>?_,by rw [hf]; exact h.nd,by rw [hf]; exact h.new,by rw [hf]; exact h.pub⟩
 rcases bJ.1 hit with hit|hit
 ·exact h.its it (dg _ hit)
 ·simp at hit
  subst hit
  refine ⟨?_,.inr ⟨g,cap,cur,rfl,be _,hg,hn,hc,hs,rfl⟩⟩
  rw [dK,IV,hs]
  exact kD (jr k hn)

section
attribute [local irreducible] Run CondV aw aN
end
end
end Go.Proofs.YtgllldjiaglkcaaGreatDoor
