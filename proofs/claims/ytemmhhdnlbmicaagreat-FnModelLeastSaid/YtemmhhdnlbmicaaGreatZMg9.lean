/- spec.l1Compare. -/
import Derived.Test.YtemmhhdnlbmicaaGreatZMg8
import Derived.Test.YtemmhhdnlbmicaaGreatZMg3
import Derived.Test.YtemmhhdnlbmicaaGreatZMg7
namespace Go.Proofs.YtemmhhdnlbmicaaGreat
open Go Go.RowKit
theorem kL {a b:Int} (h:a≠0):gG a b=a:=if_pos h
theorem iH (b:Int):gG 0 b=b:=if_neg (by decide)
theorem EB (a:Int):gG a 0=a:=by
 unfold gG
 split <;> omega
theorem im (a:Int):cX a a=0:=by have:=dT a a; omega
theorem tv {a b:Int} (h:a≠b):cX a b≠0:=by have:=dT a b; omega
theorem ju (a:ByteArray):di a a=0:=by
 have:=sr a a
 omega
theorem HQ {a b:ByteArray} (h:a≠b):di a b≠0:=by
 rcases dV a b with h1|h1|h1
 ·omega
 ·omega
 ·exact absurd h1.1 h
theorem sm (t u:T):dU t u=gG (hdC t u) (dQ t.kids u.kids):=by cases t; rw [dU]; rfl
theorem Nw {t u:T} (h:rkS t≠rkS u):dU t u=cX (rkS t) (rkS u):=by
 rw [sm,hdC,kL (tv h),kL (tv h)]
theorem Ec {t:T} (h:okO t):(t.kind=1/\rkS t=1/\t.name=emptyB/\t.kids=[]) ∨ (t.kind=2/\rkS t=2/\t.name=emptyB/\t.kids=[]) ∨ (t.kind=3/\t.n=0/\(rkS t=3 ∨ rkS t=4)):=by
 rcases yG h with ⟨hk,hs,hks⟩|⟨hk,hn⟩
 ·have:=lT hks
  rcases hk with hk|hk
  ·exact .inl ⟨hk,by omega,hs,hks⟩
  ·exact .inr (.inl ⟨hk,by omega,hs,hks⟩)
 ·refine .inr (.inr ⟨hk,hn,?_⟩)
  rw [rkS]
  split
  ·exact .inr rfl
  ·exact .inl hk
theorem N7 {t u:T} (ht:okO t) (hu:okO u) (h:rkS t=rkS u) (hk:t.kind≠3):dU t u=cX t.n u.n:=by
 have h1:=Ec ht
 have h2:=Ec hu
 have h3:t.name=emptyB/\t.kids=[]/\u.name=emptyB/\u.kids=[]:=by
  rcases h1 with h1|h1|h1
  ·rcases h2 with h2|h2|h2
   ·exact ⟨h1.2.2.1,h1.2.2.2,h2.2.2.1,h2.2.2.2⟩
   ·omega
   ·omega
  ·rcases h2 with h2|h2|h2
   ·omega
   ·exact ⟨h1.2.2.1,h1.2.2.2,h2.2.2.1,h2.2.2.2⟩
   ·omega
  ·exact absurd h1.1 hk
 rw [sm,hdC,h,im,iH,h3.1,h3.2.1,h3.2.2.1,h3.2.2.2,im,ju,iH,EB,dQ,EB]
theorem Mk {t u:T} (ht:okO t) (hu:okO u) (h:rkS t=rkS u) (hk:t.kind=3):dU t u=gG (gG (cX t.kids.length u.kids.length) (di t.name u.name)) (dQ t.kids u.kids):=by
 have h1:=Ec ht
 have h2:=Ec hu
 have h3:t.n=u.n:=by
  rcases h1 with h1|h1|h1
  ·omega
  ·omega
  ·rcases h2 with h2|h2|h2 <;> omega
 rw [sm,hdC,h,im,iH,h3,im,iH]
theorem MM {t u:T} (ht:okO t) (hu:okO u) (h:rkS t=rkS u) (hk:t.kind=3) (hl:(t.kids.length:Int)≠u.kids.length):dU t u=cX t.kids.length u.kids.length:=by
 rw [Mk ht hu h hk,kL (tv hl),kL (tv hl)]
theorem LE {t u:T} (ht:okO t) (hu:okO u) (h:rkS t=rkS u) (hk:t.kind=3) (hl:(t.kids.length:Int)=u.kids.length) (hn:t.name≠u.name):dU t u=di t.name u.name:=by
 rw [Mk ht hu h hk,hl,im,iH,kL (HQ hn)]
theorem Lj {t u:T} (ht:okO t) (hu:okO u) (h:rkS t=rkS u) (hk:t.kind=3) (hl:(t.kids.length:Int)=u.kids.length) (hn:t.name=u.name):dU t u=dQ t.kids u.kids:=by
 rw [Mk ht hu h hk,hl,im,iH,hn,ju,iH]
theorem Cy (ts us:List T) (j:Nat) (h:j<ts.length) (h':j<us.length):dQ (ts.drop j) (us.drop j)=gG (dU ts[j] us[j]) (dQ (ts.drop (j+1)) (us.drop (j+1))):=by
 rw [List.drop_eq_getElem_cons h,List.drop_eq_getElem_cons h',dQ]
theorem od:∀ {ts:List T},uO ts->∀ t∈ts,okO t
 | _::_,h,t,ht=>by
  rcases List.mem_cons.1 ht with rfl|ht
  ·exact h.1
  ·exact od h.2 t ht
section
variable {P:Program} {w:World} {K:Value->World->Prop}
attribute [local irreducible] Run
theorem Lb {T:TypeId} {cx cy:Bool} {a b:ByteArray} (hk:K (.bool (bls a b)) w):Run P (aq .lss T cx cy (.string a) (.string b)) w K:=by
 refine Run.of ?_ hk
 simp only [aq,binOp,Op.stringOp,Sem.run_bind,iW,Result.andThen_ok,Sem.run_pure,bls]
theorem LX {T:TypeId} {cx cy:Bool} {a b:ByteArray} (hk:K (.bool (!(bls a b || decide (a=b)))) w):Run P (aq .gtr T cx cy (.string a) (.string b)) w K:=by
 refine Run.of ?_ hk
 rw [<- uj]
 simp only [aq,binOp,Op.stringOp,Sem.run_bind,iW,Result.andThen_ok,Sem.run_pure,bls]
end
section
attribute [local irreducible] Run CondV aj bd
theorem mL (a b:Int) (S:az):Pure Tryz.prog IM [.int .i64 a,.int .i64 b] S (.int .i64 (cX a b)):=by
 intro w hI
 refine Ai ?_
 unfold wc
 refine bR ?_
 refine bk (fun h=>done hI (by rw [cX,if_pos h])) (fun h=>?_)
 refine d6 ?_
 exact bk (fun h'=>done hI (by rw [cX,if_neg h,if_pos h'])) (fun h'=>done hI (by rw [cX,if_neg h,if_neg h']))
theorem Az (a b:ByteArray) (S:az):Pure Tryz.prog EL [.string a,.string b] S (.int .i64 (di a b)):=by
 intro w hI
 refine u4 ?_
 unfold qv
 refine Lb ?_
 refine a8 (fun h=>done hI (by rw [di,if_pos h])) (fun h=>?_)
 refine LX ?_
 rw [h,Bool.false_or]
 refine a8 (fun h'=>done hI ?_) (fun h'=>done hI ?_)
 ·rw [Bool.not_eq_true',decide_eq_false_iff_not] at h'
  rcases dV a b with h1|h1|h1
  ·rw [h1.1] at h; cases h
  ·rw [h1.2.2]
  ·exact absurd h1.1 h'
 ·rw [Bool.not_eq_false',decide_eq_true_eq] at h'
  rw [h',ju]
theorem jp {t:T} {S:az} {cs:List Value} (h:RdT S cs t):Pure Tryz.prog In [.agg cs.toArray] S (.int .i64 (rkS t)):=by
 intro w hI
 obtain ⟨kv,rfl,_,_,_,hks⟩:=RdT.iff.1 h
 refine zR ?_
 unfold wU
 refine bM hI fun b1 w' hI=>?_
 refine ⟨fun v w'=>v=.bool (decide (t.kind=3) && decide (0<t.kids.length))/\Inv w [] [.blk b1 (.cells #[.int .i64 t.kind,.int .i64 t.n,.string t.name,kv] ab)] S w',?_,?_⟩
 ·refine aI hI 0 rfl bx bn rfl ?_
  refine bO ?_
  by_cases h3:t.kind=3
  ·rw [decide_eq_true h3]
   repeat (first|refine ad ?_|refine af (by decide) ?_|refine ac ?_|refine ah ?_|refine ag ?_)
   refine aI hI 0 rfl aT aP rfl ?_
   refine a9 hks av ?_
   refine d6 ?_
   repeat (first|refine ad ?_|refine af (by decide) ?_|refine ac ?_|refine ah ?_|refine ag ?_)
   refine ⟨?_,hI⟩
   rw [Bool.true_and]
   congr 1
   rw [Bool.eq_iff_iff]
   simp only [decide_eq_true_eq]
   omega
  ·rw [decide_eq_false h3]
   repeat (first|refine ad ?_|refine af (by decide) ?_|refine ac ?_|refine ah ?_|refine ag ?_)
   exact ⟨rfl,hI⟩
 intro v _ _ _ _ _ _ _ _ w'
 rintro ⟨rfl,hI⟩
 refine a8 (fun hb=>done hI ?_) (fun hb=>?_)
 ·simp only [Bool.and_eq_true,decide_eq_true_eq] at hb
  rw [rkS,if_pos hb]
 ·refine aI hI 0 rfl bx bn rfl ?_
  refine done hI ?_
  have:¬ (t.kind=3/\0<t.kids.length):=by
   intro h
   rw [decide_eq_true h.1,decide_eq_true h.2] at hb
   cases hb
  rw [rkS,if_neg this]; rfl
theorem yd:∀ (t u:T) (S:az) (cs ds:List Value),RdT S cs t->RdT S ds u->okO t->okO u->Pure Tryz.prog Bu [.agg cs.toArray,.agg ds.toArray] S (.int .i64 (dU t u)):=by
 refine T.ind fun k n s ks ih u S cs ds h h' ht hu=>?_
 intro w hI
 have hcs:=h
 have hds:=h'
 obtain ⟨kv,rfl,_,_,_,hks⟩:=RdT.iff.1 h
 obtain ⟨kv',rfl,_,_,_,hks'⟩:=RdT.iff.1 h'
 obtain ⟨k',n',s',ks'⟩:=u
 simp only [T.name,T.kids,T.kind,T.n] at hks hks' ⊢
 have hlen:=hks.le
 simp only [maxLen] at hlen
 refine s0 ?_
 unfold oL
 refine bM hI fun b1 w' hI=>?_
 refine bM hI fun b2 w' hI=>?_
 have hI:Inv w [] [.blk b1 (.cells #[.int .i64 k,.int .i64 n,.string s,kv] ab),.blk b2 (.cells #[.int .i64 k',.int .i64 n',.string s',kv'] ab)] S w':=hI
 refine ⟨fun D gd gc x9 x8 x7 w_=>(D 0=true->x7=.agg #[.int .i64 k,.int .i64 n,.string s,kv])/\(D 1=true->x8=.int .i64 (rkS (.mk k n s ks)))/\(D 2=true->x9=.agg #[.int .i64 k',.int .i64 n',.string s',kv'])/\(D 3=true->gc=.int .i64 (rkS (.mk k' n' s' ks')))/\(D 4=true->gd=.bool (!decide (rkS (.mk k n s ks)=rkS (.mk k' n' s' ks'))))/\Inv w [] [.blk b1 (.cells #[.int .i64 k,.int .i64 n,.string s,kv] ab),.blk b2 (.cells #[.int .i64 k',.int .i64 n',.string s',kv'] ab)] S w_,⟨ae,ae,ae,ae,ae,hI.draw⟩,⟨?_,?_,?_,?_,?_,trivial⟩,?_⟩
 ·intro D aY  gd gc x9 x8 x7 w_
  rintro ⟨aA,aB,aC,aD,aw,hI⟩
  refine ba hI 0 ai rfl rfl ?_
  exact ⟨fun _=>rfl,aB,aC,aD,aw,hI⟩
 ·intro D aY cc gd gc x9 x8 x7 w_
  rintro ⟨aA,aB,aC,aD,aw,hI⟩
  obtain rfl:=aA cc
  refine Run.callPure kV kR hI (jp hcs) fun w_ hI=>?_
  exact ⟨aA,fun _=>rfl,aC,aD,aw,hI⟩
 ·intro D aY  gd gc x9 x8 x7 w_
  rintro ⟨aA,aB,aC,aD,aw,hI⟩
  refine ba hI 1 ai rfl rfl ?_
  exact ⟨aA,aB,fun _=>rfl,aD,aw,hI⟩
 ·intro D aY eq ij gd gc x9 x8 x7 w_
  rintro ⟨aA,aB,aC,aD,aw,hI⟩
  obtain rfl:=aC eq
  refine Run.callPure kV kR hI (jp hds) fun w_ hI=>?_
  exact ⟨aA,aB,aC,fun _=>rfl,aw,hI⟩
 ·intro D aY dC mO gd gc x9 x8 x7 w_
  rintro ⟨aA,aB,aC,aD,aw,hI⟩
  obtain rfl:=aB dC
  obtain rfl:=aD mO
  refine gn ?_
  exact ⟨aA,aB,aC,aD,fun _=>rfl,hI⟩
 intro D fm fw fF fC fD gd gc x9 x8 x7 w_
 rintro ⟨aA,aB,aC,aD,aw,hI⟩
 obtain rfl:=aw fm
 obtain rfl:=aD fw
 obtain rfl:=aC fF
 obtain rfl:=aB fC
 obtain rfl:=aA fD
 clear aA aB aC aD aw
 refine a8 (fun hb=>?_) (fun hb=>?_)
 ·simp only [Bool.not_eq_true',decide_eq_false_iff_not] at hb
  rw [Nw hb]
  refine ⟨fun D x4 dv ef eA eh ei w_=>(D 0=true->ei=.agg #[.int .i64 k,.int .i64 n,.string s,kv])/\(D 1=true->eh=.int .i64 (rkS (.mk k n s ks)))/\(D 2=true->eA=.agg #[.int .i64 k',.int .i64 n',.string s',kv'])/\(D 3=true->ef=.int .i64 (rkS (.mk k' n' s' ks')))/\(D 4=true->dv=.int .i64 (cX (rkS (.mk k n s ks)) (rkS (.mk k' n' s' ks'))))/\(D 5=true->x4=.int .i64 (cX (rkS (.mk k n s ks)) (rkS (.mk k' n' s' ks'))))/\Inv w [] [.blk b1 (.cells #[.int .i64 k,.int .i64 n,.string s,kv] ab),.blk b2 (.cells #[.int .i64 k',.int .i64 n',.string s',kv'] ab)] S w_,⟨ae,ae,ae,ae,ae,ae,hI.draw⟩,⟨?_,?_,?_,?_,?_,?_,trivial⟩,?_⟩
  ·intro D aY  x4 dv ef eA eh ei w_
   rintro ⟨aA,aB,aC,aD,aw,aE,hI⟩
   refine ba hI 0 ai rfl rfl ?_
   exact ⟨fun _=>rfl,aB,aC,aD,aw,aE,hI⟩
  ·intro D aY cc x4 dv ef eA eh ei w_
   rintro ⟨aA,aB,aC,aD,aw,aE,hI⟩
   obtain rfl:=aA cc
   refine Run.callPure kV kR hI (jp hcs) fun w_ hI=>?_
   exact ⟨aA,fun _=>rfl,aC,aD,aw,aE,hI⟩
  ·intro D aY  x4 dv ef eA eh ei w_
   rintro ⟨aA,aB,aC,aD,aw,aE,hI⟩
   refine ba hI 1 ai rfl rfl ?_
   exact ⟨aA,aB,fun _=>rfl,aD,aw,aE,hI⟩
  ·intro D aY eq ij x4 dv ef eA eh ei w_
   rintro ⟨aA,aB,aC,aD,aw,aE,hI⟩
   obtain rfl:=aC eq
   refine Run.callPure kV kR hI (jp hds) fun w_ hI=>?_
   exact ⟨aA,aB,aC,fun _=>rfl,aw,aE,hI⟩
  ·intro D aY dC mO Mm x4 dv ef eA eh ei w_
   rintro ⟨aA,aB,aC,aD,aw,aE,hI⟩
   obtain rfl:=aB dC
   obtain rfl:=aD mO
   refine Run.callPure oW pz hI (mL _ _ S) fun w_ hI=>?_
   exact ⟨aA,aB,aC,aD,fun _=>rfl,aE,hI⟩
  ·intro D aY cR dJ oI sL ui rQ tD x4 dv ef eA eh ei w_
   rintro ⟨aA,aB,aC,aD,aw,aE,hI⟩
   obtain rfl:=aw cR
   exact ⟨aA,aB,aC,aD,aw,fun _=>rfl,hI⟩
  intro D fE fm fw fF fC fD x4 dv ef eA eh ei w_
  rintro ⟨aA,aB,aC,aD,aw,aE,hI⟩
  obtain rfl:=aE fE
  obtain rfl:=aw fm
  obtain rfl:=aD fw
  obtain rfl:=aC fF
  obtain rfl:=aB fC
  obtain rfl:=aA fD
  clear aA aB aC aD aw aE
  exact done hI rfl
 have hrk:rkS (.mk k n s ks)=rkS (.mk k' n' s' ks'):=by simpa using hb
 refine aI hI 0 rfl bx bn rfl ?_
 refine gn ?_
 refine a8 (fun hb=>?_) (fun hb=>?_)
 ·have hk:k≠3:=by simpa using hb
  rw [N7 ht hu hrk hk]
  refine aI hI 0 rfl bJ bn rfl ?_
  refine aI hI 1 rfl bJ bn rfl ?_
  refine Run.callPure oW pz hI (mL _ _ S) fun w' hI=>?_
  exact done hI rfl
 have hk:k=3:=by simpa using hb
 refine aI hI 0 rfl aT aP rfl ?_
 refine a9 hks av ?_
 refine aI hI 1 rfl aT aP rfl ?_
 refine a9 hks' av ?_
 refine gn ?_
 refine a8 (fun hb=>?_) (fun hb=>?_)
 ·have hl:(ks.length:Int)≠ks'.length:=by simpa using hb
  rw [MM ht hu hrk hk hl]
  refine aI hI 0 rfl aT aP rfl ?_
  refine a9 hks av ?_
  refine aI hI 1 rfl aT aP rfl ?_
  refine a9 hks' av ?_
  refine Run.callPure oW pz hI (mL _ _ S) fun w' hI=>?_
  exact done hI rfl
 have hl:(ks.length:Int)=ks'.length:=by simpa using hb
 refine aI hI 0 rfl bo bl rfl ?_
 refine aI hI 1 rfl bo bl rfl ?_
 refine rC ?_
 refine a8 (fun hb=>?_) (fun hb=>?_)
 ·have hn:s≠s':=by simpa using hb
  rw [LE ht hu hrk hk hl hn]
  refine aI hI 0 rfl bo bl rfl ?_
  refine aI hI 1 rfl bo bl rfl ?_
  refine Run.callPure Bl BH hI (Az _ _ S) fun w' hI=>?_
  exact done hI rfl
 have hn:s=s':=by simpa using hb
 have hck:dU (.mk k n s ks) (.mk k' n' s' ks')=dQ ks ks':=Lj ht hu hrk hk hl hn
 rw [hck]
 rw [okO] at ht hu
 have htk:=ht.2
 have huk:=hu.2
 refine ⟨fun i w'=>∃ j:Nat,j<=ks.length/\i=.int .i64 j/\dQ (ks.drop j) (ks'.drop j)=dQ ks ks'/\Inv w [] [.blk b1 (.cells #[.int .i64 k,.int .i64 n,.string s,kv] ab),.blk b2 (.cells #[.int .i64 k',.int .i64 n',.string s',kv'] ab)] S w',
  fun i _=>ks.length - (intOf i).toNat,⟨0,Nat.zero_le _,rfl,rfl,hI⟩,?_⟩
 intro t5 _ _ _ _ _ _ _ _ _ _ _ _ _ _ _ _ _ _ _ _ _ _ _ w'
 rintro ⟨j,hj,rfl,hrel,hI⟩
 refine aI hI 0 rfl aT aP rfl ?_
 refine a9 hks av ?_
 refine bR ?_
 refine bk (fun hji=>?_) (fun hji=>?_)
 ·have hj1:j<ks.length:=by omega
  have hj2:j<ks'.length:=by omega
  rw [Cy ks ks' j hj1 hj2] at hrel
  obtain ⟨c1,o1,cap1,cc1,E1,fz1,rfl,hS1,hR1⟩:=hks.at_ hj1
  obtain ⟨c2,o2,cap2,cc2,E2,fz2,rfl,hS2,hR2⟩:=hks'.at_ hj2
  have hcall:=ih _ (List.getElem_mem hj1) ks'[j] S _ _ hR1 hR2 (od htk _ (List.getElem_mem hj1)) (od huk _ (List.getElem_mem hj2))
  refine ⟨fun D x6 eH cI cZ cK df de c9 c8 dg db dd w_=>(D 0=true->dd=.pointer (some ⟨b1,3,none⟩))/\(D 1=true->db=.slice (some ⟨c1,o1,none⟩) ks.length cap1)/\(D 2=true->dg=.int .i64 j)/\(D 3=true->c8=.pointer (some ⟨c1,o1+j * 4,none⟩))/\(D 4=true->c9=.agg (bu cc1 (o1+j * 4) 4).toArray)/\(D 5=true->de=.pointer (some ⟨b2,3,none⟩))/\(D 6=true->df=.slice (some ⟨c2,o2,none⟩) ks'.length cap2)/\(D 7=true->cK=.int .i64 j)/\(D 8=true->cZ=.pointer (some ⟨c2,o2+j * 4,none⟩))/\(D 9=true->cI=.agg (bu cc2 (o2+j * 4) 4).toArray)/\(D 10=true->eH=.int .i64 (dU ks[j] ks'[j]))/\(D 11=true->x6=.int .i64 (dU ks[j] ks'[j]))/\Inv w [] [.blk b1 (.cells #[.int .i64 k,.int .i64 n,.string s,.slice (some ⟨c1,o1,none⟩) ks.length cap1] ab),.blk b2 (.cells #[.int .i64 k',.int .i64 n',.string s',.slice (some ⟨c2,o2,none⟩) ks'.length cap2] ab)] S w_,⟨ae,ae,ae,ae,ae,ae,ae,ae,ae,ae,ae,ae,hI.draw⟩,⟨?_,?_,?_,?_,?_,?_,?_,?_,?_,?_,?_,?_,trivial⟩,?_⟩
  ·intro D aY  x6 eH cI cZ cK df de c9 c8 dg db dd w_
   rintro ⟨aA,aB,aC,aD,aw,aE,aF,aJ,aL,aQ,al,ao,hI⟩
   refine bh aT ?_
   exact ⟨fun _=>rfl,aB,aC,aD,aw,aE,aF,aJ,aL,aQ,al,ao,hI⟩
  ·intro D aY cc x6 eH cI cZ cK df de c9 c8 dg db dd w_
   rintro ⟨aA,aB,aC,aD,aw,aE,aF,aJ,aL,aQ,al,ao,hI⟩
   obtain rfl:=aA cc
   refine bH hI 0 aP rfl rfl ?_
   exact ⟨aA,fun _=>rfl,aC,aD,aw,aE,aF,aJ,aL,aQ,al,ao,hI⟩
  ·intro D aY  x6 eH cI cZ cK df de c9 c8 dg db dd w_
   rintro ⟨aA,aB,aC,aD,aw,aE,aF,aJ,aL,aQ,al,ao,hI⟩
   exact ⟨aA,aB,fun _=>rfl,aD,aw,aE,aF,aJ,aL,aQ,al,ao,hI⟩
  ·intro D aY dC gA x6 eH cI cZ cK df de c9 c8 dg db dd w_
   rintro ⟨aA,aB,aC,aD,aw,aE,aF,aJ,aL,aQ,al,ao,hI⟩
   obtain rfl:=aB dC
   obtain rfl:=aC gA
   refine bi av hj1 ?_
   exact ⟨aA,aB,aC,fun _=>rfl,aw,aE,aF,aJ,aL,aQ,al,ao,hI⟩
  ·intro D aY dB x6 eH cI cZ cK df de c9 c8 dg db dd w_
   rintro ⟨aA,aB,aC,aD,aw,aE,aF,aJ,aL,aQ,al,ao,hI⟩
   obtain rfl:=aD dB
   refine cV ai hR1.length (fun j v hj=>by rw [hI.cellS hS1]; exact bm rfl j v hj) ?_
   exact ⟨aA,aB,aC,aD,fun _=>rfl,aE,aF,aJ,aL,aQ,al,ao,hI⟩
  ·intro D aY  x6 eH cI cZ cK df de c9 c8 dg db dd w_
   rintro ⟨aA,aB,aC,aD,aw,aE,aF,aJ,aL,aQ,al,ao,hI⟩
   refine bh aT ?_
   exact ⟨aA,aB,aC,aD,aw,fun _=>rfl,aF,aJ,aL,aQ,al,ao,hI⟩
  ·intro D aY d3 x6 eH cI cZ cK df de c9 c8 dg db dd w_
   rintro ⟨aA,aB,aC,aD,aw,aE,aF,aJ,aL,aQ,al,ao,hI⟩
   obtain rfl:=aE d3
   refine bH hI 1 aP rfl rfl ?_
   exact ⟨aA,aB,aC,aD,aw,aE,fun _=>rfl,aJ,aL,aQ,al,ao,hI⟩
  ·intro D aY  x6 eH cI cZ cK df de c9 c8 dg db dd w_
   rintro ⟨aA,aB,aC,aD,aw,aE,aF,aJ,aL,aQ,al,ao,hI⟩
   exact ⟨aA,aB,aC,aD,aw,aE,aF,fun _=>rfl,aL,aQ,al,ao,hI⟩
  ·intro D aY c4 jZ x6 eH cI cZ cK df de c9 c8 dg db dd w_
   rintro ⟨aA,aB,aC,aD,aw,aE,aF,aJ,aL,aQ,al,ao,hI⟩
   obtain rfl:=aF c4
   obtain rfl:=aJ jZ
   refine bi av hj2 ?_
   exact ⟨aA,aB,aC,aD,aw,aE,aF,aJ,fun _=>rfl,aQ,al,ao,hI⟩
  ·intro D aY jh x6 eH cI cZ cK df de c9 c8 dg db dd w_
   rintro ⟨aA,aB,aC,aD,aw,aE,aF,aJ,aL,aQ,al,ao,hI⟩
   obtain rfl:=aL jh
   refine cV ai hR2.length (fun j v hj=>by rw [hI.cellS hS2]; exact bm rfl j v hj) ?_
   exact ⟨aA,aB,aC,aD,aw,aE,aF,aJ,aL,fun _=>rfl,al,ao,hI⟩
  ·intro D aY cR fj x6 eH cI cZ cK df de c9 c8 dg db dd w_
   rintro ⟨aA,aB,aC,aD,aw,aE,aF,aJ,aL,aQ,al,ao,hI⟩
   obtain rfl:=aw cR
   obtain rfl:=aQ fj
   refine Run.callPure o9 oD hI hcall fun w_ hI=>?_
   exact ⟨aA,aB,aC,aD,aw,aE,aF,aJ,aL,aQ,fun _=>rfl,ao,hI⟩
  ·intro D aY gx lJ oI sL ui rQ tD x3 xE Bo Dn C9 uD x6 eH cI cZ cK df de c9 c8 dg db dd w_
   rintro ⟨aA,aB,aC,aD,aw,aE,aF,aJ,aL,aQ,al,ao,hI⟩
   obtain rfl:=al gx
   exact ⟨aA,aB,aC,aD,aw,aE,aF,aJ,aL,aQ,al,fun _=>rfl,hI⟩
  intro D fi fp jt gK fT fY fE fm fw fF fC fD x6 eH cI cZ cK df de c9 c8 dg db dd w_
  rintro ⟨aA,aB,aC,aD,aw,aE,aF,aJ,aL,aQ,al,ao,hI⟩
  obtain rfl:=ao fi
  obtain rfl:=al fp
  obtain rfl:=aQ jt
  obtain rfl:=aL gK
  obtain rfl:=aJ fT
  obtain rfl:=aF fY
  obtain rfl:=aE fE
  obtain rfl:=aw fm
  obtain rfl:=aD fw
  obtain rfl:=aC fF
  obtain rfl:=aB fC
  obtain rfl:=aA fD
  clear aA aB aC aD aw aE aF aJ aL aQ al ao
  refine gn ?_
  refine a8 (fun hb=>done hI ?_) (fun hb=>?_)
  ·have hne:dU ks[j] ks'[j]≠0:=by simpa using hb
   rw [<- hrel,kL hne]
  ·have he:dU ks[j] ks'[j]=0:=by simpa using hb
   rw [he,iH] at hrel
   refine bL (by omega) ?_
   exact ⟨⟨j+1,hj1,rfl,hrel,hI⟩,by simp [intOf]; omega⟩
 ·have e1:ks.drop j=[]:=List.drop_eq_nil_of_le (by omega)
  have e2:ks'.drop j=[]:=List.drop_eq_nil_of_le (by omega)
  refine done hI ?_
  rw [<- hrel,e1,e2,dQ]
end

end Go.Proofs.YtemmhhdnlbmicaaGreat

/- spec.l16Put, l16Has. -/
namespace Go.Proofs.YtemmhhdnlbmicaaGreat
open Go Go.RowKit
abbrev La (ys:List T):Value->List Item->az->Prop:=fun r I' S'=>I'=[]/\RdSl S' 4 (RdT S') r ys
theorem zu (l:List T) (t:T) (j:Nat) (h:j<l.length) (hc:dU l[j] t<0):eJ (l.drop j) t=l[j]::eJ (l.drop (j+1)) t:=by
 rw [List.drop_eq_getElem_cons h,eJ,if_pos hc]
theorem uK (l:List T) (t:T) (j:Nat) (h:j<l.length) (hc:¬ dU l[j] t<0):eJ (l.drop j) t=if eqT l[j] t=true then l.drop j else t::l.drop j:=by
 rw [List.drop_eq_getElem_cons h,eJ,if_neg hc]
section
attribute [local irreducible] Run CondV aj bd
theorem F1 {l:List T} {t:T} {S:az} {v:Value} {cs:List Value} {w w0:World} {b3:Nat} {K:Value->World->Prop} (j:Nat) (hI:Inv w0 [] [.blk b3 (.cells cs.toArray ab)] S w) (h:RdSl S 4 (RdT S) v l) (hcs:RdT S cs t) (hj:j<=l.length) (hn:l.length<=1000000)
  (hk:∀ r S' w',Ext w0.heap.size [] S S'->RdSl S' 4 (RdT S') r (l.take j++t::l.drop j)->Inv w0 [] [] S' w'->K r w') :
  Run Tryz.prog (aS cd 0 []) w fun t35 w52=>
  Run Tryz.prog (sOp (.slice cd (.const v) none (some (.const (.int .i64 j))) none) cd) w52 fun t38 w53=>
  Run Tryz.prog (ar .append #[cd,cd] cd [false,false] [t35,t38]) w53 fun t39 w54=>
  Run Tryz.prog (sOp (.load ab (.const (.pointer (some ⟨b3,0,none⟩)))) ab) w54 fun t41 w55=>
  Run Tryz.prog (aS cd 1 [(0,t41)]) w55 fun t42 w56=>
  Run Tryz.prog (ar .append #[cd,cd] cd [false,false] [t39,t42]) w56 fun t43 w57=>
  Run Tryz.prog (sOp (.slice cd (.const v) (some (.const (.int .i64 j))) none none) cd) w57 fun t47 w58=>
  Run Tryz.prog (ar .append #[cd,cd] cd [false,false] [t43,t47]) w58 fun t48 w59=>
  K t48 w59:=by
 have hlc:=hcs.length
 refine eB hI bD fun v0 w hI=>?_
 refine KN av h hj fun v1 h1=>?_
 refine jU hI 1 (css:=[]) bD (by omega) rfl h1 (fun _ _=>RdT.length) (fun _ _=>RdT.one) (by simp; omega) (by omega) fun v2 w c1 hR1 hI=>?_
 have hI:Inv w0 [] [.blk b3 (.cells cs.toArray ab),bj v2 ab 4 c1] S w:=by simpa using hI
 have hc1:=hR1.hc
 simp only [List.length_take] at hc1
 refine ba hI 0 ai rfl (by simpa using hlc) ?_
 refine fX hI 1 cs bD (by omega) (by omega) rfl hlc hcs.one (by omega) (by omega) fun v3 w hI=>?_
 have hR2:=hR1.snoc hcs hlc
 refine wn av h hj fun v4 h4=>?_
 refine jU hI 1 (css:=c1++[cs]) bD (by omega) rfl h4 (fun _ _=>RdT.length) (fun _ _=>RdT.one) (by simp; omega) (by omega) fun v5 w c2 hR3 hI=>?_
 have hR:=hR2.append hR3
 have hI:Inv w0 [] ([.blk b3 (.cells cs.toArray ab)]++[bj v5 ab 4 ((c1++[cs])++c2)]) S w:=hI
 obtain ⟨S',hE,hrd,hI⟩:=hI.lendExt
 have hr:RdSl S' 4 (RdT S') v5 ((l.take j++[t])++l.drop j):=(RowRd.rows hR hrd).mono (Sle.refl _) fun _ _ h=>h.mono hE.1
 rw [List.append_assoc] at hr
 exact hk _ _ _ hE hr (hI.pick [false])
theorem DR {l:List T} {t:T} {S:az} {v:Value} {cs:List Value} (h:RdSl S 4 (RdT S) v l) (hcs:RdT S cs t) (hl:∀ x∈l,okO x) (ht:okO t) (hn:l.length<=1000000) :
  Tri Tryz.prog IW [v,.agg cs.toArray] [] S (La (eJ l t)):=by
 intro w hI
 have hlc:=hcs.length
 refine AQ ?_
 unfold ww
 refine bM hI fun b3 w' hI=>?_
 have hI:Inv w [] [.blk b3 (.cells cs.toArray ab)] S w':=hI
 refine ⟨fun i w'=>∃ j:Nat,j<=l.length/\i=.int .i64 j/\l.take j++eJ (l.drop j) t=eJ l t/\Inv w [] [.blk b3 (.cells cs.toArray ab)] S w',
  fun i _=>l.length - (intOf i).toNat,⟨0,Nat.zero_le _,rfl,rfl,hI⟩,?_⟩
 intro t5 _ _ _ _ _ _ _ _ _ _ _ _ _ _ _ w'
 rintro ⟨j,hj,rfl,hrel,hI⟩
 by_cases hj':j<l.length
 ·obtain ⟨b,o,cap,c,E,fz,rfl,hS,hR⟩:=h.at_ hj'
  have hox:=hl _ (List.getElem_mem hj')
  refine ⟨fun D b0 dI dw dv ef eA eh ei gd gc x9 x8 x7 w_=>(D 0=true->x7=.int .i64 j)/\(D 1=true->x8=.slice (some ⟨b,o,none⟩) l.length cap)/\(D 2=true->x9=.int .i64 l.length)/\(D 3=true->gc=.bool true)/\(D 4=true->gd=.bool true)/\(D 5=true->ei=.slice (some ⟨b,o,none⟩) l.length cap)/\(D 6=true->eh=.int .i64 j)/\(D 7=true->eA=.pointer (some ⟨b,o+j * 4,none⟩))/\(D 8=true->ef=.agg (bu c (o+j * 4) 4).toArray)/\(D 9=true->dv=.agg cs.toArray)/\(D 10=true->dw=.int .i64 (dU l[j] t))/\(D 11=true->dI=.bool (decide (dU l[j] t<0)))/\(D 12=true->b0=.bool (decide (dU l[j] t<0)))/\Inv w [] [.blk b3 (.cells cs.toArray ab)] S w_,⟨ae,ae,ae,ae,ae,ae,ae,ae,ae,ae,ae,ae,ae,hI.draw⟩,⟨?_,?_,?_,?_,?_,?_,?_,?_,?_,?_,?_,?_,?_,trivial⟩,?_⟩
  ·intro D aY  b0 dI dw dv ef eA eh ei gd gc x9 x8 x7 w_
   rintro ⟨aA,aB,aC,aD,aw,aE,aF,aJ,aL,aQ,al,ao,aG,hI⟩
   exact ⟨fun _=>rfl,aB,aC,aD,aw,aE,aF,aJ,aL,aQ,al,ao,aG,hI⟩
  ·intro D aY  b0 dI dw dv ef eA eh ei gd gc x9 x8 x7 w_
   rintro ⟨aA,aB,aC,aD,aw,aE,aF,aJ,aL,aQ,al,ao,aG,hI⟩
   exact ⟨aA,fun _=>rfl,aC,aD,aw,aE,aF,aJ,aL,aQ,al,ao,aG,hI⟩
  ·intro D aY dC b0 dI dw dv ef eA eh ei gd gc x9 x8 x7 w_
   rintro ⟨aA,aB,aC,aD,aw,aE,aF,aJ,aL,aQ,al,ao,aG,hI⟩
   obtain rfl:=aB dC
   refine fx av ?_
   exact ⟨aA,aB,fun _=>rfl,aD,aw,aE,aF,aJ,aL,aQ,al,ao,aG,hI⟩
  ·intro D aY cc gA b0 dI dw dv ef eA eh ei gd gc x9 x8 x7 w_
   rintro ⟨aA,aB,aC,aD,aw,aE,aF,aJ,aL,aQ,al,ao,aG,hI⟩
   obtain rfl:=aA cc
   obtain rfl:=aC gA
   refine bR ?_; rw [decide_eq_true (show (j:Int)<(l.length:Int) by omega)]
   exact ⟨aA,aB,aC,fun _=>rfl,aw,aE,aF,aJ,aL,aQ,al,ao,aG,hI⟩
  ·intro D aY dB b0 dI dw dv ef eA eh ei gd gc x9 x8 x7 w_
   rintro ⟨aA,aB,aC,aD,aw,aE,aF,aJ,aL,aQ,al,ao,aG,hI⟩
   obtain rfl:=aD dB
   exact ⟨aA,aB,aC,aD,fun _=>rfl,aE,aF,aJ,aL,aQ,al,ao,aG,hI⟩
  ·intro D aY cR b0 dI dw dv ef eA eh ei gd gc x9 x8 x7 w_
   rintro ⟨aA,aB,aC,aD,aw,aE,aF,aJ,aL,aQ,al,ao,aG,hI⟩
   obtain rfl:=aw cR
   repeat (first|refine ad ?_|refine af (by decide) ?_|refine ac ?_|refine ah ?_|refine ag ?_)
   exact ⟨aA,aB,aC,aD,aw,fun _=>rfl,aF,aJ,aL,aQ,al,ao,aG,hI⟩
  ·intro D aY cR b0 dI dw dv ef eA eh ei gd gc x9 x8 x7 w_
   rintro ⟨aA,aB,aC,aD,aw,aE,aF,aJ,aL,aQ,al,ao,aG,hI⟩
   obtain rfl:=aw cR
   repeat (first|refine ad ?_|refine af (by decide) ?_|refine ac ?_|refine ah ?_|refine ag ?_)
   exact ⟨aA,aB,aC,aD,aw,aE,fun _=>rfl,aJ,aL,aQ,al,ao,aG,hI⟩
  ·intro D aY d3 ge jg b0 dI dw dv ef eA eh ei gd gc x9 x8 x7 w_
   rintro ⟨aA,aB,aC,aD,aw,aE,aF,aJ,aL,aQ,al,ao,aG,hI⟩
   obtain rfl:=aE d3
   obtain rfl:=aF ge
   obtain rfl:=aw jg
   repeat (first|refine ad ?_|refine af (by decide) ?_|refine ac ?_|refine ah ?_|refine ag ?_)
   refine bi av hj' ?_
   exact ⟨aA,aB,aC,aD,aw,aE,aF,fun _=>rfl,aL,aQ,al,ao,aG,hI⟩
  ·intro D aY ed dJ b0 dI dw dv ef eA eh ei gd gc x9 x8 x7 w_
   rintro ⟨aA,aB,aC,aD,aw,aE,aF,aJ,aL,aQ,al,ao,aG,hI⟩
   obtain rfl:=aJ ed
   obtain rfl:=aw dJ
   repeat (first|refine ad ?_|refine af (by decide) ?_|refine ac ?_|refine ah ?_|refine ag ?_)
   refine cV ai hR.length (fun j v hj=>by rw [hI.cellS hS]; exact bm rfl j v hj) ?_
   exact ⟨aA,aB,aC,aD,aw,aE,aF,aJ,fun _=>rfl,aQ,al,ao,aG,hI⟩
  ·intro D aY cR b0 dI dw dv ef eA eh ei gd gc x9 x8 x7 w_
   rintro ⟨aA,aB,aC,aD,aw,aE,aF,aJ,aL,aQ,al,ao,aG,hI⟩
   obtain rfl:=aw cR
   repeat (first|refine ad ?_|refine af (by decide) ?_|refine ac ?_|refine ah ?_|refine ag ?_)
   refine ba hI 0 ai rfl (by simpa using hlc) ?_
   exact ⟨aA,aB,aC,aD,aw,aE,aF,aJ,aL,fun _=>rfl,al,ao,aG,hI⟩
  ·intro D aY jh fj jg IG b0 dI dw dv ef eA eh ei gd gc x9 x8 x7 w_
   rintro ⟨aA,aB,aC,aD,aw,aE,aF,aJ,aL,aQ,al,ao,aG,hI⟩
   obtain rfl:=aL jh
   obtain rfl:=aQ fj
   obtain rfl:=aw jg
   repeat (first|refine ad ?_|refine af (by decide) ?_|refine ac ?_|refine ah ?_|refine ag ?_)
   refine Run.callPure o9 oD hI (yd _ _ S _ _ hR hcs hox ht) fun w_ hI=>?_
   exact ⟨aA,aB,aC,aD,aw,aE,aF,aJ,aL,aQ,fun _=>rfl,ao,aG,hI⟩
  ·intro D aY gx dJ b0 dI dw dv ef eA eh ei gd gc x9 x8 x7 w_
   rintro ⟨aA,aB,aC,aD,aw,aE,aF,aJ,aL,aQ,al,ao,aG,hI⟩
   obtain rfl:=al gx
   obtain rfl:=aw dJ
   repeat (first|refine ad ?_|refine af (by decide) ?_|refine ac ?_|refine ah ?_|refine ag ?_)
   refine bR ?_
   exact ⟨aA,aB,aC,aD,aw,aE,aF,aJ,aL,aQ,al,fun _=>rfl,aG,hI⟩
  ·intro D aY cR GL b0 dI dw dv ef eA eh ei gd gc x9 x8 x7 w_
   rintro ⟨aA,aB,aC,aD,aw,aE,aF,aJ,aL,aQ,al,ao,aG,hI⟩
   obtain rfl:=aw cR
   obtain rfl:=ao GL
   repeat (first|refine ad ?_|refine af (by decide) ?_|refine ac ?_|refine ah ?_|refine ag ?_)
   exact ⟨aA,aB,aC,aD,aw,aE,aF,aJ,aL,aQ,al,ao,fun _=>rfl,hI⟩
  intro D je fi fp jt gK fT fY fE fm fw fF fC fD b0 dI dw dv ef eA eh ei gd gc x9 x8 x7 w_
  rintro ⟨aA,aB,aC,aD,aw,aE,aF,aJ,aL,aQ,al,ao,aG,hI⟩
  obtain rfl:=aG je
  obtain rfl:=ao fi
  obtain rfl:=al fp
  obtain rfl:=aQ jt
  obtain rfl:=aL gK
  obtain rfl:=aJ fT
  obtain rfl:=aF fY
  obtain rfl:=aE fE
  obtain rfl:=aw fm
  obtain rfl:=aD fw
  obtain rfl:=aC fF
  obtain rfl:=aB fC
  obtain rfl:=aA fD
  clear aA aB aC aD aw aE aF aJ aL aQ al ao aG
  refine bk (fun hc=>?_) (fun hc=>?_)
  ·refine bL (by omega) ?_
   refine ⟨⟨j+1,hj',rfl,?_,hI⟩,by simp [intOf]; omega⟩
   rw [<- hrel,zu l t j hj' hc,List.take_succ_eq_append_getElem hj',List.append_assoc]
   rfl
  rw [uK l t j hj' hc] at hrel
  refine ⟨fun D ew eN dZ dP c5 cE cM bW bQ bU cA ce w_=>(D 0=true->ce=.int .i64 j)/\(D 1=true->cA=.slice (some ⟨b,o,none⟩) l.length cap)/\(D 2=true->bU=.int .i64 l.length)/\(D 3=true->bQ=.bool true)/\(D 4=true->bW=.bool true)/\(D 5=true->cM=.slice (some ⟨b,o,none⟩) l.length cap)/\(D 6=true->cE=.int .i64 j)/\(D 7=true->c5=.pointer (some ⟨b,o+j * 4,none⟩))/\(D 8=true->dP=.agg (bu c (o+j * 4) 4).toArray)/\(D 9=true->dZ=.agg cs.toArray)/\(D 10=true->eN=.bool (eqT l[j] t))/\(D 11=true->ew=.bool (eqT l[j] t))/\Inv w [] [.blk b3 (.cells cs.toArray ab)] S w_,⟨ae,ae,ae,ae,ae,ae,ae,ae,ae,ae,ae,ae,hI.draw⟩,⟨?_,?_,?_,?_,?_,?_,?_,?_,?_,?_,?_,?_,trivial⟩,?_⟩
  ·intro D aY  ew eN dZ dP c5 cE cM bW bQ bU cA ce w_
   rintro ⟨aA,aB,aC,aD,aw,aE,aF,aJ,aL,aQ,al,ao,hI⟩
   exact ⟨fun _=>rfl,aB,aC,aD,aw,aE,aF,aJ,aL,aQ,al,ao,hI⟩
  ·intro D aY  ew eN dZ dP c5 cE cM bW bQ bU cA ce w_
   rintro ⟨aA,aB,aC,aD,aw,aE,aF,aJ,aL,aQ,al,ao,hI⟩
   exact ⟨aA,fun _=>rfl,aC,aD,aw,aE,aF,aJ,aL,aQ,al,ao,hI⟩
  ·intro D aY dC ew eN dZ dP c5 cE cM bW bQ bU cA ce w_
   rintro ⟨aA,aB,aC,aD,aw,aE,aF,aJ,aL,aQ,al,ao,hI⟩
   obtain rfl:=aB dC
   refine fx av ?_
   exact ⟨aA,aB,fun _=>rfl,aD,aw,aE,aF,aJ,aL,aQ,al,ao,hI⟩
  ·intro D aY cc gA ew eN dZ dP c5 cE cM bW bQ bU cA ce w_
   rintro ⟨aA,aB,aC,aD,aw,aE,aF,aJ,aL,aQ,al,ao,hI⟩
   obtain rfl:=aA cc
   obtain rfl:=aC gA
   refine bR ?_; rw [decide_eq_true (show (j:Int)<(l.length:Int) by omega)]
   exact ⟨aA,aB,aC,fun _=>rfl,aw,aE,aF,aJ,aL,aQ,al,ao,hI⟩
  ·intro D aY dB ew eN dZ dP c5 cE cM bW bQ bU cA ce w_
   rintro ⟨aA,aB,aC,aD,aw,aE,aF,aJ,aL,aQ,al,ao,hI⟩
   obtain rfl:=aD dB
   exact ⟨aA,aB,aC,aD,fun _=>rfl,aE,aF,aJ,aL,aQ,al,ao,hI⟩
  ·intro D aY cR ew eN dZ dP c5 cE cM bW bQ bU cA ce w_
   rintro ⟨aA,aB,aC,aD,aw,aE,aF,aJ,aL,aQ,al,ao,hI⟩
   obtain rfl:=aw cR
   repeat (first|refine ad ?_|refine af (by decide) ?_|refine ac ?_|refine ah ?_|refine ag ?_)
   exact ⟨aA,aB,aC,aD,aw,fun _=>rfl,aF,aJ,aL,aQ,al,ao,hI⟩
  ·intro D aY cR ew eN dZ dP c5 cE cM bW bQ bU cA ce w_
   rintro ⟨aA,aB,aC,aD,aw,aE,aF,aJ,aL,aQ,al,ao,hI⟩
   obtain rfl:=aw cR
   repeat (first|refine ad ?_|refine af (by decide) ?_|refine ac ?_|refine ah ?_|refine ag ?_)
   exact ⟨aA,aB,aC,aD,aw,aE,fun _=>rfl,aJ,aL,aQ,al,ao,hI⟩
  ·intro D aY d3 ge jg ew eN dZ dP c5 cE cM bW bQ bU cA ce w_
   rintro ⟨aA,aB,aC,aD,aw,aE,aF,aJ,aL,aQ,al,ao,hI⟩
   obtain rfl:=aE d3
   obtain rfl:=aF ge
   obtain rfl:=aw jg
   repeat (first|refine ad ?_|refine af (by decide) ?_|refine ac ?_|refine ah ?_|refine ag ?_)
   refine bi av hj' ?_
   exact ⟨aA,aB,aC,aD,aw,aE,aF,fun _=>rfl,aL,aQ,al,ao,hI⟩
  ·intro D aY ed dJ ew eN dZ dP c5 cE cM bW bQ bU cA ce w_
   rintro ⟨aA,aB,aC,aD,aw,aE,aF,aJ,aL,aQ,al,ao,hI⟩
   obtain rfl:=aJ ed
   obtain rfl:=aw dJ
   repeat (first|refine ad ?_|refine af (by decide) ?_|refine ac ?_|refine ah ?_|refine ag ?_)
   refine cV ai hR.length (fun j v hj=>by rw [hI.cellS hS]; exact bm rfl j v hj) ?_
   exact ⟨aA,aB,aC,aD,aw,aE,aF,aJ,fun _=>rfl,aQ,al,ao,hI⟩
  ·intro D aY cR ew eN dZ dP c5 cE cM bW bQ bU cA ce w_
   rintro ⟨aA,aB,aC,aD,aw,aE,aF,aJ,aL,aQ,al,ao,hI⟩
   obtain rfl:=aw cR
   repeat (first|refine ad ?_|refine af (by decide) ?_|refine ac ?_|refine ah ?_|refine ag ?_)
   refine ba hI 0 ai rfl (by simpa using hlc) ?_
   exact ⟨aA,aB,aC,aD,aw,aE,aF,aJ,aL,fun _=>rfl,al,ao,hI⟩
  ·intro D aY jh fj jg IG ew eN dZ dP c5 cE cM bW bQ bU cA ce w_
   rintro ⟨aA,aB,aC,aD,aw,aE,aF,aJ,aL,aQ,al,ao,hI⟩
   obtain rfl:=aL jh
   obtain rfl:=aQ fj
   obtain rfl:=aw jg
   repeat (first|refine ad ?_|refine af (by decide) ?_|refine ac ?_|refine ah ?_|refine ag ?_)
   refine Run.callPure iE iJ hI (ik _ _ S _ _ hR hcs) fun w_ hI=>?_
   exact ⟨aA,aB,aC,aD,aw,aE,aF,aJ,aL,aQ,fun _=>rfl,ao,hI⟩
  ·intro D aY cR lJ ew eN dZ dP c5 cE cM bW bQ bU cA ce w_
   rintro ⟨aA,aB,aC,aD,aw,aE,aF,aJ,aL,aQ,al,ao,hI⟩
   obtain rfl:=aw cR
   obtain rfl:=al lJ
   repeat (first|refine ad ?_|refine af (by decide) ?_|refine ac ?_|refine ah ?_|refine ag ?_)
   exact ⟨aA,aB,aC,aD,aw,aE,aF,aJ,aL,aQ,al,fun _=>rfl,hI⟩
  intro D fi fp jt gK fT fY fE fm fw fF fC fD ew eN dZ dP c5 cE cM bW bQ bU cA ce w_
  rintro ⟨aA,aB,aC,aD,aw,aE,aF,aJ,aL,aQ,al,ao,hI⟩
  obtain rfl:=ao fi
  obtain rfl:=al fp
  obtain rfl:=aQ jt
  obtain rfl:=aL gK
  obtain rfl:=aJ fT
  obtain rfl:=aF fY
  obtain rfl:=aE fE
  obtain rfl:=aw fm
  obtain rfl:=aD fw
  obtain rfl:=aC fF
  obtain rfl:=aB fC
  obtain rfl:=aA fD
  clear aA aB aC aD aw aE aF aJ aL aQ al ao
  refine a8 (fun he=>?_) (fun he=>?_)
  ·rw [if_pos he,List.take_append_drop] at hrel
   rw [<- hrel]
   exact ⟨_,_,_,rfl,hI.pick [false],Ext.refl _ _ _,rfl,h⟩
  ·rw [if_neg (by rw [he]; decide)] at hrel
   rw [<- hrel]
   exact F1 j hI h hcs hj hn fun r S' w' hE hr hI=>⟨_,_,_,rfl,hI,hE,rfl,hr⟩
 ·have hje:j=l.length:=by omega
  have hv:∃ a m,v=.slice a l.length m:=by
   obtain ⟨a,m,e,_⟩:=h
   exact ⟨a,m,e⟩
  obtain ⟨a,m,rfl⟩:=hv
  rw [List.drop_eq_nil_of_le (by omega),eJ] at hrel
  refine ⟨fun D b0 dI dw dv ef eA eh ei gd gc x9 x8 x7 w_=>(D 0=true->x7=.int .i64 j)/\(D 1=true->x8=.slice a l.length m)/\(D 2=true->x9=.int .i64 l.length)/\(D 3=true->gc=.bool false)/\(D 4=true->gd=.bool false)/\(D 5=true->ei=undef)/\(D 6=true->eh=undef)/\(D 7=true->eA=undef)/\(D 8=true->ef=undef)/\(D 9=true->dv=undef)/\(D 10=true->dw=undef)/\(D 11=true->dI=undef)/\(D 12=true->b0=.bool false)/\Inv w [] [.blk b3 (.cells cs.toArray ab)] S w_,⟨ae,ae,ae,ae,ae,ae,ae,ae,ae,ae,ae,ae,ae,hI.draw⟩,⟨?_,?_,?_,?_,?_,?_,?_,?_,?_,?_,?_,?_,?_,trivial⟩,?_⟩
  ·intro D aY  b0 dI dw dv ef eA eh ei gd gc x9 x8 x7 w_
   rintro ⟨aA,aB,aC,aD,aw,aE,aF,aJ,aL,aQ,al,ao,aG,hI⟩
   exact ⟨fun _=>rfl,aB,aC,aD,aw,aE,aF,aJ,aL,aQ,al,ao,aG,hI⟩
  ·intro D aY  b0 dI dw dv ef eA eh ei gd gc x9 x8 x7 w_
   rintro ⟨aA,aB,aC,aD,aw,aE,aF,aJ,aL,aQ,al,ao,aG,hI⟩
   exact ⟨aA,fun _=>rfl,aC,aD,aw,aE,aF,aJ,aL,aQ,al,ao,aG,hI⟩
  ·intro D aY dC b0 dI dw dv ef eA eh ei gd gc x9 x8 x7 w_
   rintro ⟨aA,aB,aC,aD,aw,aE,aF,aJ,aL,aQ,al,ao,aG,hI⟩
   obtain rfl:=aB dC
   refine fx av ?_
   exact ⟨aA,aB,fun _=>rfl,aD,aw,aE,aF,aJ,aL,aQ,al,ao,aG,hI⟩
  ·intro D aY cc gA b0 dI dw dv ef eA eh ei gd gc x9 x8 x7 w_
   rintro ⟨aA,aB,aC,aD,aw,aE,aF,aJ,aL,aQ,al,ao,aG,hI⟩
   obtain rfl:=aA cc
   obtain rfl:=aC gA
   refine bR ?_; rw [decide_eq_false (show ¬ (j:Int)<(l.length:Int) by omega)]
   exact ⟨aA,aB,aC,fun _=>rfl,aw,aE,aF,aJ,aL,aQ,al,ao,aG,hI⟩
  ·intro D aY dB b0 dI dw dv ef eA eh ei gd gc x9 x8 x7 w_
   rintro ⟨aA,aB,aC,aD,aw,aE,aF,aJ,aL,aQ,al,ao,aG,hI⟩
   obtain rfl:=aD dB
   exact ⟨aA,aB,aC,aD,fun _=>rfl,aE,aF,aJ,aL,aQ,al,ao,aG,hI⟩
  ·intro D aY cR b0 dI dw dv ef eA eh ei gd gc x9 x8 x7 w_
   rintro ⟨aA,aB,aC,aD,aw,aE,aF,aJ,aL,aQ,al,ao,aG,hI⟩
   obtain rfl:=aw cR
   repeat (first|refine ad ?_|refine af (by decide) ?_|refine ac ?_|refine ah ?_|refine ag ?_)
   exact ⟨aA,aB,aC,aD,aw,fun _=>rfl,aF,aJ,aL,aQ,al,ao,aG,hI⟩
  ·intro D aY cR b0 dI dw dv ef eA eh ei gd gc x9 x8 x7 w_
   rintro ⟨aA,aB,aC,aD,aw,aE,aF,aJ,aL,aQ,al,ao,aG,hI⟩
   obtain rfl:=aw cR
   repeat (first|refine ad ?_|refine af (by decide) ?_|refine ac ?_|refine ah ?_|refine ag ?_)
   exact ⟨aA,aB,aC,aD,aw,aE,fun _=>rfl,aJ,aL,aQ,al,ao,aG,hI⟩
  ·intro D aY d3 ge jg b0 dI dw dv ef eA eh ei gd gc x9 x8 x7 w_
   rintro ⟨aA,aB,aC,aD,aw,aE,aF,aJ,aL,aQ,al,ao,aG,hI⟩
   obtain rfl:=aE d3
   obtain rfl:=aF ge
   obtain rfl:=aw jg
   repeat (first|refine ad ?_|refine af (by decide) ?_|refine ac ?_|refine ah ?_|refine ag ?_)
   exact ⟨aA,aB,aC,aD,aw,aE,aF,fun _=>rfl,aL,aQ,al,ao,aG,hI⟩
  ·intro D aY ed dJ b0 dI dw dv ef eA eh ei gd gc x9 x8 x7 w_
   rintro ⟨aA,aB,aC,aD,aw,aE,aF,aJ,aL,aQ,al,ao,aG,hI⟩
   obtain rfl:=aJ ed
   obtain rfl:=aw dJ
   repeat (first|refine ad ?_|refine af (by decide) ?_|refine ac ?_|refine ah ?_|refine ag ?_)
   exact ⟨aA,aB,aC,aD,aw,aE,aF,aJ,fun _=>rfl,aQ,al,ao,aG,hI⟩
  ·intro D aY cR b0 dI dw dv ef eA eh ei gd gc x9 x8 x7 w_
   rintro ⟨aA,aB,aC,aD,aw,aE,aF,aJ,aL,aQ,al,ao,aG,hI⟩
   obtain rfl:=aw cR
   repeat (first|refine ad ?_|refine af (by decide) ?_|refine ac ?_|refine ah ?_|refine ag ?_)
   exact ⟨aA,aB,aC,aD,aw,aE,aF,aJ,aL,fun _=>rfl,al,ao,aG,hI⟩
  ·intro D aY jh fj jg IG b0 dI dw dv ef eA eh ei gd gc x9 x8 x7 w_
   rintro ⟨aA,aB,aC,aD,aw,aE,aF,aJ,aL,aQ,al,ao,aG,hI⟩
   obtain rfl:=aL jh
   obtain rfl:=aQ fj
   obtain rfl:=aw jg
   repeat (first|refine ad ?_|refine af (by decide) ?_|refine ac ?_|refine ah ?_|refine ag ?_)
   exact ⟨aA,aB,aC,aD,aw,aE,aF,aJ,aL,aQ,fun _=>rfl,ao,aG,hI⟩
  ·intro D aY gx dJ b0 dI dw dv ef eA eh ei gd gc x9 x8 x7 w_
   rintro ⟨aA,aB,aC,aD,aw,aE,aF,aJ,aL,aQ,al,ao,aG,hI⟩
   obtain rfl:=al gx
   obtain rfl:=aw dJ
   repeat (first|refine ad ?_|refine af (by decide) ?_|refine ac ?_|refine ah ?_|refine ag ?_)
   exact ⟨aA,aB,aC,aD,aw,aE,aF,aJ,aL,aQ,al,fun _=>rfl,aG,hI⟩
  ·intro D aY cR GL b0 dI dw dv ef eA eh ei gd gc x9 x8 x7 w_
   rintro ⟨aA,aB,aC,aD,aw,aE,aF,aJ,aL,aQ,al,ao,aG,hI⟩
   obtain rfl:=aw cR
   obtain rfl:=ao GL
   repeat (first|refine ad ?_|refine af (by decide) ?_|refine ac ?_|refine ah ?_|refine ag ?_)
   exact ⟨aA,aB,aC,aD,aw,aE,aF,aJ,aL,aQ,al,ao,fun _=>rfl,hI⟩
  intro D je fi fp jt gK fT fY fE fm fw fF fC fD b0 dI dw dv ef eA eh ei gd gc x9 x8 x7 w_
  rintro ⟨aA,aB,aC,aD,aw,aE,aF,aJ,aL,aQ,al,ao,aG,hI⟩
  obtain rfl:=aG je
  obtain rfl:=ao fi
  obtain rfl:=al fp
  obtain rfl:=aQ jt
  obtain rfl:=aL gK
  obtain rfl:=aJ fT
  obtain rfl:=aF fY
  obtain rfl:=aE fE
  obtain rfl:=aw fm
  obtain rfl:=aD fw
  obtain rfl:=aC fF
  obtain rfl:=aB fC
  obtain rfl:=aA fD
  clear aA aB aC aD aw aE aF aJ aL aQ al ao aG
  refine a8 (fun hb=>by cases hb) (fun _=>?_)
  refine ⟨fun D ew eN dZ dP c5 cE cM bW bQ bU cA ce w_=>(D 0=true->ce=.int .i64 j)/\(D 1=true->cA=.slice a l.length m)/\(D 2=true->bU=.int .i64 l.length)/\(D 3=true->bQ=.bool false)/\(D 4=true->bW=.bool false)/\(D 5=true->cM=undef)/\(D 6=true->cE=undef)/\(D 7=true->c5=undef)/\(D 8=true->dP=undef)/\(D 9=true->dZ=undef)/\(D 10=true->eN=undef)/\(D 11=true->ew=.bool false)/\Inv w [] [.blk b3 (.cells cs.toArray ab)] S w_,⟨ae,ae,ae,ae,ae,ae,ae,ae,ae,ae,ae,ae,hI.draw⟩,⟨?_,?_,?_,?_,?_,?_,?_,?_,?_,?_,?_,?_,trivial⟩,?_⟩
  ·intro D aY  ew eN dZ dP c5 cE cM bW bQ bU cA ce w_
   rintro ⟨aA,aB,aC,aD,aw,aE,aF,aJ,aL,aQ,al,ao,hI⟩
   exact ⟨fun _=>rfl,aB,aC,aD,aw,aE,aF,aJ,aL,aQ,al,ao,hI⟩
  ·intro D aY  ew eN dZ dP c5 cE cM bW bQ bU cA ce w_
   rintro ⟨aA,aB,aC,aD,aw,aE,aF,aJ,aL,aQ,al,ao,hI⟩
   exact ⟨aA,fun _=>rfl,aC,aD,aw,aE,aF,aJ,aL,aQ,al,ao,hI⟩
  ·intro D aY dC ew eN dZ dP c5 cE cM bW bQ bU cA ce w_
   rintro ⟨aA,aB,aC,aD,aw,aE,aF,aJ,aL,aQ,al,ao,hI⟩
   obtain rfl:=aB dC
   refine fx av ?_
   exact ⟨aA,aB,fun _=>rfl,aD,aw,aE,aF,aJ,aL,aQ,al,ao,hI⟩
  ·intro D aY cc gA ew eN dZ dP c5 cE cM bW bQ bU cA ce w_
   rintro ⟨aA,aB,aC,aD,aw,aE,aF,aJ,aL,aQ,al,ao,hI⟩
   obtain rfl:=aA cc
   obtain rfl:=aC gA
   refine bR ?_; rw [decide_eq_false (show ¬ (j:Int)<(l.length:Int) by omega)]
   exact ⟨aA,aB,aC,fun _=>rfl,aw,aE,aF,aJ,aL,aQ,al,ao,hI⟩
  ·intro D aY dB ew eN dZ dP c5 cE cM bW bQ bU cA ce w_
   rintro ⟨aA,aB,aC,aD,aw,aE,aF,aJ,aL,aQ,al,ao,hI⟩
   obtain rfl:=aD dB
   exact ⟨aA,aB,aC,aD,fun _=>rfl,aE,aF,aJ,aL,aQ,al,ao,hI⟩
  ·intro D aY cR ew eN dZ dP c5 cE cM bW bQ bU cA ce w_
   rintro ⟨aA,aB,aC,aD,aw,aE,aF,aJ,aL,aQ,al,ao,hI⟩
   obtain rfl:=aw cR
   repeat (first|refine ad ?_|refine af (by decide) ?_|refine ac ?_|refine ah ?_|refine ag ?_)
   exact ⟨aA,aB,aC,aD,aw,fun _=>rfl,aF,aJ,aL,aQ,al,ao,hI⟩
  ·intro D aY cR ew eN dZ dP c5 cE cM bW bQ bU cA ce w_
   rintro ⟨aA,aB,aC,aD,aw,aE,aF,aJ,aL,aQ,al,ao,hI⟩
   obtain rfl:=aw cR
   repeat (first|refine ad ?_|refine af (by decide) ?_|refine ac ?_|refine ah ?_|refine ag ?_)
   exact ⟨aA,aB,aC,aD,aw,aE,fun _=>rfl,aJ,aL,aQ,al,ao,hI⟩
  ·intro D aY d3 ge jg ew eN dZ dP c5 cE cM bW bQ bU cA ce w_
   rintro ⟨aA,aB,aC,aD,aw,aE,aF,aJ,aL,aQ,al,ao,hI⟩
   obtain rfl:=aE d3
   obtain rfl:=aF ge
   obtain rfl:=aw jg
   repeat (first|refine ad ?_|refine af (by decide) ?_|refine ac ?_|refine ah ?_|refine ag ?_)
   exact ⟨aA,aB,aC,aD,aw,aE,aF,fun _=>rfl,aL,aQ,al,ao,hI⟩
  ·intro D aY ed dJ ew eN dZ dP c5 cE cM bW bQ bU cA ce w_
   rintro ⟨aA,aB,aC,aD,aw,aE,aF,aJ,aL,aQ,al,ao,hI⟩
   obtain rfl:=aJ ed
   obtain rfl:=aw dJ
   repeat (first|refine ad ?_|refine af (by decide) ?_|refine ac ?_|refine ah ?_|refine ag ?_)
   exact ⟨aA,aB,aC,aD,aw,aE,aF,aJ,fun _=>rfl,aQ,al,ao,hI⟩
  ·intro D aY cR ew eN dZ dP c5 cE cM bW bQ bU cA ce w_
   rintro ⟨aA,aB,aC,aD,aw,aE,aF,aJ,aL,aQ,al,ao,hI⟩
   obtain rfl:=aw cR
   repeat (first|refine ad ?_|refine af (by decide) ?_|refine ac ?_|refine ah ?_|refine ag ?_)
   exact ⟨aA,aB,aC,aD,aw,aE,aF,aJ,aL,fun _=>rfl,al,ao,hI⟩
  ·intro D aY jh fj jg IG ew eN dZ dP c5 cE cM bW bQ bU cA ce w_
   rintro ⟨aA,aB,aC,aD,aw,aE,aF,aJ,aL,aQ,al,ao,hI⟩
   obtain rfl:=aL jh
   obtain rfl:=aQ fj
   obtain rfl:=aw jg
   repeat (first|refine ad ?_|refine af (by decide) ?_|refine ac ?_|refine ah ?_|refine ag ?_)
   exact ⟨aA,aB,aC,aD,aw,aE,aF,aJ,aL,aQ,fun _=>rfl,ao,hI⟩
  ·intro D aY cR lJ ew eN dZ dP c5 cE cM bW bQ bU cA ce w_
   rintro ⟨aA,aB,aC,aD,aw,aE,aF,aJ,aL,aQ,al,ao,hI⟩
   obtain rfl:=aw cR
   obtain rfl:=al lJ
   repeat (first|refine ad ?_|refine af (by decide) ?_|refine ac ?_|refine ah ?_|refine ag ?_)
   exact ⟨aA,aB,aC,aD,aw,aE,aF,aJ,aL,aQ,al,fun _=>rfl,hI⟩
  intro D fi fp jt gK fT fY fE fm fw fF fC fD ew eN dZ dP c5 cE cM bW bQ bU cA ce w_
  rintro ⟨aA,aB,aC,aD,aw,aE,aF,aJ,aL,aQ,al,ao,hI⟩
  obtain rfl:=ao fi
  obtain rfl:=al fp
  obtain rfl:=aQ jt
  obtain rfl:=aL gK
  obtain rfl:=aJ fT
  obtain rfl:=aF fY
  obtain rfl:=aE fE
  obtain rfl:=aw fm
  obtain rfl:=aD fw
  obtain rfl:=aC fF
  obtain rfl:=aB fC
  obtain rfl:=aA fD
  clear aA aB aC aD aw aE aF aJ aL aQ al ao
  refine a8 (fun hb=>by cases hb) (fun _=>?_)
  rw [<- hrel]
  refine F1 j hI h hcs hj hn fun r S' w' hE hr hI=>⟨_,_,_,rfl,hI,hE,rfl,?_⟩
  rw [List.drop_eq_nil_of_le (by omega)] at hr
  exact hr
end

end Go.Proofs.YtemmhhdnlbmicaaGreat

/- spec.l16Has, l16Match, l16Full. -/
namespace Go.Proofs.YtemmhhdnlbmicaaGreat
open Go Go.RowKit
def kx (l:List T) (t:T):Bool:=l.any fun x=>eqT x t
def sw:T:=.mk 0 0 ⟨#[]⟩ []
def qZ (st:bt) (n:Int):T:=match st[n.toNat]? with
 | some (some t)=>t
 | _=>sw
def iZ (st:bt) (x:T):T:=if x.kind=1 then qZ st x.n else x
def wm (g:T) (st:bt):T:=.mk g.kind 0 g.name (g.kids.map (iZ st))
def stW (st:bt):Prop:=∀ t,some t∈st->wT t<=1048576
theorem Ly (st:bt) (n:Int):qZ st n=sw ∨ some (qZ st n)∈st:=by
 rw [qZ]
 split
 ·rename_i t h
  exact .inr (List.mem_of_getElem? h)
 ·exact .inl rfl
theorem ME:wT sw<=1048576:=by
 have:wT sw=0:=rfl
 omega
theorem Me {st:bt} (h:stW st) {ks:List T} {j:Nat} (hj:j<ks.length) (hw:wL ks<=1048576):wT (iZ st ks[j])<=1048576:=by
 rw [iZ]
 split
 ·rcases Ly st ks[j].n with e|e
  ·rw [e]; exact ME
  ·exact h _ e
 ·have:=iB (List.getElem_mem hj)
  omega
theorem Iu (st:bt) (ks:List T) (j:Nat) (h:j<ks.length):(ks.take (j+1)).map (iZ st)=(ks.take j).map (iZ st)++[iZ st ks[j]]:=by
 rw [List.take_succ_eq_append_getElem h,List.map_append]; rfl
theorem RdT.zero (S:az):RdT S pI sw:=RdT.iff.2 ⟨_,rfl,by simp [inI,T.kind,sw],by simp [inI,T.n,sw],by rw [sw,T.name]; decide +kernel,none,0,rfl,Nat.le_refl _,Nat.zero_le _,.inl rfl⟩
theorem KnownC.get {S:az} {kc:Array Value} {st:bt} (h:KnownC S kc st) (hst:st.length=26) {j:Nat} (hj:j<26):RdT S (bu kc (j * 4) 4) (qZ st j):=by
 obtain ⟨h1,h2⟩:=h.2 j (by omega)
 rw [qZ,Int.toNat_natCast,List.getElem?_eq_getElem (show j<st.length by omega)]
 cases e:st[j] with
 | none=>
  rw [h1 e]
  exact RdT.zero S
 | some t=>exact h2 t e
/- what is known, as a row of optional terms -/
def KRel (S:az) (cs:List Value) (o:Option T):Prop:=cs.length=4/\(o=none->cs=pI)/\∀ t,o=some t->RdT S cs t
theorem KRel.one {S:az} {cs:List Value} {o:Option T} (h:KRel S cs o):∀ u∈cs,u.oneCell'=true:=by
 cases o with
 | none=>rw [h.2.1 rfl]; simp [pI,Value.oneCell']
 | some t=>exact (h.2.2 t rfl).one
theorem KnownC.rd {S:az} {kb kp:Nat} {kc:Array Value} {st:bt} {E:TypeId} (hS:S kb=some (.cells kc E)) (h:KnownC S kc st) (hst:st.length=26) (hkp:26<=kp) (hkm:kp<=maxLen):RdSl S 4 (KRel S) (kvn kb kp) st:=by
 refine ⟨some ⟨kb,0,none⟩,kp,by rw [hst],by omega,hkm,.inr ⟨kb,0,kc,E,(0,0),rfl,hS,fun i hi=>?_⟩⟩
 obtain ⟨h1,h2⟩:=h.2 i hi
 rw [Nat.zero_add]
 refine ⟨?_,h1,h2⟩
 have:=h.1
 rw [bu,List.length_take,List.length_drop,Array.length_toList]
 omega
theorem KnownC.of_rows {S:az} {cur:Array Value} {css:List (List Value)} {st:bt} (h:Rows 4 (KRel S) css st) (hst:st.length=26) {cap:Nat} (hcap:26<=cap) (hs:cur.size=cap * 4) (ht:cur.toList.take (css.length * 4)=css.flatten):KnownC S cur st:=by
 have hc:=h.hc
 refine ⟨by omega,fun i hi=>?_⟩
 have hi':i<css.length:=by omega
 have hfl:=jP 4 css i h.hk hi'
 have e:bu cur (i * 4) 4=css[i]:=by
  rw [<- hfl,<- ht,List.drop_take,List.take_take,Nat.min_eq_left (by omega)]
  rfl
 have hr:=h.hR i hi hi'
 rw [<- e] at hr
 exact ⟨hr.2.1,hr.2.2⟩
section
attribute [local irreducible] Run CondV aj bd
theorem Ey {l:List T} {t:T} {S:az} {v:Value} {cs:List Value} (h:RdSl S 4 (RdT S) v l) (hcs:RdT S cs t):Pure Tryz.prog Ic [v,.agg cs.toArray] S (.bool (kx l t)):=by
 intro w hI
 have hlc:=hcs.length
 have hlen:=h.le
 simp only [maxLen] at hlen
 refine As ?_
 unfold wu
 refine bM hI fun b3 w' hI=>?_
 have hI:Inv w [] [.blk b3 (.cells cs.toArray ab)] S w':=hI
 refine ⟨fun i w'=>∃ j:Nat,j<=l.length/\i=.int .i64 j/\kx (l.drop j) t=kx l t/\Inv w [] [.blk b3 (.cells cs.toArray ab)] S w',
  fun i _=>l.length - (intOf i).toNat,⟨0,Nat.zero_le _,rfl,rfl,hI⟩,?_⟩
 intro t5 _ _ _ _ _ _ _ _ _ _ _ _ _ w'
 rintro ⟨j,hj,rfl,hrel,hI⟩
 refine a9 h av ?_
 refine bR ?_
 refine bk (fun hji=>?_) (fun hji=>?_)
 ·have hj':j<l.length:=by omega
  obtain ⟨b,o,cap,c,E,fz,rfl,hS,hR⟩:=h.at_ hj'
  have hstep:kx (l.drop j) t=(eqT l[j] t || kx (l.drop (j+1)) t):=by
   rw [kx,List.drop_eq_getElem_cons hj',List.any_cons]; rfl
  refine ⟨fun D dw dv ef eA eh ei w_=>(D 0=true->ei=.slice (some ⟨b,o,none⟩) l.length cap)/\(D 1=true->eh=.int .i64 j)/\(D 2=true->eA=.pointer (some ⟨b,o+j * 4,none⟩))/\(D 3=true->ef=.agg (bu c (o+j * 4) 4).toArray)/\(D 4=true->dv=.agg cs.toArray)/\(D 5=true->dw=.bool (eqT l[j] t))/\Inv w [] [.blk b3 (.cells cs.toArray ab)] S w_,⟨ae,ae,ae,ae,ae,ae,hI.draw⟩,⟨?_,?_,?_,?_,?_,?_,trivial⟩,?_⟩
  ·intro D aY  dw dv ef eA eh ei w_
   rintro ⟨aA,aB,aC,aD,aw,aE,hI⟩
   exact ⟨fun _=>rfl,aB,aC,aD,aw,aE,hI⟩
  ·intro D aY  dw dv ef eA eh ei w_
   rintro ⟨aA,aB,aC,aD,aw,aE,hI⟩
   exact ⟨aA,fun _=>rfl,aC,aD,aw,aE,hI⟩
  ·intro D aY cc ij dw dv ef eA eh ei w_
   rintro ⟨aA,aB,aC,aD,aw,aE,hI⟩
   obtain rfl:=aA cc
   obtain rfl:=aB ij
   refine bi av hj' ?_
   exact ⟨aA,aB,fun _=>rfl,aD,aw,aE,hI⟩
  ·intro D aY eq dw dv ef eA eh ei w_
   rintro ⟨aA,aB,aC,aD,aw,aE,hI⟩
   obtain rfl:=aC eq
   refine cV ai hR.length (fun j v hj=>by rw [hI.cellS hS]; exact bm rfl j v hj) ?_
   exact ⟨aA,aB,aC,fun _=>rfl,aw,aE,hI⟩
  ·intro D aY  dw dv ef eA eh ei w_
   rintro ⟨aA,aB,aC,aD,aw,aE,hI⟩
   refine ba hI 0 ai rfl (by simpa using hlc) ?_
   exact ⟨aA,aB,aC,aD,fun _=>rfl,aE,hI⟩
  ·intro D aY dB dJ dw dv ef eA eh ei w_
   rintro ⟨aA,aB,aC,aD,aw,aE,hI⟩
   obtain rfl:=aD dB
   obtain rfl:=aw dJ
   refine Run.callPure iE iJ hI (ik _ _ S _ _ hR hcs) fun w_ hI=>?_
   exact ⟨aA,aB,aC,aD,aw,fun _=>rfl,hI⟩
  intro D fE fm fw fF fC fD dw dv ef eA eh ei w_
  rintro ⟨aA,aB,aC,aD,aw,aE,hI⟩
  obtain rfl:=aE fE
  obtain rfl:=aw fm
  obtain rfl:=aD fw
  obtain rfl:=aC fF
  obtain rfl:=aB fC
  obtain rfl:=aA fD
  clear aA aB aC aD aw aE
  refine a8 (fun he=>done hI ?_) (fun he=>?_)
  ·rw [<- hrel,hstep,he]; rfl
  ·refine bL (by omega) ?_
   exact ⟨⟨j+1,hj',rfl,by rw [<- hrel,hstep,he]; rfl,hI⟩,by simp [intOf]; omega⟩
 ·refine done hI ?_
  rw [<- hrel,List.drop_eq_nil_of_le (by omega)]; rfl
abbrev Ot (r:Bool × bt):Value->List Item->az->Prop:=fun v I' S'=>I'=[]/\∃ kb kp kc,v=.tuple #[kvn kb kp,.bool r.1]/\26<=kp/\kp<=maxLen/\S' kb=some (.cells kc ab)/\KnownC S' kc r.2
theorem KnownC.mono {S S':az} {kc:Array Value} {st:bt} (h:KnownC S kc st) (hs:Sle S S'):KnownC S' kc st:=
 ⟨h.1,fun i hi=>⟨(h.2 i hi).1,fun t ht=>((h.2 i hi).2 t ht).mono hs⟩⟩
theorem z4 {g f:T} {S:az} {cs ds:List Value} {kb kp:Nat} {kc:Array Value} {st:bt} (hg:RdT S cs g) (hf:RdT S ds f) (hv:okV g) (hk:okK f) (hst:u1 st) (hkp:26<=kp) (hkm:kp<=maxLen)
  (hS:S kb=some (.cells kc ab)) (hkc:KnownC S kc st):Tri Tryz.prog DQ [.agg cs.toArray,.agg ds.toArray,kvn kb kp] [] S (Ot (bK g f st)):=by
 intro w hI
 have hlg:=hg.length
 have hlf:=hf.length
 refine uX ?_
 unfold qn
 refine bM hI fun b3 w' hI=>?_
 refine bM hI fun b4 w' hI=>?_
 refine eB hI bD fun v0 w' hI=>?_
 have hI:Inv w [] [.blk b3 (.cells cs.toArray ab),.blk b4 (.cells ds.toArray ab),bj v0 ab 4 []] S w':=hI
 have hrd:=hkc.rd hS hst.1 hkp hkm
 refine jU hI 2 (css:=[]) bD (by omega) rfl hrd (fun _ _ h=>h.1) (fun _ _=>KRel.one) (by simp [hst.1]) (by omega) fun v1 w' css hR hI=>?_
 have hI:Inv w [] ([.blk b3 (.cells cs.toArray ab),.blk b4 (.cells ds.toArray ab)]++[bj v1 ab 4 css]) S w':=by simpa using hI
 have hcl:css.length=26:=by rw [hR.hc]; exact hst.1
 obtain ⟨_,ho⟩:=hI.openRow
 rcases ho with ⟨_,h0⟩|⟨nb,cap,cur,rfl,hnc,hcm,hcs,ht,hI⟩
 ·omega
 rw [hcl] at hnc
 have hkc':=KnownC.of_rows hR hst.1 hnc hcs ht
 rw [hcl]
 refine ba hI 0 ai rfl (by simpa using hlg) ?_
 refine ba hI 1 ai rfl (by simpa using hlf) ?_
 refine Run.call (A:=[_,_]) uo ut hI (BI cap _ _ S _ _ nb cur st hg hf hv hk hst hkc') fun v' I' S' w'=>?_
 rintro ⟨rfl,rfl,kc2,rfl,hk2⟩ _ hI
 obtain ⟨S',hI,hE,hins⟩:=Inv.pubExt (A:=[.blk b3 (.cells cs.toArray ab),.blk b4 (.cells ds.toArray ab)]) (L:=[(nb,.cells kc2 ab)]) hI
 exact ⟨_,_,_,rfl,hI.pick [false,false],hE,rfl,nb,cap,kc2,rfl,hnc,hcm,hins _ (List.mem_singleton.2 rfl),hk2.mono hE.1⟩
theorem Ci {g:T} {S:az} {cs:List Value} {kb kp:Nat} {kc:Array Value} {st:bt} (hg:RdT S cs g) (hv:okV g) (hw:wT g<=1048576) (hst:u1 st) (hsw:stW st)
  (hS:S kb=some (.cells kc ab)) (hkc:KnownC S kc st):Tri Tryz.prog Hv [.agg cs.toArray,kvn kb kp] [] S (Gb S (wm g st)):=by
 intro w hI
 obtain ⟨kv,rfl,h1,h2,hs,hks⟩:=RdT.iff.1 hg
 obtain ⟨k,n,s,ks⟩:=g
 simp only [T.name,T.kids,T.kind,T.n] at h1 h2 hs hks ⊢
 simp only [wT] at hw
 rw [okV] at hv
 have hvk:=hv.2
 refine ya ?_
 unfold tj
 refine bM hI fun b2 w' hI=>?_
 obtain ⟨hI,hle⟩:=Inv.publishLast (L:=[]) hI
 have hb2:lR S b2 (.cells (Value.agg #[.int .i64 k,.int .i64 n,.string s,kv]).cells ab) b2=some (.cells #[.int .i64 k,.int .i64 n,.string s,kv] ab):=by simp [lR,Value.cells]
 generalize lR S b2 (.cells (Value.agg #[.int .i64 k,.int .i64 n,.string s,kv]).cells ab)=S1 at hI hle hb2
 have hks1:=hks.monoT hle
 have hS1:=hle _ _ hS
 have hkc1:=hkc.mono hle
 refine bw hI bG fun b4 w' hI=>?_
 refine bh bx ?_
 refine dM bn (by rw [hI.cellS hb2]; rfl) ?_
 refine bh bo ?_
 refine dM bl (by rw [hI.cellS hb2]; rfl) ?_
 have hb:∀ {K:Value->World->Prop} {w':World},K (.agg #[.int .i64 k,.int .i64 0,.string s,.slice none 0 0]) w'->Run Tryz.prog (dy ab [(0,.int .i64 k),(2,.string s)]) w' K:=by
  intro K w' hk
  refine Run.of (v:=.agg #[.int .i64 k,.int .i64 0,.string s,.slice none 0 0]) (w':=w') ?_ hk
  unfold dy
  rw [Sem.run_bind,run_build w' ab _ #[.int .i64 k,.int .i64 0,.string s,.slice none 0 0] (by kernel_rfl),Result.andThen_ok]
  rfl
 refine hb ?_
 refine bw hI bG fun b5 w' hI=>?_
 refine bf hI 1 rfl ai rfl rfl (by simp [Value.oneCell']) fun w' hI=>?_
 have hI:=hI.rowNil ab 4
 refine ⟨fun i w'=>∃ (j:Nat) (kvc:Value) (Ls:List bI) (css:List (List Value)),j<=ks.length/\i=.int .i64 j/\Grown 4 TrT Ls css ((ks.take j).map (iZ st))/\
   Inv w [] (.blk b4 (.cells #[.int .i64 0,.int .i64 0,.string ⟨#[]⟩,.slice none 0 0] ab)::.blk b5 (.cells #[.int .i64 k,.int .i64 0,.string s,kvc] ab)::bj kvc ab 4 css::bP Ls.flatten) S1 w',
  fun i _=>ks.length - (intOf i).toNat,⟨0,_,[],[],Nat.zero_le _,rfl,Grown.nil _ _,hI⟩,?_⟩
 intro t6 _ _ _ _ _ _ _ _ _ _ _ _ _ _ _ _ _ _ _ _ _ _ _ _ _ _ _ _ w'
 rintro ⟨j,kvc,Ls,css,hj,rfl,hg',hI⟩
 refine bh aT ?_
 refine dM aP (by rw [hI.cellS hb2]; rfl) ?_
 refine a9 hks1 av ?_
 refine bR ?_
 refine bk (fun hji=>?_) (fun hji=>?_)
 ·have hj':j<ks.length:=by omega
  have hjl:(ks.take j).length=j:=by simp; omega
  have hcl:=hg'.hc
  rw [List.length_map] at hcl
  have hm:=List.getElem_mem hj'
  have hwm:=iB hm
  have hvj:=oB hvk _ hm
  refine bh aT ?_
  refine dM aP (by rw [hI.cellS hb2]; rfl) ?_
  refine dG hI hks1 av ai hj' (fun _ _=>RdT.length) fun cs0 hcs0=>?_
  refine bw hI bG fun b7 w' hI=>?_
  have hI:=hI.perm (M:=.blk b7 _::(.blk b4 (.cells #[.int .i64 0,.int .i64 0,.string ⟨#[]⟩,.slice none 0 0] ab)::.blk b5 (.cells #[.int .i64 k,.int .i64 0,.string s,kvc] ab)::bj kvc ab 4 css::bP Ls.flatten)) (List.perm_append_comm (l₁:=[_]))
  refine bf hI 0 rfl ai (by simpa using hcs0.length) rfl (by simpa using hcs0.one) fun w' hI=>?_
  refine ⟨fun w'=>∃ c7,RdT S1 c7 (iZ st ks[j])/\Inv w [] (.blk b7 (.cells c7.toArray ab)::.blk b4 (.cells #[.int .i64 0,.int .i64 0,.string ⟨#[]⟩,.slice none 0 0] ab)::.blk b5 (.cells #[.int .i64 k,.int .i64 0,.string s,kvc] ab)::bj kvc ab 4 css::bP Ls.flatten) S1 w',?_,?_⟩
  ·obtain ⟨x0,hc0,_⟩:=RdT.iff.1 hcs0
   refine aI hI 0 (u:=.int .i64 ks[j].kind) rfl bx bn (by rw [hc0]; rfl) ?_
   refine bO ?_
   refine bk (fun hk1=>?_) (fun hk1=>?_)
   ·have hvn:0<=ks[j].n/\ks[j].n<=25:=by
     have hx:=hvj
     generalize ks[j]=x at hx hk1
     cases x
     rw [okV] at hx
     exact hx.1 hk1
    obtain ⟨m,hm'⟩:∃ m:Nat,ks[j].n=m:=⟨ks[j].n.toNat,by omega⟩
    have hm26:m<26:=by omega
    have hget:=hkc1.get hst.1 hm26
    rw [iZ,if_pos hk1,hm']
    refine aI hI 0 (u:=.int .i64 ks[j].n) rfl bJ bn (by rw [hc0]; rfl) ?_
    rw [hm']
    refine bi av hm26 ?_
    refine cV (cs:=bu kc (m * 4) 4) ai hget.length (fun i v hi=>by rw [hI.cellS hS1,Nat.zero_add]; exact bm rfl i v hi) ?_
    refine bf hI 0 rfl ai (by simpa using hget.length) (by simpa using hcs0.length) (by simpa using hget.one) fun w' hI=>?_
    exact ⟨_,hget,hI⟩
   ·rw [iZ,if_neg hk1]
    exact ⟨_,hcs0,hI⟩
  intro _ _ _ _ _ _ _ _ w'
  rintro ⟨c7,hc7,hI⟩
  refine ⟨fun D eE ek eF dX dY hH ew w_=>(D 0=true->ew=.pointer (some ⟨b5,3,none⟩))/\(D 1=true->hH=kvc)/\(D 2=true->dY=.agg c7.toArray)/\(D 3=true->True)/\(D 4=true->True)/\(D 5=true->True)/\(D 6=true->eE=.pointer (some ⟨b5,3,none⟩))/\(D 7=true->True)/\∃ M cs7 b8,(D 3=true->dX=.agg cs7.toArray/\TrT M cs7 (iZ st ks[j]))/\(D 4=true->eF=.slice (some ⟨b8,0,none⟩) 1 1)/\(D 4=true->D 3=true)/\(D 5=true->D 4=true)/\(D 7=true->D 5=true)/\(D 7=true->D 1=true)/\Inv w [] (bv (.blk b7 (.cells c7.toArray ab)) (.blk b4 (.cells #[.int .i64 0,.int .i64 0,.string ⟨#[]⟩,.slice none 0 0] ab)) (.blk b5 (.cells #[.int .i64 k,.int .i64 0,.string s,kvc] ab)) (.blk b5 (.cells #[.int .i64 k,.int .i64 0,.string s,ek] ab)) (bj kvc ab 4 css) (bj ek ab 4 (css++[cs7])) (bP Ls.flatten) M (.blk b8 (.cells cs7.toArray ab)) (D 3) (D 4) (D 5) (D 7)) S1 w_,⟨ae,ae,ae,ae,ae,ae,ae,ae,⟨[],[],0,ae,ae,ae,ae,ae,ae,by simpa [bv,bP] using hI.draw⟩⟩,⟨?_,?_,?_,?_,?_,?_,?_,?_,trivial⟩,?_⟩
  ·intro D aY  eE ek eF dX dY hH ew w_
   rintro ⟨aA,aB,aC,aD,aw,aE,aF,aJ,⟨M,cs7,b8,e7,e8,k8,k9,k11,k1,hI⟩⟩
   refine bh aT ?_
   exact ⟨fun _=>rfl,aB,aC,aD,aw,aE,aF,aJ,⟨M,cs7,b8,e7,e8,k8,k9,k11,k1,hI⟩⟩
  ·intro D aY cc eE ek eF dX dY hH ew w_
   rintro ⟨aA,aB,aC,aD,aw,aE,aF,aJ,⟨M,cs7,b8,e7,e8,k8,k9,k11,k1,hI⟩⟩
   obtain rfl:=aA cc
   have f11:D 7=false:=Bool.eq_false_iff.2 fun h=>by rw [k1 h] at aY; cases aY
   refine bH (b:=b5) hI 2 (c:=(#[.int .i64 k,.int .i64 0,.string s,kvc])) aP (by rw [f11]; rfl) rfl ?_
   have k1:=fun (_:ay D 1 7=true)=>(rfl:ay D 1 1=true)
   exact ⟨aA,fun _=>rfl,aC,aD,aw,aE,aF,aJ,⟨M,cs7,b8,e7,e8,k8,k9,k11,k1,hI⟩⟩
  ·intro D aY  eE ek eF dX dY hH ew w_
   rintro ⟨aA,aB,aC,aD,aw,aE,aF,aJ,⟨M,cs7,b8,e7,e8,k8,k9,k11,k1,hI⟩⟩
   refine ba hI 0 ai rfl (by simpa using hc7.length) ?_
   exact ⟨aA,aB,fun _=>rfl,aD,aw,aE,aF,aJ,⟨M,cs7,b8,e7,e8,k8,k9,k11,k1,hI⟩⟩
  ·intro D aY eq eE ek eF dX dY hH ew w_
   rintro ⟨aA,aB,aC,aD,aw,aE,aF,aJ,⟨M,cs7,b8,e7,e8,k8,k9,k11,k1,hI⟩⟩
   obtain rfl:=aC eq
   have f8:D 4=false:=Bool.eq_false_iff.2 fun h=>by rw [k8 h] at aY; cases aY
   have f9:D 5=false:=Bool.eq_false_iff.2 fun h=>by rw [k9 h] at f8; cases f8
   have f11:D 7=false:=Bool.eq_false_iff.2 fun h=>by rw [k11 h] at f9; cases f9
   rw [aY,f8,f9,f11] at hI
   refine Run.call0 fg e9 hI (fN _ S1 _ hc7 (Me hsw hj' (by omega))) fun v' I' S1 w_=>?_
   rintro ⟨rfl,cs7,M,rfl,rfl,hT⟩ _ hI
   have e7:ay D 3 3=true->Value.agg cs7.toArray=Value.agg cs7.toArray/\TrT M cs7 (iZ st ks[j]):=fun _=>⟨rfl,hT⟩
   have k8:=fun (_:ay D 3 4=true)=>(rfl:ay D 3 3=true)
   have hI:Inv w [] (bv (.blk b7 (.cells c7.toArray ab)) (.blk b4 (.cells #[.int .i64 0,.int .i64 0,.string ⟨#[]⟩,.slice none 0 0] ab)) (.blk b5 (.cells #[.int .i64 k,.int .i64 0,.string s,kvc] ab)) (.blk b5 (.cells #[.int .i64 k,.int .i64 0,.string s,ek] ab)) (bj kvc ab 4 css) (bj ek ab 4 (css++[cs7])) (bP Ls.flatten) M (.blk b8 (.cells cs7.toArray ab)) true (D 4) (D 5) (D 7)) S1 w_:=by
    rw [f8,f9,f11]
    simpa [bv] using hI
   exact ⟨aA,aB,aC,fun _=>by first|assumption|trivial,aw,aE,aF,aJ,⟨M,cs7,b8,e7,e8,k8,k9,k11,k1,hI⟩⟩
  ·intro D aY dB eE ek eF dX dY hH ew w_
   rintro ⟨aA,aB,aC,aD,aw,aE,aF,aJ,⟨M,cs7,b8,e7,e8,k8,k9,k11,k1,hI⟩⟩
   have Pq:=aD dB
   have f9:D 5=false:=Bool.eq_false_iff.2 fun h=>by rw [k9 h] at aY; cases aY
   have f11:D 7=false:=Bool.eq_false_iff.2 fun h=>by rw [k11 h] at f9; cases f9
   obtain ⟨q7,hT⟩:=e7 dB
   subst q7
   rw [dB,aY,f9,f11] at hI
   refine fb hI bD (by simp [Value.cells,hT.length]) (by omega) (by omega) fun b8 w_ hI=>?_
   have e7:ay D 4 3=true->Value.agg cs7.toArray=Value.agg cs7.toArray/\TrT M cs7 (iZ st ks[j]):=fun _=>⟨rfl,hT⟩
   have e8:=fun (_:ay D 4 4=true)=>(rfl:Value.slice (some ⟨b8,0,none⟩) 1 1=_)
   have k8:=fun (_:ay D 4 4=true)=>dB
   have k9:=fun (_:ay D 4 5=true)=>(rfl:ay D 4 4=true)
   have hI:Inv w [] (bv (.blk b7 (.cells c7.toArray ab)) (.blk b4 (.cells #[.int .i64 0,.int .i64 0,.string ⟨#[]⟩,.slice none 0 0] ab)) (.blk b5 (.cells #[.int .i64 k,.int .i64 0,.string s,kvc] ab)) (.blk b5 (.cells #[.int .i64 k,.int .i64 0,.string s,ek] ab)) (bj kvc ab 4 css) (bj ek ab 4 (css++[cs7])) (bP Ls.flatten) M (.blk b8 (.cells cs7.toArray ab)) (D 3) true (D 5) (D 7)) S1 w_:=by
    rw [dB,f9,f11]
    simpa [bv,Value.cells] using hI
   exact ⟨aA,aB,aC,aD,fun _=>by first|assumption|trivial,aE,aF,aJ,⟨M,cs7,b8,e7,e8,k8,k9,k11,k1,hI⟩⟩
  ·intro D aY dC dJ Mm eE ek eF dX dY hH ew w_
   rintro ⟨aA,aB,aC,aD,aw,aE,aF,aJ,⟨M,cs7,b8,e7,e8,k8,k9,k11,k1,hI⟩⟩
   obtain rfl:=aB dC
   have NR:=aw dJ
   have f11:D 7=false:=Bool.eq_false_iff.2 fun h=>by rw [k11 h] at aY; cases aY
   have q8:=e8 dJ
   subst q8
   obtain ⟨_,hT⟩:=e7 Mm
   rw [Mm,dJ,aY,f11] at hI
   have hblk:((bv (.blk b7 (.cells c7.toArray ab)) (.blk b4 (.cells #[.int .i64 0,.int .i64 0,.string ⟨#[]⟩,.slice none 0 0] ab)) (.blk b5 (.cells #[.int .i64 k,.int .i64 0,.string s,hH] ab)) (.blk b5 (.cells #[.int .i64 k,.int .i64 0,.string s,ek] ab)) (bj hH ab 4 css) (bj ek ab 4 (css++[cs7])) (bP Ls.flatten) M (.blk b8 (.cells cs7.toArray ab)) true true false false))[4+(bP Ls.flatten).length+(bP M).length]?=some (.blk b8 (.cells cs7.toArray ab)):=by
    have e4:4+(bP Ls.flatten).length+(bP M).length=((bP Ls.flatten).length+(bP M).length)+1+1+1+1:=by omega
    rw [e4]
    simp only [bv,List.getElem?_cons_succ]
    rw [List.getElem?_append_right (by omega),Nat.add_sub_cancel_left,List.getElem?_append_right (Nat.le_refl _),Nat.sub_self]; rfl
   refine fo hI 3 cs7 bD (by omega) rfl (by rw [hT.length]) (m:=1) (o:=0) ?_ hT.one (by omega) (by omega) fun v' w_ hI=>?_
   ·intro i u hi
    rw [hI.cellL hblk,Nat.zero_add]
    simpa using hi
   rw [fW] at hI
   have k9:=fun (_:ay D 5 5=true)=>dJ
   have k11:=fun (_:ay D 5 7=true)=>(rfl:ay D 5 5=true)
   have hI:Inv w [] (bv (.blk b7 (.cells c7.toArray ab)) (.blk b4 (.cells #[.int .i64 0,.int .i64 0,.string ⟨#[]⟩,.slice none 0 0] ab)) (.blk b5 (.cells #[.int .i64 k,.int .i64 0,.string s,hH] ab)) (.blk b5 (.cells #[.int .i64 k,.int .i64 0,.string s,v'] ab)) (bj hH ab 4 css) (bj v' ab 4 (css++[cs7])) (bP Ls.flatten) M (.blk b8 (.cells cs7.toArray ab)) (D 3) (D 4) true (D 7)) S1 w_:=by
    rw [Mm,dJ,f11]
    exact hI
   exact ⟨aA,aB,aC,aD,aw,fun _=>by first|assumption|trivial,aF,aJ,⟨M,cs7,b8,e7,e8,k8,k9,k11,k1,hI⟩⟩
  ·intro D aY cc ij zW E9 zp IB eE ek eF dX dY hH ew w_
   rintro ⟨aA,aB,aC,aD,aw,aE,aF,aJ,⟨M,cs7,b8,e7,e8,k8,k9,k11,k1,hI⟩⟩
   refine bh aT ?_
   exact ⟨aA,aB,aC,aD,aw,aE,fun _=>rfl,aJ,⟨M,cs7,b8,e7,e8,k8,k9,k11,k1,hI⟩⟩
  ·intro D aY c4 km Fr Dr mv Dx zf Av Eu eE ek eF dX dY hH ew w_
   rintro ⟨aA,aB,aC,aD,aw,aE,aF,aJ,⟨M,cs7,b8,e7,e8,k8,k9,k11,k1,hI⟩⟩
   obtain rfl:=aF c4
   have NA:=aE km
   rw [zf,Av,km,aY] at hI
   obtain ⟨va,vn,vc,hv9⟩:=Inv.rowSlice hI 3 rfl
   refine el hI 2 (n:=1) (by rw [hv9]; rfl) (by decide +kernel) rfl (by simp) (by rw [hv9]; simp [Value.cells,Value.oneCell']) fun w_ hI=>?_
   have hcl9:Value.cells ek=#[ek]:=by rw [hv9]; rfl
   rw [hcl9] at hI
   have k1:=fun (_:ay D 7 7=true)=>mv
   have k11:=fun (_:ay D 7 7=true)=>km
   have hI:Inv w [] (bv (.blk b7 (.cells c7.toArray ab)) (.blk b4 (.cells #[.int .i64 0,.int .i64 0,.string ⟨#[]⟩,.slice none 0 0] ab)) (.blk b5 (.cells #[.int .i64 k,.int .i64 0,.string s,kvc] ab)) (.blk b5 (.cells #[.int .i64 k,.int .i64 0,.string s,ek] ab)) (bj kvc ab 4 css) (bj ek ab 4 (css++[cs7])) (bP Ls.flatten) M (.blk b8 (.cells cs7.toArray ab)) (D 3) (D 4) (D 5) true) S1 w_:=by
    rw [zf,Av,km]
    exact hI
   exact ⟨aA,aB,aC,aD,aw,aE,aF,fun _=>trivial,⟨M,cs7,b8,e7,e8,k8,k9,k11,k1,hI⟩⟩
  intro D fT fY fE fm fw fF fC fD eE ek eF dX dY hH ew w_
  rintro ⟨aA,aB,aC,aD,aw,aE,aF,aJ,⟨M,cs7,b8,e7,e8,k8,k9,k11,k1,hI⟩⟩
  obtain rfl:=aF fY
  have NA:=aE fE
  have NR:=aw fm
  have Pq:=aD fw
  obtain rfl:=aC fF
  obtain rfl:=aB fC
  obtain rfl:=aA fD
  clear aA aB aC aD aw aE aF aJ
  obtain ⟨_,hT⟩:=e7 fw
  rw [fw,fm,fE,fT] at hI
  refine bL (by omega) ?_
  refine ⟨⟨j+1,ek,Ls++[M],css++[cs7],hj',rfl,?_,?_⟩,by simp [intOf]; omega⟩
  ·rw [Iu st ks j hj']
   exact hg'.snoc hT hT.length
  ·simp only [List.flatten_append,List.flatten_cons,List.flatten_nil,List.append_nil,eZ]
   refine hI.sub ?_
   simp only [bv]
   rw [<- List.append_assoc]
   exact ((((List.sublist_append_left _ _).cons_cons _).cons_cons _).cons_cons _).cons _
 ·have:j=ks.length:=by omega
  subst this
  rw [List.take_length] at hg'
  obtain ⟨va,vn,vc,hvk'⟩:=hI.rowSlice 2 rfl
  have hv1:kvc.oneCell'=true:=by rw [hvk']; rfl
  refine ba hI 1 ai rfl rfl ?_
  refine bf hI 0 rfl ai rfl rfl ?_ fun w' hI=>?_
  ·intro u hu
   have hu':u∈([.int .i64 k,.int .i64 0,.string s,kvc]:List Value):=hu
   simp at hu'
   rcases hu' with rfl|rfl|rfl|rfl <;> first|rfl|exact hv1
  refine bZ hI 0 ai rfl rfl ?_
  have hI:Inv w [] ([]++(bj kvc ab 4 css::bP Ls.flatten)) S1 w':=hI.sub (List.sublist_append_right [_,_] _)
  obtain ⟨L,hT,hI⟩:=Inv.rowTree hI hg'
  exact ⟨_,_,_,rfl,hI.less hle,Ext.refl _ _ _,rfl,_,L,rfl,rfl,TrT.iff.2 ⟨kvc,rfl,h1,by simp [inI,wm,T.n],hs,hT⟩⟩
end

end Go.Proofs.YtemmhhdnlbmicaaGreat

/- Matching with a map: impl.instance. -/
namespace Go.Proofs.YtemmhhdnlbmicaaGreat
open Go Go.RowKit

/- the map of impl.instance -/
def KnownM (S:az) (es:Array MapEntry) (st:bt):Prop:=
 (∀ e∈es.toList,∃ (n:Nat) (t:T) (cs:List Value),e.key=.int .i64 n/\e.val=.agg cs.toArray/\RdT S cs t/\st[n]?=some (some t))/\(∀ (n:Nat) (t:T),st[n]?=some (some t)->∃ e∈es.toList,e.key=.int .i64 n)
theorem KnownM.find {S:az} {es:Array MapEntry} {st:bt} (h:KnownM S es st) (n:Nat) :
  (∃ j v t cs,Instr.findNow (.int .i64) (.int .i64 n) es.toList 0=some (some (j,v))/\v=.agg cs.toArray/\RdT S cs t/\st[n]?=some (some t)) ∨
  ((∀ t,st[n]?≠some (some t))/\Instr.findNow (.int .i64) (.int .i64 n) es.toList 0=some none):=by
 rcases vW (n:=n) es.toList 0 (fun e he=>by obtain ⟨m,_,_,hk,_⟩:=h.1 e he; exact ⟨m,hk⟩) with ⟨j,e,he,hk,hf⟩|⟨hk,hf⟩
 ·obtain ⟨m,t,cs,hk2,hv,hR,hs⟩:=h.1 e he
  rw [hk] at hk2
  simp only [Value.int.injEq,true_and] at hk2
  have:n=m:=by omega
  subst this
  exact .inl ⟨j,e.val,t,cs,hf,hv,hR,hs⟩
 ·refine .inr ⟨fun t ht=>?_,hf⟩
  obtain ⟨e,he,hk2⟩:=h.2 n t ht
  exact hk e he hk2
theorem KnownM.push {S:az} {es:Array MapEntry} {st:bt} (h:KnownM S es st) {n:Nat} (hn:n<st.length) (hno:∀ t,st[n]?≠some (some t)) {cs:List Value} {u:T} (hu:RdT S cs u) (ck:Nat) :
  KnownM S (es.push { key:=.int .i64 n,val:=.agg cs.toArray,born:=ck }) (st.set n (some u)):=by
 refine ⟨fun e he=>?_,fun m t ht=>?_⟩
 ·rw [Array.toList_push] at he
  rcases List.mem_append.1 he with he|he
  ·obtain ⟨m,t,cs',hk,hv,hR,hs⟩:=h.1 e he
   refine ⟨m,t,cs',hk,hv,hR,?_⟩
   have:n≠m:=fun e=>hno t (by rw [e]; exact hs)
   rw [List.getElem?_set_ne this]
   exact hs
  ·simp at he
   subst he
   exact ⟨n,u,cs,rfl,rfl,hu,by rw [List.getElem?_set_self hn]⟩
 ·rw [Array.toList_push]
  by_cases e:n=m
  ·exact ⟨_,List.mem_append_right _ (List.mem_singleton.2 rfl),by rw [e]⟩
  ·rw [List.getElem?_set_ne e] at ht
   obtain ⟨x,hx,hk⟩:=h.2 m t ht
   exact ⟨x,List.mem_append_left _ hx,hk⟩
theorem Dc (t u:T):l5 t u=l5 u t:=by
 rw [l5,l5,Bool.eq_iff_iff]
 simp only [Bool.and_eq_true,decide_eq_true_eq]
 constructor
 ·rintro ⟨a,b,c,d⟩; exact ⟨a.symm,b.symm,c.symm,d.symm⟩
 ·rintro ⟨a,b,c,d⟩; exact ⟨a.symm,b.symm,c.symm,d.symm⟩
section
attribute [local irreducible] Run CondV aj bd
theorem zm:∀ (t u:T) (S:az) (cs ds:List Value) (mb ck:Nat) (es:Array MapEntry) (st:bt),RdT S cs t->RdT S ds u->okV t->okK u->u1 st->KnownM S es st->
  Tri Tryz.prog EZ [.agg ds.toArray,.agg cs.toArray,.map (some mb)] [.blk mb (.map es ck)] S fun r I' S'=>S'=S/\r=.bool (bK t u st).1/\∃ es' ck',I'=[.blk mb (.map es' ck')]/\KnownM S es' (bK t u st).2:=by
 refine T.ind fun k' n' s' ks' ih u S cs ds mb ck es st h' h hv hu hst hkc=>?_
 intro w hI
 have hds:=h
 obtain ⟨kv',rfl,_,_,_,hks'⟩:=RdT.iff.1 h'
 obtain ⟨kv,rfl,_,_,_,hks⟩:=RdT.iff.1 h
 obtain ⟨k,n,s,ks⟩:=u
 simp only [T.name,T.kids,T.kind,T.n] at hks hks' ⊢
 have hlen:=hks'.le
 simp only [maxLen] at hlen
 rw [okV] at hv
 obtain ⟨hv1,hv2⟩:=hv
 have huk:=hu
 rw [okK] at hu
 obtain ⟨X,hX⟩:∃ X,X=bV [Item.blk mb (.map es ck)]:=⟨_,rfl⟩
 rw [<- hX] at hI ⊢
 refine vH ?_
 unfold qE;dsimp only
 refine bM hI fun b1 w' hI=>?_
 refine bM hI fun b2 w' hI=>?_
 have hI:Inv w X [.blk b1 (.cells #[.int .i64 k,.int .i64 n,.string s,kv] ab),.blk b2 (.cells #[.int .i64 k',.int .i64 n',.string s',kv'] ab),.blk mb (.map es ck)] S w':=hI.perm (by
  refine (List.perm_append_comm (l₁:=[_,_]) (l₂:=[_])).trans ?_
  exact List.Perm.refl _)
 refine aI hI 1 rfl bx bn rfl ?_
 refine bO ?_
 refine bk (fun hk1=>?_) (fun hk1=>?_)
 ·obtain ⟨hn0,hn25⟩:=hv1 hk1
  obtain ⟨j,rfl⟩:∃ j:Nat,n'=j:=⟨n'.toNat,by omega⟩
  have hj:j<26:=by omega
  have hjs:j<st.length:=by rw [hst.1]; exact hj
  refine aI hI 1 rfl bJ bn rfl ?_
  rcases hkc.find j with ⟨q,v,t0,cs0,hf,rfl,hR,hst2⟩|⟨hno,hf⟩
  ·refine Gk (v:=.agg cs0.toArray) (ok:=true) hI 2 lw jc bG rfl (.inl ⟨q,hf,rfl⟩) ?_
   refine bb rfl ?_
   refine bb rfl ?_
   have hlc:=hR.length
   refine bw hI bG fun b7 w' hI=>?_
   refine bf hI 3 rfl ai (by simpa using hlc) rfl (by simpa using hR.one) fun w' hI=>?_
   refine cF ?_
   refine a8 (fun hb=>by cases hb) (fun _=>?_)
   refine ba hI 3 ai rfl (by simpa using hlc) ?_
   refine ba hI 0 ai rfl rfl ?_
   refine Run.callPure iC iI hI (iu t0 _ S _ _ hR hds) fun w' hI=>?_
   have hm:bK (.mk k' j s' ks') (.mk k n s ks) st=(eqT t0 (.mk k n s ks),st):=by
    rw [bK,if_pos hk1,Int.toNat_natCast,hst2]
   rw [hm]
   exact ⟨_,_,_,rfl,hI.pick [false,false,true,false],Ext.refl _ _ _,rfl,rfl,_,_,rfl,hkc⟩
  ·refine Gk (ok:=false) hI 2 lw jc bG rfl (.inr ⟨hf,rfl,rfl⟩) ?_
   refine bb rfl ?_
   refine bb rfl ?_
   refine bw hI bG fun b7 w' hI=>?_
   refine bf hI 3 rfl ai rfl rfl (by simp [Value.oneCell']) fun w' hI=>?_
   refine cF ?_
   refine a8 (fun _=>?_) (fun hb=>by cases hb)
   refine aI hI 1 rfl bJ bn rfl ?_
   refine ba hI 0 ai rfl rfl ?_
   refine L9 hI 2 lw jc rfl hf fun w' hI=>?_
   have hm:bK (.mk k' j s' ks') (.mk k n s ks) st=(true,st.set j (some (.mk k n s ks))):=by
    rw [bK,if_pos hk1,Int.toNat_natCast,List.getElem?_eq_getElem hjs]
    cases hq:st[j] with
    | none=>rfl
    | some t=>exact absurd (by rw [List.getElem?_eq_getElem hjs,hq]) (hno t)
   rw [hm]
   exact ⟨_,_,_,rfl,hI.pick [false,false,true,false],Ext.refl _ _ _,rfl,rfl,_,_,rfl,hkc.push hjs hno hds ck⟩
 refine ⟨fun q w'=>q=.bool (!l5 (.mk k n s ks) (.mk k' n' s' ks'))/\Inv w X [.blk b1 (.cells #[.int .i64 k,.int .i64 n,.string s,kv] ab),.blk b2 (.cells #[.int .i64 k',.int .i64 n',.string s',kv'] ab),.blk mb (.map es ck)] S w',?_,?_⟩
 ·refine aI hI 0 rfl bx bn rfl ?_
  refine aI hI 1 rfl bx bn rfl ?_
  refine gn ?_
  by_cases e1:k=k'
  ·rw [decide_eq_true e1]
   repeat (first|refine ad ?_|refine af (by decide) ?_|refine ac ?_|refine ah ?_|refine ag ?_)
   refine aI hI 0 rfl bJ bn rfl ?_
   refine aI hI 1 rfl bJ bn rfl ?_
   refine gn ?_
   by_cases e2:n=n'
   ·rw [decide_eq_true e2]
    repeat (first|refine ad ?_|refine af (by decide) ?_|refine ac ?_|refine ah ?_|refine ag ?_)
    refine aI hI 0 rfl bo bl rfl ?_
    refine aI hI 1 rfl bo bl rfl ?_
    refine rC ?_
    by_cases e3:s=s'
    ·rw [decide_eq_true e3]
     repeat (first|refine ad ?_|refine af (by decide) ?_|refine ac ?_|refine ah ?_|refine ag ?_)
     refine aI hI 0 rfl aT aP rfl ?_
     refine a9 hks av ?_
     refine aI hI 1 rfl aT aP rfl ?_
     refine a9 hks' av ?_
     refine gn ?_
     repeat (first|refine ad ?_|refine af (by decide) ?_|refine ac ?_|refine ah ?_|refine ag ?_)
     exact ⟨by rw [fk,decide_eq_true e1,decide_eq_true e2,decide_eq_true e3,LZ]; rfl,hI⟩
    ·rw [decide_eq_false e3]
     repeat (first|refine ad ?_|refine af (by decide) ?_|refine ac ?_|refine ah ?_|refine ag ?_)
     exact ⟨by rw [fk,decide_eq_true e1,decide_eq_true e2,decide_eq_false e3]; rfl,hI⟩
   ·rw [decide_eq_false e2]
    repeat (first|refine ad ?_|refine af (by decide) ?_|refine ac ?_|refine ah ?_|refine ag ?_)
    exact ⟨by rw [fk,decide_eq_true e1,decide_eq_false e2]; rfl,hI⟩
  ·rw [decide_eq_false e1]
   repeat (first|refine ad ?_|refine af (by decide) ?_|refine ac ?_|refine ah ?_|refine ag ?_)
   exact ⟨by rw [fk,decide_eq_false e1]; rfl,hI⟩

 intro q _ _ _ _ _ _ _ _ _ _ _ _ _ _ _ _ _ _ _ _ _ _ _ _ _ _ _ w'
 rintro ⟨rfl,hI⟩
 cases hd:l5 (.mk k n s ks) (.mk k' n' s' ks')
 ·refine a8 (fun _=>?_) (fun hb=>by cases hb)
  have hm:bK (.mk k' n' s' ks') (.mk k n s ks) st=(false,st):=by rw [bK,if_neg hk1,if_neg (by rw [Dc,hd]; decide)]
  rw [hm]
  exact ⟨_,_,_,rfl,hI.pick [false,false,true],Ext.refl _ _ _,rfl,rfl,_,_,rfl,hkc⟩
 refine a8 (fun hb=>by cases hb) (fun _=>?_)
 have hle:ks.length=ks'.length:=by
  rw [fk] at hd
  simp only [Bool.and_eq_true,decide_eq_true_eq] at hd
  exact hd.2.2.2
 have hm:bK (.mk k' n' s' ks') (.mk k n s ks) st=eL ks' ks st:=by rw [bK,if_neg hk1,if_pos (by rw [Dc,hd])]; rfl
 rw [hm]
 have hu2:=hu.2
 refine aI hI 1 rfl aT aP rfl ?_
 refine a9 hks' av ?_
 refine ⟨fun i w'=>∃ (j:Nat) (st':bt) (es':Array MapEntry) (ck':Nat),j<=ks'.length/\i=.int .i64 j/\eL (ks'.drop j) (ks.drop j) st'=eL ks' ks st/\u1 st'/\KnownM S es' st'/\Inv w X [.blk b1 (.cells #[.int .i64 k,.int .i64 n,.string s,kv] ab),.blk b2 (.cells #[.int .i64 k',.int .i64 n',.string s',kv'] ab),.blk mb (.map es' ck')] S w',fun i _=>ks'.length - (intOf i).toNat,⟨0,st,es,ck,Nat.zero_le _,rfl,rfl,hst,hkc,hI⟩,?_⟩
 intro t60 _ _ _ _ _ _ _ _ _ _ _ _ _ _ _ _ _ _ w'
 rintro ⟨j,st',es',ck',hj,rfl,hrel,hst',hkc',hI⟩
 refine bR ?_
 refine bk (fun hji=>?_) (fun hji=>?_)
 ·have hj2:j<ks'.length:=by omega
  have hj1:j<ks.length:=by omega
  obtain ⟨c1,o1,cap1,a1,E1,fz1,rfl,hS1,hR1⟩:=hks.at_ hj1
  obtain ⟨c2,o2,cap2,a2,E2,fz2,rfl,hS2,hR2⟩:=hks'.at_ hj2
  rw [ws ks' ks st' j hj2 hj1] at hrel
  have hcall:=ih _ (List.getElem_mem hj2) ks[j] S _ _ mb ck' es' st' hR2 hR1 (oB hv2 _ (List.getElem_mem hj2)) (oz hu2 _ (List.getElem_mem hj1)) hst' hkc'
  have hsn:=ss ks'[j] ks[j] st' hst' (oz hu2 _ (List.getElem_mem hj1))
  generalize hr:bK ks'[j] ks[j] st'=r at hrel hcall hsn
  refine ⟨fun D eR eP eV eT eQ eW eU fH fJ eH cI cZ cK w_=>(D 0=true->cK=.pointer (some ⟨b1,3,none⟩))/\(D 1=true->cZ=.slice (some ⟨c1,o1,none⟩) ks.length cap1)/\(D 2=true->cI=.int .i64 j)/\(D 3=true->eH=.pointer (some ⟨c1,o1+j * 4,none⟩))/\(D 4=true->fJ=.agg (bu a1 (o1+j * 4) 4).toArray)/\(D 5=true->fH=.pointer (some ⟨b2,3,none⟩))/\(D 6=true->eU=.slice (some ⟨c2,o2,none⟩) ks'.length cap2)/\(D 7=true->eW=.int .i64 j)/\(D 8=true->eQ=.pointer (some ⟨c2,o2+j * 4,none⟩))/\(D 9=true->eT=.agg (bu a2 (o2+j * 4) 4).toArray)/\(D 10=true->eV=.map (some mb))/\(D 11=true->eP=.bool r.1)/\(D 12=true->eR=.bool (!r.1))/\(D 11=false->Inv w X [.blk b1 (.cells #[.int .i64 k,.int .i64 n,.string s,.slice (some ⟨c1,o1,none⟩) ks.length cap1] ab),.blk b2 (.cells #[.int .i64 k',.int .i64 n',.string s',.slice (some ⟨c2,o2,none⟩) ks'.length cap2] ab),.blk mb (.map es' ck')] S w_)/\(D 11=true->∃ es2 ck2,KnownM S es2 r.2/\Inv w X [.blk b1 (.cells #[.int .i64 k,.int .i64 n,.string s,.slice (some ⟨c1,o1,none⟩) ks.length cap1] ab),.blk b2 (.cells #[.int .i64 k',.int .i64 n',.string s',.slice (some ⟨c2,o2,none⟩) ks'.length cap2] ab),.blk mb (.map es2 ck2)] S w_)/\∃ es3 ck3,Inv w X [.blk b1 (.cells #[.int .i64 k,.int .i64 n,.string s,.slice (some ⟨c1,o1,none⟩) ks.length cap1] ab),.blk b2 (.cells #[.int .i64 k',.int .i64 n',.string s',.slice (some ⟨c2,o2,none⟩) ks'.length cap2] ab),.blk mb (.map es3 ck3)] S w_,⟨ae,ae,ae,ae,ae,ae,ae,ae,ae,ae,ae,ae,ae,⟨fun _=>hI.draw,ae,es',ck',hI.draw⟩⟩,⟨?_,?_,?_,?_,?_,?_,?_,?_,?_,?_,?_,?_,?_,trivial⟩,?_⟩
  ·intro D aY  eR eP eV eT eQ eW eU fH fJ eH cI cZ cK w_
   rintro ⟨aA,aB,aC,aD,aw,aE,aF,aJ,aL,aQ,al,ao,aG,⟨hI0,hI1,es3,ck3,hI⟩⟩
   refine bh aT ?_
   exact ⟨fun _=>rfl,aB,aC,aD,aw,aE,aF,aJ,aL,aQ,al,ao,aG,⟨hI0,hI1,es3,ck3,hI⟩⟩
  ·intro D aY cc eR eP eV eT eQ eW eU fH fJ eH cI cZ cK w_
   rintro ⟨aA,aB,aC,aD,aw,aE,aF,aJ,aL,aQ,al,ao,aG,⟨hI0,hI1,es3,ck3,hI⟩⟩
   obtain rfl:=aA cc
   refine bH hI 0 aP rfl rfl ?_
   exact ⟨aA,fun _=>rfl,aC,aD,aw,aE,aF,aJ,aL,aQ,al,ao,aG,⟨hI0,hI1,es3,ck3,hI⟩⟩
  ·intro D aY  eR eP eV eT eQ eW eU fH fJ eH cI cZ cK w_
   rintro ⟨aA,aB,aC,aD,aw,aE,aF,aJ,aL,aQ,al,ao,aG,⟨hI0,hI1,es3,ck3,hI⟩⟩
   exact ⟨aA,aB,fun _=>rfl,aD,aw,aE,aF,aJ,aL,aQ,al,ao,aG,⟨hI0,hI1,es3,ck3,hI⟩⟩
  ·intro D aY dC gA eR eP eV eT eQ eW eU fH fJ eH cI cZ cK w_
   rintro ⟨aA,aB,aC,aD,aw,aE,aF,aJ,aL,aQ,al,ao,aG,⟨hI0,hI1,es3,ck3,hI⟩⟩
   obtain rfl:=aB dC
   obtain rfl:=aC gA
   refine bi av hj1 ?_
   exact ⟨aA,aB,aC,fun _=>rfl,aw,aE,aF,aJ,aL,aQ,al,ao,aG,⟨hI0,hI1,es3,ck3,hI⟩⟩
  ·intro D aY dB eR eP eV eT eQ eW eU fH fJ eH cI cZ cK w_
   rintro ⟨aA,aB,aC,aD,aw,aE,aF,aJ,aL,aQ,al,ao,aG,⟨hI0,hI1,es3,ck3,hI⟩⟩
   obtain rfl:=aD dB
   refine cV ai hR1.length (fun j v hj=>by rw [hI.cellS hS1]; exact bm rfl j v hj) ?_
   exact ⟨aA,aB,aC,aD,fun _=>rfl,aE,aF,aJ,aL,aQ,al,ao,aG,⟨hI0,hI1,es3,ck3,hI⟩⟩
  ·intro D aY  eR eP eV eT eQ eW eU fH fJ eH cI cZ cK w_
   rintro ⟨aA,aB,aC,aD,aw,aE,aF,aJ,aL,aQ,al,ao,aG,⟨hI0,hI1,es3,ck3,hI⟩⟩
   refine bh aT ?_
   exact ⟨aA,aB,aC,aD,aw,fun _=>rfl,aF,aJ,aL,aQ,al,ao,aG,⟨hI0,hI1,es3,ck3,hI⟩⟩
  ·intro D aY d3 eR eP eV eT eQ eW eU fH fJ eH cI cZ cK w_
   rintro ⟨aA,aB,aC,aD,aw,aE,aF,aJ,aL,aQ,al,ao,aG,⟨hI0,hI1,es3,ck3,hI⟩⟩
   obtain rfl:=aE d3
   refine bH hI 1 aP rfl rfl ?_
   exact ⟨aA,aB,aC,aD,aw,aE,fun _=>rfl,aJ,aL,aQ,al,ao,aG,⟨hI0,hI1,es3,ck3,hI⟩⟩
  ·intro D aY  eR eP eV eT eQ eW eU fH fJ eH cI cZ cK w_
   rintro ⟨aA,aB,aC,aD,aw,aE,aF,aJ,aL,aQ,al,ao,aG,⟨hI0,hI1,es3,ck3,hI⟩⟩
   exact ⟨aA,aB,aC,aD,aw,aE,aF,fun _=>rfl,aL,aQ,al,ao,aG,⟨hI0,hI1,es3,ck3,hI⟩⟩
  ·intro D aY c4 jZ eR eP eV eT eQ eW eU fH fJ eH cI cZ cK w_
   rintro ⟨aA,aB,aC,aD,aw,aE,aF,aJ,aL,aQ,al,ao,aG,⟨hI0,hI1,es3,ck3,hI⟩⟩
   obtain rfl:=aF c4
   obtain rfl:=aJ jZ
   refine bi av hj2 ?_
   exact ⟨aA,aB,aC,aD,aw,aE,aF,aJ,fun _=>rfl,aQ,al,ao,aG,⟨hI0,hI1,es3,ck3,hI⟩⟩
  ·intro D aY jh eR eP eV eT eQ eW eU fH fJ eH cI cZ cK w_
   rintro ⟨aA,aB,aC,aD,aw,aE,aF,aJ,aL,aQ,al,ao,aG,⟨hI0,hI1,es3,ck3,hI⟩⟩
   obtain rfl:=aL jh
   refine cV ai hR2.length (fun j v hj=>by rw [hI.cellS hS2]; exact bm rfl j v hj) ?_
   exact ⟨aA,aB,aC,aD,aw,aE,aF,aJ,aL,fun _=>rfl,al,ao,aG,⟨hI0,hI1,es3,ck3,hI⟩⟩
  ·intro D aY  eR eP eV eT eQ eW eU fH fJ eH cI cZ cK w_
   rintro ⟨aA,aB,aC,aD,aw,aE,aF,aJ,aL,aQ,al,ao,aG,⟨hI0,hI1,es3,ck3,hI⟩⟩
   exact ⟨aA,aB,aC,aD,aw,aE,aF,aJ,aL,aQ,fun _=>rfl,ao,aG,⟨hI0,hI1,es3,ck3,hI⟩⟩
  ·intro D aY cR fj Am eR eP eV eT eQ eW eU fH fJ eH cI cZ cK w_
   rintro ⟨aA,aB,aC,aD,aw,aE,aF,aJ,aL,aQ,al,ao,aG,⟨hI0,hI1,es3,ck3,hI⟩⟩
   obtain rfl:=aw cR
   obtain rfl:=aQ fj
   obtain rfl:=al Am
   refine Run.call (A:=[_,_]) qp qi (hI0 aY) hcall fun v' I' S w_=>?_
   rintro ⟨rfl,rfl,es2,ck2,rfl,hk2⟩ _ hI
   have hI0:=fun (h:ay D 11 11=false)=>(Bool.noConfusion h:Inv w X [.blk b1 (.cells #[.int .i64 k,.int .i64 n,.string s,.slice (some ⟨c1,o1,none⟩) ks.length cap1] ab),.blk b2 (.cells #[.int .i64 k',.int .i64 n',.string s',.slice (some ⟨c2,o2,none⟩) ks'.length cap2] ab),.blk mb (.map es' ck')] S w_)
   have hI1:=fun (_:ay D 11 11=true)=>(⟨es2,ck2,hk2,hI⟩:∃ es2 ck2,KnownM S es2 r.2/\Inv w X [.blk b1 (.cells #[.int .i64 k,.int .i64 n,.string s,.slice (some ⟨c1,o1,none⟩) ks.length cap1] ab),.blk b2 (.cells #[.int .i64 k',.int .i64 n',.string s',.slice (some ⟨c2,o2,none⟩) ks'.length cap2] ab),.blk mb (.map es2 ck2)] S w_)
   obtain ⟨es3,ck3,hI⟩:∃ es3 ck3,Inv w X [.blk b1 (.cells #[.int .i64 k,.int .i64 n,.string s,.slice (some ⟨c1,o1,none⟩) ks.length cap1] ab),.blk b2 (.cells #[.int .i64 k',.int .i64 n',.string s',.slice (some ⟨c2,o2,none⟩) ks'.length cap2] ab),.blk mb (.map es3 ck3)] S w_:=⟨es2,ck2,hI⟩
   exact ⟨aA,aB,aC,aD,aw,aE,aF,aJ,aL,aQ,al,fun _=>rfl,aG,⟨hI0,hI1,es3,ck3,hI⟩⟩
  ·intro D aY g8 eR eP eV eT eQ eW eU fH fJ eH cI cZ cK w_
   rintro ⟨aA,aB,aC,aD,aw,aE,aF,aJ,aL,aQ,al,ao,aG,⟨hI0,hI1,es3,ck3,hI⟩⟩
   obtain rfl:=ao g8
   refine cF ?_
   exact ⟨aA,aB,aC,aD,aw,aE,aF,aJ,aL,aQ,al,ao,fun _=>rfl,⟨hI0,hI1,es3,ck3,hI⟩⟩
  intro D je fi fp jt gK fT fY fE fm fw fF fC fD eR eP eV eT eQ eW eU fH fJ eH cI cZ cK w_
  rintro ⟨aA,aB,aC,aD,aw,aE,aF,aJ,aL,aQ,al,ao,aG,⟨hI0,hI1,es3,ck3,hI⟩⟩
  obtain rfl:=aG je
  obtain rfl:=ao fi
  obtain rfl:=al fp
  obtain rfl:=aQ jt
  obtain rfl:=aL gK
  obtain rfl:=aJ fT
  obtain rfl:=aF fY
  obtain rfl:=aE fE
  obtain rfl:=aw fm
  obtain rfl:=aD fw
  obtain rfl:=aC fF
  obtain rfl:=aB fC
  obtain rfl:=aA fD
  clear aA aB aC aD aw aE aF aJ aL aQ al ao aG
  obtain ⟨es2,ck2,hk2,hI⟩:=hI1 fi
  clear hI0 hI1
  refine a8 (fun hne=>?_) (fun he'=>?_)
  ·simp only [Bool.not_eq_true'] at hne
   rw [hne,if_neg (by decide)] at hrel
   rw [<- hrel]
   exact ⟨_,_,_,rfl,hI.pick [false,false,true],Ext.refl _ _ _,rfl,rfl,_,_,rfl,hk2⟩
  ·simp only [Bool.not_eq_false'] at he'
   rw [he',if_pos rfl] at hrel
   refine bL (by omega) ?_
   exact ⟨⟨j+1,r.2,es2,ck2,hj2,rfl,hrel,hsn,hk2,hI⟩,by simp [intOf]; omega⟩
 ·have:j=ks'.length:=by omega
  subst this
  rw [List.drop_length,<- hle,List.drop_length] at hrel
  rw [<- hrel]
  exact ⟨_,_,_,rfl,hI.pick [false,false,true],Ext.refl _ _ _,rfl,rfl,_,_,rfl,hkc'⟩
end

end Go.Proofs.YtemmhhdnlbmicaaGreat

/- SubsumedClause: both sides. -/
namespace Go.Proofs.YtemmhhdnlbmicaaGreat
open Go Go.RowKit

def st0:bt:=List.replicate 26 none
theorem KnownM.empty (S:az):KnownM S #[] st0:=⟨by simp,fun n t ht=>by
 rw [st0,List.getElem?_replicate] at ht
 split at ht <;> cases ht⟩
theorem JW:∀ {ts:List T},(∀ t∈ts,okV t)->Fp ts
 | [],_=>by simp [Fp]
 | t::ts,h=>by rw [Fp]; exact ⟨h t (List.mem_cons_self ..),JW fun u hu=>h u (List.mem_cons_of_mem _ hu)⟩
theorem JL:∀ {ts:List T},(∀ t∈ts,okK t)->Co ts
 | [],_=>by simp [Co]
 | t::ts,h=>by rw [Co]; exact ⟨h t (List.mem_cons_self ..),JL fun u hu=>h u (List.mem_cons_of_mem _ hu)⟩
theorem JE (z:Array Value) (hz:z=#[.int .i64 0,.int .i64 0,.string ⟨#[]⟩,.slice none 0 0]) (S:az):KnownC S ((Array.range 104).map (z[· % z.size]!)) st0:=by
 subst hz
 refine ⟨by simp,fun i hi=>⟨fun _=>?_,fun t ht=>?_⟩⟩
 ·simp only [st0,List.length_replicate] at hi
  apply List.ext_getElem?
  intro j
  rw [bu,List.getElem?_take]
  match j with
  | 0|1|2|3=>
   rw [if_pos (by omega),List.getElem?_drop,Array.getElem?_toList,Array.getElem?_map,Array.getElem?_range,if_pos (by omega)]
   simp only [Option.map_some,List.size_toArray,List.length_cons,List.length_nil]
   first
    | rw [show (i * 4+0) % 4=0 by omega]; rfl
    | rw [show (i * 4+1) % 4=1 by omega]; rfl
    | rw [show (i * 4+2) % 4=2 by omega]; rfl
    | rw [show (i * 4+3) % 4=3 by omega]; rfl
  | j+4=>
   rw [if_neg (by omega)]
   rfl
 ·have e:st0[i]=none:=by simp only [st0,List.getElem_replicate]
  rw [e] at ht
  cases ht
section
variable {P:Program} {w w0:World} {X:List Nat} {L:List Item} {S:az} {K:Value->World->Prop}
attribute [local irreducible] Run CondV aj bd
theorem sE (h:Inv w0 X L S w) {T ty e:TypeId} {k by_ n:Nat} {z:Value} (hT:oG P T=some (e,k,by_,z)) (hn:n<=4294967296) (hby:by_<=65536) (hn0:n * k≠0)
  (hk:∀ b w',Inv w0 X (L++[.blk b (.cells ((Array.range (n * k)).map (z.cells[· % z.cells.size]!)) e)]) S w'->K (.slice (some ⟨b,0,none⟩) n n) w') :
  Run P (sOp (.makeSlice T (.const (.int .i64 n)) (.const (.int .i64 n))) ty) w K:=by
 obtain ⟨hu,i,hi,hz,hs,hb,hzs⟩:=il hT
 have hw:IntKind.i64.wrap (n:Int)=n:=IntWalk.i64_in _ (by omega)
 have hle:by_ * n<=2 ^ 48:=Nat.le_trans (Nat.mul_le_mul hby hn) (by decide)
 have h1:¬ ((n:Int)<0):=by omega
 have h2:¬ (281474976710656<(i.bytes:Int) * (n:Int)):=by
  rw [hb]
  have:((by_ * n:Nat):Int)<=((2 ^ 48:Nat):Int):=by exact_mod_cast hle
  have e:(((2 ^ 48:Nat)):Int)=281474976710656:=by decide
  rw [e,Int.natCast_mul] at this
  omega
 refine Run.of (v:=.slice (some ⟨w.heap.size,0,none⟩) n n) (w':={ w with heap:=w.heap.push (.cells ((Array.range (n * k)).map (z.cells[· % z.cells.size]!)) e) }) ?_ (hk _ _ (h.alloc _))
 simp [sOp,execOp,ev0,evE,Instr.makeSlice,run_underlying hu,asInt,asIntOf,typeInfo,hi,hw,h1,h2,sizeOf,hs,newRow,newObj,Sem.run,hn0,zeroValue,hz]
end
section
attribute [local irreducible] Run CondV aj bd
end

end Go.Proofs.YtemmhhdnlbmicaaGreat
