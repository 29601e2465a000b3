/- Whether terms are the same: both sides. -/
import Derived.Test.YtfcbhfjomgopbaaGreatZT11
import Derived.Test.YtfcbhfjomgopbaaGreatZT12
import Derived.Test.YtfcbhfjomgopbaaGreatZT15
namespace Go.Proofs.YtfcbhfjomgopbaaGreat
open Go Go.RowKit
attribute [local irreducible] Run CondV ag aO

def nN (t u:T):Bool:=decide (t.kind=u.kind) && (decide (t.n=u.n) && (decide (t.name=u.name) && decide (t.kids.length=u.kids.length)))
theorem gR (k n k' n':Int) (s s':ByteArray) (ks ks':List T):nN (.mk k n s ks) (.mk k' n' s' ks')=(decide (k=k') && (decide (n=n') && (decide (s=s') && decide (ks.length=ks'.length)))):=rfl
theorem MU {α β:Type} (a:List α) (b:List β):decide (a.length=b.length)=decide ((a.length:Int)=(b.length:Int)):=by
 rw [Bool.eq_iff_iff]
 simp only [decide_eq_true_eq]
 omega
theorem Nq (t u:T):eqT t u=(nN t u && eqL t.kids u.kids):=by
 obtain ⟨k,n,s,ks⟩:=t
 obtain ⟨k',n',s',ks'⟩:=u
 rw [eqT,gR]
 by_cases h:ks.length=ks'.length
 ·rw [decide_eq_true h,Bool.and_true,Bool.and_assoc,Bool.and_assoc]; rfl
 ·rw [MA h,decide_eq_false h]; simp
theorem sY:∀ (t u:T) (S:al) (cs ds:List Value),RdT S cs t->RdT S ds u->Pure Tryz.prog B0 [.agg cs.toArray,.agg ds.toArray] S (.bool (eqT t u)):=by
 refine T.ind fun k n s ks ih u S cs ds h h'=>?_
 intro w hI
 obtain ⟨kv,rfl,_,_,_,hks⟩:=RdT.iff.1 h
 obtain ⟨kv',rfl,_,_,_,hks'⟩:=RdT.iff.1 h'
 obtain ⟨k',n',s',ks'⟩:=u
 simp only [T.name,T.kids,T.kind,T.n] at hks hks' ⊢
 have hlen:=hks.le
 simp only [maxLen] at hlen
 refine sZ ?_
 unfold oC;dsimp only
 refine bS hI fun b1 w' hI=>?_
 refine bS hI fun b2 w' hI=>?_
 have hI:Inv w [] [.blk b1 (.cells #[.int .i64 k,.int .i64 n,.string s,kv] ab),.blk b2 (.cells #[.int .i64 k',.int .i64 n',.string s',kv'] ab)] S w':=hI
 refine ⟨fun q w'=>q=.bool (!nN (.mk k n s ks) (.mk k' n' s' ks'))/\Inv w [] [.blk b1 (.cells #[.int .i64 k,.int .i64 n,.string s,kv] ab),.blk b2 (.cells #[.int .i64 k',.int .i64 n',.string s',kv'] ab)] S w',?_,?_⟩
 ·refine ao hI 0 rfl bC aY rfl ?_
  refine ao hI 1 rfl bC aY rfl ?_
  refine dB ?_
  by_cases e1:k=k'
  ·rw [decide_eq_true e1]
   repeat (first|refine ad ?_|refine af (by decide) ?_|refine ae ?_|refine ak ?_|refine aj ?_)
   refine ao hI 0 rfl bF aY rfl ?_
   refine ao hI 1 rfl bF aY rfl ?_
   refine dB ?_
   by_cases e2:n=n'
   ·rw [decide_eq_true e2]
    repeat (first|refine ad ?_|refine af (by decide) ?_|refine ae ?_|refine ak ?_|refine aj ?_)
    refine ao hI 0 rfl bB bn rfl ?_
    refine ao hI 1 rfl bB bn rfl ?_
    refine Gh ?_
    by_cases e3:s=s'
    ·rw [decide_eq_true e3]
     repeat (first|refine ad ?_|refine af (by decide) ?_|refine ae ?_|refine ak ?_|refine aj ?_)
     refine ao hI 0 rfl aK aJ rfl ?_
     refine bp hks aC ?_
     refine ao hI 1 rfl aK aJ rfl ?_
     refine bp hks' aC ?_
     refine dB ?_
     repeat (first|refine ad ?_|refine af (by decide) ?_|refine ae ?_|refine ak ?_|refine aj ?_)
     exact ⟨by rw [gR,decide_eq_true e1,decide_eq_true e2,decide_eq_true e3,MU]; rfl,hI⟩
    ·rw [decide_eq_false e3]
     repeat (first|refine ad ?_|refine af (by decide) ?_|refine ae ?_|refine ak ?_|refine aj ?_)
     exact ⟨by rw [gR,decide_eq_true e1,decide_eq_true e2,decide_eq_false e3]; rfl,hI⟩
   ·rw [decide_eq_false e2]
    repeat (first|refine ad ?_|refine af (by decide) ?_|refine ae ?_|refine ak ?_|refine aj ?_)
    exact ⟨by rw [gR,decide_eq_true e1,decide_eq_false e2]; rfl,hI⟩
  ·rw [decide_eq_false e1]
   repeat (first|refine ad ?_|refine af (by decide) ?_|refine ae ?_|refine ak ?_|refine aj ?_)
   exact ⟨by rw [gR,decide_eq_false e1]; rfl,hI⟩

 intro q _ _ _ _ _ _ _ _ _ _ _ _ _ _ _ _ _ _ _ _ _ _ _ _ _ _ _ w'
 rintro ⟨rfl,hI⟩
 rw [Nq]
 cases hd:nN (.mk k n s ks) (.mk k' n' s' ks')
 ·refine aS (fun _=>done hI rfl) (fun hb=>by cases hb)
 refine aS (fun hb=>by cases hb) (fun _=>?_)
 have hle:ks.length=ks'.length:=by
  rw [gR] at hd
  simp only [Bool.and_eq_true,decide_eq_true_eq] at hd
  exact hd.2.2.2
 simp only [T.kids,Bool.true_and]
 refine ⟨fun i w'=>∃ j:Nat,j<=ks.length/\i=.int .i64 j/\eqL (ks.drop j) (ks'.drop j)=eqL ks ks'/\Inv w [] [.blk b1 (.cells #[.int .i64 k,.int .i64 n,.string s,kv] ab),.blk b2 (.cells #[.int .i64 k',.int .i64 n',.string s',kv'] ab)] S w',fun i _=>ks.length - (intOf i).toNat,⟨0,Nat.zero_le _,rfl,rfl,hI⟩,?_⟩
 intro t5 _ _ _ _ _ _ _ _ _ _ _ _ _ _ _ _ _ _ _ _ w'
 rintro ⟨j,hj,rfl,hrel,hI⟩
 refine ao hI 0 rfl aK aJ rfl ?_
 refine bp hks aC ?_
 refine cg ?_
 refine bz (fun hji=>?_) (fun hji=>?_)
 ·have hj1:j<ks.length:=by omega
  have hj2:j<ks'.length:=by omega
  obtain ⟨c1,o1,cap1,a1,E1,fz1,rfl,hS1,hR1⟩:=hks.at_ hj1
  obtain ⟨c2,o2,cap2,a2,E2,fz2,rfl,hS2,hR2⟩:=hks'.at_ hj2
  have hstep:eqL (ks.drop j) (ks'.drop j)=(eqT ks[j] ks'[j] && eqL (ks.drop (j+1)) (ks'.drop (j+1))):=by
   rw [List.drop_eq_getElem_cons hj1,List.drop_eq_getElem_cons hj2,eqL]
  refine ⟨fun D jS sS tS uY pL lH sA nV rX lM ni lx w_=>(D 0=true->lx=.pointer (some ⟨b1,3,none⟩))/\(D 1=true->ni=.slice (some ⟨c1,o1,none⟩) ks.length cap1)/\(D 2=true->lM=.int .i64 j)/\(D 3=true->rX=.pointer (some ⟨c1,o1+j * 4,none⟩))/\(D 4=true->nV=.agg (bm a1 (o1+j * 4) 4).toArray)/\(D 5=true->sA=.pointer (some ⟨b2,3,none⟩))/\(D 6=true->lH=.slice (some ⟨c2,o2,none⟩) ks'.length cap2)/\(D 7=true->pL=.int .i64 j)/\(D 8=true->uY=.pointer (some ⟨c2,o2+j * 4,none⟩))/\(D 9=true->tS=.agg (bm a2 (o2+j * 4) 4).toArray)/\(D 10=true->sS=.bool (eqT ks[j] ks'[j]))/\(D 11=true->jS=.bool (!eqT ks[j] ks'[j]))/\Inv w [] [.blk b1 (.cells #[.int .i64 k,.int .i64 n,.string s,.slice (some ⟨c1,o1,none⟩) ks.length cap1] ab),.blk b2 (.cells #[.int .i64 k',.int .i64 n',.string s',.slice (some ⟨c2,o2,none⟩) ks'.length cap2] ab)] S w_,⟨ac,ac,ac,ac,ac,ac,ac,ac,ac,ac,ac,ac,hI.draw⟩,⟨?_,?_,?_,?_,?_,?_,?_,?_,?_,?_,?_,?_,trivial⟩,?_⟩
  all_goals (intro D bX; intros; rename_i jS sS tS uY pL lH sA nV rX lM ni lx w_ hA_; obtain ⟨ax,ay,az,aA,aF,aH,aE,aM,aN,aR,aq,ar,hI⟩:=hA_)
  ·refine aI aK ?_
   exact ⟨fun _=>rfl,ay,az,aA,aF,aH,aE,aM,aN,aR,aq,ar,hI⟩
  ·obtain rfl:=ax ‹_›
   refine aX hI 0 aJ rfl rfl ?_
   exact ⟨ax,fun _=>rfl,az,aA,aF,aH,aE,aM,aN,aR,aq,ar,hI⟩
  ·exact ⟨ax,ay,fun _=>rfl,aA,aF,aH,aE,aM,aN,aR,aq,ar,hI⟩
  ·obtain rfl:=ay ‹_›
   obtain rfl:=az ‹_›
   refine be aC hj1 ?_
   exact ⟨ax,ay,az,fun _=>rfl,aF,aH,aE,aM,aN,aR,aq,ar,hI⟩
  ·obtain rfl:=aA ‹_›
   refine cL ai hR1.length (fun j v hj=>by rw [hI.cellS hS1]; exact bh rfl j v hj) ?_
   exact ⟨ax,ay,az,aA,fun _=>rfl,aH,aE,aM,aN,aR,aq,ar,hI⟩
  ·refine aI aK ?_
   exact ⟨ax,ay,az,aA,aF,fun _=>rfl,aE,aM,aN,aR,aq,ar,hI⟩
  ·obtain rfl:=aH ‹_›
   refine aX hI 1 aJ rfl rfl ?_
   exact ⟨ax,ay,az,aA,aF,aH,fun _=>rfl,aM,aN,aR,aq,ar,hI⟩
  ·exact ⟨ax,ay,az,aA,aF,aH,aE,fun _=>rfl,aN,aR,aq,ar,hI⟩
  ·obtain rfl:=aE ‹_›
   obtain rfl:=aM ‹_›
   refine be aC hj2 ?_
   exact ⟨ax,ay,az,aA,aF,aH,aE,aM,fun _=>rfl,aR,aq,ar,hI⟩
  ·obtain rfl:=aN ‹_›
   refine cL ai hR2.length (fun j v hj=>by rw [hI.cellS hS2]; exact bh rfl j v hj) ?_
   exact ⟨ax,ay,az,aA,aF,aH,aE,aM,aN,fun _=>rfl,aq,ar,hI⟩
  ·obtain rfl:=aF ‹_›
   obtain rfl:=aR ‹_›
   refine Run.callPure oL oH hI (ih _ (List.getElem_mem hj1) _ S _ _ hR1 hR2) fun w_ hI=>?_
   exact ⟨ax,ay,az,aA,aF,aH,aE,aM,aN,aR,fun _=>rfl,ar,hI⟩
  ·obtain rfl:=aq ‹_›
   refine cK ?_
   exact ⟨ax,ay,az,aA,aF,aH,aE,aM,aN,aR,aq,fun _=>rfl,hI⟩
  obtain rfl:=ar ‹_›
  obtain rfl:=aq ‹_›
  obtain rfl:=aR ‹_›
  obtain rfl:=aN ‹_›
  obtain rfl:=aM ‹_›
  obtain rfl:=aE ‹_›
  obtain rfl:=aH ‹_›
  obtain rfl:=aF ‹_›
  obtain rfl:=aA ‹_›
  obtain rfl:=az ‹_›
  obtain rfl:=ay ‹_›
  obtain rfl:=ax ‹_›
  clear ax ay az aA aF aH aE aM aN aR aq ar
  refine aS (fun hne=>?_) (fun he'=>?_)
  ·exact done hI (by rw [<- hrel,hstep]; simp at hne; rw [hne]; rfl)
  ·refine bT (by omega) ?_
   refine ⟨⟨j+1,hj1,rfl,?_,hI⟩,by simp [intOf]; omega⟩
   rw [<- hrel,hstep]
   simp at he'
   rw [he',Bool.true_and]
 ·have:j=ks.length:=by omega
  subst this
  refine done hI ?_
  rw [<- hrel,List.drop_length,hle,List.drop_length]
  rfl

end Go.Proofs.YtfcbhfjomgopbaaGreat

/- Whether terms are the same: the program's side. -/
namespace Go.Proofs.YtfcbhfjomgopbaaGreat
open Go Go.RowKit
attribute [local irreducible] Run CondV ag aO

end Go.Proofs.YtfcbhfjomgopbaaGreat

/- Maps from numbers to terms. -/
namespace Go.Proofs.YtfcbhfjomgopbaaGreat
open Go Go.RowKit

section
variable {P:Program} {w w0:World} {X:List Nat} {L:List Item} {S:al} {K:Value->World->Prop}
attribute [local irreducible] Run CondV ag aO
end

end Go.Proofs.YtfcbhfjomgopbaaGreat

/- Matching a general term to a special one: the plain form, and spec.l3Match. -/
namespace Go.Proofs.YtfcbhfjomgopbaaGreat
open Go Go.RowKit

abbrev bf:=List (Option T)
mutual
def kO:T->T->bf->Bool × bf
 | .mk k n s ks,u,st=>if k=1 then (match st[n.toNat]? with
   | some (some t)=>(eqT t u,st)
   | _=>(true,st.set n.toNat (some u)))
  else if nN (.mk k n s ks) u=true then K5 ks u.kids st else (false,st)
def K5:List T->List T->bf->Bool × bf
 | [],_,st=>(true,st)
 | _::_,[],st=>(true,st)
 | t::ts,u::us,st=>if (kO t u st).1=true then K5 ts us (kO t u st).2 else (false,(kO t u st).2)
end
/- variables within the table; kinds that are kinds -/
theorem NE {t:T} (h:eB t=true):(t.kind=1->0<=t.n/\t.n<=25)/\t.kind≠0:=by
 unfold eB at h
 refine ⟨fun hk=>?_,fun hk=>?_⟩
 ·rw [if_pos hk] at h
  simp only [Bool.and_eq_true,decide_eq_true_eq] at h
  exact ⟨h.1,h.2.1⟩
 ·rw [if_neg (by omega),if_neg (by omega),if_neg (by omega)] at h
  cases h
def jE:List Value:=[.int .i64 0,.int .i64 0,.string ⟨#[]⟩,.slice none 0 0]
/- the table of spec.l3Match -/
def KnownC (S:al) (c:Array Value) (st:bf):Prop:=104<=c.size/\∀ i (h:i<st.length),(st[i]=none->bm c (i * 4) 4=jE)/\(∀ t,st[i]=some t->RdT S (bm c (i * 4) 4) t)
theorem KnownC.set {S:al} {c:Array Value} {st:bf} (h:KnownC S c st) {n:Nat} (hn:n<26) {cs:List Value} {u:T} (hu:RdT S cs u):KnownC S (bM c (n * 4) cs) (st.set n (some u)):=by
 have hlc:=hu.length
 have h1:=h.1
 have hs:104<=(bM c (n * 4) cs).size:=by rw [fO _ _ _ (by omega)]; exact h1
 refine ⟨hs,fun i hi=>?_⟩
 rw [List.length_set] at hi
 by_cases e:n=i
 ·subst e
  rw [List.getElem_set_self]
  refine ⟨fun h=>(by cases h),fun t ht=>?_⟩
  simp only [Option.some.injEq] at ht
  subst ht
  have:=fD (c:=c) (o:=n * 4) (vs:=cs) (by omega)
  rw [hlc] at this
  rw [this]
  exact hu
 ·rw [List.getElem_set_ne e,gr (by omega) (by omega)]
  exact h.2 i hi
section
attribute [local irreducible] Run CondV ag aO
abbrev kvn (kb kp:Nat):Value:=.slice (some ⟨kb,0,none⟩) 26 kp
abbrev kv0 (kb:Nat):Value:=kvn kb 26
end

end Go.Proofs.YtfcbhfjomgopbaaGreat

/- Variables numbered anew: the plain form of both sides. -/
namespace Go.Proofs.YtfcbhfjomgopbaaGreat
open Go Go.RowKit

def oY:List Int->Int->Int->Nat->Int
 | [],_,cur,_=>cur
 | x::xs,n,cur,k=>oY xs n (if x=n then (k:Int) else cur) (k+1)
mutual
def fH (vs:List Int):T->T
 | .mk k n s ks=>.mk k (if k=1 then oY vs n n 0 else n) s (jv vs ks)
def jv (vs:List Int):List T->List T
 | []=>[]
 | t::ts=>fH vs t::jv vs ts
end
theorem AS:∀ (xs:List Int) (n cur:Int) (k:Nat),oY xs n cur k=cur ∨ (0<=oY xs n cur k/\oY xs n cur k<k+xs.length)
 | [],n,cur,k=>.inl rfl
 | x::xs,n,cur,k=>by
  rw [oY]
  rcases AS xs n (if x=n then (k:Int) else cur) (k+1) with h|h
  ·split at h
   ·right; rw [if_pos (by assumption),h]; simp; omega
   ·left; rw [if_neg (by assumption)]; exact h
  ·right
   simp only [List.length_cons]
   omega
theorem Ei (l:List Int) (n:Int):Ff l n=true↔n∈l:=by
 simp [Ff]
theorem Ht {l:List Int} (n:Int) (h:l.Nodup):(vS l n).Nodup:=by
 unfold vS
 split
 ·exact h
 ·rename_i hn
  rw [List.nodup_append]
  refine ⟨h,by simp,fun a ha b hb e=>hn ((Ei l n).2 ?_)⟩
  simp at hb
  rw [<- hb,<- e]
  exact ha
theorem Kx {t:T} (h:eB t=true) (hk:t.kind=1):t.name=emptyB/\t.kids.length=0:=by
 unfold eB at h
 rw [if_pos hk] at h
 simp only [Bool.and_eq_true,decide_eq_true_eq] at h
 exact ⟨h.2.2.1,h.2.2.2⟩
theorem tR (vs:List Int):∀ ts:List T,(jv vs ts).length=ts.length
 | []=>rfl
 | t::ts=>by rw [jv]; simp [tR vs ts]
theorem Hs (vs:List Int) (ts:List T) (j:Nat) (h:j<ts.length):jv vs (ts.take (j+1))=jv vs (ts.take j)++[fH vs ts[j]]:=by
 have:∀ (xs ys:List T),jv vs (xs++ys)=jv vs xs++jv vs ys:=by
  intro xs ys
  induction xs with
  | nil=>rfl
  | cons x xs ih=>simp [jv,ih]
 rw [List.take_succ_eq_append_getElem h,this]; rfl
def Ox (vs:List Int) (c:C):C:=⟨fH vs c.head,jv vs c.body⟩
def NY (c:C):List Int:=cI (c.head::c.body) []
end Go.Proofs.YtfcbhfjomgopbaaGreat

/- Unification: the plain form. Lists of bindings, what a variable reaches, unifiers, resolved terms. -/
namespace Go.Proofs.YtfcbhfjomgopbaaGreat
open Go Go.RowKit
/- terms whose variables are bare and below a number -/
mutual
def okU (N:Nat):T->Prop
 | .mk k n s ks=>k≠0/\(k=1->0<=n/\n<N/\s=emptyB/\ks=[])/\df N ks/\s.size<=6
def df (N:Nat):List T->Prop
 | []=>True
 | t::ts=>okU N t/\df N ts
end
mutual
def vT:T->List Nat
 | .mk k n _ ks=>if k=1 then [n.toNat] else vTL ks
def vTL:List T->List Nat
 | []=>[]
 | t::ts=>vT t++vTL ts
end
theorem nt {N:Nat}:∀ {ts:List T},df N ts->∀ t∈ts,okU N t
 | t::ts,h,x,hx=>by
  rw [df] at h
  rcases List.mem_cons.1 hx with rfl|hx
  ·exact h.1
  ·exact nt h.2 x hx
theorem wM {N:Nat}:∀ {ts:List T},(∀ t∈ts,okU N t)->df N ts
 | [],_=>by rw [df]; trivial
 | t::ts,h=>by rw [df]; exact ⟨h t (List.mem_cons_self ..),wM fun u hu=>h u (List.mem_cons_of_mem _ hu)⟩
theorem CN:∀ {ts:List T} {m:Nat},m∈vTL ts↔∃ t∈ts,m∈vT t
 | [],m=>by simp [vTL]
 | t::ts,m=>by rw [vTL,List.mem_append,CN]; simp
theorem okU.kids {N:Nat} {t:T} (h:okU N t):df N t.kids:=by cases t; rw [okU] at h; exact h.2.2.1
theorem okU.var {N:Nat} {t:T} (h:okU N t) (hk:t.kind=1):0<=t.n/\t.n<N/\t.name=emptyB/\t.kids=[]:=by cases t; rw [okU] at h; exact h.2.1 hk
theorem okU.kind {N:Nat} {t:T} (h:okU N t):t.kind≠0:=by cases t; rw [okU] at h; exact h.1
theorem ye {t:T} (h:t.kind=1):vT t=[t.n.toNat]:=by cases t; rw [vT]; exact if_pos h
theorem Iy {t:T} (h:t.kind≠1):vT t=vTL t.kids:=by cases t; rw [vT]; exact if_neg h
mutual
theorem Kh {N:Nat}:∀ (t:T),okU N t->∀ m∈vT t,m<N
 | .mk k n s ks,h,m,hm=>by
  rw [okU] at h
  rw [vT] at hm
  split at hm
  ·rename_i hk
   have:=h.2.1 hk
   simp at hm
   omega
  ·exact GB ks h.2.2.1 m hm
theorem GB {N:Nat}:∀ (ts:List T),df N ts->∀ m∈vTL ts,m<N
 | [],_,m,hm=>by simp [vTL] at hm
 | t::ts,h,m,hm=>by
  rw [df] at h
  rw [vTL,List.mem_append] at hm
  rcases hm with hm|hm
  ·exact Kh t h.1 m hm
  ·exact GB ts h.2 m hm
end
/- what a term is bound to -/
def look (st:bf) (t:T):Option T:=if t.kind=1 then (st[t.n.toNat]?).join else none
theorem eY {st:bf} {t u:T}:look st t=some u↔t.kind=1/\st[t.n.toNat]?=some (some u):=by
 unfold look
 split
 ·rename_i h
  simp only [Option.join_eq_some_iff]
  exact ⟨fun e=>⟨h,e⟩,fun e=>e.2⟩
 ·rename_i h
  simp [h]
theorem Jw {st:bf} {t:T}:look st t=none↔(t.kind=1->st[t.n.toNat]?=none ∨ st[t.n.toNat]?=some none):=by
 unfold look
 split
 ·rename_i h
  rw [Option.join_eq_none_iff]
  constructor
  ·intro e _
   rcases e with e|e
   ·exact .inl e
   ·exact .inr e
  ·intro e
   rcases e h with e|e
   ·exact .inl e
   ·exact .inr e
 ·rename_i h
  simp [h]
inductive dp (st:bf):T->T->Prop
 | stop {t:T}:look st t=none->dp st t t
 | step {t u v:T}:look st t=some u->dp st u v->dp st t v
inductive Rch (st:bf):Nat->Nat->Prop
 | refl (m:Nat):Rch st m m
 | step {m k n:Nat} {u:T}:st[m]?=some (some u)->k∈vT u->Rch st k n->Rch st m n
theorem Rch.trans {st:bf} {a b c:Nat} (h:Rch st a b) (h':Rch st b c):Rch st a c:=by
 induction h with
 | refl=>exact h'
 | step h1 h2 _ ih=>exact .step h1 h2 (ih h')
def kl (st:bf) (n:Nat) (t:T):Prop:=∃ m∈vT t,Rch st m n
structure Good (N:Nat) (st:bf):Prop where
 len:st.length=N
 ok:∀ t,some t∈st->okU N t
 w:∀ t,some t∈st->wT t<=1048576
 rk:∃ r:Nat->Nat,∀ (n:Nat) (u:T),st[n]?=some (some u)->∀ m∈vT u,r m<r n
theorem Good.look_ok {N:Nat} {st:bf} (h:Good N st) {t u:T} (hl:look st t=some u):okU N u/\wT u<=1048576:=by
 have:=List.mem_of_getElem? (eY.1 hl).2
 exact ⟨h.ok u this,h.w u this⟩
theorem eP {N:Nat} {st:bf} {t v:T} (h:Good N st) (hw:dp st t v) (ht:okU N t/\wT t<=1048576):okU N v/\wT v<=1048576:=by
 induction hw with
 | stop=>exact ht
 | step hl _ ih=>exact ih (h.look_ok hl)
theorem nF {st:bf} {t v:T} (hw:dp st t v):look st v=none:=by
 induction hw with
 | stop h=>exact h
 | step _ _ ih=>exact ih
theorem MF {N:Nat} {st:bf} (h:Good N st) (t:T):∃ v,dp st t v:=by
 obtain ⟨r,hr⟩:=h.rk
 have:∀ (k:Nat) (t:T),(∀ u,look st t=some u->r t.n.toNat<k)->∃ v,dp st t v:=by
  intro k
  induction k with
  | zero=>
   intro t ht
   cases hl:look st t with
   | none=>exact ⟨t,.stop hl⟩
   | some u=>have:=ht u hl; omega
  | succ k ih=>
   intro t ht
   cases hl:look st t with
   | none=>exact ⟨t,.stop hl⟩
   | some u=>
    have h1:=ht u hl
    obtain ⟨v,hv⟩:=ih u fun u' hu'=>by
     obtain ⟨hk,_⟩:=eY.1 hu'
     have:=hr _ _ (eY.1 hl).2 u.n.toNat (by rw [ye hk]; simp)
     omega
    exact ⟨v,.step hl hv⟩
 exact this (r t.n.toNat+1) t fun _ _=>Nat.lt_succ_self _
/- what a walk leaves open -/
/- bindings that are left -/
def unb:bf->Nat
 | []=>0
 | none::st=>unb st+1
 | some _::st=>unb st
theorem DA:∀ (st:bf) (n:Nat) (t:T),st[n]?=some none->unb (st.set n (some t))+1=unb st
 | [],n,t,h=>by simp at h
 | x::st,0,t,h=>by
  simp only [List.getElem?_cons_zero,Option.some.injEq] at h
  subst h
  rfl
 | x::st,n+1,t,h=>by
  have h':st[n]?=some none:=by simpa using h
  have:=DA st n t h'
  cases x <;> simp only [List.set_cons_succ,unb] <;> omega
open Classical in
theorem Good.set {N:Nat} {st:bf} (h:Good N st) {n:Nat} {t:T} (hn:st[n]?=some none) (ht:okU N t) (hw:wT t<=1048576) (ho:¬ kl st n t):Good N (st.set n (some t)):=by
 have hnl:n<st.length:=(List.getElem?_eq_some_iff.1 hn).1
 refine ⟨by rw [List.length_set]; exact h.len,fun u hu=>?_,fun u hu=>?_,?_⟩
 ·rcases List.mem_or_eq_of_mem_set hu with hu|hu
  ·exact h.ok u hu
  ·rw [Option.some.injEq] at hu
   rw [hu]; exact ht
 ·rcases List.mem_or_eq_of_mem_set hu with hu|hu
  ·exact h.w u hu
  ·rw [Option.some.injEq] at hu
   rw [hu]; exact hw
 ·obtain ⟨r,hr⟩:=h.rk
  have hM:∀ l:List Nat,∃ M,∀ m∈l,r m<=M:=by
   intro l
   induction l with
   | nil=>exact ⟨0,by simp⟩
   | cons x l ih=>
    obtain ⟨M,hM⟩:=ih
    refine ⟨M+r x,fun m hm=>?_⟩
    rcases List.mem_cons.1 hm with rfl|hm
    ·omega
    ·have:=hM m hm; omega
  obtain ⟨M,hM⟩:=hM (vT t)
  refine ⟨fun m=>if Rch st m n then r m+M+1 else r m,fun k u hku m hm=>?_⟩
  by_cases hkn:n=k
  ·subst hkn
   rw [List.getElem?_set_self hnl,Option.some.injEq,Option.some.injEq] at hku
   subst hku
   have h1:¬ Rch st m n:=fun e=>ho ⟨m,hm,e⟩
   have h2:=hM m hm
   simp only [if_neg h1,if_pos (Rch.refl (st:=st) n)]
   omega
  ·rw [List.getElem?_set_ne hkn] at hku
   have h1:=hr k u hku m hm
   by_cases hmn:Rch st m n
   ·have h2:Rch st k n:=.step hku hm hmn
    simp only [if_pos hmn,if_pos h2]
    omega
   ·simp only [if_neg hmn]
    split <;> omega
/- unification -/
inductive Job where
 | one (a b:T)
 | list (xs ys:List T)
inductive Uni:bf->Job->Bool->bf->Prop
 | same {st:bf} {a b a' b':T}:dp st a a'->dp st b b'->a'.kind=1->b'.kind=1->a'.n=b'.n->Uni st (.one a b) true st
 | bindA {st:bf} {a b a' b':T}:dp st a a'->dp st b b'->a'.kind=1->¬ (b'.kind=1/\a'.n=b'.n)->¬ kl st a'.n.toNat b'->Uni st (.one a b) true (st.set a'.n.toNat (some b'))
 | occA {st:bf} {a b a' b':T}:dp st a a'->dp st b b'->a'.kind=1->¬ (b'.kind=1/\a'.n=b'.n)->kl st a'.n.toNat b'->Uni st (.one a b) false st
 | bindB {st:bf} {a b a' b':T}:dp st a a'->dp st b b'->a'.kind≠1->b'.kind=1->¬ kl st b'.n.toNat a'->Uni st (.one a b) true (st.set b'.n.toNat (some a'))
 | occB {st:bf} {a b a' b':T}:dp st a a'->dp st b b'->a'.kind≠1->b'.kind=1->kl st b'.n.toNat a'->Uni st (.one a b) false st
 | clash {st:bf} {a b a' b':T}:dp st a a'->dp st b b'->a'.kind≠1->b'.kind≠1->nN a' b'=false->Uni st (.one a b) false st
 | kids {st st':bf} {a b a' b':T} {r:Bool}:dp st a a'->dp st b b'->a'.kind≠1->b'.kind≠1->nN a' b'=true->Uni st (.list a'.kids b'.kids) r st'->Uni st (.one a b) r st'
 | nil {st:bf}:Uni st (.list [] []) true st
 | stop {st st':bf} {a b:T} {xs ys:List T}:Uni st (.one a b) false st'->Uni st (.list (a::xs) (b::ys)) false st'
 | go {st st1 st':bf} {a b:T} {xs ys:List T} {r:Bool}:Uni st (.one a b) true st1->Uni st1 (.list xs ys) r st'->Uni st (.list (a::xs) (b::ys)) r st'
def okJ (N:Nat):Job->Prop
 | .one a b=>(okU N a/\wT a<=1048576)/\(okU N b/\wT b<=1048576)
 | .list xs ys=>(∀ a∈xs,okU N a/\wT a<=1048576)/\(∀ b∈ys,okU N b/\wT b<=1048576)/\xs.length=ys.length
theorem ju {N:Nat} {t:T} (h:okU N t/\wT t<=1048576):∀ x∈t.kids,okU N x/\wT x<=1048576:=by
 intro x hx
 refine ⟨nt h.1.kids x hx,?_⟩
 have h1:=jO hx
 have h2:=h.2
 cases t
 rw [wT] at h2
 simp only [T.kids] at h1
 omega
theorem qv {a b:T} (h:nN a b=true):a.kids.length=b.kids.length:=by
 rw [nN] at h
 simp only [Bool.and_eq_true,decide_eq_true_eq] at h
 exact h.2.2.2
theorem Fs {N:Nat} {st:bf} (h:Good N st) {a:T} (hk:a.kind=1) (hl:look st a=none) (ho:okU N a):st[a.n.toNat]?=some none:=by
 obtain ⟨h0,h1,_⟩:=ho.var hk
 rcases Jw.1 hl hk with e|e
 ·have:=List.getElem?_eq_none_iff.1 e
  have:=h.len
  omega
 ·exact e
theorem Uni.good {N:Nat} {st st':bf} {j:Job} {r:Bool} (hu:Uni st j r st'):Good N st->okJ N j->Good N st'/\(st'=st ∨ unb st'<unb st):=by
 induction hu with
 | same=>exact fun h _=>⟨h,.inl rfl⟩
 | occA=>exact fun h _=>⟨h,.inl rfl⟩
 | occB=>exact fun h _=>⟨h,.inl rfl⟩
 | clash=>exact fun h _=>⟨h,.inl rfl⟩
 | nil=>exact fun h _=>⟨h,.inl rfl⟩
 | bindA ha hb hk hns ho=>
  rename_i a' b'
  intro h hj
  have h1:=eP h ha hj.1
  have h2:=eP h hb hj.2
  have hf:=Fs h hk (nF ha) h1.1
  have:=DA _ _ b' hf
  exact ⟨h.set hf h2.1 h2.2 ho,.inr (by omega)⟩
 | bindB ha hb hns hk ho=>
  rename_i a' b'
  intro h hj
  have h1:=eP h ha hj.1
  have h2:=eP h hb hj.2
  have hf:=Fs h hk (nF hb) h2.1
  have:=DA _ _ a' hf
  exact ⟨h.set hf h1.1 h1.2 ho,.inr (by omega)⟩
 | kids ha hb _ _ hd _ ih=>
  intro h hj
  exact ih h ⟨ju (eP h ha hj.1),ju (eP h hb hj.2),qv hd⟩
 | stop _ ih=>
  intro h hj
  exact ih h ⟨hj.1 _ (List.mem_cons_self ..),hj.2.1 _ (List.mem_cons_self ..)⟩
 | go _ _ ih1 ih2=>
  intro h hj
  obtain ⟨h1,h2⟩:=ih1 h ⟨hj.1 _ (List.mem_cons_self ..),hj.2.1 _ (List.mem_cons_self ..)⟩
  obtain ⟨h3,h4⟩:=ih2 h1 ⟨fun a ha=>hj.1 a (List.mem_cons_of_mem _ ha),fun b hb=>hj.2.1 b (List.mem_cons_of_mem _ hb),by have:=hj.2.2; simpa using this⟩
  refine ⟨h3,?_⟩
  rcases h2 with rfl|h2
  ·exact h4
  ·rcases h4 with rfl|h4
   ·exact .inr h2
   ·exact .inr (by omega)
open Classical in
theorem Cz {N:Nat}:∀ (U:Nat) (st:bf),Good N st->unb st<=U->∀ j,okJ N j->∃ r st',Uni st j r st':=by
 intro U
 induction U using Nat.strongRecOn with
 | _ U ihU=>
  intro st hg hU
  -- lists of terms of which each is known to have an answer
  have hlist:∀ (xs ys:List T),okJ N (.list xs ys)->(∀ a∈xs,∀ b,okJ N (.one a b)->∃ r st',Uni st (.one a b) r st')->∃ r st',Uni st (.list xs ys) r st':=by
   intro xs
   induction xs with
   | nil=>
    intro ys hj _
    have:ys=[]:=List.eq_nil_of_length_eq_zero hj.2.2.symm
    subst this
    exact ⟨true,st,.nil⟩
   | cons a xs ih=>
    intro ys hj hP
    cases ys with
    | nil=>have:=hj.2.2; simp at this
    | cons b ys=>
     have hjab:okJ N (.one a b):=⟨hj.1 _ (List.mem_cons_self ..),hj.2.1 _ (List.mem_cons_self ..)⟩
     have hjl:okJ N (.list xs ys):=⟨fun a ha=>hj.1 a (List.mem_cons_of_mem _ ha),fun b hb=>hj.2.1 b (List.mem_cons_of_mem _ hb),by have:=hj.2.2; simpa using this⟩
     obtain ⟨r,st1,h1⟩:=hP a (List.mem_cons_self ..) b hjab
     cases r with
     | false=>exact ⟨false,st1,.stop h1⟩
     | true=>
      obtain ⟨hg1,hu1⟩:=h1.good hg hjab
      rcases hu1 with rfl|hu1
      ·obtain ⟨r,st2,h2⟩:=ih ys hjl fun a ha=>hP a (List.mem_cons_of_mem _ ha)
       exact ⟨r,st2,.go h1 h2⟩
      ·obtain ⟨r,st2,h2⟩:=ihU (unb st1) (by omega) st1 hg1 (Nat.le_refl _) _ hjl
       exact ⟨r,st2,.go h1 h2⟩
  obtain ⟨rk,hrk⟩:=hg.rk
  have hone:∀ (m:Nat) (a:T),(∀ x∈vT a,∀ u,st[x]?=some (some u)->rk x<m)->∀ b,okJ N (.one a b)->∃ r st',Uni st (.one a b) r st':=by
   intro m
   induction m using Nat.strongRecOn with
   | _ m ihm=>
    refine T.ind fun k n s ks ih hr b hj=>?_
    obtain ⟨b',hb⟩:=MF hg b
    have hbo:=eP hg hb hj.2
    cases hl:look st (.mk k n s ks) with
    | some u=>
     obtain ⟨hk,hs⟩:=eY.1 hl
     have hlt:=hr _ (by rw [ye hk]; exact List.mem_singleton.2 rfl) u hs
     have hju:okJ N (.one u b):=⟨hg.look_ok hl,hj.2⟩
     obtain ⟨r,st',hu⟩:=ihm _ hlt u (fun x hx _ _=>hrk _ _ hs x hx) b hju
     refine ⟨r,st',?_⟩
     cases hu with
     | same h1 h2 h3 h4 h5=>exact .same (.step hl h1) h2 h3 h4 h5
     | bindA h1 h2 h3 h4 h5=>exact .bindA (.step hl h1) h2 h3 h4 h5
     | occA h1 h2 h3 h4 h5=>exact .occA (.step hl h1) h2 h3 h4 h5
     | bindB h1 h2 h3 h4 h5=>exact .bindB (.step hl h1) h2 h3 h4 h5
     | occB h1 h2 h3 h4 h5=>exact .occB (.step hl h1) h2 h3 h4 h5
     | clash h1 h2 h3 h4 h5=>exact .clash (.step hl h1) h2 h3 h4 h5
     | kids h1 h2 h3 h4 h5 h6=>exact .kids (.step hl h1) h2 h3 h4 h5 h6
    | none=>
     have ha:dp st (.mk k n s ks) (.mk k n s ks):=.stop hl
     by_cases hk:(T.mk k n s ks).kind=1
     ·by_cases hsame:b'.kind=1/\(T.mk k n s ks).n=b'.n
      ·exact ⟨_,_,.same ha hb hk hsame.1 hsame.2⟩
      ·by_cases ho:kl st (T.mk k n s ks).n.toNat b'
       ·exact ⟨_,_,.occA ha hb hk hsame ho⟩
       ·exact ⟨_,_,.bindA ha hb hk hsame ho⟩
     ·by_cases hkb:b'.kind=1
      ·by_cases ho:kl st b'.n.toNat (T.mk k n s ks)
       ·exact ⟨_,_,.occB ha hb hk hkb ho⟩
       ·exact ⟨_,_,.bindB ha hb hk hkb ho⟩
      ·cases hd:nN (T.mk k n s ks) b' with
       | false=>exact ⟨_,_,.clash ha hb hk hkb hd⟩
       | true=>
        obtain ⟨r,st',hu⟩:=hlist ks b'.kids ⟨ju hj.1,ju hbo,qv hd⟩ fun a ha' b2 hj2=>
         ih a ha' (fun x hx u hs=>hr x (by rw [Iy hk]; exact CN.2 ⟨a,ha',hx⟩) u hs) b2 hj2
        exact ⟨r,st',.kids ha hb hk hkb hd hu⟩
  have hall:∀ a b,okJ N (.one a b)->∃ r st',Uni st (.one a b) r st':=by
   intro a b hj
   have hM:∀ l:List Nat,∃ M,∀ m∈l,rk m<M:=by
    intro l
    induction l with
    | nil=>exact ⟨0,by simp⟩
    | cons x l ih=>
     obtain ⟨M,hM⟩:=ih
     refine ⟨M+rk x+1,fun m hm=>?_⟩
     rcases List.mem_cons.1 hm with rfl|hm
     ·omega
     ·have:=hM m hm; omega
   obtain ⟨M,hM⟩:=hM (vT a)
   exact hone M a (fun x hx _ _=>hM x hx) b hj
  intro j hj
  cases j with
  | one a b=>exact hall a b hj
  | list xs ys=>exact hlist xs ys hj fun a _ b hjb=>hall a b hjb
/- resolved terms -/
inductive Lt where
 | one (t u:T)
 | list (ts us:List T)
inductive Res (st:bf):Lt->Prop
 | one {t v:T} {us:List T}:dp st t v->Res st (.list v.kids us)->Res st (.one t (.mk v.kind v.n v.name us))
 | nil:Res st (.list [] [])
 | cons {t u:T} {ts us:List T}:Res st (.one t u)->Res st (.list ts us)->Res st (.list (t::ts) (u::us))
theorem KW {N:Nat} {st:bf} (h:Good N st) (t:T) (ho:okU N t):∃ u,Res st (.one t u):=by
 obtain ⟨rk,hrk⟩:=h.rk
 have hlist:∀ ts:List T,(∀ t∈ts,∃ u,Res st (.one t u))->∃ us,Res st (.list ts us):=by
  intro ts
  induction ts with
  | nil=>exact fun _=>⟨[],.nil⟩
  | cons t ts ih=>
   intro hP
   obtain ⟨u,hu⟩:=hP t (List.mem_cons_self ..)
   obtain ⟨us,hus⟩:=ih fun x hx=>hP x (List.mem_cons_of_mem _ hx)
   exact ⟨u::us,.cons hu hus⟩
 have hone:∀ (m:Nat) (a:T),(∀ x∈vT a,∀ u,st[x]?=some (some u)->rk x<m)->(okU N a)->∃ u,Res st (.one a u):=by
  intro m
  induction m using Nat.strongRecOn with
  | _ m ihm=>
   refine T.ind fun k n s ks ih hr ho=>?_
   cases hl:look st (.mk k n s ks) with
   | some u=>
    obtain ⟨hk,hs⟩:=eY.1 hl
    have hlt:=hr _ (by rw [ye hk]; exact List.mem_singleton.2 rfl) u hs
    obtain ⟨u',hu⟩:=ihm _ hlt u (fun x hx _ _=>hrk _ _ hs x hx) (h.look_ok hl).1
    refine ⟨u',?_⟩
    cases hu with
    | one h1 h2=>exact .one (.step hl h1) h2
   | none=>
    by_cases hk:(T.mk k n s ks).kind=1
    ·have:=(ho.var hk).2.2.2
     have e:ks=[]:=this
     subst e
     exact ⟨_,.one (.stop hl) .nil⟩
    ·obtain ⟨us,hus⟩:=hlist ks fun a ha=>ih a ha (fun x hx u hs=>hr x (by rw [Iy hk]; exact CN.2 ⟨a,ha,hx⟩) u hs) (nt ho.kids a ha)
     exact ⟨_,.one (.stop hl) hus⟩
 have hM:∀ l:List Nat,∃ M,∀ m∈l,rk m<M:=by
  intro l
  induction l with
  | nil=>exact ⟨0,by simp⟩
  | cons x l ih=>
   obtain ⟨M,hM⟩:=ih
   refine ⟨M+rk x+1,fun m hm=>?_⟩
   rcases List.mem_cons.1 hm with rfl|hm
   ·omega
   ·have:=hM m hm; omega
 obtain ⟨M,hM⟩:=hM (vT t)
 exact hone M t (fun x hx _ _=>hM x hx) ho

end Go.Proofs.YtfcbhfjomgopbaaGreat

/- Terms drawn: literal lists, appends in any order, spec.l1Draw, l1Some, l1Mutate: what is drawn is readable and light. -/
namespace Go.Proofs.YtfcbhfjomgopbaaGreat
open Go Go.RowKit
theorem vo {b:Bool} {n:Nat} (h:b=decide (1<=n)) (h':b=false):n=0:=by
 rw [h',eq_comm,decide_eq_false_iff_not] at h; omega
theorem gf {a b:Bool} {k n:Nat} (h:a=decide (k<=n)) (ha:a=true) (h':b=decide (k+1<=n)) (hb:b=false):n=k:=by
 rw [ha,eq_comm,decide_eq_true_iff] at h
 rw [hb,eq_comm,decide_eq_false_iff_not] at h'
 omega
theorem kq {b:Bool} {n m:Nat} (hl:n<=m) (h:b=decide (m<=n)) (hb:b=true):n=m:=by
 rw [hb,eq_comm,decide_eq_true_iff] at h; omega
theorem Mb {b l:Bool} {n m:Nat} (h:b=decide (m<=n)) (k:b=true->l=true) (hl:l=false):n<m:=by
 cases b
 ·rw [eq_comm,decide_eq_false_iff_not] at h; omega
 ·rw [k rfl] at hl; cases hl
def KS:List (Nat × Value)->List ByteArray
 | (_,.string s)::l=>s::KS l
 | _=>[]
def KY:List (Nat × Value)->List Int
 | (_,.int _ n)::l=>n::KY l
 | _=>[]
theorem Ky {α:Type} {f:α->Value} (l:List α) {i:Nat} (hi:i<l.length):bm (l.map f).toArray i 1=[f l[i]]:=by
 rw [bm,List.drop_eq_getElem_cons (by simpa using hi)]
 simp
theorem RdSl.monoU {S S':al} {v:Value} {ys:List Nat} (hs:Sle S S') (h:RdSl S 1 jd v ys):RdSl S' 1 jd v ys:=h.mono hs fun _ _ h=>h
theorem RdSl.monoS {S S':al} {v:Value} {ys:List ByteArray} (hs:Sle S S') (h:RdSl S 1 j8 v ys):RdSl S' 1 j8 v ys:=h.mono hs fun _ _ h=>h
theorem Nr {S:al} {b:Nat} {E:TypeId} {cs:List Value} {t:T} (hS:S b=some (.cells cs.toArray E)) (h:RdT S cs t):RdSl S 4 (RdT S) (.slice (some ⟨b,0,none⟩) 1 1) [t]:=by
 refine ⟨_,1,rfl,Nat.le_refl _,by simp [maxLen],.inr ⟨b,0,_,E,(0,0),rfl,hS,fun i hi=>?_⟩⟩
 match i,hi with
 | 0,_=>
  have e:bm cs.toArray (0+0 * 4) 4=cs:=by
   rw [bm]
   simpa using List.take_of_length_le (Nat.le_of_eq h.length)
  rw [e]
  exact h
section
variable {w0 w:World} {X:List Nat} {L A:List Item} {S:al} {K:Value->World->Prop}
attribute [local irreducible] Run CondV ag aO
theorem Inv.last (h:Inv w0 X L S w) (i:Nat) {it:Item} (hi:L[i]?=some it):Inv w0 X (L.eraseIdx i++[it]) S w:=by
 refine h.perm ?_
 obtain ⟨h1,_⟩:=sN hi it
 rw [List.eraseIdx_eq_take_drop_succ]
 conv=>rhs; rw [h1]
 rw [List.append_assoc]
 exact List.Perm.append_left _ List.perm_append_comm
theorem fk {n:Nat} {ps:List (Nat × Value)} (h:Inv w0 X L S w)
  (hr:(av tQ n ps).run Tryz.prog w=.ok (.value (.slice (some ⟨w.heap.size,0,none⟩) n n)) { w with heap:=w.heap.push (.cells ((KS ps).map Value.string).toArray hY) })
  (hn:(KS ps).length=n) (hm:n<=1000) (hk:∀ v S1 w',Ext w0.heap.size X S S1->RdSl S1 1 j8 v (KS ps)->Inv w0 X L S1 w'->K v w'):Run Tryz.prog (av tQ n ps) w K:=by
 refine lW (v:=fun b=>.slice (some ⟨b,0,none⟩) n n) (o:=.cells ((KS ps).map Value.string).toArray hY) h hr fun b w' hI=>?_
 obtain ⟨S1,hI,hE,hS⟩:=hI.pub1
 refine hk _ S1 w' hE ?_ hI
 exact RdSl.ofCells hS hn (by simp only [maxLen]; omega) fun i hi=>Ky _ hi
theorem tm {n:Nat} {ps:List (Nat × Value)} (h:Inv w0 X L S w)
  (hr:(av Gk n ps).run Tryz.prog w=.ok (.value (.slice (some ⟨w.heap.size,0,none⟩) n n)) { w with heap:=w.heap.push (.cells ((KY ps).map (Value.int .i64)).toArray eW) })
  (hn:(KY ps).length=n) (hm:n<=1000) (hk:∀ v S1 w',Ext w0.heap.size X S S1->RdSl S1 1 gt v (KY ps)->Inv w0 X L S1 w'->K v w'):Run Tryz.prog (av Gk n ps) w K:=by
 refine lW (v:=fun b=>.slice (some ⟨b,0,none⟩) n n) (o:=.cells ((KY ps).map (Value.int .i64)).toArray eW) h hr fun b w' hI=>?_
 obtain ⟨S1,hI,hE,hS⟩:=hI.pub1
 refine hk _ S1 w' hE ?_ hI
 exact RdSl.ofCells hS hn (by simp only [maxLen]; omega) fun i hi=>Ky _ hi
def zL (Q:Prop) (R:Nat->Prop):Nat->Prop
 | 0=>Q
 | n+1=>R n
/- one value drawn by a call, put behind a row: the stages -/
def zx (w0:World) (X:List Nat) (b:Nat) (c:Array Value) (d:Nat) (E:TypeId) (kv:Value) (css:List (List Value)) (A:Nat->List Item) (Q:List Value->Nat->al->Prop) (xv xs xa:Value) (w':World):Nat->Prop
 | 0=>∃ p1 S1 cs,Q cs p1 S1/\(cs.length=4/\∀ u∈cs,u.oneCell'=true)/\xv=.agg cs.toArray/\Inv w0 X (.blk b (.cells c E)::bq kv ab 4 css::A p1) S1 w'
 | 1=>∃ p1 S1 cs b8,Q cs p1 S1/\(cs.length=4/\∀ u∈cs,u.oneCell'=true)/\xs=.slice (some ⟨b8,0,none⟩) 1 1/\Inv w0 X (.blk b (.cells c E)::bq kv ab 4 css::(A p1++[.blk b8 (.cells cs.toArray ab)])) S1 w'
 | 2=>∃ p1 S1 cs,Q cs p1 S1/\(cs.length=4/\∀ u∈cs,u.oneCell'=true)/\Inv w0 X (.blk b (.cells c E)::bq xa ab 4 (css++[cs])::A p1) S1 w'
 | 3=>∃ p1 S1 cs,Q cs p1 S1/\(cs.length=4/\∀ u∈cs,u.oneCell'=true)/\Inv w0 X (.blk b (.cells (c.setIfInBounds d xa) E)::bq xa ab 4 (css++[cs])::A p1) S1 w'
 | _=>False
variable {b d:Nat} {c:Array Value} {E:TypeId} {kv:Value} {css:List (List Value)} {F:Nat->List Item} {Q:List Value->Nat->al->Prop} {xv xs xa:Value}
theorem Ke {n:Nat} (h:zx w0 X b c d E kv css F Q xv xs xa w n) (hn:n<3):w.cell? ⟨b,d,none⟩=c[d]?:=by
 rcases n with _|_|_|n
 ·obtain ⟨p1,S1,cs,_,_,_,hI⟩:=h
  exact hI.cellL (i:=0) rfl
 ·obtain ⟨p1,S1,cs,b8,_,_,_,hI⟩:=h
  exact hI.cellL (i:=0) rfl
 ·obtain ⟨p1,S1,cs,_,_,hI⟩:=h
  exact hI.cellL (i:=0) rfl
 ·omega
theorem ap1 {B:Prop} (h:zL B (zx w0 X b c d E kv css F Q xv xs xa w) 1) (hk:∀ u w',zL B (zx w0 X b c d E kv css F Q xv u xa w') 2->K u w'):Run Tryz.prog (av pO 1 [(0,xv)]) w K:=by
 obtain ⟨p1,S1,cs,hQ,hl,rfl,hI⟩:=h
 refine dh hI bO (by simp [Value.cells,hl.1]) (by omega) (by omega) fun b8 w' hI=>?_
 exact hk _ _ ⟨p1,S1,cs,b8,hQ,hl,rfl,hI⟩
theorem ap2 {B:Prop} {ty:TypeId} {bs:List Bool} (h:zL B (zx w0 X b c d E kv css F Q xv xs xa w) 2) (hfit:css.length<=1000000) (hk:∀ u w',zL B (zx w0 X b c d E kv css F Q xv xs u w') 3->K u w'):Run Tryz.prog (bx .append #[pO,pO] ty bs [kv,xs]) w K:=by
 obtain ⟨p1,S1,cs,b8,hQ,hl,rfl,hI⟩:=h
 have hblk:(Item.blk b (.cells c E)::bq kv ab 4 css::(F p1++[.blk b8 (.cells cs.toArray ab)]))[(F p1).length+1+1]?=some (.blk b8 (.cells cs.toArray ab)):=by
  rw [List.getElem?_cons_succ,List.getElem?_cons_succ,List.getElem?_append_right (Nat.le_refl _),Nat.sub_self]; rfl
 refine fm hI 1 cs bO (by omega) rfl (by rw [hl.1]) (m:=1) (o:=0) ?_ hl.2 (by omega) (by omega) fun v' w_ hI=>?_
 ·intro i u hi
  rw [hI.cellL hblk,Nat.zero_add]
  simpa using hi
 rw [f1] at hI
 refine hk _ _ ⟨p1,S1,cs,hQ,hl,?_⟩
 exact hI.sub (((List.sublist_append_left _ _).cons_cons _).cons_cons _)
theorem ap3 {B:Prop} {ty:TypeId} (h:zL B (zx w0 X b c d E kv css F Q xv xs xa w) 3) (hd:d<c.size) {K:Value->World->Prop} (hk:∀ w',zL B (zx w0 X b c d E kv css F Q xv xs xa w') 4->K undef w'):Run Tryz.prog (sOp (.store pO (.const (.pointer (some ⟨b,d,none⟩))) (.const xa)) ty) w K:=by
 obtain ⟨p1,S1,cs,hQ,hl,hI⟩:=h
 obtain ⟨va,vn,vc,hv9⟩:=Inv.rowSlice hI 1 rfl
 refine dy hI 0 (n:=1) (by rw [hv9]; rfl) (by decide +kernel) rfl (by omega) (by rw [hv9]; simp [Value.cells,Value.oneCell']) fun w_ hI=>?_
 have hcl9:Value.cells xa=#[xa]:=by rw [hv9]; rfl
 have e:bM c d (Value.cells xa).toList=c.setIfInBounds d xa:=by
  rw [hcl9]
  apply Array.toList_inj.1
  simp only [bM,Array.toList_setIfInBounds]
  have hl:d<c.toList.length:=by simpa using hd
  rw [List.set_eq_take_append_cons_drop,if_pos hl]
  simp
 rw [e] at hI
 exact hk _ ⟨p1,S1,cs,hQ,hl,hI⟩
end
/- how much a drawn term weighs, and how far the reader has gone -/
abbrev dW (d:Nat):Nat:=6 * 3 ^ d
theorem Li (d:Nat):6<=dW d:=by
 have:0<3 ^ d:=Nat.pow_pos (by omega)
 simp only [dW]; omega
theorem MJ (d:Nat):dW (d+1)=3 * dW d:=by simp only [dW,Nat.pow_succ]; omega
abbrev NT (br:Nat) (sl:Value) (p d:Nat):Value->List Item->al->Prop:=fun v I' S'=>∃ p',p'+2<=p+dW d/\I'=[rdI br sl p']/\∃ cs t,v=.agg cs.toArray/\RdT S' cs t/\wT t+3<=dW d/\okU 26 t
end Go.Proofs.YtfcbhfjomgopbaaGreat

/- spec.l1Draw, l1Some: a drawn term is readable and light. -/
namespace Go.Proofs.YtfcbhfjomgopbaaGreat
open Go Go.RowKit
theorem r3 {l:List Int} {n a b:Int} (hm:n∈l) (h:(l.all fun n=>decide (a<=n) && decide (n<=b))=true):a<=n/\n<=b:=by
 rw [List.all_eq_true] at h
 have:=h n hm
 rw [Bool.and_eq_true,decide_eq_true_eq,decide_eq_true_eq] at this
 exact this
theorem CD {l:List ByteArray} {s:ByteArray} {m:Nat} (hm:s∈l) (h:(l.all fun s=>decide (s.size<=m))=true):s.size<=m:=by
 rw [List.all_eq_true] at h
 have:=h s hm
 rwa [decide_eq_true_eq] at this
theorem KG {Q B:Prop} {R:Nat->Prop} (h1:Q->B) (h2:∀ n,n<3->R n->B):∀ {n:Nat},zL Q R n->n<4->B
 | 0,h,_=>h1 h
 | n+1,h,hn=>h2 n (by omega) h
theorem tK:∀ l m:List T,wL (l++m)=wL l+wL m
 | [],m=>by simp [wL]
 | t::l,m=>by simp only [List.cons_append,wL,tK l m]; omega
theorem Mj {n:Int} (h:0<=n/\n<26):okU 26 (.mk 1 n emptyB []):=by
 simp only [okU,df]
 exact ⟨by decide,fun _=>⟨h.1,h.2,trivial,trivial⟩,trivial,by decide⟩
theorem LO {n:Int}:okU 26 (.mk 2 n emptyB []):=by
 simp only [okU,df]
 exact ⟨by decide,(fun h=>by cases h),trivial,by decide⟩
theorem Dz {s:ByteArray} {ts:List T} (hs:s.size<=6) (h:df 26 ts):okU 26 (.mk 3 0 s ts):=by
 simp only [okU]
 exact ⟨by decide,(fun h=>by cases h),h,hs⟩
theorem xg {N:Nat}:∀ {l m:List T},df N l->df N m->df N (l++m)
 | [],_,_,h=>h
 | _::_,_,h,h'=>by
  rw [df] at h
  rw [List.cons_append,df]
  exact ⟨h.1,xg h.2 h'⟩
theorem np {S:al} {k n:Int} (hk:inI k) (hn:inI n):RdT S [.int .i64 k,.int .i64 n,.string ⟨#[]⟩,.slice none 0 0] (.mk k n emptyB []):=
 RdT.iff.2 ⟨_,rfl,hk,hn,Nat.zero_le _,kF S⟩
section
variable {w0 w:World} {X:List Nat} {L:List Item} {S:al} {K:Value->World->Prop} {P:Program}
attribute [local irreducible] Run CondV ag aO
theorem Run.callL {f:FuncId} {fn:Func} {args:List Value} {I:List Item} {Post:Value->List Item->al->Prop}
  (hf:P.funcs[f]?=some fn) (hn:(fn.name == "runtime.NumGoroutine" || fn.body.isNone)=false) (h:Inv w0 X L S w) (hc:Tri P f args I S Post) (hL:L=L.dropLast++I)
  (hk:∀ v I' S' w',Post v I' S'->Ext w0.heap.size X S S'->Inv w0 X (L.dropLast++I') S' w'->K v w'):Run P (fN (.func (.func f) #[] #[]) args) w K:=
 Run.callE (A:=L.dropLast) hf hn (hL ▸ h) hc hk
theorem CB {T:TypeId} {cx cy:Bool} {d:Nat} (hd:d<=1000000) (hk:K (.int .i64 (d:Int)) w):Run P (cS .sub T cx cy (.int .i64 ((d+1:Nat):Int)) (.int .i64 1)) w K:=by
 refine ic (by omega) ?_
 rw [show ((d+1:Nat):Int) - 1=d by omega]
 exact hk
theorem KU {B:Prop} {b d:Nat} {c:Array Value} {E:TypeId} {kv xs xa:Value} {css:List (List Value)} {F:Nat->List Item} {Q:List Value->Nat->al->Prop} {p1:Nat} {S1:al} {cs:List Value} {t:T}
  (hQ:Q cs p1 S1) (hr:RdT S1 cs t) (hI:Inv w0 X (.blk b (.cells c E)::bq kv ab 4 css::F p1) S1 w):zL B (zx w0 X b c d E kv css F Q (.agg cs.toArray) xs xa w) 1:=
 ⟨p1,S1,cs,hQ,⟨hr.length,hr.one⟩,rfl,hI⟩
end
section
variable {br:Nat} {sl:Value} {ys:List Nat}
attribute [local irreducible] Run CondV ag aO
abbrev Ha (br:Nat) (sl:Value) (ys:List Nat) (d:Nat):Prop:=∀ (p:Nat) (S:al),RdSl S 1 jd sl ys->p+3 * dW d<=1000000000->Tri Tryz.prog GW [rdP br,.int .i64 (d:Int)] [rdI br sl p] S (NT br sl p d)
theorem AQ {d:Nat} (hd4:d<=4) (ih:∀ d',d'+1=d->Ha br sl ys d'):Ha br sl ys d:=by
 intro p S hrd hp w hI
 have hW:=Li d
 refine xl ?_
 unfold vi
 refine bi hI bH fun b4 w' hI=>?_
 have hI:Inv w [br] [.blk b4 (.cells #[.int .i64 0,.int .i64 0,.string ⟨#[]⟩,.slice none 0 0] ab),rdI br sl p] S w':=hI.last 0 rfl
 refine ⟨fun v w'=>∃ (c:Bool) (p1:Nat),v=.bool c/\p1<=p+1/\(c=false->2<=d)/\Inv w [br] [.blk b4 (.cells #[.int .i64 0,.int .i64 0,.string ⟨#[]⟩,.slice none 0 0] ab),rdI br sl p1] S w',?_,?_⟩
 ·refine cg ?_
  by_cases hd:(d:Int)<2
  ·rw [decide_eq_true hd]
   repeat (first|refine ad ?_|refine af (by decide) ?_|refine ae ?_|refine ak ?_|refine aj ?_)
   exact ⟨true,p,rfl,by omega,(fun h=>by cases h),hI⟩
  ·rw [decide_eq_false hd]
   repeat (first|refine ad ?_|refine af (by decide) ?_|refine ae ?_|refine ak ?_|refine aj ?_)
   refine Run.callL ch ci hI (cW (n:=4) hrd (by omega) (by omega)) rfl fun v' I' S' w'=>?_
   rintro ⟨rfl,rfl,k,hk,rfl⟩ _ hI
   refine bP ?_
   repeat (first|refine ad ?_|refine af (by decide) ?_|refine ae ?_|refine ak ?_|refine aj ?_)
   exact ⟨_,p+1,rfl,by omega,fun _=>by omega,hI⟩
 intro t13 _ _ _ _ _ _ w'
 rintro ⟨c,p1,rfl,hp1,hcd,hI⟩
 refine aS (fun _=>?_) (fun hc=>?_)
 ·refine Run.callL ch ci hI (cW (n:=4) hrd (by omega) (by omega)) rfl fun v' I' S' w'=>?_
  rintro ⟨rfl,rfl,k,hk,rfl⟩ _ hI
  have hI:Inv w [br] [.blk b4 (.cells #[.int .i64 0,.int .i64 0,.string ⟨#[]⟩,.slice none 0 0] ab),rdI br sl (p1+1)] S' w':=hI
  refine bP ?_
  refine bz (fun _=>?_) (fun _=>?_)
  ·refine Run.callL ch ci hI (cW (n:=4) hrd (by omega) (by omega)) rfl fun v' I' S1 w'=>?_
   rintro ⟨rfl,rfl,k,hk,rfl⟩ _ hI
   refine Run.callPure zd yl hI (n7 k S1) fun w' hI=>?_
   refine aG hI 0 rfl ai rfl rfl (by simp [Value.oneCell']) fun w' hI=>?_
   refine bE hI 0 ai rfl rfl ?_
   exact ⟨_,_,S1,rfl,hI.pick [false,true],Ext.refl _ _ _,p1+2,by omega,rfl,_,_,rfl,np (by simp [inI]) (by simp only [inI]; omega),by have e:emptyB.size=0:=rfl; simp only [wT,wL,List.length_nil,e]; omega,Mj (by omega)⟩
  refine bP ?_
  refine bz (fun _=>?_) (fun _=>?_)
  ·refine tm hI (by kernel_rfl) rfl (by omega) fun v S1 w' hE1 hv hI=>?_
   refine Run.callL eC eA hI (iF (p:=p1+1) (hrd.monoU hE1.1) hv (by decide) (by omega)) rfl fun v' I' S2 w'=>?_
   rintro ⟨rfl,rfl,n,hn,rfl⟩ _ hI
   have hn:=r3 (a:=-1000) (b:=1000) hn (by decide)
   refine Run.callPure kQ k3 hI (gY n S2) fun w' hI=>?_
   refine aG hI 0 rfl ai rfl rfl (by simp [Value.oneCell']) fun w' hI=>?_
   refine bE hI 0 ai rfl rfl ?_
   exact ⟨_,_,S2,rfl,hI.pick [false,true],hE1,p1+2,by omega,rfl,_,_,rfl,np (by simp [inI]) (by simp only [inI]; omega),by have e:emptyB.size=0:=rfl; simp only [wT,wL,List.length_nil,e]; omega,LO⟩
  ·refine fk hI (by kernel_rfl) rfl (by omega) fun v S1 w' hE1 hv hI=>?_
   refine Run.callL jG jH hI (xe (p:=p1+1) (hrd.monoU hE1.1) hv (by decide) (by omega)) rfl fun v' I' S2 w'=>?_
   rintro ⟨rfl,rfl,s,hs,rfl⟩ _ hI
   have hs:=CD (m:=3) hs (by decide)
   refine Run.call0E dq dr hI (er s (by simp only [maxLen]; omega) (kF S2) (by simp)) fun v' I' S3 w'=>?_
   rintro ⟨rfl,cs,rfl,hcs⟩ hE3 hI
   refine aG hI 0 rfl ai (by simpa using hcs.length) rfl (by simpa using hcs.one) fun w' hI=>?_
   refine bE hI 0 ai rfl (by simpa using hcs.length) ?_
   exact ⟨_,_,S3,rfl,hI.pick [false,true],hE1.trans hE3,p1+2,by omega,rfl,_,_,rfl,hcs,by simp only [wT,wL,List.length_nil]; omega,Dz (by omega) (by simp only [df])⟩
 obtain ⟨d',rfl⟩:∃ d',d=d'+1:=⟨d - 1,by have:=hcd hc; omega⟩
 have ih:=ih d' rfl
 have hD:=Li d'
 have hDs:=MJ d'
 have h3:dW d'<=486:=by
  have:3 ^ d'<=3 ^ 4:=Nat.pow_le_pow_right (by omega) (by omega)
  simp only [dW]; omega
 refine Run.callL ch ci hI (cW (n:=3) hrd (by omega) (by omega)) rfl fun v' I' S w'=>?_
 rintro ⟨rfl,rfl,k,hk,rfl⟩ _ hI
 refine bP ?_
 refine bz (fun _=>?_) (fun _=>?_)
 ·refine CB (by omega) ?_
  refine Run.callL jz jA hI (ih (p1+1) S hrd (by omega)) rfl fun v' I' S1 w'=>?_
  rintro ⟨p2,hp2,rfl,cs1,t1,rfl,hc1,hw1,ho1⟩ hE1 hI
  refine CB (by omega) ?_
  refine Run.callL jz jA hI (ih p2 S1 (hrd.monoU hE1.1) (by omega)) rfl fun v' I' S2 w'=>?_
  rintro ⟨p3,hp3,rfl,cs2,t2,rfl,hc2,hw2,ho2⟩ hE2 hI
  have hc1:=RdT.mono hE2.1 hc1
  obtain ⟨kv1,rfl,_,_,_,a1,q1,rfl,_⟩:=RdT.iff.1 hc1
  obtain ⟨kv2,rfl,_,_,_,a2,q2,rfl,_⟩:=RdT.iff.1 hc2
  refine lW (v:=fun b=>.slice (some ⟨b,0,none⟩) 2 2) (o:=.cells #[.int .i64 t1.kind,.int .i64 t1.n,.string t1.name,.slice a1 t1.kids.length q1,.int .i64 t2.kind,.int .i64 t2.n,.string t2.name,.slice a2 t2.kids.length q2] ab) hI (by kernel_rfl) fun b w' hI=>?_
  have hI:Inv w [br] ([.blk b4 (.cells #[.int .i64 0,.int .i64 0,.string ⟨#[]⟩,.slice none 0 0] ab),rdI br sl p3]++[_]) S2 w':=hI
  obtain ⟨S3,hI,hE3,hS⟩:=hI.pub1
  refine Run.call0E dq dr hI (er ⟨#[46]⟩ (by decide) (Hq hS (hc1.mono hE3.1) (hc2.mono hE3.1)) (by simp)) fun v' I' S4 w'=>?_
  rintro ⟨rfl,cs,rfl,hcs⟩ hE4 hI
  refine aG hI 0 rfl ai (by simpa using hcs.length) rfl (by simpa using hcs.one) fun w' hI=>?_
  refine bE hI 0 ai rfl (by simpa using hcs.length) ?_
  refine ⟨_,_,S4,rfl,hI.pick [false,true],(hE1.trans hE2).trans (hE3.trans hE4),p3,by omega,rfl,_,_,rfl,hcs,?_,Dz (by decide) (by simp only [df]; exact ⟨ho1,ho2,trivial⟩)⟩
  have e:(ByteArray.mk #[46]).size=1:=rfl
  simp only [wT,wL,List.length_cons,List.length_nil,e]
  omega
 ·refine fk hI (by kernel_rfl) rfl (by omega) fun v S1 w' hE1 hv hI=>?_
  refine Run.callL jG jH hI (xe (p:=p1+1) (hrd.monoU hE1.1) hv (by decide) (by omega)) rfl fun v' I' S2 w'=>?_
  rintro ⟨rfl,rfl,s,hs,rfl⟩ _ hI
  have hs:=CD (m:=3) hs (by decide)
  refine Run.call0E dq dr hI (qT s (kF S2) (by simp)) fun v' I' S3 w'=>?_
  rintro ⟨rfl,kv0,css0,rfl,rfl,hR0⟩ hE3 hI
  refine bi hI bH fun b5 w' hI=>?_
  obtain ⟨a0,n0,q0,rfl⟩:=hI.rowSlice 2 rfl
  refine aG hI 3 rfl ai rfl rfl (by simp [Value.oneCell']) fun w' hI=>?_
  obtain ⟨B4,hB4⟩:∃ B4,B4=Item.blk b4 (.cells #[.int .i64 0,.int .i64 0,.string ⟨#[]⟩,.slice none 0 0] ab):=⟨_,rfl⟩
  have hI:Inv w [br] [.blk b5 (.cells #[.int .i64 3,.int .i64 0,.string s,.slice a0 n0 q0] ab),bq (.slice a0 n0 q0) ab 4 css0,B4,rdI br sl (p1+2)] S3 w':=by
   rw [hB4]
   exact ((hI.last 2 rfl).last 0 rfl).last 0 rfl
  refine tm hI (by kernel_rfl) rfl (by omega) fun v S4 w' hE4 hv hI=>?_
  refine Run.callL eC eA hI (iF (p:=p1+2) (hrd.monoU ((hE1.trans hE3).trans hE4).1) hv (by decide) (by omega)) rfl fun v' I' S5 w'=>?_
  rintro ⟨rfl,rfl,n,hn,rfl⟩ _ hI
  have hn:=r3 (a:=1) (b:=3) hn (by decide)
  have hE5:Ext w.heap.size [br] S S5:=(hE1.trans hE3).trans hE4
  refine ⟨fun t w'=>∃ (j p2:Nat) (S6:al) (kv:Value) (css:List (List Value)) (ts:List T),df 26 ts/\t=.int .i64 (j:Int)/\ts.length+j<=3/\Rows 4 (RdT S6) css ts/\wL ts+3 * ts.length<=ts.length * dW d'/\p2+2 * ts.length<=p1+3+ts.length * dW d'/\Ext w.heap.size [br] S S6/\
   Inv w [br] [.blk b5 (.cells #[.int .i64 3,.int .i64 0,.string s,kv] ab),bq kv ab 4 css,B4,rdI br sl p2] S6 w',fun t _=>(intOf t).toNat,
   ⟨n.toNat,p1+3,S5,_,css0,[],by simp only [df],by rw [Int.toNat_of_nonneg (by omega)],by simp; omega,hR0.monoR fun _ _ h=>RdT.mono hE4.1 h,by simp [wL],by simp,hE5,hI⟩,?_⟩
  intro t6 _ _ t63 t62 t61 t60 t59 t58 t57 t56 t55 _ _ w'
  rintro ⟨j,p2,S6,kv,css,ts,hou,rfl,hj,hR,hwts,hp2,hE6,hI⟩
  have hcl:=hR.hc
  have hm:ts.length * dW d'<=3 * dW d':=Nat.mul_le_mul_right _ (by omega)
  refine di ?_
  refine bz (fun hj0=>?_) (fun hj0=>?_)
  ·obtain ⟨j',rfl⟩:∃ j',j=j'+1:=⟨j - 1,by omega⟩
   refine ⟨fun D zZ wJ xp wK wS u5 sy sJ tC w_=>(D 0=true->tC=.pointer (some ⟨b5,3,none⟩))/\(D 1=true->sJ=kv)/\(D 2=true->sy=rdP br)/\(D 3=true->u5=.int .i64 ((d'+1:Nat):Int))/\(D 4=true->wS=.int .i64 (d':Int))/\(D 5=true->True)/\(D 6=true->True)/\(D 7=true->True)/\(D 8=true->zZ=.pointer (some ⟨b5,3,none⟩))/\(D 9=true->True)/\∃ n_:Nat,n_<=4/\D 5=decide (1<=n_)/\D 6=decide (2<=n_)/\D 7=decide (3<=n_)/\D 9=decide (4<=n_)/\(D 9=true->D 1=true)/\(zL (Inv w [br] [.blk b5 (.cells #[.int .i64 3,.int .i64 0,.string s,kv] ab),bq kv ab 4 css,B4,rdI br sl p2] S6 w_) (zx w [br] b5 #[.int .i64 3,.int .i64 0,.string s,kv] 3 ab kv css (fun p=>[B4,rdI br sl p]) (fun cs p' S'=>∃ t,okU 26 t/\RdT S' cs t/\wT t+3<=dW d'/\p'+2<=p2+dW d'/\Ext w.heap.size [br] S6 S') wK xp wJ w_) n_),⟨ac,ac,ac,ac,ac,ac,ac,ac,ac,ac,⟨0,Nat.zero_le _,rfl,rfl,rfl,rfl,(ac),hI.draw⟩⟩,⟨?_,?_,?_,?_,?_,?_,?_,?_,?_,?_,trivial⟩,?_⟩
   all_goals (intro D bX; intros; rename_i zZ wJ xp wK wS u5 sy sJ tC w_ hA_; obtain ⟨ax,ay,az,aA,aF,aH,aE,aM,aN,aR,⟨n_,ln_,e1_,e2_,e3_,e4_,kp_,hS⟩⟩:=hA_)
   ·refine aI aK ?_
    exact ⟨fun _=>rfl,ay,az,aA,aF,aH,aE,aM,aN,aR,⟨n_,ln_,e1_,e2_,e3_,e4_,kp_,hS⟩⟩
   ·obtain rfl:=ax ‹_›
    have ln2_:=Mb e4_ kp_ bX
    refine dc aJ ((KG (fun h=>h.cellL (i:=0) rfl) (fun n hn h=>Ke h hn) hS ln2_).trans rfl) ?_
    exact ⟨ax,fun _=>rfl,az,aA,aF,aH,aE,aM,aN,aR,⟨n_,ln_,e1_,e2_,e3_,e4_,(fun _=>rfl),hS⟩⟩
   ·exact ⟨ax,ay,fun _=>rfl,aA,aF,aH,aE,aM,aN,aR,⟨n_,ln_,e1_,e2_,e3_,e4_,kp_,hS⟩⟩
   ·exact ⟨ax,ay,az,fun _=>rfl,aF,aH,aE,aM,aN,aR,⟨n_,ln_,e1_,e2_,e3_,e4_,kp_,hS⟩⟩
   ·obtain rfl:=aA ‹_›
    refine CB (by omega) ?_
    exact ⟨ax,ay,az,aA,fun _=>rfl,aH,aE,aM,aN,aR,⟨n_,ln_,e1_,e2_,e3_,e4_,kp_,hS⟩⟩
   ·obtain rfl:=az ‹_›
    obtain rfl:=aF ‹_›
    obtain rfl:n_=0:=vo e1_ bX
    refine Run.callL jz jA (L:=[.blk b5 _,bq _ ab 4 css,B4,rdI br sl p2]) hS (ih p2 S6 (hrd.monoU hE6.1) (by omega)) rfl fun v' I' S7 w_=>?_
    rintro ⟨p3,hp3,rfl,cs,t,rfl,hcs,hwt,hot⟩ hE7 hI
    exact ⟨ax,ay,az,aA,aF,fun _=>by first|assumption|trivial,aE,aM,aN,aR,⟨1,by decide,rfl,(by first|exact e2_|rfl),(by first|exact e3_|rfl),(by first|exact e4_|rfl),kp_,KU ⟨t,hot,hcs,hwt,hp3,hE7⟩ hcs hI⟩⟩
   ·have Kz:=aH ‹_›
    obtain rfl:n_=1:=gf e1_ ‹D 5=true› e2_ bX
    refine ap1 hS fun u w_ hS=>?_
    exact ⟨ax,ay,az,aA,aF,aH,fun _=>by first|assumption|trivial,aM,aN,aR,⟨2,by decide,(by first|exact e1_|rfl),rfl,(by first|exact e3_|rfl),(by first|exact e4_|rfl),kp_,hS⟩⟩
   ·obtain rfl:=ay ‹_›
    have JC:=aE ‹_›
    obtain rfl:n_=2:=gf e2_ ‹D 6=true› e3_ bX
    refine ap2 hS (by omega) fun u w_ hS=>?_
    exact ⟨ax,ay,az,aA,aF,aH,aE,fun _=>by first|assumption|trivial,aN,aR,⟨3,by decide,(by first|exact e1_|rfl),(by first|exact e2_|rfl),rfl,(by first|exact e4_|rfl),kp_,hS⟩⟩
   ·refine aI aK ?_
    exact ⟨ax,ay,az,aA,aF,aH,aE,aM,fun _=>rfl,aR,⟨n_,ln_,e1_,e2_,e3_,e4_,kp_,hS⟩⟩
   ·obtain rfl:=aN ‹_›
    have Gd:=aM ‹_›
    obtain rfl:n_=3:=gf e3_ ‹D 7=true› e4_ bX
    refine ap3 hS (by simp) fun w_ hS=>?_
    exact ⟨ax,ay,az,aA,aF,aH,aE,aM,aN,fun _=>trivial,⟨4,by decide,(by first|exact e1_|rfl),(by first|exact e2_|rfl),(by first|exact e3_|rfl),rfl,(fun _=>‹D 1=true›),hS⟩⟩
   obtain rfl:n_=4:=kq ln_ e4_ ‹D 9=true›
   clear e1_ e2_ e3_ e4_
   obtain ⟨p3,S7,cs,⟨t,hot,hcs,hwt,hp3,hE7⟩,hl,hI⟩:=hS
   refine CB (by omega) ?_
   refine ⟨⟨j',p3,S7,_,_,ts++[t],xg hou (by simp only [df]; exact ⟨hot,trivial⟩),rfl,by rw [List.length_append]; simp only [List.length_cons,List.length_nil]; omega,(hR.monoR fun _ _ h=>RdT.mono hE7.1 h).snoc hcs hl.1,?_,?_,hE6.trans hE7,hI⟩,by simp only [intOf,Int.toNat_natCast]; omega⟩
   ·rw [tK,List.length_append,List.length_cons,List.length_nil,Nat.add_mul]
    simp only [wL]
    omega
   ·rw [List.length_append,List.length_cons,List.length_nil,Nat.add_mul]
    omega
  ·have hI:Inv w [br] ([.blk b5 (.cells #[.int .i64 3,.int .i64 0,.string s,kv] ab),B4,rdI br sl p2]++[bq kv ab 4 css]) S6 w':=hI.last 1 rfl
   refine aL hI 0 ai rfl rfl ?_
   obtain ⟨S7,hE7,hrdr,hI⟩:=Inv.lendExt hI
   have hrs:=RowRd.rows (hR.monoR fun _ _ h=>RdT.mono hE7.1 h) hrdr
   obtain ⟨a,q,rfl,_⟩:=id hrs
   subst hB4
   refine aG hI 1 rfl ai rfl rfl (by simp [Value.oneCell']) fun w' hI=>?_
   refine bE hI 1 ai rfl rfl ?_
   refine ⟨_,_,S7,rfl,hI.pick [false,false,true],hE6.trans hE7,p2,?_,rfl,[.int .i64 3,.int .i64 0,.string s,_],.mk 3 0 s ts,rfl,RdT.iff.2 ⟨_,rfl,by simp [inI,T.kind],by simp [inI,T.n],by simp only [T.name,maxLen]; omega,hrs⟩,?_,Dz (by omega) hou⟩
   ·have:ts.length=0 ∨ ts.length=1 ∨ ts.length=2 ∨ ts.length=3:=by omega
    rcases this with h|h|h|h <;> rw [h] at hp2 hwts <;> omega
   ·simp only [wT]
    have:ts.length=0 ∨ ts.length=1 ∨ ts.length=2 ∨ ts.length=3:=by omega
    rcases this with h|h|h|h <;> rw [h] at hp2 hwts ⊢ <;> omega
theorem qs:∀ d:Nat,d<=4->Ha br sl ys d
 | 0,h=>AQ h fun d' e=>by omega
 | d+1,h=>AQ h fun d' e=>by
  obtain rfl:d'=d:=by omega
  exact qs _ (by omega)
abbrev NV (br:Nat) (sl:Value) (p k m:Nat):Value->List Item->al->Prop:=fun v I' S'=>∃ p',p'<=p+k/\I'=[rdI br sl p']/\∃ cs t,v=.agg cs.toArray/\RdT S' cs t/\wT t<=m
end
end Go.Proofs.YtfcbhfjomgopbaaGreat

/- spec.l1Mutate. -/
namespace Go.Proofs.YtfcbhfjomgopbaaGreat
open Go Go.RowKit
def D5 (w:World) (b o:Nat):Nat:=match w.cell? ⟨b,o,none⟩ with
 | some (.slice _ n _)=>n
 | _=>0
section
variable {w0 w:World} {X:List Nat} {L A:List Item} {S:al} {K:Value->World->Prop} {P:Program}
attribute [local irreducible] Run CondV ag aO
theorem EH (h:Inv w0 X L S w) {i b o:Nat} {c:Array Value} {E:TypeId} {a:Option Addr} {n m:Nat} (hi:L[i]?=some (.blk b (.cells c E))) (hc:c[o]?=some (.slice a n m)):D5 w b o=n:=by
 rw [D5,h.cellL hi,hc]
theorem qp {b:Nat} {k n:Int} {s:ByteArray} {kv:Value} {css:List (List Value)} {ks:List T} {o:Obj}
  (hI:Inv w0 X (.blk b o::bq kv ab 4 css::A) S w) (hR:Rows 4 (RdT S) css ks) (hk:inI k) (hn:inI n) (hs:s.size<=maxLen) :
  ∃ S',Ext w0.heap.size X S S'/\Inv w0 X (.blk b o::A) S' w/\RdT S' [.int .i64 k,.int .i64 n,.string s,kv] (.mk k n s ks)/\RdSl S' 4 (RdT S') kv ks:=by
 have hI:Inv w0 X ((.blk b o::A)++[bq kv ab 4 css]) S w:=hI.last 1 rfl
 obtain ⟨S',hE,hrd,hI⟩:=Inv.lendExt hI
 have hrs:=RowRd.rows (hR.monoR fun _ _ h=>RdT.mono hE.1 h) hrd
 exact ⟨S',hE,hI,RdT.iff.2 ⟨_,rfl,hk,hn,hs,hrs⟩,hrs⟩
end
section
variable {br:Nat} {sl:Value} {ys:List Nat}
attribute [local irreducible] Run CondV ag aO
theorem zm {p:Nat} {S:al} {cs:List Value} {t:T} (hrd:RdSl S 1 jd sl ys) (h:RdT S cs t) (hw:wT t<=100000) (hp:p<=100000000) :
  Tri Tryz.prog Di [rdP br,.agg cs.toArray] [rdI br sl p] S (NV br sl p 2 (wT t+100)):=by
 intro w hI
 have h0:=h
 obtain ⟨kv0,rfl,hk,hn,hs,hks⟩:=RdT.iff.1 h
 refine tq ?_
 unfold oD
 refine bS hI fun b3 w' hI=>?_
 refine bi hI bH fun b4 w' hI=>?_
 refine aL hI 1 ai rfl rfl ?_
 refine Run.call0E eK eH hI (Je t S _ h0 (by omega)) fun v' I' S1 w'=>?_
 rintro ⟨kv,css,rfl,rfl,hR⟩ hE1 hI
 have hE1:Ext w.heap.size [br] S S1:=hE1
 obtain ⟨a0,n0,q0,rfl⟩:=hI.rowSlice 3 rfl
 refine bi hI bH fun b5 w' hI=>?_
 refine aG hI 4 rfl ai rfl rfl (by simp [Value.oneCell']) fun w' hI=>?_
 obtain ⟨B4,hB4⟩:∃ B4,B4=Item.blk b4 (.cells #[.int .i64 0,.int .i64 0,.string ⟨#[]⟩,.slice none 0 0] ab):=⟨_,rfl⟩
 obtain ⟨k,hk'⟩:∃ k,k=t.kind:=⟨_,rfl⟩
 obtain ⟨n,hn'⟩:∃ n,n=t.n:=⟨_,rfl⟩
 obtain ⟨s,hs'⟩:∃ s,s=t.name:=⟨_,rfl⟩
 have hwt:wT t=s.size+t.kids.length+wL t.kids:=by rw [hs']; cases t; rw [wT]; rfl
 rw [<- hk',<- hn',<- hs'] at hI
 rw [<- hk'] at hk
 rw [<- hn'] at hn
 rw [<- hs'] at hs
 have hI:Inv w [br] [.blk b5 (.cells #[.int .i64 k,.int .i64 n,.string s,.slice a0 n0 q0] ab),bq (.slice a0 n0 q0) ab 4 css,B4,rdI br sl p] S1 w':=by
  rw [hB4]
  exact (((hI.pick [true,false,true,true,true]).last 2 rfl).last 1 rfl).last 0 rfl
 refine ⟨fun w'=>∃ (p1:Nat) (S2:al) (cs1:List Value) (t1:T),p1<=p+2/\Ext w.heap.size [br] S S2/\RdT S2 cs1 t1/\wT t1<=wT t+100/\Inv w [br] [.blk b5 (.cells cs1.toArray ab),B4,rdI br sl p1] S2 w',?_,?_⟩
 ·have hfin:∀ {k n:Int} {s1:ByteArray} {p1:Nat} {w':World} {S1:al} {css:List (List Value)} {kv:Value} {ks:List T},Ext w.heap.size [br] S S1->p1<=p+2->inI k->inI n->s1.size<=s.size+7->Rows 4 (RdT S1) css ks->ks.length<=t.kids.length+5->wL ks<=wL t.kids->
    Inv w [br] [.blk b5 (.cells #[.int .i64 k,.int .i64 n,.string s1,kv] ab),bq kv ab 4 css,B4,rdI br sl p1] S1 w'->
    ∃ (p1:Nat) (S2:al) (cs1:List Value) (t1:T),p1<=p+2/\Ext w.heap.size [br] S S2/\RdT S2 cs1 t1/\wT t1<=wT t+100/\Inv w [br] [.blk b5 (.cells cs1.toArray ab),B4,rdI br sl p1] S2 w':=by
   intro k n s1 p1 w' S1 css kv ks hE hp1 hk hn hs1 hR hkl hkw hI
   obtain ⟨S2,hE2,hI,hr,_⟩:=qp (s:=s1) hI hR hk hn (by simp only [maxLen]; omega)
   exact ⟨p1,S2,_,_,hp1,hE.trans hE2,hr,by rw [wT,hwt]; omega,hI⟩
  refine Run.callL ch ci hI (cW (n:=50) (hrd.monoU hE1.1) (by omega) (by omega)) rfl fun v' I' S1 w'=>?_
  rintro ⟨rfl,rfl,kk,hkk,rfl⟩ _ hI
  refine bP ?_
  refine bz (fun _=>?_) (fun _=>?_)
  ·refine tm hI (by kernel_rfl) rfl (by omega) fun v S3 w' hE3 hv hI=>?_
   refine Run.callL eC eA hI (iF (p:=p+1) (hrd.monoU (hE1.trans hE3).1) hv (by decide) (by omega)) rfl fun v' I' S3 w'=>?_
   rintro ⟨rfl,rfl,m,hm,rfl⟩ _ hI
   have hm:=r3 (a:=-1000) (b:=1000) hm (by decide)
   refine cM hI 0 rfl bC aY rfl rfl rfl fun w' hI=>?_
   exact hfin (hE1.trans hE3) (Nat.le_refl _) (by simp only [inI]; omega) hn (by omega) (hR.monoR fun _ _ h=>RdT.mono hE3.1 h) (by omega) (Nat.le_refl _) hI
  refine bP ?_
  refine bz (fun _=>?_) (fun _=>?_)
  ·refine tm hI (by kernel_rfl) rfl (by omega) fun v S3 w' hE3 hv hI=>?_
   refine Run.callL eC eA hI (iF (p:=p+1) (hrd.monoU (hE1.trans hE3).1) hv (by decide) (by omega)) rfl fun v' I' S3 w'=>?_
   rintro ⟨rfl,rfl,m,hm,rfl⟩ _ hI
   have hm:=r3 (a:=-1000) (b:=1000) hm (by decide)
   refine cM hI 0 rfl bF aY rfl rfl rfl fun w' hI=>?_
   exact hfin (hE1.trans hE3) (Nat.le_refl _) hk (by simp only [inI]; omega) (by omega) (hR.monoR fun _ _ h=>RdT.mono hE3.1 h) (by omega) (Nat.le_refl _) hI
  refine bP ?_
  refine bz (fun _=>?_) (fun _=>?_)
  ·refine fk hI (by kernel_rfl) rfl (by omega) fun v S3 w' hE3 hv hI=>?_
   refine Run.callL jG jH hI (xe (p:=p+1) (hrd.monoU (hE1.trans hE3).1) hv (by decide) (by omega)) rfl fun v' I' S3 w'=>?_
   rintro ⟨rfl,rfl,m,hm,rfl⟩ _ hI
   have hm:=CD (m:=7) hm (by decide)
   refine cM hI 0 rfl bB bn rfl rfl rfl fun w' hI=>?_
   exact hfin (hE1.trans hE3) (Nat.le_refl _) hk hn (by omega) (hR.monoR fun _ _ h=>RdT.mono hE3.1 h) (by omega) (Nat.le_refl _) hI
  refine bP ?_
  refine bz (fun _=>?_) (fun _=>?_)
  ·refine ⟨fun w'=>∃ (S2:al) (kv:Value) (css:List (List Value)) (ks:List T),Ext w.heap.size [br] S S2/\Rows 4 (RdT S2) css ks/\ks.length<=t.kids.length+5/\wL ks<=wL t.kids/\
     Inv w [br] [.blk b5 (.cells #[.int .i64 k,.int .i64 n,.string s,kv] ab),bq kv ab 4 css,B4,rdI br sl (p+1)] S2 w',fun w'=>5 - D5 w' b5 3,⟨S1,_,css,t.kids,hE1,hR,by omega,Nat.le_refl _,hI⟩,?_⟩
   intro t40 t39 t38 t37 t36 t35 _ _ _ _ w'
   rintro ⟨S2,kv,css,ks,hE2,hR,hkl,hkw,hI⟩
   obtain ⟨a1,n1,q1,rfl,hn1⟩:∃ a m c,kv=.slice a m c/\m=ks.length:=by
    obtain ⟨S',_,_,_,hr⟩:=qp hI hR hk hn hs
    obtain ⟨a,q,rfl,_⟩:=hr
    exact ⟨a,_,q,rfl,rfl⟩
   subst hn1
   have hl1:=EH hI (i:=0) (o:=3) rfl rfl
   have hcl:=hR.hc
   refine ao hI 0 rfl aK aJ rfl ?_
   refine eT aC ?_
   refine fi ?_
   refine bz (fun hle=>?_) (fun hle=>?_)
   ·have hI:=hI
    refine ⟨fun D tV jf iz ow jI kP w_=>(D 0=true->kP=.pointer (some ⟨b5,3,none⟩))/\(D 1=true->jI=.slice a1 ks.length q1)/\(D 2=true->True)/\(D 3=true->True)/\(D 4=true->True)/\(D 5=true->tV=.pointer (some ⟨b5,3,none⟩))/\(D 6=true->True)/\∃ n_:Nat,n_<=4/\D 2=decide (1<=n_)/\D 3=decide (2<=n_)/\D 4=decide (3<=n_)/\D 6=decide (4<=n_)/\(D 6=true->D 1=true)/\(zL (Inv w [br] [.blk b5 (.cells #[.int .i64 k,.int .i64 n,.string s,.slice a1 ks.length q1] ab),bq (.slice a1 ks.length q1) ab 4 css,B4,rdI br sl (p+1)] S2 w_) (zx w [br] b5 #[.int .i64 k,.int .i64 n,.string s,.slice a1 ks.length q1] 3 ab (.slice a1 ks.length q1) css (fun p=>[B4,rdI br sl (p+1)]) (fun cs p' S'=>p'=p/\S'=S2/\RdT S2 cs (.mk 2 1 emptyB [])) ow iz jf w_) n_),⟨ac,ac,ac,ac,ac,ac,ac,⟨0,Nat.zero_le _,rfl,rfl,rfl,rfl,(ac),hI.draw⟩⟩,⟨?_,?_,?_,?_,?_,?_,?_,trivial⟩,?_⟩
    all_goals (intro D bX; intros; rename_i tV jf iz ow jI kP w_ hA_; obtain ⟨ax,ay,az,aA,aF,aH,aE,⟨n_,ln_,e1_,e2_,e3_,e4_,kp_,hS⟩⟩:=hA_)
    ·refine aI aK ?_
     exact ⟨fun _=>rfl,ay,az,aA,aF,aH,aE,⟨n_,ln_,e1_,e2_,e3_,e4_,kp_,hS⟩⟩
    ·obtain rfl:=ax ‹_›
     have ln2_:=Mb e4_ kp_ bX
     refine dc aJ ((KG (fun h=>h.cellL (i:=0) rfl) (fun n hn h=>Ke h hn) hS ln2_).trans rfl) ?_
     exact ⟨ax,fun _=>rfl,az,aA,aF,aH,aE,⟨n_,ln_,e1_,e2_,e3_,e4_,(fun _=>rfl),hS⟩⟩
    ·obtain rfl:n_=0:=vo e1_ bX
     refine Run.callPure kQ k3 (L:=[.blk b5 _,bq _ ab 4 css,B4,rdI br sl (p+1)]) hS (gY 1 S2) fun w_ hI=>?_
     exact ⟨ax,ay,fun _=>by first|assumption|trivial,aA,aF,aH,aE,⟨1,by decide,rfl,(by first|exact e2_|rfl),(by first|exact e3_|rfl),(by first|exact e4_|rfl),kp_,KU ⟨rfl,rfl,np (by simp [inI]) (by simp [inI])⟩ (np (by simp [inI]) (by simp [inI])) hI⟩⟩
    ·have NH:=az ‹_›
     obtain rfl:n_=1:=gf e1_ ‹D 2=true› e2_ bX
     refine ap1 hS fun u w_ hS=>?_
     exact ⟨ax,ay,az,fun _=>by first|assumption|trivial,aF,aH,aE,⟨2,by decide,(by first|exact e1_|rfl),rfl,(by first|exact e3_|rfl),(by first|exact e4_|rfl),kp_,hS⟩⟩
    ·obtain rfl:=ay ‹_›
     have Gu:=aA ‹_›
     obtain rfl:n_=2:=gf e2_ ‹D 3=true› e3_ bX
     refine ap2 hS (by omega) fun u w_ hS=>?_
     exact ⟨ax,ay,az,aA,fun _=>by first|assumption|trivial,aH,aE,⟨3,by decide,(by first|exact e1_|rfl),(by first|exact e2_|rfl),rfl,(by first|exact e4_|rfl),kp_,hS⟩⟩
    ·refine aI aK ?_
     exact ⟨ax,ay,az,aA,aF,fun _=>rfl,aE,⟨n_,ln_,e1_,e2_,e3_,e4_,kp_,hS⟩⟩
    ·obtain rfl:=aH ‹_›
     have NP:=aF ‹_›
     obtain rfl:n_=3:=gf e3_ ‹D 4=true› e4_ bX
     refine ap3 hS (by simp) fun w_ hS=>?_
     exact ⟨ax,ay,az,aA,aF,aH,fun _=>trivial,⟨4,by decide,(by first|exact e1_|rfl),(by first|exact e2_|rfl),(by first|exact e3_|rfl),rfl,(fun _=>‹D 1=true›),hS⟩⟩
    obtain rfl:n_=4:=kq ln_ e4_ ‹D 6=true›
    clear e1_ e2_ e3_ e4_
    obtain ⟨p3,S7,cs,⟨rfl,rfl,hcs⟩,hl,hI⟩:=hS
    have hR2:=hR.snoc hcs hl.1
    refine ⟨⟨S7,_,_,_,hE2,hR2,by rw [List.length_append]; simp only [List.length_cons,List.length_nil]; omega,by rw [tK]; have e:emptyB.size=0:=rfl; simp only [wL,wT,List.length_nil,e]; omega,hI⟩,?_⟩
    obtain ⟨S',_,_,_,hr⟩:=qp hI hR2 hk hn hs
    obtain ⟨a,q,e,_⟩:=hr
    have hl2:=EH hI (i:=0) (o:=3) (a:=a) (n:=(ks++[T.mk 2 1 emptyB []]).length) (m:=q) rfl (by rw [<- e]; rfl)
    show 5 - D5 w_ b5 3<5 - D5 w' b5 3
    rw [hl1,hl2,List.length_append,List.length_cons,List.length_nil]
    omega
   ·exact hfin hE2 (by omega) hk hn (by omega) hR hkl hkw hI
  refine bP ?_
  refine bz (fun _=>?_) (fun _=>?_)
  ·obtain ⟨S2,hE2,hI,hr,_⟩:=qp hI hR hk hn hs
   have hI:Inv w [br] [.blk b5 (.cells #[.int .i64 k,.int .i64 n,.string s,.slice a0 n0 q0] ab),B4,rdI br sl (p+1)] S2 w':=hI
   have ht:T.mk k n s t.kids=t:=by rw [hk',hn',hs']; cases t; rfl
   rw [ht] at hr
   refine ⟨fun t6 w'=>∃ (j:Nat) (S3:al) (cs1:List Value) (t1:T),t6=.int .i64 (j:Int)/\j<=30/\Ext w.heap.size [br] S S3/\RdT S3 cs1 t1/\wT t1<=wT t+2 * j/\Inv w [br] [.blk b5 (.cells cs1.toArray ab),B4,rdI br sl (p+1)] S3 w',fun t6 _=>30 - (intOf t6).toNat,
    ⟨0,S2,_,t,rfl,by omega,hE1.trans hE2,hr,by omega,hI⟩,?_⟩
   intro t6 _ _ _ _ _ _ _ w'
   rintro ⟨j,S3,cs1,t1,rfl,hj,hE3,hr,hw1,hI⟩
   refine cg ?_
   refine bz (fun hj'=>?_) (fun hj'=>?_)
   ·refine aL hI 0 ai rfl (by simpa using hr.length) ?_
    refine dh hI bO (by simp [Value.cells,hr.length]) (by omega) (by omega) fun b8 w' hI=>?_
    obtain ⟨S4,hI,hE4,hS⟩:=hI.pub1
    refine Run.call0E dq dr hI (er ⟨#[115]⟩ (by decide) (Nr hS (hr.mono hE4.1)) (by simp)) fun v' I' S5 w'=>?_
    rintro ⟨rfl,cs2,rfl,hcs2⟩ hE5 hI
    have hI:Inv w [br] [.blk b5 (.cells cs1.toArray ab),B4,rdI br sl (p+1)] S5 w':=by simpa using hI
    refine aG hI 0 rfl ai (by simpa using hcs2.length) (by simpa using hr.length) (by simpa using hcs2.one) fun w' hI=>?_
    refine bT (by omega) ?_
    have e:(ByteArray.mk #[115]).size=1:=rfl
    exact ⟨⟨j+1,S5,cs2,_,rfl,by omega,hE3.trans (hE4.trans hE5),hcs2,by simp only [wT,wL,List.length_cons,List.length_nil,e]; omega,hI⟩,by simp only [intOf,Int.toNat_natCast]; omega⟩
   ·exact ⟨p+1,S3,cs1,t1,by omega,hE3,hr,by omega,hI⟩
  ·exact hfin hE1 (by omega) hk hn (by omega) hR (by omega) (Nat.le_refl _) hI
 intro _ _ _ _ _ _ _ _ _ _ _ _ _ _ _ _ _ _ _ _ _ _ _ _ _ _ _ _ _ _ _ _ _ _ _ _ _ _ _ _ _ _ w'
 rintro ⟨p1,S2,cs1,t1,hp1,hE2,hr,hw1,hI⟩
 subst hB4
 refine aL hI 0 ai rfl (by simpa using hr.length) ?_
 refine aG hI 1 rfl ai (by simpa using hr.length) rfl (by simpa using hr.one) fun w' hI=>?_
 refine bE hI 1 ai rfl (by simpa using hr.length) ?_
 exact ⟨_,_,S2,rfl,hI.pick [false,false,true],hE2,p1,hp1,rfl,cs1,t1,rfl,hr,hw1⟩
end
end Go.Proofs.YtfcbhfjomgopbaaGreat

/- spec.l4Mutate, l4MutateAll. -/
namespace Go.Proofs.YtfcbhfjomgopbaaGreat
open Go Go.RowKit
section
variable {w0 w:World} {X:List Nat} {L A:List Item} {S:al} {K:Value->World->Prop} {P:Program}
end
section
variable {br:Nat} {sl:Value} {ys:List Nat}
attribute [local irreducible] Run CondV ag aO
end
end Go.Proofs.YtfcbhfjomgopbaaGreat

/- spec.l4MutateAll, l4Texts, l4Program, l4Clause, l14Two. -/
namespace Go.Proofs.YtfcbhfjomgopbaaGreat
open Go Go.RowKit
def Light (n m:Nat) (q:List C):Prop:=q.length<=n/\∀ c∈q,wC c<=m
theorem Light.le {n m:Nat} {q:List C} (h:Light n m q):q.length+wP q<=n+n * m:=by
 have:∀ q:List C,(∀ c∈q,wC c<=m)->wP q<=q.length * m:=by
  intro q
  induction q with
  | nil=>intro _; simp [wP]
  | cons c q ih=>
   intro h
   have h1:=h c (List.mem_cons_self ..)
   have h2:=ih fun d hd=>h d (List.mem_cons_of_mem _ hd)
   simp only [wP,List.length_cons,Nat.succ_mul]
   omega
 have h1:=this q h.2
 have h2:q.length * m<=n * m:=Nat.mul_le_mul_right _ h.1
 have:=h.1
 omega
theorem Light.append {n n' m:Nat} {q q':List C} (h:Light n m q) (h':Light n' m q'):Light (n+n') m (q++q'):=
 ⟨by rw [List.length_append]; exact Nat.add_le_add h.1 h'.1,fun c hc=>(List.mem_append.1 hc).elim (h.2 c) (h'.2 c)⟩
/- a program that is still the caller's own row -/
section
variable {w0 w:World} {X:List Nat} {L A:List Item} {S:al}
theorem DR {v:Value} {css:List (List Value)} {q:List C} (hI:Inv w0 X (bq v bw 5 css::A) S w) (hR:Rows 5 (RdC S) css q) :
  ∃ S',Ext w0.heap.size X S S'/\Inv w0 X A S' w/\RdSl S' 5 (RdC S') v q:=by
 have hI:Inv w0 X (A++[bq v bw 5 css]) S w:=hI.last 0 rfl
 obtain ⟨S',hE,hrd,hI⟩:=Inv.lendExt hI
 exact ⟨S',hE,hI,RowRd.rows (hR.monoR fun _ _ h=>RdC.mono hE.1 h) hrd⟩
end
section
variable {br:Nat} {sl:Value} {ys:List Nat}
attribute [local irreducible] Run CondV ag aO
end
end Go.Proofs.YtfcbhfjomgopbaaGreat

/- spec.l4Texts, l4Program, l4Clause, l14Two. -/
namespace Go.Proofs.YtfcbhfjomgopbaaGreat
open Go Go.RowKit
def okS (s:ByteArray):Bool:=KT (bs s) && decide (s.size<=1000)
theorem Kr {s:ByteArray} (h:okS s=true):∃ q,Ik 60 (bs s)=some q/\0<q.length/\Light 8 200 q/\(∀ c∈q,dg c=true)/\s.size<=1000:=by
 rw [okS,Bool.and_eq_true,decide_eq_true_eq] at h
 obtain ⟨h,hs⟩:=h
 unfold KT at h
 split at h
 ·rename_i q hq
  simp only [Bool.and_eq_true,decide_eq_true_eq,List.all_eq_true] at h
  exact ⟨q,hq,h.1,⟨h.2.1,fun c hc=>(h.2.2 c hc).2⟩,fun c hc=>(h.2.2 c hc).1,hs⟩
 ·cases h
section
attribute [local irreducible] Run CondV ag aO
theorem Bm {S:al} {s:ByteArray} (h:okS s=true):Tri Tryz.prog kj [.string s] [] S fun v I' S'=>∃ u css q,v=.tuple #[u,.bool true]/\I'=[bq u bw 5 css]/\Rows 5 (RdC S') css q/\0<q.length/\Light 8 200 q/\∀ c∈q,dg c=true:=by
 obtain ⟨q,hq,h0,hl,hc,hs⟩:=Kr h
 intro w hI
 have hb:(bs s).length=s.size:=(iv (bs s)).symm
 refine (pt (f:=60) (by omega) hq (by rw [hb]; omega) w hI).mono ?_
 rintro e w' ⟨v,I',S',rfl,hI,hE,u,css,rfl,rfl,hR⟩
 exact ⟨_,_,S',rfl,hI,hE,u,css,q,rfl,rfl,hR,h0,hl,hc⟩
theorem om (S:al):Tri Tryz.prog E8 [] [] S fun v I' S'=>I'=[]/\∃ l,RdSl S' 1 j8 v l/\l.length=11/\l.all okS=true:=by
 intro w hI
 refine vB ?_
 unfold re
 refine fk hI (by kernel_rfl) rfl (by omega) fun v S1 w' hE1 hv hI=>?_
 exact ⟨_,[],S1,rfl,hI,hE1,rfl,_,hv,rfl,by decide +kernel⟩
variable {br:Nat} {sl:Value} {ys:List Nat}
end
end Go.Proofs.YtfcbhfjomgopbaaGreat

/- spec: walks, occurrence, unification. -/
namespace Go.Proofs.YtfcbhfjomgopbaaGreat
open Go Go.RowKit
/- bindings as a row of terms -/
def KnU (S:al) (c:Array Value) (st:bf):Prop:=st.length * 4<=c.size/\∀ i (h:i<st.length),(st[i]=none->bm c (i * 4) 4=jE)/\(∀ t,st[i]=some t->RdT S (bm c (i * 4) 4) t)
abbrev kvU (kb N kp:Nat):Value:=.slice (some ⟨kb,0,none⟩) N kp
theorem KnU.set {S:al} {c:Array Value} {st:bf} (h:KnU S c st) {n:Nat} (hn:n<st.length) {cs:List Value} {u:T} (hu:RdT S cs u):KnU S (bM c (n * 4) cs) (st.set n (some u)):=by
 have hlc:=hu.length
 have h1:=h.1
 have hs:st.length * 4<=(bM c (n * 4) cs).size:=by rw [fO _ _ _ (by omega)]; exact h1
 refine ⟨by rw [List.length_set]; exact hs,fun i hi=>?_⟩
 rw [List.length_set] at hi
 by_cases e:n=i
 ·subst e
  rw [List.getElem_set_self]
  refine ⟨fun h=>(by cases h),fun t ht=>?_⟩
  simp only [Option.some.injEq] at ht
  subst ht
  have:=fD (c:=c) (o:=n * 4) (vs:=cs) (by omega)
  rw [hlc] at this
  rw [this]
  exact hu
 ·rw [List.getElem_set_ne e,gr (by omega) (by omega)]
  exact h.2 i hi
theorem KnU.mono {S S':al} {c:Array Value} {st:bf} (h:KnU S c st) (hs:Sle S S'):KnU S' c st:=⟨h.1,fun i hi=>⟨(h.2 i hi).1,fun t ht=>((h.2 i hi).2 t ht).mono hs⟩⟩
def uN (b:Nat) (r:Nat->Nat) (st:bf) (w:World):Nat:=
 match w.heap[b]? with
 | some (Obj.cells c _ _)=>(match c[0]?,c[1]? with
  | some (Value.int _ k),some (Value.int _ n)=>if (look st (.mk k n emptyB [])).isSome=true then r n.toNat+1 else 0
  | _,_=>0)
 | _=>0
theorem qh {w0 w:World} {X:List Nat} {L:List Item} {S S0:al} {cs:List Value} {t:T} {E:TypeId} {b i:Nat} (hI:Inv w0 X L S w) (hi:L[i]?=some (.blk b (.cells cs.toArray E))) (h:RdT S0 cs t) (r:Nat->Nat) (st:bf) :
  uN b r st w=if (look st t).isSome=true then r t.n.toNat+1 else 0:=by
 obtain ⟨kv,rfl,_⟩:=RdT.iff.1 h
 have hb:w.heap[b]?=_:=hI.its _ (List.mem_of_getElem? hi)
 unfold uN
 rw [hb]
 obtain ⟨k,n,s,ks⟩:=t
 rfl
section
attribute [local irreducible] Run CondV ag aO
theorem rn {N:Nat} {st:bf} (hg:Good N st) {t v:T} (hw:dp st t v) (ht:okU N t) {S:al} {cs:List Value} {kb kp:Nat} {kc:Array Value} (h:RdT S cs t) (hk:KnU S kc st) :
  Tri Tryz.prog xR [.agg cs.toArray,kvU kb N kp] [.blk kb (.cells kc ab)] S fun r I' S'=>S'=S/\I'=[.blk kb (.cells kc ab)]/\∃ cs',r=.agg cs'.toArray/\RdT S cs' v:=by
 intro w hI
 obtain ⟨X,hX⟩:∃ X,X=bW [Item.blk kb (.cells kc ab)]:=⟨_,rfl⟩
 rw [<- hX] at hI ⊢
 have hlN:=hg.len
 obtain ⟨r,hr⟩:=hg.rk
 refine l5 ?_
 unfold mP;dsimp only
 refine bS hI fun b2 w' hI=>?_
 refine bi hI bH fun b4 w' hI=>?_
 have hI:Inv w X [.blk kb (.cells kc ab),.blk b2 (.cells cs.toArray ab),.blk b4 (.cells #[.int .i64 0,.int .i64 0,.string ⟨#[]⟩,.slice none 0 0] ab)] S w':=hI
 refine ⟨fun w'=>∃ (t':T) (cs':List Value),dp st t' v/\okU N t'/\RdT S cs' t'/\Inv w X [.blk kb (.cells kc ab),.blk b2 (.cells cs'.toArray ab),.blk b4 (.cells #[.int .i64 0,.int .i64 0,.string ⟨#[]⟩,.slice none 0 0] ab)] S w',
  fun w'=>uN b2 r st w',⟨t,cs,hw,ht,h,hI⟩,?_⟩
 intro _ _ _ _ _ _ _ _ _ _ _ _ _ _ _ _ _ _ _ _ _ _ _ _ w'
 rintro ⟨t',cs',hw',ht',hcs',hI⟩
 have hrank:=qh hI (i:=1) rfl hcs' r st
 have hcs0:=hcs'
 obtain ⟨kv,rfl,_⟩:=RdT.iff.1 hcs'
 refine ⟨fun q w'=>q=.bool (look st t').isSome/\Inv w X [.blk kb (.cells kc ab),.blk b2 (.cells #[.int .i64 t'.kind,.int .i64 t'.n,.string t'.name,kv] ab),.blk b4 (.cells #[.int .i64 0,.int .i64 0,.string ⟨#[]⟩,.slice none 0 0] ab)] S w',?_,?_⟩
 ·refine ao hI 1 rfl bC aY rfl ?_
  refine bP ?_
  by_cases hk1:t'.kind=1
  ·rw [decide_eq_true hk1]
   obtain ⟨hn0,hnN,_⟩:=ht'.var hk1
   obtain ⟨j,hj⟩:∃ j:Nat,t'.n=j:=⟨t'.n.toNat,by omega⟩
   have hjN:j<N:=by omega
   have hjs:j<st.length:=by omega
   repeat (first|refine ad ?_|refine af (by decide) ?_|refine ae ?_|refine ak ?_|refine aj ?_)
   refine ao hI 1 rfl bF aY rfl ?_
   refine eT aC ?_
   refine cg ?_
   rw [decide_eq_true hnN]
   repeat (first|refine ad ?_|refine af (by decide) ?_|refine ae ?_|refine ak ?_|refine aj ?_)
   refine ao hI 1 rfl bF aY rfl ?_
   rw [hj]
   refine be aC hjN ?_
   refine aI bC ?_
   rw [Nat.zero_add,Nat.add_zero]
   obtain ⟨hno,hso⟩:=hk.2 j hjs
   rw [hj] at hI
   have hlk:look st t'=st[j]:=by
    rw [look,if_pos hk1,hj,Int.toNat_natCast,List.getElem?_eq_getElem hjs]; rfl
   rw [hlk]
   cases hst2:st[j] with
   | none=>
    have hcell:=hno hst2
    refine aX hI 0 aY rfl (by have:=bh hcell 0 _ rfl; exact this) ?_
    refine dB ?_
    repeat (first|refine ad ?_|refine af (by decide) ?_|refine ae ?_|refine ak ?_|refine aj ?_)
    refine ⟨by simp,hI⟩
   | some t0=>
    have hR:=hso t0 hst2
    have hk0:t0.kind≠0:=(hg.ok t0 (by rw [<- hst2]; exact List.getElem_mem hjs)).kind
    obtain ⟨kv0',hcell,_,_,_,_⟩:=RdT.iff.1 hR
    refine aX hI 0 aY rfl (by have:=bh hcell 0 _ rfl; exact this) ?_
    refine dB ?_
    rw [decide_eq_false hk0]
    repeat (first|refine ad ?_|refine af (by decide) ?_|refine ae ?_|refine ak ?_|refine aj ?_)
    refine ⟨rfl,hI⟩
  ·rw [decide_eq_false hk1]
   repeat (first|refine ad ?_|refine af (by decide) ?_|refine ae ?_|refine ak ?_|refine aj ?_)
   refine ⟨?_,hI⟩
   rw [look,if_neg hk1]; rfl
 intro q _ _ _ _ _ _ _ _ _ _ _ _ _ _ _ _ _ _ w'
 rintro ⟨rfl,hI⟩
 refine aS (fun hb=>?_) (fun hb=>?_)
 ·obtain ⟨u,hl⟩:=Option.isSome_iff_exists.1 hb
  obtain ⟨hk1,hs⟩:=eY.1 hl
  obtain ⟨hn0,hnN,_⟩:=ht'.var hk1
  obtain ⟨j,hj⟩:∃ j:Nat,t'.n=j:=⟨t'.n.toNat,by omega⟩
  have hjN:j<N:=by omega
  have hjs:j<st.length:=by omega
  rw [hj,Int.toNat_natCast] at hs
  have hst2:st[j]=some u:=by rw [List.getElem?_eq_getElem hjs,Option.some.injEq] at hs; exact hs
  have hR:=(hk.2 j hjs).2 u hst2
  have hwu:dp st u v:=by
   cases hw' with
   | stop h0=>rw [hl] at h0; cases h0
   | step h1 h2=>rw [hl,Option.some.injEq] at h1; rw [h1]; exact h2
  have hu:=(hg.look_ok hl).1
  refine ao hI 1 rfl bF aY rfl ?_
  rw [hj]
  refine be aC hjN ?_
  rw [Nat.zero_add]
  refine cN hI 0 (bm kc (j * 4) 4) ai rfl hR.length (fun i v hi=>bh rfl i v hi) ?_
  refine aG hI 1 rfl ai (by simpa using hR.length) rfl (by simpa using hR.one) fun w' hI=>?_
  have hI:Inv w X [.blk kb (.cells kc ab),.blk b2 (.cells (bm kc (j * 4) 4).toArray ab),.blk b4 (.cells #[.int .i64 0,.int .i64 0,.string ⟨#[]⟩,.slice none 0 0] ab)] S w':=hI
  refine ⟨⟨u,_,hwu,hu,hR,hI⟩,?_⟩
  have hrank2:=qh hI (i:=1) rfl hR r st
  show uN b2 r st w'<uN b2 r st _
  rw [hrank,hrank2,if_pos hb,hj,Int.toNat_natCast]
  split
  ·rename_i hl2
   obtain ⟨u2,hl2⟩:=Option.isSome_iff_exists.1 hl2
   have:=hr j u hs u.n.toNat (by rw [ye (eY.1 hl2).1]; exact List.mem_singleton.2 rfl)
   omega
  ·omega
 ·have hv:v=t':=by
   cases hw' with
   | stop _=>rfl
   | step h1 _=>rw [h1] at hb; cases hb
  subst hv
  refine aL hI 1 ai rfl rfl ?_
  refine aG hI 2 rfl ai rfl rfl (by simpa using hcs0.one) fun w' hI=>?_
  refine bE hI 2 ai rfl rfl ?_
  exact ⟨_,_,_,rfl,hI.pick [true,false,false],Ext.refl _ _ _,rfl,rfl,_,rfl,hcs0⟩
end
/- the variables of a term in a list of numbers -/
theorem JP (l:List Int) (n x:Int):x∈vS l n↔x∈l ∨ x=n:=by
 unfold vS
 split
 ·rename_i h
  rw [Ei] at h
  constructor
  ·exact .inl
  ·rintro (h1|rfl)
   ·exact h1
   ·exact h
 ·simp
mutual
theorem i9 {N:Nat}:∀ (t:T) (l:List Int),okU N t->∀ x,x∈eD t l↔x∈l ∨ ∃ m∈vT t,x=(m:Int)
 | .mk k n s ks,l,h,x=>by
  rw [okU] at h
  rw [eD,vT]
  by_cases hk:k=1
  ·rw [if_pos hk,if_pos hk,JP]
   have:=(h.2.1 hk).1
   constructor
   ·rintro (h1|h1)
    ·exact .inl h1
    ·exact .inr ⟨n.toNat,List.mem_singleton.2 rfl,by omega⟩
   ·rintro (h1|⟨m,hm,e⟩)
    ·exact .inl h1
    ·rw [List.mem_singleton] at hm
     exact .inr (by omega)
  ·rw [if_neg hk,if_neg hk]
   exact pA ks l h.2.2.1 x
theorem pA {N:Nat}:∀ (ts:List T) (l:List Int),df N ts->∀ x,x∈cI ts l↔x∈l ∨ ∃ m∈vTL ts,x=(m:Int)
 | [],l,_,x=>by simp [cI,vTL]
 | t::ts,l,h,x=>by
  rw [df] at h
  rw [cI,vTL,pA ts _ h.2,i9 t l h.1]
  simp only [List.mem_append]
  constructor
  ·rintro ((h|⟨m,h,e⟩)|⟨m,h,e⟩)
   ·exact .inl h
   ·exact .inr ⟨m,.inl h,e⟩
   ·exact .inr ⟨m,.inr h,e⟩
  ·rintro (h|⟨m,h|h,e⟩)
   ·exact .inl (.inl h)
   ·exact .inl (.inr ⟨m,h,e⟩)
   ·exact .inr ⟨m,h,e⟩
end
mutual
theorem tb:∀ (t:T) (l:List Int),l.Nodup->(eD t l).Nodup
 | .mk k n s ks,l,h=>by
  rw [eD]
  split
  ·exact Ht n h
  ·exact AZ ks l h
theorem AZ:∀ (ts:List T) (l:List Int),l.Nodup->(cI ts l).Nodup
 | [],l,h=>by rw [cI]; exact h
 | t::ts,l,h=>by rw [cI]; exact AZ ts _ (tb t l h)
end
theorem Kf (l:List Int) (n:Int):l <+: vS l n:=by
 unfold vS
 split
 ·exact List.prefix_refl _
 ·exact List.prefix_append _ _
mutual
theorem zg:∀ (t:T) (l:List Int),l <+: eD t l
 | .mk k n s ks,l=>by
  rw [eD]
  split
  ·exact Kf l n
  ·exact xd ks l
theorem xd:∀ (ts:List T) (l:List Int),l <+: cI ts l
 | [],l=>by rw [cI]; exact List.prefix_refl _
 | t::ts,l=>by
  rw [cI]
  exact (zg t l).trans (xd ts _)
end
theorem DS (t:T):dw t<=1+(wT t:Int):=by
 have:=Dn [t]
 simp only [cU,wL,List.length_cons,List.length_nil] at this
 omega
theorem LV:∀ (N:Nat) (l:List Int),l.Nodup->(∀ x∈l,0<=x/\x<N)->l.length<=N:=by
 intro N l hd h
 have hsub:∀ x∈l,x∈(List.range N).map (fun i:Nat=>(i:Int)):=fun x hx=>by
  obtain ⟨h1,h2⟩:=h x hx
  exact List.mem_map.2 ⟨x.toNat,List.mem_range.2 (by omega),by omega⟩
 have:=List.Nodup.length_le_of_subset hd hsub
 simpa using this
section
attribute [local irreducible] Run CondV ag aO
open Classical in
theorem xP {N:Nat} (hN:N<=1000000) {st:bf} (hg:Good N st) {t:T} (ht:okU N t) (hwt:wT t<=1048576) (n:Int) (hn0:0<=n) {S:al} {cs:List Value} {kb kp:Nat} {kc:Array Value} (h:RdT S cs t) (hk:KnU S kc st) :
  Tri Tryz.prog DF [.int .i64 n,.agg cs.toArray,kvU kb N kp] [.blk kb (.cells kc ab)] S fun r I' S'=>S'=S/\I'=[.blk kb (.cells kc ab)]/\r=.bool (decide (kl st n.toNat t)):=by
 intro w hI
 obtain ⟨X,hX⟩:∃ X,X=bW [Item.blk kb (.cells kc ab)]:=⟨_,rfl⟩
 rw [<- hX] at hI ⊢
 have hlN:=hg.len
 have hlc:=h.length
 have hct:=DS t
 refine s8 ?_
 unfold oU
 refine bS hI fun b4 w' hI=>?_
 have hI:Inv w X [.blk kb (.cells kc ab),.blk b4 (.cells cs.toArray ab)] S w':=hI
 refine aL hI 1 ai rfl (by simpa using hlc) ?_
 have hI:Inv w X [.blk kb (.cells kc ab)] S w':=hI.pick [true,false]
 have hI:=hI.rowNil eW 1
 refine Run.call (A:=[_]) ie g9 hI (ip t S cs (.slice none 0 0) [] h (by simp only [List.length_nil]; omega)) fun v' I' S' w'=>?_
 rintro ⟨rfl,eS⟩ _ hI
 rw [eS] at hI
 clear eS
 refine ⟨fun i t7 w'=>∃ (j:Nat) (ws:List Int),i=.int .i64 j/\j<=ws.length/\ws.Nodup/\(∀ x∈ws,0<=x/\x<N)/\(∀ x∈ws,∃ m∈vT t,Rch st m x.toNat)/\(∀ m∈vT t,(m:Int)∈ws)/\
   (∀ k (hk:k<ws.length),k<j->ws[k]≠n/\∀ u,st[ws[k].toNat]?=some (some u)->∀ m∈vT u,(m:Int)∈ws)/\Inv w X [.blk kb (.cells kc ab),ge t7 ws] S w',
  fun i _ _=>N - (intOf i).toNat,⟨0,_,rfl,Nat.zero_le _,tb t [] List.nodup_nil,fun x hx=>?_,fun x hx=>?_,fun m hm=>?_,fun k _ hk0=>absurd hk0 (by omega),hI⟩,?_⟩
 ·rcases (i9 t [] ht x).1 hx with hx|⟨m,hm,rfl⟩
  ·cases hx
  ·have:=Kh t ht m hm
   omega
 ·rcases (i9 t [] ht x).1 hx with hx|⟨m,hm,rfl⟩
  ·cases hx
  ·exact ⟨m,hm,by rw [Int.toNat_natCast]; exact .refl m⟩
 ·exact (i9 t [] ht _).2 (.inr ⟨m,hm,rfl⟩)
 intro t8 _ _ t7 _ _ _ _ _ _ _ _ _ _ _ _ _ _ _ _ _ _ _ _ _ _ _ _ _ _ _ _ _ _ _ _ _ _ _ _ _ _ w'
 rintro ⟨j,ws,rfl,hj,hnd,hrng,hreach,hroot,hdone,hI⟩
 have hwl:=LV N ws hnd hrng
 obtain ⟨S1,hle,hrd,hI1,hback⟩:=Inv.lend (A:=[_]) hI
 have hrd:=hrd.ints
 refine bp hrd cX ?_
 refine cg ?_
 refine bz (fun hji=>?_) (fun hji=>?_)
 ·have hj':j<ws.length:=by omega
  obtain ⟨hx0,hxN⟩:=hrng _ (List.getElem_mem hj')
  obtain ⟨x,hx⟩:∃ x:Nat,ws[j]=x:=⟨ws[j].toNat,by omega⟩
  have hxs:x<st.length:=by omega
  refine ⟨fun t7' w'=>∃ ws':List Int,ws'.Nodup/\(∀ x∈ws',0<=x/\x<N)/\(∀ x∈ws',∃ m∈vT t,Rch st m x.toNat)/\(∀ y∈ws,y∈ws')/\ws <+: ws'/\
   ws[j]≠n/\(∀ u,st[x]?=some (some u)->∀ m∈vT u,(m:Int)∈ws')/\Inv w X [.blk kb (.cells kc ab),ge t7' ws'] S w',?_,?_⟩
  ·refine fg hI1 hrd cX aY hj' (fun cs hcs=>hcs) ?_
   refine bP ?_
   refine bz (fun he=>?_) (fun he=>?_)
   ·have hocc:kl st n.toNat t:=by
     obtain ⟨m,hm,hr⟩:=hreach _ (List.getElem_mem hj')
     rw [he] at hr
     exact ⟨m,hm,hr⟩
    have hI:=hback _ _ hI1
    refine ⟨_,_,_,rfl,hI.pick [true,false],Ext.refl _ _ _,rfl,rfl,?_⟩
    rw [decide_eq_true hocc]
   ·refine ⟨fun q w'=>q=.bool (decide (∃ u,st[x]?=some (some u)))/\Inv w X [.blk kb (.cells kc ab)] S1 w',?_,?_⟩
    ·refine fg hI1 hrd cX aY hj' (fun cs hcs=>hcs) ?_
     refine eT aC ?_
     refine cg ?_
     rw [decide_eq_true hxN]
     repeat (first|refine ad ?_|refine af (by decide) ?_|refine ae ?_|refine ak ?_|refine aj ?_)
     refine fg hI1 hrd cX aY hj' (fun cs hcs=>hcs) ?_
     rw [hx]
     refine be aC (by omega) ?_
     refine aI bC ?_
     rw [Nat.zero_add,Nat.add_zero]
     obtain ⟨hno,hso⟩:=hk.2 x hxs
     cases hst2:st[x] with
     | none=>
      have hcell:=hno hst2
      refine aX hI1 0 aY rfl (by have:=bh hcell 0 _ rfl; exact this) ?_
      refine dB ?_
      repeat (first|refine ad ?_|refine af (by decide) ?_|refine ae ?_|refine ak ?_|refine aj ?_)
      refine ⟨?_,hI1⟩
      rw [decide_eq_false (show ¬ ∃ u,st[x]?=some (some u) from fun ⟨u,hu⟩=>by rw [List.getElem?_eq_getElem hxs,hst2] at hu; cases hu)]
      simp
     | some t0=>
      have hR:=hso t0 hst2
      have hk0:t0.kind≠0:=(hg.ok t0 (by rw [<- hst2]; exact List.getElem_mem hxs)).kind
      obtain ⟨kv0',hcell,_,_,_,_⟩:=RdT.iff.1 hR
      refine aX hI1 0 aY rfl (by have:=bh hcell 0 _ rfl; exact this) ?_
      refine dB ?_
      rw [decide_eq_false hk0]
      repeat (first|refine ad ?_|refine af (by decide) ?_|refine ae ?_|refine ak ?_|refine aj ?_)
      refine ⟨?_,hI1⟩
      rw [decide_eq_true (show ∃ u,st[x]?=some (some u) from ⟨t0,by rw [List.getElem?_eq_getElem hxs,hst2]⟩)]
      rfl
    intro q _ _ _ _ _ _ _ _ _ _ _ _ _ _ _ _ _ w'
    rintro ⟨rfl,hI1⟩
    refine bz (fun hq=>?_) (fun hq=>?_)
    ·obtain ⟨u,hu⟩:=hq
     have hst2:st[x]=some u:=by rw [List.getElem?_eq_getElem hxs,Option.some.injEq] at hu; exact hu
     have hR:=(hk.2 x hxs).2 u hst2
     have hum:=List.mem_of_getElem? hu
     have hou:=hg.ok u hum
     have hwu:=hg.w u hum
     have hcu:=DS u
     refine fg hI1 hrd cX aY hj' (fun cs hcs=>hcs) ?_
     rw [hx]
     refine be aC (by omega) ?_
     rw [Nat.zero_add]
     refine cN hI1 0 (bm kc (x * 4) 4) ai rfl hR.length (fun i v hi=>bh rfl i v hi) ?_
     have hI:=hback _ _ hI1
     refine Run.call (A:=[_]) ie g9 hI (ip u S _ t7 ws hR (by omega)) fun v' I' S' w'=>?_
     rintro ⟨rfl,eS⟩ _ hI
     rw [eS] at hI
     clear eS
     have hmem:=i9 u ws hou
     refine ⟨_,tb u ws hnd,fun y hy=>?_,fun y hy=>?_,fun y hy=>(hmem y).2 (.inl hy),zg u ws,by rw [<- hx]; exact he,fun u' hu' m hm=>?_,hI⟩
     ·rcases (hmem y).1 hy with hy|⟨m,hm,rfl⟩
      ·exact hrng y hy
      ·have:=Kh u hou m hm
       omega
     ·rcases (hmem y).1 hy with hy|⟨m,hm,rfl⟩
      ·exact hreach y hy
      ·obtain ⟨m0,hm0,hr0⟩:=hreach _ (List.getElem_mem hj')
       rw [hx,Int.toNat_natCast] at hr0
       exact ⟨m0,hm0,hr0.trans (.step hu hm (by rw [Int.toNat_natCast]; exact .refl m))⟩
     ·rw [hu,Option.some.injEq,Option.some.injEq] at hu'
      subst hu'
      exact (hmem _).2 (.inr ⟨m,hm,rfl⟩)
    ·have hI:=hback _ _ hI1
     exact ⟨ws,hnd,hrng,hreach,fun y hy=>hy,List.prefix_refl _,he,fun u hu=>absurd ⟨u,hu⟩ hq,hI⟩
  intro t7' _ _ _ _ _ _ _ _ _ _ _ _ _ _ _ _ _ _ _ _ _ _ _ _ _ _ _ _ _ _ _ _ _ _ w'
  rintro ⟨ws',hnd',hrng',hreach',hsub,hpf,hne,hcl,hI⟩
  have hl':=hpf.length_le
  have hpre:∀ k (hk:k<ws.length),ws'[k]'(by omega)=ws[k]:=fun k hk=>(hpf.getElem hk).symm
  refine bT (by omega) ?_
  refine ⟨⟨j+1,ws',rfl,by omega,hnd',hrng',hreach',fun m hm=>hsub _ (hroot m hm),fun k hk' hkj=>?_,hI⟩,by simp [intOf]; omega⟩
  by_cases e:k=j
  ·subst e
   have e1:=hpre k hj'
   rw [e1]
   refine ⟨hne,fun u hu=>?_⟩
   rw [hx,Int.toNat_natCast] at hu
   exact hcl u hu
  ·have hkl:k<ws.length:=by omega
   rw [hpre k hkl]
   obtain ⟨h1,h2⟩:=hdone k hkl (by omega)
   exact ⟨h1,fun u hu m hm=>hsub _ (h2 u hu m hm)⟩
 ·have hj2:j=ws.length:=by omega
  have hno:¬ kl st n.toNat t:=by
   rintro ⟨m,hm,hr⟩
   have key:∀ a c,Rch st a c->(a:Int)∈ws->(c:Int)∈ws:=by
    intro a c hac
    induction hac with
    | refl=>exact id
    | step h1 h2 _ ih=>
     intro ha
     obtain ⟨k,hk,e⟩:=List.mem_iff_getElem.1 ha
     refine ih ((hdone k hk (by omega)).2 _ ?_ _ h2)
     rw [e,Int.toNat_natCast]
     exact h1
   have h1:=key m _ hr (hroot m hm)
   obtain ⟨k,hk,e⟩:=List.mem_iff_getElem.1 h1
   exact (hdone k hk (by omega)).1 (by rw [e]; omega)
  have hI:=hback _ _ hI1
  refine ⟨_,_,_,rfl,hI.pick [true,false],Ext.refl _ _ _,rfl,rfl,?_⟩
  rw [decide_eq_false hno]
end

end Go.Proofs.YtfcbhfjomgopbaaGreat
