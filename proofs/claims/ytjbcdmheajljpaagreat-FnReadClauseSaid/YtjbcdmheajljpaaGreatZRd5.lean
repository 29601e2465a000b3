/- Maps from numbers to terms. -/
import Derived.Test.YtjbcdmheajljpaaGreatZRdA
import Derived.Test.YtjbcdmheajljpaaGreatZRd4
namespace Go.Proofs.YtjbcdmheajljpaaGreat
attribute [local irreducible] Run CondV aI bg
section
open Go Go.RowKit

theorem oi {n:Int}:∀ (l:List MapEntry) (i:Nat),(∀ e∈l,∃ m,e.key=ee m)->
  (∃ j,∃ e∈l,e.key=ee n/\Instr.findNow (.int .i64) (ee n) l i=some (some (j,e.val))) ∨ ((∀ e∈l,e.key≠.int .i64 n)/\Instr.findNow (.int .i64) (ee n) l i=some none)
 | [],i,_=>.inr ⟨by simp,rfl⟩
 | e::l,i,h=>by
  obtain ⟨m,p⟩:=h e (bF ..);have q:Instr.sameNow (.int .i64) (ee n) e.key=some (n == m):=by rw [p];rfl
  by_cases a:n=m
  ·refine .inl ⟨i,e,bF ..,by rw [p,a],?_⟩;have:(n == m)=true:=by simpa using a
   rw [Instr.findNow,q,this]
  ·have t:(n == m)=false:=by simpa using a
   rcases oi l (i+1) (fun e B=>h e (bI _ B)) with ⟨j,g,r,hk,hf⟩|⟨hk,hf⟩
   ·exact .inl ⟨j,g,bI _ r,hk,by rw [Instr.findNow,q,t];exact hf⟩
   ·refine .inr ⟨fun x o=>?_,by rw [Instr.findNow,q,t];exact hf⟩;rcases dK.1 o with rfl|o
    ·rw [p];intro g;simp only [Value.int.injEq,v6] at g;exact a g.symm
    ·exact hk x o
section
variable {P:Program} {w w0:World} {X:List Nat} {L:List Item} {S:ai} {K:Value->World->Prop}
theorem i0 {g:TypeId} {d:TypeDesc} {k:Value} {l:List MapEntry} {a:Option (Nat × Value)} (i:P.underlying g=some d) (h:Instr.findNow d k l 0=some a):(Instr.findKey g k l).run P w=.ok a w:=by
 simp [Instr.findKey,run_underlying i,Result.andThen,h]
theorem pp (h:Inv w0 X L S w) {T ty:TypeId} (hk:∀ b w',Inv w0 X (L++[.blk b (.map #[] 0)]) S w'->K (.map (some b)) w'):Run P (sOp (.makeMap T none) ty) w K:=by
 refine Run.of (v:=.map (some w.heap.size)) (w':={ w with heap:=w.heap.push (.map #[] 0) }) ?_ (hk _ _ (h.alloc _));simp [sOp,execOp,Instr.makeMap,newObj,Sem.run]
theorem Gs (h:Inv w0 X L S w) {T B p ty:TypeId} {b a:Nat} {q:Array MapEntry} {n:Int} {z v:Value} {ok:Bool} (i:Nat) (J:P.underlying T=some (.map B p)) (m:P.underlying B=some (.int .i64))
  (r:gZ P p=some z) (N:L[i]?=some (.blk b (.map q a)))
  (hf:(∃ j,Instr.findNow (.int .i64) (ee n) q.toList 0=some (some (j,v))/\ok=true) ∨ (Instr.findNow (.int .i64) (ee n) q.toList 0=some none/\v=z/\ok=false))
  (hk:K (.tuple #[v,.bool ok]) w):Run P (sOp (.lookup T (.const (.map (some b))) (.const (ee n)) true) ty) w K:=by
 have O:w.heap[b]?=some (.map q a):=h.its _ (f0 N);have t:∀ e,(Instr.checkKey e 10000 B (ee n)).run P w=.ok () w:=fun e=>by
  rw [show (10000:Nat)=9999+1 from rfl,Instr.checkKey];simp [run_underlying m]
 obtain ⟨g,C,D⟩:∃ g,P.info? p=some g/\g.zero=some z:=by
  unfold gZ at r;cases l:P.info? p with
  | none=>rw [l] at r;simp at r
  | some g=>rw [l] at r;exact ⟨g,rfl,by simpa using r⟩
 have G:(zeroValue p).run P w=.ok z w:=by simp [zeroValue,typeInfo,C,D]
 refine Run.of ?_ hk;have M:(getObj b).run P w=.ok (.map q a) w:=by simp [getObj,Sem.run,O]
 rcases hf with ⟨j,hf,rfl⟩|⟨hf,rfl,rfl⟩
 ·have o:=i0 (P:=P) (w:=w) m hf;simp [sOp,execOp,ev0,evE,Instr.lookup,run_underlying J,M,t,o]
 ·have o:=i0 (P:=P) (w:=w) m hf;simp [sOp,execOp,ev0,evE,Instr.lookup,run_underlying J,M,t,o,G]
theorem pA (h:Inv w0 X L S w) {T l t ty:TypeId} {b a:Nat} {g:Array MapEntry} {n:Int} {v:Value} (i:Nat) (B:P.underlying T=some (.map l t)) (j:P.underlying l=some (.int .i64))
  (q:L[i]?=some (.blk b (.map g a))) (hf:Instr.findNow (.int .i64) (ee n) g.toList 0=some none)
  (hk:∀ w',Inv w0 X (L.set i (.blk b (.map (g.push { key:=ee n,val:=v,born:=a }) (a+1)))) S w'->K undef w') :
  Run P (sOp (.mapUpdate T (.const (.map (some b))) (.const (ee n)) (.const v)) ty) w K:=by
 have r:w.heap[b]?=some (.map g a):=h.its _ (f0 q);have m:∀ e,(Instr.checkKey e 10000 l (ee n)).run P w=.ok () w:=fun e=>by
  rw [show (10000:Nat)=9999+1 from rfl,Instr.checkKey];simp [run_underlying j]
 have C:(getObj b).run P w=.ok (.map g a) w:=by simp [getObj,Sem.run,r]
 have o:=i0 (P:=P) (w:=w) j hf;refine Run.ofSkip (w':={ w with heap:=w.heap.setIfInBounds b (.map (g.push { key:=ee n,val:=v,born:=a }) (a+1)) }) ?_ (hk _ (h.setBlk q _ rfl));have p:(setObj b (.map (g.push { key:=ee n,val:=v,born:=a }) (a+1))).run P w=.ok () { w with heap:=w.heap.setIfInBounds b (.map (g.push { key:=ee n,val:=v,born:=a }) (a+1)) }:=by simp [setObj,Sem.run,r]
 simp [sOp,execOp,ev0,evE,Instr.mapUpdate,run_underlying B,C,m,o,p]
end
end
section
open Go Go.RowKit

abbrev bb:=List (Option T)
mutual
def okV:T->Prop
 | .mk k n _ ks=>(k=1->0<=n/\n<=25)/\C5 ks
def C5:List T->Prop
 | []=>True
 | t::ts=>okV t/\C5 ts
end
mutual
def okK:T->Prop
 | .mk k _ _ ks=>k≠0/\JV ks
def JV:List T->Prop
 | []=>True
 | t::ts=>okK t/\JV ts
end
theorem VN {t:T} (h:fR t=true):(t.kind=1->0<=t.n/\t.n<=25)/\t.kind≠0:=by
 unfold fR at h;refine ⟨fun hk=>?_,fun hk=>?_⟩
 ·rw [ag hk] at h;simp only [bQ,bK] at h;exact ⟨h.1,h.2.1⟩
 ·rw [ae (by omega),ae (by omega),ae (by omega)] at h;cases h
mutual
theorem MI:∀ (t:T) (d:Int),dC t d=true->okV t/\okK t
 | .mk k n s ks,d,h=>by
  rw [dC] at h;split at h
  ·cases h
  ·simp only [bQ] at h;obtain ⟨a,g⟩:=h;obtain ⟨i,j⟩:=HN ks (d - 1) g;rw [okV,okK];obtain ⟨l,m⟩:=VN a;exact ⟨⟨l,i⟩,⟨m,j⟩⟩
theorem HN:∀ (ts:List T) (d:Int),de ts d=true->C5 ts/\JV ts
 | [],d,h=>by simp [C5,JV]
 | t::ts,d,h=>by
  rw [de,bQ] at h;obtain ⟨a,g⟩:=MI t d h.1;obtain ⟨i,j⟩:=HN ts d h.2;rw [C5,JV];exact ⟨⟨a,i⟩,⟨g,j⟩⟩
end
theorem N2 {t:T} (h:bY t=true):okV t/\okK t:=by
 rw [bY,bQ] at h;exact MI t 30 h.1
def QP:List Value:=[ee 0,ee 0,.string ⟨#[]⟩,nx]
def KnownC (S:ai) (c:Array Value) (st:bb):Prop:=104<=c.size/\∀ i (h:i<st.length),(st[i]=none->bJ c (i * 4) 4=QP)/\(∀ t,st[i]=some t->RdT S (bJ c (i * 4) 4) t)
theorem KnownC.set {S:ai} {c:Array Value} {st:bb} (h:KnownC S c st) {n:Nat} (hn:n<26) {cs:nA} {u:T} (g:RdT S cs u):KnownC S (cu c (n * 4) cs) (st.set n (some u)):=by
 have a:=g.length;have m:=h.1;have p:104<=(cu c (n * 4) cs).size:=by rw [gw _ _ _ (by omega)];exact m
 refine ⟨p,fun i j=>?_⟩;rw [jj] at j;by_cases e:n=i
 ·subst e;rw [LF];refine ⟨fun h=>(by cases h),fun t l=>?_⟩;simp only [bj] at l;subst l;have:=gE (c:=c) (o:=n * 4) (vs:=cs) (by omega);rw [a] at this;rw [this];exact g
 ·rw [Rj e,iF (by omega) (by omega)];exact h.2 i j
section
abbrev kvn (kb kp:Nat):Value:=kt kb 0 26 kp
abbrev kv0 (kb:Nat):Value:=kvn kb 26
end
end
section
open Go Go.RowKit

def ly:List Int->Int->Int->Nat->Int
 | [],_,cur,_=>cur
 | x::xs,n,cur,k=>ly xs n (if x=n then (k:Int) else cur) (k+1)
def pE (vs:List Int) (n:Int):Int:=(dZ (σ:=Unit) (fun _ x=>(decide (n=x),())) () vs 0).1
mutual
def dE (vs:List Int):T->T
 | .mk k n s ks=>.mk k (if k=1 then ly vs n n 0 else n) s (dP vs ks)
def dP (vs:List Int):List T->List T
 | []=>[]
 | t::ts=>dE vs t::dP vs ts
end
mutual
def jR (vs:List Int):T->T
 | .mk k n s ks=>if k=1 then .mk 1 (pE vs n) ⟨#[]⟩ [] else .mk k n s (iu vs ks)
def iu (vs:List Int):List T->List T
 | []=>[]
 | t::ts=>jR vs t::iu vs ts
end
theorem IU:∀ (xs:List Int) (n a:Int) (k:Nat),n ∉ xs->ly xs n a k=a
 | [],n,a,k,_=>rfl
 | x::xs,n,a,k,h=>by
  rw [ly,ae (fun e=>h (by rw [e];exact bF ..)),IU xs n a (k+1) fun e=>h (bI _ e)]
theorem tE:∀ (xs:List Int) (n a:Int) (k:Nat),n∈xs->xs.Nodup->ly xs n a k=(dZ (σ:=Unit) (fun _ x=>(decide (n=x),())) () xs k).1
 | x::xs,n,a,k,h,hd=>by
  rw [List.nodup_cons] at hd;rw [ly,dZ];by_cases e:x=n
  ·subst e;rw [ag rfl,IU _ _ _ _ hd.1];simp
  ·rw [ae e];have g:n∈xs:=by
    rcases dK.1 h with h|h
    ·exact absurd h.symm e
    ·exact h
   have:decide (n=x)=false:=aM fun q=>e q.symm;simp only [this,ta,if_false];exact tE xs n a (k+1) g hd.2
theorem IL:∀ (xs:List Int) (n a:Int) (k:Nat),ly xs n a k=a ∨ (0<=ly xs n a k/\ly xs n a k<k+xs.length)
 | [],n,a,k=>.inl rfl
 | x::xs,n,a,k=>by
  rw [ly];rcases IL xs n (if x=n then (k:Int) else a) (k+1) with h|h
  ·split at h
   ·right;rw [ag (by assumption),h];simp;omega
   ·left;rw [ae (by assumption)];exact h
  ·right;simp only [aP];omega
theorem VS (vs:List Int) (n:Int):-1<=pE vs n/\pE vs n<vs.length+1:=by
 have:∀ (xs:List Int) (k:Nat),-1<=(dZ (σ:=Unit) (fun _ x=>(decide (n=x),())) () xs k).1/\(dZ (σ:=Unit) (fun _ x=>(decide (n=x),())) () xs k).1<k+xs.length+1:=by
  intro xs;induction xs with
  | nil=>intro k;simp [dZ];omega
  | cons x xs a=>
   intro k;rw [dZ];have:=a (k+1);split
   ·simp;omega
   ·simp only [aP];omega
 have h:=this vs 0;rw [pE];omega
mutual
def inT (vs:List Int):T->Prop
 | .mk k n _ ks=>(k=1->n∈vs)/\inL vs ks
def inL (vs:List Int):List T->Prop
 | []=>True
 | t::ts=>inT vs t/\inL vs ts
end
theorem sJ (l:List Int) (n:Int):Do l n=true↔n∈l:=by
 simp [Do]
theorem MG (l:List Int) (n:Int):n∈jw l n/\∀ m∈l,m∈jw l n:=by
 unfold jw;split
 ·rename_i h;exact ⟨(sJ l n).1 h,fun m h=>h⟩
 ·exact ⟨by simp,fun m h=>by simp [h]⟩
theorem EE {l:List Int} (n:Int) (h:l.Nodup):(jw l n).Nodup:=by
 unfold jw;split
 ·exact h
 ·rename_i hn
  rw [mK];refine ⟨h,by simp,fun a i b g e=>hn ((sJ l n).2 ?_)⟩;simp at g;rw [<- g,<- e];exact i
mutual
theorem SG:∀ (t:T) (l:List Int),∀ m∈l,m∈ii t l
 | .mk k n s ks,l,m,h=>by
  rw [ii];refine tU ks _ m ?_;split
  ·exact (MG l n).2 m h
  ·exact h
theorem tU:∀ (ts:List T) (l:List Int),∀ m∈l,m∈ek ts l
 | [],l,m,h=>h
 | t::ts,l,m,h=>by
  rw [ek];exact tU ts _ m (SG t l m h)
end
mutual
theorem M4:∀ (t:T) (l:List Int),l.Nodup->(ii t l).Nodup
 | .mk k n s ks,l,h=>by
  rw [ii];refine lK ks _ ?_;split
  ·exact EE n h
  ·exact h
theorem lK:∀ (ts:List T) (l:List Int),l.Nodup->(ek ts l).Nodup
 | [],l,h=>h
 | t::ts,l,h=>by
  rw [ek];exact lK ts _ (M4 t l h)
end
mutual
theorem NC {vs ws:List Int} (h:∀ m∈vs,m∈ws):∀ t:T,inT vs t->inT ws t
 | .mk k n s ks,hi=>by
  rw [inT] at hi ⊢;exact ⟨fun e=>h _ (hi.1 e),Oq h ks hi.2⟩
theorem Oq {vs ws:List Int} (h:∀ m∈vs,m∈ws):∀ ts:List T,inL vs ts->inL ws ts
 | [],_=>by simp [inL]
 | t::ts,hi=>by
  rw [inL] at hi ⊢;exact ⟨NC h t hi.1,Oq h ts hi.2⟩
end
mutual
theorem TX:∀ (t:T) (l:List Int),inT (ii t l) t
 | .mk k n s ks,l=>by
  rw [ii,inT];refine ⟨fun e=>tU ks _ n ?_,pO ks _⟩;rw [ag e];exact (MG l n).1
theorem pO:∀ (ts:List T) (l:List Int),inL (ek ts l) ts
 | [],l=>by simp [inL]
 | t::ts,l=>by
  rw [ek,inL];exact ⟨NC (tU ts _) t (TX t l),pO ts _⟩
end
theorem MZ {t:T} (h:fR t=true) (hk:t.kind=1):t.name=emptyB/\t.kids.length=0:=by
 unfold fR at h;rw [ag hk] at h;simp only [bQ,bK] at h;exact ⟨h.2.2.1,h.2.2.2⟩
mutual
theorem QD (vs:List Int) (i:vs.Nodup):∀ (t:T) (d:Int),dC t d=true->inT vs t->dE vs t=jR vs t
 | .mk k n s ks,d,h,hi=>by
  rw [dC] at h;rw [inT] at hi;split at h
  ·cases h
  ·rw [bQ] at h;have m:=Ln vs i ks (d - 1) h.2 hi.2;rw [dE,jR];by_cases e:k=1
   ·obtain ⟨j,l⟩:=MZ h.1 e;have a:s=⟨#[]⟩:=j;have g:ks=[]:=jM l;subst a g e;rw [ag rfl,ag rfl,tE vs n n 0 (hi.1 rfl) i];rfl
   ·rw [ae e,ae e,m]
theorem Ln (vs:List Int) (a:vs.Nodup):∀ (ts:List T) (d:Int),de ts d=true->inL vs ts->dP vs ts=iu vs ts
 | [],d,_,_=>rfl
 | t::ts,d,h,hi=>by
  rw [de,bQ] at h;rw [inL] at hi;rw [dP,iu,QD vs a t d h.1 hi.1,Ln vs a ts d h.2 hi.2]
end
theorem kP (vs:List Int):∀ ts:List T,(dP vs ts).length=ts.length
 | []=>rfl
 | t::ts=>by rw [dP];simp [kP vs ts]
theorem pG (vs:List Int):∀ ts:List T,(iu vs ts).length=ts.length
 | []=>rfl
 | t::ts=>by rw [iu];simp [pG vs ts]
theorem Er (vs:List Int) (ts:List T) (j:Nat) (h:j<ts.length):dP vs (ts.take (j+1))=dP vs (ts.take j)++[dE vs ts[j]]:=by
 have:∀ (xs ys:List T),dP vs (xs++ys)=dP vs xs++dP vs ys:=by
  intro xs ys;induction xs with
  | nil=>rfl
  | cons x xs a=>simp [dP,a]
 rw [gt h,this];rfl
theorem E3 (vs:List Int) (ts:List T) (j:Nat) (h:j<ts.length):iu vs (ts.take (j+1))=iu vs (ts.take j)++[jR vs ts[j]]:=by
 have:∀ (xs ys:List T),iu vs (xs++ys)=iu vs xs++iu vs ys:=by
  intro xs ys;induction xs with
  | nil=>rfl
  | cons x xs a=>simp [iu,a]
 rw [gt h,this];rfl
def vD (vs:List Int) (c:C):C:=⟨dE vs c.head,dP vs c.body⟩
def cC (c:C):List Int:=cE (c.head::c.body) []
theorem Jk {c:C} (h:aZ c=true):ek (c.head::c.body) []=cC c/\jR (cC c) c.head=dE (cC c) c.head/\iu (cC c) c.body=dP (cC c) c.body:=by
 have a:ek (c.head::c.body) []=cC c:=by
  rw [cC,ek,cE,<- (Bz h []).1,(Bz h (fh c.head [])).2]
 have l:(cC c).Nodup:=by rw [<- a];exact lK _ _ Az
 have g:inL (cC c) (c.head::c.body):=by rw [<- a];exact pO _ _
 rw [inL] at g;rw [aZ] at h;simp only [bQ,fF] at h;obtain ⟨_,p,j,_⟩:=h;rw [bY,bQ] at j;have q:∀ ts:List T,(∀ t∈ts,fa t=true)->de ts 30=true:=by
  intro ts;induction ts with
  | nil=>intro _;rfl
  | cons t ts r=>
   intro i;rw [de,bQ];have m:=i t (bF ..);rw [fa,bQ,bY,bQ] at m;exact ⟨m.1.1,r fun u o=>i u (bI _ o)⟩
 exact ⟨a,(QD _ l _ _ j.1 g.1).symm,(Ln _ l _ _ (q _ p) g.2).symm⟩
end
section
open Go Go.RowKit
mutual
def okU (N:Nat):T->Prop
 | .mk k n s ks=>(k=1 ∨ k=2 ∨ k=3)/\(k=1->0<=n/\n<N/\s=emptyB/\ks=[])/\cM N ks/\s.size<=6
def cM (N:Nat):List T->Prop
 | []=>True
 | t::ts=>okU N t/\cM N ts
end
mutual
def vT:T->List Nat
 | .mk k n _ ks=>if k=1 then [n.toNat] else vTL ks
def vTL:List T->List Nat
 | []=>[]
 | t::ts=>vT t++vTL ts
end
theorem iQ {N:Nat}:∀ {ts:List T},cM N ts->∀ t∈ts,okU N t
 | t::ts,h,x,a=>by
  rw [cM] at h;rcases dK.1 a with rfl|a
  ·exact h.1
  ·exact iQ h.2 x a
theorem ix {N:Nat}:∀ {ts:List T},(∀ t∈ts,okU N t)->cM N ts
 | [],_=>by rw [cM];trivial
 | t::ts,h=>by rw [cM];exact ⟨h t (bF ..),ix fun u a=>h u (bI _ a)⟩
theorem qE:∀ {ts:List T} {m:Nat},m∈vTL ts↔∃ t∈ts,m∈vT t
 | [],m=>by simp [vTL]
 | t::ts,m=>by rw [vTL,cU,qE];simp
theorem okU.kids {N:Nat} {t:T} (h:okU N t):cM N t.kids:=by cases t; rw [okU] at h; exact h.2.2.1
theorem okU.var {N:Nat} {t:T} (h:okU N t) (hk:t.kind=1):0<=t.n/\t.n<N/\t.name=emptyB/\t.kids=[]:=by cases t; rw [okU] at h; exact h.2.1 hk
theorem okU.three {N:Nat} {t:T} (h:okU N t):t.kind=1 ∨ t.kind=2 ∨ t.kind=3:=by cases t; rw [okU] at h; exact h.1
theorem okU.kind {N:Nat} {t:T} (h:okU N t):t.kind≠0:=by have:=h.three; omega
theorem kw {t:T} (h:t.kind=1):vT t=[t.n.toNat]:=by cases t; rw [vT]; exact ag h
theorem xh {t:T} (h:t.kind≠1):vT t=vTL t.kids:=by cases t; rw [vT]; exact ae h
mutual
theorem Rh {N:Nat}:∀ (t:T),okU N t->∀ m∈vT t,m<N
 | .mk k n s ks,h,m,hm=>by
  rw [okU] at h;rw [vT] at hm;split at hm
  ·rename_i hk
   have:=h.2.1 hk;simp at hm;omega
  ·exact T8 ks h.2.2.1 m hm
theorem T8 {N:Nat}:∀ (ts:List T),cM N ts->∀ m∈vTL ts,m<N
 | [],_,m,a=>by simp [vTL] at a
 | t::ts,h,m,a=>by
  rw [cM] at h;rw [vTL,cU] at a;rcases a with a|a
  ·exact Rh t h.1 m a
  ·exact T8 ts h.2 m a
end
mutual
def wB:T->Prop
 | .mk _ _ _ ks=>ks.length<=1048576/\wBL ks
def wBL:List T->Prop
 | []=>True
 | t::ts=>wB t/\wBL ts
end
theorem Rs:∀ {ts:List T},wBL ts->∀ t∈ts,wB t
 | t::ts,h,x,a=>by
  rw [wBL] at h;rcases dK.1 a with rfl|a
  ·exact h.1
  ·exact Rs h.2 x a
theorem TD:∀ {ts:List T},(∀ t∈ts,wB t)->wBL ts
 | [],_=>by rw [wBL];trivial
 | t::ts,h=>by rw [wBL];exact ⟨h t (bF ..),TD fun u a=>h u (bI _ a)⟩
theorem PF (t:T):wB t↔t.kids.length<=1048576/\wBL t.kids:=by cases t; rw [wB]; rfl
def look (st:bb) (t:T):Option T:=if t.kind=1 then (st[t.n.toNat]?).join else none
theorem dU {st:bb} {t u:T}:look st t=some u↔t.kind=1/\st[t.n.toNat]?=some (some u):=by
 unfold look;split
 ·rename_i h
  simp only [Option.join_eq_some_iff];exact ⟨fun e=>⟨h,e⟩,fun e=>e.2⟩
 ·rename_i h
  simp [h]
theorem tS {st:bb} {t:T}:look st t=none↔(t.kind=1->st[t.n.toNat]?=none ∨ st[t.n.toNat]?=some none):=by
 unfold look;split
 ·rename_i h
  rw [Option.join_eq_none_iff];constructor
  ·intro e _;rcases e with e|e
   ·exact .inl e
   ·exact .inr e
  ·intro e;rcases e h with e|e
   ·exact .inl e
   ·exact .inr e
 ·rename_i h
  simp [h]
inductive eq (st:bb):T->T->Prop
 | stop {t:T}:look st t=none->eq st t t
 | step {t u v:T}:look st t=some u->eq st u v->eq st t v
inductive Rch (st:bb):Nat->Nat->Prop
 | refl (m:Nat):Rch st m m
 | step {m k n:Nat} {u:T}:st[m]?=some (some u)->k∈vT u->Rch st k n->Rch st m n
theorem Rch.trans {st:bb} {a b c:Nat} (h:Rch st a b) (g:Rch st b c):Rch st a c:=by
 induction h with
 | refl=>exact g
 | step i j _ l=>exact .step i j (l g)
def gA (st:bb) (n:Nat) (t:T):Prop:=∃ m∈vT t,Rch st m n
structure Good (N:Nat) (st:bb):Prop where
 len:st.length=N
 ok:∀ t,some t∈st->okU N t
 w:∀ t,some t∈st->wB t
 rk:∃ r:Nat->Nat,∀ (n:Nat) (u:T),st[n]?=some (some u)->∀ m∈vT u,r m<r n
theorem Good.look_ok {N:Nat} {st:bb} (h:Good N st) {t u:T} (a:look st t=some u):okU N u/\wB u:=by
 have:=f0 (dU.1 a).2;exact ⟨h.ok u this,h.w u this⟩
theorem eB {N:Nat} {st:bb} {t v:T} (h:Good N st) (a:eq st t v) (g:okU N t/\wB t):okU N v/\wB v:=by
 induction a with
 | stop=>exact g
 | step i _ j=>exact j (h.look_ok i)
theorem ij {st:bb} {t v:T} (a:eq st t v):look st v=none:=by
 induction a with
 | stop h=>exact h
 | step _ _ g=>exact g
theorem QR {N:Nat} {st:bb} (h:Good N st) (t:T):∃ v,eq st t v:=by
 obtain ⟨r,j⟩:=h.rk;have:∀ (k:Nat) (t:T),(∀ u,look st t=some u->r t.n.toNat<k)->∃ v,eq st t v:=by
  intro k;induction k with
  | zero=>
   intro t g;cases a:look st t with
   | none=>exact ⟨t,.stop a⟩
   | some u=>have:=g u a;omega
  | succ k m=>
   intro t g;cases a:look st t with
   | none=>exact ⟨t,.stop a⟩
   | some u=>
    have p:=g u a;obtain ⟨v,l⟩:=m u fun o i=>by
     obtain ⟨hk,_⟩:=dU.1 i;have:=j _ _ (dU.1 a).2 u.n.toNat (by rw [kw hk];simp);omega
    exact ⟨v,.step a l⟩
 exact this (r t.n.toNat+1) t fun _ _=>Qh _
theorem Uf {st:bb} {t v:T} (j:eq st t v) {n:Nat} (hn:∀ u,st[n]?≠some (some u)):gA st n t↔gA st n v:=by
 induction j with
 | stop=>exact Iff.rfl
 | step l _ o=>
  rename_i t u v
  rw [<- o];obtain ⟨hk,h⟩:=dU.1 l;constructor
  ·rintro ⟨m,a,g⟩;rw [kw hk,bM] at a;subst a;cases g with
   | refl=>exact absurd h (hn _)
   | step i p q=>
    rw [h,bj,bj] at i;subst i;exact ⟨_,p,q⟩
  ·rintro ⟨m,a,g⟩;exact ⟨_,by rw [kw hk];exact bM.2 rfl,.step h a g⟩
def unb:bb->Nat
 | []=>0
 | none::st=>unb st+1
 | some _::st=>unb st
theorem tZ:∀ (st:bb) (n:Nat) (t:T),st[n]?=some none->unb (st.set n (some t))+1=unb st
 | [],n,t,h=>by simp at h
 | x::st,0,t,h=>by
  simp only [HP,bj] at h;subst h;rfl
 | x::st,n+1,t,h=>by
  have a:st[n]?=some none:=by simpa using h
  have:=tZ st n t a;cases x <;> simp only [OX,unb] <;> omega
theorem Qc:∀ st:bb,unb st<=st.length
 | []=>aY _
 | none::st=>by have:=Qc st;simp only [unb,aP];omega
 | some _::st=>by have:=Qc st;simp only [unb,aP];omega
open Classical in
theorem Good.set {N:Nat} {st:bb} (h:Good N st) {n:Nat} {t:T} (hn:st[n]?=some none) (D:okU N t) (G:wB t) (J:¬ gA st n t):Good N (st.set n (some t)):=by
 have q:n<st.length:=(ie.1 hn).1;refine ⟨by rw [jj];exact h.len,fun u a=>?_,fun u a=>?_,?_⟩
 ·rcases Ag a with a|a
  ·exact h.ok u a
  ·rw [bj] at a;rw [a];exact D
 ·rcases Ag a with a|a
  ·exact h.w u a
  ·rw [bj] at a;rw [a];exact G
 ·obtain ⟨r,O⟩:=h.rk;have o:∀ l:List Nat,∃ M,∀ m∈l,r m<=M:=by
   intro l;induction l with
   | nil=>exact ⟨0,by simp⟩
   | cons x l U=>
    obtain ⟨M,o⟩:=U;refine ⟨M+r x,fun m i=>?_⟩;rcases dK.1 i with rfl|i
    ·omega
    ·have:=o m i;omega
  obtain ⟨M,o⟩:=o (vT t);refine ⟨fun m=>if Rch st m n then r m+M+1 else r m,fun k u g m i=>?_⟩;by_cases p:n=k
  ·subst p;rw [Nl q,bj,bj] at g;subst g;have B:¬ Rch st m n:=fun e=>J ⟨m,i,e⟩;have C:=o m i;simp only [ae B,ag (Rch.refl (st:=st) n)];omega
  ·rw [M7 p] at g;have B:=O k u g m i;by_cases j:Rch st m n
   ·have C:Rch st k n:=.step g i j;simp only [ag j,ag C];omega
   ·simp only [ae j];split <;> omega
inductive Job where
 | one (a b:T)
 | list (xs ys:List T)
inductive Uni:bb->Job->Bool->bb->Prop
 | same {st:bb} {a b a' b':T}:eq st a a'->eq st b b'->a'.kind=1->b'.kind=1->a'.n=b'.n->Uni st (.one a b) true st
 | bindA {st:bb} {a b a' b':T}:eq st a a'->eq st b b'->a'.kind=1->¬ (b'.kind=1/\a'.n=b'.n)->¬ gA st a'.n.toNat b'->Uni st (.one a b) true (st.set a'.n.toNat (some b'))
 | occA {st:bb} {a b a' b':T}:eq st a a'->eq st b b'->a'.kind=1->¬ (b'.kind=1/\a'.n=b'.n)->gA st a'.n.toNat b'->Uni st (.one a b) false st
 | bindB {st:bb} {a b a' b':T}:eq st a a'->eq st b b'->a'.kind≠1->b'.kind=1->¬ gA st b'.n.toNat a'->Uni st (.one a b) true (st.set b'.n.toNat (some a'))
 | occB {st:bb} {a b a' b':T}:eq st a a'->eq st b b'->a'.kind≠1->b'.kind=1->gA st b'.n.toNat a'->Uni st (.one a b) false st
 | clash {st:bb} {a b a' b':T}:eq st a a'->eq st b b'->a'.kind≠1->b'.kind≠1->qz a' b'=false->Uni st (.one a b) false st
 | kids {st st':bb} {a b a' b':T} {r:Bool}:eq st a a'->eq st b b'->a'.kind≠1->b'.kind≠1->qz a' b'=true->Uni st (.list a'.kids b'.kids) r st'->Uni st (.one a b) r st'
 | nil {st:bb}:Uni st (.list [] []) true st
 | stop {st st':bb} {a b:T} {xs ys:List T}:Uni st (.one a b) false st'->Uni st (.list (a::xs) (b::ys)) false st'
 | go {st st1 st':bb} {a b:T} {xs ys:List T} {r:Bool}:Uni st (.one a b) true st1->Uni st1 (.list xs ys) r st'->Uni st (.list (a::xs) (b::ys)) r st'
def okJ (N:Nat):Job->Prop
 | .one a b=>(okU N a/\wB a)/\(okU N b/\wB b)
 | .list xs ys=>(∀ a∈xs,okU N a/\wB a)/\(∀ b∈ys,okU N b/\wB b)/\xs.length=ys.length
theorem lk {N:Nat} {t:T} (h:okU N t/\wB t):∀ x∈t.kids,okU N x/\wB x:=by
 intro x a;exact ⟨iQ h.1.kids x a,Rs ((PF t).1 h.2).2 x a⟩
theorem oP {a b:T} (h:qz a b=true):a.kids.length=b.kids.length:=by
 rw [qz] at h;simp only [bQ,bK] at h;exact h.2.2.2
theorem oU {N:Nat} {st:bb} (h:Good N st) {a:T} (hk:a.kind=1) (g:look st a=none) (i:okU N a):st[a.n.toNat]?=some none:=by
 obtain ⟨j,l,_⟩:=i.var hk;rcases tS.1 g hk with e|e
 ·have:=List.getElem?_eq_none_iff.1 e;have:=h.len;omega
 ·exact e
theorem Uni.good {N:Nat} {st i:bb} {j:Job} {r:Bool} (O:Uni st j r i):Good N st->okJ N j->Good N i/\(i=st ∨ unb i<unb st):=by
 induction O with
 | same=>exact fun h _=>⟨h,.inl rfl⟩
 | occA=>exact fun h _=>⟨h,.inl rfl⟩
 | occB=>exact fun h _=>⟨h,.inl rfl⟩
 | clash=>exact fun h _=>⟨h,.inl rfl⟩
 | nil=>exact fun h _=>⟨h,.inl rfl⟩
 | bindA l m hk t B=>
  rename_i J M
  intro h g;have p:=eB h l g.1;have o:=eB h m g.2;have hf:=oU h hk (ij l) p.1;have:=tZ _ _ M hf;exact ⟨h.set hf o.1 o.2 B,.inr (by omega)⟩
 | bindB l m t hk B=>
  rename_i J M
  intro h g;have p:=eB h l g.1;have o:=eB h m g.2;have hf:=oU h hk (ij m) o.1;have:=tZ _ _ J hf;exact ⟨h.set hf p.1 p.2 B,.inr (by omega)⟩
 | kids l m _ _ V _ C=>
  intro h g;exact C h ⟨lk (eB h l g.1),lk (eB h m g.2),oP V⟩
 | stop _ C=>
  intro h g;exact C h ⟨g.1 _ (bF ..),g.2.1 _ (bF ..)⟩
 | go _ _ D G=>
  intro h g;obtain ⟨p,o⟩:=D h ⟨g.1 _ (bF ..),g.2.1 _ (bF ..)⟩;obtain ⟨U,q⟩:=G p ⟨fun a l=>g.1 a (bI _ l),fun b m=>g.2.1 b (bI _ m),by have:=g.2.2;simpa using this⟩;refine ⟨U,?_⟩;rcases o with rfl|o
  ·exact q
  ·rcases q with rfl|q
   ·exact .inr o
   ·exact .inr (by omega)
open Classical in
theorem X8 {N:Nat}:∀ (U:Nat) (st:bb),Good N st->unb st<=U->∀ j,okJ N j->∃ r g,Uni st j r g:=by
 intro U;induction U using Nat.strongRecOn with
 | _ U b3=>
  intro st hg hU
  -- lists of terms of which each is known to have an answer
  have D:∀ (xs ys:List T),okJ N (.list xs ys)->(∀ a∈xs,∀ b,okJ N (.one a b)->∃ r g,Uni st (.one a b) r g)->∃ r g,Uni st (.list xs ys) r g:=by
   intro xs;induction xs with
   | nil=>
    intro ys o _;have:ys=[]:=jM o.2.2.symm;subst this;exact ⟨true,st,.nil⟩
   | cons a xs ih=>
    intro ys o hP;cases ys with
    | nil=>have:=o.2.2;simp at this
    | cons b ys=>
     have V:okJ N (.one a b):=⟨o.1 _ (bF ..),o.2.1 _ (bF ..)⟩
     have a3:okJ N (.list xs ys):=⟨fun a C=>o.1 a (bI _ C),fun b G=>o.2.1 b (bI _ G),by have:=o.2.2;simpa using this⟩
     obtain ⟨r,Z,i⟩:=hP a (bF ..) b V;cases r with
     | false=>exact ⟨false,Z,.stop i⟩
     | true=>
      obtain ⟨a7,a2⟩:=i.good hg V;rcases a2 with rfl|a2
      ·obtain ⟨r,a0,p⟩:=ih ys a3 fun a C=>hP a (bI _ C);exact ⟨r,a0,.go i p⟩
      ·obtain ⟨r,a0,p⟩:=b3 (unb Z) (by omega) Z a7 (aY _) _ a3;exact ⟨r,a0,.go i p⟩
  obtain ⟨rk,a8⟩:=hg.rk;have a4:∀ (m:Nat) (a:T),(∀ x∈vT a,∀ u,st[x]?=some (some u)->rk x<m)->∀ b,okJ N (.one a b)->∃ r g,Uni st (.one a b) r g:=by
   intro m;induction m using Nat.strongRecOn with
   | _ m b4=>
    refine T.ind fun k n s ks ih hr b o=>?_;obtain ⟨b',G⟩:=QR hg b;have a9:=eB hg G o.2;cases J:look st (.mk k n s ks) with
    | some u=>
     obtain ⟨hk,hs⟩:=dU.1 J;have b0:=hr _ (by rw [kw hk];exact bM.2 rfl) u hs;have b1:okJ N (.one u b):=⟨hg.look_ok J,o.2⟩
     obtain ⟨r,g,hu⟩:=b4 _ b0 u (fun x hx _ _=>a8 _ _ hs x hx) b b1;refine ⟨r,g,?_⟩;cases hu with
     | same i p q t B=>exact .same (.step J i) p q t B
     | bindA i p q t B=>exact .bindA (.step J i) p q t B
     | occA i p q t B=>exact .occA (.step J i) p q t B
     | bindB i p q t B=>exact .bindB (.step J i) p q t B
     | occB i p q t B=>exact .occB (.step J i) p q t B
     | clash i p q t B=>exact .clash (.step J i) p q t B
     | kids i p q t B h6=>exact .kids (.step J i) p q t B h6
    | none=>
     have C:eq st (.mk k n s ks) (.mk k n s ks):=.stop J;by_cases hk:(T.mk k n s ks).kind=1
     ·by_cases h:b'.kind=1/\(T.mk k n s ks).n=b'.n
      ·exact ⟨_,_,.same C G hk h.1 h.2⟩
      ·by_cases ho:gA st (T.mk k n s ks).n.toNat b'
       ·exact ⟨_,_,.occA C G hk h ho⟩
       ·exact ⟨_,_,.bindA C G hk h ho⟩
     ·by_cases O:b'.kind=1
      ·by_cases ho:gA st b'.n.toNat (T.mk k n s ks)
       ·exact ⟨_,_,.occB C G hk O ho⟩
       ·exact ⟨_,_,.bindB C G hk O ho⟩
      ·cases hd:qz (T.mk k n s ks) b' with
       | false=>exact ⟨_,_,.clash C G hk O hd⟩
       | true=>
        obtain ⟨r,g,hu⟩:=D ks b'.kids ⟨lk o.1,lk a9,oP hd⟩ fun a a1 b2 a5=>
         ih a a1 (fun x hx u hs=>hr x (by rw [xh hk];exact qE.2 ⟨a,a1,hx⟩) u hs) b2 a5
        exact ⟨r,g,.kids C G hk O hd hu⟩
  have Y:∀ a b,okJ N (.one a b)->∃ r g,Uni st (.one a b) r g:=by
   intro a b o;have hM:∀ l:List Nat,∃ M,∀ m∈l,rk m<M:=by
    intro l;induction l with
    | nil=>exact ⟨0,by simp⟩
    | cons x l ih=>
     obtain ⟨M,hM⟩:=ih;refine ⟨M+rk x+1,fun m hm=>?_⟩;rcases dK.1 hm with rfl|hm
     ·omega
     ·have:=hM m hm;omega
   obtain ⟨M,hM⟩:=hM (vT a);exact a4 M a (fun x hx _ _=>hM x hx) b o
  intro j o;cases j with
  | one a b=>exact Y a b o
  | list xs ys=>exact D xs ys o fun a _ b a6=>Y a b a6
inductive P5 where
 | one (t u:T)
 | list (ts us:List T)
inductive Res (st:bb):P5->Prop
 | one {t v:T} {us:List T}:eq st t v->Res st (.list v.kids us)->Res st (.one t (.mk v.kind v.n v.name us))
 | nil:Res st (.list [] [])
 | cons {t u:T} {ts us:List T}:Res st (.one t u)->Res st (.list ts us)->Res st (.list (t::ts) (u::us))
theorem OK {N:Nat} {st:bb} (h:Good N st) (t:T) (B:okU N t):∃ u,Res st (.one t u):=by
 obtain ⟨rk,J⟩:=h.rk;have j:∀ ts:List T,(∀ t∈ts,∃ u,Res st (.one t u))->∃ us,Res st (.list ts us):=by
  intro ts;induction ts with
  | nil=>exact fun _=>⟨[],.nil⟩
  | cons t ts o=>
   intro Y;obtain ⟨u,O⟩:=Y t (bF ..);obtain ⟨us,i⟩:=o fun x g=>Y x (bI _ g);exact ⟨u::us,.cons O i⟩
 have q:∀ (m:Nat) (a:T),(∀ x∈vT a,∀ u,st[x]?=some (some u)->rk x<m)->(okU N a)->∃ u,Res st (.one a u):=by
  intro m;induction m using Nat.strongRecOn with
  | _ m V=>
   refine T.ind fun k n s ks o Z B=>?_;cases r:look st (.mk k n s ks) with
   | some u=>
    obtain ⟨hk,C⟩:=dU.1 r;have U:=Z _ (by rw [kw hk];exact bM.2 rfl) u C;obtain ⟨u',O⟩:=V _ U u (fun x g _ _=>J _ _ C x g) (h.look_ok r).1;refine ⟨u',?_⟩;cases O with
    | one h1 h2=>exact .one (.step r h1) h2
   | none=>
    by_cases hk:(T.mk k n s ks).kind=1
    ·have:=(B.var hk).2.2.2;have e:ks=[]:=this;subst e;exact ⟨_,.one (.stop r) .nil⟩
    ·obtain ⟨us,i⟩:=j ks fun a D=>o a D (fun x g u C=>Z x (by rw [xh hk];exact qE.2 ⟨a,D,g⟩) u C) (iQ B.kids a D);exact ⟨_,.one (.stop r) i⟩
 have p:∀ l:List Nat,∃ M,∀ m∈l,rk m<M:=by
  intro l;induction l with
  | nil=>exact ⟨0,by simp⟩
  | cons x l o=>
   obtain ⟨M,p⟩:=o;refine ⟨M+rk x+1,fun m G=>?_⟩;rcases dK.1 G with rfl|G
   ·omega
   ·have:=p m G;omega
 obtain ⟨M,p⟩:=p (vT t);exact q M t (fun x g _ _=>p x g) B
end
section
open Go Go.RowKit
theorem jv {b:Bool} {n:Nat} (h:b=decide (1<=n)) (a:b=false):n=0:=by
 rw [a,eq_comm,nu] at h;omega
theorem gg {a b:Bool} {k n:Nat} (h:a=decide (k<=n)) (g:a=true) (i:b=decide (k+1<=n)) (j:b=false):n=k:=by
 rw [g,eq_comm,decide_eq_true_iff] at h;rw [j,eq_comm,nu] at i;omega
theorem jD {b:Bool} {n m:Nat} (g:n<=m) (h:b=decide (m<=n)) (a:b=true):n=m:=by
 rw [a,eq_comm,decide_eq_true_iff] at h;omega
theorem MC {b l:Bool} {n m:Nat} (h:b=decide (m<=n)) (k:b=true->l=true) (a:l=false):n<m:=by
 cases b
 ·rw [eq_comm,nu] at h;omega
 ·rw [k rfl] at a;cases a
def Ui:List (Nat × Value)->List ByteArray
 | (_,.string s)::l=>s::Ui l
 | _=>[]
def TR:List (Nat × Value)->List Int
 | (_,.int _ n)::l=>n::TR l
 | _=>[]
theorem Tw {α:Type} {f:α->Value} (l:List α) {i:Nat} (a:i<l.length):bJ (l.map f).toArray i 1=[f l[i]]:=by
 rw [bJ,ef (by simpa using a)];simp
theorem RdSl.monoU {S S':ai} {v:Value} {ys:List Nat} (a:Sle S S') (h:RdSl S 1 lY v ys):RdSl S' 1 lY v ys:=h.mono a fun _ _ h=>h
theorem U5 {S:ai} {b:Nat} {E:TypeId} {cs:nA} {t:T} (a:S b=some (.cells cs.toArray E)) (h:RdT S cs t):RdSl S 4 (RdT S) (kt b 0 1 1) [t]:=by
 refine ⟨_,1,rfl,aY _,by simp [maxLen],.inr ⟨b,0,_,E,(0,0),rfl,a,fun i g=>?_⟩⟩
 match i,g with
 | 0,_=>
  have e:bJ cs.toArray (0+0 * 4) 4=cs:=by
   rw [bJ];simpa using wd (Nat.le_of_eq h.length)
  rw [e];exact h
section
variable {w0 w:World} {X:List Nat} {L A:List Item} {S:ai} {K:Value->World->Prop}
theorem Inv.last (h:Inv w0 X L S w) (i:Nat) {it:Item} (a:L[i]?=some it):Inv w0 X (L.eraseIdx i++[it]) S w:=by
 refine h.perm ?_;obtain ⟨g,_⟩:=Al a it;rw [Xk]
 conv=>rhs;rw [g]
 rw [cN];exact rA _ bD
theorem oF {n:Nat} {a:List (Nat × Value)} (h:Inv w0 X L S w)
  (j:(cf HY n a).run Tryz.prog w=.ok (.value (.slice (some ⟨w.heap.size,0,none⟩) n n)) { w with heap:=w.heap.push (.cells ((Ui a).map Value.string).toArray fx) })
  (hn:(Ui a).length=n) (q:n<=1000) (hk:∀ v S1 w',Ext w0.heap.size X S S1->RdSl S1 1 xK v (Ui a)->Inv w0 X L S1 w'->K v w'):Run Tryz.prog (cf HY n a) w K:=by
 refine oK (v:=fun b=>.slice (some ⟨b,0,none⟩) n n) (o:=.cells ((Ui a).map Value.string).toArray fx) h j fun b w' g=>?_;obtain ⟨S1,g,m,p⟩:=g.pub1;refine hk _ S1 w' m ?_ g;exact RdSl.ofCells p hn (by simp only [maxLen];omega) fun i l=>Tw _ l
theorem nq {n:Nat} {a:List (Nat × Value)} (h:Inv w0 X L S w)
  (j:(cf sP n a).run Tryz.prog w=.ok (.value (.slice (some ⟨w.heap.size,0,none⟩) n n)) { w with heap:=w.heap.push (.cells ((TR a).map (Value.int .i64)).toArray bV) })
  (hn:(TR a).length=n) (q:n<=1000) (hk:∀ v S1 w',Ext w0.heap.size X S S1->RdSl S1 1 kH v (TR a)->Inv w0 X L S1 w'->K v w'):Run Tryz.prog (cf sP n a) w K:=by
 refine oK (v:=fun b=>.slice (some ⟨b,0,none⟩) n n) (o:=.cells ((TR a).map (Value.int .i64)).toArray bV) h j fun b w' g=>?_;obtain ⟨S1,g,m,p⟩:=g.pub1;refine hk _ S1 w' m ?_ g;exact RdSl.ofCells p hn (by simp only [maxLen];omega) fun i l=>Tw _ l
def l0 (Q:Prop) (R:Nat->Prop):Nat->Prop
 | 0=>Q
 | n+1=>R n
def wV (w0:World) (X:List Nat) (b:Nat) (c:Array Value) (d:Nat) (E:TypeId) (kv:Value) (css:List (List Value)) (A:Nat->List Item) (Q:List Value->Nat->ai->Prop) (xv xs xa:Value) (w':World):Nat->Prop
 | 0=>∃ p1 S1 cs,Q cs p1 S1/\(cs.length=4/\∀ u∈cs,u.oneCell'=true)/\xv=.agg cs.toArray/\Inv w0 X (.blk b (.cells c E)::aB kv ac 4 css::A p1) S1 w'
 | 1=>∃ p1 S1 cs b8,Q cs p1 S1/\(cs.length=4/\∀ u∈cs,u.oneCell'=true)/\xs=.slice (some ⟨b8,0,none⟩) 1 1/\Inv w0 X (.blk b (.cells c E)::aB kv ac 4 css::(A p1++[.blk b8 (.cells cs.toArray ac)])) S1 w'
 | 2=>∃ p1 S1 cs,Q cs p1 S1/\(cs.length=4/\∀ u∈cs,u.oneCell'=true)/\Inv w0 X (.blk b (.cells c E)::aB xa ac 4 (css++[cs])::A p1) S1 w'
 | 3=>∃ p1 S1 cs,Q cs p1 S1/\(cs.length=4/\∀ u∈cs,u.oneCell'=true)/\Inv w0 X (.blk b (.cells (c.setIfInBounds d xa) E)::aB xa ac 4 (css++[cs])::A p1) S1 w'
 | _=>False
variable {b d:Nat} {c:Array Value} {E:TypeId} {kv:Value} {css:List (List Value)} {F:Nat->List Item} {Q:List Value->Nat->ai->Prop} {xv xs xa:Value}
theorem Am {n:Nat} (h:wV w0 X b c d E kv css F Q xv xs xa w n) (hn:n<3):w.cell? ⟨b,d,none⟩=c[d]?:=by
 rcases n with _|_|_|n
 ·obtain ⟨g,S1,cs,_,_,_,a⟩:=h;exact a.cellL (i:=0) rfl
 ·obtain ⟨g,S1,cs,j,_,_,_,a⟩:=h;exact a.cellL (i:=0) rfl
 ·obtain ⟨g,S1,cs,_,_,a⟩:=h;exact a.cellL (i:=0) rfl
 ·omega
theorem ap1 {B:Prop} (h:l0 B (wV w0 X b c d E kv css F Q xv xs xa w) 1) (hk:∀ u w',l0 B (wV w0 X b c d E kv css F Q xv u xa w') 2->K u w'):Run Tryz.prog (cf jY 1 [(0,xv)]) w K:=by
 obtain ⟨j,S1,cs,l,g,rfl,a⟩:=h;refine eO a bi (by simp [Value.cells,g.1]) (by omega) (by omega) fun i w' a=>?_;exact hk _ _ ⟨j,S1,cs,i,l,g,rfl,a⟩
theorem ap2 {B:Prop} {ty:TypeId} {bs:List Bool} (h:l0 B (wV w0 X b c d E kv css F Q xv xs xa w) 2) (p:css.length<=1000000) (hk:∀ u w',l0 B (wV w0 X b c d E kv css F Q xv xs u w') 3->K u w'):Run Tryz.prog (co .append #[jY,jY] ty bs [kv,xs]) w K:=by
 obtain ⟨j,S1,cs,q,t,l,rfl,a⟩:=h;have g:(Item.blk b (.cells c E)::aB kv ac 4 css::(F j++[ei q cs.toArray ac]))[(F j).length+1+1]?=some (ei q cs.toArray ac):=by
  rw [mG,mG,jV (aY _),fB];rfl
 refine fl a 1 cs bi (by omega) rfl (by rw [l.1]) (m:=1) (o:=0) ?_ l.2 (by omega) (by omega) fun v' C a=>?_
 ·intro i u r;rw [a.cellL g,cS];simpa using r
 rw [fO] at a;refine hk _ _ ⟨j,S1,cs,t,l,?_⟩;exact a.sub (((gV _ _).cons_cons _).cons_cons _)
theorem ap3 {B:Prop} {ty:TypeId} (h:l0 B (wV w0 X b c d E kv css F Q xv xs xa w) 3) (l:d<c.size) {K:Value->World->Prop} (hk:∀ w',l0 B (wV w0 X b c d E kv css F Q xv xs xa w') 4->K undef w'):Run Tryz.prog (sOp (.store jY (.const (kh b d)) (.const xa)) ty) w K:=by
 obtain ⟨m,S1,cs,o,j,g⟩:=h;obtain ⟨q,r,vc,a⟩:=Inv.rowSlice g 1 rfl;refine eV g 0 (n:=1) (by rw [a];rfl) (by decide +kernel) rfl (by omega) (by rw [a];simp [Value.cells,Value.oneCell']) fun p g=>?_;have i:Value.cells xa=#[xa]:=by rw [a];rfl
 have e:cu c d (Value.cells xa).toList=c.setIfInBounds d xa:=by
  rw [i];apply Da.1;simp only [cu,W4];have j:d<c.toList.length:=by simpa using l
  rw [sx,ag j];simp
 rw [e] at g;exact hk _ ⟨m,S1,cs,o,j,g⟩
end
abbrev dW (d:Nat):Nat:=6 * 3 ^ d
theorem K0 (d:Nat):6<=dW d:=by
 have:0<3 ^ d:=Nat.pow_pos (by omega);simp only [dW];omega
theorem Q9 (d:Nat):dW (d+1)=3 * dW d:=by simp only [dW,Nat.pow_succ]; omega
abbrev Xy (br:Nat) (sl:Value) (p d:Nat):Value->List Item->ai->Prop:=fun v I' S'=>∃ p',p'+2<=p+dW d/\I'=[rdI br sl p']/\∃ cs t,v=.agg cs.toArray/\RdT S' cs t/\wT t+3<=dW d/\okU 26 t
end
section
open Go Go.RowKit
theorem li {l:List Int} {n a b:Int} (g:n∈l) (h:(l.all fun n=>decide (a<=n) && decide (n<=b))=true):a<=n/\n<=b:=by
 rw [fF] at h;have:=h n g;rw [bQ,bK,bK] at this;exact this
theorem n8 {l:List ByteArray} {s:ByteArray} {m:Nat} (a:s∈l) (h:(l.all fun s=>decide (s.size<=m))=true):s.size<=m:=by
 rw [fF] at h;have:=h s a
 rwa [bK] at this
theorem Kz {Q B:Prop} {R:Nat->Prop} (a:Q->B) (g:∀ n,n<3->R n->B):∀ {n:Nat},l0 Q R n->n<4->B
 | 0,h,_=>a h
 | n+1,h,hn=>g n (by omega) h
theorem kJ:∀ l m:List T,wL (l++m)=wL l+wL m
 | [],m=>by simp [wL]
 | t::l,m=>by simp only [dg,wL,kJ l m];omega
theorem WM {n:Int} (h:0<=n/\n<26):okU 26 (.mk 1 n emptyB []):=by
 simp only [okU,cM];exact ⟨by decide,fun _=>⟨h.1,h.2,trivial,trivial⟩,trivial,by decide⟩
theorem Wq {n:Int}:okU 26 (.mk 2 n emptyB []):=by
 simp only [okU,cM];exact ⟨by decide,(fun h=>by cases h),trivial,by decide⟩
theorem Kd {s:ByteArray} {ts:List T} (a:s.size<=6) (h:cM 26 ts):okU 26 (.mk 3 0 s ts):=by
 simp only [okU];exact ⟨by decide,(fun h=>by cases h),h,a⟩
theorem MY {N:Nat}:∀ {l m:List T},cM N l->cM N m->cM N (l++m)
 | [],_,_,h=>h
 | _::_,_,h,h'=>by
  rw [cM] at h;rw [dg,cM];exact ⟨h.1,MY h.2 h'⟩
theorem pf {S:ai} {k n:Int} (hk:inI k) (hn:inI n):RdT S [ee k,ee n,.string ⟨#[]⟩,nx] (.mk k n emptyB []):=
 RdT.iff.2 ⟨_,rfl,hk,hn,aT _,ll S⟩
section
variable {w0 w:World} {X:List Nat} {L:List Item} {S:ai} {K:Value->World->Prop} {P:Program}
theorem Run.callL {f:FuncId} {fn:Func} {args:nA} {I:List Item} {Post:Value->List Item->ai->Prop}
  (hf:P.funcs[f]?=some fn) (hn:(fn.name == "runtime.NumGoroutine" || fn.body.isNone)=false) (h:Inv w0 X L S w) (hc:Tri P f args I S Post) (hL:L=L.dropLast++I)
  (hk:∀ v I' S' w',Post v I' S'->Ext w0.heap.size X S S'->Inv w0 X (L.dropLast++I') S' w'->K v w'):Run P (gn (.func (.func f) #[] #[]) args) w K:=
 Run.callE (A:=L.dropLast) hf hn (hL ▸ h) hc hk
theorem pZ {T:TypeId} {a g:Bool} {d:Nat} (h:d<=1000000) (hk:K (ee (d:Int)) w):Run P (el .sub T a g (ee ((d+1:Nat):Int)) (ee 1)) w K:=by
 refine jl (by omega) ?_;rw [show ((d+1:Nat):Int) - 1=d by omega];exact hk
theorem Ah {B:Prop} {b d:Nat} {c:Array Value} {E:TypeId} {kv xs xa:Value} {css:List (nA)} {F:Nat->List Item} {Q:nA->Nat->ai->Prop} {a:Nat} {S1:ai} {cs:nA} {t:T}
  (h:Q cs a S1) (g:RdT S1 cs t) (i:Inv w0 X (ei b c E::aB kv ac 4 css::F a) S1 w):l0 B (wV w0 X b c d E kv css F Q (.agg cs.toArray) xs xa w) 1:=
 ⟨a,S1,cs,h,⟨g.length,g.one⟩,rfl,i⟩
end
section
variable {br:Nat} {sl:Value} {ys:List Nat}
abbrev Qy (br:Nat) (sl:Value) (ys:List Nat) (d:Nat):Prop:=∀ (p:Nat) (S:ai),RdSl S 1 lY sl ys->p+3 * dW d<=1000000000->Tri Tryz.prog D7 [rdP br,ee (d:Int)] [rdI br sl p] S (Xy br sl p d)
theorem Ic {d:Nat} (d2:d<=4) (ih:∀ V,V+1=d->Qy br sl ys V):Qy br sl ys d:=by
 intro p S M hp w g;have hW:=K0 d;refine oa.2 ?_;dsimp only[oa,bv];refine aE g aQ fun b4 w' g=>?_;have g:Inv w [br] [ei b4 et ac,rdI br sl p] S w':=g.last 0 rfl;refine ⟨fun v w'=>∃ (c:Bool) (p1:Nat),v=.bool c/\p1<=p+1/\(c=false->2<=d)/\Inv w [br] [ei b4 et ac,rdI br sl p1] S w',?_,?_⟩
 ·refine cd ?_;by_cases hd:(d:Int)<2
  ·rw [aD hd];refine rpG ?_;exact ⟨true,p,rfl,by omega,(fun h=>by cases h),g⟩
  ·rw [aM hd];refine rpG ?_;refine Run.callL bW bX g (dD (n:=4) M (by omega) (by omega)) rfl fun v' I' S' w'=>?_;rintro ⟨rfl,rfl,k,hk,rfl⟩ _ g;refine a9 ?_;refine rpG ?_;exact ⟨_,p+1,rfl,by omega,fun _=>by omega,g⟩
 intro d3 _ _ _ _ _ _ w';rintro ⟨c,p1,rfl,d4,c6,g⟩;refine aL (fun _=>?_) (fun hc=>?_)
 ·refine Run.callL bW bX g (dD (n:=4) M (by omega) (by omega)) rfl fun v' I' S' w'=>?_;rintro ⟨rfl,rfl,k,hk,rfl⟩ _ g;have g:Inv w [br] [ei b4 et ac,rdI br sl (p1+1)] S' w':=g;refine a9 ?_;refine aJ (fun _=>?_) (fun _=>?_)
  ·refine Run.callL bW bX g (dD (n:=4) M (by omega) (by omega)) rfl fun v' I' S1 w'=>?_;rintro ⟨rfl,rfl,k,hk,rfl⟩ _ g;refine Run.callPure qM qh g (lo k S1) fun w' g=>?_;refine aj g 0 rfl af rfl rfl (by simp [Value.oneCell']) fun w' g=>?_;refine be g 0 af rfl rfl ?_;exact ⟨_,_,S1,rfl,g.pick [false,true],Ext.refl _ _ _,p1+2,by omega,rfl,_,_,rfl,pf (by simp [inI]) (by simp only [inI];omega),by have e:emptyB.size=0:=rfl;simp only [wT,wL,ce,e];omega,WM (by omega)⟩
  refine a9 ?_;refine aJ (fun _=>?_) (fun _=>?_)
  ·refine nq g (by kernel_rfl) rfl (by omega) fun v S1 w' B hv g=>?_;refine Run.callL er eo g (gG (p:=p1+1) (M.monoU B.1) hv (by decide) (by omega)) rfl fun v' I' S2 w'=>?_;rintro ⟨rfl,rfl,n,hn,rfl⟩ _ g;have hn:=li (a:=-1000) (b:=1000) hn (by decide);refine Run.callPure jy jG g (gv n S2) fun w' g=>?_;refine aj g 0 rfl af rfl rfl (by simp [Value.oneCell']) fun w' g=>?_;refine be g 0 af rfl rfl ?_;exact ⟨_,_,S2,rfl,g.pick [false,true],B,p1+2,by omega,rfl,_,_,rfl,pf (by simp [inI]) (by simp only [inI];omega),by have e:emptyB.size=0:=rfl;simp only [wT,wL,ce,e];omega,Wq⟩
  ·refine oF g (by kernel_rfl) rfl (by omega) fun v S1 w' B hv g=>?_;refine Run.callL fG fH g (ko (p:=p1+1) (M.monoU B.1) hv (by decide) (by omega)) rfl fun v' I' S2 w'=>?_;rintro ⟨rfl,rfl,s,hs,rfl⟩ _ g;have hs:=n8 (m:=3) hs (by decide);refine Run.call0E dl dr g (eF s (by simp only [maxLen];omega) (ll S2) (by simp)) fun v' I' S3 w'=>?_;rintro ⟨rfl,cs,rfl,l⟩ Z g;refine aj g 0 rfl af (by simpa using l.length) rfl (by simpa using l.one) fun w' g=>?_;refine be g 0 af rfl (by simpa using l.length) ?_;exact ⟨_,_,S3,rfl,g.pick [false,true],B.trans Z,p1+2,by omega,rfl,_,_,rfl,l,by simp only [wT,wL,ce];omega,Kd (by omega) (by simp only [cM])⟩
 obtain ⟨V,rfl⟩:∃ V,d=V+1:=⟨d - 1,by have:=c6 hc;omega⟩
 have ih:=ih V rfl;have hD:=K0 V;have f2:=Q9 V;have h3:dW V<=486:=by
  have:3 ^ V<=3 ^ 4:=JT (by omega) (by omega);simp only [dW];omega
 refine Run.callL bW bX g (dD (n:=3) M (by omega) (by omega)) rfl fun v' I' S w'=>?_;rintro ⟨rfl,rfl,k,hk,rfl⟩ _ g;refine a9 ?_;refine aJ (fun _=>?_) (fun _=>?_)
 ·refine pZ (by omega) ?_;refine Run.callL fX fW g (ih (p1+1) S M (by omega)) rfl fun v' I' S1 w'=>?_;rintro ⟨p2,b0,rfl,d6,t1,rfl,a6,d7,c7⟩ B g;refine pZ (by omega) ?_;refine Run.callL fX fW g (ih p2 S1 (M.monoU B.1) (by omega)) rfl fun v' I' S2 w'=>?_;rintro ⟨p3,b1,rfl,d9,t2,rfl,b6,e0,c8⟩ b7 g;have a6:=RdT.mono b7.1 a6;obtain ⟨f0,rfl,_,_,_,a1,q1,rfl,_⟩:=RdT.iff.1 a6;obtain ⟨f1,rfl,_,_,_,a2,q2,rfl,_⟩:=RdT.iff.1 b6;refine oK (v:=fun b=>.slice (some ⟨b,0,none⟩) 2 2) (o:=.cells #[ee t1.kind,ee t1.n,.string t1.name,.slice a1 t1.kids.length q1,ee t2.kind,ee t2.n,.string t2.name,.slice a2 t2.kids.length q2] ac) g (by kernel_rfl) fun b w' g=>?_;have g:Inv w [br] ([ei b4 et ac,rdI br sl p3]++[_]) S2 w':=g;obtain ⟨S3,g,Z,O⟩:=g.pub1;refine Run.call0E dl dr g (eF ⟨#[46]⟩ (by decide) (EV O (a6.mono Z.1) (b6.mono Z.1)) (by simp)) fun v' I' S4 w'=>?_;rintro ⟨rfl,cs,rfl,l⟩ a5 g;refine aj g 0 rfl af (by simpa using l.length) rfl (by simpa using l.one) fun w' g=>?_;refine be g 0 af rfl (by simpa using l.length) ?_;refine ⟨_,_,S4,rfl,g.pick [false,true],(B.trans b7).trans (Z.trans a5),p3,by omega,rfl,_,_,rfl,l,?_,Kd (by decide) (by simp only [cM];exact ⟨c7,c8,trivial⟩)⟩;have e:(ByteArray.mk #[46]).size=1:=rfl;simp only [wT,wL,aP,ce,e];omega
 ·refine oF g (by kernel_rfl) rfl (by omega) fun v S1 w' B hv g=>?_;refine Run.callL fG fH g (ko (p:=p1+1) (M.monoU B.1) hv (by decide) (by omega)) rfl fun v' I' S2 w'=>?_;rintro ⟨rfl,rfl,s,hs,rfl⟩ _ g;have hs:=n8 (m:=3) hs (by decide);refine Run.call0E dl dr g (pY s (ll S2) (by simp)) fun v' I' S3 w'=>?_;rintro ⟨rfl,kv0,a7,rfl,rfl,c9⟩ Z g;refine aE g aQ fun b5 w' g=>?_;obtain ⟨a0,n0,q0,rfl⟩:=g.rowSlice 2 rfl;refine aj g 3 rfl af rfl rfl (by simp [Value.oneCell']) fun w' g=>?_;obtain ⟨B4,c2⟩:∃ B4,B4=Item.blk b4 (.cells et ac):=⟨_,rfl⟩
  have g:Inv w [br] [ei b5 #[ee 3,ee 0,.string s,.slice a0 n0 q0] ac,aB (.slice a0 n0 q0) ac 4 a7,B4,rdI br sl (p1+2)] S3 w':=by
   rw [c2];exact ((g.last 2 rfl).last 0 rfl).last 0 rfl
  refine nq g (by kernel_rfl) rfl (by omega) fun v S4 w' a5 hv g=>?_;refine Run.callL er eo g (gG (p:=p1+2) (M.monoU ((B.trans Z).trans a5).1) hv (by decide) (by omega)) rfl fun v' I' S5 w'=>?_;rintro ⟨rfl,rfl,n,hn,rfl⟩ _ g;have hn:=li (a:=1) (b:=3) hn (by decide);have d1:Ext w.heap.size [br] S S5:=(B.trans Z).trans a5;refine ⟨fun t w'=>∃ (j p2:Nat) (S6:ai) (kv:Value) (css:List (nA)) (ts:List T),cM 26 ts/\t=ee (j:Int)/\ts.length+j<=3/\Rows 4 (RdT S6) css ts/\wL ts+3 * ts.length<=ts.length * dW V/\p2+2 * ts.length<=p1+3+ts.length * dW V/\Ext w.heap.size [br] S S6/\
   Inv w [br] [ei b5 #[ee 3,ee 0,.string s,kv] ac,aB kv ac 4 css,B4,rdI br sl p2] S6 w',fun t _=>(intOf t).toNat,
   ⟨n.toNat,p1+3,S5,_,a7,[],by simp only [cM],by rw [pw (by omega)],by simp;omega,c9.monoR fun _ _ h=>RdT.mono a5.1 h,by simp [wL],by simp,d1,g⟩,?_⟩
  intro t6 _ _ e1 e2 e3 e4 e5 e6 e7 e8 e9 _ _ w';rintro ⟨j,p2,S6,kv,css,ts,b8,rfl,hj,hR,a8,b0,b2,g⟩;have f3:=hR.hc;have hm:ts.length * dW V<=3 * dW V:=fK _ (by omega);refine fL ?_;refine aJ (fun d0=>?_) (fun d0=>?_)
  ·obtain ⟨j',rfl⟩:∃ j',j=j'+1:=⟨j - 1,by omega⟩
   refine ⟨fun D zh yD uL tq sT qU tw pW qN w_=>Fx D 0 [qN=kh b5 3,pW=kv,tw=rdP br,qU=ee ((V+1:Nat):Int),sT=ee (V:Int),True,True,True,zh=kh b5 3,True]/\∃ Y:Nat,Y<=4/\D 5=decide (1<=Y)/\D 6=decide (2<=Y)/\D 7=decide (3<=Y)/\D 9=decide (4<=Y)/\(D 9=true->D 1=true)/\(l0 (Inv w [br] [ei b5 #[ee 3,ee 0,.string s,kv] ac,aB kv ac 4 css,B4,rdI br sl p2] S6 w_) (wV w [br] b5 #[ee 3,ee 0,.string s,kv] 3 ac kv css (fun p=>[B4,rdI br sl p]) (fun cs p' S'=>∃ t,okU 26 t/\RdT S' cs t/\wT t+3<=dW V/\p'+2<=p2+dW V/\Ext w.heap.size [br] S6 S') tq uL yD w_) Y),⟨Fx.nil _ _,⟨0,aT _,rfl,rfl,rfl,rfl,(aU),g.draw⟩⟩,⟨?_,?_,?_,?_,?_,?_,?_,?_,?_,?_,trivial⟩,?_⟩;all_goals (intro D bp;intros;rename_i zh yD uL tq sT qU tw pW qN w_ b9;have N:=b9.1;obtain ⟨⟨cF,ci,cG,cD,bU,cH,cj,cR,dJ,dQ,_⟩,⟨Y,a4,C,G,J,r,U,O⟩⟩:=b9)
   ·refine ax az ?_;exact ⟨N.set 0 rfl,⟨Y,a4,C,G,J,r,U,O⟩⟩
   ·obtain rfl:=cF ‹_›;have c4:=MC r U bp;refine eD aw ((Kz (fun h=>h.cellL (i:=0) rfl) (fun n hn h=>Am h hn) O c4).trans rfl) ?_;exact ⟨N.set 1 rfl,⟨Y,a4,C,G,J,r,(fun _=>rfl),O⟩⟩
   ·exact ⟨N.set 2 rfl,⟨Y,a4,C,G,J,r,U,O⟩⟩
   ·exact ⟨N.set 3 rfl,⟨Y,a4,C,G,J,r,U,O⟩⟩
   ·obtain rfl:=cD ‹_›;refine pZ (by omega) ?_;exact ⟨N.set 4 rfl,⟨Y,a4,C,G,J,r,U,O⟩⟩
   ·obtain rfl:=cG ‹_›;obtain rfl:=bU ‹_›;obtain rfl:Y=0:=jv C bp;refine Run.callL fX fW (L:=[.blk b5 _,aB _ ac 4 css,B4,rdI br sl p2]) O (ih p2 S6 (M.monoU b2.1) (by omega)) rfl fun v' I' S7 w_=>?_;rintro ⟨p3,b1,rfl,cs,t,rfl,l,c1,b3⟩ a3 g;exact ⟨N.set 5 (by first|assumption|trivial),⟨1,by decide,rfl,(by first|exact G|rfl),(by first|exact J|rfl),(by first|exact r|rfl),U,Ah ⟨t,b3,l,c1,b1,a3⟩ l g⟩⟩
   ·have zM:=cH ‹_›;obtain rfl:Y=1:=gg C ‹D 5=true› G bp;refine ap1 O fun u w_ O=>?_;exact ⟨N.set 6 (by first|assumption|trivial),⟨2,by decide,(by first|exact C|rfl),rfl,(by first|exact J|rfl),(by first|exact r|rfl),U,O⟩⟩
   ·obtain rfl:=ci ‹_›;have vV:=cj ‹_›;obtain rfl:Y=2:=gg G ‹D 6=true› J bp;refine ap2 O (by omega) fun u w_ O=>?_;exact ⟨N.set 7 (by first|assumption|trivial),⟨3,by decide,(by first|exact C|rfl),(by first|exact G|rfl),rfl,(by first|exact r|rfl),U,O⟩⟩
   ·refine ax az ?_;exact ⟨N.set 8 rfl,⟨Y,a4,C,G,J,r,U,O⟩⟩
   ·obtain rfl:=dJ ‹_›;have Ch:=cR ‹_›;obtain rfl:Y=3:=gg J ‹D 7=true› r bp;refine ap3 O (by simp) fun w_ O=>?_;exact ⟨N.set 9 trivial,⟨4,by decide,(by first|exact C|rfl),(by first|exact G|rfl),(by first|exact J|rfl),rfl,(fun _=>‹D 1=true›),O⟩⟩
   obtain rfl:Y=4:=jD a4 r ‹D 9=true›;clear C G J r;obtain ⟨p3,S7,cs,⟨t,b3,l,c1,b1,a3⟩,hl,g⟩:=O;refine pZ (by omega) ?_;refine ⟨⟨j',p3,S7,_,_,ts++[t],MY b8 (by simp only [cM];exact ⟨b3,trivial⟩),rfl,by rw [bt];simp only [aP,ce];omega,(hR.monoR fun _ _ h=>RdT.mono a3.1 h).snoc l hl.1,?_,?_,b2.trans a3,g⟩,by simp only [intOf,dH];omega⟩
   ·rw [kJ,bt,aP,ce,hY];simp only [wL];omega
   ·rw [bt,aP,ce,hY];omega
  ·have g:Inv w [br] ([ei b5 #[ee 3,ee 0,.string s,kv] ac,B4,rdI br sl p2]++[aB kv ac 4 css]) S6 w':=g.last 1 rfl;refine aq g 0 af rfl rfl ?_;obtain ⟨S7,a3,c3,g⟩:=Inv.lendExt g;have c5:=RowRd.rows (hR.monoR fun _ _ h=>RdT.mono a3.1 h) c3;obtain ⟨a,q,rfl,_⟩:=id c5;subst c2;refine aj g 1 rfl af rfl rfl (by simp [Value.oneCell']) fun w' g=>?_;refine be g 1 af rfl rfl ?_;refine ⟨_,_,S7,rfl,g.pick [false,false,true],b2.trans a3,p2,?_,rfl,[ee 3,ee 0,.string s,_],.mk 3 0 s ts,rfl,RdT.iff.2 ⟨_,rfl,by simp [inI,T.kind],by simp [inI,T.n],by simp only [T.name,maxLen];omega,c5⟩,?_,Kd (by omega) b8⟩
   ·have:ts.length=0 ∨ ts.length=1 ∨ ts.length=2 ∨ ts.length=3:=by omega
    rcases this with h|h|h|h <;> rw [h] at b0 a8 <;> omega
   ·simp only [wT];have:ts.length=0 ∨ ts.length=1 ∨ ts.length=2 ∨ ts.length=3:=by omega
    rcases this with h|h|h|h <;> rw [h] at b0 a8 ⊢ <;> omega
theorem yQ:∀ d:Nat,d<=4->Qy br sl ys d
 | 0,h=>Ic h fun a e=>by omega
 | d+1,h=>Ic h fun a e=>by
  obtain rfl:a=d:=by omega
  exact yQ _ (by omega)
abbrev Uo (br:Nat) (sl:Value) (p k m:Nat):Value->List Item->ai->Prop:=fun v I' S'=>∃ p',p'<=p+k/\I'=[rdI br sl p']/\∃ cs t,v=.agg cs.toArray/\RdT S' cs t/\wT t<=m
theorem zw {p:Nat} {S:ai} (j:RdSl S 1 lY sl ys) (C:p<=400000000):nB OI [rdP br] [rdI br sl p] S (Uo br sl p 500 500):=by
 intro w g;refine CE.2 ?_;dsimp only[CE,bd];refine aE g aQ fun r w' g=>?_;have g:Inv w [br] [ei r et ac,rdI br sl p] S w':=g.last 0 rfl;refine nq g (by kernel_rfl) rfl (by omega) fun v S1 w' i B g=>?_;refine Run.callL er eo g (gG (p:=p) (j.monoU i.1) B (by decide) (by omega)) rfl fun v' I' S2 w'=>?_;rintro ⟨rfl,rfl,n,hn,rfl⟩ _ g;have hn:=li (a:=1) (b:=4) hn (by decide);obtain ⟨m,rfl⟩:∃ m:Nat,n=m:=⟨n.toNat,by rw [pw (by omega)]⟩
 have G:dW m<=486:=by
  have:3 ^ m<=3 ^ 4:=JT (by omega) (by omega);simp only [dW];omega
 refine Run.callL fX fW g (yQ m (by omega) (p+1) S2 (j.monoU i.1) (by omega)) rfl fun v' I' S3 w'=>?_;rintro ⟨o,q,rfl,cs,t,rfl,h,D,_⟩ l g;refine aj g 0 rfl af (by simpa using h.length) rfl (by simpa using h.one) fun w' g=>?_;refine be g 0 af rfl (by simpa using h.length) ?_;exact ⟨_,_,S3,rfl,g.pick [false,true],i.trans l,o,by omega,rfl,cs,t,rfl,h,by omega⟩
end
end
section
open Go Go.RowKit
def Bl (w:World) (b o:Nat):Nat:=match w.cell? ⟨b,o,none⟩ with
 | some (.slice _ n _)=>n
 | _=>0
theorem VV {Q Q2 B:Prop} {R:Nat->Prop} (a:Q->B) (g:Q2->B) (i:∀ n,n<3->R n->B):∀ {n:Nat},l0 Q (l0 Q2 R) n->n<5->B
 | 0,h,_=>a h
 | 1,h,_=>g h
 | n+2,h,hn=>i n (by omega) h
theorem iq {Q:Prop} {R:Nat->Prop} {n:Nat} (h:R n):l0 Q R (n+1):=h
theorem eW {Q:Prop} {R:Nat->Prop} {n:Nat} (h:l0 Q R (n+1)):R n:=h
section
variable {w0 w:World} {X:List Nat} {L A:List Item} {S:ai} {K:Value->World->Prop} {P:Program}
theorem xq (h:Inv w0 X L S w) {i b o:Nat} {c:Array Value} {E:TypeId} {a:Option Addr} {n m:Nat} (g:L[i]?=some (ei b c E)) (hc:c[o]?=some (.slice a n m)):Bl w b o=n:=by
 rw [Bl,h.cellL g,hc]
theorem xu {b:Nat} {k n:Int} {s:ByteArray} {kv:Value} {css:List (nA)} {ks:List T} {o:Obj}
  (a:Inv w0 X (.blk b o::aB kv ac 4 css::A) S w) (hR:Rows 4 (RdT S) css ks) (hk:inI k) (hn:inI n) (l:s.size<=maxLen) :
  ∃ S',Ext w0.heap.size X S S'/\Inv w0 X (.blk b o::A) S' w/\RdT S' [ee k,ee n,.string s,kv] (.mk k n s ks)/\RdSl S' 4 (RdT S') kv ks:=by
 have a:Inv w0 X ((.blk b o::A)++[aB kv ac 4 css]) S w:=a.last 1 rfl;obtain ⟨S',j,i,a⟩:=Inv.lendExt a;have g:=RowRd.rows (hR.monoR fun _ _ h=>RdT.mono j.1 h) i;exact ⟨S',j,a,RdT.iff.2 ⟨_,rfl,hk,hn,l,g⟩,g⟩
end
section
variable {br:Nat} {sl:Value} {ys:List Nat}
theorem sQ {p:Nat} {S:ai} {cs:nA} {t:T} (a5:RdSl S 1 lY sl ys) (h:RdT S cs t) (hw:wT t<=100000) (hp:p<=400000000) :
  nB JY [rdP br,.agg cs.toArray] [rdI br sl p] S (Uo br sl p 2 (wT t+100)):=by
 intro w g;have h0:=h;obtain ⟨kv0,rfl,hk,hn,hs,e3⟩:=RdT.iff.1 h;refine vh.2 ?_;dsimp only[vh,bv];refine bH g fun b3 w' g=>?_;refine aE g aQ fun b4 w' g=>?_;refine aq g 1 af rfl rfl ?_;refine Run.call0E iC iG g (Sf t S _ h0 (by omega)) fun v' I' S1 w'=>?_;rintro ⟨kv,css,rfl,rfl,hR⟩ B g;have B:Ext w.heap.size [br] S S1:=B;obtain ⟨a0,n0,q0,rfl⟩:=g.rowSlice 3 rfl;refine aE g aQ fun Y w' g=>?_;refine aj g 4 rfl af rfl rfl (by simp [Value.oneCell']) fun w' g=>?_;obtain ⟨B4,c1⟩:∃ B4,B4=Item.blk b4 (.cells et ac):=⟨_,rfl⟩
 obtain ⟨k,b0⟩:∃ k,k=t.kind:=⟨_,rfl⟩
 obtain ⟨n,b1⟩:∃ n,n=t.n:=⟨_,rfl⟩
 obtain ⟨s,a6⟩:∃ s,s=t.name:=⟨_,rfl⟩
 have d0:wT t=s.size+t.kids.length+wL t.kids:=by rw [a6];cases t;rw [wT];rfl
 rw [<- b0,<- b1,<- a6] at g;rw [<- b0] at hk;rw [<- b1] at hn;rw [<- a6] at hs;have g:Inv w [br] [ei Y #[ee k,ee n,.string s,.slice a0 n0 q0] ac,aB (.slice a0 n0 q0) ac 4 css,B4,rdI br sl p] S1 w':=by
  rw [c1];exact (((g.pick [true,false,true,true,true]).last 2 rfl).last 1 rfl).last 0 rfl
 refine ⟨fun w'=>∃ (p1:Nat) (S2:ai) (r:nA) (t1:T),p1<=p+2/\Ext w.heap.size [br] S S2/\RdT S2 r t1/\wT t1<=wT t+100/\Inv w [br] [ei Y r.toArray ac,B4,rdI br sl p1] S2 w',?_,?_⟩
 ·have V:∀ {k n:Int} {s1:ByteArray} {p1:Nat} {w':World} {S1:ai} {css:List (nA)} {kv:Value} {ks:List T},Ext w.heap.size [br] S S1->p1<=p+2->inI k->inI n->s1.size<=s.size+7->Rows 4 (RdT S1) css ks->ks.length<=t.kids.length+5->wL ks<=wL t.kids->
    Inv w [br] [ei Y #[ee k,ee n,.string s1,kv] ac,aB kv ac 4 css,B4,rdI br sl p1] S1 w'->
    ∃ (p1:Nat) (S2:ai) (r:nA) (t1:T),p1<=p+2/\Ext w.heap.size [br] S S2/\RdT S2 r t1/\wT t1<=wT t+100/\Inv w [br] [ei Y r.toArray ac,B4,rdI br sl p1] S2 w':=by
   intro k n s1 p1 w' S1 css kv ks hE a8 hk hn d3 hR b2 b6 g;obtain ⟨S2,O,g,G,_⟩:=xu (s:=s1) g hR hk hn (by simp only [maxLen];omega);exact ⟨p1,S2,_,_,a8,hE.trans O,G,by rw [wT,d0];omega,g⟩
  refine Run.callL bW bX g (dD (n:=50) (a5.monoU B.1) (by omega) (by omega)) rfl fun v' I' S1 w'=>?_;rintro ⟨rfl,rfl,kk,d4,rfl⟩ _ g;refine a9 ?_;refine aJ (fun _=>?_) (fun _=>?_)
  ·refine nq g (by kernel_rfl) rfl (by omega) fun v S3 w' l hv g=>?_;refine Run.callL er eo g (gG (p:=p+1) (a5.monoU (B.trans l).1) hv (by decide) (by omega)) rfl fun v' I' S3 w'=>?_;rintro ⟨rfl,rfl,m,hm,rfl⟩ _ g;have hm:=li (a:=-1000) (b:=1000) hm (by decide);refine cq g 0 rfl aW au rfl rfl rfl fun w' g=>?_;exact V (B.trans l) (aY _) (by simp only [inI];omega) hn (by omega) (hR.monoR fun _ _ h=>RdT.mono l.1 h) (by omega) (aY _) g
  refine a9 ?_;refine aJ (fun _=>?_) (fun _=>?_)
  ·refine nq g (by kernel_rfl) rfl (by omega) fun v S3 w' l hv g=>?_;refine Run.callL er eo g (gG (p:=p+1) (a5.monoU (B.trans l).1) hv (by decide) (by omega)) rfl fun v' I' S3 w'=>?_;rintro ⟨rfl,rfl,m,hm,rfl⟩ _ g;have hm:=li (a:=-1000) (b:=1000) hm (by decide);refine cq g 0 rfl aR au rfl rfl rfl fun w' g=>?_;exact V (B.trans l) (aY _) hk (by simp only [inI];omega) (by omega) (hR.monoR fun _ _ h=>RdT.mono l.1 h) (by omega) (aY _) g
  refine a9 ?_;refine aJ (fun _=>?_) (fun _=>?_)
  ·refine oF g (by kernel_rfl) rfl (by omega) fun v S3 w' l hv g=>?_;refine Run.callL fG fH g (ko (p:=p+1) (a5.monoU (B.trans l).1) hv (by decide) (by omega)) rfl fun v' I' S3 w'=>?_;rintro ⟨rfl,rfl,m,hm,rfl⟩ _ g;have hm:=n8 (m:=7) hm (by decide);refine cq g 0 rfl bu aV rfl rfl rfl fun w' g=>?_;exact V (B.trans l) (aY _) hk hn (by omega) (hR.monoR fun _ _ h=>RdT.mono l.1 h) (by omega) (aY _) g
  refine a9 ?_;refine aJ (fun _=>?_) (fun _=>?_)
  ·refine ⟨fun w'=>∃ (S2:ai) (kv:Value) (css:List (nA)) (ks:List T),Ext w.heap.size [br] S S2/\Rows 4 (RdT S2) css ks/\ks.length<=t.kids.length+5/\wL ks<=wL t.kids/\
     Inv w [br] [ei Y #[ee k,ee n,.string s,kv] ac,aB kv ac 4 css,B4,rdI br sl (p+1)] S2 w',fun w'=>5 - Bl w' Y 3,⟨S1,_,css,t.kids,B,hR,by omega,aY _,g⟩,?_⟩
   intro d6 d7 d9 e0 e1 e2 _ _ _ _ w';rintro ⟨S2,kv,css,ks,O,hR,b2,b6,g⟩;obtain ⟨a1,n1,q1,rfl,hn1⟩:∃ a m c,kv=.slice a m c/\m=ks.length:=by
    obtain ⟨S',_,_,_,G⟩:=xu g hR hk hn hs;obtain ⟨a,q,rfl,_⟩:=G;exact ⟨a,_,q,rfl,rfl⟩
   subst hn1;have d1:=xq g (i:=0) (o:=3) rfl rfl;have e4:=hR.hc;refine ah g 0 rfl az aw rfl ?_;refine iP ao ?_;refine jK ?_;refine aJ (fun c7=>?_) (fun c7=>?_)
   ·have g:=g;refine ⟨fun D yS uC qg uh oN uq w_=>Fx D 0 [uq=kh Y 3,oN=.slice a1 ks.length q1,True,True,True,yS=kh Y 3,True]/\∃ Z:Nat,Z<=4/\D 2=decide (1<=Z)/\D 3=decide (2<=Z)/\D 4=decide (3<=Z)/\D 6=decide (4<=Z)/\(D 6=true->D 1=true)/\(l0 (Inv w [br] [ei Y #[ee k,ee n,.string s,.slice a1 ks.length q1] ac,aB (.slice a1 ks.length q1) ac 4 css,B4,rdI br sl (p+1)] S2 w_) (wV w [br] Y #[ee k,ee n,.string s,.slice a1 ks.length q1] 3 ac (.slice a1 ks.length q1) css (fun p=>[B4,rdI br sl (p+1)]) (fun cs p' S'=>p'=p/\S'=S2/\RdT S2 cs (.mk 2 1 emptyB [])) uh qg uC w_) Z),⟨Fx.nil _ _,⟨0,aT _,rfl,rfl,rfl,rfl,(aU),g.draw⟩⟩,⟨?_,?_,?_,?_,?_,?_,?_,trivial⟩,?_⟩;all_goals (intro D bp;intros;rename_i yS uC qg uh oN uq w_ b7;have a2:=b7.1;obtain ⟨⟨cF,ci,cG,cD,bU,cH,cj,_⟩,⟨Z,a7,J,M,N,C,a3,U⟩⟩:=b7)
    ·refine ax az ?_;exact ⟨a2.set 0 rfl,⟨Z,a7,J,M,N,C,a3,U⟩⟩
    ·obtain rfl:=cF ‹_›;have c3:=MC C a3 bp;refine eD aw ((Kz (fun h=>h.cellL (i:=0) rfl) (fun n hn h=>Am h hn) U c3).trans rfl) ?_;exact ⟨a2.set 1 rfl,⟨Z,a7,J,M,N,C,(fun _=>rfl),U⟩⟩
    ·obtain rfl:Z=0:=jv J bp;refine Run.callPure jy jG (L:=[.blk Y _,aB _ ac 4 css,B4,rdI br sl (p+1)]) U (gv 1 S2) fun w_ g=>?_;exact ⟨a2.set 2 (by first|assumption|trivial),⟨1,by decide,rfl,(by first|exact M|rfl),(by first|exact N|rfl),(by first|exact C|rfl),a3,Ah ⟨rfl,rfl,pf (by simp [inI]) (by simp [inI])⟩ (pf (by simp [inI]) (by simp [inI])) g⟩⟩
    ·have Vf:=cG ‹_›;obtain rfl:Z=1:=gg J ‹D 2=true› M bp;refine ap1 U fun u w_ U=>?_;exact ⟨a2.set 3 (by first|assumption|trivial),⟨2,by decide,(by first|exact J|rfl),rfl,(by first|exact N|rfl),(by first|exact C|rfl),a3,U⟩⟩
    ·obtain rfl:=ci ‹_›;have OA:=cD ‹_›;obtain rfl:Z=2:=gg M ‹D 3=true› N bp;refine ap2 U (by omega) fun u w_ U=>?_;exact ⟨a2.set 4 (by first|assumption|trivial),⟨3,by decide,(by first|exact J|rfl),(by first|exact M|rfl),rfl,(by first|exact C|rfl),a3,U⟩⟩
    ·refine ax az ?_;exact ⟨a2.set 5 rfl,⟨Z,a7,J,M,N,C,a3,U⟩⟩
    ·obtain rfl:=cH ‹_›;have Dr:=bU ‹_›;obtain rfl:Z=3:=gg N ‹D 4=true› C bp;refine ap3 U (by simp) fun w_ U=>?_;exact ⟨a2.set 6 trivial,⟨4,by decide,(by first|exact J|rfl),(by first|exact M|rfl),(by first|exact N|rfl),rfl,(fun _=>‹D 1=true›),U⟩⟩
    obtain rfl:Z=4:=jD a7 C ‹D 6=true›;clear J M N C;obtain ⟨p3,S7,cs,⟨rfl,rfl,c9⟩,hl,g⟩:=U;have c4:=hR.snoc c9 hl.1;refine ⟨⟨S7,_,_,_,O,c4,by rw [bt];simp only [aP,ce];omega,by rw [kJ];have e:emptyB.size=0:=rfl;simp only [wL,wT,ce,e];omega,g⟩,?_⟩;obtain ⟨S',_,_,_,G⟩:=xu g c4 hk hn hs;obtain ⟨a,q,e,_⟩:=G;have d2:=xq g (i:=0) (o:=3) (a:=a) (n:=(ks++[T.mk 2 1 emptyB []]).length) (m:=q) rfl (by rw [<- e];rfl);show 5 - Bl w_ Y 3<5 - Bl w' Y 3;rw [d1,d2,bt,aP,ce];omega
   ·exact V O (by omega) hk hn (by omega) hR b2 b6 g
  refine a9 ?_;refine aJ (fun _=>?_) (fun _=>?_)
  ·obtain ⟨S2,O,g,G,_⟩:=xu g hR hk hn hs;have g:Inv w [br] [ei Y #[ee k,ee n,.string s,.slice a0 n0 q0] ac,B4,rdI br sl (p+1)] S2 w':=g;have ht:T.mk k n s t.kids=t:=by rw [b0,b1,a6];cases t;rfl
   rw [ht] at G;refine ⟨fun t6 w'=>∃ (j:Nat) (S3:ai) (r:nA) (t1:T),t6=ee (j:Int)/\j<=30/\Ext w.heap.size [br] S S3/\RdT S3 r t1/\wT t1<=wT t+2 * j/\Inv w [br] [ei Y r.toArray ac,B4,rdI br sl (p+1)] S3 w',fun t6 _=>30 - (intOf t6).toNat,
    ⟨0,S2,_,t,rfl,by omega,B.trans O,G,by omega,g⟩,?_⟩
   intro t6 _ _ _ _ _ _ _ w';rintro ⟨j,S3,r,t1,rfl,hj,l,G,b9,g⟩;refine cd ?_;refine aJ (fun c8=>?_) (fun c8=>?_)
   ·refine aq g 0 af rfl (by simpa using G.length) ?_;refine eO g bi (by simp [Value.cells,G.length]) (by omega) (by omega) fun b8 w' g=>?_;obtain ⟨S4,g,c2,U⟩:=g.pub1;refine Run.call0E dl dr g (eF ⟨#[115]⟩ (by decide) (U5 U (G.mono c2.1)) (by simp)) fun v' I' S5 w'=>?_;rintro ⟨rfl,c5,rfl,a4⟩ c6 g;have g:Inv w [br] [ei Y r.toArray ac,B4,rdI br sl (p+1)] S5 w':=by simpa using g
    refine aj g 0 rfl af (by simpa using a4.length) (by simpa using G.length) (by simpa using a4.one) fun w' g=>?_;refine bL (by omega) ?_;have e:(ByteArray.mk #[115]).size=1:=rfl;exact ⟨⟨j+1,S5,c5,_,rfl,by omega,l.trans (c2.trans c6),a4,by simp only [wT,wL,aP,ce,e];omega,g⟩,by simp only [intOf,dH];omega⟩
   ·exact ⟨p+1,S3,r,t1,by omega,l,G,by omega,g⟩
  ·exact V B (by omega) hk hn (by omega) hR (by omega) (aY _) g
 intro _ _ _ _ _ _ _ _ _ _ _ _ _ _ _ _ _ _ _ _ _ _ _ _ _ _ _ _ _ _ _ _ _ _ _ _ _ _ _ _ _ _ w';rintro ⟨p1,S2,r,t1,a8,O,G,b9,g⟩;subst c1;refine aq g 0 af rfl (by simpa using G.length) ?_;refine aj g 1 rfl af (by simpa using G.length) rfl (by simpa using G.one) fun w' g=>?_;refine be g 1 af rfl (by simpa using G.length) ?_;exact ⟨_,_,S2,rfl,g.pick [false,false,true],O,p1,a8,rfl,r,t1,rfl,G,b9⟩
end
end
section
open Go Go.RowKit
section
variable {w0 w:World} {X:List Nat} {L A:List Item} {S:ai} {K:Value->World->Prop} {P:Program}
theorem zo {b:Nat} {i:nA} {h:T} {kv:Value} {css:List (nA)} {ks:List T} {o:Obj}
  (a:Inv w0 X (.blk b o::aB kv ac 4 css::A) S w) (hR:Rows 4 (RdT S) css ks) (m:RdT S i h) :
  ∃ S',Ext w0.heap.size X S S'/\Inv w0 X (.blk b o::A) S' w/\RdC S' (i++[kv]) ⟨h,ks⟩/\RdSl S' 4 (RdT S') kv ks:=by
 have a:Inv w0 X ((.blk b o::A)++[aB kv ac 4 css]) S w:=a.last 1 rfl;obtain ⟨S',j,l,a⟩:=Inv.lendExt a;have g:=RowRd.rows (hR.monoR fun _ _ h=>RdT.mono j.1 h) l;exact ⟨S',j,a,⟨i,kv,rfl,m.mono j.1,g⟩,g⟩
end
abbrev XB (br:Nat) (sl:Value) (p k m:Nat):Value->List Item->ai->Prop:=fun v I' S'=>∃ p',p'<=p+k/\I'=[rdI br sl p']/\∃ cs c,v=.agg cs.toArray/\RdC S' cs c/\wC c<=m
section
variable {br:Nat} {sl:Value} {ys:List Nat}
theorem Ef {p:Nat} {S:ai} {cs:nA} {c:C} (a8:RdSl S 1 lY sl ys) (h:RdC S cs c) (hw:wC c<=100000) (hp:p<=90000000) :
  nB JS [rdP br,.agg cs.toArray] [rdI br sl p] S (XB br sl p 600 (wC c+700)):=by
 intro w g;have d7:=h.length;refine uD.2 ?_;dsimp only[uD,bv];refine bH g fun b3 w' g=>?_;refine aE g cI fun b4 w' g=>?_;refine aq g 1 aK rfl (by simpa [Value.cells] using d7) ?_;refine Run.call0E r6 sY g (Sx h (by omega)) fun v' I' S1 w'=>?_;rintro ⟨hd,kv,css,rfl,a7,rfl,hR⟩ U g;have U:Ext w.heap.size [br] S S1:=U;obtain ⟨a0,n0,q0,rfl⟩:=g.rowSlice 3 rfl;have a4:=a7;obtain ⟨k4,rfl,hk,hn,hs,_⟩:=RdT.iff.1 a7;obtain ⟨ak,nk,ck,d4⟩:∃ a n c,k4=.slice a n c:=by
  obtain ⟨_,e,_,_,_,a,q,rfl,_⟩:=RdT.iff.1 a4;simp only [uW,and_true,v6] at e;exact ⟨_,_,_,e⟩
 subst d4;refine aE g cI fun b5 w' g=>?_;refine aj g 4 rfl aK rfl rfl (by simp [Value.oneCell']) fun w' g=>?_;obtain ⟨B4,c7⟩:∃ B4,B4=Item.blk b4 (.cells eu ad):=⟨_,rfl⟩
 have g:Inv w [br] [ei b5 #[ee c.head.kind,ee c.head.n,.string c.head.name,.slice ak nk ck,.slice a0 n0 q0] ad,aB (.slice a0 n0 q0) ac 4 css,B4,rdI br sl p] S1 w':=by
  rw [c7];exact (((g.pick [true,false,true,true,true]).last 2 rfl).last 1 rfl).last 0 rfl
 have f7:wC c=wT c.head+c.body.length+wL c.body:=rfl;refine ⟨fun w'=>∃ (p1:Nat) (S2:ai) (a6:nA) (c1:C),p1<=p+600/\Ext w.heap.size [br] S S2/\RdC S2 a6 c1/\wC c1<=wC c+700/\Inv w [br] [ei b5 a6.toArray ad,B4,rdI br sl p1] S2 w',?_,?_⟩
 ·have a5:∀ {hd:nA} {h:T} {p1:Nat} {w':World} {S1:ai} {css:List (nA)} {kv:Value} {ks:List T},Ext w.heap.size [br] S S1->p1<=p+600->RdT S1 hd h->Rows 4 (RdT S1) css ks->wT h+ks.length+wL ks<=wC c+700->
    Inv w [br] [ei b5 (hd++[kv]).toArray ad,aB kv ac 4 css,B4,rdI br sl p1] S1 w'->
    ∃ (p1:Nat) (S2:ai) (a6:nA) (c1:C),p1<=p+600/\Ext w.heap.size [br] S S2/\RdC S2 a6 c1/\wC c1<=wC c+700/\Inv w [br] [ei b5 a6.toArray ad,B4,rdI br sl p1] S2 w':=by
   intro hd h p1 w' S1 css kv ks hE b8 hh hR d0 g;obtain ⟨S2,O,g,hr,_⟩:=zo g hR hh;exact ⟨p1,S2,_,_,b8,hE.trans O,hr,d0,g⟩
  refine Run.callL bW bX g (dD (n:=40) (a8.monoU U.1) (by omega) (by omega)) rfl fun v' I' S1 w'=>?_;rintro ⟨rfl,rfl,kk,e6,rfl⟩ _ g;refine a9 ?_;refine aJ (fun _=>?_) (fun _=>?_)
  ·refine Run.callL CG BC g (zw (p:=p+1) (a8.monoU U.1) (by omega)) rfl fun v' I' S2 w'=>?_;rintro ⟨p2,c4,rfl,b9,t2,rfl,b0,c2⟩ O g;refine Run.callL uX vq g (sQ (p:=p2) (a8.monoU (U.trans O).1) b0 (by omega) (by omega)) rfl fun v' I' S3 w'=>?_;rintro ⟨p3,c5,rfl,c6,t3,rfl,b1,d1⟩ Y g;have c8:=b1;obtain ⟨k3,rfl,_,_,_,a3,q3,rfl,_⟩:=RdT.iff.1 b1;refine ax cV ?_;refine LR g 0 rfl af rfl rfl (by simp [Value.cells,Value.oneCell']) fun w' g=>?_;exact a5 ((U.trans O).trans Y) (by omega) c8 (hR.monoR fun _ _ h=>RdT.mono (O.trans Y).1 h) (by omega) g
  refine a9 ?_;refine aJ (fun _=>?_) (fun _=>?_)
  ·have d9:=hR.hc;have g:=g;refine ⟨fun D BJ rP ja oO rj pr oM lT mY w_=>Fx D 0 [mY=kh b5 4,lT=.slice a0 n0 q0,oM=rdP br,pr=rdP br,True,True,True,True,BJ=kh b5 4,True]/\∃ J:Nat,J<=5/\D 4=decide (1<=J)/\D 5=decide (2<=J)/\D 6=decide (3<=J)/\D 7=decide (4<=J)/\D 9=decide (5<=J)/\(D 9=true->D 1=true)/\(l0 (Inv w [br] [ei b5 #[ee c.head.kind,ee c.head.n,.string c.head.name,.slice ak nk ck,.slice a0 n0 q0] ad,aB (.slice a0 n0 q0) ac 4 css,B4,rdI br sl (p+1)] S1 w_) (l0 (∃ p1 S2 cs t,rj=.agg cs.toArray/\RdT S2 cs t/\wT t<=500/\p1<=p+501/\Ext w.heap.size [br] S1 S2/\Inv w [br] [ei b5 #[ee c.head.kind,ee c.head.n,.string c.head.name,.slice ak nk ck,.slice a0 n0 q0] ad,aB (.slice a0 n0 q0) ac 4 css,B4,rdI br sl p1] S2 w_) (wV w [br] b5 #[ee c.head.kind,ee c.head.n,.string c.head.name,.slice ak nk ck,.slice a0 n0 q0] 4 ad (.slice a0 n0 q0) css (fun p=>[B4,rdI br sl p]) (fun cs p' S'=>∃ t,RdT S' cs t/\wT t<=600/\p'<=p+503/\Ext w.heap.size [br] S1 S') oO ja rP w_)) J),⟨Fx.nil _ _,⟨0,aT _,rfl,rfl,rfl,rfl,rfl,(aU),g.draw⟩⟩,⟨?_,?_,?_,?_,?_,?_,?_,?_,?_,?_,trivial⟩,?_⟩;all_goals (intro D bp;intros;rename_i BJ rP ja oO rj pr oM lT mY w_ b2;have G:=b2.1;obtain ⟨⟨cF,ci,cG,cD,bU,cH,cj,cR,dJ,dQ,_⟩,⟨J,Z,l,r,B,j,V,N,M⟩⟩:=b2)
   ·refine ax bS ?_;exact ⟨G.set 0 rfl,⟨J,Z,l,r,B,j,V,N,M⟩⟩
   ·obtain rfl:=cF ‹_›;have b6:=MC V N bp;refine eD aw ((VV (fun h=>h.cellL (i:=0) rfl) (fun ⟨_,_,_,_,_,_,_,_,_,h⟩=>h.cellL (i:=0) rfl) (fun n hn h=>Am h hn) M b6).trans rfl) ?_;exact ⟨G.set 1 rfl,⟨J,Z,l,r,B,j,V,(fun _=>rfl),M⟩⟩
   ·exact ⟨G.set 2 rfl,⟨J,Z,l,r,B,j,V,N,M⟩⟩
   ·exact ⟨G.set 3 rfl,⟨J,Z,l,r,B,j,V,N,M⟩⟩
   ·obtain rfl:=cD ‹_›;obtain rfl:J=0:=jv l bp;refine Run.callL CG BC (L:=[.blk b5 _,aB _ ac 4 css,B4,rdI br sl (p+1)]) M (zw (p:=p+1) (a8.monoU U.1) (by omega)) rfl fun v' I' S2 w_=>?_;rintro ⟨p2,c4,rfl,b9,t2,rfl,b0,c2⟩ O g;exact ⟨G.set 4 (by first|assumption|trivial),⟨1,by decide,rfl,(by first|exact r|rfl),(by first|exact B|rfl),(by first|exact j|rfl),(by first|exact V|rfl),N,⟨p2,S2,b9,t2,rfl,b0,c2,by omega,O,g⟩⟩⟩
   ·obtain rfl:=cG ‹_›;have Dr:=bU ‹_›;obtain rfl:J=1:=gg l ‹D 4=true› r bp;obtain ⟨p2,S2,b9,t2,rfl,b0,c2,c4,O,g⟩:=eW M;refine Run.callL uX vq (L:=[.blk b5 _,aB _ ac 4 css,B4,rdI br sl p2]) g (sQ (p:=p2) (a8.monoU (U.trans O).1) b0 (by omega) (by omega)) rfl fun v' I' S3 w_=>?_;rintro ⟨p3,c5,rfl,c6,t3,rfl,b1,d1⟩ Y g;exact ⟨G.set 5 (by first|assumption|trivial),⟨2,by decide,(by first|exact l|rfl),rfl,(by first|exact B|rfl),(by first|exact j|rfl),(by first|exact V|rfl),N,iq (Ah ⟨t3,b1,by omega,by omega,O.trans Y⟩ b1 g)⟩⟩
   ·have zM:=cH ‹_›;obtain rfl:J=2:=gg r ‹D 5=true› B bp;refine ap1 (eW M) fun u w_ M=>?_;exact ⟨G.set 6 (by first|assumption|trivial),⟨3,by decide,(by first|exact l|rfl),(by first|exact r|rfl),rfl,(by first|exact j|rfl),(by first|exact V|rfl),N,iq M⟩⟩
   ·obtain rfl:=ci ‹_›;have vV:=cj ‹_›;obtain rfl:J=3:=gg B ‹D 6=true› j bp;refine ap2 (eW M) (by omega) fun u w_ M=>?_;exact ⟨G.set 7 (by first|assumption|trivial),⟨4,by decide,(by first|exact l|rfl),(by first|exact r|rfl),(by first|exact B|rfl),rfl,(by first|exact V|rfl),N,iq M⟩⟩
   ·refine ax bS ?_;exact ⟨G.set 8 rfl,⟨J,Z,l,r,B,j,V,N,M⟩⟩
   ·obtain rfl:=dJ ‹_›;have Ch:=cR ‹_›;obtain rfl:J=4:=gg j ‹D 7=true› V bp;refine ap3 (eW M) (by simp) fun w_ M=>?_;exact ⟨G.set 9 trivial,⟨5,by decide,(by first|exact l|rfl),(by first|exact r|rfl),(by first|exact B|rfl),(by first|exact j|rfl),rfl,(fun _=>‹D 1=true›),iq M⟩⟩
   obtain rfl:J=5:=jD Z V ‹D 9=true›;clear l r B j V;obtain ⟨p3,S7,cs,⟨t,c3,f6,c5,a2⟩,hl,g⟩:=eW (eW M);exact a5 (U.trans a2) (by omega) (a4.mono a2.1) ((hR.monoR fun _ _ h=>RdT.mono a2.1 h).snoc c3 hl.1) (by rw [kJ,bt,aP,ce];simp only [wL];omega) g
  refine a9 ?_;refine aJ (fun _=>?_) (fun _=>?_)
  ·refine ⟨fun w'=>∃ (S2:ai) (kv:Value) (css:List (nA)) (ks:List T),Ext w.heap.size [br] S S2/\Rows 4 (RdT S2) css ks/\ks.length<=c.body.length+7/\wL ks+4 * (7 - (ks.length - c.body.length))<=wL c.body+28/\c.body.length<=ks.length/\
     RdT S2 (kB c.head (.slice ak nk ck)) c.head/\
     Inv w [br] [ei b5 #[ee c.head.kind,ee c.head.n,.string c.head.name,.slice ak nk ck,kv] ad,aB kv ac 4 css,B4,rdI br sl (p+1)] S2 w',fun w'=>7 - Bl w' b5 4,⟨S1,_,css,c.body,U,hR,by omega,by omega,by omega,a4,g⟩,?_⟩
   intro e7 e8 e9 f0 f1 f2 _ _ _ _ w';rintro ⟨S2,kv,css,ks,O,hR,f3,f4,f5,a7,g⟩;obtain ⟨a1,n1,q1,rfl,hn1⟩:∃ a m c,kv=.slice a m c/\m=ks.length:=by
    obtain ⟨S',_,_,_,hr⟩:=zo g hR a7;obtain ⟨a,q,rfl,_⟩:=hr;exact ⟨a,_,q,rfl,rfl⟩
   subst hn1;have e0:=xq g (i:=0) (o:=4) rfl rfl;have d9:=hR.hc;refine ah g 0 rfl bS aw rfl ?_;refine iP ao ?_;refine jK ?_;refine aJ (fun d3=>?_) (fun d3=>?_)
   ·have g:=g;refine ⟨fun D uC qg uh oN uq xG w_=>Fx D 0 [xG=kh b5 4,uq=.slice a1 ks.length q1,True,True,True,uC=kh b5 4,True]/\∃ J:Nat,J<=4/\D 2=decide (1<=J)/\D 3=decide (2<=J)/\D 4=decide (3<=J)/\D 6=decide (4<=J)/\(D 6=true->D 1=true)/\(l0 (Inv w [br] [ei b5 #[ee c.head.kind,ee c.head.n,.string c.head.name,.slice ak nk ck,.slice a1 ks.length q1] ad,aB (.slice a1 ks.length q1) ac 4 css,B4,rdI br sl (p+1)] S2 w_) (wV w [br] b5 #[ee c.head.kind,ee c.head.n,.string c.head.name,.slice ak nk ck,.slice a1 ks.length q1] 4 ad (.slice a1 ks.length q1) css (fun p=>[B4,rdI br sl (p+1)]) (fun cs p' S'=>p'=p/\Ext w.heap.size [br] S2 S'/\RdT S' cs (.mk 3 0 ⟨#[116,114,117,101]⟩ [])) oN uh qg w_) J),⟨Fx.nil _ _,⟨0,aT _,rfl,rfl,rfl,rfl,(aU),g.draw⟩⟩,⟨?_,?_,?_,?_,?_,?_,?_,trivial⟩,?_⟩;all_goals (intro D bp;intros;rename_i uC qg uh oN uq xG w_ b2;have G:=b2.1;obtain ⟨⟨cF,ci,cG,cD,bU,cH,cj,_⟩,⟨J,Z,l,r,B,j,N,M⟩⟩:=b2)
    ·refine ax bS ?_;exact ⟨G.set 0 rfl,⟨J,Z,l,r,B,j,N,M⟩⟩
    ·obtain rfl:=cF ‹_›;have b6:=MC j N bp;refine eD aw ((Kz (fun h=>h.cellL (i:=0) rfl) (fun n hn h=>Am h hn) M b6).trans rfl) ?_;exact ⟨G.set 1 rfl,⟨J,Z,l,r,B,j,(fun _=>rfl),M⟩⟩
    ·obtain rfl:J=0:=jv l bp;refine Run.call0E dl dr (L:=[.blk b5 _,aB _ ac 4 css,B4,rdI br sl (p+1)]) M (eF ⟨#[116,114,117,101]⟩ (by decide) (ll S2) (by simp)) fun v' I' S3 w_=>?_;rintro ⟨rfl,c6,rfl,b7⟩ Y g;exact ⟨G.set 2 (by first|assumption|trivial),⟨1,by decide,rfl,(by first|exact r|rfl),(by first|exact B|rfl),(by first|exact j|rfl),N,Ah ⟨rfl,Y,b7⟩ b7 g⟩⟩
    ·have Vf:=cG ‹_›;obtain rfl:J=1:=gg l ‹D 2=true› r bp;refine ap1 M fun u w_ M=>?_;exact ⟨G.set 3 (by first|assumption|trivial),⟨2,by decide,(by first|exact l|rfl),rfl,(by first|exact B|rfl),(by first|exact j|rfl),N,M⟩⟩
    ·obtain rfl:=ci ‹_›;have OA:=cD ‹_›;obtain rfl:J=2:=gg r ‹D 3=true› B bp;refine ap2 M (by omega) fun u w_ M=>?_;exact ⟨G.set 4 (by first|assumption|trivial),⟨3,by decide,(by first|exact l|rfl),(by first|exact r|rfl),rfl,(by first|exact j|rfl),N,M⟩⟩
    ·refine ax bS ?_;exact ⟨G.set 5 rfl,⟨J,Z,l,r,B,j,N,M⟩⟩
    ·obtain rfl:=cH ‹_›;have Dr:=bU ‹_›;obtain rfl:J=3:=gg B ‹D 4=true› j bp;refine ap3 M (by simp) fun w_ M=>?_;exact ⟨G.set 6 trivial,⟨4,by decide,(by first|exact l|rfl),(by first|exact r|rfl),(by first|exact B|rfl),rfl,(fun _=>‹D 1=true›),M⟩⟩
    obtain rfl:J=4:=jD Z j ‹D 6=true›;clear l r B j;obtain ⟨p3,S7,cs,⟨rfl,a2,c3⟩,hl,g⟩:=M;have c9:=(hR.monoR fun _ _ h=>RdT.mono a2.1 h).snoc c3 hl.1;have e4:(ByteArray.mk #[116,114,117,101]).size=4:=rfl;refine ⟨⟨S7,_,_,_,O.trans a2,c9,by rw [bt];simp only [aP,ce];omega,by rw [kJ,bt,aP,ce];simp only [wL,wT,ce,e4];omega,by rw [bt];omega,a7.mono a2.1,g⟩,?_⟩;obtain ⟨S',_,_,_,hr⟩:=zo g c9 (a7.mono a2.1);obtain ⟨a,q,e,_⟩:=hr;have e1:=xq g (i:=0) (o:=4) (a:=a) (n:=(ks++[T.mk 3 0 ⟨#[116,114,117,101]⟩ []]).length) (m:=q) rfl (by rw [<- e];rfl);show 7 - Bl w_ b5 4<7 - Bl w' b5 4;rw [e0,e1,bt,aP,ce];omega
   ·exact a5 O (by omega) a7 hR (by omega) g
  refine a9 ?_;refine aJ (fun _=>?_) (fun _=>?_)
  ·refine oF g (by kernel_rfl) rfl (by omega) fun v S3 w' Y hv g=>?_;refine Run.callL fG fH g (ko (p:=p+1) (a8.monoU (U.trans Y).1) hv (by decide) (by omega)) rfl fun v' I' S3 w'=>?_;rintro ⟨rfl,rfl,m,hm,rfl⟩ _ g;have hm:=n8 (m:=7) hm (by decide);refine ax cV ?_;refine ax bu ?_;refine eV g 0 (n:=1) rfl (by decide +kernel) rfl (by simp) (by simp [Value.cells,Value.oneCell']) fun w' g=>?_;have e2:=a4.mono Y.1;obtain ⟨k3,e3,_,_,_,d6⟩:=RdT.iff.1 e2;have e5:RdT S3 [ee c.head.kind,ee c.head.n,.string m,.slice ak nk ck] (.mk c.head.kind c.head.n m c.head.kids):=by
    simp only [uW,and_true,v6] at e3;exact RdT.iff.2 ⟨_,rfl,hk,hn,by simp only [T.name,maxLen];omega,e3 ▸ d6⟩
   refine a5 (U.trans Y) (by omega) e5 (hR.monoR fun _ _ h=>RdT.mono Y.1 h) ?_ g;have:wT c.head=c.head.name.size+c.head.kids.length+wL c.head.kids:=by cases c.head;rw [wT];rfl
   rw [wT];omega
  ·exact a5 U (by omega) a4 hR (by omega) g
 intro _ _ _ _ _ _ _ _ _ _ _ _ _ _ _ _ _ _ _ _ _ _ _ _ _ _ _ _ _ _ _ _ _ _ _ _ _ _ _ w';rintro ⟨p1,S2,a6,c1,b8,O,hr,d2,g⟩;subst c7;refine aq g 0 aK rfl (by simpa using hr.length) ?_;refine aj g 1 rfl aK (by simpa using hr.length) rfl (by simpa using hr.one) fun w' g=>?_;refine be g 1 aK rfl (by simpa using hr.length) ?_;exact ⟨_,_,S2,rfl,g.pick [false,false,true],O,p1,b8,rfl,a6,c1,rfl,hr,d2⟩
end
end
section
open Go Go.RowKit
def Light (n m:Nat) (q:List C):Prop:=q.length<=n/\∀ c∈q,wC c<=m
theorem Light.le {n m:Nat} {q:List C} (h:Light n m q):q.length+wP q<=n+n * m:=by
 have:∀ q:List C,(∀ c∈q,wC c<=m)->wP q<=q.length * m:=by
  intro q;induction q with
  | nil=>intro _;simp [wP]
  | cons c q j=>
   intro h;have g:=h c (bF ..);have i:=j fun d a=>h d (bI _ a);simp only [wP,aP,ip];omega
 have g:=this q h.2;have i:q.length * m<=n * m:=fK _ h.1;have:=h.1;omega
theorem Light.append {n a m:Nat} {q g:List C} (h:Light n m q) (i:Light a m g):Light (n+a) m (q++g):=
 ⟨by rw [bt];exact Nat.add_le_add h.1 i.1,fun c hc=>(cU.1 hc).elim (h.2 c) (i.2 c)⟩
abbrev Xs (br:Nat) (sl:Value) (p k n m:Nat):Value->List Item->ai->Prop:=fun v I' S'=>∃ p' css q,p'<=p+k/\I'=[aB v ad 5 css,rdI br sl p']/\Rows 5 (RdC S') css q/\Light n m q/\0<q.length/\∀ c∈q,aZ c=true
section
variable {w0 w:World} {X:List Nat} {L A:List Item} {S:ai}
theorem TU {v:Value} {css:List (nA)} {q:List C} (a:Inv w0 X (aB v ad 5 css::A) S w) (hR:Rows 5 (RdC S) css q) :
  ∃ S',Ext w0.heap.size X S S'/\Inv w0 X A S' w/\RdSl S' 5 (RdC S') v q:=by
 have a:Inv w0 X (A++[aB v ad 5 css]) S w:=a.last 0 rfl;obtain ⟨S',i,g,a⟩:=Inv.lendExt a;exact ⟨S',i,a,RowRd.rows (hR.monoR fun _ _ h=>RdC.mono i.1 h) g⟩
end
section
variable {br:Nat} {sl:Value} {ys:List Nat}
end
end
section
open Go Go.RowKit
def okS (s:ByteArray):Bool:=U2 (bs s) && decide (s.size<=1000)
theorem VA {s:ByteArray} (h:okS s=true):∃ q,Rw 60 (bs s)=some q/\0<q.length/\Light 8 200 q/\(∀ c∈q,aZ c=true)/\s.size<=1000:=by
 rw [okS,bQ,bK] at h;obtain ⟨h,g⟩:=h;unfold U2 at h;split at h
 ·rename_i q a
  simp only [bQ,bK,fF] at h;exact ⟨q,a,h.1,⟨h.2.1,fun c hc=>(h.2.2 c hc).2⟩,fun c hc=>(h.2.2 c hc).1,g⟩
 ·cases h
theorem Sp {Q B:Prop} {R:Nat->Prop} {m:Nat} (a:Q->B) (g:∀ n,n<m->R n->B):∀ n,n<m+1->l0 Q R n->B
 | 0,_,h=>a h
 | n+1,hn,h=>g n (by omega) h
section
theorem Tj {S:ai} {s:ByteArray} (h:okS s=true):nB pn [.string s] [] S fun v I' S'=>∃ u css q,v=.tuple #[u,.bool true]/\I'=[aB u ad 5 css]/\Rows 5 (RdC S') css q/\0<q.length/\Light 8 200 q/\∀ c∈q,aZ c=true:=by
 obtain ⟨q,i,j,l,hc,o⟩:=VA h;intro w a;have m:(bs s).length=s.size:=(lj (bs s)).symm;refine (vI (f:=60) (by omega) i (by rw [m];omega) w a).mono ?_;rintro e w' ⟨v,I',S',rfl,a,g,u,css,rfl,rfl,hR⟩;exact ⟨_,_,S',rfl,a,g,u,css,q,rfl,rfl,hR,j,l,hc⟩
theorem GZ (S:ai):nB Nq [] [] S fun v I' S'=>I'=[]/\∃ l,RdSl S' 1 xK v l/\l.length=11/\l.all okS=true:=by
 intro w a;refine yL.2 ?_;dsimp only[yL,nR];refine oF a (by kernel_rfl) rfl (by omega) fun v S1 w' g h a=>?_;exact ⟨_,[],S1,rfl,a,g,rfl,_,h,rfl,by decide +kernel⟩
variable {br:Nat} {sl:Value} {ys:List Nat}
theorem C4 {p:Nat} {S:ai} (i:RdSl S 1 lY sl ys) (D:p<=100000000):nB Ht [rdP br] [rdI br sl p] S (Xs br sl p 1 8 200):=by
 intro w a;refine sX.2 ?_;dsimp only[sX,bd];refine Run.call0E JW KA a (GZ S) fun v' I' S1 w'=>?_;rintro ⟨rfl,l,r,t,g⟩ h a;have a:Inv w [br] [rdI br sl p] S1 w':=a;refine aO r dM ?_;refine Run.callL bW bX a (dD (n:=l.length) (i.monoU h.1) (by omega) (by omega)) rfl fun v' I' S1 w'=>?_;rintro ⟨rfl,rfl,k,hk,rfl⟩ _ a;have a:Inv w [br] [rdI br sl (p+1)] S1 w':=a;refine jq a r dM aV hk (fun cs o=>o) ?_;rw [fF] at g;refine Run.call0E xL xM a (Tj (g _ (cO hk))) fun v I' S2 w'=>?_;rintro ⟨u,css,q,rfl,rfl,hR,B,C,j⟩ m a;refine aA (v:=u) rfl ?_;refine aA (v:=.bool true) rfl ?_;exact ⟨_,_,S2,rfl,a.last 0 rfl,h.trans m,p+1,css,q,aY _,rfl,hR,C,B,j⟩
end
end
end Go.Proofs.YtjbcdmheajljpaaGreat
