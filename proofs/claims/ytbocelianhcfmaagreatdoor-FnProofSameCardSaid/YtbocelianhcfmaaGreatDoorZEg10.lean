/- Whether terms are the same: the program's side. -/
import Derived.Test.YtbocelianhcfmaaGreatDoorZEg9
import Derived.Test.YtbocelianhcfmaaGreatDoorZEg2
import Derived.Test.YtbocelianhcfmaaGreatDoorZEg3
namespace Go.Proofs.YtbocelianhcfmaaGreatDoor
section
open Go Go.RowKit
attribute [local irreducible] Run CondV ar aI

theorem CT {xs:List T} (ih:∀ t∈xs,∀ (u:T) (S:ae) (cs ds:List Value),RdT S cs t->RdT S ds u->Pure Tryz.prog mr [.agg cs.toArray,.agg ds.toArray] S (.bool (eqT t u)))
  {ys:List T} {S:ae} {v u:Value} (h:RdSl S 4 (RdT S) v xs) (h':RdSl S 4 (RdT S) u ys):Pure Tryz.prog qQ [v,u,.func (.func mr) #[] #[]] S (.bool (eqL xs ys)):=by
 intro w hI
 have hlen:(xs.length:Int)<=9223372036854775807:=by have:=h.le; simp only [maxLen] at this; omega
 refine iU.2 ?_
 dsimp only[iU,cM]
 refine aK h ah ?_
 refine aK h' ah ?_
 refine dt ?_
 refine av (fun hne=>?_) (fun he=>?_)
 ·exact done hI (by rw [Jw (by simp at hne; omega)])
 have he:xs.length=ys.length:=by simp at he; omega
 refine aK h ah ?_
 refine ⟨fun i w'=>∃ (k:Nat),k<=xs.length/\i=.int .i64 k/\eqL (xs.drop k) (ys.drop k)=eqL xs ys/\Inv w [] [] S w',fun i _=>xs.length - (intOf i).toNat,⟨0,Nat.zero_le _,rfl,rfl,hI⟩,?_⟩
 intro t5 _ _ _ _ _ _ _ _ _ _ _ _ _ _ _ _ _ _ w'
 rintro ⟨k,hk,rfl,hrel,hI⟩
 refine bD ?_
 refine aN (fun hki=>?_) (fun hki=>?_)
 ·have hk1:k<xs.length:=by omega
  have hk2:k<ys.length:=by omega
  have hstep:eqL (xs.drop k) (ys.drop k)=(eqT xs[k] ys[k] && eqL (xs.drop (k+1)) (ys.drop (k+1))):=by
   rw [List.drop_eq_getElem_cons hk1,List.drop_eq_getElem_cons hk2,eqL]
  refine bP hI h ah ac hk1 (fun _ _=>RdT.length) fun cs hcs=>?_
  have hlc:=hcs.length
  refine aA hI aU fun b8 w' hI=>?_
  refine aj hI 0 rfl ac (by simpa using hlc) rfl (by simpa using hcs.one) fun w' hI=>?_
  refine bP hI h' ah ac hk2 (fun _ _=>RdT.length) fun ds hds=>?_
  have hld:=hds.length
  refine aA hI aU fun b9 w' hI=>?_
  refine aj hI 1 rfl ac (by simpa using hld) rfl (by simpa using hds.one) fun w' hI=>?_
  refine ag hI 0 ac rfl (by simpa using hlc) ?_
  refine ag hI 1 ac rfl (by simpa using hld) ?_
  refine Run.callPure pY qp hI (ih _ (List.getElem_mem hk1) _ S _ _ hcs hds) fun w' hI=>?_
  refine bW ?_
  refine av (fun hne=>?_) (fun he'=>?_)
  ·exact done hI (by rw [<- hrel,hstep]; simp at hne; rw [hne]; rfl)
  ·refine bm (by omega) ?_
   refine ⟨⟨k+1,hk1,rfl,?_,hI.nil⟩,by simp [intOf]; omega⟩
   rw [<- hrel,hstep]
   simp at he'
   rw [he',Bool.true_and]
 ·have:k=xs.length:=by omega
  subst this
  refine done hI ?_
  rw [<- hrel,List.drop_length,he,List.drop_length]
  rfl
theorem vx:∀ (t u:T) (S:ae) (cs ds:List Value),RdT S cs t->RdT S ds u->Pure Tryz.prog mr [.agg cs.toArray,.agg ds.toArray] S (.bool (eqT t u)):=by
 refine T.ind fun k n s ks ih u S cs ds h h'=>?_
 intro w hI
 obtain ⟨kv,rfl,_,_,_,hks⟩:=RdT.iff.1 h
 obtain ⟨kv',rfl,_,_,_,hks'⟩:=RdT.iff.1 h'
 obtain ⟨k',n',s',ks'⟩:=u
 simp only [T.name,T.kids,T.kind,T.n] at hks hks' ⊢
 refine qA.2 ?_
 dsimp only[qA,aY]
 refine be hI fun b1 w' hI=>?_
 refine be hI fun b2 w' hI=>?_
 refine ad hI 0 rfl aM aw rfl ?_
 refine ad hI 1 rfl aM aw rfl ?_
 refine bh ?_
 by_cases e1:k=k'
 ·rw [decide_eq_true e1]
  refine rpG ?_
  refine ad hI 0 rfl aR aw rfl ?_
  refine ad hI 1 rfl aR aw rfl ?_
  refine bh ?_
  by_cases e2:n=n'
  ·rw [decide_eq_true e2]
   refine rpG ?_
   refine ad hI 0 rfl aH aC rfl ?_
   refine ad hI 1 rfl aH aC rfl ?_
   refine bf ?_
   by_cases e3:s=s'
   ·rw [decide_eq_true e3]
    refine rpG ?_
    refine ad hI 0 rfl ak al rfl ?_
    refine ad hI 1 rfl ak al rfl ?_
    refine Run.callPure pn pv hI (CT ih hks hks') fun w' hI=>?_
    refine rpG ?_
    exact done hI (by rw [eqT,decide_eq_true e1,decide_eq_true e2,decide_eq_true e3]; rfl)
   ·rw [decide_eq_false e3]
    refine rpG ?_
    exact done hI (by rw [eqT,decide_eq_true e1,decide_eq_true e2,decide_eq_false e3]; rfl)
  ·rw [decide_eq_false e2]
   refine rpG ?_
   exact done hI (by rw [eqT,decide_eq_true e1,decide_eq_false e2]; rfl)
 ·rw [decide_eq_false e1]
  refine rpG ?_
  exact done hI (by rw [eqT,decide_eq_false e1]; rfl)
end
section
open Go Go.RowKit

section
variable {P:Program} {w w0:World} {X:List Nat} {L:List Item} {S:ae} {K:Value->World->Prop}
attribute [local irreducible] Run CondV ar aI
end
end
section
open Go Go.RowKit

abbrev aG:=List (Option T)
mutual
def mg:T->T->aG->Bool × aG
 | .mk k n s ks,u,st=>if k=1 then (match st[n.toNat]? with
   | some (some t)=>(eqT t u,st)
   | _=>(true,st.set n.toNat (some u)))
  else if pe (.mk k n s ks) u=true then LV ks u.kids st else (false,st)
def LV:List T->List T->aG->Bool × aG
 | [],_,st=>(true,st)
 | _::_,[],st=>(true,st)
 | t::ts,u::us,st=>if (mg t u st).1=true then LV ts us (mg t u st).2 else (false,(mg t u st).2)
end
theorem Pc {t:T} (h:dC t=true):(t.kind=1->0<=t.n/\t.n<=25)/\t.kind≠0:=by
 unfold dC at h
 refine ⟨fun hk=>?_,fun hk=>?_⟩
 ·rw [if_pos hk] at h
  simp only [Bool.and_eq_true,decide_eq_true_eq] at h
  exact ⟨h.1,h.2.1⟩
 ·rw [if_neg (by omega),if_neg (by omega),if_neg (by omega)] at h
  cases h
def j3:List Value:=[.int .i64 0,.int .i64 0,.string ⟨#[]⟩,.slice none 0 0]
def KnownC (S:ae) (c:Array Value) (st:aG):Prop:=104<=c.size/\∀ i (h:i<st.length),(st[i]=none->aL c (i * 4) 4=j3)/\(∀ t,st[i]=some t->RdT S (aL c (i * 4) 4) t)
theorem KnownC.set {S:ae} {c:Array Value} {st:aG} (h:KnownC S c st) {n:Nat} (hn:n<26) {cs:List Value} {u:T} (hu:RdT S cs u):KnownC S (bk c (n * 4) cs) (st.set n (some u)):=by
 have hlc:=hu.length
 have h1:=h.1
 have hs:104<=(bk c (n * 4) cs).size:=by rw [ic _ _ _ (by omega)]; exact h1
 refine ⟨hs,fun i hi=>?_⟩
 rw [List.length_set] at hi
 by_cases e:n=i
 ·subst e
  rw [List.getElem_set_self]
  refine ⟨fun h=>(by cases h),fun t ht=>?_⟩
  simp only [Option.some.injEq] at ht
  subst ht
  have:=ft (c:=c) (o:=n * 4) (vs:=cs) (by omega)
  rw [hlc] at this
  rw [this]
  exact hu
 ·rw [List.getElem_set_ne e,gq (by omega) (by omega)]
  exact h.2 i hi
section
attribute [local irreducible] Run CondV ar aI
abbrev kvn (kb kp:Nat):Value:=.slice (some ⟨kb,0,none⟩) 26 kp
abbrev kv0 (kb:Nat):Value:=kvn kb 26
end
end
section
open Go Go.RowKit

def p8:List Int->Int->Int->Nat->Int
 | [],_,cur,_=>cur
 | x::xs,n,cur,k=>p8 xs n (if x=n then (k:Int) else cur) (k+1)
mutual
def fw (vs:List Int):T->T
 | .mk k n s ks=>.mk k (if k=1 then p8 vs n n 0 else n) s (kG vs ks)
def kG (vs:List Int):List T->List T
 | []=>[]
 | t::ts=>fw vs t::kG vs ts
end
theorem Bx:∀ (xs:List Int) (n cur:Int) (k:Nat),p8 xs n cur k=cur ∨ (0<=p8 xs n cur k/\p8 xs n cur k<k+xs.length)
 | [],n,cur,k=>.inl rfl
 | x::xs,n,cur,k=>by
  rw [p8]
  rcases Bx xs n (if x=n then (k:Int) else cur) (k+1) with h|h
  ·split at h
   ·right; rw [if_pos (by assumption),h]; simp; omega
   ·left; rw [if_neg (by assumption)]; exact h
  ·right
   simp only [List.length_cons]
   omega
theorem EU (l:List Int) (n:Int):EL l n=true↔n∈l:=by
 simp [EL]
theorem Hp {l:List Int} (n:Int) (h:l.Nodup):(xt l n).Nodup:=by
 unfold xt
 split
 ·exact h
 ·rename_i hn
  rw [List.nodup_append]
  refine ⟨h,by simp,fun a ha b hb e=>hn ((EU l n).2 ?_)⟩
  simp at hb
  rw [<- hb,<- e]
  exact ha
theorem LM {t:T} (h:dC t=true) (hk:t.kind=1):t.name=emptyB/\t.kids.length=0:=by
 unfold dC at h
 rw [if_pos hk] at h
 simp only [Bool.and_eq_true,decide_eq_true_eq] at h
 exact ⟨h.2.2.1,h.2.2.2⟩
theorem uZ (vs:List Int):∀ ts:List T,(kG vs ts).length=ts.length
 | []=>rfl
 | t::ts=>by rw [kG]; simp [uZ vs ts]
theorem HZ (vs:List Int) (ts:List T) (j:Nat) (h:j<ts.length):kG vs (ts.take (j+1))=kG vs (ts.take j)++[fw vs ts[j]]:=by
 have:∀ (xs ys:List T),kG vs (xs++ys)=kG vs xs++kG vs ys:=by
  intro xs ys
  induction xs with
  | nil=>rfl
  | cons x xs ih=>simp [kG,ih]
 rw [List.take_succ_eq_append_getElem h,this]; rfl
def QE (vs:List Int) (c:C):C:=⟨fw vs c.head,kG vs c.body⟩
def P2 (c:C):List Int:=cB (c.head::c.body) []
end
section
open Go Go.RowKit
mutual
def okU (N:Nat):T->Prop
 | .mk k n s ks=>k≠0/\(k=1->0<=n/\n<N/\s=emptyB/\ks=[])/\df N ks/\s.size<=6
def df (N:Nat):List T->Prop
 | []=>True
 | t::ts=>okU N t/\df N ts
end
mutual
def vT:T->List Nat
 | .mk k n _ ks=>if k=1 then [n.toNat] else vTL ks
def vTL:List T->List Nat
 | []=>[]
 | t::ts=>vT t++vTL ts
end
theorem ol {N:Nat}:∀ {ts:List T},df N ts->∀ t∈ts,okU N t
 | t::ts,h,x,hx=>by
  rw [df] at h
  rcases List.mem_cons.1 hx with rfl|hx
  ·exact h.1
  ·exact ol h.2 x hx
theorem xK {N:Nat}:∀ {ts:List T},(∀ t∈ts,okU N t)->df N ts
 | [],_=>by rw [df]; trivial
 | t::ts,h=>by rw [df]; exact ⟨h t (List.mem_cons_self ..),xK fun u hu=>h u (List.mem_cons_of_mem _ hu)⟩
theorem D5:∀ {ts:List T} {m:Nat},m∈vTL ts↔∃ t∈ts,m∈vT t
 | [],m=>by simp [vTL]
 | t::ts,m=>by rw [vTL,List.mem_append,D5]; simp
theorem okU.kids {N:Nat} {t:T} (h:okU N t):df N t.kids:=by cases t; rw [okU] at h; exact h.2.2.1
theorem okU.var {N:Nat} {t:T} (h:okU N t) (hk:t.kind=1):0<=t.n/\t.n<N/\t.name=emptyB/\t.kids=[]:=by cases t; rw [okU] at h; exact h.2.1 hk
theorem okU.kind {N:Nat} {t:T} (h:okU N t):t.kind≠0:=by cases t; rw [okU] at h; exact h.1
theorem yk {t:T} (h:t.kind=1):vT t=[t.n.toNat]:=by cases t; rw [vT]; exact if_pos h
theorem Jg {t:T} (h:t.kind≠1):vT t=vTL t.kids:=by cases t; rw [vT]; exact if_neg h
mutual
theorem Mi {N:Nat}:∀ (t:T),okU N t->∀ m∈vT t,m<N
 | .mk k n s ks,h,m,hm=>by
  rw [okU] at h
  rw [vT] at hm
  split at hm
  ·rename_i hk
   have:=h.2.1 hk
   simp at hm
   omega
  ·exact IL ks h.2.2.1 m hm
theorem IL {N:Nat}:∀ (ts:List T),df N ts->∀ m∈vTL ts,m<N
 | [],_,m,hm=>by simp [vTL] at hm
 | t::ts,h,m,hm=>by
  rw [df] at h
  rw [vTL,List.mem_append] at hm
  rcases hm with hm|hm
  ·exact Mi t h.1 m hm
  ·exact IL ts h.2 m hm
end
def look (st:aG) (t:T):Option T:=if t.kind=1 then (st[t.n.toNat]?).join else none
theorem eT {st:aG} {t u:T}:look st t=some u↔t.kind=1/\st[t.n.toNat]?=some (some u):=by
 unfold look
 split
 ·rename_i h
  simp only [Option.join_eq_some_iff]
  exact ⟨fun e=>⟨h,e⟩,fun e=>e.2⟩
 ·rename_i h
  simp [h]
theorem Kl {st:aG} {t:T}:look st t=none↔(t.kind=1->st[t.n.toNat]?=none ∨ st[t.n.toNat]?=some none):=by
 unfold look
 split
 ·rename_i h
  rw [Option.join_eq_none_iff]
  constructor
  ·intro e _
   rcases e with e|e
   ·exact .inl e
   ·exact .inr e
  ·intro e
   rcases e h with e|e
   ·exact .inl e
   ·exact .inr e
 ·rename_i h
  simp [h]
inductive dk (st:aG):T->T->Prop
 | stop {t:T}:look st t=none->dk st t t
 | step {t u v:T}:look st t=some u->dk st u v->dk st t v
inductive Rch (st:aG):Nat->Nat->Prop
 | refl (m:Nat):Rch st m m
 | step {m k n:Nat} {u:T}:st[m]?=some (some u)->k∈vT u->Rch st k n->Rch st m n
theorem Rch.trans {st:aG} {a b c:Nat} (h:Rch st a b) (h':Rch st b c):Rch st a c:=by
 induction h with
 | refl=>exact h'
 | step h1 h2 _ ih=>exact .step h1 h2 (ih h')
def ld (st:aG) (n:Nat) (t:T):Prop:=∃ m∈vT t,Rch st m n
structure Good (N:Nat) (st:aG):Prop where
 len:st.length=N
 ok:∀ t,some t∈st->okU N t
 w:∀ t,some t∈st->wT t<=1048576
 rk:∃ r:Nat->Nat,∀ (n:Nat) (u:T),st[n]?=some (some u)->∀ m∈vT u,r m<r n
theorem Good.look_ok {N:Nat} {st:aG} (h:Good N st) {t u:T} (hl:look st t=some u):okU N u/\wT u<=1048576:=by
 have:=List.mem_of_getElem? (eT.1 hl).2
 exact ⟨h.ok u this,h.w u this⟩
theorem eJ {N:Nat} {st:aG} {t v:T} (h:Good N st) (hw:dk st t v) (ht:okU N t/\wT t<=1048576):okU N v/\wT v<=1048576:=by
 induction hw with
 | stop=>exact ht
 | step hl _ ih=>exact ih (h.look_ok hl)
theorem o3 {st:aG} {t v:T} (hw:dk st t v):look st v=none:=by
 induction hw with
 | stop h=>exact h
 | step _ _ ih=>exact ih
theorem NR {N:Nat} {st:aG} (h:Good N st) (t:T):∃ v,dk st t v:=by
 obtain ⟨r,hr⟩:=h.rk
 have:∀ (k:Nat) (t:T),(∀ u,look st t=some u->r t.n.toNat<k)->∃ v,dk st t v:=by
  intro k
  induction k with
  | zero=>
   intro t ht
   cases hl:look st t with
   | none=>exact ⟨t,.stop hl⟩
   | some u=>have:=ht u hl; omega
  | succ k ih=>
   intro t ht
   cases hl:look st t with
   | none=>exact ⟨t,.stop hl⟩
   | some u=>
    have h1:=ht u hl
    obtain ⟨v,hv⟩:=ih u fun u' hu'=>by
     obtain ⟨hk,_⟩:=eT.1 hu'
     have:=hr _ _ (eT.1 hl).2 u.n.toNat (by rw [yk hk]; simp)
     omega
    exact ⟨v,.step hl hv⟩
 exact this (r t.n.toNat+1) t fun _ _=>Nat.lt_succ_self _
def unb:aG->Nat
 | []=>0
 | none::st=>unb st+1
 | some _::st=>unb st
theorem Cw:∀ (st:aG) (n:Nat) (t:T),st[n]?=some none->unb (st.set n (some t))+1=unb st
 | [],n,t,h=>by simp at h
 | x::st,0,t,h=>by
  simp only [List.getElem?_cons_zero,Option.some.injEq] at h
  subst h
  rfl
 | x::st,n+1,t,h=>by
  have h':st[n]?=some none:=by simpa using h
  have:=Cw st n t h'
  cases x <;> simp only [List.set_cons_succ,unb] <;> omega
open Classical in
theorem Good.set {N:Nat} {st:aG} (h:Good N st) {n:Nat} {t:T} (hn:st[n]?=some none) (ht:okU N t) (hw:wT t<=1048576) (ho:¬ ld st n t):Good N (st.set n (some t)):=by
 have hnl:n<st.length:=(List.getElem?_eq_some_iff.1 hn).1
 refine ⟨by rw [List.length_set]; exact h.len,fun u hu=>?_,fun u hu=>?_,?_⟩
 ·rcases List.mem_or_eq_of_mem_set hu with hu|hu
  ·exact h.ok u hu
  ·rw [Option.some.injEq] at hu
   rw [hu]; exact ht
 ·rcases List.mem_or_eq_of_mem_set hu with hu|hu
  ·exact h.w u hu
  ·rw [Option.some.injEq] at hu
   rw [hu]; exact hw
 ·obtain ⟨r,hr⟩:=h.rk
  have hM:∀ l:List Nat,∃ M,∀ m∈l,r m<=M:=by
   intro l
   induction l with
   | nil=>exact ⟨0,by simp⟩
   | cons x l ih=>
    obtain ⟨M,hM⟩:=ih
    refine ⟨M+r x,fun m hm=>?_⟩
    rcases List.mem_cons.1 hm with rfl|hm
    ·omega
    ·have:=hM m hm; omega
  obtain ⟨M,hM⟩:=hM (vT t)
  refine ⟨fun m=>if Rch st m n then r m+M+1 else r m,fun k u hku m hm=>?_⟩
  by_cases hkn:n=k
  ·subst hkn
   rw [List.getElem?_set_self hnl,Option.some.injEq,Option.some.injEq] at hku
   subst hku
   have h1:¬ Rch st m n:=fun e=>ho ⟨m,hm,e⟩
   have h2:=hM m hm
   simp only [if_neg h1,if_pos (Rch.refl (st:=st) n)]
   omega
  ·rw [List.getElem?_set_ne hkn] at hku
   have h1:=hr k u hku m hm
   by_cases hmn:Rch st m n
   ·have h2:Rch st k n:=.step hku hm hmn
    simp only [if_pos hmn,if_pos h2]
    omega
   ·simp only [if_neg hmn]
    split <;> omega
inductive Job where
 | one (a b:T)
 | list (xs ys:List T)
inductive Uni:aG->Job->Bool->aG->Prop
 | same {st:aG} {a b a' b':T}:dk st a a'->dk st b b'->a'.kind=1->b'.kind=1->a'.n=b'.n->Uni st (.one a b) true st
 | bindA {st:aG} {a b a' b':T}:dk st a a'->dk st b b'->a'.kind=1->¬ (b'.kind=1/\a'.n=b'.n)->¬ ld st a'.n.toNat b'->Uni st (.one a b) true (st.set a'.n.toNat (some b'))
 | occA {st:aG} {a b a' b':T}:dk st a a'->dk st b b'->a'.kind=1->¬ (b'.kind=1/\a'.n=b'.n)->ld st a'.n.toNat b'->Uni st (.one a b) false st
 | bindB {st:aG} {a b a' b':T}:dk st a a'->dk st b b'->a'.kind≠1->b'.kind=1->¬ ld st b'.n.toNat a'->Uni st (.one a b) true (st.set b'.n.toNat (some a'))
 | occB {st:aG} {a b a' b':T}:dk st a a'->dk st b b'->a'.kind≠1->b'.kind=1->ld st b'.n.toNat a'->Uni st (.one a b) false st
 | clash {st:aG} {a b a' b':T}:dk st a a'->dk st b b'->a'.kind≠1->b'.kind≠1->pe a' b'=false->Uni st (.one a b) false st
 | kids {st st':aG} {a b a' b':T} {r:Bool}:dk st a a'->dk st b b'->a'.kind≠1->b'.kind≠1->pe a' b'=true->Uni st (.list a'.kids b'.kids) r st'->Uni st (.one a b) r st'
 | nil {st:aG}:Uni st (.list [] []) true st
 | stop {st st':aG} {a b:T} {xs ys:List T}:Uni st (.one a b) false st'->Uni st (.list (a::xs) (b::ys)) false st'
 | go {st st1 st':aG} {a b:T} {xs ys:List T} {r:Bool}:Uni st (.one a b) true st1->Uni st1 (.list xs ys) r st'->Uni st (.list (a::xs) (b::ys)) r st'
def okJ (N:Nat):Job->Prop
 | .one a b=>(okU N a/\wT a<=1048576)/\(okU N b/\wT b<=1048576)
 | .list xs ys=>(∀ a∈xs,okU N a/\wT a<=1048576)/\(∀ b∈ys,okU N b/\wT b<=1048576)/\xs.length=ys.length
theorem j8 {N:Nat} {t:T} (h:okU N t/\wT t<=1048576):∀ x∈t.kids,okU N x/\wT x<=1048576:=by
 intro x hx
 refine ⟨ol h.1.kids x hx,?_⟩
 have h1:=kM hx
 have h2:=h.2
 cases t
 rw [wT] at h2
 simp only [T.kids] at h1
 omega
theorem tz {a b:T} (h:pe a b=true):a.kids.length=b.kids.length:=by
 rw [pe] at h
 simp only [Bool.and_eq_true,decide_eq_true_eq] at h
 exact h.2.2.2
theorem FC {N:Nat} {st:aG} (h:Good N st) {a:T} (hk:a.kind=1) (hl:look st a=none) (ho:okU N a):st[a.n.toNat]?=some none:=by
 obtain ⟨h0,h1,_⟩:=ho.var hk
 rcases Kl.1 hl hk with e|e
 ·have:=List.getElem?_eq_none_iff.1 e
  have:=h.len
  omega
 ·exact e
theorem Uni.good {N:Nat} {st st':aG} {j:Job} {r:Bool} (hu:Uni st j r st'):Good N st->okJ N j->Good N st'/\(st'=st ∨ unb st'<unb st):=by
 induction hu with
 | same=>exact fun h _=>⟨h,.inl rfl⟩
 | occA=>exact fun h _=>⟨h,.inl rfl⟩
 | occB=>exact fun h _=>⟨h,.inl rfl⟩
 | clash=>exact fun h _=>⟨h,.inl rfl⟩
 | nil=>exact fun h _=>⟨h,.inl rfl⟩
 | bindA ha hb hk hns ho=>
  rename_i a' b'
  intro h hj
  have h1:=eJ h ha hj.1
  have h2:=eJ h hb hj.2
  have hf:=FC h hk (o3 ha) h1.1
  have:=Cw _ _ b' hf
  exact ⟨h.set hf h2.1 h2.2 ho,.inr (by omega)⟩
 | bindB ha hb hns hk ho=>
  rename_i a' b'
  intro h hj
  have h1:=eJ h ha hj.1
  have h2:=eJ h hb hj.2
  have hf:=FC h hk (o3 hb) h2.1
  have:=Cw _ _ a' hf
  exact ⟨h.set hf h1.1 h1.2 ho,.inr (by omega)⟩
 | kids ha hb _ _ hd _ ih=>
  intro h hj
  exact ih h ⟨j8 (eJ h ha hj.1),j8 (eJ h hb hj.2),tz hd⟩
 | stop _ ih=>
  intro h hj
  exact ih h ⟨hj.1 _ (List.mem_cons_self ..),hj.2.1 _ (List.mem_cons_self ..)⟩
 | go _ _ ih1 ih2=>
  intro h hj
  obtain ⟨h1,h2⟩:=ih1 h ⟨hj.1 _ (List.mem_cons_self ..),hj.2.1 _ (List.mem_cons_self ..)⟩
  obtain ⟨h3,h4⟩:=ih2 h1 ⟨fun a ha=>hj.1 a (List.mem_cons_of_mem _ ha),fun b hb=>hj.2.1 b (List.mem_cons_of_mem _ hb),by have:=hj.2.2; simpa using this⟩
  refine ⟨h3,?_⟩
  rcases h2 with rfl|h2
  ·exact h4
  ·rcases h4 with rfl|h4
   ·exact .inr h2
   ·exact .inr (by omega)
open Classical in
theorem D3 {N:Nat}:∀ (U:Nat) (st:aG),Good N st->unb st<=U->∀ j,okJ N j->∃ r st',Uni st j r st':=by
 intro U
 induction U using Nat.strongRecOn with
 | _ U ihU=>
  intro st hg hU
  -- lists of terms of which each is known to have an answer
  have hlist:∀ (xs ys:List T),okJ N (.list xs ys)->(∀ a∈xs,∀ b,okJ N (.one a b)->∃ r st',Uni st (.one a b) r st')->∃ r st',Uni st (.list xs ys) r st':=by
   intro xs
   induction xs with
   | nil=>
    intro ys hj _
    have:ys=[]:=List.eq_nil_of_length_eq_zero hj.2.2.symm
    subst this
    exact ⟨true,st,.nil⟩
   | cons a xs ih=>
    intro ys hj hP
    cases ys with
    | nil=>have:=hj.2.2; simp at this
    | cons b ys=>
     have hjab:okJ N (.one a b):=⟨hj.1 _ (List.mem_cons_self ..),hj.2.1 _ (List.mem_cons_self ..)⟩
     have hjl:okJ N (.list xs ys):=⟨fun a ha=>hj.1 a (List.mem_cons_of_mem _ ha),fun b hb=>hj.2.1 b (List.mem_cons_of_mem _ hb),by have:=hj.2.2; simpa using this⟩
     obtain ⟨r,st1,h1⟩:=hP a (List.mem_cons_self ..) b hjab
     cases r with
     | false=>exact ⟨false,st1,.stop h1⟩
     | true=>
      obtain ⟨hg1,hu1⟩:=h1.good hg hjab
      rcases hu1 with rfl|hu1
      ·obtain ⟨r,st2,h2⟩:=ih ys hjl fun a ha=>hP a (List.mem_cons_of_mem _ ha)
       exact ⟨r,st2,.go h1 h2⟩
      ·obtain ⟨r,st2,h2⟩:=ihU (unb st1) (by omega) st1 hg1 (Nat.le_refl _) _ hjl
       exact ⟨r,st2,.go h1 h2⟩
  obtain ⟨rk,hrk⟩:=hg.rk
  have hone:∀ (m:Nat) (a:T),(∀ x∈vT a,∀ u,st[x]?=some (some u)->rk x<m)->∀ b,okJ N (.one a b)->∃ r st',Uni st (.one a b) r st':=by
   intro m
   induction m using Nat.strongRecOn with
   | _ m ihm=>
    refine T.ind fun k n s ks ih hr b hj=>?_
    obtain ⟨b',hb⟩:=NR hg b
    have hbo:=eJ hg hb hj.2
    cases hl:look st (.mk k n s ks) with
    | some u=>
     obtain ⟨hk,hs⟩:=eT.1 hl
     have hlt:=hr _ (by rw [yk hk]; exact List.mem_singleton.2 rfl) u hs
     have hju:okJ N (.one u b):=⟨hg.look_ok hl,hj.2⟩
     obtain ⟨r,st',hu⟩:=ihm _ hlt u (fun x hx _ _=>hrk _ _ hs x hx) b hju
     refine ⟨r,st',?_⟩
     cases hu with
     | same h1 h2 h3 h4 h5=>exact .same (.step hl h1) h2 h3 h4 h5
     | bindA h1 h2 h3 h4 h5=>exact .bindA (.step hl h1) h2 h3 h4 h5
     | occA h1 h2 h3 h4 h5=>exact .occA (.step hl h1) h2 h3 h4 h5
     | bindB h1 h2 h3 h4 h5=>exact .bindB (.step hl h1) h2 h3 h4 h5
     | occB h1 h2 h3 h4 h5=>exact .occB (.step hl h1) h2 h3 h4 h5
     | clash h1 h2 h3 h4 h5=>exact .clash (.step hl h1) h2 h3 h4 h5
     | kids h1 h2 h3 h4 h5 h6=>exact .kids (.step hl h1) h2 h3 h4 h5 h6
    | none=>
     have ha:dk st (.mk k n s ks) (.mk k n s ks):=.stop hl
     by_cases hk:(T.mk k n s ks).kind=1
     ·by_cases hsame:b'.kind=1/\(T.mk k n s ks).n=b'.n
      ·exact ⟨_,_,.same ha hb hk hsame.1 hsame.2⟩
      ·by_cases ho:ld st (T.mk k n s ks).n.toNat b'
       ·exact ⟨_,_,.occA ha hb hk hsame ho⟩
       ·exact ⟨_,_,.bindA ha hb hk hsame ho⟩
     ·by_cases hkb:b'.kind=1
      ·by_cases ho:ld st b'.n.toNat (T.mk k n s ks)
       ·exact ⟨_,_,.occB ha hb hk hkb ho⟩
       ·exact ⟨_,_,.bindB ha hb hk hkb ho⟩
      ·cases hd:pe (T.mk k n s ks) b' with
       | false=>exact ⟨_,_,.clash ha hb hk hkb hd⟩
       | true=>
        obtain ⟨r,st',hu⟩:=hlist ks b'.kids ⟨j8 hj.1,j8 hbo,tz hd⟩ fun a ha' b2 hj2=>
         ih a ha' (fun x hx u hs=>hr x (by rw [Jg hk]; exact D5.2 ⟨a,ha',hx⟩) u hs) b2 hj2
        exact ⟨r,st',.kids ha hb hk hkb hd hu⟩
  have hall:∀ a b,okJ N (.one a b)->∃ r st',Uni st (.one a b) r st':=by
   intro a b hj
   have hM:∀ l:List Nat,∃ M,∀ m∈l,rk m<M:=by
    intro l
    induction l with
    | nil=>exact ⟨0,by simp⟩
    | cons x l ih=>
     obtain ⟨M,hM⟩:=ih
     refine ⟨M+rk x+1,fun m hm=>?_⟩
     rcases List.mem_cons.1 hm with rfl|hm
     ·omega
     ·have:=hM m hm; omega
   obtain ⟨M,hM⟩:=hM (vT a)
   exact hone M a (fun x hx _ _=>hM x hx) b hj
  intro j hj
  cases j with
  | one a b=>exact hall a b hj
  | list xs ys=>exact hlist xs ys hj fun a _ b hjb=>hall a b hjb
inductive N2 where
 | one (t u:T)
 | list (ts us:List T)
inductive Res (st:aG):N2->Prop
 | one {t v:T} {us:List T}:dk st t v->Res st (.list v.kids us)->Res st (.one t (.mk v.kind v.n v.name us))
 | nil:Res st (.list [] [])
 | cons {t u:T} {ts us:List T}:Res st (.one t u)->Res st (.list ts us)->Res st (.list (t::ts) (u::us))
theorem Lj {N:Nat} {st:aG} (h:Good N st) (t:T) (ho:okU N t):∃ u,Res st (.one t u):=by
 obtain ⟨rk,hrk⟩:=h.rk
 have hlist:∀ ts:List T,(∀ t∈ts,∃ u,Res st (.one t u))->∃ us,Res st (.list ts us):=by
  intro ts
  induction ts with
  | nil=>exact fun _=>⟨[],.nil⟩
  | cons t ts ih=>
   intro hP
   obtain ⟨u,hu⟩:=hP t (List.mem_cons_self ..)
   obtain ⟨us,hus⟩:=ih fun x hx=>hP x (List.mem_cons_of_mem _ hx)
   exact ⟨u::us,.cons hu hus⟩
 have hone:∀ (m:Nat) (a:T),(∀ x∈vT a,∀ u,st[x]?=some (some u)->rk x<m)->(okU N a)->∃ u,Res st (.one a u):=by
  intro m
  induction m using Nat.strongRecOn with
  | _ m ihm=>
   refine T.ind fun k n s ks ih hr ho=>?_
   cases hl:look st (.mk k n s ks) with
   | some u=>
    obtain ⟨hk,hs⟩:=eT.1 hl
    have hlt:=hr _ (by rw [yk hk]; exact List.mem_singleton.2 rfl) u hs
    obtain ⟨u',hu⟩:=ihm _ hlt u (fun x hx _ _=>hrk _ _ hs x hx) (h.look_ok hl).1
    refine ⟨u',?_⟩
    cases hu with
    | one h1 h2=>exact .one (.step hl h1) h2
   | none=>
    by_cases hk:(T.mk k n s ks).kind=1
    ·have:=(ho.var hk).2.2.2
     have e:ks=[]:=this
     subst e
     exact ⟨_,.one (.stop hl) .nil⟩
    ·obtain ⟨us,hus⟩:=hlist ks fun a ha=>ih a ha (fun x hx u hs=>hr x (by rw [Jg hk]; exact D5.2 ⟨a,ha,hx⟩) u hs) (ol ho.kids a ha)
     exact ⟨_,.one (.stop hl) hus⟩
 have hM:∀ l:List Nat,∃ M,∀ m∈l,rk m<M:=by
  intro l
  induction l with
  | nil=>exact ⟨0,by simp⟩
  | cons x l ih=>
   obtain ⟨M,hM⟩:=ih
   refine ⟨M+rk x+1,fun m hm=>?_⟩
   rcases List.mem_cons.1 hm with rfl|hm
   ·omega
   ·have:=hM m hm; omega
 obtain ⟨M,hM⟩:=hM (vT t)
 exact hone M t (fun x hx _ _=>hM x hx) ho
end
section
open Go Go.RowKit
theorem xr {b:Bool} {n:Nat} (h:b=decide (1<=n)) (h':b=false):n=0:=by
 rw [h',eq_comm,decide_eq_false_iff_not] at h; omega
theorem fZ {a b:Bool} {k n:Nat} (h:a=decide (k<=n)) (ha:a=true) (h':b=decide (k+1<=n)) (hb:b=false):n=k:=by
 rw [ha,eq_comm,decide_eq_true_iff] at h
 rw [hb,eq_comm,decide_eq_false_iff_not] at h'
 omega
theorem lU {b:Bool} {n m:Nat} (hl:n<=m) (h:b=decide (m<=n)) (hb:b=true):n=m:=by
 rw [hb,eq_comm,decide_eq_true_iff] at h; omega
theorem M4 {b l:Bool} {n m:Nat} (h:b=decide (m<=n)) (k:b=true->l=true) (hl:l=false):n<m:=by
 cases b
 ·rw [eq_comm,decide_eq_false_iff_not] at h; omega
 ·rw [k rfl] at hl; cases hl
def LL:List (Nat × Value)->List ByteArray
 | (_,.string s)::l=>s::LL l
 | _=>[]
def Lm:List (Nat × Value)->List Int
 | (_,.int _ n)::l=>n::Lm l
 | _=>[]
theorem LJ {α:Type} {f:α->Value} (l:List α) {i:Nat} (hi:i<l.length):aL (l.map f).toArray i 1=[f l[i]]:=by
 rw [aL,List.drop_eq_getElem_cons (by simpa using hi)]
 simp
theorem RdSl.monoU {S S':ae} {v:Value} {ys:List Nat} (hs:Sle S S') (h:RdSl S 1 jd v ys):RdSl S' 1 jd v ys:=h.mono hs fun _ _ h=>h
theorem RdSl.monoS {S S':ae} {v:Value} {ys:List ByteArray} (hs:Sle S S') (h:RdSl S 1 iQ v ys):RdSl S' 1 iQ v ys:=h.mono hs fun _ _ h=>h
theorem Pl {S:ae} {b:Nat} {E:TypeId} {cs:List Value} {t:T} (hS:S b=some (.cells cs.toArray E)) (h:RdT S cs t):RdSl S 4 (RdT S) (.slice (some ⟨b,0,none⟩) 1 1) [t]:=by
 refine ⟨_,1,rfl,Nat.le_refl _,by simp [maxLen],.inr ⟨b,0,_,E,(0,0),rfl,hS,fun i hi=>?_⟩⟩
 match i,hi with
 | 0,_=>
  have e:aL cs.toArray (0+0 * 4) 4=cs:=by
   rw [aL]
   simpa using List.take_of_length_le (Nat.le_of_eq h.length)
  rw [e]
  exact h
section
variable {w0 w:World} {X:List Nat} {L A:List Item} {S:ae} {K:Value->World->Prop}
attribute [local irreducible] Run CondV ar aI
theorem Inv.last (h:Inv w0 X L S w) (i:Nat) {it:Item} (hi:L[i]?=some it):Inv w0 X (L.eraseIdx i++[it]) S w:=by
 refine h.perm ?_
 obtain ⟨h1,_⟩:=vD hi it
 rw [List.eraseIdx_eq_take_drop_succ]
 conv=>rhs; rw [h1]
 rw [List.append_assoc]
 exact List.Perm.append_left _ List.perm_append_comm
theorem fh {n:Nat} {ps:List (Nat × Value)} (h:Inv w0 X L S w)
  (hr:(bi vq n ps).run Tryz.prog w=.ok (.value (.slice (some ⟨w.heap.size,0,none⟩) n n)) { w with heap:=w.heap.push (.cells ((LL ps).map Value.string).toArray ff) })
  (hn:(LL ps).length=n) (hm:n<=1000) (hk:∀ v S1 w',Ext w0.heap.size X S S1->RdSl S1 1 iQ v (LL ps)->Inv w0 X L S1 w'->K v w'):Run Tryz.prog (bi vq n ps) w K:=by
 refine od (v:=fun b=>.slice (some ⟨b,0,none⟩) n n) (o:=.cells ((LL ps).map Value.string).toArray ff) h hr fun b w' hI=>?_
 obtain ⟨S1,hI,hE,hS⟩:=hI.pub1
 refine hk _ S1 w' hE ?_ hI
 exact RdSl.ofCells hS hn (by simp only [maxLen]; omega) fun i hi=>LJ _ hi
theorem vg {n:Nat} {ps:List (Nat × Value)} (h:Inv w0 X L S w)
  (hr:(bi GZ n ps).run Tryz.prog w=.ok (.value (.slice (some ⟨w.heap.size,0,none⟩) n n)) { w with heap:=w.heap.push (.cells ((Lm ps).map (Value.int .i64)).toArray eN) })
  (hn:(Lm ps).length=n) (hm:n<=1000) (hk:∀ v S1 w',Ext w0.heap.size X S S1->RdSl S1 1 gz v (Lm ps)->Inv w0 X L S1 w'->K v w'):Run Tryz.prog (bi GZ n ps) w K:=by
 refine od (v:=fun b=>.slice (some ⟨b,0,none⟩) n n) (o:=.cells ((Lm ps).map (Value.int .i64)).toArray eN) h hr fun b w' hI=>?_
 obtain ⟨S1,hI,hE,hS⟩:=hI.pub1
 refine hk _ S1 w' hE ?_ hI
 exact RdSl.ofCells hS hn (by simp only [maxLen]; omega) fun i hi=>LJ _ hi
def AU (Q:Prop) (R:Nat->Prop):Nat->Prop
 | 0=>Q
 | n+1=>R n
def Al (w0:World) (X:List Nat) (b:Nat) (c:Array Value) (d:Nat) (E:TypeId) (kv:Value) (css:List (List Value)) (A:Nat->List Item) (Q:List Value->Nat->ae->Prop) (xv xs xa:Value) (w':World):Nat->Prop
 | 0=>∃ p1 S1 cs,Q cs p1 S1/\(cs.length=4/\∀ u∈cs,u.oneCell'=true)/\xv=.agg cs.toArray/\Inv w0 X (.blk b (.cells c E)::aP kv ab 4 css::A p1) S1 w'
 | 1=>∃ p1 S1 cs b8,Q cs p1 S1/\(cs.length=4/\∀ u∈cs,u.oneCell'=true)/\xs=.slice (some ⟨b8,0,none⟩) 1 1/\Inv w0 X (.blk b (.cells c E)::aP kv ab 4 css::(A p1++[.blk b8 (.cells cs.toArray ab)])) S1 w'
 | 2=>∃ p1 S1 cs,Q cs p1 S1/\(cs.length=4/\∀ u∈cs,u.oneCell'=true)/\Inv w0 X (.blk b (.cells c E)::aP xa ab 4 (css++[cs])::A p1) S1 w'
 | 3=>∃ p1 S1 cs,Q cs p1 S1/\(cs.length=4/\∀ u∈cs,u.oneCell'=true)/\Inv w0 X (.blk b (.cells (c.setIfInBounds d xa) E)::aP xa ab 4 (css++[cs])::A p1) S1 w'
 | _=>False
variable {b d:Nat} {c:Array Value} {E:TypeId} {kv:Value} {css:List (List Value)} {F:Nat->List Item} {Q:List Value->Nat->ae->Prop} {xv xs xa:Value}
theorem ME {n:Nat} (h:Al w0 X b c d E kv css F Q xv xs xa w n) (hn:n<3):w.cell? ⟨b,d,none⟩=c[d]?:=by
 rcases n with _|_|_|n
 ·obtain ⟨p1,S1,cs,_,_,_,hI⟩:=h
  exact hI.cellL (i:=0) rfl
 ·obtain ⟨p1,S1,cs,b8,_,_,_,hI⟩:=h
  exact hI.cellL (i:=0) rfl
 ·obtain ⟨p1,S1,cs,_,_,hI⟩:=h
  exact hI.cellL (i:=0) rfl
 ·omega
theorem ap1 {B:Prop} (h:AU B (Al w0 X b c d E kv css F Q xv xs xa w) 1) (hk:∀ u w',AU B (Al w0 X b c d E kv css F Q xv u xa w') 2->K u w'):Run Tryz.prog (bi sa 1 [(0,xv)]) w K:=by
 obtain ⟨p1,S1,cs,hQ,hl,rfl,hI⟩:=h
 refine dH hI bj (by simp [Value.cells,hl.1]) (by omega) (by omega) fun b8 w' hI=>?_
 exact hk _ _ ⟨p1,S1,cs,b8,hQ,hl,rfl,hI⟩
theorem ap2 {B:Prop} {ty:TypeId} {bs:List Bool} (h:AU B (Al w0 X b c d E kv css F Q xv xs xa w) 2) (hfit:css.length<=1000000) (hk:∀ u w',AU B (Al w0 X b c d E kv css F Q xv xs u w') 3->K u w'):Run Tryz.prog (bx .append #[sa,sa] ty bs [kv,xs]) w K:=by
 obtain ⟨p1,S1,cs,b8,hQ,hl,rfl,hI⟩:=h
 have hblk:(Item.blk b (.cells c E)::aP kv ab 4 css::(F p1++[.blk b8 (.cells cs.toArray ab)]))[(F p1).length+1+1]?=some (.blk b8 (.cells cs.toArray ab)):=by
  rw [List.getElem?_cons_succ,List.getElem?_cons_succ,List.getElem?_append_right (Nat.le_refl _),Nat.sub_self]; rfl
 refine eZ hI 1 cs bj (by omega) rfl (by rw [hl.1]) (m:=1) (o:=0) ?_ hl.2 (by omega) (by omega) fun v' w_ hI=>?_
 ·intro i u hi
  rw [hI.cellL hblk,Nat.zero_add]
  simpa using hi
 rw [fS] at hI
 refine hk _ _ ⟨p1,S1,cs,hQ,hl,?_⟩
 exact hI.sub (((List.sublist_append_left _ _).cons_cons _).cons_cons _)
theorem ap3 {B:Prop} {ty:TypeId} (h:AU B (Al w0 X b c d E kv css F Q xv xs xa w) 3) (hd:d<c.size) {K:Value->World->Prop} (hk:∀ w',AU B (Al w0 X b c d E kv css F Q xv xs xa w') 4->K undef w'):Run Tryz.prog (sOp (.store sa (.const (.pointer (some ⟨b,d,none⟩))) (.const xa)) ty) w K:=by
 obtain ⟨p1,S1,cs,hQ,hl,hI⟩:=h
 obtain ⟨va,vn,vc,hv9⟩:=Inv.rowSlice hI 1 rfl
 refine dB hI 0 (n:=1) (by rw [hv9]; rfl) (by decide +kernel) rfl (by omega) (by rw [hv9]; simp [Value.cells,Value.oneCell']) fun w_ hI=>?_
 have hcl9:Value.cells xa=#[xa]:=by rw [hv9]; rfl
 have e:bk c d (Value.cells xa).toList=c.setIfInBounds d xa:=by
  rw [hcl9]
  apply Array.toList_inj.1
  simp only [bk,Array.toList_setIfInBounds]
  have hl:d<c.toList.length:=by simpa using hd
  rw [List.set_eq_take_append_cons_drop,if_pos hl]
  simp
 rw [e] at hI
 exact hk _ ⟨p1,S1,cs,hQ,hl,hI⟩
end
abbrev dW (d:Nat):Nat:=6 * 3 ^ d
theorem K8 (d:Nat):6<=dW d:=by
 have:0<3 ^ d:=Nat.pow_pos (by omega)
 simp only [dW]; omega
theorem Na (d:Nat):dW (d+1)=3 * dW d:=by simp only [dW,Nat.pow_succ]; omega
abbrev Pg (br:Nat) (sl:Value) (p d:Nat):Value->List Item->ae->Prop:=fun v I' S'=>∃ p',p'+2<=p+dW d/\I'=[rdI br sl p']/\∃ cs t,v=.agg cs.toArray/\RdT S' cs t/\wT t+3<=dW d/\okU 26 t
end
end Go.Proofs.YtbocelianhcfmaaGreatDoor
