/- Unification: the plain form. Lists of bindings, what a variable reaches, unifiers, resolved terms. -/
import Derived.Test.YtgllldjiaglkcaaGreatDoorZDr8
import Derived.Test.YtgllldjiaglkcaaGreatDoorZDr3
namespace Go.Proofs.YtgllldjiaglkcaaGreatDoor
section
open Go Go.RowKit
mutual
def okU (N:Nat):T->Prop
 | .mk k n s ks=>k≠0/\(k=1->0<=n/\n<N/\s=emptyB/\ks=[])/\bH N ks/\s.size<=6
def bH (N:Nat):List T->Prop
 | []=>True
 | t::ts=>okU N t/\bH N ts
end
mutual
def vT:T->List Nat
 | .mk k n _ ks=>if k=1 then [n.toNat] else vTL ks
def vTL:List T->List Nat
 | []=>[]
 | t::ts=>vT t++vTL ts
end
theorem oT {N:Nat}:∀ {ts:List T},bH N ts->∀ t∈ts,okU N t
 | t::ts,h,x,hx=>by
  rw [bH] at h
  rcases List.mem_cons.1 hx with rfl|hx
  ·exact h.1
  ·exact oT h.2 x hx
theorem ma {N:Nat}:∀ {ts:List T},(∀ t∈ts,okU N t)->bH N ts
 | [],_=>by rw [bH]; trivial
 | t::ts,h=>by rw [bH]; exact ⟨h t (List.mem_cons_self ..),ma fun u hu=>h u (List.mem_cons_of_mem _ hu)⟩
theorem l5:∀ {ts:List T} {m:Nat},m∈vTL ts↔∃ t∈ts,m∈vT t
 | [],m=>by simp [vTL]
 | t::ts,m=>by rw [vTL,List.mem_append,l5]; simp
theorem okU.kids {N:Nat} {t:T} (h:okU N t):bH N t.kids:=by cases t; rw [okU] at h; exact h.2.2.1
theorem okU.var {N:Nat} {t:T} (h:okU N t) (hk:t.kind=1):0<=t.n/\t.n<N/\t.name=emptyB/\t.kids=[]:=by cases t; rw [okU] at h; exact h.2.1 hk
theorem okU.kind {N:Nat} {t:T} (h:okU N t):t.kind≠0:=by cases t; rw [okU] at h; exact h.1
theorem gH {t:T} (h:t.kind=1):vT t=[t.n.toNat]:=by cases t; rw [vT]; exact if_pos h
theorem s7 {t:T} (h:t.kind≠1):vT t=vTL t.kids:=by cases t; rw [vT]; exact if_neg h
mutual
theorem Rw {N:Nat}:∀ (t:T),okU N t->∀ m∈vT t,m<N
 | .mk k n s ks,h,m,hm=>by
  rw [okU] at h
  rw [vT] at hm
  split at hm
  ·rename_i hk
   have:=h.2.1 hk
   simp at hm
   omega
  ·exact Ia ks h.2.2.1 m hm
theorem Ia {N:Nat}:∀ (ts:List T),bH N ts->∀ m∈vTL ts,m<N
 | [],_,m,hm=>by simp [vTL] at hm
 | t::ts,h,m,hm=>by
  rw [bH] at h
  rw [vTL,List.mem_append] at hm
  rcases hm with hm|hm
  ·exact Rw t h.1 m hm
  ·exact Ia ts h.2 m hm
end
def look (st:ag) (t:T):Option T:=if t.kind=1 then (st[t.n.toNat]?).join else none
theorem ce {st:ag} {t u:T}:look st t=some u↔t.kind=1/\st[t.n.toNat]?=some (some u):=by
 unfold look
 split
 ·rename_i h
  simp only [Option.join_eq_some_iff]
  exact ⟨fun e=>⟨h,e⟩,fun e=>e.2⟩
 ·rename_i h
  simp [h]
theorem pt {st:ag} {t:T}:look st t=none↔(t.kind=1->st[t.n.toNat]?=none ∨ st[t.n.toNat]?=some none):=by
 unfold look
 split
 ·rename_i h
  rw [Option.join_eq_none_iff]
  constructor
  ·intro e _
   rcases e with e|e
   ·exact .inl e
   ·exact .inr e
  ·intro e
   rcases e h with e|e
   ·exact .inl e
   ·exact .inr e
 ·rename_i h
  simp [h]
inductive cD (st:ag):T->T->Prop
 | stop {t:T}:look st t=none->cD st t t
 | step {t u v:T}:look st t=some u->cD st u v->cD st t v
inductive Rch (st:ag):Nat->Nat->Prop
 | refl (m:Nat):Rch st m m
 | step {m k n:Nat} {u:T}:st[m]?=some (some u)->k∈vT u->Rch st k n->Rch st m n
theorem Rch.trans {st:ag} {a b c:Nat} (h:Rch st a b) (h':Rch st b c):Rch st a c:=by
 induction h with
 | refl=>exact h'
 | step h1 h2 _ ih=>exact .step h1 h2 (ih h')
def fp (st:ag) (n:Nat) (t:T):Prop:=∃ m∈vT t,Rch st m n
structure Good (N:Nat) (st:ag):Prop where
 len:st.length=N
 ok:∀ t,some t∈st->okU N t
 w:∀ t,some t∈st->wT t<=1048576
 rk:∃ r:Nat->Nat,∀ (n:Nat) (u:T),st[n]?=some (some u)->∀ m∈vT u,r m<r n
theorem Good.look_ok {N:Nat} {st:ag} (h:Good N st) {t u:T} (hl:look st t=some u):okU N u/\wT u<=1048576:=by
 have:=List.mem_of_getElem? (ce.1 hl).2
 exact ⟨h.ok u this,h.w u this⟩
theorem cU {N:Nat} {st:ag} {t v:T} (h:Good N st) (hw:cD st t v) (ht:okU N t/\wT t<=1048576):okU N v/\wT v<=1048576:=by
 induction hw with
 | stop=>exact ht
 | step hl _ ih=>exact ih (h.look_ok hl)
theorem fI {st:ag} {t v:T} (hw:cD st t v):look st v=none:=by
 induction hw with
 | stop h=>exact h
 | step _ _ ih=>exact ih
theorem JE {N:Nat} {st:ag} (h:Good N st) (t:T):∃ v,cD st t v:=by
 obtain ⟨r,hr⟩:=h.rk
 have:∀ (k:Nat) (t:T),(∀ u,look st t=some u->r t.n.toNat<k)->∃ v,cD st t v:=by
  intro k
  induction k with
  | zero=>
   intro t ht
   cases hl:look st t with
   | none=>exact ⟨t,.stop hl⟩
   | some u=>have:=ht u hl; omega
  | succ k ih=>
   intro t ht
   cases hl:look st t with
   | none=>exact ⟨t,.stop hl⟩
   | some u=>
    have h1:=ht u hl
    obtain ⟨v,hv⟩:=ih u fun u' hu'=>by
     obtain ⟨hk,_⟩:=ce.1 hu'
     have:=hr _ _ (ce.1 hl).2 u.n.toNat (by rw [gH hk]; simp)
     omega
    exact ⟨v,.step hl hv⟩
 exact this (r t.n.toNat+1) t fun _ _=>Nat.lt_succ_self _
theorem K4 {st:ag} {t v:T} (hw:cD st t v) {n:Nat} (hn:∀ u,st[n]?≠some (some u)):fp st n t↔fp st n v:=by
 induction hw with
 | stop=>exact Iff.rfl
 | step hl _ ih=>
  rename_i t u v
  rw [<- ih]
  obtain ⟨hk,hs⟩:=ce.1 hl
  constructor
  ·rintro ⟨m,hm,hr⟩
   rw [gH hk,List.mem_singleton] at hm
   subst hm
   cases hr with
   | refl=>exact absurd hs (hn _)
   | step h1 h2 h3=>
    rw [hs,Option.some.injEq,Option.some.injEq] at h1
    subst h1
    exact ⟨_,h2,h3⟩
  ·rintro ⟨m,hm,hr⟩
   exact ⟨_,by rw [gH hk]; exact List.mem_singleton.2 rfl,.step hs hm hr⟩
def unb:ag->Nat
 | []=>0
 | none::st=>unb st+1
 | some _::st=>unb st
theorem pC:∀ (st:ag) (n:Nat) (t:T),st[n]?=some none->unb (st.set n (some t))+1=unb st
 | [],n,t,h=>by simp at h
 | x::st,0,t,h=>by
  simp only [List.getElem?_cons_zero,Option.some.injEq] at h
  subst h
  rfl
 | x::st,n+1,t,h=>by
  have h':st[n]?=some none:=by simpa using h
  have:=pC st n t h'
  cases x <;> simp only [List.set_cons_succ,unb] <;> omega
open Classical in
theorem Good.set {N:Nat} {st:ag} (h:Good N st) {n:Nat} {t:T} (hn:st[n]?=some none) (ht:okU N t) (hw:wT t<=1048576) (ho:¬ fp st n t):Good N (st.set n (some t)):=by
 have hnl:n<st.length:=(List.getElem?_eq_some_iff.1 hn).1
 refine ⟨by rw [List.length_set]; exact h.len,fun u hu=>?_,fun u hu=>?_,?_⟩
 ·rcases List.mem_or_eq_of_mem_set hu with hu|hu
  ·exact h.ok u hu
  ·rw [Option.some.injEq] at hu
   rw [hu]; exact ht
 ·rcases List.mem_or_eq_of_mem_set hu with hu|hu
  ·exact h.w u hu
  ·rw [Option.some.injEq] at hu
   rw [hu]; exact hw
 ·obtain ⟨r,hr⟩:=h.rk
  have hM:∀ l:List Nat,∃ M,∀ m∈l,r m<=M:=by
   intro l
   induction l with
   | nil=>exact ⟨0,by simp⟩
   | cons x l ih=>
    obtain ⟨M,hM⟩:=ih
    refine ⟨M+r x,fun m hm=>?_⟩
    rcases List.mem_cons.1 hm with rfl|hm
    ·omega
    ·have:=hM m hm; omega
  obtain ⟨M,hM⟩:=hM (vT t)
  refine ⟨fun m=>if Rch st m n then r m+M+1 else r m,fun k u hku m hm=>?_⟩
  by_cases hkn:n=k
  ·subst hkn
   rw [List.getElem?_set_self hnl,Option.some.injEq,Option.some.injEq] at hku
   subst hku
   have h1:¬ Rch st m n:=fun e=>ho ⟨m,hm,e⟩
   have h2:=hM m hm
   simp only [if_neg h1,if_pos (Rch.refl (st:=st) n)]
   omega
  ·rw [List.getElem?_set_ne hkn] at hku
   have h1:=hr k u hku m hm
   by_cases hmn:Rch st m n
   ·have h2:Rch st k n:=.step hku hm hmn
    simp only [if_pos hmn,if_pos h2]
    omega
   ·simp only [if_neg hmn]
    split <;> omega
inductive Job where
 | one (a b:T)
 | list (xs ys:List T)
inductive Uni:ag->Job->Bool->ag->Prop
 | same {st:ag} {a b a' b':T}:cD st a a'->cD st b b'->a'.kind=1->b'.kind=1->a'.n=b'.n->Uni st (.one a b) true st
 | bindA {st:ag} {a b a' b':T}:cD st a a'->cD st b b'->a'.kind=1->¬ (b'.kind=1/\a'.n=b'.n)->¬ fp st a'.n.toNat b'->Uni st (.one a b) true (st.set a'.n.toNat (some b'))
 | occA {st:ag} {a b a' b':T}:cD st a a'->cD st b b'->a'.kind=1->¬ (b'.kind=1/\a'.n=b'.n)->fp st a'.n.toNat b'->Uni st (.one a b) false st
 | bindB {st:ag} {a b a' b':T}:cD st a a'->cD st b b'->a'.kind≠1->b'.kind=1->¬ fp st b'.n.toNat a'->Uni st (.one a b) true (st.set b'.n.toNat (some a'))
 | occB {st:ag} {a b a' b':T}:cD st a a'->cD st b b'->a'.kind≠1->b'.kind=1->fp st b'.n.toNat a'->Uni st (.one a b) false st
 | clash {st:ag} {a b a' b':T}:cD st a a'->cD st b b'->a'.kind≠1->b'.kind≠1->p6 a' b'=false->Uni st (.one a b) false st
 | kids {st st':ag} {a b a' b':T} {r:Bool}:cD st a a'->cD st b b'->a'.kind≠1->b'.kind≠1->p6 a' b'=true->Uni st (.list a'.kids b'.kids) r st'->Uni st (.one a b) r st'
 | nil {st:ag}:Uni st (.list [] []) true st
 | stop {st st':ag} {a b:T} {xs ys:List T}:Uni st (.one a b) false st'->Uni st (.list (a::xs) (b::ys)) false st'
 | go {st st1 st':ag} {a b:T} {xs ys:List T} {r:Bool}:Uni st (.one a b) true st1->Uni st1 (.list xs ys) r st'->Uni st (.list (a::xs) (b::ys)) r st'
def okJ (N:Nat):Job->Prop
 | .one a b=>(okU N a/\wT a<=1048576)/\(okU N b/\wT b<=1048576)
 | .list xs ys=>(∀ a∈xs,okU N a/\wT a<=1048576)/\(∀ b∈ys,okU N b/\wT b<=1048576)/\xs.length=ys.length
theorem gX {N:Nat} {t:T} (h:okU N t/\wT t<=1048576):∀ x∈t.kids,okU N x/\wT x<=1048576:=by
 intro x hx
 refine ⟨oT h.1.kids x hx,?_⟩
 have h1:=iv hx
 have h2:=h.2
 cases t
 rw [wT] at h2
 simp only [T.kids] at h1
 omega
theorem nL {a b:T} (h:p6 a b=true):a.kids.length=b.kids.length:=by
 rw [p6] at h
 simp only [Bool.and_eq_true,decide_eq_true_eq] at h
 exact h.2.2.2
theorem li {N:Nat} {st:ag} (h:Good N st) {a:T} (hk:a.kind=1) (hl:look st a=none) (ho:okU N a):st[a.n.toNat]?=some none:=by
 obtain ⟨h0,h1,_⟩:=ho.var hk
 rcases pt.1 hl hk with e|e
 ·have:=List.getElem?_eq_none_iff.1 e
  have:=h.len
  omega
 ·exact e
theorem Uni.good {N:Nat} {st st':ag} {j:Job} {r:Bool} (hu:Uni st j r st'):Good N st->okJ N j->Good N st'/\(st'=st ∨ unb st'<unb st):=by
 induction hu with
 | same=>exact fun h _=>⟨h,.inl rfl⟩
 | occA=>exact fun h _=>⟨h,.inl rfl⟩
 | occB=>exact fun h _=>⟨h,.inl rfl⟩
 | clash=>exact fun h _=>⟨h,.inl rfl⟩
 | nil=>exact fun h _=>⟨h,.inl rfl⟩
 | bindA ha hb hk hns ho=>
  rename_i a' b'
  intro h hj
  have h1:=cU h ha hj.1
  have h2:=cU h hb hj.2
  have hf:=li h hk (fI ha) h1.1
  have:=pC _ _ b' hf
  exact ⟨h.set hf h2.1 h2.2 ho,.inr (by omega)⟩
 | bindB ha hb hns hk ho=>
  rename_i a' b'
  intro h hj
  have h1:=cU h ha hj.1
  have h2:=cU h hb hj.2
  have hf:=li h hk (fI hb) h2.1
  have:=pC _ _ a' hf
  exact ⟨h.set hf h1.1 h1.2 ho,.inr (by omega)⟩
 | kids ha hb _ _ hd _ ih=>
  intro h hj
  exact ih h ⟨gX (cU h ha hj.1),gX (cU h hb hj.2),nL hd⟩
 | stop _ ih=>
  intro h hj
  exact ih h ⟨hj.1 _ (List.mem_cons_self ..),hj.2.1 _ (List.mem_cons_self ..)⟩
 | go _ _ ih1 ih2=>
  intro h hj
  obtain ⟨h1,h2⟩:=ih1 h ⟨hj.1 _ (List.mem_cons_self ..),hj.2.1 _ (List.mem_cons_self ..)⟩
  obtain ⟨h3,h4⟩:=ih2 h1 ⟨fun a ha=>hj.1 a (List.mem_cons_of_mem _ ha),fun b hb=>hj.2.1 b (List.mem_cons_of_mem _ hb),by have:=hj.2.2; simpa using this⟩
  refine ⟨h3,?_⟩
  rcases h2 with rfl|h2
  ·exact h4
  ·rcases h4 with rfl|h4
   ·exact .inr h2
   ·exact .inr (by omega)
open Classical in
theorem yY {N:Nat}:∀ (U:Nat) (st:ag),Good N st->unb st<=U->∀ j,okJ N j->∃ r st',Uni st j r st':=by
 intro U
 induction U using Nat.strongRecOn with
 | _ U ihU=>
  intro st hg hU
  -- lists of terms of which each is known to have an answer
  have hlist:∀ (xs ys:List T),okJ N (.list xs ys)->(∀ a∈xs,∀ b,okJ N (.one a b)->∃ r st',Uni st (.one a b) r st')->∃ r st',Uni st (.list xs ys) r st':=by
   intro xs
   induction xs with
   | nil=>
    intro ys hj _
    have:ys=[]:=List.eq_nil_of_length_eq_zero hj.2.2.symm
    subst this
    exact ⟨true,st,.nil⟩
   | cons a xs ih=>
    intro ys hj hP
    cases ys with
    | nil=>have:=hj.2.2; simp at this
    | cons b ys=>
     have hjab:okJ N (.one a b):=⟨hj.1 _ (List.mem_cons_self ..),hj.2.1 _ (List.mem_cons_self ..)⟩
     have hjl:okJ N (.list xs ys):=⟨fun a ha=>hj.1 a (List.mem_cons_of_mem _ ha),fun b hb=>hj.2.1 b (List.mem_cons_of_mem _ hb),by have:=hj.2.2; simpa using this⟩
     obtain ⟨r,st1,h1⟩:=hP a (List.mem_cons_self ..) b hjab
     cases r with
     | false=>exact ⟨false,st1,.stop h1⟩
     | true=>
      obtain ⟨hg1,hu1⟩:=h1.good hg hjab
      rcases hu1 with rfl|hu1
      ·obtain ⟨r,st2,h2⟩:=ih ys hjl fun a ha=>hP a (List.mem_cons_of_mem _ ha)
       exact ⟨r,st2,.go h1 h2⟩
      ·obtain ⟨r,st2,h2⟩:=ihU (unb st1) (by omega) st1 hg1 (Nat.le_refl _) _ hjl
       exact ⟨r,st2,.go h1 h2⟩
  obtain ⟨rk,hrk⟩:=hg.rk
  have hone:∀ (m:Nat) (a:T),(∀ x∈vT a,∀ u,st[x]?=some (some u)->rk x<m)->∀ b,okJ N (.one a b)->∃ r st',Uni st (.one a b) r st':=by
   intro m
   induction m using Nat.strongRecOn with
   | _ m ihm=>
    refine T.ind fun k n s ks ih hr b hj=>?_
    obtain ⟨b',hb⟩:=JE hg b
    have hbo:=cU hg hb hj.2
    cases hl:look st (.mk k n s ks) with
    | some u=>
     obtain ⟨hk,hs⟩:=ce.1 hl
     have hlt:=hr _ (by rw [gH hk]; exact List.mem_singleton.2 rfl) u hs
     have hju:okJ N (.one u b):=⟨hg.look_ok hl,hj.2⟩
     obtain ⟨r,st',hu⟩:=ihm _ hlt u (fun x hx _ _=>hrk _ _ hs x hx) b hju
     refine ⟨r,st',?_⟩
     cases hu with
     | same h1 h2 h3 h4 h5=>exact .same (.step hl h1) h2 h3 h4 h5
     | bindA h1 h2 h3 h4 h5=>exact .bindA (.step hl h1) h2 h3 h4 h5
     | occA h1 h2 h3 h4 h5=>exact .occA (.step hl h1) h2 h3 h4 h5
     | bindB h1 h2 h3 h4 h5=>exact .bindB (.step hl h1) h2 h3 h4 h5
     | occB h1 h2 h3 h4 h5=>exact .occB (.step hl h1) h2 h3 h4 h5
     | clash h1 h2 h3 h4 h5=>exact .clash (.step hl h1) h2 h3 h4 h5
     | kids h1 h2 h3 h4 h5 h6=>exact .kids (.step hl h1) h2 h3 h4 h5 h6
    | none=>
     have ha:cD st (.mk k n s ks) (.mk k n s ks):=.stop hl
     by_cases hk:(T.mk k n s ks).kind=1
     ·by_cases hsame:b'.kind=1/\(T.mk k n s ks).n=b'.n
      ·exact ⟨_,_,.same ha hb hk hsame.1 hsame.2⟩
      ·by_cases ho:fp st (T.mk k n s ks).n.toNat b'
       ·exact ⟨_,_,.occA ha hb hk hsame ho⟩
       ·exact ⟨_,_,.bindA ha hb hk hsame ho⟩
     ·by_cases hkb:b'.kind=1
      ·by_cases ho:fp st b'.n.toNat (T.mk k n s ks)
       ·exact ⟨_,_,.occB ha hb hk hkb ho⟩
       ·exact ⟨_,_,.bindB ha hb hk hkb ho⟩
      ·cases hd:p6 (T.mk k n s ks) b' with
       | false=>exact ⟨_,_,.clash ha hb hk hkb hd⟩
       | true=>
        obtain ⟨r,st',hu⟩:=hlist ks b'.kids ⟨gX hj.1,gX hbo,nL hd⟩ fun a ha' b2 hj2=>
         ih a ha' (fun x hx u hs=>hr x (by rw [s7 hk]; exact l5.2 ⟨a,ha',hx⟩) u hs) b2 hj2
        exact ⟨r,st',.kids ha hb hk hkb hd hu⟩
  have hall:∀ a b,okJ N (.one a b)->∃ r st',Uni st (.one a b) r st':=by
   intro a b hj
   have hM:∀ l:List Nat,∃ M,∀ m∈l,rk m<M:=by
    intro l
    induction l with
    | nil=>exact ⟨0,by simp⟩
    | cons x l ih=>
     obtain ⟨M,hM⟩:=ih
     refine ⟨M+rk x+1,fun m hm=>?_⟩
     rcases List.mem_cons.1 hm with rfl|hm
     ·omega
     ·have:=hM m hm; omega
   obtain ⟨M,hM⟩:=hM (vT a)
   exact hone M a (fun x hx _ _=>hM x hx) b hj
  intro j hj
  cases j with
  | one a b=>exact hall a b hj
  | list xs ys=>exact hlist xs ys hj fun a _ b hjb=>hall a b hjb
inductive Ij where
 | one (t u:T)
 | list (ts us:List T)
inductive Res (st:ag):Ij->Prop
 | one {t v:T} {us:List T}:cD st t v->Res st (.list v.kids us)->Res st (.one t (.mk v.kind v.n v.name us))
 | nil:Res st (.list [] [])
 | cons {t u:T} {ts us:List T}:Res st (.one t u)->Res st (.list ts us)->Res st (.list (t::ts) (u::us))
theorem DF {N:Nat} {st:ag} (h:Good N st) (t:T) (ho:okU N t):∃ u,Res st (.one t u):=by
 obtain ⟨rk,hrk⟩:=h.rk
 have hlist:∀ ts:List T,(∀ t∈ts,∃ u,Res st (.one t u))->∃ us,Res st (.list ts us):=by
  intro ts
  induction ts with
  | nil=>exact fun _=>⟨[],.nil⟩
  | cons t ts ih=>
   intro hP
   obtain ⟨u,hu⟩:=hP t (List.mem_cons_self ..)
   obtain ⟨us,hus⟩:=ih fun x hx=>hP x (List.mem_cons_of_mem _ hx)
   exact ⟨u::us,.cons hu hus⟩
 have hone:∀ (m:Nat) (a:T),(∀ x∈vT a,∀ u,st[x]?=some (some u)->rk x<m)->(okU N a)->∃ u,Res st (.one a u):=by
  intro m
  induction m using Nat.strongRecOn with
  | _ m ihm=>
   refine T.ind fun k n s ks ih hr ho=>?_
   cases hl:look st (.mk k n s ks) with
   | some u=>
    obtain ⟨hk,hs⟩:=ce.1 hl
    have hlt:=hr _ (by rw [gH hk]; exact List.mem_singleton.2 rfl) u hs
    obtain ⟨u',hu⟩:=ihm _ hlt u (fun x hx _ _=>hrk _ _ hs x hx) (h.look_ok hl).1
    refine ⟨u',?_⟩
    cases hu with
    | one h1 h2=>exact .one (.step hl h1) h2
   | none=>
    by_cases hk:(T.mk k n s ks).kind=1
    ·have:=(ho.var hk).2.2.2
     have e:ks=[]:=this
     subst e
     exact ⟨_,.one (.stop hl) .nil⟩
    ·obtain ⟨us,hus⟩:=hlist ks fun a ha=>ih a ha (fun x hx u hs=>hr x (by rw [s7 hk]; exact l5.2 ⟨a,ha,hx⟩) u hs) (oT ho.kids a ha)
     exact ⟨_,.one (.stop hl) hus⟩
 have hM:∀ l:List Nat,∃ M,∀ m∈l,rk m<M:=by
  intro l
  induction l with
  | nil=>exact ⟨0,by simp⟩
  | cons x l ih=>
   obtain ⟨M,hM⟩:=ih
   refine ⟨M+rk x+1,fun m hm=>?_⟩
   rcases List.mem_cons.1 hm with rfl|hm
   ·omega
   ·have:=hM m hm; omega
 obtain ⟨M,hM⟩:=hM (vT t)
 exact hone M t (fun x hx _ _=>hM x hx) ho
end
section
open Go Go.RowKit
theorem Oc {b:Bool} {n:Nat} (h:b=decide (1<=n)) (h':b=false):n=0:=by
 rw [h',eq_comm,decide_eq_false_iff_not] at h; omega
theorem uv {a b:Bool} {k n:Nat} (h:a=decide (k<=n)) (ha:a=true) (h':b=decide (k+1<=n)) (hb:b=false):n=k:=by
 rw [ha,eq_comm,decide_eq_true_iff] at h
 rw [hb,eq_comm,decide_eq_false_iff_not] at h'
 omega
theorem Nj {b:Bool} {n m:Nat} (hl:n<=m) (h:b=decide (m<=n)) (hb:b=true):n=m:=by
 rw [hb,eq_comm,decide_eq_true_iff] at h; omega
theorem Nh {b l:Bool} {n m:Nat} (h:b=decide (m<=n)) (k:b=true->l=true) (hl:l=false):n<m:=by
 cases b
 ·rw [eq_comm,decide_eq_false_iff_not] at h; omega
 ·rw [k rfl] at hl; cases hl
def G5:List (Nat × Value)->List ByteArray
 | (_,.string s)::l=>s::G5 l
 | _=>[]
def LQ:List (Nat × Value)->List Int
 | (_,.int _ n)::l=>n::LQ l
 | _=>[]
theorem Mp {α:Type} {f:α->Value} (l:List α) {i:Nat} (hi:i<l.length):aJ (l.map f).toArray i 1=[f l[i]]:=by
 rw [aJ,List.drop_eq_getElem_cons (by simpa using hi)]
 simp
theorem RdSl.monoU {S S':ad} {v:Value} {ys:List Nat} (hs:Sle S S') (h:RdSl S 1 jy v ys):RdSl S' 1 jy v ys:=h.mono hs fun _ _ h=>h
theorem Md {S:ad} {b:Nat} {E:TypeId} {cs:List Value} {t:T} (hS:S b=some (.cells cs.toArray E)) (h:RdT S cs t):RdSl S 4 (RdT S) (.slice (some ⟨b,0,none⟩) 1 1) [t]:=by
 refine ⟨_,1,rfl,Nat.le_refl _,by simp [maxLen],.inr ⟨b,0,_,E,(0,0),rfl,hS,fun i hi=>?_⟩⟩
 match i,hi with
 | 0,_=>
  have e:aJ cs.toArray (0+0 * 4) 4=cs:=by
   rw [aJ]
   simpa using List.take_of_length_le (Nat.le_of_eq h.length)
  rw [e]
  exact h
section
variable {w0 w:World} {X:List Nat} {L A:List Item} {S:ad} {K:Value->World->Prop}
attribute [local irreducible] Run CondV ai az
theorem Inv.last (h:Inv w0 X L S w) (i:Nat) {it:Item} (hi:L[i]?=some it):Inv w0 X (L.eraseIdx i++[it]) S w:=by
 refine h.perm ?_
 obtain ⟨h1,_⟩:=uq hi it
 rw [List.eraseIdx_eq_take_drop_succ]
 conv=>rhs; rw [h1]
 rw [List.append_assoc]
 exact List.Perm.append_left _ List.perm_append_comm
theorem kG {n:Nat} {ps:List (Nat × Value)} (h:Inv w0 X L S w)
  (hr:(bo Cd n ps).run Tryz.prog w=.ok (.value (.slice (some ⟨w.heap.size,0,none⟩) n n)) { w with heap:=w.heap.push (.cells ((G5 ps).map Value.string).toArray eN) })
  (hn:(G5 ps).length=n) (hm:n<=1000) (hk:∀ v S1 w',Ext w0.heap.size X S S1->RdSl S1 1 qh v (G5 ps)->Inv w0 X L S1 w'->K v w'):Run Tryz.prog (bo Cd n ps) w K:=by
 refine qV (v:=fun b=>.slice (some ⟨b,0,none⟩) n n) (o:=.cells ((G5 ps).map Value.string).toArray eN) h hr fun b w' hI=>?_
 obtain ⟨S1,hI,hE,hS⟩:=hI.pub1
 refine hk _ S1 w' hE ?_ hI
 exact RdSl.ofCells hS hn (by simp only [maxLen]; omega) fun i hi=>Mp _ hi
theorem uJ {n:Nat} {ps:List (Nat × Value)} (h:Inv w0 X L S w)
  (hr:(bo oV n ps).run Tryz.prog w=.ok (.value (.slice (some ⟨w.heap.size,0,none⟩) n n)) { w with heap:=w.heap.push (.cells ((LQ ps).map (Value.int .i64)).toArray bE) })
  (hn:(LQ ps).length=n) (hm:n<=1000) (hk:∀ v S1 w',Ext w0.heap.size X S S1->RdSl S1 1 lb v (LQ ps)->Inv w0 X L S1 w'->K v w'):Run Tryz.prog (bo oV n ps) w K:=by
 refine qV (v:=fun b=>.slice (some ⟨b,0,none⟩) n n) (o:=.cells ((LQ ps).map (Value.int .i64)).toArray bE) h hr fun b w' hI=>?_
 obtain ⟨S1,hI,hE,hS⟩:=hI.pub1
 refine hk _ S1 w' hE ?_ hI
 exact RdSl.ofCells hS hn (by simp only [maxLen]; omega) fun i hi=>Mp _ hi
def oZ (Q:Prop) (R:Nat->Prop):Nat->Prop
 | 0=>Q
 | n+1=>R n
def xw (w0:World) (X:List Nat) (b:Nat) (c:Array Value) (d:Nat) (E:TypeId) (kv:Value) (css:List (List Value)) (A:Nat->List Item) (Q:List Value->Nat->ad->Prop) (xv xs xa:Value) (w':World):Nat->Prop
 | 0=>∃ p1 S1 cs,Q cs p1 S1/\(cs.length=4/\∀ u∈cs,u.oneCell'=true)/\xv=.agg cs.toArray/\Inv w0 X (.blk b (.cells c E)::aC kv ab 4 css::A p1) S1 w'
 | 1=>∃ p1 S1 cs b8,Q cs p1 S1/\(cs.length=4/\∀ u∈cs,u.oneCell'=true)/\xs=.slice (some ⟨b8,0,none⟩) 1 1/\Inv w0 X (.blk b (.cells c E)::aC kv ab 4 css::(A p1++[.blk b8 (.cells cs.toArray ab)])) S1 w'
 | 2=>∃ p1 S1 cs,Q cs p1 S1/\(cs.length=4/\∀ u∈cs,u.oneCell'=true)/\Inv w0 X (.blk b (.cells c E)::aC xa ab 4 (css++[cs])::A p1) S1 w'
 | 3=>∃ p1 S1 cs,Q cs p1 S1/\(cs.length=4/\∀ u∈cs,u.oneCell'=true)/\Inv w0 X (.blk b (.cells (c.setIfInBounds d xa) E)::aC xa ab 4 (css++[cs])::A p1) S1 w'
 | _=>False
variable {b d:Nat} {c:Array Value} {E:TypeId} {kv:Value} {css:List (List Value)} {F:Nat->List Item} {Q:List Value->Nat->ad->Prop} {xv xs xa:Value}
theorem DO {n:Nat} (h:xw w0 X b c d E kv css F Q xv xs xa w n) (hn:n<3):w.cell? ⟨b,d,none⟩=c[d]?:=by
 rcases n with _|_|_|n
 ·obtain ⟨p1,S1,cs,_,_,_,hI⟩:=h
  exact hI.cellL (i:=0) rfl
 ·obtain ⟨p1,S1,cs,b8,_,_,_,hI⟩:=h
  exact hI.cellL (i:=0) rfl
 ·obtain ⟨p1,S1,cs,_,_,hI⟩:=h
  exact hI.cellL (i:=0) rfl
 ·omega
theorem ap1 {B:Prop} (h:oZ B (xw w0 X b c d E kv css F Q xv xs xa w) 1) (hk:∀ u w',oZ B (xw w0 X b c d E kv css F Q xv u xa w') 2->K u w'):Run Tryz.prog (bo oD 1 [(0,xv)]) w K:=by
 obtain ⟨p1,S1,cs,hQ,hl,rfl,hI⟩:=h
 refine dD hI bu (by simp [Value.cells,hl.1]) (by omega) (by omega) fun b8 w' hI=>?_
 exact hk _ _ ⟨p1,S1,cs,b8,hQ,hl,rfl,hI⟩
theorem ap2 {B:Prop} {ty:TypeId} {bs:List Bool} (h:oZ B (xw w0 X b c d E kv css F Q xv xs xa w) 2) (hfit:css.length<=1000000) (hk:∀ u w',oZ B (xw w0 X b c d E kv css F Q xv xs u w') 3->K u w'):Run Tryz.prog (bp .append #[oD,oD] ty bs [kv,xs]) w K:=by
 obtain ⟨p1,S1,cs,b8,hQ,hl,rfl,hI⟩:=h
 have hblk:(Item.blk b (.cells c E)::aC kv ab 4 css::(F p1++[.blk b8 (.cells cs.toArray ab)]))[(F p1).length+1+1]?=some (.blk b8 (.cells cs.toArray ab)):=by
  rw [List.getElem?_cons_succ,List.getElem?_cons_succ,List.getElem?_append_right (Nat.le_refl _),Nat.sub_self]; rfl
 refine dn hI 1 cs bu (by omega) rfl (by rw [hl.1]) (m:=1) (o:=0) ?_ hl.2 (by omega) (by omega) fun v' w_ hI=>?_
 ·intro i u hi
  rw [hI.cellL hblk,Nat.zero_add]
  simpa using hi
 rw [dP] at hI
 refine hk _ _ ⟨p1,S1,cs,hQ,hl,?_⟩
 exact hI.sub (((List.sublist_append_left _ _).cons_cons _).cons_cons _)
theorem ap3 {B:Prop} {ty:TypeId} (h:oZ B (xw w0 X b c d E kv css F Q xv xs xa w) 3) (hd:d<c.size) {K:Value->World->Prop} (hk:∀ w',oZ B (xw w0 X b c d E kv css F Q xv xs xa w') 4->K undef w'):Run Tryz.prog (sOp (.store oD (.const (.pointer (some ⟨b,d,none⟩))) (.const xa)) ty) w K:=by
 obtain ⟨p1,S1,cs,hQ,hl,hI⟩:=h
 obtain ⟨va,vn,vc,hv9⟩:=Inv.rowSlice hI 1 rfl
 refine cw hI 0 (n:=1) (by rw [hv9]; rfl) (by decide +kernel) rfl (by omega) (by rw [hv9]; simp [Value.cells,Value.oneCell']) fun w_ hI=>?_
 have hcl9:Value.cells xa=#[xa]:=by rw [hv9]; rfl
 have e:bf c d (Value.cells xa).toList=c.setIfInBounds d xa:=by
  rw [hcl9]
  apply Array.toList_inj.1
  simp only [bf,Array.toList_setIfInBounds]
  have hl:d<c.toList.length:=by simpa using hd
  rw [List.set_eq_take_append_cons_drop,if_pos hl]
  simp
 rw [e] at hI
 exact hk _ ⟨p1,S1,cs,hQ,hl,hI⟩
end
abbrev dW (d:Nat):Nat:=6 * 3 ^ d
theorem K1 (d:Nat):6<=dW d:=by
 have:0<3 ^ d:=Nat.pow_pos (by omega)
 simp only [dW]; omega
theorem N1 (d:Nat):dW (d+1)=3 * dW d:=by simp only [dW,Nat.pow_succ]; omega
abbrev O2 (br:Nat) (sl:Value) (p d:Nat):Value->List Item->ad->Prop:=fun v I' S'=>∃ p',p'+2<=p+dW d/\I'=[rdI br sl p']/\∃ cs t,v=.agg cs.toArray/\RdT S' cs t/\wT t+3<=dW d/\okU 26 t
end
section
open Go Go.RowKit
theorem pz {l:List Int} {n a b:Int} (hm:n∈l) (h:(l.all fun n=>decide (a<=n) && decide (n<=b))=true):a<=n/\n<=b:=by
 rw [List.all_eq_true] at h
 have:=h n hm
 rw [Bool.and_eq_true,decide_eq_true_eq,decide_eq_true_eq] at this
 exact this
theorem xP {l:List ByteArray} {s:ByteArray} {m:Nat} (hm:s∈l) (h:(l.all fun s=>decide (s.size<=m))=true):s.size<=m:=by
 rw [List.all_eq_true] at h
 have:=h s hm
 rwa [decide_eq_true_eq] at this
theorem Ha {Q B:Prop} {R:Nat->Prop} (h1:Q->B) (h2:∀ n,n<3->R n->B):∀ {n:Nat},oZ Q R n->n<4->B
 | 0,h,_=>h1 h
 | n+1,h,hn=>h2 n (by omega) h
theorem lC:∀ l m:List T,wL (l++m)=wL l+wL m
 | [],m=>by simp [wL]
 | t::l,m=>by simp only [List.cons_append,wL,lC l m]; omega
theorem Nd {n:Int} (h:0<=n/\n<26):okU 26 (.mk 1 n emptyB []):=by
 simp only [okU,bH]
 exact ⟨by decide,fun _=>⟨h.1,h.2,trivial,trivial⟩,trivial,by decide⟩
theorem NP {n:Int}:okU 26 (.mk 2 n emptyB []):=by
 simp only [okU,bH]
 exact ⟨by decide,(fun h=>by cases h),trivial,by decide⟩
theorem DZ {s:ByteArray} {ts:List T} (hs:s.size<=6) (h:bH 26 ts):okU 26 (.mk 3 0 s ts):=by
 simp only [okU]
 exact ⟨by decide,(fun h=>by cases h),h,hs⟩
theorem yy {N:Nat}:∀ {l m:List T},bH N l->bH N m->bH N (l++m)
 | [],_,_,h=>h
 | _::_,_,h,h'=>by
  rw [bH] at h
  rw [List.cons_append,bH]
  exact ⟨h.1,yy h.2 h'⟩
theorem oX {S:ad} {k n:Int} (hk:inI k) (hn:inI n):RdT S [.int .i64 k,.int .i64 n,.string ⟨#[]⟩,.slice none 0 0] (.mk k n emptyB []):=
 RdT.iff.2 ⟨_,rfl,hk,hn,Nat.zero_le _,iR S⟩
section
variable {w0 w:World} {X:List Nat} {L:List Item} {S:ad} {K:Value->World->Prop} {P:Program}
attribute [local irreducible] Run CondV ai az
theorem Run.callL {f:FuncId} {fn:Func} {args:List Value} {I:List Item} {Post:Value->List Item->ad->Prop}
  (hf:P.funcs[f]?=some fn) (hn:(fn.name == "runtime.NumGoroutine" || fn.body.isNone)=false) (h:Inv w0 X L S w) (hc:Tri P f args I S Post) (hL:L=L.dropLast++I)
  (hk:∀ v I' S' w',Post v I' S'->Ext w0.heap.size X S S'->Inv w0 X (L.dropLast++I') S' w'->K v w'):Run P (dy (.func (.func f) #[] #[]) args) w K:=
 Run.callE (A:=L.dropLast) hf hn (hL ▸ h) hc hk
theorem Ep {T:TypeId} {cx cy:Bool} {d:Nat} (hd:d<=1000000) (hk:K (.int .i64 (d:Int)) w):Run P (bN .sub T cx cy (.int .i64 ((d+1:Nat):Int)) (.int .i64 1)) w K:=by
 refine iw (by omega) ?_
 rw [show ((d+1:Nat):Int) - 1=d by omega]
 exact hk
theorem Eh {B:Prop} {b d:Nat} {c:Array Value} {E:TypeId} {kv xs xa:Value} {css:List (List Value)} {F:Nat->List Item} {Q:List Value->Nat->ad->Prop} {p1:Nat} {S1:ad} {cs:List Value} {t:T}
  (hQ:Q cs p1 S1) (hr:RdT S1 cs t) (hI:Inv w0 X (.blk b (.cells c E)::aC kv ab 4 css::F p1) S1 w):oZ B (xw w0 X b c d E kv css F Q (.agg cs.toArray) xs xa w) 1:=
 ⟨p1,S1,cs,hQ,⟨hr.length,hr.one⟩,rfl,hI⟩
end
section
variable {br:Nat} {sl:Value} {ys:List Nat}
attribute [local irreducible] Run CondV ai az
abbrev IB (br:Nat) (sl:Value) (ys:List Nat) (d:Nat):Prop:=∀ (p:Nat) (S:ad),RdSl S 1 jy sl ys->p+3 * dW d<=1000000000->Tri Tryz.prog HY [rdP br,.int .i64 (d:Int)] [rdI br sl p] S (O2 br sl p d)
theorem CC {d:Nat} (hd4:d<=4) (ih:∀ d',d'+1=d->IB br sl ys d'):IB br sl ys d:=by
 intro p S hrd hp w hI
 have hW:=K1 d
 refine vO.2 ?_
 dsimp only[vO,aX]
 refine aM hI aU fun b4 w' hI=>?_
 have hI:Inv w [br] [.blk b4 (.cells #[.int .i64 0,.int .i64 0,.string ⟨#[]⟩,.slice none 0 0] ab),rdI br sl p] S w':=hI.last 0 rfl
 refine ⟨fun v w'=>∃ (c:Bool) (p1:Nat),v=.bool c/\p1<=p+1/\(c=false->2<=d)/\Inv w [br] [.blk b4 (.cells #[.int .i64 0,.int .i64 0,.string ⟨#[]⟩,.slice none 0 0] ab),rdI br sl p1] S w',?_,?_⟩
 ·refine bI ?_
  by_cases hd:(d:Int)<2
  ·rw [decide_eq_true hd]
   refine rpG ?_
   exact ⟨true,p,rfl,by omega,(fun h=>by cases h),hI⟩
  ·rw [decide_eq_false hd]
   refine rpG ?_
   refine Run.callL bz bA hI (cA (n:=4) hrd (by omega) (by omega)) rfl fun v' I' S' w'=>?_
   rintro ⟨rfl,rfl,k,hk,rfl⟩ _ hI
   refine aZ ?_
   refine rpG ?_
   exact ⟨_,p+1,rfl,by omega,fun _=>by omega,hI⟩
 intro t13 _ _ _ _ _ _ w'
 rintro ⟨c,p1,rfl,hp1,hcd,hI⟩
 refine aw (fun _=>?_) (fun hc=>?_)
 ·refine Run.callL bz bA hI (cA (n:=4) hrd (by omega) (by omega)) rfl fun v' I' S' w'=>?_
  rintro ⟨rfl,rfl,k,hk,rfl⟩ _ hI
  have hI:Inv w [br] [.blk b4 (.cells #[.int .i64 0,.int .i64 0,.string ⟨#[]⟩,.slice none 0 0] ab),rdI br sl (p1+1)] S' w':=hI
  refine aZ ?_
  refine aI (fun _=>?_) (fun _=>?_)
  ·refine Run.callL bz bA hI (cA (n:=4) hrd (by omega) (by omega)) rfl fun v' I' S1 w'=>?_
   rintro ⟨rfl,rfl,k,hk,rfl⟩ _ hI
   refine Run.callPure Ag z1 hI (qC k S1) fun w' hI=>?_
   refine av hI 0 rfl ac rfl rfl (by simp [Value.oneCell']) fun w' hI=>?_
   refine bl hI 0 ac rfl rfl ?_
   exact ⟨_,_,S1,rfl,hI.pick [false,true],Ext.refl _ _ _,p1+2,by omega,rfl,_,_,rfl,oX (by simp [inI]) (by simp only [inI]; omega),by have e:emptyB.size=0:=rfl; simp only [wT,wL,List.length_nil,e]; omega,Nd (by omega)⟩
  refine aZ ?_
  refine aI (fun _=>?_) (fun _=>?_)
  ·refine uJ hI (by kernel_rfl) rfl (by omega) fun v S1 w' hE1 hv hI=>?_
   refine Run.callL dR dN hI (iZ (p:=p1+1) (hrd.monoU hE1.1) hv (by decide) (by omega)) rfl fun v' I' S2 w'=>?_
   rintro ⟨rfl,rfl,n,hn,rfl⟩ _ hI
   have hn:=pz (a:=-1000) (b:=1000) hn (by decide)
   refine Run.callPure qT rn hI (kH n S2) fun w' hI=>?_
   refine av hI 0 rfl ac rfl rfl (by simp [Value.oneCell']) fun w' hI=>?_
   refine bl hI 0 ac rfl rfl ?_
   exact ⟨_,_,S2,rfl,hI.pick [false,true],hE1,p1+2,by omega,rfl,_,_,rfl,oX (by simp [inI]) (by simp only [inI]; omega),by have e:emptyB.size=0:=rfl; simp only [wT,wL,List.length_nil,e]; omega,NP⟩
  ·refine kG hI (by kernel_rfl) rfl (by omega) fun v S1 w' hE1 hv hI=>?_
   refine Run.callL gY gU hI (sL (p:=p1+1) (hrd.monoU hE1.1) hv (by decide) (by omega)) rfl fun v' I' S2 w'=>?_
   rintro ⟨rfl,rfl,s,hs,rfl⟩ _ hI
   have hs:=xP (m:=3) hs (by decide)
   refine Run.call0E cJ cH hI (c7 s (by simp only [maxLen]; omega) (iR S2) (by simp)) fun v' I' S3 w'=>?_
   rintro ⟨rfl,cs,rfl,hcs⟩ hE3 hI
   refine av hI 0 rfl ac (by simpa using hcs.length) rfl (by simpa using hcs.one) fun w' hI=>?_
   refine bl hI 0 ac rfl (by simpa using hcs.length) ?_
   exact ⟨_,_,S3,rfl,hI.pick [false,true],hE1.trans hE3,p1+2,by omega,rfl,_,_,rfl,hcs,by simp only [wT,wL,List.length_nil]; omega,DZ (by omega) (by simp only [bH])⟩
 obtain ⟨d',rfl⟩:∃ d',d=d'+1:=⟨d - 1,by have:=hcd hc; omega⟩
 have ih:=ih d' rfl
 have hD:=K1 d'
 have hDs:=N1 d'
 have h3:dW d'<=486:=by
  have:3 ^ d'<=3 ^ 4:=Nat.pow_le_pow_right (by omega) (by omega)
  simp only [dW]; omega
 refine Run.callL bz bA hI (cA (n:=3) hrd (by omega) (by omega)) rfl fun v' I' S w'=>?_
 rintro ⟨rfl,rfl,k,hk,rfl⟩ _ hI
 refine aZ ?_
 refine aI (fun _=>?_) (fun _=>?_)
 ·refine Ep (by omega) ?_
  refine Run.callL ki jT hI (ih (p1+1) S hrd (by omega)) rfl fun v' I' S1 w'=>?_
  rintro ⟨p2,hp2,rfl,cs1,t1,rfl,hc1,hw1,ho1⟩ hE1 hI
  refine Ep (by omega) ?_
  refine Run.callL ki jT hI (ih p2 S1 (hrd.monoU hE1.1) (by omega)) rfl fun v' I' S2 w'=>?_
  rintro ⟨p3,hp3,rfl,cs2,t2,rfl,hc2,hw2,ho2⟩ hE2 hI
  have hc1:=RdT.mono hE2.1 hc1
  obtain ⟨kv1,rfl,_,_,_,a1,q1,rfl,_⟩:=RdT.iff.1 hc1
  obtain ⟨kv2,rfl,_,_,_,a2,q2,rfl,_⟩:=RdT.iff.1 hc2
  refine qV (v:=fun b=>.slice (some ⟨b,0,none⟩) 2 2) (o:=.cells #[.int .i64 t1.kind,.int .i64 t1.n,.string t1.name,.slice a1 t1.kids.length q1,.int .i64 t2.kind,.int .i64 t2.n,.string t2.name,.slice a2 t2.kids.length q2] ab) hI (by kernel_rfl) fun b w' hI=>?_
  have hI:Inv w [br] ([.blk b4 (.cells #[.int .i64 0,.int .i64 0,.string ⟨#[]⟩,.slice none 0 0] ab),rdI br sl p3]++[_]) S2 w':=hI
  obtain ⟨S3,hI,hE3,hS⟩:=hI.pub1
  refine Run.call0E cJ cH hI (c7 ⟨#[46]⟩ (by decide) (Hz hS (hc1.mono hE3.1) (hc2.mono hE3.1)) (by simp)) fun v' I' S4 w'=>?_
  rintro ⟨rfl,cs,rfl,hcs⟩ hE4 hI
  refine av hI 0 rfl ac (by simpa using hcs.length) rfl (by simpa using hcs.one) fun w' hI=>?_
  refine bl hI 0 ac rfl (by simpa using hcs.length) ?_
  refine ⟨_,_,S4,rfl,hI.pick [false,true],(hE1.trans hE2).trans (hE3.trans hE4),p3,by omega,rfl,_,_,rfl,hcs,?_,DZ (by decide) (by simp only [bH]; exact ⟨ho1,ho2,trivial⟩)⟩
  have e:(ByteArray.mk #[46]).size=1:=rfl
  simp only [wT,wL,List.length_cons,List.length_nil,e]
  omega
 ·refine kG hI (by kernel_rfl) rfl (by omega) fun v S1 w' hE1 hv hI=>?_
  refine Run.callL gY gU hI (sL (p:=p1+1) (hrd.monoU hE1.1) hv (by decide) (by omega)) rfl fun v' I' S2 w'=>?_
  rintro ⟨rfl,rfl,s,hs,rfl⟩ _ hI
  have hs:=xP (m:=3) hs (by decide)
  refine Run.call0E cJ cH hI (sr s (iR S2) (by simp)) fun v' I' S3 w'=>?_
  rintro ⟨rfl,kv0,css0,rfl,rfl,hR0⟩ hE3 hI
  refine aM hI aU fun b5 w' hI=>?_
  obtain ⟨a0,n0,q0,rfl⟩:=hI.rowSlice 2 rfl
  refine av hI 3 rfl ac rfl rfl (by simp [Value.oneCell']) fun w' hI=>?_
  obtain ⟨B4,hB4⟩:∃ B4,B4=Item.blk b4 (.cells #[.int .i64 0,.int .i64 0,.string ⟨#[]⟩,.slice none 0 0] ab):=⟨_,rfl⟩
  have hI:Inv w [br] [.blk b5 (.cells #[.int .i64 3,.int .i64 0,.string s,.slice a0 n0 q0] ab),aC (.slice a0 n0 q0) ab 4 css0,B4,rdI br sl (p1+2)] S3 w':=by
   rw [hB4]
   exact ((hI.last 2 rfl).last 0 rfl).last 0 rfl
  refine uJ hI (by kernel_rfl) rfl (by omega) fun v S4 w' hE4 hv hI=>?_
  refine Run.callL dR dN hI (iZ (p:=p1+2) (hrd.monoU ((hE1.trans hE3).trans hE4).1) hv (by decide) (by omega)) rfl fun v' I' S5 w'=>?_
  rintro ⟨rfl,rfl,n,hn,rfl⟩ _ hI
  have hn:=pz (a:=1) (b:=3) hn (by decide)
  have hE5:Ext w.heap.size [br] S S5:=(hE1.trans hE3).trans hE4
  refine ⟨fun t w'=>∃ (j p2:Nat) (S6:ad) (kv:Value) (css:List (List Value)) (ts:List T),bH 26 ts/\t=.int .i64 (j:Int)/\ts.length+j<=3/\Rows 4 (RdT S6) css ts/\wL ts+3 * ts.length<=ts.length * dW d'/\p2+2 * ts.length<=p1+3+ts.length * dW d'/\Ext w.heap.size [br] S S6/\
   Inv w [br] [.blk b5 (.cells #[.int .i64 3,.int .i64 0,.string s,kv] ab),aC kv ab 4 css,B4,rdI br sl p2] S6 w',fun t _=>(intOf t).toNat,
   ⟨n.toNat,p1+3,S5,_,css0,[],by simp only [bH],by rw [Int.toNat_of_nonneg (by omega)],by simp; omega,hR0.monoR fun _ _ h=>RdT.mono hE4.1 h,by simp [wL],by simp,hE5,hI⟩,?_⟩
  intro t6 _ _ t63 t62 t61 t60 t59 t58 t57 t56 t55 _ _ w'
  rintro ⟨j,p2,S6,kv,css,ts,hou,rfl,hj,hR,hwts,hp2,hE6,hI⟩
  have hcl:=hR.hc
  have hm:ts.length * dW d'<=3 * dW d':=Nat.mul_le_mul_right _ (by omega)
  refine dB ?_
  refine aI (fun hj0=>?_) (fun hj0=>?_)
  ·obtain ⟨j',rfl⟩:∃ j',j=j'+1:=⟨j - 1,by omega⟩
   refine ⟨fun D CH yP yz xV yc xZ yE yK Cl w_=>Fx D 0 [Cl=.pointer (some ⟨b5,3,none⟩),yK=kv,yE=rdP br,xZ=.int .i64 ((d'+1:Nat):Int),yc=.int .i64 (d':Int),True,True,True,CH=.pointer (some ⟨b5,3,none⟩),True]/\∃ n_:Nat,n_<=4/\D 5=decide (1<=n_)/\D 6=decide (2<=n_)/\D 7=decide (3<=n_)/\D 9=decide (4<=n_)/\(D 9=true->D 1=true)/\(oZ (Inv w [br] [.blk b5 (.cells #[.int .i64 3,.int .i64 0,.string s,kv] ab),aC kv ab 4 css,B4,rdI br sl p2] S6 w_) (xw w [br] b5 #[.int .i64 3,.int .i64 0,.string s,kv] 3 ab kv css (fun p=>[B4,rdI br sl p]) (fun cs p' S'=>∃ t,okU 26 t/\RdT S' cs t/\wT t+3<=dW d'/\p'+2<=p2+dW d'/\Ext w.heap.size [br] S6 S') xV yz yP w_) n_),⟨Fx.nil _ _,⟨0,Nat.zero_le _,rfl,rfl,rfl,rfl,(aK),hI.draw⟩⟩,⟨?_,?_,?_,?_,?_,?_,?_,?_,?_,?_,trivial⟩,?_⟩
   all_goals (intro D bx; intros; rename_i CH yP yz xV yc xZ yE yK Cl w_ hA_; have hF_:=hA_.1; obtain ⟨⟨cr,cq,ct,cu,cz,cB,bP,cT,dw,fc,_⟩,⟨n_,ln_,e1_,e2_,e3_,e4_,kp_,hS⟩⟩:=hA_)
   ·refine aB au ?_
    exact ⟨hF_.set 0 rfl,⟨n_,ln_,e1_,e2_,e3_,e4_,kp_,hS⟩⟩
   ·obtain rfl:=cr ‹_›
    have ln2_:=Nh e4_ kp_ bx
    refine bX aj ((Ha (fun h=>h.cellL (i:=0) rfl) (fun n hn h=>DO h hn) hS ln2_).trans rfl) ?_
    exact ⟨hF_.set 1 rfl,⟨n_,ln_,e1_,e2_,e3_,e4_,(fun _=>rfl),hS⟩⟩
   ·exact ⟨hF_.set 2 rfl,⟨n_,ln_,e1_,e2_,e3_,e4_,kp_,hS⟩⟩
   ·exact ⟨hF_.set 3 rfl,⟨n_,ln_,e1_,e2_,e3_,e4_,kp_,hS⟩⟩
   ·obtain rfl:=cu ‹_›
    refine Ep (by omega) ?_
    exact ⟨hF_.set 4 rfl,⟨n_,ln_,e1_,e2_,e3_,e4_,kp_,hS⟩⟩
   ·obtain rfl:=ct ‹_›
    obtain rfl:=cz ‹_›
    obtain rfl:n_=0:=Oc e1_ bx
    refine Run.callL ki jT (L:=[.blk b5 _,aC _ ab 4 css,B4,rdI br sl p2]) hS (ih p2 S6 (hrd.monoU hE6.1) (by omega)) rfl fun v' I' S7 w_=>?_
    rintro ⟨p3,hp3,rfl,cs,t,rfl,hcs,hwt,hot⟩ hE7 hI
    exact ⟨hF_.set 5 (by first|assumption|trivial),⟨1,by decide,rfl,(by first|exact e2_|rfl),(by first|exact e3_|rfl),(by first|exact e4_|rfl),kp_,Eh ⟨t,hot,hcs,hwt,hp3,hE7⟩ hcs hI⟩⟩
   ·have I7:=cB ‹_›
    obtain rfl:n_=1:=uv e1_ ‹D 5=true› e2_ bx
    refine ap1 hS fun u w_ hS=>?_
    exact ⟨hF_.set 6 (by first|assumption|trivial),⟨2,by decide,(by first|exact e1_|rfl),rfl,(by first|exact e3_|rfl),(by first|exact e4_|rfl),kp_,hS⟩⟩
   ·obtain rfl:=cq ‹_›
    have IU:=bP ‹_›
    obtain rfl:n_=2:=uv e2_ ‹D 6=true› e3_ bx
    refine ap2 hS (by omega) fun u w_ hS=>?_
    exact ⟨hF_.set 7 (by first|assumption|trivial),⟨3,by decide,(by first|exact e1_|rfl),(by first|exact e2_|rfl),rfl,(by first|exact e4_|rfl),kp_,hS⟩⟩
   ·refine aB au ?_
    exact ⟨hF_.set 8 rfl,⟨n_,ln_,e1_,e2_,e3_,e4_,kp_,hS⟩⟩
   ·obtain rfl:=dw ‹_›
    have Mh:=cT ‹_›
    obtain rfl:n_=3:=uv e3_ ‹D 7=true› e4_ bx
    refine ap3 hS (by simp) fun w_ hS=>?_
    exact ⟨hF_.set 9 trivial,⟨4,by decide,(by first|exact e1_|rfl),(by first|exact e2_|rfl),(by first|exact e3_|rfl),rfl,(fun _=>‹D 1=true›),hS⟩⟩
   obtain rfl:n_=4:=Nj ln_ e4_ ‹D 9=true›
   clear e1_ e2_ e3_ e4_
   obtain ⟨p3,S7,cs,⟨t,hot,hcs,hwt,hp3,hE7⟩,hl,hI⟩:=hS
   refine Ep (by omega) ?_
   refine ⟨⟨j',p3,S7,_,_,ts++[t],yy hou (by simp only [bH]; exact ⟨hot,trivial⟩),rfl,by rw [List.length_append]; simp only [List.length_cons,List.length_nil]; omega,(hR.monoR fun _ _ h=>RdT.mono hE7.1 h).snoc hcs hl.1,?_,?_,hE6.trans hE7,hI⟩,by simp only [intOf,Int.toNat_natCast]; omega⟩
   ·rw [lC,List.length_append,List.length_cons,List.length_nil,Nat.add_mul]
    simp only [wL]
    omega
   ·rw [List.length_append,List.length_cons,List.length_nil,Nat.add_mul]
    omega
  ·have hI:Inv w [br] ([.blk b5 (.cells #[.int .i64 3,.int .i64 0,.string s,kv] ab),B4,rdI br sl p2]++[aC kv ab 4 css]) S6 w':=hI.last 1 rfl
   refine aA hI 0 ac rfl rfl ?_
   obtain ⟨S7,hE7,hrdr,hI⟩:=Inv.lendExt hI
   have hrs:=RowRd.rows (hR.monoR fun _ _ h=>RdT.mono hE7.1 h) hrdr
   obtain ⟨a,q,rfl,_⟩:=id hrs
   subst hB4
   refine av hI 1 rfl ac rfl rfl (by simp [Value.oneCell']) fun w' hI=>?_
   refine bl hI 1 ac rfl rfl ?_
   refine ⟨_,_,S7,rfl,hI.pick [false,false,true],hE6.trans hE7,p2,?_,rfl,[.int .i64 3,.int .i64 0,.string s,_],.mk 3 0 s ts,rfl,RdT.iff.2 ⟨_,rfl,by simp [inI,T.kind],by simp [inI,T.n],by simp only [T.name,maxLen]; omega,hrs⟩,?_,DZ (by omega) hou⟩
   ·have:ts.length=0 ∨ ts.length=1 ∨ ts.length=2 ∨ ts.length=3:=by omega
    rcases this with h|h|h|h <;> rw [h] at hp2 hwts <;> omega
   ·simp only [wT]
    have:ts.length=0 ∨ ts.length=1 ∨ ts.length=2 ∨ ts.length=3:=by omega
    rcases this with h|h|h|h <;> rw [h] at hp2 hwts ⊢ <;> omega
theorem tE:∀ d:Nat,d<=4->IB br sl ys d
 | 0,h=>CC h fun d' e=>by omega
 | d+1,h=>CC h fun d' e=>by
  obtain rfl:d'=d:=by omega
  exact tE _ (by omega)
abbrev MT (br:Nat) (sl:Value) (p k m:Nat):Value->List Item->ad->Prop:=fun v I' S'=>∃ p',p'<=p+k/\I'=[rdI br sl p']/\∃ cs t,v=.agg cs.toArray/\RdT S' cs t/\wT t<=m
theorem rU {p:Nat} {S:ad} (hrd:RdSl S 1 jy sl ys) (hp:p<=400000000):Tri Tryz.prog Iv [rdP br] [rdI br sl p] S (MT br sl p 500 500):=by
 intro w hI
 refine vQ.2 ?_
 dsimp only[vQ,aD]
 refine aM hI aU fun b2 w' hI=>?_
 have hI:Inv w [br] [.blk b2 (.cells #[.int .i64 0,.int .i64 0,.string ⟨#[]⟩,.slice none 0 0] ab),rdI br sl p] S w':=hI.last 0 rfl
 refine uJ hI (by kernel_rfl) rfl (by omega) fun v S1 w' hE1 hv hI=>?_
 refine Run.callL dR dN hI (iZ (p:=p) (hrd.monoU hE1.1) hv (by decide) (by omega)) rfl fun v' I' S2 w'=>?_
 rintro ⟨rfl,rfl,n,hn,rfl⟩ _ hI
 have hn:=pz (a:=1) (b:=4) hn (by decide)
 obtain ⟨m,rfl⟩:∃ m:Nat,n=m:=⟨n.toNat,by rw [Int.toNat_of_nonneg (by omega)]⟩
 have h3:dW m<=486:=by
  have:3 ^ m<=3 ^ 4:=Nat.pow_le_pow_right (by omega) (by omega)
  simp only [dW]; omega
 refine Run.callL ki jT hI (tE m (by omega) (p+1) S2 (hrd.monoU hE1.1) (by omega)) rfl fun v' I' S3 w'=>?_
 rintro ⟨p1,hp1,rfl,cs,t,rfl,hcs,hw,_⟩ hE3 hI
 refine av hI 0 rfl ac (by simpa using hcs.length) rfl (by simpa using hcs.one) fun w' hI=>?_
 refine bl hI 0 ac rfl (by simpa using hcs.length) ?_
 exact ⟨_,_,S3,rfl,hI.pick [false,true],hE1.trans hE3,p1,by omega,rfl,cs,t,rfl,hcs,by omega⟩
end
end
section
open Go Go.RowKit
def vF (w:World) (b o:Nat):Nat:=match w.cell? ⟨b,o,none⟩ with
 | some (.slice _ n _)=>n
 | _=>0
theorem M4 {Q Q2 B:Prop} {R:Nat->Prop} (h1:Q->B) (h3:Q2->B) (h2:∀ n,n<3->R n->B):∀ {n:Nat},oZ Q (oZ Q2 R) n->n<5->B
 | 0,h,_=>h1 h
 | 1,h,_=>h3 h
 | n+2,h,hn=>h2 n (by omega) h
theorem JO {Q:Prop} {R:Nat->Prop} {n:Nat} (h:R n):oZ Q R (n+1):=h
theorem BB {Q:Prop} {R:Nat->Prop} {n:Nat} (h:oZ Q R (n+1)):R n:=h
section
variable {w0 w:World} {X:List Nat} {L A:List Item} {S:ad} {K:Value->World->Prop} {P:Program}
attribute [local irreducible] Run CondV ai az
theorem sg (h:Inv w0 X L S w) {i b o:Nat} {c:Array Value} {E:TypeId} {a:Option Addr} {n m:Nat} (hi:L[i]?=some (.blk b (.cells c E))) (hc:c[o]?=some (.slice a n m)):vF w b o=n:=by
 rw [vF,h.cellL hi,hc]
theorem rQ {b:Nat} {k n:Int} {s:ByteArray} {kv:Value} {css:List (List Value)} {ks:List T} {o:Obj}
  (hI:Inv w0 X (.blk b o::aC kv ab 4 css::A) S w) (hR:Rows 4 (RdT S) css ks) (hk:inI k) (hn:inI n) (hs:s.size<=maxLen) :
  ∃ S',Ext w0.heap.size X S S'/\Inv w0 X (.blk b o::A) S' w/\RdT S' [.int .i64 k,.int .i64 n,.string s,kv] (.mk k n s ks)/\RdSl S' 4 (RdT S') kv ks:=by
 have hI:Inv w0 X ((.blk b o::A)++[aC kv ab 4 css]) S w:=hI.last 1 rfl
 obtain ⟨S',hE,hrd,hI⟩:=Inv.lendExt hI
 have hrs:=RowRd.rows (hR.monoR fun _ _ h=>RdT.mono hE.1 h) hrd
 exact ⟨S',hE,hI,RdT.iff.2 ⟨_,rfl,hk,hn,hs,hrs⟩,hrs⟩
end
section
variable {br:Nat} {sl:Value} {ys:List Nat}
attribute [local irreducible] Run CondV ai az
theorem oK {p:Nat} {S:ad} {cs:List Value} {t:T} (hrd:RdSl S 1 jy sl ys) (h:RdT S cs t) (hw:wT t<=100000) (hp:p<=400000000) :
  Tri Tryz.prog El [rdP br,.agg cs.toArray] [rdI br sl p] S (MT br sl p 2 (wT t+100)):=by
 intro w hI
 have h0:=h
 obtain ⟨kv0,rfl,hk,hn,hs,hks⟩:=RdT.iff.1 h
 refine p9.2 ?_
 dsimp only[p9,aX]
 refine bt hI fun b3 w' hI=>?_
 refine aM hI aU fun b4 w' hI=>?_
 refine aA hI 1 ac rfl rfl ?_
 refine Run.call0E dV dZ hI (Kq t S _ h0 (by omega)) fun v' I' S1 w'=>?_
 rintro ⟨kv,css,rfl,rfl,hR⟩ hE1 hI
 have hE1:Ext w.heap.size [br] S S1:=hE1
 obtain ⟨a0,n0,q0,rfl⟩:=hI.rowSlice 3 rfl
 refine aM hI aU fun b5 w' hI=>?_
 refine av hI 4 rfl ac rfl rfl (by simp [Value.oneCell']) fun w' hI=>?_
 obtain ⟨B4,hB4⟩:∃ B4,B4=Item.blk b4 (.cells #[.int .i64 0,.int .i64 0,.string ⟨#[]⟩,.slice none 0 0] ab):=⟨_,rfl⟩
 obtain ⟨k,hk'⟩:∃ k,k=t.kind:=⟨_,rfl⟩
 obtain ⟨n,hn'⟩:∃ n,n=t.n:=⟨_,rfl⟩
 obtain ⟨s,hs'⟩:∃ s,s=t.name:=⟨_,rfl⟩
 have hwt:wT t=s.size+t.kids.length+wL t.kids:=by rw [hs']; cases t; rw [wT]; rfl
 rw [<- hk',<- hn',<- hs'] at hI
 rw [<- hk'] at hk
 rw [<- hn'] at hn
 rw [<- hs'] at hs
 have hI:Inv w [br] [.blk b5 (.cells #[.int .i64 k,.int .i64 n,.string s,.slice a0 n0 q0] ab),aC (.slice a0 n0 q0) ab 4 css,B4,rdI br sl p] S1 w':=by
  rw [hB4]
  exact (((hI.pick [true,false,true,true,true]).last 2 rfl).last 1 rfl).last 0 rfl
 refine ⟨fun w'=>∃ (p1:Nat) (S2:ad) (cs1:List Value) (t1:T),p1<=p+2/\Ext w.heap.size [br] S S2/\RdT S2 cs1 t1/\wT t1<=wT t+100/\Inv w [br] [.blk b5 (.cells cs1.toArray ab),B4,rdI br sl p1] S2 w',?_,?_⟩
 ·have hfin:∀ {k n:Int} {s1:ByteArray} {p1:Nat} {w':World} {S1:ad} {css:List (List Value)} {kv:Value} {ks:List T},Ext w.heap.size [br] S S1->p1<=p+2->inI k->inI n->s1.size<=s.size+7->Rows 4 (RdT S1) css ks->ks.length<=t.kids.length+5->wL ks<=wL t.kids->
    Inv w [br] [.blk b5 (.cells #[.int .i64 k,.int .i64 n,.string s1,kv] ab),aC kv ab 4 css,B4,rdI br sl p1] S1 w'->
    ∃ (p1:Nat) (S2:ad) (cs1:List Value) (t1:T),p1<=p+2/\Ext w.heap.size [br] S S2/\RdT S2 cs1 t1/\wT t1<=wT t+100/\Inv w [br] [.blk b5 (.cells cs1.toArray ab),B4,rdI br sl p1] S2 w':=by
   intro k n s1 p1 w' S1 css kv ks hE hp1 hk hn hs1 hR hkl hkw hI
   obtain ⟨S2,hE2,hI,hr,_⟩:=rQ (s:=s1) hI hR hk hn (by simp only [maxLen]; omega)
   exact ⟨p1,S2,_,_,hp1,hE.trans hE2,hr,by rw [wT,hwt]; omega,hI⟩
  refine Run.callL bz bA hI (cA (n:=50) (hrd.monoU hE1.1) (by omega) (by omega)) rfl fun v' I' S1 w'=>?_
  rintro ⟨rfl,rfl,kk,hkk,rfl⟩ _ hI
  refine aZ ?_
  refine aI (fun _=>?_) (fun _=>?_)
  ·refine uJ hI (by kernel_rfl) rfl (by omega) fun v S3 w' hE3 hv hI=>?_
   refine Run.callL dR dN hI (iZ (p:=p+1) (hrd.monoU (hE1.trans hE3).1) hv (by decide) (by omega)) rfl fun v' I' S3 w'=>?_
   rintro ⟨rfl,rfl,m,hm,rfl⟩ _ hI
   have hm:=pz (a:=-1000) (b:=1000) hm (by decide)
   refine cn hI 0 rfl aQ aE rfl rfl rfl fun w' hI=>?_
   exact hfin (hE1.trans hE3) (Nat.le_refl _) (by simp only [inI]; omega) hn (by omega) (hR.monoR fun _ _ h=>RdT.mono hE3.1 h) (by omega) (Nat.le_refl _) hI
  refine aZ ?_
  refine aI (fun _=>?_) (fun _=>?_)
  ·refine uJ hI (by kernel_rfl) rfl (by omega) fun v S3 w' hE3 hv hI=>?_
   refine Run.callL dR dN hI (iZ (p:=p+1) (hrd.monoU (hE1.trans hE3).1) hv (by decide) (by omega)) rfl fun v' I' S3 w'=>?_
   rintro ⟨rfl,rfl,m,hm,rfl⟩ _ hI
   have hm:=pz (a:=-1000) (b:=1000) hm (by decide)
   refine cn hI 0 rfl ba aE rfl rfl rfl fun w' hI=>?_
   exact hfin (hE1.trans hE3) (Nat.le_refl _) hk (by simp only [inI]; omega) (by omega) (hR.monoR fun _ _ h=>RdT.mono hE3.1 h) (by omega) (Nat.le_refl _) hI
  refine aZ ?_
  refine aI (fun _=>?_) (fun _=>?_)
  ·refine kG hI (by kernel_rfl) rfl (by omega) fun v S3 w' hE3 hv hI=>?_
   refine Run.callL gY gU hI (sL (p:=p+1) (hrd.monoU (hE1.trans hE3).1) hv (by decide) (by omega)) rfl fun v' I' S3 w'=>?_
   rintro ⟨rfl,rfl,m,hm,rfl⟩ _ hI
   have hm:=xP (m:=7) hm (by decide)
   refine cn hI 0 rfl aR aL rfl rfl rfl fun w' hI=>?_
   exact hfin (hE1.trans hE3) (Nat.le_refl _) hk hn (by omega) (hR.monoR fun _ _ h=>RdT.mono hE3.1 h) (by omega) (Nat.le_refl _) hI
  refine aZ ?_
  refine aI (fun _=>?_) (fun _=>?_)
  ·refine ⟨fun w'=>∃ (S2:ad) (kv:Value) (css:List (List Value)) (ks:List T),Ext w.heap.size [br] S S2/\Rows 4 (RdT S2) css ks/\ks.length<=t.kids.length+5/\wL ks<=wL t.kids/\
     Inv w [br] [.blk b5 (.cells #[.int .i64 k,.int .i64 n,.string s,kv] ab),aC kv ab 4 css,B4,rdI br sl (p+1)] S2 w',fun w'=>5 - vF w' b5 3,⟨S1,_,css,t.kids,hE1,hR,by omega,Nat.le_refl _,hI⟩,?_⟩
   intro t40 t39 t38 t37 t36 t35 _ _ _ _ w'
   rintro ⟨S2,kv,css,ks,hE2,hR,hkl,hkw,hI⟩
   obtain ⟨a1,n1,q1,rfl,hn1⟩:∃ a m c,kv=.slice a m c/\m=ks.length:=by
    obtain ⟨S',_,_,_,hr⟩:=rQ hI hR hk hn hs
    obtain ⟨a,q,rfl,_⟩:=hr
    exact ⟨a,_,q,rfl,rfl⟩
   subst hn1
   have hl1:=sg hI (i:=0) (o:=3) rfl rfl
   have hcl:=hR.hc
   refine ae hI 0 rfl au aj rfl ?_
   refine ez ah ?_
   refine dO ?_
   refine aI (fun hle=>?_) (fun hle=>?_)
   ·have hI:=hI
    refine ⟨fun D Hu Ht wV GX xX EI w_=>Fx D 0 [EI=.pointer (some ⟨b5,3,none⟩),xX=.slice a1 ks.length q1,True,True,True,Hu=.pointer (some ⟨b5,3,none⟩),True]/\∃ n_:Nat,n_<=4/\D 2=decide (1<=n_)/\D 3=decide (2<=n_)/\D 4=decide (3<=n_)/\D 6=decide (4<=n_)/\(D 6=true->D 1=true)/\(oZ (Inv w [br] [.blk b5 (.cells #[.int .i64 k,.int .i64 n,.string s,.slice a1 ks.length q1] ab),aC (.slice a1 ks.length q1) ab 4 css,B4,rdI br sl (p+1)] S2 w_) (xw w [br] b5 #[.int .i64 k,.int .i64 n,.string s,.slice a1 ks.length q1] 3 ab (.slice a1 ks.length q1) css (fun p=>[B4,rdI br sl (p+1)]) (fun cs p' S'=>p'=p/\S'=S2/\RdT S2 cs (.mk 2 1 emptyB [])) GX wV Ht w_) n_),⟨Fx.nil _ _,⟨0,Nat.zero_le _,rfl,rfl,rfl,rfl,(aK),hI.draw⟩⟩,⟨?_,?_,?_,?_,?_,?_,?_,trivial⟩,?_⟩
    all_goals (intro D bx; intros; rename_i Hu Ht wV GX xX EI w_ hA_; have hF_:=hA_.1; obtain ⟨⟨cr,cq,ct,cu,cz,cB,bP,_⟩,⟨n_,ln_,e1_,e2_,e3_,e4_,kp_,hS⟩⟩:=hA_)
    ·refine aB au ?_
     exact ⟨hF_.set 0 rfl,⟨n_,ln_,e1_,e2_,e3_,e4_,kp_,hS⟩⟩
    ·obtain rfl:=cr ‹_›
     have ln2_:=Nh e4_ kp_ bx
     refine bX aj ((Ha (fun h=>h.cellL (i:=0) rfl) (fun n hn h=>DO h hn) hS ln2_).trans rfl) ?_
     exact ⟨hF_.set 1 rfl,⟨n_,ln_,e1_,e2_,e3_,e4_,(fun _=>rfl),hS⟩⟩
    ·obtain rfl:n_=0:=Oc e1_ bx
     refine Run.callPure qT rn (L:=[.blk b5 _,aC _ ab 4 css,B4,rdI br sl (p+1)]) hS (kH 1 S2) fun w_ hI=>?_
     exact ⟨hF_.set 2 (by first|assumption|trivial),⟨1,by decide,rfl,(by first|exact e2_|rfl),(by first|exact e3_|rfl),(by first|exact e4_|rfl),kp_,Eh ⟨rfl,rfl,oX (by simp [inI]) (by simp [inI])⟩ (oX (by simp [inI]) (by simp [inI])) hI⟩⟩
    ·have OJ:=ct ‹_›
     obtain rfl:n_=1:=uv e1_ ‹D 2=true› e2_ bx
     refine ap1 hS fun u w_ hS=>?_
     exact ⟨hF_.set 3 (by first|assumption|trivial),⟨2,by decide,(by first|exact e1_|rfl),rfl,(by first|exact e3_|rfl),(by first|exact e4_|rfl),kp_,hS⟩⟩
    ·obtain rfl:=cq ‹_›
     have PT:=cu ‹_›
     obtain rfl:n_=2:=uv e2_ ‹D 3=true› e3_ bx
     refine ap2 hS (by omega) fun u w_ hS=>?_
     exact ⟨hF_.set 4 (by first|assumption|trivial),⟨3,by decide,(by first|exact e1_|rfl),(by first|exact e2_|rfl),rfl,(by first|exact e4_|rfl),kp_,hS⟩⟩
    ·refine aB au ?_
     exact ⟨hF_.set 5 rfl,⟨n_,ln_,e1_,e2_,e3_,e4_,kp_,hS⟩⟩
    ·obtain rfl:=cB ‹_›
     have FF:=cz ‹_›
     obtain rfl:n_=3:=uv e3_ ‹D 4=true› e4_ bx
     refine ap3 hS (by simp) fun w_ hS=>?_
     exact ⟨hF_.set 6 trivial,⟨4,by decide,(by first|exact e1_|rfl),(by first|exact e2_|rfl),(by first|exact e3_|rfl),rfl,(fun _=>‹D 1=true›),hS⟩⟩
    obtain rfl:n_=4:=Nj ln_ e4_ ‹D 6=true›
    clear e1_ e2_ e3_ e4_
    obtain ⟨p3,S7,cs,⟨rfl,rfl,hcs⟩,hl,hI⟩:=hS
    have hR2:=hR.snoc hcs hl.1
    refine ⟨⟨S7,_,_,_,hE2,hR2,by rw [List.length_append]; simp only [List.length_cons,List.length_nil]; omega,by rw [lC]; have e:emptyB.size=0:=rfl; simp only [wL,wT,List.length_nil,e]; omega,hI⟩,?_⟩
    obtain ⟨S',_,_,_,hr⟩:=rQ hI hR2 hk hn hs
    obtain ⟨a,q,e,_⟩:=hr
    have hl2:=sg hI (i:=0) (o:=3) (a:=a) (n:=(ks++[T.mk 2 1 emptyB []]).length) (m:=q) rfl (by rw [<- e]; rfl)
    show 5 - vF w_ b5 3<5 - vF w' b5 3
    rw [hl1,hl2,List.length_append,List.length_cons,List.length_nil]
    omega
   ·exact hfin hE2 (by omega) hk hn (by omega) hR hkl hkw hI
  refine aZ ?_
  refine aI (fun _=>?_) (fun _=>?_)
  ·obtain ⟨S2,hE2,hI,hr,_⟩:=rQ hI hR hk hn hs
   have hI:Inv w [br] [.blk b5 (.cells #[.int .i64 k,.int .i64 n,.string s,.slice a0 n0 q0] ab),B4,rdI br sl (p+1)] S2 w':=hI
   have ht:T.mk k n s t.kids=t:=by rw [hk',hn',hs']; cases t; rfl
   rw [ht] at hr
   refine ⟨fun t6 w'=>∃ (j:Nat) (S3:ad) (cs1:List Value) (t1:T),t6=.int .i64 (j:Int)/\j<=30/\Ext w.heap.size [br] S S3/\RdT S3 cs1 t1/\wT t1<=wT t+2 * j/\Inv w [br] [.blk b5 (.cells cs1.toArray ab),B4,rdI br sl (p+1)] S3 w',fun t6 _=>30 - (intOf t6).toNat,
    ⟨0,S2,_,t,rfl,by omega,hE1.trans hE2,hr,by omega,hI⟩,?_⟩
   intro t6 _ _ _ _ _ _ _ w'
   rintro ⟨j,S3,cs1,t1,rfl,hj,hE3,hr,hw1,hI⟩
   refine bI ?_
   refine aI (fun hj'=>?_) (fun hj'=>?_)
   ·refine aA hI 0 ac rfl (by simpa using hr.length) ?_
    refine dD hI bu (by simp [Value.cells,hr.length]) (by omega) (by omega) fun b8 w' hI=>?_
    obtain ⟨S4,hI,hE4,hS⟩:=hI.pub1
    refine Run.call0E cJ cH hI (c7 ⟨#[115]⟩ (by decide) (Md hS (hr.mono hE4.1)) (by simp)) fun v' I' S5 w'=>?_
    rintro ⟨rfl,cs2,rfl,hcs2⟩ hE5 hI
    have hI:Inv w [br] [.blk b5 (.cells cs1.toArray ab),B4,rdI br sl (p+1)] S5 w':=by simpa using hI
    refine av hI 0 rfl ac (by simpa using hcs2.length) (by simpa using hr.length) (by simpa using hcs2.one) fun w' hI=>?_
    refine bq (by omega) ?_
    have e:(ByteArray.mk #[115]).size=1:=rfl
    exact ⟨⟨j+1,S5,cs2,_,rfl,by omega,hE3.trans (hE4.trans hE5),hcs2,by simp only [wT,wL,List.length_cons,List.length_nil,e]; omega,hI⟩,by simp only [intOf,Int.toNat_natCast]; omega⟩
   ·exact ⟨p+1,S3,cs1,t1,by omega,hE3,hr,by omega,hI⟩
  ·exact hfin hE1 (by omega) hk hn (by omega) hR (by omega) (Nat.le_refl _) hI
 intro _ _ _ _ _ _ _ _ _ _ _ _ _ _ _ _ _ _ _ _ _ _ _ _ _ _ _ _ _ _ _ _ _ _ _ _ _ _ _ _ _ _ w'
 rintro ⟨p1,S2,cs1,t1,hp1,hE2,hr,hw1,hI⟩
 subst hB4
 refine aA hI 0 ac rfl (by simpa using hr.length) ?_
 refine av hI 1 rfl ac (by simpa using hr.length) rfl (by simpa using hr.one) fun w' hI=>?_
 refine bl hI 1 ac rfl (by simpa using hr.length) ?_
 exact ⟨_,_,S2,rfl,hI.pick [false,false,true],hE2,p1,hp1,rfl,cs1,t1,rfl,hr,hw1⟩
end
end
end Go.Proofs.YtgllldjiaglkcaaGreatDoor
