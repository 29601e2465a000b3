/- Unification: the plain form. Lists of bindings, what a variable reaches, unifiers, resolved terms. -/
import Derived.Test.YtcpgagfdeflbkaaGreatDoorZSl3
import Derived.Test.YtcpgagfdeflbkaaGreatDoorZSl1
import Derived.Test.YtcpgagfdeflbkaaGreatDoorZSl0
namespace Go.Proofs.YtcpgagfdeflbkaaGreatDoor
section
open Go Go.RowKit
mutual
def okU (N:Nat):T->Prop
 | .mk k n s ks=>k≠0/\(k=1->0<=n/\n<N/\s=emptyB/\ks=[])/\cS N ks/\s.size<=6
def cS (N:Nat):List T->Prop
 | []=>True
 | t::ts=>okU N t/\cS N ts
end
mutual
def vT:T->List Nat
 | .mk k n _ ks=>if k=1 then [n.toNat] else vTL ks
def vTL:List T->List Nat
 | []=>[]
 | t::ts=>vT t++vTL ts
end
theorem j8 {N:Nat}:∀ {ts:List T},cS N ts->∀ t∈ts,okU N t
 | t::ts,h,x,hx=>by
  rw [cS] at h
  rcases cQ.1 hx with rfl|hx
  ·exact h.1
  ·exact j8 h.2 x hx
theorem re {N:Nat}:∀ {ts:List T},(∀ t∈ts,okU N t)->cS N ts
 | [],_=>by rw [cS]; trivial
 | t::ts,h=>by rw [cS]; exact ⟨h t (bq ..),re fun u hu=>h u (bv _ hu)⟩
theorem n9:∀ {ts:List T} {m:Nat},m∈vTL ts↔∃ t∈ts,m∈vT t
 | [],m=>by simp [vTL]
 | t::ts,m=>by rw [vTL,cd,n9]; simp
theorem okU.kids {N:Nat} {t:T} (h:okU N t):cS N t.kids:=by cases t; rw [okU] at h; exact h.2.2.1
theorem okU.var {N:Nat} {t:T} (h:okU N t) (hk:t.kind=1):0<=t.n/\t.n<N/\t.name=emptyB/\t.kids=[]:=by cases t; rw [okU] at h; exact h.2.1 hk
theorem okU.kind {N:Nat} {t:T} (h:okU N t):t.kind≠0:=by cases t; rw [okU] at h; exact h.1
theorem ja {t:T} (h:t.kind=1):vT t=[t.n.toNat]:=by cases t; rw [vT]; exact ai h
theorem zP {t:T} (h:t.kind≠1):vT t=vTL t.kids:=by cases t; rw [vT]; exact af h
mutual
theorem SU {N:Nat}:∀ (t:T),okU N t->∀ m∈vT t,m<N
 | .mk k n s ks,h,m,hm=>by
  rw [okU] at h
  rw [vT] at hm
  split at hm
  ·rename_i hk
   have:=h.2.1 hk
   simp at hm
   omega
  ·exact K9 ks h.2.2.1 m hm
theorem K9 {N:Nat}:∀ (ts:List T),cS N ts->∀ m∈vTL ts,m<N
 | [],_,m,hm=>by simp [vTL] at hm
 | t::ts,h,m,hm=>by
  rw [cS] at h
  rw [vTL,cd] at hm
  rcases hm with hm|hm
  ·exact SU t h.1 m hm
  ·exact K9 ts h.2 m hm
end
def look (st:aj) (t:T):Option T:=if t.kind=1 then (st[t.n.toNat]?).join else none
theorem dc {st:aj} {t u:T}:look st t=some u↔t.kind=1/\st[t.n.toNat]?=some (some u):=by
 unfold look
 split
 ·rename_i h
  simp only [Option.join_eq_some_iff]
  exact ⟨fun e=>⟨h,e⟩,fun e=>e.2⟩
 ·rename_i h
  simp [h]
theorem EQ {st:aj} {t:T}:look st t=none↔(t.kind=1->st[t.n.toNat]?=none ∨ st[t.n.toNat]?=some none):=by
 unfold look
 split
 ·rename_i h
  rw [Option.join_eq_none_iff]
  constructor
  ·intro e _
   rcases e with e|e
   ·exact .inl e
   ·exact .inr e
  ·intro e
   rcases e h with e|e
   ·exact .inl e
   ·exact .inr e
 ·rename_i h
  simp [h]
inductive dw (st:aj):T->T->Prop
 | stop {t:T}:look st t=none->dw st t t
 | step {t u v:T}:look st t=some u->dw st u v->dw st t v
inductive Rch (st:aj):Nat->Nat->Prop
 | refl (m:Nat):Rch st m m
 | step {m k n:Nat} {u:T}:st[m]?=some (some u)->k∈vT u->Rch st k n->Rch st m n
theorem Rch.trans {st:aj} {a b c:Nat} (h:Rch st a b) (h':Rch st b c):Rch st a c:=by
 induction h with
 | refl=>exact h'
 | step h1 h2 _ ih=>exact .step h1 h2 (ih h')
def gF (st:aj) (n:Nat) (t:T):Prop:=∃ m∈vT t,Rch st m n
structure Good (N:Nat) (st:aj):Prop where
 len:st.length=N
 ok:∀ t,some t∈st->okU N t
 w:∀ t,some t∈st->wT t<=1048576
 rk:∃ r:Nat->Nat,∀ (n:Nat) (u:T),st[n]?=some (some u)->∀ m∈vT u,r m<r n
theorem Good.look_ok {N:Nat} {st:aj} (h:Good N st) {t u:T} (hl:look st t=some u):okU N u/\wT u<=1048576:=by
 have:=du (dc.1 hl).2
 exact ⟨h.ok u this,h.w u this⟩
theorem fS {N:Nat} {st:aj} {t v:T} (h:Good N st) (hw:dw st t v) (ht:okU N t/\wT t<=1048576):okU N v/\wT v<=1048576:=by
 induction hw with
 | stop=>exact ht
 | step hl _ ih=>exact ih (h.look_ok hl)
theorem mP {st:aj} {t v:T} (hw:dw st t v):look st v=none:=by
 induction hw with
 | stop h=>exact h
 | step _ _ ih=>exact ih
theorem MB {N:Nat} {st:aj} (h:Good N st) (t:T):∃ v,dw st t v:=by
 obtain ⟨r,hr⟩:=h.rk
 have:∀ (k:Nat) (t:T),(∀ u,look st t=some u->r t.n.toNat<k)->∃ v,dw st t v:=by
  intro k
  induction k with
  | zero=>
   intro t ht
   cases hl:look st t with
   | none=>exact ⟨t,.stop hl⟩
   | some u=>have:=ht u hl; omega
  | succ k ih=>
   intro t ht
   cases hl:look st t with
   | none=>exact ⟨t,.stop hl⟩
   | some u=>
    have h1:=ht u hl
    obtain ⟨v,hv⟩:=ih u fun u' hu'=>by
     obtain ⟨hk,_⟩:=dc.1 hu'
     have:=hr _ _ (dc.1 hl).2 u.n.toNat (by rw [ja hk]; simp)
     omega
    exact ⟨v,.step hl hv⟩
 exact this (r t.n.toNat+1) t fun _ _=>KP _
theorem Ov {st:aj} {t v:T} (hw:dw st t v) {n:Nat} (hn:∀ u,st[n]?≠some (some u)):gF st n t↔gF st n v:=by
 induction hw with
 | stop=>exact Iff.rfl
 | step hl _ ih=>
  rename_i t u v
  rw [<- ih]
  obtain ⟨hk,hs⟩:=dc.1 hl
  constructor
  ·rintro ⟨m,hm,hr⟩
   rw [ja hk,bY] at hm
   subst hm
   cases hr with
   | refl=>exact absurd hs (hn _)
   | step h1 h2 h3=>
    rw [hs,aT,aT] at h1
    subst h1
    exact ⟨_,h2,h3⟩
  ·rintro ⟨m,hm,hr⟩
   exact ⟨_,by rw [ja hk]; exact bY.2 rfl,.step hs hm hr⟩
def unb:aj->Nat
 | []=>0
 | none::st=>unb st+1
 | some _::st=>unb st
theorem rf:∀ (st:aj) (n:Nat) (t:T),st[n]?=some none->unb (st.set n (some t))+1=unb st
 | [],n,t,h=>by simp at h
 | x::st,0,t,h=>by
  simp only [ER,aT] at h
  subst h
  rfl
 | x::st,n+1,t,h=>by
  have h':st[n]?=some none:=by simpa using h
  have:=rf st n t h'
  cases x <;> simp only [Fi,unb] <;> omega
open Classical in
theorem Good.set {N:Nat} {st:aj} (h:Good N st) {n:Nat} {t:T} (hn:st[n]?=some none) (ht:okU N t) (hw:wT t<=1048576) (ho:¬ gF st n t):Good N (st.set n (some t)):=by
 have hnl:n<st.length:=(fu.1 hn).1
 refine ⟨by rw [oI]; exact h.len,fun u hu=>?_,fun u hu=>?_,?_⟩
 ·rcases Jc hu with hu|hu
  ·exact h.ok u hu
  ·rw [aT] at hu
   rw [hu]; exact ht
 ·rcases Jc hu with hu|hu
  ·exact h.w u hu
  ·rw [aT] at hu
   rw [hu]; exact hw
 ·obtain ⟨r,hr⟩:=h.rk
  have hM:∀ l:List Nat,∃ M,∀ m∈l,r m<=M:=by
   intro l
   induction l with
   | nil=>exact ⟨0,by simp⟩
   | cons x l ih=>
    obtain ⟨M,hM⟩:=ih
    refine ⟨M+r x,fun m hm=>?_⟩
    rcases cQ.1 hm with rfl|hm
    ·omega
    ·have:=hM m hm; omega
  obtain ⟨M,hM⟩:=hM (vT t)
  refine ⟨fun m=>if Rch st m n then r m+M+1 else r m,fun k u hku m hm=>?_⟩
  by_cases hkn:n=k
  ·subst hkn
   rw [List.getElem?_set_self hnl,aT,aT] at hku
   subst hku
   have h1:¬ Rch st m n:=fun e=>ho ⟨m,hm,e⟩
   have h2:=hM m hm
   simp only [af h1,ai (Rch.refl (st:=st) n)]
   omega
  ·rw [CF hkn] at hku
   have h1:=hr k u hku m hm
   by_cases hmn:Rch st m n
   ·have h2:Rch st k n:=.step hku hm hmn
    simp only [ai hmn,ai h2]
    omega
   ·simp only [af hmn]
    split <;> omega
inductive Job where
 | one (a b:T)
 | list (xs ys:List T)
inductive Uni:aj->Job->Bool->aj->Prop
 | same {st:aj} {a b a' b':T}:dw st a a'->dw st b b'->a'.kind=1->b'.kind=1->a'.n=b'.n->Uni st (.one a b) true st
 | bindA {st:aj} {a b a' b':T}:dw st a a'->dw st b b'->a'.kind=1->¬ (b'.kind=1/\a'.n=b'.n)->¬ gF st a'.n.toNat b'->Uni st (.one a b) true (st.set a'.n.toNat (some b'))
 | occA {st:aj} {a b a' b':T}:dw st a a'->dw st b b'->a'.kind=1->¬ (b'.kind=1/\a'.n=b'.n)->gF st a'.n.toNat b'->Uni st (.one a b) false st
 | bindB {st:aj} {a b a' b':T}:dw st a a'->dw st b b'->a'.kind≠1->b'.kind=1->¬ gF st b'.n.toNat a'->Uni st (.one a b) true (st.set b'.n.toNat (some a'))
 | occB {st:aj} {a b a' b':T}:dw st a a'->dw st b b'->a'.kind≠1->b'.kind=1->gF st b'.n.toNat a'->Uni st (.one a b) false st
 | clash {st:aj} {a b a' b':T}:dw st a a'->dw st b b'->a'.kind≠1->b'.kind≠1->ws a' b'=false->Uni st (.one a b) false st
 | kids {st st':aj} {a b a' b':T} {r:Bool}:dw st a a'->dw st b b'->a'.kind≠1->b'.kind≠1->ws a' b'=true->Uni st (.list a'.kids b'.kids) r st'->Uni st (.one a b) r st'
 | nil {st:aj}:Uni st (.list [] []) true st
 | stop {st st':aj} {a b:T} {xs ys:List T}:Uni st (.one a b) false st'->Uni st (.list (a::xs) (b::ys)) false st'
 | go {st st1 st':aj} {a b:T} {xs ys:List T} {r:Bool}:Uni st (.one a b) true st1->Uni st1 (.list xs ys) r st'->Uni st (.list (a::xs) (b::ys)) r st'
def okJ (N:Nat):Job->Prop
 | .one a b=>(okU N a/\wT a<=1048576)/\(okU N b/\wT b<=1048576)
 | .list xs ys=>(∀ a∈xs,okU N a/\wT a<=1048576)/\(∀ b∈ys,okU N b/\wT b<=1048576)/\xs.length=ys.length
theorem lB {N:Nat} {t:T} (h:okU N t/\wT t<=1048576):∀ x∈t.kids,okU N x/\wT x<=1048576:=by
 intro x hx
 refine ⟨j8 h.1.kids x hx,?_⟩
 have h1:=jf hx
 have h2:=h.2
 cases t
 rw [wT] at h2
 simp only [T.kids] at h1
 omega
theorem uY {a b:T} (h:ws a b=true):a.kids.length=b.kids.length:=by
 rw [ws] at h
 simp only [bN,bC] at h
 exact h.2.2.2
theorem um {N:Nat} {st:aj} (h:Good N st) {a:T} (hk:a.kind=1) (hl:look st a=none) (ho:okU N a):st[a.n.toNat]?=some none:=by
 obtain ⟨h0,h1,_⟩:=ho.var hk
 rcases EQ.1 hl hk with e|e
 ·have:=List.getElem?_eq_none_iff.1 e
  have:=h.len
  omega
 ·exact e
theorem Uni.good {N:Nat} {st st':aj} {j:Job} {r:Bool} (hu:Uni st j r st'):Good N st->okJ N j->Good N st'/\(st'=st ∨ unb st'<unb st):=by
 induction hu with
 | same=>exact fun h _=>⟨h,.inl rfl⟩
 | occA=>exact fun h _=>⟨h,.inl rfl⟩
 | occB=>exact fun h _=>⟨h,.inl rfl⟩
 | clash=>exact fun h _=>⟨h,.inl rfl⟩
 | nil=>exact fun h _=>⟨h,.inl rfl⟩
 | bindA ha hb hk hns ho=>
  rename_i a' b'
  intro h hj
  have h1:=fS h ha hj.1
  have h2:=fS h hb hj.2
  have hf:=um h hk (mP ha) h1.1
  have:=rf _ _ b' hf
  exact ⟨h.set hf h2.1 h2.2 ho,.inr (by omega)⟩
 | bindB ha hb hns hk ho=>
  rename_i a' b'
  intro h hj
  have h1:=fS h ha hj.1
  have h2:=fS h hb hj.2
  have hf:=um h hk (mP hb) h2.1
  have:=rf _ _ a' hf
  exact ⟨h.set hf h1.1 h1.2 ho,.inr (by omega)⟩
 | kids ha hb _ _ hd _ ih=>
  intro h hj
  exact ih h ⟨lB (fS h ha hj.1),lB (fS h hb hj.2),uY hd⟩
 | stop _ ih=>
  intro h hj
  exact ih h ⟨hj.1 _ (bq ..),hj.2.1 _ (bq ..)⟩
 | go _ _ ih1 ih2=>
  intro h hj
  obtain ⟨h1,h2⟩:=ih1 h ⟨hj.1 _ (bq ..),hj.2.1 _ (bq ..)⟩
  obtain ⟨h3,h4⟩:=ih2 h1 ⟨fun a ha=>hj.1 a (bv _ ha),fun b hb=>hj.2.1 b (bv _ hb),by have:=hj.2.2; simpa using this⟩
  refine ⟨h3,?_⟩
  rcases h2 with rfl|h2
  ·exact h4
  ·rcases h4 with rfl|h4
   ·exact .inr h2
   ·exact .inr (by omega)
open Classical in
theorem Cl {N:Nat}:∀ (U:Nat) (st:aj),Good N st->unb st<=U->∀ j,okJ N j->∃ r st',Uni st j r st':=by
 intro U
 induction U using Nat.strongRecOn with
 | _ U ihU=>
  intro st hg hU
  -- lists of terms of which each is known to have an answer
  have hlist:∀ (xs ys:List T),okJ N (.list xs ys)->(∀ a∈xs,∀ b,okJ N (.one a b)->∃ r st',Uni st (.one a b) r st')->∃ r st',Uni st (.list xs ys) r st':=by
   intro xs
   induction xs with
   | nil=>
    intro ys hj _
    have:ys=[]:=iW hj.2.2.symm
    subst this
    exact ⟨true,st,.nil⟩
   | cons a xs ih=>
    intro ys hj hP
    cases ys with
    | nil=>have:=hj.2.2; simp at this
    | cons b ys=>
     have hjab:okJ N (.one a b):=⟨hj.1 _ (bq ..),hj.2.1 _ (bq ..)⟩
     have hjl:okJ N (.list xs ys):=⟨fun a ha=>hj.1 a (bv _ ha),fun b hb=>hj.2.1 b (bv _ hb),by have:=hj.2.2; simpa using this⟩
     obtain ⟨r,st1,h1⟩:=hP a (bq ..) b hjab
     cases r with
     | false=>exact ⟨false,st1,.stop h1⟩
     | true=>
      obtain ⟨hg1,hu1⟩:=h1.good hg hjab
      rcases hu1 with rfl|hu1
      ·obtain ⟨r,st2,h2⟩:=ih ys hjl fun a ha=>hP a (bv _ ha)
       exact ⟨r,st2,.go h1 h2⟩
      ·obtain ⟨r,st2,h2⟩:=ihU (unb st1) (by omega) st1 hg1 (aM _) _ hjl
       exact ⟨r,st2,.go h1 h2⟩
  obtain ⟨rk,hrk⟩:=hg.rk
  have hone:∀ (m:Nat) (a:T),(∀ x∈vT a,∀ u,st[x]?=some (some u)->rk x<m)->∀ b,okJ N (.one a b)->∃ r st',Uni st (.one a b) r st':=by
   intro m
   induction m using Nat.strongRecOn with
   | _ m ihm=>
    refine T.ind fun k n s ks ih hr b hj=>?_
    obtain ⟨b',hb⟩:=MB hg b
    have hbo:=fS hg hb hj.2
    cases hl:look st (.mk k n s ks) with
    | some u=>
     obtain ⟨hk,hs⟩:=dc.1 hl
     have hlt:=hr _ (by rw [ja hk]; exact bY.2 rfl) u hs
     have hju:okJ N (.one u b):=⟨hg.look_ok hl,hj.2⟩
     obtain ⟨r,st',hu⟩:=ihm _ hlt u (fun x hx _ _=>hrk _ _ hs x hx) b hju
     refine ⟨r,st',?_⟩
     cases hu with
     | same h1 h2 h3 h4 h5=>exact .same (.step hl h1) h2 h3 h4 h5
     | bindA h1 h2 h3 h4 h5=>exact .bindA (.step hl h1) h2 h3 h4 h5
     | occA h1 h2 h3 h4 h5=>exact .occA (.step hl h1) h2 h3 h4 h5
     | bindB h1 h2 h3 h4 h5=>exact .bindB (.step hl h1) h2 h3 h4 h5
     | occB h1 h2 h3 h4 h5=>exact .occB (.step hl h1) h2 h3 h4 h5
     | clash h1 h2 h3 h4 h5=>exact .clash (.step hl h1) h2 h3 h4 h5
     | kids h1 h2 h3 h4 h5 h6=>exact .kids (.step hl h1) h2 h3 h4 h5 h6
    | none=>
     have ha:dw st (.mk k n s ks) (.mk k n s ks):=.stop hl
     by_cases hk:(T.mk k n s ks).kind=1
     ·by_cases hsame:b'.kind=1/\(T.mk k n s ks).n=b'.n
      ·exact ⟨_,_,.same ha hb hk hsame.1 hsame.2⟩
      ·by_cases ho:gF st (T.mk k n s ks).n.toNat b'
       ·exact ⟨_,_,.occA ha hb hk hsame ho⟩
       ·exact ⟨_,_,.bindA ha hb hk hsame ho⟩
     ·by_cases hkb:b'.kind=1
      ·by_cases ho:gF st b'.n.toNat (T.mk k n s ks)
       ·exact ⟨_,_,.occB ha hb hk hkb ho⟩
       ·exact ⟨_,_,.bindB ha hb hk hkb ho⟩
      ·cases hd:ws (T.mk k n s ks) b' with
       | false=>exact ⟨_,_,.clash ha hb hk hkb hd⟩
       | true=>
        obtain ⟨r,st',hu⟩:=hlist ks b'.kids ⟨lB hj.1,lB hbo,uY hd⟩ fun a ha' b2 hj2=>
         ih a ha' (fun x hx u hs=>hr x (by rw [zP hk]; exact n9.2 ⟨a,ha',hx⟩) u hs) b2 hj2
        exact ⟨r,st',.kids ha hb hk hkb hd hu⟩
  have hall:∀ a b,okJ N (.one a b)->∃ r st',Uni st (.one a b) r st':=by
   intro a b hj
   have hM:∀ l:List Nat,∃ M,∀ m∈l,rk m<M:=by
    intro l
    induction l with
    | nil=>exact ⟨0,by simp⟩
    | cons x l ih=>
     obtain ⟨M,hM⟩:=ih
     refine ⟨M+rk x+1,fun m hm=>?_⟩
     rcases cQ.1 hm with rfl|hm
     ·omega
     ·have:=hM m hm; omega
   obtain ⟨M,hM⟩:=hM (vT a)
   exact hone M a (fun x hx _ _=>hM x hx) b hj
  intro j hj
  cases j with
  | one a b=>exact hall a b hj
  | list xs ys=>exact hlist xs ys hj fun a _ b hjb=>hall a b hjb
inductive PX where
 | one (t u:T)
 | list (ts us:List T)
inductive Res (st:aj):PX->Prop
 | one {t v:T} {us:List T}:dw st t v->Res st (.list v.kids us)->Res st (.one t (.mk v.kind v.n v.name us))
 | nil:Res st (.list [] [])
 | cons {t u:T} {ts us:List T}:Res st (.one t u)->Res st (.list ts us)->Res st (.list (t::ts) (u::us))
theorem OL {N:Nat} {st:aj} (h:Good N st) (t:T) (ho:okU N t):∃ u,Res st (.one t u):=by
 obtain ⟨rk,hrk⟩:=h.rk
 have hlist:∀ ts:List T,(∀ t∈ts,∃ u,Res st (.one t u))->∃ us,Res st (.list ts us):=by
  intro ts
  induction ts with
  | nil=>exact fun _=>⟨[],.nil⟩
  | cons t ts ih=>
   intro hP
   obtain ⟨u,hu⟩:=hP t (bq ..)
   obtain ⟨us,hus⟩:=ih fun x hx=>hP x (bv _ hx)
   exact ⟨u::us,.cons hu hus⟩
 have hone:∀ (m:Nat) (a:T),(∀ x∈vT a,∀ u,st[x]?=some (some u)->rk x<m)->(okU N a)->∃ u,Res st (.one a u):=by
  intro m
  induction m using Nat.strongRecOn with
  | _ m ihm=>
   refine T.ind fun k n s ks ih hr ho=>?_
   cases hl:look st (.mk k n s ks) with
   | some u=>
    obtain ⟨hk,hs⟩:=dc.1 hl
    have hlt:=hr _ (by rw [ja hk]; exact bY.2 rfl) u hs
    obtain ⟨u',hu⟩:=ihm _ hlt u (fun x hx _ _=>hrk _ _ hs x hx) (h.look_ok hl).1
    refine ⟨u',?_⟩
    cases hu with
    | one h1 h2=>exact .one (.step hl h1) h2
   | none=>
    by_cases hk:(T.mk k n s ks).kind=1
    ·have:=(ho.var hk).2.2.2
     have e:ks=[]:=this
     subst e
     exact ⟨_,.one (.stop hl) .nil⟩
    ·obtain ⟨us,hus⟩:=hlist ks fun a ha=>ih a ha (fun x hx u hs=>hr x (by rw [zP hk]; exact n9.2 ⟨a,ha,hx⟩) u hs) (j8 ho.kids a ha)
     exact ⟨_,.one (.stop hl) hus⟩
 have hM:∀ l:List Nat,∃ M,∀ m∈l,rk m<M:=by
  intro l
  induction l with
  | nil=>exact ⟨0,by simp⟩
  | cons x l ih=>
   obtain ⟨M,hM⟩:=ih
   refine ⟨M+rk x+1,fun m hm=>?_⟩
   rcases cQ.1 hm with rfl|hm
   ·omega
   ·have:=hM m hm; omega
 obtain ⟨M,hM⟩:=hM (vT t)
 exact hone M t (fun x hx _ _=>hM x hx) ho
end
section
open Go Go.RowKit
def KnU (S:ad) (c:Array Value) (st:aj):Prop:=st.length * 4<=c.size/\∀ i (h:i<st.length),(st[i]=none->ba c (i * 4) 4=n5)/\(∀ t,st[i]=some t->RdT S (ba c (i * 4) 4) t)
abbrev kvU (kb N kp:Nat):Value:=.slice (some ⟨kb,0,none⟩) N kp
theorem KnU.set {S:ad} {c:Array Value} {st:aj} (h:KnU S c st) {n:Nat} (hn:n<st.length) {cs:List Value} {u:T} (hu:RdT S cs u):KnU S (bR c (n * 4) cs) (st.set n (some u)):=by
 have hlc:=hu.length
 have h1:=h.1
 have hs:st.length * 4<=(bR c (n * 4) cs).size:=by rw [lU _ _ _ (by omega)]; exact h1
 refine ⟨by rw [oI]; exact hs,fun i hi=>?_⟩
 rw [oI] at hi
 by_cases e:n=i
 ·subst e
  rw [Jk]
  refine ⟨fun h=>(by cases h),fun t ht=>?_⟩
  simp only [aT] at ht
  subst ht
  have:=ip (c:=c) (o:=n * 4) (vs:=cs) (by omega)
  rw [hlc] at this
  rw [this]
  exact hu
 ·rw [Mi e,jR (by omega) (by omega)]
  exact h.2 i hi
theorem KnU.mono {S S':ad} {c:Array Value} {st:aj} (h:KnU S c st) (hs:Sle S S'):KnU S' c st:=⟨h.1,fun i hi=>⟨(h.2 i hi).1,fun t ht=>((h.2 i hi).2 t ht).mono hs⟩⟩
def HC (b:Nat) (r:Nat->Nat) (st:aj) (w:World):Nat:=
 match w.heap[b]? with
 | some (Obj.cells c _ _)=>(match c[0]?,c[1]? with
  | some (Value.int _ k),some (Value.int _ n)=>if (look st (.mk k n emptyB [])).isSome=true then r n.toNat+1 else 0
  | _,_=>0)
 | _=>0
theorem HD {w0 w:World} {X:List Nat} {L:List Item} {S S0:ad} {cs:List Value} {t:T} {E:TypeId} {b i:Nat} (hI:Inv w0 X L S w) (hi:L[i]?=some (.blk b (.cells cs.toArray E))) (h:RdT S0 cs t) (r:Nat->Nat) (st:aj) :
  HC b r st w=if (look st t).isSome=true then r t.n.toNat+1 else 0:=by
 obtain ⟨kv,rfl,_⟩:=RdT.iff.1 h
 have hb:w.heap[b]?=_:=hI.its _ (du hi)
 unfold HC
 rw [hb]
 obtain ⟨k,n,s,ks⟩:=t
 rfl
section
attribute [local irreducible] Run CondV aq aK
end
theorem Ns (l:List Int) (n x:Int):x∈sE l n↔x∈l ∨ x=n:=by
 unfold sE
 split
 ·rename_i h
  rw [O5] at h
  constructor
  ·exact .inl
  ·rintro (h1|rfl)
   ·exact h1
   ·exact h
 ·simp
mutual
theorem Lo {N:Nat}:∀ (t:T) (l:List Int),okU N t->∀ x,x∈Kq t l↔x∈l ∨ ∃ m∈vT t,x=(m:Int)
 | .mk k n s ks,l,h,x=>by
  rw [okU] at h
  rw [Kq,vT]
  by_cases hk:k=1
  ·rw [ai hk,ai hk,Ns]
   have:=(h.2.1 hk).1
   constructor
   ·rintro (h1|h1)
    ·exact .inl h1
    ·exact .inr ⟨n.toNat,bY.2 rfl,by omega⟩
   ·rintro (h1|⟨m,hm,e⟩)
    ·exact .inl h1
    ·rw [bY] at hm
     exact .inr (by omega)
  ·rw [af hk,af hk]
   exact sU ks l h.2.2.1 x
theorem sU {N:Nat}:∀ (ts:List T) (l:List Int),cS N ts->∀ x,x∈lY ts l↔x∈l ∨ ∃ m∈vTL ts,x=(m:Int)
 | [],l,_,x=>by simp [lY,vTL]
 | t::ts,l,h,x=>by
  rw [cS] at h
  rw [lY,vTL,sU ts _ h.2,Lo t l h.1]
  simp only [cd]
  constructor
  ·rintro ((h|⟨m,h,e⟩)|⟨m,h,e⟩)
   ·exact .inl h
   ·exact .inr ⟨m,.inl h,e⟩
   ·exact .inr ⟨m,.inr h,e⟩
  ·rintro (h|⟨m,h|h,e⟩)
   ·exact .inl (.inl h)
   ·exact .inl (.inr ⟨m,h,e⟩)
   ·exact .inr ⟨m,h,e⟩
end
section
attribute [local irreducible] Run CondV aq aK
open Classical in
end
end
section
open Go Go.RowKit
def RdO (S:ad) (cs:List Value):Option T->Prop
 | none=>cs=n5
 | some t=>RdT S cs t
theorem RdO.length {S:ad} {cs:List Value}:∀ {x:Option T},RdO S cs x->cs.length=4
 | none,h=>by rw [h]; rfl
 | some _,h=>RdT.length h
theorem RdO.one {S:ad} {cs:List Value}:∀ {x:Option T},RdO S cs x->∀ u∈cs,u.oneCell'=true
 | none,h=>by rw [h]; simp [n5,Value.oneCell']
 | some _,h=>RdT.one h
theorem RdO.mono {S S':ad} {cs:List Value} (hs:Sle S S'):∀ {x:Option T},RdO S cs x->RdO S' cs x
 | none,h=>h
 | some _,h=>RdT.mono hs h
theorem KnU.rdO {S:ad} {c:Array Value} {st:aj} (h:KnU S c st) (i:Nat) (hi:i<st.length):RdO S (ba c (i * 4) 4) st[i]:=by
 cases hs:st[i] with
 | none=>exact (h.2 i hi).1 hs
 | some t=>exact (h.2 i hi).2 t hs
theorem KnU.of {S:ad} {c:Array Value} {st:aj} (hs:st.length * 4<=c.size) (h:∀ i (hi:i<st.length),RdO S (ba c (i * 4) 4) st[i]):KnU S c st:=
 ⟨hs,fun i hi=>⟨fun e=>by have:=h i hi; rw [e] at this; exact this,fun t e=>by have:=h i hi; rw [e] at this; exact this⟩⟩
theorem KnU.rd {S S':ad} {c:Array Value} {st:aj} {b cap:Nat} {E:TypeId} {fz:Nat × Nat} (h:KnU S c st) (hS:S' b=some (.cells c E fz)) (h1:st.length<=cap) (h2:cap<=maxLen):RdSl S' 4 (RdO S) (.slice (some ⟨b,0,none⟩) st.length cap) st:=
 ⟨_,cap,rfl,h1,h2,.inr ⟨b,0,c,E,fz,rfl,hS,fun i hi=>by rw [cZ]; exact h.rdO i hi⟩⟩
theorem Rows.knu {S:ad} {css:List (List Value)} {st:aj} {c:Array Value} (h:Rows 4 (RdO S) css st) (hs:st.length * 4<=c.size) (hc:c.toList.take (css.length * 4)=css.flatten):KnU S c st:=by
 refine KnU.of hs fun i hi=>?_
 have hcy:=h.hc
 have:=iC 4 css i h.hk (by omega)
 rw [<- hc,LR,sF,qN (by omega)] at this
 rw [ba,this]
 exact h.hR i hi (by omega)
section
variable {w w0:World} {X:List Nat} {A:List Item} {S:ad}
theorem Inv.tab {v:Value} {e:TypeId} {css:List (List Value)} {S1:ad} {st:aj} (h:Inv w0 X (A++[aE v e 4 css]) S w) (hR:Rows 4 (RdO S1) css st) (h0:0<st.length) :
  ∃ g cap cur,v=kvU g st.length cap/\st.length<=cap/\cap<=maxLen/\KnU S1 cur st/\Inv w0 X (A++[.blk g (.cells cur e)]) S w:=by
 have hcy:=hR.hc
 obtain ⟨hl,ho⟩:=Inv.openRow h
 rcases ho with ⟨rfl,h1⟩|⟨g,cap,cur,rfl,hnc,hcm,hcs,ht,hI⟩
 ·omega
 ·rw [hcy] at hnc
  exact ⟨g,cap,cur,by rw [hcy],hnc,hcm,hR.knu (by rw [hcs]; exact iy 4 hnc) ht,hI⟩
end
end
section
open Go Go.RowKit
def sZ:List Int->Int->Int
 | [],m=>m
 | x::xs,m=>sZ xs (if m<=x then x+1 else m)
def qK (c:C):Int:=sZ (lY (c.head::c.body) []) 0
theorem DQ:∀ (l:List Int) (m:Int),m<=sZ l m/\∀ x∈l,x<sZ l m
 | [],m=>⟨EE _,fun _ h=>by cases h⟩
 | y::l,m=>by
  have hm:m<=(if m<=y then y+1 else m)/\y<(if m<=y then y+1 else m):=by split <;> omega
  rw [sZ]
  generalize (if m<=y then y+1 else m)=m' at hm ⊢
  obtain ⟨h1,h2⟩:=DQ l m'
  refine ⟨by omega,fun x hx=>?_⟩
  rcases cQ.1 hx with rfl|hx
  ·omega
  ·exact h2 x hx
theorem El (N:Int):∀ (l:List Int) (m:Int),m<=N->(∀ x∈l,x<N)->sZ l m<=N
 | [],m,h,_=>h
 | y::l,m,h,hx=>by
  rw [sZ]
  refine El N l _ ?_ fun x h=>hx x (bv _ h)
  have:=hx y (bq ..)
  split <;> omega
section
attribute [local irreducible] Run CondV aq aK
end
end
section
open Go Go.RowKit
inductive Chain (Call:aj->T->T->Bool->aj->Prop):aj->List T->List T->Bool->aj->Prop
 | nil {st:aj}:Chain Call st [] [] true st
 | stop {st st':aj} {a b:T} {xs ys:List T}:Call st a b false st'->Chain Call st (a::xs) (b::ys) false st'
 | go {st st1 st':aj} {a b:T} {xs ys:List T} {r:Bool}:Call st a b true st1->Chain Call st1 xs ys r st'->Chain Call st (a::xs) (b::ys) r st'
theorem Chain.head {Call:aj->T->T->Bool->aj->Prop} {st st':aj} {a b:T} {xs ys:List T} {r:Bool} (h:Chain Call st (a::xs) (b::ys) r st') :
  ∃ r1 st1,Call st a b r1 st1/\(r1=false->r=false/\st'=st1)/\(r1=true->Chain Call st1 xs ys r st'):=by
 cases h with
 | stop h=>exact ⟨false,_,h,fun _=>⟨rfl,rfl⟩,fun e=>(by cases e)⟩
 | go h h'=>exact ⟨true,_,h,fun e=>(by cases e),fun _=>h'⟩
theorem Chain.done {Call:aj->T->T->Bool->aj->Prop} {st st':aj} {r:Bool} (h:Chain Call st [] [] r st'):r=true/\st'=st:=by
 cases h
 exact ⟨rfl,rfl⟩
def RW (Call:aj->T->T->Bool->aj->Prop) (st:aj) (a' b':T) (r:Bool) (st':aj):Prop:=
 (a'.kind=1/\b'.kind=1/\a'.n=b'.n/\r=true/\st'=st) ∨
 (a'.kind=1/\¬ (b'.kind=1/\a'.n=b'.n)/\((¬ gF st a'.n.toNat b'/\r=true/\st'=st.set a'.n.toNat (some b')) ∨ (gF st a'.n.toNat b'/\r=false/\st'=st))) ∨
 (a'.kind≠1/\b'.kind=1/\((¬ gF st b'.n.toNat a'/\r=true/\st'=st.set b'.n.toNat (some a')) ∨ (gF st b'.n.toNat a'/\r=false/\st'=st))) ∨
 (a'.kind≠1/\b'.kind≠1/\((ws a' b'=false/\r=false/\st'=st) ∨ (ws a' b'=true/\Chain Call st a'.kids b'.kids r st')))
theorem Uni.calls {N:Nat} {Call:aj->T->T->Bool->aj->Prop} (hcall:∀ st a b a' b' r st',Good N st->okJ N (.one a b)->dw st a a'->dw st b b'->RW Call st a' b' r st'->Call st a b r st') {st st':aj} {j:Job} {r:Bool} (hu:Uni st j r st') :
  Good N st->okJ N j->match j with
   | .one a b=>Call st a b r st'
   | .list xs ys=>Chain Call st xs ys r st':=by
 induction hu with
 | same h1 h2 h3 h4 h5=>exact fun hg hj=>hcall _ _ _ _ _ _ _ hg hj h1 h2 (.inl ⟨h3,h4,h5,rfl,rfl⟩)
 | bindA h1 h2 h3 h4 h5=>exact fun hg hj=>hcall _ _ _ _ _ _ _ hg hj h1 h2 (.inr (.inl ⟨h3,h4,.inl ⟨h5,rfl,rfl⟩⟩))
 | occA h1 h2 h3 h4 h5=>exact fun hg hj=>hcall _ _ _ _ _ _ _ hg hj h1 h2 (.inr (.inl ⟨h3,h4,.inr ⟨h5,rfl,rfl⟩⟩))
 | bindB h1 h2 h3 h4 h5=>exact fun hg hj=>hcall _ _ _ _ _ _ _ hg hj h1 h2 (.inr (.inr (.inl ⟨h3,h4,.inl ⟨h5,rfl,rfl⟩⟩)))
 | occB h1 h2 h3 h4 h5=>exact fun hg hj=>hcall _ _ _ _ _ _ _ hg hj h1 h2 (.inr (.inr (.inl ⟨h3,h4,.inr ⟨h5,rfl,rfl⟩⟩)))
 | clash h1 h2 h3 h4 h5=>exact fun hg hj=>hcall _ _ _ _ _ _ _ hg hj h1 h2 (.inr (.inr (.inr ⟨h3,h4,.inl ⟨h5,rfl,rfl⟩⟩)))
 | kids h1 h2 h3 h4 h5 _ ih=>
  exact fun hg hj=>hcall _ _ _ _ _ _ _ hg hj h1 h2 (.inr (.inr (.inr ⟨h3,h4,.inr ⟨h5,ih hg ⟨lB (fS hg h1 hj.1),lB (fS hg h2 hj.2),uY h5⟩⟩⟩)))
 | nil=>exact fun _ _=>.nil
 | stop _ ih=>exact fun hg hj=>.stop (ih hg ⟨hj.1 _ (bq ..),hj.2.1 _ (bq ..)⟩)
 | go h1 _ ih1 ih2=>
  intro hg hj
  have hj1:okJ N (.one _ _):=⟨hj.1 _ (bq ..),hj.2.1 _ (bq ..)⟩
  exact .go (ih1 hg hj1) (ih2 (h1.good hg hj1).1 ⟨fun a ha=>hj.1 a (bv _ ha),fun b hb=>hj.2.1 b (bv _ hb),by have:=hj.2.2; simpa using this⟩)
section
attribute [local irreducible] Run CondV aq aK
set_option maxHeartbeats 1000000 in
end
end
section
open Go Go.RowKit
mutual
def Np:T->Int->Bool
 | .mk _ _ _ ks,d=>if d<1 then false else Ne ks (d - 1)
def Ne:List T->Int->Bool
 | [],_=>true
 | t::ts,d=>Np t d && Ne ts d
end
theorem Ac:∀ (ts:List T) (d:Int),Ne ts d=ts.all fun t=>Np t d
 | [],_=>rfl
 | t::ts,d=>by rw [Ne,Ac ts d]; rfl
def bS (u:T):Bool:=decide (dZ u<=120) && Np u 30
theorem Nm (us:List T) (j:Nat) (h:j<us.length):cR (us.take (j+1))=cR (us.take j)+dZ us[j]:=by
 induction us generalizing j with
 | nil=>simp at h
 | cons u us ih=>
  cases j with
  | zero=>simp only [qq,Gc,kQ,cR]; omega
  | succ j=>
   have:=ih j (by simpa using h)
   simp only [qq,Pr,cR] at *
   omega
theorem Gf (us:List T) (j:Nat):cR (us.take j)<=cR us:=by
 induction us generalizing j with
 | nil=>simp
 | cons u us ih=>
  cases j with
  | zero=>simp only [Gc]; exact fk _
  | succ j=>
   have:=ih j
   simp only [qq,cR]
   omega
theorem Fj (k n:Int) (s:ByteArray) (ks:List T):dZ (.mk k n s ks)=1+cR ks:=rfl
theorem BO {w:World} {v:Value} {e:TypeId} {k n:Nat} {xs:List Value} (h:(Item.row v e k n xs).holds w):v.cells=#[v]/\v.oneCell'=true:=by
 have h:w.ownsRow 0 e k v n xs:=h
 rcases h.2 with ⟨rfl,_⟩|⟨g,cap,cur,rfl,_⟩ <;> exact ⟨rfl,rfl⟩
section
attribute [local irreducible] Run CondV aq aK
theorem uG {K:Value->World->Prop} {w:World} (hk:K (.agg #[.int .i64 0,.int .i64 0,.string ⟨#[]⟩,.slice none 0 0]) w):Run Tryz.prog (cn ab []) w K:=by
 refine Run.of ?_ hk
 kernel_rfl
theorem td:∀ x∈([.int .i64 0,.int .i64 0,.string ⟨#[]⟩,.slice none 0 0]:List Value),x.oneCell'=true:=by simp [Value.oneCell']
end
end
section
open Go Go.RowKit
mutual
def dl (m:Int):T->T
 | .mk k n s ks=>.mk k (if k=1 then n+m else n) s (fH m ks)
def fH (m:Int):List T->List T
 | []=>[]
 | t::ts=>dl m t::fH m ts
end
theorem s3 (m:Int):∀ ts:List T,fH m ts=ts.map (dl m)
 | []=>rfl
 | t::ts=>by rw [fH,s3 m ts]; rfl
section
attribute [local irreducible] Run CondV aq aK
end
end
section
open Go Go.RowKit
def RdG (S:ad) (cs:List Value) (g:T × Int):Prop:=∃ hd,cs=hd++[.int .i64 g.2]/\RdT S hd g.1
theorem RdG.length {S:ad} {cs:List Value} {g:T × Int} (h:RdG S cs g):cs.length=5:=by
 obtain ⟨hd,rfl,h⟩:=h; simp [h.length]
theorem RdG.one {S:ad} {cs:List Value} {g:T × Int} (h:RdG S cs g):∀ u∈cs,u.oneCell'=true:=by
 obtain ⟨hd,rfl,h⟩:=h
 intro u hu
 rcases cd.1 hu with hu|hu
 ·exact h.one u hu
 ·rw [bY] at hu; subst hu; rfl
theorem RdG.mono {S S':ad} {cs:List Value} {g:T × Int} (hs:Sle S S') (h:RdG S cs g):RdG S' cs g:=by
 obtain ⟨hd,rfl,h⟩:=h; exact ⟨hd,rfl,h.mono hs⟩
theorem RdSl.monoG {S S':ad} {v:Value} {gs:List (T × Int)} (hs:Sle S S') (h:RdSl S 5 (RdG S) v gs):RdSl S' 5 (RdG S') v gs:=h.mono hs fun _ _=>RdG.mono hs
section
variable {w:World} {K:Value->World->Prop}
attribute [local irreducible] Run
end
section
attribute [local irreducible] Run CondV aq aK
end
end
section
open Go Go.RowKit
theorem Jj {s:ByteArray} (h:k0 s=true):s.size<=6:=by
 rw [k0,iS] at h
 rcases h with h|h
 ·rw [lc] at h
  simp only [bN,bC] at h
  exact h.2.2
 ·simp only [JJ,bC] at h
  obtain ⟨x,hx,rfl⟩:=h
  have:∀ y∈signs,y.size<=6:=by decide +kernel
  exact this x hx
theorem LA {t:T} (h:eN t=true):t.name.size<=6:=by
 unfold eN at h
 have he:emptyB.size=0:=by decide +kernel
 by_cases e1:t.kind=1
 ·rw [ai e1] at h
  simp only [bN,bC] at h
  rw [h.2.2.1]; omega
 ·rw [af e1] at h
  by_cases e2:t.kind=2
  ·rw [ai e2] at h
   simp only [bN,bC] at h
   rw [h.2.2.1]; omega
  ·rw [af e2] at h
   by_cases e3:t.kind=3
   ·rw [ai e3] at h
    simp only [bN,bC] at h
    exact Jj h.2.1
   ·rw [af e3] at h
    cases h
theorem zb:emptyB.size<=6:=by decide +kernel
mutual
theorem EX:∀ (t:T) (d:Int),gf t d=true->okU 26 t
 | .mk k n s ks,d,h=>by
  rw [gf] at h
  split at h
  ·cases h
  ·rw [bN] at h
   have h1:=Sc h.1
   have h2:=fun hk=>Pv h.1 hk
   have h3:=LA h.1
   rw [okU]
   refine ⟨h1.2,fun hk=>?_,CC ks _ h.2,h3⟩
   have h4:=h1.1 hk
   have h5:=h2 hk
   simp only [T.n] at h4
   simp only [T.name,T.kids] at h5
   exact ⟨h4.1,by omega,h5.1,iW h5.2⟩
theorem CC:∀ (ts:List T) (d:Int),gh ts d=true->cS 26 ts
 | [],_,_=>by rw [cS]; trivial
 | t::ts,d,h=>by
  rw [gh,bN] at h
  rw [cS]
  exact ⟨EX t d h.1,CC ts d h.2⟩
end
theorem jE {t:T} (h:dJ t=true):okU 26 t:=EX t 30 (yD h)
theorem gD {c:C} (h:bX c=true):okU 26 c.head/\(∀ t∈c.body,okU 26 t)/\c.body.length<=6:=by
 rw [bX] at h
 simp only [bN,ed,bC] at h
 refine ⟨jE h.2.2.1,fun t ht=>?_,h.1⟩
 have:=h.2.1 t ht
 rw [eF,bN] at this
 exact jE this.1
mutual
theorem gC {N M:Nat} (h:N<=M):∀ t:T,okU N t->okU M t
 | .mk k n s ks,ht=>by
  rw [okU] at ht ⊢
  refine ⟨ht.1,fun hk=>?_,Mo h ks ht.2.2.1,ht.2.2.2⟩
  have:=ht.2.1 hk
  exact ⟨this.1,by omega,this.2.2⟩
theorem Mo {N M:Nat} (h:N<=M):∀ ts:List T,cS N ts->cS M ts
 | [],_=>by rw [cS]; trivial
 | t::ts,ht=>by
  rw [cS] at ht ⊢
  exact ⟨gC h t ht.1,Mo h ts ht.2⟩
end
mutual
theorem jG {N:Nat} (m:Nat):∀ t:T,okU N t->okU (N+m) (dl m t)
 | .mk k n s ks,ht=>by
  rw [okU] at ht
  rw [dl,okU]
  refine ⟨ht.1,fun hk=>?_,sL m ks ht.2.2.1,ht.2.2.2⟩
  have:=ht.2.1 hk
  rw [ai hk]
  refine ⟨by omega,by omega,this.2.2.1,?_⟩
  rw [this.2.2.2,fH]
theorem sL {N:Nat} (m:Nat):∀ ts:List T,cS N ts->cS (N+m) (fH m ts)
 | [],_=>by rw [fH,cS]; trivial
 | t::ts,ht=>by
  rw [cS] at ht
  rw [fH,cS]
  exact ⟨jG m t ht.1,sL m ts ht.2⟩
end
mutual
theorem l6 (m:Int):∀ t:T,wT (dl m t)=wT t
 | .mk k n s ks=>by
  rw [dl,wT,wT,HH m ks]
  rw [s3,pF]
theorem HH (m:Int):∀ ts:List T,wL (fH m ts)=wL ts
 | []=>rfl
 | t::ts=>by rw [fH,wL,wL,l6 m t,HH m ts]
end
mutual
theorem KJ {N:Nat}:∀ t:T,okU N t->(wT t:Int)+1<=7 * dZ t
 | .mk k n s ks,h=>by
  rw [okU] at h
  have h1:=PC ks h.2.2.1
  rw [wT,Fj]
  omega
theorem PC {N:Nat}:∀ ts:List T,cS N ts->(wL ts:Int)+ts.length<=7 * cR ts
 | [],_=>by simp [wL,cR]
 | t::ts,h=>by
  rw [cS] at h
  have h1:=KJ t h.1
  have h2:=PC ts h.2
  rw [wL,cR,bk]
  omega
end
theorem LJ {N:Nat} {st:aj} {t v:T} (h:Good N st) (hw:dw st t v) (ht:okU N t):okU N v:=by
 induction hw with
 | stop=>exact ht
 | step hl _ ih=>exact ih (h.look_ok hl).1
theorem lg {N:Nat} {st:aj} (hg:Good N st) {j:PX} (hr:Res st j):match j with
  | .one t u=>okU N t->okU N u
  | .list ts us=>cS N ts->cS N us/\us.length=ts.length:=by
 induction hr with
 | one hw hl ih=>
  rename_i t v us
  intro ho
  have hv:=LJ hg hw ho
  obtain ⟨h1,h2⟩:=ih hv.kids
  obtain ⟨k,n,s,ks⟩:=v
  have hv2:=hv
  rw [okU] at hv2
  show okU N (.mk k n s us)
  rw [okU]
  refine ⟨hv2.1,fun hk=>?_,h1,hv2.2.2.2⟩
  have h3:=hv2.2.1 hk
  refine ⟨h3.1,h3.2.1,h3.2.2.1,?_⟩
  simp only [T.kids] at h2
  exact iW (by rw [h2,h3.2.2.2]; rfl)
 | nil=>exact fun h=>⟨h,rfl⟩
 | cons _ _ ih1 ih2=>
  intro ho
  rw [cS] at ho
  obtain ⟨h1,h2⟩:=ih2 ho.2
  rw [cS]
  exact ⟨⟨ih1 ho.1,h1⟩,by simp [h2]⟩
theorem ux {N:Nat} {st:aj} (h:Good N st):∀ ts:List T,cS N ts->∃ us,Res st (.list ts us)
 | [],_=>⟨[],.nil⟩
 | t::ts,ho=>by
  rw [cS] at ho
  obtain ⟨u,hu⟩:=OL h t ho.1
  obtain ⟨us,hus⟩:=ux h ts ho.2
  exact ⟨u::us,.cons hu hus⟩
theorem Gb {st:aj}:∀ {ts us:List T},Res st (.list ts us)->∀ i (h:i<ts.length) (h':i<us.length),Res st (.one ts[i] us[i])
 | _,_,.cons hu _,0,_,_=>hu
 | _,_,.cons _ hus,i+1,h,h'=>Gb hus i (by simpa using h) (by simpa using h')
def stU:aj:=List.replicate 52 none
theorem Jf:Good 52 stU:=⟨by simp [stU],fun t ht=>by simp [stU] at ht,fun t ht=>by simp [stU] at ht,fun n=>n,fun n u hu=>by
 have:=du hu
 simp [stU] at this⟩
def MD (c d:C):List T:=c.head::(fH 26 d.body++c.body.drop 1)
def ofL:List T->C
 | []=>⟨⟨0,0,⟨#[]⟩,[]⟩,[]⟩
 | t::ts=>⟨t,ts⟩
def RO (c d:C) (o:Option (Option C)):Prop:=∃ r st,Uni stU (.one (c.body.headD ⟨0,0,⟨#[]⟩,[]⟩) (dl 26 d.head)) r st/\
 ((r=false/\o=none) ∨ (r=true/\∃ us,Res st (.list (MD c d) us)/\((us.all bS=false/\o=some none) ∨ (us.all bS=true/\o=some (some (Uq (Ui (ofL us)) (ofL us)))))))
theorem NB {N:Nat} {ts us:List T} (h:cS N ts) (h':cS N us):cS N (ts++us):=
 re fun t ht=>by
  rcases cd.1 ht with ht|ht
  ·exact j8 h t ht
  ·exact j8 h' t ht
theorem OA {c d:C} (hc:bX c=true) (hd:bX d=true):cS 52 (MD c d):=by
 obtain ⟨c1,c2,_⟩:=gD hc
 obtain ⟨d1,d2,_⟩:=gD hd
 rw [MD,cS]
 exact ⟨gC (by decide) _ c1,NB (sL 26 _ (re d2)) (re fun t ht=>gC (by decide) _ (c2 t (List.mem_of_mem_drop ht)))⟩
theorem NA {c d:C} (hc:bX c=true) (hd:bX d=true) (hwc:wC c<=1048576) (hwd:wC d<=1048576) (hb:c.body≠[]):okJ 52 (.one (c.body.headD ⟨0,0,⟨#[]⟩,[]⟩) (dl 26 d.head)):=by
 obtain ⟨c1,c2,_⟩:=gD hc
 obtain ⟨d1,d2,_⟩:=gD hd
 unfold wC at hwc hwd
 cases hcb:c.body with
 | nil=>exact absurd hcb hb
 | cons t ts=>
  rw [List.headD_cons]
  have hm:t∈c.body:=by rw [hcb]; exact bq ..
  have:=Gk hm
  exact ⟨⟨gC (by decide) _ (c2 t hm),by omega⟩,⟨jG 26 _ d1,by rw [l6]; omega⟩⟩
theorem RO.ex {c d:C} (hc:bX c=true) (hd:bX d=true) (hwc:wC c<=1048576) (hwd:wC d<=1048576) (hb:c.body≠[]):∃ o,RO c d o:=by
 have hj:=NA hc hd hwc hwd hb
 obtain ⟨r,st,hu⟩:=Cl (unb stU) stU Jf (aM _) _ hj
 cases r with
 | false=>exact ⟨none,false,st,hu,.inl ⟨rfl,rfl⟩⟩
 | true=>
  obtain ⟨us,hus⟩:=ux (hu.good Jf hj).1 (MD c d) (OA hc hd)
  cases hs:us.all bS with
  | false=>exact ⟨some none,true,st,hu,.inr ⟨rfl,us,hus,.inl ⟨hs,rfl⟩⟩⟩
  | true=>exact ⟨_,true,st,hu,.inr ⟨rfl,us,hus,.inr ⟨hs,rfl⟩⟩⟩
theorem gY {N:Nat} {u:T} (h:bS u=true) (ho:okU N u):wT u<=840:=by
 rw [bS,bN,bC] at h
 have:=KJ u ho
 omega
end
section
open Go Go.RowKit

def KnownM (S:ad) (es:Array MapEntry) (st:aj):Prop:=
 (∀ e∈es.toList,∃ (n:Nat) (t:T) (cs:List Value),e.key=.int .i64 n/\e.val=.agg cs.toArray/\RdT S cs t/\st[n]?=some (some t))/\(∀ (n:Nat) (t:T),st[n]?=some (some t)->∃ e∈es.toList,e.key=.int .i64 n)/\(es.toList.map (·.key)).Nodup
theorem KnownM.find {S:ad} {es:Array MapEntry} {st:aj} (h:KnownM S es st) (n:Nat) :
  (∃ j v t cs,Instr.findNow (.int .i64) (.int .i64 n) es.toList 0=some (some (j,v))/\v=.agg cs.toArray/\RdT S cs t/\st[n]?=some (some t)) ∨
  ((∀ t,st[n]?≠some (some t))/\Instr.findNow (.int .i64) (.int .i64 n) es.toList 0=some none):=by
 rcases qU (n:=n) es.toList 0 (fun e he=>by obtain ⟨m,_,_,hk,_⟩:=h.1 e he; exact ⟨m,hk⟩) with ⟨j,e,he,hk,hf⟩|⟨hk,hf⟩
 ·obtain ⟨m,t,cs,hk2,hv,hR,hs⟩:=h.1 e he
  rw [hk] at hk2
  simp only [Value.int.injEq,sy] at hk2
  have:n=m:=by omega
  subst this
  exact .inl ⟨j,e.val,t,cs,hf,hv,hR,hs⟩
 ·refine .inr ⟨fun t ht=>?_,hf⟩
  obtain ⟨e,he,hk2⟩:=h.2.1 n t ht
  exact hk e he hk2
theorem KnownM.push {S:ad} {es:Array MapEntry} {st:aj} (h:KnownM S es st) {n:Nat} (hn:n<st.length) (hno:∀ t,st[n]?≠some (some t)) {cs:List Value} {u:T} (hu:RdT S cs u) (ck:Nat) :
  KnownM S (es.push { key:=.int .i64 n,val:=.agg cs.toArray,born:=ck }) (st.set n (some u)):=by
 refine ⟨fun e he=>?_,fun m t ht=>?_,?_⟩
 ·rw [OU] at he
  rcases cd.1 he with he|he
  ·obtain ⟨m,t,cs',hk,hv,hR,hs⟩:=h.1 e he
   refine ⟨m,t,cs',hk,hv,hR,?_⟩
   have:n≠m:=fun e=>hno t (by rw [e]; exact hs)
   rw [CF this]
   exact hs
  ·simp at he
   subst he
   exact ⟨n,u,cs,rfl,rfl,hu,by rw [List.getElem?_set_self hn]⟩
 ·rw [OU]
  by_cases e:n=m
  ·exact ⟨_,kw _ (bY.2 rfl),by rw [e]⟩
  ·rw [CF e] at ht
   obtain ⟨x,hx,hk⟩:=h.2.1 m t ht
   exact ⟨x,eM _ hx,hk⟩
 ·rw [OU,List.map_append,nR]
  refine ⟨h.2.2,by simp,fun a ha b hb e=>?_⟩
  simp only [pj,List.map_nil,bY] at hb
  subst hb
  obtain ⟨x,hx,rfl⟩:=iX.1 ha
  obtain ⟨m,t,cs',hk,_,_,hs⟩:=h.1 x hx
  rw [hk] at e
  simp only [Value.int.injEq,sy] at e
  have:m=n:=by omega
  subst this
  exact hno t hs
section
attribute [local irreducible] Run CondV aq aK
end
end
section
open Go Go.RowKit

def st0:aj:=List.replicate 26 none
theorem KnownM.empty (S:ad):KnownM S #[] st0:=by
 refine ⟨by simp,fun n t ht=>?_,by simp⟩
 rw [st0,OB] at ht
 split at ht <;> cases ht
theorem Mh:∀ {ts:List T},(∀ t∈ts,okV t)->Bm ts
 | [],_=>by simp [Bm]
 | t::ts,h=>by rw [Bm]; exact ⟨h t (bq ..),Mh fun u hu=>h u (bv _ hu)⟩
section
variable {P:Program} {w w0:World} {X:List Nat} {L:List Item} {S:ad} {K:Value->World->Prop}
attribute [local irreducible] Run CondV aq aK
end
section
attribute [local irreducible] Run CondV aq aK
end
end
section
open Go Go.RowKit

section
variable {P:Program} {w w0:World} {X:List Nat} {L:List Item} {S:ad} {K:Value->World->Prop}
attribute [local irreducible] Run CondV aq aK
theorem Run.callVPure {f:FuncId} {fn:Func} {cap args:List Value} {r:Value} (hf:P.funcs[f]?=some fn) (hn:(fn.name == "runtime.NumGoroutine" || fn.body.isNone)=false) (h:Inv w0 X L S w) (hc:Pure P f (args++cap) S r)
  (hk:∀ w',Inv w0 X L S w'->K r w'):Run P (er (fv f cap) args) w K:=by
 refine Run.callV (A:=L) (I:=[]) hf hn (by simpa using h) (Post:=fun v I' S'=>v=r/\I'=[]/\S'=S) ?_ fun v' I' S' w'=>?_
 ·intro w1 hI
  exact (hc w1 hI).mono fun e w' ⟨he,hI⟩=>⟨_,_,_,he,hI,Ext.refl _ _ _,rfl,rfl,rfl⟩
 ·rintro ⟨rfl,rfl,rfl⟩ _ hI
  exact hk _ (by simpa using hI)
end
section
attribute [local irreducible] Run CondV aq aK
end
end
section
open Go Go.RowKit
section
variable {P:Program} {w:World} {K:Value->World->Prop}
attribute [local irreducible] Run
end
section
attribute [local irreducible] Run CondV aq aK
theorem kA (n:Int) (S:ad):Pure Tryz.prog FM [.int .i64 n] S (.agg #[.int .i64 1,.int .i64 n,.string ⟨#[]⟩,.slice none 0 0]):=by
 intro w hI
 refine sa.2 ?_
 dsimp only[sa,aG]
 refine aP hI aZ fun b1 w' hI=>?_
 have hb:∀ {K:Value->World->Prop} {w':World},K (.agg #[.int .i64 1,.int .i64 n,.string ⟨#[]⟩,.slice none 0 0]) w'->Run Tryz.prog (cn ab [(0,.int .i64 1),(1,.int .i64 n)]) w' K:=by
  intro K w' hk
  refine Run.of (v:=.agg #[.int .i64 1,.int .i64 n,.string ⟨#[]⟩,.slice none 0 0]) (w':=w') ?_ hk
  unfold cn
  rw [Sem.run_bind,run_build w' ab _ #[.int .i64 1,.int .i64 n,.string ⟨#[]⟩,.slice none 0 0] (by kernel_rfl),Result.andThen_ok]
  rfl
 refine hb ?_
 refine aA hI 0 rfl ac rfl rfl (by simp [Value.oneCell']) fun w' hI=>?_
 refine bw hI 0 ac rfl rfl ?_
 exact done hI rfl
theorem sR {vs:List Int} {S:ad} {g:Nat} {vv:Value} {E:TypeId} (n:Int) (hS:S g=some (.cells #[vv] E)) (hv:RdSl S 1 l4 vv vs) :
  Pure Tryz.prog fX [.int .i64 n,.pointer (some ⟨g,0,none⟩)] S (.agg #[.int .i64 1,.int .i64 (Pb vs n),.string ⟨#[]⟩,.slice none 0 0]):=by
 intro w hI
 refine kM.2 ?_
 dsimp only[kM,aO]
 refine aP hI aZ fun b1 w' hI=>?_
 refine cA gW (by rw [hI.cellS hS]; rfl) ?_
 refine Run.callPure pk pB hI (oF n hv) fun w' hI=>?_
 refine Run.callPure lP lJ hI (kA _ S) fun w' hI=>?_
 refine aA hI 0 rfl ac rfl rfl (by simp [Value.oneCell']) fun w' hI=>?_
 refine bw hI 0 ac rfl rfl ?_
 exact done hI rfl
theorem DL (vs:List Int) (hvl:vs.length<=1000000000):∀ (t:T) (S:ad) (cs:List Value) (g:Nat) (vv:Value) (E:TypeId),RdT S cs t->S g=some (.cells #[vv] E)->RdSl S 1 l4 vv vs->wT t<=1048576->
  Tri Tryz.prog qS [.agg cs.toArray,fv fX [.pointer (some ⟨g,0,none⟩)]] [] S (Eu S (r4 vs t)):=by
 refine T.ind fun k n s ks ih0 S cs g vv E h hS hv hw=>?_
 have ih:∀ t∈ks,∀ (S:ad) (cs:List Value),RdT S cs t->S g=some (.cells #[vv] E)->RdSl S 1 l4 vv vs->wT t<=1048576->
  Tri Tryz.prog qS [.agg cs.toArray,fv fX [.pointer (some ⟨g,0,none⟩)]] [] S (Eu S (r4 vs t)):=fun t ht S cs h1 h2 h3 h4=>ih0 t ht S cs g vv E h1 h2 h3 h4
 clear ih0
 intro w hI
 obtain ⟨kv,rfl,h1,h2,hs,hks⟩:=RdT.iff.1 h
 simp only [T.name,T.kids,T.kind,T.n] at h1 h2 hs hks ⊢
 simp only [wT] at hw
 have hir:=N3 vs n
 refine jy.2 ?_
 dsimp only[jy,aO]
 refine bp hI fun b2 w' hI=>?_
 refine aP hI aZ fun b4 w' hI=>?_
 refine ae hI 0 rfl aV aI rfl ?_
 refine bl ?_
 rw [r4]
 refine aH (fun hk1=>?_) (fun hk1=>?_)
 ·rw [ai hk1]
  refine ae hI 0 rfl bm aI rfl ?_
  refine Run.callVPure ue vK hI (sR n hS hv) fun w' hI=>?_
  refine aA hI 1 rfl ac rfl rfl (by simp [Value.oneCell']) fun w' hI=>?_
  refine bw hI 1 ac rfl rfl ?_
  exact ⟨_,_,_,rfl,hI.pick [false,false],Ext.refl _ _ _,rfl,[_,_,_,_],[],rfl,rfl,TrT.iff.2 ⟨_,rfl,by simp [inI,T.kind],by simp only [inI,T.n]; omega,by rw [T.name]; decide +kernel,TrSl.nil (by simp [maxLen])⟩⟩
 rw [af hk1]
 refine ae hI 0 rfl av ao rfl ?_
 refine cT hI 0 rfl av ao rfl rfl rfl fun w' hI=>?_
 refine aF hks ah ?_
 have hI:Inv w [] [.blk b4 (.cells #[.int .i64 0,.int .i64 0,.string ⟨#[]⟩,.slice none 0 0] ab),.blk b2 (.cells #[.int .i64 k,.int .i64 n,.string s,.slice none 0 0] ab)] S w':=hI.perm (List.Perm.swap _ _ _)
 have hI:=hI.rowNil ab 4
 refine ⟨fun i w'=>∃ (j:Nat) (kvc:Value) (Ls:List aU) (css:List (List Value)),j<=ks.length/\i=.int .i64 j/\Grown 4 TrT Ls css (iN vs (ks.take j))/\
   Inv w [] (.blk b4 (.cells #[.int .i64 0,.int .i64 0,.string ⟨#[]⟩,.slice none 0 0] ab)::.blk b2 (.cells #[.int .i64 k,.int .i64 n,.string s,kvc] ab)::aE kvc ab 4 css::bj Ls.flatten) S w',
  fun i _=>ks.length - (intOf i).toNat,⟨0,_,[],[],aR _,rfl,Grown.nil _ _,hI⟩,?_⟩
 intro t20 _ _ _ _ _ _ _ _ _ _ _ _ _ w'
 rintro ⟨j,kvc,Ls,css,hj,rfl,hg,hI⟩
 refine bL ?_
 refine aH (fun hji=>?_) (fun hji=>?_)
 ·have hj':j<ks.length:=by omega
  have hjl:(ks.take j).length=j:=by simp; omega
  have hcl:=hg.hc
  rw [mj] at hcl
  have hm:=bQ hj'
  have hwm:=jf hm
  refine cj hI hks ah ac hj' (fun _ _=>RdT.length) fun cs0 hcs0=>?_
  refine aP hI aZ fun b7 w' hI=>?_
  have hI:=hI.perm (M:=.blk b7 _::(.blk b4 (.cells #[.int .i64 0,.int .i64 0,.string ⟨#[]⟩,.slice none 0 0] ab)::.blk b2 (.cells #[.int .i64 k,.int .i64 n,.string s,kvc] ab)::aE kvc ab 4 css::bj Ls.flatten)) (co (l₁:=[_]))
  refine aA hI 0 rfl ac (by simpa using hcs0.length) rfl (by simpa using hcs0.one) fun w' hI=>?_
  refine ⟨fun D Jz mG zV lq Ak qm ge pu w_=>Fx D 0 [pu=.pointer (some ⟨b2,3,none⟩),ge=kvc,qm=.agg cs0.toArray,Ak=fv fX [.pointer (some ⟨g,0,none⟩)],True,True,True,Jz=.pointer (some ⟨b2,3,none⟩),True]/\∃ M cs7 b8,(D 4=true->lq=.agg cs7.toArray/\TrT M cs7 (r4 vs ks[j]))/\(D 5=true->zV=.slice (some ⟨b8,0,none⟩) 1 1)/\(D 5=true->D 4=true)/\(D 6=true->D 5=true)/\(D 8=true->D 6=true)/\(D 8=true->D 1=true)/\Inv w [] (aY (.blk b7 (.cells cs0.toArray ab)) (.blk b4 (.cells #[.int .i64 0,.int .i64 0,.string ⟨#[]⟩,.slice none 0 0] ab)) (.blk b2 (.cells #[.int .i64 k,.int .i64 n,.string s,kvc] ab)) (.blk b2 (.cells #[.int .i64 k,.int .i64 n,.string s,mG] ab)) (aE kvc ab 4 css) (aE mG ab 4 (css++[cs7])) (bj Ls.flatten) M (.blk b8 (.cells cs7.toArray ab)) (D 4) (D 5) (D 6) (D 8)) S w_,⟨Fx.nil _ _,⟨[],[],0,aQ,aQ,aQ,aQ,aQ,aQ,by simpa [aY,bj] using hI.draw⟩⟩,⟨?_,?_,?_,?_,?_,?_,?_,?_,?_,trivial⟩,?_⟩
  all_goals (intro D bI; intros; rename_i Jz mG zV lq Ak qm ge pu w_ hA_; have hF_:=hA_.1; obtain ⟨⟨cJ,cH,cK,cI,cN,cP,cz,dC,ek,_⟩,⟨M,cs7,b8,e7,e8,k8,k9,k11,k1,hI⟩⟩:=hA_)
  ·refine aC av ?_
   exact ⟨hF_.set 0 rfl,⟨M,cs7,b8,e7,e8,k8,k9,k11,k1,hI⟩⟩
  ·obtain rfl:=cJ ‹_›
   have f11:D 8=false:=cq.2 fun h=>by rw [k1 h] at bI; cases bI
   refine bb (b:=b2) hI 2 (c:=(#[.int .i64 k,.int .i64 n,.string s,kvc])) ao (by rw [f11]; rfl) rfl ?_
   have k1:=fun (_:aB D 1 8=true)=>(rfl:aB D 1 1=true)
   exact ⟨hF_.set 1 rfl,⟨M,cs7,b8,e7,e8,k8,k9,k11,k1,hI⟩⟩
  ·refine az hI 0 ac rfl (by simpa using hcs0.length) ?_
   exact ⟨hF_.set 2 rfl,⟨M,cs7,b8,e7,e8,k8,k9,k11,k1,hI⟩⟩
  ·exact ⟨hF_.set 3 rfl,⟨M,cs7,b8,e7,e8,k8,k9,k11,k1,hI⟩⟩
  ·obtain rfl:=cK ‹_›
   obtain rfl:=cI ‹_›
   have f8:D 5=false:=cq.2 fun h=>by rw [k8 h] at bI; cases bI
   have f9:D 6=false:=cq.2 fun h=>by rw [k9 h] at f8; cases f8
   have f11:D 8=false:=cq.2 fun h=>by rw [k11 h] at f9; cases f9
   rw [bI,f8,f9,f11] at hI
   refine Run.call0 gO gU hI (ih _ (bQ hj') S cs0 hcs0 hS hv (by omega)) fun v' I' S w_=>?_
   rintro ⟨rfl,cs7,M,rfl,rfl,hT⟩ _ hI
   have e7:aB D 4 4=true->Value.agg cs7.toArray=Value.agg cs7.toArray/\TrT M cs7 (r4 vs ks[j]):=fun _=>⟨rfl,hT⟩
   have k8:=fun (_:aB D 4 5=true)=>(rfl:aB D 4 4=true)
   have hI:Inv w [] (aY (.blk b7 (.cells cs0.toArray ab)) (.blk b4 (.cells #[.int .i64 0,.int .i64 0,.string ⟨#[]⟩,.slice none 0 0] ab)) (.blk b2 (.cells #[.int .i64 k,.int .i64 n,.string s,kvc] ab)) (.blk b2 (.cells #[.int .i64 k,.int .i64 n,.string s,mG] ab)) (aE kvc ab 4 css) (aE mG ab 4 (css++[cs7])) (bj Ls.flatten) M (.blk b8 (.cells cs7.toArray ab)) true (D 5) (D 6) (D 8)) S w_:=by
    rw [f8,f9,f11]
    simpa [aY] using hI
   exact ⟨hF_.set 4 (by first|assumption|trivial),⟨M,cs7,b8,e7,e8,k8,k9,k11,k1,hI⟩⟩
  ·have Ij:=cN ‹_›
   have f9:D 6=false:=cq.2 fun h=>by rw [k9 h] at bI; cases bI
   have f11:D 8=false:=cq.2 fun h=>by rw [k11 h] at f9; cases f9
   obtain ⟨q7,hT⟩:=e7 ‹D 4=true›
   subst q7
   rw [‹D 4=true›,bI,f9,f11] at hI
   refine d6 hI bA (by simp [Value.cells,hT.length]) (by omega) (by omega) fun b8 w_ hI=>?_
   have e7:aB D 5 4=true->Value.agg cs7.toArray=Value.agg cs7.toArray/\TrT M cs7 (r4 vs ks[j]):=fun _=>⟨rfl,hT⟩
   have e8:=fun (_:aB D 5 5=true)=>(rfl:Value.slice (some ⟨b8,0,none⟩) 1 1=_)
   have k8:=fun (_:aB D 5 5=true)=>‹D 4=true›
   have k9:=fun (_:aB D 5 6=true)=>(rfl:aB D 5 5=true)
   have hI:Inv w [] (aY (.blk b7 (.cells cs0.toArray ab)) (.blk b4 (.cells #[.int .i64 0,.int .i64 0,.string ⟨#[]⟩,.slice none 0 0] ab)) (.blk b2 (.cells #[.int .i64 k,.int .i64 n,.string s,kvc] ab)) (.blk b2 (.cells #[.int .i64 k,.int .i64 n,.string s,mG] ab)) (aE kvc ab 4 css) (aE mG ab 4 (css++[cs7])) (bj Ls.flatten) M (.blk b8 (.cells cs7.toArray ab)) (D 4) true (D 6) (D 8)) S w_:=by
    rw [‹D 4=true›,f9,f11]
    simpa [aY,Value.cells] using hI
   exact ⟨hF_.set 5 (by first|assumption|trivial),⟨M,cs7,b8,e7,e8,k8,k9,k11,k1,hI⟩⟩
  ·obtain rfl:=cH ‹_›
   have NN:=cP ‹_›
   have f11:D 8=false:=cq.2 fun h=>by rw [k11 h] at bI; cases bI
   have q8:=e8 ‹D 5=true›
   subst q8
   obtain ⟨_,hT⟩:=e7 ‹D 4=true›
   rw [‹D 4=true›,‹D 5=true›,bI,f11] at hI
   have hblk:((aY (.blk b7 (.cells cs0.toArray ab)) (.blk b4 (.cells #[.int .i64 0,.int .i64 0,.string ⟨#[]⟩,.slice none 0 0] ab)) (.blk b2 (.cells #[.int .i64 k,.int .i64 n,.string s,ge] ab)) (.blk b2 (.cells #[.int .i64 k,.int .i64 n,.string s,mG] ab)) (aE ge ab 4 css) (aE mG ab 4 (css++[cs7])) (bj Ls.flatten) M (.blk b8 (.cells cs7.toArray ab)) true true false false))[4+(bj Ls.flatten).length+(bj M).length]?=some (.blk b8 (.cells cs7.toArray ab)):=by
    have e4:4+(bj Ls.flatten).length+(bj M).length=((bj Ls.flatten).length+(bj M).length)+1+1+1+1:=by omega
    rw [e4]
    simp only [aY,lx]
    rw [gP (by omega),qj,gP (aM _),dY]; rfl
   refine dy hI 3 cs7 bA (by omega) rfl (by rw [hT.length]) (m:=1) (o:=0) ?_ hT.one (by omega) (by omega) fun v' w_ hI=>?_
   ·intro i u hi
    rw [hI.cellL hblk,cZ]
    simpa using hi
   rw [eK] at hI
   have k9:=fun (_:aB D 6 6=true)=>‹D 5=true›
   have k11:=fun (_:aB D 6 8=true)=>(rfl:aB D 6 6=true)
   have hI:Inv w [] (aY (.blk b7 (.cells cs0.toArray ab)) (.blk b4 (.cells #[.int .i64 0,.int .i64 0,.string ⟨#[]⟩,.slice none 0 0] ab)) (.blk b2 (.cells #[.int .i64 k,.int .i64 n,.string s,ge] ab)) (.blk b2 (.cells #[.int .i64 k,.int .i64 n,.string s,v'] ab)) (aE ge ab 4 css) (aE v' ab 4 (css++[cs7])) (bj Ls.flatten) M (.blk b8 (.cells cs7.toArray ab)) (D 4) (D 5) true (D 8)) S w_:=by
    rw [‹D 4=true›,‹D 5=true›,f11]
    exact hI
   exact ⟨hF_.set 6 (by first|assumption|trivial),⟨M,cs7,b8,e7,e8,k8,k9,k11,k1,hI⟩⟩
  ·refine aC av ?_
   exact ⟨hF_.set 7 rfl,⟨M,cs7,b8,e7,e8,k8,k9,k11,k1,hI⟩⟩
  ·obtain rfl:=dC ‹_›
   have M9:=cz ‹_›
   rw [‹D 4=true›,‹D 5=true›,‹D 6=true›,bI] at hI
   obtain ⟨va,vn,vc,hv9⟩:=Inv.rowSlice hI 3 rfl
   refine df hI 2 (n:=1) (by rw [hv9]; rfl) (by decide +kernel) rfl (by simp) (by rw [hv9]; simp [Value.cells,Value.oneCell']) fun w_ hI=>?_
   have hcl9:Value.cells mG=#[mG]:=by rw [hv9]; rfl
   rw [hcl9] at hI
   have k1:=fun (_:aB D 8 8=true)=>‹D 1=true›
   have k11:=fun (_:aB D 8 8=true)=>‹D 6=true›
   have hI:Inv w [] (aY (.blk b7 (.cells cs0.toArray ab)) (.blk b4 (.cells #[.int .i64 0,.int .i64 0,.string ⟨#[]⟩,.slice none 0 0] ab)) (.blk b2 (.cells #[.int .i64 k,.int .i64 n,.string s,kvc] ab)) (.blk b2 (.cells #[.int .i64 k,.int .i64 n,.string s,mG] ab)) (aE kvc ab 4 css) (aE mG ab 4 (css++[cs7])) (bj Ls.flatten) M (.blk b8 (.cells cs7.toArray ab)) (D 4) (D 5) (D 6) true) S w_:=by
    rw [‹D 4=true›,‹D 5=true›,‹D 6=true›]
    exact hI
   exact ⟨hF_.set 8 trivial,⟨M,cs7,b8,e7,e8,k8,k9,k11,k1,hI⟩⟩
  obtain ⟨rfl,rfl,rfl,rfl,Ij,NN,M9,rfl,_,_⟩:=hF_.all
  have Sg:D 4=true:=by assumption
  have PS:D 5=true:=by assumption
  have M6:D 6=true:=by assumption
  have N5:D 8=true:=by assumption
  clear hF_ cJ cH cK cI cN cP cz dC ek
  obtain ⟨_,hT⟩:=e7 Sg
  rw [Sg,PS,M6,N5] at hI
  refine bn (by omega) ?_
  refine ⟨⟨j+1,mG,Ls++[M],css++[cs7],hj',rfl,?_,?_⟩,by simp [intOf]; omega⟩
  ·rw [Ap vs ks j hj']
   exact hg.snoc hT hT.length
  ·simp only [vD,gx,qW,cX,dv]
   refine hI.sub ?_
   simp only [aY]
   rw [<- eI]
   exact ((((dn _ _).cons_cons _).cons_cons _).cons_cons _).cons _
 ·have:j=ks.length:=by omega
  subst this
  rw [fM] at hg
  obtain ⟨va,vn,vc,hvk⟩:=hI.rowSlice 2 rfl
  have hv1:kvc.oneCell'=true:=by rw [hvk]; rfl
  refine az hI 1 ac rfl rfl ?_
  refine aA hI 0 rfl ac rfl rfl ?_ fun w' hI=>?_
  ·intro u hu
   have hu':u∈([.int .i64 k,.int .i64 n,.string s,kvc]:List Value):=hu
   simp at hu'
   rcases hu' with rfl|rfl|rfl|rfl <;> first|rfl|exact hv1
  refine bw hI 0 ac rfl rfl ?_
  have hI:Inv w [] ([]++(aE kvc ab 4 css::bj Ls.flatten)) S w':=hI.sub (dz [_,_] _)
  obtain ⟨L,hT,hI⟩:=Inv.rowTree hI hg
  exact ⟨_,_,_,rfl,hI,Ext.refl _ _ _,rfl,_,L,rfl,rfl,TrT.iff.2 ⟨kvc,rfl,h1,h2,hs,hT⟩⟩
theorem xc {ts:List T} {S:ad} {v:Value} (h:RdSl S 4 (RdT S) v ts) (hw:ts.length+wL ts<=1048577):Tri Tryz.prog Cz [v] [] S (HP 4 TrT S (iN (ef ts []) ts)):=by
 intro w hI
 have hlen:=h.le
 simp only [maxLen] at hlen
 have hcl:=Fp ts
 have hvl:=vW ts []
 simp only [bG] at hvl
 refine oW.2 ?_
 dsimp only[oW,aG]
 refine Run.call0 qB py hI (nn h (by omega)) fun v1 I' S w'=>?_
 rintro ⟨rfl,rfl⟩ _ hI
 have hl':(ef ts []).length<=1000000000:=by omega
 generalize ef ts []=vs at hI hl' ⊢
 refine aP hI P5 fun b3 w' hI=>?_
 have hv1:v1.cells=#[v1]/\v1.oneCell'=true:=by
  have:=hI.its (dX v1 vs) (by simp)
  rcases this.2 with ⟨rfl,_⟩|⟨g,cap,cur,rfl,_⟩ <;> exact ⟨rfl,rfl⟩
 refine df hI 1 (n:=1) (by rw [hv1.1]; rfl) (by rw [gW]; rfl) rfl (jS rfl) (by rw [hv1.1]; simpa using hv1.2) fun w' hI=>?_
 have hst:bR (Value.slice none 0 0).cells 0 v1.cells.toList=#[v1]:=by
  rw [hv1.1]; rfl
 have hI:Inv w [] [dX v1 vs,.blk b3 (.cells #[v1] pV)] S w':=by
  have:=hI
  simp only [gt,sv] at this
  rw [hst] at this
  exact this
 have hI:=hI.perm (M:=[.blk b3 (.cells #[v1] pV)]++[dX v1 vs]) (List.Perm.swap _ _ _)
 obtain ⟨S1,hle1,hrd1,hI,_⟩:=Inv.lend (A:=[_]) hI
 obtain ⟨hI,hle2⟩:=Inv.publishLast (L:=[]) hI
 have hb:mE S1 b3 (.cells #[v1] pV) b3=some (.cells #[v1] pV):=by simp [mE]
 generalize mE S1 b3 (.cells #[v1] pV)=S2 at hI hle2 hb
 have hr1:=hrd1.ints.mono hle2 fun _ _ h=>h
 have hle:=hle1.trans hle2
 have h:=h.mono hle fun _ _ h=>h.mono hle
 refine aF h ah ?_
 refine ⟨fun i t w'=>∃ (k:Nat) (Ls:List aU) (css:List (List Value)),k<=ts.length/\i=.int .i64 k/\Grown 4 TrT Ls css (iN vs (ts.take k))/\Inv w [] (aE t ab 4 css::bj Ls.flatten) S2 w',
  fun i _ _=>ts.length - (intOf i).toNat,⟨0,[],[],aR _,rfl,Grown.nil _ _,hI.rowNil ab 4⟩,?_⟩
 intro t11 _ t4 _ _ _ _ _ _ _ _ _ _ w'
 rintro ⟨k,Ls,css,hk,rfl,hg,hI⟩
 refine bL ?_
 refine aH (fun hki=>?_) (fun hki=>?_)
 ·have hk':k<ts.length:=by omega
  have htl:(ts.take k).length=k:=by simp; omega
  have hcl:=hg.hc
  rw [mj] at hcl
  have hm:=bQ hk'
  have hwm:=jf hm
  refine cj hI h ah ac hk' (fun _ _=>RdT.length) fun cs hcs=>?_
  have hlc:=hcs.length
  refine aP hI aZ fun b6 w' hI=>?_
  have hI:=hI.perm (M:=.blk b6 _::(aE t4 ab 4 css::bj Ls.flatten)) (co (l₁:=[_]))
  refine aA hI 0 rfl ac (by simpa using hlc) rfl (by simpa using hcs.one) fun w' hI=>?_
  refine az hI 0 ac rfl (by simpa using hlc) ?_
  have hI:Inv w [] (aE t4 ab 4 css::bj Ls.flatten) S2 w':=hI.sub (gk _ _)
  refine nT ?_
  refine Run.call0 gO gU hI (DL vs hl' _ S2 cs b3 v1 pV hcs hb hr1 (by omega)) fun v' I' S' w'=>?_
  rintro ⟨rfl,cs',L,rfl,rfl,hT⟩ _ hI
  refine cM hI 0 cs' bA (by omega) (by omega) rfl hT.length hT.one (by omega) (by omega) fun v' w' hI=>?_
  refine bn (by omega) ?_
  refine ⟨⟨k+1,Ls++[L],css++[cs'],hk',rfl,?_,?_⟩,by simp [intOf]; omega⟩
  ·rw [Ap vs ts k hk']
   exact hg.snoc hT hT.length
  ·simp only [vD,gx,qW,cX,dv]
   exact hI
 ·have:k=ts.length:=by omega
  subst this
  rw [fM] at hg
  obtain ⟨L,hT,hI⟩:=Inv.rowTree (A:=[]) hI hg
  exact ⟨_,_,_,rfl,hI.less hle,Ext.refl _ _ _,rfl,_,rfl,hT⟩
end
end
section
open Go Go.RowKit
section
attribute [local irreducible] Run CondV aq aK
theorem TrC.zero:TrC [] [.int .i64 0,.int .i64 0,.string ⟨#[]⟩,.slice none 0 0,.slice none 0 0] ⟨⟨0,0,⟨#[]⟩,[]⟩,[]⟩:=
 ⟨[.int .i64 0,.int .i64 0,.string ⟨#[]⟩,.slice none 0 0],.slice none 0 0,[],[],rfl,rfl,TrT.iff.2 ⟨_,rfl,by simp [inI,T.kind],by simp [inI,T.n],by rw [T.name]; decide +kernel,TrSl.nil (by simp [maxLen])⟩,TrSl.nil (by simp [maxLen])⟩
end
end
section
open Go Go.RowKit
section
variable {P:Program} {w:World} {K:Value->World->Prop}
attribute [local irreducible] Run
end
section
attribute [local irreducible] Run CondV aq aK
end
end
end Go.Proofs.YtcpgagfdeflbkaaGreatDoor
