/- Unification: the plain form. Lists of bindings, what a variable reaches, unifiers, resolved terms. -/
import Derived.Test.YtjbcdmheajljpaaGreatZLp2
namespace Go.Proofs.YtjbcdmheajljpaaGreat
section
open Go Go.RowKit
mutual
def okU (N:Nat):T->Prop
 | .mk k n s ks=>(k=1 ∨ k=2 ∨ k=3)/\(k=1->0<=n/\n<N/\s=emptyB/\ks=[])/\cz N ks/\s.size<=6
def cz (N:Nat):List T->Prop
 | []=>True
 | t::ts=>okU N t/\cz N ts
end
mutual
def vT:T->List Nat
 | .mk k n _ ks=>if k=1 then [n.toNat] else vTL ks
def vTL:List T->List Nat
 | []=>[]
 | t::ts=>vT t++vTL ts
end
theorem iv {N:Nat}:∀ {ts:List T},cz N ts->∀ t∈ts,okU N t
 | t::ts,h,x,a=>by
  rw [cz] at h;rcases ek.1 a with rfl|a
  ·exact h.1
  ·exact iv h.2 x a
theorem lq {N:Nat}:∀ {ts:List T},(∀ t∈ts,okU N t)->cz N ts
 | [],_=>by rw [cz]; trivial
 | t::ts,h=>by rw [cz]; exact ⟨h t (bL ..),lq fun u a=>h u (bV _ a)⟩
theorem nW:∀ {ts:List T} {m:Nat},m∈vTL ts↔∃ t∈ts,m∈vT t
 | [],m=>by simp [vTL]
 | t::ts,m=>by rw [vTL,cI,nW]; simp
theorem okU.kids {N:Nat} {t:T} (h:okU N t):cz N t.kids:=by cases t; rw [okU] at h; exact h.2.2.1
theorem okU.var {N:Nat} {t:T} (h:okU N t) (hk:t.kind=1):0<=t.n/\t.n<N/\t.name=emptyB/\t.kids=[]:=by cases t; rw [okU] at h; exact h.2.1 hk
theorem okU.three {N:Nat} {t:T} (h:okU N t):t.kind=1 ∨ t.kind=2 ∨ t.kind=3:=by cases t; rw [okU] at h; exact h.1
theorem okU.kind {N:Nat} {t:T} (h:okU N t):t.kind≠0:=by have:=h.three; omega
theorem i9 {t:T} (h:t.kind=1):vT t=[t.n.toNat]:=by cases t; rw [vT]; exact af h
theorem uE {t:T} (h:t.kind≠1):vT t=vTL t.kids:=by cases t; rw [vT]; exact ae h
mutual
def wB:T->Prop
 | .mk _ _ _ ks=>ks.length<=1048576/\wBL ks
def wBL:List T->Prop
 | []=>True
 | t::ts=>wB t/\wBL ts
end
theorem L4:∀ {ts:List T},wBL ts->∀ t∈ts,wB t
 | t::ts,h,x,a=>by
  rw [wBL] at h;rcases ek.1 a with rfl|a
  ·exact h.1
  ·exact L4 h.2 x a
theorem Pj:∀ {ts:List T},(∀ t∈ts,wB t)->wBL ts
 | [],_=>by rw [wBL]; trivial
 | t::ts,h=>by rw [wBL]; exact ⟨h t (bL ..),Pj fun u a=>h u (bV _ a)⟩
theorem NU (t:T):wB t↔t.kids.length<=1048576/\wBL t.kids:=by cases t; rw [wB]; rfl
def look (st:aX) (t:T):Option T:=if t.kind=1 then (st[t.n.toNat]?).join else none
theorem dB {st:aX} {t u:T}:look st t=some u↔t.kind=1/\st[t.n.toNat]?=some (some u):=by
 unfold look;split
 ·rename_i h
  simp only [Option.join_eq_some_iff];exact ⟨fun e=>⟨h,e⟩,fun e=>e.2⟩
 ·rename_i h
  simp [h]
theorem qQ {st:aX} {t:T}:look st t=none↔(t.kind=1->st[t.n.toNat]?=none ∨ st[t.n.toNat]?=some none):=by
 unfold look;split
 ·rename_i h
  rw [Option.join_eq_none_iff];constructor
  ·intro e _;rcases e with e|e
   ·exact .inl e
   ·exact .inr e
  ·intro e;rcases e h with e|e
   ·exact .inl e
   ·exact .inr e
 ·rename_i h
  simp [h]
inductive dI (st:aX):T->T->Prop
 | stop {t:T}:look st t=none->dI st t t
 | step {t u v:T}:look st t=some u->dI st u v->dI st t v
inductive Rch (st:aX):Nat->Nat->Prop
 | refl (m:Nat):Rch st m m
 | step {m k n:Nat} {u:T}:st[m]?=some (some u)->k∈vT u->Rch st k n->Rch st m n
theorem Rch.trans {st:aX} {a b c:Nat} (h:Rch st a b) (g:Rch st b c):Rch st a c:=by
 induction h with
 | refl=>exact g
 | step i j _ l=>exact .step i j (l g)
def gO (st:aX) (n:Nat) (t:T):Prop:=∃ m∈vT t,Rch st m n
structure Good (N:Nat) (st:aX):Prop where
 len:st.length=N
 ok:∀ t,some t∈st->okU N t
 w:∀ t,some t∈st->wB t
 rk:∃ r:Nat->Nat,∀ (n:Nat) (u:T),st[n]?=some (some u)->∀ m∈vT u,r m<r n
theorem Good.look_ok {N:Nat} {st:aX} (h:Good N st) {t u:T} (a:look st t=some u):okU N u/\wB u:=by
 have:=fj (dB.1 a).2;exact ⟨h.ok u this,h.w u this⟩
theorem eh {N:Nat} {st:aX} {t v:T} (h:Good N st) (a:dI st t v) (g:okU N t/\wB t):okU N v/\wB v:=by
 induction a with
 | stop=>exact g
 | step i _ j=>exact j (h.look_ok i)
theorem ii {st:aX} {t v:T} (a:dI st t v):look st v=none:=by
 induction a with
 | stop h=>exact h
 | step _ _ g=>exact g
theorem LG {N:Nat} {st:aX} (h:Good N st) (t:T):∃ v,dI st t v:=by
 obtain ⟨r,j⟩:=h.rk;have:∀ (k:Nat) (t:T),(∀ u,look st t=some u->r t.n.toNat<k)->∃ v,dI st t v:=by
  intro k;induction k with
  | zero=>
   intro t g;cases a:look st t with
   | none=>exact ⟨t,.stop a⟩
   | some u=>have:=g u a; omega
  | succ k m=>
   intro t g;cases a:look st t with
   | none=>exact ⟨t,.stop a⟩
   | some u=>
    have p:=g u a;obtain ⟨v,l⟩:=m u fun o i=>by
     obtain ⟨hk,_⟩:=dB.1 i;have:=j _ _ (dB.1 a).2 u.n.toNat (by rw [i9 hk]; simp);omega
    exact ⟨v,.step a l⟩
 exact this (r t.n.toNat+1) t fun _ _=>KP _
theorem O6 {st:aX} {t v:T} (j:dI st t v) {n:Nat} (hn:∀ u,st[n]?≠some (some u)):gO st n t↔gO st n v:=by
 induction j with
 | stop=>exact Iff.rfl
 | step l _ o=>
  rename_i t u v
  rw [<- o];obtain ⟨hk,h⟩:=dB.1 l;constructor
  ·rintro ⟨m,a,g⟩;rw [i9 hk,cO] at a;subst a;cases g with
   | refl=>exact absurd h (hn _)
   | step i p q=>
    rw [h,bh,bh] at i;subst i;exact ⟨_,p,q⟩
  ·rintro ⟨m,a,g⟩;exact ⟨_,by rw [i9 hk]; exact cO.2 rfl,.step h a g⟩
def unb:aX->Nat
 | []=>0
 | none::st=>unb st+1
 | some _::st=>unb st
theorem qL:∀ (st:aX) (n:Nat) (t:T),st[n]?=some none->unb (st.set n (some t))+1=unb st
 | [],n,t,h=>by simp at h
 | x::st,0,t,h=>by
  simp only [DO,bh] at h;subst h;rfl
 | x::st,n+1,t,h=>by
  have a:st[n]?=some none:=by simpa using h
  have:=qL st n t a;cases x <;> simp only [List.set_cons_succ,unb] <;> omega
theorem Kg:∀ st:aX,unb st<=st.length
 | []=>be _
 | none::st=>by have:=Kg st; simp only [unb,aO]; omega
 | some _::st=>by have:=Kg st; simp only [unb,aO]; omega
open Classical in
theorem Good.set {N:Nat} {st:aX} (h:Good N st) {n:Nat} {t:T} (hn:st[n]?=some none) (D:okU N t) (G:wB t) (J:¬ gO st n t):Good N (st.set n (some t)):=by
 have q:n<st.length:=(iu.1 hn).1;refine ⟨by rw [jR]; exact h.len,fun u a=>?_,fun u a=>?_,?_⟩
 ·rcases Mi a with a|a
  ·exact h.ok u a
  ·rw [bh] at a;rw [a]; exact D
 ·rcases Mi a with a|a
  ·exact h.w u a
  ·rw [bh] at a;rw [a]; exact G
 ·obtain ⟨r,O⟩:=h.rk;have o:∀ l:List Nat,∃ M,∀ m∈l,r m<=M:=by
   intro l;induction l with
   | nil=>exact ⟨0,by simp⟩
   | cons x l U=>
    obtain ⟨M,o⟩:=U;refine ⟨M+r x,fun m i=>?_⟩;rcases ek.1 i with rfl|i
    ·omega
    ·have:=o m i; omega
  obtain ⟨M,o⟩:=o (vT t);refine ⟨fun m=>if Rch st m n then r m+M+1 else r m,fun k u g m i=>?_⟩;by_cases p:n=k
  ·subst p;rw [Ie q,bh,bh] at g;subst g;have B:¬ Rch st m n:=fun e=>J ⟨m,i,e⟩;have C:=o m i;simp only [ae B,af (Rch.refl (st:=st) n)];omega
  ·rw [GI p] at g;have B:=O k u g m i;by_cases j:Rch st m n
   ·have C:Rch st k n:=.step g i j;simp only [af j,af C];omega
   ·simp only [ae j];split <;> omega
inductive Job where
 | one (a b:T)
 | list (xs ys:List T)
inductive Uni:aX->Job->Bool->aX->Prop
 | same {st:aX} {a b a' b':T}:dI st a a'->dI st b b'->a'.kind=1->b'.kind=1->a'.n=b'.n->Uni st (.one a b) true st
 | bindA {st:aX} {a b a' b':T}:dI st a a'->dI st b b'->a'.kind=1->¬ (b'.kind=1/\a'.n=b'.n)->¬ gO st a'.n.toNat b'->Uni st (.one a b) true (st.set a'.n.toNat (some b'))
 | occA {st:aX} {a b a' b':T}:dI st a a'->dI st b b'->a'.kind=1->¬ (b'.kind=1/\a'.n=b'.n)->gO st a'.n.toNat b'->Uni st (.one a b) false st
 | bindB {st:aX} {a b a' b':T}:dI st a a'->dI st b b'->a'.kind≠1->b'.kind=1->¬ gO st b'.n.toNat a'->Uni st (.one a b) true (st.set b'.n.toNat (some a'))
 | occB {st:aX} {a b a' b':T}:dI st a a'->dI st b b'->a'.kind≠1->b'.kind=1->gO st b'.n.toNat a'->Uni st (.one a b) false st
 | clash {st:aX} {a b a' b':T}:dI st a a'->dI st b b'->a'.kind≠1->b'.kind≠1->sF a' b'=false->Uni st (.one a b) false st
 | kids {st st':aX} {a b a' b':T} {r:Bool}:dI st a a'->dI st b b'->a'.kind≠1->b'.kind≠1->sF a' b'=true->Uni st (.list a'.kids b'.kids) r st'->Uni st (.one a b) r st'
 | nil {st:aX}:Uni st (.list [] []) true st
 | stop {st st':aX} {a b:T} {xs ys:List T}:Uni st (.one a b) false st'->Uni st (.list (a::xs) (b::ys)) false st'
 | go {st st1 st':aX} {a b:T} {xs ys:List T} {r:Bool}:Uni st (.one a b) true st1->Uni st1 (.list xs ys) r st'->Uni st (.list (a::xs) (b::ys)) r st'
def okJ (N:Nat):Job->Prop
 | .one a b=>(okU N a/\wB a)/\(okU N b/\wB b)
 | .list xs ys=>(∀ a∈xs,okU N a/\wB a)/\(∀ b∈ys,okU N b/\wB b)/\xs.length=ys.length
theorem j0 {N:Nat} {t:T} (h:okU N t/\wB t):∀ x∈t.kids,okU N x/\wB x:=by
 intro x a;exact ⟨iv h.1.kids x a,L4 ((NU t).1 h.2).2 x a⟩
theorem pj {a b:T} (h:sF a b=true):a.kids.length=b.kids.length:=by
 rw [sF] at h;simp only [bJ,bE] at h;exact h.2.2.2
theorem mv {N:Nat} {st:aX} (h:Good N st) {a:T} (hk:a.kind=1) (g:look st a=none) (i:okU N a):st[a.n.toNat]?=some none:=by
 obtain ⟨j,l,_⟩:=i.var hk;rcases qQ.1 g hk with e|e
 ·have:=List.getElem?_eq_none_iff.1 e;have:=h.len;omega
 ·exact e
theorem Uni.good {N:Nat} {st i:aX} {j:Job} {r:Bool} (M:Uni st j r i):Good N st->okJ N j->Good N i/\(i=st ∨ unb i<unb st):=by
 induction M with
 | same=>exact fun h _=>⟨h,.inl rfl⟩
 | occA=>exact fun h _=>⟨h,.inl rfl⟩
 | occB=>exact fun h _=>⟨h,.inl rfl⟩
 | clash=>exact fun h _=>⟨h,.inl rfl⟩
 | nil=>exact fun h _=>⟨h,.inl rfl⟩
 | bindA l m hk t u=>
  rename_i G J
  intro h g;have p:=eh h l g.1;have o:=eh h m g.2;have hf:=mv h hk (ii l) p.1;have:=qL _ _ J hf;exact ⟨h.set hf o.1 o.2 u,.inr (by omega)⟩
 | bindB l m t hk u=>
  rename_i G J
  intro h g;have p:=eh h l g.1;have o:=eh h m g.2;have hf:=mv h hk (ii m) o.1;have:=qL _ _ G hf;exact ⟨h.set hf p.1 p.2 u,.inr (by omega)⟩
 | kids l m _ _ U _ B=>
  intro h g;exact B h ⟨j0 (eh h l g.1),j0 (eh h m g.2),pj U⟩
 | stop _ B=>
  intro h g;exact B h ⟨g.1 _ (bL ..),g.2.1 _ (bL ..)⟩
 | go _ _ C D=>
  intro h g;obtain ⟨p,o⟩:=C h ⟨g.1 _ (bL ..),g.2.1 _ (bL ..)⟩;obtain ⟨O,q⟩:=D p ⟨fun a l=>g.1 a (bV _ l),fun b m=>g.2.1 b (bV _ m),by have:=g.2.2; simpa using this⟩;refine ⟨O,?_⟩;rcases o with rfl|o
  ·exact q
  ·rcases q with rfl|q
   ·exact .inr o
   ·exact .inr (by omega)
open Classical in
theorem RT {N:Nat}:∀ (U:Nat) (st:aX),Good N st->unb st<=U->∀ j,okJ N j->∃ r g,Uni st j r g:=by
 intro U;induction U using Nat.strongRecOn with
 | _ U b3=>
  intro st hg hU
  -- lists of terms of which each is known to have an answer
  have D:∀ (xs ys:List T),okJ N (.list xs ys)->(∀ a∈xs,∀ b,okJ N (.one a b)->∃ r g,Uni st (.one a b) r g)->∃ r g,Uni st (.list xs ys) r g:=by
   intro xs;induction xs with
   | nil=>
    intro ys o _;have:ys=[]:=jK o.2.2.symm;subst this;exact ⟨true,st,.nil⟩
   | cons a xs ih=>
    intro ys o hP;cases ys with
    | nil=>have:=o.2.2; simp at this
    | cons b ys=>
     have V:okJ N (.one a b):=⟨o.1 _ (bL ..),o.2.1 _ (bL ..)⟩
     have a3:okJ N (.list xs ys):=⟨fun a C=>o.1 a (bV _ C),fun b G=>o.2.1 b (bV _ G),by have:=o.2.2; simpa using this⟩
     obtain ⟨r,Z,i⟩:=hP a (bL ..) b V;cases r with
     | false=>exact ⟨false,Z,.stop i⟩
     | true=>
      obtain ⟨a7,a2⟩:=i.good hg V;rcases a2 with rfl|a2
      ·obtain ⟨r,a0,p⟩:=ih ys a3 fun a C=>hP a (bV _ C);exact ⟨r,a0,.go i p⟩
      ·obtain ⟨r,a0,p⟩:=b3 (unb Z) (by omega) Z a7 (be _) _ a3;exact ⟨r,a0,.go i p⟩
  obtain ⟨rk,a8⟩:=hg.rk;have a4:∀ (m:Nat) (a:T),(∀ x∈vT a,∀ u,st[x]?=some (some u)->rk x<m)->∀ b,okJ N (.one a b)->∃ r g,Uni st (.one a b) r g:=by
   intro m;induction m using Nat.strongRecOn with
   | _ m b4=>
    refine T.ind fun k n s ks ih hr b o=>?_;obtain ⟨b',G⟩:=LG hg b;have a9:=eh hg G o.2;cases J:look st (.mk k n s ks) with
    | some u=>
     obtain ⟨hk,hs⟩:=dB.1 J;have b0:=hr _ (by rw [i9 hk]; exact cO.2 rfl) u hs;have b1:okJ N (.one u b):=⟨hg.look_ok J,o.2⟩
     obtain ⟨r,g,hu⟩:=b4 _ b0 u (fun x hx _ _=>a8 _ _ hs x hx) b b1;refine ⟨r,g,?_⟩;cases hu with
     | same i p q t B=>exact .same (.step J i) p q t B
     | bindA i p q t B=>exact .bindA (.step J i) p q t B
     | occA i p q t B=>exact .occA (.step J i) p q t B
     | bindB i p q t B=>exact .bindB (.step J i) p q t B
     | occB i p q t B=>exact .occB (.step J i) p q t B
     | clash i p q t B=>exact .clash (.step J i) p q t B
     | kids i p q t B h6=>exact .kids (.step J i) p q t B h6
    | none=>
     have C:dI st (.mk k n s ks) (.mk k n s ks):=.stop J;by_cases hk:(T.mk k n s ks).kind=1
     ·by_cases h:b'.kind=1/\(T.mk k n s ks).n=b'.n
      ·exact ⟨_,_,.same C G hk h.1 h.2⟩
      ·by_cases ho:gO st (T.mk k n s ks).n.toNat b'
       ·exact ⟨_,_,.occA C G hk h ho⟩
       ·exact ⟨_,_,.bindA C G hk h ho⟩
     ·by_cases O:b'.kind=1
      ·by_cases ho:gO st b'.n.toNat (T.mk k n s ks)
       ·exact ⟨_,_,.occB C G hk O ho⟩
       ·exact ⟨_,_,.bindB C G hk O ho⟩
      ·cases hd:sF (T.mk k n s ks) b' with
       | false=>exact ⟨_,_,.clash C G hk O hd⟩
       | true=>
        obtain ⟨r,g,hu⟩:=D ks b'.kids ⟨j0 o.1,j0 a9,pj hd⟩ fun a a1 b2 a5=>
         ih a a1 (fun x hx u hs=>hr x (by rw [uE hk]; exact nW.2 ⟨a,a1,hx⟩) u hs) b2 a5
        exact ⟨r,g,.kids C G hk O hd hu⟩
  have Y:∀ a b,okJ N (.one a b)->∃ r g,Uni st (.one a b) r g:=by
   intro a b o;have hM:∀ l:List Nat,∃ M,∀ m∈l,rk m<M:=by
    intro l;induction l with
    | nil=>exact ⟨0,by simp⟩
    | cons x l ih=>
     obtain ⟨M,hM⟩:=ih;refine ⟨M+rk x+1,fun m hm=>?_⟩;rcases ek.1 hm with rfl|hm
     ·omega
     ·have:=hM m hm; omega
   obtain ⟨M,hM⟩:=hM (vT a);exact a4 M a (fun x hx _ _=>hM x hx) b o
  intro j o;cases j with
  | one a b=>exact Y a b o
  | list xs ys=>exact D xs ys o fun a _ b a6=>Y a b a6
inductive MC where
 | one (t u:T)
 | list (ts us:List T)
inductive Res (st:aX):MC->Prop
 | one {t v:T} {us:List T}:dI st t v->Res st (.list v.kids us)->Res st (.one t (.mk v.kind v.n v.name us))
 | nil:Res st (.list [] [])
 | cons {t u:T} {ts us:List T}:Res st (.one t u)->Res st (.list ts us)->Res st (.list (t::ts) (u::us))
theorem OY {N:Nat} {st:aX} (h:Good N st) (t:T) (B:okU N t):∃ u,Res st (.one t u):=by
 obtain ⟨rk,O⟩:=h.rk;have j:∀ ts:List T,(∀ t∈ts,∃ u,Res st (.one t u))->∃ D,Res st (.list ts D):=by
  intro ts;induction ts with
  | nil=>exact fun _=>⟨[],.nil⟩
  | cons t ts o=>
   intro Z;obtain ⟨u,U⟩:=Z t (bL ..);obtain ⟨D,i⟩:=o fun x g=>Z x (bV _ g);exact ⟨u::D,.cons U i⟩
 have q:∀ (m:Nat) (a:T),(∀ x∈vT a,∀ u,st[x]?=some (some u)->rk x<m)->(okU N a)->∃ u,Res st (.one a u):=by
  intro m;induction m using Nat.strongRecOn with
  | _ m Y=>
   refine T.ind fun k n s ks o hr B=>?_;cases r:look st (.mk k n s ks) with
   | some u=>
    obtain ⟨hk,C⟩:=dB.1 r;have V:=hr _ (by rw [i9 hk]; exact cO.2 rfl) u C;obtain ⟨u',U⟩:=Y _ V u (fun x g _ _=>O _ _ C x g) (h.look_ok r).1;refine ⟨u',?_⟩;cases U with
    | one h1 h2=>exact .one (.step r h1) h2
   | none=>
    by_cases hk:(T.mk k n s ks).kind=1
    ·have:=(B.var hk).2.2.2;have e:ks=[]:=this;subst e;exact ⟨_,.one (.stop r) .nil⟩
    ·obtain ⟨D,i⟩:=j ks fun a G=>o a G (fun x g u C=>hr x (by rw [uE hk]; exact nW.2 ⟨a,G,g⟩) u C) (iv B.kids a G);exact ⟨_,.one (.stop r) i⟩
 have p:∀ l:List Nat,∃ M,∀ m∈l,rk m<M:=by
  intro l;induction l with
  | nil=>exact ⟨0,by simp⟩
  | cons x l o=>
   obtain ⟨M,p⟩:=o;refine ⟨M+rk x+1,fun m J=>?_⟩;rcases ek.1 J with rfl|J
   ·omega
   ·have:=p m J; omega
 obtain ⟨M,p⟩:=p (vT t);exact q M t (fun x g _ _=>p x g) B
end
section
open Go Go.RowKit
def KnU (S:ag) (c:Array Value) (st:aX):Prop:=st.length * 4<=c.size/\∀ i (h:i<st.length),(st[i]=none->bB c (i * 4) 4=Lp)/\(∀ t,st[i]=some t->RdT S (bB c (i * 4) 4) t)
theorem KnU.set {S:ag} {c:Array Value} {st:aX} (h:KnU S c st) {n:Nat} (hn:n<st.length) {cs:List Value} {u:T} (g:RdT S cs u):KnU S (bY c (n * 4) cs) (st.set n (some u)):=by
 have a:=g.length;have m:=h.1;have p:st.length * 4<=(bY c (n * 4) cs).size:=by rw [gW _ _ _ (by omega)]; exact m
 refine ⟨by rw [jR]; exact p,fun i j=>?_⟩;rw [jR] at j;by_cases e:n=i
 ·subst e;rw [Hi];refine ⟨fun h=>(by cases h),fun t l=>?_⟩;simp only [bh] at l;subst l;have:=ft (c:=c) (o:=n * 4) (vs:=cs) (by omega);rw [a] at this;rw [this];exact g
 ·rw [LP e,gj (by omega) (by omega)];exact h.2 i j
theorem KnU.mono {S S':ag} {c:Array Value} {st:aX} (h:KnU S c st) (g:Sle S S'):KnU S' c st:=⟨h.1,fun i a=>⟨(h.2 i a).1,fun t j=>((h.2 i a).2 t j).mono g⟩⟩
def GW (b:Nat) (r:Nat->Nat) (st:aX) (w:World):Nat:=
 match w.heap[b]? with
 | some (Obj.cells c _ _)=>(match c[0]?,c[1]? with
  | some (Value.int _ k),some (Value.int _ n)=>if (look st (.mk k n emptyB [])).isSome=true then r n.toNat+1 else 0
  | _,_=>0)
 | _=>0
theorem G4 {w0 w:World} {X:List Nat} {L:List Item} {S S0:ag} {cs:List Value} {t:T} {E:TypeId} {b i:Nat} (a:Inv w0 X L S w) (g:L[i]?=some (.blk b (.cells cs.toArray E))) (h:RdT S0 cs t) (r:Nat->Nat) (st:aX) :
  GW b r st w=if (look st t).isSome=true then r t.n.toNat+1 else 0:=by
 obtain ⟨kv,rfl,_⟩:=RdT.iff.1 h;have j:w.heap[b]?=_:=a.its _ (fj g);unfold GW;rw [j];obtain ⟨k,n,s,ks⟩:=t;rfl
section
attribute [local irreducible] Run CondV aC aU
end
theorem Nm (l:List Int) (n x:Int):x∈j4 l n↔x∈l ∨ x=n:=by
 unfold j4;split
 ·rename_i h
  rw [oY] at h;constructor
  ·exact .inl
  ·rintro (a|rfl)
   ·exact a
   ·exact h
 ·simp
mutual
theorem KU {N:Nat}:∀ (t:T) (l:List Int),okU N t->∀ x,x∈nR t l↔x∈l ∨ ∃ m∈vT t,x=(m:Int)
 | .mk k n s ks,l,h,x=>by
  rw [okU] at h;rw [nR,vT];by_cases hk:k=1
  ·rw [af hk,af hk,Nm];have:=(h.2.1 hk).1;constructor
   ·rintro (a|a)
    ·exact .inl a
    ·exact .inr ⟨n.toNat,cO.2 rfl,by omega⟩
   ·rintro (a|⟨m,hm,e⟩)
    ·exact .inl a
    ·rw [cO] at hm;exact .inr (by omega)
  ·rw [ae hk,ae hk];exact sB ks l h.2.2.1 x
theorem sB {N:Nat}:∀ (ts:List T) (l:List Int),cz N ts->∀ x,x∈ja ts l↔x∈l ∨ ∃ m∈vTL ts,x=(m:Int)
 | [],l,_,x=>by simp [ja,vTL]
 | t::ts,l,h,x=>by
  rw [cz] at h;rw [ja,vTL,sB ts _ h.2,KU t l h.1];simp only [cI];constructor
  ·rintro ((h|⟨m,h,e⟩)|⟨m,h,e⟩)
   ·exact .inl h
   ·exact .inr ⟨m,.inl h,e⟩
   ·exact .inr ⟨m,.inr h,e⟩
  ·rintro (h|⟨m,h|h,e⟩)
   ·exact .inl (.inl h)
   ·exact .inl (.inr ⟨m,h,e⟩)
   ·exact .inr ⟨m,h,e⟩
end
theorem PO:∀ (N:Nat) (l:List Int),l.Nodup->(∀ x∈l,0<=x/\x<N)->l.length<=N:=by
 intro N l g h;have a:∀ x∈l,x∈(List.range N).map (fun i:Nat=>(i:Int)):=fun x j=>by
  obtain ⟨m,o⟩:=h x j;exact ng.2 ⟨x.toNat,List.mem_range.2 (by omega),by omega⟩
 have:=List.Nodup.length_le_of_subset g a;simpa using this
section
attribute [local irreducible] Run CondV aC aU
end
end
section
open Go Go.RowKit

def KnownM (S:ag) (es:Array MapEntry) (st:aX):Prop:=
 (∀ e∈es.toList,∃ (n:Nat) (t:T) (cs:List Value),e.key=.int .i64 n/\e.val=.agg cs.toArray/\RdT S cs t/\st[n]?=some (some t))/\(∀ (n:Nat) (t:T),st[n]?=some (some t)->∃ e∈es.toList,e.key=.int .i64 n)/\(es.toList.map (·.key)).Nodup
theorem KnownM.find {S:ag} {i:Array MapEntry} {st:aX} (h:KnownM S i st) (n:Nat) :
  (∃ j v t cs,Instr.findNow (.int .i64) (.int .i64 n) i.toList 0=some (some (j,v))/\v=.agg cs.toArray/\RdT S cs t/\st[n]?=some (some t)) ∨
  ((∀ t,st[n]?≠some (some t))/\Instr.findNow (.int .i64) (.int .i64 n) i.toList 0=some none):=by
 rcases lM (n:=n) i.toList 0 (fun e g=>by obtain ⟨m,_,_,hk,_⟩:=h.1 e g; exact ⟨m,hk⟩) with ⟨j,e,g,hk,hf⟩|⟨hk,hf⟩
 ·obtain ⟨m,t,cs,a,o,hR,p⟩:=h.1 e g;rw [hk] at a;simp only [Value.int.injEq,sa] at a;have:n=m:=by omega
  subst this;exact .inl ⟨j,e.val,t,cs,hf,o,hR,p⟩
 ·refine .inr ⟨fun t l=>?_,hf⟩;obtain ⟨e,g,a⟩:=h.2.1 n t l;exact hk e g a
theorem KnownM.push {S:ag} {p:Array MapEntry} {st:aX} (h:KnownM S p st) {n:Nat} (hn:n<st.length) (i:∀ t,st[n]?≠some (some t)) {cs:List Value} {u:T} (B:RdT S cs u) (C:Nat) :
  KnownM S (p.push { key:=.int .i64 n,val:=.agg cs.toArray,born:=C }) (st.set n (some u)):=by
 refine ⟨fun e g=>?_,fun m t q=>?_,?_⟩
 ·rw [FK] at g;rcases cI.1 g with g|g
  ·obtain ⟨m,t,j,hk,G,hR,l⟩:=h.1 e g;refine ⟨m,t,j,hk,G,hR,?_⟩;have:n≠m:=fun e=>i t (by rw [e]; exact l);rw [GI this];exact l
  ·simp at g;subst g;exact ⟨n,u,cs,rfl,rfl,B,by rw [Ie hn]⟩
 ·rw [FK];by_cases e:n=m
  ·exact ⟨_,iW _ (cO.2 rfl),by rw [e]⟩
  ·rw [GI e] at q;obtain ⟨x,o,hk⟩:=h.2.1 m t q;exact ⟨x,ic _ o,hk⟩
 ·rw [FK,th,A8];refine ⟨h.2.2,by simp,fun a D b r e=>?_⟩;simp only [Ef,L7,cO] at r;subst r;obtain ⟨x,o,rfl⟩:=ng.1 D;obtain ⟨m,t,j,hk,_,_,l⟩:=h.1 x o;rw [hk] at e;simp only [Value.int.injEq,sa] at e;have:m=n:=by omega
  subst this;exact i t l
section
attribute [local irreducible] Run CondV aC aU
end
end
section
open Go Go.RowKit

def st0:aX:=List.replicate 26 none
theorem KnownM.empty (S:ag):KnownM S #[] st0:=by
 refine ⟨by simp,fun n t a=>?_,by simp⟩;rw [st0,Hv] at a;split at a <;> cases a
theorem My:∀ {ts:List T},(∀ t∈ts,okV t)->zu ts
 | [],_=>by simp [zu]
 | t::ts,h=>by rw [zu]; exact ⟨h t (bL ..),My fun u a=>h u (bV _ a)⟩
theorem LU:∀ {ts:List T},(∀ t∈ts,okK t)->ER ts
 | [],_=>by simp [ER]
 | t::ts,h=>by rw [ER]; exact ⟨h t (bL ..),LU fun u a=>h u (bV _ a)⟩
theorem Nn {c:C} (h:a9 c=true):(okV c.head/\okK c.head)/\zu c.body/\ER c.body:=by
 rw [a9] at h;simp only [bJ,fS] at h;obtain ⟨_,i,j,_⟩:=h;have g:∀ t∈c.body,okV t/\okK t:=fun t a=>by
  have:=i t a;rw [eI,bJ] at this;exact Hp this.1
 exact ⟨Hp j,My fun t a=>(g t a).1,LU fun t a=>(g t a).2⟩
section
variable {P:Program} {w w0:World} {X:List Nat} {L:List Item} {S:ag} {K:Value->World->Prop}
attribute [local irreducible] Run CondV aC aU
end
section
attribute [local irreducible] Run CondV aC aU
end
end
section
open Go Go.RowKit
mutual
def mvT (f:Int->Int):T->T
 | .mk k n s ks=>.mk k (if k=1 then f n else n) s (mvL f ks)
def mvL (f:Int->Int):List T->List T
 | []=>[]
 | t::ts=>mvT f t::mvL f ts
end
theorem jp (f:Int->Int):∀ ts:List T,(mvL f ts).length=ts.length
 | []=>rfl
 | t::ts=>by rw [mvL,aO,aO,jp f ts]
theorem Ge (f:Int->Int):∀ ts:List T,mvL f ts=ts.map (mvT f)
 | []=>rfl
 | t::ts=>by rw [mvL,Ef,Ge f ts]
mutual
theorem Ih (vs:List Int):∀ t:T,el vs t=mvT (fun n=>tp vs n n 0) t
 | .mk k n s ks=>by rw [el,mvT,BC vs ks]
theorem BC (vs:List Int):∀ ts:List T,gp vs ts=mvL (fun n=>tp vs n n 0) ts
 | []=>rfl
 | t::ts=>by rw [gp,mvL,Ih vs t,BC vs ts]
end
mutual
theorem Mf {f g:Int->Int} {ws:List Int} (h:∀ n∈ws,f n=g n):∀ t:T,inT ws t->mvT f t=mvT g t
 | .mk k n s ks,hi=>by
  rw [inT] at hi;rw [mvT,mvT,zJ h ks hi.2];split
  ·rename_i hk; rw [h n (hi.1 hk)]
  ·rfl
theorem zJ {f g:Int->Int} {ws:List Int} (h:∀ n∈ws,f n=g n):∀ ts:List T,inL ws ts->mvL f ts=mvL g ts
 | [],_=>rfl
 | t::ts,hi=>by
  rw [inL] at hi;rw [mvL,mvL,Mf h t hi.1,zJ h ts hi.2]
end
mutual
theorem N3 (f g:Int->Int):∀ t:T,mvT f (mvT g t)=mvT (fun n=>f (g n)) t
 | .mk k n s ks=>by
  rw [mvT,mvT,mvT,Ad f g ks];split <;> rfl
theorem Ad (f g:Int->Int):∀ ts:List T,mvL f (mvL g ts)=mvL (fun n=>f (g n)) ts
 | []=>rfl
 | t::ts=>by rw [mvL,mvL,mvL,N3 f g t,Ad f g ts]
end
theorem Pv {f:Int->Int} {l:List Int} {n:Int} (h:∀ m∈l,f m=f n->m=n):j4 (l.map f) (f n)=(j4 l n).map f:=by
 have e:KY (l.map f) (f n)=KY l n:=by
  rw [rZ,oY,oY,ng];constructor
  ·rintro ⟨m,a,e⟩;rw [<- h m a e]; exact a
  ·intro hn;exact ⟨n,hn,rfl⟩
 unfold j4;rw [e];split
 ·rfl
 ·simp
mutual
theorem PL {f:Int->Int} {ws:List Int} (hf:∀ a∈ws,∀ b∈ws,f a=f b->a=b):∀ (t:T) (l:List Int),(∀ m∈l,m∈ws)->inT ws t->fV (mvT f t) (l.map f)=(fV t l).map f/\∀ m∈fV t l,m∈ws
 | .mk k n s ks,l,hl,hi=>by
  rw [inT] at hi;rw [mvT,fV,fV];by_cases hk:k=1
  ·rw [af hk,af hk,af hk,Pv fun m g e=>hf m (hl m g) n (hi.1 hk) e];refine uM hf ks _ (fun m g=>?_) hi.2;unfold j4 at g;split at g
   ·exact hl m g
   ·rcases cI.1 g with g|g
    ·exact hl m g
    ·rw [cO.1 g]; exact hi.1 hk
  ·rw [ae hk,ae hk];exact uM hf ks l hl hi.2
theorem uM {f:Int->Int} {ws:List Int} (hf:∀ a∈ws,∀ b∈ws,f a=f b->a=b):∀ (ts:List T) (l:List Int),(∀ m∈l,m∈ws)->inL ws ts->dk (mvL f ts) (l.map f)=(dk ts l).map f/\∀ m∈dk ts l,m∈ws
 | [],l,hl,_=>⟨rfl,hl⟩
 | t::ts,l,hl,hi=>by
  rw [inL] at hi;obtain ⟨e,g⟩:=PL hf t l hl hi.1;rw [mvL,dk,dk,e];exact uM hf ts _ g hi.2
end
theorem Ic:∀ (xs:List Int) (n:Int) (k:Nat),n∈xs->∃ i,xs[i]?=some n/\(cw (σ:=Unit) (fun _ x=>(decide (n=x),())) () xs k).1=((k+i:Nat):Int)
 | x::xs,n,k,h=>by
  rw [cw];by_cases e:n=x
  ·subst e;exact ⟨0,rfl,by simp⟩
  ·have j:n∈xs:=by
    rcases ek.1 h with h|h
    ·exact absurd h e
    ·exact h
   obtain ⟨i,a,g⟩:=Ic xs n (k+1) j;refine ⟨i+1,a,?_⟩;rw [bf e];simp only [pQ,if_false];rw [g];omega
theorem wD {xs:List Int} {n:Int} (h:n∈xs):∃ i:Nat,xs[i]?=some n/\mw xs n=(i:Int)/\i<xs.length:=by
 obtain ⟨i,a,g⟩:=Ic xs n 0 h;exact ⟨i,a,by rw [mw,g,df],(iu.1 a).1⟩
theorem Ps {xs:List Int}:∀ a∈xs,∀ b∈xs,mw xs a=mw xs b->a=b:=by
 intro a h b l e;obtain ⟨i,m,o,_⟩:=wD h;obtain ⟨j,g,p,_⟩:=wD l;have:i=j:=by omega
 subst this;rw [m] at g;exact Option.some.inj g
theorem LK {f:Int->Int} {n:Int}:∀ (xs:List Int) (k:Nat),(∀ m∈xs,f m=f n->m=n)->(cw (σ:=Unit) (fun _ x=>(decide (f n=x),())) () (xs.map f) k).1=(cw (σ:=Unit) (fun _ x=>(decide (n=x),())) () xs k).1
 | [],_,_=>rfl
 | x::xs,k,h=>by
  rw [Ef,cw,cw];have:decide (f n=f x)=decide (n=x):=by
   rw [iq];exact ⟨fun e=>(h x (bL ..) e.symm).symm,fun e=>by rw [e]⟩
  rw [this];have g:=LK xs (k+1) fun m a=>h m (bV _ a);split
  ·rfl
  ·exact g
theorem NO {f:Int->Int} {xs:List Int} {n:Int} (h:∀ m∈xs,f m=f n->m=n):mw (xs.map f) (f n)=mw xs n:=LK xs 0 h
mutual
theorem Dt {f:Int->Int} {ws:List Int} (h:∀ n∈ws,0<=f n/\f n<=25):∀ (t:T) (d:Int),inT ws t->dx t d=true->dx (mvT f t) d=true
 | .mk k n s ks,d,hi,hs=>by
  rw [inT] at hi;rw [dx] at hs;rw [mvT,dx];split at hs
  ·cases hs
  rename_i i
  rw [ae i];rw [bJ] at hs ⊢;refine ⟨?_,Ed h ks _ hi.2 hs.2⟩;have a:=hs.1;by_cases hk:k=1
  ·subst hk;have g:=h n (hi.1 rfl);rw [af rfl];have a:(decide (0<=n) && (decide (n<=25) && (decide (s=emptyB) && decide (ks.length=0))))=true:=a;show (decide (0<=f n) && (decide (f n<=25) && (decide (s=emptyB) && decide ((mvL f ks).length=0))))=true;rw [jp,aP g.1,aP g.2];simp only [bJ] at a ⊢;exact ⟨trivial,trivial,a.2.2⟩
  ·rw [ae hk];unfold eV at a ⊢;simp only [T.kind,T.n,T.name,T.kids,jp] at a ⊢;exact a
theorem Ed {f:Int->Int} {ws:List Int} (h:∀ n∈ws,0<=f n/\f n<=25):∀ (ts:List T) (d:Int),inL ws ts->dj ts d=true->dj (mvL f ts) d=true
 | [],_,_,_=>rfl
 | t::ts,d,hi,hs=>by
  rw [inL] at hi;rw [dj,bJ] at hs;rw [mvL,dj,Dt h t d hi.1 hs.1,Ed h ts d hi.2 hs.2];rfl
end
mutual
theorem zC (f:Int->Int):∀ t:T,bM (mvT f t)=bM t
 | .mk k n s ks=>by rw [mvT,bM,bM,L3 f ks]
theorem L3 (f:Int->Int):∀ ts:List T,bi (mvL f ts)=bi ts
 | []=>rfl
 | t::ts=>by rw [mvL,bi,bi,zC f t,L3 f ts]
end
theorem Iw {f:Int->Int} {ws:List Int} (h:∀ n∈ws,0<=f n/\f n<=25) {t:T} (g:inT ws t) (a:cA t=true):cA (mvT f t)=true:=by
 rw [cA,bJ] at a ⊢;rw [zC];exact ⟨Dt h t 30 g a.1,a.2⟩
theorem II (f:Int->Int) (t:T):(mvT f t).kind=t.kind/\(mvT f t).name=t.name/\(mvT f t).kids.length=t.kids.length:=by
 obtain ⟨k,n,s,ks⟩:=t;rw [mvT];exact ⟨rfl,rfl,jp f ks⟩
theorem Qp {f:Int->Int} {ws:List Int} (h:∀ n∈ws,0<=f n/\f n<=25) {t:T} (g:inT ws t) (a:eI t=true):eI (mvT f t)=true:=by
 obtain ⟨i,j,l⟩:=II f t;rw [eI,bJ] at a ⊢;refine ⟨Iw h g a.1,?_⟩;have:=a.2;unfold oP gw eX at this ⊢;rw [i,j,l];exact this
theorem Ma {ws:List Int}:∀ {ts:List T},inL ws ts->∀ t∈ts,inT ws t
 | t::ts,h,x,a=>by
  rw [inL] at h;rcases ek.1 a with rfl|a
  ·exact h.1
  ·exact Ma h.2 x a
theorem Fq {c:C} (h:a9 c=true):sr (bP c) c=⟨mvT (mw (bP c)) c.head,mvL (mw (bP c)) c.body⟩/\inT (bP c) c.head/\inL (bP c) c.body/\(bP c).Nodup:=by
 obtain ⟨g,_,_⟩:=FR h;have a:=oT (c.head::c.body) [];rw [g,inL] at a;have i:(bP c).Nodup:=by rw [<- g]; exact lT _ _ List.nodup_nil
 refine ⟨?_,a.1,a.2,i⟩;have j:∀ n∈bP c,tp (bP c) n n 0=mw (bP c) n:=fun n hn=>wN _ n n 0 hn i;rw [sr,Ih,BC,Mf j _ a.1,zJ j _ a.2]
mutual
theorem Nu:∀ (t:T) (l:List Int),okV t->(∀ m∈l,0<=m/\m<26)->∀ m∈fV t l,0<=m/\m<26
 | .mk k n s ks,l,ho,hl=>by
  rw [okV] at ho;rw [fV];refine vR ks _ ho.2 fun m a=>?_;split at a
  ·rename_i hk
   unfold j4 at a;split at a
   ·exact hl m a
   ·rcases cI.1 a with a|a
    ·exact hl m a
    ·have:=ho.1 hk;rw [cO.1 a];omega
  ·exact hl m a
theorem vR:∀ (ts:List T) (l:List Int),zu ts->(∀ m∈l,0<=m/\m<26)->∀ m∈dk ts l,0<=m/\m<26
 | [],l,_,hl=>hl
 | t::ts,l,ho,hl=>by
  rw [zu] at ho;rw [dk];exact vR ts _ ho.2 (Nu t l ho.1 hl)
end
theorem DB {c:C} (h:a9 c=true):∀ x∈bP c,0<=x/\x<26:=by
 rw [<- (FR h).1];have a:=Nn h;exact vR _ [] (by rw [zu]; exact ⟨a.1.1,a.2.1⟩) (by simp)
theorem IO {c:C} (h:a9 c=true):∀ n∈bP c,0<=mw (bP c) n/\mw (bP c) n<=25:=by
 obtain ⟨_,_,_,j⟩:=Fq h;have a:(bP c).length<=26:=by
  refine PO 26 _ j fun x g=>?_;exact DB h x g
 intro n hn;obtain ⟨i,_,e,l⟩:=wD hn;omega
theorem MA {c:C} (h:a9 c=true):a9 (sr (bP c) c)=true:=by
 obtain ⟨e,o,p,_⟩:=Fq h;have m:=IO h;rw [e];rw [a9] at h ⊢;simp only [bJ,fS] at h ⊢;obtain ⟨q,r,hc,j⟩:=h;refine ⟨by simpa [jp] using q,fun g i=>?_,Iw m o hc,?_⟩
 ·simp only [Ge,ng] at i;obtain ⟨l,a,rfl⟩:=i;exact Qp m (Ma p l a) (r l a)
 ·obtain ⟨t,u,B⟩:=II (mw (bP c)) c.head;unfold gw at j ⊢;simp only [t,u,B];exact j
end
section
open Go Go.RowKit
structure Ist where
 op:Int
 a:Int
 b:Int
 name:ByteArray
deriving DecidableEq
def Ist.cells (x:Ist):List Value:=[.int .i64 x.op,.int .i64 x.a,.int .i64 x.b,.string x.name]
structure CS where
 sl:List Int
 next:Int
 code:List Ist
namespace CS
def emit (s:CS) (x:Ist):CS:=⟨s.sl,s.next,s.code++[x]⟩
def at_ (s:CS) (n:Int):Int:=s.sl[n.toNat]?.getD (-1)
def put (s:CS) (n v:Int):CS:=⟨s.sl.set n.toNat v,s.next,s.code⟩
def inc (s:CS):CS:=⟨s.sl,s.next+1,s.code⟩
end CS
def eq (s:CS) (t:T):CS:=
 if t.kind=2 then s.emit ⟨6,t.n,0,emptyB⟩
 else if 0<=s.at_ t.n then s.emit ⟨5,s.at_ t.n,0,emptyB⟩
 else ((s.put t.n s.next).emit ⟨4,s.next,0,emptyB⟩).inc
def ch (s:CS) (t:T):CS × List (T × Int):=
 if t.kind=3 then ((s.emit ⟨4,s.next,0,emptyB⟩).inc,[(t,s.next)]) else (eq s t,[])
def bo:CS->List T->CS × List (T × Int)
 | s,[]=>(s,[])
 | s,t::ts=>((bo (ch s t).1 ts).1,(ch s t).2++(bo (ch s t).1 ts).2)
def bx (s:CS) (i:Int) (t:T):CS × List (T × Int):=
 if t.kind=2 then (s.emit ⟨2,t.n,i,emptyB⟩,[])
 else if t.kind=1 then (if 0<=s.at_ t.n then s.emit ⟨1,s.at_ t.n,i,emptyB⟩ else s.put t.n i,[])
 else (s,[(t,i)])
def bj:CS->Int->List T->CS × List (T × Int)
 | s,_,[]=>(s,[])
 | s,i,t::ts=>((bj (bx s i t).1 (i+1) ts).1,(bx s i t).2++(bj (bx s i t).1 (i+1) ts).2)
def eD:Nat->CS->List (T × Int)->CS
 | 0,s,_=>s
 | _+1,s,[]=>s
 | f+1,s,x::q=>eD f (bo (s.emit ⟨3,x.1.kids.length,x.2,x.1.name⟩) x.1.kids).1 (q++(bo (s.emit ⟨3,x.1.kids.length,x.2,x.1.name⟩) x.1.kids).2)
def cJ:CS->List T->List Int->CS
 | s,t::ts,v::vs=>cJ (if t.kind=3 then s.emit ⟨5,v,0,emptyB⟩ else eq s t) ts vs
 | s,_,_=>s
mutual
def aW:T->CS->CS × Int
 | .mk _ _ nm ks,s=>(cJ (((bg ks s).1.emit ⟨7,ks.length,(bg ks s).1.next,nm⟩).inc) ks (bg ks s).2,(bg ks s).1.next)
def bg:List T->CS->CS × List Int
 | [],s=>(s,[])
 | t::ts,s=>((bg ts (if t.kind=3 then aW t s else (s,-1)).1).1,(if t.kind=3 then aW t s else (s,-1)).2::(bg ts (if t.kind=3 then aW t s else (s,-1)).1).2)
end
def eY (s:CS) (i:Int) (t:T):CS:=
 if t.kind=2 then s.emit ⟨10,t.n,i,emptyB⟩
 else if t.kind=1 then (if 0<=s.at_ t.n then s.emit ⟨9,s.at_ t.n,i,emptyB⟩ else (s.put t.n s.next).inc.emit ⟨8,s.next,i,emptyB⟩)
 else (aW t s).1.emit ⟨9,(aW t s).2,i,emptyB⟩
def dM:CS->Int->List T->CS
 | s,_,[]=>s
 | s,i,t::ts=>dM (eY s i t) (i+1) ts
def eJ (s:CS) (g:T):CS:=
 if oP g=true then s.emit ⟨13,0,0,emptyB⟩ else (dM s 0 g.kids).emit ⟨if eX g=true then 12 else 11,g.kids.length,0,g.name⟩
def dr:CS->List T->CS
 | s,[]=>s
 | s,g::gs=>dr (eJ s g) gs
def startC:CS:=⟨List.replicate 26 (-1),4,[]⟩
def ce:List (T × Int)->Nat
 | []=>0
 | x::q=>(bM x.1).toNat+ce q
def fp (s:CS) (ks:List T):CS:=eD (ce (bj s 0 ks).2) (bj s 0 ks).1 (bj s 0 ks).2
def dK (c:C):List Ist:=((dr (fp startC c.head.kids) c.body).emit ⟨14,0,0,emptyB⟩).code

section
variable {f:Int->Int} {ws:List Int}
structure RelC (f:Int->Int) (ws:List Int) (s s':CS):Prop where
 next:s'.next=s.next
 code:s'.code=s.code
 len:s.sl.length=26
 len':s'.sl.length=26
 slots:∀ n∈ws,s'.at_ (f n)=s.at_ n
structure sR (f:Int->Int) (ws:List Int):Prop where
 inj:∀ a∈ws,∀ b∈ws,f a=f b->a=b
 rng:∀ a∈ws,0<=a/\a<26
 rng':∀ a∈ws,0<=f a/\f a<26
theorem RelC.emit {s a:CS} (h:RelC f ws s a) (x:Ist):RelC f ws (s.emit x) (a.emit x):=
 ⟨h.next,by show a.code++[x]=s.code++[x]; rw [h.code],h.len,h.len',h.slots⟩
theorem RelC.inc {s a:CS} (h:RelC f ws s a):RelC f ws s.inc a.inc:=
 ⟨by show a.next+1=s.next+1; rw [h.next],h.code,h.len,h.len',h.slots⟩
theorem RelC.put (hf:sR f ws) {s g:CS} (h:RelC f ws s g) {n:Int} (hn:n∈ws) (v:Int):RelC f ws (s.put n v) (g.put (f n) v):=by
 refine ⟨h.next,h.code,(jR ..).trans h.len,(jR ..).trans h.len',fun m a=>?_⟩;show (g.sl.set (f n).toNat v)[(f m).toNat]?.getD (-1)=(s.sl.set n.toNat v)[m.toNat]?.getD (-1);have j:=hf.rng n hn;have l:=hf.rng m a;have o:=hf.rng' n hn;have p:=hf.rng' m a;rw [xK,xK];by_cases e:n=m
 ·subst e;rw [af rfl,af rfl,af (by rw [h.len']; omega),af (by rw [h.len]; omega)]
 ·have q:¬ f n=f m:=fun i=>e (hf.inj n hn m a i);rw [ae (by omega),ae (by omega)];exact h.slots m a
theorem lJ (f:Int->Int) (t:T):(mvT f t).kind=t.kind:=by cases t; rfl
theorem zF (f:Int->Int) (t:T):(mvT f t).name=t.name:=by cases t; rfl
theorem vy (f:Int->Int) (t:T):(mvT f t).kids=mvL f t.kids:=by cases t; rfl
theorem O3 (f:Int->Int) {t:T} (h:t.kind=1):(mvT f t).n=f t.n:=by
 cases t; rename_i k n s ks;have:k=1:=h;subst this;rfl
theorem OB (f:Int->Int) {t:T} (h:¬ t.kind=1):(mvT f t).n=t.n:=by
 cases t; rename_i k n s ks;have:¬ k=1:=h;rw [mvT,ae this]; rfl
theorem MK {ws:List Int} {t:T} (h:inT ws t) (hk:t.kind=1):t.n∈ws:=by
 cases t;rw [inT] at h;exact h.1 hk
theorem F0 {ws:List Int} {t:T} (h:inT ws t):inL ws t.kids:=by
 cases t;rw [inT] at h;exact h.2
mutual
def kOk:T->Prop
 | .mk k _ _ ks=>(k=1 ∨ k=2 ∨ k=3)/\lm ks
def lm:List T->Prop
 | []=>True
 | t::ts=>kOk t/\lm ts
end
theorem kOk.kind {t:T} (h:kOk t):t.kind=1 ∨ t.kind=2 ∨ t.kind=3:=by
 cases t; rw [kOk] at h; exact h.1
theorem kOk.kids {t:T} (h:kOk t):lm t.kids:=by
 cases t; rw [kOk] at h; exact h.2
mutual
theorem DG:∀ (t:T) (d:Int),dx t d=true->kOk t
 | .mk k n s ks,d,h=>by
  rw [dx] at h;split at h
  ·cases h
  ·rw [bJ] at h;rw [kOk];refine ⟨?_,BO ks _ h.2⟩;have a:=h.1;by_cases g:k=1
   ·exact .inl g
   ·by_cases i:k=2
    ·exact .inr (.inl i)
    ·by_cases j:k=3
     ·exact .inr (.inr j)
     ·exfalso;unfold eV at a;rw [ae (show ¬ (T.mk k n s ks).kind=1 from g),ae (show ¬ (T.mk k n s ks).kind=2 from i),ae (show ¬ (T.mk k n s ks).kind=3 from j)] at a;cases a
theorem BO:∀ (ts:List T) (d:Int),dj ts d=true->lm ts
 | [],_,_=>trivial
 | t::ts,d,h=>by
  rw [dj,bJ] at h;rw [lm];exact ⟨DG t d h.1,BO ts d h.2⟩
end
theorem EE {t:T} (h:cA t=true):kOk t:=by
 rw [cA,bJ] at h;exact DG t _ h.1
theorem Ig (hf:sR f ws) {s i:CS} (h:RelC f ws s i) {t:T} (j:inT ws t) (hk:t.kind=1 ∨ t.kind=2):RelC f ws (eq s t) (eq i (mvT f t)):=by
 unfold eq;rw [lJ];by_cases a:t.kind=2
 ·rw [af a,af a,OB f (by omega)];exact h.emit _
 ·have g:t.kind=1:=by omega
  rw [ae a,ae a,O3 f g,h.slots _ (MK j g),h.next];split
  ·exact h.emit _
  ·exact ((h.put hf (MK j g) _).emit _).inc
def mvQ (f:Int->Int) (q:List (T × Int)):List (T × Int):=q.map fun x=>(mvT f x.1,x.2)
def inQ (ws:List Int) (q:List (T × Int)):Prop:=∀ x∈q,inT ws x.1/\kOk x.1
theorem OX (hf:sR f ws) {s g:CS} (h:RelC f ws s g) {t:T} (j:inT ws t) (hk:kOk t) :
  RelC f ws (ch s t).1 (ch g (mvT f t)).1/\(ch g (mvT f t)).2=mvQ f (ch s t).2/\inQ ws (ch s t).2:=by
 unfold ch;rw [lJ];by_cases a:t.kind=3
 ·rw [af a,af a,h.next];refine ⟨(h.emit _).inc,rfl,fun x i=>?_⟩;rw [cO.1 i];exact ⟨j,hk⟩
 ·rw [ae a,ae a];exact ⟨Ig hf h j (by have:=hk.kind; omega),rfl,fun x i=>by cases i⟩
theorem DP (hf:sR f ws):∀ (ts:List T) {s g:CS},RelC f ws s g->inL ws ts->lm ts->
  RelC f ws (bo s ts).1 (bo g (mvL f ts)).1/\(bo g (mvL f ts)).2=mvQ f (bo s ts).2/\inQ ws (bo s ts).2
 | [],_,_,h,_,_=>⟨h,rfl,fun x a=>by cases a⟩
 | t::ts,s,g,h,hi,hk=>by
  rw [inL] at hi;rw [lm] at hk;obtain ⟨i,j,l⟩:=OX hf h hi.1 hk.1;obtain ⟨m,o,b3⟩:=DP hf ts i hi.2 hk.2;rw [mvL,bo,bo];refine ⟨m,?_,fun x a=>?_⟩
  ·rw [j,o,mvQ,mvQ,mvQ,th]
  ·rcases cI.1 a with a|a
   ·exact l x a
   ·exact b3 x a
theorem Nr (hf:sR f ws) {s l:CS} (h:RelC f ws s l) (i:Int) {t:T} (m:inT ws t) (hk:kOk t) :
  RelC f ws (bx s i t).1 (bx l i (mvT f t)).1/\(bx l i (mvT f t)).2=mvQ f (bx s i t).2/\inQ ws (bx s i t).2:=by
 unfold bx;rw [lJ];by_cases j:t.kind=2
 ·rw [af j,af j,OB f (by omega)];exact ⟨h.emit _,rfl,fun x g=>by cases g⟩
 ·rw [ae j,ae j];by_cases a:t.kind=1
  ·rw [af a,af a,O3 f a,h.slots _ (MK m a)];refine ⟨?_,rfl,fun x g=>by cases g⟩;split
   ·exact h.emit _
   ·exact h.put hf (MK m a) _
  ·rw [ae a,ae a];refine ⟨h,rfl,fun x g=>?_⟩;rw [cO.1 g];exact ⟨m,hk⟩
theorem Ch (hf:sR f ws):∀ (ts:List T) (i:Int) {s g:CS},RelC f ws s g->inL ws ts->lm ts->
  RelC f ws (bj s i ts).1 (bj g i (mvL f ts)).1/\(bj g i (mvL f ts)).2=mvQ f (bj s i ts).2/\inQ ws (bj s i ts).2
 | [],_,_,_,h,_,_=>⟨h,rfl,fun x a=>by cases a⟩
 | t::ts,i,s,g,h,hi,hk=>by
  rw [inL] at hi;rw [lm] at hk;obtain ⟨j,l,m⟩:=Nr hf h i hi.1 hk.1;obtain ⟨o,p,b3⟩:=Ch hf ts (i+1) j hi.2 hk.2;rw [mvL,bj,bj];refine ⟨o,?_,fun x a=>?_⟩
  ·rw [l,p,mvQ,mvQ,mvQ,th]
  ·rcases cI.1 a with a|a
   ·exact m x a
   ·exact b3 x a
theorem Ji (hf:sR f ws):∀ (k:Nat) (q:List (T × Int)) {s g:CS},RelC f ws s g->inQ ws q->RelC f ws (eD k s q) (eD k g (mvQ f q))
 | 0,_,_,_,h,_=>h
 | _+1,[],_,_,h,_=>h
 | k+1,x::q,s,g,h,hq=>by
  obtain ⟨i,hk⟩:=hq x (bL ..);show RelC f ws (eD (k+1) s (x::q)) (eD (k+1) g ((mvT f x.1,x.2)::mvQ f q));rw [eD,eD];simp only [vy,jp,zF];obtain ⟨j,l,m⟩:=DP hf x.1.kids (h.emit ⟨3,x.1.kids.length,x.2,x.1.name⟩) (F0 i) hk.kids;have:=Ji hf k (q++(bo (s.emit ⟨3,x.1.kids.length,x.2,x.1.name⟩) x.1.kids).2) j (fun y a=>by
   rcases cI.1 a with a|a
   ·exact hq y (bV _ a)
   ·exact m y a)
  rw [mvQ,th] at this;rw [l];exact this
theorem Ee (hf:sR f ws):∀ (ts:List T) (vs:List Int) {s g:CS},RelC f ws s g->inL ws ts->lm ts->RelC f ws (cJ s ts vs) (cJ g (mvL f ts) vs)
 | [],_,_,_,h,_,_=>by rw [mvL,cJ,cJ]; exact h; all_goals simp
 | _::_,[],_,_,h,_,_=>by rw [mvL,cJ,cJ]; exact h; all_goals simp
 | t::ts,v::vs,s,g,h,hi,hk=>by
  rw [inL] at hi;rw [lm] at hk;rw [mvL,cJ,cJ,lJ];refine Ee hf ts vs ?_ hi.2 hk.2;by_cases a:t.kind=3
  ·rw [af a,af a]; exact h.emit _
  ·rw [ae a,ae a]; exact Ig hf h hi.1 (by have:=hk.1.kind; omega)
mutual
theorem A7 (hf:sR f ws):∀ (t:T) {s a:CS},RelC f ws s a->inT ws t->kOk t->RelC f ws (aW t s).1 (aW (mvT f t) a).1/\(aW (mvT f t) a).2=(aW t s).2
 | .mk k n nm ks,s,a,h,hi,hk=>by
  rw [inT] at hi;rw [kOk] at hk;obtain ⟨g,i⟩:=Ea hf ks h hi.2 hk.2;rw [mvT,aW,aW,jp,i,g.next];exact ⟨Ee hf ks _ (g.emit _).inc hi.2 hk.2,rfl⟩
theorem Ea (hf:sR f ws):∀ (ts:List T) {s a:CS},RelC f ws s a->inL ws ts->lm ts->RelC f ws (bg ts s).1 (bg (mvL f ts) a).1/\(bg (mvL f ts) a).2=(bg ts s).2
 | [],_,_,h,_,_=>by rw [mvL,bg,bg]; exact ⟨h,rfl⟩
 | t::ts,s,a,h,hi,hk=>by
  rw [inL] at hi;rw [lm] at hk;have i:RelC f ws (if t.kind=3 then aW t s else (s,-1)).1 (if t.kind=3 then aW (mvT f t) a else (a,-1)).1/\(if t.kind=3 then aW (mvT f t) a else (a,-1)).2=(if t.kind=3 then aW t s else (s,-1)).2:=by
   by_cases g:t.kind=3
   ·rw [af g,af g]; exact A7 hf t h hi.1 hk.1
   ·rw [ae g,ae g]; exact ⟨h,rfl⟩
  rw [mvL,bg,bg,lJ];obtain ⟨j,l⟩:=Ea hf ts i.1 hi.2 hk.2;exact ⟨j,by rw [i.2,l]⟩
end
theorem PC (hf:sR f ws) {s l:CS} (h:RelC f ws s l) (i:Int) {t:T} (j:inT ws t) (hk:kOk t):RelC f ws (eY s i t) (eY l i (mvT f t)):=by
 unfold eY;rw [lJ];by_cases g:t.kind=2
 ·rw [af g,af g,OB f (by omega)];exact h.emit _
 ·rw [ae g,ae g];by_cases a:t.kind=1
  ·rw [af a,af a,O3 f a,h.slots _ (MK j a),h.next];split
   ·exact h.emit _
   ·exact (h.put hf (MK j a) _).inc.emit _
  ·rw [ae a,ae a];obtain ⟨m,o⟩:=A7 hf t h j hk;rw [o];exact m.emit _
theorem Dv (hf:sR f ws):∀ (ts:List T) (i:Int) {s a:CS},RelC f ws s a->inL ws ts->lm ts->RelC f ws (dM s i ts) (dM a i (mvL f ts))
 | [],_,_,_,h,_,_=>by rw [mvL,dM,dM]; exact h
 | t::ts,i,s,a,h,hi,hk=>by
  rw [inL] at hi;rw [lm] at hk;rw [mvL,dM,dM];exact Dv hf ts (i+1) (PC hf h i hi.1 hk.1) hi.2 hk.2
theorem Rf (f:Int->Int) (t:T):oP (mvT f t)=oP t:=by
 unfold oP; rw [lJ,zF,vy,jp]
theorem NP (f:Int->Int) (t:T):eX (mvT f t)=eX t:=by
 unfold eX; rw [lJ,zF,vy,jp]
theorem Cp (hf:sR f ws):∀ (ts:List T) {s a:CS},RelC f ws s a->inL ws ts->lm ts->RelC f ws (dr s ts) (dr a (mvL f ts))
 | [],_,_,h,_,_=>by rw [mvL,dr,dr]; exact h
 | g::ts,s,a,h,hi,hk=>by
  rw [inL] at hi;rw [lm] at hk;rw [mvL,dr,dr];refine Cp hf ts ?_ hi.2 hk.2;unfold eJ;rw [Rf,NP,vy,jp,zF];split
  ·exact h.emit _
  ·exact (Dv hf g.kids 0 h (F0 hi.1) hk.1.kids).emit _
theorem Ms (f:Int->Int):∀ q:List (T × Int),ce (mvQ f q)=ce q
 | []=>rfl
 | x::q=>by
  show (bM (mvT f x.1)).toNat+ce (mvQ f q)=_;rw [zC,Ms f q]; rfl
theorem Nh (hf:sR f ws) {ts:List T} {s a:CS} (h:RelC f ws s a) (g:inL ws ts) (hk:lm ts):RelC f ws (fp s ts) (fp a (mvL f ts)):=by
 unfold fp;obtain ⟨i,j,l⟩:=Ch hf ts 0 h g hk;rw [j,Ms];exact Ji hf _ _ i l
theorem ME (hf:sR f ws) {c:C} (a:inT ws c.head) (g:inL ws c.body) (h:kOk c.head) (i:lm c.body):dK ⟨mvT f c.head,mvL f c.body⟩=dK c:=by
 have j:RelC f ws startC startC:=by
  refine ⟨rfl,rfl,by simp [startC],by simp [startC],fun n hn=>?_⟩;have l:=hf.rng n hn;have m:=hf.rng' n hn;unfold CS.at_ startC;simp only;rw [Hv,Hv,af (by omega),af (by omega)]
 unfold dK;simp only [vy];exact ((Cp hf c.body (Nh hf j (F0 a) h.kids) g i).emit _).code
end
theorem I0:∀ {ts:List T},(∀ t∈ts,kOk t)->lm ts
 | [],_=>trivial
 | t::ts,h=>by rw [lm]; exact ⟨h t (bL ..),I0 fun x a=>h x (bV _ a)⟩
theorem JE {c:C} (h:a9 c=true):kOk c.head/\lm c.body:=by
 rw [a9] at h;simp only [bJ,fS] at h;refine ⟨EE h.2.2.1,I0 fun t a=>?_⟩;have:=h.2.1 t a;rw [eI,bJ] at this;exact EE this.1
theorem OS {c:C} (h:a9 c=true):dK (sr (bP c) c)=dK c:=by
 obtain ⟨e,i,j,_⟩:=Fq h;have hk:=JE h;rw [e];refine ME (ws:=bP c) ⟨Ps,DB h,fun a g=>?_⟩ i j hk.1 hk.2;have:=IO h a g;omega
end
section
open Go Go.RowKit
mutual
def sbT (σ:Int->T):T->T
 | .mk k n s ks=>if k=1 then σ n else .mk k n s (sbL σ ks)
def sbL (σ:Int->T):List T->List T
 | []=>[]
 | t::ts=>sbT σ t::sbL σ ts
end
theorem iP (σ:Int->T):∀ ts:List T,(sbL σ ts).length=ts.length
 | []=>rfl
 | t::ts=>by rw [sbL,aO,iP σ ts,aO]
mutual
theorem GK (σ τ:Int->T):∀ t:T,sbT σ (sbT τ t)=sbT (fun n=>sbT σ (τ n)) t
 | .mk k n s ks=>by
  by_cases hk:k=1
  ·rw [sbT,af hk,sbT,af hk]
  ·rw [sbT,ae hk,sbT,ae hk,sbT,ae hk,uR σ τ ks]
theorem uR (σ τ:Int->T):∀ ts:List T,sbL σ (sbL τ ts)=sbL (fun n=>sbT σ (τ n)) ts
 | []=>rfl
 | t::ts=>by rw [sbL,sbL,sbL,GK σ τ t,uR σ τ ts]
end
def idS (n:Int):T:=.mk 1 n emptyB []
mutual
theorem Ry {N:Nat}:∀ t:T,okU N t->sbT idS t=t
 | .mk k n s ks,h=>by
  rw [okU] at h;by_cases hk:k=1
  ·obtain ⟨_,_,rfl,rfl⟩:=h.2.1 hk;rw [sbT,af hk,hk,idS]
  ·rw [sbT,ae hk,F3 ks h.2.2.1]
theorem F3 {N:Nat}:∀ ts:List T,cz N ts->sbL idS ts=ts
 | [],_=>rfl
 | t::ts,h=>by
  rw [cz] at h;rw [sbL,Ry t h.1,F3 ts h.2]
end
theorem OW {t u:T}:sF t u=true↔t.kind=u.kind/\t.n=u.n/\t.name=u.name/\t.kids.length=u.kids.length:=by
 simp [sF]
end
section
open Go Go.RowKit
abbrev Sl:=Int->Option T
def upS (v:Sl) (n:Int) (t:T):Sl:=fun m=>if m=n then some t else v m
theorem dY (v:Sl) (n:Int) (t:T):upS v n t n=some t:=af rfl
theorem jb (v:Sl) {n m:Int} (t:T) (h:m≠n):upS v n t m=v m:=ae h
def fT (n:Int):T:=.mk 2 n emptyB []
def fnT (nm:ByteArray) (ks:List T):T:=.mk 3 0 nm ks
def r4:T:=.mk 3 0 ⟨#[33]⟩ []
inductive Des:Sl->List Ist->Sl->List T->Prop
 | nil {v:Sl}:Des v [] v []
 | var {v v':Sl} {a b:Int} {nm:ByteArray} {t:T} {xs:List Ist} {ks:List T}:Des (upS v a t) xs v' ks->Des v (⟨4,a,b,nm⟩::xs) v' (t::ks)
 | val {v v':Sl} {a b:Int} {nm:ByteArray} {t:T} {xs:List Ist} {ks:List T}:v a=some t->Des v xs v' ks->Des v (⟨5,a,b,nm⟩::xs) v' (t::ks)
 | int {v v':Sl} {a b:Int} {nm:ByteArray} {xs:List Ist} {ks:List T}:Des v xs v' ks->Des v (⟨6,a,b,nm⟩::xs) v' (fT a::ks)
structure Ev where
 v:Sl
 a:Sl
inductive Den:Ev->List Ist->Ev->List T->Prop
 | nil {e:Ev}:Den e [] e []
 | gval {e e':Ev} {a b:Int} {nm:ByteArray} {t:T} {xs:List Ist} {o:List T}:e.v b=some t->e.v a=some t->Den e xs e' o->Den e (⟨1,a,b,nm⟩::xs) e' o
 | gint {e e':Ev} {a b:Int} {nm:ByteArray} {xs:List Ist} {o:List T}:e.v b=some (fT a)->Den e xs e' o->Den e (⟨2,a,b,nm⟩::xs) e' o
 | gstr {e e':Ev} {n b:Int} {nm:ByteArray} {ms xs:List Ist} {v':Sl} {ks o:List T}:(ms.length:Int)=n->e.v b=some (fnT nm ks)->Des e.v ms v' ks->Den ⟨v',e.a⟩ xs e' o->Den e (⟨3,n,b,nm⟩::(ms++xs)) e' o
 | sstr {e e':Ev} {n b:Int} {nm:ByteArray} {ms xs:List Ist} {v':Sl} {ks o:List T}:(ms.length:Int)=n->Des e.v ms v' ks->Den ⟨upS v' b (fnT nm ks),e.a⟩ xs e' o->Den e (⟨7,n,b,nm⟩::(ms++xs)) e' o
 | pvar {e e':Ev} {a b:Int} {nm:ByteArray} {t:T} {xs:List Ist} {o:List T}:Den ⟨upS e.v a t,upS e.a b t⟩ xs e' o->Den e (⟨8,a,b,nm⟩::xs) e' o
 | pval {e e':Ev} {a b:Int} {nm:ByteArray} {t:T} {xs:List Ist} {o:List T}:e.v a=some t->Den ⟨e.v,upS e.a b t⟩ xs e' o->Den e (⟨9,a,b,nm⟩::xs) e' o
 | pint {e e':Ev} {a b:Int} {nm:ByteArray} {xs:List Ist} {o:List T}:Den ⟨e.v,upS e.a b (fT a)⟩ xs e' o->Den e (⟨10,a,b,nm⟩::xs) e' o
 | cut {e e':Ev} {a b:Int} {nm:ByteArray} {xs:List Ist} {o:List T}:Den e xs e' o->Den e (⟨13,a,b,nm⟩::xs) e' (r4::o)
 | call {e e':Ev} {op n b:Int} {nm:ByteArray} {ks:List T} {xs:List Ist} {o:List T}:(op=11 ∨ op=12)->(ks.length:Int)=n->(∀ i (h:i<ks.length),e.a (i:Int)=some ks[i])->Den e xs e' o->Den e (⟨op,n,b,nm⟩::xs) e' (fnT nm ks::o)
theorem Des.len {v v':Sl} {xs:List Ist} {ks:List T} (h:Des v xs v' ks):ks.length=xs.length:=by
 induction h with
 | nil=>rfl
 | var _ a=>simp [a]
 | val _ _ a=>simp [a]
 | int _ a=>simp [a]
mutual
def okG:T->Prop
 | .mk k n s ks=>((k=1/\0<=n/\n<26) ∨ (k=2/\s=emptyB/\ks=[]) ∨ (k=3/\n=0))/\dL ks
def dL:List T->Prop
 | []=>True
 | t::ts=>okG t/\dL ts
end
theorem okG.kind {t:T} (h:okG t):(t.kind=1/\0<=t.n/\t.n<26) ∨ (t.kind=2/\t.name=emptyB/\t.kids=[]) ∨ (t.kind=3/\t.n=0):=by
 cases t; rw [okG] at h; exact h.1
theorem okG.kids {t:T} (h:okG t):dL t.kids:=by cases t; rw [okG] at h; exact h.2
mutual
theorem DF:∀ (t:T) (d:Int),dx t d=true->okG t
 | .mk k n s ks,d,h=>by
  rw [dx] at h;split at h
  ·cases h
  ·rw [bJ] at h;rw [okG];refine ⟨?_,Bh ks _ h.2⟩;have a:=h.1;unfold eV at a;by_cases g:(T.mk k n s ks).kind=1
   ·rw [af g] at a;simp only [bJ,bE] at a;have l:n<=25:=a.2.1;exact .inl ⟨g,a.1,by omega⟩
   ·rw [ae g] at a;by_cases i:(T.mk k n s ks).kind=2
    ·rw [af i] at a;simp only [bJ,bE] at a;exact .inr (.inl ⟨i,a.2.2.1,jK a.2.2.2⟩)
    ·rw [ae i] at a;by_cases j:(T.mk k n s ks).kind=3
     ·rw [af j] at a;simp only [bJ,bE] at a;exact .inr (.inr ⟨j,a.1⟩)
     ·rw [ae j] at a;cases a
theorem Bh:∀ (ts:List T) (d:Int),dj ts d=true->dL ts
 | [],_,_=>trivial
 | t::ts,d,h=>by
  rw [dj,bJ] at h;rw [dL];exact ⟨DF t d h.1,Bh ts d h.2⟩
end
theorem Dp {t:T} (h:cA t=true):okG t:=by
 rw [cA,bJ] at h;exact DF t _ h.1
theorem Hg:∀ {ts:List T},(∀ t∈ts,okG t)->dL ts
 | [],_=>trivial
 | t::ts,h=>by rw [dL]; exact ⟨h t (bL ..),Hg fun x a=>h x (bV _ a)⟩
theorem kF:∀ {ts:List T},dL ts->∀ t∈ts,okG t
 | t::ts,h,x,a=>by
  rw [dL] at h;rcases ek.1 a with rfl|a
  ·exact h.1
  ·exact kF h.2 x a
theorem je {c:C} (h:a9 c=true):okG c.head/\dL c.body:=by
 rw [a9] at h;simp only [bJ,fS] at h;refine ⟨Dp h.2.2.1,Hg fun t a=>?_⟩;have:=h.2.1 t a;rw [eI,bJ] at this;exact Dp this.1
theorem wh {θ:Int->T} {t:T} (h:t.kind=2/\t.name=emptyB/\t.kids=[]):sbT θ t=fT t.n:=by
 obtain ⟨k,n,s,ks⟩:=t;obtain ⟨a,g,i⟩:=h;simp only [T.kind,T.name,T.kids] at a g i;subst a g i;rw [sbT,ae (by decide),sbL]; rfl
theorem pm {θ:Int->T} {t:T} (h:t.kind=3/\t.n=0):sbT θ t=fnT t.name (sbL θ t.kids):=by
 obtain ⟨k,n,s,ks⟩:=t;obtain ⟨a,g⟩:=h;simp only [T.kind,T.n] at a g;subst a g;rw [sbT,ae (by decide)]; rfl
theorem nP {θ:Int->T} {t:T} (h:t.kind=1):sbT θ t=θ t.n:=by
 cases t;rw [sbT];exact af h
structure Wf (s:CS):Prop where
 len:s.sl.length=26
 lt:∀ n,s.at_ n<s.next
 four:4<=s.next
def AgrS (θ:Int->T) (s:CS) (v:Sl):Prop:=∀ n,0<=n->n<26->0<=s.at_ n->v (s.at_ n)=some (θ n)
def Df (s:CS) (v:Sl):Prop:=∀ n,0<=n->n<26->0<=s.at_ n->∃ t,v (s.at_ n)=some t
def Frm (k:Int) (v v':Sl):Prop:=∀ m,m<k->v' m=v m
theorem Frm.refl (k:Int) (v:Sl):Frm k v v:=fun _ _=>rfl
theorem Frm.trans {k g:Int} {v v' a:Sl} (h:Frm k v v') (i:Frm g v' a) (hk:k<=g):Frm k v a:=fun m j=>(i m (by omega)).trans (h m j)
theorem Frm.upS {k n:Int} (v:Sl) (t:T) (h:k<=n):Frm k v (upS v n t):=fun m a=>jb v t (by omega)
structure Xt (s s':CS):Prop where
 wf:Wf s'
 ext:∀ n,0<=n->n<26->0<=s.at_ n->s'.at_ n=s.at_ n
 next:s.next<=s'.next
theorem Xt.refl {s:CS} (h:Wf s):Xt s s:=⟨h,fun _ _ _ _=>rfl,eP _⟩
theorem Xt.trans {s m a:CS} (h:Xt s m) (g:Xt m a):Xt s a:=
 ⟨g.wf,fun n i j l=>by rw [g.ext n i j (by rw [h.ext n i j l]; exact l),h.ext n i j l],LA h.next g.next⟩
theorem Wf.emit {s:CS} (h:Wf s) (x:Ist):Wf (s.emit x):=⟨h.len,h.lt,h.four⟩
theorem Wf.inc {s:CS} (h:Wf s):Wf s.inc:=⟨h.len,fun n=>by show s.at_ n<s.next+1; have:=h.lt n; omega,by show 4<=s.next+1; have:=h.four; omega⟩
theorem Xt.emit {s:CS} (h:Wf s) (x:Ist):Xt s (s.emit x):=⟨h.emit x,fun _ _ _ _=>rfl,eP _⟩
theorem Xt.inc {s:CS} (h:Wf s):Xt s s.inc:=⟨h.inc,fun _ _ _ _=>rfl,by show s.next<=s.next+1; omega⟩
theorem gn {s:CS} (a:s.sl.length=26) {n m:Int} (hn:0<=n/\n<26) (g:0<=m/\m<26) (x:Int):(s.put n x).at_ m=if m=n then x else s.at_ m:=by
 show (s.sl.set n.toNat x)[m.toNat]?.getD (-1)=_;rw [xK];by_cases e:m=n
 ·subst e;rw [af rfl,af (by omega),af rfl]; rfl
 ·rw [ae (by omega),ae e]; rfl
theorem OR {s:CS} {n:Int} {x:Int} {k:Int} (h:∀ m,s.at_ m<k) (a:x<k):∀ m,(s.put n x).at_ m<k:=by
 intro m;show (s.sl.set n.toNat x)[m.toNat]?.getD (-1)<k;rw [xK];split
 ·split
  ·exact a
  ·have:=h m;have j:=h (-1);show (none:Option Int).getD (-1)<k;rename_i g i
   have l:s.at_ n=-1:=by
    show s.sl[n.toNat]?.getD (-1)=-1;rw [NK (by omega)]; rfl
   have:=h n;show (-1:Int)<k;omega
 ·exact h m
theorem Xt.new {s:CS} (h:Wf s) {n:Int} (hn:0<=n/\n<26) (a:¬ 0<=s.at_ n):Xt s (s.put n s.next).inc:=by
 refine ⟨⟨(jR ..).trans h.len,fun m=>?_,by show 4<=s.next+1; have:=h.four; omega⟩,fun m g i j=>?_,by show s.next<=s.next+1; omega⟩
 ·exact OR (k:=s.next+1) (fun m=>by have:=h.lt m; omega) (by omega) m
 ·show (s.put n s.next).at_ m=s.at_ m;rw [gn h.len hn ⟨g,i⟩,ae (fun e=>by subst e; exact a j)]
theorem AgrS.new {θ:Int->T} {s:CS} {v:Sl} (h:Wf s) (j:AgrS θ s v) {n:Int} (hn:0<=n/\n<26):AgrS θ (s.put n s.next).inc (upS v s.next (θ n)):=by
 intro m g i a;have a:0<=(s.put n s.next).at_ m:=a;show upS v s.next (θ n) ((s.put n s.next).at_ m)=_;rw [gn h.len hn ⟨g,i⟩] at a ⊢;by_cases e:m=n
 ·subst e;rw [af rfl,dY]
 ·rw [ae e] at a ⊢;have:=h.lt m;rw [jb _ _ (by omega)];exact j m g i a
theorem Df.new {s:CS} {v:Sl} (h:Wf s) (j:Df s v) {n:Int} (hn:0<=n/\n<26) (t:T):Df (s.put n s.next).inc (upS v s.next t):=by
 intro m g i a;have a:0<=(s.put n s.next).at_ m:=a;show ∃ u,upS v s.next t ((s.put n s.next).at_ m)=_;rw [gn h.len hn ⟨g,i⟩] at a ⊢;by_cases e:m=n
 ·rw [af e,dY]; exact ⟨t,rfl⟩
 ·rw [ae e] at a ⊢;have:=h.lt m;rw [jb _ _ (by omega)];exact j m g i a
theorem AgrS.frm {θ:Int->T} {s:CS} {v v':Sl} (h:Wf s) (a:AgrS θ s v) (hf:Frm s.next v v'):AgrS θ s v':=fun n g i j=>by rw [hf _ (h.lt n)]; exact a n g i j
theorem AgrS.back {θ:Int->T} {s j:CS} {v v':Sl} (h:Wf s) (l:Xt s j) (hf:Frm s.next v v') (m:AgrS θ j v'):AgrS θ s v:=fun n a g i=>by
 rw [<- hf _ (h.lt n),<- l.ext n a g i];exact m n a g (by rw [l.ext n a g i]; exact i)
theorem Df.frm {s:CS} {v v':Sl} (h:Wf s) (a:Df s v) (hf:Frm s.next v v'):Df s v':=fun n g i j=>by rw [hf _ (h.lt n)]; exact a n g i j
def AU (s:CS) (t:T):Ist:=
 if t.kind=2 then ⟨6,t.n,0,emptyB⟩
 else if 0<=s.at_ t.n then ⟨5,s.at_ t.n,0,emptyB⟩
 else ⟨4,s.next,0,emptyB⟩
theorem vU (s:CS) (t:T):(eq s t).code=s.code++[AU s t]:=by
 unfold eq AU;split
 ·rfl
 ·split <;> rfl
theorem qS {s:CS} (h:Wf s) {t:T} (a:okG t) (g:t.kind≠3):Xt s (eq s t):=by
 unfold eq;split
 ·exact .emit h _
 ·rename_i i
  rcases a.kind with hk|hk|hk
  ·split
   ·exact .emit h _
   ·rename_i j
    have:=Xt.new h hk.2 j;exact ⟨⟨this.wf.len,this.wf.lt,this.wf.four⟩,this.ext,this.next⟩
  ·exact absurd hk.1 i
  ·exact absurd hk.1 g
theorem Ot {θ:Int->T} {s:CS} {v:Sl} (h:Wf s) (g:AgrS θ s v) {t:T} (l:okG t) (m:t.kind≠3):∃ v1,Frm s.next v v1/\AgrS θ (eq s t) v1/\∀ xs v2 ks,Des v1 xs v2 ks->Des v (AU s t::xs) v2 (sbT θ t::ks):=by
 unfold eq AU;rcases l.kind with hk|hk|hk
 ·have j:¬ t.kind=2:=by have:=hk.1; omega
  rw [nP hk.1];by_cases i:0<=s.at_ t.n
  ·simp only [ae j,af i];exact ⟨v,.refl _ _,g,fun xs v2 ks a=>.val (g _ hk.2.1 hk.2.2 i) a⟩
  ·simp only [ae j,ae i];exact ⟨_,.upS v (θ t.n) (eP _),AgrS.new h g hk.2,fun xs v2 ks a=>.var a⟩
 ·rw [af hk.1,af hk.1,wh hk];exact ⟨v,.refl _ _,g,fun xs v2 ks a=>.int a⟩
 ·exact absurd hk.1 m
theorem He {s:CS} {v v2:Sl} (h:Wf s) (m:Df s v) {t:T} (o:okG t) (p:t.kind≠3) {xs:List Ist} {ks:List T} (a:Des v (AU s t::xs) v2 ks):∃ v1 k j,ks=k::j/\Frm s.next v v1/\Df (eq s t) v1/\Des v1 xs v2 j/\∀ θ,AgrS θ (eq s t) v1->k=sbT θ t:=by
 unfold AU at a;unfold eq;rcases o.kind with hk|hk|hk
 ·rw [ae (by omega)] at a ⊢;split at a
  ·rename_i g
   cases a with
   | val l q=>
    refine ⟨v,_,_,rfl,.refl _ _,by rw [af g]; exact m,q,fun θ i=>?_⟩;rw [af g] at i;have:v (s.at_ t.n)=some (θ t.n):=i _ hk.2.1 hk.2.2 g;rw [l,bh] at this;rw [this,nP hk.1]
  ·rename_i g
   cases a with
   | var l=>
    rename_i u _
    refine ⟨_,_,_,rfl,.upS v u (eP _),by rw [ae g]; exact Df.new h m hk.2 u,l,fun θ i=>?_⟩;rw [ae g] at i;have e:((s.put t.n s.next).emit ⟨4,s.next,0,emptyB⟩).inc.at_ t.n=s.next:=by
     show (s.put t.n s.next).at_ t.n=s.next;rw [gn h.len hk.2 hk.2,af rfl]
    have:=i t.n hk.2.1 hk.2.2 (by rw [e]; have:=h.four; omega);rw [e,dY,bh] at this;rw [this,nP hk.1]
 ·rw [af hk.1] at a ⊢;cases a with
  | int l=>exact ⟨v,_,_,rfl,.refl _ _,m,l,fun θ _=>(wh hk).symm⟩
 ·exact absurd hk.1 p
def Gy (s:CS) (t:T):Ist:=if t.kind=3 then ⟨4,s.next,0,emptyB⟩ else AU s t
def kM:CS->List T->List Ist
 | _,[]=>[]
 | s,t::ts=>Gy s t::kM (ch s t).1 ts
theorem qC:∀ (ts:List T) (s:CS),(kM s ts).length=ts.length
 | [],_=>rfl
 | t::ts,s=>by rw [kM,aO,aO,qC ts]
theorem Ck:∀ (ts:List T) (s:CS),(bo s ts).1.code=s.code++kM s ts
 | [],s=>by rw [bo,kM,dc]
 | t::ts,s=>by
  rw [bo,kM];show (bo (ch s t).1 ts).1.code=_;rw [Ck ts];have:(ch s t).1.code=s.code++[Gy s t]:=by
   unfold ch Gy;split
   ·rfl
   ·exact vU s t
  rw [this,cN]; rfl
def PdOk (θ:Int->T) (q:List (T × Int)) (v:Sl):Prop:=∀ p∈q,v p.2=some (sbT θ p.1)
def PdW (q:List (T × Int)) (k:Int):Prop:=∀ p∈q,okG p.1/\p.1.kind=3/\p.2<k
theorem ul {s:CS} (h:Wf s) {t:T} (i:okG t):Xt s (ch s t).1/\PdW (ch s t).2 (ch s t).1.next:=by
 unfold ch;split
 ·rename_i a
  refine ⟨(Xt.emit h _).trans (.inc (h.emit _)),fun p g=>?_⟩;rw [cO.1 g];exact ⟨i,a,by show s.next<s.next+1; omega⟩
 ·rename_i a
  exact ⟨qS h i a,fun p g=>(by cases g)⟩
theorem kO:∀ (ts:List T) {s:CS},Wf s->dL ts->Xt s (bo s ts).1/\PdW (bo s ts).2 (bo s ts).1.next
 | [],s,h,_=>⟨.refl h,fun p a=>(by cases a)⟩
 | t::ts,s,h,ht=>by
  rw [dL] at ht;obtain ⟨g,j⟩:=ul h ht.1;obtain ⟨i,l⟩:=kO ts g.wf ht.2;rw [bo];refine ⟨g.trans i,fun p a=>?_⟩;rcases cI.1 a with a|a
  ·obtain ⟨m,o,q⟩:=j p a;have:=i.next;exact ⟨m,o,by show p.2<(bo (ch s t).1 ts).1.next; omega⟩
  ·exact l p a
theorem PdOk.frm {θ:Int->T} {q:List (T × Int)} {v v':Sl} {k:Int} (h:PdOk θ q v) (g:PdW q k) (hf:Frm k v v'):PdOk θ q v':=fun p a=>by rw [hf _ (g p a).2.2]; exact h p a
theorem PdOk.back {θ:Int->T} {q:List (T × Int)} {v v':Sl} {k:Int} (h:PdOk θ q v') (g:PdW q k) (hf:Frm k v v'):PdOk θ q v:=fun p a=>by rw [<- hf _ (g p a).2.2]; exact h p a
theorem Rz {θ:Int->T} {s:CS} {v:Sl} (h:Wf s) (g:AgrS θ s v) {t:T} (i:okG t):∃ v1,Frm s.next v v1/\AgrS θ (ch s t).1 v1/\PdOk θ (ch s t).2 v1/\∀ xs v2 ks,Des v1 xs v2 ks->Des v (Gy s t::xs) v2 (sbT θ t::ks):=by
 unfold ch Gy;split
 ·refine ⟨_,.upS v (sbT θ t) (eP _),?_,fun p a=>?_,fun xs v2 ks l=>.var l⟩
  ·exact AgrS.frm h (s:=s) g (.upS v _ (eP _))
  ·rw [cO.1 a]; exact dY ..
 ·rename_i j
  obtain ⟨v1,m,o,q⟩:=Ot h g i j;exact ⟨v1,m,o,fun p a=>(by cases a),q⟩
theorem LD {θ:Int->T}:∀ (ts:List T) {s:CS} {v:Sl},Wf s->AgrS θ s v->dL ts->∃ v1,Frm s.next v v1/\AgrS θ (bo s ts).1 v1/\PdOk θ (bo s ts).2 v1/\Des v (kM s ts) v1 (sbL θ ts)
 | [],s,v,h,ha,_=>⟨v,.refl _ _,ha,fun p a=>(by cases a),.nil⟩
 | t::ts,s,v,h,ha,ht=>by
  rw [dL] at ht;obtain ⟨g,j⟩:=ul h ht.1;obtain ⟨v1,l,m,o,q⟩:=Rz h ha ht.1;obtain ⟨v2,i,r,b3,u⟩:=LD ts g.wf m ht.2;rw [bo,kM,sbL];refine ⟨v2,l.trans i g.next,r,fun p a=>?_,q _ _ _ u⟩;rcases cI.1 a with a|a
  ·exact o.frm j i p a
  ·exact b3 p a
theorem N0 {s:CS} {v v2:Sl} (h:Wf s) (l:Df s v) {t:T} (m:okG t) {xs:List Ist} {ks:List T} (g:Des v (Gy s t::xs) v2 ks):∃ v1 k a,ks=k::a/\Frm s.next v v1/\Df (ch s t).1 v1/\Des v1 xs v2 a/\∀ θ,AgrS θ (ch s t).1 v1->PdOk θ (ch s t).2 v1->k=sbT θ t:=by
 unfold Gy at g;unfold ch;split at g
 ·rename_i i
  cases g with
  | var j=>
   rename_i u _
   rw [af i];refine ⟨_,_,_,rfl,.upS v u (eP _),Df.frm (s:=s) h l (.upS v u (eP _)),j,fun θ _ o=>?_⟩;have:=o (t,s.next) (cO.2 rfl);rw [dY,bh] at this;exact this
 ·rename_i i
  rw [ae i];obtain ⟨v1,k,a,p,q,r,B,C⟩:=He h l m i g;exact ⟨v1,k,a,p,q,r,B,fun θ j _=>C θ j⟩
theorem Er:∀ (ts:List T) {s:CS} {v v1:Sl} {ks:List T},Wf s->Df s v->dL ts->Des v (kM s ts) v1 ks->Frm s.next v v1/\Df (bo s ts).1 v1/\∀ θ,AgrS θ (bo s ts).1 v1->PdOk θ (bo s ts).2 v1->ks=sbL θ ts
 | [],s,v,v1,ks,h,hd,_,hr=>by
  rw [kM] at hr;cases hr with
  | nil=>exact ⟨.refl _ _,hd,fun _ _ _=>rfl⟩
 | t::ts,s,v,v1,ks,h,hd,ht,hr=>by
  rw [dL] at ht;rw [kM] at hr;obtain ⟨g,m⟩:=ul h ht.1;obtain ⟨o,J⟩:=kO ts g.wf ht.2;obtain ⟨u,k,q,rfl,r,B,C,D⟩:=N0 h hd ht.1 hr;obtain ⟨j,G,b3⟩:=Er ts g.wf B ht.2 C;rw [bo];refine ⟨r.trans j g.next,G,fun θ a l=>?_⟩;have a:AgrS θ (bo (ch s t).1 ts).1 v1:=a;rw [sbL,b3 θ a (fun p i=>l p (iW _ i)),D θ (AgrS.back g.wf o j a) (PdOk.back (fun p i=>l p (ic _ i)) m j)]
def mf:Nat->CS->List (T × Int)->List Ist
 | 0,_,_=>[]
 | _+1,_,[]=>[]
 | f+1,s,x::q=>⟨3,x.1.kids.length,x.2,x.1.name⟩::(kM (s.emit ⟨3,x.1.kids.length,x.2,x.1.name⟩) x.1.kids++mf f (bo (s.emit ⟨3,x.1.kids.length,x.2,x.1.name⟩) x.1.kids).1 (q++(bo (s.emit ⟨3,x.1.kids.length,x.2,x.1.name⟩) x.1.kids).2))
theorem wX:∀ (f:Nat) (s:CS) (q:List (T × Int)),(eD f s q).code=s.code++mf f s q
 | 0,s,q=>by rw [eD,mf,dc]
 | f+1,s,[]=>by rw [eD,mf,dc]
 | f+1,s,x::q=>by
  rw [eD,mf,wX f,Ck];show (s.code++[_])++_++_=_;rw [cN,cN]; rfl
theorem qK:∀ (f:Nat) {s:CS} {q:List (T × Int)},Wf s->PdW q s.next->Xt s (eD f s q)
 | 0,s,q,h,_=>by rw [eD]; exact .refl h
 | f+1,s,[],h,_=>by rw [eD]; exact .refl h
 | f+1,s,x::q,h,hq=>by
  rw [eD];have m:=hq x (bL ..);obtain ⟨g,i⟩:=kO x.1.kids (h.emit ⟨3,x.1.kids.length,x.2,x.1.name⟩) m.1.kids;have hn:=g.next;have hn:s.next<=(bo (s.emit ⟨3,x.1.kids.length,x.2,x.1.name⟩) x.1.kids).1.next:=hn;exact ((Xt.emit h _).trans g).trans (qK f g.wf fun p a=>by
   rcases cI.1 a with a|a
   ·obtain ⟨j,l,b3⟩:=hq p (bV _ a);exact ⟨j,l,by omega⟩
   ·exact i p a)
theorem O0 {θ:Int->T}:∀ (f:Nat) {s:CS} {q:List (T × Int)} {v:Sl},Wf s->PdW q s.next->AgrS θ s v->PdOk θ q v->∃ v1,Frm s.next v v1/\AgrS θ (eD f s q) v1/\∀ a g l o,Den ⟨v1,a⟩ g l o->Den ⟨v,a⟩ (mf f s q++g) l o
 | 0,s,q,v,h,_,ha,_=>by rw [eD,mf]; exact ⟨v,.refl _ _,ha,fun a g l o h=>h⟩
 | f+1,s,[],v,h,_,ha,_=>by rw [eD,mf]; exact ⟨v,.refl _ _,ha,fun a g l o h=>h⟩
 | f+1,s,x::q,v,h,hq,ha,j=>by
  rw [eD,mf];have r:=hq x (bL ..);have C:=h.emit ⟨3,x.1.kids.length,x.2,x.1.name⟩;obtain ⟨u,J⟩:=kO x.1.kids C r.1.kids;obtain ⟨v1,B,M,b3,N⟩:=LD (θ:=θ) x.1.kids C (v:=v) ha r.1.kids;have hn:s.next<=(bo (s.emit ⟨3,x.1.kids.length,x.2,x.1.name⟩) x.1.kids).1.next:=u.next;have m:PdW q s.next:=fun p j=>hq p (bV _ j);obtain ⟨v2,O,U,V⟩:=O0 (θ:=θ) f (s:=(bo (s.emit ⟨3,x.1.kids.length,x.2,x.1.name⟩) x.1.kids).1) (q:=q++(bo (s.emit ⟨3,x.1.kids.length,x.2,x.1.name⟩) x.1.kids).2) u.wf (fun p j=>by
   rcases cI.1 j with j|j
   ·obtain ⟨Y,Z,d3⟩:=m p j;exact ⟨Y,Z,by omega⟩
   ·exact J p j) M (fun p i=>by
   rcases cI.1 i with i|i
   ·exact (PdOk.frm (fun p t=>j p (bV _ t)) m B) p i
   ·exact b3 p i)
  refine ⟨v2,Frm.trans B O hn,U,fun a g l o G=>?_⟩;rw [dQ,cN];have D:=j x (bL ..);rw [pm ⟨r.2.1,by have:=r.1.kind; omega⟩] at D;exact .gstr (by rw [qC]) D N (V a g l o G)
theorem LX {α:Type} {a b c d:List α} (h:a++b=c++d) (g:a.length=c.length):a=c/\b=d:=List.append_inj h g
theorem eA:∀ a b:List (T × Int),ce (a++b)=ce a+ce b
 | [],b=>by rw [rC,ce,df]
 | x::a,b=>by rw [dQ,ce,ce,eA a b]; omega
theorem qD:∀ (ts:List T) (s:CS),ce (bo s ts).2<=(bi ts).toNat
 | [],s=>by rw [bo]; exact aK _
 | t::ts,s=>by
  rw [bo];show ce ((ch s t).2++(bo (ch s t).1 ts).2)<=_;rw [eA,bi];have a:=qD ts (ch s t).1;have g:ce (ch s t).2<=(bM t).toNat:=by
   unfold ch;split
   ·show (bM t).toNat+0<=_;omega
   ·exact aK _
  have:=cZ t;have:=bU ts;omega
theorem Jf:∀ (f:Nat) {s:CS} {q:List (T × Int)} {v a:Sl} {i:List Ist} {l:Ev} {o:List T},Wf s->PdW q s.next->Df s v->ce q<=f->Den ⟨v,a⟩ (mf f s q++i) l o->∃ v1,Frm s.next v v1/\Df (eD f s q) v1/\Den ⟨v1,a⟩ i l o/\∀ θ,AgrS θ (eD f s q) v1->PdOk θ q v1
 | 0,s,q,v,a,i,l,o,h,hq,hd,hs,hr=>by
  rw [mf] at hr;rw [eD];cases q with
  | nil=>exact ⟨v,.refl _ _,hd,hr,fun θ _ p g=>by cases g⟩
  | cons x q=>
   exfalso;rw [ce] at hs;have:=cZ x.1;omega
 | f+1,s,[],v,a,i,l,o,h,hq,hd,hs,hr=>by
  rw [mf] at hr;rw [eD];exact ⟨v,.refl _ _,hd,hr,fun θ _ p g=>by cases g⟩
 | f+1,s,x::q,v,a,i,l,o,h,hq,hd,hs,hr=>by
  rw [mf,dQ,cN] at hr;rw [eD];have m:=hq x (bL ..);have Z:=h.emit ⟨3,x.1.kids.length,x.2,x.1.name⟩;obtain ⟨t,D⟩:=kO x.1.kids Z m.1.kids;have hn:s.next<=(bo (s.emit ⟨3,x.1.kids.length,x.2,x.1.name⟩) x.1.kids).1.next:=t.next;have r:PdW q s.next:=fun p g=>hq p (bV _ g);generalize U:kM (s.emit ⟨3,x.1.kids.length,x.2,x.1.name⟩) x.1.kids++(mf f (bo (s.emit ⟨3,x.1.kids.length,x.2,x.1.name⟩) x.1.kids).1 (q++(bo (s.emit ⟨3,x.1.kids.length,x.2,x.1.name⟩) x.1.kids).2)++i)=code at hr;cases hr with
  | gstr h1 O h3 h4=>
   obtain ⟨rfl,rfl⟩:=LX U (by rw [qC]; omega);obtain ⟨Y,b2,b3⟩:=Er x.1.kids Z hd m.1.kids h3;have M:ce (q++(bo (s.emit ⟨3,x.1.kids.length,x.2,x.1.name⟩) x.1.kids).2)<=f:=by
    have a0:=qD x.1.kids (s.emit ⟨3,x.1.kids.length,x.2,x.1.name⟩);rw [eA];rw [ce] at hs;have:(bM x.1).toNat=1+(bi x.1.kids).toNat:=by
     have:=bU x.1.kids;obtain ⟨x1,x2⟩:=x;cases x1;simp only [bM,T.kids] at this ⊢;omega
    omega
   obtain ⟨v1,u,c2,c3,c4⟩:=Jf f t.wf (q:=q++(bo (s.emit ⟨3,x.1.kids.length,x.2,x.1.name⟩) x.1.kids).2) (fun p g=>by
    rcases cI.1 g with g|g
    ·obtain ⟨G,J,d3⟩:=r p g;exact ⟨G,J,by omega⟩
    ·exact D p g) b2 M h4
   refine ⟨v1,Frm.trans Y u hn,c2,c3,fun θ V p g=>?_⟩;have j:=c4 θ V;have N:=qK f t.wf (q:=q++(bo (s.emit ⟨3,x.1.kids.length,x.2,x.1.name⟩) x.1.kids).2) (fun p g=>by
    rcases cI.1 g with g|g
    ·obtain ⟨G,J,d3⟩:=r p g;exact ⟨G,J,by omega⟩
    ·exact D p g)
   rcases ek.1 g with rfl|g
   ·have hk:=b3 θ (AgrS.back t.wf N u V) (PdOk.back (fun p' C=>j p' (iW _ C)) D u);have O:v p.2=_:=O;rw [(Frm.trans Y u hn) _ m.2.2,O,hk,pm ⟨m.2.1,by have:=m.1.kind; omega⟩]
   ·exact j p (ic _ g)
  | call B _ _ _=>rcases B with B|B <;> cases B
end
end Go.Proofs.YtjbcdmheajljpaaGreat
