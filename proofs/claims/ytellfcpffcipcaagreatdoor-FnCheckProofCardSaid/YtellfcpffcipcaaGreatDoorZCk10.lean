/- Unification: the plain form. Lists of bindings, what a variable reaches, unifiers, resolved terms. -/
import Derived.Test.YtellfcpffcipcaaGreatDoorZCkA
import Derived.Test.YtellfcpffcipcaaGreatDoorZCk9
namespace Go.Proofs.YtellfcpffcipcaaGreatDoor
section
open Go Go.RowKit
mutual
def okU (N:Nat):T->Prop
 | .mk k n s ks=>k≠0/\(k=1->0<=n/\n<N/\s=emptyB/\ks=[])/\du N ks/\s.size<=6
def du (N:Nat):List T->Prop
 | []=>True
 | t::ts=>okU N t/\du N ts
end
mutual
def vT:T->List Nat
 | .mk k n _ ks=>if k=1 then [n.toNat] else vTL ks
def vTL:List T->List Nat
 | []=>[]
 | t::ts=>vT t++vTL ts
end
theorem mN {N:Nat}:∀ {ts:List T},du N ts->∀ t∈ts,okU N t
 | t::ts,h,x,a=>by
  rw [du] at h;rcases cw.1 a with rfl|a
  ·exact h.1
  ·exact mN h.2 x a
theorem oe {N:Nat}:∀ {ts:List T},(∀ t∈ts,okU N t)->du N ts
 | [],_=>by rw [du];trivial
 | t::ts,h=>by rw [du];exact ⟨h t (bi ..),oe fun u a=>h u (bk _ a)⟩
theorem th:∀ {ts:List T} {m:Nat},m∈vTL ts↔∃ t∈ts,m∈vT t
 | [],m=>by simp [vTL]
 | t::ts,m=>by rw [vTL,ci,th];simp
theorem okU.kids {N:Nat} {t:T} (h:okU N t):du N t.kids:=by cases t; rw [okU] at h; exact h.2.2.1
theorem okU.var {N:Nat} {t:T} (h:okU N t) (hk:t.kind=1):0<=t.n/\t.n<N/\t.name=emptyB/\t.kids=[]:=by cases t; rw [okU] at h; exact h.2.1 hk
theorem okU.kind {N:Nat} {t:T} (h:okU N t):t.kind≠0:=by cases t; rw [okU] at h; exact h.1
theorem kH {t:T} (h:t.kind=1):vT t=[t.n.toNat]:=by cases t; rw [vT]; exact ai h
theorem Ap {t:T} (h:t.kind≠1):vT t=vTL t.kids:=by cases t; rw [vT]; exact af h
mutual
theorem Y3 {N:Nat}:∀ (t:T),okU N t->∀ m∈vT t,m<N
 | .mk k n s ks,h,m,hm=>by
  rw [okU] at h;rw [vT] at hm;split at hm
  ·rename_i hk
   have:=h.2.1 hk;simp at hm;omega
  ·exact UT ks h.2.2.1 m hm
theorem UT {N:Nat}:∀ (ts:List T),du N ts->∀ m∈vTL ts,m<N
 | [],_,m,a=>by simp [vTL] at a
 | t::ts,h,m,a=>by
  rw [du] at h;rw [vTL,ci] at a;rcases a with a|a
  ·exact Y3 t h.1 m a
  ·exact UT ts h.2 m a
end
def look (st:au) (t:T):Option T:=if t.kind=1 then (st[t.n.toNat]?).join else none
theorem dC {st:au} {t u:T}:look st t=some u↔t.kind=1/\st[t.n.toNat]?=some (some u):=by
 unfold look;split
 ·rename_i h
  simp only [Option.join_eq_some_iff];exact ⟨fun e=>⟨h,e⟩,fun e=>e.2⟩
 ·rename_i h
  simp [h]
theorem xq {st:au} {t:T}:look st t=none↔(t.kind=1->st[t.n.toNat]?=none ∨ st[t.n.toNat]?=some none):=by
 unfold look;split
 ·rename_i h
  rw [Option.join_eq_none_iff];constructor
  ·intro e _;rcases e with e|e
   ·exact .inl e
   ·exact .inr e
  ·intro e;rcases e h with e|e
   ·exact .inl e
   ·exact .inr e
 ·rename_i h
  simp [h]
inductive dL (st:au):T->T->Prop
 | stop {t:T}:look st t=none->dL st t t
 | step {t u v:T}:look st t=some u->dL st u v->dL st t v
inductive Rch (st:au):Nat->Nat->Prop
 | refl (m:Nat):Rch st m m
 | step {m k n:Nat} {u:T}:st[m]?=some (some u)->k∈vT u->Rch st k n->Rch st m n
theorem Rch.trans {st:au} {a b c:Nat} (h:Rch st a b) (f:Rch st b c):Rch st a c:=by
 induction h with
 | refl=>exact f
 | step g i _ j=>exact .step g i (j f)
def gY (st:au) (n:Nat) (t:T):Prop:=∃ m∈vT t,Rch st m n
structure Good (N:Nat) (st:au):Prop where
 len:st.length=N
 ok:∀ t,some t∈st->okU N t
 w:∀ t,some t∈st->wT t<=1048576
 rk:∃ r:Nat->Nat,∀ (n:Nat) (u:T),st[n]?=some (some u)->∀ m∈vT u,r m<r n
theorem Good.look_ok {N:Nat} {st:au} (h:Good N st) {t u:T} (hl:look st t=some u):okU N u/\wT u<=1048576:=by
 have:=cJ (dC.1 hl).2;exact ⟨h.ok u this,h.w u this⟩
theorem dS {N:Nat} {st:au} {t v:T} (h:Good N st) (a:dL st t v) (f:okU N t/\wT t<=1048576):okU N v/\wT v<=1048576:=by
 induction a with
 | stop=>exact f
 | step hl _ g=>exact g (h.look_ok hl)
theorem iV {st:au} {t v:T} (a:dL st t v):look st v=none:=by
 induction a with
 | stop h=>exact h
 | step _ _ f=>exact f
theorem Wg {N:Nat} {st:au} (h:Good N st) (t:T):∃ v,dL st t v:=by
 obtain ⟨r,g⟩:=h.rk;have:∀ (k:Nat) (t:T),(∀ u,look st t=some u->r t.n.toNat<k)->∃ v,dL st t v:=by
  intro k;induction k with
  | zero=>
   intro t a;cases hl:look st t with
   | none=>exact ⟨t,.stop hl⟩
   | some u=>have:=a u hl;omega
  | succ k j=>
   intro t a;cases hl:look st t with
   | none=>exact ⟨t,.stop hl⟩
   | some u=>
    have m:=a u hl;obtain ⟨v,i⟩:=j u fun l f=>by
     obtain ⟨hk,_⟩:=dC.1 f;have:=g _ _ (dC.1 hl).2 u.n.toNat (by rw [kH hk];simp);omega
    exact ⟨v,.step hl i⟩
 exact this (r t.n.toNat+1) t fun _ _=>Vw _
theorem Zb {st:au} {t v:T} (i:dL st t v) {n:Nat} (hn:∀ u,st[n]?≠some (some u)):gY st n t↔gY st n v:=by
 induction i with
 | stop=>exact Iff.rfl
 | step hl _ j=>
  rename_i t u v
  rw [<- j];obtain ⟨hk,g⟩:=dC.1 hl;constructor
  ·rintro ⟨m,a,f⟩;rw [kH hk,cE] at a;subst a;cases f with
   | refl=>exact absurd g (hn _)
   | step h l o=>
    rw [g,aY,aY] at h;subst h;exact ⟨_,l,o⟩
  ·rintro ⟨m,a,f⟩;exact ⟨_,by rw [kH hk];exact cE.2 rfl,.step g a f⟩
def unb:au->Nat
 | []=>0
 | none::st=>unb st+1
 | some _::st=>unb st
theorem wW:∀ (st:au) (n:Nat) (t:T),st[n]?=some none->unb (st.set n (some t))+1=unb st
 | [],n,t,h=>by simp at h
 | x::st,0,t,h=>by
  simp only [Mq,aY] at h;subst h;rfl
 | x::st,n+1,t,h=>by
  have a:st[n]?=some none:=by simpa using h
  have:=wW st n t a;cases x <;> simp only [OQ,unb] <;> omega
open Classical in
theorem Good.set {N:Nat} {st:au} (h:Good N st) {n:Nat} {t:T} (hn:st[n]?=some none) (G:okU N t) (J:wT t<=1048576) (O:¬ gY st n t):Good N (st.set n (some t)):=by
 have q:n<st.length:=(fS.1 hn).1;refine ⟨by rw [mQ];exact h.len,fun u a=>?_,fun u a=>?_,?_⟩
 ·rcases DS a with a|a
  ·exact h.ok u a
  ·rw [aY] at a;rw [a];exact G
 ·rcases DS a with a|a
  ·exact h.w u a
  ·rw [aY] at a;rw [a];exact J
 ·obtain ⟨r,U⟩:=h.rk;have j:∀ l:List Nat,∃ M,∀ m∈l,r m<=M:=by
   intro l;induction l with
   | nil=>exact ⟨0,by simp⟩
   | cons x l V=>
    obtain ⟨M,j⟩:=V;refine ⟨M+r x,fun m g=>?_⟩;rcases cw.1 g with rfl|g
    ·omega
    ·have:=j m g;omega
  obtain ⟨M,j⟩:=j (vT t);refine ⟨fun m=>if Rch st m n then r m+M+1 else r m,fun k u f m g=>?_⟩;by_cases o:n=k
  ·subst o;rw [QP q,aY,aY] at f;subst f;have B:¬ Rch st m n:=fun e=>O ⟨m,g,e⟩;have D:=j m g;simp only [af B,ai (Rch.refl (st:=st) n)];omega
  ·rw [C8 o] at f;have B:=U k u f m g;by_cases i:Rch st m n
   ·have D:Rch st k n:=.step f g i;simp only [ai i,ai D];omega
   ·simp only [af i];split <;> omega
inductive Job where
 | one (a b:T)
 | list (xs ys:List T)
inductive Uni:au->Job->Bool->au->Prop
 | same {st:au} {a b a' b':T}:dL st a a'->dL st b b'->a'.kind=1->b'.kind=1->a'.n=b'.n->Uni st (.one a b) true st
 | bindA {st:au} {a b a' b':T}:dL st a a'->dL st b b'->a'.kind=1->¬ (b'.kind=1/\a'.n=b'.n)->¬ gY st a'.n.toNat b'->Uni st (.one a b) true (st.set a'.n.toNat (some b'))
 | occA {st:au} {a b a' b':T}:dL st a a'->dL st b b'->a'.kind=1->¬ (b'.kind=1/\a'.n=b'.n)->gY st a'.n.toNat b'->Uni st (.one a b) false st
 | bindB {st:au} {a b a' b':T}:dL st a a'->dL st b b'->a'.kind≠1->b'.kind=1->¬ gY st b'.n.toNat a'->Uni st (.one a b) true (st.set b'.n.toNat (some a'))
 | occB {st:au} {a b a' b':T}:dL st a a'->dL st b b'->a'.kind≠1->b'.kind=1->gY st b'.n.toNat a'->Uni st (.one a b) false st
 | clash {st:au} {a b a' b':T}:dL st a a'->dL st b b'->a'.kind≠1->b'.kind≠1->kK a' b'=false->Uni st (.one a b) false st
 | kids {st st':au} {a b a' b':T} {r:Bool}:dL st a a'->dL st b b'->a'.kind≠1->b'.kind≠1->kK a' b'=true->Uni st (.list a'.kids b'.kids) r st'->Uni st (.one a b) r st'
 | nil {st:au}:Uni st (.list [] []) true st
 | stop {st st':au} {a b:T} {xs ys:List T}:Uni st (.one a b) false st'->Uni st (.list (a::xs) (b::ys)) false st'
 | go {st st1 st':au} {a b:T} {xs ys:List T} {r:Bool}:Uni st (.one a b) true st1->Uni st1 (.list xs ys) r st'->Uni st (.list (a::xs) (b::ys)) r st'
def okJ (N:Nat):Job->Prop
 | .one a b=>(okU N a/\wT a<=1048576)/\(okU N b/\wT b<=1048576)
 | .list xs ys=>(∀ a∈xs,okU N a/\wT a<=1048576)/\(∀ b∈ys,okU N b/\wT b<=1048576)/\xs.length=ys.length
theorem kq {N:Nat} {t:T} (h:okU N t/\wT t<=1048576):∀ x∈t.kids,okU N x/\wT x<=1048576:=by
 intro x a;refine ⟨mN h.1.kids x a,?_⟩;have f:=lf a;have g:=h.2;cases t;rw [wT] at g;simp only [T.kids] at f;omega
theorem rI {a b:T} (h:kK a b=true):a.kids.length=b.kids.length:=by
 rw [kK] at h;simp only [aZ,bt] at h;exact h.2.2.2
theorem rE {N:Nat} {st:au} (h:Good N st) {a:T} (hk:a.kind=1) (hl:look st a=none) (f:okU N a):st[a.n.toNat]?=some none:=by
 obtain ⟨g,i,_⟩:=f.var hk;rcases xq.1 hl hk with e|e
 ·have:=List.getElem?_eq_none_iff.1 e;have:=h.len;omega
 ·exact e
theorem Uni.good {N:Nat} {st g:au} {j:Job} {r:Bool} (U:Uni st j r g):Good N st->okJ N j->Good N g/\(g=st ∨ unb g<unb st):=by
 induction U with
 | same=>exact fun h _=>⟨h,.inl rfl⟩
 | occA=>exact fun h _=>⟨h,.inl rfl⟩
 | occB=>exact fun h _=>⟨h,.inl rfl⟩
 | clash=>exact fun h _=>⟨h,.inl rfl⟩
 | nil=>exact fun h _=>⟨h,.inl rfl⟩
 | bindA i l hk t B=>
  rename_i M O
  intro h f;have o:=dS h i f.1;have m:=dS h l f.2;have hf:=rE h hk (iV i) o.1;have:=wW _ _ O hf;exact ⟨h.set hf m.1 m.2 B,.inr (by omega)⟩
 | bindB i l t hk B=>
  rename_i M O
  intro h f;have o:=dS h i f.1;have m:=dS h l f.2;have hf:=rE h hk (iV l) m.1;have:=wW _ _ M hf;exact ⟨h.set hf o.1 o.2 B,.inr (by omega)⟩
 | kids i l _ _ hd _ D=>
  intro h f;exact D h ⟨kq (dS h i f.1),kq (dS h l f.2),rI hd⟩
 | stop _ D=>
  intro h f;exact D h ⟨f.1 _ (bi ..),f.2.1 _ (bi ..)⟩
 | go _ _ G J=>
  intro h f;obtain ⟨o,m⟩:=G h ⟨f.1 _ (bi ..),f.2.1 _ (bi ..)⟩;obtain ⟨V,q⟩:=J o ⟨fun a i=>f.1 a (bk _ i),fun b l=>f.2.1 b (bk _ l),by have:=f.2.2;simpa using this⟩;refine ⟨V,?_⟩;rcases m with rfl|m
  ·exact q
  ·rcases q with rfl|q
   ·exact .inr m
   ·exact .inr (by omega)
open Classical in
theorem Hv {N:Nat}:∀ (U:Nat) (st:au),Good N st->unb st<=U->∀ j,okJ N j->∃ r f,Uni st j r f:=by
 intro U;induction U using Nat.strongRecOn with
 | _ U b4=>
  intro st hg hU
  -- lists of terms of which each is known to have an answer
  have G:∀ (xs ys:List T),okJ N (.list xs ys)->(∀ a∈xs,∀ b,okJ N (.one a b)->∃ r f,Uni st (.one a b) r f)->∃ r f,Uni st (.list xs ys) r f:=by
   intro xs;induction xs with
   | nil=>
    intro ys i _;have:ys=[]:=iy i.2.2.symm;subst this;exact ⟨true,st,.nil⟩
   | cons a xs ih=>
    intro ys i hP;cases ys with
    | nil=>have:=i.2.2;simp at this
    | cons b ys=>
     have Y:okJ N (.one a b):=⟨i.1 _ (bi ..),i.2.1 _ (bi ..)⟩
     have a4:okJ N (.list xs ys):=⟨fun a D=>i.1 a (bk _ D),fun b J=>i.2.1 b (bk _ J),by have:=i.2.2;simpa using this⟩
     obtain ⟨r,a0,h⟩:=hP a (bi ..) b Y;cases r with
     | false=>exact ⟨false,a0,.stop h⟩
     | true=>
      obtain ⟨a8,a3⟩:=h.good hg Y;rcases a3 with rfl|a3
      ·obtain ⟨r,a1,o⟩:=ih ys a4 fun a D=>hP a (bk _ D);exact ⟨r,a1,.go h o⟩
      ·obtain ⟨r,a1,o⟩:=b4 (unb a0) (by omega) a0 a8 (be _) _ a4;exact ⟨r,a1,.go h o⟩
  obtain ⟨rk,a9⟩:=hg.rk;have a5:∀ (m:Nat) (a:T),(∀ x∈vT a,∀ u,st[x]?=some (some u)->rk x<m)->∀ b,okJ N (.one a b)->∃ r f,Uni st (.one a b) r f:=by
   intro m;induction m using Nat.strongRecOn with
   | _ m b5=>
    refine T.ind fun k n s O ih hr b i=>?_;obtain ⟨b',J⟩:=Wg hg b;have b0:=dS hg J i.2;cases hl:look st (.mk k n s O) with
    | some u=>
     obtain ⟨hk,hs⟩:=dC.1 hl;have b1:=hr _ (by rw [kH hk];exact cE.2 rfl) u hs;have b3:okJ N (.one u b):=⟨hg.look_ok hl,i.2⟩
     obtain ⟨r,f,hu⟩:=b5 _ b1 u (fun x hx _ _=>a9 _ _ hs x hx) b b3;refine ⟨r,f,?_⟩;cases hu with
     | same h o q t B=>exact .same (.step hl h) o q t B
     | bindA h o q t B=>exact .bindA (.step hl h) o q t B
     | occA h o q t B=>exact .occA (.step hl h) o q t B
     | bindB h o q t B=>exact .bindB (.step hl h) o q t B
     | occB h o q t B=>exact .occB (.step hl h) o q t B
     | clash h o q t B=>exact .clash (.step hl h) o q t B
     | kids h o q t B h6=>exact .kids (.step hl h) o q t B h6
    | none=>
     have D:dL st (.mk k n s O) (.mk k n s O):=.stop hl;by_cases hk:(T.mk k n s O).kind=1
     ·by_cases g:b'.kind=1/\(T.mk k n s O).n=b'.n
      ·exact ⟨_,_,.same D J hk g.1 g.2⟩
      ·by_cases ho:gY st (T.mk k n s O).n.toNat b'
       ·exact ⟨_,_,.occA D J hk g ho⟩
       ·exact ⟨_,_,.bindA D J hk g ho⟩
     ·by_cases V:b'.kind=1
      ·by_cases ho:gY st b'.n.toNat (T.mk k n s O)
       ·exact ⟨_,_,.occB D J hk V ho⟩
       ·exact ⟨_,_,.bindB D J hk V ho⟩
      ·cases hd:kK (T.mk k n s O) b' with
       | false=>exact ⟨_,_,.clash D J hk V hd⟩
       | true=>
        obtain ⟨r,f,hu⟩:=G O b'.kids ⟨kq i.1,kq b0,rI hd⟩ fun a a2 b2 a6=>
         ih a a2 (fun x hx u hs=>hr x (by rw [Ap hk];exact th.2 ⟨a,a2,hx⟩) u hs) b2 a6
        exact ⟨r,f,.kids D J hk V hd hu⟩
  have Z:∀ a b,okJ N (.one a b)->∃ r f,Uni st (.one a b) r f:=by
   intro a b i;have hM:∀ l:List Nat,∃ M,∀ m∈l,rk m<M:=by
    intro l;induction l with
    | nil=>exact ⟨0,by simp⟩
    | cons x l ih=>
     obtain ⟨M,hM⟩:=ih;refine ⟨M+rk x+1,fun m hm=>?_⟩;rcases cw.1 hm with rfl|hm
     ·omega
     ·have:=hM m hm;omega
   obtain ⟨M,hM⟩:=hM (vT a);exact a5 M a (fun x hx _ _=>hM x hx) b i
  intro j i;cases j with
  | one a b=>exact Z a b i
  | list xs ys=>exact G xs ys i fun a _ b a7=>Z a b a7
inductive Nz where
 | one (t u:T)
 | list (ts us:List T)
inductive Res (st:au):Nz->Prop
 | one {t v:T} {us:List T}:dL st t v->Res st (.list v.kids us)->Res st (.one t (.mk v.kind v.n v.name us))
 | nil:Res st (.list [] [])
 | cons {t u:T} {ts us:List T}:Res st (.one t u)->Res st (.list ts us)->Res st (.list (t::ts) (u::us))
theorem Di {N:Nat} {st:au} (h:Good N st) (t:T) (r:okU N t):∃ u,Res st (.one t u):=by
 obtain ⟨rk,O⟩:=h.rk;have i:∀ ts:List T,(∀ t∈ts,∃ u,Res st (.one t u))->∃ us,Res st (.list ts us):=by
  intro ts;induction ts with
  | nil=>exact fun _=>⟨[],.nil⟩
  | cons t ts j=>
   intro Z;obtain ⟨u,U⟩:=Z t (bi ..);obtain ⟨us,g⟩:=j fun x f=>Z x (bk _ f);exact ⟨u::us,.cons U g⟩
 have q:∀ (m:Nat) (a:T),(∀ x∈vT a,∀ u,st[x]?=some (some u)->rk x<m)->(okU N a)->∃ u,Res st (.one a u):=by
  intro m;induction m using Nat.strongRecOn with
  | _ m Y=>
   refine T.ind fun k n s B j hr r=>?_;cases hl:look st (.mk k n s B) with
   | some u=>
    obtain ⟨hk,D⟩:=dC.1 hl;have V:=hr _ (by rw [kH hk];exact cE.2 rfl) u D;obtain ⟨u',U⟩:=Y _ V u (fun x f _ _=>O _ _ D x f) (h.look_ok hl).1;refine ⟨u',?_⟩;cases U with
    | one h1 h2=>exact .one (.step hl h1) h2
   | none=>
    by_cases hk:(T.mk k n s B).kind=1
    ·have:=(r.var hk).2.2.2;have e:B=[]:=this;subst e;exact ⟨_,.one (.stop hl) .nil⟩
    ·obtain ⟨us,g⟩:=i B fun a G=>j a G (fun x f u D=>hr x (by rw [Ap hk];exact th.2 ⟨a,G,f⟩) u D) (mN r.kids a G);exact ⟨_,.one (.stop hl) g⟩
 have o:∀ l:List Nat,∃ M,∀ m∈l,rk m<M:=by
  intro l;induction l with
  | nil=>exact ⟨0,by simp⟩
  | cons x l j=>
   obtain ⟨M,o⟩:=j;refine ⟨M+rk x+1,fun m J=>?_⟩;rcases cw.1 J with rfl|J
   ·omega
   ·have:=o m J;omega
 obtain ⟨M,o⟩:=o (vT t);exact q M t (fun x f _ _=>o x f) r
end
section
open Go Go.RowKit
theorem Af {b:Bool} {n:Nat} (h:b=decide (1<=n)) (a:b=false):n=0:=by
 rw [a,u5,nt] at h;omega
theorem iY {a b:Bool} {k n:Nat} (h:a=decide (k<=n)) (f:a=true) (g:b=decide (k+1<=n)) (i:b=false):n=k:=by
 rw [f,u5,decide_eq_true_iff] at h;rw [i,u5,nt] at g;omega
theorem pH {b:Bool} {n m:Nat} (hl:n<=m) (h:b=decide (m<=n)) (a:b=true):n=m:=by
 rw [a,u5,decide_eq_true_iff] at h;omega
theorem X1 {b l:Bool} {n m:Nat} (h:b=decide (m<=n)) (k:b=true->l=true) (hl:l=false):n<m:=by
 cases b
 ·rw [u5,nt] at h;omega
 ·rw [k rfl] at hl;cases hl
def U9:List (Nat × Value)->List ByteArray
 | (_,.string s)::l=>s::U9 l
 | _=>[]
def Z6:List (Nat × Value)->List Int
 | (_,.int _ n)::l=>n::Z6 l
 | _=>[]
theorem Yv {α:Type} {f:α->Value} (l:List α) {i:Nat} (a:i<l.length):aO (l.map f).toArray i 1=[f l[i]]:=by
 rw [aO,dB (by simpa using a)];simp
theorem RdSl.monoU {S S':ae} {v:Value} {ys:List Nat} (a:Sle S S') (h:RdSl S 1 nZ v ys):RdSl S' 1 nZ v ys:=h.mono a fun _ _ h=>h
theorem RdSl.monoS {S S':ae} {v:Value} {ys:List ByteArray} (a:Sle S S') (h:RdSl S 1 rp v ys):RdSl S' 1 rp v ys:=h.mono a fun _ _ h=>h
theorem YT {S:ae} {b:Nat} {E:TypeId} {cs:hZ} {t:T} (a:S b=some (.cells cs.toArray E)) (h:RdT S cs t):RdSl S 4 (RdT S) (eF b 0 1 1) [t]:=by
 refine ⟨_,1,rfl,be _,by simp [maxLen],.inr ⟨b,0,_,E,(0,0),rfl,a,fun i f=>?_⟩⟩
 match i,f with
 | 0,_=>
  have e:aO cs.toArray (0+0 * 4) 4=cs:=by
   rw [aO];simpa using Ie (Dh h.length)
  rw [e];exact h
section
variable {w0 w:World} {X:List Nat} {L A:List Item} {S:ae} {K:Value->World->Prop}
attribute [local irreducible] Run CondV aF aT
theorem Inv.last (h:Inv w0 X L S w) (i:Nat) {it:Item} (a:L[i]?=some it):Inv w0 X (L.eraseIdx i++[it]) S w:=by
 apply h.perm;obtain ⟨f,_⟩:=Dj a it;rw [YN]
 conv=>rhs;rw [f]
 rw [eY];exact yj _ cT
theorem gT {n:Nat} {a:List (Nat × Value)} (h:Inv w0 X L S w)
  (g:(bY Dv n a).run Tryz.prog w=.ok (.value (.slice (some ⟨w.heap.size,0,none⟩) n n)) { w with heap:=w.heap.push (.cells ((U9 a).map Value.string).toArray jf) })
  (hn:(U9 a).length=n) (q:n<=1000) (hk:∀ v S1 w',Ext w0.heap.size X S S1->RdSl S1 1 rp v (U9 a)->Inv w0 X L S1 w'->K v w'):Run Tryz.prog (bY Dv n a) w K:=by
 refine vu (v:=fun b=>.slice (some ⟨b,0,none⟩) n n) (o:=.cells ((U9 a).map Value.string).toArray jf) h g fun b w' f=>?_;obtain ⟨S1,f,l,m⟩:=f.pub1;refine hk _ S1 w' l ?_ f;exact RdSl.ofCells m hn (by simp only [maxLen];omega) fun i j=>Yv _ j
theorem zS {n:Nat} {a:List (Nat × Value)} (h:Inv w0 X L S w)
  (g:(bY tg n a).run Tryz.prog w=.ok (.value (.slice (some ⟨w.heap.size,0,none⟩) n n)) { w with heap:=w.heap.push (.cells ((Z6 a).map (Value.int .i64)).toArray cR) })
  (hn:(Z6 a).length=n) (q:n<=1000) (hk:∀ v S1 w',Ext w0.heap.size X S S1->RdSl S1 1 gW v (Z6 a)->Inv w0 X L S1 w'->K v w'):Run Tryz.prog (bY tg n a) w K:=by
 refine vu (v:=fun b=>.slice (some ⟨b,0,none⟩) n n) (o:=.cells ((Z6 a).map (Value.int .i64)).toArray cR) h g fun b w' f=>?_;obtain ⟨S1,f,l,m⟩:=f.pub1;refine hk _ S1 w' l ?_ f;exact RdSl.ofCells m hn (by simp only [maxLen];omega) fun i j=>Yv _ j
def wd (Q:Prop) (R:Nat->Prop):Nat->Prop
 | 0=>Q
 | n+1=>R n
def GD (w0:World) (X:List Nat) (b:Nat) (c:Array Value) (d:Nat) (E:TypeId) (kv:Value) (css:List (List Value)) (A:Nat->List Item) (Q:List Value->Nat->ae->Prop) (xv xs xa:Value) (w':World):Nat->Prop
 | 0=>∃ p1 S1 cs,Q cs p1 S1/\(cs.length=4/\∀ u∈cs,u.oneCell'=true)/\xv=.agg cs.toArray/\Inv w0 X (.blk b (.cells c E)::aK kv ab 4 css::A p1) S1 w'
 | 1=>∃ p1 S1 cs b8,Q cs p1 S1/\(cs.length=4/\∀ u∈cs,u.oneCell'=true)/\xs=.slice (some ⟨b8,0,none⟩) 1 1/\Inv w0 X (.blk b (.cells c E)::aK kv ab 4 css::(A p1++[.blk b8 (.cells cs.toArray ab)])) S1 w'
 | 2=>∃ p1 S1 cs,Q cs p1 S1/\(cs.length=4/\∀ u∈cs,u.oneCell'=true)/\Inv w0 X (.blk b (.cells c E)::aK xa ab 4 (css++[cs])::A p1) S1 w'
 | 3=>∃ p1 S1 cs,Q cs p1 S1/\(cs.length=4/\∀ u∈cs,u.oneCell'=true)/\Inv w0 X (.blk b (.cells (c.setIfInBounds d xa) E)::aK xa ab 4 (css++[cs])::A p1) S1 w'
 | _=>False
variable {b d:Nat} {c:Array Value} {E:TypeId} {kv:Value} {css:List (List Value)} {F:Nat->List Item} {Q:List Value->Nat->ae->Prop} {xv xs xa:Value}
theorem NX {n:Nat} (h:GD w0 X b c d E kv css F Q xv xs xa w n) (hn:n<3):w.cell? ⟨b,d,none⟩=c[d]?:=by
 rcases n with _|_|_|n
 ·obtain ⟨f,S1,cs,_,_,_,a⟩:=h;exact a.cellL (i:=0) rfl
 ·obtain ⟨f,S1,cs,g,_,_,_,a⟩:=h;exact a.cellL (i:=0) rfl
 ·obtain ⟨f,S1,cs,_,_,a⟩:=h;exact a.cellL (i:=0) rfl
 ·omega
theorem ap1 {B:Prop} (h:wd B (GD w0 X b c d E kv css F Q xv xs xa w) 1) (hk:∀ u w',wd B (GD w0 X b c d E kv css F Q xv u xa w') 2->K u w'):Run Tryz.prog (bY vB 1 [(0,xv)]) w K:=by
 obtain ⟨g,S1,cs,i,hl,rfl,a⟩:=h;refine dQ a bx (by simp [Value.cells,hl.1]) (by omega) (by omega) fun f w' a=>?_;exact hk _ _ ⟨g,S1,cs,f,i,hl,rfl,a⟩
theorem ap2 {B:Prop} {ty:TypeId} {bs:List Bool} (h:wd B (GD w0 X b c d E kv css F Q xv xs xa w) 2) (j:css.length<=1000000) (hk:∀ u w',wd B (GD w0 X b c d E kv css F Q xv xs u w') 3->K u w'):Run Tryz.prog (ce .append #[vB,vB] ty bs [kv,xs]) w K:=by
 obtain ⟨g,S1,cs,l,r,hl,rfl,a⟩:=h;have f:(Item.blk b (.cells c E)::aK kv ab 4 css::(F g++[ay l cs.toArray ab]))[(F g).length+1+1]?=some (ay l cs.toArray ab):=by
  rw [nL,nL,jr (be _),fH];rfl
 refine eT a 1 cs bx (by omega) rfl (by rw [hl.1]) (m:=1) (o:=0) ?_ hl.2 (by omega) (by omega) fun t D a=>?_
 ·intro i u q;rw [a.cellL f,dr];simpa using q
 rw [fU] at a;refine hk _ _ ⟨g,S1,cs,r,hl,?_⟩;exact a.sub (((eh _ _).cons_cons _).cons_cons _)
theorem ap3 {B:Prop} {ty:TypeId} (h:wd B (GD w0 X b c d E kv css F Q xv xs xa w) 3) (hd:d<c.size) {K:Value->World->Prop} (hk:∀ w',wd B (GD w0 X b c d E kv css F Q xv xs xa w') 4->K undef w'):Run Tryz.prog (sOp (.store vB (.const (eu b d)) (.const xa)) ty) w K:=by
 obtain ⟨i,S1,cs,j,hl,f⟩:=h;obtain ⟨m,o,vc,a⟩:=Inv.rowSlice f 1 rfl;refine dD f 0 (n:=1) (by rw [a];rfl) (by decide +kernel) rfl (by omega) (by rw [a];simp [Value.cells,Value.oneCell']) fun l f=>?_;have g:Value.cells xa=#[xa]:=by rw [a];rfl
 have e:b0 c d (Value.cells xa).toList=c.setIfInBounds d xa:=by
  rw [g];apply Gw.1;simp only [b0,abk];have hl:d<c.toList.length:=by simpa using hd
  rw [DE,ai hl];simp
 rw [e] at f;exact hk _ ⟨i,S1,cs,j,hl,f⟩
end
abbrev dW (d:Nat):Nat:=6 * 3 ^ d
theorem ZH (d:Nat):6<=dW d:=by
 have:0<3 ^ d:=Nat.pow_pos (by omega);simp only [dW];omega
theorem aaC (d:Nat):dW (d+1)=3 * dW d:=by simp only [dW,Nat.pow_succ]; omega
abbrev abV (br:Nat) (sl:Value) (p d:Nat):Value->List Item->ae->Prop:=fun v I' S'=>∃ p',p'+2<=p+dW d/\I'=[rdI br sl p']/\∃ cs t,v=.agg cs.toArray/\RdT S' cs t/\wT t+3<=dW d/\okU 26 t
end
section
open Go Go.RowKit
theorem xp {l:List Int} {n a b:Int} (f:n∈l) (h:(l.all fun n=>decide (a<=n) && decide (n<=b))=true):a<=n/\n<=b:=by
 rw [eX] at h;have:=h n f;rw [aZ,bt,bt] at this;exact this
theorem Hi {l:List ByteArray} {s:ByteArray} {m:Nat} (a:s∈l) (h:(l.all fun s=>decide (s.size<=m))=true):s.size<=m:=by
 rw [eX] at h;have:=h s a
 rwa [bt] at this
theorem UR {Q B:Prop} {R:Nat->Prop} (a:Q->B) (f:∀ n,n<3->R n->B):∀ {n:Nat},wd Q R n->n<4->B
 | 0,h,_=>a h
 | n+1,h,hn=>f n (by omega) h
theorem qZ:∀ l m:List T,wL (l++m)=wL l+wL m
 | [],m=>by simp [wL]
 | t::l,m=>by simp only [i8,wL,qZ l m];omega
theorem aaB {n:Int} (h:0<=n/\n<26):okU 26 (.mk 1 n emptyB []):=by
 simp only [okU,du];exact ⟨by decide,fun _=>⟨h.1,h.2,trivial,trivial⟩,trivial,by decide⟩
theorem aaE {n:Int}:okU 26 (.mk 2 n emptyB []):=by
 simp only [okU,du];exact ⟨by decide,(fun h=>by cases h),trivial,by decide⟩
theorem N4 {s:ByteArray} {ts:List T} (a:s.size<=6) (h:du 26 ts):okU 26 (.mk 3 0 s ts):=by
 simp only [okU];exact ⟨by decide,(fun h=>by cases h),h,a⟩
theorem P8 {N:Nat}:∀ {l m:List T},du N l->du N m->du N (l++m)
 | [],_,_,h=>h
 | _::_,_,h,h'=>by
  rw [du] at h;rw [i8,du];exact ⟨h.1,P8 h.2 h'⟩
theorem rH {S:ae} {k n:Int} (hk:inI k) (hn:inI n):RdT S [ax k,ax n,.string ⟨#[]⟩,hV] (.mk k n emptyB []):=
 RdT.iff.2 ⟨_,rfl,hk,hn,bf _,mJ S⟩
section
variable {w0 w:World} {X:List Nat} {L:List Item} {S:ae} {K:Value->World->Prop} {P:Program}
attribute [local irreducible] Run CondV aF aT
theorem Run.callL {f:FuncId} {fn:Func} {args:hZ} {I:List Item} {Post:Value->List Item->ae->Prop}
  (hf:P.funcs[f]?=some fn) (hn:(fn.name == "runtime.NumGoroutine" || fn.body.isNone)=false) (h:Inv w0 X L S w) (hc:Tri P f args I S Post) (hL:L=L.dropLast++I)
  (hk:∀ v I' S' w',Post v I' S'->Ext w0.heap.size X S S'->Inv w0 X (L.dropLast++I') S' w'->K v w'):Run P (gX (.func (.func f) #[] #[]) args) w K:=
 Run.callE (A:=L.dropLast) hf hn (hL ▸ h) hc hk
theorem Ox {T:TypeId} {a f:Bool} {d:Nat} (hd:d<=1000000) (hk:K (ax (d:Int)) w):Run P (dH .sub T a f (ax ((d+1:Nat):Int)) (ax 1)) w K:=by
 refine je (by omega) ?_;rw [show ((d+1:Nat):Int) - 1=d by omega];exact hk
theorem OE {B:Prop} {b d:Nat} {c:Array Value} {E:TypeId} {kv xs xa:Value} {css:List (hZ)} {F:Nat->List Item} {Q:hZ->Nat->ae->Prop} {a:Nat} {S1:ae} {cs:hZ} {t:T}
  (g:Q cs a S1) (f:RdT S1 cs t) (h:Inv w0 X (ay b c E::aK kv ab 4 css::F a) S1 w):wd B (GD w0 X b c d E kv css F Q (.agg cs.toArray) xs xa w) 1:=
 ⟨a,S1,cs,g,⟨f.length,f.one⟩,rfl,h⟩
end
section
variable {br:Nat} {sl:Value} {ys:List Nat}
attribute [local irreducible] Run CondV aF aT
abbrev Ud (br:Nat) (sl:Value) (ys:List Nat) (d:Nat):Prop:=∀ (p:Nat) (S:ae),RdSl S 1 nZ sl ys->p+3 * dW d<=1000000000->Tri Tryz.prog Vm [rdP br,ax (d:Int)] [rdI br sl p] S (abV br sl p d)
theorem Mu {d:Nat} (d0:d<=4) (ih:∀ V,V+1=d->Ud br sl ys V):Ud br sl ys d:=by
 intro p S M hp w f;have hW:=ZH d;apply FM.2;dsimp only[FM,bl];refine aG f aV fun b4 w' f=>?_;have f:Inv w [br] [ay b4 bb ab,rdI br sl p] S w':=f.last 0 rfl;refine ⟨fun v w'=>∃ (c:Bool) (p1:Nat),v=.bool c/\p1<=p+1/\(c=false->2<=d)/\Inv w [br] [ay b4 bb ab,rdI br sl p1] S w',?_,?_⟩
 ·apply bM;by_cases hd:(d:Int)<2
  ·rw [aL hd];refine rpG ?_;exact ⟨true,p,rfl,by omega,(fun h=>by cases h),f⟩
  ·rw [aS hd];refine rpG ?_;refine Run.callL cG cH f (dU (n:=4) M (by omega) (by omega)) rfl fun v' I' S' w'=>?_;rintro ⟨rfl,rfl,k,hk,rfl⟩ _ f;apply bn;refine rpG ?_;exact ⟨_,p+1,rfl,by omega,fun _=>by omega,f⟩
 intro d1 _ _ _ _ _ _ w';rintro ⟨c,p1,rfl,d2,c4,f⟩;refine aE (fun _=>?_) (fun hc=>?_)
 ·refine Run.callL cG cH f (dU (n:=4) M (by omega) (by omega)) rfl fun v' I' S' w'=>?_;rintro ⟨rfl,rfl,k,hk,rfl⟩ _ f;have f:Inv w [br] [ay b4 bb ab,rdI br sl (p1+1)] S' w':=f;refine bn (aJ (fun _=>?_) (fun _=>?_))
  ·refine Run.callL cG cH f (dU (n:=4) M (by omega) (by omega)) rfl fun v' I' S1 w'=>?_;rintro ⟨rfl,rfl,k,hk,rfl⟩ _ f;refine Run.callPure HD JR f (yp k S1) fun w' f=>?_;refine aq f 0 rfl ac rfl rfl (by simp [Value.oneCell']) fun w' f=>?_;apply bm f 0 ac rfl rfl;exact ⟨_,_,S1,rfl,f.pick [false,true],Ext.refl _ _ _,p1+2,by omega,rfl,_,_,rfl,rH (by simp [inI]) (by simp only [inI];omega),by have e:emptyB.size=0:=rfl;simp only [wT,wL,cB,e];omega,aaB (by omega)⟩
  refine bn (aJ (fun _=>?_) (fun _=>?_))
  ·refine zS f (by kernel_rfl) rfl (by omega) fun v S1 w' r hv f=>?_;refine Run.callL gf gg f (mv (p:=p1+1) (M.monoU r.1) hv (by decide) (by omega)) rfl fun v' I' S2 w'=>?_;rintro ⟨rfl,rfl,n,hn,rfl⟩ _ f;have hn:=xp (a:=-1000) (b:=1000) hn (by decide);refine Run.callPure sN sK f (mI n S2) fun w' f=>?_;refine aq f 0 rfl ac rfl rfl (by simp [Value.oneCell']) fun w' f=>?_;apply bm f 0 ac rfl rfl;exact ⟨_,_,S2,rfl,f.pick [false,true],r,p1+2,by omega,rfl,_,_,rfl,rH (by simp [inI]) (by simp only [inI];omega),by have e:emptyB.size=0:=rfl;simp only [wT,wL,cB,e];omega,aaE⟩
  ·refine gT f (by kernel_rfl) rfl (by omega) fun v S1 w' r hv f=>?_;refine Run.callL mF mE f (Cn (p:=p1+1) (M.monoU r.1) hv (by decide) (by omega)) rfl fun v' I' S2 w'=>?_;rintro ⟨rfl,rfl,s,hs,rfl⟩ _ f;have hs:=Hi (m:=3) hs (by decide);refine Run.call0E eA eC f (fq s (by simp only [maxLen];omega) (mJ S2) (by simp)) fun v' I' S3 w'=>?_;rintro ⟨rfl,cs,rfl,g⟩ Z f;refine aq f 0 rfl ac (by simpa using g.length) rfl (by simpa using g.one) fun w' f=>?_;refine bm f 0 ac rfl (by simpa using g.length) ?_;exact ⟨_,_,S3,rfl,f.pick [false,true],r.trans Z,p1+2,by omega,rfl,_,_,rfl,g,by simp only [wT,wL,cB];omega,N4 (by omega) (by simp only [du])⟩
 obtain ⟨V,rfl⟩:∃ V,d=V+1:=⟨d - 1,by have:=c4 hc;omega⟩
 have ih:=ih V rfl;have hD:=ZH V;have f0:=aaC V;have h3:dW V<=486:=by
  have:3 ^ V<=3 ^ 4:=Ut (by omega) (by omega);simp only [dW];omega
 refine Run.callL cG cH f (dU (n:=3) M (by omega) (by omega)) rfl fun v' I' S w'=>?_;rintro ⟨rfl,rfl,k,hk,rfl⟩ _ f;refine bn (aJ (fun _=>?_) (fun _=>?_))
 ·refine Ox (by omega) (Run.callL mL mU f (ih (p1+1) S M (by omega)) rfl fun v' I' S1 w'=>?_);rintro ⟨p2,a9,rfl,d3,t1,rfl,a6,d4,c5⟩ r f;refine Ox (by omega) (Run.callL mL mU f (ih p2 S1 (M.monoU r.1) (by omega)) rfl fun v' I' S2 w'=>?_);rintro ⟨p3,b0,rfl,d6,t2,rfl,b3,d7,c6⟩ b6 f;have a6:=RdT.mono b6.1 a6;obtain ⟨e8,rfl,_,_,_,a1,q1,rfl,_⟩:=RdT.iff.1 a6;obtain ⟨e9,rfl,_,_,_,a2,q2,rfl,_⟩:=RdT.iff.1 b3;refine vu (v:=fun b=>.slice (some ⟨b,0,none⟩) 2 2) (o:=.cells #[ax t1.kind,ax t1.n,.string t1.name,.slice a1 t1.kids.length q1,ax t2.kind,ax t2.n,.string t2.name,.slice a2 t2.kids.length q2] ab) f (by kernel_rfl) fun b w' f=>?_;have f:Inv w [br] ([ay b4 bb ab,rdI br sl p3]++[_]) S2 w':=f;obtain ⟨S3,f,Z,O⟩:=f.pub1;refine Run.call0E eA eC f (fq ⟨#[46]⟩ (by decide) (Vu O (a6.mono Z.1) (b3.mono Z.1)) (by simp)) fun v' I' S4 w'=>?_;rintro ⟨rfl,cs,rfl,g⟩ a5 f;refine aq f 0 rfl ac (by simpa using g.length) rfl (by simpa using g.one) fun w' f=>?_;refine bm f 0 ac rfl (by simpa using g.length) ?_;refine ⟨_,_,S4,rfl,f.pick [false,true],(r.trans b6).trans (Z.trans a5),p3,by omega,rfl,_,_,rfl,g,?_,N4 (by decide) (by simp only [du];exact ⟨c5,c6,trivial⟩)⟩;have e:(ByteArray.mk #[46]).size=1:=rfl;simp only [wT,wL,bI,cB,e];omega
 ·refine gT f (by kernel_rfl) rfl (by omega) fun v S1 w' r hv f=>?_;refine Run.callL mF mE f (Cn (p:=p1+1) (M.monoU r.1) hv (by decide) (by omega)) rfl fun v' I' S2 w'=>?_;rintro ⟨rfl,rfl,s,hs,rfl⟩ _ f;have hs:=Hi (m:=3) hs (by decide);refine Run.call0E eA eC f (BP s (mJ S2) (by simp)) fun v' I' S3 w'=>?_;rintro ⟨rfl,kv0,a7,rfl,rfl,c7⟩ Z f;refine aG f aV fun b5 w' f=>?_;obtain ⟨a0,n0,q0,rfl⟩:=f.rowSlice 2 rfl;refine aq f 3 rfl ac rfl rfl (by simp [Value.oneCell']) fun w' f=>?_;obtain ⟨B4,c0⟩:∃ B4,B4=Item.blk b4 (.cells bb ab):=⟨_,rfl⟩
  have f:Inv w [br] [ay b5 #[ax 3,ax 0,.string s,.slice a0 n0 q0] ab,aK (.slice a0 n0 q0) ab 4 a7,B4,rdI br sl (p1+2)] S3 w':=by
   rw [c0];exact ((f.last 2 rfl).last 0 rfl).last 0 rfl
  refine zS f (by kernel_rfl) rfl (by omega) fun v S4 w' a5 hv f=>?_;refine Run.callL gf gg f (mv (p:=p1+2) (M.monoU ((r.trans Z).trans a5).1) hv (by decide) (by omega)) rfl fun v' I' S5 w'=>?_;rintro ⟨rfl,rfl,n,hn,rfl⟩ _ f;have hn:=xp (a:=1) (b:=3) hn (by decide);have c9:Ext w.heap.size [br] S S5:=(r.trans Z).trans a5;refine ⟨fun t w'=>∃ (j p2:Nat) (S6:ae) (kv:Value) (css:List (hZ)) (ts:List T),du 26 ts/\t=ax (j:Int)/\ts.length+j<=3/\Rows 4 (RdT S6) css ts/\wL ts+3 * ts.length<=ts.length * dW V/\p2+2 * ts.length<=p1+3+ts.length * dW V/\Ext w.heap.size [br] S S6/\
   Inv w [br] [ay b5 #[ax 3,ax 0,.string s,kv] ab,aK kv ab 4 css,B4,rdI br sl p2] S6 w',fun t _=>(intOf t).toNat,
   ⟨n.toNat,p1+3,S5,_,a7,[],by simp only [du],by rw [uW (by omega)],by simp;omega,c7.monoR fun _ _ h=>RdT.mono a5.1 h,by simp [wL],by simp,c9,f⟩,?_⟩
  intro t6 _ _ d9 e0 e1 e2 e3 e4 e5 e6 e7 _ _ w';rintro ⟨j,p2,S6,kv,css,ts,b7,rfl,hj,hR,a8,a9,b1,f⟩;have f1:=hR.hc;have hm:ts.length * dW V<=3 * dW V:=jw _ (by omega);refine ew (aJ (fun c8=>?_) (fun c8=>?_))
  ·obtain ⟨j',rfl⟩:∃ j',j=j'+1:=⟨j - 1,by omega⟩
   refine ⟨fun D z5 xN yU xj xH vC uk uB sT w_=>Fx D 0 [sT=eu b5 3,uB=kv,uk=rdP br,vC=ax ((V+1:Nat):Int),xH=ax (V:Int),True,True,True,z5=eu b5 3,True]/\∃ Y:Nat,Y<=4/\D 5=decide (1<=Y)/\D 6=decide (2<=Y)/\D 7=decide (3<=Y)/\D 9=decide (4<=Y)/\(D 9=true->D 1=true)/\(wd (Inv w [br] [ay b5 #[ax 3,ax 0,.string s,kv] ab,aK kv ab 4 css,B4,rdI br sl p2] S6 w_) (GD w [br] b5 #[ax 3,ax 0,.string s,kv] 3 ab kv css (fun p=>[B4,rdI br sl p]) (fun cs p' S'=>∃ t,okU 26 t/\RdT S' cs t/\wT t+3<=dW V/\p'+2<=p2+dW V/\Ext w.heap.size [br] S6 S') xj yU xN w_) Y),⟨Fx.nil _ _,⟨0,bf _,rfl,rfl,rfl,rfl,(aU),f.draw⟩⟩,⟨?_,?_,?_,?_,?_,?_,?_,?_,?_,?_,trivial⟩,?_⟩;all_goals (intro D bw;intros;rename_i z5 xN yU xj xH vC uk uB sT w_ b8;have N:=b8.1;obtain ⟨⟨co,cn,bP,cj,cA,bQ,bO,cM,de,dv,_⟩,⟨Y,a4,B,G,J,l,U,O⟩⟩:=b8)
   apply ah ao;rotate_left
   ·obtain rfl:=co ‹_›;have c2:=X1 l U bw;refine cS aj ((UR (fun h=>h.cellL (i:=0) rfl) (fun n hn h=>NX h hn) O c2).trans rfl) ?_;exact ⟨N.set 1 rfl,Y,a4,B,G,J,l,(fun _=>rfl),O⟩
   rotate_left;rotate_left;obtain rfl:=cj ‹_›;refine Ox (by omega) ?_;rotate_left
   ·obtain rfl:=bP ‹_›;obtain rfl:=cA ‹_›;obtain rfl:Y=0:=Af B bw;refine Run.callL mL mU (L:=[.blk b5 _,aK _ ab 4 css,B4,rdI br sl p2]) O (ih p2 S6 (M.monoU b1.1) (by omega)) rfl fun v' I' S7 w_=>?_;rintro ⟨p3,b0,rfl,cs,t,rfl,g,b9,b2⟩ a3 f;exact ⟨N.set 5 (by first|assumption|trivial),⟨1,by decide,rfl,(by first|exact G|rfl),(by first|exact J|rfl),(by first|exact l|rfl),U,OE ⟨t,b2,g,b9,b0,a3⟩ g f⟩⟩
   ·have PS:=bQ ‹_›;obtain rfl:Y=1:=iY B ‹D 5=true› G bw;refine ap1 O fun u w_ O=>?_;exact ⟨N.set 6 (by first|assumption|trivial),2,by decide,(by first|exact B|rfl),rfl,(by first|exact J|rfl),(by first|exact l|rfl),U,O⟩
   ·obtain rfl:=cn ‹_›;have Ky:=bO ‹_›;obtain rfl:Y=2:=iY G ‹D 6=true› J bw;refine ap2 O (by omega) fun u w_ O=>?_;exact ⟨N.set 7 (by first|assumption|trivial),3,by decide,(by first|exact B|rfl),(by first|exact G|rfl),rfl,(by first|exact l|rfl),U,O⟩
   apply ah ao;rotate_left
   ·obtain rfl:=de ‹_›;have Fi:=cM ‹_›;obtain rfl:Y=3:=iY J ‹D 7=true› l bw;refine ap3 O (by simp) fun w_ O=>?_;exact ⟨N.set 9 trivial,4,by decide,(by first|exact B|rfl),(by first|exact G|rfl),(by first|exact J|rfl),rfl,(fun _=>‹D 1=true›),O⟩
   all_goals try exact ⟨N.set _ (by first|rfl|assumption|trivial),Y,a4,B,G,J,l,U,O⟩
   obtain rfl:Y=4:=pH a4 l ‹D 9=true›;clear B G J l;obtain ⟨p3,S7,cs,⟨t,b2,g,b9,b0,a3⟩,hl,f⟩:=O;refine Ox (by omega) ?_;refine ⟨⟨j',p3,S7,_,_,ts++[t],P8 b7 (by simp only [du];exact ⟨b2,trivial⟩),rfl,by rw [bK];simp only [bI,cB];omega,(hR.monoR fun _ _ h=>RdT.mono a3.1 h).snoc g hl.1,?_,?_,b1.trans a3,f⟩,by simp only [intOf,dq];omega⟩
   ·rw [qZ,bK,bI,cB,Ej];simp only [wL];omega
   ·rw [bK,bI,cB,Ej];omega
  ·have f:Inv w [br] ([ay b5 #[ax 3,ax 0,.string s,kv] ab,B4,rdI br sl p2]++[aK kv ab 4 css]) S6 w':=f.last 1 rfl;apply av f 0 ac rfl rfl;obtain ⟨S7,a3,c1,f⟩:=Inv.lendExt f;have c3:=RowRd.rows (hR.monoR fun _ _ h=>RdT.mono a3.1 h) c1;obtain ⟨a,q,rfl,_⟩:=id c3;subst c0;refine aq f 1 rfl ac rfl rfl (by simp [Value.oneCell']) fun w' f=>?_;apply bm f 1 ac rfl rfl;refine ⟨_,_,S7,rfl,f.pick [false,false,true],b1.trans a3,p2,?_,rfl,[ax 3,ax 0,.string s,_],.mk 3 0 s ts,rfl,RdT.iff.2 ⟨_,rfl,by simp [inI,T.kind],by simp [inI,T.n],by simp only [T.name,maxLen];omega,c3⟩,?_,N4 (by omega) b7⟩
   ·have:ts.length=0 ∨ ts.length=1 ∨ ts.length=2 ∨ ts.length=3:=by omega
    rcases this with h|h|h|h <;> rw [h] at a9 a8 <;> omega
   ·simp only [wT];have:ts.length=0 ∨ ts.length=1 ∨ ts.length=2 ∨ ts.length=3:=by omega
    rcases this with h|h|h|h <;> rw [h] at a9 a8 ⊢ <;> omega
theorem sJ:∀ d:Nat,d<=4->Ud br sl ys d
 | 0,h=>Mu h fun a e=>by omega
 | d+1,h=>Mu h fun a e=>by
  obtain rfl:a=d:=by omega
  exact sJ _ (by omega)
abbrev ZZ (br:Nat) (sl:Value) (p k m:Nat):Value->List Item->ae->Prop:=fun v I' S'=>∃ p',p'<=p+k/\I'=[rdI br sl p']/\∃ cs t,v=.agg cs.toArray/\RdT S' cs t/\wT t<=m
theorem Bh {p:Nat} {S:ae} (i:RdSl S 1 nZ sl ys) (D:p<=400000000):kt UQ [rdP br] [rdI br sl p] S (ZZ br sl p 500 500):=by
 intro w f;apply E3.2;dsimp only[E3,aR];refine aG f aV fun q w' f=>?_;have f:Inv w [br] [ay q bb ab,rdI br sl p] S w':=f.last 0 rfl;refine zS f (by kernel_rfl) rfl (by omega) fun v S1 w' h r f=>?_;refine Run.callL gf gg f (mv (p:=p) (i.monoU h.1) r (by decide) (by omega)) rfl fun B I' S2 w'=>?_;rintro ⟨rfl,rfl,n,hn,rfl⟩ _ f;have hn:=xp (a:=1) (b:=4) hn (by decide);obtain ⟨m,rfl⟩:∃ m:Nat,n=m:=⟨n.toNat,by rw [uW (by omega)]⟩
 have J:dW m<=486:=by
  have:3 ^ m<=3 ^ 4:=Ut (by omega) (by omega);simp only [dW];omega
 refine Run.callL mL mU f (sJ m (by omega) (p+1) S2 (i.monoU h.1) (by omega)) rfl fun B I' S3 w'=>?_;rintro ⟨l,o,rfl,cs,t,rfl,g,G,_⟩ j f;refine aq f 0 rfl ac (by simpa using g.length) rfl (by simpa using g.one) fun w' f=>?_;refine bm f 0 ac rfl (by simpa using g.length) ?_;exact ⟨_,_,S3,rfl,f.pick [false,true],h.trans j,l,by omega,rfl,cs,t,rfl,g,by omega⟩
end
end
section
open Go Go.RowKit
def ER (w:World) (b o:Nat):Nat:=match w.cell? ⟨b,o,none⟩ with
 | some (.slice _ n _)=>n
 | _=>0
theorem aal {Q Q2 B:Prop} {R:Nat->Prop} (a:Q->B) (f:Q2->B) (g:∀ n,n<3->R n->B):∀ {n:Nat},wd Q (wd Q2 R) n->n<5->B
 | 0,h,_=>a h
 | 1,h,_=>f h
 | n+2,h,hn=>g n (by omega) h
theorem VV {Q:Prop} {R:Nat->Prop} {n:Nat} (h:R n):wd Q R (n+1):=h
theorem M2 {Q:Prop} {R:Nat->Prop} {n:Nat} (h:wd Q R (n+1)):R n:=h
section
variable {w0 w:World} {X:List Nat} {L A:List Item} {S:ae} {K:Value->World->Prop} {P:Program}
attribute [local irreducible] Run CondV aF aT
theorem AP (h:Inv w0 X L S w) {i b o:Nat} {c:Array Value} {E:TypeId} {a:Option Addr} {n m:Nat} (f:L[i]?=some (ay b c E)) (hc:c[o]?=some (.slice a n m)):ER w b o=n:=by
 rw [ER,h.cellL f,hc]
theorem Cx {b:Nat} {k n:Int} {s:ByteArray} {kv:Value} {css:List (hZ)} {g:List T} {o:Obj}
  (a:Inv w0 X (.blk b o::aK kv ab 4 css::A) S w) (hR:Rows 4 (RdT S) css g) (hk:inI k) (hn:inI n) (l:s.size<=maxLen) :
  ∃ S',Ext w0.heap.size X S S'/\Inv w0 X (.blk b o::A) S' w/\RdT S' [ax k,ax n,.string s,kv] (.mk k n s g)/\RdSl S' 4 (RdT S') kv g:=by
 have a:Inv w0 X ((.blk b o::A)++[aK kv ab 4 css]) S w:=a.last 1 rfl;obtain ⟨S',j,i,a⟩:=Inv.lendExt a;have f:=RowRd.rows (hR.monoR fun _ _ h=>RdT.mono j.1 h) i;exact ⟨S',j,a,RdT.iff.2 ⟨_,rfl,hk,hn,l,f⟩,f⟩
end
section
variable {br:Nat} {sl:Value} {ys:List Nat}
attribute [local irreducible] Run CondV aF aT
theorem oY {p:Nat} {S:ae} {cs:hZ} {t:T} (a5:RdSl S 1 nZ sl ys) (h:RdT S cs t) (hw:wT t<=100000) (hp:p<=400000000) :
  kt ON [rdP br,.agg cs.toArray] [rdI br sl p] S (ZZ br sl p 2 (wT t+100)):=by
 intro w f;have h0:=h;obtain ⟨kv0,rfl,hk,hn,hs,e2⟩:=RdT.iff.1 h;apply yv.2;dsimp only[yv,bl];refine bq f fun b3 w' f=>?_;refine aG f aV fun b4 w' f=>?_;refine av f 1 ac rfl rfl (Run.call0E fR fQ f (XR t S _ h0 (by omega)) fun v' I' S1 w'=>?_);rintro ⟨kv,css,rfl,rfl,hR⟩ r f;have r:Ext w.heap.size [br] S S1:=r;obtain ⟨a0,n0,q0,rfl⟩:=f.rowSlice 3 rfl;refine aG f aV fun Z w' f=>?_;refine aq f 4 rfl ac rfl rfl (by simp [Value.oneCell']) fun w' f=>?_;obtain ⟨B4,b9⟩:∃ B4,B4=Item.blk b4 (.cells bb ab):=⟨_,rfl⟩
 obtain ⟨k,a9⟩:∃ k,k=t.kind:=⟨_,rfl⟩
 obtain ⟨n,b0⟩:∃ n,n=t.n:=⟨_,rfl⟩
 obtain ⟨s,a6⟩:∃ s,s=t.name:=⟨_,rfl⟩
 have c9:wT t=s.size+t.kids.length+wL t.kids:=by rw [a6];cases t;rw [wT];rfl
 rw [<- a9,<- b0,<- a6] at f;rw [<- a9] at hk;rw [<- b0] at hn;rw [<- a6] at hs;have f:Inv w [br] [ay Z #[ax k,ax n,.string s,.slice a0 n0 q0] ab,aK (.slice a0 n0 q0) ab 4 css,B4,rdI br sl p] S1 w':=by
  rw [b9];exact (((f.pick [true,false,true,true,true]).last 2 rfl).last 1 rfl).last 0 rfl
 refine ⟨fun w'=>∃ (p1:Nat) (S2:ae) (l:hZ) (t1:T),p1<=p+2/\Ext w.heap.size [br] S S2/\RdT S2 l t1/\wT t1<=wT t+100/\Inv w [br] [ay Z l.toArray ab,B4,rdI br sl p1] S2 w',?_,?_⟩
 ·have V:∀ {k n:Int} {s1:ByteArray} {p1:Nat} {w':World} {S1:ae} {css:List (hZ)} {kv:Value} {Y:List T},Ext w.heap.size [br] S S1->p1<=p+2->inI k->inI n->s1.size<=s.size+7->Rows 4 (RdT S1) css Y->Y.length<=t.kids.length+5->wL Y<=wL t.kids->
    Inv w [br] [ay Z #[ax k,ax n,.string s1,kv] ab,aK kv ab 4 css,B4,rdI br sl p1] S1 w'->
    ∃ (p1:Nat) (S2:ae) (l:hZ) (t1:T),p1<=p+2/\Ext w.heap.size [br] S S2/\RdT S2 l t1/\wT t1<=wT t+100/\Inv w [br] [ay Z l.toArray ab,B4,rdI br sl p1] S2 w':=by
   intro k n s1 p1 w' S1 css kv Y hE a8 hk hn d2 hR b1 b2 f;obtain ⟨S2,O,f,G,_⟩:=Cx (s:=s1) f hR hk hn (by simp only [maxLen];omega);exact ⟨p1,S2,_,_,a8,hE.trans O,G,by rw [wT,c9];omega,f⟩
  refine Run.callL cG cH f (dU (n:=50) (a5.monoU r.1) (by omega) (by omega)) rfl fun v' I' S1 w'=>?_;rintro ⟨rfl,rfl,kk,d3,rfl⟩ _ f;refine bn (aJ (fun _=>?_) (fun _=>?_))
  ·refine zS f (by kernel_rfl) rfl (by omega) fun v S3 w' g hv f=>?_;refine Run.callL gf gg f (mv (p:=p+1) (a5.monoU (r.trans g).1) hv (by decide) (by omega)) rfl fun v' I' S3 w'=>?_;rintro ⟨rfl,rfl,m,hm,rfl⟩ _ f;have hm:=xp (a:=-1000) (b:=1000) hm (by decide);refine cX f 0 rfl aM aw rfl rfl rfl fun w' f=>?_;exact V (r.trans g) (be _) (by simp only [inI];omega) hn (by omega) (hR.monoR fun _ _ h=>RdT.mono g.1 h) (by omega) (be _) f
  refine bn (aJ (fun _=>?_) (fun _=>?_))
  ·refine zS f (by kernel_rfl) rfl (by omega) fun v S3 w' g hv f=>?_;refine Run.callL gf gg f (mv (p:=p+1) (a5.monoU (r.trans g).1) hv (by decide) (by omega)) rfl fun v' I' S3 w'=>?_;rintro ⟨rfl,rfl,m,hm,rfl⟩ _ f;have hm:=xp (a:=-1000) (b:=1000) hm (by decide);refine cX f 0 rfl aQ aw rfl rfl rfl fun w' f=>?_;exact V (r.trans g) (be _) hk (by simp only [inI];omega) (by omega) (hR.monoR fun _ _ h=>RdT.mono g.1 h) (by omega) (be _) f
  refine bn (aJ (fun _=>?_) (fun _=>?_))
  ·refine gT f (by kernel_rfl) rfl (by omega) fun v S3 w' g hv f=>?_;refine Run.callL mF mE f (Cn (p:=p+1) (a5.monoU (r.trans g).1) hv (by decide) (by omega)) rfl fun v' I' S3 w'=>?_;rintro ⟨rfl,rfl,m,hm,rfl⟩ _ f;have hm:=Hi (m:=7) hm (by decide);refine cX f 0 rfl aW aP rfl rfl rfl fun w' f=>?_;exact V (r.trans g) (be _) hk hn (by omega) (hR.monoR fun _ _ h=>RdT.mono g.1 h) (by omega) (be _) f
  refine bn (aJ (fun _=>?_) (fun _=>?_))
  ·refine ⟨fun w'=>∃ (S2:ae) (kv:Value) (css:List (hZ)) (Y:List T),Ext w.heap.size [br] S S2/\Rows 4 (RdT S2) css Y/\Y.length<=t.kids.length+5/\wL Y<=wL t.kids/\
     Inv w [br] [ay Z #[ax k,ax n,.string s,kv] ab,aK kv ab 4 css,B4,rdI br sl (p+1)] S2 w',fun w'=>5 - ER w' Z 3,⟨S1,_,css,t.kids,r,hR,by omega,be _,f⟩,?_⟩
   intro d4 d6 d7 d9 e0 e1 _ _ _ _ w';rintro ⟨S2,kv,css,Y,O,hR,b1,b2,f⟩;obtain ⟨a1,n1,q1,rfl,c7⟩:∃ a m c,kv=.slice a m c/\m=Y.length:=by
    obtain ⟨S',_,_,_,G⟩:=Cx f hR hk hn hs;obtain ⟨a,q,rfl,_⟩:=G;exact ⟨a,_,q,rfl,rfl⟩
   subst c7;have d0:=AP f (i:=0) (o:=3) rfl rfl;have e3:=hR.hc;refine ad f 0 rfl ao aj rfl (fJ ag (gJ (aJ (fun c5=>?_) (fun c5=>?_))))
   ·have f:=f;refine ⟨fun D oC j7 jt oH lK mC w_=>Fx D 0 [mC=eu Z 3,lK=.slice a1 Y.length q1,True,True,True,oC=eu Z 3,True]/\∃ n_:Nat,n_<=4/\D 2=decide (1<=n_)/\D 3=decide (2<=n_)/\D 4=decide (3<=n_)/\D 6=decide (4<=n_)/\(D 6=true->D 1=true)/\(wd (Inv w [br] [ay Z #[ax k,ax n,.string s,.slice a1 Y.length q1] ab,aK (.slice a1 Y.length q1) ab 4 css,B4,rdI br sl (p+1)] S2 w_) (GD w [br] Z #[ax k,ax n,.string s,.slice a1 Y.length q1] 3 ab (.slice a1 Y.length q1) css (fun p=>[B4,rdI br sl (p+1)]) (fun cs p' S'=>p'=p/\S'=S2/\RdT S2 cs (.mk 2 1 emptyB [])) oH jt j7 w_) n_),⟨Fx.nil _ _,⟨0,bf _,rfl,rfl,rfl,rfl,(aU),f.draw⟩⟩,⟨?_,?_,?_,?_,?_,?_,?_,trivial⟩,?_⟩;all_goals (intro D bw;intros;rename_i oC j7 jt oH lK mC w_ b6;have a2:=b6.1;obtain ⟨⟨co,cn,bP,cj,cA,bQ,bO,_⟩,⟨n_,a7,J,M,N,B,a3,U⟩⟩:=b6)
    ·apply ah ao;exact ⟨a2.set 0 rfl,n_,a7,J,M,N,B,a3,U⟩
    ·obtain rfl:=co ‹_›;have c1:=X1 B a3 bw;refine cS aj ((UR (fun h=>h.cellL (i:=0) rfl) (fun n hn h=>NX h hn) U c1).trans rfl) ?_;exact ⟨a2.set 1 rfl,n_,a7,J,M,N,B,(fun _=>rfl),U⟩
    ·obtain rfl:n_=0:=Af J bw;refine Run.callPure sN sK (L:=[.blk Z _,aK _ ab 4 css,B4,rdI br sl (p+1)]) U (mI 1 S2) fun w_ f=>?_;exact ⟨a2.set 2 (by first|assumption|trivial),⟨1,by decide,rfl,(by first|exact M|rfl),(by first|exact N|rfl),(by first|exact B|rfl),a3,OE ⟨rfl,rfl,rH (by simp [inI]) (by simp [inI])⟩ (rH (by simp [inI]) (by simp [inI])) f⟩⟩
    ·have e4:=bP ‹_›;obtain rfl:n_=1:=iY J ‹D 2=true› M bw;refine ap1 U fun u w_ U=>?_;exact ⟨a2.set 3 (by first|assumption|trivial),2,by decide,(by first|exact J|rfl),rfl,(by first|exact N|rfl),(by first|exact B|rfl),a3,U⟩
    ·obtain rfl:=cn ‹_›;have SV:=cj ‹_›;obtain rfl:n_=2:=iY M ‹D 3=true› N bw;refine ap2 U (by omega) fun u w_ U=>?_;exact ⟨a2.set 4 (by first|assumption|trivial),3,by decide,(by first|exact J|rfl),(by first|exact M|rfl),rfl,(by first|exact B|rfl),a3,U⟩
    ·apply ah ao;exact ⟨a2.set 5 rfl,n_,a7,J,M,N,B,a3,U⟩
    ·obtain rfl:=bQ ‹_›;have Ot:=cA ‹_›;obtain rfl:n_=3:=iY N ‹D 4=true› B bw;refine ap3 U (by simp) fun w_ U=>?_;exact ⟨a2.set 6 trivial,4,by decide,(by first|exact J|rfl),(by first|exact M|rfl),(by first|exact N|rfl),rfl,(fun _=>‹D 1=true›),U⟩
    obtain rfl:n_=4:=pH a7 B ‹D 6=true›;clear J M N B;obtain ⟨p3,S7,cs,⟨rfl,rfl,c8⟩,hl,f⟩:=U;have c2:=hR.snoc c8 hl.1;refine ⟨⟨S7,_,_,_,O,c2,by rw [bK];simp only [bI,cB];omega,by rw [qZ];have e:emptyB.size=0:=rfl;simp only [wL,wT,cB,e];omega,f⟩,?_⟩;obtain ⟨S',_,_,_,G⟩:=Cx f c2 hk hn hs;obtain ⟨a,q,e,_⟩:=G;have d1:=AP f (i:=0) (o:=3) (a:=a) (n:=(Y++[T.mk 2 1 emptyB []]).length) (m:=q) rfl (by rw [<- e];rfl);show 5 - ER w_ Z 3<5 - ER w' Z 3;rw [d0,d1,bK,bI,cB];omega
   ·exact V O (by omega) hk hn (by omega) hR b1 b2 f
  refine bn (aJ (fun _=>?_) (fun _=>?_))
  ·obtain ⟨S2,O,f,G,_⟩:=Cx f hR hk hn hs;have f:Inv w [br] [ay Z #[ax k,ax n,.string s,.slice a0 n0 q0] ab,B4,rdI br sl (p+1)] S2 w':=f;have ht:T.mk k n s t.kids=t:=by rw [a9,b0,a6];cases t;rfl
   rw [ht] at G;refine ⟨fun t6 w'=>∃ (j:Nat) (S3:ae) (l:hZ) (t1:T),t6=ax (j:Int)/\j<=30/\Ext w.heap.size [br] S S3/\RdT S3 l t1/\wT t1<=wT t+2 * j/\Inv w [br] [ay Z l.toArray ab,B4,rdI br sl (p+1)] S3 w',fun t6 _=>30 - (intOf t6).toNat,
    ⟨0,S2,_,t,rfl,by omega,r.trans O,G,by omega,f⟩,?_⟩
   intro t6 _ _ _ _ _ _ _ w';rintro ⟨j,S3,l,t1,rfl,hj,g,G,b7,f⟩;refine bM (aJ (fun c6=>?_) (fun c6=>?_))
   ·refine av f 0 ac rfl (by simpa using G.length) (dQ f bx (by simp [Value.cells,G.length]) (by omega) (by omega) fun b8 w' f=>?_);obtain ⟨S4,f,c0,U⟩:=f.pub1;refine Run.call0E eA eC f (fq ⟨#[115]⟩ (by decide) (YT U (G.mono c0.1)) (by simp)) fun v' I' S5 w'=>?_;rintro ⟨rfl,c3,rfl,a4⟩ c4 f;have f:Inv w [br] [ay Z l.toArray ab,B4,rdI br sl (p+1)] S5 w':=by simpa using f
    refine aq f 0 rfl ac (by simpa using a4.length) (by simpa using G.length) (by simpa using a4.one) fun w' f=>?_;refine bA (by omega) ?_;have e:(ByteArray.mk #[115]).size=1:=rfl;exact ⟨⟨j+1,S5,c3,_,rfl,by omega,g.trans (c0.trans c4),a4,by simp only [wT,wL,bI,cB,e];omega,f⟩,by simp only [intOf,dq];omega⟩
   ·exact ⟨p+1,S3,l,t1,by omega,g,G,by omega,f⟩
  ·exact V r (by omega) hk hn (by omega) hR (by omega) (be _) f
 (iterate 42 intro);intro w';rintro ⟨p1,S2,l,t1,a8,O,G,b7,f⟩;subst b9;refine av f 0 ac rfl (by simpa using G.length) (aq f 1 rfl ac (by simpa using G.length) rfl (by simpa using G.one) fun w' f=>?_);refine bm f 1 ac rfl (by simpa using G.length) ?_;exact ⟨_,_,S2,rfl,f.pick [false,false,true],O,p1,a8,rfl,l,t1,rfl,G,b7⟩
end
end
end Go.Proofs.YtellfcpffcipcaaGreatDoor
