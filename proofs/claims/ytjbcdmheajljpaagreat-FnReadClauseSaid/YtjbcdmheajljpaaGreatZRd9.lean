/- Code read back, the plain form: what impl's reader does; it follows what code says of its slots. -/
import Derived.Test.YtjbcdmheajljpaaGreatZRdA
import Derived.Test.YtjbcdmheajljpaaGreatZRd8
namespace Go.Proofs.YtjbcdmheajljpaaGreat
section
open Go Go.RowKit
def dx (n:Nat):T:=.mk 1 (n:Int) emptyB []
def Low (M:Nat) (st:bb):Prop:=∀ (n:Nat) (u:T),st[n]?=some (some u)->n<M/\okU M u
theorem pk {M:Nat} {st:bb} (a:Low M st) {t v:T} (h:eq st t v) (g:okU M t):okU M v:=by
 induction h with
 | stop=>exact g
 | step hk _ i=>exact i (a _ _ (dU.1 hk).2).2
theorem Q6 {M:Nat} {st:bb} (g:Low M st) {n:Nat} {t:T} (hn:n<M) (h:okU M t):Low M (st.set n (some t)):=by
 intro m u a;rw [BN] at a;split at a
 ·split at a
  ·rw [bj,bj] at a;rename_i e _
   subst e;rw [<- a];exact ⟨hn,h⟩
  ·cases a
 ·exact g m u a
def ZM (M:Nat):Job->Prop
 | .one a b=>okU M a/\okU M b
 | .list xs ys=>cM M xs/\cM M ys
theorem Uni.low {M:Nat} {st l:bb} {j:Job} {r:Bool} (B:Uni st j r l):Low M st->ZM M j->Low M l:=by
 induction B with
 | same=>exact fun h _=>h
 | occA=>exact fun h _=>h
 | occB=>exact fun h _=>h
 | clash=>exact fun h _=>h
 | nil=>exact fun h _=>h
 | bindA m o hk _ _=>
  intro h a;have g:=(pk h m a.1).var hk;exact Q6 h (by omega) (pk h o a.2)
 | bindB m o _ hk _=>
  intro h a;have g:=(pk h o a.2).var hk;exact Q6 h (by omega) (pk h m a.1)
 | kids m o _ _ _ _ p=>exact fun h a=>p h ⟨(pk h m a.1).kids,(pk h o a.2).kids⟩
 | stop _ p=>
  intro h a;obtain ⟨g,i⟩:=a;rw [cM] at g i;exact p h ⟨g.1,i.1⟩
 | go _ _ q t=>
  intro h a;obtain ⟨g,i⟩:=a;rw [cM] at g i;exact t (q h ⟨g.1,i.1⟩) ⟨g.2,i.2⟩
theorem oT {M:Nat} {st:bb} (a:Low M st) {σ τ:Int->T} (h:∀ n:Int,0<=n->n<M->σ n=τ n) (g:io σ st):io τ st:=by
 intro n u hn;obtain ⟨j,i⟩:=a n u hn;rw [<- h n (by omega) (by omega),g n u hn];exact kQ h u i
open Classical in
noncomputable def uniV (st:bb) (a b:T):Bool × bb:=if h:∃ p:Bool × bb,Uni st (.one a b) p.1 p.2 then h.choose else (false,st)
theorem lN {N:Nat} {st:bb} (i:Good N st) {a b:T} (j:okJ N (.one a b)):Uni st (.one a b) (uniV st a b).1 (uniV st a b).2:=by
 obtain ⟨r,g,l⟩:=X8 (unb st) st i (aY _) _ j;have h:∃ p:Bool × bb,Uni st (.one a b) p.1 p.2:=⟨(r,g),l⟩
 rw [uniV,dif_pos h];exact h.choose_spec
theorem mJ {N:Nat} {st:bb} (g:Good N st) {a b:T} (i:okJ N (.one a b)) {σ:Int->T} (j:io σ st) (l:sbT σ a=sbT σ b):(uniV st a b).1=true/\io σ (uniV st a b).2:=by
 have q:=lN g i;obtain ⟨o,p⟩:=q.sem g i σ;have m:(uniV st a b).1=true:=by
  cases h:(uniV st a b).1 with
  | true=>rfl
  | false=>exact absurd l (p h j)
 exact ⟨m,(o m).2 ⟨j,l⟩⟩
theorem kK {N:Nat} {st:bb} (g:Good N st) {a b:T} (h:okJ N (.one a b)) (i:(uniV st a b).1=true) {σ:Int->T} (j:io σ (uniV st a b).2):io σ st/\sbT σ a=sbT σ b:=
 (((lN g h).sem g h σ).1 i).1 j
structure RI where
 sl:Sl
 ar:Sl
 fr:Nat
 st:bb
def env (σ:Int->T) (f:Sl):Sl:=fun k=>(f k).map (sbT σ)
def ev (σ:Int->T) (s:RI):Ev:=⟨env σ s.sl,env σ s.ar⟩
def okSl (M:Nat) (f:Sl):Prop:=∀ k t,f k=some t->okU M t/\wB t
structure okRd (N:Nat) (s:RI):Prop where
 good:Good N s.st
 low:Low s.fr s.st
 le:s.fr<=N
 sl:okSl s.fr s.sl
 ar:okSl s.fr s.ar
theorem okSl.le {M M':Nat} {f:Sl} (h:okSl M f) (a:M<=M'):okSl M' f:=fun k t hk=>⟨cP a t (h k t hk).1,(h k t hk).2⟩
theorem okSl.upS {M:Nat} {f:Sl} (h:okSl M f) {t:T} (a:okU M t/\wB t) (n:Int):okSl M (upS f n t):=fun k u hk=>by
 by_cases e:k=n
 ·subst e;rw [fb,bj] at hk;subst hk;exact a
 ·rw [gj _ _ e] at hk;exact h k u hk
theorem Low.le {M M':Nat} {st:bb} (h:Low M st) (a:M<=M'):Low M' st:=fun n u hn=>⟨by have:=(h n u hn).1; omega,cP a u (h n u hn).2⟩
theorem gp (n:Nat):okU (n+1) (dx n)/\wB (dx n):=by
 unfold dx;rw [okU,cM,wB,wBL];exact ⟨⟨by decide,fun _=>⟨by omega,by omega,rfl,rfl⟩,trivial,by decide⟩,by decide,trivial⟩
theorem g8 (M:Nat) (n:Int):okU M (eH n)/\wB (eH n):=by
 unfold eH;rw [okU,cM,wB,wBL];exact ⟨⟨by decide,fun h=>absurd h (by decide),trivial,by decide⟩,by decide,trivial⟩
theorem gT {M:Nat} {nm:ByteArray} {ks:List T} (hn:nm.size<=6) (g:ks.length<=1048576) (h:∀ t∈ks,okU M t/\wB t):okU M (fnT nm ks)/\wB (fnT nm ks):=by
 unfold fnT;rw [okU,wB];exact ⟨⟨by decide,fun h=>absurd h (by decide),ix fun t a=>(h t a).1,hn⟩,g,TD fun t a=>(h t a).2⟩
theorem fg (σ:Int->T) (f:Sl) (n:Int) (t:T):env σ (upS f n t)=upS (env σ f) n (sbT σ t):=by
 funext k
 unfold env upS;split <;> rfl
theorem gH {M:Nat} {σ τ:Int->T} {f:Sl} (h:okSl M f) (a:∀ n:Int,0<=n->n<M->σ n=τ n):env σ f=env τ f:=by
 funext k
 unfold env;cases hk:f k with
 | none=>rfl
 | some t=>rw [jz,jz,kQ a t (h k t hk).1]
theorem gK {σ:Int->T} {f:Sl} {k:Int} {t:T} (h:env σ f k=some t):∃ u,f k=some u/\sbT σ u=t:=by
 unfold env at h
 rwa [fV] at h
theorem l3 (σ:Int->T) (n:Int):sbT σ (eH n)=eH n:=by rw [eH,sbT,ae (by decide),sbL]
theorem i8 (σ:Int->T) (nm:ByteArray) (ks:List T):sbT σ (fnT nm ks)=fnT nm (sbL σ ks):=by rw [fnT,sbT,ae (by decide)]; rfl
theorem DN (σ:Int->T):sbT σ oG=oG:=by rw [oG,sbT,ae (by decide),sbL]
theorem fp (σ:Int->T) (n:Nat):sbT σ (dx n)=σ (n:Int):=by rw [dx,sbT,ag rfl]
def Kw (σ:Int->T) (n:Nat) (t:T):Int->T:=fun m=>if m=(n:Int) then t else σ m
theorem iw (σ:Int->T) (n:Nat) (t:T):∀ m:Int,0<=m->m<n->σ m=Kw σ n t m:=fun m _ h=>by rw [Kw,ae (by omega)]
theorem oh (σ:Int->T) (n:Nat) (t:T):Kw σ n t (n:Int)=t:=ag rfl
def im:RI->List Ist->Option (RI × List T)
 | s,[]=>some (s,[])
 | s,x::xs=>
  if x.op=4 then (im ⟨upS s.sl x.a (dx s.fr),s.ar,s.fr+1,s.st⟩ xs).map fun r=>(r.1,dx s.fr::r.2)
  else if x.op=5 then (s.sl x.a).bind fun t=>(im s xs).map fun r=>(r.1,t::r.2)
  else if x.op=6 then (im s xs).map fun r=>(r.1,eH x.a::r.2)
  else none
noncomputable def unI (s:RI) (t u:T):Option RI:=if (uniV s.st t u).1=true then some ⟨s.sl,s.ar,s.fr,(uniV s.st t u).2⟩ else none
noncomputable def insI (s:RI) (x:Ist) (more:List Ist):Option RI:=
 if x.op=1 then (s.sl x.b).bind fun t=>(s.sl x.a).bind fun u=>unI s t u
 else if x.op=2 then (s.sl x.b).bind fun t=>unI s t (eH x.a)
 else if x.op=3 then (s.sl x.b).bind fun t=>(im s more).bind fun r=>unI r.1 t (fnT x.name r.2)
 else if x.op=7 then (im s more).map fun r=>⟨upS r.1.sl x.b (fnT x.name r.2),r.1.ar,r.1.fr,r.1.st⟩
 else if x.op=8 then some ⟨upS s.sl x.a (dx s.fr),upS s.ar x.b (dx s.fr),s.fr+1,s.st⟩
 else if x.op=9 then (s.sl x.a).map fun u=>⟨s.sl,upS s.ar x.b u,s.fr,s.st⟩
 else if x.op=10 then some ⟨s.sl,upS s.ar x.b (eH x.a),s.fr,s.st⟩
 else none
def r2 (a:Sl):Nat->Option (List T)
 | 0=>some []
 | k+1=>(r2 a k).bind fun l=>(a (k:Int)).map fun t=>l++[t]
def gQ (x:Ist):Int:=if x.op=3 ∨ x.op=7 then x.a else 0
noncomputable def readI:Nat->RI->List Ist->List T->Option (RI × List T)
 | 0,_,_,_=>none
 | _+1,_,[],_=>none
 | f+1,s,x::xs,out=>
  if x.op=14 then (if xs=[] then some (s,out) else none)
  else if x.op=13 then readI f s xs (out++[oG])
  else if x.op=11 ∨ x.op=12 then (if 0<=x.a/\x.a<=4 then (r2 s.ar x.a.toNat).bind fun ks=>readI f s xs (out++[fnT x.name ks]) else none)
  else if 0<=gQ x/\gQ x<=4/\gQ x<=xs.length then (insI s x (xs.take (gQ x).toNat)).bind fun s'=>readI f s' (xs.drop (gQ x).toNat) out
  else none
theorem okRd.fresh {N:Nat} {s:RI} (h:okRd N s) (hf:s.fr+1<=N) (a:Int):okRd N ⟨upS s.sl a (dx s.fr),s.ar,s.fr+1,s.st⟩:=
 ⟨h.good,h.low.le (vQ _),hf,(h.sl.le (vQ _)).upS (gp _) a,h.ar.le (vQ _)⟩
theorem mo {N:Nat}:∀ (xs:List Ist) {s s':RI} {us:List T},okRd N s->s.fr+xs.length<=N->im s xs=some (s',us)->okRd N s'/\s.fr<=s'.fr/\s'.fr<=s.fr+xs.length/\s'.st=s.st/\s'.ar=s.ar/\us.length=xs.length/\∀ t∈us,okU s'.fr t/\wB t
 | [],s,s',us,h,hl,g=>by
  rw [im,bj,c9] at g;obtain ⟨rfl,rfl⟩:=g;exact ⟨h,aY _,aY _,rfl,rfl,rfl,fun t i=>(by cases i)⟩
 | x::xs,s,s',us,h,hl,g=>by
  rw [aP] at hl;rw [im] at g;split at g
  ·rw [fV] at g;obtain ⟨⟨j,p⟩,q,l⟩:=g;rw [c9] at l;obtain ⟨rfl,rfl⟩:=l;obtain ⟨r,m,J,B,C,D,G⟩:=mo xs (h.fresh (by omega) x.a) (by show s.fr+1+xs.length<=N;omega) q;have m:s.fr+1<=j.fr:=m;have J:j.fr<=s.fr+1+xs.length:=J;refine ⟨r,by show s.fr<=j.fr;omega,by show j.fr<=_;rw [aP];omega,B,C,by rw [aP,aP,D],fun t i=>?_⟩;rcases dK.1 i with rfl|i
   ·exact ⟨cP m _ (gp _).1,(gp _).2⟩
   ·exact G t i
  ·split at g
   ·rw [fi] at g;obtain ⟨t,i,g⟩:=g;rw [fV] at g;obtain ⟨⟨j,p⟩,q,l⟩:=g;rw [c9] at l;obtain ⟨rfl,rfl⟩:=l;obtain ⟨r,m,J,B,C,D,G⟩:=mo xs h (by omega) q;refine ⟨r,m,by show j.fr<=_;rw [aP];omega,B,C,by rw [aP,aP,D],fun u o=>?_⟩;rcases dK.1 o with rfl|o
    ·exact ⟨cP m _ (h.sl _ _ i).1,(h.sl _ _ i).2⟩
    ·exact G u o
   ·split at g
    ·rw [fV] at g;obtain ⟨⟨j,p⟩,q,l⟩:=g;rw [c9] at l;obtain ⟨rfl,rfl⟩:=l;obtain ⟨r,m,J,B,C,D,G⟩:=mo xs h (by omega) q;refine ⟨r,m,by show j.fr<=_;rw [aP];omega,B,C,by rw [aP,aP,D],fun u o=>?_⟩;rcases dK.1 o with rfl|o
     ·exact g8 _ _
     ·exact G u o
    ·cases g
theorem sy {N:Nat} {s s':RI} {t u:T} (h:okRd N s) (i:okU s.fr t/\wB t) (j:okU s.fr u/\wB u) (a:unI s t u=some s'):okRd N s'/\s'.fr=s.fr/\s'.sl=s.sl/\s'.ar=s.ar:=by
 unfold unI at a;split at a
 ·rw [bj] at a;subst a;have l:okJ N (.one t u):=⟨⟨cP h.le t i.1,i.2⟩,⟨cP h.le u j.1,j.2⟩⟩
  have g:=lN h.good l;exact ⟨⟨(g.good h.good l).1,g.low h.low ⟨i.1,j.1⟩,h.le,h.sl,h.ar⟩,rfl,rfl,rfl⟩
 ·cases a
theorem mr {N:Nat} {s s':RI} {x:Ist} {more:List Ist} (h:okRd N s) (D:s.fr+more.length+1<=N) (G:more.length<=4) (hn:x.name.size<=6) (g:insI s x more=some s'):okRd N s'/\s.fr<=s'.fr/\s'.fr<=s.fr+more.length+1:=by
 unfold insI at g;split at g
 ·rw [fi] at g;obtain ⟨t,j,g⟩:=g;rw [fi] at g;obtain ⟨u,m,g⟩:=g;obtain ⟨i,l,_⟩:=sy h (h.sl _ _ j) (h.sl _ _ m) g;exact ⟨i,by omega,by omega⟩
 split at g
 ·rw [fi] at g;obtain ⟨t,j,g⟩:=g;obtain ⟨i,l,_⟩:=sy h (h.sl _ _ j) (g8 _ _) g;exact ⟨i,by omega,by omega⟩
 split at g
 ·rw [fi] at g;obtain ⟨t,j,g⟩:=g;rw [fi] at g;obtain ⟨⟨q,us⟩,o,g⟩:=g;obtain ⟨i,l,r,_,_,B,p⟩:=mo more h (by omega) o;obtain ⟨C,J,_⟩:=sy i ⟨cP l _ (h.sl _ _ j).1,(h.sl _ _ j).2⟩ (gT hn (by omega) p) g;exact ⟨C,by omega,by omega⟩
 split at g
 ·rw [fV] at g;obtain ⟨⟨q,us⟩,o,rfl⟩:=g;obtain ⟨i,l,r,_,_,B,p⟩:=mo more h (by omega) o;exact ⟨⟨i.good,i.low,i.le,i.sl.upS (gT hn (by omega) p) _,i.ar⟩,l,by show q.fr<=_;omega⟩
 split at g
 ·rw [bj] at g;subst g;have:=h.fresh (by omega) x.a;exact ⟨⟨this.good,this.low,this.le,this.sl,this.ar.upS (gp _) _⟩,vQ _,by show s.fr+1<=_;omega⟩
 split at g
 ·rw [fV] at g;obtain ⟨u,m,rfl⟩:=g;exact ⟨⟨h.good,h.low,h.le,h.sl,h.ar.upS (h.sl _ _ m) _⟩,aY _,by show s.fr<=_;omega⟩
 split at g
 ·rw [bj] at g;subst g;exact ⟨⟨h.good,h.low,h.le,h.sl,h.ar.upS (g8 _ _) _⟩,aY _,by show s.fr<=_;omega⟩
 ·cases g
theorem DA {M:Nat} {a:Sl} (h:okSl M a):∀ (k:Nat) {ks:List T},r2 a k=some ks->ks.length=k/\∀ t∈ks,okU M t/\wB t
 | 0,ks,e=>by
  rw [r2,bj] at e;subst e;exact ⟨rfl,fun t i=>(by cases i)⟩
 | k+1,ks,e=>by
  rw [r2,fi] at e;obtain ⟨l,j,e⟩:=e;rw [fV] at e;obtain ⟨t,i,rfl⟩:=e;obtain ⟨m,o⟩:=DA h k j;refine ⟨by simp [m],fun u g=>?_⟩;rcases cU.1 g with g|g
  ·exact o u g
  ·rw [bM.1 g];exact h _ _ i
theorem QZ {N:Nat} {v v':Sl} {xs:List Ist} {ks:List T} (C:Des v xs v' ks):∀ {s:RI} {σ:Int->T},okRd N s->s.fr+xs.length<=N->v=env σ s.sl->∃ s' us,im s xs=some (s',us)/\
  (∃ g:Int->T,(∀ n:Int,0<=n->n<s.fr->σ n=g n)/\v'=env g s'.sl/\ks=sbL g us)/\∀ τ,Des (env τ s.sl) xs (env τ s'.sl) (sbL τ us):=by
 induction C with
 | nil=>
  intro s σ h l i;exact ⟨s,[],rfl,⟨σ,fun _ _ _=>rfl,i,rfl⟩,fun τ=>.nil⟩
 | @var v v' a b nm t xs ks C r=>
  intro s σ h l i;rw [aP] at l;have O:=h.fresh (by omega) a;obtain ⟨s',us,m,⟨g,j,o,p⟩,q⟩:=r (s:=⟨upS s.sl a (dx s.fr),s.ar,s.fr+1,s.st⟩) (σ:=Kw σ s.fr t) O (by show s.fr+1+xs.length<=N;omega) (by
   show upS v a t=env _ (upS s.sl a (dx s.fr));rw [fg,fp,oh,i,gH h.sl (iw σ s.fr t)])
  refine ⟨s',dx s.fr::us,by rw [im,ag rfl,m];rfl,⟨g,fun n J M=>?_,o,?_⟩,fun τ=>?_⟩
  ·rw [<- j n J (by show n<((s.fr+1:Nat):Int);omega)];exact iw σ s.fr t n J M
  ·rw [sbL,fp,<- j s.fr (by omega) (by show (s.fr:Int)<((s.fr+1:Nat):Int);omega),oh,p]
  ·have:=q τ;have e:env τ (upS s.sl a (dx s.fr))=upS (env τ s.sl) a (τ s.fr):=by rw [fg,fp]
   rw [e] at this;rw [sbL,fp];exact .var this
 | @val v v' a b nm t xs ks B C r=>
  intro s σ h l i;rw [aP] at l;obtain ⟨s',us,m,⟨g,j,o,p⟩,q⟩:=r (s:=s) (σ:=σ) h (by omega) i;rw [i] at B;obtain ⟨u,D,G⟩:=gK B;refine ⟨s',u::us,by rw [im,ae (show ¬ (5:Int)=4 by decide),ag rfl,D,m];rfl,⟨g,j,o,?_⟩,fun τ=>?_⟩
  ·rw [sbL,p,<- G,kQ j u (h.sl _ _ D).1]
  ·rw [sbL];exact .val (by show (s.sl a).map _=_;rw [D];rfl) (q τ)
 | @int v v' a b nm xs ks C r=>
  intro s σ h l i;rw [aP] at l;obtain ⟨s',us,m,⟨g,j,o,p⟩,q⟩:=r (s:=s) (σ:=σ) h (by omega) i;refine ⟨s',eH a::us,by rw [im,ae (show ¬ (6:Int)=4 by decide),ae (show ¬ (6:Int)=5 by decide),ag rfl,m];rfl,⟨g,j,o,?_⟩,fun τ=>?_⟩
  ·rw [sbL,p,l3]
  ·rw [sbL,l3];exact .int (q τ)
theorem ju {f:Nat} {s s':RI} {op a b:Int} {nm:ByteArray} {ms g:List Ist} {out:List T} (h:op≠14/\op≠13/\op≠11/\op≠12) (i:gQ ⟨op,a,b,nm⟩=(ms.length:Int)) (l:ms.length<=4) (j:insI s ⟨op,a,b,nm⟩ ms=some s'):readI (f+1) s (⟨op,a,b,nm⟩::(ms++g)) out=readI f s' g out:=by
 rw [readI,ae h.1,ae h.2.1,ae (fun e=>by rcases e with e|e;exact h.2.2.1 e;exact h.2.2.2 e),i,ag (by rw [bt];omega),dH,List.take_left,List.drop_left,j];rfl
theorem z7 {σ:Int->T} {a:Sl}:∀ (k:Nat) {ks:List T},ks.length=k->(∀ i (h:i<ks.length),env σ a (i:Int)=some ks[i])->∃ us,r2 a k=some us/\ks=sbL σ us/\∀ τ i (h:i<(sbL τ us).length),env τ a (i:Int)=some (sbL τ us)[i]
 | 0,ks,hl,_=>⟨[],rfl,jM hl,fun τ i h=>by rw [sbL] at h;exact absurd h (Nat.not_lt_zero _)⟩
 | k+1,ks,hl,h=>by
  obtain ⟨us,q,o,r⟩:=z7 (σ:=σ) (a:=a) k (ks:=ks.take k) (by rw [ig];omega) (fun i g=>by
   rw [ig] at g;rw [h i (by omega),RP])
  obtain ⟨t,p,j⟩:=gK (h k (by omega));have m:us.length=k:=by have:=congrArg List.length o;rw [jp,ig] at this;omega
  refine ⟨us++[t],by rw [r2,q,dq,p];rfl,?_,fun τ i g=>?_⟩
  ·rw [mp,zA,<- mp,<- o,Gx,NW,j];have:=List.take_append_getElem (l:=ks) (i:=k) (by omega);rw [this,wd (by omega)]
  ·rw [jp,bt,lG] at g;simp only [mp,zA,Gx,NW];by_cases e:i<k
   ·have:=r τ i (by rw [jp];omega);rw [this,qR (by rw [ro];omega)];simp only [mp]
   ·have:i=k:=by omega
    subst this;rw [rQ (by rw [ro];omega)];simp only [ro,m,fB,pQ];show (a (i:Int)).map _=_;rw [p];rfl
def lim (x:Ist):Prop:=x.name.size<=6/\(x.op=3 ∨ x.op=7 ∨ x.op=11 ∨ x.op=12->x.a<=4)
theorem UN {N:Nat} {e e':Ev} {xs:List Ist} {o:List T} (hd:Den e xs e' o):∀ {s:RI} {σ:Int->T},okRd N s->e=ev σ s->io σ s.st->s.fr+xs.length<=N->(∀ x∈xs,lim x)->∀ (j:List Ist) (out:List T) (f:Nat),(xs++j).length<=f->
  ∃ J s' us,j.length<=J/\readI f s (xs++j) out=readI J s' j (out++us)/\okRd N s'/\s.fr<=s'.fr/\(∀ t∈us,okU s'.fr t/\wB t)/\
   (∃ σ':Int->T,(∀ n:Int,0<=n->n<s.fr->σ n=σ' n)/\io σ' s'.st/\o=sbL σ' us)/\∀ τ,io τ s'.st->io τ s.st/\∃ l,Den (ev τ s) xs l (sbL τ us):=by
 induction hd with
 | nil=>
  intro s σ h Z U hl C j out f hf;exact ⟨f,s,[],hf,by rw [gW,dk],h,aY _,fun t r=>(by cases r),⟨σ,fun _ _ _=>rfl,U,rfl⟩,fun τ r=>⟨r,_,.nil⟩⟩
 | @gval e e' a b nm t xs o h1 h2 hd ih=>
  intro s σ h Z U hl C j out f hf;subst Z;rw [aP] at hl;rw [dg,aP] at hf;obtain ⟨f,rfl⟩:∃ g,f=g+1:=⟨f - 1,by omega⟩
  obtain ⟨G,p,q1⟩:=gK h1;obtain ⟨t2,a7,q2⟩:=gK h2;have hj:okJ N (.one G t2):=⟨⟨cP h.le _ (h.sl _ _ p).1,(h.sl _ _ p).2⟩,⟨cP h.le _ (h.sl _ _ a7).1,(h.sl _ _ a7).2⟩⟩
  obtain ⟨u1,u2⟩:=mJ h.good hj U (q1.trans q2.symm);have D:insI s ⟨1,a,b,nm⟩ []=some ⟨s.sl,s.ar,s.fr,(uniV s.st G t2).2⟩:=by
   rw [insI,ag rfl,p,dq,a7,dq,unI,ag u1]
  obtain ⟨g1,g2,_⟩:=mr h (by simp;omega) (by simp) (C _ (bF ..)).1 D;obtain ⟨J,s',us,b1,b2,b3,V,b5,b6,b7⟩:=ih g1 rfl u2 (by show s.fr+xs.length<=N;omega) (fun y hy=>C y (bI _ hy)) j out f (by omega);refine ⟨J,s',us,b1,?_,b3,V,b5,b6,fun τ r=>?_⟩
  ·rw [dg,<- b2];exact ju (ms:=[]) ⟨by decide,by decide,by decide,by decide⟩ rfl (by simp) D
  ·obtain ⟨O,l,c2⟩:=b7 τ r;obtain ⟨d1,d2⟩:=kK h.good hj u1 O;exact ⟨d1,l,.gval (t:=sbT τ G) (by show (s.sl b).map _=_;rw [p];rfl) (by show (s.sl a).map _=_;rw [a7,d2];rfl) c2⟩
 | @gint e e' a b nm xs o h1 hd ih=>
  intro s σ h Z U hl C j out f hf;subst Z;rw [aP] at hl;rw [dg,aP] at hf;obtain ⟨f,rfl⟩:∃ g,f=g+1:=⟨f - 1,by omega⟩
  obtain ⟨G,p,q1⟩:=gK h1;have hj:okJ N (.one G (eH a)):=⟨⟨cP h.le _ (h.sl _ _ p).1,(h.sl _ _ p).2⟩,g8 _ _⟩
  obtain ⟨u1,u2⟩:=mJ h.good hj U (q1.trans (l3 σ a).symm);have D:insI s ⟨2,a,b,nm⟩ []=some ⟨s.sl,s.ar,s.fr,(uniV s.st G (eH a)).2⟩:=by
   rw [insI,ae (show ¬ (2:Int)=1 by decide),ag rfl,p,dq,unI,ag u1]
  obtain ⟨g1,g2,_⟩:=mr h (by simp;omega) (by simp) (C _ (bF ..)).1 D;obtain ⟨J,s',us,b1,b2,b3,V,b5,b6,b7⟩:=ih g1 rfl u2 (by show s.fr+xs.length<=N;omega) (fun y hy=>C y (bI _ hy)) j out f (by omega);refine ⟨J,s',us,b1,?_,b3,V,b5,b6,fun τ r=>?_⟩
  ·rw [dg,<- b2];exact ju (ms:=[]) ⟨by decide,by decide,by decide,by decide⟩ rfl (by simp) D
  ·obtain ⟨O,l,c2⟩:=b7 τ r;obtain ⟨d1,d2⟩:=kK h.good hj u1 O;rw [l3] at d2;exact ⟨d1,l,.gint (by show (s.sl b).map _=_;rw [p];exact congrArg some d2) c2⟩
 | @gstr e e' n b nm ms xs v' ks o hn h1 a6 hd ih=>
  intro s σ h Z U hl C j out f hf;subst Z;rw [aP,bt] at hl;rw [dg,aP,cN,bt] at hf;obtain ⟨f,rfl⟩:∃ g,f=g+1:=⟨f - 1,by omega⟩
  have Y:=C _ (bF ..);have c3:n<=4:=Y.2 (.inl rfl);obtain ⟨G,p,q1⟩:=gK h1;obtain ⟨q,B,a1,⟨σ1,a2,a3,a4⟩,a5⟩:=QZ a6 h (by omega) rfl;obtain ⟨o1,o2,o3,o4,o5,o6,o7⟩:=mo ms h (by omega) a1;have a0:=gT (M:=q.fr) Y.1 (by omega) o7;have a8:okU q.fr G/\wB G:=⟨cP o2 _ (h.sl _ _ p).1,(h.sl _ _ p).2⟩
  have hj:okJ N (.one G (fnT nm B)):=⟨⟨cP o1.le _ a8.1,a8.2⟩,⟨cP o1.le _ a0.1,a0.2⟩⟩
  have a9:io σ1 q.st:=by rw [o4];exact oT h.low a2 U
  obtain ⟨u1,u2⟩:=mJ o1.good hj a9 (by rw [i8,<- a4,<- q1];exact (kQ a2 G (h.sl _ _ p).1).symm);have D:insI s ⟨3,n,b,nm⟩ ms=some ⟨q.sl,q.ar,q.fr,(uniV q.st G (fnT nm B)).2⟩:=by
   rw [insI,ae (show ¬ (3:Int)=1 by decide),ae (show ¬ (3:Int)=2 by decide),ag rfl,p,dq,a1,dq,unI,ag u1]
  obtain ⟨g1,g2,g3⟩:=mr h (by omega) (by omega) Y.1 D;obtain ⟨J,s',us,b1,b2,b3,V,b5,⟨σ2,b6,b7,b8⟩,b9⟩:=ih (σ:=σ1) g1 (by
   show Ev.mk v' _=Ev.mk _ _;rw [a3]
   congr 1
   show env σ s.ar=env σ1 q.ar;rw [o5];exact gH h.ar a2) u2 (by show q.fr+xs.length<=N;omega) (fun y hy=>C y (bI _ (gy _ hy))) j out f (by omega)
  refine ⟨J,s',us,b1,?_,b3,il o2 V,b5,⟨σ2,fun m h0 hm=>?_,b7,b8⟩,fun τ r=>?_⟩
  ·rw [dg,cN,<- b2];exact ju ⟨by decide,by decide,by decide,by decide⟩ (by rw [gQ,ag (.inl rfl)];exact hn.symm) (by omega) D
  ·rw [a2 m h0 hm];exact b6 m h0 (by show m<(q.fr:Int);omega)
  ·obtain ⟨O,l,c2⟩:=b9 τ r;obtain ⟨d1,d2⟩:=kK o1.good hj u1 O;rw [o4] at d1;refine ⟨d1,l,.gstr (ks:=sbL τ B) (v':=env τ q.sl) hn (by show (s.sl b).map _=_;rw [p];exact congrArg some (d2.trans (i8 ..))) (a5 τ) ?_⟩;have:ev τ ⟨q.sl,q.ar,q.fr,(uniV q.st G (fnT nm B)).2⟩=⟨env τ q.sl,(ev τ s).a⟩:=by
    show Ev.mk _ (env τ q.ar)=Ev.mk _ (env τ s.ar);rw [o5]
   rw [<- this];exact c2
 | @sstr e e' n b nm ms xs v' ks o hn a6 hd ih=>
  intro s σ h Z U hl C j out f hf;subst Z;rw [aP,bt] at hl;rw [dg,aP,cN,bt] at hf;obtain ⟨f,rfl⟩:∃ g,f=g+1:=⟨f - 1,by omega⟩
  have Y:=C _ (bF ..);have c3:n<=4:=Y.2 (.inr (.inl rfl));obtain ⟨q,B,a1,⟨σ1,a2,a3,a4⟩,a5⟩:=QZ a6 h (by omega) rfl;obtain ⟨o1,o2,o3,o4,o5,o6,o7⟩:=mo ms h (by omega) a1;have a9:io σ1 q.st:=by rw [o4];exact oT h.low a2 U
  have D:insI s ⟨7,n,b,nm⟩ ms=some ⟨upS q.sl b (fnT nm B),q.ar,q.fr,q.st⟩:=by
   rw [insI,ae (show ¬ (7:Int)=1 by decide),ae (show ¬ (7:Int)=2 by decide),ae (show ¬ (7:Int)=3 by decide),ag rfl,a1];rfl
  obtain ⟨g1,g2,g3⟩:=mr h (by omega) (by omega) Y.1 D;obtain ⟨J,s',us,b1,b2,b3,V,b5,⟨σ2,b6,b7,b8⟩,b9⟩:=ih (σ:=σ1) g1 (by
   show Ev.mk (upS v' _ _) _=Ev.mk (env σ1 (upS q.sl b (fnT nm B))) _;rw [fg,i8,a3,a4]
   congr 1
   show env σ s.ar=env σ1 q.ar;rw [o5];exact gH h.ar a2) a9 (by show q.fr+xs.length<=N;omega) (fun y hy=>C y (bI _ (gy _ hy))) j out f (by omega)
  refine ⟨J,s',us,b1,?_,b3,il o2 V,b5,⟨σ2,fun m h0 hm=>?_,b7,b8⟩,fun τ r=>?_⟩
  ·rw [dg,cN,<- b2];exact ju ⟨by decide,by decide,by decide,by decide⟩ (by rw [gQ,ag (.inr rfl)];exact hn.symm) (by omega) D
  ·rw [a2 m h0 hm];exact b6 m h0 (by show m<(q.fr:Int);omega)
  ·obtain ⟨O,l,c2⟩:=b9 τ r;have O:io τ q.st:=O;rw [o4] at O;refine ⟨O,l,.sstr (ks:=sbL τ B) (v':=env τ q.sl) hn (a5 τ) ?_⟩;have:ev τ ⟨upS q.sl b (fnT nm B),q.ar,q.fr,q.st⟩=⟨upS (env τ q.sl) b (fnT nm (sbL τ B)),(ev τ s).a⟩:=by
    show Ev.mk (env τ (upS q.sl b (fnT nm B))) (env τ q.ar)=Ev.mk _ (env τ s.ar);rw [o5,fg,i8]
   rw [<- this];exact c2
 | @pvar e e' a b nm t xs o hd ih=>
  intro s σ h Z U hl C j out f hf;subst Z;rw [aP] at hl;rw [dg,aP] at hf;obtain ⟨f,rfl⟩:∃ g,f=g+1:=⟨f - 1,by omega⟩
  have D:insI s ⟨8,a,b,nm⟩ []=some ⟨upS s.sl a (dx s.fr),upS s.ar b (dx s.fr),s.fr+1,s.st⟩:=by
   rw [insI,ae (show ¬ (8:Int)=1 by decide),ae (show ¬ (8:Int)=2 by decide),ae (show ¬ (8:Int)=3 by decide),ae (show ¬ (8:Int)=7 by decide),ag rfl]
  obtain ⟨g1,g2,g3⟩:=mr h (by simp;omega) (by simp) (C _ (bF ..)).1 D;obtain ⟨J,s',us,b1,b2,b3,V,b5,⟨σ2,b6,b7,b8⟩,b9⟩:=ih (σ:=Kw σ s.fr t) g1 (by
   show Ev.mk (upS (env σ s.sl) a t) (upS (env σ s.ar) b t)=Ev.mk (env _ (upS s.sl a (dx s.fr))) (env _ (upS s.ar b (dx s.fr)));rw [fg,fg,fp,oh,gH h.sl (iw σ s.fr t),gH h.ar (iw σ s.fr t)]) (oT h.low (iw σ s.fr t) U) (by show s.fr+1+xs.length<=N;omega) (fun y hy=>C y (bI _ hy)) j out f (by omega)
  have V:s.fr+1<=s'.fr:=V;refine ⟨J,s',us,b1,?_,b3,by omega,b5,⟨σ2,fun m h0 hm=>?_,b7,b8⟩,fun τ r=>?_⟩
  ·rw [dg,<- b2];exact ju (ms:=[]) ⟨by decide,by decide,by decide,by decide⟩ rfl (by simp) D
  ·rw [iw σ s.fr t m h0 hm];exact b6 m h0 (by show m<((s.fr+1:Nat):Int);omega)
  ·obtain ⟨O,l,c2⟩:=b9 τ r;refine ⟨O,l,.pvar (t:=τ s.fr) ?_⟩;have:ev τ ⟨upS s.sl a (dx s.fr),upS s.ar b (dx s.fr),s.fr+1,s.st⟩=⟨upS (ev τ s).v a (τ s.fr),upS (ev τ s).a b (τ s.fr)⟩:=by
    show Ev.mk (env τ (upS s.sl a (dx s.fr))) (env τ (upS s.ar b (dx s.fr)))=Ev.mk _ _;rw [fg,fg,fp];rfl
   rw [<- this];exact c2
 | @pval e e' a b nm t xs o h1 hd ih=>
  intro s σ h Z U hl C j out f hf;subst Z;rw [aP] at hl;rw [dg,aP] at hf;obtain ⟨f,rfl⟩:∃ g,f=g+1:=⟨f - 1,by omega⟩
  obtain ⟨G,p,q1⟩:=gK h1;have D:insI s ⟨9,a,b,nm⟩ []=some ⟨s.sl,upS s.ar b G,s.fr,s.st⟩:=by
   rw [insI,ae (show ¬ (9:Int)=1 by decide),ae (show ¬ (9:Int)=2 by decide),ae (show ¬ (9:Int)=3 by decide),ae (show ¬ (9:Int)=7 by decide),ae (show ¬ (9:Int)=8 by decide),ag rfl,p];rfl
  obtain ⟨g1,g2,g3⟩:=mr h (by simp;omega) (by simp) (C _ (bF ..)).1 D;obtain ⟨J,s',us,b1,b2,b3,V,b5,b6,b9⟩:=ih (σ:=σ) g1 (by
   show Ev.mk (env σ s.sl) (upS (env σ s.ar) b t)=Ev.mk _ (env _ (upS s.ar b G));rw [fg,q1]) U (by show s.fr+xs.length<=N;omega) (fun y hy=>C y (bI _ hy)) j out f (by omega)
  refine ⟨J,s',us,b1,?_,b3,V,b5,b6,fun τ r=>?_⟩
  ·rw [dg,<- b2];exact ju (ms:=[]) ⟨by decide,by decide,by decide,by decide⟩ rfl (by simp) D
  ·obtain ⟨O,l,c2⟩:=b9 τ r;refine ⟨O,l,.pval (t:=sbT τ G) (by show (s.sl a).map _=_;rw [p];rfl) ?_⟩;have:ev τ ⟨s.sl,upS s.ar b G,s.fr,s.st⟩=⟨(ev τ s).v,upS (ev τ s).a b (sbT τ G)⟩:=by
    show Ev.mk (env τ s.sl) (env τ (upS s.ar b G))=Ev.mk _ _;rw [fg];rfl
   rw [<- this];exact c2
 | @pint e e' a b nm xs o hd ih=>
  intro s σ h Z U hl C j out f hf;subst Z;rw [aP] at hl;rw [dg,aP] at hf;obtain ⟨f,rfl⟩:∃ g,f=g+1:=⟨f - 1,by omega⟩
  have D:insI s ⟨10,a,b,nm⟩ []=some ⟨s.sl,upS s.ar b (eH a),s.fr,s.st⟩:=by
   rw [insI,ae (show ¬ (10:Int)=1 by decide),ae (show ¬ (10:Int)=2 by decide),ae (show ¬ (10:Int)=3 by decide),ae (show ¬ (10:Int)=7 by decide),ae (show ¬ (10:Int)=8 by decide),ae (show ¬ (10:Int)=9 by decide),ag rfl]
  obtain ⟨g1,g2,g3⟩:=mr h (by simp;omega) (by simp) (C _ (bF ..)).1 D;obtain ⟨J,s',us,b1,b2,b3,V,b5,b6,b9⟩:=ih (σ:=σ) g1 (by
   show Ev.mk (env σ s.sl) (upS (env σ s.ar) b (eH a))=Ev.mk _ (env _ (upS s.ar b (eH a)));rw [fg,l3]) U (by show s.fr+xs.length<=N;omega) (fun y hy=>C y (bI _ hy)) j out f (by omega)
  refine ⟨J,s',us,b1,?_,b3,V,b5,b6,fun τ r=>?_⟩
  ·rw [dg,<- b2];exact ju (ms:=[]) ⟨by decide,by decide,by decide,by decide⟩ rfl (by simp) D
  ·obtain ⟨O,l,c2⟩:=b9 τ r;refine ⟨O,l,.pint ?_⟩;have:ev τ ⟨s.sl,upS s.ar b (eH a),s.fr,s.st⟩=⟨(ev τ s).v,upS (ev τ s).a b (eH a)⟩:=by
    show Ev.mk (env τ s.sl) (env τ (upS s.ar b (eH a)))=Ev.mk _ _;rw [fg,l3];rfl
   rw [<- this];exact c2
 | @cut e e' a b nm xs o hd ih=>
  intro s σ h Z U hl C j out f hf;subst Z;rw [aP] at hl;rw [dg,aP] at hf;obtain ⟨f,rfl⟩:∃ g,f=g+1:=⟨f - 1,by omega⟩
  obtain ⟨J,s',us,b1,b2,b3,V,b5,⟨σ2,b6,b7,b8⟩,b9⟩:=ih (σ:=σ) h rfl U (by omega) (fun y hy=>C y (bI _ hy)) j (out++[oG]) f (by omega);refine ⟨J,s',oG::us,b1,?_,b3,V,fun t r=>?_,⟨σ2,b6,b7,by rw [sbL,DN,b8]⟩,fun τ r=>?_⟩
  ·rw [dg,readI,ae (show ¬ (13:Int)=14 by decide),ag rfl,b2,cN];rfl
  ·rcases dK.1 r with rfl|r
   ·exact gT (nm:=⟨#[33]⟩) (ks:=[]) (by decide) (by simp) (fun t r=>(by cases r))
   ·exact b5 t r
  ·obtain ⟨O,l,c2⟩:=b9 τ r;exact ⟨O,l,by rw [sbL,DN];exact .cut c2⟩
 | @call e e' op n b nm ks xs o b0 hn h1 hd ih=>
  intro s σ h Z U hl C j out f hf;subst Z;rw [aP] at hl;rw [dg,aP] at hf;obtain ⟨f,rfl⟩:∃ g,f=g+1:=⟨f - 1,by omega⟩
  have Y:=C _ (bF ..);have c3:n<=4:=Y.2 (by rcases b0 with e|e <;> simp [e]);obtain ⟨B,a1,a2,a3⟩:=z7 (σ:=σ) (a:=s.ar) ks.length rfl h1;obtain ⟨o1,o2⟩:=DA h.ar _ a1;obtain ⟨J,s',us,b1,b2,b3,V,b5,⟨σ2,b6,b7,b8⟩,b9⟩:=ih (σ:=σ) h rfl U (by omega) (fun y hy=>C y (bI _ hy)) j (out++[fnT nm B]) f (by omega);have a0:=gT (M:=s.fr) Y.1 (by omega) o2;refine ⟨J,s',fnT nm B::us,b1,?_,b3,V,fun t r=>?_,⟨σ2,b6,b7,?_⟩,fun τ r=>?_⟩
  ·have h5:¬ op=14:=by omega
   have h6:¬ op=13:=by omega
   rw [dg,readI,ae h5,ae h6,ag b0,ag (show 0<=n/\n<=4 by omega)];have e:(Ist.mk op n b nm).a.toNat=ks.length:=by show n.toNat=_;omega
   rw [e,a1,dq,b2,cN];rfl
  ·rcases dK.1 r with rfl|r
   ·exact ⟨cP V _ a0.1,a0.2⟩
   ·exact b5 t r
  ·rw [sbL,i8,b8]
   congr 2
   rw [a2];exact ub b6 B (ix fun t r=>(o2 t r).1)
  ·obtain ⟨O,l,c2⟩:=b9 τ r;refine ⟨O,l,?_⟩;rw [sbL,i8];exact .call b0 (by rw [jp,o1];exact hn) (fun i D=>a3 τ i D) c2
end
section
open Go Go.RowKit
mutual
def okH:T->Prop
 | .mk k n s ks=>((k=1/\0<=n/\n<26) ∨ (k=2/\-999<=n/\n<=999) ∨ (k=3/\fw s=true/\ks.length<=4))/\nF ks
def nF:List T->Prop
 | []=>True
 | t::ts=>okH t/\nF ts
end
theorem okH.kind {t:T} (h:okH t):(t.kind=1/\0<=t.n/\t.n<26) ∨ (t.kind=2/\-999<=t.n/\t.n<=999) ∨ (t.kind=3/\fw t.name=true/\t.kids.length<=4):=by
 cases t;rw [okH] at h;exact h.1
theorem okH.kids {t:T} (h:okH t):nF t.kids:=by cases t; rw [okH] at h; exact h.2
mutual
theorem Ib:∀ (t:T) (d:Int),dC t d=true->okH t
 | .mk k n s ks,d,h=>by
  rw [dC] at h;split at h
  ·cases h
  ·rw [bQ] at h;rw [okH];refine ⟨?_,Gb ks _ h.2⟩;have a:=h.1;unfold fR at a;by_cases g:(T.mk k n s ks).kind=1
   ·rw [ag g] at a;simp only [bQ,bK] at a;have l:n<=25:=a.2.1;exact .inl ⟨g,a.1,by omega⟩
   ·rw [ae g] at a;by_cases i:(T.mk k n s ks).kind=2
    ·rw [ag i] at a;simp only [bQ,bK] at a;exact .inr (.inl ⟨i,a.1,a.2.1⟩)
    ·rw [ae i] at a;by_cases j:(T.mk k n s ks).kind=3
     ·rw [ag j] at a;simp only [bQ,bK] at a;exact .inr (.inr ⟨j,a.2.1,a.2.2⟩)
     ·rw [ae j] at a;cases a
theorem Gb:∀ (ts:List T) (d:Int),de ts d=true->nF ts
 | [],_,_=>trivial
 | t::ts,d,h=>by
  rw [de,bQ] at h;rw [nF];exact ⟨Ib t d h.1,Gb ts d h.2⟩
end
theorem jI {t:T} (h:bY t=true):okH t:=by
 rw [bY,bQ] at h;exact Ib t _ h.1
theorem Nd:∀ {ts:List T},nF ts->∀ t∈ts,okH t
 | t::ts,h,x,a=>by
  rw [nF] at h;rcases dK.1 a with rfl|a
  ·exact h.1
  ·exact Nd h.2 x a
theorem Fb:∀ {ts:List T},(∀ t∈ts,okH t)->nF ts
 | [],_=>trivial
 | t::ts,h=>by rw [nF];exact ⟨h t (bF ..),Fb fun x a=>h x (bI _ a)⟩
def Lm (x:Ist):Prop:=(-999<=x.a/\x.a<=999/\0<=x.b/\x.b<=999)/\
 (((x.op=1 ∨ x.op=2 ∨ x.op=8 ∨ x.op=9 ∨ x.op=10)/\x.name=emptyB) ∨ ((x.op=3 ∨ x.op=7)/\fw x.name=true/\x.a<=4) ∨
   ((x.op=4 ∨ x.op=5 ∨ x.op=6)/\x.b=0/\x.name=emptyB) ∨ ((x.op=11 ∨ x.op=12)/\x.b=0/\fw x.name=true/\x.a<=4) ∨ ((x.op=13 ∨ x.op=14)/\x.a=0/\x.b=0/\x.name=emptyB))
def AllL (xs:List Ist):Prop:=∀ x∈xs,Lm x
theorem AllL.nil:AllL []:=fun x a=>(by cases a)
theorem AllL.cons {x:Ist} {xs:List Ist} (h:Lm x) (g:AllL xs):AllL (x::xs):=fun y a=>by
 rcases dK.1 a with rfl|a
 ·exact h
 ·exact g y a
theorem AllL.app {xs ys:List Ist} (h:AllL xs) (g:AllL ys):AllL (xs++ys):=fun y a=>by
 rcases cU.1 a with a|a
 ·exact h y a
 ·exact g y a
theorem Tz {op a:Int} (h:op=4 ∨ op=5 ∨ op=6) (g:-999<=a/\a<=999):Lm ⟨op,a,0,emptyB⟩:=⟨⟨g.1,g.2,fT _,(by decide:(0:Int)<=999)⟩,.inr (.inr (.inl ⟨h,rfl,rfl⟩))⟩
theorem Ja {op a b:Int} (i:op=1 ∨ op=2 ∨ op=8 ∨ op=9 ∨ op=10) (g:-999<=a/\a<=999) (h:0<=b/\b<=999):Lm ⟨op,a,b,emptyB⟩:=⟨⟨g.1,g.2,h.1,h.2⟩,.inl ⟨i,rfl⟩⟩
theorem ZH {op b:Int} {n:Nat} {nm:ByteArray} (g:op=3 ∨ op=7) (hn:n<=4) (h:fw nm=true) (a:0<=b/\b<=999):Lm ⟨op,n,b,nm⟩:=⟨⟨by show -999<=(n:Int); omega,by show (n:Int)<=999; omega,a.1,a.2⟩,.inr (.inl ⟨g,h,by show (n:Int)<=4; omega⟩)⟩
theorem ZO {op:Int} {n:Nat} {nm:ByteArray} (a:op=11 ∨ op=12) (hn:n<=4) (g:fw nm=true):Lm ⟨op,n,0,nm⟩:=⟨⟨by show -999<=(n:Int); omega,by show (n:Int)<=999; omega,fT _,(by decide:(0:Int)<=999)⟩,.inr (.inr (.inr (.inl ⟨a,rfl,g,by show (n:Int)<=4; omega⟩)))⟩
theorem ZG {op:Int} (a:op=13 ∨ op=14):Lm ⟨op,0,0,emptyB⟩:=⟨⟨(by decide:(-999:Int)<=0),(by decide:(0:Int)<=999),fT _,(by decide:(0:Int)<=999)⟩,.inr (.inr (.inr (.inr ⟨a,rfl,rfl,rfl⟩)))⟩
theorem Ri {s:CS} (h:Wf s) {t:T} (a:okH t) (g:t.kind≠3) (hn:s.next<=999):Lm (Gu s t):=by
 unfold Gu;have i:=h.four;rcases a.kind with hk|hk|hk
 ·rw [ae (by omega)];split
  ·have:=h.lt t.n;exact Tz (.inr (.inl rfl)) (by omega)
  ·exact Tz (.inl rfl) (by omega)
 ·rw [ag hk.1];exact Tz (.inr (.inr rfl)) hk.2
 ·exact absurd hk.1 g
theorem IR (s:CS) (t:T):(fy s t).next<=s.next+1:=by
 unfold fy;split
 ·show s.next<=s.next+1;omega
 ·split
  ·show s.next<=s.next+1;omega
  ·exact fT _
def Pd0 (q:List (T × Int)):Prop:=∀ p∈q,okH p.1/\0<=p.2/\p.1.kind=3
theorem Ra:∀ (ts:List T) {s:CS},Wf s->fc ts->nF ts->s.next+ts.length<=999->AllL (nC s ts)/\(bE s ts).1.next<=s.next+ts.length/\Pd0 (bE s ts).2
 | [],s,h,_,_,_=>⟨.nil,by rw [bE];show s.next<=_;simp,fun p a=>by rw [bE] at a;cases a⟩
 | t::ts,s,h,hg,ht,hn=>by
  rw [nF] at ht;rw [fc] at hg;rw [aP] at hn ⊢;have B:=h.four;obtain ⟨i,o⟩:=zy h hg.1;have key:Lm (Le s t)/\(cT s t).1.next<=s.next+1/\Pd0 (cT s t).2:=by
   unfold Le cT;split
   ·rename_i g
    refine ⟨Tz (.inl rfl) (by omega),fT _,fun p a=>?_⟩;rw [bM.1 a];exact ⟨ht.1,by show 0<=s.next;omega,g⟩
   ·rename_i g
    exact ⟨Ri h ht.1 g (by omega),IR s t,fun p a=>(by cases a)⟩
  obtain ⟨j,q,l⟩:=key;obtain ⟨m,r,b3⟩:=Ra ts i.wf hg.2 ht.2 (by omega);rw [nC,bE];refine ⟨.cons j m,?_,fun p a=>?_⟩
  ·show (bE (cT s t).1 ts).1.next<=_;omega
  ·rcases cU.1 a with a|a
   ·exact l p a
   ·exact b3 p a
theorem Me:∀ (ts:List T) (s:CS),(ts.length:Int)+cQ (bE s ts).2<=bo ts+(bE s ts).2.length/\(ts.length:Int)+2 * cQ (bE s ts).2<=2 * bo ts+(bE s ts).2.length
 | [],s=>by rw [bE];simp [cQ,bo]
 | t::ts,s=>by
  rw [bE,bo,aP];obtain ⟨a,g⟩:=Me ts (cT s t).1;have hc:=dw t;show _+((cQ ((cT s t).2++(bE (cT s t).1 ts).2):Nat):Int)<=_+(((cT s t).2++(bE (cT s t).1 ts).2).length:Nat)/\_+2 * ((cQ ((cT s t).2++(bE (cT s t).1 ts).2):Nat):Int)<=_+(((cT s t).2++(bE (cT s t).1 ts).2).length:Nat)
  rw [fS,bt];have h:((cQ (cT s t).2:Nat):Int)+1<=bR t+(cT s t).2.length/\2 * ((cQ (cT s t).2:Nat):Int)+1<=2 * bR t+(cT s t).2.length:=by
   unfold cT;split
   ·show (((bR t).toNat+0:Nat):Int)+1<=bR t+((1:Nat):Int)/\2 * (((bR t).toNat+0:Nat):Int)+1<=2 * bR t+((1:Nat):Int)
    omega
   ·show ((0:Nat):Int)+1<=bR t+((0:Nat):Int)/\2 * ((0:Nat):Int)+1<=2 * bR t+((0:Nat):Int)
    omega
  omega
theorem Pd0.w {q:List (T × Int)} (h:Pd0 q):∀ p∈q,okH p.1/\0<=p.2/\p.1.kind=3:=h
theorem OH:∀ (f:Nat) {s:CS} {q:List (T × Int)},Wf s->PdW q s.next->Pd0 q->s.next+cQ q<=999+q.length->s.next<=999->AllL (ow f s q)/\(fC f s q).next+q.length<=s.next+cQ q/\((ow f s q).length:Int)+q.length<=2 * cQ q
 | 0,s,q,h,hw,h0,hn,_=>by
  rw [ow,fC];have:q.length<=cQ q:=by
   clear h hw h0 hn;induction q with
   | nil=>exact aY _
   | cons x q r=>rw [cQ,aP];have:=dw x.1;omega
  exact ⟨.nil,by omega,by simp only [ce];omega⟩
 | f+1,s,[],h,hw,h0,hn,_=>by
  rw [ow,fC];exact ⟨.nil,by simp [cQ],by simp [cQ]⟩
 | f+1,s,x::q,h,hw,h0,hn,hn2=>by
  rw [ow,fC];have o:=hw x (bF ..);have g:=h0 x (bF ..);have j:=h.emit ⟨3,x.1.kids.length,x.2,x.1.name⟩;have hk:fw x.1.name=true/\x.1.kids.length<=4:=by
   have:=g.1.kind;have h3:=g.2.2;rcases this with e|e|e
   ·omega
   ·omega
   ·exact e.2
  have i:(bR x.1).toNat=1+(bo x.1.kids).toNat:=by
   have:=ch x.1.kids;obtain ⟨B,x2⟩:=x;cases B;simp only [bR,T.kids] at this ⊢;omega
  have U:=ch x.1.kids;rw [cQ,aP,i] at hn;have V:q.length<=cQ q:=by
   clear hw h0 hn;induction q with
   | nil=>exact aY _
   | cons x q r=>rw [cQ,aP];have:=dw x.1;omega
  have Y:(x.1.kids.length:Int)<=bo x.1.kids:=by
   have:∀ ts:List T,(ts.length:Int)<=bo ts:=fun ts=>by
    induction ts with
    | nil=>simp [bo]
    | cons t ts r=>rw [bo,aP];have:=dw t;omega
   exact this _
  obtain ⟨l,C⟩:=mP x.1.kids j o.1.kids;obtain ⟨D,m,b3⟩:=Ra x.1.kids j o.1.kids g.1.kids (by show s.next+_<=_;omega);obtain ⟨s1,s2⟩:=Me x.1.kids (s.emit ⟨3,x.1.kids.length,x.2,x.1.name⟩);have m:(bE (s.emit ⟨3,x.1.kids.length,x.2,x.1.name⟩) x.1.kids).1.next<=s.next+x.1.kids.length:=m;have Z:s.next<=(bE (s.emit ⟨3,x.1.kids.length,x.2,x.1.name⟩) x.1.kids).1.next:=l.next;obtain ⟨G,J,M⟩:=OH f (q:=q++(bE (s.emit ⟨3,x.1.kids.length,x.2,x.1.name⟩) x.1.kids).2) l.wf (fun p a=>by
   rcases cU.1 a with a|a
   ·obtain ⟨N,O,d3⟩:=hw p (bI _ a);exact ⟨N,O,by omega⟩
   ·exact C p a) (fun p a=>by
   rcases cU.1 a with a|a
   ·exact h0 p (bI _ a)
   ·exact b3 p a) (by rw [fS,bt];omega) (by omega)
  rw [fS,bt] at J M;refine ⟨.cons (ZH (.inl rfl) hk.2 hk.1 ⟨g.2.1,by omega⟩) (D.app G),?_,?_⟩
  ·rw [cQ,aP,i];omega
  ·rw [cQ,aP,aP,bt,tK,i];omega
theorem Eu:∀ (ts:List T) {s:CS} {i:Int},Wf s->0<=i->i+ts.length<=s.next->s.next<=999->fc ts->nF ts->AllL (iS s i ts)/\Pd0 (bz s i ts).2/\((iS s i ts).length:Int)+2 * cQ (bz s i ts).2<=2 * bo ts+(bz s i ts).2.length/\(cQ (bz s i ts).2:Int)<=bo ts
 | [],s,i,h,_,_,_,_,_=>by
  rw [iS,bz];exact ⟨.nil,fun p a=>(by cases a),by simp [cQ,bo],by simp [cQ,bo]⟩
 | t::ts,s,i,h,h0,hl,hn,hg,ht=>by
  rw [nF] at ht;rw [fc] at hg;rw [aP] at hl;obtain ⟨j,C,D⟩:=y8 h (i:=i) ⟨h0,by omega⟩ hg.1;obtain ⟨l,m,b3,G⟩:=Eu ts (s:=(bP s i t).1) (i:=i+1) j.wf (by omega) (by omega) (by omega) hg.2 ht.2;have hc:=dw t;have key:AllL (vo s i t)/\Pd0 (bP s i t).2/\((vo s i t).length:Int)+2 * cQ (bP s i t).2<=2 * bR t+(bP s i t).2.length/\(cQ (bP s i t).2:Int)<=bR t:=by
   unfold vo bP;rcases ht.1.kind with hk|hk|hk
   ·have g:¬ t.kind=2:=by have:=hk.1;omega
    simp only [ae g,ag hk.1];refine ⟨?_,fun p a=>(by cases a),?_,by simp only [cQ];omega⟩
    ·split
     ·have:=h.lt t.n;rename_i B
      exact .cons (Ja (.inl rfl) (by omega) (by omega)) .nil
     ·exact .nil
    ·split <;> simp only [cQ,ce,aP] <;> omega
   ·rw [ag hk.1,ag hk.1];exact ⟨.cons (Ja (.inr (.inl rfl)) hk.2 (by omega)) .nil,fun p a=>(by cases a),by simp only [cQ,ce,aP];omega,by simp only [cQ];omega⟩
   ·have g:¬ t.kind=2:=by have:=hk.1;omega
    have r:¬ t.kind=1:=by have:=hk.1;omega
    simp only [ae g,ae r];refine ⟨.nil,fun p a=>?_,by simp only [cQ,ce,aP];omega,by simp only [cQ];omega⟩;rw [bM.1 a];exact ⟨ht.1,h0,hk.1⟩
  obtain ⟨o,q,J,M⟩:=key;rw [iS,bz,bo];refine ⟨o.app l,fun p a=>?_,?_,?_⟩
  ·rcases cU.1 a with a|a
   ·exact q p a
   ·exact m p a
  ·show (((vo s i t++iS (bP s i t).1 (i+1) ts).length:Nat):Int)+2 * ((cQ ((bP s i t).2++(bz (bP s i t).1 (i+1) ts).2):Nat):Int)<=_+(((bP s i t).2++(bz (bP s i t).1 (i+1) ts).2).length:Nat)
   rw [fS,bt,bt];omega
  ·show ((cQ ((bP s i t).2++(bz (bP s i t).1 (i+1) ts).2):Nat):Int)<=_;rw [fS];omega
def nsT:List T->Nat
 | []=>0
 | t::ts=>(if t.kind=3 then 0 else 1)+nsT ts
def KN:List T->List Int->Prop
 | t::ts,x::vs=>(t.kind=3->0<=x)/\KN ts vs
 | _,_=>True
theorem Li:∀ (ts:List T) (vs:List Int) {s:CS},Wf s->fc ts->nF ts->vs.length=ts.length->KW s.next ts vs->KN ts vs->s.next+nsT ts<=999->AllL (kj s ts vs)/\(dd s ts vs).next<=s.next+nsT ts
 | [],[],s,h,_,_,_,_,_,_=>by
  rw [kj,dd]
  ·exact ⟨.nil,by simp [nsT]⟩
  all_goals simp
 | t::ts,x::vs,s,h,hg,ht,hl,hw,h0,hn=>by
  rw [nF] at ht;rw [fc] at hg;rw [KW] at hw;rw [KN] at h0;rw [nsT] at hn;rw [kj,dd];have m:=h.four;by_cases a:t.kind=3
  ·rw [ag a] at hn ⊢;rw [ag a];obtain ⟨g,i⟩:=Li ts vs (h.emit ⟨5,x,0,emptyB⟩) hg.2 ht.2 (by simpa using hl) hw.2 h0.2 (by show s.next+_<=_;omega);have:=hw.1 a;have:=h0.1 a;refine ⟨.cons (Tz (.inr (.inl rfl)) (by omega)) g,?_⟩;have i:(dd (s.emit ⟨5,x,0,emptyB⟩) ts vs).next<=s.next+nsT ts:=i;rw [nsT,ag a];omega
  ·rw [ae a] at hn ⊢;rw [ae a];have j:=tL h hg.1 a;have l:=IR s t;obtain ⟨g,i⟩:=Li ts vs j.wf hg.2 ht.2 (by simpa using hl) (.mono j.next ts vs hw.2) h0.2 (by omega);refine ⟨.cons (Ri h ht.1 a (by omega)) g,?_⟩;rw [nsT,ae a];omega
mutual
theorem LI:∀ (t:T) {s:CS},Wf s->okG t->okH t->t.kind=3->s.next+bR t<=999->AllL (jf t s)/\(bn t s).1.next<=s.next+bR t/\((jf t s).length:Int)+1<=2 * bR t
 | .mk k n nm ks,s,h,hg,ht,j,hn=>by
  have hk:=ht.kind;rw [okG] at hg;rw [okH] at ht;have a:bR (.mk k n nm ks)=1+bo ks:=by rw [bR]
  have J:=h.four;have g:fw nm=true/\ks.length<=4:=by
   have j:k=3:=j;rcases ht.1 with e|e|e
   ·omega
   ·omega
   ·exact e.2
  obtain ⟨i,l⟩:=tQ ks h hg.2;have q:s.next+bo ks+1<=999:=by rw [a] at hn; omega
  obtain ⟨m,C,D,o⟩:=RO ks h hg.2 ht.2 (by omega);have r:=(i.wf.emit ⟨7,ks.length,(bw ks s).1.next,nm⟩).inc;have M:(((bw ks s).1.emit ⟨7,ks.length,(bw ks s).1.next,nm⟩).inc).next=(bw ks s).1.next+1:=rfl;have B:=i.next;obtain ⟨p,G⟩:=Li ks (bw ks s).2 r hg.2 ht.2 (i7 ..) (.mono (by omega) _ _ l) o (by omega);rw [jf,bn,a];refine ⟨m.app (.cons (ZH (.inr rfl) g.2 g.1 (by omega)) p),?_,?_⟩
  ·show (dd _ ks _).next<=_;omega
  ·rw [bt,aP,tH _ _ _ (i7 ..)];omega
theorem RO:∀ (ts:List T) {s:CS},Wf s->fc ts->nF ts->s.next+bo ts<=999->AllL (l9 ts s)/\(bw ts s).1.next+nsT ts<=s.next+bo ts/\((l9 ts s).length:Int)+ts.length<=2 * bo ts/\KN ts (bw ts s).2
 | [],s,h,_,_,_=>by
  rw [l9,bw];refine ⟨.nil,by simp [nsT,bo],by simp [bo],?_⟩;rw [KN]; trivial; all_goals simp
 | t::ts,s,h,hg,ht,hn=>by
  rw [nF] at ht;rw [fc] at hg;rw [bo] at hn;have hc:=dw t;have B:=ch ts;have J:=h.four;have key:Xt s (if t.kind=3 then bn t s else (s,-1)).1/\AllL (if t.kind=3 then jf t s else [])/\(if t.kind=3 then bn t s else (s,-1)).1.next+(if t.kind=3 then 0 else 1:Nat)<=s.next+bR t/\((if t.kind=3 then jf t s else []).length:Int)+1<=2 * bR t/\(t.kind=3->0<=(if t.kind=3 then bn t s else (s,-1)).2):=by
   by_cases a:t.kind=3
   ·rw [ag a,ag a,ag a];obtain ⟨i,m,l⟩:=LI t h hg.1 ht.1 a (by omega);obtain ⟨j,C,D⟩:=lQ t h hg.1;exact ⟨j,i,by omega,l,fun _=>by omega⟩
   ·rw [ae a,ae a,ae a];exact ⟨.refl h,.nil,by show s.next+_<=_; omega,by simp only [ce]; omega,fun g=>absurd g a⟩
  rw [l9,bw,nsT,bo];generalize (if t.kind=3 then bn t s else (s,-1))=p at key ⊢;generalize (if t.kind=3 then jf t s else [])=px at key ⊢;obtain ⟨j,i,m,l,o⟩:=key;obtain ⟨q,G,b3,r⟩:=RO ts j.wf hg.2 ht.2 (by omega);refine ⟨i.app q,?_,?_,?_⟩
  ·show (bw ts p.1).1.next+_<=_;omega
  ·rw [bt,aP];omega
  ·show KN (t::ts) (p.2::(bw ts p.1).2);rw [KN];exact ⟨o,r⟩
end
theorem Xv {s:CS} (h:Wf s) {i:Int} (a:0<=i/\i<=999) {t:T} (j:okG t) (l:okH t) (hn:s.next+bR t<=999):AllL (GV s i t)/\(gb s i t).next<=s.next+bR t/\((GV s i t).length:Int)<=2 * bR t:=by
 have hc:=dw t;have G:=h.four;unfold GV gb;rcases l.kind with hk|hk|hk
 ·have g:¬ t.kind=2:=by have:=hk.1;omega
  simp only [ae g,ag hk.1];split
  ·rename_i q
   have:=h.lt t.n;exact ⟨.cons (Ja (by simp) (by omega) a) .nil,by show s.next<=_;omega,by simp only [aP,ce];omega⟩
  ·exact ⟨.cons (Ja (by simp) (by omega) a) .nil,by show s.next+1<=_;omega,by simp only [aP,ce];omega⟩
 ·rw [ag hk.1,ag hk.1];exact ⟨.cons (Ja (by simp) hk.2 a) .nil,by show s.next<=_;omega,by simp only [aP,ce];omega⟩
 ·have g:¬ t.kind=2:=by have:=hk.1;omega
  have p:¬ t.kind=1:=by have:=hk.1;omega
  simp only [ae g,ae p];obtain ⟨m,o,r⟩:=LI t h j l hk.1 (by omega);obtain ⟨B,C,D⟩:=lQ t h j;exact ⟨m.app (.cons (Ja (by simp) (by omega) a) .nil),o,by rw [bt];simp only [aP,ce];omega⟩
theorem QQ:∀ (ts:List T) {s:CS} {i:Int},Wf s->0<=i->i+ts.length<=999->fc ts->nF ts->s.next+bo ts<=999->AllL (oZ s i ts)/\(eP s i ts).next<=s.next+bo ts/\((oZ s i ts).length:Int)<=2 * bo ts
 | [],s,i,h,_,_,_,_,_=>by
  rw [oZ,eP];exact ⟨.nil,by simp [bo],by simp [bo]⟩
 | t::ts,s,i,h,h0,hi,hg,ht,hn=>by
  rw [nF] at ht;rw [fc] at hg;rw [bo] at hn ⊢;rw [aP] at hi;have j:=ch ts;obtain ⟨a,l,m⟩:=Xv h (i:=i) (by omega) hg.1 ht.1 (by omega);obtain ⟨g,o,b3⟩:=QQ ts (i:=i+1) (AB h i hg.1).wf (by omega) (by omega) hg.2 ht.2 (by omega);rw [oZ,eP];exact ⟨a.app g,by omega,by rw [bt];omega⟩
theorem GD:∀ (a:List T) {s:CS},Wf s->fc a->nF a->(∀ g∈a,g.kind=3)->s.next+bo a<=999->AllL (jc s a)/\(dR s a).next<=s.next+bo a/\((jc s a).length:Int)<=2 * bo a
 | [],s,h,_,_,_,_=>by
  rw [jc,dR];exact ⟨.nil,by simp [bo],by simp [bo]⟩
 | g::a,s,h,hg,ht,l,hn=>by
  rw [nF] at ht;rw [fc] at hg;rw [bo] at hn ⊢;have r:=ch a;have t:bR g=1+bo g.kids:=by cases g;rw [bR];rfl
  have B:=ch g.kids;have hk:fw g.name=true/\g.kids.length<=4:=by
   have l:=l g (bF ..);rcases ht.1.kind with e|e|e
   ·omega
   ·omega
   ·exact e.2
  have key:AllL (yA s g)/\(fM s g).next<=s.next+bR g/\((yA s g).length:Int)<=2 * bR g:=by
   unfold yA fM;split
   ·exact ⟨.cons (ZG (.inl rfl)) .nil,by show s.next<=_;omega,by simp only [aP,ce];omega⟩
   ·obtain ⟨j,o,p⟩:=QQ g.kids (i:=0) h (by decide) (by omega) hg.1.kids ht.1.kids (by omega);exact ⟨j.app (.cons (ZO (by split <;> simp) hk.2 hk.1) .nil),by show (eP s 0 g.kids).next<=_;omega,by rw [bt];simp only [aP,ce];omega⟩
  obtain ⟨j,o,p⟩:=key;obtain ⟨q,C,b3⟩:=GD a (tN h hg.1).wf hg.2 ht.2 (fun x m=>l x (bI _ m)) (by omega);rw [jc,dR];exact ⟨j.app q,by omega,by rw [bt];omega⟩
theorem wS:∀ {ts:List T},(∀ t∈ts,bY t=true)->bo ts<=120 * (ts.length:Int)
 | [],_=>by simp [bo]
 | t::ts,h=>by
  have g:=h t (bF ..);rw [bY,bQ,bK] at g;have:=wS fun x a=>h x (bI _ a);rw [bo,aP];omega
theorem K7 {c:C} (h:aZ c=true):AllL (dV c)/\(dV c).length<=2000:=by
 obtain ⟨i,p⟩:=jE h;obtain ⟨q,Y,Z⟩:=eU h;have a:=h;rw [aZ] at a;simp only [bQ,fF,bK] at a;have v1:bY c.head=true:=a.2.2.1;have v2:∀ t∈c.body,bY t=true:=fun t g=>by
  have:=a.2.1 t g;rw [fa,bQ] at this;exact this.1
 have J:=jI v1;have M:nF c.body:=Fb fun t g=>jI (v2 t g);have c1:bR c.head<=120:=by rw [bY,bQ,bK] at v1;exact v1.2
 have c2:=wS v2;have N:c.body.length<=6:=a.1;have O:bR c.head=1+bo c.head.kids:=by cases c.head;rw [bR];rfl
 have U:bo c.body<=720:=by omega
 have o:(0:Int)+c.head.kids.length<=startC.next:=by show (0:Int)+c.head.kids.length<=4;omega
 obtain ⟨j,l,m⟩:=lP c.head.kids ji (fT _) o i.kids;have m:(bz startC 0 c.head.kids).1.next=4:=m;obtain ⟨r,B,a3,a4⟩:=Eu c.head.kids ji (fT _) o (by decide) i.kids J.kids;obtain ⟨D,b2,b3⟩:=OH (cQ (bz startC 0 c.head.kids).2) j.wf l B (by omega) (by omega);have V:=qr (cQ (bz startC 0 c.head.kids).2) j.wf l;obtain ⟨G,e2,e3⟩:=GD c.body (s:=gq startC c.head.kids) V.wf p M q (by
  show (fC _ _ _).next+_<=_;omega)
 rw [gI,pC];refine ⟨(r.app (D.app G)).app (.cons (ZG (.inr rfl)) .nil),?_⟩;rw [bt,bt,bt,lG];omega
end
section
open Go Go.RowKit
def dO (n:Nat):Sl:=fun k=>if 0<=k/\k<n then some (dx k.toNat) else none
def gh (N n:Nat):RI:=⟨dO n,fun _=>none,n,List.replicate N none⟩
def eI (nm:ByteArray) (n:Nat):T:=fnT nm ((List.range n).map dx)
theorem NN (N:Nat):Good N (List.replicate N none):=⟨by simp,fun t a=>by simp at a,fun t a=>by simp at a,fun n=>n,fun n u g=>by
 have:=f0 g;simp at this⟩
theorem DJ (M N:Nat):Low M (List.replicate N none):=fun n u a=>by
 have:=f0 a;simp at this
theorem HU (n:Nat):okSl n (dO n):=fun k t hk=>by
 unfold dO at hk;split at hk
 ·rw [bj] at hk;subst hk;exact ⟨cP (by omega) _ (gp _).1,(gp _).2⟩
 ·cases hk
theorem tT {N n:Nat} (h:n<=N):okRd N (gh N n):=⟨NN N,DJ n N,h,HU n,fun k t hk=>(by cases hk)⟩
theorem pm {N n:Nat} {nm:ByteArray} (h:n<=N) (hn:nm.size<=6) (a:n<=1048576):okU N (eI nm n)/\wB (eI nm n):=by
 refine gT hn (by simpa using a) fun t g=>?_;obtain ⟨k,hk,rfl⟩:=ob.1 g;rw [List.mem_range] at hk;exact ⟨cP (by omega) _ (gp _).1,(gp _).2⟩
theorem xI {σ θ:Int->T} {nm:ByteArray} {ts:List T} (h:∀ j (h:j<ts.length),σ (j:Int)=sbT θ ts[j]):sbT σ (eI nm ts.length)=fnT nm (sbL θ ts):=by
 rw [eI,i8,mp,mp,List.map_map]
 congr 1
 refine List.ext_getElem (by simp) fun i g a=>?_;simp only [CU,List.getElem_range,Function.comp];rw [fp];exact h i (by simpa using a)
def nt (rs:List T):List T:=iu (ek rs []) rs
mutual
theorem Wd {N:Nat} (vs:List Int):∀ t:T,okU N t->jR vs t=mvT (pE vs) t
 | .mk k n s ks,h=>by
  rw [okU] at h;rw [jR,mvT];by_cases hk:k=1
  ·obtain ⟨_,_,a,g⟩:=h.2.1 hk;rw [ag hk,ag hk,a,g,hk];rfl
  ·rw [ae hk,ae hk,Gd vs ks h.2.2.1]
theorem Gd {N:Nat} (vs:List Int):∀ ts:List T,cM N ts->iu vs ts=mvL (pE vs) ts
 | [],_=>rfl
 | t::ts,h=>by
  rw [cM] at h;rw [iu,mvL,Wd vs t h.1,Gd vs ts h.2]
end
theorem WJ {N M:Nat} {f:Int->Int} {cs:List T} (l:cM M cs) (j:cM N (mvL f cs)) (hf:Ts f cs):nt (mvL f cs)=mvL (pE (ek cs [])) cs:=by
 have p:=pO cs [];have g:∀ x∈ek cs [],∃ m∈vTL cs,x=(m:Int):=fun x o=>by
  rw [<- qp _ _ l] at o;rcases (vZ cs [] l x).1 o with h|h
  ·cases h
  ·exact h
 have i:∀ a∈ek cs [],∀ b∈ek cs [],f a=f b->a=b:=fun a r b t e=>by
  obtain ⟨m,j,rfl⟩:=g a r;obtain ⟨k,hk,rfl⟩:=g b t;rw [hf m j k hk e]
 have q:=(zf (f:=f) (ws:=ek cs []) i cs [] (by simp) p).1;rw [NW] at q;rw [nt,Gd _ _ j,q,EJ];exact DG (fun n hn=>TH fun m j e=>i m j n hn e) cs p
theorem LV {c:C} (h:aZ c=true) {N:Nat} {f:Int->Int} (a:cM N (mvL f (c.head::c.body))) (hf:Ts f (c.head::c.body)):ofL (nt (mvL f (c.head::c.body)))=vD (cC c) c:=by
 obtain ⟨g,i,_⟩:=jx h;have l:cM 26 (c.head::c.body):=by rw [cM];exact ⟨g,ix i⟩
 obtain ⟨e,_,_,_⟩:=Kf h;obtain ⟨j,_,_⟩:=Jk h;rw [WJ l a hf,j,e];rfl
open Classical in
noncomputable def resV (st:bb) (ts:List T):List T:=if h:∃ us,Res st (.list ts us) then h.choose else []
theorem pi {N:Nat} {st:bb} (a:Good N st) {ts:List T} (g:cM N ts):Res st (.list ts (resV st ts)):=by
 have h:=MA a ts g;rw [resV,dif_pos h];exact h.choose_spec
noncomputable def finI (code:List Ist) (nm:ByteArray) (n:Nat) (s:RI) (us:List T):Option C:=
 if us.length<=6/\(resV s.st (eI nm n::us)).all dt=true/\aZ (ofL (nt (resV s.st (eI nm n::us))))=true/\dV (ofL (nt (resV s.st (eI nm n::us))))=code then some (ofL (nt (resV s.st (eI nm n::us)))) else none
noncomputable def rdCI (code:List Ist) (nm:ByteArray) (n:Int):Option C:=
 if 0<=n/\n<=4/\code.length<=2000 then (readI code.length (gh 4096 n.toNat) code []).bind fun r=>finI code nm n.toNat r.1 r.2 else none
theorem PS {x:Ist} (h:Lm x):lim x:=by
 obtain ⟨_,h|h|h|h|h⟩:=h
 ·exact ⟨by rw [h.2];decide,fun a=>by omega⟩
 ·exact ⟨iO h.2.1,fun _=>h.2.2⟩
 ·exact ⟨by rw [h.2.2];decide,fun a=>by omega⟩
 ·exact ⟨iO h.2.2.1,fun _=>h.2.2.2⟩
 ·exact ⟨by rw [h.2.2.2];decide,fun a=>by omega⟩
mutual
theorem Rt (f:Int->Int):∀ (t:T) (d:Int),nc (mvT f t) d=nc t d
 | .mk k n s ks,d=>by rw [mvT,nc,nc,RS f ks]
theorem RS (f:Int->Int):∀ (ts:List T) (d:Int),De (mvL f ts) d=De ts d
 | [],_=>rfl
 | t::ts,d=>by rw [mvL,De,De,Rt f t,RS f ts]
end
mutual
theorem Fi:∀ (t:T) (d:Int),dC t d=true->nc t d=true
 | .mk k n s ks,d,h=>by
  rw [dC] at h;rw [nc];split at h
  ·cases h
  ·rename_i a
   rw [bQ] at h;rw [ae a];exact Gp ks _ h.2
theorem Gp:∀ (ts:List T) (d:Int),de ts d=true->De ts d=true
 | [],_,_=>rfl
 | t::ts,d,h=>by
  rw [de,bQ] at h;rw [De,Fi t d h.1,Gp ts d h.2]; rfl
end
theorem CL {t:T} (h:bY t=true) (f:Int->Int):dt (mvT f t)=true:=by
 rw [bY,bQ,bK] at h;rw [dt,DF,Rt,Fi t 30 h.1,aD h.2];rfl
theorem DY {c:C} (h:aZ c=true) {N:Nat} {st:bb} (j:Good N st) {ts g:List T} (l:cM N ts) (m:Res st (.list ts g))
  (o:∀ τ,io τ st->∃ θ,sbL τ ts=sbL θ (c.head::c.body)) (p:∃ σ,io σ st/\sbL σ ts=c.head::c.body) :
  ∃ f,g=mvL f (c.head::c.body)/\Ts f (c.head::c.body)/\cM N g:=by
 obtain ⟨q,r,_⟩:=jx h;have hc:cM 26 (c.head::c.body):=by rw [cM];exact ⟨q,ix r⟩
 have i:=j.len;subst i;have a:cM st.length g:=(Dz j m l).1;have key:=X5 j l m;obtain ⟨κ,t⟩:=(key (c.head::c.body)).1 p;obtain ⟨τ,B,D⟩:=(key g).2 ⟨idS,Et g a⟩;obtain ⟨θ,G⟩:=o τ B;obtain ⟨f,J,M⟩:=We hc a ⟨θ,by rw [<- G,D]⟩ ⟨κ,t⟩;exact ⟨f,J,M,a⟩
theorem Vr {c:C} (h:aZ c=true) {N:Nat} {a:List T} {f:Int->Int} (e:a=mvL f (c.head::c.body)) (hf:Ts f (c.head::c.body)) (l:cM N a):a.all dt=true/\ofL (nt a)=vD (cC c) c:=by
 subst e;refine ⟨?_,LV h l hf⟩;rw [fF];intro t j;rw [Kn] at j;obtain ⟨u,i,rfl⟩:=ob.1 j;have g:=h;rw [aZ] at g;simp only [bQ,fF,bK] at g;rcases dK.1 i with rfl|i
 ·exact CL g.2.2.1 f
 ·have:=g.2.1 u i;rw [fa,bQ] at this;exact CL this.1 f
theorem DB {c:C} (h:aZ c=true) (θ:Int->T):sbT θ c.head=fnT c.head.name (sbL θ c.head.kids):=
 tu ⟨(eU h).2.1,by have:=(jE h).1.kind;have:=(eU h).2.1;omega⟩
theorem z3 {c:C} (h:aZ c=true):rdCI (dV c) c.head.name c.head.kids.length=some (vD (cC c) c):=by
 obtain ⟨l1,l2⟩:=K7 h;obtain ⟨t1,t3,t2⟩:=eU h;have V:c.head.name.size<=6:=by
  have l:=h;rw [aZ] at l;simp only [bQ] at l;have:=jI l.2.2.1;rcases this.kind with e|e|e
  ·omega
  ·omega
  ·exact iO e.2.1
 have Y:∀ x∈pC c,lim x:=fun x hx=>PS (l1 x (by rw [gI];exact gf _ hx));have a0:(pC c).length+1=(dV c).length:=by rw [gI,bt];rfl
 have h0:=tT (N:=4096) (n:=c.head.kids.length) (by omega)
 -- for each instance of the clause
 have key:∀ θ:Int->T,∃ s' us,readI (dV c).length (gh 4096 c.head.kids.length) (dV c) []=some (s',us)/\okRd 4096 s'/\(∀ t∈us,okU s'.fr t/\wB t)/\(∃ σ,io σ s'.st/\sbL σ (eI c.head.name c.head.kids.length::us)=sbL θ (c.head::c.body))/\
   ∀ τ,io τ s'.st->∃ D,sbL τ (eI c.head.name c.head.kids.length::us)=sbL D (c.head::c.body):=by
  intro θ
  let σ:Int->T:=fun n=>match c.head.kids[n.toNat]? with|some t=>sbT θ t|none=>oG
  have hσ:∀ j (i:j<c.head.kids.length),σ (j:Int)=sbT θ c.head.kids[j]:=fun j i=>by
   show (match c.head.kids[(j:Int).toNat]? with|some t=>sbT θ t|none=>oG)=_;rw [dH,me i]
  have hA:Args θ 0 c.head.kids (env σ (dO c.head.kids.length)):=fun j i=>by
   rw [BI];show (dO c.head.kids.length (j:Int)).map _=_;rw [dO,ag (by omega),jz,dH,fp,hσ j i]
  obtain ⟨e',hd⟩:=Vw h θ (a:=env σ fun _=>none) hA;obtain ⟨q,s',us,b1,r,b3,b4,b5,⟨σ',b6,b7,b8⟩,b9⟩:=UN hd (s:=gh 4096 c.head.kids.length) (σ:=σ) h0 rfl (fun n u hn=>absurd (DJ 0 4096 n u hn).1 (Nat.not_lt_zero _)) (by show c.head.kids.length+_<=4096;omega) Y [⟨14,0,0,emptyB⟩] [] (dV c).length (by rw [<- gI];exact aY _);rw [<- gI] at r;obtain ⟨q,rfl⟩:∃ g,q=g+1:=⟨q - 1,by simp only [lG] at b1;omega⟩
  rw [readI,ag rfl,ag rfl,gW] at r;refine ⟨s',us,r,b3,b5,⟨σ',b7,?_⟩,fun τ p=>?_⟩
  ·rw [sbL,sbL,<- b8,DB h,xI fun j i=>?_];rw [<- b6 j (by omega) (by show (j:Int)<(c.head.kids.length:Int);omega),hσ j i]
  ·obtain ⟨_,a1,B⟩:=b9 τ p;obtain ⟨D,G,J⟩:=NA h (fun j i=>by
    refine ⟨τ (j:Int),?_⟩;show (dO c.head.kids.length (j:Int)).map _=_;rw [dO,ag (by omega),jz,dH,fp]) B
   refine ⟨D,?_⟩;rw [sbL,sbL,J,DB h,xI fun j i=>?_];have:=G j i;rw [BI] at this;have this:(dO c.head.kids.length (j:Int)).map (sbT τ)=_:=this;rw [dO,ag (by omega),jz,dH,fp,bj] at this;exact this
 obtain ⟨s',us,e1,M,e3,O,e5⟩:=key idS;obtain ⟨o1,o2,_⟩:=jx h;have hc:cM 26 (c.head::c.body):=by rw [cM];exact ⟨o1,ix o2⟩
 rw [Et _ hc] at O;have m:cM 4096 (eI c.head.name c.head.kids.length::us):=by
  rw [cM];exact ⟨(pm (by omega) V (by omega)).1,ix fun t p=>cP M.le _ (e3 t p).1⟩
 have o:=pi M.good m;obtain ⟨f,v1,v2,v3⟩:=DY h M.good m o e5 O;obtain ⟨w1,U⟩:=Vr h v1 v2 v3;have Z:us.length<=6:=by
  obtain ⟨σ,_,he⟩:=O;have:=congrArg List.length he;rw [jp,aP,aP] at this;have l:=h;rw [aZ] at l;simp only [bQ,bK] at l;omega
 rw [rdCI,ag ⟨by omega,by omega,l2⟩,dH,e1,dq,finI,ag ⟨Z,w1,by rw [U];exact I8 h,by rw [U];exact N9 h⟩,U]
theorem HJ {code:List Ist} {nm:ByteArray} {n:Int} {c:C} (h:rdCI code nm n=some c):aZ c=true/\dV c=code:=by
 unfold rdCI at h;split at h
 ·rw [fi] at h;obtain ⟨r,_,h⟩:=h;unfold finI at h;split at h
  ·rename_i hc
   rw [bj] at h;subst h;exact ⟨hc.2.2.1,hc.2.2.2⟩
  ·cases h
 ·cases h
end
section
open Go Go.RowKit
def dfI (x:Ist):List Int:=if x.op=4 ∨ x.op=8 then [x.a] else if x.op=7 then [x.b] else []
def dfL:List Ist->List Int
 | []=>[]
 | x::xs=>dfI x++dfL xs
theorem lp:∀ xs ys:List Ist,dfL (xs++ys)=dfL xs++dfL ys
 | [],_=>rfl
 | x::xs,ys=>by rw [dg,dfL,dfL,lp xs ys,cN]
def AH:Nat->List Int
 | 0=>[]
 | n+1=>AH n++[(n:Int)+4]
theorem KG:∀ (n:Nat) (k:Int),k∈AH n->4<=k/\k<n+4
 | 0,_,h=>by cases h
 | n+1,k,h=>by
  rw [AH] at h;rcases cU.1 h with h|h
  ·have:=KG n k h;omega
  ·rw [bM.1 h];omega
theorem Fq:∀ n:Nat,(AH n).Nodup
 | 0=>Az
 | n+1=>by
  rw [AH,mK];refine ⟨Fq n,by simp,fun a g b h=>?_⟩;have:=KG n a g;rw [bM.1 h];omega
def pbI (x:Ist):Prop:=x.op=8 ∨ x.op=9 ∨ x.op=10->0<=x.b/\x.b<4
theorem pbN {op a b:Int} {nm:ByteArray} (h:¬ (op=8 ∨ op=9 ∨ op=10)):pbI ⟨op,a,b,nm⟩:=fun e=>absurd e h
structure FrC (s:CS):Prop where
 four:4<=s.next
 df:dfL s.code=AH (s.next - 4).toNat
 pb:∀ x∈s.code,pbI x
theorem Vx {xs:List Ist} (h:∀ x∈xs,pbI x) {x:Ist} (g:pbI x):∀ y∈xs++[x],pbI y:=fun y a=>by
 rcases cU.1 a with a|a
 ·exact h y a
 ·rw [bM.1 a];exact g
theorem FrC.no {s:CS} (h:FrC s) {x:Ist} (a:dfI x=[]) (g:pbI x):FrC (s.emit x):=
 ⟨h.four,by show dfL (s.code++[x])=_;rw [lp,dfL,a,dfL,dk,dk];exact h.df,Vx h.pb g⟩
theorem FrC.put {s:CS} (h:FrC s) (n v:Int):FrC (s.put n v):=⟨h.four,h.df,h.pb⟩
theorem FrC.one {s:CS} (h:FrC s) {x:Ist} (a:dfI x=[s.next]) (g:pbI x):FrC (s.emit x).inc:=by
 have i:=h.four;refine ⟨by show 4<=s.next+1;omega,?_,Vx h.pb g⟩;show dfL (s.code++[x])=AH (s.next+1 - 4).toNat;rw [show (s.next+1 - 4).toNat=(s.next - 4).toNat+1 by omega,AH,lp,dfL,a,dfL,dk,h.df]
 congr 2
 omega
theorem RB {s:CS} (h:FrC s) (t:T):FrC (fy s t):=by
 unfold fy;split
 ·exact h.no rfl (pbN (by decide))
 ·split
  ·exact h.no rfl (pbN (by decide))
  ·exact (h.put _ _).one rfl (pbN (by decide))
theorem Wj {s:CS} (h:FrC s) (t:T):FrC (cT s t).1:=by
 unfold cT;split
 ·exact h.one rfl (pbN (by decide))
 ·exact RB h t
theorem NI:∀ (ts:List T) {s:CS},FrC s->FrC (bE s ts).1
 | [],_,h=>by rw [bE];exact h
 | t::ts,_,h=>by rw [bE];exact NI ts (Wj h t)
theorem T5 {s:CS} (h:FrC s) (i:Int) (t:T):FrC (bP s i t).1:=by
 unfold bP;split
 ·exact h.no rfl (pbN (by decide))
 ·split
  ·split
   ·exact h.no rfl (pbN (by decide))
   ·exact h.put _ _
  ·exact h
theorem IO:∀ (ts:List T) {s:CS} (i:Int),FrC s->FrC (bz s i ts).1
 | [],_,_,h=>by rw [bz];exact h
 | t::ts,_,i,h=>by rw [bz];exact IO ts (i+1) (T5 h i t)
theorem QM:∀ (f:Nat) {s:CS} (q:List (T × Int)),FrC s->FrC (fC f s q)
 | 0,_,_,h=>by rw [fC];exact h
 | f+1,_,[],h=>by rw [fC];exact h
 | f+1,_,x::q,h=>by rw [fC];exact QM f _ (NI _ (h.no rfl (pbN (by decide))))
theorem ND:∀ (ts:List T) (vs:List Int) {s:CS},FrC s->FrC (dd s ts vs)
 | [],_,_,h=>by rw [dd];exact h;intro _ _ _ _ e;cases e
 | _::_,[],_,h=>by rw [dd];exact h;intro _ _ _ _ _ e;cases e
 | t::ts,v::vs,s,h=>by
  rw [dd];refine ND ts vs ?_;split
  ·exact h.no rfl (pbN (by decide))
  ·exact RB h t
mutual
theorem Il:∀ (t:T) {s:CS},FrC s->FrC (bn t s).1
 | .mk _ _ nm ks,s,h=>by
  rw [bn];exact ND ks _ ((Mt ks h).one rfl (pbN (by decide)))
theorem Mt:∀ (ts:List T) {s:CS},FrC s->FrC (bw ts s).1
 | [],_,h=>by rw [bw]; exact h
 | t::ts,s,h=>by
  rw [bw];refine Mt ts ?_;split
  ·exact Il t h
  ·exact h
end
theorem Wb {s:CS} (h:FrC s) {i:Int} (a:0<=i/\i<4) (t:T):FrC (gb s i t):=by
 unfold gb;split
 ·exact h.no rfl fun _=>a
 ·split
  ·split
   ·exact h.no rfl fun _=>a
   ·exact (h.put t.n s.next).one (x:=⟨8,s.next,i,emptyB⟩) rfl fun _=>a
  ·exact (Il t h).no rfl fun _=>a
theorem MN:∀ (ts:List T) {s:CS} {i:Int},0<=i->i+ts.length<=4->FrC s->FrC (eP s i ts)
 | [],_,_,_,_,h=>by rw [eP];exact h
 | t::ts,_,i,h0,hl,h=>by
  rw [aP] at hl;rw [eP];exact MN ts (by omega) (by omega) (Wb h ⟨h0,by omega⟩ t)
theorem Vk {s:CS} (h:FrC s) {g:T} (a:g.kids.length<=4):FrC (fM s g):=by
 unfold fM;split
 ·exact h.no rfl (pbN (by decide))
 ·refine (MN _ (by omega) (by omega) h).no ?_ ?_
  ·split <;> rfl
  ·split <;> exact pbN (by decide)
theorem HO:∀ (a:List T) {s:CS},(∀ g∈a,g.kids.length<=4)->FrC s->FrC (dR s a)
 | [],_,_,h=>by rw [dR];exact h
 | g::a,_,hg,h=>by rw [dR];exact HO a (fun x i=>hg x (bI _ i)) (Vk h (hg g (bF ..)))
theorem Qx {c:C} (hc:aZ c=true):(∃ k,dfL (dV c)=AH k)/\∀ x∈dV c,pbI x:=by
 have j:FrC startC:=⟨by decide,rfl,fun x i=>(by cases i)⟩
 have l:FrC (gq startC c.head.kids):=QM _ _ (IO _ _ j);have hk:∀ g∈c.body,g.kids.length<=4:=fun g a=>by
  have m:=(eU hc).1 g a;rw [aZ] at hc;simp only [bQ,fF] at hc;have:=hc.2.1 g a;rw [fa,bQ] at this;rcases (jI this.1).kind with e|e|e
  ·omega
  ·omega
  ·exact e.2.2
 have h:=(HO c.body hk l).no (x:=⟨14,0,0,emptyB⟩) rfl (pbN (by decide));exact ⟨⟨_,h.df⟩,h.pb⟩
end
end Go.Proofs.YtjbcdmheajljpaaGreat
