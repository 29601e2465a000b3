/- What code of a clause says of its slots: a relation, no program in sight. -/
import Derived.Test.YtjbcdmheajljpaaGreatZRdA
import Derived.Test.YtjbcdmheajljpaaGreatZRd7
namespace Go.Proofs.YtjbcdmheajljpaaGreat
section
open Go Go.RowKit
abbrev Sl:=Int->Option T
def upS (v:Sl) (n:Int) (t:T):Sl:=fun m=>if m=n then some t else v m
theorem fb (v:Sl) (n:Int) (t:T):upS v n t n=some t:=ag rfl
theorem gj (v:Sl) {n m:Int} (t:T) (h:m≠n):upS v n t m=v m:=ae h
def eH (n:Int):T:=.mk 2 n emptyB []
def fnT (nm:ByteArray) (ks:List T):T:=.mk 3 0 nm ks
def oG:T:=.mk 3 0 ⟨#[33]⟩ []
inductive Des:Sl->List Ist->Sl->List T->Prop
 | nil {v:Sl}:Des v [] v []
 | var {v v':Sl} {a b:Int} {nm:ByteArray} {t:T} {xs:List Ist} {ks:List T}:Des (upS v a t) xs v' ks->Des v (⟨4,a,b,nm⟩::xs) v' (t::ks)
 | val {v v':Sl} {a b:Int} {nm:ByteArray} {t:T} {xs:List Ist} {ks:List T}:v a=some t->Des v xs v' ks->Des v (⟨5,a,b,nm⟩::xs) v' (t::ks)
 | int {v v':Sl} {a b:Int} {nm:ByteArray} {xs:List Ist} {ks:List T}:Des v xs v' ks->Des v (⟨6,a,b,nm⟩::xs) v' (eH a::ks)
structure Ev where
 v:Sl
 a:Sl
inductive Den:Ev->List Ist->Ev->List T->Prop
 | nil {e:Ev}:Den e [] e []
 | gval {e e':Ev} {a b:Int} {nm:ByteArray} {t:T} {xs:List Ist} {o:List T}:e.v b=some t->e.v a=some t->Den e xs e' o->Den e (⟨1,a,b,nm⟩::xs) e' o
 | gint {e e':Ev} {a b:Int} {nm:ByteArray} {xs:List Ist} {o:List T}:e.v b=some (eH a)->Den e xs e' o->Den e (⟨2,a,b,nm⟩::xs) e' o
 | gstr {e e':Ev} {n b:Int} {nm:ByteArray} {ms xs:List Ist} {v':Sl} {ks o:List T}:(ms.length:Int)=n->e.v b=some (fnT nm ks)->Des e.v ms v' ks->Den ⟨v',e.a⟩ xs e' o->Den e (⟨3,n,b,nm⟩::(ms++xs)) e' o
 | sstr {e e':Ev} {n b:Int} {nm:ByteArray} {ms xs:List Ist} {v':Sl} {ks o:List T}:(ms.length:Int)=n->Des e.v ms v' ks->Den ⟨upS v' b (fnT nm ks),e.a⟩ xs e' o->Den e (⟨7,n,b,nm⟩::(ms++xs)) e' o
 | pvar {e e':Ev} {a b:Int} {nm:ByteArray} {t:T} {xs:List Ist} {o:List T}:Den ⟨upS e.v a t,upS e.a b t⟩ xs e' o->Den e (⟨8,a,b,nm⟩::xs) e' o
 | pval {e e':Ev} {a b:Int} {nm:ByteArray} {t:T} {xs:List Ist} {o:List T}:e.v a=some t->Den ⟨e.v,upS e.a b t⟩ xs e' o->Den e (⟨9,a,b,nm⟩::xs) e' o
 | pint {e e':Ev} {a b:Int} {nm:ByteArray} {xs:List Ist} {o:List T}:Den ⟨e.v,upS e.a b (eH a)⟩ xs e' o->Den e (⟨10,a,b,nm⟩::xs) e' o
 | cut {e e':Ev} {a b:Int} {nm:ByteArray} {xs:List Ist} {o:List T}:Den e xs e' o->Den e (⟨13,a,b,nm⟩::xs) e' (oG::o)
 | call {e e':Ev} {op n b:Int} {nm:ByteArray} {ks:List T} {xs:List Ist} {o:List T}:(op=11 ∨ op=12)->(ks.length:Int)=n->(∀ i (h:i<ks.length),e.a (i:Int)=some ks[i])->Den e xs e' o->Den e (⟨op,n,b,nm⟩::xs) e' (fnT nm ks::o)
theorem Des.len {v v':Sl} {xs:List Ist} {ks:List T} (h:Des v xs v' ks):ks.length=xs.length:=by
 induction h with
 | nil=>rfl
 | var _ a=>simp [a]
 | val _ _ a=>simp [a]
 | int _ a=>simp [a]
mutual
def okG:T->Prop
 | .mk k n s ks=>((k=1/\0<=n/\n<26) ∨ (k=2/\s=emptyB/\ks=[]) ∨ (k=3/\n=0))/\fc ks
def fc:List T->Prop
 | []=>True
 | t::ts=>okG t/\fc ts
end
theorem okG.kind {t:T} (h:okG t):(t.kind=1/\0<=t.n/\t.n<26) ∨ (t.kind=2/\t.name=emptyB/\t.kids=[]) ∨ (t.kind=3/\t.n=0):=by
 cases t;rw [okG] at h;exact h.1
theorem okG.kids {t:T} (h:okG t):fc t.kids:=by cases t; rw [okG] at h; exact h.2
mutual
theorem H8:∀ (t:T) (d:Int),dC t d=true->okG t
 | .mk k n s ks,d,h=>by
  rw [dC] at h;split at h
  ·cases h
  ·rw [bQ] at h;rw [okG];refine ⟨?_,EG ks _ h.2⟩;have a:=h.1;unfold fR at a;by_cases g:(T.mk k n s ks).kind=1
   ·rw [ag g] at a;simp only [bQ,bK] at a;have l:n<=25:=a.2.1;exact .inl ⟨g,a.1,by omega⟩
   ·rw [ae g] at a;by_cases i:(T.mk k n s ks).kind=2
    ·rw [ag i] at a;simp only [bQ,bK] at a;exact .inr (.inl ⟨i,a.2.2.1,jM a.2.2.2⟩)
    ·rw [ae i] at a;by_cases j:(T.mk k n s ks).kind=3
     ·rw [ag j] at a;simp only [bQ,bK] at a;exact .inr (.inr ⟨j,a.1⟩)
     ·rw [ae j] at a;cases a
theorem EG:∀ (ts:List T) (d:Int),de ts d=true->fc ts
 | [],_,_=>trivial
 | t::ts,d,h=>by
  rw [de,bQ] at h;rw [fc];exact ⟨H8 t d h.1,EG ts d h.2⟩
end
theorem H5 {t:T} (h:bY t=true):okG t:=by
 rw [bY,bQ] at h;exact H8 t _ h.1
theorem Ng:∀ {ts:List T},(∀ t∈ts,okG t)->fc ts
 | [],_=>trivial
 | t::ts,h=>by rw [fc];exact ⟨h t (bF ..),Ng fun x a=>h x (bI _ a)⟩
theorem nr:∀ {ts:List T},fc ts->∀ t∈ts,okG t
 | t::ts,h,x,a=>by
  rw [fc] at h;rcases dK.1 a with rfl|a
  ·exact h.1
  ·exact nr h.2 x a
theorem jE {c:C} (h:aZ c=true):okG c.head/\fc c.body:=by
 rw [aZ] at h;simp only [bQ,fF] at h;refine ⟨H5 h.2.2.1,Ng fun t a=>?_⟩;have:=h.2.1 t a;rw [fa,bQ] at this;exact H5 this.1
theorem zN {θ:Int->T} {t:T} (h:t.kind=2/\t.name=emptyB/\t.kids=[]):sbT θ t=eH t.n:=by
 obtain ⟨k,n,s,ks⟩:=t;obtain ⟨a,g,i⟩:=h;simp only [T.kind,T.name,T.kids] at a g i;subst a g i;rw [sbT,ae (by decide),sbL];rfl
theorem tu {θ:Int->T} {t:T} (h:t.kind=3/\t.n=0):sbT θ t=fnT t.name (sbL θ t.kids):=by
 obtain ⟨k,n,s,ks⟩:=t;obtain ⟨a,g⟩:=h;simp only [T.kind,T.n] at a g;subst a g;rw [sbT,ae (by decide)];rfl
theorem p6 {θ:Int->T} {t:T} (h:t.kind=1):sbT θ t=θ t.n:=by
 cases t;rw [sbT];exact ag h
structure Wf (s:CS):Prop where
 len:s.sl.length=26
 lt:∀ n,s.at_ n<s.next
 four:4<=s.next
def AgrS (θ:Int->T) (s:CS) (v:Sl):Prop:=∀ n,0<=n->n<26->0<=s.at_ n->v (s.at_ n)=some (θ n)
def Df (s:CS) (v:Sl):Prop:=∀ n,0<=n->n<26->0<=s.at_ n->∃ t,v (s.at_ n)=some t
def Frm (k:Int) (v v':Sl):Prop:=∀ m,m<k->v' m=v m
theorem Frm.refl (k:Int) (v:Sl):Frm k v v:=fun _ _=>rfl
theorem Frm.trans {k g:Int} {v v' a:Sl} (h:Frm k v v') (i:Frm g v' a) (hk:k<=g):Frm k v a:=fun m j=>(i m (by omega)).trans (h m j)
theorem Frm.upS {k n:Int} (v:Sl) (t:T) (h:k<=n):Frm k v (upS v n t):=fun m a=>gj v t (by omega)
structure Xt (s s':CS):Prop where
 wf:Wf s'
 ext:∀ n,0<=n->n<26->0<=s.at_ n->s'.at_ n=s.at_ n
 next:s.next<=s'.next
theorem Xt.refl {s:CS} (h:Wf s):Xt s s:=⟨h,fun _ _ _ _=>rfl,fT _⟩
theorem Xt.trans {s s' a:CS} (h:Xt s s') (g:Xt s' a):Xt s a:=
 ⟨g.wf,fun n i j l=>by rw [g.ext n i j (by rw [h.ext n i j l];exact l),h.ext n i j l],RZ h.next g.next⟩
theorem Wf.emit {s:CS} (h:Wf s) (x:Ist):Wf (s.emit x):=⟨h.len,h.lt,h.four⟩
theorem Wf.inc {s:CS} (h:Wf s):Wf s.inc:=⟨h.len,fun n=>by show s.at_ n<s.next+1; have:=h.lt n; omega,by show 4<=s.next+1; have:=h.four; omega⟩
theorem Xt.emit {s:CS} (h:Wf s) (x:Ist):Xt s (s.emit x):=⟨h.emit x,fun _ _ _ _=>rfl,fT _⟩
theorem Xt.inc {s:CS} (h:Wf s):Xt s s.inc:=⟨h.inc,fun _ _ _ _=>rfl,by show s.next<=s.next+1; omega⟩
theorem iz {s:CS} (a:s.sl.length=26) {n m:Int} (hn:0<=n/\n<26) (g:0<=m/\m<26) (x:Int):(s.put n x).at_ m=if m=n then x else s.at_ m:=by
 show (s.sl.set n.toNat x)[m.toNat]?.getD (-1)=_;rw [BN];by_cases e:m=n
 ·subst e;rw [ag rfl,ag (by omega),ag rfl];rfl
 ·rw [ae (by omega),ae e];rfl
theorem VQ {s:CS} {n:Int} {x:Int} {k:Int} (h:∀ m,s.at_ m<k) (a:x<k):∀ m,(s.put n x).at_ m<k:=by
 intro m;show (s.sl.set n.toNat x)[m.toNat]?.getD (-1)<k;rw [BN];split
 ·split
  ·exact a
  ·have:=h m;have j:=h (-1);show (none:Option Int).getD (-1)<k;rename_i g i
   have l:s.at_ n=-1:=by
    show s.sl[n.toNat]?.getD (-1)=-1;rw [QV (by omega)];rfl
   have:=h n;show (-1:Int)<k;omega
 ·exact h m
theorem Xt.new {s:CS} (h:Wf s) {n:Int} (hn:0<=n/\n<26) (a:¬ 0<=s.at_ n):Xt s (s.put n s.next).inc:=by
 refine ⟨⟨(jj ..).trans h.len,fun m=>?_,by show 4<=s.next+1;have:=h.four;omega⟩,fun m g i j=>?_,by show s.next<=s.next+1;omega⟩
 ·exact VQ (k:=s.next+1) (fun m=>by have:=h.lt m;omega) (by omega) m
 ·show (s.put n s.next).at_ m=s.at_ m;rw [iz h.len hn ⟨g,i⟩,ae (fun e=>by subst e;exact a j)]
theorem AgrS.new {θ:Int->T} {s:CS} {v:Sl} (h:Wf s) (j:AgrS θ s v) {n:Int} (hn:0<=n/\n<26):AgrS θ (s.put n s.next).inc (upS v s.next (θ n)):=by
 intro m g i a;have a:0<=(s.put n s.next).at_ m:=a;show upS v s.next (θ n) ((s.put n s.next).at_ m)=_;rw [iz h.len hn ⟨g,i⟩] at a ⊢;by_cases e:m=n
 ·subst e;rw [ag rfl,fb]
 ·rw [ae e] at a ⊢;have:=h.lt m;rw [gj _ _ (by omega)];exact j m g i a
theorem Df.new {s:CS} {v:Sl} (h:Wf s) (j:Df s v) {n:Int} (hn:0<=n/\n<26) (t:T):Df (s.put n s.next).inc (upS v s.next t):=by
 intro m g i a;have a:0<=(s.put n s.next).at_ m:=a;show ∃ u,upS v s.next t ((s.put n s.next).at_ m)=_;rw [iz h.len hn ⟨g,i⟩] at a ⊢;by_cases e:m=n
 ·rw [ag e,fb];exact ⟨t,rfl⟩
 ·rw [ae e] at a ⊢;have:=h.lt m;rw [gj _ _ (by omega)];exact j m g i a
theorem AgrS.frm {θ:Int->T} {s:CS} {v v':Sl} (h:Wf s) (a:AgrS θ s v) (hf:Frm s.next v v'):AgrS θ s v':=fun n g i j=>by rw [hf _ (h.lt n)]; exact a n g i j
theorem AgrS.back {θ:Int->T} {s s':CS} {v v':Sl} (h:Wf s) (j:Xt s s') (hf:Frm s.next v v') (l:AgrS θ s' v'):AgrS θ s v:=fun n a g i=>by
 rw [<- hf _ (h.lt n),<- j.ext n a g i];exact l n a g (by rw [j.ext n a g i];exact i)
theorem Df.frm {s:CS} {v v':Sl} (h:Wf s) (a:Df s v) (hf:Frm s.next v v'):Df s v':=fun n g i j=>by rw [hf _ (h.lt n)]; exact a n g i j
def Gu (s:CS) (t:T):Ist:=
 if t.kind=2 then ⟨6,t.n,0,emptyB⟩
 else if 0<=s.at_ t.n then ⟨5,s.at_ t.n,0,emptyB⟩
 else ⟨4,s.next,0,emptyB⟩
theorem Ab (s:CS) (t:T):(fy s t).code=s.code++[Gu s t]:=by
 unfold fy Gu;split
 ·rfl
 ·split <;> rfl
theorem tL {s:CS} (h:Wf s) {t:T} (a:okG t) (g:t.kind≠3):Xt s (fy s t):=by
 unfold fy;split
 ·exact .emit h _
 ·rename_i i
  rcases a.kind with hk|hk|hk
  ·split
   ·exact .emit h _
   ·rename_i j
    have:=Xt.new h hk.2 j;exact ⟨⟨this.wf.len,this.wf.lt,this.wf.four⟩,this.ext,this.next⟩
  ·exact absurd hk.1 i
  ·exact absurd hk.1 g
theorem VB {θ:Int->T} {s:CS} {v:Sl} (h:Wf s) (g:AgrS θ s v) {t:T} (l:okG t) (m:t.kind≠3):∃ v1,Frm s.next v v1/\AgrS θ (fy s t) v1/\∀ xs v2 ks,Des v1 xs v2 ks->Des v (Gu s t::xs) v2 (sbT θ t::ks):=by
 unfold fy Gu;rcases l.kind with hk|hk|hk
 ·have j:¬ t.kind=2:=by have:=hk.1;omega
  rw [p6 hk.1];by_cases i:0<=s.at_ t.n
  ·simp only [ae j,ag i];exact ⟨v,.refl _ _,g,fun xs v2 ks a=>.val (g _ hk.2.1 hk.2.2 i) a⟩
  ·simp only [ae j,ae i];exact ⟨_,.upS v (θ t.n) (fT _),AgrS.new h g hk.2,fun xs v2 ks a=>.var a⟩
 ·rw [ag hk.1,ag hk.1,zN hk];exact ⟨v,.refl _ _,g,fun xs v2 ks a=>.int a⟩
 ·exact absurd hk.1 m
theorem Mp {s:CS} {v v2:Sl} (h:Wf s) (m:Df s v) {t:T} (o:okG t) (p:t.kind≠3) {xs:List Ist} {ks:List T} (a:Des v (Gu s t::xs) v2 ks):∃ v1 k j,ks=k::j/\Frm s.next v v1/\Df (fy s t) v1/\Des v1 xs v2 j/\∀ θ,AgrS θ (fy s t) v1->k=sbT θ t:=by
 unfold Gu at a;unfold fy;rcases o.kind with hk|hk|hk
 ·rw [ae (by omega)] at a ⊢;split at a
  ·rename_i g
   cases a with
   | val l q=>
    refine ⟨v,_,_,rfl,.refl _ _,by rw [ag g];exact m,q,fun θ i=>?_⟩;rw [ag g] at i;have:v (s.at_ t.n)=some (θ t.n):=i _ hk.2.1 hk.2.2 g;rw [l,bj] at this;rw [this,p6 hk.1]
  ·rename_i g
   cases a with
   | var l=>
    rename_i u _
    refine ⟨_,_,_,rfl,.upS v u (fT _),by rw [ae g];exact Df.new h m hk.2 u,l,fun θ i=>?_⟩;rw [ae g] at i;have e:((s.put t.n s.next).emit ⟨4,s.next,0,emptyB⟩).inc.at_ t.n=s.next:=by
     show (s.put t.n s.next).at_ t.n=s.next;rw [iz h.len hk.2 hk.2,ag rfl]
    have:=i t.n hk.2.1 hk.2.2 (by rw [e];have:=h.four;omega);rw [e,fb,bj] at this;rw [this,p6 hk.1]
 ·rw [ag hk.1] at a ⊢;cases a with
  | int l=>exact ⟨v,_,_,rfl,.refl _ _,m,l,fun θ _=>(zN hk).symm⟩
 ·exact absurd hk.1 p
def Le (s:CS) (t:T):Ist:=if t.kind=3 then ⟨4,s.next,0,emptyB⟩ else Gu s t
def nC:CS->List T->List Ist
 | _,[]=>[]
 | s,t::ts=>Le s t::nC (cT s t).1 ts
theorem tK:∀ (ts:List T) (s:CS),(nC s ts).length=ts.length
 | [],_=>rfl
 | t::ts,s=>by rw [nC,aP,aP,tK ts]
theorem Fu:∀ (ts:List T) (s:CS),(bE s ts).1.code=s.code++nC s ts
 | [],s=>by rw [bE,nC,dk]
 | t::ts,s=>by
  rw [bE,nC];show (bE (cT s t).1 ts).1.code=_;rw [Fu ts];have:(cT s t).1.code=s.code++[Le s t]:=by
   unfold cT Le;split
   ·rfl
   ·exact Ab s t
  rw [this,cN];rfl
def PdOk (θ:Int->T) (q:List (T × Int)) (v:Sl):Prop:=∀ p∈q,v p.2=some (sbT θ p.1)
def PdW (q:List (T × Int)) (k:Int):Prop:=∀ p∈q,okG p.1/\p.1.kind=3/\p.2<k
theorem zy {s:CS} (h:Wf s) {t:T} (i:okG t):Xt s (cT s t).1/\PdW (cT s t).2 (cT s t).1.next:=by
 unfold cT;split
 ·rename_i a
  refine ⟨(Xt.emit h _).trans (.inc (h.emit _)),fun p g=>?_⟩;rw [bM.1 g];exact ⟨i,a,by show s.next<s.next+1;omega⟩
 ·rename_i a
  exact ⟨tL h i a,fun p g=>(by cases g)⟩
theorem mP:∀ (ts:List T) {s:CS},Wf s->fc ts->Xt s (bE s ts).1/\PdW (bE s ts).2 (bE s ts).1.next
 | [],s,h,_=>⟨.refl h,fun p a=>(by cases a)⟩
 | t::ts,s,h,ht=>by
  rw [fc] at ht;obtain ⟨g,j⟩:=zy h ht.1;obtain ⟨i,l⟩:=mP ts g.wf ht.2;rw [bE];refine ⟨g.trans i,fun p a=>?_⟩;rcases cU.1 a with a|a
  ·obtain ⟨m,o,q⟩:=j p a;have:=i.next;exact ⟨m,o,by show p.2<(bE (cT s t).1 ts).1.next;omega⟩
  ·exact l p a
theorem PdOk.frm {θ:Int->T} {q:List (T × Int)} {v v':Sl} {k:Int} (h:PdOk θ q v) (g:PdW q k) (hf:Frm k v v'):PdOk θ q v':=fun p a=>by rw [hf _ (g p a).2.2]; exact h p a
theorem PdOk.back {θ:Int->T} {q:List (T × Int)} {v v':Sl} {k:Int} (h:PdOk θ q v') (g:PdW q k) (hf:Frm k v v'):PdOk θ q v:=fun p a=>by rw [<- hf _ (g p a).2.2]; exact h p a
theorem XQ {θ:Int->T} {s:CS} {v:Sl} (h:Wf s) (g:AgrS θ s v) {t:T} (i:okG t):∃ v1,Frm s.next v v1/\AgrS θ (cT s t).1 v1/\PdOk θ (cT s t).2 v1/\∀ xs v2 ks,Des v1 xs v2 ks->Des v (Le s t::xs) v2 (sbT θ t::ks):=by
 unfold cT Le;split
 ·refine ⟨_,.upS v (sbT θ t) (fT _),?_,fun p a=>?_,fun xs v2 ks l=>.var l⟩
  ·exact AgrS.frm h (s:=s) g (.upS v _ (fT _))
  ·rw [bM.1 a];exact fb ..
 ·rename_i j
  obtain ⟨v1,m,o,q⟩:=VB h g i j;exact ⟨v1,m,o,fun p a=>(by cases a),q⟩
theorem RX {θ:Int->T}:∀ (ts:List T) {s:CS} {v:Sl},Wf s->AgrS θ s v->fc ts->∃ v1,Frm s.next v v1/\AgrS θ (bE s ts).1 v1/\PdOk θ (bE s ts).2 v1/\Des v (nC s ts) v1 (sbL θ ts)
 | [],s,v,h,ha,_=>⟨v,.refl _ _,ha,fun p a=>(by cases a),.nil⟩
 | t::ts,s,v,h,ha,ht=>by
  rw [fc] at ht;obtain ⟨g,j⟩:=zy h ht.1;obtain ⟨v1,l,m,o,q⟩:=XQ h ha ht.1;obtain ⟨v2,i,r,b3,B⟩:=RX ts g.wf m ht.2;rw [bE,nC,sbL];refine ⟨v2,l.trans i g.next,r,fun p a=>?_,q _ _ _ B⟩;rcases cU.1 a with a|a
  ·exact o.frm j i p a
  ·exact b3 p a
theorem TN {s:CS} {v v2:Sl} (h:Wf s) (l:Df s v) {t:T} (m:okG t) {xs:List Ist} {ks:List T} (g:Des v (Le s t::xs) v2 ks):∃ v1 k a,ks=k::a/\Frm s.next v v1/\Df (cT s t).1 v1/\Des v1 xs v2 a/\∀ θ,AgrS θ (cT s t).1 v1->PdOk θ (cT s t).2 v1->k=sbT θ t:=by
 unfold Le at g;unfold cT;split at g
 ·rename_i i
  cases g with
  | var j=>
   rename_i u _
   rw [ag i];refine ⟨_,_,_,rfl,.upS v u (fT _),Df.frm (s:=s) h l (.upS v u (fT _)),j,fun θ _ o=>?_⟩;have:=o (t,s.next) (bM.2 rfl);rw [fb,bj] at this;exact this
 ·rename_i i
  rw [ae i];obtain ⟨v1,k,a,p,q,r,B,C⟩:=Mp h l m i g;exact ⟨v1,k,a,p,q,r,B,fun θ j _=>C θ j⟩
theorem Is:∀ (ts:List T) {s:CS} {v v1:Sl} {ks:List T},Wf s->Df s v->fc ts->Des v (nC s ts) v1 ks->Frm s.next v v1/\Df (bE s ts).1 v1/\∀ θ,AgrS θ (bE s ts).1 v1->PdOk θ (bE s ts).2 v1->ks=sbL θ ts
 | [],s,v,v1,ks,h,hd,_,hr=>by
  rw [nC] at hr;cases hr with
  | nil=>exact ⟨.refl _ _,hd,fun _ _ _=>rfl⟩
 | t::ts,s,v,v1,ks,h,hd,ht,hr=>by
  rw [fc] at ht;rw [nC] at hr;obtain ⟨g,m⟩:=zy h ht.1;obtain ⟨o,J⟩:=mP ts g.wf ht.2;obtain ⟨u,k,q,rfl,r,B,C,D⟩:=TN h hd ht.1 hr;obtain ⟨j,G,b3⟩:=Is ts g.wf B ht.2 C;rw [bE];refine ⟨r.trans j g.next,G,fun θ a l=>?_⟩;have a:AgrS θ (bE (cT s t).1 ts).1 v1:=a;rw [sbL,b3 θ a (fun p i=>l p (gy _ i)),D θ (AgrS.back g.wf o j a) (PdOk.back (fun p i=>l p (gf _ i)) m j)]
def ow:Nat->CS->List (T × Int)->List Ist
 | 0,_,_=>[]
 | _+1,_,[]=>[]
 | f+1,s,x::q=>⟨3,x.1.kids.length,x.2,x.1.name⟩::(nC (s.emit ⟨3,x.1.kids.length,x.2,x.1.name⟩) x.1.kids++ow f (bE (s.emit ⟨3,x.1.kids.length,x.2,x.1.name⟩) x.1.kids).1 (q++(bE (s.emit ⟨3,x.1.kids.length,x.2,x.1.name⟩) x.1.kids).2))
theorem Au:∀ (f:Nat) (s:CS) (q:List (T × Int)),(fC f s q).code=s.code++ow f s q
 | 0,s,q=>by rw [fC,ow,dk]
 | f+1,s,[]=>by rw [fC,ow,dk]
 | f+1,s,x::q=>by
  rw [fC,ow,Au f,Fu];show (s.code++[_])++_++_=_;rw [cN,cN];rfl
theorem qr:∀ (f:Nat) {s:CS} {q:List (T × Int)},Wf s->PdW q s.next->Xt s (fC f s q)
 | 0,s,q,h,_=>by rw [fC];exact .refl h
 | f+1,s,[],h,_=>by rw [fC];exact .refl h
 | f+1,s,x::q,h,hq=>by
  rw [fC];have m:=hq x (bF ..);obtain ⟨g,i⟩:=mP x.1.kids (h.emit ⟨3,x.1.kids.length,x.2,x.1.name⟩) m.1.kids;have hn:=g.next;have hn:s.next<=(bE (s.emit ⟨3,x.1.kids.length,x.2,x.1.name⟩) x.1.kids).1.next:=hn;exact ((Xt.emit h _).trans g).trans (qr f g.wf fun p a=>by
   rcases cU.1 a with a|a
   ·obtain ⟨j,l,b3⟩:=hq p (bI _ a);exact ⟨j,l,by omega⟩
   ·exact i p a)
theorem TI {θ:Int->T}:∀ (f:Nat) {s:CS} {q:List (T × Int)} {v:Sl},Wf s->PdW q s.next->AgrS θ s v->PdOk θ q v->∃ v1,Frm s.next v v1/\AgrS θ (fC f s q) v1/\∀ a g l o,Den ⟨v1,a⟩ g l o->Den ⟨v,a⟩ (ow f s q++g) l o
 | 0,s,q,v,h,_,ha,_=>by rw [fC,ow];exact ⟨v,.refl _ _,ha,fun a g l o h=>h⟩
 | f+1,s,[],v,h,_,ha,_=>by rw [fC,ow];exact ⟨v,.refl _ _,ha,fun a g l o h=>h⟩
 | f+1,s,x::q,v,h,hq,ha,j=>by
  rw [fC,ow];have r:=hq x (bF ..);have D:=h.emit ⟨3,x.1.kids.length,x.2,x.1.name⟩;obtain ⟨B,M⟩:=mP x.1.kids D r.1.kids;obtain ⟨v1,C,N,b3,O⟩:=RX (θ:=θ) x.1.kids D (v:=v) ha r.1.kids;have hn:s.next<=(bE (s.emit ⟨3,x.1.kids.length,x.2,x.1.name⟩) x.1.kids).1.next:=B.next;have m:PdW q s.next:=fun p j=>hq p (bI _ j);obtain ⟨v2,U,V,Y⟩:=TI (θ:=θ) f (s:=(bE (s.emit ⟨3,x.1.kids.length,x.2,x.1.name⟩) x.1.kids).1) (q:=q++(bE (s.emit ⟨3,x.1.kids.length,x.2,x.1.name⟩) x.1.kids).2) B.wf (fun p j=>by
   rcases cU.1 j with j|j
   ·obtain ⟨Z,d2,d3⟩:=m p j;exact ⟨Z,d2,by omega⟩
   ·exact M p j) N (fun p i=>by
   rcases cU.1 i with i|i
   ·exact (PdOk.frm (fun p t=>j p (bI _ t)) m C) p i
   ·exact b3 p i)
  refine ⟨v2,Frm.trans C U hn,V,fun a g l o J=>?_⟩;rw [dg,cN];have G:=j x (bF ..);rw [tu ⟨r.2.1,by have:=r.1.kind;omega⟩] at G;exact .gstr (by rw [tK]) G O (Y a g l o J)
theorem Rn {α:Type} {a b c d:List α} (h:a++b=c++d) (g:a.length=c.length):a=c/\b=d:=List.append_inj h g
theorem fS:∀ a b:List (T × Int),cQ (a++b)=cQ a+cQ b
 | [],b=>by rw [gW,cQ,cS]
 | x::a,b=>by rw [dg,cQ,cQ,fS a b];omega
theorem tP:∀ (ts:List T) (s:CS),cQ (bE s ts).2<=(bo ts).toNat
 | [],s=>by rw [bE];exact aT _
 | t::ts,s=>by
  rw [bE];show cQ ((cT s t).2++(bE (cT s t).1 ts).2)<=_;rw [fS,bo];have a:=tP ts (cT s t).1;have g:cQ (cT s t).2<=(bR t).toNat:=by
   unfold cT;split
   ·show (bR t).toNat+0<=_;omega
   ·exact aT _
  have:=dw t;have:=ch ts;omega
theorem Mm:∀ (f:Nat) {s:CS} {q:List (T × Int)} {v a:Sl} {i:List Ist} {l:Ev} {o:List T},Wf s->PdW q s.next->Df s v->cQ q<=f->Den ⟨v,a⟩ (ow f s q++i) l o->∃ v1,Frm s.next v v1/\Df (fC f s q) v1/\Den ⟨v1,a⟩ i l o/\∀ θ,AgrS θ (fC f s q) v1->PdOk θ q v1
 | 0,s,q,v,a,i,l,o,h,hq,hd,hs,hr=>by
  rw [ow] at hr;rw [fC];cases q with
  | nil=>exact ⟨v,.refl _ _,hd,hr,fun θ _ p g=>by cases g⟩
  | cons x q=>
   exfalso;rw [cQ] at hs;have:=dw x.1;omega
 | f+1,s,[],v,a,i,l,o,h,hq,hd,hs,hr=>by
  rw [ow] at hr;rw [fC];exact ⟨v,.refl _ _,hd,hr,fun θ _ p g=>by cases g⟩
 | f+1,s,x::q,v,a,i,l,o,h,hq,hd,hs,hr=>by
  rw [ow,dg,cN] at hr;rw [fC];have m:=hq x (bF ..);have hw:=h.emit ⟨3,x.1.kids.length,x.2,x.1.name⟩;obtain ⟨t,G⟩:=mP x.1.kids hw m.1.kids;have hn:s.next<=(bE (s.emit ⟨3,x.1.kids.length,x.2,x.1.name⟩) x.1.kids).1.next:=t.next;have r:PdW q s.next:=fun p g=>hq p (bI _ g);generalize V:nC (s.emit ⟨3,x.1.kids.length,x.2,x.1.name⟩) x.1.kids++(ow f (bE (s.emit ⟨3,x.1.kids.length,x.2,x.1.name⟩) x.1.kids).1 (q++(bE (s.emit ⟨3,x.1.kids.length,x.2,x.1.name⟩) x.1.kids).2)++i)=code at hr;cases hr with
  | gstr h1 U h3 h4=>
   obtain ⟨rfl,rfl⟩:=Rn V (by rw [tK];omega);obtain ⟨Z,b2,b3⟩:=Is x.1.kids hw hd m.1.kids h3;have N:cQ (q++(bE (s.emit ⟨3,x.1.kids.length,x.2,x.1.name⟩) x.1.kids).2)<=f:=by
    have a0:=tP x.1.kids (s.emit ⟨3,x.1.kids.length,x.2,x.1.name⟩);rw [fS];rw [cQ] at hs;have:(bR x.1).toNat=1+(bo x.1.kids).toNat:=by
     have:=ch x.1.kids;obtain ⟨x1,x2⟩:=x;cases x1;simp only [bR,T.kids] at this ⊢;omega
    omega
   obtain ⟨v1,B,c2,c3,c4⟩:=Mm f t.wf (q:=q++(bE (s.emit ⟨3,x.1.kids.length,x.2,x.1.name⟩) x.1.kids).2) (fun p g=>by
    rcases cU.1 g with g|g
    ·obtain ⟨J,M,d3⟩:=r p g;exact ⟨J,M,by omega⟩
    ·exact G p g) b2 N h4
   refine ⟨v1,Frm.trans Z B hn,c2,c3,fun θ Y p g=>?_⟩;have j:=c4 θ Y;have O:=qr f t.wf (q:=q++(bE (s.emit ⟨3,x.1.kids.length,x.2,x.1.name⟩) x.1.kids).2) (fun p g=>by
    rcases cU.1 g with g|g
    ·obtain ⟨J,M,d3⟩:=r p g;exact ⟨J,M,by omega⟩
    ·exact G p g)
   rcases dK.1 g with rfl|g
   ·have hk:=b3 θ (AgrS.back t.wf O B Y) (PdOk.back (fun p' D=>j p' (gy _ D)) G B);have U:v p.2=_:=U;rw [(Frm.trans Z B hn) _ m.2.2,U,hk,tu ⟨m.2.1,by have:=m.1.kind;omega⟩]
   ·exact j p (gf _ g)
  | call C _ _ _=>rcases C with C|C <;> cases C
end
section
open Go Go.RowKit
def vo (s:CS) (i:Int) (t:T):List Ist:=
 if t.kind=2 then [⟨2,t.n,i,emptyB⟩]
 else if t.kind=1 then (if 0<=s.at_ t.n then [⟨1,s.at_ t.n,i,emptyB⟩] else [])
 else []
def iS:CS->Int->List T->List Ist
 | _,_,[]=>[]
 | s,i,t::ts=>vo s i t++iS (bP s i t).1 (i+1) ts
theorem Cn:∀ (ts:List T) (s:CS) (i:Int),(bz s i ts).1.code=s.code++iS s i ts
 | [],s,i=>by rw [bz,iS,dk]
 | t::ts,s,i=>by
  rw [bz,iS];show (bz (bP s i t).1 (i+1) ts).1.code=_;rw [Cn ts];have:(bP s i t).1.code=s.code++vo s i t:=by
   unfold bP vo;split
   ·rfl
   ·split
    ·split
     ·rfl
     ·exact (dk _).symm
    ·exact (dk _).symm
  rw [this,cN]
theorem y8 {s:CS} (h:Wf s) {i:Int} (g:0<=i/\i<s.next) {t:T} (j:okG t):Xt s (bP s i t).1/\PdW (bP s i t).2 (bP s i t).1.next/\(bP s i t).1.next=s.next:=by
 unfold bP;rcases j.kind with hk|hk|hk
 ·rw [ae (by omega),ag hk.1];refine ⟨?_,fun p a=>(by cases a),?_⟩
  ·split
   ·exact .emit h _
   ·rename_i l
    refine ⟨⟨(jj ..).trans h.len,fun m=>VQ (k:=s.next) h.lt g.2 m,h.four⟩,fun m o q r=>?_,fT _⟩;rw [iz h.len hk.2 ⟨o,q⟩,ae (fun e=>by subst e;exact l r)]
  ·split <;> rfl
 ·rw [ag hk.1];exact ⟨.emit h _,fun p a=>(by cases a),rfl⟩
 ·rw [ae (by omega),ae (by omega)];refine ⟨.refl h,fun p a=>?_,rfl⟩;rw [bM.1 a];exact ⟨j,hk.1,g.2⟩
theorem lP:∀ (ts:List T) {s:CS} {i:Int},Wf s->0<=i->i+ts.length<=s.next->fc ts->Xt s (bz s i ts).1/\PdW (bz s i ts).2 (bz s i ts).1.next/\(bz s i ts).1.next=s.next
 | [],s,i,h,_,_,_=>⟨.refl h,fun p a=>(by cases a),rfl⟩
 | t::ts,s,i,h,h0,hl,ht=>by
  rw [fc] at ht;rw [aP] at hl;obtain ⟨g,j,l⟩:=y8 h (i:=i) ⟨h0,by omega⟩ ht.1;obtain ⟨m,o,b3⟩:=lP ts (s:=(bP s i t).1) (i:=i+1) g.wf (by omega) (by omega) ht.2;rw [bz];refine ⟨g.trans m,fun p a=>?_,b3.trans l⟩;rcases cU.1 a with a|a
  ·obtain ⟨q,r,B⟩:=j p a;exact ⟨q,r,by show p.2<(bz (bP s i t).1 (i+1) ts).1.next;omega⟩
  ·exact o p a
def Args (θ:Int->T) (i:Int) (ts:List T) (v:Sl):Prop:=∀ j (h:j<ts.length),v (i+(j:Int))=some (sbT θ ts[j])
theorem Args.head {θ:Int->T} {i:Int} {t:T} {ts:List T} {v:Sl} (h:Args θ i (t::ts) v):v i=some (sbT θ t):=by
 have:=h 0 (by simp);simpa using this
theorem Args.tail {θ:Int->T} {i:Int} {t:T} {ts:List T} {v:Sl} (h:Args θ i (t::ts) v):Args θ (i+1) ts v:=fun j a=>by
 have:=h (j+1) (by simpa using a);rw [show i+1+(j:Int)=i+((j+1:Nat):Int) by omega];simpa using this
theorem Args.cons {θ:Int->T} {i:Int} {t:T} {ts:List T} {v:Sl} (h:v i=some (sbT θ t)) (a:Args θ (i+1) ts v):Args θ i (t::ts) v:=fun j g=>by
 cases j with
 | zero=>simpa using h
 | succ j=>
  have:=a j (by simpa using g);rw [show i+1+(j:Int)=i+((j+1:Nat):Int) by omega] at this;simpa using this
theorem Oo {θ:Int->T}:∀ (ts:List T) {s:CS} {i:Int} {v:Sl},Wf s->0<=i->i+ts.length<=s.next->fc ts->AgrS θ s v->Args θ i ts v->AgrS θ (bz s i ts).1 v/\PdOk θ (bz s i ts).2 v/\∀ a g l o,Den ⟨v,a⟩ g l o->Den ⟨v,a⟩ (iS s i ts++g) l o
 | [],s,i,v,h,_,_,_,ha,_=>⟨ha,fun p j=>(by cases j),fun a g l o q=>q⟩
 | t::ts,s,i,v,h,h0,hl,ht,ha,hA=>by
  rw [fc] at ht;rw [aP] at hl;obtain ⟨G,V,Y⟩:=y8 h (i:=i) ⟨h0,by omega⟩ ht.1;have key:AgrS θ (bP s i t).1 v/\PdOk θ (bP s i t).2 v/\∀ a g l o,Den ⟨v,a⟩ g l o->Den ⟨v,a⟩ (vo s i t++g) l o:=by
   have B:=hA.head;unfold bP vo;rcases ht.1.kind with hk|hk|hk
   ·have r:¬ t.kind=2:=by have:=hk.1;omega
    rw [p6 hk.1] at B;simp only [ae r,ag hk.1];refine ⟨?_,fun p j=>(by cases j),fun a g l o q=>?_⟩
    ·show AgrS θ (if 0<=s.at_ t.n then s.emit ⟨1,s.at_ t.n,i,emptyB⟩ else s.put t.n i) v;split
     ·exact ha
     ·rename_i hn
      intro m r D C;have C:0<=(s.put t.n i).at_ m:=C;show v ((s.put t.n i).at_ m)=_;rw [iz h.len hk.2 ⟨r,D⟩] at C ⊢;by_cases e:m=t.n
      ·subst e;rw [ag rfl];exact B
      ·rw [ae e] at C ⊢;exact ha m r D C
    ·split
     ·rename_i hn
      exact .gval B (ha _ hk.2.1 hk.2.2 hn) q
     ·exact q
   ·rw [ag hk.1,ag hk.1];rw [zN hk] at B;exact ⟨ha,fun p j=>(by cases j),fun a g l o q=>.gint B q⟩
   ·have r:¬ t.kind=2:=by have:=hk.1;omega
    have D:¬ t.kind=1:=by have:=hk.1;omega
    simp only [ae r,ae D];refine ⟨ha,fun p j=>?_,fun a g l o q=>q⟩;rw [bM.1 j];exact B
  obtain ⟨J,M,N⟩:=key;obtain ⟨O,U,b3⟩:=Oo (θ:=θ) ts (s:=(bP s i t).1) (i:=i+1) (v:=v) G.wf (by omega) (by omega) ht.2 J hA.tail;rw [bz,iS];refine ⟨O,fun p j=>?_,fun a g l o q=>?_⟩
  ·rcases cU.1 j with j|j
   ·exact M p j
   ·exact U p j
  ·rw [cN];exact N _ _ _ _ (b3 _ _ _ _ q)
theorem EX:∀ (ts:List T) {s:CS} {i:Int} {v a:Sl} {g:List Ist} {D:Ev} {o:List T},Wf s->0<=i->i+ts.length<=s.next->fc ts->Df s v->(∀ j,j<ts.length->∃ t,v (i+(j:Int))=some t)->Den ⟨v,a⟩ (iS s i ts++g) D o->
  Df (bz s i ts).1 v/\Den ⟨v,a⟩ g D o/\∀ θ,AgrS θ (bz s i ts).1 v->PdOk θ (bz s i ts).2 v->Args θ i ts v
 | [],s,i,v,a,g,D,o,h,_,_,_,hd,_,hr=>⟨hd,hr,fun θ _ _ j U=>absurd U (Nat.not_lt_zero _)⟩
 | t::ts,s,i,v,a,g,D,o,h,l,hl,ht,hd,hv,hr=>by
  rw [fc] at ht;rw [aP] at hl;obtain ⟨M,x2,x3⟩:=y8 h (i:=i) ⟨l,by omega⟩ ht.1;rw [iS,cN] at hr;have N:∃ u,v i=some u:=by simpa using hv 0 (by simp)
  have key:Df (bP s i t).1 v/\Den ⟨v,a⟩ (iS (bP s i t).1 (i+1) ts++g) D o/\∀ θ,AgrS θ (bP s i t).1 v->PdOk θ (bP s i t).2 v->v i=some (sbT θ t):=by
   generalize iS (bP s i t).1 (i+1) ts++g=rest2 at hr ⊢;unfold vo at hr;unfold bP;rcases ht.1.kind with hk|hk|hk
   ·rw [ae (by omega),ag hk.1] at hr;rw [ae (by omega),ag hk.1];split at hr
    ·rename_i hn
     rw [ag hn];cases hr with
     | gval O q G=>
      refine ⟨hd,G,fun θ r _=>?_⟩;have B:v (s.at_ t.n)=some (θ t.n):=r _ hk.2.1 hk.2.2 hn;have q:v (s.at_ t.n)=_:=q;rw [B] at q;rw [p6 hk.1,q];exact O
     | call l _ _ _=>rcases l with l|l <;> cases l
    ·rename_i hn
     rw [ae hn];refine ⟨fun m q G B=>?_,hr,fun θ r _=>?_⟩
     ·have B:0<=(s.put t.n i).at_ m:=B;show ∃ u,v ((s.put t.n i).at_ m)=_;rw [iz h.len hk.2 ⟨q,G⟩] at B ⊢;by_cases e:m=t.n
      ·rw [ag e];exact N
      ·rw [ae e] at B ⊢;exact hd m q G B
     ·have e:(s.put t.n i).at_ t.n=i:=by rw [iz h.len hk.2 hk.2,ag rfl]
      have:=r t.n hk.2.1 hk.2.2 (by show 0<=(s.put t.n i).at_ t.n;rw [e];exact l);have this:v ((s.put t.n i).at_ t.n)=_:=this;rw [e] at this;rw [p6 hk.1];exact this
   ·rw [ag hk.1] at hr;rw [ag hk.1];cases hr with
    | gint O q=>exact ⟨hd,q,fun θ _ _=>by rw [zN hk];exact O⟩
    | call l _ _ _=>rcases l with l|l <;> cases l
   ·rw [ae (by omega),ae (by omega)] at hr;rw [ae (by omega),ae (by omega)];exact ⟨hd,hr,fun θ _ J=>J (t,i) (bM.2 rfl)⟩
  obtain ⟨V,Y,Z⟩:=key;obtain ⟨b1,b2,b3⟩:=EX ts (s:=(bP s i t).1) (i:=i+1) M.wf (by omega) (by omega) ht.2 V (fun j U=>by
   have:=hv (j+1) (by rw [aP];omega);rw [show i+1+(j:Int)=i+((j+1:Nat):Int) by omega];exact this) Y
  obtain ⟨y1,_,_⟩:=lP ts (s:=(bP s i t).1) (i:=i+1) M.wf (by omega) (by omega) ht.2;rw [bz];refine ⟨b1,b2,fun θ r J=>?_⟩;have r:AgrS θ (bz (bP s i t).1 (i+1) ts).1 v:=r;exact .cons (Z θ (AgrS.back M.wf y1 (.refl _ _) r) fun p C=>J p (gf _ C)) (b3 θ r fun p C=>J p (gy _ C))
def kj:CS->List T->List Int->List Ist
 | s,t::ts,v::vs=>(if t.kind=3 then ⟨5,v,0,emptyB⟩ else Gu s t)::kj (if t.kind=3 then s.emit ⟨5,v,0,emptyB⟩ else fy s t) ts vs
 | _,_,_=>[]
mutual
def jf:T->CS->List Ist
 | .mk _ _ nm ks,s=>l9 ks s++(⟨7,ks.length,(bw ks s).1.next,nm⟩::kj (((bw ks s).1.emit ⟨7,ks.length,(bw ks s).1.next,nm⟩).inc) ks (bw ks s).2)
def l9:List T->CS->List Ist
 | [],_=>[]
 | t::ts,s=>(if t.kind=3 then jf t s else [])++l9 ts (if t.kind=3 then bn t s else (s,-1)).1
end
theorem FT:∀ (ts:List T) (vs:List Int) (s:CS),(dd s ts vs).code=s.code++kj s ts vs
 | [],vs,s=>by rw [dd,kj,dk];all_goals simp
 | _::_,[],s=>by rw [dd,kj,dk];all_goals simp
 | t::ts,v::vs,s=>by
  rw [dd,kj,FT ts];have:(if t.kind=3 then s.emit ⟨5,v,0,emptyB⟩ else fy s t).code=s.code++[if t.kind=3 then ⟨5,v,0,emptyB⟩ else Gu s t]:=by
   split
   ·rfl
   ·exact Ab s t
  rw [this,cN];rfl
theorem tH:∀ (ts:List T) (vs:List Int) (s:CS),vs.length=ts.length->(kj s ts vs).length=ts.length
 | [],[],s,_=>by rw [kj];all_goals simp
 | t::ts,v::vs,s,h=>by rw [kj,aP,aP,tH ts vs _ (by simpa using h)]
mutual
theorem CA:∀ (t:T) (s:CS),(bn t s).1.code=s.code++jf t s
 | .mk k n nm ks,s=>by
  rw [bn,jf];show (dd _ ks _).code=_;rw [FT];show (bw ks s).1.code++[_]++_=_;rw [GF ks s,cN,cN]; rfl
theorem GF:∀ (ts:List T) (s:CS),(bw ts s).1.code=s.code++l9 ts s
 | [],s=>by rw [bw,l9,dk]
 | t::ts,s=>by
  rw [bw,l9];show (bw ts _).1.code=_;rw [GF ts];have:(if t.kind=3 then bn t s else (s,-1)).1.code=s.code++(if t.kind=3 then jf t s else []):=by
   split
   ·exact CA t s
   ·exact (dk _).symm
  rw [this,cN]
end
theorem i7:∀ (ts:List T) (s:CS),(bw ts s).2.length=ts.length
 | [],s=>by rw [bw];rfl
 | t::ts,s=>by
  rw [bw];show (_::(bw ts _).2).length=_;rw [aP,aP,i7 ts]
theorem s6:∀ (ts:List T) (vs:List Int) {s:CS},Wf s->fc ts->Xt s (dd s ts vs)/\∀ n,0<=n->n<26->(dd s ts vs).at_ n=s.at_ n ∨ s.next<=(dd s ts vs).at_ n
 | [],vs,s,h,_=>by rw [dd];exact ⟨.refl h,fun _ _ _=>.inl rfl⟩;all_goals simp
 | _::_,[],s,h,_=>by rw [dd];exact ⟨.refl h,fun _ _ _=>.inl rfl⟩;all_goals simp
 | t::ts,v::vs,s,h,ht=>by
  rw [fc] at ht;rw [dd];have key:Xt s (if t.kind=3 then s.emit ⟨5,v,0,emptyB⟩ else fy s t)/\∀ n,0<=n->n<26->(if t.kind=3 then s.emit ⟨5,v,0,emptyB⟩ else fy s t).at_ n=s.at_ n ∨ s.next<=(if t.kind=3 then s.emit ⟨5,v,0,emptyB⟩ else fy s t).at_ n:=by
   split
   ·exact ⟨.emit h _,fun _ _ _=>.inl rfl⟩
   ·rename_i i
    refine ⟨tL h ht.1 i,fun n a g=>?_⟩;unfold fy;split
    ·exact .inl rfl
    ·split
     ·exact .inl rfl
     ·rename_i m _
      have hk:=ht.1.kind;show (s.put t.n s.next).at_ n=s.at_ n ∨ s.next<=(s.put t.n s.next).at_ n;rw [iz h.len (by omega) ⟨a,g⟩];split
      ·exact .inr (fT _)
      ·exact .inl rfl
  generalize (if t.kind=3 then s.emit ⟨5,v,0,emptyB⟩ else fy s t)=s1 at key;obtain ⟨j,l⟩:=s6 ts vs key.1.wf ht.2;refine ⟨key.1.trans j,fun n a g=>?_⟩;have:=key.1.next;rcases l n a g with e|e
  ·rw [e];exact key.2 n a g
  ·exact .inr (by omega)
def KW (k:Int):List T->List Int->Prop
 | t::ts,x::vs=>(t.kind=3->x<k)/\KW k ts vs
 | _,_=>True
def KOk (θ:Int->T) (v:Sl):List T->List Int->Prop
 | t::ts,x::vs=>(t.kind=3->v x=some (sbT θ t))/\KOk θ v ts vs
 | _,_=>True
theorem KW.mono {k a:Int} (h:k<=a):∀ (ts:List T) (vs:List Int),KW k ts vs->KW a ts vs
 | [],_,_=>by rw [KW];trivial;all_goals simp
 | _::_,[],_=>by rw [KW];trivial;all_goals simp
 | t::ts,v::vs,hk=>by
  rw [KW] at hk ⊢;exact ⟨fun g=>by have:=hk.1 g;omega,KW.mono h ts vs hk.2⟩
theorem KOk.frm {θ:Int->T} {v v':Sl} {k:Int} (hf:Frm k v v'):∀ (ts:List T) (vs:List Int),KW k ts vs->KOk θ v ts vs->KOk θ v' ts vs
 | [],_,_,_=>by rw [KOk];trivial;all_goals simp
 | _::_,[],_,_=>by rw [KOk];trivial;all_goals simp
 | t::ts,x::vs,hw,hk=>by
  rw [KW] at hw;rw [KOk] at hk ⊢;exact ⟨fun a=>by rw [hf _ (hw.1 a)];exact hk.1 a,KOk.frm hf ts vs hw.2 hk.2⟩
theorem JD {θ:Int->T}:∀ (ts:List T) (vs:List Int) {s:CS} {v:Sl},Wf s->AgrS θ s v->fc ts->vs.length=ts.length->KW s.next ts vs->KOk θ v ts vs->∃ v1,Frm s.next v v1/\AgrS θ (dd s ts vs) v1/\Des v (kj s ts vs) v1 (sbL θ ts)
 | [],[],s,v,h,ha,_,_,_,_=>by
  rw [dd,kj,sbL]
  ·exact ⟨v,.refl _ _,ha,.nil⟩
  all_goals simp
 | t::ts,x::vs,s,v,h,ha,ht,hl,hw,hk=>by
  rw [fc] at ht;rw [KW] at hw;rw [KOk] at hk;rw [dd,kj,sbL];by_cases a:t.kind=3
  ·rw [ag a,ag a];obtain ⟨v1,g,i,j⟩:=JD (θ:=θ) ts vs (h.emit ⟨5,x,0,emptyB⟩) (v:=v) ha ht.2 (by simpa using hl) hw.2 hk.2;exact ⟨v1,g,i,.val (hk.1 a) j⟩
  ·rw [ae a,ae a];have l:=tL h ht.1 a;obtain ⟨v1,g,i,j⟩:=VB h ha ht.1 a;obtain ⟨v2,m,o,b3⟩:=JD (θ:=θ) ts vs l.wf i ht.2 (by simpa using hl) (.mono l.next ts vs hw.2) (.frm g ts vs hw.2 hk.2);exact ⟨v2,g.trans m l.next,o,j _ _ _ b3⟩
theorem zO:∀ (ts:List T) (vs:List Int) {s:CS} {v v1:Sl} {ks:List T},Wf s->Df s v->fc ts->vs.length=ts.length->KW s.next ts vs->Des v (kj s ts vs) v1 ks->Frm s.next v v1/\Df (dd s ts vs) v1/\∀ θ,AgrS θ (dd s ts vs) v1->KOk θ v ts vs->ks=sbL θ ts
 | [],[],s,v,v1,ks,h,hd,_,_,_,hr=>by
  rw [kj] at hr
  ·rw [dd]
   ·cases hr with
    | nil=>exact ⟨.refl _ _,hd,fun _ _ _=>rfl⟩
   all_goals simp
  all_goals simp
 | t::ts,x::vs,s,v,v1,ks,h,hd,ht,hl,hw,hr=>by
  rw [fc] at ht;rw [KW] at hw;rw [kj] at hr;rw [dd];by_cases a:t.kind=3
  ·rw [ag a,ag a] at hr;rw [ag a];cases hr with
   | val B C=>
    obtain ⟨j,l,m⟩:=zO ts vs (h.emit ⟨5,x,0,emptyB⟩) hd ht.2 (by simpa using hl) hw.2 C;refine ⟨j,l,fun θ i hk=>?_⟩;rw [KOk] at hk;have:=hk.1 a;rw [B,bj] at this;rw [sbL,this,m θ i hk.2]
  ·rw [ae a,ae a] at hr;rw [ae a];have g:=tL h ht.1 a;obtain ⟨u,k,p,rfl,j,l,m,q⟩:=Mp h hd ht.1 a hr;obtain ⟨o,r,b3⟩:=zO ts vs g.wf l ht.2 (by simpa using hl) (.mono g.next ts vs hw.2) m;refine ⟨j.trans o g.next,r,fun θ i hk=>?_⟩;rw [KOk] at hk;rw [sbL,b3 θ i (.frm j ts vs hw.2 hk.2),q θ (AgrS.back g.wf (s6 ts vs g.wf ht.2).1 o i)]
mutual
theorem lQ:∀ (t:T) {s:CS},Wf s->okG t->Xt s (bn t s).1/\(bn t s).2<(bn t s).1.next/\s.next<=(bn t s).2
 | .mk k n nm ks,s,h,ht=>by
  rw [okG] at ht;obtain ⟨a,j⟩:=tQ ks h ht.2;rw [bn];have i:=(a.wf.emit ⟨7,ks.length,(bw ks s).1.next,nm⟩).inc;have g:=(s6 ks (bw ks s).2 i ht.2).1;refine ⟨(a.trans ((Xt.emit a.wf _).trans (.inc (a.wf.emit _)))).trans g,?_,a.next⟩;have:=g.next;have e:(((bw ks s).1.emit ⟨7,ks.length,(bw ks s).1.next,nm⟩).inc).next=(bw ks s).1.next+1:=rfl;show (bw ks s).1.next<(dd _ ks _).next;omega
theorem tQ:∀ (ts:List T) {s:CS},Wf s->fc ts->Xt s (bw ts s).1/\KW (bw ts s).1.next ts (bw ts s).2
 | [],s,h,_=>by
  rw [bw];refine ⟨.refl h,?_⟩;rw [KW]; trivial; all_goals simp
 | t::ts,s,h,ht=>by
  rw [fc] at ht;have key:Xt s (if t.kind=3 then bn t s else (s,-1)).1/\(t.kind=3->(if t.kind=3 then bn t s else (s,-1)).2<(if t.kind=3 then bn t s else (s,-1)).1.next):=by
   split
   ·obtain ⟨j,l,_⟩:=lQ t h ht.1;exact ⟨j,fun _=>l⟩
   ·rename_i a
    exact ⟨.refl h,fun g=>absurd g a⟩
  obtain ⟨i,m⟩:=tQ ts key.1.wf ht.2;rw [bw];refine ⟨key.1.trans i,?_⟩;show KW _ (t::ts) (_::(bw ts _).2);rw [KW];exact ⟨fun a=>by have:=key.2 a; have:=i.next; show _<(bw ts _).1.next; omega,m⟩
end
theorem Uv {θ:Int->T} {s s':CS} {v:Sl} {k:Int} {t:T} (h:∀ n,0<=n->n<26->s'.at_ n=s.at_ n ∨ s.next<=s'.at_ n) (m:∀ n,s.at_ n<k) (hk:k<s.next):(AgrS θ s' (upS v k t)↔AgrS θ s' v)/\(Df s' v->Df s' (upS v k t)):=by
 have i:∀ n,0<=n->n<26->s'.at_ n≠k:=fun n a g=>by
  rcases h n a g with e|e
  ·have:=m n;omega
  ·omega
 refine ⟨⟨fun l n a g j=>?_,fun l n a g j=>?_⟩,fun o n a g j=>?_⟩
 ·have:=l n a g j
  rwa [gj _ _ (i n a g)] at this
 ·rw [gj _ _ (i n a g)];exact l n a g j
 ·rw [gj _ _ (i n a g)];exact o n a g j
mutual
theorem Oj {θ:Int->T}:∀ (t:T) {s:CS} {v:Sl},Wf s->AgrS θ s v->okG t->t.kind=3->∃ v1,Frm s.next v v1/\AgrS θ (bn t s).1 v1/\v1 (bn t s).2=some (sbT θ t)/\∀ a g i o,Den ⟨v1,a⟩ g i o->Den ⟨v,a⟩ (jf t s++g) i o
 | .mk k n nm ks,s,v,h,ha,ht,h3=>by
  have hk:=ht.kind;rw [okG] at ht;obtain ⟨j,p⟩:=tQ ks h ht.2;obtain ⟨v1,q,r,B,C⟩:=RW (θ:=θ) ks h ha ht.2;have l:=(j.wf.emit ⟨7,ks.length,(bw ks s).1.next,nm⟩).inc;have J:=s6 ks (bw ks s).2 l ht.2;have M:(((bw ks s).1.emit ⟨7,ks.length,(bw ks s).1.next,nm⟩).inc).next=(bw ks s).1.next+1:=rfl;obtain ⟨v2,D,G,b3⟩:=JD (θ:=θ) ks (bw ks s).2 l (v:=v1) r ht.2 (i7 ..) (.mono (by omega) _ _ p) B;rw [bn,jf];refine ⟨upS v2 (bw ks s).1.next (fnT nm (sbL θ ks)),?_,((Uv J.2 j.wf.lt (by omega)).1).2 G,?_,fun a g i o m=>?_⟩
  ·have:=j.next;exact ((q.trans D (by omega))).trans (Frm.upS v2 _ (fT (bw ks s).1.next)) this
  ·show upS v2 (bw ks s).1.next _ (bw ks s).1.next=_;rw [fb,tu ⟨h3,by rcases hk with e|e|e <;> first|exact e.2|(exfalso; omega)⟩];rfl
  ·rw [cN];refine C _ _ _ _ ?_;rw [dg];exact .sstr (by rw [tH _ _ _ (i7 ..)]) b3 m
theorem RW {θ:Int->T}:∀ (ts:List T) {s:CS} {v:Sl},Wf s->AgrS θ s v->fc ts->∃ v1,Frm s.next v v1/\AgrS θ (bw ts s).1 v1/\KOk θ v1 ts (bw ts s).2/\∀ a g j o,Den ⟨v1,a⟩ g j o->Den ⟨v,a⟩ (l9 ts s++g) j o
 | [],s,v,h,ha,_=>by
  rw [bw,l9];refine ⟨v,.refl _ _,ha,?_,fun a g j o l=>l⟩;rw [KOk]; trivial; all_goals simp
 | t::ts,s,v,h,ha,ht=>by
  rw [fc] at ht;rw [bw,l9];have key:∃ v1,Xt s (if t.kind=3 then bn t s else (s,-1)).1/\Frm s.next v v1/\AgrS θ (if t.kind=3 then bn t s else (s,-1)).1 v1/\(t.kind=3->v1 (if t.kind=3 then bn t s else (s,-1)).2=some (sbT θ t)/\(if t.kind=3 then bn t s else (s,-1)).2<(if t.kind=3 then bn t s else (s,-1)).1.next)/\∀ a g j o,Den ⟨v1,a⟩ g j o->Den ⟨v,a⟩ ((if t.kind=3 then jf t s else [])++g) j o:=by
   by_cases i:t.kind=3
   ·rw [ag i,ag i];obtain ⟨v1,B,C,m,D⟩:=Oj (θ:=θ) t h ha ht.1 i;obtain ⟨q,J,_⟩:=lQ t h ht.1;exact ⟨v1,q,B,C,fun _=>⟨m,J⟩,D⟩
   ·rw [ae i,ae i];exact ⟨v,.refl h,.refl _ _,ha,fun r=>absurd r i,fun a g j o l=>l⟩
  generalize (if t.kind=3 then bn t s else (s,-1))=p at key;obtain ⟨v1,q,B,C,m,D⟩:=key;obtain ⟨v2,G,M,b3,N⟩:=RW (θ:=θ) ts q.wf C ht.2;refine ⟨v2,B.trans G q.next,M,?_,fun a g j o l=>?_⟩
  ·show KOk θ v2 (t::ts) (p.2::(bw ts p.1).2);rw [KOk];exact ⟨fun i=>by rw [G _ (m i).2]; exact (m i).1,b3⟩
  ·rw [cN];exact D _ _ _ _ (N _ _ _ _ l)
end
mutual
theorem Fp:∀ (t:T) {s:CS} {v a:Sl} {g:List Ist} {m:Ev} {o:List T},Wf s->Df s v->okG t->t.kind=3->Den ⟨v,a⟩ (jf t s++g) m o->∃ v1,Frm s.next v v1/\Df (bn t s).1 v1/\Den ⟨v1,a⟩ g m o/\∀ θ,AgrS θ (bn t s).1 v1->v1 (bn t s).2=some (sbT θ t)
 | .mk k n nm ks,s,v,a,g,m,o,h,hd,ht,h3,hr=>by
  have hk:=ht.kind;rw [okG] at ht;obtain ⟨j,G⟩:=tQ ks h ht.2;rw [jf,cN] at hr;obtain ⟨v1,J,M,p,N⟩:=HS ks h hd ht.2 hr;have q:=(j.wf.emit ⟨7,ks.length,(bw ks s).1.next,nm⟩).inc;have r:=s6 ks (bw ks s).2 q ht.2;have en:(((bw ks s).1.emit ⟨7,ks.length,(bw ks s).1.next,nm⟩).inc).next=(bw ks s).1.next+1:=rfl;rw [dg] at p;generalize B:kj (((bw ks s).1.emit ⟨7,ks.length,(bw ks s).1.next,nm⟩).inc) ks (bw ks s).2++g=code at p;rw [bn];cases p with
  | sstr h4 Y Z=>
   obtain ⟨rfl,rfl⟩:=Rn B (by rw [tH _ _ _ (i7 ..)]; omega);obtain ⟨C,O,b3⟩:=zO ks (bw ks s).2 q (v:=v1) M ht.2 (i7 ..) (.mono (by omega) _ _ G) Y;rename_i v2 D
   refine ⟨_,?_,(Uv (θ:=fun _=>oG) r.2 j.wf.lt (by omega)).2 O,Z,fun θ i=>?_⟩
   ·have:=j.next;exact ((J.trans C (by omega))).trans (Frm.upS v2 _ (fT (bw ks s).1.next)) this
   ·have i:=((Uv r.2 j.wf.lt (by omega)).1).1 i;have U:=AgrS.back (s:=(((bw ks s).1.emit ⟨7,ks.length,(bw ks s).1.next,nm⟩).inc)) q r.1 C i;have V:=b3 θ i (N θ U);show upS v2 (bw ks s).1.next _ (bw ks s).1.next=_;rw [fb,tu ⟨h3,by rcases hk with e|e|e <;> first|exact e.2|(exfalso; omega)⟩,V];rfl
  | call l _ _ _=>rcases l with l|l <;> cases l
theorem HS:∀ (ts:List T) {s:CS} {v a:Sl} {g:List Ist} {q:Ev} {o:List T},Wf s->Df s v->fc ts->Den ⟨v,a⟩ (l9 ts s++g) q o->∃ v1,Frm s.next v v1/\Df (bw ts s).1 v1/\Den ⟨v1,a⟩ g q o/\∀ θ,AgrS θ (bw ts s).1 v1->KOk θ v1 ts (bw ts s).2
 | [],s,v,a,g,q,o,h,hd,_,hr=>by
  rw [l9] at hr;rw [bw];refine ⟨v,.refl _ _,hd,hr,fun θ _=>?_⟩;rw [KOk]; trivial; all_goals simp
 | t::ts,s,v,a,g,q,o,h,hd,ht,hr=>by
  rw [fc] at ht;rw [l9,cN] at hr;rw [bw];have key:∃ v1,Xt s (if t.kind=3 then bn t s else (s,-1)).1/\Frm s.next v v1/\Df (if t.kind=3 then bn t s else (s,-1)).1 v1/\(∀ θ,AgrS θ (if t.kind=3 then bn t s else (s,-1)).1 v1->t.kind=3->v1 (if t.kind=3 then bn t s else (s,-1)).2=some (sbT θ t))/\(t.kind=3->(if t.kind=3 then bn t s else (s,-1)).2<(if t.kind=3 then bn t s else (s,-1)).1.next)/\Den ⟨v1,a⟩ (l9 ts (if t.kind=3 then bn t s else (s,-1)).1++g) q o:=by
   by_cases i:t.kind=3
   ·rw [ag i,ag i] at hr;rw [ag i];obtain ⟨v1,r,B,C,D⟩:=Fp t h hd ht.1 i hr;obtain ⟨m,G,_⟩:=lQ t h ht.1;exact ⟨v1,m,r,B,fun θ l _=>D θ l,fun _=>G,C⟩
   ·rw [ae i,ae i] at hr;rw [ae i];exact ⟨v,.refl h,.refl _ _,hd,fun θ _ j=>absurd j i,fun j=>absurd j i,hr⟩
  generalize (if t.kind=3 then bn t s else (s,-1))=p at key;obtain ⟨v1,m,r,B,C,G,D⟩:=key;obtain ⟨v2,J,M,b3,N⟩:=HS ts m.wf B ht.2 D;refine ⟨v2,r.trans J m.next,M,b3,fun θ l=>?_⟩;have l:AgrS θ (bw ts p.1).1 v2:=l;show KOk θ v2 (t::ts) (p.2::(bw ts p.1).2);rw [KOk];exact ⟨fun i=>by rw [J _ (G i)]; exact C θ (AgrS.back m.wf (tQ ts m.wf ht.2).1 J l) i,N θ l⟩
end
def GV (s:CS) (i:Int) (t:T):List Ist:=
 if t.kind=2 then [⟨10,t.n,i,emptyB⟩]
 else if t.kind=1 then (if 0<=s.at_ t.n then [⟨9,s.at_ t.n,i,emptyB⟩] else [⟨8,s.next,i,emptyB⟩])
 else jf t s++[⟨9,(bn t s).2,i,emptyB⟩]
def oZ:CS->Int->List T->List Ist
 | _,_,[]=>[]
 | s,i,t::ts=>GV s i t++oZ (gb s i t) (i+1) ts
theorem FR:∀ (ts:List T) (s:CS) (i:Int),(eP s i ts).code=s.code++oZ s i ts
 | [],s,i=>by rw [eP,oZ,dk]
 | t::ts,s,i=>by
  rw [eP,oZ,FR ts];have:(gb s i t).code=s.code++GV s i t:=by
   unfold gb GV;split
   ·rfl
   ·split
    ·split <;> rfl
    ·show (bn t s).1.code++[_]=_;rw [CA,cN]
  rw [this,cN]
theorem AB {s:CS} (h:Wf s) (i:Int) {t:T} (a:okG t):Xt s (gb s i t):=by
 unfold gb;rcases a.kind with hk|hk|hk
 ·rw [ae (by omega),ag hk.1];split
  ·exact .emit h _
  ·rename_i g
   exact (Xt.new h hk.2 g).trans (.emit (Xt.new h hk.2 g).wf _)
 ·rw [ag hk.1];exact .emit h _
 ·rw [ae (by omega),ae (by omega)];have:=(lQ t h a).1;exact this.trans (.emit this.wf _)
theorem Lg:∀ (ts:List T) {s:CS} (i:Int),Wf s->fc ts->Xt s (eP s i ts)
 | [],s,i,h,_=>.refl h
 | t::ts,s,i,h,ht=>by
  rw [fc] at ht;rw [eP];exact (AB h i ht.1).trans (Lg ts _ (AB h i ht.1).wf ht.2)
theorem Xl {θ:Int->T} {s:CS} {v:Sl} (h:Wf s) (m:AgrS θ s v) (i:Int) {t:T} (q:okG t):∃ v1,Frm s.next v v1/\AgrS θ (gb s i t) v1/\∀ a g l o,Den ⟨v1,upS a i (sbT θ t)⟩ g l o->Den ⟨v,a⟩ (GV s i t++g) l o:=by
 unfold gb GV;rcases q.kind with hk|hk|hk
 ·have p:¬ t.kind=2:=by have:=hk.1;omega
  rw [p6 hk.1];by_cases hn:0<=s.at_ t.n
  ·simp only [ae p,ag hk.1,ag hn];exact ⟨v,.refl _ _,m,fun a g l o j=>.pval (m _ hk.2.1 hk.2.2 hn) j⟩
  ·simp only [ae p,ag hk.1,ae hn];exact ⟨_,.upS v (θ t.n) (fT _),AgrS.new h m hk.2,fun a g l o j=>.pvar j⟩
 ·rw [ag hk.1,ag hk.1,zN hk];exact ⟨v,.refl _ _,m,fun a g l o j=>.pint j⟩
 ·have p:¬ t.kind=2:=by have:=hk.1;omega
  have G:¬ t.kind=1:=by have:=hk.1;omega
  simp only [ae p,ae G];obtain ⟨v1,r,B,C,D⟩:=Oj (θ:=θ) t h m q hk.1;refine ⟨v1,r,B,fun a g l o j=>?_⟩;rw [cN];exact D _ _ _ _ (.pval C j)
theorem Ug {s:CS} {v a:Sl} (h:Wf s) (r:Df s v) (i:Int) {t:T} (C:okG t) {m:List Ist} {D:Ev} {o:List T} (l:Den ⟨v,a⟩ (GV s i t++m) D o):∃ v1 u,Frm s.next v v1/\Df (gb s i t) v1/\Den ⟨v1,upS a i u⟩ m D o/\∀ θ,AgrS θ (gb s i t) v1->u=sbT θ t:=by
 unfold GV at l;unfold gb;rcases C.kind with hk|hk|hk
 ·rw [ae (by omega),ag hk.1] at l;rw [ae (by omega),ag hk.1];split at l
  ·rename_i hn
   rw [ag hn];cases l with
   | pval j B=>
    refine ⟨v,_,.refl _ _,r,B,fun θ p=>?_⟩;have q:v (s.at_ t.n)=some (θ t.n):=p _ hk.2.1 hk.2.2 hn;have j:v (s.at_ t.n)=_:=j;rw [j,bj] at q;rw [q,p6 hk.1]
   | call g _ _ _=>rcases g with g|g <;> cases g
  ·rename_i hn
   rw [ae hn];cases l with
   | pvar j=>
    rename_i u
    refine ⟨_,_,.upS v u (fT _),Df.new h r hk.2 u,j,fun θ p=>?_⟩;have e:((s.put t.n s.next).inc.emit ⟨8,s.next,i,emptyB⟩).at_ t.n=s.next:=by
     show (s.put t.n s.next).at_ t.n=s.next;rw [iz h.len hk.2 hk.2,ag rfl]
    have:=p t.n hk.2.1 hk.2.2 (by rw [e];have:=h.four;omega);rw [e,fb,bj] at this;rw [this,p6 hk.1]
   | call g _ _ _=>rcases g with g|g <;> cases g
 ·rw [ag hk.1] at l;rw [ag hk.1];cases l with
  | call g _ _ _=>rcases g with g|g <;> cases g
  | pint j=>exact ⟨v,_,.refl _ _,r,j,fun θ _=>(zN hk).symm⟩
 ·rw [ae (by omega),ae (by omega),cN] at l;rw [ae (by omega),ae (by omega)];obtain ⟨v1,G,J,M,N⟩:=Fp t h r C hk.1 l;cases M with
  | pval j B=>
   refine ⟨v1,_,G,J,B,fun θ p=>?_⟩;have q:=N θ p;have j:v1 (bn t s).2=_:=j;rw [j,bj] at q;exact q
  | call g _ _ _=>rcases g with g|g <;> cases g
theorem QU {θ:Int->T}:∀ (ts:List T) {s:CS} {v:Sl} (i:Int),Wf s->AgrS θ s v->fc ts->∃ v1,Frm s.next v v1/\AgrS θ (eP s i ts) v1/\∀ a,∃ l,(∀ k,k<i->l k=a k)/\Args θ i ts l/\∀ g m o,Den ⟨v1,l⟩ g m o->Den ⟨v,a⟩ (oZ s i ts++g) m o
 | [],s,v,i,h,ha,_=>⟨v,.refl _ _,ha,fun a=>⟨a,fun _ _=>rfl,fun j B=>absurd B (Nat.not_lt_zero _),fun g m o p=>p⟩⟩
 | t::ts,s,v,i,h,ha,ht=>by
  rw [fc] at ht;have r:=AB h i ht.1;obtain ⟨v1,l,C,D⟩:=Xl h ha i ht.1;obtain ⟨v2,G,J,b3⟩:=QU (θ:=θ) ts (i+1) r.wf C ht.2;rw [eP,oZ];refine ⟨v2,l.trans G r.next,J,fun a=>?_⟩;obtain ⟨c,q,M,N⟩:=b3 (upS a i (sbT θ t));refine ⟨c,fun k hk=>by rw [q k (by omega),gj _ _ (by omega)],.cons (by rw [q i (by omega),fb]) M,fun g m o p=>?_⟩;rw [cN];exact D _ _ _ _ (N _ _ _ p)
theorem IZ:∀ (ts:List T) {s:CS} {v a:Sl} (i:Int) {g:List Ist} {m:Ev} {o:List T},Wf s->Df s v->fc ts->Den ⟨v,a⟩ (oZ s i ts++g) m o->∃ v1 l,Frm s.next v v1/\Df (eP s i ts) v1/\(∀ k,k<i->l k=a k)/\Den ⟨v1,l⟩ g m o/\∀ θ,AgrS θ (eP s i ts) v1->Args θ i ts l
 | [],s,v,a,i,g,m,o,h,hd,_,hr=>⟨v,a,.refl _ _,hd,fun _ _=>rfl,hr,fun θ _ j B=>absurd B (Nat.not_lt_zero _)⟩
 | t::ts,s,v,a,i,g,m,o,h,hd,ht,hr=>by
  rw [fc] at ht;have p:=AB h i ht.1;rw [oZ,cN] at hr;obtain ⟨v1,u,l,C,D,G⟩:=Ug h hd i ht.1 hr;obtain ⟨v2,c,r,J,b3,M,N⟩:=IZ ts (i+1) p.wf C ht.2 D;rw [eP];refine ⟨v2,c,l.trans r p.next,J,fun k hk=>by rw [b3 k (by omega),gj _ _ (by omega)],M,fun θ q=>?_⟩;exact .cons (by rw [b3 i (by omega),fb,G θ (AgrS.back p.wf (Lg ts _ p.wf ht.2) r q)]) (N θ q)
theorem mp (θ:Int->T):∀ ts:List T,sbL θ ts=ts.map (sbT θ)
 | []=>rfl
 | t::ts=>by rw [sbL,Gx,mp θ ts]
def yA (s:CS) (g:T):List Ist:=
 if rM g=true then [⟨13,0,0,emptyB⟩] else oZ s 0 g.kids++[⟨if gi g=true then 12 else 11,g.kids.length,0,g.name⟩]
def jc:CS->List T->List Ist
 | _,[]=>[]
 | s,g::gs=>yA s g++jc (fM s g) gs
theorem BZ:∀ (a:List T) (s:CS),(dR s a).code=s.code++jc s a
 | [],s=>by rw [dR,jc,dk]
 | g::a,s=>by
  rw [dR,jc,BZ a];have:(fM s g).code=s.code++yA s g:=by
   unfold fM yA;split
   ·rfl
   ·show (eP s 0 g.kids).code++[_]=_;rw [FR,cN]
  rw [this,cN]
theorem tN {s:CS} (h:Wf s) {g:T} (a:okG g):Xt s (fM s g):=by
 unfold fM;split
 ·exact .emit h _
 ·have:=Lg g.kids 0 h a.kids;exact this.trans (.emit this.wf _)
theorem DX:∀ (a:List T) {s:CS},Wf s->fc a->Xt s (dR s a)
 | [],s,h,_=>.refl h
 | g::a,s,h,hg=>by
  rw [fc] at hg;rw [dR];exact (tN h hg.1).trans (DX a (tN h hg.1).wf hg.2)
theorem TP {θ:Int->T} {g:T} (a:okG g) (hc:rM g=true):sbT θ g=oG:=by
 unfold rM at hc;simp only [bQ,bK] at hc;rw [tu ⟨hc.1,by have:=a.kind;omega⟩,hc.2.1,jM hc.2.2];rfl
theorem Oz {θ:Int->T}:∀ (m:List T) {s:CS} {v:Sl} (a:Sl),Wf s->AgrS θ s v->fc m->(∀ g∈m,g.kind=3)->∃ l,Den ⟨v,a⟩ (jc s m) l (sbL θ m)
 | [],s,v,a,h,ha,_,_=>⟨_,.nil⟩
 | g::m,s,v,a,h,ha,hg,h3=>by
  rw [fc] at hg;have U:=tN h hg.1;have key:∃ v1 p,AgrS θ (fM s g) v1/\∀ j l o,Den ⟨v1,p⟩ j l o->Den ⟨v,a⟩ (yA s g++j) l (sbT θ g::o):=by
   unfold fM yA;by_cases hc:rM g=true
   ·rw [ag hc,ag hc,TP hg.1 hc];exact ⟨v,a,ha,fun j l o q=>.cut q⟩
   ·rw [ae hc,ae hc];obtain ⟨v1,p,C,D⟩:=QU (θ:=θ) g.kids 0 h ha hg.1.kids;obtain ⟨c,V,G,J⟩:=D a;refine ⟨v1,c,C,fun j l o q=>?_⟩;rw [cN,tu ⟨h3 g (bF ..),by have:=hg.1.kind;have:=h3 g (bF ..);omega⟩];refine J _ _ _ (.call (by split <;> simp) (by rw [jp]) (fun i t=>?_) q);have r:i<g.kids.length:=by rw [jp] at t;exact t
    have:=G i r;rw [BI] at this;show c (i:Int)=_;rw [this]
    congr 1
    simp only [mp,CU]
  obtain ⟨v1,p,M,N⟩:=key;obtain ⟨l,O⟩:=Oz (θ:=θ) m (v:=v1) p U.wf M hg.2 fun x B=>h3 x (bI _ B);rw [jc,sbL];exact ⟨l,N _ _ _ O⟩
theorem UV {e l:Ev} {op n b:Int} {nm:ByteArray} {g:List Ist} {o:List T} (j:op=11 ∨ op=12) (h:Den e (⟨op,n,b,nm⟩::g) l o):∃ ks o',o=fnT nm ks::o'/\(ks.length:Int)=n/\(∀ i (h:i<ks.length),e.a (i:Int)=some ks[i])/\Den e g l o':=by
 cases h with
 | call _ m p q=>exact ⟨_,_,rfl,m,p,q⟩
 | _=>rcases j with h|h <;> cases h
theorem EC:∀ (j:List T) {s:CS} {v a:Sl} {l:Ev} {o:List T},Wf s->Df s v->fc j->(∀ g∈j,g.kind=3)->Den ⟨v,a⟩ (jc s j) l o->∃ v1,Frm s.next v v1/\Df (dR s j) v1/\∀ θ,AgrS θ (dR s j) v1->o=sbL θ j
 | [],s,v,a,l,o,h,hd,_,_,hr=>by
  rw [jc] at hr;cases hr with
  | nil=>exact ⟨v,.refl _ _,hd,fun _ _=>rfl⟩
 | g::j,s,v,a,l,o,h,hd,hg,h3,hr=>by
  rw [fc] at hg;have q:=tN h hg.1;rw [jc] at hr;have key:∃ v1 p u o',o=u::o'/\Frm s.next v v1/\Df (fM s g) v1/\Den ⟨v1,p⟩ (jc (fM s g) j) l o'/\∀ θ,AgrS θ (fM s g) v1->u=sbT θ g:=by
   generalize jc (fM s g) j=rest at hr ⊢;unfold yA at hr;unfold fM;by_cases hc:rM g=true
   ·rw [ag hc] at hr ⊢;cases hr with
    | cut h1=>exact ⟨v,a,_,_,rfl,.refl _ _,hd,h1,fun θ _=>(TP hg.1 hc).symm⟩
    | call r=>rcases r with r|r <;> cases r
   ·rw [ae hc,cN] at hr;rw [ae hc];obtain ⟨v1,c,p,N,a3,B,O⟩:=IZ g.kids 0 h hd hg.1.kids hr;rw [List.singleton_append] at B;have t:∃ ks o',o=fnT g.name ks::o'/\(ks.length:Int)=g.kids.length/\(∀ i (h:i<ks.length),c (i:Int)=some ks[i])/\Den ⟨v1,c⟩ rest l o':=by
     exact UV (by split <;> simp) B
    obtain ⟨ks,o',rfl,h5,U,V⟩:=t;refine ⟨v1,c,_,_,rfl,p,N,V,fun θ m=>?_⟩;rw [tu ⟨h3 g (bF ..),by have:=hg.1.kind;have:=h3 g (bF ..);omega⟩]
    congr 1
    refine List.ext_getElem (by rw [jp];omega) fun i G J=>?_;have D:=O θ m i (by omega);rw [BI,U i G,bj] at D;rw [D];simp only [mp,CU]
  obtain ⟨v1,p,u,o',rfl,Y,Z,b3,b4⟩:=key;obtain ⟨v2,C,c2,c3⟩:=EC j q.wf Z hg.2 (fun x M=>h3 x (bI _ M)) b3;rw [dR];refine ⟨v2,Y.trans C q.next,c2,fun θ m=>?_⟩;rw [sbL,c3 θ m,b4 θ (AgrS.back q.wf (DX j q.wf hg.2) C m)]
def pC (c:C):List Ist:=iS startC 0 c.head.kids++(ow (cQ (bz startC 0 c.head.kids).2) (bz startC 0 c.head.kids).1 (bz startC 0 c.head.kids).2++jc (gq startC c.head.kids) c.body)
theorem gI (c:C):dV c=pC c++[⟨14,0,0,emptyB⟩]:=by
 show (dR (gq startC c.head.kids) c.body).code++[_]=_;rw [BZ];have:(gq startC c.head.kids).code=iS startC 0 c.head.kids++ow (cQ (bz startC 0 c.head.kids).2) (bz startC 0 c.head.kids).1 (bz startC 0 c.head.kids).2:=by
  unfold gq;rw [Au,Cn];rfl
 rw [this,pC];simp only [cN]
theorem Ff (n:Int):startC.at_ n=-1:=by
 show (List.replicate 26 (-1:Int))[n.toNat]?.getD (-1)=-1;rw [LK];split <;> rfl
theorem ji:Wf startC:=⟨by simp [startC],fun n=>by rw [Ff]; decide,by decide⟩
theorem O3 {g:T} (h:fa g=true):g.kind=3:=by
 rw [fa] at h;simp only [bQ,na,rM,hH,gi,bK] at h;rcases h.2 with e|e|e <;> exact e.1
theorem eU {c:C} (h:aZ c=true):(∀ g∈c.body,g.kind=3)/\c.head.kind=3/\c.head.kids.length<=4:=by
 rw [aZ] at h;simp only [bQ,fF,hH,bK] at h;refine ⟨fun g j=>O3 (h.2.1 g j),h.2.2.2.1,?_⟩;have a:=h.2.2.1;have i:=h.2.2.2.1;clear h;rw [bY,bQ] at a;generalize c.head=t at a i;obtain ⟨k,n,s,ks⟩:=t;have i:k=3:=i;subst i;have a:=a.1;rw [dC,ae (by decide),bQ,fR] at a;rw [ae (show ¬ (T.mk 3 n s ks).kind=1 from (by decide:¬ (3:Int)=1)),ae (show ¬ (T.mk 3 n s ks).kind=2 from (by decide:¬ (3:Int)=2)),ag (show (T.mk 3 n s ks).kind=3 from rfl)] at a;simp only [bQ,bK] at a;exact a.1.2.2
theorem Vw {c:C} (h:aZ c=true) (θ:Int->T) {v a:Sl} (p:Args θ 0 c.head.kids v):∃ g,Den ⟨v,a⟩ (pC c) g (sbL θ c.body):=by
 obtain ⟨j,q⟩:=jE h;obtain ⟨r,_,O⟩:=eU h;have o:(0:Int)+c.head.kids.length<=startC.next:=by show (0:Int)+c.head.kids.length<=4;omega
 have M:AgrS θ startC v:=fun n _ _ i=>by rw [Ff] at i;exact absurd i (by decide)
 obtain ⟨l,m,U⟩:=lP c.head.kids ji (fT _) o j.kids;obtain ⟨t,B,D⟩:=Oo c.head.kids ji (fT _) o j.kids M p;obtain ⟨v1,V,G,b3⟩:=TI (cQ (bz startC 0 c.head.kids).2) l.wf m t B;have N:=qr (cQ (bz startC 0 c.head.kids).2) l.wf m;obtain ⟨g,J⟩:=Oz (s:=gq startC c.head.kids) c.body a N.wf G q r;exact ⟨g,D _ _ _ _ (b3 _ _ _ _ J)⟩
theorem NA {c:C} (h:aZ c=true) {v a:Sl} {J:Ev} {o:List T} (M:∀ j,j<c.head.kids.length->∃ t,v (j:Int)=some t) (N:Den ⟨v,a⟩ (pC c) J o):∃ θ,Args θ 0 c.head.kids v/\o=sbL θ c.body:=by
 obtain ⟨p,q⟩:=jE h;obtain ⟨Y,_,t2⟩:=eU h;have D:(0:Int)+c.head.kids.length<=startC.next:=by show (0:Int)+c.head.kids.length<=4;omega
 have hd:Df startC v:=fun n _ _ g=>by rw [Ff] at g;exact absurd g (by decide)
 obtain ⟨l,m,x3⟩:=lP c.head.kids ji (fT _) D p.kids;obtain ⟨Z,a2,a3⟩:=EX c.head.kids ji (fT _) D p.kids hd (fun j O=>by rw [BI];exact M j O) N;obtain ⟨v1,r,b2,b3,b4⟩:=Mm (cQ (bz startC 0 c.head.kids).2) l.wf m Z (aY _) a2;have i:=qr (cQ (bz startC 0 c.head.kids).2) l.wf m;have z1:=DX c.body (s:=gq startC c.head.kids) i.wf q;obtain ⟨v2,c1,c2,c3⟩:=EC c.body (s:=gq startC c.head.kids) i.wf b2 q Y b3;obtain ⟨θ,B⟩:∃ θ,AgrS θ (dR (gq startC c.head.kids) c.body) v2:=by
  refine ⟨fun n=>(v2 ((dR (gq startC c.head.kids) c.body).at_ n)).getD oG,fun n U V g=>?_⟩;obtain ⟨t,ht⟩:=c2 n U V g;simp only [ht,Ke]
 have G:AgrS θ (gq startC c.head.kids) v1:=AgrS.back i.wf z1 c1 B;have e2:AgrS θ (bz startC 0 c.head.kids).1 v:=AgrS.back l.wf i r G;exact ⟨θ,a3 θ e2 (PdOk.back (b4 θ G) m r),c3 θ B⟩
end
section
open Go Go.RowKit
theorem Nf {st:bb} {t v:T} (h:eq st t v):∀ v',eq st t v'->v'=v:=by
 induction h with
 | stop g=>
  intro v' i;cases i with
  | stop _=>rfl
  | step a _=>rw [g] at a;cases a
 | step g _ j=>
  intro v' i;cases i with
  | stop a=>rw [g] at a;cases a
  | step a l=>rw [g] at a;cases a;exact j _ l
theorem V0 {st:bb} {j:P5} (h:Res st j):match j with
  | .one t u=>∀ i,Res st (.one t i)->i=u
  | .list ts us=>∀ a,Res st (.list ts a)->a=us:=by
 induction h with
 | one q _ r=>
  intro i g;cases g with
  | one l m=>
   obtain rfl:=Nf q _ l;rw [r _ m]
 | nil=>
  intro a g;cases g;rfl
 | cons _ _ o p=>
  intro a g;cases g with
  | cons B C=>rw [o _ B,p _ C]
open Classical in
noncomputable def sgR (st:bb) (n:Int):T:=if h:∃ u,Res st (.one (idS n) u) then h.choose else idS n
theorem Vs {st:bb} {n:Int} {u:T} (h:Res st (.one (idS n) u)):sgR st n=u:=by
 have a:∃ u,Res st (.one (idS n) u):=⟨u,h⟩
 rw [sgR,dif_pos a];exact V0 h _ a.choose_spec
theorem UJ {N:Nat} {st:bb} {j:P5} (p:Res st j):match j with
  | .one t u=>okU N t->u=sbT (sgR st) t
  | .list ts us=>cM N ts->us=sbL (sgR st) ts:=by
 induction p with
 | one o r B=>
  rename_i t v us
  intro a;by_cases hk:t.kind=1
  ·obtain ⟨_,_,i,l⟩:=a.var hk;obtain ⟨k,n,s,ks⟩:=t;simp only [T.kind,T.name,T.kids] at hk i l;subst hk;subst i;subst l;rw [sbT,ag rfl];exact (Vs (.one o r)).symm
  ·have q:v=t:=Nf (.stop (tS.2 fun e=>absurd e hk)) _ o;subst q;have m:=B a.kids;obtain ⟨k,n,s,ks⟩:=v;simp only [T.kind] at hk;rw [sbT,ae hk];simp only [T.kids] at m;rw [m];rfl
 | nil=>exact fun _=>rfl
 | cons _ _ g h=>
  intro a;rw [cM] at a;rw [sbL,g a.1,h a.2]
end
section
open Go Go.RowKit
def io (σ:Int->T) (st:bb):Prop:=∀ (n:Nat) (u:T),st[n]?=some (some u)->σ n=sbT σ u
mutual
def tsz:T->Nat
 | .mk _ _ _ ks=>1+WF ks
def WF:List T->Nat
 | []=>0
 | t::ts=>tsz t+WF ts
end
theorem lf (σ:Int->T) {t:T} (h:t.kind=1):sbT σ t=σ t.n:=by
 cases t;rw [sbT];exact ag h
theorem tW (σ:Int->T) {t:T} (h:t.kind≠1):sbT σ t=.mk t.kind t.n t.name (sbL σ t.kids):=by
 cases t;rw [sbT];exact ae h
mutual
theorem Xd {N:Nat} (σ:Int->T):∀ t:T,okU N t->∀ m∈vT t,tsz (σ (m:Int))<=tsz (sbT σ t)
 | .mk k n s ks,h,m,hm=>by
  rw [okU] at h;rw [vT] at hm;rw [sbT];split at hm
  ·rename_i hk
   obtain ⟨a,_⟩:=h.2.1 hk;simp only [bM] at hm;subst hm;rw [ag hk,pw a];exact aY _
  ·rename_i hk
   have:=PU σ ks h.2.2.1 m hm;rw [ae hk,tsz];omega
theorem PU {N:Nat} (σ:Int->T):∀ ts:List T,cM N ts->∀ m∈vTL ts,tsz (σ (m:Int))<=WF (sbL σ ts)
 | [],_,m,a=>by simp [vTL] at a
 | t::ts,h,m,a=>by
  rw [cM] at h;rw [vTL,cU] at a;rw [sbL,WF];rcases a with a|a
  ·have:=Xd σ t h.1 m a;omega
  ·have:=PU σ ts h.2 m a;omega
end
theorem YB {N:Nat} (σ:Int->T) {t:T} (h:okU N t) (hk:t.kind≠1) {m:Nat} (a:m∈vT t):tsz (σ (m:Int))<tsz (sbT σ t):=by
 rw [xh hk] at a;have:=PU σ t.kids h.kids m a;rw [tW σ hk,tsz];omega
theorem X7 {N:Nat} {st:bb} (g:Good N st) {σ:Int->T} (i:io σ st) {m n:Nat} (h:Rch st m n):tsz (σ (n:Int))<=tsz (σ (m:Int)):=by
 induction h with
 | refl=>exact aY _
 | step a j _ l=>
  rw [i _ _ a];exact il l (Xd σ _ (g.ok _ (f0 a)) _ j)
theorem Uq {N:Nat} {st:bb} (a:Good N st) {σ:Int->T} (g:io σ st) {n:Nat} {t:T} (h:okU N t) (hk:t.kind≠1) (i:gA st n t):σ (n:Int)≠sbT σ t:=by
 obtain ⟨m,j,l⟩:=i;intro e;have o:=X7 a g l;have p:=YB σ h hk j;rw [e] at o;omega
theorem V2 {st:bb} {n:Nat} {t:T} (hk:t.kind=1) (h:look st t=none) (i:gA st n t):t.n.toNat=n:=by
 obtain ⟨m,a,j⟩:=i;rw [kw hk,bM] at a;subst a;cases j with
 | refl=>rfl
 | step g _ _=>rcases tS.1 h hk with e|e <;> rw [e] at g <;> cases g
theorem hG {N:Nat} {st:bb} (i:Good N st) {σ:Int->T} (j:io σ st) {t v:T} (h:eq st t v):okU N t->sbT σ v=sbT σ t:=by
 induction h with
 | stop=>exact fun _=>rfl
 | step g _ o=>
  intro l;obtain ⟨hk,a⟩:=dU.1 g;have m:=(l.var hk).1;rw [o (i.look_ok g).1,lf σ hk,<- j _ _ a,pw m]
theorem Nb {σ:Int->T} {st:bb} {n:Nat} {t:T} (hn:st[n]?=some none):io σ (st.set n (some t))↔io σ st/\σ (n:Int)=sbT σ t:=by
 have g:n<st.length:=(ie.1 hn).1;constructor
 ·intro h;refine ⟨fun m u a=>h m u ?_,h n t (Nl g)⟩;rw [M7 (fun e=>by subst e;rw [hn] at a;cases a)];exact a
 ·rintro ⟨h,i⟩ m u a;by_cases e:n=m
  ·subst e;rw [Nl g,bj,bj] at a;rw [<- a];exact i
  ·rw [M7 e] at a;exact h m u a
def Jeq (σ:Int->T):Job->Prop
 | .one a b=>sbT σ a=sbT σ b
 | .list xs ys=>sbL σ xs=sbL σ ys
theorem QK {σ:Int->T} {a b:T} (l:a.kind≠1) (m:b.kind≠1):sbT σ a=sbT σ b↔qz a b=true/\sbL σ a.kids=sbL σ b.kids:=by
 rw [tW σ l,tW σ m,T.mk.injEq,VR];constructor
 ·rintro ⟨h,i,j,g⟩;have:=congrArg List.length g;rw [jp,jp] at this;exact ⟨⟨h,i,j,this⟩,g⟩
 ·rintro ⟨⟨h,i,j,_⟩,g⟩;exact ⟨h,i,j,g⟩
theorem Uni.sem {N:Nat} {st t:bb} {j:Job} {r:Bool} (hu:Uni st j r t):Good N st->okJ N j->∀ σ,(r=true->(io σ t↔io σ st/\Jeq σ j))/\(r=false->io σ st->¬ Jeq σ j):=by
 induction hu with
 | same o m D O he=>
  intro g i σ;refine ⟨fun _=>⟨fun l=>⟨l,?_⟩,fun h=>h.1⟩,fun h=>by cases h⟩;show sbT σ _=sbT σ _;rw [<- hG g l o i.1.1,<- hG g l m i.2.1,lf σ D,lf σ O,he]
 | bindA o m hk p M=>
  intro g i σ;have B:=(eB g o i.1).1;have J:=(B.var hk).1;rw [Nb (oU g hk (ij o) B),pw J];refine ⟨fun _=>and_congr_right fun l=>?_,fun h=>by cases h⟩;show _↔sbT σ _=sbT σ _;rw [<- hG g l o i.1.1,<- hG g l m i.2.1,lf σ hk]
 | occA o m hk p M=>
  rename_i st a b a' U
  intro g i σ;refine ⟨fun h=>(by cases h),fun _ l=>?_⟩;have B:=(eB g o i.1).1;have Y:=(eB g m i.2).1;have J:=(B.var hk).1;show ¬ sbT σ _=sbT σ _;rw [<- hG g l o i.1.1,<- hG g l m i.2.1,lf σ hk];by_cases C:U.kind=1
  ·have e:=V2 C (ij m) M;have D:=(Y.var C).1;exact absurd ⟨C,by omega⟩ p
  ·have:=Uq g l Y C M
   rwa [pw J] at this
 | bindB o m p hk M=>
  intro g i σ;have B:=(eB g m i.2).1;have J:=(B.var hk).1;rw [Nb (oU g hk (ij m) B),pw J];refine ⟨fun _=>and_congr_right fun l=>?_,fun h=>by cases h⟩;show _↔sbT σ _=sbT σ _;rw [<- hG g l o i.1.1,<- hG g l m i.2.1,lf σ hk];exact eq_comm
 | occB o m p hk M=>
  intro g i σ;refine ⟨fun h=>(by cases h),fun _ l=>?_⟩;have B:=(eB g m i.2).1;have Y:=(eB g o i.1).1;have J:=(B.var hk).1;show ¬ sbT σ _=sbT σ _;rw [<- hG g l o i.1.1,<- hG g l m i.2.1,lf σ hk];have:=Uq g l Y p M;rw [pw J] at this;exact fun e=>this e.symm
 | clash o m D O Z=>
  intro g i σ;refine ⟨fun h=>(by cases h),fun _ l=>?_⟩;show ¬ sbT σ _=sbT σ _;rw [<- hG g l o i.1.1,<- hG g l m i.2.1,QK D O,Z];exact fun e=>by cases e.1
 | @kids st t a b a' U r o m D O Z _ ih=>
  intro g i σ;obtain ⟨V,i2⟩:=ih g ⟨lk (eB g o i.1),lk (eB g m i.2),oP Z⟩ σ;have e:io σ st->(Jeq σ (.one a b)↔Jeq σ (.list a'.kids U.kids)):=fun l=>by
   show sbT σ a=sbT σ b↔sbL σ a'.kids=sbL σ U.kids;rw [<- hG g l o i.1.1,<- hG g l m i.2.1,QK D O,Z];simp
  exact ⟨fun G=>(V G).trans (and_congr_right fun l=>(e l).symm),fun G l q=>i2 G l ((e l).1 q)⟩
 | nil=>
  intro g i σ;exact ⟨fun _=>⟨fun h=>⟨h,rfl⟩,fun h=>h.1⟩,fun h=>by cases h⟩
 | stop _ ih=>
  intro g i σ;obtain ⟨_,i2⟩:=ih g ⟨i.1 _ (bF ..),i.2.1 _ (bF ..)⟩ σ;refine ⟨fun h=>(by cases h),fun _ l q=>i2 rfl l ?_⟩;have q:sbL σ (_::_)=sbL σ (_::_):=q;rw [sbL,sbL,uW] at q;exact q.1
 | @go st a2 t a b xs ys r D _ a0 a1=>
  intro g i σ;have j1:okJ N (.one a b):=⟨i.1 _ (bF ..),i.2.1 _ (bF ..)⟩
  have j2:okJ N (.list xs ys):=⟨fun a o=>i.1 a (bI _ o),fun b m=>i.2.1 b (bI _ m),by have:=i.2.2;simpa using this⟩
  obtain ⟨V,_⟩:=a0 g j1 σ;obtain ⟨i3,i4⟩:=a1 (D.good g j1).1 j2 σ;have e:Jeq σ (.list (a::xs) (b::ys))↔Jeq σ (.one a b)/\Jeq σ (.list xs ys):=by
   show sbL σ (a::xs)=sbL σ (b::ys)↔_;rw [sbL,sbL,uW];exact Iff.rfl
  refine ⟨fun G=>?_,fun G l q=>?_⟩
  ·rw [i3 G,V rfl,e,and_assoc]
  ·rw [e] at q;exact i4 G ((V rfl).2 ⟨l,q.1⟩) q.2
theorem Wa {N:Nat} {st:bb} (g:Good N st) (κ:Int->T):io (fun n=>sbT κ (sgR st n)) st:=by
 intro n u hn;have i:=g.ok u (f0 hn);obtain ⟨r,h⟩:=OK g u i;have a:Res st (.one (idS (n:Int)) r):=by
  cases h with
  | one j l=>exact .one (.step (dU.2 ⟨rfl,by rw [idS];exact hn⟩) j) l
 show sbT κ (sgR st n)=_;rw [Vs a,UJ h i,Mj]
theorem V9 {N:Nat} {st:bb} (i:Good N st) {σ:Int->T} (o:io σ st) {j:P5} (p:Res st j):match j with
  | .one t u=>okU N t->sbT σ u=sbT σ t
  | .list ts us=>cM N ts->sbL σ us=sbL σ ts:=by
 induction p with
 | one m C q=>
  rename_i t v us
  intro a;have l:=Ed i m a;rw [<- hG i o m a];by_cases hk:v.kind=1
  ·obtain ⟨_,_,r,B⟩:=l.var hk;rw [lf σ hk,lf σ (t:=.mk v.kind v.n v.name us) hk];rfl
  ·rw [tW σ hk,tW σ (t:=.mk v.kind v.n v.name us) hk];exact congrArg _ (q l.kids)
 | nil=>exact fun _=>rfl
 | cons _ _ g h=>
  intro a;rw [cM] at a;rw [sbL,sbL,g a.1,h a.2]
mutual
theorem kQ {N:Nat} {σ τ:Int->T} (h:∀ n:Int,0<=n->n<N->σ n=τ n):∀ t:T,okU N t->sbT σ t=sbT τ t
 | .mk k n s ks,ho=>by
  rw [okU] at ho;rw [sbT,sbT];by_cases hk:k=1
  ·obtain ⟨a,g,_⟩:=ho.2.1 hk;rw [ag hk,ag hk,h n a g]
  ·rw [ae hk,ae hk,ub h ks ho.2.2.1]
theorem ub {N:Nat} {σ τ:Int->T} (h:∀ n:Int,0<=n->n<N->σ n=τ n):∀ ts:List T,cM N ts->sbL σ ts=sbL τ ts
 | [],_=>rfl
 | t::ts,ho=>by
  rw [cM] at ho;rw [sbL,sbL,kQ h t ho.1,ub h ts ho.2]
end
end
section
open Go Go.RowKit
mutual
theorem VY {N:Nat} {ρ:Int->T}:∀ t:T,okU N t->sbT ρ t=t->∀ m∈vT t,ρ (m:Int)=idS (m:Int)
 | .mk k n s ks,ho,he,m,hm=>by
  rw [okU] at ho;rw [vT] at hm;rw [sbT] at he;by_cases hk:k=1
  ·rw [ag hk,bM] at hm;rw [ag hk] at he;obtain ⟨a,_,rfl,rfl⟩:=ho.2.1 hk;rw [hm,pw a,he,idS,hk]
  ·rw [ae hk] at hm he;rw [T.mk.injEq] at he;exact ED ks ho.2.2.1 he.2.2.2 m hm
theorem ED {N:Nat} {ρ:Int->T}:∀ ts:List T,cM N ts->sbL ρ ts=ts->∀ m∈vTL ts,ρ (m:Int)=idS (m:Int)
 | [],_,_,m,a=>by simp [vTL] at a
 | t::ts,ho,he,m,a=>by
  rw [cM] at ho;rw [sbL,uW] at he;rw [vTL,cU] at a;rcases a with a|a
  ·exact VY t ho.1 he.1 m a
  ·exact ED ts ho.2 he.2 m a
end
mutual
theorem Yh {N:Nat} {σ:Int->T} {f:Int->Int}:∀ t:T,okU N t->(∀ m∈vT t,σ (m:Int)=idS (f (m:Int)))->sbT σ t=mvT f t
 | .mk k n s ks,ho,h=>by
  rw [okU] at ho;rw [vT] at h;rw [sbT,mvT];by_cases hk:k=1
  ·obtain ⟨a,_,rfl,rfl⟩:=ho.2.1 hk;rw [ag hk] at h;have:=h n.toNat (bM.2 rfl);rw [pw a] at this;rw [ag hk,ag hk,this,idS,hk];rfl
  ·rw [ae hk] at h;rw [ae hk,ae hk,Pc ks ho.2.2.1 h]
theorem Pc {N:Nat} {σ:Int->T} {f:Int->Int}:∀ ts:List T,cM N ts->(∀ m∈vTL ts,σ (m:Int)=idS (f (m:Int)))->sbL σ ts=mvL f ts
 | [],_,_=>rfl
 | t::ts,ho,h=>by
  rw [cM] at ho;rw [sbL,mvL,Yh t ho.1 fun m a=>h m (by rw [vTL]; exact gf _ a),Pc ts ho.2 fun m a=>h m (by rw [vTL]; exact gy _ a)]
end
mutual
theorem Xw {N M:Nat} {σ:Int->T}:∀ t:T,okU N t->okU M (sbT σ t)->∀ m∈vT t,okU M (σ (m:Int))
 | .mk k n s ks,ho,h,m,hm=>by
  rw [okU] at ho;rw [vT] at hm;rw [sbT] at h;by_cases hk:k=1
  ·obtain ⟨a,_⟩:=ho.2.1 hk;rw [ag hk,bM] at hm;rw [ag hk] at h;rw [hm,pw a];exact h
  ·rw [ae hk] at hm h;rw [okU] at h;exact Lb ks ho.2.2.1 h.2.2.1 m hm
theorem Lb {N M:Nat} {σ:Int->T}:∀ ts:List T,cM N ts->cM M (sbL σ ts)->∀ m∈vTL ts,okU M (σ (m:Int))
 | [],_,_,m,a=>by simp [vTL] at a
 | t::ts,ho,h,m,a=>by
  rw [cM] at ho;rw [sbL,cM] at h;rw [vTL,cU] at a;rcases a with a|a
  ·exact Xw t ho.1 h.1 m a
  ·exact Lb ts ho.2 h.2 m a
end
def Ts (f:Int->Int) (us:List T):Prop:=∀ a∈vTL us,∀ b∈vTL us,f (a:Int)=f (b:Int)->a=b
theorem We {N M:Nat} {us vs:List T} (l:cM N us) (B:cM M vs) (i:∃ σ,sbL σ us=vs) (o:∃ σ,sbL σ vs=us):∃ f,vs=mvL f us/\Ts f us:=by
 obtain ⟨σ,i⟩:=i;obtain ⟨τ,o⟩:=o;have G:sbL (fun n=>sbT τ (σ n)) us=us:=by rw [<- yZ,i,o]
 have g:=ED us l G;have r:=Lb us l (by rw [i];exact B);have hk:∀ m∈vTL us,σ (m:Int)=idS (σ (m:Int)).n/\τ (σ (m:Int)).n=idS (m:Int):=by
  intro m j;have e:sbT τ (σ (m:Int))=idS (m:Int):=g m j;by_cases h:(σ (m:Int)).kind=1
  ·obtain ⟨_,_,p,q⟩:=(r m j).var h;rw [lf τ h] at e;refine ⟨?_,e⟩;generalize J:σ (m:Int)=x at h p q;cases x;simp only [T.kind,T.name,T.kids] at h p q;subst h p q;rfl
  ·rw [tW τ h] at e;have:(T.kind (.mk (σ (m:Int)).kind (σ (m:Int)).n (σ (m:Int)).name (sbL τ (σ (m:Int)).kids)))=1:=by rw [e];rfl
   exact absurd this h
 refine ⟨fun n=>(σ n).n,?_,fun a C b D e=>?_⟩
 ·rw [<- i];exact Pc us l fun m j=>(hk m j).1
 ·have t:=(hk a C).2;have e:(σ (a:Int)).n=(σ (b:Int)).n:=e;rw [e,(hk b D).2] at t;simp only [idS,T.mk.injEq,v6,and_true] at t;omega
theorem X5 {st:bb} (a:Good st.length st) {ts us:List T} (g:cM st.length ts) (i:Res st (.list ts us)) (w:List T):(∃ σ,io σ st/\sbL σ ts=w)↔∃ κ,sbL κ us=w:=by
 constructor
 ·rintro ⟨σ,j,l⟩;exact ⟨σ,by rw [<- l];exact V9 a j i g⟩
 ·rintro ⟨κ,h⟩;refine ⟨_,Wa a κ,?_⟩;rw [<- yZ,<- UJ i g];exact h
end
end Go.Proofs.YtjbcdmheajljpaaGreat
