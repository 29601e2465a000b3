/- What code of a clause says of its slots: heads and bodies; the code of a clause tells the clause's instances, and nothing else. -/
import Derived.Test.YtjbcdmheajljpaaGreatZCv2
namespace Go.Proofs.YtjbcdmheajljpaaGreat
section
open Go Go.RowKit
theorem EQ {s:CS} (h:Wf s) {i:Int} (g:0<=i/\i<s.next) {t:T} (j:okG t):Xt s (bD s i t).1/\PdW (bD s i t).2 (bD s i t).1.next/\(bD s i t).1.next=s.next:=by
 unfold bD;rcases j.kind with hk|hk|hk
 ·rw [ah (by omega),ai hk.1];refine ⟨?_,fun p a=>(by cases a),?_⟩
  ·split
   ·exact .emit h _
   ·rename_i l
    refine ⟨⟨(ic ..).trans h.len,fun m=>Hg (k:=s.next) h.lt g.2 m,h.four⟩,fun m o q r=>?_,mT _⟩;rw [gQ h.len hk.2 ⟨o,q⟩,ah (fun e=>by subst e; exact l r)]
  ·split <;> rfl
 ·rw [ai hk.1];exact ⟨.emit h _,fun p a=>(by cases a),rfl⟩
 ·rw [ah (by omega),ah (by omega)];refine ⟨.refl h,fun p a=>?_,rfl⟩;rw [fl.1 a];exact ⟨j,hk.1,g.2⟩
theorem vd:∀ (a:List T) {s:CS} {i:Int},Wf s->0<=i->i+a.length<=s.next->g8 a->Xt s (bG s i a).1/\PdW (bG s i a).2 (bG s i a).1.next/\(bG s i a).1.next=s.next
 | [],s,i,h,_,_,_=>⟨.refl h,fun p g=>(by cases g),rfl⟩
 | t::a,s,i,h,h0,hl,ht=>by
  rw [g8] at ht;rw [bg] at hl;obtain ⟨j,l,m⟩:=EQ h (i:=i) ⟨h0,by omega⟩ ht.1;obtain ⟨o,q,b3⟩:=vd a (s:=(bD s i t).1) (i:=i+1) j.wf (by omega) (by omega) ht.2;rw [bG];refine ⟨j.trans o,fun p g=>?_,b3.trans m⟩;rcases dh.1 g with g|g
  ·obtain ⟨r,u,B⟩:=l p g;exact ⟨r,u,by show p.2<(bG (bD s i t).1 (i+1) a).1.next; omega⟩
  ·exact q p g
def Args (θ:Int->T) (i:Int) (ts:List T) (v:Sl):Prop:=∀ j (h:j<ts.length),v (i+(j:Int))=some (sbT θ ts[j])
theorem Args.head {θ:Int->T} {i:Int} {t:T} {a:List T} {v:Sl} (h:Args θ i (t::a) v):v i=some (sbT θ t):=by
 have:=h 0 (by simp);simpa using this
theorem Args.tail {θ:Int->T} {i:Int} {t:T} {a:List T} {v:Sl} (h:Args θ i (t::a) v):Args θ (i+1) a v:=fun j g=>by
 have:=h (j+1) (by simpa using g);rw [show i+1+(j:Int)=i+((j+1:Nat):Int) by omega];simpa using this
theorem Args.cons {θ:Int->T} {i:Int} {t:T} {a:List T} {v:Sl} (h:v i=some (sbT θ t)) (g:Args θ (i+1) a v):Args θ i (t::a) v:=fun j l=>by
 cases j with
 | zero=>simpa using h
 | succ j=>
  have:=g j (by simpa using l);rw [show i+1+(j:Int)=i+((j+1:Nat):Int) by omega] at this;simpa using this
theorem qn:∀ (a:List T) (s:CS),(bE a s).2.length=a.length
 | [],s=>by rw [bE]; rfl
 | t::a,s=>by
  rw [bE];show (_::(bE a _).2).length=_;rw [bg,bg,qn a]
theorem Bx:∀ (a:List T) (vs:List Int) {s:CS},Wf s->g8 a->Xt s (cM s a vs)/\∀ n,0<=n->n<26->(cM s a vs).at_ n=s.at_ n ∨ s.next<=(cM s a vs).at_ n
 | [],vs,s,h,_=>by rw [cM]; exact ⟨.refl h,fun _ _ _=>.inl rfl⟩; all_goals simp
 | _::_,[],s,h,_=>by rw [cM]; exact ⟨.refl h,fun _ _ _=>.inl rfl⟩; all_goals simp
 | t::a,v::vs,s,h,ht=>by
  rw [g8] at ht;rw [cM];have key:Xt s (if t.kind=3 then s.emit ⟨5,v,0,emptyB⟩ else dJ s t)/\∀ n,0<=n->n<26->(if t.kind=3 then s.emit ⟨5,v,0,emptyB⟩ else dJ s t).at_ n=s.at_ n ∨ s.next<=(if t.kind=3 then s.emit ⟨5,v,0,emptyB⟩ else dJ s t).at_ n:=by
   split
   ·exact ⟨.emit h _,fun _ _ _=>.inl rfl⟩
   ·rename_i j
    refine ⟨y9 h ht.1 j,fun n g i=>?_⟩;unfold dJ;split
    ·exact .inl rfl
    ·split
     ·exact .inl rfl
     ·rename_i o _
      have hk:=ht.1.kind;show (s.put t.n s.next).at_ n=s.at_ n ∨ s.next<=(s.put t.n s.next).at_ n;rw [gQ h.len (by omega) ⟨g,i⟩];split
      ·exact .inr (mT _)
      ·exact .inl rfl
  generalize (if t.kind=3 then s.emit ⟨5,v,0,emptyB⟩ else dJ s t)=s1 at key;obtain ⟨l,m⟩:=Bx a vs key.1.wf ht.2;refine ⟨key.1.trans l,fun n g i=>?_⟩;have:=key.1.next;rcases m n g i with e|e
  ·rw [e]; exact key.2 n g i
  ·exact .inr (by omega)
def KW (k:Int):List T->List Int->Prop
 | t::ts,x::vs=>(t.kind=3->x<k)/\KW k ts vs
 | _,_=>True
theorem KW.mono {k g:Int} (h:k<=g):∀ (a:List T) (vs:List Int),KW k a vs->KW g a vs
 | [],_,_=>by rw [KW]; trivial; all_goals simp
 | _::_,[],_=>by rw [KW]; trivial; all_goals simp
 | t::a,v::vs,hk=>by
  rw [KW] at hk ⊢;exact ⟨fun i=>by have:=hk.1 i; omega,KW.mono h a vs hk.2⟩
mutual
theorem pn:∀ (t:T) {s:CS},Wf s->okG t->Xt s (aY t s).1/\(aY t s).2<(aY t s).1.next/\s.next<=(aY t s).2
 | .mk k n nm ks,s,h,ht=>by
  rw [okG] at ht;obtain ⟨a,j⟩:=Ev ks h ht.2;rw [aY];have i:=(a.wf.emit ⟨7,ks.length,(bE ks s).1.next,nm⟩).inc;have g:=(Bx ks (bE ks s).2 i ht.2).1;refine ⟨(a.trans ((Xt.emit a.wf _).trans (.inc (a.wf.emit _)))).trans g,?_,a.next⟩;have:=g.next;have e:(((bE ks s).1.emit ⟨7,ks.length,(bE ks s).1.next,nm⟩).inc).next=(bE ks s).1.next+1:=rfl;show (bE ks s).1.next<(cM _ ks _).next;omega
theorem Ev:∀ (a:List T) {s:CS},Wf s->g8 a->Xt s (bE a s).1/\KW (bE a s).1.next a (bE a s).2
 | [],s,h,_=>by
  rw [bE];refine ⟨.refl h,?_⟩;rw [KW]; trivial; all_goals simp
 | t::a,s,h,ht=>by
  rw [g8] at ht;have key:Xt s (if t.kind=3 then aY t s else (s,-1)).1/\(t.kind=3->(if t.kind=3 then aY t s else (s,-1)).2<(if t.kind=3 then aY t s else (s,-1)).1.next):=by
   split
   ·obtain ⟨l,m,_⟩:=pn t h ht.1;exact ⟨l,fun _=>m⟩
   ·rename_i g
    exact ⟨.refl h,fun i=>absurd i g⟩
  obtain ⟨j,o⟩:=Ev a key.1.wf ht.2;rw [bE];refine ⟨key.1.trans j,?_⟩;show KW _ (t::a) (_::(bE a _).2);rw [KW];exact ⟨fun g=>by have:=key.2 g; have:=j.next; show _<(bE a _).1.next; omega,o⟩
end
theorem Dz {s:CS} (h:Wf s) (i:Int) {t:T} (a:okG t):Xt s (eN s i t):=by
 unfold eN;rcases a.kind with hk|hk|hk
 ·rw [ah (by omega),ai hk.1];split
  ·exact .emit h _
  ·rename_i g
   exact (Xt.new h hk.2 g).trans (.emit (Xt.new h hk.2 g).wf _)
 ·rw [ai hk.1]; exact .emit h _
 ·rw [ah (by omega),ah (by omega)];have:=(pn t h a).1;exact this.trans (.emit this.wf _)
theorem EA:∀ (a:List T) {s:CS} (i:Int),Wf s->g8 a->Xt s (dT s i a)
 | [],s,i,h,_=>.refl h
 | t::a,s,i,h,ht=>by
  rw [g8] at ht;rw [dT];exact (Dz h i ht.1).trans (EA a _ (Dz h i ht.1).wf ht.2)
theorem HV {s:CS} (h:Wf s) {g:T} (a:okG g):Xt s (fE s g):=by
 unfold fE;split
 ·exact .emit h _
 ·have:=EA g.kids 0 h a.kids;exact this.trans (.emit this.wf _)
theorem GF (n:Int):startC.at_ n=-1:=by
 show (List.replicate 26 (-1:Int))[n.toNat]?.getD (-1)=-1;rw [Ej];split <;> rfl
theorem AP:Wf startC:=⟨by simp [startC],fun n=>by rw [GF]; decide,by decide⟩
theorem C0 {g:T} (h:dF g=true):g.kind=3:=by
 rw [dF] at h;simp only [bJ,iV,qA,fe,dM,bQ] at h;rcases h.2 with e|e|e <;> exact e.1
theorem jZ {c:C} (h:a4 c=true):(∀ g∈c.body,g.kind=3)/\c.head.kind=3/\c.head.kids.length<=4:=by
 rw [a4] at h;simp only [bJ,gR,fe,bQ] at h;refine ⟨fun g l=>C0 (h.2.1 g l),h.2.2.2.1,?_⟩;have a:=h.2.2.1;have i:=h.2.2.2.1;clear h;rw [cD,bJ] at a;generalize c.head=t at a i;obtain ⟨k,n,s,j⟩:=t;have i:k=3:=i;subst i;have a:=a.1;rw [cP,ah (by decide),bJ,dA] at a;rw [ah (show ¬ (T.mk 3 n s j).kind=1 from (by decide:¬ (3:Int)=1)),ah (show ¬ (T.mk 3 n s j).kind=2 from (by decide:¬ (3:Int)=2)),ai (show (T.mk 3 n s j).kind=3 from rfl)] at a;simp only [bJ,bQ] at a;exact a.1.2.2
end
section
open Go Go.RowKit
def CS.sz (s:CS):Int:=s.next+s.code.length
theorem dc (s:CS) (x:Ist):(s.emit x).sz=s.sz+1:=by
 show s.next+((s.code++[x]).length:Nat)=_;rw [bv,CS.sz,EU]; omega
theorem qK (s:CS):s.inc.sz=s.sz+1:=by show s.next+1+(s.code.length:Nat)=_; rw [CS.sz]; omega
theorem DD (s:CS) (n v:Int):(s.put n v).sz=s.sz:=rfl
theorem ti (s:CS) (t:T):s.sz<=(dJ s t).sz/\(dJ s t).sz<=s.sz+2:=by
 unfold dJ;split
 ·rw [dc]; omega
 ·split
  ·rw [dc]; omega
  ·rw [qK,dc,DD]; omega
theorem yC (s:CS) (t:T):s.sz<=(co s t).1.sz/\(co s t).1.sz<=s.sz+2:=by
 unfold co;split
 ·show s.sz<=(CS.inc _).sz/\(CS.inc _).sz<=_;rw [qK,dc]; omega
 ·exact ti s t
theorem n9:∀ (a:List T) (s:CS),s.sz<=(bA s a).1.sz/\(bA s a).1.sz<=s.sz+2 * a.length
 | [],s=>by rw [bA]; simp
 | t::a,s=>by
  rw [bA,bg];have g:=yC s t;have h:=n9 a (co s t).1;show s.sz<=(bA (co s t).1 a).1.sz/\(bA (co s t).1 a).1.sz<=_;omega
theorem kC:∀ (a:List T) (s:CS),(a.length:Int)+4 * cU (bA s a).2<=4 * bi a+(bA s a).2.length
 | [],s=>by rw [bA]; simp [cU,bi]
 | t::a,s=>by
  rw [bA,bi,bg];have g:=kC a (co s t).1;have hc:=de t;show _+4 * ((cU ((co s t).2++(bA (co s t).1 a).2):Nat):Int)<=_+(((co s t).2++(bA (co s t).1 a).2).length:Nat)
  rw [fx,bv];have h:4 * ((cU (co s t).2:Nat):Int)+1<=4 * bT t+(co s t).2.length:=by
   unfold co;split
   ·show 4 * (((bT t).toNat+0:Nat):Int)+1<=4 * bT t+((1:Nat):Int)
    omega
   ·show 4 * ((0:Nat):Int)+1<=4 * bT t+((0:Nat):Int)
    omega
  omega
theorem fq:∀ q:List (T × Int),q.length<=cU q
 | []=>a7 _
 | x::q=>by rw [cU,bg]; have:=de x.1; have:=fq q; omega
theorem Eg:∀ (f:Nat) (s:CS) (q:List (T × Int)),s.sz<=(eE f s q).sz/\(eE f s q).sz+2 * q.length<=s.sz+8 * cU q
 | 0,s,q=>by rw [eE]; have:=fq q; omega
 | f+1,s,[]=>by rw [eE]; simp [cU]
 | f+1,s,x::q=>by
  rw [eE,cU,bg];have g:=n9 x.1.kids (s.emit ⟨3,x.1.kids.length,x.2,x.1.name⟩);have h:=Eg f (bA (s.emit ⟨3,x.1.kids.length,x.2,x.1.name⟩) x.1.kids).1 (q++(bA (s.emit ⟨3,x.1.kids.length,x.2,x.1.name⟩) x.1.kids).2);have m:=kC x.1.kids (s.emit ⟨3,x.1.kids.length,x.2,x.1.name⟩);rw [dc] at g;rw [fx,bv] at h;have i:(bT x.1).toNat=1+(bi x.1.kids).toNat:=by
   have:=bW x.1.kids;obtain ⟨a,l⟩:=x;cases a;simp only [bT,T.kids] at this ⊢;omega
  have j:=bW x.1.kids;omega
theorem vw (s:CS) (i:Int) (t:T):s.sz<=(bD s i t).1.sz/\(bD s i t).1.sz<=s.sz+1:=by
 unfold bD;split
 ·show s.sz<=(CS.emit _ _).sz/\(CS.emit _ _).sz<=_;rw [dc]; omega
 ·split
  ·show s.sz<=(if 0<=s.at_ t.n then s.emit ⟨1,s.at_ t.n,i,emptyB⟩ else s.put t.n i).sz/\(if 0<=s.at_ t.n then s.emit ⟨1,s.at_ t.n,i,emptyB⟩ else s.put t.n i).sz<=_;split
   ·rw [dc]; omega
   ·rw [DD]; omega
  ·show s.sz<=s.sz/\s.sz<=_; omega
theorem mi:∀ (a:List T) (s:CS) (i:Int),s.sz<=(bG s i a).1.sz/\(bG s i a).1.sz<=s.sz+a.length/\((cU (bG s i a).2:Nat):Int)<=bi a/\(bG s i a).2.length<=a.length
 | [],s,i=>by rw [bG]; simp [cU,bi]
 | t::a,s,i=>by
  rw [bG,bg,bi];have m:=vw s i t;obtain ⟨g,h,j,l⟩:=mi a (bD s i t).1 (i+1);have hc:=de t;have o:((cU (bD s i t).2:Nat):Int)<=bT t/\(bD s i t).2.length<=1:=by
   unfold bD;split
   ·show ((0:Nat):Int)<=_/\0<=1; omega
   ·split
    ·show ((0:Nat):Int)<=_/\0<=1; omega
    ·show (((bT t).toNat+0:Nat):Int)<=_/\1<=1; omega
  show s.sz<=(bG (bD s i t).1 (i+1) a).1.sz/\(bG (bD s i t).1 (i+1) a).1.sz<=_/\((cU ((bD s i t).2++(bG (bD s i t).1 (i+1) a).2):Nat):Int)<=_/\((bD s i t).2++(bG (bD s i t).1 (i+1) a).2).length<=_;rw [fx,bv];omega
theorem Be:∀ (a:List T) (vs:List Int) (s:CS),s.sz<=(cM s a vs).sz/\(cM s a vs).sz<=s.sz+2 * a.length
 | [],vs,s=>by rw [cM]; simp; all_goals simp
 | t::a,[],s=>by
  rw [cM]
  ·constructor <;> omega
  all_goals simp
 | t::a,v::vs,s=>by
  rw [cM,bg];have g:s.sz<=(if t.kind=3 then s.emit ⟨5,v,0,emptyB⟩ else dJ s t).sz/\(if t.kind=3 then s.emit ⟨5,v,0,emptyB⟩ else dJ s t).sz<=s.sz+2:=by
   split
   ·rw [dc]; omega
   ·exact ti s t
  have h:=Be a vs (if t.kind=3 then s.emit ⟨5,v,0,emptyB⟩ else dJ s t);omega
mutual
theorem hH:∀ (t:T) (s:CS),s.sz<=(aY t s).1.sz/\(aY t s).1.sz+4<=s.sz+8 * bT t
 | .mk k n nm ks,s=>by
  rw [aY,bT];have g:=oZ ks s;have a:=Be ks (bE ks s).2 (((bE ks s).1.emit ⟨7,ks.length,(bE ks s).1.next,nm⟩).inc);rw [qK,dc] at a;show s.sz<=(cM _ ks _).sz/\(cM _ ks _).sz+4<=_;omega
theorem oZ:∀ (a:List T) (s:CS),s.sz<=(bE a s).1.sz/\(bE a s).1.sz+2 * a.length<=s.sz+8 * bi a
 | [],s=>by rw [bE]; simp [bi]
 | t::a,s=>by
  rw [bE,bi,bg];have hc:=de t;have g:s.sz<=(if t.kind=3 then aY t s else (s,-1)).1.sz/\(if t.kind=3 then aY t s else (s,-1)).1.sz+2<=s.sz+8 * bT t:=by
   split
   ·have:=hH t s; omega
   ·show s.sz<=s.sz/\s.sz+2<=_; omega
  have h:=oZ a (if t.kind=3 then aY t s else (s,-1)).1;show s.sz<=(bE a _).1.sz/\(bE a _).1.sz+_<=_;omega
end
theorem ze (s:CS) (i:Int) (t:T):s.sz<=(eN s i t).sz/\(eN s i t).sz<=s.sz+8 * bT t:=by
 have hc:=de t;unfold eN;split
 ·rw [dc]; omega
 ·split
  ·split
   ·rw [dc]; omega
   ·rw [dc,qK,DD]; omega
  ·rw [dc];have:=hH t s;omega
theorem Aq:∀ (a:List T) (s:CS) (i:Int),s.sz<=(dT s i a).sz/\(dT s i a).sz<=s.sz+8 * bi a
 | [],s,i=>by rw [dT]; simp [bi]
 | t::a,s,i=>by
  rw [dT,bi];have g:=ze s i t;have h:=Aq a (eN s i t) (i+1);omega
theorem B7 (s:CS) (g:T):s.sz<=(fE s g).sz/\(fE s g).sz<=s.sz+8 * bT g:=by
 have hc:=de g;have a:bT g=1+bi g.kids:=by cases g; rw [bT]; rfl
 unfold fE;split
 ·rw [dc]; omega
 ·rw [dc];have:=Aq g.kids s 0;omega
end
section
open Go Go.RowKit
inductive Chain (Call:bN->T->T->Bool->bN->Prop):bN->List T->List T->Bool->bN->Prop
 | nil {st:bN}:Chain Call st [] [] true st
 | stop {st st':bN} {a b:T} {xs ys:List T}:Call st a b false st'->Chain Call st (a::xs) (b::ys) false st'
 | go {st st1 st':bN} {a b:T} {xs ys:List T} {r:Bool}:Call st a b true st1->Chain Call st1 xs ys r st'->Chain Call st (a::xs) (b::ys) r st'
theorem Chain.head {Call:bN->T->T->Bool->bN->Prop} {st g:bN} {a b:T} {xs ys:List T} {r:Bool} (h:Chain Call st (a::xs) (b::ys) r g) :
  ∃ j i,Call st a b j i/\(j=false->r=false/\g=i)/\(j=true->Chain Call i xs ys r g):=by
 cases h with
 | stop h=>exact ⟨false,_,h,fun _=>⟨rfl,rfl⟩,fun e=>(by cases e)⟩
 | go h l=>exact ⟨true,_,h,fun e=>(by cases e),fun _=>l⟩
theorem Chain.done {Call:bN->T->T->Bool->bN->Prop} {st a:bN} {r:Bool} (h:Chain Call st [] [] r a):r=true/\a=st:=by
 cases h;exact ⟨rfl,rfl⟩
def KH (Call:bN->T->T->Bool->bN->Prop) (st:bN) (a' b':T) (r:Bool) (st':bN):Prop:=
 (a'.kind=1/\b'.kind=1/\a'.n=b'.n/\r=true/\st'=st) ∨
 (a'.kind=1/\¬ (b'.kind=1/\a'.n=b'.n)/\((¬ zu st a'.n.toNat b'/\r=true/\st'=st.set a'.n.toNat (some b')) ∨ (zu st a'.n.toNat b'/\r=false/\st'=st))) ∨
 (a'.kind≠1/\b'.kind=1/\((¬ zu st b'.n.toNat a'/\r=true/\st'=st.set b'.n.toNat (some a')) ∨ (zu st b'.n.toNat a'/\r=false/\st'=st))) ∨
 (a'.kind≠1/\b'.kind≠1/\((Fc a' b'=false/\r=false/\st'=st) ∨ (Fc a' b'=true/\Chain Call st a'.kids b'.kids r st')))
theorem Uni.calls {N:Nat} {Call:bN->T->T->Bool->bN->Prop} (g:∀ st a b G J r p,Good N st->okJ N (.one a b)->fu st a G->fu st b J->KH Call st G J r p->Call st a b r p) {st p:bN} {j:Job} {r:Bool} (M:Uni st j r p) :
  Good N st->okJ N j->match j with
   | .one a b=>Call st a b r p
   | .list xs ys=>Chain Call st xs ys r p:=by
 induction M with
 | same l m q t o=>exact fun i h=>g _ _ _ _ _ _ _ i h l m (.inl ⟨q,t,o,rfl,rfl⟩)
 | bindA l m q t o=>exact fun i h=>g _ _ _ _ _ _ _ i h l m (.inr (.inl ⟨q,t,.inl ⟨o,rfl,rfl⟩⟩))
 | occA l m q t o=>exact fun i h=>g _ _ _ _ _ _ _ i h l m (.inr (.inl ⟨q,t,.inr ⟨o,rfl,rfl⟩⟩))
 | bindB l m q t o=>exact fun i h=>g _ _ _ _ _ _ _ i h l m (.inr (.inr (.inl ⟨q,t,.inl ⟨o,rfl,rfl⟩⟩)))
 | occB l m q t o=>exact fun i h=>g _ _ _ _ _ _ _ i h l m (.inr (.inr (.inl ⟨q,t,.inr ⟨o,rfl,rfl⟩⟩)))
 | clash l m q t o=>exact fun i h=>g _ _ _ _ _ _ _ i h l m (.inr (.inr (.inr ⟨q,t,.inl ⟨o,rfl,rfl⟩⟩)))
 | kids l m q t o _ B=>
  exact fun i h=>g _ _ _ _ _ _ _ i h l m (.inr (.inr (.inr ⟨q,t,.inr ⟨o,B i ⟨tm (iQ i l h.1),tm (iQ i m h.2),zQ o⟩⟩⟩)))
 | nil=>exact fun _ _=>.nil
 | stop _ B=>exact fun i h=>.stop (B i ⟨h.1 _ (cQ ..),h.2.1 _ (cQ ..)⟩)
 | go l _ C D=>
  intro i h;have u:okJ N (.one _ _):=⟨h.1 _ (cQ ..),h.2.1 _ (cQ ..)⟩
  exact .go (C i u) (D (l.good i u).1 ⟨fun a O=>h.1 a (c7 _ O),fun b U=>h.2.1 b (c7 _ U),by have:=h.2.2; simpa using this⟩)
section
attribute [local irreducible] Run CondV aw aI
set_option maxHeartbeats 1000000 in
end
end
section
open Go Go.RowKit
theorem ki {w:World} {v:Value} {e:TypeId} {k n:Nat} {xs:List Value} (h:(Item.row v e k n xs).holds w):v.cells=#[v]/\v.oneCell'=true:=by
 have h:w.ownsRow 0 e k v n xs:=h;rcases h.2 with ⟨rfl,_⟩|⟨g,cap,a,rfl,_⟩ <;> exact ⟨rfl,rfl⟩
section
attribute [local irreducible] Run CondV aw aI
end
end
section
open Go Go.RowKit

abbrev Bs:=List UInt8
abbrev bs (s:ByteArray):Bs:=s.data.toList
abbrev st (l:Bs):ByteArray:=⟨l.toArray⟩
theorem xt (l:Bs):bs (st l)=l:=by simp [bs]
theorem jW (l:Bs):(st l).size=l.length:=by simp [ByteArray.size]

def sgn (s:Bs) (i:Nat) (c:Nat):Bool:=match s[i]? with
 | some b=>decide (b.toNat=c)
 | none=>false
def btw (s:Bs) (i:Nat) (a b:Nat):Bool:=match s[i]? with
 | some x=>decide (a<=x.toNat) && decide (x.toNat<=b)
 | none=>false
def sml (s:Bs) (i:Nat):Bool:=btw s i 97 122
def dig (s:Bs) (i:Nat):Bool:=btw s i 48 57
def upp (s:Bs) (i:Nat):Bool:=btw s i 65 90
def cut (s:Bs) (a b:Nat):Bs:=(s.take b).drop a

def tb (s:Bs):Nat->Nat->Nat
 | 0,e=>e
 | n+1,e=>if sml s e=true then tb s n (e+1) else e
def gb (s:Bs) (i:Nat):List ByteArray->Bs->Bs
 | [],b=>b
 | x::l,b=>gb s i l (if decide (i+x.size<=s.length)=true/\cut s i (i+x.size)=bs x/\b.length<x.size then bs x else b)
def pi (s:Bs) (i:Nat):Option (Bs × Nat):=
 let e:=tb s (s.length - i) i
 if i+6<e then none else if i<e then some (cut s i e,e) else
  let b:=gb s i signs []
  if b=[] then none else some (b,i+b.length)
def mq (s:Bs):Nat->Nat->Nat
 | 0,e=>e
 | n+1,e=>if dig s e=true then mq s n (e+1) else e
def wO:Bs->Nat->Nat
 | [],n=>n
 | b::l,n=>wO l (n * 10+(b.toNat - 48))
def Gb (s:Bs) (i:Nat):Option (T × Nat):=
 let from_:=if sgn s i 45=true then i+1 else i
 let e:=mq s 4 from_
 let d:=cut s from_ e
 let n:=wO d 0
 if d=[] ∨ (sgn d 0 48=true/\1<d.length) ∨ (i<from_/\n=0) ∨ 999<n then none
 else some (.mk 2 (if i<from_ then -(n:Int) else n) emptyB [],e)
def Ba (name:Bs) (kids:List T):T:=.mk 3 0 (st name) kids
def Jp:T:=Ba [91,93] []
def AO (a b:T):T:=Ba [46] [a,b]
def gk:List T->T->T
 | [],t=>t
 | a::l,t=>AO a (gk l t)
def opF (s:Bs) (i:Nat):Option (Bs × Nat):=
 let from_:=if sgn s i 32=true then i+1 else i
 if s.length<=from_ then none else match pi s from_ with
  | none=>none
  | some (name,next)=>
   let word:=decide (name=[105,115]) || decide (name=[109,111,100])
   if bX (st name)=0 ∨ word≠decide (i<from_) ∨ (word=true/\sgn s next 32=false) then none
   else some (name,if word=true then next+1 else next)
mutual
def gA:Nat->Bs->Nat->Nat->Nat->Option (T × Nat)
 | 0,_,_,_,_=>none
 | f+1,s,i,d,0=>nL f s i d
 | f+1,s,i,d,l+1=>match gA f s i d l with
  | none=>none
  | some (t,n)=>zL f s n d l t
def zL:Nat->Bs->Nat->Nat->Nat->T->Option (T × Nat)
 | 0,_,_,_,_,_=>none
 | f+1,s,i,d,l,t=>match opF s i with
  | none=>some (t,i)
  | some (name,after)=>if bX (st name)=((l+1:Nat):Int) then match gA f s after d l with
    | none=>none
    | some (r,e)=>if l=2 then some (Ba name [t,r],e) else zL f s e d l (Ba name [t,r])
   else some (t,i)
def nL:Nat->Bs->Nat->Nat->Option (T × Nat)
 | 0,_,_,_=>none
 | f+1,s,i,d=>if d=0 ∨ s.length<=i then none else if sgn s i 40=true then match gA f s (i+1) d 3 with
    | none=>none
    | some (t,n)=>if sgn s n 41=true then some (t,n+1) else none
  else if sgn s i 91=true/\sgn s (i+1) 93=false then match fL f s (i+1) (d - 1) 93 124 [] with
    | none=>none
    | some (ts,n)=>if sgn s n 93=true then some (gk ts Jp,n+1) else match gA f s (n+1) (d - 1) 3 with
     | none=>none
     | some (t,e)=>if sgn s e 93=true then some (gk ts t,e+1) else none
  else if upp s i=true then some (.mk 1 ((s.getD i 0).toNat - 65) emptyB [],i+1)
  else if dig s i=true ∨ (sgn s i 45=true/\dig s (i+1)=true) then Gb s i
  else match pi s i with
   | none=>none
   | some (name,n)=>if sgn s n 40=false then some (Ba name [],n) else match fL f s (n+1) (d - 1) 41 41 [] with
    | none=>none
    | some (ts,e)=>some (Ba name ts,e+1)
def fL:Nat->Bs->Nat->Nat->Nat->Nat->List T->Option (List T × Nat)
 | 0,_,_,_,_,_,_=>none
 | f+1,s,i,d,e,o,acc=>match gA f s i d 3 with
  | none=>none
  | some (t,n)=>if sgn s n e=true ∨ sgn s n o=true then some (acc++[t],n) else if sgn s n 44=true then fL f s (n+1) d e o (acc++[t]) else none
end

def jY (t:T):Bool:=decide (t.kind=3) && (decide (t.kids.length=2) && decide (0<bX t.name))
def vl (t:T):Bool:=decide (t.kind=3) && (decide (t.name=st [46]) && decide (t.kids.length=2))
def GN (t:T):Bool:=decide (t.kind=3) && (decide (t.name=st [91,93]) && decide (t.kids.length=0))
def rZ (t:T):Bool:=decide (t.kind=3) && (decide (t.kids.length=0) && decide (0<bX t.name))
def y8 (s:Bs):Bool:=sml s 0 || (dig s 0 || (upp s 0 || (sgn s 0 91 || sgn s 0 40)))
def fV (n:Bs):Bs:=if n=[105,115] ∨ n=[109,111,100] then 32::(n++[32]) else n
def wh:Nat->Nat->Bs->Option Bs
 | 0,_,_=>none
 | f+1,n,out=>if 9<n then wh f (n / 10) (UInt8.ofNat (48+n % 10)::out) else some (UInt8.ofNat (48+n)::out)
def IX (n:Int):Option Bs:=if n<0 then (wh 20 (-n).toNat []).map fun l=>45::l else wh 20 n.toNat []
def F1 (t:T):Option Bs:=if t.kind=1 then (if 0<=t.n/\t.n<=25 then some [UInt8.ofNat (65+t.n.toNat)] else none)
 else if t.kind=2 then (if -999<=t.n/\t.n<=999 then IX t.n else none) else if t.kids.length=0 then some (bs t.name) else none
mutual
def yK:Nat->T->Option Bs
 | 0,_=>none
 | f+1,t=>if vl t=true then xq f t [] else if jY t=true then match t.kids with
   | [a,b]=>match D1 f a (if bX t.name=3 then 2 else bX t.name),za f b (bX t.name - 1) with
    | some x,some y=>some (x++fV (bs t.name)++y)
    | _,_=>none
   | _=>none
  else if t.kind=3/\0<t.kids.length then match kT f t.kids [] with
   | some x=>some (bs t.name++[40]++x++[41])
   | none=>none
  else F1 t
def xq:Nat->T->List T->Option Bs
 | 0,_,_=>none
 | f+1,t,items=>if vl t=true then match t.kids with
   | [a,b]=>xq f b (items++[a])
   | _=>none
  else match kT f items [] with
   | none=>none
   | some x=>if GN t=true then some ([91]++x++[93]) else match yK f t with
    | none=>none
    | some y=>some ([91]++x++[124]++y++[93])
def kT:Nat->List T->Bs->Option Bs
 | 0,_,_=>none
 | _+1,[],out=>some out
 | f+1,t::l,out=>match yK f t with
  | none=>none
  | some x=>kT f l (out++x++(if l=[] then [] else [44]))
def li:Nat->T->Int->Option Bs
 | 0,_,_=>none
 | f+1,t,l=>match yK f t with
  | none=>none
  | some x=>some (if jY t=true/\l<bX t.name then [40]++x++[41] else x)
def D1:Nat->T->Int->Option Bs
 | 0,_,_=>none
 | f+1,t,l=>if rZ t=true then match yK f t with
   | none=>none
   | some x=>some ([40]++x++[41])
  else li f t l
def za:Nat->T->Int->Option Bs
 | 0,_,_=>none
 | f+1,t,l=>match li f t l with
  | none=>none
  | some x=>if x=[] then none else some (if rZ t=true ∨ y8 x=false then [40]++x++[41] else x)
end
def rm (f:Nat):List T->Bool->Bs->Option Bs
 | [],_,out=>some out
 | t::l,first,out=>match yK f t with
  | none=>none
  | some x=>rm f l false (out++(if first=true then [58,45] else [44])++x)
def Eh (f:Nat) (c:C):Option Bs:=match yK f c.head with
 | none=>none
 | some x=>match rm f c.body true x with
  | none=>none
  | some y=>some (y++[46])

def nC (f:Nat):Nat->Bs->Nat->List T->Option (List T × Nat)
 | 0,_,_,_=>none
 | k+1,s,i,acc=>if 6<acc.length then none else match gA f s i 30 3 with
  | none=>none
  | some (t,n)=>if sgn s n 44=true then nC f k s (n+1) (acc++[t]) else some (acc++[t],n)
def E0 (f:Nat) (s:Bs) (c:C) (n:Nat):Option C:=
 if n+1=s.length/\sgn s n 46=true/\a4 c=true/\wC c<=200/\Eh f c=some s then some c else none
def o9 (f:Nat) (s:Bs):Option C:=if 1000<s.length then none else match gA f s 0 30 3 with
 | none=>none
 | some (h,n)=>if sgn s n 58=true/\sgn s (n+1) 45=true then match nC f 8 s (n+2) [] with
   | none=>none
   | some (b,n2)=>E0 f s ⟨h,b⟩ n2
  else E0 f s ⟨h,[]⟩ n
def wz (s:Bs) (c:Nat):Nat->Nat->Nat->List Bs->List Bs
 | 0,i,from_,acc=>acc++[cut s from_ i]
 | n+1,i,from_,acc=>if sgn s i c=true then wz s c n (i+1) (i+1) (acc++[cut s from_ i]) else wz s c n (i+1) from_ acc
def Gh (s:Bs):List Bs:=wz s 10 s.length 0 0 []
def iu (f:Nat):List Bs->List C->Option (List C)
 | [],acc=>some acc
 | l::ls,acc=>match o9 f l with
  | none=>none
  | some c=>iu f ls (acc++[c])
def Er (f:Nat) (s:Bs):Option (List C):=
 let ls:=Gh s
 if 21<ls.length ∨ ls.getLast?≠some [] then none else iu f ls.dropLast []
def GU (s:Bs):Bool:=match Er 60 s with
 | some p=>decide (0<p.length) && (decide (p.length<=8) && p.all fun c=>a4 c && decide (wC c<=200))
 | none=>false
end
section
open Go Go.RowKit
section
variable {P:Program} {w w0:World} {X:List Nat} {L:List Item} {S:af} {K:Value->World->Prop}
theorem uQ {T:TypeId} {g i:Bool} {k:IntKind} {a b:Int} (h:a<b) (hk:K (.bool true) w):Run P (cw .lss T g i (.int k a) (.int k b)) w K:=by
 refine cq ?_;rw [bb h];exact hk
theorem dO {T:TypeId} {g i:Bool} {k:IntKind} {a b:Int} (h:¬ (a<b)) (hk:K (.bool false) w):Run P (cw .lss T g i (.int k a) (.int k b)) w K:=by
 refine cq ?_;rw [bk h];exact hk
theorem yO {T:TypeId} {g i:Bool} {k:IntKind} {a b:Int} (h:a<=b) (hk:K (.bool true) w):Run P (cw .leq T g i (.int k a) (.int k b)) w K:=by
 refine fI ?_;rw [bb h];exact hk
theorem FY {T:TypeId} {g i:Bool} {k:IntKind} {a b:Int} (h:¬ (a<=b)) (hk:K (.bool false) w):Run P (cw .leq T g i (.int k a) (.int k b)) w K:=by
 refine fI ?_;rw [bk h];exact hk
theorem C9 {T:TypeId} {g i:Bool} {k:IntKind} {a b:Int} (h:b<a) (hk:K (.bool true) w):Run P (cw .gtr T g i (.int k a) (.int k b)) w K:=by
 refine eD ?_;rw [bb h];exact hk
theorem ja {T:TypeId} {g i:Bool} {k:IntKind} {a b:Int} (h:¬ (b<a)) (hk:K (.bool false) w):Run P (cw .gtr T g i (.int k a) (.int k b)) w K:=by
 refine eD ?_;rw [bk h];exact hk
theorem ku {T:TypeId} {g i:Bool} {k:IntKind} {a b:Int} (h:b<=a) (hk:K (.bool true) w):Run P (cw .geq T g i (.int k a) (.int k b)) w K:=by
 refine jI ?_;rw [bb h];exact hk
theorem qR {T:TypeId} {g i:Bool} {k:IntKind} {a b:Int} (h:¬ (b<=a)) (hk:K (.bool false) w):Run P (cw .geq T g i (.int k a) (.int k b)) w K:=by
 refine jI ?_;rw [bk h];exact hk
theorem eB {T:TypeId} {g i:Bool} {k:IntKind} {a b:Int} (h:a=b) (hk:K (.bool true) w):Run P (cw .eql T g i (.int k a) (.int k b)) w K:=by
 refine bo ?_;rw [bb h];exact hk
theorem dz {T:TypeId} {g i:Bool} {k:IntKind} {a b:Int} (h:¬ (a=b)) (hk:K (.bool false) w):Run P (cw .eql T g i (.int k a) (.int k b)) w K:=by
 refine bo ?_;rw [bk h];exact hk
theorem xm {T:TypeId} {g h:Bool} {a b:Int} (i:-9223372036854775808<=a * b/\a * b<=9223372036854775807) (hk:K (.int .i64 (a * b)) w):Run P (cw .mul T g h (.int .i64 a) (.int .i64 b)) w K:=
 Run.of (by simp [cw,cF,binOp,Op.intArith,IntWalk.i64_in _ i]) hk
theorem Je {T:TypeId} {g h:Bool} {a b:Nat} (l:0<b) (m:a<=9223372036854775807) (hk:K (.int .i64 ((a / b:Nat):Int)) w):Run P (cw .quo T g h (.int .i64 (a:Int)) (.int .i64 (b:Int))) w K:=by
 refine Run.of ?_ hk;have i:¬ ((b:Int)=0):=by omega
 have j:IntKind.i64.wrap ((a:Int).tdiv b)=((a / b:Nat):Int):=by
  rw [IntWalk.i64_quo _ _ (by omega)]; rfl
 simp only [cw,cF,binOp,Op.intDiv,Sem.run_bind,Result.andThen_ok,ah i,Sem.run_pure];exact congrArg (fun v=>Result.ok (Next.value (.int .i64 v)) w) j
theorem Cy {T:TypeId} {g h:Bool} {a b:Nat} (l:0<b) (hk:K (.int .i64 ((a % b:Nat):Int)) w):Run P (cw .rem T g h (.int .i64 (a:Int)) (.int .i64 (b:Int))) w K:=by
 refine Run.of ?_ hk;have i:(a:Int).tmod b=((a % b:Nat):Int):=by
  rw [IntWalk.rem_in _ _ (by omega)]; rfl
 have j:¬ ((b:Int)=0):=by omega
 simp only [cw,cF,binOp,Op.intDiv,Sem.run_bind,Result.andThen_ok,ah j,Sem.run_pure];exact congrArg (fun v=>Result.ok (Next.value (.int .i64 v)) w) i
theorem IF {T:TypeId} {g h:Bool} {a b:Nat} (i:a<4611686018427387904) (j:b<4611686018427387904) (hk:K (.int .i64 ((a ^^^ b:Nat):Int)) w):Run P (cw .xor T g h (.int .i64 (a:Int)) (.int .i64 (b:Int))) w K:=by
 refine Run.of ?_ hk;have p:a ^^^ b<2 ^ 62:=Nat.xor_lt_two_pow (by simpa using i) (by simpa using j);have l:(BitVec.ofInt 64 (a:Int)).toNat=a:=by rw [BitVec.toNat_ofInt]; omega
 have m:(BitVec.ofInt 64 (b:Int)).toNat=b:=by rw [BitVec.toNat_ofInt]; omega
 have o:IntKind.i64.wrap ((BitVec.ofInt 64 (a:Int) ^^^ BitVec.ofInt 64 (b:Int)).toNat:Int)=((a ^^^ b:Nat):Int):=by
  rw [BitVec.toNat_xor,l,m];exact IntWalk.i64_in _ (by omega)
 simp only [cw,cF,binOp,Op.intBits,Sem.run_bind,Result.andThen_ok,Sem.run_pure];exact congrArg (fun v=>Result.ok (Next.value (.int .i64 v)) w) o
theorem Jj {T:TypeId} {g h:Bool} {k:IntKind} {a b c:Int} (i:k.wrap (a+b)=c) (hk:K (.int k c) w):Run P (cw .add T g h (.int k a) (.int k b)) w K:=
 Run.of (by simp [cw,cF,binOp,Op.intArith,i]) hk
theorem F9 {T:TypeId} {g h:Bool} {k:IntKind} {a b c:Int} (i:k.wrap (a - b)=c) (hk:K (.int k c) w):Run P (cw .sub T g h (.int k a) (.int k b)) w K:=
 Run.of (by simp [cw,cF,binOp,Op.intArith,i]) hk
theorem lE {a g ty:TypeId} {k h:IntKind} {n m:Int} {d:TypeDesc} (i:P.underlying a=some d) (j:P.underlying g=some (.int h)) (l:h.wrap n=m) (hk:K (.int h m) w) :
  Run P (sOp (.convert a g (.const (.int k n))) ty) w K:=by
 refine Run.of ?_ hk;simp [sOp,execOp,ev0,evE,convert,run_underlying i,run_underlying j,Conv.intToInt,l]
theorem Iu {T ty:TypeId} {n:Int} (a:-9223372036854775808<=-n/\-n<=9223372036854775807) (hk:K (.int .i64 (-n)) w):Run P (sOp (.unOp .neg T (.const (.int .i64 n))) ty) w K:=
 Run.of (by simp [sOp,execOp,ev0,evE,Op.unary,Op.intArith,Int.zero_sub,IntWalk.i64_in _ a]) hk
theorem IW (a b:Bs):st a++st b=st (a++b):=by
 apply ByteArray.ext;simp [st]
theorem cT {T:TypeId} {g h:Bool} {a b:Bs} (l:a.length+b.length<=9223372036854775807) (hk:K (.string (st (a++b))) w):Run P (cw .add T g h (.string (st a)) (.string (st b))) w K:=by
 refine Run.of ?_ hk;have i:¬ (9223372036854775807<(((st a).size+(st b).size:Nat):Int)):=by rw [jW,jW]; omega
 have j:IntKind.i64.max=9223372036854775807:=by decide
 simp only [cw,binOp,Op.stringOp,Sem.run_bind,lo,Result.andThen_ok,gt_iff_lt,j,ah i,Sem.run_pure,IW]
theorem IZ (s:Bs) (a b:Nat):(st s).extract a b=st (cut s a b):=by
 apply ByteArray.ext;apply s6.1;simp [cut,ByteArray.data_extract,List.drop_take]
theorem tu {T ty:TypeId} {s:Bs} {a b:Nat} (i:P.underlying T=some .string) (g:a<=b) (j:b<=s.length) (hk:K (.string (st (cut s a b))) w) :
  Run P (sOp (.slice T (.const (.string (st s))) (some (.const (.int .i64 a))) (some (.const (.int .i64 b))) none) ty) w K:=by
 refine Run.of ?_ hk;have h:b<=(st s).size:=by rw [jW]; exact j
 simp [sOp,execOp,ev0,evE,Instr.sliceAt,Instr.slice,Instr.sliceBounds,run_underlying i,fH g,fH h,IZ]
theorem dw {T ty:TypeId} {s:Bs} {i:Nat} (g:P.underlying T=some .string) (h:i<s.length) (hk:K (.int .u8 s[i].toNat) w) :
  Run P (sOp (.index T (.const (.string (st s))) (.const (.int .i64 i))) ty) w K:=by
 have a:i<(st s).size:=by rw [jW]; exact h
 refine iw g a ?_;have:(st s)[i]=s[i]:=by simp [st,ByteArray.getElem_eq_getElem_data]
 rw [this];exact hk
theorem eo {T ty:TypeId} {cs:List Bool} {s:Bs} (a:P.underlying T=some .string) (hk:K (.int .i64 s.length) w):Run P (bn .len #[T] ty cs [.string (st s)]) w K:=by
 refine il a ?_;rw [jW];exact hk
theorem vp {T:TypeId} {g i:Bool} {a b:Bs} (hk:K (.bool (decide (a=b))) w):Run P (cw .eql T g i (.string (st a)) (.string (st b))) w K:=by
 refine bU ?_;have:decide (st a=st b)=decide (a=b):=by
  rw [gN];exact ⟨fun h=>by rw [<- xt a,h,xt],fun h=>by rw [h]⟩
 rw [this];exact hk
theorem EM {T:TypeId} {g i:Bool} {a b:Bs} (hk:K (.bool (!decide (a=b))) w):Run P (cw .neq T g i (.string (st a)) (.string (st b))) w K:=by
 refine Jt ?_;have:decide (st a=st b)=decide (a=b):=by
  rw [gN];exact ⟨fun h=>by rw [<- xt a,h,xt],fun h=>by rw [h]⟩
 rw [this];exact hk
theorem vh (h:Inv w0 X L S w) {T T' D ty e:TypeId} {a:Nat} {z:Value} {n:Nat} (m:fY P T=some (e,1,a,z)) (o:P.underlying T'=some (.slice e)) (p:P.underlying e=some (.int .u8)) (q:P.underlying D=some .string)
  {K:Value->Value->World->Prop} (hk:∀ w',Inv w0 X L S w'->K (.slice (some ⟨w.heap.size,0,none⟩) 1 1) (.string (st [UInt8.ofNat n])) w') :
  Run P (be T 1 [(0,.int .u8 (n:Int))]) w fun u w'=>Run P (sOp (.convert T' D (.const u)) ty) w' (K u):=by
 refine jN h m rfl (by omega) (by omega) fun w' i=>?_;have r:(L++[Item.blk w.heap.size (.cells (Value.int .u8 (n:Int)).cells e)])[L.length]?=some (.blk w.heap.size (.cells (Value.int .u8 (n:Int)).cells e)):=by
  rw [fP (a7 _),dY]; rfl
 have hc:w'.cell? ⟨w.heap.size,0,none⟩=some (.int .u8 (n:Int)):=by rw [i.cellL r]; rfl
 have l:=run_loadCells_list (P:=P) (w:=w') ⟨w.heap.size,0,none⟩ [.int .u8 (n:Int)] (fun j v g=>by
  match j with
  | 0=>simp only [xK,a9] at g; subst g; rw [add_lit]; exact hc
  | j+1=>simp at g)
 simp only [bg,cd] at l;refine Run.of (w':=w') ?_ (hk _ (i.sub (ii _ _)));simp [sOp,execOp,ev0,evE,convert,run_underlying o,run_underlying p,run_underlying q,Conv.bytesToString,l,st];rfl
end
end
section
open Go Go.RowKit
theorem ib {s:Bs} {i:Nat} (h:i<s.length) (c:Nat):sgn s i c=decide (s[i].toNat=c):=by simp [sgn,List.getElem?_eq_getElem h]
theorem Gv {s:Bs} {i:Nat} (h:¬ i<s.length) (c:Nat):sgn s i c=false:=by simp [sgn,List.getElem?_eq_none (Nat.le_of_not_lt h)]
theorem j5 {s:Bs} {i:Nat} (h:i<s.length) (a b:Nat):btw s i a b=(decide (a<=s[i].toNat) && decide (s[i].toNat<=b)):=by simp [btw,List.getElem?_eq_getElem h]
theorem DG {s:Bs} {i:Nat} (h:¬ i<s.length) (a b:Nat):btw s i a b=false:=by simp [btw,List.getElem?_eq_none (Nat.le_of_not_lt h)]
theorem tM {s:Bs} {i a b:Nat} (h:btw s i a b=true):i<s.length:=by
 rcases yY i s.length with g|g
 ·exact g
 ·rw [DG (by omega)] at h; cases h
theorem fR {s:Bs} {i c:Nat} (h:sgn s i c=true):i<s.length:=by
 rcases yY i s.length with a|a
 ·exact a
 ·rw [Gv (by omega)] at h; cases h
section
attribute [local irreducible] Run CondV aw aI
theorem bY (s:Bs) (i c:Nat) (S:af):Pure Tryz.prog Di [.string (st s),.int .i64 (i:Int),.int .u8 (c:Int)] S (.bool (sgn s i c)):=by
 intro w a;refine sr.2 ?_;dsimp only[sr,gW];refine ku (by omega) ?_;refine rpG ?_;refine eo aD ?_;by_cases h:i<s.length
 ·refine uQ (by omega) ?_;refine rpG ?_;refine dw aD h ?_;refine bo ?_;refine rpG ?_;refine done a ?_;rw [ib h]
  congr 1
  rw [gN];omega
 ·refine dO (by omega) ?_;refine rpG ?_;exact done a (by rw [Gv h])
theorem fA (s:Bs) (i:Nat) (S:af):Pure Tryz.prog Bt [.string (st s),.int .i64 (i:Int)] S (.bool (dig s i)):=by
 intro w a;refine ot.2 ?_;dsimp only[ot,a6];refine ku (by omega) ?_;refine rpG ?_;refine eo aD ?_;by_cases h:i<s.length
 ·refine uQ (by omega) ?_;refine rpG ?_;refine dw aD h ?_;rw [dig,j5 h];by_cases g:48<=s[i].toNat
  ·refine ku (by omega) ?_;refine rpG ?_;refine dw aD h ?_;refine fI ?_;refine rpG ?_;refine done a ?_;rw [bb g,dL]
   congr 1
   rw [gN];omega
  ·refine qR (by omega) ?_;refine rpG ?_;exact done a (by rw [bk g,gx])
 ·refine dO (by omega) ?_;refine rpG ?_;exact done a (by rw [dig,DG h])
theorem kU (s:Bs) (i:Nat) (S:af):Pure Tryz.prog AE [.string (st s),.int .i64 (i:Int)] S (.bool (sml s i)):=by
 intro w a;refine pk.2 ?_;dsimp only[pk,a6];refine ku (by omega) ?_;refine rpG ?_;refine eo aD ?_;by_cases h:i<s.length
 ·refine uQ (by omega) ?_;refine rpG ?_;refine dw aD h ?_;rw [sml,j5 h];by_cases g:97<=s[i].toNat
  ·refine ku (by omega) ?_;refine rpG ?_;refine dw aD h ?_;refine fI ?_;refine rpG ?_;refine done a ?_;rw [bb g,dL]
   congr 1
   rw [gN];omega
  ·refine qR (by omega) ?_;refine rpG ?_;exact done a (by rw [bk g,gx])
 ·refine dO (by omega) ?_;refine rpG ?_;exact done a (by rw [sml,DG h])
end
theorem Ey {s:Bs} {i:Nat} (h:i<s.length):dig s i=true↔48<=s[i].toNat/\s[i].toNat<=57:=by
 rw [dig,j5 h,bJ,bQ,bQ]
theorem FB {d:Bs} {j:Nat} (h:j<d.length) (m:Nat):wO (d.drop j) m=wO (d.drop (j+1)) (m * 10+(d[j].toNat - 48)):=by
 rw [dr h,wO]
section
attribute [local irreducible] Run CondV aw aI
theorem yn (d:Bs) (r:∀ i,i<d.length->dig d i=true) (p:0<d.length) (N:d.length<=4) (u:¬ (sgn d 0 48=true/\1<d.length)) (S:af) :
  Pure Tryz.prog CC [.string (st d)] S (.tuple #[.int .i64 ((wO d 0:Nat):Int),.bool true]):=by
 intro w a;refine re.2 ?_;dsimp only[re,aG];have G:=(Ey p).1 (r 0 p);refine ⟨fun t w'=>t=.bool false/\Inv w [] [] S w',?_,?_⟩
 ·refine eo aD ?_;refine C9 (by omega) ?_;refine rpG ?_;refine dw (i:=0) aD p ?_;refine dz (by omega) ?_;refine rpG ?_;exact ⟨rfl,a⟩
 intro O _ _ _ _ _ _ _ _ w';rintro ⟨rfl,a⟩;refine ⟨fun t w'=>t=.string (st d)/\Inv w [] [] S w',?_,?_⟩
 ·exact aE (fun o=>by cases o) (fun _=>⟨rfl,a⟩)
 intro U _ _ _ w';rintro ⟨rfl,a⟩;refine ⟨fun t w'=>t=.bool false/\Inv w [] [] S w',?_,?_⟩
 ·refine eo aD ?_;refine dz (by omega) ?_;refine rpG ?_;refine eo aD ?_;refine ja (by omega) ?_;refine rpG ?_;refine dw (i:=0) aD p ?_;by_cases M:d[0].toNat=48
  ·refine eB (by omega) ?_;refine rpG ?_;refine eo aD ?_;refine ja (by
    have:¬ 1<d.length:=fun h=>u ⟨by rw [ib p,M]; rfl,h⟩;omega) ?_
   refine rpG ?_;exact ⟨rfl,a⟩
  ·refine dz (by omega) ?_;refine rpG ?_;exact ⟨rfl,a⟩
 intro B _ _ _ _ _ _ _ _ _ _ _ _ _ _ _ _ _ _ _ _ w';rintro ⟨rfl,a⟩;refine aE (fun o=>by cases o) (fun _=>?_);refine ⟨fun i n w'=>∃ j m:Nat,j<=d.length/\i=.int .i64 j/\n=.int .i64 m/\m<10 ^ j/\wO (d.drop j) m=wO d 0/\Inv w [] [] S w',fun i _ _=>d.length - (intOf i).toNat,
  ⟨0,0,aQ _,rfl,rfl,by simp,rfl,a⟩,?_⟩
 intro V _ _ C _ _ _ _ _ _ _ _ _ _ _ _ _ _ _ _ _ _ _ _ _ _ _ _ w';rintro ⟨j,m,Y,rfl,rfl,Z,l,a⟩;have hp:10 ^ j<=10 ^ 4:=DO (by omega) (by omega);refine eo aD ?_;refine cq ?_;refine aR (fun q=>?_) (fun q=>?_)
 ·have g:j<d.length:=by omega
  have J:=(Ey g).1 (r j g);refine ⟨fun t w'=>t=.bool false/\Inv w [] [] S w',?_,?_⟩
  ·refine dw aD g ?_;refine dO (by omega) ?_;refine rpG ?_;refine dw aD g ?_;refine ja (by omega) ?_;refine rpG ?_;exact ⟨rfl,a⟩
  intro D _ _ _ _ _ _ _ _ _ w';rintro ⟨rfl,a⟩;refine aE (fun o=>by cases o) (fun _=>?_);refine xm (by omega) ?_;refine dw aD g ?_;refine F9 (c:=((d[j].toNat - 48:Nat):Int)) ?_ ?_
  ·rw [IntWalk.u8_in _ (by omega)]; omega
  refine lE eU eY (IntWalk.i64_in _ (by omega)) ?_;refine bz (by omega) ?_;refine bz (by omega) ?_;refine ⟨⟨j+1,m * 10+(d[j].toNat - 48),g,rfl,?_,?_,?_,a⟩,by simp [intOf]; omega⟩
  ·congr 1
  ·rw [Nat.pow_succ]; omega
  ·rw [<- l,FB g]
 ·have:j=d.length:=by omega
  subst this;rw [dV,wO] at l;refine ⟨fun t w'=>t=.int .i64 m/\Inv w [] [] S w',aE (fun o=>by cases o) (fun _=>⟨rfl,a⟩),?_⟩;intro C _ _ _ w';rintro ⟨rfl,a⟩;exact done a (by rw [l])
abbrev xE (k n:Int):Value:=.agg #[.int .i64 k,.int .i64 n,.string ⟨#[]⟩,.slice none 0 0]
theorem r7 {w:World} {K:Value->World->Prop} {k n:Int} (hk:K (xE k n) w):Run Tryz.prog (bP ac [(0,.int .i64 k),(1,.int .i64 n)]) w K:=by
 refine Run.of (v:=xE k n) (w':=w) ?_ hk;unfold bP;rw [Sem.run_bind,run_build w ac _ #[.int .i64 k,.int .i64 n,.string ⟨#[]⟩,.slice none 0 0] (by kernel_rfl),Result.andThen_ok];rfl
theorem mz (n:Int) (S:af):Pure Tryz.prog E5 [.int .i64 n] S (xE 1 n):=by
 intro w a;refine tW.2 ?_;dsimp only[tW,aG];refine aF a aZ fun b w' a=>?_;refine r7 ?_;refine al a 0 rfl ad rfl rfl (by simp [Value.oneCell']) fun w' a=>?_;refine a5 a 0 ad rfl rfl ?_;exact done a rfl
theorem jf (n:Int) (S:af):Pure Tryz.prog EY [.int .i64 n] S (xE 2 n):=by
 intro w a;refine vJ.2 ?_;dsimp only[vJ,aG];refine aF a aZ fun b w' a=>?_;refine r7 ?_;refine al a 0 rfl ad rfl rfl (by simp [Value.oneCell']) fun w' a=>?_;refine a5 a 0 ad rfl rfl ?_;exact done a rfl
end
theorem BV (s:Bs) (n e:Nat):mq s (n+1) e=if dig s e=true then mq s n (e+1) else e:=rfl
theorem yN (s:Bs):∀ (n e:Nat),e<=mq s n e/\mq s n e<=e+n
 | 0,e=>by simp [mq]
 | n+1,e=>by
  rw [mq];split
  ·have:=yN s n (e+1); omega
  ·omega
theorem oL (s:Bs):∀ (n e i:Nat),e<=i->i<mq s n e->dig s i=true
 | 0,e,i,h1,h2=>by simp [mq] at h2; omega
 | n+1,e,i,h1,h2=>by
  rw [mq] at h2;split at h2
  ·rename_i h
   by_cases a:e=i
   ·subst a; exact h
   ·exact oL s n (e+1) i (by omega) h2
  ·omega
theorem yz {s:Bs} {a b i:Nat} (g:i<(cut s a b).length):∃ h:a+i<s.length,(cut s a b)[i]=s[a+i]/\a+i<b:=by
 have j:(cut s a b).length=min b s.length - a:=by simp [cut]
 refine ⟨by omega,?_,by omega⟩;simp [cut]
theorem yE {s:Bs} {a b:Nat} (g:b<=s.length):(cut s a b).length=b - a:=by simp [cut]; omega
theorem HX {s:Bs} {a b i:Nat} (g:i<(cut s a b).length):dig (cut s a b) i=dig s (a+i):=by
 obtain ⟨h,e,_⟩:=yz g;rw [dig,dig,j5 g,j5 h,e]
section
attribute [local irreducible] Run CondV aw aI
theorem ut {s:Bs} {i e:Nat} {t:T} (hn:Gb s i=some (t,e)) (hi:i<=100000) (S:af) :
  ∃ n:Int,inI n/\t=.mk 2 n emptyB []/\i<=e/\e<=i+5/\Pure Tryz.prog zb [.string (st s),.int .i64 (i:Int)] S (.tuple #[xE 2 n,.int .i64 (e:Int)]):=by
 unfold Gb at hn;obtain ⟨m,o⟩:∃ m,m=if sgn s i 45=true then i+1 else i:=⟨_,rfl⟩
 simp only [<- o] at hn;obtain ⟨q,r⟩:∃ q,q=mq s 4 m:=⟨_,rfl⟩
 simp only [<- r] at hn;have V:=yN s 4 m;rw [<- r] at V;have a8:i<=m/\m<=i+1:=by rw [o]; split <;> omega
 split at hn
 ·cases hn
 rename_i hc
 simp only [not_or] at hc;obtain ⟨N,O,G,U⟩:=hc;simp only [a9,cO] at hn;obtain ⟨rfl,rfl⟩:=hn;have J:∀ j,j<(cut s m q).length->dig (cut s m q) j=true:=fun j Z=>by
  obtain ⟨h1,h2,h3⟩:=yz Z;rw [HX Z];exact oL s 4 m _ (by omega) (by rw [<- r]; exact h3)
 have u:0<(cut s m q).length:=by
  cases he:cut s m q with
  | nil=>exact absurd he N
  | cons a l=>simp
 have a0:m<q:=by
  obtain ⟨_,_,h3⟩:=yz u;omega
 have B:q<=s.length:=by
  have:=oL s 4 m (q - 1) (by omega) (by rw [<- r]; omega);have:=tM this;omega
 refine ⟨_,?_,rfl,by omega,by omega,?_⟩
 ·unfold inI; split <;> omega
 intro w g;refine my.2 ?_;dsimp only[my,a6];refine aF g aZ fun D w' g=>?_;refine ⟨fun t w'=>t=.int .i64 (m:Int)/\Inv w [] [.blk D (.cells #[.int .i64 0,.int .i64 0,.string ⟨#[]⟩,.slice none 0 0] ac)] S w',?_,?_⟩
 ·refine Run.callPure cu cz g (bY s i 45 S) fun w' g=>?_;refine aE (fun p=>?_) (fun p=>?_)
  ·refine bz (by omega) ?_;rw [ai p] at o;exact ⟨by rw [o]; congr 1,g⟩
  ·rw [ah (by rw [p]; decide)] at o;exact ⟨by rw [o],g⟩
 intro t6 _ _ _ _ _ w';rintro ⟨rfl,g⟩;refine ⟨fun t w'=>∃ j:Nat,t=.int .i64 (j:Int)/\m<=j/\j<=m+4/\mq s (m+4 - j) j=q/\Inv w [] [.blk D (.cells #[.int .i64 0,.int .i64 0,.string ⟨#[]⟩,.slice none 0 0] ac)] S w',fun t _=>m+4 - (intOf t).toNat,
  ⟨m,rfl,a7 _,by omega,by rw [pE]; exact r.symm,g⟩,?_⟩
 intro t6 _ _ _ _ _ _ _ _ _ _ _ w';rintro ⟨j,rfl,a1,a2,C,g⟩;refine ⟨fun t w'=>t=.bool (dig s j && decide (j<m+4))/\Inv w [] [.blk D (.cells #[.int .i64 0,.int .i64 0,.string ⟨#[]⟩,.slice none 0 0] ac)] S w',?_,?_⟩
 ·refine Run.callPure gY hG g (fA s j S) fun w' g=>?_;cases b0:dig s j
  ·refine rpG ?_;exact ⟨rfl,g⟩
  ·refine rpG ?_;refine bz (by omega) ?_;refine cq ?_;refine rpG ?_;refine ⟨?_,g⟩;rw [dL]
   congr 1
   rw [gN];omega
 intro a3 _ _ _ _ _ _ _ _ w';rintro ⟨rfl,g⟩;refine aE (fun p=>?_) (fun p=>?_)
 ·rw [bJ,bQ] at p;refine bz (by omega) ?_;refine ⟨⟨j+1,rfl,by omega,by omega,?_,g⟩,by simp [intOf]; omega⟩;rw [<- C,show m+4 - j=(m+4 - (j+1))+1 by omega,BV,ai p.1]
 ·have Y:j=q:=by
   rw [<- C];by_cases h4:j=m+4
   ·rw [h4,dY]; rfl
   ·rw [show m+4 - j=(m+4 - (j+1))+1 by omega,BV,ah];intro hd;rw [hd,dL,j1] at p;omega
  subst Y;refine tu aD (by omega) B ?_;refine Run.callPure Cd zS g (yn _ J u (by rw [yE B]; omega) O S) fun w' g=>?_;obtain ⟨n,hn⟩:∃ n,n=wO (cut s m j) 0:=⟨_,rfl⟩
  rw [<- hn];refine aA (v:=.int .i64 (n:Int)) rfl ?_;refine aA (v:=.bool true) rfl ?_;simp only [<- hn] at G U ⊢;refine ⟨fun t w'=>t=.bool false/\Inv w [] [.blk D (.cells #[.int .i64 0,.int .i64 0,.string ⟨#[]⟩,.slice none 0 0] ac)] S w',?_,?_⟩
  ·refine dD ?_;refine rpG ?_;by_cases M:i<m
   ·refine C9 (by omega) ?_;refine rpG ?_;refine bo ?_;have:¬ n=0:=fun h=>G ⟨M,h⟩;rw [bk (by omega)];refine rpG ?_;refine ja (by omega) ?_;refine rpG ?_;exact ⟨rfl,g⟩
   ·refine ja (by omega) ?_;refine rpG ?_;refine ja (by omega) ?_;refine rpG ?_;exact ⟨rfl,g⟩
  intro a4 _ _ _ _ _ _ _ _ _ _ _ _ _ _ w';rintro ⟨rfl,g⟩;refine aE (fun p=>by cases p) (fun _=>?_);refine ⟨fun t w'=>t=.int .i64 (if i<m then -(n:Int) else n)/\Inv w [] [.blk D (.cells #[.int .i64 0,.int .i64 0,.string ⟨#[]⟩,.slice none 0 0] ac)] S w',?_,?_⟩
  ·refine eD ?_;refine aR (fun p=>?_) (fun p=>?_)
   ·refine Iu (by omega) ?_;exact ⟨by rw [ai (by omega)],g⟩
   ·exact ⟨by rw [ah (by omega)],g⟩
  intro t8 _ _ _ _ _ w';rintro ⟨rfl,g⟩;refine Run.callPure nv nc g (jf _ S) fun w' g=>?_;refine al g 0 rfl ad rfl rfl (by simp [Value.oneCell']) fun w' g=>?_;refine a5 g 0 ad rfl rfl ?_;exact done g rfl
end
theorem RdSl.some1 {α:Type} {S:af} {k:Nat} {R:List Value->α->Prop} {v:Value} {xs:List α} (h:RdSl S k R v xs) (a:0<xs.length):∃ b o cap,v=.slice (some ⟨b,o,none⟩) xs.length cap:=by
 obtain ⟨b,o,cap,c,E,g,e,_,_⟩:=h.at_ a;exact ⟨b,o,cap,e⟩
theorem Ae (s:Bs) (n e:Nat):tb s (n+1) e=if sml s e=true then tb s n (e+1) else e:=rfl
def EL (o:Option (Bs × Nat)):Value:=match o with
 | none=>.tuple #[.string ⟨#[]⟩,.int .i64 (-1)]
 | some (n,e)=>.tuple #[.string (st n),.int .i64 (e:Int)]
theorem DF (s:Bs) (i:Nat) {j:Nat} (h:j<signs.length) (b:Bs):gb s i (signs.drop j) b=gb s i (signs.drop (j+1)) (if decide (i+signs[j].size<=s.length)=true/\cut s i (i+signs[j].size)=bs signs[j]/\b.length<signs[j].size then bs signs[j] else b):=by
 rw [dr h,gb]
theorem Bd:∀ x∈signs,x.size<=3:=by decide
section
attribute [local irreducible] Run CondV aw aI
theorem oz {s:Bs} {i:Nat} (hi:i<s.length) (hs:s.length<=100000) (S:af):Pure Tryz.prog Dx [.string (st s),.int .i64 (i:Int)] S (EL (pi s i)):=by
 intro w g;refine rY.2 ?_;dsimp only[rY,a6];obtain ⟨E,hE⟩:∃ E,E=tb s (s.length - i) i:=⟨_,rfl⟩
 have G:pi s i=if i+6<E then none else if i<E then some (cut s i E,E) else if gb s i signs []=[] then none else some (gb s i signs [],i+(gb s i signs []).length):=by
  rw [pi,<- hE]
 refine ⟨fun t w'=>∃ e:Nat,t=.int .i64 (e:Int)/\i<=e/\e<=s.length/\tb s (s.length - e) e=E/\Inv w [] [] S w',fun t _=>s.length - (intOf t).toNat,⟨i,rfl,a7 _,by omega,hE.symm,g⟩,?_⟩;intro t6 _ _ _ _ _ w';rintro ⟨e,rfl,b3,b4,a2,g⟩;refine Run.callPure px nS g (kU s e S) fun w' g=>?_;refine aE (fun B=>?_) (fun B=>?_)
 ·have e7:=tM B;refine bz (by omega) ?_;refine ⟨⟨e+1,rfl,by omega,by omega,?_,g⟩,by simp [intOf]; omega⟩;rw [<- a2,show s.length - e=(s.length - (e+1))+1 by omega,Ae,ai B]
 have b1:e=E:=by
  rw [<- a2];by_cases h:e=s.length
  ·rw [h,dY,tb]
  ·rw [show s.length - e=(s.length - (e+1))+1 by omega,Ae,ah (by rw [B]; decide)]
 subst b1;refine bz (by omega) ?_;refine eD ?_;refine aR (fun B=>done g (by rw [G,ai (by omega)]; rfl)) (fun B=>?_);rw [ah (by omega)] at G;refine eD ?_;refine aR (fun B=>?_) (fun B=>?_)
 ·refine tu aD (by omega) (by omega) ?_;exact done g (by rw [G,ai (by omega)]; rfl)
 rw [ah (by omega)] at G;refine Run.call0 oh nZ g (mV S) fun v I' S1 w'=>?_;rintro ⟨rfl,a3,hr⟩ _ g;obtain ⟨b,o,cap,rfl⟩:=RdSl.some1 hr (by decide);refine ⟨fun t u w'=>∃ (j:Nat) (m:Bs),j<=signs.length/\t=.int .i64 (j:Int)/\u=.string (st m)/\m.length<=3/\gb s i (signs.drop j) m=gb s i signs []/\Inv w [] [] S1 w',fun t _ _=>signs.length - (intOf t).toNat,
  ⟨0,[],aQ _,rfl,rfl,by simp,rfl,g.nil⟩,?_⟩
 intro t9 _ _ t7 _ _ _ _ b5 b6 b7 b8 b9 c1 c2 c3 c5 c6 c7 d0 d1 d2 d3 d4 d6 d7 d9 e0 e1 e2 e3 e4 e5 _ _ _ _ _ _ _ _ _ _ w';rintro ⟨j,m,e6,rfl,rfl,a1,l,g⟩;have e8:signs.length=15:=rfl;refine aL hr ci ?_;refine cq ?_;refine aR (fun a9=>?_) (fun a9=>?_)
 ·have hj:j<signs.length:=by omega
  obtain ⟨x,hx⟩:∃ x,x=signs[j]:=⟨_,rfl⟩
  have e9:x.size<=3:=by rw [hx]; exact Bd _ (cr hj)
  obtain ⟨b',o',b2,c,E',fz,b0,hS,hR⟩:=hr.at_ hj;cases b0;have M:c[o+j * 1]?=some (.string x):=by rw [hx]; exact aX hR 0 _ rfl
  rw [DF s i hj,<- hx] at l;refine ⟨fun u w'=>∃ q,u=.string (st q)/\q.length<=3/\gb s i (signs.drop (j+1)) q=gb s i signs []/\Inv w [] [] S1 w',?_,?_⟩
  ·refine aN ci hj ?_;refine dq aO ((g.cellS hS).trans M) ?_;refine il aD ?_;by_cases J:i+x.size<=s.length
   ·cases hq:decide (st (cut s i (i+x.size))=x)
    ·skip
     refine ⟨fun D Ck Ac N O U V Y Z xg xJ xC xT BQ xk Ce Ah Az Cc wV Cr wX xd wU Cm BW w_=>Fx D 0 [BW=.int .i64 (i:Int),Cm=.int .i64 (x.size:Int),wU=.int .i64 ((i+x.size:Nat):Int),xd=.string (st s),wX=.int .i64 (s.length:Int),Cr=.bool true,wV=.bool true,Cc=.string (st s),Az=.int .i64 (i:Int),Ah=.int .i64 (i:Int),Ce=.int .i64 (x.size:Int),xk=.int .i64 ((i+x.size:Nat):Int),BQ=.string (st (cut s i (i+x.size))),xT=.slice (some ⟨b,o,none⟩) signs.length cap,xC=.int .i64 (j:Int),xJ=.pointer (some ⟨b,o+j * 1,none⟩),xg=.string x,Z=.bool false,Y=.bool false,V=.bool false,U=undef,O=undef,N=undef,Ac=undef,Ck=.bool false]/\Inv w [] [] S1 w_,⟨Fx.nil _ _,g.draw⟩,⟨?_,?_,?_,?_,?_,?_,?_,?_,?_,?_,?_,?_,?_,?_,?_,?_,?_,?_,?_,?_,?_,?_,?_,?_,?_,trivial⟩,?_⟩;all_goals (intro D bm; intros; rename_i Ck Ac N O U V Y Z xg xJ xC xT BQ xk Ce Ah Az Cc wV Cr wX xd wU Cm BW w_ C; have a:=C.1; obtain ⟨⟨c9,cX,cZ,c4,cY,c8,p,df,dK,eF,cW,dR,gZ,kX,nE,o6,oI,pL,qk,r,uN,uk,uj,tU,BR,_⟩,g⟩:=C)
     ·exact ⟨a.set 0 rfl,g⟩
     ·exact ⟨a.set 1 rfl,g⟩
     ·obtain rfl:=c9 ‹_›;obtain rfl:=cX ‹_›;refine bz (by omega) ?_;exact ⟨a.set 2 rfl,g⟩
     ·exact ⟨a.set 3 rfl,g⟩
     ·obtain rfl:=c4 ‹_›;refine eo aD ?_;exact ⟨a.set 4 rfl,g⟩
     ·obtain rfl:=cZ ‹_›;obtain rfl:=cY ‹_›;refine yO (by omega) ?_;exact ⟨a.set 5 rfl,g⟩
     ·obtain rfl:=c8 ‹_›;exact ⟨a.set 6 rfl,g⟩
     ·obtain rfl:=p ‹_›;refine bh ?_;exact ⟨a.set 7 rfl,g⟩
     ·obtain rfl:=p ‹_›;refine bh ?_;exact ⟨a.set 8 rfl,g⟩
     ·obtain rfl:=p ‹_›;refine bh ?_;exact ⟨a.set 9 rfl,g⟩
     ·obtain rfl:=p ‹_›;refine bh ?_;exact ⟨a.set 10 rfl,g⟩
     ·obtain rfl:=eF ‹_›;obtain rfl:=cW ‹_›;obtain rfl:=p ‹_›;refine bh ?_; refine bz (by omega) ?_;exact ⟨a.set 11 rfl,g⟩
     ·obtain rfl:=df ‹_›;obtain rfl:=dK ‹_›;obtain rfl:=dR ‹_›;obtain rfl:=p ‹_›;refine bh ?_; refine tu aD (by omega) (by omega) ?_;exact ⟨a.set 12 rfl,g⟩
     ·obtain rfl:=p ‹_›;refine bh ?_;exact ⟨a.set 13 rfl,g⟩
     ·obtain rfl:=p ‹_›;refine bh ?_;exact ⟨a.set 14 rfl,g⟩
     ·obtain rfl:=kX ‹_›;obtain rfl:=nE ‹_›;obtain rfl:=p ‹_›;refine bh ?_; refine aN ci hj ?_;exact ⟨a.set 15 rfl,g⟩
     ·obtain rfl:=o6 ‹_›;obtain rfl:=p ‹_›;refine bh ?_; refine dq aO ((g.cellS hS).trans M) ?_;exact ⟨a.set 16 rfl,g⟩
     ·obtain rfl:=gZ ‹_›;obtain rfl:=oI ‹_›;obtain rfl:=p ‹_›;refine bh ?_; refine bU ?_; rw [hq];exact ⟨a.set 17 rfl,g⟩
     ·obtain rfl:=p ‹_›;obtain rfl:=pL ‹_›;refine tj ?_;exact ⟨a.set 18 rfl,g⟩
     ·obtain rfl:=qk ‹_›;exact ⟨a.set 19 rfl,g⟩
     ·obtain rfl:=r ‹_›;refine cN (c:=false) (b:=true) (by decide) ?_;exact ⟨a.set 20 rfl,g⟩
     ·obtain rfl:=r ‹_›;refine cN (c:=false) (b:=true) (by decide) ?_;exact ⟨a.set 21 rfl,g⟩
     ·obtain rfl:=uk ‹_›;obtain rfl:=r ‹_›;refine cN (c:=false) (b:=true) (by decide) ?_;exact ⟨a.set 22 rfl,g⟩
     ·obtain rfl:=uN ‹_›;obtain rfl:=uj ‹_›;obtain rfl:=r ‹_›;refine cN (c:=false) (b:=true) (by decide) ?_;exact ⟨a.set 23 rfl,g⟩
     ·obtain rfl:=r ‹_›;obtain rfl:=tU ‹_›;refine mh ?_;exact ⟨a.set 24 rfl,g⟩
     obtain ⟨rfl,rfl,rfl,rfl,rfl,rfl,rfl,rfl,rfl,rfl,rfl,rfl,rfl,rfl,rfl,rfl,rfl,rfl,rfl,rfl,rfl,rfl,rfl,rfl,rfl,_⟩:=a.all;clear a c9 cX cZ c4 cY c8 p df dK eF cW dR gZ kX nE o6 oI pL qk r uN uk uj tU BR;refine aE (fun B=>by cases B) (fun _=>?_);refine ⟨m,rfl,a1,?_,g⟩;rw [ah] at l
     ·exact l
     ·rintro ⟨_,h2,_⟩;rw [j1] at hq;exact hq (by rw [h2])
    ·rw [bQ] at hq;have a5:=hq;have hq:decide (st (cut s i (i+x.size))=x)=true:=bb a5
     skip
     refine ⟨fun D Ck Ac N O U V Y Z xg xJ xC xT BQ xk Ce Ah Az Cc wV Cr wX xd wU Cm BW w_=>Fx D 0 [BW=.int .i64 (i:Int),Cm=.int .i64 (x.size:Int),wU=.int .i64 ((i+x.size:Nat):Int),xd=.string (st s),wX=.int .i64 (s.length:Int),Cr=.bool true,wV=.bool true,Cc=.string (st s),Az=.int .i64 (i:Int),Ah=.int .i64 (i:Int),Ce=.int .i64 (x.size:Int),xk=.int .i64 ((i+x.size:Nat):Int),BQ=.string (st (cut s i (i+x.size))),xT=.slice (some ⟨b,o,none⟩) signs.length cap,xC=.int .i64 (j:Int),xJ=.pointer (some ⟨b,o+j * 1,none⟩),xg=.string x,Z=.bool true,Y=.bool true,V=.bool true,U=.int .i64 (x.size:Int),O=.string (st m),N=.int .i64 (m.length:Int),Ac=.bool (decide ((m.length:Int)<(x.size:Int))),Ck=.bool (decide ((m.length:Int)<(x.size:Int)))]/\Inv w [] [] S1 w_,⟨Fx.nil _ _,g.draw⟩,⟨?_,?_,?_,?_,?_,?_,?_,?_,?_,?_,?_,?_,?_,?_,?_,?_,?_,?_,?_,?_,?_,?_,?_,?_,?_,trivial⟩,?_⟩;all_goals (intro D bm; intros; rename_i Ck Ac N O U V Y Z xg xJ xC xT BQ xk Ce Ah Az Cc wV Cr wX xd wU Cm BW w_ C; have a:=C.1; obtain ⟨⟨c9,cX,cZ,c4,cY,c8,p,df,dK,eF,cW,dR,gZ,kX,nE,o6,oI,pL,qk,r,uN,uk,uj,tU,BR,_⟩,g⟩:=C)
     ·exact ⟨a.set 0 rfl,g⟩
     ·exact ⟨a.set 1 rfl,g⟩
     ·obtain rfl:=c9 ‹_›;obtain rfl:=cX ‹_›;refine bz (by omega) ?_;exact ⟨a.set 2 rfl,g⟩
     ·exact ⟨a.set 3 rfl,g⟩
     ·obtain rfl:=c4 ‹_›;refine eo aD ?_;exact ⟨a.set 4 rfl,g⟩
     ·obtain rfl:=cZ ‹_›;obtain rfl:=cY ‹_›;refine yO (by omega) ?_;exact ⟨a.set 5 rfl,g⟩
     ·obtain rfl:=c8 ‹_›;exact ⟨a.set 6 rfl,g⟩
     ·obtain rfl:=p ‹_›;refine bh ?_;exact ⟨a.set 7 rfl,g⟩
     ·obtain rfl:=p ‹_›;refine bh ?_;exact ⟨a.set 8 rfl,g⟩
     ·obtain rfl:=p ‹_›;refine bh ?_;exact ⟨a.set 9 rfl,g⟩
     ·obtain rfl:=p ‹_›;refine bh ?_;exact ⟨a.set 10 rfl,g⟩
     ·obtain rfl:=eF ‹_›;obtain rfl:=cW ‹_›;obtain rfl:=p ‹_›;refine bh ?_; refine bz (by omega) ?_;exact ⟨a.set 11 rfl,g⟩
     ·obtain rfl:=df ‹_›;obtain rfl:=dK ‹_›;obtain rfl:=dR ‹_›;obtain rfl:=p ‹_›;refine bh ?_; refine tu aD (by omega) (by omega) ?_;exact ⟨a.set 12 rfl,g⟩
     ·obtain rfl:=p ‹_›;refine bh ?_;exact ⟨a.set 13 rfl,g⟩
     ·obtain rfl:=p ‹_›;refine bh ?_;exact ⟨a.set 14 rfl,g⟩
     ·obtain rfl:=kX ‹_›;obtain rfl:=nE ‹_›;obtain rfl:=p ‹_›;refine bh ?_; refine aN ci hj ?_;exact ⟨a.set 15 rfl,g⟩
     ·obtain rfl:=o6 ‹_›;obtain rfl:=p ‹_›;refine bh ?_; refine dq aO ((g.cellS hS).trans M) ?_;exact ⟨a.set 16 rfl,g⟩
     ·obtain rfl:=gZ ‹_›;obtain rfl:=oI ‹_›;obtain rfl:=p ‹_›;refine bh ?_; refine bU ?_; rw [hq];exact ⟨a.set 17 rfl,g⟩
     ·obtain rfl:=p ‹_›;obtain rfl:=pL ‹_›;refine tj ?_;exact ⟨a.set 18 rfl,g⟩
     ·obtain rfl:=qk ‹_›;exact ⟨a.set 19 rfl,g⟩
     ·obtain rfl:=r ‹_›;refine bh ?_;exact ⟨a.set 20 rfl,g⟩
     ·obtain rfl:=r ‹_›;refine bh ?_;exact ⟨a.set 21 rfl,g⟩
     ·obtain rfl:=uk ‹_›;obtain rfl:=r ‹_›;refine bh ?_; refine eo aD ?_;exact ⟨a.set 22 rfl,g⟩
     ·obtain rfl:=uN ‹_›;obtain rfl:=uj ‹_›;obtain rfl:=r ‹_›;refine bh ?_; refine eD ?_;exact ⟨a.set 23 rfl,g⟩
     ·obtain rfl:=r ‹_›;obtain rfl:=tU ‹_›;refine tj ?_;exact ⟨a.set 24 rfl,g⟩
     obtain ⟨rfl,rfl,rfl,rfl,rfl,rfl,rfl,rfl,rfl,rfl,rfl,rfl,rfl,rfl,rfl,rfl,rfl,rfl,rfl,rfl,rfl,rfl,rfl,rfl,rfl,_⟩:=a.all;clear a c9 cX cZ c4 cY c8 p df dK eF cW dR gZ kX nE o6 oI pL qk r uN uk uj tU BR;have a0:cut s i (i+x.size)=bs x:=by rw [<- xt (cut s i (i+x.size)),a5]
     refine aR (fun B=>?_) (fun B=>?_)
     ·refine aN ci hj ?_;refine dq aO ((g.cellS hS).trans M) ?_;refine ⟨bs x,rfl,by rw [<- a0,yE J]; omega,?_,g⟩;rw [ai ⟨bb J,a0,by omega⟩] at l;exact l
     ·refine ⟨m,rfl,a1,?_,g⟩;rw [ah] at l
      ·exact l
      ·rintro ⟨_,_,h3⟩;omega
   ·skip
    refine ⟨fun D Ck Ac N O U V Y Z xg xJ xC xT BQ xk Ce Ah Az Cc wV Cr wX xd wU Cm BW w_=>Fx D 0 [BW=.int .i64 (i:Int),Cm=.int .i64 (x.size:Int),wU=.int .i64 ((i+x.size:Nat):Int),xd=.string (st s),wX=.int .i64 (s.length:Int),Cr=.bool false,wV=.bool false,Cc=undef,Az=undef,Ah=undef,Ce=undef,xk=undef,BQ=undef,xT=undef,xC=undef,xJ=undef,xg=undef,Z=undef,Y=.bool false,V=.bool false,U=undef,O=undef,N=undef,Ac=undef,Ck=.bool false]/\Inv w [] [] S1 w_,⟨Fx.nil _ _,g.draw⟩,⟨?_,?_,?_,?_,?_,?_,?_,?_,?_,?_,?_,?_,?_,?_,?_,?_,?_,?_,?_,?_,?_,?_,?_,?_,?_,trivial⟩,?_⟩;all_goals (intro D bm; intros; rename_i Ck Ac N O U V Y Z xg xJ xC xT BQ xk Ce Ah Az Cc wV Cr wX xd wU Cm BW w_ C; have a:=C.1; obtain ⟨⟨c9,cX,cZ,c4,cY,c8,p,df,dK,eF,cW,dR,gZ,kX,nE,o6,oI,pL,qk,r,uN,uk,uj,tU,BR,_⟩,g⟩:=C)
    ·exact ⟨a.set 0 rfl,g⟩
    ·exact ⟨a.set 1 rfl,g⟩
    ·obtain rfl:=c9 ‹_›;obtain rfl:=cX ‹_›;refine bz (by omega) ?_;exact ⟨a.set 2 rfl,g⟩
    ·exact ⟨a.set 3 rfl,g⟩
    ·obtain rfl:=c4 ‹_›;refine eo aD ?_;exact ⟨a.set 4 rfl,g⟩
    ·obtain rfl:=cZ ‹_›;obtain rfl:=cY ‹_›;refine FY (by omega) ?_;exact ⟨a.set 5 rfl,g⟩
    ·obtain rfl:=c8 ‹_›;exact ⟨a.set 6 rfl,g⟩
    ·obtain rfl:=p ‹_›;refine cN (c:=false) (b:=true) (by decide) ?_;exact ⟨a.set 7 rfl,g⟩
    ·obtain rfl:=p ‹_›;refine cN (c:=false) (b:=true) (by decide) ?_;exact ⟨a.set 8 rfl,g⟩
    ·obtain rfl:=p ‹_›;refine cN (c:=false) (b:=true) (by decide) ?_;exact ⟨a.set 9 rfl,g⟩
    ·obtain rfl:=p ‹_›;refine cN (c:=false) (b:=true) (by decide) ?_;exact ⟨a.set 10 rfl,g⟩
    ·obtain rfl:=eF ‹_›;obtain rfl:=cW ‹_›;obtain rfl:=p ‹_›;refine cN (c:=false) (b:=true) (by decide) ?_;exact ⟨a.set 11 rfl,g⟩
    ·obtain rfl:=df ‹_›;obtain rfl:=dK ‹_›;obtain rfl:=dR ‹_›;obtain rfl:=p ‹_›;refine cN (c:=false) (b:=true) (by decide) ?_;exact ⟨a.set 12 rfl,g⟩
    ·obtain rfl:=p ‹_›;refine cN (c:=false) (b:=true) (by decide) ?_;exact ⟨a.set 13 rfl,g⟩
    ·obtain rfl:=p ‹_›;refine cN (c:=false) (b:=true) (by decide) ?_;exact ⟨a.set 14 rfl,g⟩
    ·obtain rfl:=kX ‹_›;obtain rfl:=nE ‹_›;obtain rfl:=p ‹_›;refine cN (c:=false) (b:=true) (by decide) ?_;exact ⟨a.set 15 rfl,g⟩
    ·obtain rfl:=o6 ‹_›;obtain rfl:=p ‹_›;refine cN (c:=false) (b:=true) (by decide) ?_;exact ⟨a.set 16 rfl,g⟩
    ·obtain rfl:=gZ ‹_›;obtain rfl:=oI ‹_›;obtain rfl:=p ‹_›;refine cN (c:=false) (b:=true) (by decide) ?_;exact ⟨a.set 17 rfl,g⟩
    ·obtain rfl:=p ‹_›;obtain rfl:=pL ‹_›;refine mh ?_;exact ⟨a.set 18 rfl,g⟩
    ·obtain rfl:=qk ‹_›;exact ⟨a.set 19 rfl,g⟩
    ·obtain rfl:=r ‹_›;refine cN (c:=false) (b:=true) (by decide) ?_;exact ⟨a.set 20 rfl,g⟩
    ·obtain rfl:=r ‹_›;refine cN (c:=false) (b:=true) (by decide) ?_;exact ⟨a.set 21 rfl,g⟩
    ·obtain rfl:=uk ‹_›;obtain rfl:=r ‹_›;refine cN (c:=false) (b:=true) (by decide) ?_;exact ⟨a.set 22 rfl,g⟩
    ·obtain rfl:=uN ‹_›;obtain rfl:=uj ‹_›;obtain rfl:=r ‹_›;refine cN (c:=false) (b:=true) (by decide) ?_;exact ⟨a.set 23 rfl,g⟩
    ·obtain rfl:=r ‹_›;obtain rfl:=tU ‹_›;refine mh ?_;exact ⟨a.set 24 rfl,g⟩
    obtain ⟨rfl,rfl,rfl,rfl,rfl,rfl,rfl,rfl,rfl,rfl,rfl,rfl,rfl,rfl,rfl,rfl,rfl,rfl,rfl,rfl,rfl,rfl,rfl,rfl,rfl,_⟩:=a.all;clear a c9 cX cZ c4 cY c8 p df dK eF cW dR gZ kX nE o6 oI pL qk r uN uk uj tU BR;refine aE (fun B=>by cases B) (fun _=>?_);refine ⟨m,rfl,a1,?_,g⟩;rw [ah] at l
    ·exact l
    ·rintro ⟨h1,_⟩;rw [bQ] at h1;exact J h1
  intro t7 _ _ _ _ _ _ _ _ _ _ _ _ _ _ _ _ _ _ _ _ _ _ _ _ _ _ _ _ _ _ _ _ _ _ _ w';rintro ⟨q,rfl,a4,a8,g⟩;refine bz (by omega) ?_;exact ⟨⟨j+1,q,hj,rfl,rfl,a4,a8,g⟩,by simp [intOf]; omega⟩
 ·have:j=signs.length:=by omega
  subst this;rw [dV,gb] at l;rw [<- l] at G;refine bU ?_;refine aR (fun B=>?_) (fun B=>?_)
  ·have:m=[]:=by rw [<- xt m,B]
   exact rt g a3 (by rw [G,ai this]; rfl)
  ·have:¬ m=[]:=fun h=>B (by rw [h]);refine eo aD ?_;refine bz (by omega) ?_;exact rt g a3 (by rw [G,ah this]; rfl)
end
theorem qV (s:Bs) (i:Nat):∀ (l:List ByteArray) (b:Bs),(∀ x∈l,x.size<=3)->b.length<=3->i+b.length<=s.length->i+(gb s i l b).length<=s.length/\(gb s i l b).length<=3
 | [],b,_,h2,h3=>⟨h3,h2⟩
 | x::l,b,h1,h2,h3=>by
  rw [gb];have g:(bs x).length=x.size:=FL;split
  ·rename_i h
   exact qV s i l _ (fun y a=>h1 y (c7 _ a)) (by rw [g]; exact h1 x (cQ ..)) (by rw [g]; exact of_decide_eq_true h.1)
  ·exact qV s i l _ (fun y a=>h1 y (c7 _ a)) h2 h3
theorem EJ (s:Bs):∀ (n e:Nat),e<=tb s n e/\tb s n e<=e+n
 | 0,e=>by simp [tb]
 | n+1,e=>by
  rw [tb];split
  ·have:=EJ s n (e+1); omega
  ·omega
theorem oC {s:Bs} {i:Nat} {n:Bs} {e:Nat} (j:i<s.length) (h:pi s i=some (n,e)):i<e/\e<=s.length/\n.length<=6/\n≠[]:=by
 have q:=EJ s (s.length - i) i;have r:=qV s i signs [] Bd (by simp) (by simpa using Nat.le_of_lt j);unfold pi at h;simp only [] at h;split at h
 ·cases h
 ·split at h
  ·simp only [a9,cO] at h;obtain ⟨rfl,rfl⟩:=h;rename_i p m
   have hc:=yE (s:=s) (a:=i) (b:=tb s (s.length - i) i) (by omega);refine ⟨m,by omega,by omega,fun h=>?_⟩;rw [h] at hc;simp at hc;omega
  ·split at h
   ·cases h
   ·simp only [a9,cO] at h;obtain ⟨rfl,rfl⟩:=h;rename_i g
    have:0<(gb s i signs []).length:=by
     cases o:gb s i signs [] with
     | nil=>exact absurd o g
     | cons a l=>simp
    exact ⟨by omega,by omega,by omega,g⟩
def opV (o:Option (Bs × Nat)) (i:Nat):Value:=match o with
 | none=>.tuple #[.string ⟨#[]⟩,.int .i64 (i:Int)]
 | some (n,e)=>.tuple #[.string (st n),.int .i64 (e:Int)]
theorem F7 {s:Bs} {i:Nat} {n:Bs} {e:Nat} (h:opF s i=some (n,e)):i<e/\e<=s.length/\n.length<=6/\n≠[]:=by
 unfold opF at h;obtain ⟨j,a⟩:∃ j,j=if sgn s i 32=true then i+1 else i:=⟨_,rfl⟩
 simp only [<- a] at h;have r:i<=j:=by rw [a]; split <;> omega
 split at h
 ·cases h
 rename_i l
 split at h
 ·cases h
 rename_i t u g
 obtain ⟨B,o,p,q⟩:=oC (by omega) g;split at h
 ·cases h
 rename_i hc
 simp only [not_or,not_and,Bool.not_eq_false] at hc;simp only [a9,cO] at h;obtain ⟨rfl,rfl⟩:=h;refine ⟨by split <;> omega,?_,p,q⟩;split
 ·rename_i m
  have:=fR (hc.2.2 m);omega
 ·exact o
section
attribute [local irreducible] Run CondV aw aI
theorem CO {s:Bs} {i:Nat} (N:s.length<=100000) (Y:i<=s.length) (S:af):Pure Tryz.prog F6 [.string (st s),.int .i64 (i:Int)] S (opV (opF s i) i):=by
 intro w a;refine xW.2 ?_;dsimp only[xW,a6];obtain ⟨u,o⟩:∃ u,u=if sgn s i 32=true then i+1 else i:=⟨_,rfl⟩
 have U:i<=u/\u<=i+1:=by rw [o]; split <;> omega
 obtain ⟨r,j⟩:∃ r,r=opF s i:=⟨_,rfl⟩
 rw [<- j];unfold opF at j;simp only [<- o] at j;refine ⟨fun t w'=>t=.int .i64 (u:Int)/\Inv w [] [] S w',?_,?_⟩
 ·refine Run.callPure cu cz a (bY s i 32 S) fun w' a=>?_;refine aE (fun p=>?_) (fun p=>?_)
  ·refine bz (by omega) ?_;rw [ai p] at o;exact ⟨by rw [o]; congr 1,a⟩
  ·rw [ah (by rw [p]; decide)] at o;exact ⟨by rw [o],a⟩
 intro Z _ _ _ _ _ w';rintro ⟨rfl,a⟩;refine eo aD ?_;refine jI ?_;refine aR (fun p=>?_) (fun p=>?_)
 ·rw [ai (by omega)] at j;exact done a (by rw [j]; rfl)
 rw [ah (by omega)] at j;refine Run.callPure rz sv a (oz (by omega) N S) fun w' a=>?_;cases B:pi s u with
 | none=>
  rw [B] at j;simp only [] at j;simp only [EL];refine aA rfl ?_;refine aA rfl ?_;refine ⟨fun t w'=>t=.bool true/\Inv w [] [] S w',?_,?_⟩
  ·refine uQ (by omega) ?_;refine rpG ?_;exact ⟨rfl,a⟩
  intro G _ _ _ _ _ _ w';rintro ⟨rfl,a⟩;exact aE (fun _=>done a (by rw [j]; rfl)) (fun p=>by cases p)
 | some q=>
  obtain ⟨D,C⟩:=q;rw [B] at j;simp only [] at j;obtain ⟨h1,h2,h3,h4⟩:=oC (by omega) B;simp only [EL];refine aA (v:=.string (st D)) rfl ?_;refine aA (v:=.int .i64 (C:Int)) rfl ?_;refine ⟨fun t w'=>t=.bool (decide (bX (st D)=0))/\Inv w [] [] S w',?_,?_⟩
  ·refine dO (by omega) ?_;refine rpG ?_;refine Run.callPure eq ek a (dn _ S) fun w' a=>?_;refine bo ?_;refine rpG ?_;exact ⟨rfl,a⟩
  intro G _ _ _ _ _ _ w';rintro ⟨rfl,a⟩;refine aR (fun p=>?_) (fun p=>?_)
  ·rw [ai (.inl p)] at j;exact done a (by rw [j]; rfl)
  obtain ⟨g,m⟩:∃ g,g=(decide (D=[105,115]) || decide (D=[109,111,100])):=⟨_,rfl⟩
  rw [<- m] at j;refine ⟨fun t w'=>t=.bool g/\Inv w [] [] S w',?_,?_⟩
  ·refine vp (b:=[105,115]) ?_;cases M:decide (D=[105,115])
   ·refine rpG ?_;refine vp (b:=[109,111,100]) ?_;refine rpG ?_;exact ⟨by rw [m,M,fo],a⟩
   ·refine rpG ?_;exact ⟨by rw [m,M,oU],a⟩
  intro t9 _ _ _ _ _ _ w';rintro ⟨rfl,a⟩;refine ⟨fun t w'=>t=.bool (decide (g≠decide (i<u)) || (g && !sgn s C 32))/\Inv w [] [] S w',?_,?_⟩
  ·refine eD ?_;refine Gj tk ?_;have V:decide ((i:Int)<(u:Int))=decide (i<u):=by rw [gN]; omega
   rw [V];cases h6:decide (i<u) <;> cases g
   ·refine rpG ?_;exact ⟨by rfl,a⟩
   ·refine rpG ?_;exact ⟨by rfl,a⟩
   ·refine rpG ?_;exact ⟨by rfl,a⟩
   ·refine rpG ?_;refine Run.callPure cu cz a (bY s C 32 S) fun w' a=>?_;refine dD ?_;refine rpG ?_;exact ⟨by simp,a⟩
  intro O _ _ _ _ _ _ _ _ _ _ _ _ _ w';rintro ⟨rfl,a⟩;refine aE (fun l=>?_) (fun l=>?_)
  ·rw [ai] at j
   ·exact done a (by rw [j]; rfl)
   ·rw [iV,bQ,bJ,sy] at l;exact .inr l
  ·rw [ah] at j
   ·refine ⟨fun t w'=>t=.int .i64 ((if g=true then C+1 else C:Nat):Int)/\Inv w [] [] S w',?_,?_⟩
    ·refine aE (fun J=>?_) (fun J=>?_)
     ·refine bz (by omega) ?_;exact ⟨by rw [ai J]; congr 1,a⟩
     ·exact ⟨by rw [ah (by rw [J]; decide)],a⟩
    intro t8 _ _ _ w';rintro ⟨rfl,a⟩;exact done a (by rw [j]; rfl)
   ·rw [El,j1] at l;rintro (h|h|⟨h,h'⟩)
    ·exact p h
    ·exact l.1 h
    ·rw [h,h'] at l;simp at l
end
end
end Go.Proofs.YtjbcdmheajljpaaGreat
