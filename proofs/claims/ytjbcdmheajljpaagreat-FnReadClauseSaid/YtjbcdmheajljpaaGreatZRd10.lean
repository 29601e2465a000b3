/- Code read back, the plain form: what spec's reader does; on the code of a clause it follows what the code says of its slots. -/
import Derived.Test.YtjbcdmheajljpaaGreatZRdA
import Derived.Test.YtjbcdmheajljpaaGreatZRd9
namespace Go.Proofs.YtjbcdmheajljpaaGreat
attribute [local irreducible] Run CondV aI bg
section
open Go Go.RowKit
def lE (M:Nat) (s:RI) (k:Int):Option (RI × T):=
 if 0<=k/\k<M then some (match s.sl k with
  | some t=>(s,t)
  | none=>(⟨upS s.sl k (dx s.fr),s.ar,s.fr+1,s.st⟩,dx s.fr)) else none
def we (M:Nat):RI->List Ist->Option (RI × List T)
 | s,[]=>some (s,[])
 | s,x::xs=>
  if x.op=6 then (we M s xs).map fun r=>(r.1,eH x.a::r.2)
  else if x.op=4 ∨ x.op=5 then (lE M s x.a).bind fun q=>(we M q.1 xs).map fun r=>(r.1,q.2::r.2)
  else none
def Ao (s:RI) (b:Int) (t:T):Option RI:=if 0<=b/\b<4 then some ⟨s.sl,upS s.ar b t,s.fr,s.st⟩ else none
noncomputable def insS (M:Nat) (s:RI) (x:Ist) (more:List Ist):Option RI:=
 if x.op=1 then (lE M s x.b).bind fun q=>(lE M q.1 x.a).bind fun p=>unI p.1 q.2 p.2
 else if x.op=2 then (lE M s x.b).bind fun q=>unI q.1 q.2 (eH x.a)
 else if x.op=3 ∨ x.op=7 then (lE M s x.b).bind fun q=>(we M q.1 more).bind fun r=>unI r.1 q.2 (fnT x.name r.2)
 else if x.op=8 ∨ x.op=9 then (lE M s x.a).bind fun q=>Ao q.1 x.b q.2
 else if x.op=10 then Ao s x.b (eH x.a)
 else none
def zT0:T:=⟨0,0,emptyB,[]⟩
def sH (a:Sl) (k:Nat):List T:=(List.range k).map fun (i:Nat)=>(a (i:Int)).getD zT0
def iA (x:Ist):Nat:=if x.op=3 ∨ x.op=7 then x.a.toNat else 0
noncomputable def readS (M:Nat):Nat->RI->List Ist->List T->Option (RI × List T)
 | 0,_,_,_=>none
 | _+1,s,[],out=>some (s,out)
 | f+1,s,x::xs,out=>
  if x.op=14 then (if xs=[] then some (s,out) else none)
  else if x.op=13 then readS M f s xs (out++[oG])
  else if x.op=11 ∨ x.op=12 then (if 0<=x.a/\x.a<=4 then readS M f s xs (out++[fnT x.name (sH s.ar x.a.toNat)]) else none)
  else if iA x<=xs.length then (insS M s x (xs.take (iA x))).bind fun s'=>readS M f s' (xs.drop (iA x)) out
  else none
structure FrS (M:Nat) (s:RI) (xs:List Ist):Prop where
 rng:∀ k t,s.sl k=some t->0<=k/\k<M
 no:∀ k∈dfL xs,s.sl k=none/\0<=k/\k<M
 nd:(dfL xs).Nodup
theorem jF {M:Nat} {s:RI} {k:Int} {t:T} (h:s.sl k=some t) (a:0<=k/\k<M):lE M s k=some (s,t):=by
 rw [lE,ag a,h]
theorem yh {M:Nat} {s:RI} {k:Int} (h:s.sl k=none) (a:0<=k/\k<M):lE M s k=some (⟨upS s.sl k (dx s.fr),s.ar,s.fr+1,s.st⟩,dx s.fr):=by
 rw [lE,ag a,h]
theorem FrS.more {M:Nat} {s s':RI} {xs ys:List Ist} (h:FrS M s (xs++ys)) (a:∀ k,k ∉ dfL xs->s'.sl k=s.sl k):FrS M s' ys:=by
 have nd:=h.nd;rw [lp,mK] at nd;have no:∀ k∈dfL xs++dfL ys,s.sl k=none/\0<=k/\k<M:=fun k hk=>h.no k (by rw [lp];exact hk);refine ⟨fun k t hk=>?_,fun k hk=>?_,nd.2.1⟩
 ·by_cases e:k∈dfL xs
  ·exact (no k (gf _ e)).2
  ·rw [a k e] at hk;exact h.rng k t hk
 ·have e:k ∉ dfL xs:=fun e=>nd.2.2 k e k hk rfl;rw [a k e];exact no k (gy _ hk)
def dn (xs:List Ist):Nat:=(dfL xs).length
theorem gB (x:Ist) (xs:List Ist):dn (x::xs)=(dfI x).length+dn xs:=by rw [dn,dfL,bt]; rfl
theorem TZ (xs ys:List Ist):dn (xs++ys)=dn xs+dn ys:=by rw [dn,lp,bt]; rfl
theorem KU {x:Ist} (h:x.op=4 ∨ x.op=8):(dfI x).length=1:=by rw [dfI,ag h]; rfl
theorem zj:∀ (xs:List Ist) {s s':RI} {us:List T},im s xs=some (s',us)->∀ k,k ∉ dfL xs->s'.sl k=s.sl k
 | [],s,s',us,h,k,_=>by
  rw [im,bj,c9] at h;rw [h.1]
 | x::xs,s,s',us,h,k,hk=>by
  rw [dfL] at hk;have l:k ∉ dfI x:=fun e=>hk (gf _ e);have g:k ∉ dfL xs:=fun e=>hk (gy _ e);rw [im] at h;split at h
  ·rename_i o
   rw [fV] at h;obtain ⟨⟨m,i⟩,j,a⟩:=h;rw [c9] at a;rw [<- a.1,zj xs j k g];refine gj _ _ fun e=>l ?_;rw [dfI,ag (.inl o),e];exact bM.2 rfl
  ·split at h
   ·rw [fi] at h;obtain ⟨t,_,h⟩:=h;rw [fV] at h;obtain ⟨⟨m,i⟩,j,a⟩:=h;rw [c9] at a;rw [<- a.1,zj xs j k g]
   ·split at h
    ·rw [fV] at h;obtain ⟨⟨m,i⟩,j,a⟩:=h;rw [c9] at a;rw [<- a.1,zj xs j k g]
    ·cases h
theorem FrS.tail {M:Nat} {s s':RI} {x:Ist} {xs:List Ist} (h:FrS M s (x::xs)) (a:∀ k,k ∉ dfI x->s'.sl k=s.sl k):FrS M s' xs:=
 FrS.more (xs:=[x]) h fun k hk=>a k (by rwa [dfL,dfL,dk] at hk)
theorem yz {M:Nat}:∀ (xs:List Ist) {s:RI} {r:RI × List T},FrS M s xs->im s xs=some r->we M s xs=some r
 | [],s,r,_,h=>by rw [im] at h;rw [we];exact h
 | x::xs,s,r,hf,h=>by
  rw [im] at h;rw [we];split at h
  ·rename_i g
   have hn:=hf.no x.a (by rw [dfL,dfI,ag (.inl g)];exact gf _ (bM.2 rfl));rw [fV] at h;obtain ⟨q,i,j⟩:=h;have l:=yz xs (hf.tail (s':=⟨upS s.sl x.a (dx s.fr),s.ar,s.fr+1,s.st⟩) fun k hk=>gj _ _ fun e=>hk (by rw [dfI,ag (.inl g),e];exact bM.2 rfl)) i;rw [ae (by omega),ag (.inl g),yh hn.1 hn.2,dq,l];exact congrArg some j
  ·split at h
   ·rename_i g m
    rw [fi] at h;obtain ⟨t,o,h⟩:=h;rw [fV] at h;obtain ⟨q,i,j⟩:=h;have l:=yz xs (hf.tail fun k _=>rfl) i;rw [ae (by omega),ag (.inr m),jF o (hf.rng _ _ o),dq,l];exact congrArg some j
   ·split at h
    ·rename_i g m p
     rw [fV] at h;obtain ⟨q,i,j⟩:=h;have l:=yz xs (hf.tail fun k _=>rfl) i;rw [ag p,l];exact congrArg some j
    ·cases h
theorem Des.frame {v v':Sl} {xs:List Ist} {ks:List T} (G:Des v xs v' ks):∀ {b:Int} {t:T},v b=none->b ∉ dfL xs->Des (upS v b t) xs (upS v' b t) ks/\v' b=none/\∀ {w w':Sl} {us:List T} (y:T),Des w xs w' us->∀ w0,w=upS w0 b y->∃ g,w'=upS g b y/\Des w0 xs g us:=by
 induction G with
 | nil=>
  intro b t l _;refine ⟨.nil,l,fun {w w' us} y h w0 e=>?_⟩;cases h;exact ⟨w0,e,.nil⟩
 | @var v v' a c nm u xs ks G D=>
  intro b t l hk;rw [dfL] at hk;have j:a≠b:=fun e=>hk (gf _ (by rw [dfI,ag (.inl rfl),e];exact bM.2 rfl));have o:∀ (f:Sl) (u t:T),upS (upS f b t) a u=upS (upS f a u) b t:=fun f u t=>by
   funext m
   unfold upS;by_cases i:m=a
   ·rw [ag i,ae (by omega),ag i]
   ·rw [ae i];split
    ·rfl
    ·rfl
  obtain ⟨q,r,B⟩:=D (b:=b) (t:=t) (by rw [gj _ _ (Ne.symm j)];exact l) (fun e=>hk (gy _ e));refine ⟨.var (by rw [o];exact q),r,fun {w w' us} y h w0 e=>?_⟩;cases h with
  | var h=>
   obtain ⟨g,i,C⟩:=B y h (upS w0 a _) (by rw [e,o]);exact ⟨g,i,.var C⟩
 | @val v v' a c nm u xs ks p G D=>
  intro b t l hk;rw [dfL] at hk;have j:a≠b:=fun e=>by rw [e,l] at p;cases p
  obtain ⟨q,r,B⟩:=D (b:=b) (t:=t) l (fun e=>hk (gy _ e));refine ⟨.val (by rw [gj _ _ j];exact p) q,r,fun {w w' us} y h w0 e=>?_⟩;cases h with
  | val J h=>
   obtain ⟨g,i,C⟩:=B y h w0 e;rw [e,gj _ _ j] at J;exact ⟨g,i,.val J C⟩
 | @int v v' a c nm xs ks G D=>
  intro b t l hk;rw [dfL] at hk;obtain ⟨q,r,B⟩:=D (b:=b) (t:=t) l (fun e=>hk (gy _ e));refine ⟨.int q,r,fun {w w' us} y h w0 e=>?_⟩;cases h with
  | int h=>
   obtain ⟨g,i,C⟩:=B y h w0 e;exact ⟨g,i,.int C⟩
theorem np {N:Nat}:∀ (xs:List Ist) {s s':RI} {us:List T},okRd N s->s.fr+dn xs<=N->im s xs=some (s',us)->okRd N s'/\s.fr<=s'.fr/\s'.fr<=s.fr+dn xs/\s'.st=s.st/\s'.ar=s.ar/\us.length=xs.length/\∀ t∈us,okU s'.fr t/\wB t
 | [],s,s',us,h,hl,g=>by
  rw [im,bj,c9] at g;obtain ⟨rfl,rfl⟩:=g;exact ⟨h,aY _,aY _,rfl,rfl,rfl,fun t i=>(by cases i)⟩
 | x::xs,s,s',us,h,hl,g=>by
  rw [gB] at hl;rw [im] at g;split at g
  ·rename_i M
   have O:=KU (x:=x) (.inl M);rw [fV] at g;obtain ⟨⟨j,p⟩,q,l⟩:=g;rw [c9] at l;obtain ⟨rfl,rfl⟩:=l;obtain ⟨r,m,J,B,C,D,G⟩:=np xs (h.fresh (by omega) x.a) (by show s.fr+1+dn xs<=N;omega) q;have m:s.fr+1<=j.fr:=m;have J:j.fr<=s.fr+1+dn xs:=J;refine ⟨r,by show s.fr<=j.fr;omega,by show j.fr<=_;rw [gB];omega,B,C,by rw [aP,aP,D],fun t i=>?_⟩;rcases dK.1 i with rfl|i
   ·exact ⟨cP m _ (gp _).1,(gp _).2⟩
   ·exact G t i
  ·split at g
   ·rw [fi] at g;obtain ⟨t,i,g⟩:=g;rw [fV] at g;obtain ⟨⟨j,p⟩,q,l⟩:=g;rw [c9] at l;obtain ⟨rfl,rfl⟩:=l;obtain ⟨r,m,J,B,C,D,G⟩:=np xs h (by omega) q;refine ⟨r,m,by show j.fr<=_;rw [gB];omega,B,C,by rw [aP,aP,D],fun u o=>?_⟩;rcases dK.1 o with rfl|o
    ·exact ⟨cP m _ (h.sl _ _ i).1,(h.sl _ _ i).2⟩
    ·exact G u o
   ·split at g
    ·rw [fV] at g;obtain ⟨⟨j,p⟩,q,l⟩:=g;rw [c9] at l;obtain ⟨rfl,rfl⟩:=l;obtain ⟨r,m,J,B,C,D,G⟩:=np xs h (by omega) q;refine ⟨r,m,by show j.fr<=_;rw [gB];omega,B,C,by rw [aP,aP,D],fun u o=>?_⟩;rcases dK.1 o with rfl|o
     ·exact g8 _ _
     ·exact G u o
    ·cases g
theorem pc {N:Nat} {s s':RI} {x:Ist} {more:List Ist} (h:okRd N s) (J:s.fr+(dfI x).length+dn more<=N) (M:more.length<=4) (hn:x.name.size<=6) (g:insI s x more=some s'):okRd N s'/\s.fr<=s'.fr/\s'.fr<=s.fr+(dfI x).length+dn more:=by
 unfold insI at g;split at g
 ·rw [fi] at g;obtain ⟨t,j,g⟩:=g;rw [fi] at g;obtain ⟨u,m,g⟩:=g;obtain ⟨i,l,_⟩:=sy h (h.sl _ _ j) (h.sl _ _ m) g;exact ⟨i,by omega,by omega⟩
 split at g
 ·rw [fi] at g;obtain ⟨t,j,g⟩:=g;obtain ⟨i,l,_⟩:=sy h (h.sl _ _ j) (g8 _ _) g;exact ⟨i,by omega,by omega⟩
 split at g
 ·rw [fi] at g;obtain ⟨t,j,g⟩:=g;rw [fi] at g;obtain ⟨⟨q,us⟩,o,g⟩:=g;obtain ⟨i,l,B,_,_,C,p⟩:=np more h (by omega) o;obtain ⟨D,O,_⟩:=sy i ⟨cP l _ (h.sl _ _ j).1,(h.sl _ _ j).2⟩ (gT hn (by omega) p) g;exact ⟨D,by omega,by omega⟩
 split at g
 ·rw [fV] at g;obtain ⟨⟨q,us⟩,o,rfl⟩:=g;obtain ⟨i,l,B,_,_,C,p⟩:=np more h (by omega) o;exact ⟨⟨i.good,i.low,i.le,i.sl.upS (gT hn (by omega) p) _,i.ar⟩,l,by show q.fr<=_;omega⟩
 split at g
 ·rename_i r
  have G:=KU (x:=x) (.inr r);rw [bj] at g;subst g;have:=h.fresh (by omega) x.a;exact ⟨⟨this.good,this.low,this.le,this.sl,this.ar.upS (gp _) _⟩,vQ _,by show s.fr+1<=_;omega⟩
 split at g
 ·rw [fV] at g;obtain ⟨u,m,rfl⟩:=g;exact ⟨⟨h.good,h.low,h.le,h.sl,h.ar.upS (h.sl _ _ m) _⟩,aY _,by show s.fr<=_;omega⟩
 split at g
 ·rw [bj] at g;subst g;exact ⟨⟨h.good,h.low,h.le,h.sl,h.ar.upS (g8 _ _) _⟩,aY _,by show s.fr<=_;omega⟩
 ·cases g
theorem L9 {N:Nat} {v v':Sl} {xs:List Ist} {ks:List T} (C:Des v xs v' ks):∀ {s:RI} {σ:Int->T},okRd N s->s.fr+dn xs<=N->v=env σ s.sl->∃ s' us,im s xs=some (s',us)/\
  (∃ g:Int->T,(∀ n:Int,0<=n->n<s.fr->σ n=g n)/\v'=env g s'.sl/\ks=sbL g us)/\∀ τ,Des (env τ s.sl) xs (env τ s'.sl) (sbL τ us):=by
 induction C with
 | nil=>
  intro s σ h l i;exact ⟨s,[],rfl,⟨σ,fun _ _ _=>rfl,i,rfl⟩,fun τ=>.nil⟩
 | @var v v' a b nm t xs ks C r=>
  intro s σ h l i;rw [gB] at l;have O:=KU (x:=⟨4,a,b,nm⟩) (.inl rfl);have U:=h.fresh (by omega) a;obtain ⟨s',us,m,⟨g,j,o,p⟩,q⟩:=r (s:=⟨upS s.sl a (dx s.fr),s.ar,s.fr+1,s.st⟩) (σ:=Kw σ s.fr t) U (by show s.fr+1+dn xs<=N;omega) (by
   show upS v a t=env _ (upS s.sl a (dx s.fr));rw [fg,fp,oh,i,gH h.sl (iw σ s.fr t)])
  refine ⟨s',dx s.fr::us,by rw [im,ag rfl,m];rfl,⟨g,fun n J M=>?_,o,?_⟩,fun τ=>?_⟩
  ·rw [<- j n J (by show n<((s.fr+1:Nat):Int);omega)];exact iw σ s.fr t n J M
  ·rw [sbL,fp,<- j s.fr (by omega) (by show (s.fr:Int)<((s.fr+1:Nat):Int);omega),oh,p]
  ·have:=q τ;have e:env τ (upS s.sl a (dx s.fr))=upS (env τ s.sl) a (τ s.fr):=by rw [fg,fp]
   rw [e] at this;rw [sbL,fp];exact .var this
 | @val v v' a b nm t xs ks B C r=>
  intro s σ h l i;rw [gB] at l;obtain ⟨s',us,m,⟨g,j,o,p⟩,q⟩:=r (s:=s) (σ:=σ) h (by omega) i;rw [i] at B;obtain ⟨u,D,G⟩:=gK B;refine ⟨s',u::us,by rw [im,ae (show ¬ (5:Int)=4 by decide),ag rfl,D,m];rfl,⟨g,j,o,?_⟩,fun τ=>?_⟩
  ·rw [sbL,p,<- G,kQ j u (h.sl _ _ D).1]
  ·rw [sbL];exact .val (by show (s.sl a).map _=_;rw [D];rfl) (q τ)
 | @int v v' a b nm xs ks C r=>
  intro s σ h l i;rw [gB] at l;obtain ⟨s',us,m,⟨g,j,o,p⟩,q⟩:=r (s:=s) (σ:=σ) h (by omega) i;refine ⟨s',eH a::us,by rw [im,ae (show ¬ (6:Int)=4 by decide),ae (show ¬ (6:Int)=5 by decide),ag rfl,m];rfl,⟨g,j,o,?_⟩,fun τ=>?_⟩
  ·rw [sbL,p,l3]
  ·rw [sbL,l3];exact .int (q τ)
theorem FrS.pre {M:Nat} {s:RI} {xs ys:List Ist} (h:FrS M s (xs++ys)):FrS M s xs:=by
 have nd:=h.nd;rw [lp,mK] at nd;exact ⟨h.rng,fun k hk=>h.no k (by rw [lp];exact gf _ hk),nd.1⟩
theorem Re {a:Sl}:∀ (k:Nat) {ks:List T},r2 a k=some ks->sH a k=ks
 | 0,ks,h=>by
  rw [r2,bj] at h;subst h;rfl
 | k+1,ks,h=>by
  rw [r2,fi] at h;obtain ⟨l,g,h⟩:=h;rw [fV] at h;obtain ⟨t,i,rfl⟩:=h;have:=Re k g;unfold sH at this ⊢;rw [List.range_succ,zA,this,Gx,NW,i];rfl
theorem jA {M f:Nat} {s s':RI} {op a b:Int} {nm:ByteArray} {ms g:List Ist} {out:List T} (h:op≠14/\op≠13/\op≠11/\op≠12) (i:iA ⟨op,a,b,nm⟩=ms.length) (j:insS M s ⟨op,a,b,nm⟩ ms=some s'):readS M (f+1) s (⟨op,a,b,nm⟩::(ms++g)) out=readS M f s' g out:=by
 rw [readS,ae h.1,ae h.2.1,ae (fun e=>by rcases e with e|e;exact h.2.2.1 e;exact h.2.2.2 e),i,ag (by rw [bt];omega),List.take_left,List.drop_left,j];rfl
theorem Td {M N:Nat} {e e':Ev} {xs:List Ist} {o:List T} (hd:Den e xs e' o):∀ {s:RI} {σ:Int->T},okRd N s->e=ev σ s->io σ s.st->s.fr+dn xs<=N->(∀ x∈xs,lim x)->FrS M s xs->(∀ x∈xs,pbI x)->∀ (j:List Ist) (out:List T) (f:Nat),(xs++j).length<=f->
  ∃ U s' us,j.length<=U/\readS M f s (xs++j) out=readS M U s' j (out++us)/\okRd N s'/\s.fr<=s'.fr/\(∀ t∈us,okU s'.fr t/\wB t)/\
   (∃ σ':Int->T,(∀ n:Int,0<=n->n<s.fr->σ n=σ' n)/\io σ' s'.st/\o=sbL σ' us)/\∀ τ,io τ s'.st->io τ s.st/\∃ B,Den (ev τ s) xs B (sbL τ us):=by
 induction hd with
 | nil=>
  intro s σ h he Y hl J p r j out f hf;exact ⟨f,s,[],hf,by rw [gW,dk],h,aY _,fun t G=>(by cases G),⟨σ,fun _ _ _=>rfl,Y,rfl⟩,fun τ G=>⟨G,_,.nil⟩⟩
 | @gval e e' a b nm t xs o h1 h2 hd ih=>
  intro s σ h he Y hl J p r j out f hf;subst he;rw [gB] at hl;rw [dg,aP] at hf;obtain ⟨f,rfl⟩:∃ g,f=g+1:=⟨f - 1,by omega⟩
  obtain ⟨O,q,q1⟩:=gK h1;obtain ⟨t2,a7,q2⟩:=gK h2;have hj:okJ N (.one O t2):=⟨⟨cP h.le _ (h.sl _ _ q).1,(h.sl _ _ q).2⟩,⟨cP h.le _ (h.sl _ _ a7).1,(h.sl _ _ a7).2⟩⟩
  obtain ⟨u1,u2⟩:=mJ h.good hj Y (q1.trans q2.symm);have hi:insI s ⟨1,a,b,nm⟩ []=some ⟨s.sl,s.ar,s.fr,(uniV s.st O t2).2⟩:=by
   rw [insI,ag rfl,q,dq,a7,dq,unI,ag u1]
  have hS:insS M s ⟨1,a,b,nm⟩ []=some ⟨s.sl,s.ar,s.fr,(uniV s.st O t2).2⟩:=by
   rw [insS,ag rfl,jF q (p.rng _ _ q),dq,jF a7 (p.rng _ _ a7),dq,unI,ag u1]
  obtain ⟨g1,g2,_⟩:=pc h (by show s.fr+_+0<=N;omega) (by simp) (J _ (bF ..)).1 hi;obtain ⟨U,s',us,b1,b2,b3,V,b5,b6,b7⟩:=ih g1 rfl u2 (by show s.fr+dn xs<=N;omega) (fun y D=>J y (bI _ D)) (p.tail fun k _=>rfl) (fun y D=>r y (bI _ D)) j out f (by omega);refine ⟨U,s',us,b1,?_,b3,V,b5,b6,fun τ G=>?_⟩
  ·rw [dg,<- b2];exact jA (ms:=[]) ⟨by decide,by decide,by decide,by decide⟩ rfl hS
  ·obtain ⟨c1,B,c2⟩:=b7 τ G;obtain ⟨d1,d2⟩:=kK h.good hj u1 c1;exact ⟨d1,B,.gval (t:=sbT τ O) (by show (s.sl b).map _=_;rw [q];rfl) (by show (s.sl a).map _=_;rw [a7,d2];rfl) c2⟩
 | @gint e e' a b nm xs o h1 hd ih=>
  intro s σ h he Y hl J p r j out f hf;subst he;rw [gB] at hl;rw [dg,aP] at hf;obtain ⟨f,rfl⟩:∃ g,f=g+1:=⟨f - 1,by omega⟩
  obtain ⟨O,q,q1⟩:=gK h1;have hj:okJ N (.one O (eH a)):=⟨⟨cP h.le _ (h.sl _ _ q).1,(h.sl _ _ q).2⟩,g8 _ _⟩
  obtain ⟨u1,u2⟩:=mJ h.good hj Y (q1.trans (l3 σ a).symm);have hi:insI s ⟨2,a,b,nm⟩ []=some ⟨s.sl,s.ar,s.fr,(uniV s.st O (eH a)).2⟩:=by
   rw [insI,ae (show ¬ (2:Int)=1 by decide),ag rfl,q,dq,unI,ag u1]
  have hS:insS M s ⟨2,a,b,nm⟩ []=some ⟨s.sl,s.ar,s.fr,(uniV s.st O (eH a)).2⟩:=by
   rw [insS,ae (show ¬ (2:Int)=1 by decide),ag rfl,jF q (p.rng _ _ q),dq,unI,ag u1]
  obtain ⟨g1,g2,_⟩:=pc h (by show s.fr+_+0<=N;omega) (by simp) (J _ (bF ..)).1 hi;obtain ⟨U,s',us,b1,b2,b3,V,b5,b6,b7⟩:=ih g1 rfl u2 (by show s.fr+dn xs<=N;omega) (fun y D=>J y (bI _ D)) (p.tail fun k _=>rfl) (fun y D=>r y (bI _ D)) j out f (by omega);refine ⟨U,s',us,b1,?_,b3,V,b5,b6,fun τ G=>?_⟩
  ·rw [dg,<- b2];exact jA (ms:=[]) ⟨by decide,by decide,by decide,by decide⟩ rfl hS
  ·obtain ⟨c1,B,c2⟩:=b7 τ G;obtain ⟨d1,d2⟩:=kK h.good hj u1 c1;rw [l3] at d2;exact ⟨d1,B,.gint (by show (s.sl b).map _=_;rw [q];exact congrArg some d2) c2⟩
 | @gstr e e' n b nm ms xs v' ks o hn h1 b0 hd ih=>
  intro s σ h he Y hl J p r j out f hf;subst he;rw [gB,TZ] at hl;rw [dg,aP,cN,bt] at hf;obtain ⟨f,rfl⟩:∃ g,f=g+1:=⟨f - 1,by omega⟩
  have Z:=J _ (bF ..);have c8:n<=4:=Z.2 (.inl rfl);obtain ⟨O,q,q1⟩:=gK h1;obtain ⟨l,C,a1,⟨σ1,a2,a3,a4⟩,a5⟩:=L9 b0 h (by omega) rfl;obtain ⟨o1,o2,o3,o4,o5,o6,o7⟩:=np ms h (by omega) a1;have a0:=gT (M:=l.fr) Z.1 (by omega) o7;have c3:okU l.fr O/\wB O:=⟨cP o2 _ (h.sl _ _ q).1,(h.sl _ _ q).2⟩
  have hj:okJ N (.one O (fnT nm C)):=⟨⟨cP o1.le _ c3.1,c3.2⟩,⟨cP o1.le _ a0.1,a0.2⟩⟩
  have c4:io σ1 l.st:=by rw [o4];exact oT h.low a2 Y
  obtain ⟨u1,u2⟩:=mJ o1.good hj c4 (by rw [i8,<- a4,<- q1];exact (kQ a2 O (h.sl _ _ q).1).symm);have hi:insI s ⟨3,n,b,nm⟩ ms=some ⟨l.sl,l.ar,l.fr,(uniV l.st O (fnT nm C)).2⟩:=by
   rw [insI,ae (show ¬ (3:Int)=1 by decide),ae (show ¬ (3:Int)=2 by decide),ag rfl,q,dq,a1,dq,unI,ag u1]
  have a9:FrS M s (ms++xs):=p.tail fun k _=>rfl;have hS:insS M s ⟨3,n,b,nm⟩ ms=some ⟨l.sl,l.ar,l.fr,(uniV l.st O (fnT nm C)).2⟩:=by
   rw [insS,ae (show ¬ (3:Int)=1 by decide),ae (show ¬ (3:Int)=2 by decide),ag (.inl rfl),jF q (p.rng _ _ q),dq,yz ms a9.pre a1,dq,unI,ag u1]
  obtain ⟨g1,g2,g3⟩:=pc h (by omega) (by omega) Z.1 hi;obtain ⟨U,s',us,b1,b2,b3,V,b5,⟨σ2,b6,b7,b8⟩,b9⟩:=ih (σ:=σ1) g1 (by
   show Ev.mk v' _=Ev.mk _ _;rw [a3]
   congr 1
   show env σ s.ar=env σ1 l.ar;rw [o5];exact gH h.ar a2) u2 (by show l.fr+dn xs<=N;omega) (fun y D=>J y (bI _ (gy _ D))) (a9.more (s':=⟨l.sl,l.ar,l.fr,(uniV l.st O (fnT nm C)).2⟩) fun k hk=>zj ms a1 k hk) (fun y D=>r y (bI _ (gy _ D))) j out f (by omega)
  refine ⟨U,s',us,b1,?_,b3,il o2 V,b5,⟨σ2,fun m h0 hm=>?_,b7,b8⟩,fun τ G=>?_⟩
  ·rw [dg,cN,<- b2];exact jA ⟨by decide,by decide,by decide,by decide⟩ (by rw [iA,ag (.inl rfl)];show n.toNat=_;omega) hS
  ·rw [a2 m h0 hm];exact b6 m h0 (by show m<(l.fr:Int);omega)
  ·obtain ⟨c1,B,c2⟩:=b9 τ G;obtain ⟨d1,d2⟩:=kK o1.good hj u1 c1;rw [o4] at d1;refine ⟨d1,B,.gstr (ks:=sbL τ C) (v':=env τ l.sl) hn (by show (s.sl b).map _=_;rw [q];exact congrArg some (d2.trans (i8 ..))) (a5 τ) ?_⟩;have:ev τ ⟨l.sl,l.ar,l.fr,(uniV l.st O (fnT nm C)).2⟩=⟨env τ l.sl,(ev τ s).a⟩:=by
    show Ev.mk _ (env τ l.ar)=Ev.mk _ (env τ s.ar);rw [o5]
   rw [<- this];exact c2
 | @sstr e e' n b nm ms xs v' ks o hn b0 hd ih=>
  intro s σ h he Y hl J p r j out f hf;subst he;rw [gB,TZ] at hl;rw [dg,aP,cN,bt] at hf;obtain ⟨f,rfl⟩:∃ g,f=g+1:=⟨f - 1,by omega⟩
  have Z:=J _ (bF ..);have c8:n<=4:=Z.2 (.inr (.inl rfl));have c5:dfI ⟨7,n,b,nm⟩=[b]:=rfl;have d4:(dfI ⟨7,n,b,nm⟩).length=1:=rfl;have a8:=p.no b (by rw [dfL,c5];exact gf _ (bM.2 rfl));have c9:b ∉ dfL (ms++xs):=fun e=>by
   have:=p.nd;rw [dfL,c5,mK] at this;exact this.2.2 b (bM.2 rfl) b e rfl
  have d0:b ∉ dfL ms:=fun e=>c9 (by rw [lp];exact gf _ e);have d3:(ev σ s).v b=none:=by show (s.sl b).map _=none;rw [a8.1];rfl
  obtain ⟨p1,_,p3⟩:=b0.frame (t:=fnT nm ks) d3 d0;have h0:=h.fresh (by omega) b;have a9:FrS M ⟨upS s.sl b (dx s.fr),s.ar,s.fr+1,s.st⟩ (ms++xs):=p.tail fun k hk=>gj _ _ fun e=>hk (by rw [c5,e];exact bM.2 rfl);obtain ⟨l,C,a1,⟨σ1,a2,a3,a4⟩,a5⟩:=L9 p1 (s:=⟨upS s.sl b (dx s.fr),s.ar,s.fr+1,s.st⟩) (σ:=Kw σ s.fr (fnT nm ks)) h0 (by show s.fr+1+dn ms<=N;omega) (by
   show upS (env σ s.sl) b (fnT nm ks)=env _ (upS s.sl b (dx s.fr));rw [fg,fp,oh,gH h.sl (iw σ s.fr (fnT nm ks))])
  obtain ⟨o1,o2,o3,o4,o5,o6,o7⟩:=np ms h0 (by show s.fr+1+dn ms<=N;omega) a1;have o2:s.fr+1<=l.fr:=o2;have o3:l.fr<=s.fr+1+dn ms:=o3;have o4:l.st=s.st:=o4;have o5:l.ar=s.ar:=o5;have a2:∀ m:Int,0<=m->m<((s.fr+1:Nat):Int)->Kw σ s.fr (fnT nm ks) m=σ1 m:=a2;have a6:∀ m:Int,0<=m->m<s.fr->σ m=σ1 m:=fun m h1 h2=>(iw σ s.fr (fnT nm ks) m h1 h2).trans (a2 m h1 (by omega));have a0:=gT (M:=l.fr) Z.1 (by omega) o7;have c6:okU l.fr (dx s.fr)/\wB (dx s.fr):=⟨cP o2 _ (gp _).1,(gp _).2⟩
  have hj:okJ N (.one (dx s.fr) (fnT nm C)):=⟨⟨cP o1.le _ c6.1,c6.2⟩,⟨cP o1.le _ a0.1,a0.2⟩⟩
  have c4:io σ1 l.st:=by rw [o4];exact oT h.low a6 Y
  obtain ⟨u1,u2⟩:=mJ o1.good hj c4 (by rw [i8,<- a4,fp,<- a2 s.fr (by omega) (by omega),oh]);have hu:unI l (dx s.fr) (fnT nm C)=some ⟨l.sl,l.ar,l.fr,(uniV l.st (dx s.fr) (fnT nm C)).2⟩:=by rw [unI,ag u1]
  have hS:insS M s ⟨7,n,b,nm⟩ ms=some ⟨l.sl,l.ar,l.fr,(uniV l.st (dx s.fr) (fnT nm C)).2⟩:=by
   rw [insS,ae (show ¬ (7:Int)=1 by decide),ae (show ¬ (7:Int)=2 by decide),ag (.inr rfl),yh a8.1 a8.2,dq,yz ms a9.pre a1,dq,hu]
  obtain ⟨g1,g2,_⟩:=sy o1 c6 a0 hu;obtain ⟨U,s',us,b1,b2,b3,V,b5,⟨σ2,b6,b7,b8⟩,b9⟩:=ih (σ:=σ1) g1 (by
   show Ev.mk (upS v' _ _) _=Ev.mk (env σ1 l.sl) _;rw [<- a3]
   congr 1
   show env σ s.ar=env σ1 l.ar;rw [o5];exact gH h.ar a6) u2 (by show l.fr+dn xs<=N;omega) (fun y D=>J y (bI _ (gy _ D))) (a9.more (s':=⟨l.sl,l.ar,l.fr,(uniV l.st (dx s.fr) (fnT nm C)).2⟩) fun k hk=>zj ms a1 k hk) (fun y D=>r y (bI _ (gy _ D))) j out f (by omega)
  have V:l.fr<=s'.fr:=V;refine ⟨U,s',us,b1,?_,b3,by omega,b5,⟨σ2,fun m h0 hm=>?_,b7,b8⟩,fun τ G=>?_⟩
  ·rw [dg,cN,<- b2];exact jA ⟨by decide,by decide,by decide,by decide⟩ (by rw [iA,ag (.inr rfl)];show n.toNat=_;omega) hS
  ·rw [a6 m h0 hm];exact b6 m h0 (by show m<(l.fr:Int);omega)
  ·obtain ⟨c1,B,c2⟩:=b9 τ G;obtain ⟨d1,d2⟩:=kK o1.good hj u1 c1;rw [o4] at d1;rw [fp,i8] at d2;obtain ⟨w0,w1,w2⟩:=p3 (fnT nm (sbL τ C)) (a5 τ) (env τ s.sl) (by
    show env τ (upS s.sl b (dx s.fr))=_;rw [fg,fp,d2])
   refine ⟨d1,B,.sstr (ks:=sbL τ C) (v':=w0) hn w2 ?_⟩;rw [<- w1];have:ev τ ⟨l.sl,l.ar,l.fr,(uniV l.st (dx s.fr) (fnT nm C)).2⟩=⟨env τ l.sl,(ev τ s).a⟩:=by
    show Ev.mk _ (env τ l.ar)=Ev.mk _ (env τ s.ar);rw [o5]
   rw [<- this];exact c2
 | @pvar e e' a b nm t xs o hd ih=>
  intro s σ h he Y hl J p r j out f hf;subst he;rw [gB] at hl;rw [dg,aP] at hf;obtain ⟨f,rfl⟩:∃ g,f=g+1:=⟨f - 1,by omega⟩
  have hi:insI s ⟨8,a,b,nm⟩ []=some ⟨upS s.sl a (dx s.fr),upS s.ar b (dx s.fr),s.fr+1,s.st⟩:=by
   rw [insI,ae (show ¬ (8:Int)=1 by decide),ae (show ¬ (8:Int)=2 by decide),ae (show ¬ (8:Int)=3 by decide),ae (show ¬ (8:Int)=7 by decide),ag rfl]
  have d6:=KU (x:=⟨8,a,b,nm⟩) (.inr rfl);have a8:=p.no a (by rw [dfL,dfI,ag (.inr rfl)];exact gf _ (bM.2 rfl));have hS:insS M s ⟨8,a,b,nm⟩ []=some ⟨upS s.sl a (dx s.fr),upS s.ar b (dx s.fr),s.fr+1,s.st⟩:=by
   rw [insS,ae (show ¬ (8:Int)=1 by decide),ae (show ¬ (8:Int)=2 by decide),ae (show ¬ ((8:Int)=3 ∨ (8:Int)=7) by decide),ag (.inl rfl),yh a8.1 a8.2,dq,Ao,ag (r _ (bF ..) (.inl rfl))]
  obtain ⟨g1,g2,g3⟩:=pc h (by show s.fr+_+0<=N;omega) (by simp) (J _ (bF ..)).1 hi;obtain ⟨U,s',us,b1,b2,b3,V,b5,⟨σ2,b6,b7,b8⟩,b9⟩:=ih (σ:=Kw σ s.fr t) g1 (by
   show Ev.mk (upS (env σ s.sl) a t) (upS (env σ s.ar) b t)=Ev.mk (env _ (upS s.sl a (dx s.fr))) (env _ (upS s.ar b (dx s.fr)));rw [fg,fg,fp,oh,gH h.sl (iw σ s.fr t),gH h.ar (iw σ s.fr t)]) (oT h.low (iw σ s.fr t) Y) (by show s.fr+1+dn xs<=N;omega) (fun y D=>J y (bI _ D)) (p.tail fun k hk=>gj _ _ fun e=>hk (by rw [dfI,ag (.inr rfl),e];exact bM.2 rfl)) (fun y D=>r y (bI _ D)) j out f (by omega)
  have V:s.fr+1<=s'.fr:=V;refine ⟨U,s',us,b1,?_,b3,by omega,b5,⟨σ2,fun m h0 hm=>?_,b7,b8⟩,fun τ G=>?_⟩
  ·rw [dg,<- b2];exact jA (ms:=[]) ⟨by decide,by decide,by decide,by decide⟩ rfl hS
  ·rw [iw σ s.fr t m h0 hm];exact b6 m h0 (by show m<((s.fr+1:Nat):Int);omega)
  ·obtain ⟨c1,B,c2⟩:=b9 τ G;refine ⟨c1,B,.pvar (t:=τ s.fr) ?_⟩;have:ev τ ⟨upS s.sl a (dx s.fr),upS s.ar b (dx s.fr),s.fr+1,s.st⟩=⟨upS (ev τ s).v a (τ s.fr),upS (ev τ s).a b (τ s.fr)⟩:=by
    show Ev.mk (env τ (upS s.sl a (dx s.fr))) (env τ (upS s.ar b (dx s.fr)))=Ev.mk _ _;rw [fg,fg,fp];rfl
   rw [<- this];exact c2
 | @pval e e' a b nm t xs o h1 hd ih=>
  intro s σ h he Y hl J p r j out f hf;subst he;rw [gB] at hl;rw [dg,aP] at hf;obtain ⟨f,rfl⟩:∃ g,f=g+1:=⟨f - 1,by omega⟩
  obtain ⟨O,q,q1⟩:=gK h1;have hi:insI s ⟨9,a,b,nm⟩ []=some ⟨s.sl,upS s.ar b O,s.fr,s.st⟩:=by
   rw [insI,ae (show ¬ (9:Int)=1 by decide),ae (show ¬ (9:Int)=2 by decide),ae (show ¬ (9:Int)=3 by decide),ae (show ¬ (9:Int)=7 by decide),ae (show ¬ (9:Int)=8 by decide),ag rfl,q];rfl
  have hS:insS M s ⟨9,a,b,nm⟩ []=some ⟨s.sl,upS s.ar b O,s.fr,s.st⟩:=by
   rw [insS,ae (show ¬ (9:Int)=1 by decide),ae (show ¬ (9:Int)=2 by decide),ae (show ¬ ((9:Int)=3 ∨ (9:Int)=7) by decide),ag (.inr rfl),jF q (p.rng _ _ q),dq,Ao,ag (r _ (bF ..) (.inr (.inl rfl)))]
  obtain ⟨g1,g2,g3⟩:=pc h (by show s.fr+_+0<=N;omega) (by simp) (J _ (bF ..)).1 hi;obtain ⟨U,s',us,b1,b2,b3,V,b5,b6,b9⟩:=ih (σ:=σ) g1 (by
   show Ev.mk (env σ s.sl) (upS (env σ s.ar) b t)=Ev.mk _ (env _ (upS s.ar b O));rw [fg,q1]) Y (by show s.fr+dn xs<=N;omega) (fun y D=>J y (bI _ D)) (p.tail fun k _=>rfl) (fun y D=>r y (bI _ D)) j out f (by omega)
  refine ⟨U,s',us,b1,?_,b3,V,b5,b6,fun τ G=>?_⟩
  ·rw [dg,<- b2];exact jA (ms:=[]) ⟨by decide,by decide,by decide,by decide⟩ rfl hS
  ·obtain ⟨c1,B,c2⟩:=b9 τ G;refine ⟨c1,B,.pval (t:=sbT τ O) (by show (s.sl a).map _=_;rw [q];rfl) ?_⟩;have:ev τ ⟨s.sl,upS s.ar b O,s.fr,s.st⟩=⟨(ev τ s).v,upS (ev τ s).a b (sbT τ O)⟩:=by
    show Ev.mk (env τ s.sl) (env τ (upS s.ar b O))=Ev.mk _ _;rw [fg];rfl
   rw [<- this];exact c2
 | @pint e e' a b nm xs o hd ih=>
  intro s σ h he Y hl J p r j out f hf;subst he;rw [gB] at hl;rw [dg,aP] at hf;obtain ⟨f,rfl⟩:∃ g,f=g+1:=⟨f - 1,by omega⟩
  have hi:insI s ⟨10,a,b,nm⟩ []=some ⟨s.sl,upS s.ar b (eH a),s.fr,s.st⟩:=by
   rw [insI,ae (show ¬ (10:Int)=1 by decide),ae (show ¬ (10:Int)=2 by decide),ae (show ¬ (10:Int)=3 by decide),ae (show ¬ (10:Int)=7 by decide),ae (show ¬ (10:Int)=8 by decide),ae (show ¬ (10:Int)=9 by decide),ag rfl]
  have hS:insS M s ⟨10,a,b,nm⟩ []=some ⟨s.sl,upS s.ar b (eH a),s.fr,s.st⟩:=by
   rw [insS,ae (show ¬ (10:Int)=1 by decide),ae (show ¬ (10:Int)=2 by decide),ae (show ¬ ((10:Int)=3 ∨ (10:Int)=7) by decide),ae (show ¬ ((10:Int)=8 ∨ (10:Int)=9) by decide),ag rfl,Ao,ag (r _ (bF ..) (.inr (.inr rfl)))]
  obtain ⟨g1,g2,g3⟩:=pc h (by show s.fr+_+0<=N;omega) (by simp) (J _ (bF ..)).1 hi;obtain ⟨U,s',us,b1,b2,b3,V,b5,b6,b9⟩:=ih (σ:=σ) g1 (by
   show Ev.mk (env σ s.sl) (upS (env σ s.ar) b (eH a))=Ev.mk _ (env _ (upS s.ar b (eH a)));rw [fg,l3]) Y (by show s.fr+dn xs<=N;omega) (fun y D=>J y (bI _ D)) (p.tail fun k _=>rfl) (fun y D=>r y (bI _ D)) j out f (by omega)
  refine ⟨U,s',us,b1,?_,b3,V,b5,b6,fun τ G=>?_⟩
  ·rw [dg,<- b2];exact jA (ms:=[]) ⟨by decide,by decide,by decide,by decide⟩ rfl hS
  ·obtain ⟨c1,B,c2⟩:=b9 τ G;refine ⟨c1,B,.pint ?_⟩;have:ev τ ⟨s.sl,upS s.ar b (eH a),s.fr,s.st⟩=⟨(ev τ s).v,upS (ev τ s).a b (eH a)⟩:=by
    show Ev.mk (env τ s.sl) (env τ (upS s.ar b (eH a)))=Ev.mk _ _;rw [fg,l3];rfl
   rw [<- this];exact c2
 | @cut e e' a b nm xs o hd ih=>
  intro s σ h he Y hl J p r j out f hf;subst he;rw [gB] at hl;rw [dg,aP] at hf;obtain ⟨f,rfl⟩:∃ g,f=g+1:=⟨f - 1,by omega⟩
  obtain ⟨U,s',us,b1,b2,b3,V,b5,⟨σ2,b6,b7,b8⟩,b9⟩:=ih (σ:=σ) h rfl Y (by omega) (fun y D=>J y (bI _ D)) (p.tail fun k _=>rfl) (fun y D=>r y (bI _ D)) j (out++[oG]) f (by omega);refine ⟨U,s',oG::us,b1,?_,b3,V,fun t G=>?_,⟨σ2,b6,b7,by rw [sbL,DN,b8]⟩,fun τ G=>?_⟩
  ·rw [dg,readS,ae (show ¬ (13:Int)=14 by decide),ag rfl,b2,cN];rfl
  ·rcases dK.1 G with rfl|G
   ·exact gT (nm:=⟨#[33]⟩) (ks:=[]) (by decide) (by simp) (fun t G=>(by cases G))
   ·exact b5 t G
  ·obtain ⟨c1,B,c2⟩:=b9 τ G;exact ⟨c1,B,by rw [sbL,DN];exact .cut c2⟩
 | @call e e' op n b nm ks xs o c7 hn h1 hd ih=>
  intro s σ h he Y hl J p r j out f hf;subst he;rw [gB] at hl;rw [dg,aP] at hf;obtain ⟨f,rfl⟩:∃ g,f=g+1:=⟨f - 1,by omega⟩
  have Z:=J _ (bF ..);have c8:n<=4:=Z.2 (by rcases c7 with e|e <;> simp [e]);obtain ⟨C,a1,a2,a3⟩:=z7 (σ:=σ) (a:=s.ar) ks.length rfl h1;obtain ⟨o1,o2⟩:=DA h.ar _ a1;obtain ⟨U,s',us,b1,b2,b3,V,b5,⟨σ2,b6,b7,b8⟩,b9⟩:=ih (σ:=σ) h rfl Y (by omega) (fun y D=>J y (bI _ D)) (p.tail fun k _=>rfl) (fun y D=>r y (bI _ D)) j (out++[fnT nm C]) f (by omega);have a0:=gT (M:=s.fr) Z.1 (by omega) o2;refine ⟨U,s',fnT nm C::us,b1,?_,b3,V,fun t G=>?_,⟨σ2,b6,b7,?_⟩,fun τ G=>?_⟩
  ·have h5:¬ op=14:=by omega
   have h6:¬ op=13:=by omega
   rw [dg,readS,ae h5,ae h6,ag c7,ag (show 0<=n/\n<=4 by omega)];have e:(Ist.mk op n b nm).a.toNat=ks.length:=by show n.toNat=_;omega
   rw [e,Re _ a1,b2,cN];rfl
  ·rcases dK.1 G with rfl|G
   ·exact ⟨cP V _ a0.1,a0.2⟩
   ·exact b5 t G
  ·rw [sbL,i8,b8]
   congr 2
   rw [a2];exact ub b6 C (ix fun t G=>(o2 t G).1)
  ·obtain ⟨c1,B,c2⟩:=b9 τ G;refine ⟨c1,B,?_⟩;rw [sbL,i8];exact .call c7 (by rw [jp,o1];exact hn) (fun i hi=>a3 τ i hi) c2
end
section
open Go Go.RowKit
def CS.sz (s:CS):Int:=s.next+s.code.length
theorem fI (s:CS) (x:Ist):(s.emit x).sz=s.sz+1:=by
 show s.next+((s.code++[x]).length:Nat)=_;rw [bt,CS.sz,lG];omega
theorem zQ (s:CS):s.inc.sz=s.sz+1:=by show s.next+1+(s.code.length:Nat)=_; rw [CS.sz]; omega
theorem PE (s:CS) (n v:Int):(s.put n v).sz=s.sz:=rfl
theorem DC (s:CS) (t:T):s.sz<=(fy s t).sz/\(fy s t).sz<=s.sz+2:=by
 unfold fy;split
 ·rw [fI];omega
 ·split
  ·rw [fI];omega
  ·rw [zQ,fI,PE];omega
theorem K2 (s:CS) (t:T):s.sz<=(cT s t).1.sz/\(cT s t).1.sz<=s.sz+2:=by
 unfold cT;split
 ·show s.sz<=(CS.inc _).sz/\(CS.inc _).sz<=_;rw [zQ,fI];omega
 ·exact DC s t
theorem yT:∀ (ts:List T) (s:CS),s.sz<=(bE s ts).1.sz/\(bE s ts).1.sz<=s.sz+2 * ts.length
 | [],s=>by rw [bE];simp
 | t::ts,s=>by
  rw [bE,aP];have a:=K2 s t;have g:=yT ts (cT s t).1;show s.sz<=(bE (cT s t).1 ts).1.sz/\(bE (cT s t).1 ts).1.sz<=_;omega
theorem qF:∀ (ts:List T) (s:CS),(ts.length:Int)+4 * cQ (bE s ts).2<=4 * bo ts+(bE s ts).2.length
 | [],s=>by rw [bE];simp [cQ,bo]
 | t::ts,s=>by
  rw [bE,bo,aP];have a:=qF ts (cT s t).1;have hc:=dw t;show _+4 * ((cQ ((cT s t).2++(bE (cT s t).1 ts).2):Nat):Int)<=_+(((cT s t).2++(bE (cT s t).1 ts).2).length:Nat)
  rw [fS,bt];have g:4 * ((cQ (cT s t).2:Nat):Int)+1<=4 * bR t+(cT s t).2.length:=by
   unfold cT;split
   ·show 4 * (((bR t).toNat+0:Nat):Int)+1<=4 * bR t+((1:Nat):Int)
    omega
   ·show 4 * ((0:Nat):Int)+1<=4 * bR t+((0:Nat):Int)
    omega
  omega
theorem jg:∀ q:List (T × Int),q.length<=cQ q
 | []=>aY _
 | x::q=>by rw [cQ,aP];have:=dw x.1;have:=jg q;omega
theorem Q5:∀ (f:Nat) (s:CS) (q:List (T × Int)),s.sz<=(fC f s q).sz/\(fC f s q).sz+2 * q.length<=s.sz+8 * cQ q
 | 0,s,q=>by rw [fC];have:=jg q;omega
 | f+1,s,[]=>by rw [fC];simp [cQ]
 | f+1,s,x::q=>by
  rw [fC,cQ,aP];have g:=yT x.1.kids (s.emit ⟨3,x.1.kids.length,x.2,x.1.name⟩);have h:=Q5 f (bE (s.emit ⟨3,x.1.kids.length,x.2,x.1.name⟩) x.1.kids).1 (q++(bE (s.emit ⟨3,x.1.kids.length,x.2,x.1.name⟩) x.1.kids).2);have m:=qF x.1.kids (s.emit ⟨3,x.1.kids.length,x.2,x.1.name⟩);rw [fI] at g;rw [fS,bt] at h;have i:(bR x.1).toNat=1+(bo x.1.kids).toNat:=by
   have:=ch x.1.kids;obtain ⟨a,l⟩:=x;cases a;simp only [bR,T.kids] at this ⊢;omega
  have j:=ch x.1.kids;omega
theorem FD (s:CS) (i:Int) (t:T):s.sz<=(bP s i t).1.sz/\(bP s i t).1.sz<=s.sz+1:=by
 unfold bP;split
 ·show s.sz<=(CS.emit _ _).sz/\(CS.emit _ _).sz<=_;rw [fI];omega
 ·split
  ·show s.sz<=(if 0<=s.at_ t.n then s.emit ⟨1,s.at_ t.n,i,emptyB⟩ else s.put t.n i).sz/\(if 0<=s.at_ t.n then s.emit ⟨1,s.at_ t.n,i,emptyB⟩ else s.put t.n i).sz<=_;split
   ·rw [fI];omega
   ·rw [PE];omega
  ·show s.sz<=s.sz/\s.sz<=_;omega
theorem tM:∀ (ts:List T) (s:CS) (i:Int),s.sz<=(bz s i ts).1.sz/\(bz s i ts).1.sz<=s.sz+ts.length/\((cQ (bz s i ts).2:Nat):Int)<=bo ts/\(bz s i ts).2.length<=ts.length
 | [],s,i=>by rw [bz];simp [cQ,bo]
 | t::ts,s,i=>by
  rw [bz,aP,bo];have l:=FD s i t;obtain ⟨a,g,h,j⟩:=tM ts (bP s i t).1 (i+1);have hc:=dw t;have m:((cQ (bP s i t).2:Nat):Int)<=bR t/\(bP s i t).2.length<=1:=by
   unfold bP;split
   ·show ((0:Nat):Int)<=_/\0<=1;omega
   ·split
    ·show ((0:Nat):Int)<=_/\0<=1;omega
    ·show (((bR t).toNat+0:Nat):Int)<=_/\1<=1;omega
  show s.sz<=(bz (bP s i t).1 (i+1) ts).1.sz/\(bz (bP s i t).1 (i+1) ts).1.sz<=_/\((cQ ((bP s i t).2++(bz (bP s i t).1 (i+1) ts).2):Nat):Int)<=_/\((bP s i t).2++(bz (bP s i t).1 (i+1) ts).2).length<=_;rw [fS,bt];omega
theorem Om:∀ (ts:List T) (vs:List Int) (s:CS),s.sz<=(dd s ts vs).sz/\(dd s ts vs).sz<=s.sz+2 * ts.length
 | [],vs,s=>by rw [dd];simp;all_goals simp
 | t::ts,[],s=>by
  rw [dd]
  ·constructor <;> omega
  all_goals simp
 | t::ts,v::vs,s=>by
  rw [dd,aP];have a:s.sz<=(if t.kind=3 then s.emit ⟨5,v,0,emptyB⟩ else fy s t).sz/\(if t.kind=3 then s.emit ⟨5,v,0,emptyB⟩ else fy s t).sz<=s.sz+2:=by
   split
   ·rw [fI];omega
   ·exact DC s t
  have g:=Om ts vs (if t.kind=3 then s.emit ⟨5,v,0,emptyB⟩ else fy s t);omega
mutual
theorem mE:∀ (t:T) (s:CS),s.sz<=(bn t s).1.sz/\(bn t s).1.sz+4<=s.sz+8 * bR t
 | .mk k n nm ks,s=>by
  rw [bn,bR];have g:=xt ks s;have a:=Om ks (bw ks s).2 (((bw ks s).1.emit ⟨7,ks.length,(bw ks s).1.next,nm⟩).inc);rw [zQ,fI] at a;show s.sz<=(dd _ ks _).sz/\(dd _ ks _).sz+4<=_;omega
theorem xt:∀ (ts:List T) (s:CS),s.sz<=(bw ts s).1.sz/\(bw ts s).1.sz+2 * ts.length<=s.sz+8 * bo ts
 | [],s=>by rw [bw]; simp [bo]
 | t::ts,s=>by
  rw [bw,bo,aP];have hc:=dw t;have a:s.sz<=(if t.kind=3 then bn t s else (s,-1)).1.sz/\(if t.kind=3 then bn t s else (s,-1)).1.sz+2<=s.sz+8 * bR t:=by
   split
   ·have:=mE t s; omega
   ·show s.sz<=s.sz/\s.sz+2<=_; omega
  have g:=xt ts (if t.kind=3 then bn t s else (s,-1)).1;show s.sz<=(bw ts _).1.sz/\(bw ts _).1.sz+_<=_;omega
end
theorem JE (s:CS) (i:Int) (t:T):s.sz<=(gb s i t).sz/\(gb s i t).sz<=s.sz+8 * bR t:=by
 have hc:=dw t;unfold gb;split
 ·rw [fI];omega
 ·split
  ·split
   ·rw [fI];omega
   ·rw [fI,zQ,PE];omega
  ·rw [fI];have:=mE t s;omega
theorem MH:∀ (ts:List T) (s:CS) (i:Int),s.sz<=(eP s i ts).sz/\(eP s i ts).sz<=s.sz+8 * bo ts
 | [],s,i=>by rw [eP];simp [bo]
 | t::ts,s,i=>by
  rw [eP,bo];have a:=JE s i t;have g:=MH ts (gb s i t) (i+1);omega
theorem Nt (s:CS) (g:T):s.sz<=(fM s g).sz/\(fM s g).sz<=s.sz+8 * bR g:=by
 have hc:=dw g;have a:bR g=1+bo g.kids:=by cases g;rw [bR];rfl
 unfold fM;split
 ·rw [fI];omega
 ·rw [fI];have:=MH g.kids s 0;omega
end
section
open Go Go.RowKit
section
def SlM (es:Array MapEntry) (s:CS):Prop:=(∀ e∈es.toList,∃ n:Int,e.key=ee n/\e.val=ee (s.at_ n)/\0<=n/\n<26/\0<=s.at_ n)/\∀ n,0<=n->n<26->0<=s.at_ n->∃ e∈es.toList,e.key=ee n
theorem SlM.find {l:Array MapEntry} {s:CS} (h:SlM l s) {n:Int} (p:0<=n) (q:n<26):(0<=s.at_ n/\∃ j,Instr.findNow (.int .i64) (ee n) l.toList 0=some (some (j,ee (s.at_ n)))) ∨ (¬ 0<=s.at_ n/\Instr.findNow (.int .i64) (ee n) l.toList 0=some none):=by
 rcases oi (n:=n) l.toList 0 (fun e i=>by obtain ⟨m,o,_⟩:=h.1 e i;exact ⟨m,o⟩) with ⟨j,e,i,g,hf⟩|⟨hk,hf⟩
 ·obtain ⟨m,a,r,_,_,t⟩:=h.1 e i;rw [g,Value.int.injEq] at a;rw [r,<- a.2] at hf;exact .inl ⟨by rw [a.2];exact t,j,hf⟩
 ·refine .inr ⟨fun o=>?_,hf⟩;obtain ⟨e,i,g⟩:=h.2 n p q o;exact hk e i g
theorem SlM.push {q:Array MapEntry} {s:CS} (h:SlM q s) (l:s.sl.length=26) {n v:Int} (a:0<=n/\n<26) (hn:¬ 0<=s.at_ n) (r:0<=v) (t:Nat):SlM (q.push { key:=ee n,val:=ee v,born:=t }) (s.put n v):=by
 refine ⟨fun e o=>?_,fun m g i j=>?_⟩
 ·rw [Jv,cU,bM] at o;rcases o with o|rfl
  ·obtain ⟨m,hk,p,g,i,j⟩:=h.1 e o;have:m≠n:=fun e=>by subst e;exact hn j
   exact ⟨m,hk,by rw [iz l a ⟨g,i⟩,ae this];exact p,g,i,by rw [iz l a ⟨g,i⟩,ae this];exact j⟩
  ·exact ⟨n,rfl,by rw [iz l a a,ag rfl],a.1,a.2,by rw [iz l a a,ag rfl];exact r⟩
 ·rw [iz l a ⟨g,i⟩] at j;rw [Jv];by_cases e:m=n
  ·exact ⟨_,gy _ (bM.2 rfl),by rw [e]⟩
  ·rw [ae e] at j;obtain ⟨x,B,hk⟩:=h.2 m g i j;exact ⟨x,gf _ B,hk⟩
def oy (s:CS):List (List Value):=s.code.map Ist.cells
abbrev d6 (cb mb:Nat) (es:Array MapEntry) (ck:Nat) (s:CS) (cv:Value):List Item:=[ei cb #[.map (some mb),ee s.next,cv] iW,.blk mb (.map es ck),aB cv ay 4 (oy s)]
def Ec (cb mb:Nat) (S:ai) (s:CS) (I':List Item) (S':ai):Prop:=S'=S/\∃ es ck cv,I'=d6 cb mb es ck s cv/\SlM es s
theorem R1 (s:CS) (x:Ist):oy (s.emit x)=oy s++[x.cells]:=by unfold oy CS.emit; rw [zA]; rfl
theorem xR (s:CS):(oy s).length=s.code.length:=by unfold oy; rw [ro]
def adS (w:World) (X:List Nat) (S:ai) (b3 cb mb:Nat) (es:Array MapEntry) (ck:Nat) (s:CS) (cv:Value) (x:Ist) (ux my:Value) (w':World):Nat->Prop
 | 0=>Inv w X (d6 cb mb es ck s cv++[.blk b3 (.cells x.cells.toArray ay)]) S w'
 | 1=>∃ g,ux=.slice (some ⟨g,0,none⟩) 1 1/\Inv w X (d6 cb mb es ck s cv++[.blk b3 (.cells x.cells.toArray ay),.blk g (.cells x.cells.toArray ay)]) S w'
 | 2=>Inv w X [.blk cb (.cells #[.map (some mb),.int .i64 s.next,cv] iW),.blk mb (.map es ck),aB my ay 4 (oy (s.emit x)),.blk b3 (.cells x.cells.toArray ay)] S w'
 | _=>Inv w X (d6 cb mb es ck (s.emit x) my++[.blk b3 (.cells x.cells.toArray ay)]) S w'
theorem adS.cv {w:World} {X:List Nat} {S:ai} {b3 a g:Nat} {i:Array MapEntry} {j:Nat} {s:CS} {cv:Value} {x:Ist} {l m:Value} {w':World}:∀ {n:Nat},n<3->adS w X S b3 a g i j s cv x l m w' n->∃ R,Inv w X (ei a #[.map (some g),ee s.next,cv] iW::R) S w'
 | 0,_,h=>⟨_,h⟩
 | 1,_,⟨_,_,h⟩=>⟨_,h⟩
 | 2,_,h=>⟨_,h⟩
 | _+3,hn,_=>absurd hn (by omega)
theorem adS.b3 {w:World} {X:List Nat} {S:ai} {b3 a g:Nat} {i:Array MapEntry} {j:Nat} {s:CS} {cv:Value} {x:Ist} {l m:Value} {w':World}:∀ {n:Nat},adS w X S b3 a g i j s cv x l m w' n->∃ A1 A2 A3 R,Inv w X (A1::A2::A3::.blk b3 (.cells x.cells.toArray ay)::R) S w'
 | 0,h=>⟨_,_,_,_,h⟩
 | 1,⟨_,_,h⟩=>⟨_,_,_,_,h⟩
 | 2,h=>⟨_,_,_,_,h⟩
 | _+3,h=>⟨_,_,_,_,h⟩
theorem Ist.one (x:Ist):∀ u∈x.cells,u.oneCell'=true:=by
 intro u a;simp only [Ist.cells,dK,vR,vY] at a;rcases a with rfl|rfl|rfl|rfl <;> rfl
theorem fq {G M U:Nat} {N:Array MapEntry} {s:CS} {cv:Value} (x:Ist) {S:ai} (hm:SlM N s) (hl:s.code.length<=1000000000) :
  nB EK [hV G,.agg x.cells.toArray] (d6 G M N U s cv) S fun _ I' S'=>Ec G M S (s.emit x) I' S':=by
 intro w p;obtain ⟨X,hX⟩:∃ X,X=cg (d6 G M N U s cv):=⟨_,rfl⟩
 rw [<- hX] at p ⊢;refine qV.2 ?_;dsimp only[qV,bv];refine bH p fun b3 w' p=>?_;refine ⟨fun D QJ GI V ux x9 x8 x7 x6 x5 x4 J=>Fx D 0 [x4=hV G,x5=hV G,x6=hV G,x7=kh G 2,x8=cv,x9=.agg x.cells.toArray,True,True,GI=hV G,QJ=kh G 2,True]/\∃ C:Nat,C<=3/\D 6=decide (1<=C)/\D 7=decide (2<=C)/\D 10=decide (3<=C)/\(D 10=true->D 4=true)/\(adS w X S b3 G M N U s cv x ux V J C),⟨Fx.nil _ _,⟨0,aT _,rfl,rfl,rfl,(aU),p.draw⟩⟩,⟨?_,?_,?_,?_,?_,?_,?_,?_,?_,?_,?_,trivial⟩,?_⟩;all_goals (intro D bp;intros;rename_i QJ GI V ux x9 x8 x7 x6 x5 x4 J Y;have q:=Y.1;obtain ⟨⟨cF,ci,cG,cD,bU,cH,cj,cR,dJ,dQ,cJ,_⟩,⟨C,B,h,l,a,r,t⟩⟩:=Y)
 ·exact ⟨q.set 0 rfl,⟨C,B,h,l,a,r,t⟩⟩
 ·exact ⟨q.set 1 rfl,⟨C,B,h,l,a,r,t⟩⟩
 ·obtain rfl:=ci ‹_›;refine bh ?_;exact ⟨q.set 2 rfl,⟨C,B,h,l,a,r,t⟩⟩
 ·obtain rfl:=cG ‹_›;refine ax qJ ?_;exact ⟨q.set 3 rfl,⟨C,B,h,l,a,r,t⟩⟩
 ·obtain rfl:=cD ‹_›;have Z:=MC a r bp;obtain ⟨R,p⟩:=t.cv Z;refine aG p 0 ql rfl rfl ?_;exact ⟨q.set 4 (by first|assumption|trivial),⟨C,B,h,l,a,(fun _=>rfl),t⟩⟩
 ·obtain ⟨_,_,_,R,p⟩:=t.b3;refine aq p 3 dF rfl rfl ?_;exact ⟨q.set 5 rfl,⟨C,B,h,l,a,r,t⟩⟩
 ·obtain rfl:=cH ‹_›;obtain rfl:C=0:=jv h bp;refine eO t gS rfl (by omega) (by omega) fun g J p=>?_;have t:adS w X S b3 G M N U s cv x (kt g 0 1 1) V J 1:=⟨g,rfl,p⟩
  exact ⟨q.set 6 (by first|assumption|trivial),⟨1,by decide,rfl,(by first|exact l|rfl),(by first|exact a|rfl),r,t⟩⟩
 ·have Dr:=bU ‹_›;have vV:=cj ‹_›;obtain rfl:C=1:=gg h ‹D 6=true› l bp;obtain ⟨g,rfl,p⟩:=t;refine fl p 2 (k:=4) (o:=0) (m:=1) (n:=(oy s).length) (xs:=(oy s).flatten) x.cells gS (by omega) (by rw [Dr];rfl) rfl (fun j u hj=>by rw [p.cellL (i:=4) rfl,cS];simpa using hj) x.one (by rw [xR];omega) (by omega) fun v' J p=>?_;have e:Item.row v' ay 4 ((oy s).length+1) ((oy s).flatten++x.cells)=aB v' ay 4 (oy (s.emit x)):=by rw [R1];exact fO ..
  have p:Inv w X [ei G #[.map (some M),ee s.next,cv] iW,.blk M (.map N U),Item.row v' ay 4 ((oy s).length+1) ((oy s).flatten++x.cells),ei b3 x.cells.toArray ay] S J:=p.pick [true,true,true,true,false];rw [e] at p;have t:adS w X S b3 G M N U s cv x (kt g 0 1 1) v' J 2:=p;exact ⟨q.set 7 (by first|assumption|trivial),⟨2,by decide,(by first|exact h|rfl),rfl,(by first|exact a|rfl),r,t⟩⟩
 ·obtain rfl:=cF ‹_›;refine bh ?_;exact ⟨q.set 8 rfl,⟨C,B,h,l,a,r,t⟩⟩
 ·obtain rfl:=dJ ‹_›;refine ax qJ ?_;exact ⟨q.set 9 rfl,⟨C,B,h,l,a,r,t⟩⟩
 ·obtain rfl:=dQ ‹_›;have Ch:=cR ‹_›;obtain rfl:C=2:=gg l ‹D 7=true› a bp;have p:Inv w X _ S J:=t;have O:=fP (p.its (aB V ay 4 (oy (s.emit x))) (by simp));refine eV p 0 (n:=1) (by rw [O.1];rfl) (by decide +kernel) rfl (by simp) (by rw [O.1];simpa using O.2) fun J p=>?_;rw [O.1] at p;have t:adS w X S b3 G M N U s cv x ux V J 3:=p;exact ⟨q.set 10 trivial,⟨3,by decide,(by first|exact h|rfl),(by first|exact l|rfl),rfl,(fun _=>‹D 4=true›),t⟩⟩
 obtain rfl:C=3:=jD B a ‹D 10=true›;clear h l a;exact ⟨_,_,_,rfl,t.pick [true,true,true,false],Ext.refl _ _ _,rfl,N,U,V,rfl,hm⟩
end
end
section
open Go Go.RowKit
section
variable {P:Program} {w w0:World} {X:List Nat} {L:List Item} {S:ai} {K:Value->World->Prop}
theorem fA {T r m ty:TypeId} {b a:Nat} {q:Array MapEntry} {n:Int} {z v:Value} {ok c:Bool} (J:w.heap[b]?=some (.map q a)) (D:P.underlying T=some (.map r m)) (i:P.underlying r=some (.int .i64))
  (o:gZ P m=some z) (hf:(∃ j,Instr.findNow (.int .i64) (ee n) q.toList 0=some (some (j,v))/\ok=true) ∨ (Instr.findNow (.int .i64) (ee n) q.toList 0=some none/\v=z/\ok=false))
  (hk:K (cond c (.tuple #[v,.bool ok]) v) w):Run P (sOp (.lookup T (.const (.map (some b))) (.const (ee n)) c) ty) w K:=by
 have p:∀ e,(Instr.checkKey e 10000 r (ee n)).run P w=.ok () w:=fun e=>by
  rw [show (10000:Nat)=9999+1 from rfl,Instr.checkKey];simp [run_underlying i]
 obtain ⟨g,t,B⟩:∃ g,P.info? m=some g/\g.zero=some z:=by
  unfold gZ at o;cases h:P.info? m with
  | none=>rw [h] at o;simp at o
  | some g=>rw [h] at o;exact ⟨g,rfl,by simpa using o⟩
 have C:(zeroValue m).run P w=.ok z w:=by simp [zeroValue,typeInfo,t,B]
 refine Run.of ?_ hk;have G:(getObj b).run P w=.ok (.map q a) w:=by simp [getObj,Sem.run,J]
 rcases hf with ⟨j,hf,rfl⟩|⟨hf,rfl,rfl⟩
 ·have l:=i0 (P:=P) (w:=w) i hf;cases c <;> simp [sOp,execOp,ev0,evE,Instr.lookup,run_underlying D,G,p,l]
 ·have l:=i0 (P:=P) (w:=w) i hf;cases c <;> simp [sOp,execOp,ev0,evE,Instr.lookup,run_underlying D,G,p,l,C]
end
section
theorem G0 {f:FuncId} {fn:Func} {cap:nA} {S0 S:ai} {v:Value} {xs:List T} (hf:Tryz.prog.funcs[f]?=some fn) (hn:(fn.name == "runtime.NumGoroutine" || fn.body.isNone)=false) (p:Sle S0 S)
  (h:RdSl S0 4 (RdT S0) v xs) {J:Nat->List Item->Prop} {Fin:List Item->Prop}
  (g:∀ i (_:i<xs.length) (cs:nA) (I:List Item),RdT S0 cs xs[i]->J i I->nB f (.agg cs.toArray::cap) I S fun r I' S'=>S'=S/\∃ b,r=.bool b/\(b=true->Fin I')/\(b=false->J (i+1) I'))
  {I:List Item} (M:J 0 I):nB nb [v,fv f cap] I S fun r I' S'=>S'=S/\∃ k:Int,r=ee k/\(0<=k->Fin I')/\(k<0->J xs.length I'):=by
 intro w a;have h:RdSl S 4 (RdT S0) v xs:=h.mono p fun _ _ h=>h;have o:=h.le;simp only [maxLen] at o;obtain ⟨X,N⟩:∃ X,X=cg I:=⟨_,rfl⟩
 rw [<- N] at a ⊢;refine gC.2 ?_;dsimp only[gC,bv];refine aO h ao ?_;refine ⟨fun i w'=>∃ (j:Nat) (I':List Item),j<=xs.length/\i=ee j/\J j I'/\Inv w X I' S w',fun i _=>xs.length - (intOf i).toNat,⟨0,I,aT _,rfl,M,a⟩,?_⟩;intro O _ _ _ _ _ _ _ _ _ _ _ _ w';rintro ⟨j,I',U,rfl,m,a⟩;refine cd ?_;refine aJ (fun B=>?_) (fun B=>?_)
 ·have l:j<xs.length:=by omega
  refine dj a h ao af l (fun _ _=>RdT.length) fun cs C=>?_;have a:Inv w X ([]++I') S w':=a;refine Run.callVE (A:=[]) hf hn a (g j l cs I' C m) fun v' I2 S2 w'=>?_;rintro ⟨G,b,rfl,q,t⟩ _ a;rw [G] at a;clear G;have a:Inv w X I2 S w':=a;refine aL (fun D=>?_) (fun D=>?_)
  ·exact ⟨_,_,_,rfl,a,Ext.refl _ _ _,rfl,j,rfl,fun _=>q D,fun h=>by omega⟩
  ·refine bL (by omega) ?_;exact ⟨⟨j+1,I2,l,rfl,t D,a⟩,by simp [intOf];omega⟩
 ·have:j=xs.length:=by omega
  subst this;exact ⟨_,_,_,rfl,a,Ext.refl _ _ _,rfl,-1,rfl,fun h=>by omega,fun _=>m⟩
theorem AR {f:FuncId} {fn:Func} {cap:nA} {S0 S:ai} {v:Value} {xs:List T} (hf:Tryz.prog.funcs[f]?=some fn) (hn:(fn.name == "runtime.NumGoroutine" || fn.body.isNone)=false) (j:Sle S0 S)
  (h:RdSl S0 4 (RdT S0) v xs) {J:Nat->List Item->Prop} {Fin:List Item->Prop}
  (a:∀ i (_:i<xs.length) (cs:nA) (I:List Item),RdT S0 cs xs[i]->J i I->nB f (.agg cs.toArray::cap) I S fun r I' S'=>S'=S/\∃ b,r=.bool b/\(b=true->Fin I')/\(b=false->J (i+1) I'))
  {I:List Item} (m:J 0 I):nB kD [v,fv f cap] I S fun r I' S'=>S'=S/\∃ b,r=.bool b/\(b=true->Fin I')/\(b=false->J xs.length I'):=by
 intro w g;obtain ⟨X,t⟩:∃ X,X=cg I:=⟨_,rfl⟩
 rw [<- t] at g ⊢;refine fU.2 ?_;dsimp only[fU,bv];have g:Inv w X ([]++I) S w:=g;refine Run.callE (A:=[]) ma l7 g (G0 hf hn j h a m) fun v' I2 S2 w'=>?_;rintro ⟨o,k,rfl,p,q⟩ _ g;rw [o] at g;refine iK ?_;exact ⟨_,_,_,rfl,g,Ext.refl _ _ _,rfl,_,rfl,fun l=>p (of_decide_eq_true l),fun l=>q (by have:=of_decide_eq_false l;omega)⟩
def StS (S0 S:ai) (sb:Nat) (st:bb):Prop:=∃ mb tv es ck E,S sb=some (.cells #[.map (some mb),tv] E)/\S mb=some (.map es ck)/\KnownM S0 es st
theorem StS.mono {S0 S S':ai} {a:Nat} {st:bb} (h:StS S0 S a st) (g:Sle S S'):StS S0 S' a st:=by
 obtain ⟨i,j,l,m,E,o,p,q⟩:=h;exact ⟨i,j,l,m,E,g _ _ o,g _ _ p,q⟩
theorem StS.find {S0 S:ai} {C:Nat} {N:Nat} {st:bb} (h:StS S0 S C st) {t:T} (hk:t.kind=1) (M:okU N t):∃ g l a m E i ok,S C=some (.cells #[.map (some g),l] E)/\S g=some (.map a m)/\
  ((∃ j,Instr.findNow (.int .i64) (ee t.n) a.toList 0=some (some (j,.agg (List.toArray i)))/\ok=true) ∨ (Instr.findNow (.int .i64) (ee t.n) a.toList 0=some none/\(Value.agg (List.toArray i))=.agg et/\ok=false))/\
  i.length=4/\(∀ x∈i,x.oneCell'=true)/\(ok=true->∃ u,look st t=some u/\RdT S0 i u)/\(ok=false->look st t=none):=by
 obtain ⟨g,l,a,m,E,D,G,O⟩:=h;obtain ⟨U,_⟩:=M.var hk;obtain ⟨j,J⟩:∃ j:Nat,t.n=j:=⟨t.n.toNat,by omega⟩
 have p:look st t=(st[j]?).join:=by rw [look,ag hk,J,dH]
 rw [J,p];rcases O.find j with ⟨q,v,u,cs,hf,rfl,hR,r⟩|⟨B,hf⟩
 ·exact ⟨g,l,a,m,E,cs,true,D,G,.inl ⟨q,hf,rfl⟩,hR.length,hR.one,fun _=>⟨u,by rw [r];rfl,hR⟩,fun h=>by cases h⟩
 ·refine ⟨g,l,a,m,E,[ee 0,ee 0,.string ⟨#[]⟩,nx],false,D,G,.inr ⟨hf,rfl,rfl⟩,rfl,by simp [Value.oneCell'],fun h=>(by cases h),fun _=>?_⟩;cases r:st[j]? with
  | none=>rfl
  | some o=>
   cases o with
   | none=>rfl
   | some u=>exact absurd r (B u)
theorem mq {N:Nat} {st:bb} (hg:Good N st) {t v:T} (hw:eq st t v) (ht:okU N t) {S0 S:ai} {cs:nA} {sb:Nat} (a8:StS S0 S sb st) (h:RdT S0 cs t) :
  nB DQ [hV sb,.agg cs.toArray] [] S fun r I' S'=>S'=S/\I'=[]/\∃ m,r=.agg m.toArray/\RdT S0 m v:=by
 intro w a;have a:Inv w [] [] S w:=a;obtain ⟨r,hr⟩:=hg.rk;refine rc.2 ?_;dsimp only[rc,bv];refine bH a fun b3 w' a=>?_;refine aE a aQ fun G w' a=>?_;have a:Inv w [] [ei b3 cs.toArray ac,ei G et ac] S w':=a;refine ⟨fun w'=>∃ m,RdT S0 m v/\Inv w [] [ei b3 m.toArray ac,ei G et ac] S w',?_,?_⟩
 ·refine ⟨fun w'=>∃ (p:T) (m:nA),eq st p v/\okU N p/\RdT S0 m p/\Inv w [] [ei b3 m.toArray ac,ei G et ac] S w',
   fun w'=>Br b3 r st w',⟨t,cs,hw,ht,h,a⟩,?_⟩
  intro _ _ _ t6 t5 c1 c2 c3 c4 c5 c6 c7 c9 d0 d1 _ _ _ w';rintro ⟨p,m,O,b0,l,a⟩;have a1:=xe a (i:=0) rfl l r st;have M:=l;obtain ⟨kv,rfl,_⟩:=RdT.iff.1 l;refine ah a 0 rfl aW au rfl ?_;refine a9 ?_;refine aJ (fun Y=>?_) (fun Y=>?_)
  ·obtain ⟨mb,tv,es,ck,E,B,ok,b1,b2,Z,a0,a5,a6,b6⟩:=a8.find Y b0;refine ⟨fun D x6 x5 mY oX ux lS p8 DS L7 QJ GI my U=>Fx D 0 [my=hV sb,GI=hV sb,QJ=hV sb,L7=.map (some mb),DS=kh b3 1,p8=ee p.n,lS=.tuple #[.agg B.toArray,.bool ok],ux=.tuple #[.agg B.toArray,.bool ok],oX=.agg B.toArray,mY=.bool ok,True,True,x6=.bool ok]/\∃ o,(D 10=true->x5=hV o)/\(D 11=true->D 10=true)/\Inv w [] ([ei b3 (ku p kv) ac,ei G et ac]++cond (D 10) [ei o (cond (D 11) B.toArray et) ac] []) S U,⟨Fx.nil _ _,⟨0,aU,aU,a.draw⟩⟩,⟨?_,?_,?_,?_,?_,?_,?_,?_,?_,?_,?_,?_,?_,trivial⟩,?_⟩;all_goals (intro D bp;intros;rename_i x6 x5 mY oX ux lS p8 DS L7 QJ GI my U a4;have j:=a4.1;obtain ⟨⟨cF,ci,cG,cD,bU,cH,cj,cR,dJ,dQ,cJ,dv,eG,_⟩,⟨o,q,g,a⟩⟩:=a4)
   ·exact ⟨j.set 0 rfl,⟨o,q,g,a⟩⟩
   ·obtain rfl:=cF ‹_›;refine bh ?_;exact ⟨j.set 1 rfl,⟨o,q,g,a⟩⟩
   ·obtain rfl:=ci ‹_›;refine ax CN ?_;exact ⟨j.set 2 rfl,⟨o,q,g,a⟩⟩
   ·obtain rfl:=cG ‹_›;refine eD (by decide +kernel) (by rw [a.cellS b1];rfl) ?_;exact ⟨j.set 3 rfl,⟨o,q,g,a⟩⟩
   ·refine ax aR ?_;exact ⟨j.set 4 rfl,⟨o,q,g,a⟩⟩
   ·obtain rfl:=bU ‹_›;refine aG a 0 au rfl rfl ?_;exact ⟨j.set 5 rfl,⟨o,q,g,a⟩⟩
   ·obtain rfl:=cD ‹_›;obtain rfl:=cH ‹_›;refine fA (ok:=ok) (v:=.agg B.toArray) (a.pub _ _ b2).1 cX dS aQ Z ?_;exact ⟨j.set 6 rfl,⟨o,q,g,a⟩⟩
   ·obtain rfl:=cj ‹_›;exact ⟨j.set 7 rfl,⟨o,q,g,a⟩⟩
   ·obtain rfl:=cR ‹_›;refine aA rfl ?_;exact ⟨j.set 8 rfl,⟨o,q,g,a⟩⟩
   ·obtain rfl:=cR ‹_›;refine aA rfl ?_;exact ⟨j.set 9 rfl,⟨o,q,g,a⟩⟩
   ·have b7:D 11=false:=bA.2 fun h=>by rw [g h] at bp;cases bp
    rw [bp] at a;refine aE a aQ fun o U a=>?_;have q:=fun (_:aF D 10 10=true)=>(rfl:Value.pointer (some ⟨o,0,none⟩)=_)
    have g:=fun (_:aF D 10 11=true)=>(rfl:aF D 10 10=true)
    have a:Inv w [] ([ei b3 (ku p kv) ac,ei G et ac]++cond true [ei o (cond (D 11) B.toArray et) ac] []) S U:=by rw [b7];exact a
    exact ⟨j.set 10 (by first|assumption|trivial),⟨o,q,g,a⟩⟩
   ·have xg:=cJ ‹_›;obtain rfl:=dJ ‹_›;have q5:=q ‹D 10=true›;subst q5;rw [bp,‹D 10=true›] at a;refine aj a 2 rfl af (by simpa using a0) rfl (by simpa using a5) fun U a=>?_;have g:=fun (_:aF D 11 11=true)=>‹D 10=true›;have a:Inv w [] ([ei b3 (ku p kv) ac,ei G et ac]++cond (D 10) [ei o (cond true B.toArray et) ac] []) S U:=by rw [‹D 10=true›];exact a
    exact ⟨j.set 11 trivial,⟨o,q,g,a⟩⟩
   ·obtain rfl:=dQ ‹_›;exact ⟨j.set 12 rfl,⟨o,q,g,a⟩⟩
   obtain ⟨rfl,rfl,rfl,rfl,rfl,rfl,rfl,rfl,rfl,rfl,xg,_,rfl,_⟩:=j.all;have C3:D 10=true:=by assumption
   have qb:D 11=true:=by assumption
   clear j cF ci cG cD bU cH cj cR dJ dQ cJ dv eG;have q5:=q C3;subst q5;rw [C3,qb] at a;have a:Inv w [] [ei b3 (ku p kv) ac,ei G et ac,ei o B.toArray ac] S U:=a;refine c8 ?_;refine aL (fun hb=>?_) (fun hb=>?_)
   ·have a2:ok=false:=by simpa using hb
    have J:=b6 a2;have hv:v=p:=by
     cases O with
     | stop _=>rfl
     | step h1 _=>rw [h1] at J;cases J
    subst hv;exact ⟨_,M,a.pick [true,true,false]⟩
   ·have a2:ok=true:=by simpa using hb
    obtain ⟨u,J,a7⟩:=a6 a2;have b8:eq st u v:=by
     cases O with
     | stop h0=>rw [J] at h0;cases h0
     | step h1 h2=>rw [J,bj] at h1;rw [h1];exact h2
    refine aq a 2 af rfl (by simpa using a0) ?_;refine aj a 0 rfl af (by simpa using a0) rfl (by simpa using a5) fun w' a=>?_;have a:Inv w [] [ei b3 B.toArray ac,ei G et ac] S w':=a.pick [true,true,false];refine ⟨⟨u,B,b8,(hg.look_ok J).1,a7,a⟩,?_⟩;have C:=xe a (i:=0) rfl a7 r st;show Br b3 r st w'<Br b3 r st _;have b9:(look st p).isSome=true:=by rw [J];rfl
    rw [a1,C,ag b9];split
    ·rename_i V
     obtain ⟨u2,V⟩:=Gy.1 V;have:=hr _ u (dU.1 J).2 u.n.toNat (by rw [kw (dU.1 V).1];exact bM.2 rfl);omega
    ·omega
  ·have hv:v=p:=by
    cases O with
    | stop _=>rfl
    | step h1 _=>exact absurd (dU.1 h1).1 Y
   subst hv;exact ⟨_,M,a⟩
 ·intro _ _ _ _ _ _ _ _ _ _ _ _ _ _ _ _ _ _ w';rintro ⟨m,l,a⟩;have a3:=l.length;refine aq a 0 af rfl (by simpa using a3) ?_;refine aj a 1 rfl af (by simpa using a3) rfl (by simpa using l.one) fun w' a=>?_;refine be a 1 af rfl (by simpa using a3) ?_;exact ⟨_,_,_,rfl,a.nil,Ext.refl _ _ _,rfl,rfl,_,rfl,l⟩
def MetM (es:Array MapEntry) (met:Nat->Prop):Prop:=(∀ e∈es.toList,∃ n:Nat,e.key=ee n/\e.val=.bool true/\met n)/\∀ n,met n->∃ e∈es.toList,e.key=ee (n:Nat)
theorem MetM.find {l:Array MapEntry} {g:Nat->Prop} (h:MetM l g) (n:Nat):(g n/\∃ j,Instr.findNow (.int .i64) (ee n) l.toList 0=some (some (j,.bool true))) ∨ (¬ g n/\Instr.findNow (.int .i64) (ee n) l.toList 0=some none):=by
 rcases oi (n:=n) l.toList 0 (fun e i=>by obtain ⟨m,hk,_⟩:=h.1 e i;exact ⟨m,hk⟩) with ⟨j,e,i,hk,hf⟩|⟨hk,hf⟩
 ·obtain ⟨m,a,p,o⟩:=h.1 e i;rw [hk] at a;simp only [Value.int.injEq,v6] at a;have:n=m:=by omega
  subst this;rw [p] at hf;exact .inl ⟨o,j,hf⟩
 ·refine .inr ⟨fun o=>?_,hf⟩;obtain ⟨e,i,a⟩:=h.2 n o;exact hk e i a
theorem MetM.push {j:Array MapEntry} {g:Nat->Prop} (h:MetM j g) (n:Nat) (l:Nat):MetM (j.push { key:=ee n,val:=.bool true,born:=l }) (fun m=>g m ∨ m=n):=by
 refine ⟨fun e a=>?_,fun m i=>?_⟩
 ·rw [Jv] at a;rcases cU.1 a with a|a
  ·obtain ⟨m,hk,o,i⟩:=h.1 e a;exact ⟨m,hk,o,.inl i⟩
  ·simp at a;subst a;exact ⟨n,rfl,rfl,.inr rfl⟩
 ·rw [Jv];rcases i with i|rfl
  ·obtain ⟨x,p,hk⟩:=h.2 m i;exact ⟨x,gf _ p,hk⟩
  ·exact ⟨_,gy _ (bM.2 rfl),rfl⟩
theorem MetM.empty:MetM #[] (fun _=>False):=⟨fun e a=>by simp at a,fun n h=>h.elim⟩
theorem Ie {st:bb} {r:Nat->Nat} (p:∀ (n:Nat) (u:T),st[n]?=some (some u)->∀ m∈vT u,r m<r n) {t v:T} (q:eq st t v):∀ u,look st t=some u->∀ y∈vT v,r y<r t.n.toNat:=by
 induction q with
 | stop h=>intro u i;rw [h] at i;cases i
 | step B g C=>
  rename_i t u v
  intro G _ y j;have l:=p _ u (dU.1 B).2;cases a:look st u with
  | none=>
   have:v=u:=by
    cases g with
    | stop _=>rfl
    | step o _=>rw [o] at a;cases a
   subst this;exact l y j
  | some D=>
   have J:=C D a y j;have o:=l u.n.toNat (by rw [kw (dU.1 a).1];exact bM.2 rfl);omega
theorem MW {N:Nat} {st:bb} {t v:T} (h:Good N st) (a:eq st t v) (g:okU N t):okU N v:=by
 induction a with
 | stop=>exact g
 | step i _ j=>exact j (h.look_ok i).1
theorem UT {st:bb} {r:Nat->Nat} (g:∀ (n:Nat) (u:T),st[n]?=some (some u)->∀ m∈vT u,r m<r n) {a c:Nat} (h:Rch st a c):r c<=r a:=by
 induction h with
 | refl=>exact aY _
 | step i j _ l=>have:=g _ _ i _ j;omega
theorem OR {st:bb} {t v:T} (m:eq st t v):∀ u,look st t=some u->∀ y∈vT v,Rch st t.n.toNat y:=by
 induction m with
 | stop h=>intro u i;rw [h] at i;cases i
 | step l g o=>
  rename_i t u v
  intro r _ y j;cases a:look st u with
  | none=>
   have:v=u:=by
    cases g with
    | stop _=>rfl
    | step p _=>rw [p] at a;cases a
   subst this;exact .step (dU.1 l).2 j (.refl y)
  | some q=>exact .step (dU.1 l).2 (by rw [kw (dU.1 a).1];exact bM.2 rfl) (o q a y j)
def OC (st:bb) (sb n:Nat) (t:T):Prop:=∀ (S0 S:ai) (cs:List Value) (mm ck:Nat) (es:Array MapEntry) (met:Nat->Prop),Sle S0 S->StS S0 S sb st->RdT S0 cs t->MetM es met->(∀ m,met m->(∃ x∈vT t,Rch st x m)->¬ Rch st m n)->
 Tri Tryz.prog Bb [hV sb,ee n,.agg cs.toArray,.map (some mm)] [.blk mm (.map es ck)] S fun r I' S'=>S'=S/\∃ es' ck',I'=[.blk mm (.map es' ck')]/\
  ((gA st n t/\r=.bool true) ∨ (¬ gA st n t/\r=.bool false/\∃ met',MetM es' met'/\(∀ m,met m->met' m)/\∀ m,met' m->met m ∨ ¬ Rch st m n))
theorem F4 {st:bb} {D n:Nat} {t:T} (G:OC st D n t) {S0 S:ai} {cs:nA} {o C O U V:Nat} {E4 E5 E7:TypeId} {p:Array MapEntry} {g:Nat->Prop} (J:Sle S0 S) (M:StS S0 S D st) (h:RdT S0 cs t) (Y:MetM p g)
  (q:∀ m,g m->(∃ x∈vT t,Rch st x m)->¬ Rch st m n) (Z:S O=some (.cells #[hV D] E4)) (h5:S U=some (.cells #[ee n] E5)) (h7:S V=some (.cells #[.map (some o)] E7)) :
  nB vE [.agg cs.toArray,hV O,hV U,hV V] [.blk o (.map p C)] S fun r I' S'=>S'=S/\∃ j l,I'=[.blk o (.map j l)]/\
  ((gA st n t/\r=.bool true) ∨ (¬ gA st n t/\r=.bool false/\∃ i,MetM j i/\(∀ m,g m->i m)/\∀ m,i m->g m ∨ ¬ Rch st m n)):=by
 intro w a;have N:=h.length;obtain ⟨X,hX⟩:∃ X,X=cg [Item.blk o (.map p C)]:=⟨_,rfl⟩
 rw [<- hX] at a ⊢;refine mc.2 ?_;dsimp only[mc,vg];refine bH a fun b1 w' a=>?_;have a:Inv w X ([ei b1 cs.toArray ac]++[.blk o (.map p C)]) S w':=a.perm (List.Perm.swap ..);refine eD jB (by rw [a.cellS Z];rfl) ?_;refine eD au (by rw [a.cellS h5];rfl) ?_;refine aq a 0 af rfl (by simpa using N) ?_;refine eD (by decide +kernel) (by rw [a.cellS h7];rfl) ?_;refine Run.callE ki jU a (G S0 S cs o C p g J M h Y q) fun v' I' S' w'=>?_;rintro ⟨eS,j,l,rfl,B⟩ _ a;rw [eS] at a;exact ⟨_,_,_,rfl,a.pick [false,true],Ext.refl _ _ _,rfl,j,l,rfl,B⟩
theorem NG {N:Nat} {st:bb} (hg:Good N st) {sb n:Nat} (hn:∀ u,st[n]?≠some (some u)) (f0:n<1000000000) {t v:T} (ho:okU N t) (V:eq st t v)
  (hv:t.kind=1->v.kind≠1->OC st sb n v) (hk:t.kind≠1->∀ x∈t.kids,OC st sb n x):OC st sb n t:=by
 intro S0 S cs B U es Y c5 c6 h a4 a7 w a;have f4:=h.length;obtain ⟨X,hX⟩:∃ X,X=cg [Item.blk B (.map es U)]:=⟨_,rfl⟩
 rw [<- hX] at a ⊢;have h0:=h;obtain ⟨kv,rfl,_,_,_,e5⟩:=RdT.iff.1 h;refine nM.2 ?_;dsimp only[nM,vg];refine bH a fun b4 w' a=>?_;refine bH a fun b5 w' a=>?_;refine bH a fun b6 w' a=>?_;refine bH a fun b7 w' a=>?_;have a:Inv w X [.blk B (.map es U),.blk b4 (.cells #[.pointer (some ⟨sb,0,none⟩)] mD),.blk b5 (.cells #[.int .i64 n] bV),.blk b6 (.cells #[.int .i64 t.kind,.int .i64 t.n,.string t.name,kv] ac),.blk b7 (.cells #[.map (some B)] jP)] S w':=a;refine ah a 3 rfl aW au rfl ?_;refine a9 ?_;refine aJ (fun a0=>?_) (fun a0=>?_)
 ·obtain ⟨f3,_⟩:=ho.var a0;obtain ⟨j,hj⟩:∃ j:Nat,t.n=j:=⟨t.n.toNat,by omega⟩
  have a1:vT t=[j]:=by rw [kw a0,hj,dH]
  have d3:gZ Tryz.prog Pn=some (.bool false):=by kernel_rfl
  have c9:Tryz.prog.underlying jP=some (.map bV Pn):=by kernel_rfl
  refine aG a 4 (by decide +kernel) rfl rfl ?_;refine ah a 3 rfl aR au rfl ?_;rw [hj] at a ⊢;rcases a4.find j with ⟨d9,q,hf⟩|⟨d9,hf⟩
  ·refine fA (c:=false) (ok:=true) (v:=.bool true) (a.its (.blk B (.map es U)) (by simp)) c9 dS d3 (.inl ⟨q,hf,rfl⟩) ?_;refine aL (fun _=>?_) (fun hb=>by cases hb);have l:¬ gA st n t:=by
    rintro ⟨x,C,hr⟩;have d4:=C;rw [a1,bM] at d4;subst d4;exact a7 x d9 ⟨x,C,.refl x⟩ hr
   exact ⟨_,_,_,rfl,a.pick [true,false,false,false,false],Ext.refl _ _ _,rfl,es,U,rfl,.inr ⟨l,rfl,Y,a4,fun _ h=>h,fun _ h=>.inl h⟩⟩
  refine fA (c:=false) (ok:=false) (v:=.bool false) (a.its (.blk B (.map es U)) (by simp)) c9 dS d3 (.inr ⟨hf,rfl,rfl⟩) ?_;refine aL (fun hb=>by cases hb) (fun _=>?_);refine aG a 4 (by decide +kernel) rfl rfl ?_;refine ah a 3 rfl aR au rfl ?_;refine pA a 0 c9 dS rfl hf fun w' a=>?_;have a2:=a4.push j U;generalize e0:es.push { key:=.int .i64 (j:Int),val:=.bool true,born:=U }=es2 at a2;rw [e0] at a;have a:Inv w X [.blk B (.map es2 (U+1)),.blk b4 (.cells #[.pointer (some ⟨sb,0,none⟩)] mD),.blk b5 (.cells #[.int .i64 n] bV),.blk b6 (.cells #[.int .i64 t.kind,.int .i64 j,.string t.name,kv] ac),.blk b7 (.cells #[.map (some B)] jP)] S w':=a;refine aG a 1 jB rfl rfl ?_;refine aq a 3 af rfl rfl ?_;rw [hj] at h0;refine Run.call0 js jr a (mq hg V ho c6 h0) fun v' I' S' w'=>?_;rintro ⟨eS,rfl,f1,rfl,a5⟩ _ a;rw [eS] at a;clear eS;have d6:=a5.length;refine aE a aQ fun b9 w' a=>?_;have a:Inv w X [.blk B (.map es2 (U+1)),.blk b4 (.cells #[.pointer (some ⟨sb,0,none⟩)] mD),.blk b5 (.cells #[.int .i64 n] bV),.blk b6 (.cells #[.int .i64 t.kind,.int .i64 j,.string t.name,kv] ac),.blk b7 (.cells #[.map (some B)] jP),.blk b9 _] S w':=a;refine aj a 5 rfl af (by simpa using d6) rfl (by simpa using a5.one) fun w' a=>?_;have d7:=a5;obtain ⟨e6,rfl,_⟩:=RdT.iff.1 a5;have a:Inv w X [.blk B (.map es2 (U+1)),.blk b4 (.cells #[.pointer (some ⟨sb,0,none⟩)] mD),.blk b5 (.cells #[.int .i64 n] bV),.blk b6 (.cells #[.int .i64 t.kind,.int .i64 j,.string t.name,kv] ac),.blk b7 (.cells #[.map (some B)] jP),.blk b9 (.cells #[.int .i64 v.kind,.int .i64 v.n,.string v.name,e6] ac)] S w':=a;have p:=Uf V hn;have c3:∀ m,(Y m ∨ m=j)->¬ gA st n t->Y m ∨ ¬ Rch st m n:=by
   rintro m (D|rfl) l
   ·exact .inl D
   ·exact .inr fun hr=>l ⟨m,by rw [a1]; exact bM.2 rfl,hr⟩
  refine ah a 5 rfl aW au rfl ?_;refine a9 ?_;refine aJ (fun O=>?_) (fun O=>?_)
  ·refine ah a 5 rfl aR au rfl ?_;refine aG a 2 au rfl rfl ?_;refine a9 ?_;have c4:gA st n v↔v.n.toNat=n:=by
    have d0:=tS.1 (ij V) O;constructor
    ·rintro ⟨x,C,hr⟩;rw [kw O,bM] at C;subst C;cases hr with
     | refl=>rfl
     | step o _ _=>
      rcases d0 with e|e
      ·rw [e] at o; cases o
      ·rw [e] at o; cases o
    ·intro e;exact ⟨n,by rw [kw O,e]; exact bM.2 rfl,.refl n⟩
   have e9:0<=v.n:=by
    exact ((MW hg V ho).var O).1
   have G:decide (v.n=(n:Int))=decide (v.n.toNat=n):=by
    rw [sD,bK,bK];omega
   rw [G];refine ⟨_,_,_,rfl,a.pick [true,false,false,false,false,false],Ext.refl _ _ _,rfl,es2,U+1,rfl,?_⟩;by_cases e:v.n.toNat=n
   ·left;exact ⟨p.2 (c4.2 e),by rw [aD e]⟩
   ·right;have l:¬ gA st n t:=fun h=>e (c4.1 (p.1 h));exact ⟨l,by rw [aM e],_,a2,fun m D=>.inl D,fun m D=>c3 m D l⟩
  ·refine aG a 1 jB rfl rfl ?_;refine aG a 2 au rfl rfl ?_;refine aq a 5 af rfl rfl ?_;refine aG a 4 (by decide +kernel) rfl rfl ?_;have a:Inv w X ([.blk b4 (.cells #[.pointer (some ⟨sb,0,none⟩)] mD)]++[.blk B (.map es2 (U+1))]) S w':=(a.pick [true,true,false,false,false,false]).perm (List.Perm.swap ..);have e7:∃ u,look st t=some u:=by
    cases hl:look st t with
    | some u=>exact ⟨u,rfl⟩
    | none=>
     have:v=t:=by
      cases V with
      | stop _=>rfl
      | step o _=>rw [o] at hl; cases hl
     rw [this] at O;exact absurd a0 O
   obtain ⟨u,hl⟩:=e7;obtain ⟨rk,d2⟩:=hg.rk;have e8:=Ie d2 V u hl;have a3:∀ m,(Y m ∨ m=j)->(∃ x∈vT v,Rch st x m)->¬ Rch st m n:=by
    rintro m (D|rfl) ⟨x,C,hr⟩
    ·refine a7 m D ⟨j,by rw [a1]; exact bM.2 rfl,?_⟩;have o:=OR V u hl x C;rw [hj,dH] at o;exact o.trans hr
    ·exfalso;have o:=e8 x C;have h2:=UT d2 hr;rw [hj,dH] at o;omega
   refine Run.callE ki jU a (hv a0 O S0 S _ B (U+1) es2 _ c5 c6 d7 a2 a3) fun v' I' S' w'=>?_;rintro ⟨eS,b8,c1,rfl,G⟩ _ a;rw [eS] at a;refine ⟨_,_,_,rfl,a.pick [false,true],Ext.refl _ _ _,rfl,b8,c1,rfl,?_⟩;rcases G with ⟨o,rfl⟩|⟨o,rfl,b3,d1,h2,h3⟩
   ·exact .inl ⟨p.2 o,rfl⟩
   ·have l:¬ gA st n t:=fun h=>o (p.1 h);refine .inr ⟨l,rfl,b3,d1,fun m D=>h2 m (.inl D),fun m D=>?_⟩;rcases h3 m D with h4|h4
    ·exact c3 m h4 l
    ·exact .inr h4
 ·refine ah a 3 rfl az aw rfl ?_;refine vN ?_;have a1:vT t=vTL t.kids:=xh a0;have a:Inv w X ([.blk B (.map es U)]++bO [(b4,.cells #[.pointer (some ⟨sb,0,none⟩)] mD),(b5,.cells #[.int .i64 n] bV),(b7,.cells #[.map (some B)] jP)]) S w':=a.pick [true,true,true,false,true];obtain ⟨S1,b1,b2,b0,c8⟩:=Inv.lendAll _ a;have h4:=b2 _ (bF ..);have h5:=b2 _ (bI _ (bF ..));have h7:=b2 _ (bI _ (bI _ (bF ..)));have b0:Inv w X ([]++[.blk B (.map es U)]) S1 w':=b0;refine Run.callE (A:=[]) gX gY b0 (AR uo ut (c5.trans b1) e5
   (J:=fun i I=>∃ r M g,I=[.blk B (.map r M)]/\MetM r g/\(∀ m,Y m->g m)/\(∀ m,g m->Y m ∨ ¬ Rch st m n)/\∀ k (_:k<t.kids.length),k<i->¬ gA st n t.kids[k])
   (Fin:=fun I=>∃ r M,I=[.blk B (.map r M)]/\gA st n t) ?_ ⟨es,U,Y,rfl,a4,fun _ h=>h,fun _ h=>.inl h,fun k _ h=>by omega⟩) fun v' I2 S2 w'=>?_
  ·rintro i hi cs I e1 ⟨r,M,g,rfl,c7,a8,a6,Z⟩;have a3:∀ m,g m->(∃ x∈vT t.kids[i],Rch st x m)->¬ Rch st m n:=by
    rintro m D ⟨x,C,hr⟩;rcases a6 m D with o|o
    ·exact a7 m o ⟨x,by rw [a1]; exact qE.2 ⟨_,cO hi,C⟩,hr⟩
    ·exact o
   intro w1 b0;refine (F4 (hk a0 _ (cO hi)) (c5.trans b1) (c6.mono b1) e1 c7 a3 h4 h5 h7 w1 b0).mono ?_;rintro e w2 ⟨v',I',S',rfl,e2,hE,hS,b8,c1,rfl,G⟩;refine ⟨_,_,_,rfl,e2,hE,hS,?_⟩;rcases G with ⟨o,rfl⟩|⟨o,rfl,b3,d1,h2,h3⟩
   ·obtain ⟨x,C,hr⟩:=o;exact ⟨true,rfl,fun _=>⟨b8,c1,rfl,x,by rw [a1]; exact qE.2 ⟨_,cO hi,C⟩,hr⟩,fun e=>by cases e⟩
   ·refine ⟨false,rfl,fun e=>(by cases e),fun _=>⟨b8,c1,b3,rfl,d1,fun m D=>h2 m (a8 m D),fun m D=>?_,fun k c2 f2=>?_⟩⟩
    ·rcases h3 m D with h4|h4
     ·exact a6 m h4
     ·exact .inr h4
    ·by_cases e:k=i
     ·subst e; exact o
     ·exact Z k c2 (by omega)
  rintro ⟨eS,b,rfl,e3,e4⟩ _ a;rw [eS] at a;have a:Inv w X I2 S1 w':=a;have a:=c8 _ _ a;cases b with
  | true=>
   obtain ⟨r,M,rfl,p⟩:=e3 rfl;exact ⟨_,_,_,rfl,a.sub (gV _ _),Ext.refl _ _ _,rfl,r,M,rfl,.inl ⟨p,rfl⟩⟩
  | false=>
   obtain ⟨r,M,g,rfl,c7,a8,a6,Z⟩:=e4 rfl;have l:¬ gA st n t:=by
    rintro ⟨x,C,hr⟩;rw [a1] at C;obtain ⟨y,hy,C⟩:=qE.1 C;obtain ⟨k,c2,rfl⟩:=HE.1 hy;exact Z k c2 c2 ⟨x,C,hr⟩
   exact ⟨_,_,_,rfl,a.sub (gV _ _),Ext.refl _ _ _,rfl,r,M,rfl,.inr ⟨l,rfl,g,c7,a8,a6⟩⟩
theorem Kr {N:Nat} {st:bb} (r:Good N st) {Z n:Nat} (hn:∀ u,st[n]?≠some (some u)) (C:n<1000000000):∀ t:T,okU N t->OC st Z n t:=by
 obtain ⟨rk,U⟩:=r.rk;have q:∀ (m:Nat) (a:T),(∀ x∈vT a,∀ u,st[x]?=some (some u)->rk x<m)->okU N a->OC st Z n a:=by
  intro m;induction m using Nat.strongRecOn with
  | _ m Y=>
   refine T.ind fun k D s ks G hr j=>?_;obtain ⟨v,h⟩:=QR r (.mk k D s ks);refine NG r hn C j h (fun g o=>?_) (fun g x i=>?_)
   ·cases B:look st (.mk k D s ks) with
    | none=>
     have:v=.mk k D s ks:=by
      cases h with
      | stop _=>rfl
      | step h1 _=>rw [h1] at B;cases B
     rw [this] at o;exact absurd g o
    | some u=>
     have J:=(dU.1 B).2;have V:=hr _ (by rw [kw g];exact bM.2 rfl) u J;exact Y _ V v (fun x i _ _=>Ie U h u B x i) (MW r h j)
   ·exact G x i (fun y hy u J=>hr y (by rw [xh g];exact qE.2 ⟨x,i,hy⟩) u J) (iQ j.kids x i)
 have p:∀ l:List Nat,∃ M,∀ m∈l,rk m<M:=by
  intro l;induction l with
  | nil=>exact ⟨0,by simp⟩
  | cons x l G=>
   obtain ⟨M,p⟩:=G;refine ⟨M+rk x+1,fun m O=>?_⟩;rcases dK.1 O with rfl|O
   ·omega
   ·have:=p m O;omega
 intro t j;obtain ⟨M,p⟩:=p (vT t);exact q M t (fun x i _ _=>p x i) j
end
end
section
open Go Go.RowKit
section
theorem Ka {w:World} {K:Value->World->Prop} {o:Int} (hk:K (.agg (Ist.cells ⟨o,0,0,emptyB⟩).toArray) w):Run Tryz.prog (cr ay [(0,ee o)]) w K:=by
 refine Run.of (v:=.agg (Ist.cells ⟨o,0,0,emptyB⟩).toArray) (w':=w) ?_ hk;unfold cr;rw [Sem.run_bind,run_build w ay _ #[ee o,ee 0,ee 0,.string ⟨#[]⟩] (by kernel_rfl),Result.andThen_ok];rfl
theorem oz {w:World} {K:Value->World->Prop} {o a:Int} (hk:K (.agg (Ist.cells ⟨o,a,0,emptyB⟩).toArray) w):Run Tryz.prog (cr ay [(0,ee o),(1,ee a)]) w K:=by
 refine Run.of (v:=.agg (Ist.cells ⟨o,a,0,emptyB⟩).toArray) (w':=w) ?_ hk;unfold cr;rw [Sem.run_bind,run_build w ay _ #[ee o,ee a,ee 0,.string ⟨#[]⟩] (by kernel_rfl),Result.andThen_ok];rfl
theorem lZ {w:World} {K:Value->World->Prop} {o a b:Int} (hk:K (.agg (Ist.cells ⟨o,a,b,emptyB⟩).toArray) w):Run Tryz.prog (cr ay [(0,ee o),(1,ee a),(2,ee b)]) w K:=by
 refine Run.of (v:=.agg (Ist.cells ⟨o,a,b,emptyB⟩).toArray) (w':=w) ?_ hk;unfold cr;rw [Sem.run_bind,run_build w ay _ #[ee o,ee a,ee b,.string ⟨#[]⟩] (by kernel_rfl),Result.andThen_ok];rfl
theorem Lu {w:World} {K:Value->World->Prop} {o a b:Int} {nm:ByteArray} (hk:K (.agg (Ist.cells ⟨o,a,b,nm⟩).toArray) w):Run Tryz.prog (cr ay [(0,ee o),(1,ee a),(2,ee b),(3,.string nm)]) w K:=by
 refine Run.of (v:=.agg (Ist.cells ⟨o,a,b,nm⟩).toArray) (w':=w) ?_ hk;unfold cr;rw [Sem.run_bind,run_build w ay _ #[ee o,ee a,ee b,.string nm] (by kernel_rfl),Result.andThen_ok];rfl
theorem Vh {w:World} {K:Value->World->Prop} {o a:Int} {nm:ByteArray} (hk:K (.agg (Ist.cells ⟨o,a,0,nm⟩).toArray) w):Run Tryz.prog (cr ay [(0,ee o),(1,ee a),(3,.string nm)]) w K:=by
 refine Run.of (v:=.agg (Ist.cells ⟨o,a,0,nm⟩).toArray) (w':=w) ?_ hk;unfold cr;rw [Sem.run_bind,run_build w ay _ #[ee o,ee a,ee 0,.string nm] (by kernel_rfl),Result.andThen_ok];rfl
theorem qL {g h i:Nat} {j:Array MapEntry} {s:CS} {cv:Value} {S:ai} (m:0<=s.next/\s.next<=1000000000) :
  nB Du [hV g] (d6 g h j i s cv) S fun r I' S'=>S'=S/\r=ee s.next/\I'=d6 g h j i s.inc cv:=by
 intro w a;obtain ⟨X,l⟩:∃ X,X=cg (d6 g h j i s cv):=⟨_,rfl⟩
 rw [<- l] at a ⊢;refine pv.2 ?_;dsimp only[pv,bd];refine bh ?_;refine ah a 0 rfl qq au rfl ?_;refine bL (by omega) ?_;refine bh ?_;refine cq a 0 rfl qq au rfl rfl rfl fun w' a=>?_;have a:Inv w X (d6 g h j i s.inc cv) S w':=a;refine bh ?_;refine ah a 0 rfl qq au rfl ?_;refine jl (by show -9223372036854775808<=s.next+1 - 1/\_;show _/\s.next+1 - 1<=_;omega) ?_;have e:s.inc.next - 1=s.next:=by show s.next+1 - 1=s.next;omega
 rw [e];exact ⟨_,_,_,rfl,a,Ext.refl _ _ _,rfl,rfl,rfl⟩
def atV (s:CS) (n:Int):Int:=if 0<=s.at_ n then s.at_ n else 0
theorem SlM.look {g:Array MapEntry} {s:CS} (h:SlM g s) {n:Int} (i:0<=n) (l:n<26):(∃ j,Instr.findNow (.int .i64) (ee n) g.toList 0=some (some (j,ee (atV s n)))/\decide (0<=s.at_ n)=true) ∨ (Instr.findNow (.int .i64) (ee n) g.toList 0=some none/\Value.int .i64 (atV s n)=ee 0/\decide (0<=s.at_ n)=false):=by
 rcases h.find i l with ⟨a,j,hf⟩|⟨a,hf⟩
 ·exact .inl ⟨j,by rw [atV,ag a];exact hf,aD a⟩
 ·exact .inr ⟨hf,by rw [atV,ae a],aM a⟩
theorem rF {B G J:Nat} {O:Array MapEntry} {s:CS} {cv:Value} {t:T} {S:ai} {cs:nA} (h:RdT S cs t) (hw:Wf s) (hm:SlM O s) (ht:okG t) (h3:t.kind≠3) (hl:s.sz<=900000000) :
  nB rU [hV B,.agg cs.toArray] (d6 B G O J s cv) S fun _ I' S'=>Ec B G S (fy s t) I' S':=by
 intro w a;obtain ⟨X,hX⟩:∃ X,X=cg (d6 B G O J s cv):=⟨_,rfl⟩
 rw [<- hX] at a ⊢;have b4:=hw.four;have b7:s.code.length<=900000000/\s.next<=900000000:=by unfold CS.sz at hl;omega
 obtain ⟨kv,rfl,_,_,_,b6⟩:=RdT.iff.1 h;refine kG.2 ?_;dsimp only[kG,bv];refine bH a fun b3 w' a=>?_;have a:Inv w X ([ei b3 (ku t kv) ac]++d6 B G O J s cv) S w':=a.perm (bD (l₁:=[_]));refine ah a 0 rfl aW au rfl ?_;refine a9 ?_;refine aJ (fun h2=>?_) (fun h2=>?_)
 ·refine ah a 0 rfl aR au rfl ?_;refine oz ?_;refine Run.call cL cK a (fq ⟨6,t.n,0,emptyB⟩ hm (by omega)) fun v' I' S' w'=>?_;rintro ⟨eS,i,j,l,rfl,a1⟩ _ a;rw [eS] at a;exact ⟨_,_,_,rfl,a.sub (fj _ _),Ext.refl _ _ _,rfl,i,j,l,by rw [fy,ag h2],by rw [fy,ag h2];exact a1⟩
 have r:t.kind=1/\0<=t.n/\t.n<26:=by
  rcases ht.kind with e|e|e
  ·exact e
  ·exact absurd e.1 h2
  ·exact absurd e.1 h3
 have b5:=hm.look r.2.1 r.2.2;refine ⟨fun D x5 x4 rj pr L7 oM lT mY oX lS p8 DS M=>Fx D 0 [DS=hV B,p8=hV B,lS=hV B,oX=.map (some G),mY=kh b3 1,lT=ee t.n,oM=.tuple #[ee (atV s t.n),.bool (decide (0<=s.at_ t.n))],L7=.tuple #[ee (atV s t.n),.bool (decide (0<=s.at_ t.n))],pr=ee (atV s t.n),rj=.bool (decide (0<=s.at_ t.n)),x4=ee (atV s t.n),x5=.bool (decide (0<=s.at_ t.n))]/\Inv w X ([ei b3 (ku t kv) ac]++d6 B G O J s cv) S M,⟨Fx.nil _ _,a.draw⟩,⟨?_,?_,?_,?_,?_,?_,?_,?_,?_,?_,?_,?_,trivial⟩,?_⟩;all_goals (intro D bp;intros;rename_i x5 x4 rj pr L7 oM lT mY oX lS p8 DS M C;have g:=C.1;obtain ⟨⟨U,V,Y,Z,bU,cH,cj,N,dJ,dQ,cJ,dv,_⟩,a⟩:=C)
 ·exact ⟨g.set 0 rfl,a⟩
 ·obtain rfl:=U ‹_›;refine bh ?_;exact ⟨g.set 1 rfl,a⟩
 ·obtain rfl:=V ‹_›;refine ax gr ?_;exact ⟨g.set 2 rfl,a⟩
 ·obtain rfl:=Y ‹_›;refine aG a 1 gP rfl rfl ?_;exact ⟨g.set 3 rfl,a⟩
 ·refine ax aR ?_;exact ⟨g.set 4 rfl,a⟩
 ·obtain rfl:=bU ‹_›;refine aG a 0 au rfl rfl ?_;exact ⟨g.set 5 rfl,a⟩
 ·obtain rfl:=Z ‹_›;obtain rfl:=cH ‹_›;refine Gs a 2 gO dS AN rfl b5 ?_;exact ⟨g.set 6 rfl,a⟩
 ·obtain rfl:=cj ‹_›;exact ⟨g.set 7 rfl,a⟩
 ·obtain rfl:=N ‹_›;refine aA rfl ?_;exact ⟨g.set 8 rfl,a⟩
 ·obtain rfl:=N ‹_›;refine aA rfl ?_;exact ⟨g.set 9 rfl,a⟩
 ·obtain rfl:=dJ ‹_›;exact ⟨g.set 10 rfl,a⟩
 ·obtain rfl:=dQ ‹_›;exact ⟨g.set 11 rfl,a⟩
 obtain ⟨rfl,rfl,rfl,rfl,rfl,rfl,rfl,rfl,rfl,rfl,rfl,rfl,_⟩:=g.all;clear g U V Y Z bU cH cj N dJ dQ cJ dv;refine aJ (fun h0=>?_) (fun h0=>?_)
 ·have e:fy s t=s.emit ⟨5,s.at_ t.n,0,emptyB⟩:=by rw [fy,ae h2,ag h0]
  rw [show atV s t.n=s.at_ t.n from ag h0];refine oz ?_;refine Run.call cL cK a (fq ⟨5,s.at_ t.n,0,emptyB⟩ hm (by omega)) fun v' I' S' w'=>?_;rintro ⟨eS,i,j,l,rfl,a1⟩ _ a;rw [eS] at a;exact ⟨_,_,_,rfl,a.sub (fj _ _),Ext.refl _ _ _,rfl,i,j,l,by rw [e],by rw [e];exact a1⟩
 have e:fy s t=((s.put t.n s.next).emit ⟨4,s.next,0,emptyB⟩).inc:=by rw [fy,ae h2,ae h0]
 have hf:Instr.findNow (.int .i64) (ee t.n) O.toList 0=some none:=by
  rcases hm.find r.2.1 r.2.2 with ⟨q,_⟩|⟨_,q⟩
  ·exact absurd q h0
  ·exact q
 have a4:=hm.push hw.len r.2 h0 (v:=s.next) (by omega) J;generalize b0:O.push { key:=ee t.n,val:=ee s.next,born:=J }=es2 at a4;refine ⟨fun D oN uq xG CJ zb uQ sM wz M=>Fx D 0 [wz=hV B,sM=hV B,uQ=hV B,zb=.map (some G),CJ=kh b3 1,xG=ee t.n,uq=hV B,oN=ee s.next,True]/\Inv w X ([ei b3 (ku t kv) ac]++d6 B G (cond (D 8) es2 O) (cond (D 8) (J+1) J) (cond (D 7) s.inc s) cv) S M,⟨Fx.nil _ _,a.draw⟩,⟨?_,?_,?_,?_,?_,?_,?_,?_,?_,trivial⟩,?_⟩;all_goals (intro D bp;intros;rename_i oN uq xG CJ zb uQ sM wz M C;have g:=C.1;obtain ⟨⟨U,V,Y,Z,bU,cH,cj,N,dJ,_⟩,a⟩:=C)
 ·exact ⟨g.set 0 rfl,a⟩
 ·obtain rfl:=U ‹_›;refine bh ?_;exact ⟨g.set 1 rfl,a⟩
 ·obtain rfl:=V ‹_›;refine ax gr ?_;exact ⟨g.set 2 rfl,a⟩
 ·obtain rfl:=Y ‹_›;refine aG a 1 gP rfl rfl ?_;exact ⟨g.set 3 rfl,a⟩
 ·refine ax aR ?_;exact ⟨g.set 4 rfl,a⟩
 ·obtain rfl:=bU ‹_›;refine aG a 0 au rfl rfl ?_;exact ⟨g.set 5 rfl,a⟩
 ·exact ⟨g.set 6 rfl,a⟩
 ·obtain rfl:=cj ‹_›;rw [bp] at a;refine Run.call i5 iU a (qL (s:=s) (by omega)) fun v' I' S' M=>?_;rintro ⟨eS,rfl,rfl⟩ _ a;rw [eS] at a;exact ⟨g.set 7 rfl,a⟩
 ·obtain rfl:=Z ‹_›;obtain rfl:=cH ‹_›;obtain rfl:=N ‹_›;rw [bp] at a;refine pA a 2 gO dS rfl hf fun M a=>?_;dsimp only [cond_false] at a;rw [b0] at a;exact ⟨g.set 8 trivial,a⟩
 obtain ⟨rfl,rfl,rfl,rfl,rfl,rfl,rfl,rfl,_,_⟩:=g.all;have nI:D 7=true:=by assumption
 have H7:D 8=true:=by assumption
 clear g U V Y Z bU cH cj N dJ;rw [nI,H7] at a;have a:Inv w X ([ei b3 (ku t kv) ac]++d6 B G es2 (J+1) (s.put t.n s.next).inc cv) S M:=a;have a5:SlM es2 (s.put t.n s.next).inc:=a4;have a6:=a5.look r.2.1 r.2.2;have a7:(s.put t.n s.next).inc.at_ t.n=s.next:=by show (s.put t.n s.next).at_ t.n=_;rw [iz hw.len r.2 r.2,ag rfl]
 rw [atV,a7,ag (by omega),aD (show 0<=s.next by omega)] at a6;refine ⟨fun D ov ny m8 kI mx nH yS uC qg uh M=>Fx D 0 [uh=hV B,qg=hV B,uC=hV B,yS=hV B,nH=.map (some G),mx=kh b3 1,kI=ee t.n,m8=ee s.next,ny=.agg (Ist.cells ⟨4,s.next,0,emptyB⟩).toArray,True]/\∃ s' i j l,s'=(cond (D 9) ((s.put t.n s.next).inc.emit ⟨4,s.next,0,emptyB⟩) (s.put t.n s.next).inc)/\SlM i s'/\(D 9=false->i=es2/\j=J+1/\l=cv)/\Inv w X ([ei b3 (ku t kv) ac]++d6 B G i j s' l) S M,⟨Fx.nil _ _,⟨_,es2,J+1,cv,rfl,a5,fun _=>⟨rfl,rfl,rfl⟩,a.draw⟩⟩,⟨?_,?_,?_,?_,?_,?_,?_,?_,?_,?_,trivial⟩,?_⟩;all_goals (intro D bp;intros;rename_i ov ny m8 kI mx nH yS uC qg uh M C;have g:=C.1;obtain ⟨⟨U,V,Y,Z,bU,cH,cj,N,dJ,dQ,_⟩,⟨s',i,j,l,m,o,p,a⟩⟩:=C)
 ·exact ⟨g.set 0 rfl,⟨s',i,j,l,m,o,p,a⟩⟩
 ·exact ⟨g.set 1 rfl,⟨s',i,j,l,m,o,p,a⟩⟩
 ·obtain rfl:=V ‹_›;refine bh ?_;exact ⟨g.set 2 rfl,⟨s',i,j,l,m,o,p,a⟩⟩
 ·obtain rfl:=Y ‹_›;refine ax gr ?_;exact ⟨g.set 3 rfl,⟨s',i,j,l,m,o,p,a⟩⟩
 ·obtain rfl:=Z ‹_›;refine aG a 1 gP rfl rfl ?_;exact ⟨g.set 4 rfl,⟨s',i,j,l,m,o,p,a⟩⟩
 ·refine ax aR ?_;exact ⟨g.set 5 rfl,⟨s',i,j,l,m,o,p,a⟩⟩
 ·obtain rfl:=cH ‹_›;refine aG a 0 au rfl rfl ?_;exact ⟨g.set 6 rfl,⟨s',i,j,l,m,o,p,a⟩⟩
 ·obtain rfl:=bU ‹_›;obtain rfl:=cj ‹_›;have a0:=o.look r.2.1 r.2.2;have a8:s'.at_ t.n=s.next:=by rw [m];cases D 9 <;> exact a7
  rw [atV,a8,ag (by omega),aD (show 0<=s.next by omega)] at a0;refine fA (c:=false) (ok:=true) (v:=ee s.next) (a.its (.blk G (.map i j)) (by simp)) gO dS AN a0 ?_;exact ⟨g.set 7 rfl,⟨s',i,j,l,m,o,p,a⟩⟩
 ·obtain rfl:=N ‹_›;refine oz ?_;exact ⟨g.set 8 rfl,⟨s',i,j,l,m,o,p,a⟩⟩
 ·obtain rfl:=U ‹_›;obtain rfl:=dJ ‹_›;obtain ⟨a2,b1,b2⟩:=p bp;rw [a2,b1,b2] at a;rw [a2] at o;rw [bp] at m;have m:s'=(s.put t.n s.next).inc:=m;rw [m] at a o;refine Run.call cL cK a (fq ⟨4,s.next,0,emptyB⟩ o (by show s.code.length<=_;omega)) fun v' I' S' M=>?_;rintro ⟨eS,i,j,l,rfl,o⟩ _ a;rw [eS] at a;obtain ⟨s',a3⟩:∃ s',s'=(s.put t.n s.next).inc.emit ⟨4,s.next,0,emptyB⟩:=⟨_,rfl⟩
  rw [<- a3] at a o;have m:s'=cond (aF D 9 9) ((s.put t.n s.next).inc.emit ⟨4,s.next,0,emptyB⟩) (s.put t.n s.next).inc:=a3;have p:aF D 9 9=false->i=es2/\j=J+1/\l=cv:=fun h=>by cases h
  exact ⟨g.set 9 (by first|assumption|trivial),⟨s',i,j,l,m,o,p,a⟩⟩
 obtain ⟨rfl,rfl,rfl,rfl,rfl,rfl,rfl,rfl,rfl,Ds,_⟩:=g.all;have Jw:D 9=true:=by assumption
 clear g U V Y Z bU cH cj N dJ dQ;rw [Jw] at m;have m:s'=fy s t:=by rw [m,e];rfl
 subst m;exact ⟨_,_,_,rfl,a.sub (fj _ _),Ext.refl _ _ _,rfl,i,j,l,rfl,o⟩
end
end
end Go.Proofs.YtjbcdmheajljpaaGreat
