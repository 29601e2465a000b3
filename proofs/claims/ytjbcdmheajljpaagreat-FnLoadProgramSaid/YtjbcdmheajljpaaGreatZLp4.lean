/- What code of a clause says of its slots: heads and bodies; the code of a clause tells the clause's instances, and nothing else. -/
import Derived.Test.YtjbcdmheajljpaaGreatZLp3
namespace Go.Proofs.YtjbcdmheajljpaaGreat
section
open Go Go.RowKit
def rV (s:CS) (i:Int) (t:T):List Ist:=
 if t.kind=2 then [⟨2,t.n,i,emptyB⟩]
 else if t.kind=1 then (if 0<=s.at_ t.n then [⟨1,s.at_ t.n,i,emptyB⟩] else [])
 else []
def fZ:CS->Int->List T->List Ist
 | _,_,[]=>[]
 | s,i,t::ts=>rV s i t++fZ (bx s i t).1 (i+1) ts
theorem xA:∀ (ts:List T) (s:CS) (i:Int),(bj s i ts).1.code=s.code++fZ s i ts
 | [],s,i=>by rw [bj,fZ,dc]
 | t::ts,s,i=>by
  rw [bj,fZ];show (bj (bx s i t).1 (i+1) ts).1.code=_;rw [xA ts];have:(bx s i t).1.code=s.code++rV s i t:=by
   unfold bx rV;split
   ·rfl
   ·split
    ·split
     ·rfl
     ·exact (dc _).symm
    ·exact (dc _).symm
  rw [this,cN]
theorem s6 {s:CS} (h:Wf s) {i:Int} (g:0<=i/\i<s.next) {t:T} (j:okG t):Xt s (bx s i t).1/\PdW (bx s i t).2 (bx s i t).1.next/\(bx s i t).1.next=s.next:=by
 unfold bx;rcases j.kind with hk|hk|hk
 ·rw [ae (by omega),af hk.1];refine ⟨?_,fun p a=>(by cases a),?_⟩
  ·split
   ·exact .emit h _
   ·rename_i l
    refine ⟨⟨(jR ..).trans h.len,fun m=>OR (k:=s.next) h.lt g.2 m,h.four⟩,fun m o q r=>?_,eP _⟩;rw [gn h.len hk.2 ⟨o,q⟩,ae (fun e=>by subst e; exact l r)]
  ·split <;> rfl
 ·rw [af hk.1];exact ⟨.emit h _,fun p a=>(by cases a),rfl⟩
 ·rw [ae (by omega),ae (by omega)];refine ⟨.refl h,fun p a=>?_,rfl⟩;rw [cO.1 a];exact ⟨j,hk.1,g.2⟩
theorem lc:∀ (ts:List T) {s:CS} {i:Int},Wf s->0<=i->i+ts.length<=s.next->dL ts->Xt s (bj s i ts).1/\PdW (bj s i ts).2 (bj s i ts).1.next/\(bj s i ts).1.next=s.next
 | [],s,i,h,_,_,_=>⟨.refl h,fun p a=>(by cases a),rfl⟩
 | t::ts,s,i,h,h0,hl,ht=>by
  rw [dL] at ht;rw [aO] at hl;obtain ⟨g,j,l⟩:=s6 h (i:=i) ⟨h0,by omega⟩ ht.1;obtain ⟨m,o,b3⟩:=lc ts (s:=(bx s i t).1) (i:=i+1) g.wf (by omega) (by omega) ht.2;rw [bj];refine ⟨g.trans m,fun p a=>?_,b3.trans l⟩;rcases cI.1 a with a|a
  ·obtain ⟨q,r,u⟩:=j p a;exact ⟨q,r,by show p.2<(bj (bx s i t).1 (i+1) ts).1.next; omega⟩
  ·exact o p a
def Args (θ:Int->T) (i:Int) (ts:List T) (v:Sl):Prop:=∀ j (h:j<ts.length),v (i+(j:Int))=some (sbT θ ts[j])
theorem Args.head {θ:Int->T} {i:Int} {t:T} {ts:List T} {v:Sl} (h:Args θ i (t::ts) v):v i=some (sbT θ t):=by
 have:=h 0 (by simp);simpa using this
theorem Args.tail {θ:Int->T} {i:Int} {t:T} {ts:List T} {v:Sl} (h:Args θ i (t::ts) v):Args θ (i+1) ts v:=fun j a=>by
 have:=h (j+1) (by simpa using a);rw [show i+1+(j:Int)=i+((j+1:Nat):Int) by omega];simpa using this
theorem Args.cons {θ:Int->T} {i:Int} {t:T} {ts:List T} {v:Sl} (h:v i=some (sbT θ t)) (a:Args θ (i+1) ts v):Args θ i (t::ts) v:=fun j g=>by
 cases j with
 | zero=>simpa using h
 | succ j=>
  have:=a j (by simpa using g);rw [show i+1+(j:Int)=i+((j+1:Nat):Int) by omega] at this;simpa using this
theorem Hj {θ:Int->T}:∀ (ts:List T) {s:CS} {i:Int} {v:Sl},Wf s->0<=i->i+ts.length<=s.next->dL ts->AgrS θ s v->Args θ i ts v->AgrS θ (bj s i ts).1 v/\PdOk θ (bj s i ts).2 v/\∀ a g l o,Den ⟨v,a⟩ g l o->Den ⟨v,a⟩ (fZ s i ts++g) l o
 | [],s,i,v,h,_,_,_,ha,_=>⟨ha,fun p j=>(by cases j),fun a g l o q=>q⟩
 | t::ts,s,i,v,h,h0,hl,ht,ha,hA=>by
  rw [dL] at ht;rw [aO] at hl;obtain ⟨D,U,V⟩:=s6 h (i:=i) ⟨h0,by omega⟩ ht.1;have key:AgrS θ (bx s i t).1 v/\PdOk θ (bx s i t).2 v/\∀ a g l o,Den ⟨v,a⟩ g l o->Den ⟨v,a⟩ (rV s i t++g) l o:=by
   have u:=hA.head;unfold bx rV;rcases ht.1.kind with hk|hk|hk
   ·have r:¬ t.kind=2:=by have:=hk.1; omega
    rw [nP hk.1] at u;simp only [ae r,af hk.1];refine ⟨?_,fun p j=>(by cases j),fun a g l o q=>?_⟩
    ·show AgrS θ (if 0<=s.at_ t.n then s.emit ⟨1,s.at_ t.n,i,emptyB⟩ else s.put t.n i) v;split
     ·exact ha
     ·rename_i hn
      intro m r C B;have B:0<=(s.put t.n i).at_ m:=B;show v ((s.put t.n i).at_ m)=_;rw [gn h.len hk.2 ⟨r,C⟩] at B ⊢;by_cases e:m=t.n
      ·subst e;rw [af rfl]; exact u
      ·rw [ae e] at B ⊢;exact ha m r C B
    ·split
     ·rename_i hn
      exact .gval u (ha _ hk.2.1 hk.2.2 hn) q
     ·exact q
   ·rw [af hk.1,af hk.1];rw [wh hk] at u;exact ⟨ha,fun p j=>(by cases j),fun a g l o q=>.gint u q⟩
   ·have r:¬ t.kind=2:=by have:=hk.1; omega
    have C:¬ t.kind=1:=by have:=hk.1; omega
    simp only [ae r,ae C];refine ⟨ha,fun p j=>?_,fun a g l o q=>q⟩;rw [cO.1 j];exact u
  obtain ⟨G,J,M⟩:=key;obtain ⟨N,O,b3⟩:=Hj (θ:=θ) ts (s:=(bx s i t).1) (i:=i+1) (v:=v) D.wf (by omega) (by omega) ht.2 G hA.tail;rw [bj,fZ];refine ⟨N,fun p j=>?_,fun a g l o q=>?_⟩
  ·rcases cI.1 j with j|j
   ·exact J p j
   ·exact O p j
  ·rw [cN];exact M _ _ _ _ (b3 _ _ _ _ q)
theorem A5:∀ (ts:List T) {s:CS} {i:Int} {v a:Sl} {g:List Ist} {D:Ev} {o:List T},Wf s->0<=i->i+ts.length<=s.next->dL ts->Df s v->(∀ j,j<ts.length->∃ t,v (i+(j:Int))=some t)->Den ⟨v,a⟩ (fZ s i ts++g) D o->
  Df (bj s i ts).1 v/\Den ⟨v,a⟩ g D o/\∀ θ,AgrS θ (bj s i ts).1 v->PdOk θ (bj s i ts).2 v->Args θ i ts v
 | [],s,i,v,a,g,D,o,h,_,_,_,hd,_,hr=>⟨hd,hr,fun θ _ _ j U=>absurd U (Nat.not_lt_zero _)⟩
 | t::ts,s,i,v,a,g,D,o,h,l,hl,ht,hd,hv,hr=>by
  rw [dL] at ht;rw [aO] at hl;obtain ⟨M,x2,x3⟩:=s6 h (i:=i) ⟨l,by omega⟩ ht.1;rw [fZ,cN] at hr;have N:∃ u,v i=some u:=by simpa using hv 0 (by simp)
  have key:Df (bx s i t).1 v/\Den ⟨v,a⟩ (fZ (bx s i t).1 (i+1) ts++g) D o/\∀ θ,AgrS θ (bx s i t).1 v->PdOk θ (bx s i t).2 v->v i=some (sbT θ t):=by
   generalize fZ (bx s i t).1 (i+1) ts++g=rest2 at hr ⊢;unfold rV at hr;unfold bx;rcases ht.1.kind with hk|hk|hk
   ·rw [ae (by omega),af hk.1] at hr;rw [ae (by omega),af hk.1];split at hr
    ·rename_i hn
     rw [af hn];cases hr with
     | gval O q G=>
      refine ⟨hd,G,fun θ r _=>?_⟩;have B:v (s.at_ t.n)=some (θ t.n):=r _ hk.2.1 hk.2.2 hn;have q:v (s.at_ t.n)=_:=q;rw [B] at q;rw [nP hk.1,q];exact O
     | call l _ _ _=>rcases l with l|l <;> cases l
    ·rename_i hn
     rw [ae hn];refine ⟨fun m q G B=>?_,hr,fun θ r _=>?_⟩
     ·have B:0<=(s.put t.n i).at_ m:=B;show ∃ u,v ((s.put t.n i).at_ m)=_;rw [gn h.len hk.2 ⟨q,G⟩] at B ⊢;by_cases e:m=t.n
      ·rw [af e]; exact N
      ·rw [ae e] at B ⊢;exact hd m q G B
     ·have e:(s.put t.n i).at_ t.n=i:=by rw [gn h.len hk.2 hk.2,af rfl]
      have:=r t.n hk.2.1 hk.2.2 (by show 0<=(s.put t.n i).at_ t.n; rw [e]; exact l);have this:v ((s.put t.n i).at_ t.n)=_:=this;rw [e] at this;rw [nP hk.1]; exact this
   ·rw [af hk.1] at hr;rw [af hk.1];cases hr with
    | gint O q=>exact ⟨hd,q,fun θ _ _=>by rw [wh hk]; exact O⟩
    | call l _ _ _=>rcases l with l|l <;> cases l
   ·rw [ae (by omega),ae (by omega)] at hr;rw [ae (by omega),ae (by omega)];exact ⟨hd,hr,fun θ _ J=>J (t,i) (cO.2 rfl)⟩
  obtain ⟨V,Y,Z⟩:=key;obtain ⟨b1,b2,b3⟩:=A5 ts (s:=(bx s i t).1) (i:=i+1) M.wf (by omega) (by omega) ht.2 V (fun j U=>by
   have:=hv (j+1) (by rw [aO]; omega);rw [show i+1+(j:Int)=i+((j+1:Nat):Int) by omega];exact this) Y
  obtain ⟨y1,_,_⟩:=lc ts (s:=(bx s i t).1) (i:=i+1) M.wf (by omega) (by omega) ht.2;rw [bj];refine ⟨b1,b2,fun θ r J=>?_⟩;have r:AgrS θ (bj (bx s i t).1 (i+1) ts).1 v:=r;exact .cons (Z θ (AgrS.back M.wf y1 (.refl _ _) r) fun p C=>J p (ic _ C)) (b3 θ r fun p C=>J p (iW _ C))
def iA:CS->List T->List Int->List Ist
 | s,t::ts,v::vs=>(if t.kind=3 then ⟨5,v,0,emptyB⟩ else AU s t)::iA (if t.kind=3 then s.emit ⟨5,v,0,emptyB⟩ else eq s t) ts vs
 | _,_,_=>[]
mutual
def gL:T->CS->List Ist
 | .mk _ _ nm ks,s=>jP ks s++(⟨7,ks.length,(bg ks s).1.next,nm⟩::iA (((bg ks s).1.emit ⟨7,ks.length,(bg ks s).1.next,nm⟩).inc) ks (bg ks s).2)
def jP:List T->CS->List Ist
 | [],_=>[]
 | t::ts,s=>(if t.kind=3 then gL t s else [])++jP ts (if t.kind=3 then aW t s else (s,-1)).1
end
theorem Cl:∀ (ts:List T) (vs:List Int) (s:CS),(cJ s ts vs).code=s.code++iA s ts vs
 | [],vs,s=>by rw [cJ,iA,dc]; all_goals simp
 | _::_,[],s=>by rw [cJ,iA,dc]; all_goals simp
 | t::ts,v::vs,s=>by
  rw [cJ,iA,Cl ts];have:(if t.kind=3 then s.emit ⟨5,v,0,emptyB⟩ else eq s t).code=s.code++[if t.kind=3 then ⟨5,v,0,emptyB⟩ else AU s t]:=by
   split
   ·rfl
   ·exact vU s t
  rw [this,cN]; rfl
theorem qF:∀ (ts:List T) (vs:List Int) (s:CS),vs.length=ts.length->(iA s ts vs).length=ts.length
 | [],[],s,_=>by rw [iA]; all_goals simp
 | t::ts,v::vs,s,h=>by rw [iA,aO,aO,qF ts vs _ (by simpa using h)]
mutual
theorem yJ:∀ (t:T) (s:CS),(aW t s).1.code=s.code++gL t s
 | .mk k n nm ks,s=>by
  rw [aW,gL];show (cJ _ ks _).code=_;rw [Cl];show (bg ks s).1.code++[_]++_=_;rw [Br ks s,cN,cN]; rfl
theorem Br:∀ (ts:List T) (s:CS),(bg ts s).1.code=s.code++jP ts s
 | [],s=>by rw [bg,jP,dc]
 | t::ts,s=>by
  rw [bg,jP];show (bg ts _).1.code=_;rw [Br ts];have:(if t.kind=3 then aW t s else (s,-1)).1.code=s.code++(if t.kind=3 then gL t s else []):=by
   split
   ·exact yJ t s
   ·exact (dc _).symm
  rw [this,cN]
end
theorem gG:∀ (ts:List T) (s:CS),(bg ts s).2.length=ts.length
 | [],s=>by rw [bg]; rfl
 | t::ts,s=>by
  rw [bg];show (_::(bg ts _).2).length=_;rw [aO,aO,gG ts]
theorem pR:∀ (ts:List T) (vs:List Int) {s:CS},Wf s->dL ts->Xt s (cJ s ts vs)/\∀ n,0<=n->n<26->(cJ s ts vs).at_ n=s.at_ n ∨ s.next<=(cJ s ts vs).at_ n
 | [],vs,s,h,_=>by rw [cJ]; exact ⟨.refl h,fun _ _ _=>.inl rfl⟩; all_goals simp
 | _::_,[],s,h,_=>by rw [cJ]; exact ⟨.refl h,fun _ _ _=>.inl rfl⟩; all_goals simp
 | t::ts,v::vs,s,h,ht=>by
  rw [dL] at ht;rw [cJ];have key:Xt s (if t.kind=3 then s.emit ⟨5,v,0,emptyB⟩ else eq s t)/\∀ n,0<=n->n<26->(if t.kind=3 then s.emit ⟨5,v,0,emptyB⟩ else eq s t).at_ n=s.at_ n ∨ s.next<=(if t.kind=3 then s.emit ⟨5,v,0,emptyB⟩ else eq s t).at_ n:=by
   split
   ·exact ⟨.emit h _,fun _ _ _=>.inl rfl⟩
   ·rename_i i
    refine ⟨qS h ht.1 i,fun n a g=>?_⟩;unfold eq;split
    ·exact .inl rfl
    ·split
     ·exact .inl rfl
     ·rename_i m _
      have hk:=ht.1.kind;show (s.put t.n s.next).at_ n=s.at_ n ∨ s.next<=(s.put t.n s.next).at_ n;rw [gn h.len (by omega) ⟨a,g⟩];split
      ·exact .inr (eP _)
      ·exact .inl rfl
  generalize (if t.kind=3 then s.emit ⟨5,v,0,emptyB⟩ else eq s t)=s1 at key;obtain ⟨j,l⟩:=pR ts vs key.1.wf ht.2;refine ⟨key.1.trans j,fun n a g=>?_⟩;have:=key.1.next;rcases l n a g with e|e
  ·rw [e]; exact key.2 n a g
  ·exact .inr (by omega)
def KW (k:Int):List T->List Int->Prop
 | t::ts,x::vs=>(t.kind=3->x<k)/\KW k ts vs
 | _,_=>True
def KOk (θ:Int->T) (v:Sl):List T->List Int->Prop
 | t::ts,x::vs=>(t.kind=3->v x=some (sbT θ t))/\KOk θ v ts vs
 | _,_=>True
theorem KW.mono {k a:Int} (h:k<=a):∀ (ts:List T) (vs:List Int),KW k ts vs->KW a ts vs
 | [],_,_=>by rw [KW]; trivial; all_goals simp
 | _::_,[],_=>by rw [KW]; trivial; all_goals simp
 | t::ts,v::vs,hk=>by
  rw [KW] at hk ⊢;exact ⟨fun g=>by have:=hk.1 g; omega,KW.mono h ts vs hk.2⟩
theorem KOk.frm {θ:Int->T} {v v':Sl} {k:Int} (hf:Frm k v v'):∀ (ts:List T) (vs:List Int),KW k ts vs->KOk θ v ts vs->KOk θ v' ts vs
 | [],_,_,_=>by rw [KOk]; trivial; all_goals simp
 | _::_,[],_,_=>by rw [KOk]; trivial; all_goals simp
 | t::ts,x::vs,hw,hk=>by
  rw [KW] at hw;rw [KOk] at hk ⊢;exact ⟨fun a=>by rw [hf _ (hw.1 a)]; exact hk.1 a,KOk.frm hf ts vs hw.2 hk.2⟩
theorem FM {θ:Int->T}:∀ (ts:List T) (vs:List Int) {s:CS} {v:Sl},Wf s->AgrS θ s v->dL ts->vs.length=ts.length->KW s.next ts vs->KOk θ v ts vs->∃ v1,Frm s.next v v1/\AgrS θ (cJ s ts vs) v1/\Des v (iA s ts vs) v1 (sbL θ ts)
 | [],[],s,v,h,ha,_,_,_,_=>by
  rw [cJ,iA,sbL]
  ·exact ⟨v,.refl _ _,ha,.nil⟩
  all_goals simp
 | t::ts,x::vs,s,v,h,ha,ht,hl,hw,hk=>by
  rw [dL] at ht;rw [KW] at hw;rw [KOk] at hk;rw [cJ,iA,sbL];by_cases a:t.kind=3
  ·rw [af a,af a];obtain ⟨v1,g,i,j⟩:=FM (θ:=θ) ts vs (h.emit ⟨5,x,0,emptyB⟩) (v:=v) ha ht.2 (by simpa using hl) hw.2 hk.2;exact ⟨v1,g,i,.val (hk.1 a) j⟩
  ·rw [ae a,ae a];have l:=qS h ht.1 a;obtain ⟨v1,g,i,j⟩:=Ot h ha ht.1 a;obtain ⟨v2,m,o,b3⟩:=FM (θ:=θ) ts vs l.wf i ht.2 (by simpa using hl) (.mono l.next ts vs hw.2) (.frm g ts vs hw.2 hk.2);exact ⟨v2,g.trans m l.next,o,j _ _ _ b3⟩
theorem xg:∀ (ts:List T) (vs:List Int) {s:CS} {v v1:Sl} {ks:List T},Wf s->Df s v->dL ts->vs.length=ts.length->KW s.next ts vs->Des v (iA s ts vs) v1 ks->Frm s.next v v1/\Df (cJ s ts vs) v1/\∀ θ,AgrS θ (cJ s ts vs) v1->KOk θ v ts vs->ks=sbL θ ts
 | [],[],s,v,v1,ks,h,hd,_,_,_,hr=>by
  rw [iA] at hr
  ·rw [cJ]
   ·cases hr with
    | nil=>exact ⟨.refl _ _,hd,fun _ _ _=>rfl⟩
   all_goals simp
  all_goals simp
 | t::ts,x::vs,s,v,v1,ks,h,hd,ht,hl,hw,hr=>by
  rw [dL] at ht;rw [KW] at hw;rw [iA] at hr;rw [cJ];by_cases a:t.kind=3
  ·rw [af a,af a] at hr;rw [af a];cases hr with
   | val B C=>
    obtain ⟨j,l,m⟩:=xg ts vs (h.emit ⟨5,x,0,emptyB⟩) hd ht.2 (by simpa using hl) hw.2 C;refine ⟨j,l,fun θ i hk=>?_⟩;rw [KOk] at hk;have:=hk.1 a;rw [B,bh] at this;rw [sbL,this,m θ i hk.2]
  ·rw [ae a,ae a] at hr;rw [ae a];have g:=qS h ht.1 a;obtain ⟨u,k,p,rfl,j,l,m,q⟩:=He h hd ht.1 a hr;obtain ⟨o,r,b3⟩:=xg ts vs g.wf l ht.2 (by simpa using hl) (.mono g.next ts vs hw.2) m;refine ⟨j.trans o g.next,r,fun θ i hk=>?_⟩;rw [KOk] at hk;rw [sbL,b3 θ i (.frm j ts vs hw.2 hk.2),q θ (AgrS.back g.wf (pR ts vs g.wf ht.2).1 o i)]
mutual
theorem jy:∀ (t:T) {s:CS},Wf s->okG t->Xt s (aW t s).1/\(aW t s).2<(aW t s).1.next/\s.next<=(aW t s).2
 | .mk k n nm ks,s,h,ht=>by
  rw [okG] at ht;obtain ⟨a,j⟩:=qO ks h ht.2;rw [aW];have i:=(a.wf.emit ⟨7,ks.length,(bg ks s).1.next,nm⟩).inc;have g:=(pR ks (bg ks s).2 i ht.2).1;refine ⟨(a.trans ((Xt.emit a.wf _).trans (.inc (a.wf.emit _)))).trans g,?_,a.next⟩;have:=g.next;have e:(((bg ks s).1.emit ⟨7,ks.length,(bg ks s).1.next,nm⟩).inc).next=(bg ks s).1.next+1:=rfl;show (bg ks s).1.next<(cJ _ ks _).next;omega
theorem qO:∀ (ts:List T) {s:CS},Wf s->dL ts->Xt s (bg ts s).1/\KW (bg ts s).1.next ts (bg ts s).2
 | [],s,h,_=>by
  rw [bg];refine ⟨.refl h,?_⟩;rw [KW]; trivial; all_goals simp
 | t::ts,s,h,ht=>by
  rw [dL] at ht;have key:Xt s (if t.kind=3 then aW t s else (s,-1)).1/\(t.kind=3->(if t.kind=3 then aW t s else (s,-1)).2<(if t.kind=3 then aW t s else (s,-1)).1.next):=by
   split
   ·obtain ⟨j,l,_⟩:=jy t h ht.1;exact ⟨j,fun _=>l⟩
   ·rename_i a
    exact ⟨.refl h,fun g=>absurd g a⟩
  obtain ⟨i,m⟩:=qO ts key.1.wf ht.2;rw [bg];refine ⟨key.1.trans i,?_⟩;show KW _ (t::ts) (_::(bg ts _).2);rw [KW];exact ⟨fun a=>by have:=key.2 a; have:=i.next; show _<(bg ts _).1.next; omega,m⟩
end
theorem Pl {θ:Int->T} {s i:CS} {v:Sl} {k:Int} {t:T} (h:∀ n,0<=n->n<26->i.at_ n=s.at_ n ∨ s.next<=i.at_ n) (o:∀ n,s.at_ n<k) (hk:k<s.next):(AgrS θ i (upS v k t)↔AgrS θ i v)/\(Df i v->Df i (upS v k t)):=by
 have j:∀ n,0<=n->n<26->i.at_ n≠k:=fun n a g=>by
  rcases h n a g with e|e
  ·have:=o n; omega
  ·omega
 refine ⟨⟨fun m n a g l=>?_,fun m n a g l=>?_⟩,fun p n a g l=>?_⟩
 ·have:=m n a g l
  rwa [jb _ _ (j n a g)] at this
 ·rw [jb _ _ (j n a g)]; exact m n a g l
 ·rw [jb _ _ (j n a g)]; exact p n a g l
mutual
theorem H8 {θ:Int->T}:∀ (t:T) {s:CS} {v:Sl},Wf s->AgrS θ s v->okG t->t.kind=3->∃ v1,Frm s.next v v1/\AgrS θ (aW t s).1 v1/\v1 (aW t s).2=some (sbT θ t)/\∀ a g i o,Den ⟨v1,a⟩ g i o->Den ⟨v,a⟩ (gL t s++g) i o
 | .mk k n nm ks,s,v,h,ha,ht,h3=>by
  have hk:=ht.kind;rw [okG] at ht;obtain ⟨j,p⟩:=qO ks h ht.2;obtain ⟨v1,q,r,u,B⟩:=Mm (θ:=θ) ks h ha ht.2;have l:=(j.wf.emit ⟨7,ks.length,(bg ks s).1.next,nm⟩).inc;have G:=pR ks (bg ks s).2 l ht.2;have J:(((bg ks s).1.emit ⟨7,ks.length,(bg ks s).1.next,nm⟩).inc).next=(bg ks s).1.next+1:=rfl;obtain ⟨v2,C,D,b3⟩:=FM (θ:=θ) ks (bg ks s).2 l (v:=v1) r ht.2 (gG ..) (.mono (by omega) _ _ p) u;rw [aW,gL];refine ⟨upS v2 (bg ks s).1.next (fnT nm (sbL θ ks)),?_,((Pl G.2 j.wf.lt (by omega)).1).2 D,?_,fun a g i o m=>?_⟩
  ·have:=j.next;exact ((q.trans C (by omega))).trans (Frm.upS v2 _ (eP (bg ks s).1.next)) this
  ·show upS v2 (bg ks s).1.next _ (bg ks s).1.next=_;rw [dY,pm ⟨h3,by rcases hk with e|e|e <;> first|exact e.2|(exfalso; omega)⟩];rfl
  ·rw [cN];refine B _ _ _ _ ?_;rw [dQ];exact .sstr (by rw [qF _ _ _ (gG ..)]) b3 m
theorem Mm {θ:Int->T}:∀ (ts:List T) {s:CS} {v:Sl},Wf s->AgrS θ s v->dL ts->∃ v1,Frm s.next v v1/\AgrS θ (bg ts s).1 v1/\KOk θ v1 ts (bg ts s).2/\∀ a g j o,Den ⟨v1,a⟩ g j o->Den ⟨v,a⟩ (jP ts s++g) j o
 | [],s,v,h,ha,_=>by
  rw [bg,jP];refine ⟨v,.refl _ _,ha,?_,fun a g j o l=>l⟩;rw [KOk]; trivial; all_goals simp
 | t::ts,s,v,h,ha,ht=>by
  rw [dL] at ht;rw [bg,jP];have key:∃ v1,Xt s (if t.kind=3 then aW t s else (s,-1)).1/\Frm s.next v v1/\AgrS θ (if t.kind=3 then aW t s else (s,-1)).1 v1/\(t.kind=3->v1 (if t.kind=3 then aW t s else (s,-1)).2=some (sbT θ t)/\(if t.kind=3 then aW t s else (s,-1)).2<(if t.kind=3 then aW t s else (s,-1)).1.next)/\∀ a g j o,Den ⟨v1,a⟩ g j o->Den ⟨v,a⟩ ((if t.kind=3 then gL t s else [])++g) j o:=by
   by_cases i:t.kind=3
   ·rw [af i,af i];obtain ⟨v1,u,B,m,C⟩:=H8 (θ:=θ) t h ha ht.1 i;obtain ⟨q,G,_⟩:=jy t h ht.1;exact ⟨v1,q,u,B,fun _=>⟨m,G⟩,C⟩
   ·rw [ae i,ae i];exact ⟨v,.refl h,.refl _ _,ha,fun r=>absurd r i,fun a g j o l=>l⟩
  generalize (if t.kind=3 then aW t s else (s,-1))=p at key;obtain ⟨v1,q,u,B,m,C⟩:=key;obtain ⟨v2,D,J,b3,M⟩:=Mm (θ:=θ) ts q.wf B ht.2;refine ⟨v2,u.trans D q.next,J,?_,fun a g j o l=>?_⟩
  ·show KOk θ v2 (t::ts) (p.2::(bg ts p.1).2);rw [KOk];exact ⟨fun i=>by rw [D _ (m i).2]; exact (m i).1,b3⟩
  ·rw [cN];exact C _ _ _ _ (M _ _ _ _ l)
end
mutual
theorem zX:∀ (t:T) {s:CS} {v a:Sl} {g:List Ist} {m:Ev} {o:List T},Wf s->Df s v->okG t->t.kind=3->Den ⟨v,a⟩ (gL t s++g) m o->∃ v1,Frm s.next v v1/\Df (aW t s).1 v1/\Den ⟨v1,a⟩ g m o/\∀ θ,AgrS θ (aW t s).1 v1->v1 (aW t s).2=some (sbT θ t)
 | .mk k n nm ks,s,v,a,g,m,o,h,hd,ht,h3,hr=>by
  have hk:=ht.kind;rw [okG] at ht;obtain ⟨j,D⟩:=qO ks h ht.2;rw [gL,cN] at hr;obtain ⟨v1,G,J,p,M⟩:=D0 ks h hd ht.2 hr;have q:=(j.wf.emit ⟨7,ks.length,(bg ks s).1.next,nm⟩).inc;have r:=pR ks (bg ks s).2 q ht.2;have Z:(((bg ks s).1.emit ⟨7,ks.length,(bg ks s).1.next,nm⟩).inc).next=(bg ks s).1.next+1:=rfl;rw [dQ] at p;generalize u:iA (((bg ks s).1.emit ⟨7,ks.length,(bg ks s).1.next,nm⟩).inc) ks (bg ks s).2++g=code at p;rw [aW];cases p with
  | sstr h4 V Y=>
   obtain ⟨rfl,rfl⟩:=LX u (by rw [qF _ _ _ (gG ..)]; omega);obtain ⟨B,N,b3⟩:=xg ks (bg ks s).2 q (v:=v1) J ht.2 (gG ..) (.mono (by omega) _ _ D) V;rename_i v2 C
   refine ⟨_,?_,(Pl (θ:=fun _=>r4) r.2 j.wf.lt (by omega)).2 N,Y,fun θ i=>?_⟩
   ·have:=j.next;exact ((G.trans B (by omega))).trans (Frm.upS v2 _ (eP (bg ks s).1.next)) this
   ·have i:=((Pl r.2 j.wf.lt (by omega)).1).1 i;have O:=AgrS.back (s:=(((bg ks s).1.emit ⟨7,ks.length,(bg ks s).1.next,nm⟩).inc)) q r.1 B i;have U:=b3 θ i (M θ O);show upS v2 (bg ks s).1.next _ (bg ks s).1.next=_;rw [dY,pm ⟨h3,by rcases hk with e|e|e <;> first|exact e.2|(exfalso; omega)⟩,U];rfl
  | call l _ _ _=>rcases l with l|l <;> cases l
theorem D0:∀ (ts:List T) {s:CS} {v a:Sl} {g:List Ist} {q:Ev} {o:List T},Wf s->Df s v->dL ts->Den ⟨v,a⟩ (jP ts s++g) q o->∃ v1,Frm s.next v v1/\Df (bg ts s).1 v1/\Den ⟨v1,a⟩ g q o/\∀ θ,AgrS θ (bg ts s).1 v1->KOk θ v1 ts (bg ts s).2
 | [],s,v,a,g,q,o,h,hd,_,hr=>by
  rw [jP] at hr;rw [bg];refine ⟨v,.refl _ _,hd,hr,fun θ _=>?_⟩;rw [KOk]; trivial; all_goals simp
 | t::ts,s,v,a,g,q,o,h,hd,ht,hr=>by
  rw [dL] at ht;rw [jP,cN] at hr;rw [bg];have key:∃ v1,Xt s (if t.kind=3 then aW t s else (s,-1)).1/\Frm s.next v v1/\Df (if t.kind=3 then aW t s else (s,-1)).1 v1/\(∀ θ,AgrS θ (if t.kind=3 then aW t s else (s,-1)).1 v1->t.kind=3->v1 (if t.kind=3 then aW t s else (s,-1)).2=some (sbT θ t))/\(t.kind=3->(if t.kind=3 then aW t s else (s,-1)).2<(if t.kind=3 then aW t s else (s,-1)).1.next)/\Den ⟨v1,a⟩ (jP ts (if t.kind=3 then aW t s else (s,-1)).1++g) q o:=by
   by_cases i:t.kind=3
   ·rw [af i,af i] at hr;rw [af i];obtain ⟨v1,r,u,B,C⟩:=zX t h hd ht.1 i hr;obtain ⟨m,D,_⟩:=jy t h ht.1;exact ⟨v1,m,r,u,fun θ l _=>C θ l,fun _=>D,B⟩
   ·rw [ae i,ae i] at hr;rw [ae i];exact ⟨v,.refl h,.refl _ _,hd,fun θ _ j=>absurd j i,fun j=>absurd j i,hr⟩
  generalize (if t.kind=3 then aW t s else (s,-1))=p at key;obtain ⟨v1,m,r,u,B,D,C⟩:=key;obtain ⟨v2,G,J,b3,M⟩:=D0 ts m.wf u ht.2 C;refine ⟨v2,r.trans G m.next,J,b3,fun θ l=>?_⟩;have l:AgrS θ (bg ts p.1).1 v2:=l;show KOk θ v2 (t::ts) (p.2::(bg ts p.1).2);rw [KOk];exact ⟨fun i=>by rw [G _ (D i)]; exact B θ (AgrS.back m.wf (qO ts m.wf ht.2).1 G l) i,M θ l⟩
end
def CV (s:CS) (i:Int) (t:T):List Ist:=
 if t.kind=2 then [⟨10,t.n,i,emptyB⟩]
 else if t.kind=1 then (if 0<=s.at_ t.n then [⟨9,s.at_ t.n,i,emptyB⟩] else [⟨8,s.next,i,emptyB⟩])
 else gL t s++[⟨9,(aW t s).2,i,emptyB⟩]
def mU:CS->Int->List T->List Ist
 | _,_,[]=>[]
 | s,i,t::ts=>CV s i t++mU (eY s i t) (i+1) ts
theorem AD:∀ (ts:List T) (s:CS) (i:Int),(dM s i ts).code=s.code++mU s i ts
 | [],s,i=>by rw [dM,mU,dc]
 | t::ts,s,i=>by
  rw [dM,mU,AD ts];have:(eY s i t).code=s.code++CV s i t:=by
   unfold eY CV;split
   ·rfl
   ·split
    ·split <;> rfl
    ·show (aW t s).1.code++[_]=_;rw [yJ,cN]
  rw [this,cN]
theorem wd {s:CS} (h:Wf s) (i:Int) {t:T} (a:okG t):Xt s (eY s i t):=by
 unfold eY;rcases a.kind with hk|hk|hk
 ·rw [ae (by omega),af hk.1];split
  ·exact .emit h _
  ·rename_i g
   exact (Xt.new h hk.2 g).trans (.emit (Xt.new h hk.2 g).wf _)
 ·rw [af hk.1]; exact .emit h _
 ·rw [ae (by omega),ae (by omega)];have:=(jy t h a).1;exact this.trans (.emit this.wf _)
theorem FA:∀ (ts:List T) {s:CS} (i:Int),Wf s->dL ts->Xt s (dM s i ts)
 | [],s,i,h,_=>.refl h
 | t::ts,s,i,h,ht=>by
  rw [dL] at ht;rw [dM];exact (wd h i ht.1).trans (FA ts _ (wd h i ht.1).wf ht.2)
theorem RE {θ:Int->T} {s:CS} {v:Sl} (h:Wf s) (m:AgrS θ s v) (i:Int) {t:T} (q:okG t):∃ v1,Frm s.next v v1/\AgrS θ (eY s i t) v1/\∀ a g l o,Den ⟨v1,upS a i (sbT θ t)⟩ g l o->Den ⟨v,a⟩ (CV s i t++g) l o:=by
 unfold eY CV;rcases q.kind with hk|hk|hk
 ·have p:¬ t.kind=2:=by have:=hk.1; omega
  rw [nP hk.1];by_cases hn:0<=s.at_ t.n
  ·simp only [ae p,af hk.1,af hn];exact ⟨v,.refl _ _,m,fun a g l o j=>.pval (m _ hk.2.1 hk.2.2 hn) j⟩
  ·simp only [ae p,af hk.1,ae hn];exact ⟨_,.upS v (θ t.n) (eP _),AgrS.new h m hk.2,fun a g l o j=>.pvar j⟩
 ·rw [af hk.1,af hk.1,wh hk];exact ⟨v,.refl _ _,m,fun a g l o j=>.pint j⟩
 ·have p:¬ t.kind=2:=by have:=hk.1; omega
  have D:¬ t.kind=1:=by have:=hk.1; omega
  simp only [ae p,ae D];obtain ⟨v1,r,u,B,C⟩:=H8 (θ:=θ) t h m q hk.1;refine ⟨v1,r,u,fun a g l o j=>?_⟩;rw [cN];exact C _ _ _ _ (.pval B j)
theorem PG {s:CS} {v a:Sl} (h:Wf s) (r:Df s v) (i:Int) {t:T} (C:okG t) {m:List Ist} {D:Ev} {o:List T} (l:Den ⟨v,a⟩ (CV s i t++m) D o):∃ v1 u,Frm s.next v v1/\Df (eY s i t) v1/\Den ⟨v1,upS a i u⟩ m D o/\∀ θ,AgrS θ (eY s i t) v1->u=sbT θ t:=by
 unfold CV at l;unfold eY;rcases C.kind with hk|hk|hk
 ·rw [ae (by omega),af hk.1] at l;rw [ae (by omega),af hk.1];split at l
  ·rename_i hn
   rw [af hn];cases l with
   | pval j B=>
    refine ⟨v,_,.refl _ _,r,B,fun θ p=>?_⟩;have q:v (s.at_ t.n)=some (θ t.n):=p _ hk.2.1 hk.2.2 hn;have j:v (s.at_ t.n)=_:=j;rw [j,bh] at q;rw [q,nP hk.1]
   | call g _ _ _=>rcases g with g|g <;> cases g
  ·rename_i hn
   rw [ae hn];cases l with
   | pvar j=>
    rename_i u
    refine ⟨_,_,.upS v u (eP _),Df.new h r hk.2 u,j,fun θ p=>?_⟩;have e:((s.put t.n s.next).inc.emit ⟨8,s.next,i,emptyB⟩).at_ t.n=s.next:=by
     show (s.put t.n s.next).at_ t.n=s.next;rw [gn h.len hk.2 hk.2,af rfl]
    have:=p t.n hk.2.1 hk.2.2 (by rw [e]; have:=h.four; omega);rw [e,dY,bh] at this;rw [this,nP hk.1]
   | call g _ _ _=>rcases g with g|g <;> cases g
 ·rw [af hk.1] at l;rw [af hk.1];cases l with
  | call g _ _ _=>rcases g with g|g <;> cases g
  | pint j=>exact ⟨v,_,.refl _ _,r,j,fun θ _=>(wh hk).symm⟩
 ·rw [ae (by omega),ae (by omega),cN] at l;rw [ae (by omega),ae (by omega)];obtain ⟨v1,G,J,M,N⟩:=zX t h r C hk.1 l;cases M with
  | pval j B=>
   refine ⟨v1,_,G,J,B,fun θ p=>?_⟩;have q:=N θ p;have j:v1 (aW t s).2=_:=j;rw [j,bh] at q;exact q
  | call g _ _ _=>rcases g with g|g <;> cases g
theorem LM {θ:Int->T}:∀ (ts:List T) {s:CS} {v:Sl} (i:Int),Wf s->AgrS θ s v->dL ts->∃ v1,Frm s.next v v1/\AgrS θ (dM s i ts) v1/\∀ a,∃ l,(∀ k,k<i->l k=a k)/\Args θ i ts l/\∀ g m o,Den ⟨v1,l⟩ g m o->Den ⟨v,a⟩ (mU s i ts++g) m o
 | [],s,v,i,h,ha,_=>⟨v,.refl _ _,ha,fun a=>⟨a,fun _ _=>rfl,fun j u=>absurd u (Nat.not_lt_zero _),fun g m o p=>p⟩⟩
 | t::ts,s,v,i,h,ha,ht=>by
  rw [dL] at ht;have r:=wd h i ht.1;obtain ⟨v1,l,B,C⟩:=RE h ha i ht.1;obtain ⟨v2,D,G,b3⟩:=LM (θ:=θ) ts (i+1) r.wf B ht.2;rw [dM,mU];refine ⟨v2,l.trans D r.next,G,fun a=>?_⟩;obtain ⟨c,q,J,M⟩:=b3 (upS a i (sbT θ t));refine ⟨c,fun k hk=>by rw [q k (by omega),jb _ _ (by omega)],.cons (by rw [q i (by omega),dY]) J,fun g m o p=>?_⟩;rw [cN];exact C _ _ _ _ (M _ _ _ p)
theorem Es:∀ (ts:List T) {s:CS} {v a:Sl} (i:Int) {g:List Ist} {m:Ev} {o:List T},Wf s->Df s v->dL ts->Den ⟨v,a⟩ (mU s i ts++g) m o->∃ v1 l,Frm s.next v v1/\Df (dM s i ts) v1/\(∀ k,k<i->l k=a k)/\Den ⟨v1,l⟩ g m o/\∀ θ,AgrS θ (dM s i ts) v1->Args θ i ts l
 | [],s,v,a,i,g,m,o,h,hd,_,hr=>⟨v,a,.refl _ _,hd,fun _ _=>rfl,hr,fun θ _ j B=>absurd B (Nat.not_lt_zero _)⟩
 | t::ts,s,v,a,i,g,m,o,h,hd,ht,hr=>by
  rw [dL] at ht;have p:=wd h i ht.1;rw [mU,cN] at hr;obtain ⟨v1,u,l,C,D,G⟩:=PG h hd i ht.1 hr;obtain ⟨v2,c,r,J,b3,M,N⟩:=Es ts (i+1) p.wf C ht.2 D;rw [dM];refine ⟨v2,c,l.trans r p.next,J,fun k hk=>by rw [b3 k (by omega),jb _ _ (by omega)],M,fun θ q=>?_⟩;exact .cons (by rw [b3 i (by omega),dY,G θ (AgrS.back p.wf (FA ts _ p.wf ht.2) r q)]) (N θ q)
theorem j5 (θ:Int->T):∀ ts:List T,sbL θ ts=ts.map (sbT θ)
 | []=>rfl
 | t::ts=>by rw [sbL,Ef,j5 θ ts]
def u3 (s:CS) (g:T):List Ist:=
 if oP g=true then [⟨13,0,0,emptyB⟩] else mU s 0 g.kids++[⟨if eX g=true then 12 else 11,g.kids.length,0,g.name⟩]
def gQ:CS->List T->List Ist
 | _,[]=>[]
 | s,g::gs=>u3 s g++gQ (eJ s g) gs
theorem xJ:∀ (a:List T) (s:CS),(dr s a).code=s.code++gQ s a
 | [],s=>by rw [dr,gQ,dc]
 | g::a,s=>by
  rw [dr,gQ,xJ a];have:(eJ s g).code=s.code++u3 s g:=by
   unfold eJ u3;split
   ·rfl
   ·show (dM s 0 g.kids).code++[_]=_;rw [AD,cN]
  rw [this,cN]
theorem qJ {s:CS} (h:Wf s) {g:T} (a:okG g):Xt s (eJ s g):=by
 unfold eJ;split
 ·exact .emit h _
 ·have:=FA g.kids 0 h a.kids;exact this.trans (.emit this.wf _)
theorem B5:∀ (a:List T) {s:CS},Wf s->dL a->Xt s (dr s a)
 | [],s,h,_=>.refl h
 | g::a,s,h,hg=>by
  rw [dL] at hg;rw [dr];exact (qJ h hg.1).trans (B5 a (qJ h hg.1).wf hg.2)
theorem Pi {θ:Int->T} {g:T} (a:okG g) (hc:oP g=true):sbT θ g=r4:=by
 unfold oP at hc;simp only [bJ,bE] at hc;rw [pm ⟨hc.1,by have:=a.kind; omega⟩,hc.2.1,jK hc.2.2];rfl
theorem HM {θ:Int->T}:∀ (m:List T) {s:CS} {v:Sl} (a:Sl),Wf s->AgrS θ s v->dL m->(∀ g∈m,g.kind=3)->∃ l,Den ⟨v,a⟩ (gQ s m) l (sbL θ m)
 | [],s,v,a,h,ha,_,_=>⟨_,.nil⟩
 | g::m,s,v,a,h,ha,hg,h3=>by
  rw [dL] at hg;have O:=qJ h hg.1;have key:∃ v1 p,AgrS θ (eJ s g) v1/\∀ j l o,Den ⟨v1,p⟩ j l o->Den ⟨v,a⟩ (u3 s g++j) l (sbT θ g::o):=by
   unfold eJ u3;by_cases hc:oP g=true
   ·rw [af hc,af hc,Pi hg.1 hc];exact ⟨v,a,ha,fun j l o q=>.cut q⟩
   ·rw [ae hc,ae hc];obtain ⟨v1,p,B,C⟩:=LM (θ:=θ) g.kids 0 h ha hg.1.kids;obtain ⟨c,U,D,G⟩:=C a;refine ⟨v1,c,B,fun j l o q=>?_⟩;rw [cN,pm ⟨h3 g (bL ..),by have:=hg.1.kind; have:=h3 g (bL ..); omega⟩];refine G _ _ _ (.call (by split <;> simp) (by rw [iP]) (fun i t=>?_) q);have r:i<g.kids.length:=by rw [iP] at t; exact t
    have:=D i r;rw [En] at this;show c (i:Int)=_;rw [this]
    congr 1
    simp only [j5,Bq]
  obtain ⟨v1,p,J,M⟩:=key;obtain ⟨l,N⟩:=HM (θ:=θ) m (v:=v1) p O.wf J hg.2 fun x u=>h3 x (bV _ u);rw [gQ,sbL];exact ⟨l,M _ _ _ N⟩
theorem Ou {e l:Ev} {op n b:Int} {nm:ByteArray} {g:List Ist} {o:List T} (j:op=11 ∨ op=12) (h:Den e (⟨op,n,b,nm⟩::g) l o):∃ ks o',o=fnT nm ks::o'/\(ks.length:Int)=n/\(∀ i (h:i<ks.length),e.a (i:Int)=some ks[i])/\Den e g l o':=by
 cases h with
 | call _ m p q=>exact ⟨_,_,rfl,m,p,q⟩
 | _=>rcases j with h|h <;> cases h
theorem Bf:∀ (j:List T) {s:CS} {v a:Sl} {l:Ev} {o:List T},Wf s->Df s v->dL j->(∀ g∈j,g.kind=3)->Den ⟨v,a⟩ (gQ s j) l o->∃ v1,Frm s.next v v1/\Df (dr s j) v1/\∀ θ,AgrS θ (dr s j) v1->o=sbL θ j
 | [],s,v,a,l,o,h,hd,_,_,hr=>by
  rw [gQ] at hr;cases hr with
  | nil=>exact ⟨v,.refl _ _,hd,fun _ _=>rfl⟩
 | g::j,s,v,a,l,o,h,hd,hg,h3,hr=>by
  rw [dL] at hg;have q:=qJ h hg.1;rw [gQ] at hr;have key:∃ v1 p u o',o=u::o'/\Frm s.next v v1/\Df (eJ s g) v1/\Den ⟨v1,p⟩ (gQ (eJ s g) j) l o'/\∀ θ,AgrS θ (eJ s g) v1->u=sbT θ g:=by
   generalize gQ (eJ s g) j=rest at hr ⊢;unfold u3 at hr;unfold eJ;by_cases hc:oP g=true
   ·rw [af hc] at hr ⊢;cases hr with
    | cut h1=>exact ⟨v,a,_,_,rfl,.refl _ _,hd,h1,fun θ _=>(Pi hg.1 hc).symm⟩
    | call r=>rcases r with r|r <;> cases r
   ·rw [ae hc,cN] at hr;rw [ae hc];obtain ⟨v1,c,p,N,a3,B,O⟩:=Es g.kids 0 h hd hg.1.kids hr;rw [List.singleton_append] at B;have t:∃ ks o',o=fnT g.name ks::o'/\(ks.length:Int)=g.kids.length/\(∀ i (h:i<ks.length),c (i:Int)=some ks[i])/\Den ⟨v1,c⟩ rest l o':=by
     exact Ou (by split <;> simp) B
    obtain ⟨ks,o',rfl,h5,U,V⟩:=t;refine ⟨v1,c,_,_,rfl,p,N,V,fun θ m=>?_⟩;rw [pm ⟨h3 g (bL ..),by have:=hg.1.kind; have:=h3 g (bL ..); omega⟩]
    congr 1
    refine List.ext_getElem (by rw [iP]; omega) fun i G J=>?_;have D:=O θ m i (by omega);rw [En,U i G,bh] at D;rw [D];simp only [j5,Bq]
  obtain ⟨v1,p,u,o',rfl,Y,Z,b3,b4⟩:=key;obtain ⟨v2,C,c2,c3⟩:=Bf j q.wf Z hg.2 (fun x M=>h3 x (bV _ M)) b3;rw [dr];refine ⟨v2,Y.trans C q.next,c2,fun θ m=>?_⟩;rw [sbL,c3 θ m,b4 θ (AgrS.back q.wf (B5 j q.wf hg.2) C m)]
def BE (c:C):List Ist:=fZ startC 0 c.head.kids++(mf (ce (bj startC 0 c.head.kids).2) (bj startC 0 c.head.kids).1 (bj startC 0 c.head.kids).2++gQ (fp startC c.head.kids) c.body)
theorem pa (c:C):dK c=BE c++[⟨14,0,0,emptyB⟩]:=by
 show (dr (fp startC c.head.kids) c.body).code++[_]=_;rw [xJ];have:(fp startC c.head.kids).code=fZ startC 0 c.head.kids++mf (ce (bj startC 0 c.head.kids).2) (bj startC 0 c.head.kids).1 (bj startC 0 c.head.kids).2:=by
  unfold fp;rw [wX,xA];rfl
 rw [this,BE];simp only [cN]
theorem zW (n:Int):startC.at_ n=-1:=by
 show (List.replicate 26 (-1:Int))[n.toNat]?.getD (-1)=-1;rw [Hv];split <;> rfl
theorem jt:Wf startC:=⟨by simp [startC],fun n=>by rw [zW]; decide,by decide⟩
theorem K1 {g:T} (h:eI g=true):g.kind=3:=by
 rw [eI] at h;simp only [bJ,lQ,oP,gw,eX,bE] at h;rcases h.2 with e|e|e <;> exact e.1
theorem eH {c:C} (h:a9 c=true):(∀ g∈c.body,g.kind=3)/\c.head.kind=3/\c.head.kids.length<=4:=by
 rw [a9] at h;simp only [bJ,fS,gw,bE] at h;refine ⟨fun g j=>K1 (h.2.1 g j),h.2.2.2.1,?_⟩;have a:=h.2.2.1;have i:=h.2.2.2.1;clear h;rw [cA,bJ] at a;generalize c.head=t at a i;obtain ⟨k,n,s,ks⟩:=t;have i:k=3:=i;subst i;have a:=a.1;rw [dx,ae (by decide),bJ,eV] at a;rw [ae (show ¬ (T.mk 3 n s ks).kind=1 from (by decide:¬ (3:Int)=1)),ae (show ¬ (T.mk 3 n s ks).kind=2 from (by decide:¬ (3:Int)=2)),af (show (T.mk 3 n s ks).kind=3 from rfl)] at a;simp only [bJ,bE] at a;exact a.1.2.2
theorem RM {c:C} (h:a9 c=true) (θ:Int->T) {v a:Sl} (p:Args θ 0 c.head.kids v):∃ g,Den ⟨v,a⟩ (BE c) g (sbL θ c.body):=by
 obtain ⟨j,q⟩:=je h;obtain ⟨r,_,N⟩:=eH h;have o:(0:Int)+c.head.kids.length<=startC.next:=by show (0:Int)+c.head.kids.length<=4; omega
 have J:AgrS θ startC v:=fun n _ _ i=>by rw [zW] at i; exact absurd i (by decide)
 obtain ⟨l,m,O⟩:=lc c.head.kids jt (eP _) o j.kids;obtain ⟨t,u,B⟩:=Hj c.head.kids jt (eP _) o j.kids J p;obtain ⟨v1,U,D,b3⟩:=O0 (ce (bj startC 0 c.head.kids).2) l.wf m t u;have M:=qK (ce (bj startC 0 c.head.kids).2) l.wf m;obtain ⟨g,G⟩:=HM (s:=fp startC c.head.kids) c.body a M.wf D q r;exact ⟨g,B _ _ _ _ (b3 _ _ _ _ G)⟩
theorem Pu {c:C} (h:a9 c=true) {v a:Sl} {G:Ev} {o:List T} (J:∀ j,j<c.head.kids.length->∃ t,v (j:Int)=some t) (M:Den ⟨v,a⟩ (BE c) G o):∃ θ,Args θ 0 c.head.kids v/\o=sbL θ c.body:=by
 obtain ⟨p,q⟩:=je h;obtain ⟨V,_,t2⟩:=eH h;have B:(0:Int)+c.head.kids.length<=startC.next:=by show (0:Int)+c.head.kids.length<=4; omega
 have hd:Df startC v:=fun n _ _ g=>by rw [zW] at g; exact absurd g (by decide)
 obtain ⟨l,m,x3⟩:=lc c.head.kids jt (eP _) B p.kids;obtain ⟨Y,Z,a3⟩:=A5 c.head.kids jt (eP _) B p.kids hd (fun j N=>by rw [En]; exact J j N) M;obtain ⟨v1,r,b2,b3,b4⟩:=Jf (ce (bj startC 0 c.head.kids).2) l.wf m Y (be _) Z;have i:=qK (ce (bj startC 0 c.head.kids).2) l.wf m;have z1:=B5 c.body (s:=fp startC c.head.kids) i.wf q;obtain ⟨v2,c1,c2,c3⟩:=Bf c.body (s:=fp startC c.head.kids) i.wf b2 q V b3;obtain ⟨θ,u⟩:∃ θ,AgrS θ (dr (fp startC c.head.kids) c.body) v2:=by
  refine ⟨fun n=>(v2 ((dr (fp startC c.head.kids) c.body).at_ n)).getD r4,fun n O U g=>?_⟩;obtain ⟨t,ht⟩:=c2 n O U g;simp only [ht,JF]
 have D:AgrS θ (fp startC c.head.kids) v1:=AgrS.back i.wf z1 c1 u;have e2:AgrS θ (bj startC 0 c.head.kids).1 v:=AgrS.back l.wf i r D;exact ⟨θ,a3 θ e2 (PdOk.back (b4 θ D) m r),c3 θ u⟩
end
section
open Go Go.RowKit
def CS.sz (s:CS):Int:=s.next+s.code.length
theorem d6 (s:CS) (x:Ist):(s.emit x).sz=s.sz+1:=by
 show s.next+((s.code++[x]).length:Nat)=_;rw [bv,CS.sz,vh]; omega
theorem wF (s:CS):s.inc.sz=s.sz+1:=by show s.next+1+(s.code.length:Nat)=_; rw [CS.sz]; omega
theorem Lc (s:CS) (n v:Int):(s.put n v).sz=s.sz:=rfl
theorem zL (s:CS) (t:T):s.sz<=(eq s t).sz/\(eq s t).sz<=s.sz+2:=by
 unfold eq;split
 ·rw [d6]; omega
 ·split
  ·rw [d6]; omega
  ·rw [wF,d6,Lc]; omega
theorem FL (s:CS) (t:T):s.sz<=(ch s t).1.sz/\(ch s t).1.sz<=s.sz+2:=by
 unfold ch;split
 ·show s.sz<=(CS.inc _).sz/\(CS.inc _).sz<=_;rw [wF,d6]; omega
 ·exact zL s t
theorem ta:∀ (ts:List T) (s:CS),s.sz<=(bo s ts).1.sz/\(bo s ts).1.sz<=s.sz+2 * ts.length
 | [],s=>by rw [bo]; simp
 | t::ts,s=>by
  rw [bo,aO];have a:=FL s t;have g:=ta ts (ch s t).1;show s.sz<=(bo (ch s t).1 ts).1.sz/\(bo (ch s t).1 ts).1.sz<=_;omega
theorem nw:∀ (ts:List T) (s:CS),(ts.length:Int)+4 * ce (bo s ts).2<=4 * bi ts+(bo s ts).2.length
 | [],s=>by rw [bo]; simp [ce,bi]
 | t::ts,s=>by
  rw [bo,bi,aO];have a:=nw ts (ch s t).1;have hc:=cZ t;show _+4 * ((ce ((ch s t).2++(bo (ch s t).1 ts).2):Nat):Int)<=_+(((ch s t).2++(bo (ch s t).1 ts).2).length:Nat)
  rw [eA,bv];have g:4 * ((ce (ch s t).2:Nat):Int)+1<=4 * bM t+(ch s t).2.length:=by
   unfold ch;split
   ·show 4 * (((bM t).toNat+0:Nat):Int)+1<=4 * bM t+((1:Nat):Int)
    omega
   ·show 4 * ((0:Nat):Int)+1<=4 * bM t+((0:Nat):Int)
    omega
  omega
theorem gU:∀ q:List (T × Int),q.length<=ce q
 | []=>be _
 | x::q=>by rw [ce,aO]; have:=cZ x.1; have:=gU q; omega
theorem Mw:∀ (f:Nat) (s:CS) (q:List (T × Int)),s.sz<=(eD f s q).sz/\(eD f s q).sz+2 * q.length<=s.sz+8 * ce q
 | 0,s,q=>by rw [eD]; have:=gU q; omega
 | f+1,s,[]=>by rw [eD]; simp [ce]
 | f+1,s,x::q=>by
  rw [eD,ce,aO];have g:=ta x.1.kids (s.emit ⟨3,x.1.kids.length,x.2,x.1.name⟩);have h:=Mw f (bo (s.emit ⟨3,x.1.kids.length,x.2,x.1.name⟩) x.1.kids).1 (q++(bo (s.emit ⟨3,x.1.kids.length,x.2,x.1.name⟩) x.1.kids).2);have m:=nw x.1.kids (s.emit ⟨3,x.1.kids.length,x.2,x.1.name⟩);rw [d6] at g;rw [eA,bv] at h;have i:(bM x.1).toNat=1+(bi x.1.kids).toNat:=by
   have:=bU x.1.kids;obtain ⟨a,l⟩:=x;cases a;simp only [bM,T.kids] at this ⊢;omega
  have j:=bU x.1.kids;omega
theorem BS (s:CS) (i:Int) (t:T):s.sz<=(bx s i t).1.sz/\(bx s i t).1.sz<=s.sz+1:=by
 unfold bx;split
 ·show s.sz<=(CS.emit _ _).sz/\(CS.emit _ _).sz<=_;rw [d6]; omega
 ·split
  ·show s.sz<=(if 0<=s.at_ t.n then s.emit ⟨1,s.at_ t.n,i,emptyB⟩ else s.put t.n i).sz/\(if 0<=s.at_ t.n then s.emit ⟨1,s.at_ t.n,i,emptyB⟩ else s.put t.n i).sz<=_;split
   ·rw [d6]; omega
   ·rw [Lc]; omega
  ·show s.sz<=s.sz/\s.sz<=_; omega
theorem qz:∀ (ts:List T) (s:CS) (i:Int),s.sz<=(bj s i ts).1.sz/\(bj s i ts).1.sz<=s.sz+ts.length/\((ce (bj s i ts).2:Nat):Int)<=bi ts/\(bj s i ts).2.length<=ts.length
 | [],s,i=>by rw [bj]; simp [ce,bi]
 | t::ts,s,i=>by
  rw [bj,aO,bi];have l:=BS s i t;obtain ⟨a,g,h,j⟩:=qz ts (bx s i t).1 (i+1);have hc:=cZ t;have m:((ce (bx s i t).2:Nat):Int)<=bM t/\(bx s i t).2.length<=1:=by
   unfold bx;split
   ·show ((0:Nat):Int)<=_/\0<=1; omega
   ·split
    ·show ((0:Nat):Int)<=_/\0<=1; omega
    ·show (((bM t).toNat+0:Nat):Int)<=_/\1<=1; omega
  show s.sz<=(bj (bx s i t).1 (i+1) ts).1.sz/\(bj (bx s i t).1 (i+1) ts).1.sz<=_/\((ce ((bx s i t).2++(bj (bx s i t).1 (i+1) ts).2):Nat):Int)<=_/\((bx s i t).2++(bj (bx s i t).1 (i+1) ts).2).length<=_;rw [eA,bv];omega
theorem HJ:∀ (ts:List T) (vs:List Int) (s:CS),s.sz<=(cJ s ts vs).sz/\(cJ s ts vs).sz<=s.sz+2 * ts.length
 | [],vs,s=>by rw [cJ]; simp; all_goals simp
 | t::ts,[],s=>by
  rw [cJ]
  ·constructor <;> omega
  all_goals simp
 | t::ts,v::vs,s=>by
  rw [cJ,aO];have a:s.sz<=(if t.kind=3 then s.emit ⟨5,v,0,emptyB⟩ else eq s t).sz/\(if t.kind=3 then s.emit ⟨5,v,0,emptyB⟩ else eq s t).sz<=s.sz+2:=by
   split
   ·rw [d6]; omega
   ·exact zL s t
  have g:=HJ ts vs (if t.kind=3 then s.emit ⟨5,v,0,emptyB⟩ else eq s t);omega
mutual
theorem kD:∀ (t:T) (s:CS),s.sz<=(aW t s).1.sz/\(aW t s).1.sz+4<=s.sz+8 * bM t
 | .mk k n nm ks,s=>by
  rw [aW,bM];have g:=ti ks s;have a:=HJ ks (bg ks s).2 (((bg ks s).1.emit ⟨7,ks.length,(bg ks s).1.next,nm⟩).inc);rw [wF,d6] at a;show s.sz<=(cJ _ ks _).sz/\(cJ _ ks _).sz+4<=_;omega
theorem ti:∀ (ts:List T) (s:CS),s.sz<=(bg ts s).1.sz/\(bg ts s).1.sz+2 * ts.length<=s.sz+8 * bi ts
 | [],s=>by rw [bg]; simp [bi]
 | t::ts,s=>by
  rw [bg,bi,aO];have hc:=cZ t;have a:s.sz<=(if t.kind=3 then aW t s else (s,-1)).1.sz/\(if t.kind=3 then aW t s else (s,-1)).1.sz+2<=s.sz+8 * bM t:=by
   split
   ·have:=kD t s; omega
   ·show s.sz<=s.sz/\s.sz+2<=_; omega
  have g:=ti ts (if t.kind=3 then aW t s else (s,-1)).1;show s.sz<=(bg ts _).1.sz/\(bg ts _).1.sz+_<=_;omega
end
theorem FN (s:CS) (i:Int) (t:T):s.sz<=(eY s i t).sz/\(eY s i t).sz<=s.sz+8 * bM t:=by
 have hc:=cZ t;unfold eY;split
 ·rw [d6]; omega
 ·split
  ·split
   ·rw [d6]; omega
   ·rw [d6,wF,Lc]; omega
  ·rw [d6];have:=kD t s;omega
theorem Hq:∀ (ts:List T) (s:CS) (i:Int),s.sz<=(dM s i ts).sz/\(dM s i ts).sz<=s.sz+8 * bi ts
 | [],s,i=>by rw [dM]; simp [bi]
 | t::ts,s,i=>by
  rw [dM,bi];have a:=FN s i t;have g:=Hq ts (eY s i t) (i+1);omega
theorem IM (s:CS) (g:T):s.sz<=(eJ s g).sz/\(eJ s g).sz<=s.sz+8 * bM g:=by
 have hc:=cZ g;have a:bM g=1+bi g.kids:=by cases g; rw [bM]; rfl
 unfold eJ;split
 ·rw [d6]; omega
 ·rw [d6];have:=Hq g.kids s 0;omega
end
section
open Go Go.RowKit
inductive Chain (Call:aX->T->T->Bool->aX->Prop):aX->List T->List T->Bool->aX->Prop
 | nil {st:aX}:Chain Call st [] [] true st
 | stop {st st':aX} {a b:T} {xs ys:List T}:Call st a b false st'->Chain Call st (a::xs) (b::ys) false st'
 | go {st st1 st':aX} {a b:T} {xs ys:List T} {r:Bool}:Call st a b true st1->Chain Call st1 xs ys r st'->Chain Call st (a::xs) (b::ys) r st'
theorem Chain.head {Call:aX->T->T->Bool->aX->Prop} {st g:aX} {a b:T} {xs ys:List T} {r:Bool} (h:Chain Call st (a::xs) (b::ys) r g) :
  ∃ j i,Call st a b j i/\(j=false->r=false/\g=i)/\(j=true->Chain Call i xs ys r g):=by
 cases h with
 | stop h=>exact ⟨false,_,h,fun _=>⟨rfl,rfl⟩,fun e=>(by cases e)⟩
 | go h l=>exact ⟨true,_,h,fun e=>(by cases e),fun _=>l⟩
theorem Chain.done {Call:aX->T->T->Bool->aX->Prop} {st a:aX} {r:Bool} (h:Chain Call st [] [] r a):r=true/\a=st:=by
 cases h;exact ⟨rfl,rfl⟩
def Rs (Call:aX->T->T->Bool->aX->Prop) (st:aX) (a' b':T) (r:Bool) (st':aX):Prop:=
 (a'.kind=1/\b'.kind=1/\a'.n=b'.n/\r=true/\st'=st) ∨
 (a'.kind=1/\¬ (b'.kind=1/\a'.n=b'.n)/\((¬ gO st a'.n.toNat b'/\r=true/\st'=st.set a'.n.toNat (some b')) ∨ (gO st a'.n.toNat b'/\r=false/\st'=st))) ∨
 (a'.kind≠1/\b'.kind=1/\((¬ gO st b'.n.toNat a'/\r=true/\st'=st.set b'.n.toNat (some a')) ∨ (gO st b'.n.toNat a'/\r=false/\st'=st))) ∨
 (a'.kind≠1/\b'.kind≠1/\((sF a' b'=false/\r=false/\st'=st) ∨ (sF a' b'=true/\Chain Call st a'.kids b'.kids r st')))
theorem Uni.calls {N:Nat} {Call:aX->T->T->Bool->aX->Prop} (g:∀ st a b G J r p,Good N st->okJ N (.one a b)->dI st a G->dI st b J->Rs Call st G J r p->Call st a b r p) {st p:aX} {j:Job} {r:Bool} (M:Uni st j r p) :
  Good N st->okJ N j->match j with
   | .one a b=>Call st a b r p
   | .list xs ys=>Chain Call st xs ys r p:=by
 induction M with
 | same l m q t o=>exact fun i h=>g _ _ _ _ _ _ _ i h l m (.inl ⟨q,t,o,rfl,rfl⟩)
 | bindA l m q t o=>exact fun i h=>g _ _ _ _ _ _ _ i h l m (.inr (.inl ⟨q,t,.inl ⟨o,rfl,rfl⟩⟩))
 | occA l m q t o=>exact fun i h=>g _ _ _ _ _ _ _ i h l m (.inr (.inl ⟨q,t,.inr ⟨o,rfl,rfl⟩⟩))
 | bindB l m q t o=>exact fun i h=>g _ _ _ _ _ _ _ i h l m (.inr (.inr (.inl ⟨q,t,.inl ⟨o,rfl,rfl⟩⟩)))
 | occB l m q t o=>exact fun i h=>g _ _ _ _ _ _ _ i h l m (.inr (.inr (.inl ⟨q,t,.inr ⟨o,rfl,rfl⟩⟩)))
 | clash l m q t o=>exact fun i h=>g _ _ _ _ _ _ _ i h l m (.inr (.inr (.inr ⟨q,t,.inl ⟨o,rfl,rfl⟩⟩)))
 | kids l m q t o _ B=>
  exact fun i h=>g _ _ _ _ _ _ _ i h l m (.inr (.inr (.inr ⟨q,t,.inr ⟨o,B i ⟨j0 (eh i l h.1),j0 (eh i m h.2),pj o⟩⟩⟩)))
 | nil=>exact fun _ _=>.nil
 | stop _ B=>exact fun i h=>.stop (B i ⟨h.1 _ (bL ..),h.2.1 _ (bL ..)⟩)
 | go l _ C D=>
  intro i h;have u:okJ N (.one _ _):=⟨h.1 _ (bL ..),h.2.1 _ (bL ..)⟩
  exact .go (C i u) (D (l.good i u).1 ⟨fun a O=>h.1 a (bV _ O),fun b U=>h.2.1 b (bV _ U),by have:=h.2.2; simpa using this⟩)
section
attribute [local irreducible] Run CondV aC aU
set_option maxHeartbeats 1000000 in
end
end
section
open Go Go.RowKit
mutual
def zA:T->Int->Bool
 | .mk _ _ _ ks,d=>if d<1 then false else zx ks (d - 1)
def zx:List T->Int->Bool
 | [],_=>true
 | t::ts,d=>zA t d && zx ts d
end
theorem Ah:∀ (ts:List T) (d:Int),zx ts d=ts.all fun t=>zA t d
 | [],_=>rfl
 | t::ts,d=>by rw [zx,Ah ts d]; rfl
def ez (u:T):Bool:=decide (bM u<=120) && zA u 30
theorem Nq (a:List T) (j:Nat) (h:j<a.length):bi (a.take (j+1))=bi (a.take j)+bM a[j]:=by
 induction a generalizing j with
 | nil=>simp at h
 | cons u a g=>
  cases j with
  | zero=>simp only [Kd,E9,oC,bi]; omega
  | succ j=>
   have:=g j (by simpa using h);simp only [Kd,Pe,bi] at *;omega
theorem EN (a:List T) (j:Nat):bi (a.take j)<=bi a:=by
 induction a generalizing j with
 | nil=>simp
 | cons u a g=>
  cases j with
  | zero=>simp only [E9]; exact bU _
  | succ j=>
   have:=g j;simp only [Kd,bi];omega
theorem Fh (k n:Int) (s:ByteArray) (ks:List T):bM (.mk k n s ks)=1+bi ks:=rfl
theorem gc {w:World} {v:Value} {e:TypeId} {k n:Nat} {xs:List Value} (h:(Item.row v e k n xs).holds w):v.cells=#[v]/\v.oneCell'=true:=by
 have h:w.ownsRow 0 e k v n xs:=h;rcases h.2 with ⟨rfl,_⟩|⟨g,cap,a,rfl,_⟩ <;> exact ⟨rfl,rfl⟩
section
attribute [local irreducible] Run CondV aC aU
theorem vA {K:Value->World->Prop} {w:World} (hk:K (.agg #[.int .i64 0,.int .i64 0,.string ⟨#[]⟩,.slice none 0 0]) w):Run Tryz.prog (bR ac []) w K:=by
 refine Run.of ?_ hk
 kernel_rfl
theorem ub:∀ x∈([.int .i64 0,.int .i64 0,.string ⟨#[]⟩,.slice none 0 0]:List Value),x.oneCell'=true:=by simp [Value.oneCell']
end
end
section
open Go Go.RowKit

abbrev Bs:=List UInt8
abbrev bs (s:ByteArray):Bs:=s.data.toList
abbrev st (l:Bs):ByteArray:=⟨l.toArray⟩
theorem Eb (l:Bs):bs (st l)=l:=by simp [bs]
theorem nX (l:Bs):(st l).size=l.length:=by simp [ByteArray.size]

def sgn (s:Bs) (i:Nat) (c:Nat):Bool:=match s[i]? with
 | some b=>decide (b.toNat=c)
 | none=>false
def btw (s:Bs) (i:Nat) (a b:Nat):Bool:=match s[i]? with
 | some x=>decide (a<=x.toNat) && decide (x.toNat<=b)
 | none=>false
def sml (s:Bs) (i:Nat):Bool:=btw s i 97 122
def dig (s:Bs) (i:Nat):Bool:=btw s i 48 57
def upp (s:Bs) (i:Nat):Bool:=btw s i 65 90
def cut (s:Bs) (a b:Nat):Bs:=(s.take b).drop a

def y7 (s:Bs):Nat->Nat->Nat
 | 0,e=>e
 | n+1,e=>if sml s e=true then y7 s n (e+1) else e
def iZ (s:Bs) (i:Nat):List ByteArray->Bs->Bs
 | [],b=>b
 | x::l,b=>iZ s i l (if decide (i+x.size<=s.length)=true/\cut s i (i+x.size)=bs x/\b.length<x.size then bs x else b)
def u0 (s:Bs) (i:Nat):Option (Bs × Nat):=
 let e:=y7 s (s.length - i) i
 if i+6<e then none else if i<e then some (cut s i e,e) else
  let b:=iZ s i signs []
  if b=[] then none else some (b,i+b.length)
def qW (s:Bs):Nat->Nat->Nat
 | 0,e=>e
 | n+1,e=>if dig s e=true then qW s n (e+1) else e
def Dh:Bs->Nat->Nat
 | [],n=>n
 | b::l,n=>Dh l (n * 10+(b.toNat - 48))
def On (s:Bs) (i:Nat):Option (T × Nat):=
 let from_:=if sgn s i 45=true then i+1 else i
 let e:=qW s 4 from_
 let d:=cut s from_ e
 let n:=Dh d 0
 if d=[] ∨ (sgn d 0 48=true/\1<d.length) ∨ (i<from_/\n=0) ∨ 999<n then none
 else some (.mk 2 (if i<from_ then -(n:Int) else n) emptyB [],e)
def GV (name:Bs) (kids:List T):T:=.mk 3 0 (st name) kids
def RO:T:=GV [91,93] []
def Iz (a b:T):T:=GV [46] [a,b]
def i0:List T->T->T
 | [],t=>t
 | a::l,t=>Iz a (i0 l t)
def opF (s:Bs) (i:Nat):Option (Bs × Nat):=
 let from_:=if sgn s i 32=true then i+1 else i
 if s.length<=from_ then none else match u0 s from_ with
  | none=>none
  | some (name,next)=>
   let word:=decide (name=[105,115]) || decide (name=[109,111,100])
   if cW (st name)=0 ∨ word≠decide (i<from_) ∨ (word=true/\sgn s next 32=false) then none
   else some (name,if word=true then next+1 else next)
mutual
def jF:Nat->Bs->Nat->Nat->Nat->Option (T × Nat)
 | 0,_,_,_,_=>none
 | f+1,s,i,d,0=>sJ f s i d
 | f+1,s,i,d,l+1=>match jF f s i d l with
  | none=>none
  | some (t,n)=>G5 f s n d l t
def G5:Nat->Bs->Nat->Nat->Nat->T->Option (T × Nat)
 | 0,_,_,_,_,_=>none
 | f+1,s,i,d,l,t=>match opF s i with
  | none=>some (t,i)
  | some (name,after)=>if cW (st name)=((l+1:Nat):Int) then match jF f s after d l with
    | none=>none
    | some (r,e)=>if l=2 then some (GV name [t,r],e) else G5 f s e d l (GV name [t,r])
   else some (t,i)
def sJ:Nat->Bs->Nat->Nat->Option (T × Nat)
 | 0,_,_,_=>none
 | f+1,s,i,d=>if d=0 ∨ s.length<=i then none else if sgn s i 40=true then match jF f s (i+1) d 3 with
    | none=>none
    | some (t,n)=>if sgn s n 41=true then some (t,n+1) else none
  else if sgn s i 91=true/\sgn s (i+1) 93=false then match iE f s (i+1) (d - 1) 93 124 [] with
    | none=>none
    | some (ts,n)=>if sgn s n 93=true then some (i0 ts RO,n+1) else match jF f s (n+1) (d - 1) 3 with
     | none=>none
     | some (t,e)=>if sgn s e 93=true then some (i0 ts t,e+1) else none
  else if upp s i=true then some (.mk 1 ((s.getD i 0).toNat - 65) emptyB [],i+1)
  else if dig s i=true ∨ (sgn s i 45=true/\dig s (i+1)=true) then On s i
  else match u0 s i with
   | none=>none
   | some (name,n)=>if sgn s n 40=false then some (GV name [],n) else match iE f s (n+1) (d - 1) 41 41 [] with
    | none=>none
    | some (ts,e)=>some (GV name ts,e+1)
def iE:Nat->Bs->Nat->Nat->Nat->Nat->List T->Option (List T × Nat)
 | 0,_,_,_,_,_,_=>none
 | f+1,s,i,d,e,o,acc=>match jF f s i d 3 with
  | none=>none
  | some (t,n)=>if sgn s n e=true ∨ sgn s n o=true then some (acc++[t],n) else if sgn s n 44=true then iE f s (n+1) d e o (acc++[t]) else none
end

def nI (t:T):Bool:=decide (t.kind=3) && (decide (t.kids.length=2) && decide (0<cW t.name))
def AX (t:T):Bool:=decide (t.kind=3) && (decide (t.name=st [46]) && decide (t.kids.length=2))
def O7 (t:T):Bool:=decide (t.kind=3) && (decide (t.name=st [91,93]) && decide (t.kids.length=0))
def yf (t:T):Bool:=decide (t.kind=3) && (decide (t.kids.length=0) && decide (0<cW t.name))
def Fk (s:Bs):Bool:=sml s 0 || (dig s 0 || (upp s 0 || (sgn s 0 91 || sgn s 0 40)))
def iL (n:Bs):Bs:=if n=[105,115] ∨ n=[109,111,100] then 32::(n++[32]) else n
def Dj:Nat->Nat->Bs->Option Bs
 | 0,_,_=>none
 | f+1,n,out=>if 9<n then Dj f (n / 10) (UInt8.ofNat (48+n % 10)::out) else some (UInt8.ofNat (48+n)::out)
def Rj (n:Int):Option Bs:=if n<0 then (Dj 20 (-n).toNat []).map fun l=>45::l else Dj 20 n.toNat []
def PA (t:T):Option Bs:=if t.kind=1 then (if 0<=t.n/\t.n<=25 then some [UInt8.ofNat (65+t.n.toNat)] else none)
 else if t.kind=2 then (if -999<=t.n/\t.n<=999 then Rj t.n else none) else if t.kids.length=0 then some (bs t.name) else none
mutual
def EZ:Nat->T->Option Bs
 | 0,_=>none
 | f+1,t=>if AX t=true then DM f t [] else if nI t=true then match t.kids with
   | [a,b]=>match Ll f a (if cW t.name=3 then 2 else cW t.name),Fv f b (cW t.name - 1) with
    | some x,some y=>some (x++iL (bs t.name)++y)
    | _,_=>none
   | _=>none
  else if t.kind=3/\0<t.kids.length then match oc f t.kids [] with
   | some x=>some (bs t.name++[40]++x++[41])
   | none=>none
  else PA t
def DM:Nat->T->List T->Option Bs
 | 0,_,_=>none
 | f+1,t,items=>if AX t=true then match t.kids with
   | [a,b]=>DM f b (items++[a])
   | _=>none
  else match oc f items [] with
   | none=>none
   | some x=>if O7 t=true then some ([91]++x++[93]) else match EZ f t with
    | none=>none
    | some y=>some ([91]++x++[124]++y++[93])
def oc:Nat->List T->Bs->Option Bs
 | 0,_,_=>none
 | _+1,[],out=>some out
 | f+1,t::l,out=>match EZ f t with
  | none=>none
  | some x=>oc f l (out++x++(if l=[] then [] else [44]))
def p7:Nat->T->Int->Option Bs
 | 0,_,_=>none
 | f+1,t,l=>match EZ f t with
  | none=>none
  | some x=>some (if nI t=true/\l<cW t.name then [40]++x++[41] else x)
def Ll:Nat->T->Int->Option Bs
 | 0,_,_=>none
 | f+1,t,l=>if yf t=true then match EZ f t with
   | none=>none
   | some x=>some ([40]++x++[41])
  else p7 f t l
def Fv:Nat->T->Int->Option Bs
 | 0,_,_=>none
 | f+1,t,l=>match p7 f t l with
  | none=>none
  | some x=>if x=[] then none else some (if yf t=true ∨ Fk x=false then [40]++x++[41] else x)
end
def yK (f:Nat):List T->Bool->Bs->Option Bs
 | [],_,out=>some out
 | t::l,first,out=>match EZ f t with
  | none=>none
  | some x=>yK f l false (out++(if first=true then [58,45] else [44])++x)
def Mk (f:Nat) (c:C):Option Bs:=match EZ f c.head with
 | none=>none
 | some x=>match yK f c.body true x with
  | none=>none
  | some y=>some (y++[46])

def r3 (f:Nat):Nat->Bs->Nat->List T->Option (List T × Nat)
 | 0,_,_,_=>none
 | k+1,s,i,acc=>if 6<acc.length then none else match jF f s i 30 3 with
  | none=>none
  | some (t,n)=>if sgn s n 44=true then r3 f k s (n+1) (acc++[t]) else some (acc++[t],n)
def M9 (f:Nat) (s:Bs) (c:C) (n:Nat):Option C:=
 if n+1=s.length/\sgn s n 46=true/\a9 c=true/\wC c<=200/\Mk f c=some s then some c else none
def vf (f:Nat) (s:Bs):Option C:=if 1000<s.length then none else match jF f s 0 30 3 with
 | none=>none
 | some (h,n)=>if sgn s n 58=true/\sgn s (n+1) 45=true then match r3 f 8 s (n+2) [] with
   | none=>none
   | some (b,n2)=>M9 f s ⟨h,b⟩ n2
  else M9 f s ⟨h,[]⟩ n
def CN (s:Bs) (c:Nat):Nat->Nat->Nat->List Bs->List Bs
 | 0,i,from_,acc=>acc++[cut s from_ i]
 | n+1,i,from_,acc=>if sgn s i c=true then CN s c n (i+1) (i+1) (acc++[cut s from_ i]) else CN s c n (i+1) from_ acc
def N4 (s:Bs):List Bs:=CN s 10 s.length 0 0 []
def kH (f:Nat):List Bs->List C->Option (List C)
 | [],acc=>some acc
 | l::ls,acc=>match vf f l with
  | none=>none
  | some c=>kH f ls (acc++[c])
def L6 (f:Nat) (s:Bs):Option (List C):=
 let ls:=N4 s
 if 21<ls.length ∨ ls.getLast?≠some [] then none else kH f ls.dropLast []
def PM (s:Bs):Bool:=match L6 60 s with
 | some p=>decide (0<p.length) && (decide (p.length<=8) && p.all fun c=>a9 c && decide (wC c<=200))
 | none=>false
end
section
open Go Go.RowKit
section
variable {P:Program} {w w0:World} {X:List Nat} {L:List Item} {S:ag} {K:Value->World->Prop}
theorem z0 {T:TypeId} {g i:Bool} {k:IntKind} {a b:Int} (h:a<b) (hk:K (.bool true) w):Run P (dh .lss T g i (.int k a) (.int k b)) w K:=by
 refine cu ?_;rw [aP h];exact hk
theorem fh {T:TypeId} {g i:Bool} {k:IntKind} {a b:Int} (h:¬ (a<b)) (hk:K (.bool false) w):Run P (dh .lss T g i (.int k a) (.int k b)) w K:=by
 refine cu ?_;rw [bf h];exact hk
theorem Gx {T:TypeId} {g i:Bool} {k:IntKind} {a b:Int} (h:a<=b) (hk:K (.bool true) w):Run P (dh .leq T g i (.int k a) (.int k b)) w K:=by
 refine fY ?_;rw [aP h];exact hk
theorem Oo {T:TypeId} {g i:Bool} {k:IntKind} {a b:Int} (h:¬ (a<=b)) (hk:K (.bool false) w):Run P (dh .leq T g i (.int k a) (.int k b)) w K:=by
 refine fY ?_;rw [bf h];exact hk
theorem JK {T:TypeId} {g i:Bool} {k:IntKind} {a b:Int} (h:b<a) (hk:K (.bool true) w):Run P (dh .gtr T g i (.int k a) (.int k b)) w K:=by
 refine fC ?_;rw [aP h];exact hk
theorem mi {T:TypeId} {g i:Bool} {k:IntKind} {a b:Int} (h:¬ (b<a)) (hk:K (.bool false) w):Run P (dh .gtr T g i (.int k a) (.int k b)) w K:=by
 refine fC ?_;rw [bf h];exact hk
theorem nS {T:TypeId} {g i:Bool} {k:IntKind} {a b:Int} (h:b<=a) (hk:K (.bool true) w):Run P (dh .geq T g i (.int k a) (.int k b)) w K:=by
 refine lj ?_;rw [aP h];exact hk
theorem wo {T:TypeId} {g i:Bool} {k:IntKind} {a b:Int} (h:¬ (b<=a)) (hk:K (.bool false) w):Run P (dh .geq T g i (.int k a) (.int k b)) w K:=by
 refine lj ?_;rw [bf h];exact hk
theorem fX {T:TypeId} {g i:Bool} {k:IntKind} {a b:Int} (h:a=b) (hk:K (.bool true) w):Run P (dh .eql T g i (.int k a) (.int k b)) w K:=by
 refine bn ?_;rw [aP h];exact hk
theorem eW {T:TypeId} {g i:Bool} {k:IntKind} {a b:Int} (h:¬ (a=b)) (hk:K (.bool false) w):Run P (dh .eql T g i (.int k a) (.int k b)) w K:=by
 refine bn ?_;rw [bf h];exact hk
theorem Dq {T:TypeId} {g h:Bool} {a b:Int} (i:-9223372036854775808<=a * b/\a * b<=9223372036854775807) (hk:K (.int .i64 (a * b)) w):Run P (dh .mul T g h (.int .i64 a) (.int .i64 b)) w K:=
 Run.of (by simp [dh,dA,binOp,Op.intArith,IntWalk.i64_in _ i]) hk
theorem RA {T:TypeId} {g h:Bool} {a b:Nat} (l:0<b) (m:a<=9223372036854775807) (hk:K (.int .i64 ((a / b:Nat):Int)) w):Run P (dh .quo T g h (.int .i64 (a:Int)) (.int .i64 (b:Int))) w K:=by
 refine Run.of ?_ hk;have i:¬ ((b:Int)=0):=by omega
 have j:IntKind.i64.wrap ((a:Int).tdiv b)=((a / b:Nat):Int):=by
  rw [IntWalk.i64_quo _ _ (by omega)]; rfl
 simp only [dh,dA,binOp,Op.intDiv,Sem.run_bind,Result.andThen_ok,ae i,Sem.run_pure];exact congrArg (fun v=>Result.ok (Next.value (.int .i64 v)) w) j
theorem Kr {T:TypeId} {g h:Bool} {a b:Nat} (l:0<b) (hk:K (.int .i64 ((a % b:Nat):Int)) w):Run P (dh .rem T g h (.int .i64 (a:Int)) (.int .i64 (b:Int))) w K:=by
 refine Run.of ?_ hk;have i:(a:Int).tmod b=((a % b:Nat):Int):=by
  rw [IntWalk.rem_in _ _ (by omega)]; rfl
 have j:¬ ((b:Int)=0):=by omega
 simp only [dh,dA,binOp,Op.intDiv,Sem.run_bind,Result.andThen_ok,ae j,Sem.run_pure];exact congrArg (fun v=>Result.ok (Next.value (.int .i64 v)) w) i
theorem RH {T:TypeId} {g h:Bool} {a b:Nat} (i:a<4611686018427387904) (j:b<4611686018427387904) (hk:K (.int .i64 ((a ^^^ b:Nat):Int)) w):Run P (dh .xor T g h (.int .i64 (a:Int)) (.int .i64 (b:Int))) w K:=by
 refine Run.of ?_ hk;have p:a ^^^ b<2 ^ 62:=Nat.xor_lt_two_pow (by simpa using i) (by simpa using j);have l:(BitVec.ofInt 64 (a:Int)).toNat=a:=by rw [BitVec.toNat_ofInt]; omega
 have m:(BitVec.ofInt 64 (b:Int)).toNat=b:=by rw [BitVec.toNat_ofInt]; omega
 have o:IntKind.i64.wrap ((BitVec.ofInt 64 (a:Int) ^^^ BitVec.ofInt 64 (b:Int)).toNat:Int)=((a ^^^ b:Nat):Int):=by
  rw [BitVec.toNat_xor,l,m];exact IntWalk.i64_in _ (by omega)
 simp only [dh,dA,binOp,Op.intBits,Sem.run_bind,Result.andThen_ok,Sem.run_pure];exact congrArg (fun v=>Result.ok (Next.value (.int .i64 v)) w) o
theorem Rh {T:TypeId} {g h:Bool} {k:IntKind} {a b c:Int} (i:k.wrap (a+b)=c) (hk:K (.int k c) w):Run P (dh .add T g h (.int k a) (.int k b)) w K:=
 Run.of (by simp [dh,dA,binOp,Op.intArith,i]) hk
theorem Ph {T:TypeId} {g h:Bool} {k:IntKind} {a b c:Int} (i:k.wrap (a - b)=c) (hk:K (.int k c) w):Run P (dh .sub T g h (.int k a) (.int k b)) w K:=
 Run.of (by simp [dh,dA,binOp,Op.intArith,i]) hk
theorem qu {a g ty:TypeId} {k h:IntKind} {n m:Int} {d:TypeDesc} (i:P.underlying a=some d) (j:P.underlying g=some (.int h)) (l:h.wrap n=m) (hk:K (.int h m) w) :
  Run P (sOp (.convert a g (.const (.int k n))) ty) w K:=by
 refine Run.of ?_ hk;simp [sOp,execOp,ev0,evE,convert,run_underlying i,run_underlying j,Conv.intToInt,l]
theorem Q9 {T ty:TypeId} {n:Int} (a:-9223372036854775808<=-n/\-n<=9223372036854775807) (hk:K (.int .i64 (-n)) w):Run P (sOp (.unOp .neg T (.const (.int .i64 n))) ty) w K:=
 Run.of (by simp [sOp,execOp,ev0,evE,Op.unary,Op.intArith,Int.zero_sub,IntWalk.i64_in _ a]) hk
theorem RR (a b:Bs):st a++st b=st (a++b):=by
 apply ByteArray.ext;simp [st]
theorem dV {T:TypeId} {g h:Bool} {a b:Bs} (l:a.length+b.length<=9223372036854775807) (hk:K (.string (st (a++b))) w):Run P (dh .add T g h (.string (st a)) (.string (st b))) w K:=by
 refine Run.of ?_ hk;have i:¬ (9223372036854775807<(((st a).size+(st b).size:Nat):Int)):=by rw [nX,nX]; omega
 have j:IntKind.i64.max=9223372036854775807:=by decide
 simp only [dh,binOp,Op.stringOp,Sem.run_bind,qt,Result.andThen_ok,gt_iff_lt,j,ae i,Sem.run_pure,RR]
theorem Rq (s:Bs) (a b:Nat):(st s).extract a b=st (cut s a b):=by
 apply ByteArray.ext;apply zo.1;simp [cut,ByteArray.data_extract,List.drop_take]
theorem AC {T ty:TypeId} {s:Bs} {a b:Nat} (i:P.underlying T=some .string) (g:a<=b) (j:b<=s.length) (hk:K (.string (st (cut s a b))) w) :
  Run P (sOp (.slice T (.const (.string (st s))) (some (.const (.int .i64 a))) (some (.const (.int .i64 b))) none) ty) w K:=by
 refine Run.of ?_ hk;have h:b<=(st s).size:=by rw [nX]; exact j
 simp [sOp,execOp,ev0,evE,Instr.sliceAt,Instr.slice,Instr.sliceBounds,run_underlying i,ij g,ij h,Rq]
theorem eO {T ty:TypeId} {s:Bs} {i:Nat} (g:P.underlying T=some .string) (h:i<s.length) (hk:K (.int .u8 s[i].toNat) w) :
  Run P (sOp (.index T (.const (.string (st s))) (.const (.int .i64 i))) ty) w K:=by
 have a:i<(st s).size:=by rw [nX]; exact h
 refine kR g a ?_;have:(st s)[i]=s[i]:=by simp [st,ByteArray.getElem_eq_getElem_data]
 rw [this];exact hk
theorem fP {T ty:TypeId} {cs:List Bool} {s:Bs} (a:P.underlying T=some .string) (hk:K (.int .i64 s.length) w):Run P (bO .len #[T] ty cs [.string (st s)]) w K:=by
 refine kJ a ?_;rw [nX];exact hk
theorem Ak {T:TypeId} {g i:Bool} {a b:Bs} (hk:K (.bool (decide (a=b))) w):Run P (dh .eql T g i (.string (st a)) (.string (st b))) w K:=by
 refine cM ?_;have:decide (st a=st b)=decide (a=b):=by
  rw [iq];exact ⟨fun h=>by rw [<- Eb a,h,Eb],fun h=>by rw [h]⟩
 rw [this];exact hk
theorem LH {T:TypeId} {g i:Bool} {a b:Bs} (hk:K (.bool (!decide (a=b))) w):Run P (dh .neq T g i (.string (st a)) (.string (st b))) w K:=by
 refine NX ?_;have:decide (st a=st b)=decide (a=b):=by
  rw [iq];exact ⟨fun h=>by rw [<- Eb a,h,Eb],fun h=>by rw [h]⟩
 rw [this];exact hk
theorem B7 (h:Inv w0 X L S w) {T T' D ty e:TypeId} {a:Nat} {z:Value} {n:Nat} (m:iB P T=some (e,1,a,z)) (o:P.underlying T'=some (.slice e)) (p:P.underlying e=some (.int .u8)) (q:P.underlying D=some .string)
  {K:Value->Value->World->Prop} (hk:∀ w',Inv w0 X L S w'->K (.slice (some ⟨w.heap.size,0,none⟩) 1 1) (.string (st [UInt8.ofNat n])) w') :
  Run P (bI T 1 [(0,.int .u8 (n:Int))]) w fun u w'=>Run P (sOp (.convert T' D (.const u)) ty) w' (K u):=by
 refine mW h m rfl (by omega) (by omega) fun w' i=>?_;have r:(L++[Item.blk w.heap.size (.cells (Value.int .u8 (n:Int)).cells e)])[L.length]?=some (.blk w.heap.size (.cells (Value.int .u8 (n:Int)).cells e)):=by
  rw [kV (be _),fg]; rfl
 have hc:w'.cell? ⟨w.heap.size,0,none⟩=some (.int .u8 (n:Int)):=by rw [i.cellL r]; rfl
 have l:=run_loadCells_list (P:=P) (w:=w') ⟨w.heap.size,0,none⟩ [.int .u8 (n:Int)] (fun j v g=>by
  match j with
  | 0=>simp only [DO,bh] at g; subst g; rw [add_lit]; exact hc
  | j+1=>simp at g)
 simp only [aO,cq] at l;refine Run.of (w':=w') ?_ (hk _ (i.sub (gR _ _)));simp [sOp,execOp,ev0,evE,convert,run_underlying o,run_underlying p,run_underlying q,Conv.bytesToString,l,st];rfl
end
end
end Go.Proofs.YtjbcdmheajljpaaGreat
